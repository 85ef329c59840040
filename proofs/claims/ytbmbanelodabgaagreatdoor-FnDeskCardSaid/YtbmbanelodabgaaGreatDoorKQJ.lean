/- The laws' own helpers over slices of slices. -/
import Derived.Test.YtbmbanelodabgaaGreatDoorKPA1
import Derived.Test.YtbmbanelodabgaaGreatDoorKJA1
set_option maxRecDepth 100000
set_option linter.unusedVariables false
namespace Go.Proofs.YtbmbanelodabgaaGreatDoor
open Go.RowKit Go.Fin1
@[irreducible] def szL {α:Type} (f:α→Nat) (l:List α):Nat:=l.length+(l.map f).sum
theorem szL_len {α:Type} (f:α→Nat) (l:List α):l.length≤szL f l:=by unfold szL;omega
theorem sum_take {α:Type} (f:α→Nat) {l:List α} {k:Nat} (hk:k < l.length):((l.take (k+1)).map f).sum=((l.take k).map f).sum+f l[k]:=by
 rw[List.take_succ_eq_append_getElem hk];simp only[List.map_append,List.sum_append,List.map_cons,List.map_nil,List.sum_cons,List.sum_nil,Nat.add_zero]
theorem sum_take_le {α:Type} (f:α→Nat):∀ (l:List α) (k:Nat),((l.take k).map f).sum≤(l.map f).sum
 | [],k=>by simp
 | x :: l,0=>by simp
 | x :: l,k+1=>by have:=sum_take_le f l k;simp only[List.take_succ_cons,List.map_cons,List.sum_cons];omega
theorem szL_le {α:Type} (f:α→Nat) {l:List α} {k:Nat} (hk:k < l.length):l.length+((l.take k).map f).sum+f l[k]≤szL f l:=by
 unfold szL
 have:=sum_take_le f l (k+1)
 rw[sum_take f hk] at this;omega
theorem szL_at {α:Type} (f:α→Nat) {l:List α} {k:Nat} (hk:k < l.length):f l[k]≤szL f l:=by have:=szL_le f hk;omega
end Go.Proofs.YtbmbanelodabgaaGreatDoor
set_option maxRecDepth 100000
set_option linter.unusedVariables false
namespace Go.Proofs.YtbmbanelodabgaaGreatDoor
open Go.RowKit Go.Fin1
def eJob (w:World) (v:Value) (j:Jb):Prop:=∃ a c,v=j.val (.slice a j.nodes.length c)∧j.ok∧SlR w 1 rInt (.slice a j.nodes.length c) j.nodes
theorem eJob.ext {w w':World} {v:Value} {j:Jb} (h:eJob w v j) (_:True) (hx:Ext w w'):eJob w' v j:=by
 obtain⟨a,c,hv,hok,hs⟩:=h
 exact⟨a,c,hv,hok,hs.ext rInt_stable hx⟩
theorem job_at {w:World} {b off n cap:Nat} {xs:List Jb} (h:SlR w 9 rJob (.slice (some ⟨b,off,none⟩) n cap) xs) {i:Nat} (hi:i < xs.length) :
  w.old b∧∃ a c,xs[i].ok∧SlR w 1 rInt (.slice a xs[i].nodes.length c) xs[i].nodes∧w.cell? ⟨b,off+i*9,none⟩=some (.int .i64 xs[i].l.lv)∧w.cell? ⟨b,off+i*9+1,none⟩=some (.int .i64 xs[i].l.st)∧w.cell? ⟨b,off+i*9+2,none⟩=some (.int .i64 xs[i].id) ∧
   w.cell? ⟨b,off+i*9+3,none⟩=some (.int .i64 xs[i].need)∧w.cell? ⟨b,off+i*9+4,none⟩=some (.int .i64 xs[i].long)∧w.cell? ⟨b,off+i*9+5,none⟩=some (.int .i64 xs[i].prio)∧w.cell? ⟨b,off+i*9+6,none⟩=some (.int .i64 xs[i].state)∧w.cell? ⟨b,off+i*9+7,none⟩=some (.int .i64 xs[i].start) ∧
   w.cell? ⟨b,off+i*9+8,none⟩=some (.slice a xs[i].nodes.length c):=by
 obtain⟨cs,_,hc,v,rfl,hok,hs⟩:=slr_cells h hi
 obtain⟨a,c,rfl⟩:=hs.len
 have h0:=hc 0 _ rfl
 exact⟨World.old_of_cell h0,a,c,hok,hs,h0,hc 1 _ rfl,hc 2 _ rfl,hc 3 _ rfl,hc 4 _ rfl,hc 5 _ rfl,hc 6 _ rfl,hc 7 _ rfl,hc 8 _ rfl⟩
def Jb.sz (j:Jb):Nat:=j.nodes.length
theorem info_eJob:(Tryz.prog.info? 92).map (fun i=>(i.zero,i.size,i.bytes))=some (some (.agg #[(.int .i64 0),(.int .i64 0),(.int .i64 0),(.int .i64 0),(.int .i64 0),(.int .i64 0),(.int .i64 0),(.int .i64 0),.slice none 0 0]),9,88):=by kernel_rfl
theorem el_eJob:ElemInfo Tryz.prog 39 92 9 88:=by
 obtain⟨i,hi,hz,hs,hb⟩:=info_parts info_eJob
 exact⟨by kernel_rfl,⟨i,_,hi,hz,hs,hb,rfl⟩,by decide⟩
abbrev oJobS:Ow (List Jb):=oSl 92 9 oJob
theorem oJobS_local:Local oJobS:=oSl_local oJob_local
theorem oJobS_held:Held oJobS:=oSl_held oJob_held
theorem oJobS_r {w:World} {fp:List Nat} {v:Value} {l:List Jb} (h:oSl 92 9 oJob w fp [v] l) (hok:∀ j∈l,j.fit):SlR w 9 rJob v l:=by
 obtain⟨v',hv,hs⟩:=oSl_reads (r:=fun w cs j=>∃ v,cs=j.cells v∧SlR w 1 (fun _ cs x=>cs=[(.int .i64 x)]) v j.nodes) (k:=9) (fun w fp cs j ho=>by
  obtain⟨u,hu,hs⟩:=ho
  obtain⟨u',hu',hs⟩:=oSl_reads (r:=fun _ cs x=>cs=[(.int .i64 x)]) (k:=1) (fun _ _ _ _ ⟨_,hc⟩=>⟨by rw[hc];rfl,hc⟩) hs
  obtain rfl:u=u':=by simpa using hu'
  exact⟨by rw[hu];rfl,u,hu,hs⟩) h
 obtain rfl:v=v':=by simpa using hv
 exact slr_with hs fun cs j hm ⟨u,hu,hs⟩=>⟨u,hu,(hok j hm).1,slr_with hs fun cs y hy hc=>⟨hc,(hok j hm).2 y hy⟩⟩
theorem slr_jobs {w:World} {v:Value} {l:List Jb} (h:SlR w 9 rJob v l):∀ j∈l,j.fit:=fun j hj=>by
 obtain⟨_,u,_,hok,hs⟩:=slr_all h j hj
 exact⟨hok,slr_ints hs⟩
end Go.Proofs.YtbmbanelodabgaaGreatDoor
set_option maxRecDepth 100000
set_option linter.unusedVariables false
namespace Go.Proofs.YtbmbanelodabgaaGreatDoor
open Go.ChangeShapes Go.WideShapes Go.ChangeAt Go.RowKit Go.Fin1
theorem SlR.take {α:Type} {w:World} {K n cap k:Nat} {r:World→List Value→α→Prop} {a:Option Addr} {xs:List α} (h:SlR w K r (.slice a n cap) xs) (hk:k≤xs.length):SlR w K r (.slice a k cap) (xs.take k):=by
 obtain⟨a',cap',hv,h1,h2,h3⟩:=h
 obtain⟨rfl,rfl,rfl⟩:a=a'∧n=xs.length∧cap=cap':=by simpa using hv
 refine⟨a,cap,by simp[Nat.min_eq_left hk],by simp;omega,h2,fun i hi=>?_⟩
 have hi':i < xs.length:=by simp at hi;omega
 obtain⟨b,off,cs,ha,hl,hc,hr⟩:=h3 i hi'
 exact⟨b,off,cs,ha,hl,hc,by simpa using hr⟩
@[irreducible] def cntL (l:List Jb) (x:Lab):Nat:=(l.filter (fun j=>sameL j.l x)).length
theorem cntL_step {l:List Jb} {x:Lab} {k:Nat} (hk:k < l.length):cntL (l.take (k+1)) x=cntL (l.take k) x+if sameL l[k].l x then 1 else 0:=by
 unfold cntL
 rw[List.take_succ_eq_append_getElem hk,List.filter_append,List.length_append]
 congr 1
 by_cases h:sameL l[k].l x<;>simp[h]
theorem cntL_le (l:List Jb) (x:Lab):cntL l x≤l.length:=by unfold cntL;exact List.length_filter_le _ _
theorem sameL_self (a:Lab):sameL a a=true:=by simp[sameL]
set_option maxHeartbeats 800000 in
theorem countOf_any (v:Value) (l:List Jb) (x:Lab) (w:World) (h:SlR w 9 rJob v l) :
  Calls Tryz.prog 79 #[v,.agg #[(.int .i64 x.lv),(.int .i64 x.st)]] w fun e w'=>e=.returned (.int .i64 (cntL l x:Int))∧Ext w w':=by
 obtain⟨a,cap,rfl⟩:=h.len
 obtain⟨_,hlc,hcm⟩:=slr_len h
 have hlm:l.length≤9223372036854775807:=by unfold maxLen at hcm;omega
 clear hcm hlc
 have HS:=tH h
 clear h
 go_enter Tryz.func79,Tryz.ntmps79
 go_wp2
 go_loopw [10,5,7] (fun i m _ wr=>∃ k:Nat,k≤l.length∧i=.int .i64 k∧m=.int .i64 (cntL (l.take k) x:Int)∧Ext (w.alloc (.cells #[(.int .i64 x.lv),(.int .i64 x.st)] 36)) wr) (fun i _ _ _=>l.length-(intOf i).toNat)
 case atStart=>exact⟨0,Nat.zero_le _,rfl,by rw[show cntL (l.take 0) x=0 by unfold cntL;rfl];rfl,xE⟩
 case round =>
  obtain⟨k,hk,rfl,rfl,⟨X,rfl⟩⟩:=hrel
  by_cases hlt:k < l.length
  ·obtain⟨b,off,rfl⟩:=slr_some HS.out hlt
   obtain⟨ho,an,cn,hok,hsn,c0,c1,c2,c3,c4,c5,c6,c7,c8⟩:=job_at HS.out hlt
   have HV:Hid (eJob w (l[k].val (.slice an l[k].nodes.length cn)) l[k]):=tH ⟨an,cn,rfl,hok,hsn⟩
   clear hsn
   have hc:=cntL_le (l.take k) x
   have hc2:(l.take k).length≤k:=by simp;omega
   have HC:=tH (cntL_step (x:=x) hlt)
   cases hs:sameL ⟨l[k].l.lv,l[k].l.st⟩ ⟨x.lv,x.st⟩
   ·have hs':sameL l[k].l x=false:=hs
    go_wp2
    exact⟨⟨k+1,by omega,by go_num,by rw[HC.out,hs'];rfl,xE⟩,by simp[intOf];omega⟩
   ·have hs':sameL l[k].l x=true:=hs
    go_wp2
    exact⟨⟨k+1,by omega,by go_num,by rw[HC.out,hs'];go_num,xE⟩,by simp[intOf];omega⟩
  ·go_wp2
   go_ret
   exact⟨ret_int (by rw[show k=l.length by omega,List.take_length]),xE⟩
set_option maxHeartbeats 800000 in
theorem l04Many_any (v:Value) (l:List Jb) (x:Lab) (w:World) (h:SlR w 9 rJob v l) :
  Calls Tryz.prog 61 #[v,.agg #[(.int .i64 x.lv),(.int .i64 x.st)]] w fun e w'=>e=.returned (.int .i64 (cntL l x:Int))∧Ext w w':=by
 obtain⟨a,cap,rfl⟩:=h.len
 obtain⟨_,hlc,hcm⟩:=slr_len h
 have hlm:l.length≤9223372036854775807:=by unfold maxLen at hcm;omega
 clear hcm hlc
 have HS:=tH h
 clear h
 go_enter Tryz.func61,Tryz.ntmps61
 go_wp2
 go_loopw [6,5] (fun i m wr=>∃ k:Nat,k≤l.length∧i=.int .i64 k∧m=.int .i64 (cntL (l.take k) x:Int)∧Ext (w.alloc (.cells #[(.int .i64 x.lv),(.int .i64 x.st)] 36)) wr) (fun i _ _=>l.length-(intOf i).toNat)
 case atStart=>exact⟨0,Nat.zero_le _,rfl,by rw[show cntL (l.take 0) x=0 by unfold cntL;rfl];rfl,xE⟩
 case round =>
  obtain⟨k,hk,rfl,rfl,⟨X,rfl⟩⟩:=hrel
  by_cases hlt:k < l.length
  ·obtain⟨b,off,rfl⟩:=slr_some HS.out hlt
   obtain⟨ho,an,cn,hok,hsn,c0,c1,c2,c3,c4,c5,c6,c7,c8⟩:=job_at HS.out hlt
   have HV:Hid (eJob w (l[k].val (.slice an l[k].nodes.length cn)) l[k]):=tH ⟨an,cn,rfl,hok,hsn⟩
   clear hsn
   have hc:=cntL_le (l.take k) x
   have hc2:(l.take k).length≤k:=by simp;omega
   have HC:=tH (cntL_step (x:=x) hlt)
   go_upto_region 5 with fail
   cases hs:sameL ⟨l[k].l.lv,l[k].l.st⟩ ⟨x.lv,x.st⟩
   all_goals (refine wp_region_x 7 (by kernel_rfl) (by kernel_rfl) (by kernel_rfl) ?_;(iterate 7 (apply XReg.step;(case h=>(intro w' hw';obtain⟨X',rfl⟩:=hw';go_wp2_with (fail);exact⟨rfl,xE⟩));(case hv=>kernel_rfl)));refine XReg.doneN (fun X=>?_))
   ·have hs':sameL l[k].l x=false:=hs
    go_wp2
    exact⟨⟨k+1,by omega,by go_num,by rw[HC.out,hs'];rfl,xE⟩,by simp[intOf];omega⟩
   ·have hs':sameL l[k].l x=true:=hs
    go_wp2
    exact⟨⟨k+1,by omega,by go_num,by rw[HC.out,hs'];go_num,xE⟩,by simp[intOf];omega⟩
  ·go_wp2
   go_ret
   exact⟨ret_int (by rw[show k=l.length by omega,List.take_length]),xE⟩
end Go.Proofs.YtbmbanelodabgaaGreatDoor
set_option maxRecDepth 100000
set_option linter.unusedVariables false
namespace Go.Proofs.YtbmbanelodabgaaGreatDoor
open Go.RowKit Go.Fin1
def jobAt (l:List Jb) (i:Nat):Bool:=match l[i]? with
 | some j=>jobR j&&decide (j.id=(cntL (l.take i) j.l:Int)+1)
 | none=>true
theorem jobAt_eq {l:List Jb} {i:Nat} (hi:i < l.length):jobAt l i=(jobR l[i]&&decide (l[i].id=(cntL (l.take i) l[i].l:Int)+1)):=by
 unfold jobAt;rw[List.getElem?_eq_getElem hi]
@[irreducible] def jobsR (l:List Jb):Bool:=decide (l.length≤96)&&(List.range l.length).all (jobAt l)
theorem jobsR_no {l:List Jb} {i:Nat} (hi:i < l.length) (h:jobAt l i=false):jobsR l=false:=by
 unfold jobsR
 rw[show (List.range l.length).all (jobAt l)=false from by rw[List.all_eq_false];exact⟨i,List.mem_range.2 hi,by simp[h]⟩,Bool.and_false]
theorem jobsR_long {l:List Jb} (h:96 < l.length):jobsR l=false:=by unfold jobsR;rw[decide_eq_false (by omega)];rfl
theorem jobsR_yes {l:List Jb} (h6:l.length≤96) (h:∀ i,i < l.length→jobAt l i=true):jobsR l=true:=by
 unfold jobsR
 rw[decide_eq_true h6,List.all_eq_true.2 fun i hi=>h i (List.mem_range.1 hi)];rfl
theorem jobsR_len {l:List Jb} (h:jobsR l=true):l.length≤96:=by
 unfold jobsR at h;rw[Bool.and_eq_true,decide_eq_true_eq] at h;exact h.1
theorem jobsR_at {l:List Jb} (h:jobsR l=true) {i:Nat} (hi:i < l.length):jobAt l i=true:=by
 unfold jobsR at h;rw[Bool.and_eq_true,List.all_eq_true] at h;exact h.2 i (List.mem_range.2 hi)
theorem eJob.nodes {w:World} {j:Jb} {v:Value} (h:eJob w (j.val v) j):SlR w 1 rInt v j.nodes:=by
 obtain⟨a,c,hv,_,hs⟩:=h
 rw[Jb.val_inj hv];exact hs
set_option maxHeartbeats 1600000 in
theorem implJobsRight_any (v:Value) (l:List Jb) (w:World) (h:SlR w 9 rJob v l) :
  Calls Tryz.prog 112 #[v] w fun e w'=>e=.returned (.bool (jobsR l))∧Ext w w':=by
 obtain⟨a,cap,rfl⟩:=h.len
 obtain⟨_,hlc,hcm⟩:=slr_len h
 have hlm:l.length≤9223372036854775807:=by unfold maxLen at hcm;omega
 have HS:=tH h
 clear h
 by_cases h6:l.length≤96
 ·have hb:decide ((96:Int) < l.length)=false:=decide_eq_false (by omega)
  go_enter Tryz.func112,Tryz.ntmps112
  go_wp2
  go_loopw [10,3,4] (fun i _ _ wr=>∃ k:Nat,k≤l.length∧i=.int .i64 k∧Ext w wr∧Hid (∀ j,j < k→jobAt l j=true)) (fun i _ _ _=>l.length-(intOf i).toNat)
  case atStart=>exact⟨0,Nat.zero_le _,rfl,Ext.refl _,tH (fun j h=>absurd h (Nat.not_lt_zero _))⟩
  case round =>
   obtain⟨k,hk,rfl,⟨X,rfl⟩,HH⟩:=hrel
   by_cases hlt:k < l.length
   ·obtain⟨b,off,rfl⟩:=slr_some HS.out hlt
    obtain⟨ho,an,cn,hok,hsn,c0,c1,c2,c3,c4,c5,c6,c7,c8⟩:=job_at HS.out hlt
    have HV:Hid (eJob w (l[k].val (.slice an l[k].nodes.length cn)) l[k]):=tH ⟨an,cn,rfl,hok,hsn⟩
    clear hsn
    have HE:=tH (jobAt_eq hlt)
    have hc:=cntL_le (l.take k) l[k].l
    have hc2:(l.take k).length≤k:=by simp;omega
    have HT:=tH (SlR.take HS.out (Nat.le_of_lt hlt))
    go_upto_region 6 with fail
    cases hj:jobR l[k]
    ·have HN:=tH (jobsR_no hlt (by rw[HE.out,hj];rfl))
     (refine wp_region_x 15 (by kernel_rfl) (by kernel_rfl) (by kernel_rfl) ?_;(iterate 15 (apply XReg.step;(case h=>(intro w' hw';obtain⟨X',rfl⟩:=hw';go_wp2_with ((go_at_call 77;refine(implJobRight_any l[k] _ _ hok (HV.out.ext trivial xE).nodes).mono ?_;rintro e _ ⟨rfl,Y,rfl⟩));exact⟨rfl,xE⟩));(case hv=>kernel_rfl)));refine XReg.doneN (fun X=>?_))
     go_wp2
     go_ret
     exact⟨ret_bool HN.out.symm,xE⟩
    cases hid:(l[k].id == (cntL (l.take k) l[k].l:Int)+1)
    all_goals (refine wp_region_x 15 (by kernel_rfl) (by kernel_rfl) (by kernel_rfl) ?_;(iterate 15 (apply XReg.step;(case h=>(intro w' hw';obtain⟨X',rfl⟩:=hw';go_wp2_with ((first | (go_at_call 77;refine(implJobRight_any l[k] _ _ hok (HV.out.ext trivial xE).nodes).mono ?_;rintro e _ ⟨rfl,Y,rfl⟩) | (go_at_call 79;refine(countOf_any _ (l.take k) l[k].l _ (HT.out.ext rJob_stable xE)).mono ?_;rintro e _ ⟨rfl,Y2,rfl⟩)));exact⟨rfl,xE⟩));(case hv=>kernel_rfl)));refine XReg.doneN (fun X=>?_))
    all_goals go_wp2
    ·have hid':¬ l[k].id=(cntL (l.take k) l[k].l:Int)+1:=by simpa using hid
     go_ret
     exact⟨ret_bool (jobsR_no hlt (by rw[HE.out,hj,decide_eq_false hid'];rfl)).symm,xE⟩
    ·have hid':l[k].id=(cntL (l.take k) l[k].l:Int)+1:=by simpa using hid
     exact⟨⟨k+1,by omega,by go_num,(by repeat' (first | exact Ext.refl _ | exact Nat.le_refl _ | (dsimp only;omega) | apply Ext.setCell | apply Ext.plus | apply Ext.alloc | apply Ext.drew)),tH (fun j hjk=>by
      by_cases e:j < k
      ·exact HH.out j e
      ·obtain rfl:j=k:=by omega
       rw[HE.out,hj,decide_eq_true hid'];rfl)⟩,by simp[intOf];omega⟩
   ·go_wp2
    go_ret
    exact⟨ret_bool (jobsR_yes h6 (fun i hi=>HH.out i (by omega))).symm,xE⟩
 ·have hb:decide ((96:Int) < l.length)=true:=decide_eq_true (by omega)
  have H:=tH (jobsR_long (show 96 < l.length by omega))
  go_enter Tryz.func112,Tryz.ntmps112
  go_wp2
  go_ret
  exact⟨ret_bool H.out.symm,xE⟩
set_option maxHeartbeats 1600000 in
theorem specJobsRight_any (v:Value) (l:List Jb) (w:World) (h:SlR w 9 rJob v l) :
  Calls Tryz.prog 87 #[v] w fun e w'=>e=.returned (.bool (jobsR l))∧Ext w w':=by
 obtain⟨a,cap,rfl⟩:=h.len
 obtain⟨_,hlc,hcm⟩:=slr_len h
 have hlm:l.length≤9223372036854775807:=by unfold maxLen at hcm;omega
 have HS:=tH h
 clear h
 go_enter Tryz.func87,Tryz.ntmps87
 go_wp2
 go_loopw [3] (fun i wr=>∃ k:Nat,k≤l.length∧i=.int .i64 k∧Ext w wr∧Hid (∀ j,j < k→jobAt l j=true)) (fun i _=>l.length-(intOf i).toNat)
 case atStart=>exact⟨0,Nat.zero_le _,rfl,Ext.refl _,tH (fun j h=>absurd h (Nat.not_lt_zero _))⟩
 case round =>
  obtain⟨k,hk,rfl,⟨X,rfl⟩,HH⟩:=hrel
  by_cases hlt:k < l.length
  ·by_cases h6:k≤96
   ·have hb:decide ((k:Int)≤96)=true:=decide_eq_true (by omega)
    obtain⟨b,off,rfl⟩:=slr_some HS.out hlt
    obtain⟨ho,an,cn,hok,hsn,c0,c1,c2,c3,c4,c5,c6,c7,c8⟩:=job_at HS.out hlt
    have HV:Hid (eJob w (l[k].val (.slice an l[k].nodes.length cn)) l[k]):=tH ⟨an,cn,rfl,hok,hsn⟩
    clear hsn
    have HE:=tH (jobAt_eq hlt)
    have hc:=cntL_le (l.take k) l[k].l
    have hc2:(l.take k).length≤k:=by simp;omega
    have HC:=tH ((cntL_step (x:=l[k].l) hlt).trans (by rw[if_pos (sameL_self _)]))
    have HT:=tH (SlR.take HS.out (show k+1≤l.length from hlt))
    go_upto_region 4 with fail
    cases hj:jobR l[k]
    ·have HN:=tH (jobsR_no hlt (by rw[HE.out,hj];rfl))
     (refine wp_region_x 24 (by kernel_rfl) (by kernel_rfl) (by kernel_rfl) ?_;(iterate 24 (apply XReg.step;(case h=>(intro w' hw';obtain⟨X',rfl⟩:=hw';go_wp2_with ((go_at_call 59;refine(specJobRight_any l[k] _ _ hok (HV.out.ext trivial xE).nodes).mono ?_;rintro e _ ⟨rfl,Y,rfl⟩));exact⟨rfl,xE⟩));(case hv=>kernel_rfl)));refine XReg.doneN (fun X=>?_))
     go_wp2
     go_ret
     exact⟨ret_bool HN.out.symm,xE⟩
    cases hid:(l[k].id == (cntL (l.take (k+1)) l[k].l:Int))
    all_goals (refine wp_region_x 24 (by kernel_rfl) (by kernel_rfl) (by kernel_rfl) ?_;(iterate 24 (apply XReg.step;(case h=>(intro w' hw';obtain⟨X',rfl⟩:=hw';go_wp2_with ((first | (go_at_call 59;refine(specJobRight_any l[k] _ _ hok (HV.out.ext trivial xE).nodes).mono ?_;rintro e _ ⟨rfl,Y,rfl⟩) | (go_at_call 61;refine(l04Many_any _ (l.take (k+1)) l[k].l _ (HT.out.ext rJob_stable xE)).mono ?_;rintro e _ ⟨rfl,Y2,rfl⟩)));exact⟨rfl,xE⟩));(case hv=>kernel_rfl)));refine XReg.doneN (fun X=>?_))
    all_goals go_wp2
    ·have hid':¬ l[k].id=(cntL (l.take k) l[k].l:Int)+1:=by rw[HC.out] at hid;simpa using hid
     go_ret
     exact⟨ret_bool (jobsR_no hlt (by rw[HE.out,hj,decide_eq_false hid'];rfl)).symm,xE⟩
    ·have hid':l[k].id=(cntL (l.take k) l[k].l:Int)+1:=by rw[HC.out] at hid;simpa using hid
     exact⟨⟨k+1,by omega,by go_num,xE,tH (fun j hjk=>by
      by_cases e:j < k
      ·exact HH.out j e
      ·obtain rfl:j=k:=by omega
       rw[HE.out,hj,decide_eq_true hid'];rfl)⟩,by simp[intOf];omega⟩
   ·have hb:decide ((k:Int)≤96)=false:=decide_eq_false (by omega)
    go_wp2
    go_ret
    exact⟨ret_bool (by rw[jobsR_long (by omega)];simp;omega),xE⟩
  ·go_wp2
   go_ret
   refine⟨ret_bool ?_,xE⟩
   by_cases h6:l.length≤96
   ·rw[jobsR_yes h6 (fun i hi=>HH.out i (by omega))];simp;omega
   ·rw[jobsR_long (by omega)];simp;omega
end Go.Proofs.YtbmbanelodabgaaGreatDoor

/- Clearances: the walks of clearRight and of 'is a label in a list'. -/
import Derived.Test.YtbmbanelodabgaaGreatDoorKPA1
import Derived.Test.YtbmbanelodabgaaGreatDoorKQJ
set_option maxRecDepth 100000
set_option linter.unusedVariables false
namespace Go.Proofs.YtbmbanelodabgaaGreatDoor
open Go.RowKit Go.Fin1
abbrev rLabS:World→List Value→List Lab→Prop:=rSl 2 rLab
theorem rLabS_stable:Stable rLabS:=rSl_stable rLab_stable
set_option maxHeartbeats 800000 in
theorem indexFuncLabS_any (fn:Nat) (cap:Array Value) (p:(List Lab)→Bool) (v:Value) (l:List (List Lab)) (w:World) (h:SlR w 1 rLabS v l)
  (hcf:∀ args w,(callFunc fn args).run Tryz.prog w=.ok (.enter fn args) w) (Hf:∀ W u x,Ext w W→SlR W 2 rLab u x→Calls Tryz.prog fn (#[u]++cap) W fun e w'=>e=.returned (.bool (p x))∧Ext W w') :
  Calls Tryz.prog 185 #[v,.func (.func fn) #[] cap] w fun e w' =>
   e=.returned ((.int .i64 (findI p l)))∧Ext w w':=by
 obtain⟨a,cap',rfl⟩:=h.len
 obtain⟨_,hlc,hcm⟩:=slr_len h
 have hlm:l.length≤9223372036854775807:=by unfold maxLen at hcm;omega
 clear hcm hlc
 have HS:=tH h
 have HF:=tH Hf
 clear h Hf
 go_enter Tryz.func185,Tryz.ntmps185
 go_wp2
 go_loopw [8,5] (fun i _ wr=>∃ k:Nat,k≤l.length∧i=.int .i64 k∧Ext w wr∧Hid (∀ j (hj:j < l.length),j < k→p l[j]=false)) (fun i _ _=>l.length-(intOf i).toNat)
 case atStart =>
  exact⟨0,Nat.zero_le _,rfl,Ext.refl _,tH (fun j _ h=>absurd h (Nat.not_lt_zero _))⟩
 case round =>
  obtain⟨k,hk,rfl,⟨X,rfl⟩,HH⟩:=hrel
  by_cases hlt:k < l.length
  ·obtain⟨b,off,rfl⟩:=slr_some HS.out hlt
   obtain⟨ho,vx,hsx,h0⟩:=sl_at HS.out hlt
   obtain⟨ax,cx,rfl⟩:=hsx.len
   have HRV:=tH (hsx.ext rLab_stable ((Ext.refl w).plus X))
   clear hsx
   go_wp2_with fail
   refine(HF.out _ _ l[k] (Ext.refl w |>.plus X) HRV.out).mono ?_
   rintro e _ ⟨rfl,Y,rfl⟩
   cases hp:p l[k]
   ·go_wp2
    exact⟨⟨k+1,by omega,by go_num,xE,tH (fun j hj hjk=>by
     by_cases e:j < k
     ·exact HH.out j hj e
     ·obtain rfl:j=k:=by omega
      exact hp)⟩,by simp[intOf];omega⟩
   ·go_wp2
    go_ret
    exact⟨ret_int (findI_at hlt HH.out hp).symm,xE⟩
  ·go_wp2
   go_ret
   exact⟨ret_int (findI_none (fun j hj=>HH.out j hj (by omega))).symm,xE⟩
set_option maxHeartbeats 800000 in
theorem containsFuncLabS_any (fn:Nat) (cap:Array Value) (p:(List Lab)→Bool) (v:Value) (l:List (List Lab)) (w:World) (h:SlR w 1 rLabS v l)
  (hcf:∀ args w,(callFunc fn args).run Tryz.prog w=.ok (.enter fn args) w) (Hf:∀ W u x,Ext w W→SlR W 2 rLab u x→Calls Tryz.prog fn (#[u]++cap) W fun e w'=>e=.returned (.bool (p x))∧Ext W w') :
  Calls Tryz.prog 153 #[v,.func (.func fn) #[] cap] w fun e w' =>
   e=.returned (.bool (l.any p))∧Ext w w':=by
 have HS:=tH (indexFuncLabS_any fn cap p v l w h hcf Hf)
 clear h hcf Hf
 go_enter Tryz.func153,Tryz.ntmps153
 go_wp2_with fail
 refine(HS.out).mono ?_
 rintro e _ ⟨rfl,X,rfl⟩
 go_wp2
 go_ret
 exact⟨ret_bool (findI_nonneg p l),xE⟩
@[irreducible] def clearR (c:List (List Lab)):Bool:=decide (1≤c.length)&&decide (c.length≤6)&&c.all chainR
theorem clearR_len {c:List (List Lab)} (h:c.length < 1∨6 < c.length):clearR c=false:=by
 unfold clearR
 rcases h with h | h
 ·rw[decide_eq_false (show ¬ 1≤c.length by omega)];rfl
 ·rw[decide_eq_false (show ¬ c.length≤6 by omega)];simp
theorem clearR_mid {c:List (List Lab)} (h1:1≤c.length) (h6:c.length≤6):clearR c=!c.any (fun l=>!chainR l):=by
 unfold clearR;rw[decide_eq_true h1,decide_eq_true h6,List.not_any_eq_all_not];simp
theorem clearR_no {c:List (List Lab)} {i:Nat} (hi:i < c.length) (h:chainR c[i]=false):clearR c=false:=by
 unfold clearR;rw[show c.all chainR=false from List.all_eq_false.2 ⟨c[i],List.getElem_mem hi,by simp[h]⟩];simp
theorem clearR_yes {c:List (List Lab)} (h1:1≤c.length) (h6:c.length≤6) (h:∀ (i:Nat) (hi:i < c.length),chainR c[i]=true):clearR c=true:=by
 unfold clearR;rw[decide_eq_true h1,decide_eq_true h6,List.all_eq_true.2 fun x hx=>by obtain⟨i,hi,rfl⟩:=List.mem_iff_getElem.1 hx;exact h i hi];rfl
set_option maxHeartbeats 400000 in
theorem clearRight1_any (v:Value) (l:List Lab) (w:World) (h:SlR w 2 rLab v l) :
  Calls Tryz.prog 154 #[v] w fun e w'=>e=.returned (.bool (!chainR l))∧Ext w w':=by
 go_enter Tryz.func154,Tryz.ntmps154
 go_wp2_with fail
 refine(implChain_any v l _ h).mono ?_
 rintro e _ ⟨rfl,X,rfl⟩
 go_wp2
 go_ret
 exact⟨rfl,xE⟩
set_option maxHeartbeats 800000 in
theorem clearRight_any (v:Value) (l:List (List Lab)) (w:World) (h:SlR w 1 rLabS v l) :
  Calls Tryz.prog 111 #[v] w fun e w'=>e=.returned (.bool (clearR l))∧Ext w w':=by
 obtain⟨a,cap,rfl⟩:=h.len
 have HS:=tH h
 have hh:=hmf
 clear h
 by_cases h6:1≤l.length∧l.length≤6
 ·have hb:isIn (l.length:Int) 1 6=true:=isIn_iff.2 (by omega)
  have H:=tH (clearR_mid h6.1 h6.2)
  go_enter Tryz.func111,Tryz.ntmps111
  go_wp2_with (go_at_call 114;refine(within_any _ _ _ _).mono ?_;rintro e _ ⟨rfl,rfl⟩;rw[hb])
  refine(containsFuncLabS_any 154 #[] (fun x=>!chainR x) _ l _ HS.out (fun _ _=>rfl) ?_).mono ?_
  ·rintro W u x _ hx
   exact clearRight1_any u x W hx
  rintro e _ ⟨rfl,X,rfl⟩
  go_wp2
  go_ret
  exact⟨ret_bool H.out.symm,xE⟩
 ·have hb:isIn (l.length:Int) 1 6=false:=by
   cases hq:isIn (l.length:Int) 1 6
   ·rfl
   ·rw[isIn_iff] at hq;omega
  have H:=tH (clearR_len (c:=l) (by omega))
  go_enter Tryz.func111,Tryz.ntmps111
  go_wp2_with (go_at_call 114;refine(within_any _ _ _ _).mono ?_;rintro e _ ⟨rfl,rfl⟩;rw[hb])
  go_ret
  exact⟨ret_bool H.out.symm,xE⟩
set_option maxHeartbeats 800000 in
theorem l05Clear_any (v:Value) (l:List (List Lab)) (w:World) (h:SlR w 1 rLabS v l) :
  Calls Tryz.prog 29 #[v] w fun e w'=>e=.returned (.bool (clearR l))∧Ext w w':=by
 obtain⟨a,cap,rfl⟩:=h.len
 obtain⟨_,hlc,hcm⟩:=slr_len h
 have hlm:l.length≤9223372036854775807:=by unfold maxLen at hcm;omega
 clear hcm hlc
 have HS:=tH h
 clear h
 go_enter Tryz.func29,Tryz.ntmps29
 go_wp2
 go_loopw [3] (fun i wr=>∃ k:Nat,k≤l.length∧i=.int .i64 k∧Ext w wr∧Hid (∀ (j:Nat) (hj:j < l.length),j < k→chainR l[j]=true)) (fun i _=>l.length-(intOf i).toNat)
 case atStart =>
  exact⟨0,Nat.zero_le _,rfl,Ext.refl _,tH (fun j _ h=>absurd h (Nat.not_lt_zero _))⟩
 case round =>
  obtain⟨k,hk,rfl,⟨X,rfl⟩,HH⟩:=hrel
  by_cases hlt:k < l.length
  ·by_cases h6:k≤6
   ·have hb6:decide ((k:Int)≤6)=true:=decide_eq_true (by omega)
    obtain⟨b,off,rfl⟩:=slr_some HS.out hlt
    obtain⟨ho,vx,hsx,h0⟩:=sl_at HS.out hlt
    obtain⟨ax,cx,rfl⟩:=hsx.len
    have HX:=tH hsx
    clear hsx
    go_wp2_with fail
    refine(specChain_any _ l[k] _ (HX.out.ext rLab_stable xE)).mono ?_
    rintro e _ ⟨rfl,Y,rfl⟩
    cases hs:chainR l[k]
    ·go_wp2
     go_ret
     exact⟨ret_bool (clearR_no hlt hs).symm,xE⟩
    ·go_wp2
     exact⟨⟨k+1,by omega,by go_num,xE,tH (fun j hj hjk=>by
      by_cases e:j < k
      ·exact HH.out j hj e
      ·obtain rfl:j=k:=by omega
       exact hs)⟩,by simp[intOf];omega⟩
   ·have hb6:decide ((k:Int)≤6)=false:=decide_eq_false (by omega)
    have H:=tH (clearR_len (c:=l) (by omega))
    go_wp2
    all_goals go_ret
    all_goals exact⟨ret_bool (by rw[H.out];first | done | (simp;try omega)),xE⟩
  ·obtain rfl:k=l.length:=by omega
   by_cases h0:1≤l.length
   ·by_cases h6:l.length≤6
    ·have H:=tH (clearR_yes h0 h6 (fun i hi=>HH.out i hi (by omega)))
     go_wp2
     all_goals go_ret
     all_goals exact⟨ret_bool (by rw[H.out];first | done | (simp;try omega)),xE⟩
    ·have H:=tH (clearR_len (c:=l) (by omega))
     go_wp2
     all_goals go_ret
     all_goals exact⟨ret_bool (by rw[H.out];first | done | (simp;try omega)),xE⟩
   ·have H:=tH (clearR_len (c:=l) (by omega))
    go_wp2
    all_goals go_ret
    all_goals exact⟨ret_bool (by rw[H.out];first | done | (simp;try omega)),xE⟩
theorem sameL_comm (a b:Lab):sameL a b=sameL b a:=by
 unfold sameL;rw[Bool.eq_iff_iff];simp only[Bool.and_eq_true,decide_eq_true_eq];omega
@[irreducible] def hasL (l:List Lab) (x:Lab):Bool:=l.any (fun y=>sameL y x)
theorem hasL_yes {l:List Lab} {x:Lab} {i:Nat} (hi:i < l.length) (h:sameL l[i] x=true):hasL l x=true:=by unfold hasL;exact List.any_eq_true.2 ⟨_,List.getElem_mem hi,h⟩
theorem hasL_no {l:List Lab} {x:Lab} (h:∀ (i:Nat) (hi:i < l.length),sameL l[i] x=false):hasL l x=false:=by
 unfold hasL;rw[List.any_eq_false]
 intro y hy
 obtain⟨i,hi,rfl⟩:=List.mem_iff_getElem.1 hy
 simp[h i hi]
set_option maxHeartbeats 800000 in
theorem indexLab_any (v:Value) (l:List Lab) (x:Lab) (w:World) (h:SlR w 2 rLab v l) :
  Calls Tryz.prog 117 #[v,.agg #[(.int .i64 x.lv),(.int .i64 x.st)]] w fun e w'=>(∃ n:Int,e=.returned (.int .i64 n)∧decide (0≤n)=hasL l x)∧Ext w w':=by
 obtain⟨a,cap,rfl⟩:=h.len
 obtain⟨_,hlc,hcm⟩:=slr_len h
 have hlm:l.length≤9223372036854775807:=by unfold maxLen at hcm;omega
 clear hcm hlc
 have HS:=tH h
 clear h
 go_enter Tryz.func117,Tryz.ntmps117
 go_wp2
 go_loopw [8,5] (fun i _ wr=>∃ k:Nat,k≤l.length∧i=.int .i64 k∧Ext (w.alloc (.cells #[(.int .i64 x.lv),(.int .i64 x.st)] 36)) wr∧Hid (∀ (j:Nat) (hj:j < l.length),j < k→sameL l[j] x=false)) (fun i _ _=>l.length-(intOf i).toNat)
 case atStart=>exact⟨0,Nat.zero_le _,rfl,Ext.refl _,tH (fun j _ h=>absurd h (Nat.not_lt_zero _))⟩
 case round =>
  obtain⟨k,hk,rfl,⟨X,rfl⟩,HH⟩:=hrel
  by_cases hlt:k < l.length
  ·obtain⟨b,off,rfl⟩:=slr_some HS.out hlt
   obtain⟨ho,hok,h0,h1⟩:=lab_at HS.out hlt
   go_upto_region 4 with fail
   cases q:sameL ⟨x.lv,x.st⟩ ⟨l[k].lv,l[k].st⟩
   ·have hN:sameL l[k] x=false:=by rw[sameL_comm];exact q
    (refine wp_region_x 6 (by kernel_rfl) (by kernel_rfl) (by kernel_rfl) ?_;(iterate 6 (apply XReg.step;(case h=>(intro w' hw';obtain⟨X',rfl⟩:=hw';go_wp2_with (fail);exact⟨rfl,xE⟩));(case hv=>kernel_rfl)));refine XReg.doneN (fun X=>?_))
    go_wp2
    exact⟨⟨k+1,by omega,by go_num,xE,tH (fun j hj hjk=>by
     by_cases e:j < k
     ·exact HH.out j hj e
     ·obtain rfl:j=k:=by omega
      exact hN)⟩,by simp[intOf];omega⟩
   ·have hY:=tH (hasL_yes (x:=x) hlt (by rw[sameL_comm];exact q))
    (refine wp_region_x 6 (by kernel_rfl) (by kernel_rfl) (by kernel_rfl) ?_;(iterate 6 (apply XReg.step;(case h=>(intro w' hw';obtain⟨X',rfl⟩:=hw';go_wp2_with (fail);exact⟨rfl,xE⟩));(case hv=>kernel_rfl)));refine XReg.doneN (fun X=>?_))
    go_wp2
    go_ret
    exact⟨⟨k,rfl,by rw[hY.out];simp⟩,xE⟩
  ·have hN:=tH (hasL_no (x:=x) (fun j hj=>HH.out j hj (by omega)))
   go_wp2
   go_ret
   exact⟨⟨-1,rfl,by rw[hN.out];rfl⟩,xE⟩
set_option maxHeartbeats 800000 in
theorem containsLab_any (v:Value) (l:List Lab) (x:Lab) (w:World) (h:SlR w 2 rLab v l) :
  Calls Tryz.prog 78 #[v,.agg #[(.int .i64 x.lv),(.int .i64 x.st)]] w fun e w'=>e=.returned (.bool (hasL l x))∧Ext w w':=by
 have HS:=tH h
 clear h
 go_enter Tryz.func78,Tryz.ntmps78
 go_wp2_with fail
 refine(indexLab_any v l x _ (HS.out.ext rLab_stable xE)).mono ?_
 rintro e _ ⟨⟨n,rfl,hn⟩,X,rfl⟩
 cases hq:hasL l x
 ·have hb:decide ((0:Int)≤n)=false:=by rw[hn,hq]
  go_wp2
  go_ret
  exact⟨ret_bool hq.symm,xE⟩
 ·have hb:decide ((0:Int)≤n)=true:=by rw[hn,hq]
  go_wp2
  go_ret
  exact⟨ret_bool hq.symm,xE⟩
set_option maxHeartbeats 800000 in
theorem l05Cleared_any (v:Value) (l:List Lab) (x:Lab) (w:World) (h:SlR w 2 rLab v l) :
  Calls Tryz.prog 60 #[v,.agg #[(.int .i64 x.lv),(.int .i64 x.st)]] w fun e w'=>e=.returned (.bool (hasL l x))∧Ext w w':=by
 obtain⟨a,cap,rfl⟩:=h.len
 obtain⟨_,hlc,hcm⟩:=slr_len h
 have hlm:l.length≤9223372036854775807:=by unfold maxLen at hcm;omega
 clear hcm hlc
 have HS:=tH h
 clear h
 go_enter Tryz.func60,Tryz.ntmps60
 go_wp2
 go_loopw [5] (fun i wr=>∃ k:Nat,k≤l.length∧i=.int .i64 k∧Ext (w.alloc (.cells #[(.int .i64 x.lv),(.int .i64 x.st)] 36)) wr∧Hid (∀ (j:Nat) (hj:j < l.length),j < k→sameL l[j] x=false)) (fun i _=>l.length-(intOf i).toNat)
 case atStart=>exact⟨0,Nat.zero_le _,rfl,Ext.refl _,tH (fun j _ h=>absurd h (Nat.not_lt_zero _))⟩
 case round =>
  obtain⟨k,hk,rfl,⟨X,rfl⟩,HH⟩:=hrel
  by_cases hlt:k < l.length
  ·obtain⟨b,off,rfl⟩:=slr_some HS.out hlt
   obtain⟨ho,hok,h0,h1⟩:=lab_at HS.out hlt
   go_upto_region 4 with fail
   cases q:sameL ⟨l[k].lv,l[k].st⟩ ⟨x.lv,x.st⟩
   ·have hN:sameL l[k] x=false:=q
    (refine wp_region_x 6 (by kernel_rfl) (by kernel_rfl) (by kernel_rfl) ?_;(iterate 6 (apply XReg.step;(case h=>(intro w' hw';obtain⟨X',rfl⟩:=hw';go_wp2_with (fail);exact⟨rfl,xE⟩));(case hv=>kernel_rfl)));refine XReg.doneN (fun X=>?_))
    go_wp2
    exact⟨⟨k+1,by omega,by go_num,xE,tH (fun j hj hjk=>by
     by_cases e:j < k
     ·exact HH.out j hj e
     ·obtain rfl:j=k:=by omega
      exact hN)⟩,by simp[intOf];omega⟩
   ·have hY:=tH (hasL_yes (x:=x) hlt q)
    (refine wp_region_x 6 (by kernel_rfl) (by kernel_rfl) (by kernel_rfl) ?_;(iterate 6 (apply XReg.step;(case h=>(intro w' hw';obtain⟨X',rfl⟩:=hw';go_wp2_with (fail);exact⟨rfl,xE⟩));(case hv=>kernel_rfl)));refine XReg.doneN (fun X=>?_))
    go_wp2
    go_ret
    exact⟨ret_bool hY.out.symm,xE⟩
  ·have hN:=tH (hasL_no (x:=x) (fun j hj=>HH.out j hj (by omega)))
   go_wp2
   go_ret
   exact⟨ret_bool hN.out.symm,xE⟩
theorem info_eLabelS:(Tryz.prog.info? 45).map (fun i=>(i.zero,i.size,i.bytes))=some (some (.slice none 0 0),1,24):=by kernel_rfl
theorem el_eLabelS:ElemInfo Tryz.prog 38 45 1 24:=by
 obtain⟨i,hi,hz,hs,hb⟩:=info_parts info_eLabelS
 exact⟨by kernel_rfl,⟨i,_,hi,hz,hs,hb,rfl⟩,by decide⟩
abbrev oLabelSS:Ow (List (List Lab)):=oSl 45 1 oLabelS
theorem oLabelSS_local:Local oLabelSS:=oSl_local (oSl_local (oFlat_local _))
theorem oLabelSS_held:Held oLabelSS:=oSl_held (oSl_held (oFlat_held _))
theorem oLabelSS_r {w:World} {fp:List Nat} {v:Value} {l:List (List Lab)} (h:oLabelSS w fp [v] l) (hok:∀ x∈l,∀ y∈x,y.ok):SlR w 1 rLabS v l:=by
 obtain⟨v',hv,hs⟩:=oSl_reads (r:=fun w cs xs=>∃ v,cs=[v]∧SlR w 2 (fun _ cs x=>cs=x.cells) v xs) (k:=1) (fun w fp cs xs ho=>by
  obtain⟨u,hu,hs⟩:=oSl_reads (r:=fun _ cs x=>cs=x.cells) (k:=2) (fun _ _ _ _ ⟨_,hc⟩=>⟨by rw[hc];rfl,hc⟩) ho
  exact⟨by rw[hu];rfl,u,hu,hs⟩) h
 obtain rfl:v=v':=by simpa using hv
 refine slr_with hs fun cs x hm ⟨u,hu,hs⟩=>⟨u,hu,slr_with hs fun cs y hy hc=>⟨hc,hok x hm y hy⟩⟩
theorem slr_labss {w:World} {v:Value} {l:List (List Lab)} (h:SlR w 1 rLabS v l):∀ x∈l,∀ y∈x,y.ok:=fun x hx y hy=>by
 obtain⟨_,u,_,hs⟩:=slr_all h x hx
 obtain⟨_,hr⟩:=slr_all hs y hy
 exact hr.2
end Go.Proofs.YtbmbanelodabgaaGreatDoor
set_option maxRecDepth 100000
set_option linter.unusedVariables false
namespace Go.Proofs.YtbmbanelodabgaaGreatDoor
open Go.ChangeShapes Go.WideShapes Go.ChangeAt Go.RowKit Go.Fin1
structure Pl where
 clear:List (List Lab)
 jobs:List Jb
 now:Int
def Pl.val (p:Pl) (c j:Value):Value:=.agg #[c,j,(.int .i64 p.now)]
def ePool (w:World) (v:Value) (p:Pl):Prop:=∃ a c b d,v=p.val (.slice a p.clear.length c) (.slice b p.jobs.length d)∧I64 p.now∧SlR w 1 rLabS (.slice a p.clear.length c) p.clear∧SlR w 9 rJob (.slice b p.jobs.length d) p.jobs
theorem ePool.ext {w w':World} {v:Value} {p:Pl} (h:ePool w v p) (hx:Ext w w'):ePool w' v p:=by
 obtain⟨a,c,b,d,hv,h0,h1,h2⟩:=h
 exact⟨a,c,b,d,hv,h0,h1.ext rLabS_stable hx,h2.ext rJob_stable hx⟩
def Pl.fits (p:Pl) (n:Nat):Prop:=szL List.length p.clear≤n∧szL Jb.sz p.jobs≤n-szL List.length p.clear
instance (p : Pl) (n : Nat) : Decidable (p.fits n) := by unfold Pl.fits; exact inferInstance
def OwnP (B:Nat) (w:World) (fc fj:List Nat) (c j:Value) (p:Pl):Prop:=Own B w oLabelSS fc [c] p.clear∧Own B w oJobS fj [j] p.jobs∧∀ b∈fc,b∉fj
theorem OwnP.e {B:Nat} {w:World} {fc fj:List Nat} {c j:Value} {p:Pl} (h:OwnP B w fc fj c j p) (hn:I64 p.now) (hc:∀ x∈p.clear,∀ y∈x,y.ok) (hj:∀ j∈p.jobs,j.fit):ePool w (p.val c j) p:=by
 obtain⟨a1,c1,rfl⟩:=h.1.shape
 obtain⟨a2,c2,rfl⟩:=h.2.1.shape
 exact⟨a1,c1,a2,c2,rfl,hn,oLabelSS_r h.1.1 hc,oJobS_r h.2.1.1 hj⟩
end Go.Proofs.YtbmbanelodabgaaGreatDoor

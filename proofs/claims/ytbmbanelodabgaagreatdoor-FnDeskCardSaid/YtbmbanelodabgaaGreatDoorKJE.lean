/- The laws' mark and held over flat lists. -/
import Derived.Test.YtbmbanelodabgaaGreatDoorKBA
import Derived.Test.YtbmbanelodabgaaGreatDoorKJA1
import Derived.Test.YtbmbanelodabgaaGreatDoorKQJ
import Derived.Test.YtbmbanelodabgaaGreatDoorKBG
import Derived.Lib.SliceRun
set_option maxRecDepth 100000
set_option linter.unusedVariables false
namespace Go.Proofs.YtbmbanelodabgaaGreatDoor
open Go.RowKit Go.Fin1
end Go.Proofs.YtbmbanelodabgaaGreatDoor
set_option maxRecDepth 100000
set_option linter.unusedVariables false
namespace Go
open Go.RowKit
end Go
namespace Go.Proofs.YtbmbanelodabgaaGreatDoor
open Go.RowKit Go.Fin1
theorem wL_const {α:Type} (c:Nat) (l:List α):wL (fun _:α=>c) l=c*l.length:=by
 induction l with
 | nil=>rfl
 | cons x l ih=>rw[wL_cons,ih,List.length_cons,Nat.mul_add];omega
theorem wL_spans {α:Type} {l:List (List α)} (h:szL List.length l≤1048576):wL (wL (fun _:α=>2)) l≤4*1048576:=by
 have key:∀ l:List (List α),wL (wL (fun _:α=>2)) l=2*(l.map List.length).sum:=fun l=>by
  induction l with
  | nil=>rfl
  | cons x l ih=>rw[wL_cons,ih,wL_const,List.map_cons,List.sum_cons];omega
 unfold szL at h
 rw[key];omega
end Go.Proofs.YtbmbanelodabgaaGreatDoor
set_option maxRecDepth 100000
set_option linter.unusedVariables false
namespace Go.Proofs.YtbmbanelodabgaaGreatDoor
open Go.RowKit Go.Fin1
set_option maxHeartbeats 800000 in
theorem cloneInt_any (v:Value) (l:List Int) (w:World) (h:SlR w 1 (rc intCell) v l) (hl:l.length≤1048576) :
  Calls Tryz.prog 145 #[v] w fun e w'=>∃ v',e=.returned v'∧Ext w w'∧Row w.heap.size w' 2 1 intCell v' l:=by
 obtain⟨ad,cap,rfl⟩:=h.len
 have q22:∀ (w:World) (a:Option Addr) (n c n' c':Nat),(binOp .eql 48 (.slice a n c) (.slice none n' c')).run Tryz.prog w=.ok (.bool a.isNone) w:=fun w a n c n' c'=>Lib.run_eql_slice_nil w _ _ a n c n' c' (show Tryz.prog.underlying 48=some (.slice 2) by kernel_rfl)
 have HS:=tH h
 cases ad with
 | none =>
  have h0:l=[]:=by
   cases l with
   | nil=>rfl
   | cons x l=>obtain⟨b,off,he⟩:=slr_some h (Nat.zero_lt_succ _);cases he
  subst h0
  clear h
  go_enter Tryz.func145,Tryz.ntmps145
  go_wp2
  go_ret
  exact⟨_,rfl,xE,Row.nil _ _ _ _ _⟩
 | some ad =>
  have HC:=tH (slr_flat (f:=intCell) (K:=1) (fun _=>rfl) h)
  clear h
  go_enter Tryz.func145,Tryz.ntmps145
  go_wp2_with (at_builtin;go_must (refine Row.appS (f:=intCell) el_Int rfl _ _ rfl w xE _ _ rfl (Row.made _ _ _ _) ad l.length cap l rfl rfl (fun _=>rfl) ?_ ?_ ?_ ?_ ?_);(exact fun j u hu=>Ext.cellA xE (HC.out j u hu));(intro u hu;obtain⟨x,_,hx⟩:=List.mem_flatMap.1 hu;simp[intCell] at hx;first | (rcases hx with rfl | rfl<;>rfl) | (subst hx;rfl) | (rcases hx with rfl | rfl | rfl<;>rfl) | (rcases hx with rfl | rfl | rfl | rfl | rfl | rfl<;>rfl));(unfold maxLen;simp;omega);(simp;omega);intro v' X' hown' hne;have HO':=tH hown';clear hown' hne)
  go_ret
  exact⟨_,rfl,xE,by have:=HO'.out;simpa using this⟩
end Go.Proofs.YtbmbanelodabgaaGreatDoor
set_option maxRecDepth 100000
set_option linter.unusedVariables false
namespace Go.Proofs.YtbmbanelodabgaaGreatDoor
open Go.RowKit Go.Fin1
def isJb (x:Lab) (id:Int) (j:Jb):Bool:=sameL j.l x&&decide (j.id=id)
abbrev posJ (l:List Jb) (x:Lab) (id:Int):Int:=findI (isJb x id) l
set_option maxHeartbeats 800000 in
theorem indexFuncJb_any (fn:Nat) (cap:Array Value) (p:Jb→Bool) (v:Value) (l:List Jb) (w:World) (h:SlR w 9 rJob v l)
  (hcf:∀ args w,(callFunc fn args).run Tryz.prog w=.ok (.enter fn args) w) (Hf:∀ W u x,Ext w W→eJob W u x→Calls Tryz.prog fn (#[u]++cap) W fun e w'=>e=.returned (.bool (p x))∧Ext W w') :
  Calls Tryz.prog 121 #[v,.func (.func fn) #[] cap] w fun e w' =>
   e=.returned ((.int .i64 (findI p l)))∧Ext w w':=by
 obtain⟨a,cap',rfl⟩:=h.len
 obtain⟨_,hlc,hcm⟩:=slr_len h
 have hlm:l.length≤9223372036854775807:=by unfold maxLen at hcm;omega
 clear hcm hlc
 have HS:=tH h
 have HF:=tH Hf
 clear h Hf
 go_enter Tryz.func121,Tryz.ntmps121
 go_wp2
 go_loopw [8,5] (fun i _ wr=>∃ k:Nat,k≤l.length∧i=.int .i64 k∧Ext w wr∧Hid (∀ j (hj:j < l.length),j < k→p l[j]=false)) (fun i _ _=>l.length-(intOf i).toNat)
 case atStart =>
  exact⟨0,Nat.zero_le _,rfl,Ext.refl _,tH (fun j _ h=>absurd h (Nat.not_lt_zero _))⟩
 case round =>
  obtain⟨k,hk,rfl,⟨X,rfl⟩,HH⟩:=hrel
  by_cases hlt:k < l.length
  ·obtain⟨b,off,rfl⟩:=slr_some HS.out hlt
   obtain⟨ho,an,cn,hok,hsn,c0,c1,c2,c3,c4,c5,c6,c7,c8⟩:=job_at HS.out hlt
   have HV:Hid (eJob w (l[k].val (.slice an l[k].nodes.length cn)) l[k]):=tH ⟨an,cn,rfl,hok,hsn⟩
   clear hsn
   have HRV:Hid (eJob (w.plus X) (l[k].val (.slice an l[k].nodes.length cn)) l[k]):=tH (HV.out.ext trivial ((Ext.refl w).plus X))
   clear HV
   go_wp2_with fail
   refine(HF.out _ _ l[k] (Ext.refl w |>.plus X) HRV.out).mono ?_
   rintro e _ ⟨rfl,Y,rfl⟩
   cases hp:p l[k]
   ·go_wp2
    exact⟨⟨k+1,by omega,by go_num,xE,tH (fun j hj hjk=>by
     by_cases e:j < k
     ·exact HH.out j hj e
     ·obtain rfl:j=k:=by omega
      exact hp)⟩,by simp[intOf];omega⟩
   ·go_wp2
    go_ret
    exact⟨ret_int (findI_at hlt HH.out hp).symm,xE⟩
  ·go_wp2
   go_ret
   exact⟨ret_int (findI_none (fun j hj=>HH.out j hj (by omega))).symm,xE⟩
set_option maxHeartbeats 800000 in
theorem indexOf1_any (u:Value) (j:Jb) (x:Lab) (id:Int) (b c:Nat) (w:World) (hj:eJob w u j) (h0:w.cell? ⟨b,0,none⟩=some (.int .i64 x.lv)) (h1:w.cell? ⟨b,1,none⟩=some (.int .i64 x.st)) (h2:w.cell? ⟨c,0,none⟩=some (.int .i64 id)) :
  Calls Tryz.prog 122 #[u,.pointer (some ⟨b,0,none⟩),.pointer (some ⟨c,0,none⟩)] w fun e w'=>e=.returned (.bool (isJb x id j))∧Ext w w':=by
 obtain⟨a,cp,rfl,hok,hs⟩:=hj
 have ho:=World.old_of_cell h0
 have ho2:=World.old_of_cell h2
 clear hs
 unfold isJb
 cases hL:sameL ⟨j.l.lv,j.l.st⟩ ⟨x.lv,x.st⟩
 ·go_enter Tryz.func122,Tryz.ntmps122
  unfold Jb.val
  go_wp2
  go_ret
  exact⟨ret_bool (by rfl),xE⟩
 ·cases hI:(j.id == id)
  all_goals go_enter Tryz.func122,Tryz.ntmps122
  all_goals unfold Jb.val
  all_goals go_wp2
  all_goals go_ret
  ·exact⟨ret_bool (by rw[decide_eq_false (by simpa using hI)];rfl),xE⟩
  ·exact⟨ret_bool (by rw[decide_eq_true (by simpa using hI)];rfl),xE⟩
set_option maxHeartbeats 800000 in
theorem indexOf_any (v:Value) (l:List Jb) (x:Lab) (id:Int) (w:World) (h:SlR w 9 rJob v l) :
  Calls Tryz.prog 83 #[v,.agg #[(.int .i64 x.lv),(.int .i64 x.st)],(.int .i64 id)] w fun e w'=>e=.returned (.int .i64 (posJ l x id))∧Ext w w':=by
 have HS:=tH h
 clear h
 have hh:=hmf
 go_enter Tryz.func83,Tryz.ntmps83
 go_wp2_with fail
 refine(indexFuncJb_any _ _ (isJb x id) v l _ (HS.out.ext rJob_stable xE) (fun _ _=>rfl) ?_).mono ?_
 ·rintro W u j ⟨X,rfl⟩ hj
  exact indexOf1_any u j x id _ _ _ hj (by simp[go_sem]) (by simp[go_sem]) (by simp[go_sem])
 ·rintro e _ ⟨rfl,X,rfl⟩
  go_wp2
  go_ret
  exact⟨rfl,xE⟩
set_option maxHeartbeats 1600000 in
theorem l04At_any (v:Value) (l:List Jb) (x:Lab) (id:Int) (w:World) (h:SlR w 9 rJob v l) :
  Calls Tryz.prog 62 #[v,.agg #[(.int .i64 x.lv),(.int .i64 x.st)],(.int .i64 id)] w fun e w'=>e=.returned (.int .i64 (posJ l x id))∧Ext w w':=by
 obtain⟨a,cap,rfl⟩:=h.len
 obtain⟨_,hlc,hcm⟩:=slr_len h
 have hlm:l.length≤9223372036854775807:=by unfold maxLen at hcm;omega
 clear hcm hlc
 have HS:=tH h
 clear h
 go_enter Tryz.func62,Tryz.ntmps62
 go_wp2
 go_loopw [7] (fun i wr=>∃ k:Nat,k≤l.length∧i=.int .i64 k∧Ext (w.alloc (.cells #[(.int .i64 x.lv),(.int .i64 x.st)] 36)) wr∧Hid (∀ (j:Nat) (hj:j < l.length),j < k→isJb x id l[j]=false)) (fun i _=>l.length-(intOf i).toNat)
 case atStart=>exact⟨0,Nat.zero_le _,rfl,xE,tH (fun j _ h=>absurd h (Nat.not_lt_zero _))⟩
 case round =>
  obtain⟨k,hk,rfl,⟨X,rfl⟩,HH⟩:=hrel
  by_cases hlt:k < l.length
  ·obtain⟨b,off,rfl⟩:=slr_some HS.out hlt
   obtain⟨ho,an,cn,hok,hsn,c0,c1,c2,c3,c4,c5,c6,c7,c8⟩:=job_at HS.out hlt
   have HV:Hid (eJob w (l[k].val (.slice an l[k].nodes.length cn)) l[k]):=tH ⟨an,cn,rfl,hok,hsn⟩
   clear hsn
   go_upto_region 4 with fail
   cases hL:sameL ⟨l[k].l.lv,l[k].l.st⟩ ⟨x.lv,x.st⟩
   ·have hN:isJb x id l[k]=false:=by unfold isJb;rw[show sameL l[k].l x=false from hL];rfl
    (refine wp_region_x 16 (by kernel_rfl) (by kernel_rfl) (by kernel_rfl) ?_;(iterate 16 (apply XReg.step;(case h=>(intro w' hw';obtain⟨X',rfl⟩:=hw';go_wp2_with (fail);exact⟨rfl,xE⟩));(case hv=>kernel_rfl)));refine XReg.doneN (fun X=>?_))
    go_wp2
    exact⟨⟨k+1,by omega,by go_num,xE,tH (fun j hj hjk=>by
     by_cases e:j < k
     ·exact HH.out j hj e
     ·obtain rfl:j=k:=by omega
      exact hN)⟩,by simp[intOf];omega⟩
   cases hI:(l[k].id == id)
   ·have hN:isJb x id l[k]=false:=by unfold isJb;rw[show sameL l[k].l x=true from hL,decide_eq_false (by simpa using hI)];rfl
    (refine wp_region_x 16 (by kernel_rfl) (by kernel_rfl) (by kernel_rfl) ?_;(iterate 16 (apply XReg.step;(case h=>(intro w' hw';obtain⟨X',rfl⟩:=hw';go_wp2_with (fail);exact⟨rfl,xE⟩));(case hv=>kernel_rfl)));refine XReg.doneN (fun X=>?_))
    go_wp2
    exact⟨⟨k+1,by omega,by go_num,xE,tH (fun j hj hjk=>by
     by_cases e:j < k
     ·exact HH.out j hj e
     ·obtain rfl:j=k:=by omega
      exact hN)⟩,by simp[intOf];omega⟩
   ·have hY:isJb x id l[k]=true:=by unfold isJb;rw[show sameL l[k].l x=true from hL,decide_eq_true (by simpa using hI)];rfl
    have HF:=tH (findI_at hlt HH.out hY)
    clear hY
    (refine wp_region_x 16 (by kernel_rfl) (by kernel_rfl) (by kernel_rfl) ?_;(iterate 16 (apply XReg.step;(case h=>(intro w' hw';obtain⟨X',rfl⟩:=hw';go_wp2_with (fail);exact⟨rfl,xE⟩));(case hv=>kernel_rfl)));refine XReg.doneN (fun X=>?_))
    go_wp2
    go_ret
    exact⟨ret_int HF.out.symm,xE⟩
  ·go_wp2
   go_ret
   exact⟨ret_int (findI_none (fun j hj=>HH.out j hj (by omega))).symm,xE⟩
theorem rInt_rc {w:World} {v:Value} {l:List Int} (h:SlR w 1 rInt v l):SlR w 1 (rc intCell) v l:=slr_with h fun _ _ _ hr=>hr.1
set_option maxHeartbeats 800000 in
theorem copyJob_any (j:Jb) (nv:Value) (w:World) (h:SlR w 1 rInt nv j.nodes) (hl:j.nodes.length≤1048576) :
  Calls Tryz.prog 118 #[j.val nv] w fun e w'=>∃ v' fp,e=.returned (j.val v')∧Ext w w'∧Own w.heap.size w' oIntS fp [v'] j.nodes:=by
 obtain⟨⟨lv,st⟩,id,need,long,prio,state,start,nodes⟩:=j
 obtain⟨a,cp,rfl⟩:=h.len
 have HS:=tH h
 clear h
 unfold Jb.val
 simp only at hl HS ⊢
 go_enter Tryz.func118,Tryz.ntmps118
 go_wp2_with fail
 refine(cloneInt_any _ nodes _ (rInt_rc (HS.out.ext rInt_stable xE)) hl).mono ?_
 rintro e _ ⟨v',rfl,⟨Y,rfl⟩,hR⟩
 obtain⟨fp,hO⟩:=Row.own (f:=intCell) (K:=1) (fun _=>rfl) hR
 obtain⟨a',c',rfl⟩:=hO.shape
 have HO:=tH hO
 clear hO hR
 go_wp2
 exact bodyPost_ret (v:=.agg #[(.int .i64 lv),(.int .i64 st),(.int .i64 id),(.int .i64 need),(.int .i64 long),(.int .i64 prio),(.int .i64 state),(.int .i64 start),.slice a' nodes.length c']) (by simp[results,Tryz.results118,go_sem]) rfl ⟨_,_,rfl,xE,(HO.out.swap oIntS_local (Nat.le_refl _) (by simp)).mono (by simp;omega)⟩
set_option maxHeartbeats 800000 in
theorem l04Copy_any (j:Jb) (nv:Value) (w:World) (h:SlR w 1 rInt nv j.nodes) (hl:j.nodes.length≤1048576) :
  Calls Tryz.prog 55 #[j.val nv] w fun e w'=>∃ v' fp,e=.returned (j.val v')∧Ext w w'∧Own w.heap.size w' oIntS fp [v'] j.nodes:=by
 obtain⟨⟨lv,st⟩,id,need,long,prio,state,start,nodes⟩:=j
 obtain⟨a,cp,rfl⟩:=h.len
 have HS:=tH h
 have hi:=tH (slr_ints h)
 clear h
 unfold Jb.val
 simp only at hl HS hi ⊢
 go_enter Tryz.func55,Tryz.ntmps55
 go_wp2_with (at_builtin;go_must (refine Row.appV (f:=intCell) el_Int rfl _ _ rfl ((w.alloc (.cells #[(.int .i64 lv),(.int .i64 st),(.int .i64 id),(.int .i64 need),(.int .i64 long),(.int .i64 prio),(.int .i64 state),(.int .i64 start),.slice a nodes.length cp] 92)).alloc (.cells #[(.int .i64 0),(.int .i64 0),(.int .i64 0),(.int .i64 0),(.int .i64 0),(.int .i64 0),(.int .i64 0),(.int .i64 0),.slice none 0 0] 92)) xE _ [] rfl ?_ _ nodes rfl (fun _=>rfl) (rInt_rc (HS.out.ext rInt_stable xE)) ?_ ?_ ?_ ?_);(exact Row.madeA _ _ _ _ _ _);(intro x u hu;simp[intCell] at hu;subst hu;rfl);(unfold maxLen;simp;omega);(simp;omega);intro v' X' hown';rw[List.nil_append] at hown';obtain⟨fp,hO⟩:=Row.own (f:=intCell) (K:=1) (fun _=>rfl) hown';obtain⟨a',c',hv⟩:=hO.shape;subst hv;have HO:=tH hO;clear hO hown')
 exact bodyPost_ret (v:=.agg #[(.int .i64 lv),(.int .i64 st),(.int .i64 id),(.int .i64 need),(.int .i64 long),(.int .i64 prio),(.int .i64 state),(.int .i64 start),.slice a' nodes.length c']) (by simp[results,Tryz.results55,go_sem]) rfl ⟨_,_,rfl,xE,(HO.out.swap oIntS_local (by simp) (by simp)).mono (by simp;omega)⟩
end Go.Proofs.YtbmbanelodabgaaGreatDoor
set_option maxRecDepth 100000
set_option linter.unusedVariables false
namespace Go.Proofs.YtbmbanelodabgaaGreatDoor
open Go.RowKit Go.Fin1
theorem findI_cases {α:Type} (p:α→Bool) (l:List α):findI p l=-1∨∃ (k:Nat) (h:k < l.length),findI p l=k∧p l[k]=true:=by
 unfold findI
 cases h:l.any p
 ·exact .inl rfl
 ·obtain⟨x,hx,hp⟩:=List.any_eq_true.1 h
  have hlt:l.findIdx p < l.length:=List.findIdx_lt_length.2 ⟨x,hx,hp⟩
  exact .inr ⟨l.findIdx p,hlt,rfl,List.findIdx_getElem⟩
end Go.Proofs.YtbmbanelodabgaaGreatDoor
set_option maxRecDepth 100000
set_option linter.unusedVariables false
namespace Go.Proofs.YtbmbanelodabgaaGreatDoor
open Go.RowKit Go.Fin1
def wJb (j:Jb):Nat:=8+wL (fun _:Int=>1) j.nodes
theorem wJb_le {l:List Jb} (h:szL Jb.sz l≤1048576):wL wJb l≤16*1048576:=by
 have key:∀ l:List Jb,wL wJb l=8*l.length+(l.map Jb.sz).sum:=fun l=>by
  induction l with
  | nil=>rfl
  | cons x l ih =>
   rw[wL_cons,ih,List.map_cons,List.sum_cons,List.length_cons]
   unfold wJb Jb.sz
   rw[wL_const];omega
 unfold szL at h
 rw[key];omega
end Go.Proofs.YtbmbanelodabgaaGreatDoor
set_option maxRecDepth 100000
set_option linter.unusedVariables false
namespace Go
open Go.RowKit
def CellsAt (w:World) (b:Nat) (cs:List Value):Prop:=∀ i u,cs[i]?=some u→w.cell? ⟨b,i,none⟩=some u
theorem CellsAt.ext {w w':World} {b:Nat} {cs:List Value} (h:CellsAt w b cs) (hx:Ext w w'):CellsAt w' b cs:=fun i u hu=>hx.cell (h i u hu)
theorem CellsAt.chg {S:List Nat} {w w':World} {b:Nat} {cs:List Value} (h:CellsAt w b cs) (hx:Chg S w w') (hb:b∉S):CellsAt w' b cs:=fun i u hu=>by
 have:=h i u hu
 have hlt:=World.block_lt_of_cell? w _ this
 simp only[World.cell?,hx.block b hlt hb] at this ⊢
 exact this
theorem gen_world {P:Program} {c:Code} {Q:Exit→Act→World→Prop} {a:Act} {W0:World} (h:∀ W,W=W0→c.wp P Q a W):c.wp P Q a W0:=h W0 rfl
end Go
namespace Go.Proofs.YtbmbanelodabgaaGreatDoor
open Go.RowKit Go.Fin1
end Go.Proofs.YtbmbanelodabgaaGreatDoor

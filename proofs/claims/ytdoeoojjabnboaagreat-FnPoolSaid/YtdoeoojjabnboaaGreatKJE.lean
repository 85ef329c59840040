/- The walks of indexOf, copyJob and of what the reference has in their place. -/
import Derived.Test.YtdoeoojjabnboaaGreatKQJ
import Derived.Test.YtdoeoojjabnboaaGreatKEE
set_option maxRecDepth 100000
set_option linter.unusedVariables false
namespace Go.Proofs.YtdoeoojjabnboaaGreat
open Go.RowKit Go.Fin1
def isJb (x:Lab) (id:Int) (j:Jb):Bool:=sameL j.l x&&decide (j.id=id)
abbrev posJ (l:List Jb) (x:Lab) (id:Int):Int:=findI (isJb x id) l
set_option maxHeartbeats 800000 in
theorem indexFuncJb_any (fn:Nat) (cap:Array Value) (p:Jb→Bool) (v:Value) (l:List Jb) (w:World) (h:SlR w 9 rJob v l)
  (hcf:∀ args w,(callFunc fn args).run Tryz.prog w=.ok (.enter fn args) w) (Hf:∀ W u x,Ext w W→eJob W u x→Calls Tryz.prog fn (#[u]++cap) W fun e w'=>e=.returned (.bool (p x))∧Ext W w') :
  Calls Tryz.prog 102 #[v,.func (.func fn) #[] cap] w fun e w' =>
   e=.returned ((.int .i64 (findI p l)))∧Ext w w':=by
 obtain⟨a,cap',rfl⟩:=h.len
 obtain⟨_,hlc,hcm⟩:=slr_len h
 have hlm:l.length≤9223372036854775807:=by unfold maxLen at hcm;omega
 clear hcm hlc
 have HS:=tH h
 have HF:=tH Hf
 clear h Hf
 go_enter Tryz.func102,Tryz.ntmps102
 go_wp2
 go_loopw [8,5] (fun i _ wr=>∃ k:Nat,k≤l.length∧i=.int .i64 k∧Ext w wr∧Hid (∀ j (hj:j < l.length),j < k→p l[j]=false)) (fun i _ _=>l.length-(intOf i).toNat)
 case atStart =>
  exact⟨0,Nat.zero_le _,rfl,Ext.refl _,tH (fun j _ h=>absurd h (Nat.not_lt_zero _))⟩
 case round =>
  obtain⟨k,hk,rfl,⟨X,rfl⟩,HH⟩:=hrel
  by_cases hlt:k < l.length
  ·obtain⟨b,off,rfl⟩:=slr_some HS.out hlt
   obtain⟨ho,an,cn,hok,hsn,c0,c1,c2,c3,c4,c5,c6,c7,c8⟩:=job_at HS.out hlt
   have HV:Hid (eJob w (l[k].val (.slice an l[k].nodes.length cn)) l[k]):=tH ⟨an,cn,rfl,hok,hsn⟩
   clear hsn
   have HRV:Hid (eJob (w.plus X) (l[k].val (.slice an l[k].nodes.length cn)) l[k]):=tH (HV.out.ext trivial ((Ext.refl w).plus X))
   clear HV
   go_wp2_with fail
   refine(HF.out _ _ l[k] (Ext.refl w |>.plus X) HRV.out).mono ?_
   rintro e _ ⟨rfl,Y,rfl⟩
   cases hp:p l[k]
   ·go_wp2
    exact⟨⟨k+1,by omega,by go_num,xE,tH (fun j hj hjk=>by
     by_cases e:j < k
     ·exact HH.out j hj e
     ·obtain rfl:j=k:=by omega
      exact hp)⟩,by simp[intOf];omega⟩
   ·go_wp2
    go_ret
    exact⟨ret_int (findI_at hlt HH.out hp).symm,xE⟩
  ·go_wp2
   go_ret
   exact⟨ret_int (findI_none (fun j hj=>HH.out j hj (by omega))).symm,xE⟩
set_option maxHeartbeats 800000 in
theorem indexOf1_any (u:Value) (j:Jb) (x:Lab) (id:Int) (b c:Nat) (w:World) (hj:eJob w u j) (h0:w.cell? ⟨b,0,none⟩=some (.int .i64 x.lv)) (h1:w.cell? ⟨b,1,none⟩=some (.int .i64 x.st)) (h2:w.cell? ⟨c,0,none⟩=some (.int .i64 id)) :
  Calls Tryz.prog 103 #[u,.pointer (some ⟨b,0,none⟩),.pointer (some ⟨c,0,none⟩)] w fun e w'=>e=.returned (.bool (isJb x id j))∧Ext w w':=by
 obtain⟨a,cp,rfl,hok,hs⟩:=hj
 have ho:=World.old_of_cell h0
 have ho2:=World.old_of_cell h2
 clear hs
 unfold isJb
 cases hL:sameL ⟨j.l.lv,j.l.st⟩ ⟨x.lv,x.st⟩
 ·go_enter Tryz.func103,Tryz.ntmps103
  unfold Jb.val
  go_wp2
  go_ret
  exact⟨ret_bool (by rfl),xE⟩
 ·cases hI:(j.id == id)
  all_goals go_enter Tryz.func103,Tryz.ntmps103
  all_goals unfold Jb.val
  all_goals go_wp2
  all_goals go_ret
  ·exact⟨ret_bool (by rw[decide_eq_false (by simpa using hI)];rfl),xE⟩
  ·exact⟨ret_bool (by rw[decide_eq_true (by simpa using hI)];rfl),xE⟩
set_option maxHeartbeats 800000 in
theorem indexOf_any (v:Value) (l:List Jb) (x:Lab) (id:Int) (w:World) (h:SlR w 9 rJob v l) :
  Calls Tryz.prog 56 #[v,.agg #[(.int .i64 x.lv),(.int .i64 x.st)],(.int .i64 id)] w fun e w'=>e=.returned (.int .i64 (posJ l x id))∧Ext w w':=by
 have HS:=tH h
 clear h
 have hh:=hmf
 go_enter Tryz.func56,Tryz.ntmps56
 go_wp2_with fail
 refine(indexFuncJb_any _ _ (isJb x id) v l _ (HS.out.ext rJob_stable xE) (fun _ _=>rfl) ?_).mono ?_
 ·rintro W u j ⟨X,rfl⟩ hj
  exact indexOf1_any u j x id _ _ _ hj (by simp[go_sem]) (by simp[go_sem]) (by simp[go_sem])
 ·rintro e _ ⟨rfl,X,rfl⟩
  go_wp2
  go_ret
  exact⟨rfl,xE⟩
set_option maxHeartbeats 1600000 in
theorem l04At_any (v:Value) (l:List Jb) (x:Lab) (id:Int) (w:World) (h:SlR w 9 rJob v l) :
  Calls Tryz.prog 58 #[v,.agg #[(.int .i64 x.lv),(.int .i64 x.st)],(.int .i64 id)] w fun e w'=>e=.returned (.int .i64 (posJ l x id))∧Ext w w':=by
 obtain⟨a,cap,rfl⟩:=h.len
 obtain⟨_,hlc,hcm⟩:=slr_len h
 have hlm:l.length≤9223372036854775807:=by unfold maxLen at hcm;omega
 clear hcm hlc
 have HS:=tH h
 clear h
 go_enter Tryz.func58,Tryz.ntmps58
 go_wp2
 go_loopw [7] (fun i wr=>∃ k:Nat,k≤l.length∧i=.int .i64 k∧Ext (w.alloc (.cells #[(.int .i64 x.lv),(.int .i64 x.st)] 28)) wr∧Hid (∀ (j:Nat) (hj:j < l.length),j < k→isJb x id l[j]=false)) (fun i _=>l.length-(intOf i).toNat)
 case atStart=>exact⟨0,Nat.zero_le _,rfl,xE,tH (fun j _ h=>absurd h (Nat.not_lt_zero _))⟩
 case round =>
  obtain⟨k,hk,rfl,⟨X,rfl⟩,HH⟩:=hrel
  by_cases hlt:k < l.length
  ·obtain⟨b,off,rfl⟩:=slr_some HS.out hlt
   obtain⟨ho,an,cn,hok,hsn,c0,c1,c2,c3,c4,c5,c6,c7,c8⟩:=job_at HS.out hlt
   have HV:Hid (eJob w (l[k].val (.slice an l[k].nodes.length cn)) l[k]):=tH ⟨an,cn,rfl,hok,hsn⟩
   clear hsn
   go_upto_region 4 with fail
   cases hL:sameL ⟨l[k].l.lv,l[k].l.st⟩ ⟨x.lv,x.st⟩
   ·have hN:isJb x id l[k]=false:=by unfold isJb;rw[show sameL l[k].l x=false from hL];rfl
    (refine wp_region_x 16 (by kernel_rfl) (by kernel_rfl) (by kernel_rfl) ?_;(iterate 16 (apply XReg.step;(case h=>(intro w' hw';obtain⟨X',rfl⟩:=hw';go_wp2_with (fail);exact⟨rfl,xE⟩));(case hv=>kernel_rfl)));refine XReg.doneN (fun X=>?_))
    go_wp2
    exact⟨⟨k+1,by omega,by go_num,xE,tH (fun j hj hjk=>by
     by_cases e:j < k
     ·exact HH.out j hj e
     ·obtain rfl:j=k:=by omega
      exact hN)⟩,by simp[intOf];omega⟩
   cases hI:(l[k].id == id)
   ·have hN:isJb x id l[k]=false:=by unfold isJb;rw[show sameL l[k].l x=true from hL,decide_eq_false (by simpa using hI)];rfl
    (refine wp_region_x 16 (by kernel_rfl) (by kernel_rfl) (by kernel_rfl) ?_;(iterate 16 (apply XReg.step;(case h=>(intro w' hw';obtain⟨X',rfl⟩:=hw';go_wp2_with (fail);exact⟨rfl,xE⟩));(case hv=>kernel_rfl)));refine XReg.doneN (fun X=>?_))
    go_wp2
    exact⟨⟨k+1,by omega,by go_num,xE,tH (fun j hj hjk=>by
     by_cases e:j < k
     ·exact HH.out j hj e
     ·obtain rfl:j=k:=by omega
      exact hN)⟩,by simp[intOf];omega⟩
   ·have hY:isJb x id l[k]=true:=by unfold isJb;rw[show sameL l[k].l x=true from hL,decide_eq_true (by simpa using hI)];rfl
    have HF:=tH (findI_at hlt HH.out hY)
    clear hY
    (refine wp_region_x 16 (by kernel_rfl) (by kernel_rfl) (by kernel_rfl) ?_;(iterate 16 (apply XReg.step;(case h=>(intro w' hw';obtain⟨X',rfl⟩:=hw';go_wp2_with (fail);exact⟨rfl,xE⟩));(case hv=>kernel_rfl)));refine XReg.doneN (fun X=>?_))
    go_wp2
    go_ret
    exact⟨ret_int HF.out.symm,xE⟩
  ·go_wp2
   go_ret
   exact⟨ret_int (findI_none (fun j hj=>HH.out j hj (by omega))).symm,xE⟩
theorem rInt_rc {w:World} {v:Value} {l:List Int} (h:SlR w 1 rInt v l):SlR w 1 (rc intCell) v l:=slr_with h fun _ _ _ hr=>hr.1
set_option maxHeartbeats 800000 in
theorem copyJob_any (j:Jb) (nv:Value) (w:World) (h:SlR w 1 rInt nv j.nodes) (hl:j.nodes.length≤1048576) :
  Calls Tryz.prog 76 #[j.val nv] w fun e w'=>∃ v' fp,e=.returned (j.val v')∧Ext w w'∧Own w.heap.size w' oIntS fp [v'] j.nodes:=by
 obtain⟨⟨lv,st⟩,id,need,long,prio,state,start,nodes⟩:=j
 obtain⟨a,cp,rfl⟩:=h.len
 have HS:=tH h
 clear h
 unfold Jb.val
 simp only at hl HS ⊢
 go_enter Tryz.func76,Tryz.ntmps76
 go_wp2_with fail
 refine(cloneInt_any _ nodes _ (rInt_rc (HS.out.ext rInt_stable xE)) hl).mono ?_
 rintro e _ ⟨v',rfl,⟨Y,rfl⟩,hR⟩
 obtain⟨fp,hO⟩:=Row.own (f:=intCell) (K:=1) (fun _=>rfl) hR
 obtain⟨a',c',rfl⟩:=hO.shape
 have HO:=tH hO
 clear hO hR
 go_wp2
 exact bodyPost_ret (v:=.agg #[(.int .i64 lv),(.int .i64 st),(.int .i64 id),(.int .i64 need),(.int .i64 long),(.int .i64 prio),(.int .i64 state),(.int .i64 start),.slice a' nodes.length c']) (by simp[results,Tryz.results76,go_sem]) rfl ⟨_,_,rfl,xE,(HO.out.swap oIntS_local (Nat.le_refl _) (by simp)).mono (by simp;omega)⟩
set_option maxHeartbeats 800000 in
theorem l04Copy_any (j:Jb) (nv:Value) (w:World) (h:SlR w 1 rInt nv j.nodes) (hl:j.nodes.length≤1048576) :
  Calls Tryz.prog 101 #[j.val nv] w fun e w'=>∃ v' fp,e=.returned (j.val v')∧Ext w w'∧Own w.heap.size w' oIntS fp [v'] j.nodes:=by
 obtain⟨⟨lv,st⟩,id,need,long,prio,state,start,nodes⟩:=j
 obtain⟨a,cp,rfl⟩:=h.len
 have HS:=tH h
 have hi:=tH (slr_ints h)
 clear h
 unfold Jb.val
 simp only at hl HS hi ⊢
 go_enter Tryz.func101,Tryz.ntmps101
 go_wp2_with (at_builtin;go_must (refine Row.appV (f:=intCell) el_Int rfl _ _ rfl ((w.alloc (.cells #[(.int .i64 lv),(.int .i64 st),(.int .i64 id),(.int .i64 need),(.int .i64 long),(.int .i64 prio),(.int .i64 state),(.int .i64 start),.slice a nodes.length cp] 48)).alloc (.cells #[(.int .i64 0),(.int .i64 0),(.int .i64 0),(.int .i64 0),(.int .i64 0),(.int .i64 0),(.int .i64 0),(.int .i64 0),.slice none 0 0] 48)) xE _ [] rfl ?_ _ nodes rfl (fun _=>rfl) (rInt_rc (HS.out.ext rInt_stable xE)) ?_ ?_ ?_ ?_);(exact Row.madeA _ _ _ _ _ _);(intro x u hu;simp[intCell] at hu;subst hu;rfl);(unfold maxLen;simp;omega);(simp;omega);intro v' X' hown';rw[List.nil_append] at hown';obtain⟨fp,hO⟩:=Row.own (f:=intCell) (K:=1) (fun _=>rfl) hown';obtain⟨a',c',hv⟩:=hO.shape;subst hv;have HO:=tH hO;clear hO hown')
 exact bodyPost_ret (v:=.agg #[(.int .i64 lv),(.int .i64 st),(.int .i64 id),(.int .i64 need),(.int .i64 long),(.int .i64 prio),(.int .i64 state),(.int .i64 start),.slice a' nodes.length c']) (by simp[results,Tryz.results101,go_sem]) rfl ⟨_,_,rfl,xE,(HO.out.swap oIntS_local (by simp) (by simp)).mono (by simp;omega)⟩
end Go.Proofs.YtdoeoojjabnboaaGreat
set_option maxRecDepth 100000
set_option linter.unusedVariables false
namespace Go.Proofs.YtdoeoojjabnboaaGreat
open Go.RowKit Go.Fin1
theorem findI_cases {α:Type} (p:α→Bool) (l:List α):findI p l=-1∨∃ (k:Nat) (h:k < l.length),findI p l=k∧p l[k]=true:=by
 unfold findI
 cases h:l.any p
 ·exact .inl rfl
 ·obtain⟨x,hx,hp⟩:=List.any_eq_true.1 h
  have hlt:l.findIdx p < l.length:=List.findIdx_lt_length.2 ⟨x,hx,hp⟩
  exact .inr ⟨l.findIdx p,hlt,rfl,List.findIdx_getElem⟩
def zJb:Jb:=⟨⟨0,0⟩,0,0,0,0,0,0,[]⟩
@[irreducible] def jobOf (l:List Jb) (x:Lab) (id:Int):Jb:=if jobsR l=true∧0≤posJ l x id then l.getD (posJ l x id).toNat zJb else zJb
theorem jobOf_no {l:List Jb} {x:Lab} {id:Int} (h:jobsR l=false∨posJ l x id=-1):jobOf l x id=zJb:=by
 unfold jobOf;rw[if_neg]
 rintro ⟨h1,h2⟩
 rcases h with h | h
 ·rw[h1] at h;cases h
 ·omega
theorem jobOf_yes {l:List Jb} {x:Lab} {id:Int} {k:Nat} (h:jobsR l=true) (hk:k < l.length) (hp:posJ l x id=k):jobOf l x id=l[k]:=by
 unfold jobOf;rw[if_pos ⟨h,by omega⟩,hp];simp[hk]
theorem own_nil (B:Nat) (w:World):Own B w oIntS [] [.slice none 0 0] []:=⟨⟨_,rfl,.inl ⟨rfl,rfl,rfl⟩⟩,List.nodup_nil,fun b hb=>by cases hb⟩
set_option maxHeartbeats 1600000 in
theorem implJobOf_any (v:Value) (l:List Jb) (x:Lab) (id:Int) (w:World) (h:SlR w 9 rJob v l) (hn:∀ j∈l,j.nodes.length≤1048576) :
  Calls Tryz.prog 23 #[v,.agg #[(.int .i64 x.lv),(.int .i64 x.st)],(.int .i64 id)] w fun e w'=>∃ nv fp,e=.returned ((jobOf l x id).val nv)∧Ext w w'∧Own w.heap.size w' oIntS fp [nv] (jobOf l x id).nodes:=by
 obtain⟨a,cap,rfl⟩:=h.len
 obtain⟨_,hlc,hcm⟩:=slr_len h
 have hlm:l.length≤9223372036854775807:=by unfold maxLen at hcm;omega
 clear hcm hlc
 have HN:=tH hn
 have HS:=tH h
 clear h hn
 rcases findI_cases (isJb x id) l with hp | ⟨k,hk,hp,_⟩
 ·have HJ:=tH (jobOf_no (l:=l) (.inr hp))
  have HP:Hid (posJ l x id=-1):=tH hp
  clear hp
  rw[HJ.out]
  go_enter Tryz.func23,Tryz.ntmps23
  go_wp2_with fail
  refine(indexOf_any _ l x id _ (HS.out.ext rJob_stable xE)).mono ?_
  rintro e _ ⟨rfl,X,rfl⟩
  rw[HP.out]
  go_wp2_with fail
  refine(implJobsRight_any _ l _ (HS.out.ext rJob_stable xE)).mono ?_
  rintro e _ ⟨rfl,Y,rfl⟩
  cases hj:jobsR l
  all_goals go_wp2
  all_goals exact bodyPost_ret (v:=zJb.val (.slice none 0 0)) (by simp[results,Tryz.results23,go_sem,zJb,Jb.val]) rfl ⟨_,_,rfl,(by repeat' (first | exact Ext.refl _ | exact Nat.le_refl _ | (dsimp only;omega) | apply Ext.setCell | apply Ext.plus | apply Ext.alloc | apply Ext.drew)),own_nil _ _⟩
 ·have HP:Hid (posJ l x id=k):=tH hp
  clear hp
  cases hj:jobsR l
  ·have HJ:=tH (jobOf_no (x:=x) (id:=id) (.inl hj))
   rw[HJ.out]
   go_enter Tryz.func23,Tryz.ntmps23
   go_wp2_with fail
   refine(indexOf_any _ l x id _ (HS.out.ext rJob_stable xE)).mono ?_
   rintro e _ ⟨rfl,X,rfl⟩
   rw[HP.out]
   go_wp2_with fail
   refine(implJobsRight_any _ l _ (HS.out.ext rJob_stable xE)).mono ?_
   rintro e _ ⟨rfl,Y,rfl⟩
   rw[hj]
   go_wp2
   exact bodyPost_ret (v:=zJb.val (.slice none 0 0)) (by simp[results,Tryz.results23,go_sem,zJb,Jb.val]) rfl ⟨_,_,rfl,(by repeat' (first | exact Ext.refl _ | exact Nat.le_refl _ | (dsimp only;omega) | apply Ext.setCell | apply Ext.plus | apply Ext.alloc | apply Ext.drew)),own_nil _ _⟩
  ·have HJ:=tH (jobOf_yes hj hk HP.out)
   rw[HJ.out]
   have HNK:=tH (HN.out _ (List.getElem_mem hk))
   have hlt:=hk
   obtain⟨b,off,rfl⟩:=slr_some HS.out hlt
   obtain⟨ho,an,cn,hok,hsn,c0,c1,c2,c3,c4,c5,c6,c7,c8⟩:=job_at HS.out hlt
   have HV:Hid (eJob w (l[k].val (.slice an l[k].nodes.length cn)) l[k]):=tH ⟨an,cn,rfl,hok,hsn⟩
   clear hsn
   go_enter Tryz.func23,Tryz.ntmps23
   go_wp2_with fail
   refine(indexOf_any _ l x id _ (HS.out.ext rJob_stable xE)).mono ?_
   rintro e _ ⟨rfl,X,rfl⟩
   rw[HP.out]
   go_wp2_with fail
   refine(implJobsRight_any _ l _ (HS.out.ext rJob_stable xE)).mono ?_
   rintro e _ ⟨rfl,Y,rfl⟩
   rw[hj]
   go_wp2_with fail
   refine(copyJob_any l[k] _ _ (HV.out.ext trivial xE).nodes HNK.out).mono ?_
   rintro e _ ⟨nv,fp,rfl,⟨Z,rfl⟩,hO⟩
   obtain⟨a',c',rfl⟩:=hO.shape
   have HO:=tH hO
   clear hO
   unfold Jb.val
   go_wp2
   exact bodyPost_ret (v:=l[k].val (.slice a' l[k].nodes.length c')) (by simp[results,Tryz.results23,go_sem,Jb.val]) rfl ⟨_,_,rfl,(by repeat' (first | exact Ext.refl _ | exact Nat.le_refl _ | (dsimp only;omega) | apply Ext.setCell | apply Ext.plus | apply Ext.alloc | apply Ext.drew)),(HO.out.swap oIntS_local (Nat.le_refl _) (by simp)).mono (by simp;omega)⟩
end Go.Proofs.YtdoeoojjabnboaaGreat
set_option maxRecDepth 100000
set_option linter.unusedVariables false
namespace Go.Proofs.YtdoeoojjabnboaaGreat
open Go.RowKit Go.Fin1
def wJb (j:Jb):Nat:=8+wL (fun _:Int=>1) j.nodes
theorem wJb_le {l:List Jb} (h:szL Jb.sz l≤1048576):wL wJb l≤16*1048576:=by
 have key:∀ l:List Jb,wL wJb l=8*l.length+(l.map Jb.sz).sum:=fun l=>by
  induction l with
  | nil=>rfl
  | cons x l ih =>
   rw[wL_cons,ih,List.map_cons,List.sum_cons,List.length_cons]
   unfold wJb Jb.sz
   rw[wL_const];omega
 unfold szL at h
 rw[key];omega
end Go.Proofs.YtdoeoojjabnboaaGreat
set_option maxRecDepth 100000
set_option linter.unusedVariables false
namespace Go
open Go.RowKit
def CellsAt (w:World) (b:Nat) (cs:List Value):Prop:=∀ i u,cs[i]?=some u→w.cell? ⟨b,i,none⟩=some u
theorem CellsAt.ext {w w':World} {b:Nat} {cs:List Value} (h:CellsAt w b cs) (hx:Ext w w'):CellsAt w' b cs:=fun i u hu=>hx.cell (h i u hu)
theorem CellsAt.chg {S:List Nat} {w w':World} {b:Nat} {cs:List Value} (h:CellsAt w b cs) (hx:Chg S w w') (hb:b∉S):CellsAt w' b cs:=fun i u hu=>by
 have:=h i u hu
 have hlt:=World.block_lt_of_cell? w _ this
 simp only[World.cell?,hx.block b hlt hb] at this ⊢
 exact this
theorem CellsAt.of_heap {w:World} {b:Nat} {cs:List Value} {ty:TypeId} (h:w.heap[b]?=some (.cells cs.toArray ty (0,0))):CellsAt w b cs:=fun i u hu=>by
 rw[cell_of_heap h];simpa using hu
theorem gen_world {P:Program} {c:Code} {Q:Exit→Act→World→Prop} {a:Act} {W0:World} (h:∀ W,W=W0→c.wp P Q a W):c.wp P Q a W0:=h W0 rfl
end Go
namespace Go.Proofs.YtdoeoojjabnboaaGreat
open Go.RowKit Go.Fin1
end Go.Proofs.YtdoeoojjabnboaaGreat

/- The walks of SpansRight, IsFree and of what they call. -/
import Derived.Test.YtbmbanelodabgaaGreatDoorKBA
import Derived.Test.YtbmbanelodabgaaGreatDoorKBG
set_option maxRecDepth 100000
namespace Go.Proofs.YtbmbanelodabgaaGreatDoor
open Go.RowKit Go.Fin1
set_option maxHeartbeats 400000 in
theorem isTime_any (a:Int) (w:World) :
  Calls Tryz.prog 115 #[(.int .i64 a)] w fun e w'=>e=.returned (.bool (isIn a 0 1000000))∧w=w':=by
 go_enter Tryz.func115,Tryz.ntmps115
 go_wp2_with (go_at_call 114;refine(within_any _ _ _ _).mono ?_;rintro e _ ⟨rfl,rfl⟩)
 go_ret
 exact⟨rfl,rfl⟩
set_option maxHeartbeats 400000 in
theorem l02Time_any (a:Int) (w:World) :
  Calls Tryz.prog 90 #[(.int .i64 a)] w fun e w'=>e=.returned (.bool (isIn a 0 1000000))∧w=w':=by
 go_enter Tryz.func90,Tryz.ntmps90
 go_wp2_with (go_at_call 89;refine(l02Is_any _ _ _ _).mono ?_;rintro e _ ⟨rfl,rfl⟩)
 go_ret
 exact⟨rfl,rfl⟩
def spnOk (x:Spn):Bool:=isIn x.f 0 1000000&&isIn x.t 0 1000000&&decide (x.f < x.t)
theorem spnOk_iff {x:Spn}:spnOk x=true↔0≤x.f∧x.f < x.t∧x.t≤1000000:=by
 unfold spnOk;rw[Bool.and_eq_true,Bool.and_eq_true,isIn_iff,isIn_iff,decide_eq_true_eq];omega
set_option maxHeartbeats 400000 in
theorem spanRight_any (a b:Int) (w:World) :
  Calls Tryz.prog 181 #[.agg #[(.int .i64 a),(.int .i64 b)]] w fun e w'=>e=.returned (.bool (spnOk ⟨a,b⟩))∧Ext w w':=by
 go_enter Tryz.func181,Tryz.ntmps181
 go_wp2_with (go_at_call 115;refine(isTime_any _ _).mono ?_;rintro e _ ⟨rfl,rfl⟩)
 all_goals go_ret
 all_goals exact⟨ret_bool (by simp_all [spnOk]),xE⟩
def spnAt (l:List Spn) (i:Nat):Bool:=spnOk (l.getD i ⟨0,0⟩)&&(i == 0 || decide ((l.getD (i-1) ⟨0,0⟩).t≤(l.getD i ⟨0,0⟩).f))
@[irreducible] def spnsOk (l:List Spn):Bool:=decide (l.length≤20)&&(List.range l.length).all (spnAt l)
theorem spnsOk_no {l:List Spn} {i:Nat} (hi:i < l.length) (h:spnAt l i=false):spnsOk l=false:=by
 unfold spnsOk
 have:(List.range l.length).all (spnAt l)=false:=by rw[List.all_eq_false];exact⟨i,List.mem_range.2 hi,by simp[h]⟩
 rw[this,Bool.and_false]
theorem spnsOk_long {l:List Spn} (h:20 < l.length):spnsOk l=false:=by unfold spnsOk;rw[decide_eq_false (by omega)];rfl
theorem spnsOk_yes {l:List Spn} (h:∀ i,i < l.length→spnAt l i=true):spnsOk l=decide (l.length≤20):=by
 unfold spnsOk
 have:(List.range l.length).all (spnAt l)=true:=by rw[List.all_eq_true];exact fun i hi=>h i (List.mem_range.1 hi)
 rw[this,Bool.and_true]
set_option maxHeartbeats 1600000 in
theorem implSpansRight_any (v:Value) (l:List Spn) (w:World) (h:SlR w 2 rSpn v l) :
  Calls Tryz.prog 182 #[v] w fun e w'=>e=.returned (.bool (spnsOk l))∧Ext w w':=by
 obtain⟨a,cap,rfl⟩:=h.len
 obtain⟨_,hlc,hcm⟩:=slr_len h
 have hlm:l.length≤9223372036854775807:=by unfold maxLen at hcm;omega
 clear hcm hlc
 have HS:=tH h
 clear h
 go_enter Tryz.func182,Tryz.ntmps182
 go_wp2
 go_loopw [7,3,4] (fun i _ _ wr=>∃ k:Nat,k≤l.length∧i=.int .i64 k∧Ext w wr∧Hid (∀ j,j < k→spnAt l j=true)) (fun i _ _ _=>l.length-(intOf i).toNat)
 case atStart =>
  exact⟨0,Nat.zero_le _,rfl,Ext.refl _,tH (fun j h=>absurd h (Nat.not_lt_zero _))⟩
 case round =>
  obtain⟨k,hk,rfl,⟨X,rfl⟩,HH⟩:=hrel
  by_cases hlt:k < l.length
  ·obtain⟨b,off,rfl⟩:=slr_some HS.out hlt
   obtain⟨ho,hok,h0,h1⟩:=spn_at HS.out hlt
   go_upto_region 4 with fail
   have hd:l.getD k ⟨0,0⟩=l[k]:=by simp[hlt]
   have Hd:=tH hd
   clear hd
   cases hs:spnOk ⟨l[k].f,l[k].t⟩
   ·have H:=tH (spnsOk_no hlt (show spnAt l k=false by unfold spnAt;rw[Hd.out,show spnOk l[k]=false from hs];rfl))
    (refine wp_region_x 18 (by kernel_rfl) (by kernel_rfl) (by kernel_rfl) ?_;(iterate 18 (apply XReg.step;(case h=>(intro w' hw';obtain⟨X',rfl⟩:=hw';go_wp2_with ((go_at_call 181;refine(spanRight_any _ _ _).mono ?_;rintro e _ ⟨rfl,X,rfl⟩));exact⟨rfl,xE⟩));(case hv=>kernel_rfl)));refine XReg.doneN (fun X=>?_))
    go_wp2
    go_ret
    exact⟨ret_bool H.out.symm,xE⟩
   ·by_cases hk0:0 < k
    ·have hkb:decide ((0:Int) < (k:Int))=true:=decide_eq_true (by omega)
     obtain⟨_,_,_,h3⟩:=spn_at HS.out (show k-1 < l.length by omega)
     have hd':l.getD (k-1) ⟨0,0⟩=l[k-1]:=by simp[show k-1 < l.length by omega]
     have Hd':=tH hd'
     clear hd'
     cases hc:decide (l[k].f < l[k-1].t)
     ·have H:Hid (spnAt l k=true):=tH (by
       unfold spnAt;rw[Hd.out,Hd'.out,show spnOk l[k]=true from hs]
       simp at hc;simp[hc])
      (refine wp_region_x 18 (by kernel_rfl) (by kernel_rfl) (by kernel_rfl) ?_;(iterate 18 (apply XReg.step;(case h=>(intro w' hw';obtain⟨X',rfl⟩:=hw';go_wp2_with ((go_at_call 181;refine(spanRight_any _ _ _).mono ?_;rintro e _ ⟨rfl,X,rfl⟩));exact⟨rfl,xE⟩));(case hv=>kernel_rfl)));refine XReg.doneN (fun X=>?_))
      go_wp2
      exact⟨⟨k+1,by omega,by go_num,xE,tH (fun j hj=>by
       by_cases e:j < k
       ·exact HH.out j e
       ·obtain rfl:j=k:=by omega
        exact H.out)⟩,by simp[intOf];omega⟩
     ·have H:Hid (spnAt l k=false):=tH (by
       unfold spnAt;rw[Hd.out,Hd'.out,show spnOk l[k]=true from hs]
       simp at hc;simp;omega)
      (refine wp_region_x 18 (by kernel_rfl) (by kernel_rfl) (by kernel_rfl) ?_;(iterate 18 (apply XReg.step;(case h=>(intro w' hw';obtain⟨X',rfl⟩:=hw';go_wp2_with ((go_at_call 181;refine(spanRight_any _ _ _).mono ?_;rintro e _ ⟨rfl,X,rfl⟩));exact⟨rfl,xE⟩));(case hv=>kernel_rfl)));refine XReg.doneN (fun X=>?_))
      go_wp2
      go_ret
      exact⟨ret_bool (spnsOk_no hlt H.out).symm,xE⟩
    ·obtain rfl:k=0:=by omega
     have H:Hid (spnAt l 0=true):=tH (by
      unfold spnAt;rw[Hd.out,show spnOk l[0]=true from hs];rfl)
     clear hk0
     (refine wp_region_x 18 (by kernel_rfl) (by kernel_rfl) (by kernel_rfl) ?_;(iterate 18 (apply XReg.step;(case h=>(intro w' hw';obtain⟨X',rfl⟩:=hw';go_wp2_with ((go_at_call 181;refine(spanRight_any _ _ _).mono ?_;rintro e _ ⟨rfl,X,rfl⟩));exact⟨rfl,xE⟩));(case hv=>kernel_rfl)));refine XReg.doneN (fun X=>?_))
     go_wp2
     exact⟨⟨1,by omega,by go_num,xE,tH (fun j hj=>by
      obtain rfl:j=0:=by omega
      exact H.out)⟩,by simp[intOf];omega⟩
  ·go_wp2
   go_ret
   exact⟨ret_bool (by rw[spnsOk_yes (fun i hi=>HH.out i (by omega))];simp;omega),xE⟩
def apart (o x:Spn):Bool:=!(decide (o.f < x.t)&&decide (x.f < o.t))
@[irreducible] def freeL (l:List Spn) (x:Spn):Bool:=l.all (fun o=>apart o x)
theorem freeL_no {l:List Spn} {x:Spn} {i:Nat} (hi:i < l.length) (h:apart l[i] x=false):freeL l x=false:=by
 unfold freeL;rw[List.all_eq_false];exact⟨l[i],List.getElem_mem hi,by simp[h]⟩
theorem freeL_yes {l:List Spn} {x:Spn} (h:∀ (i:Nat) (hi:i < l.length),apart l[i] x=true):freeL l x=true:=by
 unfold freeL;rw[List.all_eq_true]
 intro o ho
 obtain⟨i,hi,rfl⟩:=List.getElem_of_mem ho
 exact h i hi
end Go.Proofs.YtbmbanelodabgaaGreatDoor
set_option maxRecDepth 100000
namespace Go.Proofs.YtbmbanelodabgaaGreatDoor
open Go.RowKit Go.Fin1
theorem hmf:∀ (fn:Fn) (first cap:Array Value) (w:World),(Instr.makeFunc fn first cap).run Tryz.prog w=.ok (.func fn first cap) w:=fun _ _ _ _=>rfl
@[irreducible] def findI {α:Type} (p:α→Bool) (l:List α):Int:=if l.any p then ((l.findIdx p:Nat):Int) else -1
theorem findI_at {α:Type} {p:α→Bool} {l:List α} {k:Nat} (hk:k < l.length) (h:∀ (j:Nat) (hj:j < l.length),j < k→p l[j]=false) (hp:p l[k]=true):findI p l=k:=by
 unfold findI
 have h1:l.any p=true:=List.any_eq_true.2 ⟨l[k],List.getElem_mem hk,hp⟩
 have h2:l.findIdx p=k:=by
  rw[List.findIdx_eq hk]
  exact⟨hp,fun j hj=>by simpa using h j (by omega) hj⟩
 rw[if_pos h1,h2]
theorem findI_none {α:Type} {p:α→Bool} {l:List α} (h:∀ (j:Nat) (hj:j < l.length),p l[j]=false):findI p l=-1:=by
 unfold findI
 have h1:l.any p=false:=by
  rw[List.any_eq_false]
  intro x hx
  obtain⟨i,hi,rfl⟩:=List.getElem_of_mem hx
  simp[h i hi]
 rw[h1];rfl
theorem findI_nonneg {α:Type} (p:α→Bool) (l:List α):decide (0≤findI p l)=l.any p:=by
 unfold findI
 cases l.any p<;>simp
set_option maxHeartbeats 800000 in
theorem isFree1_any (x:Spn) (b:Nat) (c d:Int) (w:World) (h0:w.cell? ⟨b,0,none⟩=some (.int .i64 c)) (h1:w.cell? ⟨b,1,none⟩=some (.int .i64 d)) :
  Calls Tryz.prog 178 #[.agg #[(.int .i64 x.f),(.int .i64 x.t)],.pointer (some ⟨b,0,none⟩)] w fun e w'=>e=.returned (.bool (!apart x ⟨c,d⟩))∧Ext w w':=by
 have ho:=World.old_of_cell h0
 cases q1:decide (x.f < d)<;>cases q2:decide (c < x.t)
 all_goals go_enter Tryz.func178,Tryz.ntmps178
 all_goals go_wp2
 all_goals go_ret
 all_goals exact⟨ret_bool (by simp[apart,q1,q2]),xE⟩
set_option maxHeartbeats 800000 in
theorem indexFuncSpn_any (fn:Nat) (cap:Array Value) (p:Spn→Bool) (v:Value) (l:List Spn) (w:World) (h:SlR w 2 rSpn v l)
  (hcf:∀ args w,(callFunc fn args).run Tryz.prog w=.ok (.enter fn args) w) (Hf:∀ W x,Ext w W→Calls Tryz.prog fn (#[.agg #[(.int .i64 x.f),(.int .i64 x.t)]]++cap) W fun e w'=>e=.returned (.bool (p x))∧Ext W w') :
  Calls Tryz.prog 206 #[v,.func (.func fn) #[] cap] w fun e w' =>
   e=.returned ((.int .i64 (findI p l)))∧Ext w w':=by
 obtain⟨a,cap',rfl⟩:=h.len
 obtain⟨_,hlc,hcm⟩:=slr_len h
 have hlm:l.length≤9223372036854775807:=by unfold maxLen at hcm;omega
 clear hcm hlc
 have HS:=tH h
 have HF:=tH Hf
 clear h Hf
 go_enter Tryz.func206,Tryz.ntmps206
 go_wp2
 go_loopw [8,5] (fun i _ wr=>∃ k:Nat,k≤l.length∧i=.int .i64 k∧Ext w wr∧Hid (∀ j (hj:j < l.length),j < k→p l[j]=false)) (fun i _ _=>l.length-(intOf i).toNat)
 case atStart =>
  exact⟨0,Nat.zero_le _,rfl,Ext.refl _,tH (fun j _ h=>absurd h (Nat.not_lt_zero _))⟩
 case round =>
  obtain⟨k,hk,rfl,⟨X,rfl⟩,HH⟩:=hrel
  by_cases hlt:k < l.length
  ·obtain⟨b,off,rfl⟩:=slr_some HS.out hlt
   obtain⟨ho,hok,h0,h1⟩:=spn_at HS.out hlt
   go_wp2_with fail
   refine(HF.out _ l[k] (Ext.refl w |>.plus X)).mono ?_
   rintro e _ ⟨rfl,Y,rfl⟩
   cases hp:p l[k]
   ·go_wp2
    exact⟨⟨k+1,by omega,by go_num,xE,tH (fun j hj hjk=>by
     by_cases e:j < k
     ·exact HH.out j hj e
     ·obtain rfl:j=k:=by omega
      exact hp)⟩,by simp[intOf];omega⟩
   ·go_wp2
    go_ret
    exact⟨ret_int (findI_at hlt HH.out hp).symm,xE⟩
  ·go_wp2
   go_ret
   exact⟨ret_int (findI_none (fun j hj=>HH.out j hj (by omega))).symm,xE⟩
set_option maxHeartbeats 800000 in
theorem containsFuncSpn_any (fn:Nat) (cap:Array Value) (p:Spn→Bool) (v:Value) (l:List Spn) (w:World) (h:SlR w 2 rSpn v l)
  (hcf:∀ args w,(callFunc fn args).run Tryz.prog w=.ok (.enter fn args) w) (Hf:∀ W x,Ext w W→Calls Tryz.prog fn (#[.agg #[(.int .i64 x.f),(.int .i64 x.t)]]++cap) W fun e w'=>e=.returned (.bool (p x))∧Ext W w') :
  Calls Tryz.prog 177 #[v,.func (.func fn) #[] cap] w fun e w'=>e=.returned (.bool (l.any p))∧Ext w w':=by
 have HS:=tH (indexFuncSpn_any fn cap p v l w h hcf Hf)
 clear h hcf Hf
 go_enter Tryz.func177,Tryz.ntmps177
 go_wp2_with fail
 refine(HS.out).mono ?_
 rintro e _ ⟨rfl,X,rfl⟩
 go_wp2
 go_ret
 exact⟨ret_bool (findI_nonneg p l),xE⟩
set_option maxHeartbeats 800000 in
theorem indexFuncLab_any (fn:Nat) (cap:Array Value) (p:Lab→Bool) (v:Value) (l:List Lab) (w:World) (h:SlR w 2 rLab v l)
  (hcf:∀ args w,(callFunc fn args).run Tryz.prog w=.ok (.enter fn args) w) (Hf:∀ W x,Ext w W→Calls Tryz.prog fn (#[.agg #[(.int .i64 x.lv),(.int .i64 x.st)]]++cap) W fun e w'=>e=.returned (.bool (p x))∧Ext W w') :
  Calls Tryz.prog 210 #[v,.func (.func fn) #[] cap] w fun e w' =>
   e=.returned ((.int .i64 (findI p l)))∧Ext w w':=by
 obtain⟨a,cap',rfl⟩:=h.len
 obtain⟨_,hlc,hcm⟩:=slr_len h
 have hlm:l.length≤9223372036854775807:=by unfold maxLen at hcm;omega
 clear hcm hlc
 have HS:=tH h
 have HF:=tH Hf
 clear h Hf
 go_enter Tryz.func210,Tryz.ntmps210
 go_wp2
 go_loopw [8,5] (fun i _ wr=>∃ k:Nat,k≤l.length∧i=.int .i64 k∧Ext w wr∧Hid (∀ j (hj:j < l.length),j < k→p l[j]=false)) (fun i _ _=>l.length-(intOf i).toNat)
 case atStart =>
  exact⟨0,Nat.zero_le _,rfl,Ext.refl _,tH (fun j _ h=>absurd h (Nat.not_lt_zero _))⟩
 case round =>
  obtain⟨k,hk,rfl,⟨X,rfl⟩,HH⟩:=hrel
  by_cases hlt:k < l.length
  ·obtain⟨b,off,rfl⟩:=slr_some HS.out hlt
   obtain⟨ho,hok,h0,h1⟩:=lab_at HS.out hlt
   go_wp2_with fail
   refine(HF.out _ l[k] (Ext.refl w |>.plus X)).mono ?_
   rintro e _ ⟨rfl,Y,rfl⟩
   cases hp:p l[k]
   ·go_wp2
    exact⟨⟨k+1,by omega,by go_num,xE,tH (fun j hj hjk=>by
     by_cases e:j < k
     ·exact HH.out j hj e
     ·obtain rfl:j=k:=by omega
      exact hp)⟩,by simp[intOf];omega⟩
   ·go_wp2
    go_ret
    exact⟨ret_int (findI_at hlt HH.out hp).symm,xE⟩
  ·go_wp2
   go_ret
   exact⟨ret_int (findI_none (fun j hj=>HH.out j hj (by omega))).symm,xE⟩
set_option maxHeartbeats 800000 in
theorem containsFuncLab_any (fn:Nat) (cap:Array Value) (p:Lab→Bool) (v:Value) (l:List Lab) (w:World) (h:SlR w 2 rLab v l)
  (hcf:∀ args w,(callFunc fn args).run Tryz.prog w=.ok (.enter fn args) w) (Hf:∀ W x,Ext w W→Calls Tryz.prog fn (#[.agg #[(.int .i64 x.lv),(.int .i64 x.st)]]++cap) W fun e w'=>e=.returned (.bool (p x))∧Ext W w') :
  Calls Tryz.prog 186 #[v,.func (.func fn) #[] cap] w fun e w'=>e=.returned (.bool (l.any p))∧Ext w w':=by
 have HS:=tH (indexFuncLab_any fn cap p v l w h hcf Hf)
 clear h hcf Hf
 go_enter Tryz.func186,Tryz.ntmps186
 go_wp2_with fail
 refine(HS.out).mono ?_
 rintro e _ ⟨rfl,X,rfl⟩
 go_wp2
 go_ret
 exact⟨ret_bool (findI_nonneg p l),xE⟩
set_option maxHeartbeats 800000 in
theorem implisFree_any (v:Value) (l:List Spn) (a b:Int) (w:World) (h:SlR w 2 rSpn v l) :
  Calls Tryz.prog 144 #[v,.agg #[(.int .i64 a),(.int .i64 b)]] w fun e w'=>e=.returned (.bool (freeL l ⟨a,b⟩))∧Ext w w':=by
 have HS:=tH h
 clear h
 have hh:=hmf
 go_enter Tryz.func144,Tryz.ntmps144
 go_wp2_with fail
 refine(containsFuncSpn_any _ _ (fun x=>!apart x ⟨a,b⟩) v l _ (HS.out.ext rSpn_stable ((Ext.refl w).alloc _)) (fun _ _=>rfl) ?_).mono ?_
 ·rintro W x ⟨X,rfl⟩
  exact isFree1_any x _ a b _ (by simp[go_sem]) (by simp[go_sem])
 ·rintro e _ ⟨rfl,X,rfl⟩
  go_wp2
  go_ret
  exact⟨ret_bool (by unfold freeL;rw[List.not_any_eq_all_not];simp),xE⟩
set_option maxHeartbeats 800000 in
theorem implIsFree_any (v:Value) (l:List Spn) (a b:Int) (w:World) (h:SlR w 2 rSpn v l) :
  Calls Tryz.prog 151 #[v,.agg #[(.int .i64 a),(.int .i64 b)]] w fun e w'=>e=.returned (.bool (spnsOk l&&spnOk ⟨a,b⟩&&freeL l ⟨a,b⟩))∧Ext w w':=by
 have HS:=tH h
 clear h
 cases q1:spnsOk l<;>cases q2:spnOk ⟨a,b⟩
 all_goals go_enter Tryz.func151,Tryz.ntmps151
 all_goals go_wp2_with (first
  | (go_at_call 182;refine(implSpansRight_any v l _ (HS.out.ext rSpn_stable xE)).mono ?_;rintro e _ ⟨rfl,X,rfl⟩)
  | (go_at_call 181;refine(spanRight_any _ _ _).mono ?_;rintro e _ ⟨rfl,X,rfl⟩)
  | (go_at_call 144;refine(implisFree_any v l _ _ _ (HS.out.ext rSpn_stable xE)).mono ?_;rintro e _ ⟨rfl,X,rfl⟩))
 all_goals go_ret
 all_goals exact⟨ret_bool (by simp_all),xE⟩
set_option maxHeartbeats 800000 in
theorem l03Free_any (v:Value) (l:List Spn) (a b:Int) (w:World) (h:SlR w 2 rSpn v l) :
  Calls Tryz.prog 123 #[v,.agg #[(.int .i64 a),(.int .i64 b)]] w fun e w'=>e=.returned (.bool (freeL l ⟨a,b⟩))∧Ext w w':=by
 obtain⟨ad,cap,rfl⟩:=h.len
 obtain⟨_,hlc,hcm⟩:=slr_len h
 have hlm:l.length≤9223372036854775807:=by unfold maxLen at hcm;omega
 clear hcm hlc
 have HS:=tH h
 clear h
 go_enter Tryz.func123,Tryz.ntmps123
 go_wp2
 go_loopw [5] (fun i wr=>∃ k:Nat,k≤l.length∧i=.int .i64 k∧Ext (w.alloc (.cells #[(.int .i64 a),(.int .i64 b)] 124)) wr∧Hid (∀ (j:Nat) (hj:j < l.length),j < k→apart l[j] ⟨a,b⟩=true)) (fun i _=>l.length-(intOf i).toNat)
 case atStart =>
  exact⟨0,Nat.zero_le _,rfl,Ext.refl _,tH (fun j _ h=>absurd h (Nat.not_lt_zero _))⟩
 case round =>
  obtain⟨k,hk,rfl,⟨X,rfl⟩,HH⟩:=hrel
  by_cases hlt:k < l.length
  ·obtain⟨bb,off,rfl⟩:=slr_some HS.out hlt
   obtain⟨ho,hok,h0,h1⟩:=spn_at HS.out hlt
   go_upto_region 4 with fail
   cases q1:decide (l[k].f < b)<;>cases q2:decide (a < l[k].t)
   all_goals (refine wp_region_x 18 (by kernel_rfl) (by kernel_rfl) (by kernel_rfl) ?_;(iterate 18 (apply XReg.step;(case h=>(intro w' hw';obtain⟨X',rfl⟩:=hw';go_wp2_with (fail);exact⟨rfl,xE⟩));(case hv=>kernel_rfl)));refine XReg.doneN (fun X=>?_))
   all_goals go_wp2
   iterate 3
    have ha:apart l[k] ⟨a,b⟩=true:=by simp[apart,q1,q2]
    exact⟨⟨k+1,by omega,by go_num,xE,tH (fun j hj hjk=>by
     by_cases e:j < k
     ·exact HH.out j hj e
     ·obtain rfl:j=k:=by omega
      exact ha)⟩,by simp[intOf];omega⟩
   go_ret
   exact⟨ret_bool (freeL_no hlt (by simp[apart,q1,q2])).symm,xE⟩
  ·go_wp2
   go_ret
   exact⟨ret_bool (freeL_yes (fun j hj=>HH.out j hj (by omega))).symm,xE⟩
end Go.Proofs.YtbmbanelodabgaaGreatDoor
set_option maxRecDepth 100000
namespace Go.Proofs.YtbmbanelodabgaaGreatDoor
open Go.RowKit Go.Fin1
theorem slr_with {α:Type} {w:World} {k:Nat} {r r':World→List Value→α→Prop} {v:Value} {xs:List α} (h:SlR w k r v xs) (hr:∀ cs x,x∈xs→r w cs x→r' w cs x):SlR w k r' v xs:=by
 obtain⟨a,cap,hv,h1,h2,h3⟩:=h
 refine⟨a,cap,hv,h1,h2,fun i hi=>?_⟩
 obtain⟨b,off,cs,ha,hk,hc,hr'⟩:=h3 i hi
 exact⟨b,off,cs,ha,hk,hc,hr _ _ (List.getElem_mem hi) hr'⟩
theorem slr_all {α:Type} {w:World} {k:Nat} {r:World→List Value→α→Prop} {v:Value} {xs:List α} (h:SlR w k r v xs):∀ x∈xs,∃ cs,r w cs x:=by
 obtain⟨a,cap,hv,h1,h2,h3⟩:=h
 intro x hx
 obtain⟨i,hi,rfl⟩:=List.mem_iff_getElem.1 hx
 obtain⟨b,off,cs,ha,hk,hc,hr'⟩:=h3 i hi
 exact⟨cs,hr'⟩
theorem info_Label:(Tryz.prog.info? 36).map (fun i=>(i.zero,i.size,i.bytes))=some (some (.agg #[(.int .i64 0),(.int .i64 0)]),2,16):=by kernel_rfl
theorem el_Label:ElemInfo Tryz.prog 45 36 2 16:=by
 obtain⟨i,hi,hz,hs,hb⟩:=info_parts info_Label
 exact⟨Tryz.underlying45,⟨i,_,hi,hz,hs,hb,rfl⟩,by decide⟩
abbrev oLabelS:Ow (List Lab):=oSl 36 2 (oFlat Lab.cells)
end Go.Proofs.YtbmbanelodabgaaGreatDoor
set_option maxRecDepth 100000
namespace Go.Proofs.YtbmbanelodabgaaGreatDoor
open Go.RowKit Go.Fin1
def sameL (a b:Lab):Bool:=decide (a.lv=b.lv)&&decide (a.st=b.st)
def stepL (l:List Lab) (i:Nat):Bool:=decide (i=0) || (blw (l.getD (i-1) ⟨0,0⟩) (l.getD i ⟨0,0⟩)&&!sameL (l.getD (i-1) ⟨0,0⟩) (l.getD i ⟨0,0⟩))
@[irreducible] def chainR (l:List Lab):Bool:=decide (1≤l.length)&&decide (l.length≤4)&&l.all labR&&(List.range l.length).all (stepL l)
theorem chainR_len {l:List Lab} (h:l.length < 1∨4 < l.length):chainR l=false:=by
 unfold chainR
 rcases h with h | h
 ·rw[decide_eq_false (show ¬ 1≤l.length by omega)];rfl
 ·rw[decide_eq_false (show ¬ l.length≤4 by omega)];simp
theorem chainR_all {l:List Lab} (h:l.all labR=false):chainR l=false:=by
 unfold chainR;rw[h];simp
theorem chainR_lab {l:List Lab} {i:Nat} (hi:i < l.length) (h:labR l[i]=false):chainR l=false :=
 chainR_all (List.all_eq_false.2 ⟨_,List.getElem_mem hi,by simp[h]⟩)
theorem chainR_step {l:List Lab} {i:Nat} (hi:i < l.length) (h:stepL l i=false):chainR l=false:=by
 unfold chainR
 rw[show (List.range l.length).all (stepL l)=false from List.all_eq_false.2 ⟨i,List.mem_range.2 hi,by simp[h]⟩];simp
theorem chainR_yes {l:List Lab} (h1:1≤l.length) (h4:l.length≤4) (ha:∀ (i:Nat) (hi:i < l.length),labR l[i]=true) (hs:∀ i,i < l.length→stepL l i=true):chainR l=true:=by
 unfold chainR
 rw[show l.all labR=true from List.all_eq_true.2 fun x hx=>by obtain⟨i,hi,rfl⟩:=List.mem_iff_getElem.1 hx;exact ha i hi,
  show (List.range l.length).all (stepL l)=true from List.all_eq_true.2 fun i hi=>hs i (List.mem_range.1 hi),decide_eq_true h1,decide_eq_true h4];rfl
theorem stepL_at {l:List Lab} {i:Nat} (h0:0 < i) (hi:i < l.length):stepL l i=(blw l[i-1] l[i]&&!sameL l[i-1] l[i]):=by
 unfold stepL
 rw[decide_eq_false (by omega),Bool.false_or]
 simp[List.getD_eq_getElem?_getD,hi,show i-1 < l.length by omega]
set_option maxHeartbeats 400000 in
@[go_sem high] theorem equalIn_lab (w:World) (a b c d:Int):(Op.equalIn 10000 36 (.agg #[(.int .i64 a),(.int .i64 b)]) (.agg #[(.int .i64 c),(.int .i64 d)])).run Tryz.prog w=.ok (sameL ⟨a,b⟩ ⟨c,d⟩) w:=by
 unfold sameL
 by_cases q1:a=c<;>by_cases q2:b=d
 all_goals simp[go_sem,q1,q2,Tryz.underlying36]
set_option maxHeartbeats 400000 in
theorem chain1_any (x:Lab) (w:World) :
  Calls Tryz.prog 187 #[.agg #[(.int .i64 x.lv),(.int .i64 x.st)]] w fun e w'=>e=.returned (.bool (!labR x))∧Ext w w':=by
 go_enter Tryz.func187,Tryz.ntmps187
 go_wp2_with ((go_at_call 104;refine(implLabelRight_any _ _ _).mono ?_;rintro e _ ⟨rfl,X,rfl⟩))
 go_ret
 exact⟨rfl,xE⟩
set_option maxHeartbeats 1600000 in
theorem implChain_any (v:Value) (l:List Lab) (w:World) (h:SlR w 2 rLab v l) :
  Calls Tryz.prog 155 #[v] w fun e w'=>e=.returned (.bool (chainR l))∧Ext w w':=by
 obtain⟨a,cap,rfl⟩:=h.len
 obtain⟨_,hlc,hcm⟩:=slr_len h
 have hlm:l.length≤9223372036854775807:=by unfold maxLen at hcm;omega
 clear hcm hlc
 have HS:=tH h
 have hh:=hmf
 clear h
 by_cases h1:l.length < 1
 ·have hb:decide ((l.length:Int) < 1)=true:=decide_eq_true (by omega)
  have H:=tH (chainR_len (.inl h1))
  go_enter Tryz.func155,Tryz.ntmps155
  go_wp2
  go_ret
  exact⟨ret_bool H.out.symm,xE⟩
 have hb:decide ((l.length:Int) < 1)=false:=decide_eq_false (by omega)
 by_cases h4:4 < l.length
 ·have hb4:decide ((4:Int) < l.length)=true:=decide_eq_true (by omega)
  have H:=tH (chainR_len (.inr h4))
  go_enter Tryz.func155,Tryz.ntmps155
  go_wp2
  go_ret
  exact⟨ret_bool H.out.symm,xE⟩
 have hb4:decide ((4:Int) < l.length)=false:=decide_eq_false (by omega)
 go_enter Tryz.func155,Tryz.ntmps155
 go_wp2_with fail
 refine(containsFuncLab_any 187 #[] (fun x=>!labR x) _ l _ HS.out (fun _ _=>rfl) ?_).mono ?_
 ·rintro W x _
  exact chain1_any x W
 rintro e _ ⟨rfl,X,rfl⟩
 cases hany:l.any (fun x=>!labR x)
 ·have HA:Hid (∀ (i:Nat) (hi:i < l.length),labR l[i]=true):=tH fun i hi=>by
   rw[List.any_eq_false] at hany
   simpa using hany _ (List.getElem_mem hi)
  clear hany
  go_wp2
  go_loopw [3] (fun i wr=>∃ k:Nat,1≤k∧k≤l.length∧i=.int .i64 k∧Ext w wr∧Hid (∀ j,j < k→stepL l j=true)) (fun i _=>l.length-(intOf i).toNat)
  case atStart=>exact⟨1,Nat.le_refl _,by omega,rfl,xE,tH (fun j h=>by rw[show j=0 by omega];rfl)⟩
  case round =>
   obtain⟨k,hk1,hk,rfl,⟨Y,rfl⟩,HH⟩:=hrel
   by_cases hlt:k < l.length
   ·obtain⟨b,off,rfl⟩:=slr_some HS.out hlt
    obtain⟨ho,hok,h0,h1⟩:=lab_at HS.out hlt
    obtain⟨_,hok',h0',h1'⟩:=lab_at HS.out (show k-1 < l.length by omega)
    have hs:=tH (stepL_at (l:=l) (i:=k) (by omega) hlt)
    have hin:IntKind.i64.wrap ((k:Int)-1)=(k:Int)-1:=IntWalk.i64_in _ (by omega)
    go_upto_region 6 with fail
    cases q:sameL l[k-1] l[k]
    ·cases qb:blw ⟨l[k-1].lv,l[k-1].st⟩ ⟨l[k].lv,l[k].st⟩
     all_goals (refine wp_region_x 23 (by kernel_rfl) (by kernel_rfl) (by kernel_rfl) ?_;(iterate 23 (apply XReg.step;(case h=>(intro w' hw';obtain⟨X',rfl⟩:=hw';go_wp2_with ((go_at_call 75;refine(implbelow_any _ _ _ _ _ hok'.2).mono ?_;rintro e _ ⟨rfl,X,rfl⟩));exact⟨rfl,xE⟩));(case hv=>kernel_rfl)));refine XReg.doneN (fun X=>?_))
     all_goals go_wp2
     ·go_ret
      exact⟨ret_bool (chainR_step hlt (by rw[hs.out,show blw l[k-1] l[k]=false from qb];rfl)).symm,xE⟩
     ·have hstep:stepL l k=true:=by rw[hs.out,show blw l[k-1] l[k]=true from qb,q];rfl
      exact⟨⟨k+1,by omega,by omega,by go_num,xE,tH (fun j hj=>by
       by_cases e:j < k
       ·exact HH.out j e
       ·obtain rfl:j=k:=by omega
        exact hstep)⟩,by simp[intOf];omega⟩
    ·(refine wp_region_x 23 (by kernel_rfl) (by kernel_rfl) (by kernel_rfl) ?_;(iterate 23 (apply XReg.step;(case h=>(intro w' hw';obtain⟨X',rfl⟩:=hw';go_wp2_with ((go_at_call 75;refine(implbelow_any _ _ _ _ _ hok'.2).mono ?_;rintro e _ ⟨rfl,X,rfl⟩));exact⟨rfl,xE⟩));(case hv=>kernel_rfl)));refine XReg.doneN (fun X=>?_))
     go_wp2
     go_ret
     exact⟨ret_bool (chainR_step hlt (by rw[hs.out,q];simp)).symm,xE⟩
   ·go_wp2
    go_ret
    exact⟨ret_bool (chainR_yes (by omega) (by omega) HA.out (fun i hi=>HH.out i (by omega))).symm,xE⟩
 ·have H:Hid (chainR l=false):=tH (chainR_all (by rw[← Bool.not_eq_true,List.all_eq_not_any_not,hany];simp))
  go_wp2
  go_ret
  exact⟨ret_bool H.out.symm,xE⟩
set_option maxHeartbeats 3200000 in
theorem specChain_any (v:Value) (l:List Lab) (w:World) (h:SlR w 2 rLab v l) :
  Calls Tryz.prog 54 #[v] w fun e w'=>e=.returned (.bool (chainR l))∧Ext w w':=by
 obtain⟨a,cap,rfl⟩:=h.len
 obtain⟨_,hlc,hcm⟩:=slr_len h
 have hlm:l.length≤9223372036854775807:=by unfold maxLen at hcm;omega
 clear hcm hlc
 have HS:=tH h
 clear h
 by_cases h1:l.length < 1
 ·have hb:decide ((l.length:Int) < 1)=true:=decide_eq_true (by omega)
  have H:=tH (chainR_len (.inl h1))
  go_enter Tryz.func54,Tryz.ntmps54
  go_wp2
  go_ret
  exact⟨ret_bool H.out.symm,xE⟩
 have hb:decide ((l.length:Int) < 1)=false:=decide_eq_false (by omega)
 by_cases h4:4 < l.length
 ·have hb4:decide ((4:Int) < l.length)=true:=decide_eq_true (by omega)
  have H:=tH (chainR_len (.inr h4))
  go_enter Tryz.func54,Tryz.ntmps54
  go_wp2
  go_ret
  exact⟨ret_bool H.out.symm,xE⟩
 have hb4:decide ((4:Int) < l.length)=false:=decide_eq_false (by omega)
 go_enter Tryz.func54,Tryz.ntmps54
 go_wp2
 go_loopw [3] (fun i wr=>∃ k:Nat,k≤l.length∧i=.int .i64 k∧Ext w wr∧Hid (∀ j,j < k→stepL l j=true)∧Hid (∀ (j:Nat) (hj:j < l.length),j < k→labR l[j]=true)) (fun i _=>l.length-(intOf i).toNat)
 case atStart=>exact⟨0,by omega,rfl,xE,tH (fun j h=>absurd h (Nat.not_lt_zero _)),tH (fun j _ h=>absurd h (Nat.not_lt_zero _))⟩
 case round =>
  obtain⟨k,hk,rfl,⟨Y,rfl⟩,HH,HL⟩:=hrel
  by_cases hlt:k < l.length
  ·obtain⟨b,off,rfl⟩:=slr_some HS.out hlt
   obtain⟨ho,hok,h0,h1⟩:=lab_at HS.out hlt
   go_upto_region 6 with fail
   cases ql:labR ⟨l[k].lv,l[k].st⟩
   ·have H:=tH (chainR_lab hlt (show labR l[k]=false from ql))
    (refine wp_region_x 35 (by kernel_rfl) (by kernel_rfl) (by kernel_rfl) ?_;(iterate 35 (apply XReg.step;(case h=>(intro w' hw';obtain⟨X',rfl⟩:=hw';go_wp2_with (first | (go_at_call 86;refine(specLabelRight_any _ _ _).mono ?_;rintro e _ ⟨rfl,X,rfl⟩) | (go_at_call 64;refine(specbelow_any _ _ _ _ _).mono ?_;rintro e _ ⟨rfl,X,rfl⟩));exact⟨rfl,xE⟩));(case hv=>kernel_rfl)));refine XReg.doneN (fun X=>?_))
    go_wp2
    go_ret
    exact⟨ret_bool H.out.symm,xE⟩
   by_cases hk0:0 < k
   ·have hkb:decide ((0:Int) < (k:Int))=true:=decide_eq_true (by omega)
    obtain⟨_,hok',h0',h1'⟩:=lab_at HS.out (show k-1 < l.length by omega)
    have hs:=tH (stepL_at (l:=l) (i:=k) (by omega) hlt)
    have hin:IntKind.i64.wrap ((k:Int)-1)=(k:Int)-1:=IntWalk.i64_in _ (by omega)
    cases qb:blw ⟨l[k-1].lv,l[k-1].st⟩ ⟨l[k].lv,l[k].st⟩
    ·(refine wp_region_x 35 (by kernel_rfl) (by kernel_rfl) (by kernel_rfl) ?_;(iterate 35 (apply XReg.step;(case h=>(intro w' hw';obtain⟨X',rfl⟩:=hw';go_wp2_with (first | (go_at_call 86;refine(specLabelRight_any _ _ _).mono ?_;rintro e _ ⟨rfl,X,rfl⟩) | (go_at_call 64;refine(specbelow_any _ _ _ _ _).mono ?_;rintro e _ ⟨rfl,X,rfl⟩));exact⟨rfl,xE⟩));(case hv=>kernel_rfl)));refine XReg.doneN (fun X=>?_))
     go_wp2
     go_ret
     exact⟨ret_bool (chainR_step hlt (by rw[hs.out,show blw l[k-1] l[k]=false from qb];rfl)).symm,xE⟩
    cases q:sameL l[k-1] l[k]
    all_goals (refine wp_region_x 35 (by kernel_rfl) (by kernel_rfl) (by kernel_rfl) ?_;(iterate 35 (apply XReg.step;(case h=>(intro w' hw';obtain⟨X',rfl⟩:=hw';go_wp2_with (first | (go_at_call 86;refine(specLabelRight_any _ _ _).mono ?_;rintro e _ ⟨rfl,X,rfl⟩) | (go_at_call 64;refine(specbelow_any _ _ _ _ _).mono ?_;rintro e _ ⟨rfl,X,rfl⟩));exact⟨rfl,xE⟩));(case hv=>kernel_rfl)));refine XReg.doneN (fun X=>?_))
    all_goals go_wp2
    ·have hstep:stepL l k=true:=by rw[hs.out,show blw l[k-1] l[k]=true from qb,q];rfl
     exact⟨⟨k+1,by omega,by go_num,xE,tH (fun j hj=>by
      by_cases e:j < k
      ·exact HH.out j e
      ·obtain rfl:j=k:=by omega
       exact hstep),tH (fun j hjl hj=>by
      by_cases e:j < k
      ·exact HL.out j hjl e
      ·obtain rfl:j=k:=by omega
       exact ql)⟩,by simp[intOf];omega⟩
    ·go_ret
     exact⟨ret_bool (chainR_step hlt (by rw[hs.out,q];simp)).symm,xE⟩
   ·obtain rfl:k=0:=by omega
    clear hk0
    simp only[Nat.zero_mul,Nat.add_zero] at h0 h1
    (refine wp_region_x 35 (by kernel_rfl) (by kernel_rfl) (by kernel_rfl) ?_;(iterate 35 (apply XReg.step;(case h=>(intro w' hw';obtain⟨X',rfl⟩:=hw';go_wp2_with (first | (go_at_call 86;refine(specLabelRight_any _ _ _).mono ?_;rintro e _ ⟨rfl,X,rfl⟩) | (go_at_call 64;refine(specbelow_any _ _ _ _ _).mono ?_;rintro e _ ⟨rfl,X,rfl⟩));exact⟨rfl,xE⟩));(case hv=>kernel_rfl)));refine XReg.doneN (fun X=>?_))
    go_wp2
    exact⟨⟨1,by omega,by go_num,xE,tH (fun j hj=>by rw[show j=0 by omega];rfl),tH (fun j hjl hj=>by
      obtain rfl:j=0:=by omega
      exact ql)⟩,by simp[intOf];omega⟩
  ·go_wp2
   go_ret
   exact⟨ret_bool (chainR_yes (by omega) (by omega) (fun i hi=>HL.out i hi (by omega)) (fun i hi=>HH.out i (by omega))).symm,xE⟩
end Go.Proofs.YtbmbanelodabgaaGreatDoor

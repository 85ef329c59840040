/- A drawn region whose last writing operation is an append, behind which one address may be taken at any time. -/
import Derived.Test.YtdoeoojjabnboaaGreatKBG
import Derived.Test.YtdoeoojjabnboaaGreatKII
set_option maxRecDepth 100000
set_option linter.unusedVariables false
namespace Go
open Go.RowKit Go.XReg
structure AqI (W0:World) (R:World→World→Prop) (A:Nat) (Ks:List XReg.Kind) (q:Value) (Post:Value→World→Prop) (L:Nat→Bool) (vs:Nat→Value) (w:World):Prop where
 fa:L (A+1)=true→vs (A+1)=q
 pre:L A=false→R W0 w∧∀ j K,Ks[j]?=some K→L j=true→K (vs j) w
 post:L A=true→Post (vs A) w∧∀ j,j < A→L j=true
section
variable {W0:World} {R:World→World→Prop} {A:Nat} {Ks:List XReg.Kind} {q:Value} {Post:Value→World→Prop} {L:Nat→Bool} {vs:Nat→Value} {w:World}
theorem AqI.start {W:World} (h:R W0 W):AqI W0 R A Ks q Post (fun _=>false) vs W :=
 ⟨fun h=>(by cases h),fun _=>⟨h,fun _ _ _ h=>by cases h⟩,fun h=>by cases h⟩
theorem AqI.free (h:AqI W0 R A Ks q Post L vs w) {j:Nat} (hj:j < A) (hl:L j=false):L A=false:=by
 cases e:L A
 ·rfl
 ·have:=(h.post e).2 j hj
  rw[this] at hl;cases hl
theorem AqI.put (hst:∀ K∈Ks,∀ v w w',R w w'→K v w→K v w') (htr:∀ a b c,R a b→R b c→R a c) (h:AqI W0 R A Ks q Post L vs w) {n:Nat} (hn:n < A) (hl:L n=false) {K:XReg.Kind} (hK:Ks[n]?=some K) {v:Value} {w':World} (hR:R w w') (hv:K v w') :
  AqI W0 R A Ks q Post (updB L n) (updV vs n v) w':=by
 have hA:=h.free hn hl
 have e1:updB L n A=L A:=by unfold updB;rw[if_neg (by omega)]
 have e2:updB L n (A+1)=L (A+1):=by unfold updB;rw[if_neg (by omega)]
 have e3:updV vs n v (A+1)=vs (A+1):=by unfold updV;rw[if_neg (by omega)]
 refine⟨fun h1=>?_,fun h1=>?_,fun h1=>?_⟩
 ·rw[e2] at h1;rw[e3];exact h.fa h1
 ·obtain⟨h2,h3⟩:=h.pre hA
  refine⟨htr _ _ _ h2 hR,fun j J hJ hLj=>?_⟩
  by_cases e:j=n
  ·subst e
   rw[hK] at hJ
   obtain rfl:=Option.some.inj hJ
   unfold updV;rw[if_pos rfl];exact hv
  ·unfold updB at hLj;rw[if_neg e] at hLj
   unfold updV;rw[if_neg e]
   exact hst J (List.mem_of_getElem? hJ) _ _ _ hR (h3 j J hJ hLj)
 ·rw[e1,hA] at h1;cases h1
theorem AqI.app (h:AqI W0 R A Ks q Post L vs w) (hall:∀ j,j < A→L j=true) {v:Value} {w':World} (hp:Post v w'):AqI W0 R A Ks q Post (updB L A) (updV vs A v) w':=by
 have e2:updB L A (A+1)=L (A+1):=by unfold updB;rw[if_neg (by omega)]
 have e3:updV vs A v (A+1)=vs (A+1):=by unfold updV;rw[if_neg (by omega)]
 have e1:updB L A A=true:=by unfold updB;rw[if_pos rfl]
 refine⟨fun h1=>?_,fun h1=>?_,fun _=>⟨?_,fun j hj=>?_⟩⟩
 ·rw[e2] at h1;rw[e3];exact h.fa h1
 ·rw[e1] at h1;cases h1
 ·unfold updV;rw[if_pos rfl];exact hp
 ·unfold updB;rw[if_neg (by omega)];exact hall j hj
theorem AqI.fin (hKl:Ks.length≤A) (h:AqI W0 R A Ks q Post L vs w) {w':World} (hw:w'=w) {v:Value} (hv:v=q):AqI W0 R A Ks q Post (updB L (A+1)) (updV vs (A+1) v) w':=by
 subst hw
 have e1:updB L (A+1) A=L A:=by unfold updB;rw[if_neg (by omega)]
 have e3:updV vs (A+1) v A=vs A:=by unfold updV;rw[if_neg (by omega)]
 refine⟨fun h1=>?_,fun h1=>?_,fun h1=>⟨?_,fun j hj=>?_⟩⟩
 ·unfold updV;rw[if_pos rfl];exact hv
 ·rw[e1] at h1
  obtain⟨h2,h3⟩:=h.pre h1
  refine⟨h2,fun j J hJ hLj=>?_⟩
  have hj:j < Ks.length:=(List.getElem?_eq_some_iff.1 hJ).1
  have e:j≠A+1:=by omega
  unfold updB at hLj;rw[if_neg e] at hLj
  unfold updV;rw[if_neg e]
  exact h3 j J hJ hLj
 ·rw[e1] at h1;rw[e3];exact(h.post h1).1
 ·rw[e1] at h1
  unfold updB
  split
  ·rfl
  ·exact(h.post h1).2 j hj
end
end Go

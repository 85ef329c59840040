/- The laws' helpers over pools that a call hands back. -/
import Derived.Test.YtbmbanelodabgaaGreatDoorKZZ1
import Derived.Test.YtbmbanelodabgaaGreatDoorKJE
import Derived.Test.YtbmbanelodabgaaGreatDoorKII
import Derived.Test.YtbmbanelodabgaaGreatDoorKZZ6
set_option maxRecDepth 100000
set_option linter.unusedVariables false
namespace Go.Proofs.YtbmbanelodabgaaGreatDoor
open Go.RowKit Go.Fin1
def wPl (p:Pl):Nat:=wL (wL (fun _:Lab=>2)) p.clear+wL wJb p.jobs
def zPl:Pl:=⟨[],[],0⟩
def poV (p:Pl) (id c:Int) (cv jv:Value):Value:=.agg #[cv,jv,(.int .i64 p.now),(.int .i64 id),(.int .i64 c)]
theorem OwnP.ext {B:Nat} {w w':World} {fc fj:List Nat} {c j:Value} {p:Pl} (h:OwnP B w fc fj c j p) (hx:Ext w w'):OwnP B w' fc fj c j p :=
 ⟨h.1.ext oLabelSS_local oLabelSS_held hx,h.2.1.ext oJobS_local oJobS_held hx,h.2.2⟩
theorem OwnP.mono {B B':Nat} {w:World} {fc fj:List Nat} {c j:Value} {p:Pl} (h:OwnP B w fc fj c j p) (hb:B'≤B):OwnP B' w fc fj c j p:=⟨h.1.mono hb,h.2.1.mono hb,h.2.2⟩
theorem OwnP.high {B:Nat} {w:World} {fc fj:List Nat} {c j:Value} {p:Pl} (h:OwnP B w fc fj c j p):∀ b∈fc++fj,b < w.heap.size:=fun b hb=>by
 rcases List.mem_append.1 hb with hb | hb
 ·exact oLabelSS_held _ _ _ _ h.1.1 b hb
 ·exact oJobS_held _ _ _ _ h.2.1.1 b hb
theorem OwnP.low {B:Nat} {w:World} {fc fj:List Nat} {c j:Value} {p:Pl} (h:OwnP B w fc fj c j p):∀ b∈fc++fj,B≤b:=fun b hb=>by
 rcases List.mem_append.1 hb with hb | hb
 ·exact h.1.2.2 b hb
 ·exact h.2.1.2.2 b hb
theorem OwnP.zero (B:Nat) (w:World) (now:Int):OwnP B w [] [] (.slice none 0 0) (.slice none 0 0) ⟨[],[],now⟩:=⟨Own.nil _ _ _ _ _,Own.nil _ _ _ _ _,fun b hb=>by cases hb⟩
end Go.Proofs.YtbmbanelodabgaaGreatDoor
set_option maxRecDepth 100000
set_option linter.unusedVariables false
namespace Go
open Go.RowKit
theorem CellsAt.fresh (A:World) (cs:List Value) (ty:TypeId):CellsAt (A.alloc (.cells cs.toArray ty)) A.heap.size cs:=fun i u hu=>by
 rw[World.cell?_alloc_new];simpa using hu
end Go
namespace Go.Proofs.YtbmbanelodabgaaGreatDoor
open Go.RowKit Go.Fin1
def newP (l:List (List Lab)):Pl:=⟨l,[],0⟩
@[irreducible] def newR (l:List (List Lab)):Pl×Int:=if 400 < l.length then (zPl,2) else if clearR l=true then (newP l,0) else (zPl,1)
theorem newR_long {l:List (List Lab)} (h:400 < l.length):newR l=(zPl,2):=by unfold newR;rw[if_pos h]
theorem newR_yes {l:List (List Lab)} (h:¬ 400 < l.length) (hc:clearR l=true):newR l=(newP l,0):=by unfold newR;rw[if_neg h,if_pos hc]
theorem newR_no {l:List (List Lab)} (h:¬ 400 < l.length) (hc:clearR l=false):newR l=(zPl,1):=by unfold newR;rw[if_neg h,hc];rfl
theorem szL_nil {α:Type} (f:α→Nat):szL f ([]:List α)=0:=by unfold szL;simp
theorem newP_fits {l:List (List Lab)} (h:szL List.length l≤1048576):(newP l).fits 1048576:=⟨h,by show szL Jb.sz []≤_;rw[szL_nil];exact Nat.zero_le _⟩
set_option maxHeartbeats 400000 in
theorem l05Ill_any (c:Int) (w:World) :
  Calls Tryz.prog 28 #[(.int .i64 c)] w fun e w'=>e=.returned (.agg #[.slice none 0 0,.slice none 0 0,(.int .i64 0),(.int .i64 0),(.int .i64 c)])∧Ext w w':=by
 go_enter Tryz.func28,Tryz.ntmps28
 go_wp2
 exact bodyPost_ret (v:=.agg #[.slice none 0 0,.slice none 0 0,(.int .i64 0),(.int .i64 0),(.int .i64 c)]) (by simp[results,Tryz.results28,go_sem]) rfl ⟨rfl,xF⟩
set_option maxHeartbeats 800000 in
theorem specPoolNew_any (v:Value) (l:List (List Lab)) (w:World) (h:SlR w 1 rLabS v l) (hl:szL List.length l≤1048576) :
  Calls Tryz.prog 16 #[v] w fun e w'=>∃ c j fc fj,e=.returned (poV (newR l).1 0 (newR l).2 c j)∧Ext w w'∧OwnP w.heap.size w' fc fj c j (newR l).1:=by
 obtain⟨a,cap,rfl⟩:=h.len
 have HS:=tH h
 have HL:=tH hl
 clear h hl
 by_cases h4:400 < l.length
 ·rw[newR_long h4]
  have hb:decide ((400:Int) < (l.length:Int))=true:=decide_eq_true (by omega)
  clear h4
  go_enter Tryz.func16,Tryz.ntmps16
  go_wp2_with (go_at_call 28;refine(l05Ill_any _ _).mono ?_;rintro e _ ⟨rfl,X,rfl⟩)
  exact bodyPost_ret (v:=.agg #[.slice none 0 0,.slice none 0 0,(.int .i64 0),(.int .i64 0),(.int .i64 2)]) (by simp[results,Tryz.results16,go_sem]) rfl ⟨_,_,[],[],rfl,xF,OwnP.zero _ _ _⟩
 ·have hb:decide ((400:Int) < (l.length:Int))=false:=decide_eq_false (by omega)
  cases hc:clearR l
  ·rw[newR_no h4 hc]
   clear h4
   go_enter Tryz.func16,Tryz.ntmps16
   go_wp2_with fail
   refine(l05Clear_any _ l _ (HS.out.ext rLabS_stable xE)).mono ?_
   rintro e _ ⟨rfl,X,rfl⟩
   rw[hc]
   go_wp2_with (go_at_call 28;refine(l05Ill_any _ _).mono ?_;rintro e _ ⟨rfl,X,rfl⟩)
   exact bodyPost_ret (v:=.agg #[.slice none 0 0,.slice none 0 0,(.int .i64 0),(.int .i64 0),(.int .i64 1)]) (by simp[results,Tryz.results16,go_sem]) rfl ⟨_,_,[],[],rfl,xF,OwnP.zero _ _ _⟩
  ·rw[newR_yes h4 hc]
   clear h4
   go_enter Tryz.func16,Tryz.ntmps16
   go_wp2_with fail
   refine(l05Clear_any _ l _ (HS.out.ext rLabS_stable xE)).mono ?_
   rintro e _ ⟨rfl,X,rfl⟩
   rw[hc]
   go_wp2_with fail
   refine(l05Copy_any (newP l) _ _ ⟨a,cap,none,0,rfl,by show I64 0;unfold I64;omega,HS.out.ext rLabS_stable xE,⟨none,0,rfl,Nat.le_refl _,Nat.zero_le _,fun i hi=>by cases hi⟩⟩ (newP_fits HL.out)).mono ?_
   rintro e _ ⟨c3,j3,fc,fj,rfl,⟨Y,rfl⟩,hO⟩
   obtain⟨a1,c1,rfl⟩:=hO.1.shape
   obtain⟨a2,c2,rfl⟩:=hO.2.1.shape
   have HO:=tH hO
   clear hO
   unfold Pl.val newP
   go_wp2
   refine bodyPost_ret (v:=.agg #[.slice a1 l.length c1,.slice a2 0 c2,(.int .i64 0),(.int .i64 0),(.int .i64 0)]) (by simp[results,Tryz.results16,go_sem]) rfl ⟨_,_,fc,fj,rfl,xF,?_,?_,HO.out.2.2⟩
   ·exact(HO.out.1.swap2 oLabelSS_local (by simp) (by simp)).mono (by simp;omega)
   ·exact(HO.out.2.1.swap2 oJobS_local (by simp) (by simp)).mono (by simp;omega)
end Go.Proofs.YtbmbanelodabgaaGreatDoor
set_option maxRecDepth 100000
set_option linter.unusedVariables false
namespace Go.Proofs.YtbmbanelodabgaaGreatDoor
open Go.RowKit Go.Fin1
structure PlOk (p:Pl):Prop where
 now:I64 p.now
 cl:∀ x∈p.clear,∀ y∈x,y.ok
 jb:∀ j∈p.jobs,j.fit
theorem PlOk.zero (now:Int) (h:I64 now):PlOk ⟨[],[],now⟩:=⟨h,(fun x hx=>by cases hx),(fun x hx=>by cases hx)⟩
theorem OwnP.e' {B:Nat} {w:World} {fc fj:List Nat} {c j:Value} {p:Pl} (h:OwnP B w fc fj c j p) (o:PlOk p):ePool w (p.val c j) p:=h.e o.now o.cl o.jb
end Go.Proofs.YtbmbanelodabgaaGreatDoor

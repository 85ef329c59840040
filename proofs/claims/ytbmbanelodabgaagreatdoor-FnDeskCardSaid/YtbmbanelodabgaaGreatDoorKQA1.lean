/- The laws' helpers over pools that a call hands back. -/
import Derived.Test.YtbmbanelodabgaaGreatDoorKZZ1
import Derived.Test.YtbmbanelodabgaaGreatDoorKJE
import Derived.Test.YtbmbanelodabgaaGreatDoorKII
import Derived.Test.YtbmbanelodabgaaGreatDoorKZZ6
import Derived.Test.YtbmbanelodabgaaGreatDoorKPA1
import Derived.Test.YtbmbanelodabgaaGreatDoorKJA1
import Derived.Test.YtbmbanelodabgaaGreatDoorKBA
set_option maxRecDepth 100000
set_option linter.unusedVariables false
namespace Go.Proofs.YtbmbanelodabgaaGreatDoor
open Go.RowKit Go.Fin1
def wPl (p:Pl):Nat:=wL (wL (fun _:Lab=>2)) p.clear+wL wJb p.jobs
def zPl:Pl:=⟨[],[],0⟩
def poV (p:Pl) (id c:Int) (cv jv:Value):Value:=.agg #[cv,jv,(.int .i64 p.now),(.int .i64 id),(.int .i64 c)]
theorem OwnP.ext {B:Nat} {w w':World} {fc fj:List Nat} {c j:Value} {p:Pl} (h:OwnP B w fc fj c j p) (hx:Ext w w'):OwnP B w' fc fj c j p :=
 ⟨h.1.ext oLabelSS_local oLabelSS_held hx,h.2.1.ext oJobS_local oJobS_held hx,h.2.2⟩
theorem OwnP.mono {B B':Nat} {w:World} {fc fj:List Nat} {c j:Value} {p:Pl} (h:OwnP B w fc fj c j p) (hb:B'≤B):OwnP B' w fc fj c j p:=⟨h.1.mono hb,h.2.1.mono hb,h.2.2⟩
theorem OwnP.high {B:Nat} {w:World} {fc fj:List Nat} {c j:Value} {p:Pl} (h:OwnP B w fc fj c j p):∀ b∈fc++fj,b < w.heap.size:=fun b hb=>by
 rcases List.mem_append.1 hb with hb | hb
 ·exact oLabelSS_held _ _ _ _ h.1.1 b hb
 ·exact oJobS_held _ _ _ _ h.2.1.1 b hb
theorem OwnP.low {B:Nat} {w:World} {fc fj:List Nat} {c j:Value} {p:Pl} (h:OwnP B w fc fj c j p):∀ b∈fc++fj,B≤b:=fun b hb=>by
 rcases List.mem_append.1 hb with hb | hb
 ·exact h.1.2.2 b hb
 ·exact h.2.1.2.2 b hb
theorem OwnP.zero (B:Nat) (w:World) (now:Int):OwnP B w [] [] (.slice none 0 0) (.slice none 0 0) ⟨[],[],now⟩:=⟨Own.nil _ _ _ _ _,Own.nil _ _ _ _ _,fun b hb=>by cases hb⟩
end Go.Proofs.YtbmbanelodabgaaGreatDoor
set_option maxRecDepth 100000
set_option linter.unusedVariables false
namespace Go
open Go.RowKit
theorem CellsAt.fresh (A:World) (cs:List Value) (ty:TypeId):CellsAt (A.alloc (.cells cs.toArray ty)) A.heap.size cs:=fun i u hu=>by
 rw[World.cell?_alloc_new];simpa using hu
end Go
namespace Go.Proofs.YtbmbanelodabgaaGreatDoor
open Go.RowKit Go.Fin1
def newP (l:List (List Lab)):Pl:=⟨l,[],0⟩
@[irreducible] def newR (l:List (List Lab)):Pl×Int:=if 400 < l.length then (zPl,2) else if clearR l=true then (newP l,0) else (zPl,1)
theorem newR_long {l:List (List Lab)} (h:400 < l.length):newR l=(zPl,2):=by unfold newR;rw[if_pos h]
theorem newR_yes {l:List (List Lab)} (h:¬ 400 < l.length) (hc:clearR l=true):newR l=(newP l,0):=by unfold newR;rw[if_neg h,if_pos hc]
theorem newR_no {l:List (List Lab)} (h:¬ 400 < l.length) (hc:clearR l=false):newR l=(zPl,1):=by unfold newR;rw[if_neg h,hc];rfl
theorem szL_nil {α:Type} (f:α→Nat):szL f ([]:List α)=0:=by unfold szL;simp
theorem newP_fits {l:List (List Lab)} (h:szL List.length l≤1048576):(newP l).fits 1048576:=⟨h,by show szL Jb.sz []≤_;rw[szL_nil];exact Nat.zero_le _⟩
set_option maxHeartbeats 400000 in
theorem l05Ill_any (c:Int) (w:World) :
  Calls Tryz.prog 28 #[(.int .i64 c)] w fun e w'=>e=.returned (.agg #[.slice none 0 0,.slice none 0 0,(.int .i64 0),(.int .i64 0),(.int .i64 c)])∧Ext w w':=by
 go_enter Tryz.func28,Tryz.ntmps28
 go_wp2
 exact bodyPost_ret (v:=.agg #[.slice none 0 0,.slice none 0 0,(.int .i64 0),(.int .i64 0),(.int .i64 c)]) (by simp[results,Tryz.results28,go_sem]) rfl ⟨rfl,xF⟩
set_option maxHeartbeats 800000 in
theorem specPoolNew_any (v:Value) (l:List (List Lab)) (w:World) (h:SlR w 1 rLabS v l) (hl:szL List.length l≤1048576) :
  Calls Tryz.prog 16 #[v] w fun e w'=>∃ c j fc fj,e=.returned (poV (newR l).1 0 (newR l).2 c j)∧Ext w w'∧OwnP w.heap.size w' fc fj c j (newR l).1:=by
 obtain⟨a,cap,rfl⟩:=h.len
 have HS:=tH h
 have HL:=tH hl
 clear h hl
 by_cases h4:400 < l.length
 ·rw[newR_long h4]
  have hb:decide ((400:Int) < (l.length:Int))=true:=decide_eq_true (by omega)
  clear h4
  go_enter Tryz.func16,Tryz.ntmps16
  go_wp2_with (go_at_call 28;refine(l05Ill_any _ _).mono ?_;rintro e _ ⟨rfl,X,rfl⟩)
  exact bodyPost_ret (v:=.agg #[.slice none 0 0,.slice none 0 0,(.int .i64 0),(.int .i64 0),(.int .i64 2)]) (by simp[results,Tryz.results16,go_sem]) rfl ⟨_,_,[],[],rfl,xF,OwnP.zero _ _ _⟩
 ·have hb:decide ((400:Int) < (l.length:Int))=false:=decide_eq_false (by omega)
  cases hc:clearR l
  ·rw[newR_no h4 hc]
   clear h4
   go_enter Tryz.func16,Tryz.ntmps16
   go_wp2_with fail
   refine(l05Clear_any _ l _ (HS.out.ext rLabS_stable xE)).mono ?_
   rintro e _ ⟨rfl,X,rfl⟩
   rw[hc]
   go_wp2_with (go_at_call 28;refine(l05Ill_any _ _).mono ?_;rintro e _ ⟨rfl,X,rfl⟩)
   exact bodyPost_ret (v:=.agg #[.slice none 0 0,.slice none 0 0,(.int .i64 0),(.int .i64 0),(.int .i64 1)]) (by simp[results,Tryz.results16,go_sem]) rfl ⟨_,_,[],[],rfl,xF,OwnP.zero _ _ _⟩
  ·rw[newR_yes h4 hc]
   clear h4
   go_enter Tryz.func16,Tryz.ntmps16
   go_wp2_with fail
   refine(l05Clear_any _ l _ (HS.out.ext rLabS_stable xE)).mono ?_
   rintro e _ ⟨rfl,X,rfl⟩
   rw[hc]
   go_wp2_with fail
   refine(l05Copy_any (newP l) _ _ ⟨a,cap,none,0,rfl,by show I64 0;unfold I64;omega,HS.out.ext rLabS_stable xE,⟨none,0,rfl,Nat.le_refl _,Nat.zero_le _,fun i hi=>by cases hi⟩⟩ (newP_fits HL.out)).mono ?_
   rintro e _ ⟨c3,j3,fc,fj,rfl,⟨Y,rfl⟩,hO⟩
   obtain⟨a1,c1,rfl⟩:=hO.1.shape
   obtain⟨a2,c2,rfl⟩:=hO.2.1.shape
   have HO:=tH hO
   clear hO
   unfold Pl.val newP
   go_wp2
   refine bodyPost_ret (v:=.agg #[.slice a1 l.length c1,.slice a2 0 c2,(.int .i64 0),(.int .i64 0),(.int .i64 0)]) (by simp[results,Tryz.results16,go_sem]) rfl ⟨_,_,fc,fj,rfl,xF,?_,?_,HO.out.2.2⟩
   ·exact(HO.out.1.swap2 oLabelSS_local (by simp) (by simp)).mono (by simp;omega)
   ·exact(HO.out.2.1.swap2 oJobS_local (by simp) (by simp)).mono (by simp;omega)
end Go.Proofs.YtbmbanelodabgaaGreatDoor
set_option maxRecDepth 100000
set_option linter.unusedVariables false
namespace Go.Proofs.YtbmbanelodabgaaGreatDoor
open Go.RowKit Go.Fin1
structure PlOk (p:Pl):Prop where
 now:I64 p.now
 cl:∀ x∈p.clear,∀ y∈x,y.ok
 jb:∀ j∈p.jobs,j.fit
theorem PlOk.zero (now:Int) (h:I64 now):PlOk ⟨[],[],now⟩:=⟨h,(fun x hx=>by cases hx),(fun x hx=>by cases hx)⟩
theorem OwnP.e' {B:Nat} {w:World} {fc fj:List Nat} {c j:Value} {p:Pl} (h:OwnP B w fc fj c j p) (o:PlOk p):ePool w (p.val c j) p:=h.e o.now o.cl o.jb
end Go.Proofs.YtbmbanelodabgaaGreatDoor
set_option maxRecDepth 100000
set_option linter.unusedVariables false
namespace Go.Proofs.YtbmbanelodabgaaGreatDoor
open Go.RowKit Go.Fin1

abbrev rSpnS : World → List Value → List Spn → Prop := rSl 2 rSpn
theorem rSpnS_stable : Stable rSpnS := rSl_stable rSpn_stable

set_option maxHeartbeats 800000 in
theorem indexFuncSpnS_any (fn : Nat) (cap : Array Value) (p : (List Spn) → Bool) (v : Value) (l : List (List Spn)) (w : World) (h : SlR w 1 rSpnS v l)
    (hcf : ∀ args w, (callFunc fn args).run Tryz.prog w = .ok (.enter fn args) w) (Hf : ∀ W u x, Ext w W → SlR W 2 rSpn u x → Calls Tryz.prog fn (#[u] ++ cap) W fun e w' => e = .returned (.bool (p x)) ∧ Ext W w') :
    Calls Tryz.prog 218 #[v, .func (.func fn) #[] cap] w fun e w' =>
      e = .returned ((.int .i64 (findI p l))) ∧ Ext w w' := by
  obtain ⟨a, cap', rfl⟩ := h.len
  obtain ⟨_, hlc, hcm⟩ := slr_len h
  have hlm : l.length ≤ 9223372036854775807 := by unfold maxLen at hcm; omega
  clear hcm hlc
  have HS := tH h
  have HF := tH Hf
  clear h Hf
  go_enter Tryz.func218, Tryz.ntmps218
  go_wp2
  go_loopw [8, 5] (fun i _ wr => ∃ k : Nat, k ≤ l.length ∧ i = .int .i64 k ∧ Ext w wr ∧ Hid (∀ j (hj : j < l.length), j < k → p l[j] = false)) (fun i _ _ => l.length - (intOf i).toNat)
  case atStart =>
    exact ⟨0, Nat.zero_le _, rfl, Ext.refl _, tH (fun j _ h => absurd h (Nat.not_lt_zero _))⟩
  case round =>
    obtain ⟨k, hk, rfl, ⟨X, rfl⟩, HH⟩ := hrel
    by_cases hlt : k < l.length
    · obtain ⟨b, off, rfl⟩ := slr_some HS.out hlt
      obtain ⟨ho, vx, hsx, h0⟩ := sl_at HS.out hlt
      obtain ⟨ax, cx, rfl⟩ := hsx.len
      have HRV := tH (hsx.ext rSpn_stable ((Ext.refl w).plus X))
      clear hsx
      go_wp2_with fail
      refine (HF.out _ _ l[k] (Ext.refl w |>.plus X) HRV.out).mono ?_
      rintro e _ ⟨rfl, Y, rfl⟩
      cases hp : p l[k]
      · go_wp2
        exact ⟨⟨k + 1, by omega, by go_num, xE, tH (fun j hj hjk => by
          by_cases e : j < k
          · exact HH.out j hj e
          · obtain rfl : j = k := by omega
            exact hp)⟩, by simp [intOf]; omega⟩
      · go_wp2
        go_ret
        exact ⟨ret_int (findI_at hlt HH.out hp).symm, xE⟩
    · go_wp2
      go_ret
      exact ⟨ret_int (findI_none (fun j hj => HH.out j hj (by omega))).symm, xE⟩

set_option maxHeartbeats 800000 in
theorem containsFuncSpnS_any (fn : Nat) (cap : Array Value) (p : (List Spn) → Bool) (v : Value) (l : List (List Spn)) (w : World) (h : SlR w 1 rSpnS v l)
    (hcf : ∀ args w, (callFunc fn args).run Tryz.prog w = .ok (.enter fn args) w) (Hf : ∀ W u x, Ext w W → SlR W 2 rSpn u x → Calls Tryz.prog fn (#[u] ++ cap) W fun e w' => e = .returned (.bool (p x)) ∧ Ext W w') :
    Calls Tryz.prog 207 #[v, .func (.func fn) #[] cap] w fun e w' =>
      e = .returned (.bool (l.any p)) ∧ Ext w w' := by
  have HS := tH (indexFuncSpnS_any fn cap p v l w h hcf Hf)
  clear h hcf Hf
  go_enter Tryz.func207, Tryz.ntmps207
  go_wp2_with fail
  refine (HS.out).mono ?_
  rintro e _ ⟨rfl, X, rfl⟩
  go_wp2
  go_ret
  exact ⟨ret_bool (findI_nonneg p l), xE⟩

/-- Valid rows. -/
@[irreducible] def rowsOk (rows : List (List Spn)) : Bool := decide (rows.length ≤ 6) && rows.all spnsOk
theorem rowsOk_long {rows : List (List Spn)} (h : 6 < rows.length) : rowsOk rows = false := by unfold rowsOk; rw [decide_eq_false (by omega)]; rfl
theorem rowsOk_short {rows : List (List Spn)} (h : rows.length ≤ 6) : rowsOk rows = !rows.any (fun l => !spnsOk l) := by
  unfold rowsOk; rw [decide_eq_true h, List.not_any_eq_all_not]; simp
theorem rowsOk_yes {rows : List (List Spn)} (h6 : rows.length ≤ 6) (h : ∀ (i : Nat) (hi : i < rows.length), spnsOk rows[i] = true) : rowsOk rows = true := by
  unfold rowsOk; rw [decide_eq_true h6, List.all_eq_true.2 fun x hx => by obtain ⟨i, hi, rfl⟩ := List.mem_iff_getElem.1 hx; exact h i hi]; rfl

set_option maxHeartbeats 400000 in
theorem rowsRight1_any (v : Value) (l : List Spn) (w : World) (h : SlR w 2 rSpn v l) :
    Calls Tryz.prog 208 #[v] w fun e w' => e = .returned (.bool (!spnsOk l)) ∧ Ext w w' := by
  go_enter Tryz.func208, Tryz.ntmps208
  go_wp2_with fail
  refine (implSpansRight_any v l _ h).mono ?_
  rintro e _ ⟨rfl, X, rfl⟩
  go_wp2
  go_ret
  exact ⟨rfl, xE⟩

set_option maxHeartbeats 800000 in
theorem rowsRight_any (v : Value) (l : List (List Spn)) (w : World) (h : SlR w 1 rSpnS v l) :
    Calls Tryz.prog 179 #[v] w fun e w' => e = .returned (.bool (rowsOk l)) ∧ Ext w w' := by
  obtain ⟨a, cap, rfl⟩ := h.len
  have HS := tH h
  have hh := hmf
  clear h
  by_cases h6 : l.length ≤ 6
  · have hb : decide ((l.length : Int) ≤ 6) = true := decide_eq_true (by omega)
    have H := tH (rowsOk_short h6)
    go_enter Tryz.func179, Tryz.ntmps179
    go_wp2_with fail
    refine (containsFuncSpnS_any 208 #[] (fun x => !spnsOk x) _ l _ HS.out (fun _ _ => rfl) ?_).mono ?_
    · rintro W u x _ hx
      exact rowsRight1_any u x W hx
    rintro e _ ⟨rfl, X, rfl⟩
    go_wp2
    go_ret
    exact ⟨ret_bool H.out.symm, xE⟩
  · have hb : decide ((l.length : Int) ≤ 6) = false := decide_eq_false (by omega)
    have H := tH (rowsOk_long (show 6 < l.length by omega))
    go_enter Tryz.func179, Tryz.ntmps179
    go_wp2_with fail
    go_ret
    exact ⟨ret_bool H.out.symm, xE⟩

/-! the rows in which a span is free -/
def fitN (rows : List (List Spn)) (x : Spn) : Nat → List Int
  | 0 => []
  | k + 1 => if freeL (rows.getD k []) x then fitN rows x k ++ [(k : Int)] else fitN rows x k
@[irreducible] def fitL (rows : List (List Spn)) (x : Spn) : List Int := fitN rows x rows.length
theorem fitN_len (rows : List (List Spn)) (x : Spn) : ∀ k, (fitN rows x k).length ≤ k
  | 0 => Nat.le_refl _
  | k + 1 => by have := fitN_len rows x k; unfold fitN; split <;> simp <;> omega
theorem fitN_step {rows : List (List Spn)} {x : Spn} {k : Nat} (hk : k < rows.length) : fitN rows x (k + 1) = if freeL rows[k] x then fitN rows x k ++ [(k : Int)] else fitN rows x k := by
  show (if freeL (rows.getD k []) x then _ else _) = _
  rw [show rows.getD k [] = rows[k] by simp [hk]]
theorem fitN_mem {rows : List (List Spn)} {x : Spn} : ∀ {k : Nat} {n : Int}, n ∈ fitN rows x k → 0 ≤ n ∧ n < k
  | 0, n, h => by cases h
  | k + 1, n, h => by
    unfold fitN at h
    split at h
    · rcases List.mem_append.1 h with h | h
      · have := fitN_mem h; omega
      · simp at h; omega
    · have := fitN_mem h; omega
theorem fitN_pre {rows : List (List Spn)} {x : Spn} (k : Nat) : ∀ d, ∃ t, fitN rows x (k + d) = fitN rows x k ++ t
  | 0 => ⟨[], by simp⟩
  | d + 1 => by
    obtain ⟨t, ht⟩ := fitN_pre k d
    have hs : fitN rows x (k + (d + 1)) = if freeL (rows.getD (k + d) []) x then fitN rows x (k + d) ++ [((k + d : Nat) : Int)] else fitN rows x (k + d) := rfl
    rw [hs]
    split
    · exact ⟨t ++ [((k + d : Nat) : Int)], by rw [ht, List.append_assoc]⟩
    · exact ⟨t, ht⟩
theorem fitL_len (rows : List (List Spn)) (x : Spn) : (fitL rows x).length ≤ rows.length := by unfold fitL; exact fitN_len _ _ _
/-- So many of them; none, if there are not so many. -/
@[irreducible] def fitNeed (rows : List (List Spn)) (need : Int) (x : Spn) : List Int := if need ≤ (fitL rows x).length then (fitL rows x).take need.toNat else []

set_option maxHeartbeats 800000 in
theorem fit_any (v : Value) (l : List (List Spn)) (x : Spn) (w : World) (h : SlR w 1 rSpnS v l) (hl : l.length ≤ 1048576) :
    Calls Tryz.prog 180 #[v, .agg #[(.int .i64 x.f), (.int .i64 x.t)]] w fun e w' => ∃ v', e = .returned v' ∧ Ext w w' ∧ Row w.heap.size w' 2 1 intCell v' (fitL l x) := by
  obtain ⟨a, cap, rfl⟩ := h.len
  have HS := tH h
  clear h
  go_enter Tryz.func180, Tryz.ntmps180
  go_wp2
  go_loopw [11, 5, 6, 7] (fun i o _ _ wr => ∃ k : Nat, k ≤ l.length ∧ i = .int .i64 k ∧ Ext (w.alloc (.cells #[(.int .i64 x.f), (.int .i64 x.t)] 124)) wr ∧ Hid (Row (w.alloc (.cells #[(.int .i64 x.f), (.int .i64 x.t)] 124)).heap.size wr 2 1 intCell o (fitN l x k))) (fun i _ _ _ _ => l.length - (intOf i).toNat)
  case atStart => exact ⟨0, Nat.zero_le _, rfl, xE, tH (Row.made1 _ _ _ _ _)⟩
  case round =>
    obtain ⟨k, hk, rfl, ⟨X, rfl⟩, HH⟩ := hrel
    obtain ⟨ao, co, rfl⟩ := HH.out.shape
    by_cases hlt : k < l.length
    · obtain ⟨b, off, rfl⟩ := slr_some HS.out hlt
      obtain ⟨ho, vx, hsx, h0⟩ := sl_at HS.out hlt
      obtain ⟨ax, cx, rfl⟩ := hsx.len
      have HX := tH hsx
      have hN := tH (fitN_step (x := x) hlt)
      have hZ := fitN_len l x k
      clear hsx
      go_wp2_with fail
      refine (implisFree_any _ l[k] _ _ _ (HX.out.ext rSpn_stable xE)).mono ?_
      rintro e _ ⟨rfl, Y, rfl⟩
      cases hf : freeL l[k] ⟨x.f, x.t⟩
      · go_wp2
        exact ⟨⟨k + 1, by omega, by go_num, xE, tH (by rw [hN.out, if_neg (by rw [show freeL l[k] x = false from hf]; simp)]; exact HH.out.ext xE)⟩, by simp [intOf]; omega⟩
      · go_wp2_with (at_builtin; go_must (refine Row.app el_Int rfl _ _ rfl (w.alloc (.cells #[(.int .i64 x.f), (.int .i64 x.t)] 124)) xE _ _ rfl (HH.out.ext xE) (k : Int) rfl _ ?_ rfl rfl ?_ ?_ ?_ ?_); (simp [go_sem]); (simp [Value.oneCell']); (unfold maxLen; omega); omega; intro v' X' hown' hne; have HO' := tH hown'; clear hown' hne)
        exact ⟨⟨k + 1, by omega, by go_num, xE, tH (by rw [hN.out, if_pos (show freeL l[k] x = true from hf)]; exact HO'.out)⟩, by simp [intOf]; omega⟩
    · go_wp2
      obtain rfl : k = l.length := by omega
      go_ret
      exact ⟨_, rfl, xE, (by have := HH.out.mono (B' := w.heap.size) (by simp); unfold fitL; exact this)⟩

set_option maxHeartbeats 1600000 in
theorem l03Fit_any (v : Value) (l : List (List Spn)) (need : Int) (x : Spn) (w : World) (h : SlR w 1 rSpnS v l) (hl : l.length ≤ 1048576) (hn : 1 ≤ need) :
    Calls Tryz.prog 96 #[v, (.int .i64 need), .agg #[(.int .i64 x.f), (.int .i64 x.t)]] w fun e w' => ∃ v', e = .returned v' ∧ Ext w w' ∧ Row w.heap.size w' 2 1 intCell v' (fitNeed l need x) := by
  obtain ⟨a, cap, rfl⟩ := h.len
  have HS := tH h
  clear h
  go_enter Tryz.func96, Tryz.ntmps96
  go_wp2
  go_loopw [8, 7] (fun i o wr => ∃ k : Nat, k ≤ l.length ∧ i = .int .i64 k ∧ Ext (w.alloc (.cells #[(.int .i64 x.f), (.int .i64 x.t)] 124)) wr ∧ ((fitN l x k).length : Int) ≤ need ∧ Hid (Row (w.alloc (.cells #[(.int .i64 x.f), (.int .i64 x.t)] 124)).heap.size wr 2 1 intCell o (fitN l x k))) (fun i _ _ => l.length - (intOf i).toNat)
  case atStart => exact ⟨0, Nat.zero_le _, rfl, xE, (by show ((0 : Nat) : Int) ≤ need; omega), tH (Row.made1 _ _ _ _ _)⟩
  case round =>
    obtain ⟨k, hk, rfl, ⟨X, rfl⟩, hle, HH⟩ := hrel
    obtain ⟨ao, co, rfl⟩ := HH.out.shape
    have hZ := fitN_len l x k
    by_cases hlt : k < l.length
    · by_cases hfull : ((fitN l x k).length : Int) < need
      · obtain ⟨b, off, rfl⟩ := slr_some HS.out hlt
        obtain ⟨ho, vx, hsx, h0⟩ := sl_at HS.out hlt
        obtain ⟨ax, cx, rfl⟩ := hsx.len
        have HX := tH hsx
        have hN := tH (fitN_step (x := x) hlt)
        clear hsx
        go_upto_region 5 with fail
        cases hf : freeL l[k] ⟨x.f, x.t⟩
        all_goals (refine wp_region_x 6 (by kernel_rfl) (by kernel_rfl) (by kernel_rfl) ?_; (iterate 6 (apply XReg.step; (case h => (intro w' hw'; obtain ⟨X', rfl⟩ := hw'; go_wp2_with ((go_at_call 123; refine (l03Free_any _ l[k] _ _ _ (HX.out.ext rSpn_stable xE)).mono ?_; rintro e _ ⟨rfl, Y, rfl⟩)); exact ⟨rfl, xE⟩)); (case hv => kernel_rfl))); refine XReg.doneN (fun X => ?_))
        · go_wp2
          exact ⟨⟨k + 1, by omega, by go_num, xE, by rw [hN.out, if_neg (by rw [show freeL l[k] x = false from hf]; simp)]; exact hle, tH (by rw [hN.out, if_neg (by rw [show freeL l[k] x = false from hf]; simp)]; exact HH.out.ext xE)⟩, by simp [intOf]; omega⟩
        · go_wp2_with (at_builtin; go_must (refine Row.app el_Int rfl _ _ rfl (w.alloc (.cells #[(.int .i64 x.f), (.int .i64 x.t)] 124)) xE _ _ rfl (HH.out.ext xE) (k : Int) rfl _ ?_ rfl rfl ?_ ?_ ?_ ?_); (simp [go_sem]); (simp [Value.oneCell']); (unfold maxLen; omega); omega; intro v' X' hown' hne; have HO' := tH hown'; clear hown' hne)
          exact ⟨⟨k + 1, by omega, by go_num, xE, by rw [hN.out, if_pos (show freeL l[k] x = true from hf)]; simp; omega, tH (by rw [hN.out, if_pos (show freeL l[k] x = true from hf)]; exact HO'.out)⟩, by simp [intOf]; omega⟩
      · have hfb : decide (((fitN l x k).length : Int) < need) = false := decide_eq_false hfull
        have hge : ¬ ((fitN l x k).length : Int) < need := hfull
        go_wp2
        go_ret
        refine ⟨_, rfl, xE, ?_⟩
        have hq : fitNeed l need x = fitN l x k := by
          obtain ⟨t, ht⟩ := fitN_pre (rows := l) (x := x) k (l.length - k)
          rw [show k + (l.length - k) = l.length by omega] at ht
          unfold fitNeed fitL
          rw [ht, if_pos (by simp; omega), show need.toNat = (fitN l x k).length by omega]
          simp
        rw [hq]
        exact HH.out.mono (by simp)
    · obtain rfl : k = l.length := by omega
      by_cases hfull : ((fitN l x l.length).length : Int) < need
      · have hq : fitNeed l need x = [] := by unfold fitNeed fitL; rw [if_neg (by omega)]
        go_wp2
        go_ret
        refine ⟨_, rfl, xE, ?_⟩
        try rw [hq]
        exact Row.made2 _ _ _ _ _ _
      · have hq : fitNeed l need x = fitN l x l.length := by
          unfold fitNeed fitL
          rw [if_pos (by omega), show need.toNat = (fitN l x l.length).length by omega]
          simp
        go_wp2
        go_ret
        refine ⟨_, rfl, xE, ?_⟩
        exact HH.out.mono (by simp)

end Go.Proofs.YtbmbanelodabgaaGreatDoor

set_option maxRecDepth 100000
set_option linter.unusedVariables false
namespace Go.Proofs.YtbmbanelodabgaaGreatDoor
open Go.RowKit Go.Fin1

/-! the first time at which so many rows are free -/
@[irreducible] def fitsAt (rows : List (List Spn)) (need length t : Int) : Bool := decide (need ≤ (fitL rows ⟨t, t + length⟩).length)
@[irreducible] def firstL (rows : List (List Spn)) (need length now : Int) : Int :=
  match (List.range 41).find? (fun (d : Nat) => fitsAt rows need length (now + d)) with
  | some d => now + d
  | none => -1
theorem firstL_at {rows : List (List Spn)} {need length now : Int} {k : Nat} (hk : k ≤ 40) (h : ∀ d, d < k → fitsAt rows need length (now + (d : Nat)) = false) (hp : fitsAt rows need length (now + k) = true) : firstL rows need length now = now + k := by
  unfold firstL
  have : (List.range 41).find? (fun (d : Nat) => fitsAt rows need length (now + d)) = some k := by
    rw [List.find?_range_eq_some]
    exact ⟨hp, List.mem_range.2 (by omega), fun j hj => by simpa using h j hj⟩
  rw [this]
theorem firstL_none {rows : List (List Spn)} {need length now : Int} (h : ∀ d, d < 41 → fitsAt rows need length (now + (d : Nat)) = false) : firstL rows need length now = -1 := by
  unfold firstL
  have : (List.range 41).find? (fun (d : Nat) => fitsAt rows need length (now + d)) = none := by
    rw [List.find?_eq_none]
    intro d hd
    simpa using h d (List.mem_range.1 hd)
  rw [this]
theorem fitNeed_pos {rows : List (List Spn)} {need length t : Int} (hn : 1 ≤ need) : 0 < (fitNeed rows need ⟨t, t + length⟩).length ↔ fitsAt rows need length t = true := by
  unfold fitNeed fitsAt
  split
  · rename_i h
    rw [decide_eq_true h]
    simp; omega
  · rename_i h
    rw [decide_eq_false h]; simp
theorem fit_ge {rows : List (List Spn)} {need length t : Int} : need ≤ ((fitL rows ⟨t, t + length⟩).length : Int) ↔ fitsAt rows need length t = true := by
  unfold fitsAt; rw [decide_eq_true_eq]

set_option maxHeartbeats 800000 in
theorem l03First_any (v : Value) (l : List (List Spn)) (need length now : Int) (w : World) (h : SlR w 1 rSpnS v l) (hl : l.length ≤ 1048576) (hn : 1 ≤ need) (hl1 : 0 ≤ length) (hl2 : length ≤ 1000000) (hn1 : 0 ≤ now) (hn2 : now ≤ 1000000) :
    Calls Tryz.prog 95 #[v, (.int .i64 need), (.int .i64 length), (.int .i64 now)] w fun e w' => e = .returned (.int .i64 (firstL l need length now)) ∧ Ext w w' := by
  have HS := tH h
  clear h
  go_enter Tryz.func95, Tryz.ntmps95
  go_wp2
  go_loopw [9] (fun i wr => ∃ k : Nat, k ≤ 41 ∧ i = (.int .i64 (now + (k : Int))) ∧ Ext w wr ∧ Hid (∀ d, d < k → fitsAt l need length (now + (d : Nat)) = false)) (fun i _ => 41 - (intOf i - now).toNat)
  case atStart => exact ⟨0, by omega, by go_num, xE, tH (fun d h => absurd h (Nat.not_lt_zero _))⟩
  case round =>
    obtain ⟨k, hk, rfl, ⟨X, rfl⟩, HH⟩ := hrel
    by_cases hlt : k ≤ 40
    · have hb : decide (now + (k : Int) ≤ now + 40) = true := decide_eq_true (by omega)
      go_wp2_with fail
      refine (l03Fit_any v l need ⟨now + k, now + k + length⟩ _ (HS.out.ext rSpnS_stable xE) hl hn).mono ?_
      rintro e _ ⟨v', rfl, ⟨Y, rfl⟩, hR⟩
      obtain ⟨a', c', rfl⟩ := hR.shape
      clear hR
      cases hf : fitsAt l need length (now + k)
      · have hb2 : ¬ 0 < (fitNeed l need ⟨now + k, now + k + length⟩).length := fun h => by rw [(fitNeed_pos hn).1 h] at hf; cases hf
        go_wp2
        exact ⟨⟨k + 1, by omega, by go_num, xE, tH (fun d hd => by
          by_cases e : d < k
          · exact HH.out d e
          · obtain rfl : d = k := by omega
            exact hf)⟩, by simp [intOf]; omega⟩
      · have hb2 := (fitNeed_pos hn).2 hf
        go_wp2
        go_ret
        exact ⟨ret_int (firstL_at hlt HH.out hf).symm, xE⟩
    · have hb : decide (now + (k : Int) ≤ now + 40) = false := decide_eq_false (by omega)
      go_wp2
      go_ret
      exact ⟨ret_int (firstL_none (fun d hd => HH.out d (by omega))).symm, xE⟩

theorem isNow_any (a : Int) (w : World) :
    Calls Tryz.prog 113 #[(.int .i64 a)] w fun e w' => e = .returned (.bool (isIn a 0 999900)) ∧ w = w' := by
  go_enter Tryz.func113, Tryz.ntmps113
  go_wp2_with (go_at_call 114; refine (within_any _ _ _ _).mono ?_; rintro e _ ⟨rfl, rfl⟩)
  go_ret
  exact ⟨rfl, rfl⟩

theorem l03Now_any (a : Int) (w : World) :
    Calls Tryz.prog 88 #[(.int .i64 a)] w fun e w' => e = .returned (.bool (isIn a 0 999900)) ∧ w = w' := by
  go_enter Tryz.func88, Tryz.ntmps88
  go_wp2_with (go_at_call 89; refine (l02Is_any _ _ _ _).mono ?_; rintro e _ ⟨rfl, rfl⟩)
  go_ret
  exact ⟨rfl, rfl⟩

@[irreducible] def firstFit (rows : List (List Spn)) (need length now : Int) : Int :=
  if (rowsOk rows && isIn need 1 6 && isIn length 1 40 && isIn now 0 999900) = true then firstL rows need length now else -1

set_option maxHeartbeats 1600000 in
theorem implFirstFit_yes (v : Value) (l : List (List Spn)) (need length now : Int) (w : World) (h : SlR w 1 rSpnS v l) (hl : l.length ≤ 1048576) (q1 : rowsOk l = true) (q2 : isIn need 1 6 = true) (q3 : isIn length 1 40 = true) (q4 : isIn now 0 999900 = true) :
    Calls Tryz.prog 148 #[v, (.int .i64 need), (.int .i64 length), (.int .i64 now)] w fun e w' => e = .returned (.int .i64 (firstL l need length now)) ∧ Ext w w' := by
  have HS := tH h
  clear h
  obtain ⟨hn, hn6⟩ := isIn_iff.1 q2
  obtain ⟨hl1, hl2⟩ := isIn_iff.1 q3
  obtain ⟨hn1, hn2⟩ := isIn_iff.1 q4
  go_enter Tryz.func148, Tryz.ntmps148
  go_wp2_with (first | (go_at_call 179; refine (rowsRight_any v l _ HS.out).mono ?_; rintro e _ ⟨rfl, X, rfl⟩) | (go_at_call 114; refine (within_any _ _ _ _).mono ?_; rintro e _ ⟨rfl, rfl⟩) | (go_at_call 113; refine (isNow_any _ _).mono ?_; rintro e _ ⟨rfl, rfl⟩))
  clear q1 q2 q3 q4
  go_loopw [9] (fun i wr => ∃ k : Nat, k ≤ 41 ∧ i = (.int .i64 (now + (k : Int))) ∧ Ext w wr ∧ Hid (∀ d, d < k → fitsAt l need length (now + (d : Nat)) = false)) (fun i _ => 41 - (intOf i - now).toNat)
  case atStart => exact ⟨0, by omega, by go_num, xE, tH (fun d h => absurd h (Nat.not_lt_zero _))⟩
  case round =>
    obtain ⟨k, hk, rfl, ⟨X, rfl⟩, HH⟩ := hrel
    by_cases hlt : k ≤ 40
    · have hb : decide (now + (k : Int) ≤ now + 40) = true := decide_eq_true (by omega)
      go_wp2_with fail
      refine (fit_any v l ⟨now + k, now + k + length⟩ _ (HS.out.ext rSpnS_stable xE) hl).mono ?_
      rintro e _ ⟨v', rfl, ⟨Y, rfl⟩, hR⟩
      obtain ⟨a', c', rfl⟩ := hR.shape
      clear hR
      cases hf : fitsAt l need length (now + k)
      · have hb2 : ¬ need ≤ ((fitL l ⟨now + k, now + k + length⟩).length : Int) := fun h => by rw [fit_ge.1 h] at hf; cases hf
        go_wp2
        exact ⟨⟨k + 1, by omega, by go_num, xE, tH (fun d hd => by
          by_cases e : d < k
          · exact HH.out d e
          · obtain rfl : d = k := by omega
            exact hf)⟩, by simp [intOf]; omega⟩
      · have hb2 := fit_ge.2 hf
        go_wp2
        go_ret
        exact ⟨ret_int (firstL_at hlt HH.out hf).symm, xE⟩
    · have hb : decide (now + (k : Int) ≤ now + 40) = false := decide_eq_false (by omega)
      go_wp2
      go_ret
      exact ⟨ret_int (firstL_none (fun d hd => HH.out d (by omega))).symm, xE⟩

set_option maxHeartbeats 1600000 in
theorem implFirstFit_any (v : Value) (l : List (List Spn)) (need length now : Int) (w : World) (h : SlR w 1 rSpnS v l) (hl : l.length ≤ 1048576) :
    Calls Tryz.prog 148 #[v, (.int .i64 need), (.int .i64 length), (.int .i64 now)] w fun e w' => e = .returned (.int .i64 (firstFit l need length now)) ∧ Ext w w' := by
  by_cases hall : (rowsOk l && isIn need 1 6 && isIn length 1 40 && isIn now 0 999900) = true
  · have HF : firstFit l need length now = firstL l need length now := by unfold firstFit; rw [if_pos hall]
    rw [Bool.and_eq_true, Bool.and_eq_true, Bool.and_eq_true] at hall
    rw [HF]
    exact implFirstFit_yes v l need length now w h hl hall.1.1.1 hall.1.1.2 hall.1.2 hall.2
  · have HF : Hid (firstFit l need length now = -1) := tH (by unfold firstFit; rw [if_neg hall])
    have HS := tH h
    clear h
    cases q1 : rowsOk l <;> cases q2 : isIn need 1 6 <;> cases q3 : isIn length 1 40 <;> cases q4 : isIn now 0 999900
    all_goals first
      | (exfalso; rw [q1, q2, q3, q4] at hall; exact hall rfl)
      | (clear hall
         go_enter Tryz.func148, Tryz.ntmps148
         go_wp2_with (first | (go_at_call 179; refine (rowsRight_any v l _ HS.out).mono ?_; rintro e _ ⟨rfl, X, rfl⟩) | (go_at_call 114; refine (within_any _ _ _ _).mono ?_; rintro e _ ⟨rfl, rfl⟩) | (go_at_call 113; refine (isNow_any _ _).mono ?_; rintro e _ ⟨rfl, rfl⟩))
         go_ret
         exact ⟨ret_int HF.out.symm, xE⟩)
end Go.Proofs.YtbmbanelodabgaaGreatDoor

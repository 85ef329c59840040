/- copy and append of zeros over rows of cells; mathematics of an insertion. -/
import Derived.Test.YtfmjnncgpfkejaaGreatBG
import Derived.Lib.AppendZerosOnto
import Derived.Lib.Overlaps
import Derived.Laws.CopyRow
set_option maxRecDepth 100000
set_option linter.unusedVariables false
namespace Go
open Go.RowKit

def patch (l : List Value) (o : Nat) (cs : List Value) : List Value := l.take o ++ cs ++ l.drop (o + cs.length)
theorem patch_len {l : List Value} {o : Nat} {cs : List Value} (h : o + cs.length ≤ l.length) : (patch l o cs).length = l.length := by
  unfold patch; simp; omega
theorem patch_room {C X D : List Value} {a k N : Nat} (ha : a ≤ N) (hN : N + k ≤ C.length) (hX : X.length = k) (hD : D = (C.take N).drop a) :
    (patch (patch C (a + k) D) a X).take (N + k) = C.take a ++ X ++ D := by
  have hl : D.length = N - a := by rw [hD]; simp; omega
  have h1 : (patch C (a + k) D).take a = C.take a := by
    unfold patch
    rw [List.append_assoc, List.take_append_of_le_length (by simp; omega), List.take_take]
    congr 1; omega
  have h2 : (patch C (a + k) D).drop (a + X.length) = D ++ C.drop (a + k + D.length) := by
    unfold patch
    rw [hX, List.append_assoc, List.drop_append_of_le_length (by simp; omega), List.drop_eq_nil_of_le (by simp; omega), List.nil_append]
  show ((patch C (a + k) D).take a ++ X ++ (patch C (a + k) D).drop (a + X.length)).take (N + k) = _
  rw [h1, h2, ← List.append_assoc]
  exact List.take_left' (by simp; omega)
theorem patch_new {C X D T : List Value} {a k N : Nat} (ha : a ≤ N) (hN : N + k ≤ C.length) (hX : X.length = k) (hT : C.take a = T) (hl : D.length = N - a) :
    (patch (patch C a X) (a + k) D).take (N + k) = T ++ X ++ D := by
  have h1 : (patch C a X).take (a + k) = C.take a ++ X := by
    unfold patch
    exact List.take_left' (by simp; omega)
  show ((patch C a X).take (a + k) ++ D ++ (patch C a X).drop (a + k + D.length)).take (N + k) = _
  rw [h1, hT]
  have : T.length = a := by rw [← hT]; simp; omega
  exact List.take_left' (by simp; omega)
theorem flatMap_drop {α : Type} {f : α → List Value} {K : Nat} (hf : ∀ x, (f x).length = K) (xs : List α) (k : Nat) : (xs.drop k).flatMap f = (xs.flatMap f).drop (k * K) := by
  by_cases hk : k ≤ xs.length
  · conv => rhs; rw [← List.take_append_drop k xs, List.flatMap_append]
    rw [List.drop_left' (by rw [flatMap_len hf, List.length_take]; congr 1; omega)]
  · rw [List.drop_eq_nil_of_le (by omega), List.drop_eq_nil_of_le (by rw [flatMap_len hf]; exact Nat.mul_le_mul_right _ (by omega))]; rfl

theorem setRow_chg (w : World) (g : Nat) (cur : Array Value) : Chg [g] w (w.setRow g cur) :=
  ⟨rfl, rfl, rfl, by simp, fun k _ hk => setRow_other w g k _ (fun e => hk (by simp [e]))⟩

section
variable {P : Program} {ops : Array Oper} {rest : List Oper} {op : Oper} {a : Act} {Q : Exit → Act → World → Prop}
/-- copy onto a block of ours. -/
theorem copyK {t e : TypeId} {size bytes : Nat} {W : World} (E : ElemInfo P t e size bytes) (hgd : op.guard = none) (d s : Operand)
    (ho : op.op = .call { callee := .builtin .copy, args := #[d, s], argTypes := #[t, t] })
    (g o dLen dCap : Nat) (ad : Addr) (sLen sCap n : Nat) (cur : Array Value) (ty : TypeId) (cs : List Value)
    (hd : a.eval d = .slice (some ⟨g, o, none⟩) dLen dCap) (hs : a.eval s = .slice (some ad) sLen sCap)
    (hg : W.heap[g]? = some (.cells cur ty (0, 0))) (hn : n = Nat.min sLen dLen) (hcl : cs.length = n * size)
    (hsrc : ∀ j v, cs[j]? = some v → W.cell? (ad.add j) = some v) (hfit : o + cs.length ≤ cur.size) (h1 : ∀ v ∈ cs, v.oneCell' = true)
    (h : ∀ w', Chg [g] W w' → w'.heap[g]? = some (.cells (patch cur.toList o cs).toArray ty (0, 0)) → wpList P ops Q rest (a.put op.dst (.int .i64 n)) w') : wpList P ops Q (op :: rest) a W := by
  obtain ⟨i, z, hi, hz, hsize, hby, hzs⟩ := E.info
  subst hsize
  refine wpList_plain hgd fun K hK => ?_
  have hl := run_firstCells_some (P := P) W i.size n ad sLen sCap cs hcl hsrc
  have hst := run_storeCells_at P g o ty cs 0 cur W hg (by simpa using hfit) h1
  have hrun : (Builtin.copy_ #[t, t] op.type #[.slice (some ⟨g, o, none⟩) dLen dCap, .slice (some ad) sLen sCap]).run P W = .ok (goInt n) (W.setRow g (patch cur.toList o cs).toArray) := by
    simp [Builtin.copy_, run_underlying E.und, Builtin.lenOf, sizeOf, typeInfo, hi, ← hn, hl, hst, patch]
  unfold Oper.wp
  simp [execOp, ho, resolve, invoke, builtin, hd, hs, hrun, Result.andThen]
  exact hK _ _ (h _ (setRow_chg W g _) (setRow_heap W g cur _ ty _ hg))

/-- append(s[:i], make(.., k)...) without room. -/
theorem growK {t tn e : TypeId} {size bytes : Nat} {W : World} (E : ElemInfo P t e size bytes) (htn : P.underlying tn = some (.int .i64)) (hgd : op.guard = none) (s x : Operand)
    (ho : op.op = .call { callee := .builtin .append, args := #[s, x], argTypes := #[t, tn] })
    (ad : Addr) (i sCap k : Nat) (xs : List Value)
    (hs : a.eval s = .slice (some ad) i sCap) (hx : a.eval x = .int .i64 (k : Int)) (hxl : xs.length = i * size)
    (hsrc : ∀ j v, xs[j]? = some v → W.cell? (ad.add j) = some v) (h0 : 0 < k) (hroom : sCap < i + k) (h63 : i + k ≤ maxLen) (hbytes : (i + k) * bytes ≤ 140737488355328)
    (h : ∀ w' cap cur, Ext W w' → w'.heap[W.heap.size]? = some (.cells cur e (0, 0)) → i + k ≤ cap → cap ≤ maxLen → cur.size = cap * size → cur.toList.take (i * size) = xs → wpList P ops Q rest (a.put op.dst (.slice (some ⟨W.heap.size, 0, none⟩) (i + k) cap)) w') : wpList P ops Q (op :: rest) a W := by
  obtain ⟨q, z, hi, hz, hsize, hby, hzs⟩ := E.info
  have hp := E.pos
  subst hsize
  subst hby
  refine wpList_plain hgd fun K hK => ?_
  have hold := run_firstCells_some (P := P) W.drew q.size i ad i sCap xs hxl hsrc
  have hfit := growslice_fits hroom hbytes
  have hrun := Lib.run_append_grow_zeros W t tn op.type e q z .i64 .i64 E.und htn hi hz (some ad) i sCap xs hold k h0 hp hroom (by unfold maxLen at h63; omega) (by
    have : k * q.bytes ≤ (i + k) * q.bytes := Nat.mul_le_mul_right _ (by omega)
    omega) hfit
  unfold Oper.wp
  simp [execOp, ho, resolve, invoke, builtin, hs, hx, hrun, Result.andThen]
  refine hK _ _ (h _ _ _ ((Ext.refl _).drew.alloc _) (heap_alloc_new W.drew _) (grownCap_ge W _ _ _) (grownCap_le_maxLen W _ _ _ h63) ?_ ?_)
  · have := grownCap_ge W (i + k) sCap e
    simp only [Array.size_append, List.size_toArray, size_zeroCells, hzs, hxl, ← Nat.add_mul]
    congr 1; omega
  · simp only [Array.toList_append]
    exact List.take_left' hxl
end
end Go

/- Texts of the claim FnExactApplyEdit, part 23 of 47, joined: MSet. No condition beyond those that stand at each. -/
import Derived.Test.YtlecpmgdoomngaaZFnExactApplyEdit22
import Derived.Test.YtlecpmgdoomngaaProg
import Derived.Maps.Own
import Derived.Maps.OwnSet
import Derived.Maps.Views
import Derived.WalkKit
section
namespace Go.Proofs.Ytlecpmgdoomngaa.M
open Go.RowKit Go.Maps Go.Proofs.YtlecpmgdoomngaaW.PrintWords Go.Proofs.YtlecpmgdoomngaaW.PrintLast Go.Proofs.YtlecpmgdoomngaaW.PrintMore
set_option linter.unusedVariables false
theorem law3 : Keyed Try.prog 3 := int_keyed Try.underlying3
theorem zero4 (w : World) : (zeroValue 4).run Try.prog w = .ok (.bool false) w := by kernel_rfl
theorem elem_bool_inv {v : Value} {z : DataW Nat × List MemPlace} (h : plainElem Try.prog 4 v = some z) : ∃ x, v = .bool x ∧ z = (.lit (.bool x), []) := by
 have he := Try.underlying4
 cases v <;> simp [plainElem, he] at h
 exact ⟨_, rfl, h.symm⟩
def dist : List Int → Nat
 | [] => 0
 | x :: xs => if x ∈ xs then dist xs else dist xs + 1
theorem dist_cons (x : Int) (xs : List Int) : dist (x :: xs) = if x ∈ xs then dist xs else dist xs + 1 := rfl
theorem lit_ne {x y : Int} (h : ¬ y = x) : (Lit.int .i64 y) ≠ Lit.int .i64 x := by
 intro e
 injection e with e1 e2
 exact h e2
def SetAt (w : World) (b n : Nat) (xs : List Int) : Prop :=
 ∃ D : DataW Nat, w.ownsMap Try.prog 3 (plainElem Try.prog 4) b n D ∧ (∀ x : Int, has D (.int .i64 x) = decide (x ∈ xs)) ∧ (∀ x : Int, D.atKey (.int .i64 x) (.lit (.bool false)) = .lit (.bool (decide (x ∈ xs)))) ∧ Maps.size D = dist xs
section
variable {w w' : World} {b n : Nat} {xs : List Int}
theorem set_made (w : World) : SetAt (w.alloc (.map #[] 0)) w.heap.size 0 [] :=
 ⟨.map [], World.ownsMap_made _ _ _ _, fun x => by simp [has], fun x => by simp [DataW.atKey], rfl⟩
theorem SetAt.lt (h : SetAt w b n xs) : b < w.heap.size := by
 obtain ⟨D, h1, _⟩ := h
 exact h1.lt
theorem SetAt.kept {row : Option Nat} (h : SetAt w b n xs) (hg : w.grownBy w' row) (hne : some b ≠ row) : SetAt w' b n xs := by
 obtain ⟨D, h1, h2⟩ := h
 exact ⟨D, h1.kept hg hne, h2⟩
theorem SetAt.block (h : SetAt w b n xs) (hb : w'.heap[b]? = w.heap[b]?) : SetAt w' b n xs := by
 obtain ⟨D, ⟨es, clock, h0, h1⟩, h2⟩ := h
 exact ⟨D, ⟨es, clock, hb.trans h0, h1⟩, h2⟩
theorem SetAt.below (h : SetAt w b n xs) (hb : Below w.heap.size w w') : SetAt w' b n xs := h.block (hb.block _ h.lt)
theorem SetAt.mono (h : SetAt w b n xs) {m : Nat} (hm : n ≤ m) : SetAt w b m xs := by
 obtain ⟨D, h1, h2⟩ := h
 exact ⟨D, h1.mono hm, h2⟩
theorem SetAt.look (h : SetAt w b n xs) {x : Int} (hx : (Lit.int .i64 x).wf = true) : (Instr.lookup 54 (.map (some b)) (.int .i64 x) false).run Try.prog w = .ok (.bool (decide (x ∈ xs))) w := by
 obtain ⟨D, h1, _, h3, _⟩ := h
 obtain ⟨v, ps, hrun, hv⟩ := h1.lookup law3 Try.underlying54 (zero4 _) (plainElem_bool Try.underlying4 false) (keyOf_int_mk Try.underlying3 hx)
 rw [h3 x] at hv
 obtain ⟨y, rfl, hy⟩ := elem_bool_inv hv
 simp only [Prod.mk.injEq, DataW.lit.injEq, Lit.bool.injEq] at hy
 rw [hrun, hy.1]
theorem SetAt.put (h : SetAt w b n xs) (hn : n < maxLen) {x : Int} (hx : (Lit.int .i64 x).wf = true) :
  ∃ w', (Instr.mapUpdate 54 (.map (some b)) (.int .i64 x) (.bool true)).run Try.prog w = .ok () w' ∧ SetAt w' b (n + 1) (x :: xs) ∧ w.grownBy w' (some b) := by
 obtain ⟨D, h1, h2, h3, h4⟩ := h
 obtain ⟨w', hrun, ho, hg⟩ := h1.update law3 Try.underlying54 hn (keyOf_int_mk Try.underlying3 hx) (plainElem_bool Try.underlying4 true)
 refine ⟨w', hrun, ⟨_, ho, ?_, ?_, ?_⟩, hg⟩
 ·intro y
  by_cases hy : y = x
  ·subst hy
   rw [has_put_same h1.isMap (by simp [WideAt.IsKeyLit])]
   simp
  ·rw [has_put_other (lit_ne hy), h2]
   simp [hy]
 ·intro y
  by_cases hy : y = x
  ·subst hy
   rw [atKey_put_same h1.isMap (by simp [WideAt.IsKeyLit])]
   simp
  ·rw [atKey_put_other (lit_ne hy), h3]
   simp [hy]
 ·rw [size_put (h1.tidy law3), h2, h4]
  rw [dist_cons]
  by_cases hm : x ∈ xs <;> simp [hm]
theorem SetAt.len (h : SetAt w b n xs) (ty : TypeId) : (Builtin.len_ #[54] ty #[.map (some b)]).run Try.prog w = .ok (.int .i64 (dist xs)) w := by
 obtain ⟨D, h1, _, _, h4⟩ := h
 rw [h1.len Try.underlying54 ty, h4]
end
end Go.Proofs.Ytlecpmgdoomngaa.M
end

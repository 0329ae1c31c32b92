/- Texts of the claim FnExactApplyEdit, part 36 of 47, joined: MOpen. No condition beyond those that stand at each. -/
import Derived.Test.YtlecpmgdoomngaaZFnExactApplyEdit35
import Derived.Test.YtlecpmgdoomngaaZFnExactApplyEdit21
import Derived.Deep.Slices
import Derived.Deep.Strs
import Derived.Lib.SmallJoins
import Derived.SizedLaws
import Derived.ChangeShapes
import Derived.WideShapes
section
namespace Go.Proofs.Ytlecpmgdoomngaa.M
open Go.RowKit Go.Proofs.YtlecpmgdoomngaaW.PrintWords Go.ChangeShapes Go.WideShapes
set_option linter.unusedVariables false
structure Opens {α : Type} (P : Program) (t : TypeId) (d : Kd α) (ok : α → Prop) : Prop where
 cells : P.cellsOf t = d.sz
 opn : ∀ {H : Type} {enc : TypeId × Value → H} {w : World} {base : Nat} {spare : Nat → Bool} {held : Bool} {fuel : Nat} {cs : List Value} {x : DataW H × List MemPlace},
  DataW.trod enc P w base spare held fuel t cs = some x → (∀ n ∈ x.1.weights P t, n ≤ reachBytes) → ∃ a, d.K w a cs ∧ ok a
theorem opens_int {P : Program} {t : TypeId} {k : IntKind} (ht : P.underlying t = some (.int k)) (hc : P.cellsOf t = 1) : Opens P t (Kd.int k) (fun n => (Lit.int k n).wf = true) :=
 ⟨hc, fun h _ => by
  obtain ⟨n, rfl, _, hw⟩ := DataW.trod_int ht h
  exact ⟨n, rfl, hw⟩⟩
theorem opens_string {P : Program} {t : TypeId} (ht : P.underlying t = some .string) (hc : P.cellsOf t = 1) : Opens P t Kd.string (fun s => s.size ≤ 140737488351232) :=
 ⟨hc, fun {_ _ _ _ _ _ _ _ x} h hz => by
  obtain ⟨s, rfl, rfl, _⟩ := DataW.trod_string ht h
  refine ⟨s, rfl, ?_⟩
  have := hz s.data.toList.length (by simp [DataW.weights])
  rw [Array.length_toList] at this
  exact this⟩
theorem mem_each {H : Type} {P : Program} {fs : List TypeId} {ds : List (DataW H)} {j : Nat} {t : TypeId} {d : DataW H} (ht : fs[j]? = some t) (hd : ds[j]? = some d) (h : ∀ n ∈ DataW.weightsEach P fs ds, n ≤ reachBytes) : ∀ n ∈ d.weights P t, n ≤ reachBytes :=
 fun n hn => h n (DataW.weights_mem_each ht hd n hn)
theorem mem_all {H : Type} {P : Program} {e : TypeId} : ∀ {ds : List (DataW H)} {j : Nat} {d : DataW H}, ds[j]? = some d → (∀ n ∈ DataW.weightsAll P e ds, n ≤ reachBytes) → ∀ n ∈ d.weights P e, n ≤ reachBytes
 | d0 :: ds, 0, d, hd, h => fun n hn => h n (by
   simp only [List.getElem?_cons_zero, Option.some.injEq] at hd
   subst hd
   simp only [DataW.weightsAll, List.mem_append]
   exact .inl hn)
 | d0 :: ds, j + 1, d, hd, h => mem_all (ds := ds) (j := j) (by simpa using hd) (fun n hn => h n (by simp only [DataW.weightsAll, List.mem_append]; exact .inr hn))
 | [], j, d, hd, _ => by simp at hd
theorem list_of {α : Type} {n : Nat} {p : Nat → α → Prop} (h : ∀ i, i < n → ∃ a, p i a) : ∃ l : List α, l.length = n ∧ ∀ i a, l[i]? = some a → p i a := by
 induction n with
 | zero => exact ⟨[], rfl, fun i a hi => by simp at hi⟩
 | succ n ih =>
  obtain ⟨l, hl, hp⟩ := ih (fun i hi => h i (Nat.lt_succ_of_lt hi))
  obtain ⟨a, ha⟩ := h n (Nat.lt_succ_self n)
  refine ⟨l ++ [a], by simp [hl], fun i b hi => ?_⟩
  by_cases hlt : i < l.length
  ·rw [List.getElem?_append_left hlt] at hi
   exact hp i b hi
  ·rw [List.getElem?_append_right (by omega)] at hi
   obtain rfl : i = n := by
    have := (List.getElem?_eq_some_iff.1 hi).1
    simp at this
    omega
   rw [hl, Nat.sub_self] at hi
   simp only [List.getElem?_cons_zero, Option.some.injEq] at hi
   exact hi ▸ ha
theorem opens_row {α : Type} {P : Program} {t e : TypeId} {d : Kd α} {ok : α → Prop} (ht : P.underlying t = some (.slice e)) (he : Opens P e d ok) {bytes : Nat} (hby : P.bytesOf e = bytes)
  {H : Type} {enc : TypeId × Value → H} {w : World} {base : Nat} {spare : Nat → Bool} {held : Bool} {fuel : Nat} {cs : List Value} {x : DataW H × List MemPlace}
  (h : DataW.trod enc P w base spare held fuel t cs = some x) (hz : ∀ n ∈ x.1.weights P t, n ≤ reachBytes) :
  ∃ (A : Option Addr) (c : Nat) (l : List α), cs = [.slice A l.length c] ∧ l.length ≤ c ∧ c ≤ 9223372036854775807 ∧ d.C w A l.length l ∧ l.length * bytes ≤ 140737488351232 ∧ ∀ a ∈ l, ok a := by
 rcases Go.Deep.open_slice ht h with ⟨rfl, rfl⟩ | ⟨a, len, cap, m, n, D, Pl, rfl, _, hl, hm, hmm, rfl, hx⟩
 ·exact ⟨none, 0, [], rfl, Nat.le_refl _, by omega, ⟨rfl, by simp, fun h => absurd h (by simp)⟩, by simp, fun a ha => by simp at ha⟩
 ·have hlm : len ≤ m := by rw [hmm]; split <;> omega
  have hw : ∀ n ∈ DataW.weightsAll P e ((List.range len).map D), n ≤ reachBytes := fun n hn => hz n (by
   simp only [DataW.weights, ht, List.mem_cons, List.mem_append]
   exact .inr (.inl hn))
  have hb : len * bytes ≤ 140737488351232 := by
   have := hz ((((List.range len).map D).length + ((List.range (m - len)).map fun j => D (len + j)).length) * P.bytesOf e) (by simp [DataW.weights, ht])
   rw [hby] at this
   simp only [List.length_map, List.length_range, reachBytes] at this
   have h2 : len * bytes ≤ (len + (m - len)) * bytes := Nat.mul_le_mul_right _ (by omega)
   omega
  obtain ⟨l, hll, hp⟩ := list_of (n := len) (p := fun i b => ok b ∧ ∃ c, c.length = d.sz ∧ d.K w b c ∧ ∀ j u, c[j]? = some u → w.cell? (a.add (i * d.sz + j)) = some u) (fun i hi => by
   obtain ⟨cs', h1, h2⟩ := hx i (by omega)
   obtain ⟨b, hK, hok⟩ := he.opn h2 (mem_all (ds := (List.range len).map D) (j := i) (by simp [hi]) hw)
   obtain ⟨_, hlen, hcell⟩ := World.cells?_some h1
   rw [he.cells] at hlen hcell
   refine ⟨b, hok, cs', hlen, hK, fun j u hu => ?_⟩
   have hj : j < d.sz := by have := (List.getElem?_eq_some_iff.1 hu).1; omega
   rw [← Go.Deep.add_add, hcell j hj]
   exact hu)
  subst hll
  refine ⟨some a, cap, l, rfl, hl, by simpa [maxLen] using hm, ⟨rfl, by simp only [maxLen] at hm; omega, fun _ => ⟨a, rfl, fun j p hj => (hp j p hj).2⟩⟩, hb, fun b hb => ?_⟩
  obtain ⟨j, hj⟩ := List.getElem?_of_mem hb
  exact (hp j b hj).1
theorem opens_slice {α : Type} {P : Program} {t e : TypeId} {d : Kd α} {ok : α → Prop} {bytes : Nat} (ht : P.underlying t = some (.slice e)) (hc : P.cellsOf t = 1) (he : Opens P e d ok) (hby : P.bytesOf e = bytes) :
  Opens P t (Kd.slice e d) (fun l => l.length * bytes ≤ 140737488351232 ∧ ∀ a ∈ l, ok a) :=
 ⟨hc, fun h hz => by
  obtain ⟨A, c, l, rfl, hl, _, hC, hb, hok⟩ := opens_row ht he hby h hz
  exact ⟨l, ⟨A, c, rfl, hl, hC⟩, hb, hok⟩⟩
theorem opens_struct4 {α β γ δ : Type} {P : Program} {t : TypeId} {f0 f1 f2 f3 : Field} {d0 : Kd α} {d1 : Kd β} {d2 : Kd γ} {d3 : Kd δ} {o0 : α → Prop} {o1 : β → Prop} {o2 : γ → Prop} {o3 : δ → Prop} (ht : P.underlying t = some (.struct #[f0, f1, f2, f3]))
  (h0 : Opens P f0.type d0 o0) (h1 : Opens P f1.type d1 o1) (h2 : Opens P f2.type d2 o2) (h3 : Opens P f3.type d3 o3) (e0 : f0.offset = 0) (e1 : f1.offset = d0.sz) (e2 : f2.offset = d0.sz + d1.sz) (e3 : f3.offset = d0.sz + d1.sz + d2.sz) (hc : P.cellsOf t = d0.sz + (d1.sz + (d2.sz + d3.sz))) :
  Opens P t (Kd.pair d0 (Kd.pair d1 (Kd.pair d2 d3))) (fun x => o0 x.1 ∧ o1 x.2.1 ∧ o2 x.2.2.1 ∧ o3 x.2.2.2) :=
 ⟨hc, fun h hz => by
  obtain ⟨xs, n, _, rfl, hl, hlen, hf⟩ := DataW.trod_struct ht h
  match xs, hlen with
  | [y0, y1, y2, y3], _ =>
   have g0 := hf 0 f0 rfl
   have g1 := hf 1 f1 rfl
   have g2 := hf 2 f2 rfl
   have g3 := hf 3 f3 rfl
   have hz' : ∀ n ∈ DataW.weightsEach P [f0.type, f1.type, f2.type, f3.type] [y0.1, y1.1, y2.1, y3.1], n ≤ reachBytes := fun n hn => hz n (by simpa [DataW.weights, ht] using hn)
   obtain ⟨a, ha, p0⟩ := h0.opn g0 (mem_each (j := 0) rfl rfl hz')
   obtain ⟨b, hb, p1⟩ := h1.opn g1 (mem_each (j := 1) rfl rfl hz')
   obtain ⟨c, hcc, p2⟩ := h2.opn g2 (mem_each (j := 2) rfl rfl hz')
   obtain ⟨e, hee, p3⟩ := h3.opn g3 (mem_each (j := 3) rfl rfl hz')
   rw [h0.cells, e0] at ha
   rw [h1.cells, e1] at hb
   rw [h2.cells, e2] at hcc
   rw [h3.cells, e3] at hee
   rw [List.take_of_length_le (i := d3.sz) (by rw [List.length_drop, hl, hc]; omega)] at hee
   refine ⟨(a, b, c, e), ⟨_, _, ?_, ha, ⟨_, _, rfl, hb, ⟨_, _, rfl, hcc, hee⟩⟩⟩, p0, p1, p2, p3⟩
   rw [List.drop_zero, ← List.drop_drop, ← List.drop_drop, ← List.drop_drop, List.take_append_drop, List.take_append_drop, List.take_append_drop]⟩
theorem opens_struct5 {α β γ δ ε : Type} {P : Program} {t : TypeId} {f0 f1 f2 f3 f4 : Field} {d0 : Kd α} {d1 : Kd β} {d2 : Kd γ} {d3 : Kd δ} {d4 : Kd ε} {o0 : α → Prop} {o1 : β → Prop} {o2 : γ → Prop} {o3 : δ → Prop} {o4 : ε → Prop} (ht : P.underlying t = some (.struct #[f0, f1, f2, f3, f4]))
  (h0 : Opens P f0.type d0 o0) (h1 : Opens P f1.type d1 o1) (h2 : Opens P f2.type d2 o2) (h3 : Opens P f3.type d3 o3) (h4 : Opens P f4.type d4 o4) (e0 : f0.offset = 0) (e1 : f1.offset = d0.sz) (e2 : f2.offset = d0.sz + d1.sz) (e3 : f3.offset = d0.sz + d1.sz + d2.sz) (e4 : f4.offset = d0.sz + d1.sz + d2.sz + d3.sz) (hc : P.cellsOf t = d0.sz + (d1.sz + (d2.sz + (d3.sz + d4.sz)))) :
  Opens P t (Kd.pair d0 (Kd.pair d1 (Kd.pair d2 (Kd.pair d3 d4)))) (fun x => o0 x.1 ∧ o1 x.2.1 ∧ o2 x.2.2.1 ∧ o3 x.2.2.2.1 ∧ o4 x.2.2.2.2) :=
 ⟨hc, fun h hz => by
  obtain ⟨xs, n, _, rfl, hl, hlen, hf⟩ := DataW.trod_struct ht h
  match xs, hlen with
  | [y0, y1, y2, y3, y4], _ =>
   have g0 := hf 0 f0 rfl
   have g1 := hf 1 f1 rfl
   have g2 := hf 2 f2 rfl
   have g3 := hf 3 f3 rfl
   have g4 := hf 4 f4 rfl
   have hz' : ∀ n ∈ DataW.weightsEach P [f0.type, f1.type, f2.type, f3.type, f4.type] [y0.1, y1.1, y2.1, y3.1, y4.1], n ≤ reachBytes := fun n hn => hz n (by simpa [DataW.weights, ht] using hn)
   obtain ⟨a, ha, p0⟩ := h0.opn g0 (mem_each (j := 0) rfl rfl hz')
   obtain ⟨b, hb, p1⟩ := h1.opn g1 (mem_each (j := 1) rfl rfl hz')
   obtain ⟨c, hcc, p2⟩ := h2.opn g2 (mem_each (j := 2) rfl rfl hz')
   obtain ⟨e, hee, p3⟩ := h3.opn g3 (mem_each (j := 3) rfl rfl hz')
   obtain ⟨f, hff, p4⟩ := h4.opn g4 (mem_each (j := 4) rfl rfl hz')
   rw [h0.cells, e0] at ha
   rw [h1.cells, e1] at hb
   rw [h2.cells, e2] at hcc
   rw [h3.cells, e3] at hee
   rw [h4.cells, e4] at hff
   rw [List.take_of_length_le (i := d4.sz) (by rw [List.length_drop, hl, hc]; omega)] at hff
   refine ⟨(a, b, c, e, f), ⟨_, _, ?_, ha, ⟨_, _, rfl, hb, ⟨_, _, rfl, hcc, ⟨_, _, rfl, hee, hff⟩⟩⟩⟩, p0, p1, p2, p3, p4⟩
   simp only [List.drop_zero, ← List.drop_drop, List.take_append_drop]⟩
theorem opens_iso {α β : Type} {P : Program} {t : TypeId} {d : Kd α} {o : α → Prop} {f : β → α} (g : α → β) (hg : ∀ a, f (g a) = a) (h : Opens P t d o) : Opens P t (Kd.iso d f) (fun x => o (f x)) :=
 ⟨h.cells, fun hh hz => by
  obtain ⟨a, ha, p⟩ := h.opn hh hz
  exact ⟨g a, by show d.K _ (f (g a)) _; rw [hg]; exact ha, by rw [hg]; exact p⟩⟩
theorem opens_weaken {α : Type} {P : Program} {t : TypeId} {d : Kd α} {o o' : α → Prop} (h : Opens P t d o) (ho : ∀ a, o a → o' a) : Opens P t d o' :=
 ⟨h.cells, fun hh hz => by
  obtain ⟨a, ha, p⟩ := h.opn hh hz
  exact ⟨a, ha, ho a p⟩⟩
theorem open_arg {α : Type} {P : Program} {ts : List TypeId} {t : TypeId} {d : Kd α} {ok : α → Prop} {j : Nat} (ho : Opens P t d ok) {H : Type} {enc : TypeId × Value → H} {W : World} {ds : List (DataW H)} {dj : DataW H} {v : Value} {sp : Nat → Bool} {he : Bool} {p : List MemPlace}
  (hsz : (DataW.weightsEach P ts ds).all (· ≤ reachBytes) = true) (ht : ts[j]? = some t) (hd : ds[j]? = some dj) (h : DataW.Trod enc P W 0 sp he t v dj p) : ∃ a, d.K W a v.cells.toList ∧ ok a := by
 obtain ⟨fuel, hf⟩ := h
 refine ho.opn hf (fun n hn => ?_)
 have := List.all_eq_true.1 hsz n (DataW.weights_mem_each ht hd n hn)
 simpa using this
end Go.Proofs.Ytlecpmgdoomngaa.M
end

/- Texts of the claim FnExactApplyEdit, part 29 of 47, joined: MSortPiv2. No condition beyond those that stand at each. -/
import Derived.Test.YtlecpmgdoomngaaZFnExactApplyEdit28
section
namespace Go.Proofs.Ytlecpmgdoomngaa.M
open Go.Shelf Go.RowKit Go.Lib Go.Sort
set_option linter.unusedVariables false
set_option linter.unusedSimpArgs false
variable {α : Type} [Inhabited α] {enc : α → List Value} {k blk off : Nat} {W w0 : World} {d : Array α} {lb sb : Array Value} {lt : α → α → Bool} {size : Nat}
def hintI : Hint → Int
 | .unknown => 0
 | .increasing => 1
 | .decreasing => 2
def pivP (lt : α → α → Bool) (d : Array α) (a l : Nat) : Nat × Nat :=
 if l ≥ 50 then
  median lt d (medianAdjacent lt d (a + l / 4 * 1) 0).1 (medianAdjacent lt d (a + l / 4 * 2) (medianAdjacent lt d (a + l / 4 * 1) 0).2).1 (medianAdjacent lt d (a + l / 4 * 3) (medianAdjacent lt d (a + l / 4 * 2) (medianAdjacent lt d (a + l / 4 * 1) 0).2).2).1 (medianAdjacent lt d (a + l / 4 * 3) (medianAdjacent lt d (a + l / 4 * 2) (medianAdjacent lt d (a + l / 4 * 1) 0).2).2).2
 else median lt d (a + l / 4 * 1) (a + l / 4 * 2) (a + l / 4 * 3) 0
theorem choose_eq (lt : α → α → Bool) (d : Array α) (a b : Nat) (h : 8 ≤ b - a) : choosePivot lt d a b = ((pivP lt d a (b - a)).1, if (pivP lt d a (b - a)).2 = 0 then .increasing else if (pivP lt d a (b - a)).2 = 12 then .decreasing else .unknown) := by
 unfold choosePivot pivP
 simp only [ge_iff_le, h, if_true]
set_option maxHeartbeats 8000000 in
set_option maxRecDepth 100000 in
theorem choose_call (S0 : Srt lb sb enc k lt blk off size w0) (h : SWK enc k w0 blk off d W) (hs : d.size = size) (a b : Nat) (hab : 8 ≤ b - a) (hb : b ≤ size) {p : Nat} {hint : Hint} (hr : choosePivot lt d a b = (p, hint)) :
  Calls Try.prog 59 #[.agg #[.func (.func 25) #[] lb, .func (.func 53) #[] sb], .int .i64 a, .int .i64 b] W fun e w' => e = .returned (.tuple #[.int .i64 (p : Int), .int .i64 (hintI hint)]) ∧ SWK enc k W blk off d w' := by
 have hu78 := Try.underlying78
 have S := S0.on h hs
 have hsz := S.sz
 rw [choose_eq lt d a b hab] at hr
 have hlt := S.hblk
 have C0 : Cx enc k blk off W (W.heap.size + 1) 0 d ((W.alloc (.cells #[.func (.func 25) #[] lb, .func (.func 53) #[] sb] 78)).alloc (.cells #[.int .i64 0] 3)) :=
  ⟨(sw_alloc (S0.holds h hs) _).alloc _, hlt, by omega, by
   have := heap_alloc_new (W.alloc (.cells #[.func (.func 25) #[] lb, .func (.func 53) #[] sb] 78)) (.cells #[.int .i64 0] 3)
   rw [World.size_alloc] at this
   exact this⟩
 have O0 : Own lb sb W.heap.size ((W.alloc (.cells #[.func (.func 25) #[] lb, .func (.func 53) #[] sb] 78)).alloc (.cells #[.int .i64 0] 3)) :=
  ⟨by rw [alloc_eq_grow (W.alloc _), heap_grow_old _ _ (by rw [World.size_alloc]; omega)]; exact heap_alloc_new _ _⟩
 have N0 := Asd.mk (show W.heap.size ≠ blk ∧ W.heap.size ≠ W.heap.size + 1 from by omega)
 obtain ⟨c0, c1⟩ := O0.cells
 have HC0 := Asd.mk C0
 have HO0 := Asd.mk O0
 have HH := Asd.mk (show hintI hint = hintI (if (pivP lt d a (b - a)).2 = 0 then .increasing else if (pivP lt d a (b - a)).2 = 12 then .decreasing else .unknown) from by injection hr with _ e; rw [← e])
 have hp : (pivP lt d a (b - a)).1 = p := by injection hr
 have l8 : decide ((8 : Int) ≤ (b : Int) - (a : Int)) = true := decide_eq_true (by omega)
 clear hr C0 O0 hlt S0 h
 by_cases h50 : 50 ≤ b - a
 ·have l50 : decide ((50 : Int) ≤ (b : Int) - (a : Int)) = true := decide_eq_true (by omega)
  unfold pivP at hp HH
  rw [if_pos h50] at hp HH
  obtain ⟨i1, s1, e1⟩ : ∃ i1 s1, medianAdjacent lt d (a + (b - a) / 4 * 1) 0 = (i1, s1) := ⟨_, _, rfl⟩
  have g1 := median_bd lt d (a + (b - a) / 4 * 1 - 1) (a + (b - a) / 4 * 1) (a + (b - a) / 4 * 1 + 1) 0 size (by omega) (by omega) (by omega)
  rw [show median lt d (a + (b - a) / 4 * 1 - 1) (a + (b - a) / 4 * 1) (a + (b - a) / 4 * 1 + 1) 0 = (i1, s1) from e1] at g1
  replace g1 : i1 < size ∧ s1 ≤ 3 := g1
  simp only [e1] at hp HH
  obtain ⟨i2, s2, e2⟩ : ∃ i2 s2, medianAdjacent lt d (a + (b - a) / 4 * 2) s1 = (i2, s2) := ⟨_, _, rfl⟩
  have g2 := median_bd lt d (a + (b - a) / 4 * 2 - 1) (a + (b - a) / 4 * 2) (a + (b - a) / 4 * 2 + 1) s1 size (by omega) (by omega) (by omega)
  rw [show median lt d (a + (b - a) / 4 * 2 - 1) (a + (b - a) / 4 * 2) (a + (b - a) / 4 * 2 + 1) s1 = (i2, s2) from e2] at g2
  replace g2 : i2 < size ∧ s2 ≤ s1 + 3 := g2
  simp only [e2] at hp HH
  obtain ⟨i3, s3, e3⟩ : ∃ i3 s3, medianAdjacent lt d (a + (b - a) / 4 * 3) s2 = (i3, s3) := ⟨_, _, rfl⟩
  have g3 := median_bd lt d (a + (b - a) / 4 * 3 - 1) (a + (b - a) / 4 * 3) (a + (b - a) / 4 * 3 + 1) s2 size (by omega) (by omega) (by omega)
  rw [show median lt d (a + (b - a) / 4 * 3 - 1) (a + (b - a) / 4 * 3) (a + (b - a) / 4 * 3 + 1) s2 = (i3, s3) from e3] at g3
  replace g3 : i3 < size ∧ s3 ≤ s2 + 3 := g3
  simp only [e3] at hp HH
  obtain ⟨p4, s4, e4⟩ : ∃ p4 s4, median lt d i1 i2 i3 s3 = (p4, s4) := ⟨_, _, rfl⟩
  simp only [e4] at hp HH
  subst hp
  have H1 := Asd.mk (fun (w : World) (x : Int) (hx : x = ((a + (b - a) / 4 * 1 : Nat) : Int)) (hC : Cx enc k blk off W (W.heap.size + 1) 0 d w) => medAdj_call S hC hs (a + (b - a) / 4 * 1) (by omega) (by omega) (by omega) hx e1)
  have H2 := Asd.mk (fun (w : World) (x : Int) (hx : x = ((a + (b - a) / 4 * 2 : Nat) : Int)) (hC : Cx enc k blk off W (W.heap.size + 1) s1 d w) => medAdj_call S hC hs (a + (b - a) / 4 * 2) (by omega) (by omega) (by omega) hx e2)
  have H3 := Asd.mk (fun (w : World) (x : Int) (hx : x = ((a + (b - a) / 4 * 3 : Nat) : Int)) (hC : Cx enc k blk off W (W.heap.size + 1) s2 d w) => medAdj_call S hC hs (a + (b - a) / 4 * 3) (by omega) (by omega) (by omega) hx e3)
  have H4 := Asd.mk (fun (w : World) (x y z : Int) (hx : x = (i1 : Int)) (hy : y = (i2 : Int)) (hz : z = (i3 : Int)) (hC : Cx enc k blk off W (W.heap.size + 1) s3 d w) => median_call S hC hs i1 i2 i3 g1.1 g2.1 g3.1 (by omega) hx hy hz e4)
  clear e1 e2 e3 e4 g1 g2 g3 S hs
  go_enter Try.func59, Try.ntmps59
  go_wp2_with fail
  refine (H1.out _ _ (by omega) HC0.out).mono ?_
  rintro e w1 ⟨rfl, hC, hK⟩
  have HC1 := Asd.mk hC
  have HO1 := Asd.mk (HO0.out.keep hK N0.out.1 N0.out.2)
  clear hC hK HC0 HO0 c0 c1 H1
  obtain ⟨c0, c1⟩ := HO1.out.cells
  go_wp2_with fail
  refine (H2.out _ _ (by omega) HC1.out).mono ?_
  rintro e w2 ⟨rfl, hC, hK⟩
  have HC2 := Asd.mk hC
  have HO2 := Asd.mk (HO1.out.keep hK N0.out.1 N0.out.2)
  clear hC hK HC1 HO1 c0 c1 H2
  obtain ⟨c0, c1⟩ := HO2.out.cells
  go_wp2_with fail
  refine (H3.out _ _ (by omega) HC2.out).mono ?_
  rintro e w3 ⟨rfl, hC, hK⟩
  have HC3 := Asd.mk hC
  have HO3 := Asd.mk (HO2.out.keep hK N0.out.1 N0.out.2)
  clear hC hK HC2 HO2 c0 c1 H3
  obtain ⟨c0, c1⟩ := HO3.out.cells
  go_wp2_with fail
  refine (H4.out _ _ _ _ rfl rfl rfl HC3.out).mono ?_
  rintro e w4 ⟨rfl, hC, hK⟩
  have HC4 := Asd.mk hC
  have HO4 := Asd.mk (HO3.out.keep hK N0.out.1 N0.out.2)
  clear hC hK HC3 HO3 c0 c1 H4
  obtain ⟨c0, c1⟩ := HO4.out.cells
  obtain ⟨z0, z1⟩ := HC4.out.cell
  have hsw := Asd.mk HC4.out.sw
  clear HC4 HO4 c0 c1
  by_cases e0 : s4 = 0
  ·have t0 : ((s4 : Int) == 0) = true := beq_iff_eq.2 (by omega)
   rw [if_pos e0] at HH
   clear e0
   go_wp2
   go_ret2
   exact ⟨by rw [HH.out]; rfl, hsw.out⟩
  ·have t0 : ((s4 : Int) == 0) = false := beq_eq_false_iff_ne.2 (by omega)
   rw [if_neg e0] at HH
   by_cases e12 : s4 = 12
   ·have t1 : ((s4 : Int) == 12) = true := beq_iff_eq.2 (by omega)
    rw [if_pos e12] at HH
    clear e0 e12
    go_wp2
    go_ret2
    exact ⟨by rw [HH.out]; rfl, hsw.out⟩
   ·have t1 : ((s4 : Int) == 12) = false := beq_eq_false_iff_ne.2 (by omega)
    rw [if_neg e12] at HH
    clear e0 e12
    go_wp2
    go_ret2
    exact ⟨by rw [HH.out]; rfl, hsw.out⟩
 ·have l50 : decide ((50 : Int) ≤ (b : Int) - (a : Int)) = false := decide_eq_false (by omega)
  unfold pivP at hp HH
  rw [if_neg h50] at hp HH
  obtain ⟨p4, s4, e4⟩ : ∃ p4 s4, median lt d (a + (b - a) / 4 * 1) (a + (b - a) / 4 * 2) (a + (b - a) / 4 * 3) 0 = (p4, s4) := ⟨_, _, rfl⟩
  simp only [e4] at hp HH
  subst hp
  have H4 := Asd.mk (fun (w : World) (x y z : Int) (hx : x = ((a + (b - a) / 4 * 1 : Nat) : Int)) (hy : y = ((a + (b - a) / 4 * 2 : Nat) : Int)) (hz : z = ((a + (b - a) / 4 * 3 : Nat) : Int)) (hC : Cx enc k blk off W (W.heap.size + 1) 0 d w) => median_call S hC hs _ _ _ (by omega) (by omega) (by omega) (by omega) hx hy hz e4)
  clear e4 S hs
  go_enter Try.func59, Try.ntmps59
  go_wp2_with fail
  refine (H4.out _ _ _ _ (by omega) (by omega) (by omega) HC0.out).mono ?_
  rintro e w4 ⟨rfl, hC, hK⟩
  have HC4 := Asd.mk hC
  have HO4 := Asd.mk (HO0.out.keep hK N0.out.1 N0.out.2)
  clear hC hK HC0 HO0 c0 c1 H4
  obtain ⟨c0, c1⟩ := HO4.out.cells
  obtain ⟨z0, z1⟩ := HC4.out.cell
  have hsw := Asd.mk HC4.out.sw
  clear HC4 HO4 c0 c1
  by_cases e0 : s4 = 0
  ·have t0 : ((s4 : Int) == 0) = true := beq_iff_eq.2 (by omega)
   rw [if_pos e0] at HH
   clear e0
   go_wp2
   go_ret2
   exact ⟨by rw [HH.out]; rfl, hsw.out⟩
  ·have t0 : ((s4 : Int) == 0) = false := beq_eq_false_iff_ne.2 (by omega)
   rw [if_neg e0] at HH
   by_cases e12 : s4 = 12
   ·have t1 : ((s4 : Int) == 12) = true := beq_iff_eq.2 (by omega)
    rw [if_pos e12] at HH
    clear e0 e12
    go_wp2
    go_ret2
    exact ⟨by rw [HH.out]; rfl, hsw.out⟩
   ·have t1 : ((s4 : Int) == 12) = false := beq_eq_false_iff_ne.2 (by omega)
    rw [if_neg e12] at HH
    clear e0 e12
    go_wp2
    go_ret2
    exact ⟨by rw [HH.out]; rfl, hsw.out⟩
end Go.Proofs.Ytlecpmgdoomngaa.M
end

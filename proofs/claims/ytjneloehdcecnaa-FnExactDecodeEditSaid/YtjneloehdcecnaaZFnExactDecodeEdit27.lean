/- Texts of the claim FnExactDecodeEdit, part 27 of 38, joined: PimpleditFine, MEdit, MDecEd, MEncWalk. No condition beyond those that stand at each. -/
import Derived.Test.YtjneloehdcecnaaZFnExactDecodeEdit25
import Derived.Test.YtjneloehdcecnaaZFnExactDecodeEdit26
import Derived.Test.YtjneloehdcecnaaZFnExactDecodeEdit22
import Derived.Test.YtjneloehdcecnaaZFnExactDecodeEdit23
import Derived.Test.YtjneloehdcecnaaZFnExactDecodeEdit21
import Derived.Deep.Slices
import Derived.Deep.Strs
import Derived.Lib.SmallJoins
import Derived.SizedLaws
import Derived.ChangeShapes
import Derived.WideShapes
import Derived.Test.YtjneloehdcecnaaZFnExactDecodeEdit24
section
-- Written by a changed copy of the print program, one module a function. Not trusted: Lean checks it.
namespace Go.Proofs.Ytjneloehdcecnaa.P
open Go.RowKit Go.Proofs.YtjneloehdcecnaaW.PrintWords Go.Proofs.YtjneloehdcecnaaW.PrintLast Go.Proofs.YtjneloehdcecnaaW.PrintMore
attribute [local go_sem] max2_int min2_int max_two min_two max_three min_three max_four min_four   -- for this text's walks alone
set_option linter.unusedVariables false
set_option linter.unusedSimpArgs false

/-! ### impl_editFine: function 56 -/
mutual
def impl_editFine.j0 : Nat → Bool → List (S87) → List Int → Int → Int → Int → Option (Bool)
 | 0, _, _, _, _, _, _ => none
 | k + 1, x38, x238000, x238001, x238002, x238003, x238004 => if x38 = true then (some false) else (impl_editFine.l0 k x238000 (x238000.length : Int) 0 x238000 x238001 x238002 x238003 x238004)
def impl_editFine.l0 : Nat → List (S87) → Int → Int → List (S87) → List Int → Int → Int → Int → Option (Bool)
 | 0, _, _, _, _, _, _, _, _ => none
 | k + 1, x40, x41, x42, x238000, x238001, x238002, x238003, x238004 => if x42 < x41 then (if 0 ≤ x42 then (if x42 < (x40.length : Int) then ((impl_refFine.f ((rd_T87 x40 x42).f0) ((rd_T87 x40 x42).f1) ((rd_T87 x40 x42).f2) ((rd_T87 x40 x42).f3)).bind fun t242 => (if t242 = true then (impl_editFine.l0 k x40 x41 (wrap64 (x42 + 1)) x238000 x238001 x238002 x238003 x238004) else (some false))) else (none)) else (none)) else (impl_editFine.l1 k x238001 (x238001.length : Int) 0)
def impl_editFine.l1 : Nat → List Int → Int → Int → Option (Bool)
 | 0, _, _, _ => none
 | k + 1, x51, x52, x53 => if x53 < x52 then (if 0 ≤ x53 then (if x53 < (x51.length : Int) then ((impl_numFine.f (rd x51 x53)).bind fun t244 => (if t244 = true then (impl_editFine.l1 k x51 x52 (wrap64 (x53 + 1))) else (some false))) else (none)) else (none)) else (some true)
end
def impl_editFine.f (k : Nat) (l0_0 : List (S87)) (l0_1 : List Int) (a0_2 : Int) (a0_3 : Int) (a0_4 : Int) : Option (Bool) := if (l0_0.length : Int) > 1000 then (impl_editFine.j0 k true l0_0 l0_1 a0_2 a0_3 a0_4) else (if (l0_1.length : Int) > 1000 then (impl_editFine.j0 k true l0_0 l0_1 a0_2 a0_3 a0_4) else ((impl_numFine.f a0_2).bind fun t238 => (if t238 = true then ((impl_numFine.f a0_3).bind fun t239 => (if t239 = true then (if a0_4 < 0 then (impl_editFine.j0 k true l0_0 l0_1 a0_2 a0_3 a0_4) else (impl_editFine.j0 k (decide (a0_4 > 72057594037927935)) l0_0 l0_1 a0_2 a0_3 a0_4)) else (impl_editFine.j0 k true l0_0 l0_1 a0_2 a0_3 a0_4))) else (impl_editFine.j0 k true l0_0 l0_1 a0_2 a0_3 a0_4))))
theorem impl_editFine.mono_l : ∀ k, (∀ y0 y1 y2 y3 y4 y5, LeO (impl_editFine.j0 k y0 y1 y2 y3 y4 y5) (impl_editFine.j0 (k + 1) y0 y1 y2 y3 y4 y5)) ∧ (∀ y0 y1 y2 y3 y4 y5 y6 y7, LeO (impl_editFine.l0 k y0 y1 y2 y3 y4 y5 y6 y7) (impl_editFine.l0 (k + 1) y0 y1 y2 y3 y4 y5 y6 y7)) ∧ (∀ y0 y1 y2, LeO (impl_editFine.l1 k y0 y1 y2) (impl_editFine.l1 (k + 1) y0 y1 y2))
 | 0 => ⟨fun _ _ _ _ _ _ r h => by simp [impl_editFine.j0] at h, fun _ _ _ _ _ _ _ _ r h => by simp [impl_editFine.l0] at h, fun _ _ _ r h => by simp [impl_editFine.l1] at h⟩
 | k + 1 => by
  obtain ⟨ih0, ih1, ih2⟩ := impl_editFine.mono_l k
  refine ⟨?_, ?_, ?_⟩
  ·intro y0 y1 y2 y3 y4 y5
   unfold impl_editFine.j0
   repeat' first
   | (with_reducible exact ih0 _ _ _ _ _ _)
   | (with_reducible exact ih1 _ _ _ _ _ _ _ _)
   | (with_reducible exact ih2 _ _ _)
   | (with_reducible exact LeO.refl _)
   | (with_reducible exact LeO.none _)
   | (with_reducible refine LeO.ite ?_ ?_)
   | (with_reducible refine LeO.bind ?_ (fun _ => ?_))
   | exact ih0 _ _ _ _ _ _
   | exact ih1 _ _ _ _ _ _ _ _
   | exact ih2 _ _ _
   | exact LeO.none _
   | refine LeO.ite ?_ ?_
   | refine LeO.bind ?_ (fun _ => ?_)
  ·intro y0 y1 y2 y3 y4 y5 y6 y7
   unfold impl_editFine.l0
   repeat' first
   | (with_reducible exact ih0 _ _ _ _ _ _)
   | (with_reducible exact ih1 _ _ _ _ _ _ _ _)
   | (with_reducible exact ih2 _ _ _)
   | (with_reducible exact LeO.refl _)
   | (with_reducible exact LeO.none _)
   | (with_reducible refine LeO.ite ?_ ?_)
   | (with_reducible refine LeO.bind ?_ (fun _ => ?_))
   | exact ih0 _ _ _ _ _ _
   | exact ih1 _ _ _ _ _ _ _ _
   | exact ih2 _ _ _
   | exact LeO.none _
   | refine LeO.ite ?_ ?_
   | refine LeO.bind ?_ (fun _ => ?_)
  ·intro y0 y1 y2
   unfold impl_editFine.l1
   repeat' first
   | (with_reducible exact ih0 _ _ _ _ _ _)
   | (with_reducible exact ih1 _ _ _ _ _ _ _ _)
   | (with_reducible exact ih2 _ _ _)
   | (with_reducible exact LeO.refl _)
   | (with_reducible exact LeO.none _)
   | (with_reducible refine LeO.ite ?_ ?_)
   | (with_reducible refine LeO.bind ?_ (fun _ => ?_))
   | exact ih0 _ _ _ _ _ _
   | exact ih1 _ _ _ _ _ _ _ _
   | exact ih2 _ _ _
   | exact LeO.none _
   | refine LeO.ite ?_ ?_
   | refine LeO.bind ?_ (fun _ => ?_)
theorem impl_editFine.mono : ∀ a0 a1 a2 a3 a4 k, LeO (impl_editFine.f k a0 a1 a2 a3 a4) (impl_editFine.f (k + 1) a0 a1 a2 a3 a4) := by
 intro a0 a1 a2 a3 a4 k
 obtain ⟨ih0, ih1, ih2⟩ := impl_editFine.mono_l k
 unfold impl_editFine.f
 repeat' first
   | (with_reducible exact ih0 _ _ _ _ _ _)
   | (with_reducible exact ih1 _ _ _ _ _ _ _ _)
   | (with_reducible exact ih2 _ _ _)
   | (with_reducible exact LeO.refl _)
   | (with_reducible exact LeO.none _)
   | (with_reducible refine LeO.ite ?_ ?_)
   | (with_reducible refine LeO.bind ?_ (fun _ => ?_))
   | exact ih0 _ _ _ _ _ _
   | exact ih1 _ _ _ _ _ _ _ _
   | exact ih2 _ _ _
   | exact LeO.none _
   | refine LeO.ite ?_ ?_
   | refine LeO.bind ?_ (fun _ => ?_)
set_option maxHeartbeats 8000000 in
set_option maxRecDepth 100000 in
theorem impl_editFine.calls (k : Nat) (A0_0 : Option Addr) (c0_0 : Nat) (l0_0 : List (S87)) (A0_1 : Option Addr) (c0_1 : Nat) (l0_1 : List Int) (a0_2 : Int) (a0_3 : Int) (a0_4 : Int) (r : Bool) (w : World) (hr0_0 : Kd.C k87 w A0_0 l0_0.length l0_0) (hc0_0 : l0_0.length ≤ c0_0) (hr0_1 : Kd.C (Kd.int .i64) w A0_1 l0_1.length l0_1) (hc0_1 : l0_1.length ≤ c0_1) (h : impl_editFine.f k l0_0 l0_1 a0_2 a0_3 a0_4 = some r) :
  Calls Try.prog 56 #[.agg #[.slice A0_0 l0_0.length c0_0, .slice A0_1 l0_1.length c0_1, .int .i64 a0_2, .int .i64 a0_3, .int .i64 a0_4]] w fun e w' => e = .returned (.bool r) ∧ Below w.heap.size w w' := by
 have hu43 := Try.underlying43
 have hu87 := Try.underlying87
 have HR0_0 := Aside0.mk hr0_0
 have HC0_0 := Aside0.mk hc0_0
 clear hr0_0 hc0_0
 have HR0_1 := Aside0.mk hr0_1
 have HC0_1 := Aside0.mk hc0_1
 clear hr0_1 hc0_1
 have HB := Aside0.mk (Below.refl w.heap.size w)
 have H : (if (l0_0.length : Int) > 1000 then (impl_editFine.j0 k true l0_0 l0_1 a0_2 a0_3 a0_4) else (if (l0_1.length : Int) > 1000 then (impl_editFine.j0 k true l0_0 l0_1 a0_2 a0_3 a0_4) else ((impl_numFine.f a0_2).bind fun t238 => (if t238 = true then ((impl_numFine.f a0_3).bind fun t239 => (if t239 = true then (if a0_4 < 0 then (impl_editFine.j0 k true l0_0 l0_1 a0_2 a0_3 a0_4) else (impl_editFine.j0 k (decide (a0_4 > 72057594037927935)) l0_0 l0_1 a0_2 a0_3 a0_4)) else (impl_editFine.j0 k true l0_0 l0_1 a0_2 a0_3 a0_4))) else (impl_editFine.j0 k true l0_0 l0_1 a0_2 a0_3 a0_4))))) = some r := h
 clear h
 have HC2 := Aside0.mk H
 clear H
 go_enter Try.func56, Try.ntmps56
 go_upto_region 1 with (first | ((with_reducible refine gate_dst (N := 1) rfl ?_); (try (refine gate_guard (by rfl) ?_; dsimp only)); refine box_event ?hg (N := 1) ?hd (cs := #[.slice A0_0 l0_0.length c0_0, .slice A0_1 l0_1.length c0_1, .int .i64 a0_2, .int .i64 a0_3, .int .i64 a0_4]) (t := 43) ?hr ?_; (case hd => rfl); (case hg => rfl); (case hr => first | (go_simp; done) | (go_simp; rfl)); intro gb237 hg w3 hbox hb; have n0_ := Aside0.mk (below_step (by repeat (first | (with_reducible first | exact HB.out | apply below_alloc | apply pw_below_drewN | apply below_drew1) | exact HB.out)) hb); have n1_ := Aside0.mk (hbox); have n2_ := Aside0.mk ((by rw [hg]; exact (below_size (by repeat (first | (with_reducible first | exact HB.out | apply below_alloc | apply pw_below_drewN | apply below_drew1) | exact HB.out))) : w.heap.size ≤ gb237)); have n3_ := Aside0.mk ((by rw [hg]; exact (below_size (by repeat (first | (with_reducible first | exact HB.out | apply below_alloc | apply pw_below_drewN | apply below_drew1) | exact HB.out))) : w.heap.size ≤ gb237)); clear HB; have HB := n0_; have BK237 := n1_; have GW237 := n2_; have GE237 := n3_; clear n0_ n1_ n2_ n3_; clear hb hbox hg))
 (try simp only [Act.put, List.setIfInBounds_toArray, List.set_cons_zero, List.set_cons_succ])
 go_cut [38] (fun v38 wc => ∃ (kq : Nat) (x38_1 : Bool), v38 = .bool x38_1 ∧ Aside0 (impl_editFine.j0 kq x38_1 l0_0 l0_1 a0_2 a0_3 a0_4 = some r) ∧ Aside0 (kq ≤ k) ∧ Aside0 (wc.heap[gb237]? = some (.cells #[(.slice A0_0 l0_0.length c0_0), (.slice A0_1 l0_1.length c0_1), .int .i64 a0_2, .int .i64 a0_3, .int .i64 a0_4] 43 (0, 0))) ∧ Aside0 (Below w.heap.size w wc))
 case first =>
  have H := HC2.out
  clear HC2
  by_cases c4 : (l0_0.length : Int) > 1000
  ·rw [if_pos c4] at H
   have c4b0 : decide (1000 < (l0_0.length : Int)) = true := decide_eq_true c4
   have c4b1 : decide (1000 < l0_0.length) = true := decide_eq_true (by omega)
   clear c4
   (first | rw [c4b0] | (simp only [i64_w, i32_w]; rw [c4b0]) | skip)
   have H' := Aside0.mk H
   clear H
   have hcz5_0 : w3.cell? ⟨gb237, 0, none⟩ = some (.slice A0_0 l0_0.length c0_0) := (blk_cell BK237.out 0).trans rfl
   have hcz5_1 : w3.cell? ⟨gb237, 1, none⟩ = some (.slice A0_1 l0_1.length c0_1) := (blk_cell BK237.out 1).trans rfl
   have hcz5_2 : w3.cell? ⟨gb237, 2, none⟩ = some (.int .i64 a0_2) := (blk_cell BK237.out 2).trans rfl
   have hcz5_3 : w3.cell? ⟨gb237, 3, none⟩ = some (.int .i64 a0_3) := (blk_cell BK237.out 3).trans rfl
   have hcz5_4 : w3.cell? ⟨gb237, 4, none⟩ = some (.int .i64 a0_4) := (blk_cell BK237.out 4).trans rfl
   have hfz5_0 := blk_frozen BK237.out 0
   have hfz5_1 := blk_frozen BK237.out 1
   have hfz5_2 := blk_frozen BK237.out 2
   have hfz5_3 := blk_frozen BK237.out 3
   have hfz5_4 := blk_frozen BK237.out 4
   go_wp2
   go_meet
   case rel => exact ⟨_, (true), (by first | rfl | (simp; done) | (simp [*]; done)), H', ⟨by first | omega | exact Nat.le_refl _⟩, ⟨by (with_reducible repeat (first | refine blk_drewN ?_ _ | refine blk_drew ?_ | refine blk_alloc ?_ _)); exact BK237.out⟩, ⟨by repeat (first | (with_reducible first | exact HB.out | apply below_alloc | apply pw_below_drewN | apply below_drew1 | refine below_set ?_ GE237.out) | exact HB.out)⟩⟩
  ·rw [if_neg c4] at H
   have c4b0 : decide (1000 < (l0_0.length : Int)) = false := decide_eq_false c4
   have c4b1 : decide (1000 < l0_0.length) = false := decide_eq_false (by omega)
   clear c4
   (first | rw [c4b0] | (simp only [i64_w, i32_w]; rw [c4b0]) | skip)
   by_cases c6 : (l0_1.length : Int) > 1000
   ·rw [if_pos c6] at H
    have c6b0 : decide (1000 < (l0_1.length : Int)) = true := decide_eq_true c6
    have c6b1 : decide (1000 < l0_1.length) = true := decide_eq_true (by omega)
    clear c6
    have H' := Aside0.mk H
    clear H
    have hcz7_0 : w3.cell? ⟨gb237, 0, none⟩ = some (.slice A0_0 l0_0.length c0_0) := (blk_cell BK237.out 0).trans rfl
    have hcz7_1 : w3.cell? ⟨gb237, 1, none⟩ = some (.slice A0_1 l0_1.length c0_1) := (blk_cell BK237.out 1).trans rfl
    have hcz7_2 : w3.cell? ⟨gb237, 2, none⟩ = some (.int .i64 a0_2) := (blk_cell BK237.out 2).trans rfl
    have hcz7_3 : w3.cell? ⟨gb237, 3, none⟩ = some (.int .i64 a0_3) := (blk_cell BK237.out 3).trans rfl
    have hcz7_4 : w3.cell? ⟨gb237, 4, none⟩ = some (.int .i64 a0_4) := (blk_cell BK237.out 4).trans rfl
    have hfz7_0 := blk_frozen BK237.out 0
    have hfz7_1 := blk_frozen BK237.out 1
    have hfz7_2 := blk_frozen BK237.out 2
    have hfz7_3 := blk_frozen BK237.out 3
    have hfz7_4 := blk_frozen BK237.out 4
    go_wp2
    go_meet
    case rel => exact ⟨_, (true), (by first | rfl | (simp; done) | (simp [*]; done)), H', ⟨by first | omega | exact Nat.le_refl _⟩, ⟨by (with_reducible repeat (first | refine blk_drewN ?_ _ | refine blk_drew ?_ | refine blk_alloc ?_ _)); exact BK237.out⟩, ⟨by repeat (first | (with_reducible first | exact HB.out | apply below_alloc | apply pw_below_drewN | apply below_drew1 | refine below_set ?_ GE237.out) | exact HB.out)⟩⟩
   ·rw [if_neg c6] at H
    have c6b0 : decide (1000 < (l0_1.length : Int)) = false := decide_eq_false c6
    have c6b1 : decide (1000 < l0_1.length) = false := decide_eq_false (by omega)
    clear c6
    replace H := Option.bind_eq_some_iff.mp H
    obtain ⟨t238, A80, H⟩ := H
    replace H : (if t238 = true then ((impl_numFine.f a0_3).bind fun t239 => (if t239 = true then (if a0_4 < 0 then (impl_editFine.j0 k true l0_0 l0_1 a0_2 a0_3 a0_4) else (impl_editFine.j0 k (decide (a0_4 > 72057594037927935)) l0_0 l0_1 a0_2 a0_3 a0_4)) else (impl_editFine.j0 k true l0_0 l0_1 a0_2 a0_3 a0_4))) else (impl_editFine.j0 k true l0_0 l0_1 a0_2 a0_3 a0_4)) = some r := H
    have A8 := Aside0.mk A80
    clear A80
    by_cases c9 : t238 = true
    ·subst c9
     have H1 : ((impl_numFine.f a0_3).bind fun t239 => (if t239 = true then (if a0_4 < 0 then (impl_editFine.j0 k true l0_0 l0_1 a0_2 a0_3 a0_4) else (impl_editFine.j0 k (decide (a0_4 > 72057594037927935)) l0_0 l0_1 a0_2 a0_3 a0_4)) else (impl_editFine.j0 k true l0_0 l0_1 a0_2 a0_3 a0_4))) = some r := by rw [if_pos rfl] at H; exact H
     clear H
     have H := H1
     clear H1
     replace H := Option.bind_eq_some_iff.mp H
     obtain ⟨t239, A100, H⟩ := H
     replace H : (if t239 = true then (if a0_4 < 0 then (impl_editFine.j0 k true l0_0 l0_1 a0_2 a0_3 a0_4) else (impl_editFine.j0 k (decide (a0_4 > 72057594037927935)) l0_0 l0_1 a0_2 a0_3 a0_4)) else (impl_editFine.j0 k true l0_0 l0_1 a0_2 a0_3 a0_4)) = some r := H
     have A10 := Aside0.mk A100
     clear A100
     by_cases c11 : t239 = true
     ·subst c11
      have H1 : (if a0_4 < 0 then (impl_editFine.j0 k true l0_0 l0_1 a0_2 a0_3 a0_4) else (impl_editFine.j0 k (decide (a0_4 > 72057594037927935)) l0_0 l0_1 a0_2 a0_3 a0_4)) = some r := by rw [if_pos rfl] at H; exact H
      clear H
      have H := H1
      clear H1
      by_cases c12 : a0_4 < 0
      ·rw [if_pos c12] at H
       have c12b0 : decide (a0_4 < 0) = true := decide_eq_true c12
       clear c12
       have H' := Aside0.mk H
       clear H
       have hcz13_0 : w3.cell? ⟨gb237, 0, none⟩ = some (.slice A0_0 l0_0.length c0_0) := (blk_cell BK237.out 0).trans rfl
       have hcz13_1 : w3.cell? ⟨gb237, 1, none⟩ = some (.slice A0_1 l0_1.length c0_1) := (blk_cell BK237.out 1).trans rfl
       have hcz13_2 : w3.cell? ⟨gb237, 2, none⟩ = some (.int .i64 a0_2) := (blk_cell BK237.out 2).trans rfl
       have hcz13_3 : w3.cell? ⟨gb237, 3, none⟩ = some (.int .i64 a0_3) := (blk_cell BK237.out 3).trans rfl
       have hcz13_4 : w3.cell? ⟨gb237, 4, none⟩ = some (.int .i64 a0_4) := (blk_cell BK237.out 4).trans rfl
       have hfz13_0 := blk_frozen BK237.out 0
       have hfz13_1 := blk_frozen BK237.out 1
       have hfz13_2 := blk_frozen BK237.out 2
       have hfz13_3 := blk_frozen BK237.out 3
       have hfz13_4 := blk_frozen BK237.out 4
       go_wp2_with (first | (go_at_call 80; (with_reducible refine (impl_numFine.calls a0_2 true _ A8.out).mono ?_); rintro e w' ⟨rfl, ⟨nd, rfl⟩⟩) | (go_at_call 80; (with_reducible refine (impl_numFine.calls a0_3 true _ A10.out).mono ?_); rintro e w' ⟨rfl, ⟨nd, rfl⟩⟩))
       go_meet
       case rel => exact ⟨_, (true), (by first | rfl | (simp; done) | (simp [*]; done)), H', ⟨by first | omega | exact Nat.le_refl _⟩, ⟨by (with_reducible repeat (first | refine blk_drewN ?_ _ | refine blk_drew ?_ | refine blk_alloc ?_ _)); exact BK237.out⟩, ⟨by repeat (first | (with_reducible first | exact HB.out | apply below_alloc | apply pw_below_drewN | apply below_drew1 | refine below_set ?_ GE237.out) | exact HB.out)⟩⟩
      ·rw [if_neg c12] at H
       have c12b0 : decide (a0_4 < 0) = false := decide_eq_false c12
       clear c12
       have H' := Aside0.mk H
       clear H
       have hcz14_0 : w3.cell? ⟨gb237, 0, none⟩ = some (.slice A0_0 l0_0.length c0_0) := (blk_cell BK237.out 0).trans rfl
       have hcz14_1 : w3.cell? ⟨gb237, 1, none⟩ = some (.slice A0_1 l0_1.length c0_1) := (blk_cell BK237.out 1).trans rfl
       have hcz14_2 : w3.cell? ⟨gb237, 2, none⟩ = some (.int .i64 a0_2) := (blk_cell BK237.out 2).trans rfl
       have hcz14_3 : w3.cell? ⟨gb237, 3, none⟩ = some (.int .i64 a0_3) := (blk_cell BK237.out 3).trans rfl
       have hcz14_4 : w3.cell? ⟨gb237, 4, none⟩ = some (.int .i64 a0_4) := (blk_cell BK237.out 4).trans rfl
       have hfz14_0 := blk_frozen BK237.out 0
       have hfz14_1 := blk_frozen BK237.out 1
       have hfz14_2 := blk_frozen BK237.out 2
       have hfz14_3 := blk_frozen BK237.out 3
       have hfz14_4 := blk_frozen BK237.out 4
       go_wp2_with (first | (go_at_call 80; (with_reducible refine (impl_numFine.calls a0_2 true _ A8.out).mono ?_); rintro e w' ⟨rfl, ⟨nd, rfl⟩⟩) | (go_at_call 80; (with_reducible refine (impl_numFine.calls a0_3 true _ A10.out).mono ?_); rintro e w' ⟨rfl, ⟨nd, rfl⟩⟩))
       go_meet
       case rel => exact ⟨_, (decide (a0_4 > 72057594037927935)), (by first | rfl | (simp; done) | (simp [*]; done)), H', ⟨by first | omega | exact Nat.le_refl _⟩, ⟨by (with_reducible repeat (first | refine blk_drewN ?_ _ | refine blk_drew ?_ | refine blk_alloc ?_ _)); exact BK237.out⟩, ⟨by repeat (first | (with_reducible first | exact HB.out | apply below_alloc | apply pw_below_drewN | apply below_drew1 | refine below_set ?_ GE237.out) | exact HB.out)⟩⟩
     ·replace c11 := Bool.eq_false_iff.mpr c11
      subst c11
      have H1 : (impl_editFine.j0 k true l0_0 l0_1 a0_2 a0_3 a0_4) = some r := by rw [if_neg (show ¬ (false = true) by decide)] at H; exact H
      clear H
      have H := H1
      clear H1
      have H' := Aside0.mk H
      clear H
      have hcz15_0 : w3.cell? ⟨gb237, 0, none⟩ = some (.slice A0_0 l0_0.length c0_0) := (blk_cell BK237.out 0).trans rfl
      have hcz15_1 : w3.cell? ⟨gb237, 1, none⟩ = some (.slice A0_1 l0_1.length c0_1) := (blk_cell BK237.out 1).trans rfl
      have hcz15_2 : w3.cell? ⟨gb237, 2, none⟩ = some (.int .i64 a0_2) := (blk_cell BK237.out 2).trans rfl
      have hcz15_3 : w3.cell? ⟨gb237, 3, none⟩ = some (.int .i64 a0_3) := (blk_cell BK237.out 3).trans rfl
      have hcz15_4 : w3.cell? ⟨gb237, 4, none⟩ = some (.int .i64 a0_4) := (blk_cell BK237.out 4).trans rfl
      have hfz15_0 := blk_frozen BK237.out 0
      have hfz15_1 := blk_frozen BK237.out 1
      have hfz15_2 := blk_frozen BK237.out 2
      have hfz15_3 := blk_frozen BK237.out 3
      have hfz15_4 := blk_frozen BK237.out 4
      go_wp2_with (first | (go_at_call 80; (with_reducible refine (impl_numFine.calls a0_2 true _ A8.out).mono ?_); rintro e w' ⟨rfl, ⟨nd, rfl⟩⟩) | (go_at_call 80; (with_reducible refine (impl_numFine.calls a0_3 false _ A10.out).mono ?_); rintro e w' ⟨rfl, ⟨nd, rfl⟩⟩))
      go_meet
      case rel => exact ⟨_, (true), (by first | rfl | (simp; done) | (simp [*]; done)), H', ⟨by first | omega | exact Nat.le_refl _⟩, ⟨by (with_reducible repeat (first | refine blk_drewN ?_ _ | refine blk_drew ?_ | refine blk_alloc ?_ _)); exact BK237.out⟩, ⟨by repeat (first | (with_reducible first | exact HB.out | apply below_alloc | apply pw_below_drewN | apply below_drew1 | refine below_set ?_ GE237.out) | exact HB.out)⟩⟩
    ·replace c9 := Bool.eq_false_iff.mpr c9
     subst c9
     have H1 : (impl_editFine.j0 k true l0_0 l0_1 a0_2 a0_3 a0_4) = some r := by rw [if_neg (show ¬ (false = true) by decide)] at H; exact H
     clear H
     have H := H1
     clear H1
     have H' := Aside0.mk H
     clear H
     have hcz16_0 : w3.cell? ⟨gb237, 0, none⟩ = some (.slice A0_0 l0_0.length c0_0) := (blk_cell BK237.out 0).trans rfl
     have hcz16_1 : w3.cell? ⟨gb237, 1, none⟩ = some (.slice A0_1 l0_1.length c0_1) := (blk_cell BK237.out 1).trans rfl
     have hcz16_2 : w3.cell? ⟨gb237, 2, none⟩ = some (.int .i64 a0_2) := (blk_cell BK237.out 2).trans rfl
     have hcz16_3 : w3.cell? ⟨gb237, 3, none⟩ = some (.int .i64 a0_3) := (blk_cell BK237.out 3).trans rfl
     have hcz16_4 : w3.cell? ⟨gb237, 4, none⟩ = some (.int .i64 a0_4) := (blk_cell BK237.out 4).trans rfl
     have hfz16_0 := blk_frozen BK237.out 0
     have hfz16_1 := blk_frozen BK237.out 1
     have hfz16_2 := blk_frozen BK237.out 2
     have hfz16_3 := blk_frozen BK237.out 3
     have hfz16_4 := blk_frozen BK237.out 4
     go_wp2_with (first | (go_at_call 80; (with_reducible refine (impl_numFine.calls a0_2 false _ A8.out).mono ?_); rintro e w' ⟨rfl, ⟨nd, rfl⟩⟩))
     go_meet
     case rel => exact ⟨_, (true), (by first | rfl | (simp; done) | (simp [*]; done)), H', ⟨by first | omega | exact Nat.le_refl _⟩, ⟨by (with_reducible repeat (first | refine blk_drewN ?_ _ | refine blk_drew ?_ | refine blk_alloc ?_ _)); exact BK237.out⟩, ⟨by repeat (first | (with_reducible first | exact HB.out | apply below_alloc | apply pw_below_drewN | apply below_drew1 | refine below_set ?_ GE237.out) | exact HB.out)⟩⟩
 case rest =>
  clear HC2
  try clear c1
  try clear p2
  try clear c4
  try clear c4b0
  try clear c4b1
  try clear c5
  try clear c6
  try clear c6b0
  try clear c6b1
  try clear c9
  try clear c11
  try clear c12
  try clear c12b0
  try clear hcz13_0
  try clear hcz13_1
  try clear hcz13_2
  try clear hcz13_3
  try clear hcz13_4
  try clear hcz14_0
  try clear hcz14_1
  try clear hcz14_2
  try clear hcz14_3
  try clear hcz14_4
  try clear hcz15_0
  try clear hcz15_1
  try clear hcz15_2
  try clear hcz15_3
  try clear hcz15_4
  try clear hcz16_0
  try clear hcz16_1
  try clear hcz16_2
  try clear hcz16_3
  try clear hcz16_4
  try clear hcz5_0
  try clear hcz5_1
  try clear hcz5_2
  try clear hcz5_3
  try clear hcz5_4
  try clear hcz7_0
  try clear hcz7_1
  try clear hcz7_2
  try clear hcz7_3
  try clear hcz7_4
  try clear hfz13_0
  try clear hfz13_1
  try clear hfz13_2
  try clear hfz13_3
  try clear hfz13_4
  try clear hfz14_0
  try clear hfz14_1
  try clear hfz14_2
  try clear hfz14_3
  try clear hfz14_4
  try clear hfz15_0
  try clear hfz15_1
  try clear hfz15_2
  try clear hfz15_3
  try clear hfz15_4
  try clear hfz16_0
  try clear hfz16_1
  try clear hfz16_2
  try clear hfz16_3
  try clear hfz16_4
  try clear hfz5_0
  try clear hfz5_1
  try clear hfz5_2
  try clear hfz5_3
  try clear hfz5_4
  try clear hfz7_0
  try clear hfz7_1
  try clear hfz7_2
  try clear hfz7_3
  try clear hfz7_4
  obtain ⟨kq, x38_1, rfl, HA, HJ1, BK237, HB⟩ := hcut
  cases kq with
  | zero => exact absurd HA.out (by simp [impl_editFine.j0])
  | succ kj1 =>
   have H := HA.out
   clear HA
   simp only [impl_editFine.j0] at H
   by_cases c17 : x38_1 = true
   ·subst c17
    have H1 : (some false) = some r := by rw [if_pos rfl] at H; exact H
    clear H
    have H := H1
    clear H1
    obtain rfl := Option.some.inj H
    go_wp2
    go_ret
    exact ⟨by first | rfl | (simp [errW_none, errW_some] <;> rfl) | (simp [*, errW_none, errW_some] <;> rfl), by repeat (first | (with_reducible first | exact HB.out | apply below_alloc | apply pw_below_drewN | apply below_drew1 | refine below_set ?_ GE237.out) | exact HB.out)⟩
   ·replace c17 := Bool.eq_false_iff.mpr c17
    subst c17
    have H1 : (impl_editFine.l0 kj1 l0_0 (l0_0.length : Int) 0 l0_0 l0_1 a0_2 a0_3 a0_4) = some r := by rw [if_neg (show ¬ (false = true) by decide)] at H; exact H
    clear H
    have H := H1
    clear H1
    have H' := Aside0.mk H
    clear H
    have hcz18_0 : wc.cell? ⟨gb237, 0, none⟩ = some (.slice A0_0 l0_0.length c0_0) := (blk_cell BK237.out 0).trans rfl
    have hcz18_1 : wc.cell? ⟨gb237, 1, none⟩ = some (.slice A0_1 l0_1.length c0_1) := (blk_cell BK237.out 1).trans rfl
    have hcz18_2 : wc.cell? ⟨gb237, 2, none⟩ = some (.int .i64 a0_2) := (blk_cell BK237.out 2).trans rfl
    have hcz18_3 : wc.cell? ⟨gb237, 3, none⟩ = some (.int .i64 a0_3) := (blk_cell BK237.out 3).trans rfl
    have hcz18_4 : wc.cell? ⟨gb237, 4, none⟩ = some (.int .i64 a0_4) := (blk_cell BK237.out 4).trans rfl
    have hfz18_0 := blk_frozen BK237.out 0
    have hfz18_1 := blk_frozen BK237.out 1
    have hfz18_2 := blk_frozen BK237.out 2
    have hfz18_3 := blk_frozen BK237.out 3
    have hfz18_4 := blk_frozen BK237.out 4
    go_wp2
    go_loopg [42] kj1 (fun kq v42 w' => ∃ (x42_2 : Int), v42 = .int .i64 x42_2 ∧ Aside0 (impl_editFine.l0 kq l0_0 (l0_0.length : Int) x42_2 l0_0 l0_1 a0_2 a0_3 a0_4 = some r) ∧ Aside0 (kq ≤ kj1) ∧ Aside0 (w'.heap[gb237]? = some (.cells #[(.slice A0_0 l0_0.length c0_0), (.slice A0_1 l0_1.length c0_1), .int .i64 a0_2, .int .i64 a0_3, .int .i64 a0_4] 43 (0, 0))) ∧ Aside0 (Below w.heap.size w w'))
    case atStart => exact ⟨(0), (by first | rfl | (simp; done) | (simp [*]; done)), H', ⟨Nat.le_refl _⟩, ⟨by (with_reducible repeat (first | refine blk_drewN ?_ _ | refine blk_drew ?_ | refine blk_alloc ?_ _)); exact BK237.out⟩, ⟨by repeat (first | (with_reducible first | exact HB.out | apply below_alloc | apply pw_below_drewN | apply below_drew1 | refine below_set ?_ GE237.out) | exact HB.out)⟩⟩
    case round =>
     clear H'
     try clear c1
     try clear p2
     try clear c4
     try clear c4b0
     try clear c4b1
     try clear c5
     try clear c6
     try clear c6b0
     try clear c6b1
     try clear c9
     try clear c11
     try clear c12
     try clear c12b0
     try clear c17
     try clear hcz13_0
     try clear hcz13_1
     try clear hcz13_2
     try clear hcz13_3
     try clear hcz13_4
     try clear hcz14_0
     try clear hcz14_1
     try clear hcz14_2
     try clear hcz14_3
     try clear hcz14_4
     try clear hcz15_0
     try clear hcz15_1
     try clear hcz15_2
     try clear hcz15_3
     try clear hcz15_4
     try clear hcz16_0
     try clear hcz16_1
     try clear hcz16_2
     try clear hcz16_3
     try clear hcz16_4
     try clear hcz18_0
     try clear hcz18_1
     try clear hcz18_2
     try clear hcz18_3
     try clear hcz18_4
     try clear hcz5_0
     try clear hcz5_1
     try clear hcz5_2
     try clear hcz5_3
     try clear hcz5_4
     try clear hcz7_0
     try clear hcz7_1
     try clear hcz7_2
     try clear hcz7_3
     try clear hcz7_4
     try clear hfz13_0
     try clear hfz13_1
     try clear hfz13_2
     try clear hfz13_3
     try clear hfz13_4
     try clear hfz14_0
     try clear hfz14_1
     try clear hfz14_2
     try clear hfz14_3
     try clear hfz14_4
     try clear hfz15_0
     try clear hfz15_1
     try clear hfz15_2
     try clear hfz15_3
     try clear hfz15_4
     try clear hfz16_0
     try clear hfz16_1
     try clear hfz16_2
     try clear hfz16_3
     try clear hfz16_4
     try clear hfz18_0
     try clear hfz18_1
     try clear hfz18_2
     try clear hfz18_3
     try clear hfz18_4
     try clear hfz5_0
     try clear hfz5_1
     try clear hfz5_2
     try clear hfz5_3
     try clear hfz5_4
     try clear hfz7_0
     try clear hfz7_1
     try clear hfz7_2
     try clear hfz7_3
     try clear hfz7_4
     try clear p2
     obtain ⟨x42_2, rfl, HA, HK2, BK237, HB⟩ := hrel
     cases gk with
     | zero => exact absurd HA.out (by simp [impl_editFine.l0])
     | succ k2 =>
      have H := HA.out
      clear HA
      simp only [impl_editFine.l0] at H
      by_cases c19 : x42_2 < (l0_0.length : Int)
      ·rw [if_pos c19] at H
       have c19b0 : decide (x42_2 < (l0_0.length : Int)) = true := decide_eq_true c19
       clear c19
       by_cases c20 : 0 ≤ x42_2
       ·rw [if_pos c20] at H
        have c20b0 : decide (0 ≤ x42_2) = true := decide_eq_true c20
        clear c20
        by_cases c21 : x42_2 < (l0_0.length : Int)
        ·rw [if_pos c21] at H
         have c21b0 : decide (x42_2 < (l0_0.length : Int)) = true := decide_eq_true c21
         clear c21
         replace H := Option.bind_eq_some_iff.mp H
         obtain ⟨t242, A220, H⟩ := H
         replace H : (if t242 = true then (impl_editFine.l0 k2 l0_0 (l0_0.length : Int) (wrap64 (x42_2 + 1)) l0_0 l0_1 a0_2 a0_3 a0_4) else (some false)) = some r := H
         have A22 := Aside0.mk A220
         clear A220
         by_cases c23 : t242 = true
         ·subst c23
          have H1 : (impl_editFine.l0 k2 l0_0 (l0_0.length : Int) (wrap64 (x42_2 + 1)) l0_0 l0_1 a0_2 a0_3 a0_4) = some r := by rw [if_pos rfl] at H; exact H
          clear H
          have H := H1
          clear H1
          have H' := Aside0.mk H
          clear H
          have p240 : 0 ≤ (x42_2 : Int) := of_decide_eq_true (by first | (with_reducible assumption) | assumption)
          have q240 : x42_2 < (l0_0.length : Int) := of_decide_eq_true (by first | (with_reducible assumption) | assumption)
          obtain ⟨ad240, e240, hx240_0, hx240_1, hx240_2, hx240_3⟩ := at_T87 HR0_0.out x42_2 p240 q240
          cases e240
          replace hx240_0 := (HB.out.cell (World.block_lt_of_cell? w _ hx240_0)).trans hx240_0
          replace hx240_1 := (HB.out.cell (World.block_lt_of_cell? w _ hx240_1)).trans hx240_1
          replace hx240_2 := (HB.out.cell (World.block_lt_of_cell? w _ hx240_2)).trans hx240_2
          replace hx240_3 := (HB.out.cell (World.block_lt_of_cell? w _ hx240_3)).trans hx240_3
          replace p240 := eq_true p240
          replace q240 := eq_true q240
          go_wp2_with (first | ((with_reducible refine gate_dst (N := 4) rfl ?_); (try (refine gate_guard (by rfl) ?_; dsimp only)); refine box_event ?hg (N := 4) ?hd (cs := #[.int .i64 0, .int .i64 0, .string (⟨#[]⟩ : ByteArray), .string (⟨#[]⟩ : ByteArray)]) (t := 87) ?hr ?_; (case hd => rfl); (case hg => rfl); (case hr => first | (go_simp; done) | (go_simp; rfl)); intro gb241 hg w24 hbox hb; have n0_ := Aside0.mk (blk_below (g := gb237) (o := .cells #[.slice (some ad240) l0_0.length c0_0, .slice A0_1 l0_1.length c0_1, .int .i64 a0_2, .int .i64 a0_3, .int .i64 a0_4] 43 (0, 0)) (by (with_reducible repeat (first | refine blk_drewN ?_ _ | refine blk_drew ?_ | refine blk_alloc ?_ _)); exact BK237.out) hb); have n1_ := Aside0.mk (below_step (by repeat (first | (with_reducible first | exact HB.out | apply below_alloc | apply pw_below_drewN | apply below_drew1 | refine below_set ?_ GE237.out) | exact HB.out)) hb); have n2_ := Aside0.mk (hbox); have n3_ := Aside0.mk ((by rw [hg]; exact (below_size (by repeat (first | (with_reducible first | exact HB.out | apply below_alloc | apply pw_below_drewN | apply below_drew1 | refine below_set ?_ GE237.out) | exact HB.out))) : w.heap.size ≤ gb241)); have n4_ := Aside0.mk ((by rw [hg]; exact (below_size (by repeat (first | (with_reducible first | exact HB.out | apply below_alloc | apply pw_below_drewN | apply below_drew1 | refine below_set ?_ GE237.out) | exact HB.out))) : w.heap.size ≤ gb241)); have n5_ := Aside0.mk ((by rw [hg]; exact Nat.ne_of_lt (blk_lt (g := gb237) (o := .cells #[.slice (some ad240) l0_0.length c0_0, .slice A0_1 l0_1.length c0_1, .int .i64 a0_2, .int .i64 a0_3, .int .i64 a0_4] 43 (0, 0)) (by (with_reducible repeat (first | refine blk_drewN ?_ _ | refine blk_drew ?_ | refine blk_alloc ?_ _)); exact BK237.out)) : gb237 ≠ gb241)); have n6_ := Aside0.mk ((by rw [hg]; exact Nat.ne_of_gt (blk_lt (g := gb237) (o := .cells #[.slice (some ad240) l0_0.length c0_0, .slice A0_1 l0_1.length c0_1, .int .i64 a0_2, .int .i64 a0_3, .int .i64 a0_4] 43 (0, 0)) (by (with_reducible repeat (first | refine blk_drewN ?_ _ | refine blk_drew ?_ | refine blk_alloc ?_ _)); exact BK237.out)) : gb241 ≠ gb237)); clear BK237; clear HB; have BK237 := n0_; have HB := n1_; have BK241 := n2_; have GW241 := n3_; have GE241 := n4_; have NB237_241 := n5_; have NB241_237 := n6_; clear n0_ n1_ n2_ n3_ n4_ n5_ n6_; clear hb hbox hg; have hnb25 := NB241_237.out; have hnc25 := NB237_241.out; have hcz26_0 : w24.cell? ⟨gb241, 0, none⟩ = some (.int .i64 0) := (blk_cell BK241.out 0).trans rfl; have hcz26_1 : w24.cell? ⟨gb241, 1, none⟩ = some (.int .i64 0) := (blk_cell BK241.out 1).trans rfl; have hcz26_2 : w24.cell? ⟨gb241, 2, none⟩ = some (.string (⟨#[]⟩ : ByteArray)) := (blk_cell BK241.out 2).trans rfl; have hcz26_3 : w24.cell? ⟨gb241, 3, none⟩ = some (.string (⟨#[]⟩ : ByteArray)) := (blk_cell BK241.out 3).trans rfl; have hfz26_0 := blk_frozen BK241.out 0; have hfz26_1 := blk_frozen BK241.out 1; have hfz26_2 := blk_frozen BK241.out 2; have hfz26_3 := blk_frozen BK241.out 3) | ((with_reducible refine gate_callee (f := 81) rfl ?_); refine goesL_ (some 47) rfl rfl Try.func81 (by kernel_rfl) rfl #[.agg #[.int .i64 ((rd_T87 l0_0 x42_2).f0), .int .i64 ((rd_T87 l0_0 x42_2).f1), .string ((rd_T87 l0_0 x42_2).f2), .string ((rd_T87 l0_0 x42_2).f3)]] rfl (by (try simp only [List.map_toArray, List.map_cons, List.map_nil]); first | done | rfl | (simp only [List.length_drop, List.length_take]; rfl)) ?_; (with_reducible refine (impl_refFine.calls ((rd_T87 l0_0 x42_2).f0) ((rd_T87 l0_0 x42_2).f1) ((rd_T87 l0_0 x42_2).f2) ((rd_T87 l0_0 x42_2).f3) true _ A22.out).mono ?_); rintro e w27 ⟨rfl, hb⟩; refine ⟨_, rfl, ?_⟩; have n0_ := Aside0.mk (blk_below (g := gb237) (o := .cells #[.slice (some ad240) l0_0.length c0_0, .slice A0_1 l0_1.length c0_1, .int .i64 a0_2, .int .i64 a0_3, .int .i64 a0_4] 43 (0, 0)) (by (with_reducible repeat (first | refine blk_drewN ?_ _ | refine blk_drew ?_ | refine blk_alloc ?_ _)); refine blk_far ?_ NB237_241.out _; (with_reducible repeat (first | refine blk_drewN ?_ _ | refine blk_drew ?_ | refine blk_alloc ?_ _)); refine blk_far ?_ NB237_241.out _; (with_reducible repeat (first | refine blk_drewN ?_ _ | refine blk_drew ?_ | refine blk_alloc ?_ _)); refine blk_far ?_ NB237_241.out _; (with_reducible repeat (first | refine blk_drewN ?_ _ | refine blk_drew ?_ | refine blk_alloc ?_ _)); refine blk_far ?_ NB237_241.out _; (with_reducible repeat (first | refine blk_drewN ?_ _ | refine blk_drew ?_ | refine blk_alloc ?_ _)); exact BK237.out) hb); have n1_ := Aside0.mk (blk_below (g := gb241) (o := .cells #[.int .i64 ((rd_T87 l0_0 x42_2).f0), .int .i64 ((rd_T87 l0_0 x42_2).f1), .string ((rd_T87 l0_0 x42_2).f2), .string ((rd_T87 l0_0 x42_2).f3)] 87 (0, 0)) (by (with_reducible repeat (first | refine blk_drewN ?_ _ | refine blk_drew ?_ | refine blk_alloc ?_ _)); refine blk_put (cs := #[.int .i64 ((rd_T87 l0_0 x42_2).f0), .int .i64 ((rd_T87 l0_0 x42_2).f1), .string ((rd_T87 l0_0 x42_2).f2), .string (⟨#[]⟩ : ByteArray)]) ?_ 3 _ rfl; (with_reducible repeat (first | refine blk_drewN ?_ _ | refine blk_drew ?_ | refine blk_alloc ?_ _)); refine blk_put (cs := #[.int .i64 ((rd_T87 l0_0 x42_2).f0), .int .i64 ((rd_T87 l0_0 x42_2).f1), .string (⟨#[]⟩ : ByteArray), .string (⟨#[]⟩ : ByteArray)]) ?_ 2 _ rfl; (with_reducible repeat (first | refine blk_drewN ?_ _ | refine blk_drew ?_ | refine blk_alloc ?_ _)); refine blk_put (cs := #[.int .i64 ((rd_T87 l0_0 x42_2).f0), .int .i64 0, .string (⟨#[]⟩ : ByteArray), .string (⟨#[]⟩ : ByteArray)]) ?_ 1 _ rfl; (with_reducible repeat (first | refine blk_drewN ?_ _ | refine blk_drew ?_ | refine blk_alloc ?_ _)); refine blk_put (cs := #[.int .i64 0, .int .i64 0, .string (⟨#[]⟩ : ByteArray), .string (⟨#[]⟩ : ByteArray)]) ?_ 0 _ rfl; (with_reducible repeat (first | refine blk_drewN ?_ _ | refine blk_drew ?_ | refine blk_alloc ?_ _)); exact BK241.out) hb); have n2_ := Aside0.mk (below_step (by repeat (first | (with_reducible first | exact HB.out | apply below_alloc | apply pw_below_drewN | apply below_drew1 | refine below_set ?_ GE237.out | refine below_set ?_ GE241.out) | exact HB.out)) hb); clear BK237; clear BK241; clear HB; have BK237 := n0_; have BK241 := n1_; have HB := n2_; clear n0_ n1_ n2_; (try clear hb); (try clear hb2); (try clear hk); (try clear hi)))
          go_roundg k2
          case measure => have := HJ1.out; have := HK2.out; omega
          case rel => exact ⟨(wrap64 (x42_2 + 1)), (by first | rfl | (simp; done) | (simp [*]; done)), H', ⟨by have := HJ1.out; have := HK2.out; omega⟩, ⟨by (with_reducible repeat (first | refine blk_drewN ?_ _ | refine blk_drew ?_ | refine blk_alloc ?_ _)); exact BK237.out⟩, ⟨by repeat (first | (with_reducible first | exact HB.out | apply below_alloc | apply pw_below_drewN | apply below_drew1 | refine below_set ?_ GE237.out | refine below_set ?_ GE241.out) | exact HB.out)⟩⟩
         ·replace c23 := Bool.eq_false_iff.mpr c23
          subst c23
          have H1 : (some false) = some r := by rw [if_neg (show ¬ (false = true) by decide)] at H; exact H
          clear H
          have H := H1
          clear H1
          obtain rfl := Option.some.inj H
          have p240 : 0 ≤ (x42_2 : Int) := of_decide_eq_true (by first | (with_reducible assumption) | assumption)
          have q240 : x42_2 < (l0_0.length : Int) := of_decide_eq_true (by first | (with_reducible assumption) | assumption)
          obtain ⟨ad240, e240, hx240_0, hx240_1, hx240_2, hx240_3⟩ := at_T87 HR0_0.out x42_2 p240 q240
          cases e240
          replace hx240_0 := (HB.out.cell (World.block_lt_of_cell? w _ hx240_0)).trans hx240_0
          replace hx240_1 := (HB.out.cell (World.block_lt_of_cell? w _ hx240_1)).trans hx240_1
          replace hx240_2 := (HB.out.cell (World.block_lt_of_cell? w _ hx240_2)).trans hx240_2
          replace hx240_3 := (HB.out.cell (World.block_lt_of_cell? w _ hx240_3)).trans hx240_3
          replace p240 := eq_true p240
          replace q240 := eq_true q240
          go_wp2_with (first | ((with_reducible refine gate_dst (N := 4) rfl ?_); (try (refine gate_guard (by rfl) ?_; dsimp only)); refine box_event ?hg (N := 4) ?hd (cs := #[.int .i64 0, .int .i64 0, .string (⟨#[]⟩ : ByteArray), .string (⟨#[]⟩ : ByteArray)]) (t := 87) ?hr ?_; (case hd => rfl); (case hg => rfl); (case hr => first | (go_simp; done) | (go_simp; rfl)); intro gb241 hg w28 hbox hb; have n0_ := Aside0.mk (blk_below (g := gb237) (o := .cells #[.slice (some ad240) l0_0.length c0_0, .slice A0_1 l0_1.length c0_1, .int .i64 a0_2, .int .i64 a0_3, .int .i64 a0_4] 43 (0, 0)) (by (with_reducible repeat (first | refine blk_drewN ?_ _ | refine blk_drew ?_ | refine blk_alloc ?_ _)); exact BK237.out) hb); have n1_ := Aside0.mk (below_step (by repeat (first | (with_reducible first | exact HB.out | apply below_alloc | apply pw_below_drewN | apply below_drew1 | refine below_set ?_ GE237.out) | exact HB.out)) hb); have n2_ := Aside0.mk (hbox); have n3_ := Aside0.mk ((by rw [hg]; exact (below_size (by repeat (first | (with_reducible first | exact HB.out | apply below_alloc | apply pw_below_drewN | apply below_drew1 | refine below_set ?_ GE237.out) | exact HB.out))) : w.heap.size ≤ gb241)); have n4_ := Aside0.mk ((by rw [hg]; exact (below_size (by repeat (first | (with_reducible first | exact HB.out | apply below_alloc | apply pw_below_drewN | apply below_drew1 | refine below_set ?_ GE237.out) | exact HB.out))) : w.heap.size ≤ gb241)); have n5_ := Aside0.mk ((by rw [hg]; exact Nat.ne_of_lt (blk_lt (g := gb237) (o := .cells #[.slice (some ad240) l0_0.length c0_0, .slice A0_1 l0_1.length c0_1, .int .i64 a0_2, .int .i64 a0_3, .int .i64 a0_4] 43 (0, 0)) (by (with_reducible repeat (first | refine blk_drewN ?_ _ | refine blk_drew ?_ | refine blk_alloc ?_ _)); exact BK237.out)) : gb237 ≠ gb241)); have n6_ := Aside0.mk ((by rw [hg]; exact Nat.ne_of_gt (blk_lt (g := gb237) (o := .cells #[.slice (some ad240) l0_0.length c0_0, .slice A0_1 l0_1.length c0_1, .int .i64 a0_2, .int .i64 a0_3, .int .i64 a0_4] 43 (0, 0)) (by (with_reducible repeat (first | refine blk_drewN ?_ _ | refine blk_drew ?_ | refine blk_alloc ?_ _)); exact BK237.out)) : gb241 ≠ gb237)); clear BK237; clear HB; have BK237 := n0_; have HB := n1_; have BK241 := n2_; have GW241 := n3_; have GE241 := n4_; have NB237_241 := n5_; have NB241_237 := n6_; clear n0_ n1_ n2_ n3_ n4_ n5_ n6_; clear hb hbox hg; have hnb29 := NB241_237.out; have hnc29 := NB237_241.out; have hcz30_0 : w28.cell? ⟨gb241, 0, none⟩ = some (.int .i64 0) := (blk_cell BK241.out 0).trans rfl; have hcz30_1 : w28.cell? ⟨gb241, 1, none⟩ = some (.int .i64 0) := (blk_cell BK241.out 1).trans rfl; have hcz30_2 : w28.cell? ⟨gb241, 2, none⟩ = some (.string (⟨#[]⟩ : ByteArray)) := (blk_cell BK241.out 2).trans rfl; have hcz30_3 : w28.cell? ⟨gb241, 3, none⟩ = some (.string (⟨#[]⟩ : ByteArray)) := (blk_cell BK241.out 3).trans rfl; have hfz30_0 := blk_frozen BK241.out 0; have hfz30_1 := blk_frozen BK241.out 1; have hfz30_2 := blk_frozen BK241.out 2; have hfz30_3 := blk_frozen BK241.out 3) | ((with_reducible refine gate_callee (f := 81) rfl ?_); refine goesL_ (some 47) rfl rfl Try.func81 (by kernel_rfl) rfl #[.agg #[.int .i64 ((rd_T87 l0_0 x42_2).f0), .int .i64 ((rd_T87 l0_0 x42_2).f1), .string ((rd_T87 l0_0 x42_2).f2), .string ((rd_T87 l0_0 x42_2).f3)]] rfl (by (try simp only [List.map_toArray, List.map_cons, List.map_nil]); first | done | rfl | (simp only [List.length_drop, List.length_take]; rfl)) ?_; (with_reducible refine (impl_refFine.calls ((rd_T87 l0_0 x42_2).f0) ((rd_T87 l0_0 x42_2).f1) ((rd_T87 l0_0 x42_2).f2) ((rd_T87 l0_0 x42_2).f3) false _ A22.out).mono ?_); rintro e w31 ⟨rfl, hb⟩; refine ⟨_, rfl, ?_⟩; have n0_ := Aside0.mk (blk_below (g := gb237) (o := .cells #[.slice (some ad240) l0_0.length c0_0, .slice A0_1 l0_1.length c0_1, .int .i64 a0_2, .int .i64 a0_3, .int .i64 a0_4] 43 (0, 0)) (by (with_reducible repeat (first | refine blk_drewN ?_ _ | refine blk_drew ?_ | refine blk_alloc ?_ _)); refine blk_far ?_ NB237_241.out _; (with_reducible repeat (first | refine blk_drewN ?_ _ | refine blk_drew ?_ | refine blk_alloc ?_ _)); refine blk_far ?_ NB237_241.out _; (with_reducible repeat (first | refine blk_drewN ?_ _ | refine blk_drew ?_ | refine blk_alloc ?_ _)); refine blk_far ?_ NB237_241.out _; (with_reducible repeat (first | refine blk_drewN ?_ _ | refine blk_drew ?_ | refine blk_alloc ?_ _)); refine blk_far ?_ NB237_241.out _; (with_reducible repeat (first | refine blk_drewN ?_ _ | refine blk_drew ?_ | refine blk_alloc ?_ _)); exact BK237.out) hb); have n1_ := Aside0.mk (blk_below (g := gb241) (o := .cells #[.int .i64 ((rd_T87 l0_0 x42_2).f0), .int .i64 ((rd_T87 l0_0 x42_2).f1), .string ((rd_T87 l0_0 x42_2).f2), .string ((rd_T87 l0_0 x42_2).f3)] 87 (0, 0)) (by (with_reducible repeat (first | refine blk_drewN ?_ _ | refine blk_drew ?_ | refine blk_alloc ?_ _)); refine blk_put (cs := #[.int .i64 ((rd_T87 l0_0 x42_2).f0), .int .i64 ((rd_T87 l0_0 x42_2).f1), .string ((rd_T87 l0_0 x42_2).f2), .string (⟨#[]⟩ : ByteArray)]) ?_ 3 _ rfl; (with_reducible repeat (first | refine blk_drewN ?_ _ | refine blk_drew ?_ | refine blk_alloc ?_ _)); refine blk_put (cs := #[.int .i64 ((rd_T87 l0_0 x42_2).f0), .int .i64 ((rd_T87 l0_0 x42_2).f1), .string (⟨#[]⟩ : ByteArray), .string (⟨#[]⟩ : ByteArray)]) ?_ 2 _ rfl; (with_reducible repeat (first | refine blk_drewN ?_ _ | refine blk_drew ?_ | refine blk_alloc ?_ _)); refine blk_put (cs := #[.int .i64 ((rd_T87 l0_0 x42_2).f0), .int .i64 0, .string (⟨#[]⟩ : ByteArray), .string (⟨#[]⟩ : ByteArray)]) ?_ 1 _ rfl; (with_reducible repeat (first | refine blk_drewN ?_ _ | refine blk_drew ?_ | refine blk_alloc ?_ _)); refine blk_put (cs := #[.int .i64 0, .int .i64 0, .string (⟨#[]⟩ : ByteArray), .string (⟨#[]⟩ : ByteArray)]) ?_ 0 _ rfl; (with_reducible repeat (first | refine blk_drewN ?_ _ | refine blk_drew ?_ | refine blk_alloc ?_ _)); exact BK241.out) hb); have n2_ := Aside0.mk (below_step (by repeat (first | (with_reducible first | exact HB.out | apply below_alloc | apply pw_below_drewN | apply below_drew1 | refine below_set ?_ GE237.out | refine below_set ?_ GE241.out) | exact HB.out)) hb); clear BK237; clear BK241; clear HB; have BK237 := n0_; have BK241 := n1_; have HB := n2_; clear n0_ n1_ n2_; (try clear hb); (try clear hb2); (try clear hk); (try clear hi)))
          go_ret
          exact ⟨by first | rfl | (simp [errW_none, errW_some] <;> rfl) | (simp [*, errW_none, errW_some] <;> rfl), by repeat (first | (with_reducible first | exact HB.out | apply below_alloc | apply pw_below_drewN | apply below_drew1 | refine below_set ?_ GE237.out | refine below_set ?_ GE241.out) | exact HB.out)⟩
        ·rw [if_neg c21] at H
         exact absurd H (by simp)
       ·rw [if_neg c20] at H
        exact absurd H (by simp)
      ·rw [if_neg c19] at H
       have c19b0 : decide (x42_2 < (l0_0.length : Int)) = false := decide_eq_false c19
       clear c19
       have H' := Aside0.mk H
       clear H
       have hcz32_0 : wr.cell? ⟨gb237, 0, none⟩ = some (.slice A0_0 l0_0.length c0_0) := (blk_cell BK237.out 0).trans rfl
       have hcz32_1 : wr.cell? ⟨gb237, 1, none⟩ = some (.slice A0_1 l0_1.length c0_1) := (blk_cell BK237.out 1).trans rfl
       have hcz32_2 : wr.cell? ⟨gb237, 2, none⟩ = some (.int .i64 a0_2) := (blk_cell BK237.out 2).trans rfl
       have hcz32_3 : wr.cell? ⟨gb237, 3, none⟩ = some (.int .i64 a0_3) := (blk_cell BK237.out 3).trans rfl
       have hcz32_4 : wr.cell? ⟨gb237, 4, none⟩ = some (.int .i64 a0_4) := (blk_cell BK237.out 4).trans rfl
       have hfz32_0 := blk_frozen BK237.out 0
       have hfz32_1 := blk_frozen BK237.out 1
       have hfz32_2 := blk_frozen BK237.out 2
       have hfz32_3 := blk_frozen BK237.out 3
       have hfz32_4 := blk_frozen BK237.out 4
       go_wp2
       go_loopg [53] k2 (fun kq v53 w' => ∃ (x53_3 : Int), v53 = .int .i64 x53_3 ∧ Aside0 (impl_editFine.l1 kq l0_1 (l0_1.length : Int) x53_3 = some r) ∧ Aside0 (kq ≤ k2) ∧ Aside0 (w'.heap[gb237]? = some (.cells #[(.slice A0_0 l0_0.length c0_0), (.slice A0_1 l0_1.length c0_1), .int .i64 a0_2, .int .i64 a0_3, .int .i64 a0_4] 43 (0, 0))) ∧ Aside0 (Below w.heap.size w w'))
       case atStart => exact ⟨(0), (by first | rfl | (simp; done) | (simp [*]; done)), H', ⟨Nat.le_refl _⟩, ⟨by (with_reducible repeat (first | refine blk_drewN ?_ _ | refine blk_drew ?_ | refine blk_alloc ?_ _)); exact BK237.out⟩, ⟨by repeat (first | (with_reducible first | exact HB.out | apply below_alloc | apply pw_below_drewN | apply below_drew1 | refine below_set ?_ GE237.out) | exact HB.out)⟩⟩
       case round =>
        clear H'
        try clear c1
        try clear c2
        try clear p2
        try clear q2
        try clear hx2
        try clear c4
        try clear c4b0
        try clear c4b1
        try clear c5
        try clear c6
        try clear c6b0
        try clear c6b1
        try clear p6
        try clear c8
        try clear c9
        try clear c11
        try clear c12
        try clear c12b0
        try clear c17
        try clear c19
        try clear c19b0
        try clear c20
        try clear c20b0
        try clear c21
        try clear c21b0
        try clear c23
        try clear p24
        try clear q24
        try clear hx24
        try clear c25
        try clear c29
        try clear hcz13_0
        try clear hcz13_1
        try clear hcz13_2
        try clear hcz13_3
        try clear hcz13_4
        try clear hcz14_0
        try clear hcz14_1
        try clear hcz14_2
        try clear hcz14_3
        try clear hcz14_4
        try clear hcz15_0
        try clear hcz15_1
        try clear hcz15_2
        try clear hcz15_3
        try clear hcz15_4
        try clear hcz16_0
        try clear hcz16_1
        try clear hcz16_2
        try clear hcz16_3
        try clear hcz16_4
        try clear hcz18_0
        try clear hcz18_1
        try clear hcz18_2
        try clear hcz18_3
        try clear hcz18_4
        try clear hcz26_0
        try clear hcz26_1
        try clear hcz26_2
        try clear hcz26_3
        try clear hcz30_0
        try clear hcz30_1
        try clear hcz30_2
        try clear hcz30_3
        try clear hcz32_0
        try clear hcz32_1
        try clear hcz32_2
        try clear hcz32_3
        try clear hcz32_4
        try clear hcz5_0
        try clear hcz5_1
        try clear hcz5_2
        try clear hcz5_3
        try clear hcz5_4
        try clear hcz7_0
        try clear hcz7_1
        try clear hcz7_2
        try clear hcz7_3
        try clear hcz7_4
        try clear hfz13_0
        try clear hfz13_1
        try clear hfz13_2
        try clear hfz13_3
        try clear hfz13_4
        try clear hfz14_0
        try clear hfz14_1
        try clear hfz14_2
        try clear hfz14_3
        try clear hfz14_4
        try clear hfz15_0
        try clear hfz15_1
        try clear hfz15_2
        try clear hfz15_3
        try clear hfz15_4
        try clear hfz16_0
        try clear hfz16_1
        try clear hfz16_2
        try clear hfz16_3
        try clear hfz16_4
        try clear hfz18_0
        try clear hfz18_1
        try clear hfz18_2
        try clear hfz18_3
        try clear hfz18_4
        try clear hfz26_0
        try clear hfz26_1
        try clear hfz26_2
        try clear hfz26_3
        try clear hfz30_0
        try clear hfz30_1
        try clear hfz30_2
        try clear hfz30_3
        try clear hfz32_0
        try clear hfz32_1
        try clear hfz32_2
        try clear hfz32_3
        try clear hfz32_4
        try clear hfz5_0
        try clear hfz5_1
        try clear hfz5_2
        try clear hfz5_3
        try clear hfz5_4
        try clear hfz7_0
        try clear hfz7_1
        try clear hfz7_2
        try clear hfz7_3
        try clear hfz7_4
        try clear hx240_0
        try clear hx240_1
        try clear hx240_2
        try clear hx240_3
        try clear p2
        try clear p240
        try clear q240
        obtain ⟨x53_3, rfl, HA, HK3, BK237, HB⟩ := hrel
        cases gk with
        | zero => exact absurd HA.out (by simp [impl_editFine.l1])
        | succ k3 =>
         have H := HA.out
         clear HA
         simp only [impl_editFine.l1] at H
         by_cases c33 : x53_3 < (l0_1.length : Int)
         ·rw [if_pos c33] at H
          have c33b0 : decide (x53_3 < (l0_1.length : Int)) = true := decide_eq_true c33
          clear c33
          by_cases c34 : 0 ≤ x53_3
          ·rw [if_pos c34] at H
           have c34b0 : decide (0 ≤ x53_3) = true := decide_eq_true c34
           clear c34
           by_cases c35 : x53_3 < (l0_1.length : Int)
           ·rw [if_pos c35] at H
            have c35b0 : decide (x53_3 < (l0_1.length : Int)) = true := decide_eq_true c35
            clear c35
            replace H := Option.bind_eq_some_iff.mp H
            obtain ⟨t244, A360, H⟩ := H
            replace H : (if t244 = true then (impl_editFine.l1 k3 l0_1 (l0_1.length : Int) (wrap64 (x53_3 + 1))) else (some false)) = some r := H
            have A36 := Aside0.mk A360
            clear A360
            by_cases c37 : t244 = true
            ·subst c37
             have H1 : (impl_editFine.l1 k3 l0_1 (l0_1.length : Int) (wrap64 (x53_3 + 1))) = some r := by rw [if_pos rfl] at H; exact H
             clear H
             have H := H1
             clear H1
             have H' := Aside0.mk H
             clear H
             have p243 : 0 ≤ (x53_3 : Int) := of_decide_eq_true (by first | (with_reducible assumption) | assumption)
             have q243 : x53_3 < (l0_1.length : Int) := of_decide_eq_true (by first | (with_reducible assumption) | assumption)
             obtain ⟨ad243, e243, hx243_0⟩ := Kd.at_int HR0_1.out x53_3 p243 q243
             cases e243
             replace hx243_0 := (HB.out.cell (World.block_lt_of_cell? w _ hx243_0)).trans hx243_0
             replace p243 := eq_true p243
             replace q243 := eq_true q243
             go_wp2_with (first | ((with_reducible refine gate_callee (f := 80) rfl ?_); refine goesL_ (some 58) rfl rfl Try.func80 (by kernel_rfl) rfl #[.int .i64 (rd l0_1 x53_3)] rfl (by (try simp only [List.map_toArray, List.map_cons, List.map_nil]); first | done | rfl | (simp only [List.length_drop, List.length_take]; rfl)) ?_; (with_reducible refine (impl_numFine.calls (rd l0_1 x53_3) true _ A36.out).mono ?_); rintro e w' ⟨rfl, ⟨nd, rfl⟩⟩; refine ⟨_, rfl, ?_⟩))
             go_roundg k3
             case measure => have := HJ1.out; have := HK2.out; have := HK3.out; omega
             case rel => exact ⟨(wrap64 (x53_3 + 1)), (by first | rfl | (simp; done) | (simp [*]; done)), H', ⟨by have := HJ1.out; have := HK2.out; have := HK3.out; omega⟩, ⟨by (with_reducible repeat (first | refine blk_drewN ?_ _ | refine blk_drew ?_ | refine blk_alloc ?_ _)); exact BK237.out⟩, ⟨by repeat (first | (with_reducible first | exact HB.out | apply below_alloc | apply pw_below_drewN | apply below_drew1 | refine below_set ?_ GE237.out) | exact HB.out)⟩⟩
            ·replace c37 := Bool.eq_false_iff.mpr c37
             subst c37
             have H1 : (some false) = some r := by rw [if_neg (show ¬ (false = true) by decide)] at H; exact H
             clear H
             have H := H1
             clear H1
             obtain rfl := Option.some.inj H
             have p243 : 0 ≤ (x53_3 : Int) := of_decide_eq_true (by first | (with_reducible assumption) | assumption)
             have q243 : x53_3 < (l0_1.length : Int) := of_decide_eq_true (by first | (with_reducible assumption) | assumption)
             obtain ⟨ad243, e243, hx243_0⟩ := Kd.at_int HR0_1.out x53_3 p243 q243
             cases e243
             replace hx243_0 := (HB.out.cell (World.block_lt_of_cell? w _ hx243_0)).trans hx243_0
             replace p243 := eq_true p243
             replace q243 := eq_true q243
             go_wp2_with (first | ((with_reducible refine gate_callee (f := 80) rfl ?_); refine goesL_ (some 58) rfl rfl Try.func80 (by kernel_rfl) rfl #[.int .i64 (rd l0_1 x53_3)] rfl (by (try simp only [List.map_toArray, List.map_cons, List.map_nil]); first | done | rfl | (simp only [List.length_drop, List.length_take]; rfl)) ?_; (with_reducible refine (impl_numFine.calls (rd l0_1 x53_3) false _ A36.out).mono ?_); rintro e w' ⟨rfl, ⟨nd, rfl⟩⟩; refine ⟨_, rfl, ?_⟩))
             go_ret
             exact ⟨by first | rfl | (simp [errW_none, errW_some] <;> rfl) | (simp [*, errW_none, errW_some] <;> rfl), by repeat (first | (with_reducible first | exact HB.out | apply below_alloc | apply pw_below_drewN | apply below_drew1 | refine below_set ?_ GE237.out) | exact HB.out)⟩
           ·rw [if_neg c35] at H
            exact absurd H (by simp)
          ·rw [if_neg c34] at H
           exact absurd H (by simp)
         ·rw [if_neg c33] at H
          have c33b0 : decide (x53_3 < (l0_1.length : Int)) = false := decide_eq_false c33
          clear c33
          obtain rfl := Option.some.inj H
          go_wp2
          go_ret
          exact ⟨by first | rfl | (simp [errW_none, errW_some] <;> rfl) | (simp [*, errW_none, errW_some] <;> rfl), by repeat (first | (with_reducible first | exact HB.out | apply below_alloc | apply pw_below_drewN | apply below_drew1 | refine below_set ?_ GE237.out) | exact HB.out)⟩

end Go.Proofs.Ytjneloehdcecnaa.P
end
section
/- What the program's EncodeEdit writes, in plain words, and its small callees. No condition. -/
namespace Go.Proofs.Ytjneloehdcecnaa.M
open Go.RowKit Go.Proofs.Ytjneloehdcecnaa.P Go.Proofs.YtjneloehdcecnaaW.PrintWords Go.Proofs.YtjneloehdcecnaaW.PrintLast
set_option linter.unusedVariables false
def numOk (n : Int) : Bool := decide (1 ≤ n) && decide (n ≤ 999999999)
def refOk (t : S87) : Bool := numOk t.f0 && decide (0 ≤ t.f1) && decide (t.f1 ≤ 3) && decide (1 ≤ t.f2.size) && decide (t.f2.size ≤ 1000) && decide (1 ≤ t.f3.size) && decide (t.f3.size ≤ 1000) && !(lss t.f3 t.f2)
def editOk (adds : List S87) (dels : List Int) (log next last : Int) : Bool :=
  decide (adds.length ≤ 1000) && decide (dels.length ≤ 1000) && numOk log && numOk next && decide (0 ≤ last) && decide (last ≤ 72057594037927935) && adds.all refOk && dels.all numOk
def refB (t : S87) : ByteArray := put t.f0 ++ put t.f1 ++ szd t.f2 ++ szd t.f3
def refsL : List S87 → ByteArray
  | [] => ⟨#[]⟩
  | t :: l => refB t ++ refsL l
def numsL : List Int → ByteArray
  | [] => ⟨#[]⟩
  | n :: l => put n ++ numsL l
/-- What stands ahead of the numbers to be gone; ahead of the last three; all. -/
def ed0 (adds : List S87) : ByteArray := put (adds.length : Int)
def ed1 (adds : List S87) (dels : List Int) : ByteArray := ed0 adds ++ refsL adds ++ put (dels.length : Int)
def ed2 (adds : List S87) (dels : List Int) : ByteArray := ed1 adds dels ++ numsL dels
def edAll (adds : List S87) (dels : List Int) (log next last : Int) : ByteArray := ed2 adds dels ++ (put log ++ put next ++ put last)
def encEd (adds : List S87) (dels : List Int) (log next last : Int) : ByteArray := if editOk adds dels log next last = true then edAll adds dels log next last else ⟨#[]⟩
theorem empty_append (a : ByteArray) : (⟨#[]⟩ : ByteArray) ++ a = a := by
  apply ByteArray.ext
  rw [ByteArray.data_append]
  simp
theorem refsL_snoc (l : List S87) (x : S87) : refsL (l ++ [x]) = refsL l ++ refB x := by
  induction l with
  | nil => show refB x ++ (⟨#[]⟩ : ByteArray) = (⟨#[]⟩ : ByteArray) ++ refB x; rw [ba_append_empty, empty_append]
  | cons y l ih => show refB y ++ refsL (l ++ [x]) = refB y ++ refsL l ++ refB x; rw [ih, ByteArray.append_assoc]
theorem numsL_snoc (l : List Int) (x : Int) : numsL (l ++ [x]) = numsL l ++ put x := by
  induction l with
  | nil => show put x ++ (⟨#[]⟩ : ByteArray) = (⟨#[]⟩ : ByteArray) ++ put x; rw [ba_append_empty, empty_append]
  | cons y l ih => show put y ++ numsL (l ++ [x]) = put y ++ numsL l ++ put x; rw [ih, ByteArray.append_assoc]
theorem refOk_sizes {t : S87} (h : refOk t = true) : t.f2.size ≤ 1000 ∧ t.f3.size ≤ 1000 := by
  unfold refOk at h
  simp only [Bool.and_eq_true, decide_eq_true_eq] at h
  omega
theorem refB_size {t : S87} (h : refOk t = true) : (refB t).size ≤ 2032 := by
  obtain ⟨h0, h3⟩ := refOk_sizes h
  have a := szd_size t.f2
  have b := szd_size t.f3
  have c := put_size t.f0
  have d := put_size t.f1
  unfold refB
  rw [ByteArray.size_append, ByteArray.size_append, ByteArray.size_append]
  omega
theorem refsL_size (l : List S87) (h : l.all refOk = true) : (refsL l).size ≤ l.length * 2032 := by
  induction l with
  | nil => exact Nat.zero_le _
  | cons x l ih =>
    rw [List.all_cons, Bool.and_eq_true] at h
    have h1 := ih h.2
    have h2 := refB_size h.1
    show (refB x ++ refsL l).size ≤ (l.length + 1) * 2032
    rw [ByteArray.size_append]
    omega
theorem numsL_size (l : List Int) : (numsL l).size ≤ l.length * 8 := by
  induction l with
  | nil => exact Nat.zero_le _
  | cons x l ih =>
    have h2 := put_size x
    show (put x ++ numsL l).size ≤ (l.length + 1) * 8
    rw [ByteArray.size_append]
    omega
theorem editOk_parts {adds : List S87} {dels : List Int} {log next last : Int} (h : editOk adds dels log next last = true) : adds.length ≤ 1000 ∧ dels.length ≤ 1000 ∧ adds.all refOk = true ∧ dels.all numOk = true ∧ numOk log = true ∧ numOk next = true ∧ 0 ≤ last ∧ last ≤ 72057594037927935 := by
  unfold editOk at h
  simp only [Bool.and_eq_true, decide_eq_true_eq] at h
  exact ⟨h.1.1.1.1.1.1.1, h.1.1.1.1.1.1.2, h.1.2, h.2, h.1.1.1.1.1.2, h.1.1.1.1.2, h.1.1.1.2, h.1.1.2⟩
theorem numFine_eq (n : Int) : impl_numFine.f n = some (numOk n) := by
  unfold impl_numFine.f numOk
  by_cases h : n ≥ 1
  · rw [if_pos h, decide_eq_true (show 1 ≤ n by omega)]; rfl
  · rw [if_neg h, decide_eq_false (show ¬ 1 ≤ n by omega)]; rfl
theorem refFine_eq (t : S87) : impl_refFine.f t.f0 t.f1 t.f2 t.f3 = some (refOk t) := by
  unfold impl_refFine.f refOk
  rw [numFine_eq, Option.bind_some]
  by_cases h0 : numOk t.f0 = true
  · rw [if_pos h0, h0]
    by_cases h1 : t.f1 ≥ 0
    · rw [if_pos h1, decide_eq_true (show 0 ≤ t.f1 by omega)]
      by_cases h2 : t.f1 ≤ 3
      · rw [if_pos h2, decide_eq_true h2]
        by_cases h3 : (t.f2.size : Int) ≥ 1
        · rw [if_pos h3, decide_eq_true (show 1 ≤ t.f2.size by omega)]
          by_cases h4 : (t.f2.size : Int) ≤ 1000
          · rw [if_pos h4, decide_eq_true (show t.f2.size ≤ 1000 by omega)]
            by_cases h5 : (t.f3.size : Int) ≥ 1
            · rw [if_pos h5, decide_eq_true (show 1 ≤ t.f3.size by omega)]
              by_cases h6 : (t.f3.size : Int) ≤ 1000
              · rw [if_pos h6, decide_eq_true (show t.f3.size ≤ 1000 by omega)]
                rfl
              · rw [if_neg h6, decide_eq_false (show ¬ t.f3.size ≤ 1000 by omega)]; simp
            · rw [if_neg h5, decide_eq_false (show ¬ 1 ≤ t.f3.size by omega)]; simp
          · rw [if_neg h4, decide_eq_false (show ¬ t.f2.size ≤ 1000 by omega)]; simp
        · rw [if_neg h3, decide_eq_false (show ¬ 1 ≤ t.f2.size by omega)]; simp
      · rw [if_neg h2, decide_eq_false h2]; simp
    · rw [if_neg h1, decide_eq_false (show ¬ 0 ≤ t.f1 by omega)]; simp
  · rw [if_neg h0, Bool.eq_false_iff.2 h0]; simp
theorem rd87 (l : List S87) (i : Nat) (h : i < l.length) : rd_T87 l (i : Int) = l[i] := by
  unfold rd_T87
  rw [Int.toNat_natCast, getD_at l i _ h]
theorem rdI (l : List Int) (i : Nat) (h : i < l.length) : rd l (i : Int) = l[i] := by
  unfold rd
  rw [Int.toNat_natCast, getD_at l i 0 h]
theorem fine_l1 (dels : List Int) (hd : dels.length ≤ 1000) : ∀ d i : Nat, i + d = dels.length → Ev (fun k => impl_editFine.l1 k dels (dels.length : Int) (i : Int)) ((dels.drop i).all numOk) := by
  intro d
  induction d with
  | zero =>
    intro i hi
    refine Ev.step (f := fun _ => some true) (fun k => ?_) ?_
    · rw [impl_editFine.l1, if_neg (by omega)]
    · rw [List.drop_eq_nil_of_le (by omega)]; exact Ev.now _
  | succ d ih =>
    intro i hi
    have hlt : i < dels.length := by omega
    rw [drop_at dels i hlt, List.all_cons]
    by_cases h : numOk dels[i] = true
    · rw [h, Bool.true_and]
      refine Ev.step (fun k => ?_) (ih (i + 1) (by omega))
      rw [impl_editFine.l1, if_pos (by omega), if_pos (by omega), if_pos (by omega), rdI dels i hlt, numFine_eq, Option.bind_some, if_pos h, wrap_succ (by omega)]
    · rw [Bool.eq_false_iff.2 h, Bool.false_and]
      refine Ev.step (f := fun _ => some false) (fun k => ?_) (Ev.now _)
      rw [impl_editFine.l1, if_pos (by omega), if_pos (by omega), if_pos (by omega), rdI dels i hlt, numFine_eq, Option.bind_some, if_neg h]
theorem fine_l0 (adds : List S87) (dels : List Int) (log next last : Int) (ha : adds.length ≤ 1000) (hd : dels.length ≤ 1000) : ∀ d i : Nat, i + d = adds.length → Ev (fun k => impl_editFine.l0 k adds (adds.length : Int) (i : Int) adds dels log next last) ((adds.drop i).all refOk && dels.all numOk) := by
  intro d
  induction d with
  | zero =>
    intro i hi
    rw [List.drop_eq_nil_of_le (by omega), List.all_nil, Bool.true_and]
    have h := fine_l1 dels hd dels.length 0 (by omega)
    rw [List.drop_zero] at h
    refine Ev.step (fun k => ?_) h
    rw [impl_editFine.l0, if_neg (by omega)]
    rfl
  | succ d ih =>
    intro i hi
    have hlt : i < adds.length := by omega
    rw [drop_at adds i hlt, List.all_cons]
    by_cases h : refOk adds[i] = true
    · rw [h, Bool.true_and]
      refine Ev.step (fun k => ?_) (ih (i + 1) (by omega))
      rw [impl_editFine.l0, if_pos (by omega), if_pos (by omega), if_pos (by omega), rd87 adds i hlt, refFine_eq, Option.bind_some, if_pos h, wrap_succ (by omega)]
    · rw [Bool.eq_false_iff.2 h, Bool.false_and, Bool.false_and]
      refine Ev.step (f := fun _ => some false) (fun k => ?_) (Ev.now _)
      rw [impl_editFine.l0, if_pos (by omega), if_pos (by omega), if_pos (by omega), rd87 adds i hlt, refFine_eq, Option.bind_some, if_neg h]
theorem fine_end (adds : List S87) (dels : List Int) (log next last : Int) : Ev (fun k => impl_editFine.j0 k true adds dels log next last) false :=
  Ev.step (f := fun _ => some false) (fun k => by rw [impl_editFine.j0, if_pos rfl]) (Ev.now _)
theorem editFine_ev (adds : List S87) (dels : List Int) (log next last : Int) : Ev (fun k => impl_editFine.f k adds dels log next last) (editOk adds dels log next last) := by
  unfold editOk
  by_cases h0 : (adds.length : Int) > 1000
  · rw [decide_eq_false (show ¬ adds.length ≤ 1000 by omega)]
    refine Ev.congr (fun k => if_pos h0) ?_
    simpa using fine_end adds dels log next last
  rw [decide_eq_true (show adds.length ≤ 1000 by omega), Bool.true_and]
  refine Ev.congr (fun k => if_neg h0) ?_
  by_cases h1 : (dels.length : Int) > 1000
  · rw [decide_eq_false (show ¬ dels.length ≤ 1000 by omega)]
    refine Ev.congr (fun k => if_pos h1) ?_
    simpa using fine_end adds dels log next last
  rw [decide_eq_true (show dels.length ≤ 1000 by omega), Bool.true_and]
  refine Ev.congr (fun k => if_neg h1) ?_
  simp only [numFine_eq, Option.bind_some]
  by_cases h2 : numOk log = true
  rotate_left
  · rw [Bool.eq_false_iff.2 h2]
    refine Ev.congr (fun k => if_neg (by simp)) ?_
    simpa using fine_end adds dels log next last
  rw [h2, Bool.true_and]
  refine Ev.congr (fun k => if_pos rfl) ?_
  by_cases h3 : numOk next = true
  rotate_left
  · rw [Bool.eq_false_iff.2 h3]
    refine Ev.congr (fun k => if_neg (by simp)) ?_
    simpa using fine_end adds dels log next last
  rw [h3, Bool.true_and]
  refine Ev.congr (fun k => if_pos rfl) ?_
  by_cases h4 : last < 0
  · rw [decide_eq_false (show ¬ 0 ≤ last by omega)]
    refine Ev.congr (fun k => if_pos h4) ?_
    simpa using fine_end adds dels log next last
  rw [decide_eq_true (show 0 ≤ last by omega), Bool.true_and]
  refine Ev.congr (fun k => if_neg h4) ?_
  by_cases h5 : last > 72057594037927935
  · rw [decide_eq_false (show ¬ last ≤ 72057594037927935 by omega), decide_eq_true h5]
    simpa using fine_end adds dels log next last
  rw [decide_eq_true (show last ≤ 72057594037927935 by omega), decide_eq_false h5, Bool.true_and]
  have h := fine_l0 adds dels log next last (by omega) (by omega) adds.length 0 (by omega)
  rw [List.drop_zero] at h
  refine Ev.step (fun k => ?_) h
  rw [impl_editFine.j0, if_neg (by simp)]
  rfl
theorem editFine_call (A0 : Option Addr) (c0 : Nat) (adds : List S87) (A1 : Option Addr) (c1 : Nat) (dels : List Int) (log next last : Int) (w : World) (h0 : Kd.C k87 w A0 adds.length adds) (g0 : adds.length ≤ c0) (h1 : Kd.C (Kd.int .i64) w A1 dels.length dels) (g1 : dels.length ≤ c1) :
    Calls Try.prog 56 #[.agg #[.slice A0 adds.length c0, .slice A1 dels.length c1, .int .i64 log, .int .i64 next, .int .i64 last]] w fun e w' => e = .returned (.bool (editOk adds dels log next last)) ∧ Below w.heap.size w w' := by
  obtain ⟨k, hk⟩ := Ev.rounds (editFine_ev adds dels log next last)
  exact impl_editFine.calls k A0 c0 adds A1 c1 dels log next last _ w h0 g0 h1 g1 hk
end Go.Proofs.Ytjneloehdcecnaa.M
end
section
/- What the program's DecodeEdit answers, in plain words, and how the world stands in its rounds. Condition: the text has at most 2 to the 20 bytes. -/
namespace Go.Proofs.Ytjneloehdcecnaa.M
open Go.RowKit Go.Proofs.Ytjneloehdcecnaa.P Go.Proofs.YtjneloehdcecnaaW.PrintWords Go.Proofs.YtjneloehdcecnaaW.PrintLast Go.Proofs.YtjneloehdcecnaaW.PrintMore
set_option linter.unusedVariables false
def er2 (s : ByteArray) (n lv : Int) (T : ByteArray × Int × Bool) (U : ByteArray × Int × Bool) : S87 × Int × Bool := (⟨n, lv, T.1, U.1⟩, U.2)
def er1 (s : ByteArray) (n lv : Int) (T : ByteArray × Int × Bool) : S87 × Int × Bool := er2 s n lv T (ttext s T.2.1 T.2.2)
def er0 (s : ByteArray) (n : Int) (T : Int × Int × Bool) : S87 × Int × Bool := er1 s n T.1 (ttext s T.2.1 T.2.2)
def er (s : ByteArray) (T : Int × Int × Bool) : S87 × Int × Bool := er0 s T.1 (tnum s T.2.1 T.2.2)
def eround (s : ByteArray) (a : Int) (b : Bool) : S87 × Int × Bool := er s (tnum s a b)
def aloop (s : ByteArray) : Nat → Int → Bool → List S87 → List S87 × Int × Bool
  | 0, a, b, out => (out, a, b)
  | n + 1, a, b, out => if b = true then (out, a, b) else aloop s n (eround s a b).2.1 (eround s a b).2.2 (out ++ [(eround s a b).1])
def nloop (s : ByteArray) : Nat → Int → Bool → List Int → List Int × Int × Bool
  | 0, a, b, out => (out, a, b)
  | n + 1, a, b, out => if b = true then (out, a, b) else nloop s n (tnum s a b).2.1 (tnum s a b).2.2 (out ++ [(tnum s a b).1])
abbrev Res := List S87 × List Int × Int × Int × Int × Bool
def finE (s : ByteArray) (adds : List S87) (dels : List Int) (l x z : Int) (b : Bool) : Res :=
  if b = true then ([], [], 0, 0, 0, false) else if s.size = 0 then ([], [], 0, 0, 0, false) else if encEd adds dels l x z = s then (adds, dels, l, x, z, true) else ([], [], 0, 0, 0, false)
def de6 (s : ByteArray) (adds : List S87) (dels : List Int) (l x : Int) (T : Int × Int × Bool) : Res := finE s adds dels l x T.1 T.2.2
def de5 (s : ByteArray) (adds : List S87) (dels : List Int) (l : Int) (T : Int × Int × Bool) : Res := de6 s adds dels l T.1 (tnum s T.2.1 T.2.2)
def de4 (s : ByteArray) (adds : List S87) (dels : List Int) (T : Int × Int × Bool) : Res := de5 s adds dels T.1 (tnum s T.2.1 T.2.2)
def de3 (s : ByteArray) (adds : List S87) (D : List Int × Int × Bool) : Res := de4 s adds D.1 (tnum s D.2.1 D.2.2)
def de2 (s : ByteArray) (adds : List S87) (T : Int × Int × Bool) : Res := de3 s adds (nloop s T.1.toNat T.2.1 T.2.2 [])
def de1 (s : ByteArray) (A : List S87 × Int × Bool) : Res := de2 s A.1 (tnum s A.2.1 A.2.2)
def de0 (s : ByteArray) (T : Int × Int × Bool) : Res := de1 s (aloop s T.1.toNat T.2.1 T.2.2 [])
def dece (s : ByteArray) : Res := de0 s (tnum s 0 false)
theorem tnum_adv {s : ByteArray} {a : Int} {b : Bool} (h : (tnum s a b).2.2 = false) : b = false ∧ a < (tnum s a b).2.1 := by
  unfold tnum at h ⊢
  by_cases hb : b = true
  · rw [if_pos hb] at h; cases h
  · rw [if_neg hb] at h ⊢
    by_cases hg : (get s a).2.2 = true
    · rw [if_pos hg]
      exact ⟨Bool.eq_false_iff.2 hb, (get_ok hg).2.2.2.1⟩
    · rw [if_neg hg] at h; cases h
theorem tbytes_adv {s : ByteArray} {a n : Int} {b : Bool} (hn : 0 ≤ n) (h : (tbytes s a b n).2.2 = false) : b = false ∧ a ≤ (tbytes s a b n).2.1 := by
  unfold tbytes at h ⊢
  by_cases hb : b = true
  · rw [if_pos hb] at h; cases h
  · rw [if_neg hb] at h ⊢
    by_cases hg : n > (s.size : Int) - a
    · rw [if_pos hg] at h; cases h
    · rw [if_neg hg]
      exact ⟨Bool.eq_false_iff.2 hb, by show a ≤ a + n; omega⟩
theorem ttext_adv {s : ByteArray} {a : Int} {b : Bool} (hr : 0 ≤ a ∧ a ≤ (s.size : Int)) (h : (ttext s a b).2.2 = false) : b = false ∧ a < (ttext s a b).2.1 := by
  unfold ttext at h ⊢
  have h1 := tbytes_adv (tnum_in hr).1 h
  have h2 := tnum_adv h1.1
  exact ⟨h2.1, by omega⟩
/-- The world: the taker stands at g, the edit at e, the answer's place at r. -/
structure DE (w wr : World) (g e r : Nat) (s : ByteArray) (a : Int) (b : Bool) (vA vD : Value) (x y z : Int) (adds : List S87) (dels : List Int) : Prop where
  bel : Below w.heap.size w wr
  gg : w.heap.size ≤ g
  ge : w.heap.size ≤ e
  gr : w.heap.size ≤ r
  n1 : e ≠ g
  n2 : r ≠ g
  n3 : e ≠ r
  tk : TkAt wr g s a b
  eb : wr.heap[e]? = some (.cells #[vA, vD, .int .i64 x, .int .i64 y, .int .i64 z] 43 (0, 0))
  rb : wr.heap[r]? = some (.cells #[.slice none 0 0, .slice none 0 0, .int .i64 0, .int .i64 0, .int .i64 0] 43 (0, 0))
  rA : Kd.R k87 87 wr w.heap.size (fun _ => True) vA adds
  rD : Kd.R (Kd.int .i64) 3 wr w.heap.size (fun _ => True) vD dels
section
variable {w wr W : World} {g e r : Nat} {s : ByteArray} {a : Int} {b : Bool} {vA vD : Value} {x y z : Int} {adds : List S87} {dels : List Int}
theorem DE.below (h : DE w wr g e r s a b vA vD x y z adds dels) (hx : Below wr.heap.size wr W) : DE w W g e r s a b vA vD x y z adds dels :=
  ⟨h.bel.trans (hx.mono h.bel.size), h.gg, h.ge, h.gr, h.n1, h.n2, h.n3, (hx.block _ (blk_lt h.tk)).trans h.tk, (hx.block _ (blk_lt h.eb)).trans h.eb, (hx.block _ (blk_lt h.rb)).trans h.rb, Kd.R_below h.rA hx, Kd.R_below h.rD hx⟩
theorem DE.keep {a' : Int} {b' : Bool} (h : DE w wr g e r s a b vA vD x y z adds dels) (ht : TkAt W g s a' b') (hB : Below w.heap.size w W) (hk : KeepBut wr W g none) : DE w W g e r s a' b' vA vD x y z adds dels :=
  ⟨hB, h.gg, h.ge, h.gr, h.n1, h.n2, h.n3, ht, (hk.2 e (blk_lt h.eb) h.n1 (by simp)).trans h.eb, (hk.2 r (blk_lt h.rb) h.n2 (by simp)).trans h.rb,
    Kd.R_mono (Kd.R_keep (Kd.R_types h.rA h.tk (by decide)) hk (fun _ x => x.2)) (fun _ x => x.1), Kd.R_mono (Kd.R_keep (Kd.R_types h.rD h.tk (by decide)) hk (fun _ x => x.2)) (fun _ x => x.1)⟩
theorem DE.num (h : DE w wr g e r s a b vA vD x y z adds dels) (hs : s.size ≤ 1048576) (ha : 0 ≤ a ∧ a ≤ (s.size : Int)) {T : Int × Int × Bool} (hT : tnum s a b = T) :
    Calls Try.prog 60 #[.pointer (some ⟨g, 0, none⟩)] wr fun e' w' => e' = .returned (.int .i64 T.1) ∧ DE w w' g e r s T.2.1 T.2.2 vA vD x y z adds dels := by
  subst hT
  exact (tnum_call w wr g s a b hs ha h.tk h.gg h.bel).mono fun e' w' hh => ⟨hh.1, h.keep hh.2.1 hh.2.2.1 hh.2.2.2⟩
theorem DE.text (h : DE w wr g e r s a b vA vD x y z adds dels) (hs : s.size ≤ 1048576) (ha : 0 ≤ a ∧ a ≤ (s.size : Int)) {T : ByteArray × Int × Bool} (hT : ttext s a b = T) :
    Calls Try.prog 61 #[.pointer (some ⟨g, 0, none⟩)] wr fun e' w' => e' = .returned (.string T.1) ∧ DE w w' g e r s T.2.1 T.2.2 vA vD x y z adds dels := by
  subst hT
  exact (ttext_call w wr g s a b hs ha h.tk h.gg h.bel).mono fun e' w' hh => ⟨hh.1, h.keep hh.2.1 hh.2.2.1 hh.2.2.2⟩
theorem own_ne {α : Type} {d : Kd α} {q : Nat} {ok : Nat → Prop} {v : Value} {xs : List α} {base : Nat} (h : d.R q wr base ok v xs) {k t : Nat} {cells : Array Value} (hb : wr.heap[k]? = some (.cells cells t (0, 0))) (ht : ∀ p, p ∈ q :: d.E → p ≠ t) : some k ≠ v.ownBlock :=
  fun he => ((Kd.R_types h hb ht).1 k he.symm).2 rfl
/-- The edit's references have been appended to. -/
theorem DE.grewA {v1 : Value} {adds1 : List S87} (h : DE w wr g e r s a b vA vD x y z adds dels) (ho : Kd.R k87 87 W w.heap.size (fun _ => True) v1 adds1) (hb : Below w.heap.size w W) (hg : wr.grownBy W vA.ownBlock) :
    DE w (W.setCell ⟨e, 0, none⟩ v1) g e r s a b v1 vD x y z adds1 dels := by
  have tk := (hg.block g (blk_lt h.tk) (own_ne h.rA h.tk (by decide))).trans h.tk
  have eb := (hg.block e (blk_lt h.eb) (own_ne h.rA h.eb (by decide))).trans h.eb
  have rb := (hg.block r (blk_lt h.rb) (own_ne h.rA h.rb (by decide))).trans h.rb
  have rD := Kd.R_over' h.rD (Kd.R_typed h.rA) (by decide) hg
  exact ⟨below_set hb h.ge, h.gg, h.ge, h.gr, h.n1, h.n2, h.n3, (Below.heap_setCell W ⟨e, 0, none⟩ v1 g h.n1.symm).trans tk, blk_put eb 0 v1 rfl, (Below.heap_setCell W ⟨e, 0, none⟩ v1 r h.n3.symm).trans rb,
    Kd.R_set ho eb (by decide) 0 v1, Kd.R_set rD eb (by decide) 0 v1⟩
/-- The edit's numbers have been appended to. -/
theorem DE.grewD {v1 : Value} {dels1 : List Int} (h : DE w wr g e r s a b vA vD x y z adds dels) (ho : Kd.R (Kd.int .i64) 3 W w.heap.size (fun _ => True) v1 dels1) (hb : Below w.heap.size w W) (hg : wr.grownBy W vD.ownBlock) :
    DE w (W.setCell ⟨e, 1, none⟩ v1) g e r s a b vA v1 x y z adds dels1 := by
  have tk := (hg.block g (blk_lt h.tk) (own_ne h.rD h.tk (by decide))).trans h.tk
  have eb := (hg.block e (blk_lt h.eb) (own_ne h.rD h.eb (by decide))).trans h.eb
  have rb := (hg.block r (blk_lt h.rb) (own_ne h.rD h.rb (by decide))).trans h.rb
  have rA := Kd.R_over' h.rA (Kd.R_typed h.rD) (by decide) hg
  exact ⟨below_set hb h.ge, h.gg, h.ge, h.gr, h.n1, h.n2, h.n3, (Below.heap_setCell W ⟨e, 1, none⟩ v1 g h.n1.symm).trans tk, blk_put eb 1 v1 rfl, (Below.heap_setCell W ⟨e, 1, none⟩ v1 r h.n3.symm).trans rb,
    Kd.R_set rA eb (by decide) 1 v1, Kd.R_set ho eb (by decide) 1 v1⟩
theorem DE.set2 (h : DE w wr g e r s a b vA vD x y z adds dels) (u : Int) : DE w (wr.setCell ⟨e, 2, none⟩ (.int .i64 u)) g e r s a b vA vD u y z adds dels :=
  ⟨below_set h.bel h.ge, h.gg, h.ge, h.gr, h.n1, h.n2, h.n3, (Below.heap_setCell wr ⟨e, 2, none⟩ _ g h.n1.symm).trans h.tk, blk_put h.eb 2 _ rfl, (Below.heap_setCell wr ⟨e, 2, none⟩ _ r h.n3.symm).trans h.rb, Kd.R_set h.rA h.eb (by decide) 2 _, Kd.R_set h.rD h.eb (by decide) 2 _⟩
theorem DE.set3 (h : DE w wr g e r s a b vA vD x y z adds dels) (u : Int) : DE w (wr.setCell ⟨e, 3, none⟩ (.int .i64 u)) g e r s a b vA vD x u z adds dels :=
  ⟨below_set h.bel h.ge, h.gg, h.ge, h.gr, h.n1, h.n2, h.n3, (Below.heap_setCell wr ⟨e, 3, none⟩ _ g h.n1.symm).trans h.tk, blk_put h.eb 3 _ rfl, (Below.heap_setCell wr ⟨e, 3, none⟩ _ r h.n3.symm).trans h.rb, Kd.R_set h.rA h.eb (by decide) 3 _, Kd.R_set h.rD h.eb (by decide) 3 _⟩
theorem DE.set4 (h : DE w wr g e r s a b vA vD x y z adds dels) (u : Int) : DE w (wr.setCell ⟨e, 4, none⟩ (.int .i64 u)) g e r s a b vA vD x y u adds dels :=
  ⟨below_set h.bel h.ge, h.gg, h.ge, h.gr, h.n1, h.n2, h.n3, (Below.heap_setCell wr ⟨e, 4, none⟩ _ g h.n1.symm).trans h.tk, blk_put h.eb 4 _ rfl, (Below.heap_setCell wr ⟨e, 4, none⟩ _ r h.n3.symm).trans h.rb, Kd.R_set h.rA h.eb (by decide) 4 _, Kd.R_set h.rD h.eb (by decide) 4 _⟩
theorem DE.c0 (h : DE w wr g e r s a b vA vD x y z adds dels) : wr.cell? ⟨e, 0, none⟩ = some vA := (blk_cell h.eb 0).trans rfl
theorem DE.c1 (h : DE w wr g e r s a b vA vD x y z adds dels) : wr.cell? ⟨e, 1, none⟩ = some vD := (blk_cell h.eb 1).trans rfl
theorem DE.c2 (h : DE w wr g e r s a b vA vD x y z adds dels) : wr.cell? ⟨e, 2, none⟩ = some (.int .i64 x) := (blk_cell h.eb 2).trans rfl
theorem DE.c3 (h : DE w wr g e r s a b vA vD x y z adds dels) : wr.cell? ⟨e, 3, none⟩ = some (.int .i64 y) := (blk_cell h.eb 3).trans rfl
theorem DE.c4 (h : DE w wr g e r s a b vA vD x y z adds dels) : wr.cell? ⟨e, 4, none⟩ = some (.int .i64 z) := (blk_cell h.eb 4).trans rfl
end
end Go.Proofs.Ytjneloehdcecnaa.M
end
section
/- The program's EncodeEntries, walked. No condition. -/
namespace Go.Proofs.Ytjneloehdcecnaa.M
open Go.RowKit Go.Proofs.Ytjneloehdcecnaa.P Go.Proofs.YtjneloehdcecnaaW.PrintWords Go.Proofs.YtjneloehdcecnaaW.PrintLast Go.Proofs.YtjneloehdcecnaaW.PrintMore
set_option linter.unusedVariables false
set_option linter.unusedSimpArgs false
theorem strCells_append (a b : ByteArray) : Lib.strCells (a ++ b) = Lib.strCells a ++ Lib.strCells b := by
  unfold Lib.strCells
  rw [ByteArray.data_append]
  simp
end Go.Proofs.Ytjneloehdcecnaa.M
end

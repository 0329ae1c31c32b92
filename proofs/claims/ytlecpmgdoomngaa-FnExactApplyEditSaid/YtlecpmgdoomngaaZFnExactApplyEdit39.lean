/- Texts of the claim FnExactApplyEdit, part 39 of 47, joined: MApplyWalk, PimplApplyEdit, PlawseqIntS, PlawseqTableRef. No condition beyond those that stand at each. -/
import Derived.Test.YtlecpmgdoomngaaZFnExactApplyEdit37
import Derived.Test.YtlecpmgdoomngaaZFnExactApplyEdit38
import Derived.WalkLawsBesides
section
namespace Go.Proofs.Ytlecpmgdoomngaa.M
open Go.RowKit Go.Maps Go.Proofs.Ytlecpmgdoomngaa.P Go.Proofs.YtlecpmgdoomngaaW.PrintWords Go.Proofs.YtlecpmgdoomngaaW.PrintLast Go.Proofs.YtlecpmgdoomngaaW.PrintMore
attribute [local go_sem] max2_int min2_int max_two min_two max_three min_three max_four min_four   -- for this text's walks alone
set_option linter.unusedVariables false
set_option linter.unusedSimpArgs false
theorem put4 {W : World} {r : Nat} {u0 u1 u2 u3 : Value} (h : W.heap[r]? = some (.cells #[u0, u1, u2, u3] 32 (0, 0))) (v0 v1 v2 v3 : Value) :
  ((((W.setCell ⟨r, 0, none⟩ v0).setCell ⟨r, 1, none⟩ v1).setCell ⟨r, 2, none⟩ v2).setCell ⟨r, 3, none⟩ v3).heap[r]? = some (.cells #[v0, v1, v2, v3] 32 (0, 0)) :=
 blk_put (blk_put (blk_put (blk_put h 0 v0 rfl) 1 v1 rfl) 2 v2 rfl) 3 v3 rfl
theorem meas_lt {n i : Nat} (h : i < n) (j : Int) (e : j = ((i + 1 : Nat) : Int)) : n - (intOf (.int .i64 j)).toNat < n - (intOf (.int .i64 (i : Int))).toNat := by
 subst e
 simp only [intOf, Int.toNat_natCast]
 omega
theorem drops_le {k : Nat} {l0 : List S48} {l1 : List Int} {a2 a3 a4 : Int} {fine : Bool} (h : impl_editFine.f k l0 l1 a2 a3 a4 = some fine) : fine = true → l0.length ≤ 1000 ∧ l1.length ≤ 1000 := by
 rintro rfl
 unfold impl_editFine.f at h
 have j : ∀ {l0 : List S48} {l1 : List Int} {a2 a3 a4 : Int}, impl_editFine.j0 k true l0 l1 a2 a3 a4 = some true → False := by
  intro l0 l1 a2 a3 a4 h
  cases k with
  | zero => simp [impl_editFine.j0] at h
  | succ k => simp [impl_editFine.j0] at h
 by_cases c : (l0.length : Int) > 1000
 ·rw [if_pos c] at h; exact (j h).elim
 ·rw [if_neg c] at h
  by_cases d : (l1.length : Int) > 1000
  ·rw [if_pos d] at h; exact (j h).elim
  ·omega
set_option maxHeartbeats 16000000 in
set_option maxRecDepth 100000 in
theorem impl_call (k : Nat) (A0_0 : Option Addr) (c0_0 : Nat) (l0_0 : List S48) (a0_1 a0_2 a0_3 : Int) (A1_0 : Option Addr) (c1_0 : Nat) (l1_0 : List S48) (A1_1 : Option Addr) (c1_1 : Nat) (l1_1 : List Int) (a1_2 a1_3 a1_4 : Int) (fine : Bool) (R : Out) (w : World)
  (hr0_0 : Kd.C k48 w A0_0 l0_0.length l0_0) (hc0_0 : l0_0.length ≤ c0_0) (hr1_0 : Kd.C k48 w A1_0 l1_0.length l1_0) (hc1_0 : l1_0.length ≤ c1_0) (hr1_1 : Kd.C (Kd.int .i64) w A1_1 l1_1.length l1_1) (hc1_1 : l1_1.length ≤ c1_1)
  (hf : impl_editFine.f k l1_0 l1_1 a1_2 a1_3 a1_4 = some fine) (hw0 : ∀ t ∈ l0_0, (Lit.int .i64 t.f0).wf = true) (hw1 : ∀ t ∈ l1_0, (Lit.int .i64 t.f0).wf = true) (hw2 : ∀ d ∈ l1_1, (Lit.int .i64 d).wf = true) (hR : applyI fine l0_0 l1_0 l1_1 a1_2 a1_3 a1_4 = R) :
  Calls Try.prog 9 #[.agg #[.slice A0_0 l0_0.length c0_0, .int .i64 a0_1, .int .i64 a0_2, .int .i64 a0_3], .agg #[.slice A1_0 l1_0.length c1_0, .slice A1_1 l1_1.length c1_1, .int .i64 a1_2, .int .i64 a1_3, .int .i64 a1_4]] w fun e w' => ∃ v0_ : Value, e = .returned (.tuple #[.agg #[v0_, .int .i64 R.2.1, .int .i64 R.2.2.1, .int .i64 R.2.2.2.1], .bool R.2.2.2.2]) ∧ Kd.R k48 48 w' w.heap.size (fun _ => True) v0_ R.1 ∧ Below w.heap.size w w' := by
 have hu32 := Try.underlying32
 have hu37 := Try.underlying37
 have hu48 := Try.underlying48
 have hmm := @run_makeMap Try.prog
 have HR0_0 := Aside0.mk hr0_0
 have HC0_0 := Aside0.mk hc0_0
 clear hr0_0 hc0_0
 have HR1_0 := Aside0.mk hr1_0
 have HC1_0 := Aside0.mk hc1_0
 clear hr1_0 hc1_0
 have HR1_1 := Aside0.mk hr1_1
 have HC1_1 := Aside0.mk hc1_1
 clear hr1_1 hc1_1
 have HF := Aside0.mk hf
 have HW0 := Aside0.mk hw0
 have HW1 := Aside0.mk hw1
 have HW2 := Aside0.mk hw2
 have HR := Aside0.mk hR
 have HL := Aside0.mk (drops_le hf)
 clear hf hw0 hw1 hw2 hR
 have HB := Aside0.mk (Below.refl w.heap.size w)
 go_enter Try.func9, Try.ntmps9
 go_upto_region 1 with (first | ((with_reducible refine gate_dst (N := 2) rfl ?_); (try (refine gate_guard (by rfl) ?_; dsimp only)); refine box_event ?hg (N := 2) ?hd (cs := #[.slice A0_0 l0_0.length c0_0, .int .i64 a0_1, .int .i64 a0_2, .int .i64 a0_3]) (t := 32) ?hr ?_; (case hd => rfl); (case hg => rfl); (case hr => first | (go_simp; done) | (go_simp; rfl)); intro gb146 hg w4 hbox hb; have n0_ := Aside0.mk (below_step (by repeat (first | (with_reducible first | exact HB.out | apply below_alloc | apply pw_below_drewN | apply below_drew1) | exact HB.out)) hb); have n1_ := Aside0.mk (hbox); have n2_ := Aside0.mk ((by rw [hg]; exact (below_size (by repeat (first | (with_reducible first | exact HB.out | apply below_alloc | apply pw_below_drewN | apply below_drew1) | exact HB.out))) : w.heap.size ≤ gb146)); have n3_ := Aside0.mk ((by rw [hg]; exact (below_size (by repeat (first | (with_reducible first | exact HB.out | apply below_alloc | apply pw_below_drewN | apply below_drew1) | exact HB.out))) : w.heap.size ≤ gb146)); clear HB; have HB := n0_; have BK146 := n1_; have GW146 := n2_; have GE146 := n3_; clear n0_ n1_ n2_ n3_; clear hb hbox hg) | ((with_reducible refine gate_dst (N := 3) rfl ?_); (try (refine gate_guard (by rfl) ?_; dsimp only)); refine box_event ?hg (N := 3) ?hd (cs := #[.slice A1_0 l1_0.length c1_0, .slice A1_1 l1_1.length c1_1, .int .i64 a1_2, .int .i64 a1_3, .int .i64 a1_4]) (t := 37) ?hr ?_; (case hd => rfl); (case hg => rfl); (case hr => first | (go_simp; done) | (go_simp; rfl)); intro gb147 hg w5 hbox hb; have n0_ := Aside0.mk (blk_below (g := gb146) (o := .cells #[.slice A0_0 l0_0.length c0_0, .int .i64 a0_1, .int .i64 a0_2, .int .i64 a0_3] 32 (0, 0)) (by (with_reducible repeat (first | refine blk_drewN ?_ _ | refine blk_drew ?_ | refine blk_alloc ?_ _)); exact BK146.out) hb); have n1_ := Aside0.mk (below_step (by repeat (first | (with_reducible first | exact HB.out | apply below_alloc | apply pw_below_drewN | apply below_drew1 | refine below_set ?_ GE146.out) | exact HB.out)) hb); have n2_ := Aside0.mk (hbox); have n3_ := Aside0.mk ((by rw [hg]; exact (below_size (by repeat (first | (with_reducible first | exact HB.out | apply below_alloc | apply pw_below_drewN | apply below_drew1 | refine below_set ?_ GE146.out) | exact HB.out))) : w.heap.size ≤ gb147)); have n4_ := Aside0.mk ((by rw [hg]; exact (below_size (by repeat (first | (with_reducible first | exact HB.out | apply below_alloc | apply pw_below_drewN | apply below_drew1 | refine below_set ?_ GE146.out) | exact HB.out))) : w.heap.size ≤ gb147)); have n5_ := Aside0.mk ((by rw [hg]; exact Nat.ne_of_lt (blk_lt (g := gb146) (o := .cells #[.slice A0_0 l0_0.length c0_0, .int .i64 a0_1, .int .i64 a0_2, .int .i64 a0_3] 32 (0, 0)) (by (with_reducible repeat (first | refine blk_drewN ?_ _ | refine blk_drew ?_ | refine blk_alloc ?_ _)); exact BK146.out)) : gb146 ≠ gb147)); have n6_ := Aside0.mk ((by rw [hg]; exact Nat.ne_of_gt (blk_lt (g := gb146) (o := .cells #[.slice A0_0 l0_0.length c0_0, .int .i64 a0_1, .int .i64 a0_2, .int .i64 a0_3] 32 (0, 0)) (by (with_reducible repeat (first | refine blk_drewN ?_ _ | refine blk_drew ?_ | refine blk_alloc ?_ _)); exact BK146.out)) : gb147 ≠ gb146)); clear BK146; clear HB; have BK146 := n0_; have HB := n1_; have BK147 := n2_; have GW147 := n3_; have GE147 := n4_; have NB146_147 := n5_; have NB147_146 := n6_; clear n0_ n1_ n2_ n3_ n4_ n5_ n6_; clear hb hbox hg) | ((with_reducible refine gate_dst (N := 4) rfl ?_); (try (refine gate_guard (by rfl) ?_; dsimp only)); refine box_event ?hg (N := 4) ?hd (cs := #[.slice none 0 0, .int .i64 0, .int .i64 0, .int .i64 0]) (t := 32) ?hr ?_; (case hd => rfl); (case hg => rfl); (case hr => first | (go_simp; done) | (go_simp; rfl)); intro gb148 hg w6 hbox hb; have n0_ := Aside0.mk (blk_below (g := gb146) (o := .cells #[.slice A0_0 l0_0.length c0_0, .int .i64 a0_1, .int .i64 a0_2, .int .i64 a0_3] 32 (0, 0)) (by (with_reducible repeat (first | refine blk_drewN ?_ _ | refine blk_drew ?_ | refine blk_alloc ?_ _)); exact BK146.out) hb); have n1_ := Aside0.mk (blk_below (g := gb147) (o := .cells #[.slice A1_0 l1_0.length c1_0, .slice A1_1 l1_1.length c1_1, .int .i64 a1_2, .int .i64 a1_3, .int .i64 a1_4] 37 (0, 0)) (by (with_reducible repeat (first | refine blk_drewN ?_ _ | refine blk_drew ?_ | refine blk_alloc ?_ _)); exact BK147.out) hb); have n2_ := Aside0.mk (below_step (by repeat (first | (with_reducible first | exact HB.out | apply below_alloc | apply pw_below_drewN | apply below_drew1 | refine below_set ?_ GE146.out | refine below_set ?_ GE147.out) | exact HB.out)) hb); have n3_ := Aside0.mk (hbox); have n4_ := Aside0.mk ((by rw [hg]; exact (below_size (by repeat (first | (with_reducible first | exact HB.out | apply below_alloc | apply pw_below_drewN | apply below_drew1 | refine below_set ?_ GE146.out | refine below_set ?_ GE147.out) | exact HB.out))) : w.heap.size ≤ gb148)); have n5_ := Aside0.mk ((by rw [hg]; exact (below_size (by repeat (first | (with_reducible first | exact HB.out | apply below_alloc | apply pw_below_drewN | apply below_drew1 | refine below_set ?_ GE146.out | refine below_set ?_ GE147.out) | exact HB.out))) : w.heap.size ≤ gb148)); have n6_ := Aside0.mk ((by rw [hg]; exact Nat.ne_of_lt (blk_lt (g := gb146) (o := .cells #[.slice A0_0 l0_0.length c0_0, .int .i64 a0_1, .int .i64 a0_2, .int .i64 a0_3] 32 (0, 0)) (by (with_reducible repeat (first | refine blk_drewN ?_ _ | refine blk_drew ?_ | refine blk_alloc ?_ _)); exact BK146.out)) : gb146 ≠ gb148)); have n7_ := Aside0.mk ((by rw [hg]; exact Nat.ne_of_gt (blk_lt (g := gb146) (o := .cells #[.slice A0_0 l0_0.length c0_0, .int .i64 a0_1, .int .i64 a0_2, .int .i64 a0_3] 32 (0, 0)) (by (with_reducible repeat (first | refine blk_drewN ?_ _ | refine blk_drew ?_ | refine blk_alloc ?_ _)); exact BK146.out)) : gb148 ≠ gb146)); have n8_ := Aside0.mk ((by rw [hg]; exact Nat.ne_of_lt (blk_lt (g := gb147) (o := .cells #[.slice A1_0 l1_0.length c1_0, .slice A1_1 l1_1.length c1_1, .int .i64 a1_2, .int .i64 a1_3, .int .i64 a1_4] 37 (0, 0)) (by (with_reducible repeat (first | refine blk_drewN ?_ _ | refine blk_drew ?_ | refine blk_alloc ?_ _)); exact BK147.out)) : gb147 ≠ gb148)); have n9_ := Aside0.mk ((by rw [hg]; exact Nat.ne_of_gt (blk_lt (g := gb147) (o := .cells #[.slice A1_0 l1_0.length c1_0, .slice A1_1 l1_1.length c1_1, .int .i64 a1_2, .int .i64 a1_3, .int .i64 a1_4] 37 (0, 0)) (by (with_reducible repeat (first | refine blk_drewN ?_ _ | refine blk_drew ?_ | refine blk_alloc ?_ _)); exact BK147.out)) : gb148 ≠ gb147)); clear BK146; clear BK147; clear HB; have BK146 := n0_; have BK147 := n1_; have HB := n2_; have BK148 := n3_; have GW148 := n4_; have GE148 := n5_; have NB146_148 := n6_; have NB148_146 := n7_; have NB147_148 := n8_; have NB148_147 := n9_; clear n0_ n1_ n2_ n3_ n4_ n5_ n6_ n7_ n8_ n9_; clear hb hbox hg))
 repeat (go_quiet (first | ((with_reducible refine gate_dst (N := 2) rfl ?_); (try (refine gate_guard (by rfl) ?_; dsimp only)); refine box_event ?hg (N := 2) ?hd (cs := #[.slice A0_0 l0_0.length c0_0, .int .i64 a0_1, .int .i64 a0_2, .int .i64 a0_3]) (t := 32) ?hr ?_; (case hd => rfl); (case hg => rfl); (case hr => first | (go_simp; done) | (go_simp; rfl)); intro gb146 hg w4 hbox hb; have n0_ := Aside0.mk (below_step (by repeat (first | (with_reducible first | exact HB.out | apply below_alloc | apply pw_below_drewN | apply below_drew1) | exact HB.out)) hb); have n1_ := Aside0.mk (hbox); have n2_ := Aside0.mk ((by rw [hg]; exact (below_size (by repeat (first | (with_reducible first | exact HB.out | apply below_alloc | apply pw_below_drewN | apply below_drew1) | exact HB.out))) : w.heap.size ≤ gb146)); have n3_ := Aside0.mk ((by rw [hg]; exact (below_size (by repeat (first | (with_reducible first | exact HB.out | apply below_alloc | apply pw_below_drewN | apply below_drew1) | exact HB.out))) : w.heap.size ≤ gb146)); clear HB; have HB := n0_; have BK146 := n1_; have GW146 := n2_; have GE146 := n3_; clear n0_ n1_ n2_ n3_; clear hb hbox hg) | ((with_reducible refine gate_dst (N := 3) rfl ?_); (try (refine gate_guard (by rfl) ?_; dsimp only)); refine box_event ?hg (N := 3) ?hd (cs := #[.slice A1_0 l1_0.length c1_0, .slice A1_1 l1_1.length c1_1, .int .i64 a1_2, .int .i64 a1_3, .int .i64 a1_4]) (t := 37) ?hr ?_; (case hd => rfl); (case hg => rfl); (case hr => first | (go_simp; done) | (go_simp; rfl)); intro gb147 hg w5 hbox hb; have n0_ := Aside0.mk (blk_below (g := gb146) (o := .cells #[.slice A0_0 l0_0.length c0_0, .int .i64 a0_1, .int .i64 a0_2, .int .i64 a0_3] 32 (0, 0)) (by (with_reducible repeat (first | refine blk_drewN ?_ _ | refine blk_drew ?_ | refine blk_alloc ?_ _)); exact BK146.out) hb); have n1_ := Aside0.mk (below_step (by repeat (first | (with_reducible first | exact HB.out | apply below_alloc | apply pw_below_drewN | apply below_drew1 | refine below_set ?_ GE146.out) | exact HB.out)) hb); have n2_ := Aside0.mk (hbox); have n3_ := Aside0.mk ((by rw [hg]; exact (below_size (by repeat (first | (with_reducible first | exact HB.out | apply below_alloc | apply pw_below_drewN | apply below_drew1 | refine below_set ?_ GE146.out) | exact HB.out))) : w.heap.size ≤ gb147)); have n4_ := Aside0.mk ((by rw [hg]; exact (below_size (by repeat (first | (with_reducible first | exact HB.out | apply below_alloc | apply pw_below_drewN | apply below_drew1 | refine below_set ?_ GE146.out) | exact HB.out))) : w.heap.size ≤ gb147)); have n5_ := Aside0.mk ((by rw [hg]; exact Nat.ne_of_lt (blk_lt (g := gb146) (o := .cells #[.slice A0_0 l0_0.length c0_0, .int .i64 a0_1, .int .i64 a0_2, .int .i64 a0_3] 32 (0, 0)) (by (with_reducible repeat (first | refine blk_drewN ?_ _ | refine blk_drew ?_ | refine blk_alloc ?_ _)); exact BK146.out)) : gb146 ≠ gb147)); have n6_ := Aside0.mk ((by rw [hg]; exact Nat.ne_of_gt (blk_lt (g := gb146) (o := .cells #[.slice A0_0 l0_0.length c0_0, .int .i64 a0_1, .int .i64 a0_2, .int .i64 a0_3] 32 (0, 0)) (by (with_reducible repeat (first | refine blk_drewN ?_ _ | refine blk_drew ?_ | refine blk_alloc ?_ _)); exact BK146.out)) : gb147 ≠ gb146)); clear BK146; clear HB; have BK146 := n0_; have HB := n1_; have BK147 := n2_; have GW147 := n3_; have GE147 := n4_; have NB146_147 := n5_; have NB147_146 := n6_; clear n0_ n1_ n2_ n3_ n4_ n5_ n6_; clear hb hbox hg) | ((with_reducible refine gate_dst (N := 4) rfl ?_); (try (refine gate_guard (by rfl) ?_; dsimp only)); refine box_event ?hg (N := 4) ?hd (cs := #[.slice none 0 0, .int .i64 0, .int .i64 0, .int .i64 0]) (t := 32) ?hr ?_; (case hd => rfl); (case hg => rfl); (case hr => first | (go_simp; done) | (go_simp; rfl)); intro gb148 hg w6 hbox hb; have n0_ := Aside0.mk (blk_below (g := gb146) (o := .cells #[.slice A0_0 l0_0.length c0_0, .int .i64 a0_1, .int .i64 a0_2, .int .i64 a0_3] 32 (0, 0)) (by (with_reducible repeat (first | refine blk_drewN ?_ _ | refine blk_drew ?_ | refine blk_alloc ?_ _)); exact BK146.out) hb); have n1_ := Aside0.mk (blk_below (g := gb147) (o := .cells #[.slice A1_0 l1_0.length c1_0, .slice A1_1 l1_1.length c1_1, .int .i64 a1_2, .int .i64 a1_3, .int .i64 a1_4] 37 (0, 0)) (by (with_reducible repeat (first | refine blk_drewN ?_ _ | refine blk_drew ?_ | refine blk_alloc ?_ _)); exact BK147.out) hb); have n2_ := Aside0.mk (below_step (by repeat (first | (with_reducible first | exact HB.out | apply below_alloc | apply pw_below_drewN | apply below_drew1 | refine below_set ?_ GE146.out | refine below_set ?_ GE147.out) | exact HB.out)) hb); have n3_ := Aside0.mk (hbox); have n4_ := Aside0.mk ((by rw [hg]; exact (below_size (by repeat (first | (with_reducible first | exact HB.out | apply below_alloc | apply pw_below_drewN | apply below_drew1 | refine below_set ?_ GE146.out | refine below_set ?_ GE147.out) | exact HB.out))) : w.heap.size ≤ gb148)); have n5_ := Aside0.mk ((by rw [hg]; exact (below_size (by repeat (first | (with_reducible first | exact HB.out | apply below_alloc | apply pw_below_drewN | apply below_drew1 | refine below_set ?_ GE146.out | refine below_set ?_ GE147.out) | exact HB.out))) : w.heap.size ≤ gb148)); have n6_ := Aside0.mk ((by rw [hg]; exact Nat.ne_of_lt (blk_lt (g := gb146) (o := .cells #[.slice A0_0 l0_0.length c0_0, .int .i64 a0_1, .int .i64 a0_2, .int .i64 a0_3] 32 (0, 0)) (by (with_reducible repeat (first | refine blk_drewN ?_ _ | refine blk_drew ?_ | refine blk_alloc ?_ _)); exact BK146.out)) : gb146 ≠ gb148)); have n7_ := Aside0.mk ((by rw [hg]; exact Nat.ne_of_gt (blk_lt (g := gb146) (o := .cells #[.slice A0_0 l0_0.length c0_0, .int .i64 a0_1, .int .i64 a0_2, .int .i64 a0_3] 32 (0, 0)) (by (with_reducible repeat (first | refine blk_drewN ?_ _ | refine blk_drew ?_ | refine blk_alloc ?_ _)); exact BK146.out)) : gb148 ≠ gb146)); have n8_ := Aside0.mk ((by rw [hg]; exact Nat.ne_of_lt (blk_lt (g := gb147) (o := .cells #[.slice A1_0 l1_0.length c1_0, .slice A1_1 l1_1.length c1_1, .int .i64 a1_2, .int .i64 a1_3, .int .i64 a1_4] 37 (0, 0)) (by (with_reducible repeat (first | refine blk_drewN ?_ _ | refine blk_drew ?_ | refine blk_alloc ?_ _)); exact BK147.out)) : gb147 ≠ gb148)); have n9_ := Aside0.mk ((by rw [hg]; exact Nat.ne_of_gt (blk_lt (g := gb147) (o := .cells #[.slice A1_0 l1_0.length c1_0, .slice A1_1 l1_1.length c1_1, .int .i64 a1_2, .int .i64 a1_3, .int .i64 a1_4] 37 (0, 0)) (by (with_reducible repeat (first | refine blk_drewN ?_ _ | refine blk_drew ?_ | refine blk_alloc ?_ _)); exact BK147.out)) : gb148 ≠ gb147)); clear BK146; clear BK147; clear HB; have BK146 := n0_; have BK147 := n1_; have HB := n2_; have BK148 := n3_; have GW148 := n4_; have GE148 := n5_; have NB146_148 := n6_; have NB148_146 := n7_; have NB147_148 := n8_; have NB148_147 := n9_; clear n0_ n1_ n2_ n3_ n4_ n5_ n6_ n7_ n8_ n9_; clear hb hbox hg)); go_upto_region 1 with (first | ((with_reducible refine gate_dst (N := 2) rfl ?_); (try (refine gate_guard (by rfl) ?_; dsimp only)); refine box_event ?hg (N := 2) ?hd (cs := #[.slice A0_0 l0_0.length c0_0, .int .i64 a0_1, .int .i64 a0_2, .int .i64 a0_3]) (t := 32) ?hr ?_; (case hd => rfl); (case hg => rfl); (case hr => first | (go_simp; done) | (go_simp; rfl)); intro gb146 hg w4 hbox hb; have n0_ := Aside0.mk (below_step (by repeat (first | (with_reducible first | exact HB.out | apply below_alloc | apply pw_below_drewN | apply below_drew1) | exact HB.out)) hb); have n1_ := Aside0.mk (hbox); have n2_ := Aside0.mk ((by rw [hg]; exact (below_size (by repeat (first | (with_reducible first | exact HB.out | apply below_alloc | apply pw_below_drewN | apply below_drew1) | exact HB.out))) : w.heap.size ≤ gb146)); have n3_ := Aside0.mk ((by rw [hg]; exact (below_size (by repeat (first | (with_reducible first | exact HB.out | apply below_alloc | apply pw_below_drewN | apply below_drew1) | exact HB.out))) : w.heap.size ≤ gb146)); clear HB; have HB := n0_; have BK146 := n1_; have GW146 := n2_; have GE146 := n3_; clear n0_ n1_ n2_ n3_; clear hb hbox hg) | ((with_reducible refine gate_dst (N := 3) rfl ?_); (try (refine gate_guard (by rfl) ?_; dsimp only)); refine box_event ?hg (N := 3) ?hd (cs := #[.slice A1_0 l1_0.length c1_0, .slice A1_1 l1_1.length c1_1, .int .i64 a1_2, .int .i64 a1_3, .int .i64 a1_4]) (t := 37) ?hr ?_; (case hd => rfl); (case hg => rfl); (case hr => first | (go_simp; done) | (go_simp; rfl)); intro gb147 hg w5 hbox hb; have n0_ := Aside0.mk (blk_below (g := gb146) (o := .cells #[.slice A0_0 l0_0.length c0_0, .int .i64 a0_1, .int .i64 a0_2, .int .i64 a0_3] 32 (0, 0)) (by (with_reducible repeat (first | refine blk_drewN ?_ _ | refine blk_drew ?_ | refine blk_alloc ?_ _)); exact BK146.out) hb); have n1_ := Aside0.mk (below_step (by repeat (first | (with_reducible first | exact HB.out | apply below_alloc | apply pw_below_drewN | apply below_drew1 | refine below_set ?_ GE146.out) | exact HB.out)) hb); have n2_ := Aside0.mk (hbox); have n3_ := Aside0.mk ((by rw [hg]; exact (below_size (by repeat (first | (with_reducible first | exact HB.out | apply below_alloc | apply pw_below_drewN | apply below_drew1 | refine below_set ?_ GE146.out) | exact HB.out))) : w.heap.size ≤ gb147)); have n4_ := Aside0.mk ((by rw [hg]; exact (below_size (by repeat (first | (with_reducible first | exact HB.out | apply below_alloc | apply pw_below_drewN | apply below_drew1 | refine below_set ?_ GE146.out) | exact HB.out))) : w.heap.size ≤ gb147)); have n5_ := Aside0.mk ((by rw [hg]; exact Nat.ne_of_lt (blk_lt (g := gb146) (o := .cells #[.slice A0_0 l0_0.length c0_0, .int .i64 a0_1, .int .i64 a0_2, .int .i64 a0_3] 32 (0, 0)) (by (with_reducible repeat (first | refine blk_drewN ?_ _ | refine blk_drew ?_ | refine blk_alloc ?_ _)); exact BK146.out)) : gb146 ≠ gb147)); have n6_ := Aside0.mk ((by rw [hg]; exact Nat.ne_of_gt (blk_lt (g := gb146) (o := .cells #[.slice A0_0 l0_0.length c0_0, .int .i64 a0_1, .int .i64 a0_2, .int .i64 a0_3] 32 (0, 0)) (by (with_reducible repeat (first | refine blk_drewN ?_ _ | refine blk_drew ?_ | refine blk_alloc ?_ _)); exact BK146.out)) : gb147 ≠ gb146)); clear BK146; clear HB; have BK146 := n0_; have HB := n1_; have BK147 := n2_; have GW147 := n3_; have GE147 := n4_; have NB146_147 := n5_; have NB147_146 := n6_; clear n0_ n1_ n2_ n3_ n4_ n5_ n6_; clear hb hbox hg) | ((with_reducible refine gate_dst (N := 4) rfl ?_); (try (refine gate_guard (by rfl) ?_; dsimp only)); refine box_event ?hg (N := 4) ?hd (cs := #[.slice none 0 0, .int .i64 0, .int .i64 0, .int .i64 0]) (t := 32) ?hr ?_; (case hd => rfl); (case hg => rfl); (case hr => first | (go_simp; done) | (go_simp; rfl)); intro gb148 hg w6 hbox hb; have n0_ := Aside0.mk (blk_below (g := gb146) (o := .cells #[.slice A0_0 l0_0.length c0_0, .int .i64 a0_1, .int .i64 a0_2, .int .i64 a0_3] 32 (0, 0)) (by (with_reducible repeat (first | refine blk_drewN ?_ _ | refine blk_drew ?_ | refine blk_alloc ?_ _)); exact BK146.out) hb); have n1_ := Aside0.mk (blk_below (g := gb147) (o := .cells #[.slice A1_0 l1_0.length c1_0, .slice A1_1 l1_1.length c1_1, .int .i64 a1_2, .int .i64 a1_3, .int .i64 a1_4] 37 (0, 0)) (by (with_reducible repeat (first | refine blk_drewN ?_ _ | refine blk_drew ?_ | refine blk_alloc ?_ _)); exact BK147.out) hb); have n2_ := Aside0.mk (below_step (by repeat (first | (with_reducible first | exact HB.out | apply below_alloc | apply pw_below_drewN | apply below_drew1 | refine below_set ?_ GE146.out | refine below_set ?_ GE147.out) | exact HB.out)) hb); have n3_ := Aside0.mk (hbox); have n4_ := Aside0.mk ((by rw [hg]; exact (below_size (by repeat (first | (with_reducible first | exact HB.out | apply below_alloc | apply pw_below_drewN | apply below_drew1 | refine below_set ?_ GE146.out | refine below_set ?_ GE147.out) | exact HB.out))) : w.heap.size ≤ gb148)); have n5_ := Aside0.mk ((by rw [hg]; exact (below_size (by repeat (first | (with_reducible first | exact HB.out | apply below_alloc | apply pw_below_drewN | apply below_drew1 | refine below_set ?_ GE146.out | refine below_set ?_ GE147.out) | exact HB.out))) : w.heap.size ≤ gb148)); have n6_ := Aside0.mk ((by rw [hg]; exact Nat.ne_of_lt (blk_lt (g := gb146) (o := .cells #[.slice A0_0 l0_0.length c0_0, .int .i64 a0_1, .int .i64 a0_2, .int .i64 a0_3] 32 (0, 0)) (by (with_reducible repeat (first | refine blk_drewN ?_ _ | refine blk_drew ?_ | refine blk_alloc ?_ _)); exact BK146.out)) : gb146 ≠ gb148)); have n7_ := Aside0.mk ((by rw [hg]; exact Nat.ne_of_gt (blk_lt (g := gb146) (o := .cells #[.slice A0_0 l0_0.length c0_0, .int .i64 a0_1, .int .i64 a0_2, .int .i64 a0_3] 32 (0, 0)) (by (with_reducible repeat (first | refine blk_drewN ?_ _ | refine blk_drew ?_ | refine blk_alloc ?_ _)); exact BK146.out)) : gb148 ≠ gb146)); have n8_ := Aside0.mk ((by rw [hg]; exact Nat.ne_of_lt (blk_lt (g := gb147) (o := .cells #[.slice A1_0 l1_0.length c1_0, .slice A1_1 l1_1.length c1_1, .int .i64 a1_2, .int .i64 a1_3, .int .i64 a1_4] 37 (0, 0)) (by (with_reducible repeat (first | refine blk_drewN ?_ _ | refine blk_drew ?_ | refine blk_alloc ?_ _)); exact BK147.out)) : gb147 ≠ gb148)); have n9_ := Aside0.mk ((by rw [hg]; exact Nat.ne_of_gt (blk_lt (g := gb147) (o := .cells #[.slice A1_0 l1_0.length c1_0, .slice A1_1 l1_1.length c1_1, .int .i64 a1_2, .int .i64 a1_3, .int .i64 a1_4] 37 (0, 0)) (by (with_reducible repeat (first | refine blk_drewN ?_ _ | refine blk_drew ?_ | refine blk_alloc ?_ _)); exact BK147.out)) : gb148 ≠ gb147)); clear BK146; clear BK147; clear HB; have BK146 := n0_; have BK147 := n1_; have HB := n2_; have BK148 := n3_; have GW148 := n4_; have GE148 := n5_; have NB146_148 := n6_; have NB148_146 := n7_; have NB147_148 := n8_; have NB148_147 := n9_; clear n0_ n1_ n2_ n3_ n4_ n5_ n6_ n7_ n8_ n9_; clear hb hbox hg)))
 (try simp only [Act.put, List.setIfInBounds_toArray, List.set_cons_zero, List.set_cons_succ])
 have S0a := Aside0.mk (show S0 w w6 gb146 gb147 gb148 #[.slice A0_0 l0_0.length c0_0, .int .i64 a0_1, .int .i64 a0_2, .int .i64 a0_3] #[.slice A1_0 l1_0.length c1_0, .slice A1_1 l1_1.length c1_1, .int .i64 a1_2, .int .i64 a1_3, .int .i64 a1_4] from ⟨HB.out, GE146.out, GE147.out, GE148.out, NB146_147.out, NB146_148.out, NB147_148.out, BK146.out, BK147.out, BK148.out⟩)
 clear BK146 BK147 BK148 GE146 GE147 GE148 GW146 GW147 GW148 NB146_147 NB146_148 NB147_148 NB147_146 NB148_146 NB148_147
 have hv0 : w6.cell? ⟨gb146, 0, none⟩ = some (.slice A0_0 l0_0.length c0_0) := (blk_cell S0a.out.v 0).trans rfl
 have hv1 : w6.cell? ⟨gb146, 1, none⟩ = some (.int .i64 a0_1) := (blk_cell S0a.out.v 1).trans rfl
 have hv2 : w6.cell? ⟨gb146, 2, none⟩ = some (.int .i64 a0_2) := (blk_cell S0a.out.v 2).trans rfl
 have hv3 : w6.cell? ⟨gb146, 3, none⟩ = some (.int .i64 a0_3) := (blk_cell S0a.out.v 3).trans rfl
 have he0 : w6.cell? ⟨gb147, 0, none⟩ = some (.slice A1_0 l1_0.length c1_0) := (blk_cell S0a.out.e 0).trans rfl
 have he1 : w6.cell? ⟨gb147, 1, none⟩ = some (.slice A1_1 l1_1.length c1_1) := (blk_cell S0a.out.e 1).trans rfl
 have he2 : w6.cell? ⟨gb147, 2, none⟩ = some (.int .i64 a1_2) := (blk_cell S0a.out.e 2).trans rfl
 have he3 : w6.cell? ⟨gb147, 3, none⟩ = some (.int .i64 a1_3) := (blk_cell S0a.out.e 3).trans rfl
 have he4 : w6.cell? ⟨gb147, 4, none⟩ = some (.int .i64 a1_4) := (blk_cell S0a.out.e 4).trans rfl
 cases fine with
 | false =>
  go_wp2_with fail
  refine (impl_editFine.calls k A1_0 c1_0 l1_0 A1_1 c1_1 l1_1 a1_2 a1_3 a1_4 false _ (Kd.C_below HR1_0.out HB.out) HC1_0.out (Kd.C_below HR1_1.out HB.out) HC1_1.out HF.out).mono ?_
  rintro e w7 ⟨rfl, hb⟩
  have S0b := Aside0.mk (S0a.out.below hb)
  clear hb S0a HB hv0 hv1 hv2 hv3 he0 he1 he2 he3 he4
  have HD := Aside0.mk (show R = failed from HR.out.symm.trans (if_pos rfl))
  have hv0 : w7.cell? ⟨gb146, 0, none⟩ = some (.slice A0_0 l0_0.length c0_0) := (blk_cell S0b.out.v 0).trans rfl
  have hv1 : w7.cell? ⟨gb146, 1, none⟩ = some (.int .i64 a0_1) := (blk_cell S0b.out.v 1).trans rfl
  have hv2 : w7.cell? ⟨gb146, 2, none⟩ = some (.int .i64 a0_2) := (blk_cell S0b.out.v 2).trans rfl
  have hv3 : w7.cell? ⟨gb146, 3, none⟩ = some (.int .i64 a0_3) := (blk_cell S0b.out.v 3).trans rfl
  have hz0 : w7.cell? ⟨gb148, 0, none⟩ = some (.slice none 0 0) := (blk_cell S0b.out.r 0).trans rfl
  have hz1 : w7.cell? ⟨gb148, 1, none⟩ = some (.int .i64 0) := (blk_cell S0b.out.r 1).trans rfl
  have hz2 : w7.cell? ⟨gb148, 2, none⟩ = some (.int .i64 0) := (blk_cell S0b.out.r 2).trans rfl
  have hz3 : w7.cell? ⟨gb148, 3, none⟩ = some (.int .i64 0) := (blk_cell S0b.out.r 3).trans rfl
  have hq0 := blk_frozen S0b.out.r 0
  have hq1 := blk_frozen S0b.out.r 1
  have hq2 := blk_frozen S0b.out.r 2
  have hq3 := blk_frozen S0b.out.r 3
  go_wp2
  refine bodyPost_ret (results_ct rfl _ _ gb148 32 #[.slice none 0 0, .int .i64 0, .int .i64 0, .int .i64 0] (0, 0) _ rfl (put4 S0b.out.r _ _ _ _) Try.underlying32 rfl (by kernel_rfl)) rfl ?_
  rw [HD.out]
  exact ⟨_, rfl, Kd.R_nil _ _ _ _ _, below_set (below_set (below_set (below_set S0b.out.bel S0b.out.g3) S0b.out.g3) S0b.out.g3) S0b.out.g3⟩
 | true =>
  by_cases c1 : (1000 : Int) < (l0_0.length : Int)
  ·have c1b := decide_eq_true c1
   go_wp2_with fail
   refine (impl_editFine.calls k A1_0 c1_0 l1_0 A1_1 c1_1 l1_1 a1_2 a1_3 a1_4 true _ (Kd.C_below HR1_0.out HB.out) HC1_0.out (Kd.C_below HR1_1.out HB.out) HC1_1.out HF.out).mono ?_
   rintro e w7 ⟨rfl, hb⟩
   have S0b := Aside0.mk (S0a.out.below hb)
   clear hb S0a HB hv0 hv1 hv2 hv3 he0 he1 he2 he3 he4
   have HD := Aside0.mk (show R = failed from HR.out.symm.trans ((if_neg (by decide)).trans (if_pos (by omega))))
   clear c1
   have hv0 : w7.cell? ⟨gb146, 0, none⟩ = some (.slice A0_0 l0_0.length c0_0) := (blk_cell S0b.out.v 0).trans rfl
   have hv1 : w7.cell? ⟨gb146, 1, none⟩ = some (.int .i64 a0_1) := (blk_cell S0b.out.v 1).trans rfl
   have hv2 : w7.cell? ⟨gb146, 2, none⟩ = some (.int .i64 a0_2) := (blk_cell S0b.out.v 2).trans rfl
   have hv3 : w7.cell? ⟨gb146, 3, none⟩ = some (.int .i64 a0_3) := (blk_cell S0b.out.v 3).trans rfl
   have hz0 : w7.cell? ⟨gb148, 0, none⟩ = some (.slice none 0 0) := (blk_cell S0b.out.r 0).trans rfl
   have hz1 : w7.cell? ⟨gb148, 1, none⟩ = some (.int .i64 0) := (blk_cell S0b.out.r 1).trans rfl
   have hz2 : w7.cell? ⟨gb148, 2, none⟩ = some (.int .i64 0) := (blk_cell S0b.out.r 2).trans rfl
   have hz3 : w7.cell? ⟨gb148, 3, none⟩ = some (.int .i64 0) := (blk_cell S0b.out.r 3).trans rfl
   have hq0 := blk_frozen S0b.out.r 0
   have hq1 := blk_frozen S0b.out.r 1
   have hq2 := blk_frozen S0b.out.r 2
   have hq3 := blk_frozen S0b.out.r 3
   go_wp2
   refine bodyPost_ret (results_ct rfl _ _ gb148 32 #[.slice none 0 0, .int .i64 0, .int .i64 0, .int .i64 0] (0, 0) _ rfl (put4 S0b.out.r _ _ _ _) Try.underlying32 rfl (by kernel_rfl)) rfl ?_
   rw [HD.out]
   exact ⟨_, rfl, Kd.R_nil _ _ _ _ _, below_set (below_set (below_set (below_set S0b.out.bel S0b.out.g3) S0b.out.g3) S0b.out.g3) S0b.out.g3⟩
  have HR1 := Aside0.mk (show fin1 l1_1.reverse (keptOf l1_1.reverse l0_0) (hitsOf l1_1.reverse l0_0).reverse l1_0 a1_2 a1_3 a1_4 = R from ((if_neg (by decide)).trans (if_neg (by omega))).symm.trans HR.out)
  have HL0 := Aside0.mk (show l0_0.length ≤ 1000 by omega)
  replace HL := Aside0.mk (HL.out rfl)
  clear HR
  have c1b := decide_eq_false c1
  go_wp2_with fail
  refine (impl_editFine.calls k A1_0 c1_0 l1_0 A1_1 c1_1 l1_1 a1_2 a1_3 a1_4 true _ (Kd.C_below HR1_0.out HB.out) HC1_0.out (Kd.C_below HR1_1.out HB.out) HC1_1.out HF.out).mono ?_
  rintro e w7 ⟨rfl, hb⟩
  have S0b := Aside0.mk (S0a.out.below hb)
  clear hb S0a HB hv0 hv1 hv2 hv3 he0 he1 he2 he3 he4
  clear c1
  have hv0 : w7.cell? ⟨gb146, 0, none⟩ = some (.slice A0_0 l0_0.length c0_0) := (blk_cell S0b.out.v 0).trans rfl
  have hv1 : w7.cell? ⟨gb146, 1, none⟩ = some (.int .i64 a0_1) := (blk_cell S0b.out.v 1).trans rfl
  have hv2 : w7.cell? ⟨gb146, 2, none⟩ = some (.int .i64 a0_2) := (blk_cell S0b.out.v 2).trans rfl
  have hv3 : w7.cell? ⟨gb146, 3, none⟩ = some (.int .i64 a0_3) := (blk_cell S0b.out.v 3).trans rfl
  go_upto_region 4 with fail
  have S1a := Aside0.mk (show S1 w (w7.alloc (.map #[] 0)) gb146 gb147 gb148 #[.slice A0_0 l0_0.length c0_0, .int .i64 a0_1, .int .i64 a0_2, .int .i64 a0_3] #[.slice A1_0 l1_0.length c1_0, .slice A1_1 l1_1.length c1_1, .int .i64 a1_2, .int .i64 a1_3, .int .i64 a1_4] w7.heap.size 0 [] from ⟨S0b.out.below (below_alloc (Below.refl _ w7) _), S0b.out.bel.size, set_made w7⟩)
  clear S0b hv0 hv1 hv2 hv3 c1b
  generalize w7.heap.size = gb at *
  generalize w7.alloc _ = w8 at *
  have he0 : w8.cell? ⟨gb147, 0, none⟩ = some (.slice A1_0 l1_0.length c1_0) := (blk_cell S1a.out.e 0).trans rfl
  have he1 : w8.cell? ⟨gb147, 1, none⟩ = some (.slice A1_1 l1_1.length c1_1) := (blk_cell S1a.out.e 1).trans rfl
  have he2 : w8.cell? ⟨gb147, 2, none⟩ = some (.int .i64 a1_2) := (blk_cell S1a.out.e 2).trans rfl
  have he3 : w8.cell? ⟨gb147, 3, none⟩ = some (.int .i64 a1_3) := (blk_cell S1a.out.e 3).trans rfl
  have he4 : w8.cell? ⟨gb147, 4, none⟩ = some (.int .i64 a1_4) := (blk_cell S1a.out.e 4).trans rfl
  go_wp2
  go_loopw [8, 32] (fun v8 v32 wr => ∃ i : Nat, v32 = .int .i64 (i : Int) ∧ i ≤ l1_1.length ∧ Aside0 (S1 w wr gb146 gb147 gb148 #[.slice A0_0 l0_0.length c0_0, .int .i64 a0_1, .int .i64 a0_2, .int .i64 a0_3] #[.slice A1_0 l1_0.length c1_0, .slice A1_1 l1_1.length c1_1, .int .i64 a1_2, .int .i64 a1_3, .int .i64 a1_4] gb i (l1_1.take i).reverse)) (fun _ v32 _ => l1_1.length - (intOf v32).toNat)
  case atStart => exact ⟨0, rfl, Nat.zero_le _, S1a⟩
  case round =>
   clear S1a he0 he1 he2 he3 he4
   obtain ⟨i, rfl, hi, HS⟩ := hrel
   by_cases c : i < l1_1.length
   ·have cb : decide ((i : Int) < (l1_1.length : Int)) = true := decide_eq_true (by omega)
    have p0 : (0 : Int) ≤ (i : Int) := by omega
    have q0 : (i : Int) < (l1_1.length : Int) := by omega
    obtain ⟨ad, ea, hx⟩ := Kd.at_int HR1_1.out (i : Int) p0 q0
    cases ea
    replace hx := (HS.out.bel.cell (World.block_lt_of_cell? w _ hx)).trans hx
    have hrd : rd l1_1 (i : Int) = l1_1[i] := by unfold rd; rw [Int.toNat_natCast, getD_at l1_1 i _ c]
    rw [hrd, Int.toNat_natCast] at hx
    have HWT := Aside0.mk (HW2.out _ (List.getElem_mem c))
    have HTK := Aside0.mk (show l1_1.take (i + 1) = l1_1.take i ++ [l1_1[i]] from take_at l1_1 i c)
    obtain ⟨d, hd⟩ : ∃ d, l1_1[i] = d := ⟨_, rfl⟩
    rw [hd] at hx HWT HTK
    obtain ⟨w9, hput, hset, hg⟩ := HS.out.g.put (x := d) (by have := HL.out; unfold maxLen; omega) HWT.out
    have S1b := Aside0.mk (show S1 w w9 gb146 gb147 gb148 _ _ gb (i + 1) (l1_1.take (i + 1)).reverse from HS.out.put (by rw [HTK.out, List.reverse_append]; exact hset) hg)
    have hws := wrap_succ (i := i) (by have := HL.out; omega)
    clear hset hg hrd HS hd
    go_wp2
    go_roundw
    case rel => exact ⟨i + 1, congrArg (Value.int .i64) hws, c, S1b⟩
    case measure => exact meas_lt c _ hws
   ·have cb : decide ((i : Int) < (l1_1.length : Int)) = false := decide_eq_false (by omega)
    obtain rfl : i = l1_1.length := by omega
    rw [List.take_length] at HS
    have HS0 := Aside0.mk (show S2 w ((wr.alloc (.cells #[.slice none 0 0, .int .i64 a1_2, .int .i64 a1_3, .int .i64 a1_4] 32)).alloc (.map #[] 0)) gb146 gb147 gb148 _ _ gb l1_1.length l1_1.reverse wr.heap.size (.slice none 0 0) a1_2 a1_3 a1_4 [] (wr.heap.size + 1) 0 [] from
     ⟨HS.out.below (below_alloc (below_alloc (Below.refl _ wr) _) _), HS.out.bel.size, Nat.le_succ_of_le HS.out.bel.size, Nat.ne_of_gt (blk_lt HS.out.v), Nat.ne_of_gt (blk_lt HS.out.e), Nat.ne_of_gt (blk_lt HS.out.r), by have := HS.out.g.lt; omega, blk_alloc (heap_alloc_new _ _) _, Kd.R_nil _ _ _ _ _, by
      have h := set_made (wr.alloc (.cells #[.slice none 0 0, .int .i64 a1_2, .int .i64 a1_3, .int .i64 a1_4] 32))
      rw [World.size_alloc] at h
      exact h⟩)
    obtain ⟨DS, hDS⟩ : ∃ DS, l1_1.reverse = DS := ⟨_, rfl⟩
    rw [hDS] at HS0 HR1
    clear hDS
    have he0 : wr.cell? ⟨gb147, 0, none⟩ = some (.slice A1_0 l1_0.length c1_0) := (blk_cell HS.out.e 0).trans rfl
    have he1 : wr.cell? ⟨gb147, 1, none⟩ = some (.slice A1_1 l1_1.length c1_1) := (blk_cell HS.out.e 1).trans rfl
    have he2 : wr.cell? ⟨gb147, 2, none⟩ = some (.int .i64 a1_2) := (blk_cell HS.out.e 2).trans rfl
    have he3 : wr.cell? ⟨gb147, 3, none⟩ = some (.int .i64 a1_3) := (blk_cell HS.out.e 3).trans rfl
    have he4 : wr.cell? ⟨gb147, 4, none⟩ = some (.int .i64 a1_4) := (blk_cell HS.out.e 4).trans rfl
    clear HS
    go_upto_region 11 with fail
    clear he0 he1 he2 he3 he4
    generalize wr.heap.size + 1 = mb at *
    generalize wr.heap.size = ob at *
    generalize (wr.alloc _).alloc _ = w10 at *
    have hv0 : w10.cell? ⟨gb146, 0, none⟩ = some (.slice A0_0 l0_0.length c0_0) := (blk_cell HS0.out.v 0).trans rfl
    have hv1 : w10.cell? ⟨gb146, 1, none⟩ = some (.int .i64 a0_1) := (blk_cell HS0.out.v 1).trans rfl
    have hv2 : w10.cell? ⟨gb146, 2, none⟩ = some (.int .i64 a0_2) := (blk_cell HS0.out.v 2).trans rfl
    have hv3 : w10.cell? ⟨gb146, 3, none⟩ = some (.int .i64 a0_3) := (blk_cell HS0.out.v 3).trans rfl
    go_wp2
    go_loopw [12, 50] (fun v12 v50 wr => ∃ (i : Nat) (vO : Value), v50 = .int .i64 (i : Int) ∧ i ≤ l0_0.length ∧ Aside0 (S2 w wr gb146 gb147 gb148 #[.slice A0_0 l0_0.length c0_0, .int .i64 a0_1, .int .i64 a0_2, .int .i64 a0_3] #[.slice A1_0 l1_0.length c1_0, .slice A1_1 l1_1.length c1_1, .int .i64 a1_2, .int .i64 a1_3, .int .i64 a1_4] gb l1_1.length DS ob vO a1_2 a1_3 a1_4 (keptOf DS (l0_0.take i)) mb i (hitsOf DS (l0_0.take i)).reverse)) (fun _ v50 _ => l0_0.length - (intOf v50).toNat)
    case atStart => exact ⟨0, _, rfl, Nat.zero_le _, HS0⟩
    case round =>
     clear HS0 hv0 hv1 hv2 hv3
     obtain ⟨i, vO, rfl, hi, HS⟩ := hrel
     by_cases c : i < l0_0.length
     ·have cb : decide ((i : Int) < (l0_0.length : Int)) = true := decide_eq_true (by omega)
      have p0 : (0 : Int) ≤ (i : Int) := by omega
      have q0 : (i : Int) < (l0_0.length : Int) := by omega
      obtain ⟨ad, ea, hx0, hx1, hx2, hx3⟩ := at_T48 HR0_0.out (i : Int) p0 q0
      cases ea
      replace hx0 := (HS.out.bel.cell (World.block_lt_of_cell? w _ hx0)).trans hx0
      replace hx1 := (HS.out.bel.cell (World.block_lt_of_cell? w _ hx1)).trans hx1
      replace hx2 := (HS.out.bel.cell (World.block_lt_of_cell? w _ hx2)).trans hx2
      replace hx3 := (HS.out.bel.cell (World.block_lt_of_cell? w _ hx3)).trans hx3
      have hrd : rd_T48 l0_0 (i : Int) = l0_0[i] := by unfold rd_T48; rw [Int.toNat_natCast, getD_at l0_0 i _ c]
      rw [hrd, Int.toNat_natCast] at hx0 hx1 hx2 hx3
      have HWT := Aside0.mk (HW0.out _ (List.getElem_mem c))
      have HTK := Aside0.mk (show l0_0.take (i + 1) = l0_0.take i ++ [l0_0[i]] from take_at l0_0 i c)
      obtain ⟨t, ht⟩ : ∃ t, l0_0[i] = t := ⟨_, rfl⟩
      rw [ht] at hx0 hx1 hx2 hx3 HWT HTK
      clear hrd ht
      have S2b := Aside0.mk (HS.out.below (below_alloc (Below.refl _ wr) (.cells #[.int .i64 t.f0, .int .i64 t.f1, .string t.f2, .string t.f3] 48)))
      have HTB := Aside0.mk (heap_alloc_new wr (.cells #[.int .i64 t.f0, .int .i64 t.f1, .string t.f2, .string t.f3] 48))
      have hws := wrap_succ (i := i) (by have := HL0.out; omega)
      clear HS
      go_upto_region 14 with fail
      clear hx0 hx1 hx2 hx3
      generalize wr.heap.size = tb at *
      generalize wr.alloc _ = w10 at *
      have ht0 : w10.cell? ⟨tb, 0, none⟩ = some (.int .i64 t.f0) := (blk_cell HTB.out 0).trans rfl
      have ht1 : w10.cell? ⟨tb, 1, none⟩ = some (.int .i64 t.f1) := (blk_cell HTB.out 1).trans rfl
      have ht2 : w10.cell? ⟨tb, 2, none⟩ = some (.string t.f2) := (blk_cell HTB.out 2).trans rfl
      have ht3 : w10.cell? ⟨tb, 3, none⟩ = some (.string t.f3) := (blk_cell HTB.out 3).trans rfl
      by_cases hm : t.f0 ∈ DS
      ·have hlook := S2b.out.g.look HWT.out
       rw [decide_eq_true hm] at hlook
       obtain ⟨w11, hput, hset, hg⟩ := S2b.out.m.put (by have := HL0.out; unfold maxLen; omega) HWT.out
       have S2c := Aside0.mk (show ∃ vO, S2 w w11 gb146 gb147 gb148 _ _ gb l1_1.length DS ob vO a1_2 a1_3 a1_4 (keptOf DS (l0_0.take (i + 1))) mb (i + 1) (hitsOf DS (l0_0.take (i + 1))).reverse from ⟨_, by
        have h := S2b.out.put hset hg
        rw [HTK.out, keptOf_append, hitsOf_append, List.reverse_append]
        simp only [keptOf, hitsOf, if_pos hm, List.append_nil]
        exact h⟩)
       clear hset hg S2b
       go_wp2
       go_roundw
       case rel =>
        obtain ⟨vO, h⟩ := S2c.out
        exact ⟨i + 1, vO, congrArg (Value.int .i64) hws, c, ⟨h⟩⟩
       case measure => exact meas_lt c _ hws
      ·have hlook := S2b.out.g.look HWT.out
       rw [decide_eq_false hm] at hlook
       obtain ⟨l, hl⟩ : ∃ l, keptOf DS (l0_0.take i) = l := ⟨_, rfl⟩
       have HLL := Aside0.mk (show (l.length + 1) * 48 ≤ 140737488355328 by
        have h1 := keptOf_le DS (l0_0.take i)
        rw [hl, List.length_take] at h1
        have := HL0.out
        omega)
       have HKL := Aside0.mk hl
       rw [hl] at S2b
       clear hl
       obtain ⟨A, cA, rfl, _, _⟩ := Kd.R_reads S2b.out.rO
       have ho0 : w10.cell? ⟨ob, 0, none⟩ = some (.slice A l.length cA) := (blk_cell S2b.out.o 0).trans rfl
       have hof := blk_frozen S2b.out.o 0
       go_wp2_with ((with_reducible refine gate_builtin (b := .append) rfl ?_); refine Kd.R_append k48 (w0 := w) w.heap.size rfl (.tmp 62) (.tmp 64) 30 48 (.agg #[(.int .i64 0), (.int .i64 0), (.string ⟨#[]⟩), (.string ⟨#[]⟩)]) 48 rfl Try.underlying30 info48 rfl (by decide) (by decide) (.slice A (l).length cA) (l) t [.int .i64 t.f0, .int .i64 t.f1, .string t.f2, .string t.f3] (fun _ => True) (fun _ => False) rfl (by first | rfl | (go_simp; done) | (go_simp; rfl)) (k48_mkM _ _ _ t) (fun _ hk => hk.elim) (fun k hk => trivial) S2b.out.rO S2b.out.bel (below_size S2b.out.bel) HLL.out ?_; intro v1 w11 ho hb hgr hat; have q0 := S2b.out.outcell hgr; have S2d := Aside0.mk (S2b.out.grew ho hb hgr); obtain ⟨AX, cX, hv1⟩ := Kd.R_slice ho; rw [List.length_append, List.length_singleton] at hv1; subst hv1; clear ho hb hgr hat; obtain ⟨qc, qf⟩ := q0)
       go_roundw
       case rel => exact ⟨i + 1, _, congrArg (Value.int .i64) hws, c, ⟨by
        have h := S2d.out
        rw [HTK.out, keptOf_append, hitsOf_append]
        simp only [keptOf, hitsOf, if_neg hm, List.append_nil]
        rw [HKL.out]
        exact ⟨⟨h.toS0, h.gg, h.g⟩, h.og, h.mg, h.n4, h.n5, h.n6, h.n7, h.o, h.rO, h.m.mono (Nat.le_succ _)⟩⟩⟩
       case measure => exact meas_lt c _ hws
     ·have cb : decide ((i : Int) < (l0_0.length : Int)) = false := decide_eq_false (by omega)
      obtain rfl : i = l0_0.length := by omega
      rw [List.take_length] at HS
      have hl1 := HS.out.m.len
      have hl2 := HS.out.g.len
      by_cases hd : dist (hitsOf DS l0_0).reverse = dist DS
      rotate_left
      ·have HD := Aside0.mk (show R = failed from by
        rw [← HR1.out]
        unfold fin1
        rw [if_neg hd])
       generalize dist (hitsOf DS l0_0).reverse = dm at *
       generalize dist DS = dn at *
       have hdb : ((dm : Int) == (dn : Int)) = false := beq_eq_false_iff_ne.2 (fun e => hd (Int.ofNat.inj e))
       have hdc : decide ((dm : Int) = (dn : Int)) = false := decide_eq_false (fun e => hd (Int.ofNat.inj e))
       clear hd
       have hz0 : wr.cell? ⟨gb148, 0, none⟩ = some (.slice none 0 0) := (blk_cell HS.out.r 0).trans rfl
       have hz1 : wr.cell? ⟨gb148, 1, none⟩ = some (.int .i64 0) := (blk_cell HS.out.r 1).trans rfl
       have hz2 : wr.cell? ⟨gb148, 2, none⟩ = some (.int .i64 0) := (blk_cell HS.out.r 2).trans rfl
       have hz3 : wr.cell? ⟨gb148, 3, none⟩ = some (.int .i64 0) := (blk_cell HS.out.r 3).trans rfl
       have hq0 := blk_frozen HS.out.r 0
       have hq1 := blk_frozen HS.out.r 1
       have hq2 := blk_frozen HS.out.r 2
       have hq3 := blk_frozen HS.out.r 3
       go_wp2
       refine bodyPost_ret (results_ct rfl _ _ gb148 32 #[.slice none 0 0, .int .i64 0, .int .i64 0, .int .i64 0] (0, 0) _ rfl (put4 HS.out.r _ _ _ _) Try.underlying32 rfl (by kernel_rfl)) rfl ?_
       rw [HD.out]
       exact ⟨_, rfl, Kd.R_nil _ _ _ _ _, below_set (below_set (below_set (below_set HS.out.bel HS.out.g3) HS.out.g3) HS.out.g3) HS.out.g3⟩
      rw [hd] at hl1
      generalize dist DS = dn at hl1 hl2
      have HR2 := Aside0.mk (show fin2 (keptOf DS l0_0 ++ l1_0) a1_2 a1_3 a1_4 = R from by
       rw [← HR1.out]
       unfold fin1
       rw [if_pos hd])
      have HWK := Aside0.mk (fun t (ht : t ∈ keptOf DS l0_0) => HW0.out t (keptOf_mem ht))
      obtain ⟨K, hK⟩ : ∃ K, keptOf DS l0_0 = K := ⟨_, rfl⟩
      have HLL := Aside0.mk (show (K.length + l1_0.length) * 48 ≤ 140737488355328 by
       have h1 := keptOf_le DS l0_0
       rw [hK] at h1
       have := HL0.out
       have := HL.out.1
       omega)
      rw [hK] at HS HR2 HWK
      clear hK hd HR1
      obtain ⟨A, cA, rfl, _, _⟩ := Kd.R_reads HS.out.rO
      have ho0 : wr.cell? ⟨ob, 0, none⟩ = some (.slice A K.length cA) := (blk_cell HS.out.o 0).trans rfl
      have hof := blk_frozen HS.out.o 0
      have he0 : wr.cell? ⟨gb147, 0, none⟩ = some (.slice A1_0 l1_0.length c1_0) := (blk_cell HS.out.e 0).trans rfl
      have he1 : wr.cell? ⟨gb147, 1, none⟩ = some (.slice A1_1 l1_1.length c1_1) := (blk_cell HS.out.e 1).trans rfl
      have he2 : wr.cell? ⟨gb147, 2, none⟩ = some (.int .i64 a1_2) := (blk_cell HS.out.e 2).trans rfl
      have he3 : wr.cell? ⟨gb147, 3, none⟩ = some (.int .i64 a1_3) := (blk_cell HS.out.e 3).trans rfl
      have he4 : wr.cell? ⟨gb147, 4, none⟩ = some (.int .i64 a1_4) := (blk_cell HS.out.e 4).trans rfl
      go_upto_region 21 with ((with_reducible refine gate_builtin (b := .append) rfl ?_); refine Kd.R_append_rows k48 (Rr := fun x cs => k48.K wr x cs) (w0 := w) w.heap.size rfl (.tmp 75) (.tmp 77) 30 48 (.agg #[(.int .i64 0), (.int .i64 0), (.string ⟨#[]⟩), (.string ⟨#[]⟩)]) 48 rfl Try.underlying30 info48 rfl (by decide) (by decide) (.slice A K.length cA) K l1_0 A1_0 l1_0.length c1_0 (fun _ => True) (fun _ => False) rfl rfl HS.out.rO (Kd.C_below HR1_0.out HS.out.bel) (fun x cs h => by rw [k48_open h]; exact k48_mkM _ _ _ x) (fun _ hk => hk.elim) (fun _ _ => trivial) HS.out.bel (below_size HS.out.bel) HLL.out ?_; intro v1 w11 ho hb hgr hat; have q0 := HS.out.outcell hgr; have S2d := Aside0.mk (HS.out.grew ho hb hgr); obtain ⟨AX, cX, hv1⟩ := Kd.R_slice ho; rw [List.length_append] at hv1; subst hv1; clear ho hb hgr hat; obtain ⟨qc, qf⟩ := q0)
      clear hl1 hl2 HS ho0 hof he0 he1 he2 he3 he4 qc qf HLL
      generalize w11.setCell _ _ = w12 at *
      have HWL := Aside0.mk (show ∀ t ∈ K ++ l1_0, (Lit.int .i64 t.f0).wf = true from fun t ht => (List.mem_append.1 ht).elim (fun h => HWK.out t h) (fun h => HW1.out t h))
      have hn : K.length + l1_0.length = (K ++ l1_0).length := List.length_append.symm
      rw [hn] at S2d ⊢
      generalize K ++ l1_0 = L at *
      clear hn HWK
      have ho0 : w12.cell? ⟨ob, 0, none⟩ = some (.slice AX L.length cX) := (blk_cell S2d.out.o 0).trans rfl
      have he0 : w12.cell? ⟨gb147, 0, none⟩ = some (.slice A1_0 l1_0.length c1_0) := (blk_cell S2d.out.e 0).trans rfl
      have he1 : w12.cell? ⟨gb147, 1, none⟩ = some (.slice A1_1 l1_1.length c1_1) := (blk_cell S2d.out.e 1).trans rfl
      have he2 : w12.cell? ⟨gb147, 2, none⟩ = some (.int .i64 a1_2) := (blk_cell S2d.out.e 2).trans rfl
      have he3 : w12.cell? ⟨gb147, 3, none⟩ = some (.int .i64 a1_3) := (blk_cell S2d.out.e 3).trans rfl
      have he4 : w12.cell? ⟨gb147, 4, none⟩ = some (.int .i64 a1_4) := (blk_cell S2d.out.e 4).trans rfl
      by_cases c1 : (1000 : Int) < (L.length : Int)
      ·have c1b := decide_eq_true c1
       have HD := Aside0.mk (show R = failed from by
        rw [← HR2.out]
        unfold fin2
        rw [if_pos (by omega)])
       clear c1
       have hz0 : w12.cell? ⟨gb148, 0, none⟩ = some (.slice none 0 0) := (blk_cell S2d.out.r 0).trans rfl
       have hz1 : w12.cell? ⟨gb148, 1, none⟩ = some (.int .i64 0) := (blk_cell S2d.out.r 1).trans rfl
       have hz2 : w12.cell? ⟨gb148, 2, none⟩ = some (.int .i64 0) := (blk_cell S2d.out.r 2).trans rfl
       have hz3 : w12.cell? ⟨gb148, 3, none⟩ = some (.int .i64 0) := (blk_cell S2d.out.r 3).trans rfl
       have hq0 := blk_frozen S2d.out.r 0
       have hq1 := blk_frozen S2d.out.r 1
       have hq2 := blk_frozen S2d.out.r 2
       have hq3 := blk_frozen S2d.out.r 3
       go_wp2
       refine bodyPost_ret (results_ct rfl _ _ gb148 32 #[.slice none 0 0, .int .i64 0, .int .i64 0, .int .i64 0] (0, 0) _ rfl (put4 S2d.out.r _ _ _ _) Try.underlying32 rfl (by kernel_rfl)) rfl ?_
       rw [HD.out]
       exact ⟨_, rfl, Kd.R_nil _ _ _ _ _, below_set (below_set (below_set (below_set S2d.out.bel S2d.out.g3) S2d.out.g3) S2d.out.g3) S2d.out.g3⟩
      have HLN := Aside0.mk (show L.length ≤ 1000 by omega)
      have c1b := decide_eq_false c1
      by_cases c2 : a1_3 ≤ a1_2
      ·have c2b := decide_eq_true c2
       have HD := Aside0.mk (show R = failed from by
        rw [← HR2.out]
        unfold fin2
        rw [if_neg (by omega), if_pos c2])
       clear c1 c2
       have hz0 : w12.cell? ⟨gb148, 0, none⟩ = some (.slice none 0 0) := (blk_cell S2d.out.r 0).trans rfl
       have hz1 : w12.cell? ⟨gb148, 1, none⟩ = some (.int .i64 0) := (blk_cell S2d.out.r 1).trans rfl
       have hz2 : w12.cell? ⟨gb148, 2, none⟩ = some (.int .i64 0) := (blk_cell S2d.out.r 2).trans rfl
       have hz3 : w12.cell? ⟨gb148, 3, none⟩ = some (.int .i64 0) := (blk_cell S2d.out.r 3).trans rfl
       have hq0 := blk_frozen S2d.out.r 0
       have hq1 := blk_frozen S2d.out.r 1
       have hq2 := blk_frozen S2d.out.r 2
       have hq3 := blk_frozen S2d.out.r 3
       go_wp2
       refine bodyPost_ret (results_ct rfl _ _ gb148 32 #[.slice none 0 0, .int .i64 0, .int .i64 0, .int .i64 0] (0, 0) _ rfl (put4 S2d.out.r _ _ _ _) Try.underlying32 rfl (by kernel_rfl)) rfl ?_
       rw [HD.out]
       exact ⟨_, rfl, Kd.R_nil _ _ _ _ _, below_set (below_set (below_set (below_set S2d.out.bel S2d.out.g3) S2d.out.g3) S2d.out.g3) S2d.out.g3⟩
      have c2b := decide_eq_false c2
      have HR3 := Aside0.mk (show fin3 L a1_2 a1_3 a1_4 = R from by
       rw [← HR2.out]
       unfold fin2
       rw [if_neg (by omega), if_neg c2])
      clear c1 c2 HR2
      go_upto_region 24 with fail
      clear ho0 he0 he1 he2 he3 he4 c1b c2b
      have S2e := Aside0.mk (show S2 w (w12.alloc (.map #[] 0)) gb146 gb147 gb148 _ _ gb l1_1.length DS ob (.slice AX L.length cX) a1_2 a1_3 a1_4 L w12.heap.size 0 [] from
       have q := S2d.out.below (below_alloc (Below.refl _ w12) (.map #[] 0))
       ⟨q.toS1, q.og, S2d.out.bel.size, q.n4, q.n5, q.n6, Nat.ne_of_lt S2d.out.g.lt, q.o, q.rO, set_made w12⟩)
      clear S2d
      generalize w12.heap.size = sb at *
      generalize w12.alloc _ = w13 at *
      have ho0 : w13.cell? ⟨ob, 0, none⟩ = some (.slice AX L.length cX) := (blk_cell S2e.out.o 0).trans rfl
      go_wp2
      go_loopw [14, 15, 17, 96] (fun v14 v15 v17 v96 wr => ∃ i : Nat, v96 = .int .i64 (i : Int) ∧ i ≤ L.length ∧ Aside0 (S2 w wr gb146 gb147 gb148 #[.slice A0_0 l0_0.length c0_0, .int .i64 a0_1, .int .i64 a0_2, .int .i64 a0_3] #[.slice A1_0 l1_0.length c1_0, .slice A1_1 l1_1.length c1_1, .int .i64 a1_2, .int .i64 a1_3, .int .i64 a1_4] gb l1_1.length DS ob (.slice AX L.length cX) a1_2 a1_3 a1_4 L sb i ((L.take i).map (·.f0)).reverse) ∧ Aside0 (checks a1_3 (L.take i) (L.drop i) = checks a1_3 [] L)) (fun _ _ _ v96 _ => L.length - (intOf v96).toNat)
      case atStart => exact ⟨0, rfl, Nat.zero_le _, S2e, ⟨rfl⟩⟩
      case round =>
       clear S2e ho0
       obtain ⟨i, rfl, hi, HS, HCK⟩ := hrel
       by_cases c : i < L.length
       ·have cb : decide ((i : Int) < (L.length : Int)) = true := decide_eq_true (by omega)
        have p0 : (0 : Int) ≤ (i : Int) := by omega
        have q0 : (i : Int) < (L.length : Int) := by omega
        have HCR := Aside0.mk (Kd.R_reads' HS.out.rO).2.2
        obtain ⟨ad, ea, hx0, hx1, hx2, hx3⟩ := at_T48 HCR.out (i : Int) p0 q0
        cases ea
        have hrd : rd_T48 L (i : Int) = L[i] := by unfold rd_T48; rw [Int.toNat_natCast, getD_at L i _ c]
        rw [hrd, Int.toNat_natCast] at hx0 hx1 hx2 hx3
        have HWT := Aside0.mk (HWL.out _ (List.getElem_mem c))
        have HTK := Aside0.mk (show L.take (i + 1) = L.take i ++ [L[i]] from take_at L i c)
        have HDR := Aside0.mk (drop_at L i c)
        obtain ⟨t, ht⟩ : ∃ t, L[i] = t := ⟨_, rfl⟩
        rw [ht] at hx0 hx1 hx2 hx3 HWT HTK HDR
        clear hrd ht HCR
        have S2b := Aside0.mk (HS.out.below (below_alloc (Below.refl _ wr) (.cells #[.int .i64 t.f0, .int .i64 t.f1, .string t.f2, .string t.f3] 48)))
        have HTB := Aside0.mk (heap_alloc_new wr (.cells #[.int .i64 t.f0, .int .i64 t.f1, .string t.f2, .string t.f3] 48))
        have HCC := Aside0.mk (show (okAt (L.take i) a1_3 t && checks a1_3 (L.take (i + 1)) (L.drop (i + 1))) = checks a1_3 [] L by
         rw [← HCK.out, HDR.out, HTK.out]
         rfl)
        clear HS HCK HDR
        go_upto_region 27 with fail
        clear hx0 hx1 hx2 hx3
        generalize wr.heap.size = tb at *
        generalize wr.alloc _ = w14 at *
        have ht0 : w14.cell? ⟨tb, 0, none⟩ = some (.int .i64 t.f0) := (blk_cell HTB.out 0).trans rfl
        have ht1 : w14.cell? ⟨tb, 1, none⟩ = some (.int .i64 t.f1) := (blk_cell HTB.out 1).trans rfl
        have ht2 : w14.cell? ⟨tb, 2, none⟩ = some (.string t.f2) := (blk_cell HTB.out 2).trans rfl
        have ht3 : w14.cell? ⟨tb, 3, none⟩ = some (.string t.f3) := (blk_cell HTB.out 3).trans rfl
        have he0 : w14.cell? ⟨gb147, 0, none⟩ = some (.slice A1_0 l1_0.length c1_0) := (blk_cell S2b.out.e 0).trans rfl
        have he1 : w14.cell? ⟨gb147, 1, none⟩ = some (.slice A1_1 l1_1.length c1_1) := (blk_cell S2b.out.e 1).trans rfl
        have he2 : w14.cell? ⟨gb147, 2, none⟩ = some (.int .i64 a1_2) := (blk_cell S2b.out.e 2).trans rfl
        have he3 : w14.cell? ⟨gb147, 3, none⟩ = some (.int .i64 a1_3) := (blk_cell S2b.out.e 3).trans rfl
        have he4 : w14.cell? ⟨gb147, 4, none⟩ = some (.int .i64 a1_4) := (blk_cell S2b.out.e 4).trans rfl
        by_cases hm : t.f0 ∈ ((L.take i).map (·.f0)).reverse
        ·have hlook := S2b.out.m.look HWT.out
         rw [decide_eq_true hm] at hlook
         have HD := Aside0.mk (show R = failed from fin3_fail HR3.out (by
          rw [← HCC.out]
          unfold okAt
          rw [decide_eq_true (List.mem_reverse.1 hm)]
          rfl))
         have hz0 : w14.cell? ⟨gb148, 0, none⟩ = some (.slice none 0 0) := (blk_cell S2b.out.r 0).trans rfl
         have hz1 : w14.cell? ⟨gb148, 1, none⟩ = some (.int .i64 0) := (blk_cell S2b.out.r 1).trans rfl
         have hz2 : w14.cell? ⟨gb148, 2, none⟩ = some (.int .i64 0) := (blk_cell S2b.out.r 2).trans rfl
         have hz3 : w14.cell? ⟨gb148, 3, none⟩ = some (.int .i64 0) := (blk_cell S2b.out.r 3).trans rfl
         have hq0 := blk_frozen S2b.out.r 0
         have hq1 := blk_frozen S2b.out.r 1
         have hq2 := blk_frozen S2b.out.r 2
         have hq3 := blk_frozen S2b.out.r 3
         go_wp2
         refine bodyPost_ret (results_ct rfl _ _ gb148 32 #[.slice none 0 0, .int .i64 0, .int .i64 0, .int .i64 0] (0, 0) _ rfl (put4 S2b.out.r _ _ _ _) Try.underlying32 rfl (by kernel_rfl)) rfl ?_
         rw [HD.out]
         exact ⟨_, rfl, Kd.R_nil _ _ _ _ _, below_set (below_set (below_set (below_set S2b.out.bel S2b.out.g3) S2b.out.g3) S2b.out.g3) S2b.out.g3⟩
        ·have hlook := S2b.out.m.look HWT.out
         rw [decide_eq_false hm] at hlook
         by_cases c3 : a1_3 ≤ t.f0
         ·have c3b := decide_eq_true c3
          have HD := Aside0.mk (show R = failed from fin3_fail HR3.out (by
           rw [← HCC.out]
           unfold okAt
           rw [decide_eq_false (show ¬ t.f0 < a1_3 by omega), Bool.and_false]
           rfl))
          have hz0 : w14.cell? ⟨gb148, 0, none⟩ = some (.slice none 0 0) := (blk_cell S2b.out.r 0).trans rfl
          have hz1 : w14.cell? ⟨gb148, 1, none⟩ = some (.int .i64 0) := (blk_cell S2b.out.r 1).trans rfl
          have hz2 : w14.cell? ⟨gb148, 2, none⟩ = some (.int .i64 0) := (blk_cell S2b.out.r 2).trans rfl
          have hz3 : w14.cell? ⟨gb148, 3, none⟩ = some (.int .i64 0) := (blk_cell S2b.out.r 3).trans rfl
          have hq0 := blk_frozen S2b.out.r 0
          have hq1 := blk_frozen S2b.out.r 1
          have hq2 := blk_frozen S2b.out.r 2
          have hq3 := blk_frozen S2b.out.r 3
          go_wp2
          refine bodyPost_ret (results_ct rfl _ _ gb148 32 #[.slice none 0 0, .int .i64 0, .int .i64 0, .int .i64 0] (0, 0) _ rfl (put4 S2b.out.r _ _ _ _) Try.underlying32 rfl (by kernel_rfl)) rfl ?_
          rw [HD.out]
          exact ⟨_, rfl, Kd.R_nil _ _ _ _ _, below_set (below_set (below_set (below_set S2b.out.bel S2b.out.g3) S2b.out.g3) S2b.out.g3) S2b.out.g3⟩
         have c3b := decide_eq_false c3
         have HOK := Aside0.mk (show okAt (L.take i) a1_3 t = (L.take i).all (fun u => !clash t u) by
          unfold okAt
          rw [decide_eq_false (fun e => hm (List.mem_reverse.2 e)), decide_eq_true (show t.f0 < a1_3 by omega)]
          rfl)
         obtain ⟨w15, hput, hset, hg⟩ := S2b.out.m.put (by have := HLN.out; unfold maxLen; omega) HWT.out
         have HT2 := Aside0.mk (blk_grown HTB.out hg (fun e => S2b.out.m.ne HTB.out (Option.some.inj e)))
         have S2c := Aside0.mk (show S2 w w15 gb146 gb147 gb148 _ _ gb l1_1.length DS ob (.slice _ L.length cX) a1_2 a1_3 a1_4 L sb (i + 1) ((L.take (i + 1)).map (·.f0)).reverse from by
          have h := S2b.out.put hset hg
          rw [HTK.out, List.map_append, List.reverse_append]
          exact h)
         clear hset hg S2b c3 hm
         go_upto_region 30 with fail
         clear ht0 ht1 ht2 ht3 he0 he1 he2 he3 he4 hlook hput c3b HTB
         have ho0 : w15.cell? ⟨ob, 0, none⟩ = some (.slice (some ad) L.length cX) := (blk_cell S2c.out.o 0).trans rfl
         have hle := (Kd.R_reads' S2c.out.rO).2.1
         have hiL := Nat.le_trans (Nat.le_of_lt c) hle
         go_wp2
         clear ho0 hle hiL
         go_loopw [17, 121] (fun v17 v121 wr => ∃ j : Nat, v121 = .int .i64 (j : Int) ∧ j ≤ i ∧ Aside0 (S2 w wr gb146 gb147 gb148 #[.slice A0_0 l0_0.length c0_0, .int .i64 a0_1, .int .i64 a0_2, .int .i64 a0_3] #[.slice A1_0 l1_0.length c1_0, .slice A1_1 l1_1.length c1_1, .int .i64 a1_2, .int .i64 a1_3, .int .i64 a1_4] gb l1_1.length DS ob (.slice (some ad) L.length cX) a1_2 a1_3 a1_4 L sb (i + 1) ((L.take (i + 1)).map (·.f0)).reverse) ∧ Aside0 (wr.heap[tb]? = some (.cells #[.int .i64 t.f0, .int .i64 t.f1, .string t.f2, .string t.f3] 48 (0, 0))) ∧ Aside0 ((L.take j).all (fun u => !clash t u) = true)) (fun _ v121 _ => i - (intOf v121).toNat)
         case atStart => exact ⟨0, rfl, Nat.zero_le _, S2c, HT2, ⟨rfl⟩⟩
         case round =>
          clear S2c HT2
          obtain ⟨j, rfl, hj, HS, HTJ, HCJ⟩ := hrel
          by_cases d : j < i
          ·have db : decide ((j : Int) < (i : Int)) = true := decide_eq_true (by omega)
           have p0 : (0 : Int) ≤ (j : Int) := by omega
           have cj : j < L.length := by omega
           have q0 : (j : Int) < (L.length : Int) := by omega
           have HCR := Aside0.mk (Kd.R_reads' HS.out.rO).2.2
           obtain ⟨ae, ea, hx0, hx1, hx2, hx3⟩ := at_T48 HCR.out (j : Int) p0 q0
           cases ea
           have hrd : rd_T48 L (j : Int) = L[j] := by unfold rd_T48; rw [Int.toNat_natCast, getD_at L j _ cj]
           rw [hrd, Int.toNat_natCast] at hx0 hx1 hx2 hx3
           have HTK2 := Aside0.mk (show L.take (j + 1) = L.take j ++ [L[j]] from take_at L j cj)
           have HMJ := Aside0.mk (show L[j] ∈ L.take i from List.mem_take_iff_getElem.2 ⟨j, by omega, rfl⟩)
           obtain ⟨u, hu⟩ : ∃ u, L[j] = u := ⟨_, rfl⟩
           rw [hu] at hx0 hx1 hx2 hx3 HTK2 HMJ
           clear hrd hu HCR
           have S2f := Aside0.mk (HS.out.below (below_alloc (Below.refl _ wr) (.cells #[.int .i64 u.f0, .int .i64 u.f1, .string u.f2, .string u.f3] 48)))
           have HUB := Aside0.mk (heap_alloc_new wr (.cells #[.int .i64 u.f0, .int .i64 u.f1, .string u.f2, .string u.f3] 48))
           have HTF := Aside0.mk (blk_alloc HTJ.out (.cells #[.int .i64 u.f0, .int .i64 u.f1, .string u.f2, .string u.f3] 48))
           clear HS HTJ
           go_upto_region 33 with fail
           clear hx0 hx1 hx2 hx3
           generalize wr.heap.size = ub at *
           generalize wr.alloc _ = w16 at *
           have ht0 : w16.cell? ⟨tb, 0, none⟩ = some (.int .i64 t.f0) := (blk_cell HTF.out 0).trans rfl
           have ht1 : w16.cell? ⟨tb, 1, none⟩ = some (.int .i64 t.f1) := (blk_cell HTF.out 1).trans rfl
           have ht2 : w16.cell? ⟨tb, 2, none⟩ = some (.string t.f2) := (blk_cell HTF.out 2).trans rfl
           have ht3 : w16.cell? ⟨tb, 3, none⟩ = some (.string t.f3) := (blk_cell HTF.out 3).trans rfl
           have hu0 : w16.cell? ⟨ub, 0, none⟩ = some (.int .i64 u.f0) := (blk_cell HUB.out 0).trans rfl
           have hu1 : w16.cell? ⟨ub, 1, none⟩ = some (.int .i64 u.f1) := (blk_cell HUB.out 1).trans rfl
           have hu2 : w16.cell? ⟨ub, 2, none⟩ = some (.string u.f2) := (blk_cell HUB.out 2).trans rfl
           have hu3 : w16.cell? ⟨ub, 3, none⟩ = some (.string u.f3) := (blk_cell HUB.out 3).trans rfl
           cases e1 : (t.f1 == u.f1) with
           | false =>
            have hcl : clash t u = false := by unfold clash; simp [e1]
            have HCX := Aside0.mk (show (L.take (j + 1)).all (fun u => !clash t u) = true by
             rw [HTK2.out, List.all_append, HCJ.out]
             simp [hcl])
            clear hcl
            have hws := wrap_succ (i := j) (by have := HLN.out; omega)
            go_wp2
            go_roundw
            case rel => exact ⟨j + 1, congrArg (Value.int .i64) hws, d, S2f, HTF, HCX⟩
            case measure => exact meas_lt d _ hws
           | true =>
            have e2 := decide_eq_true (beq_iff_eq.1 e1)
            cases p1 : decide (0 < t.f1) with
            | false =>
             have hcl : clash t u = false := by unfold clash; simp [e1, of_decide_eq_false p1]
             have HCX := Aside0.mk (show (L.take (j + 1)).all (fun u => !clash t u) = true by
              rw [HTK2.out, List.all_append, HCJ.out]
              simp [hcl])
             clear hcl
             have hws := wrap_succ (i := j) (by have := HLN.out; omega)
             go_wp2
             go_roundw
             case rel => exact ⟨j + 1, congrArg (Value.int .i64) hws, d, S2f, HTF, HCX⟩
             case measure => exact meas_lt d _ hws
            | true =>
             cases s1 : Op.bytesLess t.f3.toList u.f2.toList with
             | true =>
              have hcl : clash t u = false := by unfold clash; simp [s1]
              have HCX := Aside0.mk (show (L.take (j + 1)).all (fun u => !clash t u) = true by
               rw [HTK2.out, List.all_append, HCJ.out]
               simp [hcl])
              clear hcl
              have hws := wrap_succ (i := j) (by have := HLN.out; omega)
              go_wp2
              go_roundw
              case rel => exact ⟨j + 1, congrArg (Value.int .i64) hws, d, S2f, HTF, HCX⟩
              case measure => exact meas_lt d _ hws
             | false =>
              cases s2 : Op.bytesLess u.f3.toList t.f2.toList with
              | true =>
               have hcl : clash t u = false := by unfold clash; simp [s2]
               have HCX := Aside0.mk (show (L.take (j + 1)).all (fun u => !clash t u) = true by
                rw [HTK2.out, List.all_append, HCJ.out]
                simp [hcl])
               clear hcl
               have hws := wrap_succ (i := j) (by have := HLN.out; omega)
               go_wp2
               go_roundw
               case rel => exact ⟨j + 1, congrArg (Value.int .i64) hws, d, S2f, HTF, HCX⟩
               case measure => exact meas_lt d _ hws
              | false =>
               have hcl : clash t u = true := by unfold clash; rw [e1, p1, s1, s2]; rfl
               have HD := Aside0.mk (show R = failed from fin3_fail HR3.out (by
                rw [← HCC.out, HOK.out]
                rw [List.all_eq_false.2 ⟨u, HMJ.out, by simp [hcl]⟩]
                rfl))
               clear hcl
               have hz0 : w16.cell? ⟨gb148, 0, none⟩ = some (.slice none 0 0) := (blk_cell S2f.out.r 0).trans rfl
               have hz1 : w16.cell? ⟨gb148, 1, none⟩ = some (.int .i64 0) := (blk_cell S2f.out.r 1).trans rfl
               have hz2 : w16.cell? ⟨gb148, 2, none⟩ = some (.int .i64 0) := (blk_cell S2f.out.r 2).trans rfl
               have hz3 : w16.cell? ⟨gb148, 3, none⟩ = some (.int .i64 0) := (blk_cell S2f.out.r 3).trans rfl
               have hq0 := blk_frozen S2f.out.r 0
               have hq1 := blk_frozen S2f.out.r 1
               have hq2 := blk_frozen S2f.out.r 2
               have hq3 := blk_frozen S2f.out.r 3
               go_wp2
               refine bodyPost_ret (results_ct rfl _ _ gb148 32 #[.slice none 0 0, .int .i64 0, .int .i64 0, .int .i64 0] (0, 0) _ rfl (put4 S2f.out.r _ _ _ _) Try.underlying32 rfl (by kernel_rfl)) rfl ?_
               rw [HD.out]
               exact ⟨_, rfl, Kd.R_nil _ _ _ _ _, below_set (below_set (below_set (below_set S2f.out.bel S2f.out.g3) S2f.out.g3) S2f.out.g3) S2f.out.g3⟩
          ·have db : decide ((j : Int) < (i : Int)) = false := decide_eq_false (by omega)
           obtain rfl : j = i := by omega
           have HCK := Aside0.mk (show checks a1_3 (L.take (j + 1)) (L.drop (j + 1)) = checks a1_3 [] L by
            rw [← HCC.out, HOK.out, HCJ.out]
            rfl)
           have hws := wrap_succ (i := j) (by have := HLN.out; omega)
           go_wp2
           go_roundw
           case rel => exact ⟨j + 1, congrArg (Value.int .i64) hws, c, HS, HCK⟩
           case measure => exact meas_lt c _ hws
       ·have cb : decide ((i : Int) < (L.length : Int)) = false := decide_eq_false (by omega)
        obtain rfl : i = L.length := by omega
        have HCT := Aside0.mk (show checks a1_3 [] L = true from by
         rw [← HCK.out, List.drop_length]
         unfold checks
         rfl)
        have HD := Aside0.mk (show R = (isort L, a1_2, a1_3, a1_4, true) from by
         rw [← HR3.out]
         unfold fin3
         rw [HCT.out]
         rfl)
        have HSORT := Aside0.mk (sort_call w wr w.heap.size (fun _ => True) (.slice AX L.length cX) L ob _ _ _ HS.out.rO HS.out.bel (below_size HS.out.bel) HS.out.o (by have := HLN.out; omega))
        clear HCK
        have ho0 : wr.cell? ⟨ob, 0, none⟩ = some (.slice AX L.length cX) := (blk_cell HS.out.o 0).trans rfl
        go_wp2_with fail
        refine HSORT.out.mono ?_
        rintro e w17 ⟨rfl, ys, hp, hs, hRR, hB, hk⟩
        have hys := sorted_is HCT.out hp hs
        subst hys
        have S0z := Aside0.mk (HS.out.toS0.moved hB (hk _ _ _ HS.out.v (by decide)) (hk _ _ _ HS.out.e (by decide)) (hk _ _ _ HS.out.r (by decide)))
        have HOZ := Aside0.mk ((hk _ _ _ HS.out.o (by decide)).trans HS.out.o)
        have HRZ := Aside0.mk (Kd.R_types hRR S0z.out.r (by decide))
        clear hp hs hRR hB hk HS HSORT ho0
        have ho0 : w17.cell? ⟨ob, 0, none⟩ = some (.slice AX L.length cX) := (blk_cell HOZ.out 0).trans rfl
        have ho1 : w17.cell? ⟨ob, 1, none⟩ = some (.int .i64 a1_2) := (blk_cell HOZ.out 1).trans rfl
        have ho2 : w17.cell? ⟨ob, 2, none⟩ = some (.int .i64 a1_3) := (blk_cell HOZ.out 2).trans rfl
        have ho3 : w17.cell? ⟨ob, 3, none⟩ = some (.int .i64 a1_4) := (blk_cell HOZ.out 3).trans rfl
        have hz0 : w17.cell? ⟨gb148, 0, none⟩ = some (.slice none 0 0) := (blk_cell S0z.out.r 0).trans rfl
        have hz1 : w17.cell? ⟨gb148, 1, none⟩ = some (.int .i64 0) := (blk_cell S0z.out.r 1).trans rfl
        have hz2 : w17.cell? ⟨gb148, 2, none⟩ = some (.int .i64 0) := (blk_cell S0z.out.r 2).trans rfl
        have hz3 : w17.cell? ⟨gb148, 3, none⟩ = some (.int .i64 0) := (blk_cell S0z.out.r 3).trans rfl
        have hq0 := blk_frozen S0z.out.r 0
        have hq1 := blk_frozen S0z.out.r 1
        have hq2 := blk_frozen S0z.out.r 2
        have hq3 := blk_frozen S0z.out.r 3
        go_wp2
        refine bodyPost_ret (results_ct rfl _ _ gb148 32 #[.slice AX L.length cX, .int .i64 a1_2, .int .i64 a1_3, .int .i64 a1_4] (0, 0) _ rfl (put4 S0z.out.r _ _ _ _) Try.underlying32 rfl (by kernel_rfl)) rfl ?_
        rw [HD.out]
        exact ⟨_, rfl, Kd.R_mono (Kd.R_far (Kd.R_far (Kd.R_far (Kd.R_far HRZ.out (p := ⟨gb148, 0, none⟩) (fun _ x => x.2) _) (p := ⟨gb148, 1, none⟩) (fun _ x => x.2) _) (p := ⟨gb148, 2, none⟩) (fun _ x => x.2) _) (p := ⟨gb148, 3, none⟩) (fun _ x => x.2) _) (fun _ _ => trivial), below_set (below_set (below_set (below_set S0z.out.bel S0z.out.g3) S0z.out.g3) S0z.out.g3) S0z.out.g3⟩
end Go.Proofs.Ytlecpmgdoomngaa.M
end
section
-- Written by a changed copy of the print program, one module a function. Not trusted: Lean checks it.
namespace Go.Proofs.Ytlecpmgdoomngaa.P
open Go.RowKit Go.Proofs.YtlecpmgdoomngaaW.PrintWords Go.Proofs.YtlecpmgdoomngaaW.PrintLast Go.Proofs.YtlecpmgdoomngaaW.PrintMore
attribute [local go_sem] max2_int min2_int max_two min_two max_three min_three max_four min_four   -- for this text's walks alone
set_option linter.unusedVariables false
set_option linter.unusedSimpArgs false
def impl_ApplyEdit.f (k : Nat) (l0_0 : List (S48)) (a0_1 : Int) (a0_2 : Int) (a0_3 : Int) (l1_0 : List (S48)) (l1_1 : List Int) (a1_2 : Int) (a1_3 : Int) (a1_4 : Int) : Option ((List (S48)) × Int × Int × Int × Bool) := if (∀ t ∈ l0_0, (Lit.int .i64 t.f0).wf = true) ∧ (∀ t ∈ l1_0, (Lit.int .i64 t.f0).wf = true) ∧ (∀ d ∈ l1_1, (Lit.int .i64 d).wf = true) then (impl_editFine.f k l1_0 l1_1 a1_2 a1_3 a1_4).bind fun fine => some (M.applyI fine l0_0 l1_0 l1_1 a1_2 a1_3 a1_4) else none
theorem impl_ApplyEdit.calls (k : Nat) (A0_0 : Option Addr) (c0_0 : Nat) (l0_0 : List (S48)) (a0_1 : Int) (a0_2 : Int) (a0_3 : Int) (A1_0 : Option Addr) (c1_0 : Nat) (l1_0 : List (S48)) (A1_1 : Option Addr) (c1_1 : Nat) (l1_1 : List Int) (a1_2 : Int) (a1_3 : Int) (a1_4 : Int) (r1 : List (S48)) (r2 : Int) (r3 : Int) (r4 : Int) (r5 : Bool) (w : World) (hr0_0 : Kd.C k48 w A0_0 l0_0.length l0_0) (hc0_0 : l0_0.length ≤ c0_0) (hr1_0 : Kd.C k48 w A1_0 l1_0.length l1_0) (hc1_0 : l1_0.length ≤ c1_0) (hr1_1 : Kd.C (Kd.int .i64) w A1_1 l1_1.length l1_1) (hc1_1 : l1_1.length ≤ c1_1) (h : impl_ApplyEdit.f k l0_0 a0_1 a0_2 a0_3 l1_0 l1_1 a1_2 a1_3 a1_4 = some (r1, r2, r3, r4, r5)) :
  Calls Try.prog 9 #[.agg #[.slice A0_0 l0_0.length c0_0, .int .i64 a0_1, .int .i64 a0_2, .int .i64 a0_3], .agg #[.slice A1_0 l1_0.length c1_0, .slice A1_1 l1_1.length c1_1, .int .i64 a1_2, .int .i64 a1_3, .int .i64 a1_4]] w fun e w' => ∃ v0_ : Value, e = .returned (.tuple #[.agg #[v0_, .int .i64 r2, .int .i64 r3, .int .i64 r4], .bool r5]) ∧ Kd.R k48 48 w' w.heap.size (fun _ => True) v0_ r1 ∧ Below w.heap.size w w' := by
 unfold impl_ApplyEdit.f at h
 by_cases c : (∀ t ∈ l0_0, (Lit.int .i64 t.f0).wf = true) ∧ (∀ t ∈ l1_0, (Lit.int .i64 t.f0).wf = true) ∧ (∀ d ∈ l1_1, (Lit.int .i64 d).wf = true)
 ·rw [if_pos c] at h
  obtain ⟨fine, hf, he⟩ := Option.bind_eq_some_iff.1 h
  exact M.impl_call k A0_0 c0_0 l0_0 a0_1 a0_2 a0_3 A1_0 c1_0 l1_0 A1_1 c1_1 l1_1 a1_2 a1_3 a1_4 fine _ w hr0_0 hc0_0 hr1_0 hc1_0 hr1_1 hc1_1 hf c.1 c.2.1 c.2.2 (Option.some.inj he)
 ·rw [if_neg c] at h; cases h
end Go.Proofs.Ytlecpmgdoomngaa.P
end
section
-- Written by a changed copy of the print program, one module a function. Not trusted: Lean checks it.
namespace Go.Proofs.Ytlecpmgdoomngaa.P
open Go.RowKit Go.Proofs.YtlecpmgdoomngaaW.PrintWords Go.Proofs.YtlecpmgdoomngaaW.PrintLast Go.Proofs.YtlecpmgdoomngaaW.PrintMore
attribute [local go_sem] max2_int min2_int max_two min_two max_three min_three max_four min_four   -- for this text's walks alone
set_option linter.unusedVariables false
set_option linter.unusedSimpArgs false
def laws_eqIntS.l0 : Nat → List Int → List Int → Int → Option (Bool)
 | 0, _, _, _ => none
 | k + 1, x0, x1, x5 => if x5 < (x0.length : Int) then (if 0 ≤ x5 then (if x5 < (x1.length : Int) then (if (rd x0 x5) = (rd x1 x5) then (laws_eqIntS.l0 k x0 x1 (wrap64 (x5 + 1))) else (some false)) else (none)) else (none)) else (some true)
def laws_eqIntS.f (k : Nat) (l0 : List Int) (l1 : List Int) : Option (Bool) := if (l0.length : Int) = (l1.length : Int) then (laws_eqIntS.l0 k l0 l1 0) else (some false)
set_option maxHeartbeats 8000000 in
set_option maxRecDepth 100000 in
theorem laws_eqIntS.calls (k : Nat) (A0 : Option Addr) (c0 : Nat) (l0 : List Int) (A1 : Option Addr) (c1 : Nat) (l1 : List Int) (r : Bool) (w : World) (hr0 : Kd.C (Kd.int .i64) w A0 l0.length l0) (hc0 : l0.length ≤ c0) (hr1 : Kd.C (Kd.int .i64) w A1 l1.length l1) (hc1 : l1.length ≤ c1) (h : laws_eqIntS.f k l0 l1 = some r) :
  Calls Try.prog 27 #[.slice A0 l0.length c0, .slice A1 l1.length c1] w fun e w' => e = .returned (.bool r) ∧ Drawn0 w w' := by
 have HR0 := Aside0.mk hr0; have HC0 := Aside0.mk hc0; clear hr0 hc0; have HR1 := Aside0.mk hr1; have HC1 := Aside0.mk hc1; clear hr1 hc1; have H : (if (l0.length : Int) = (l1.length : Int) then (laws_eqIntS.l0 k l0 l1 0) else (some false)) = some r := h; clear h
 by_cases c3 : (l0.length : Int) = (l1.length : Int)
 ·rw [if_pos c3] at H
  have c3b0 : ((l0.length : Int) == (l1.length : Int)) = true := beq_iff_eq.mpr c3; have c3b1 : ((l0.length : Int) != (l1.length : Int)) = false := bne_eq_false_iff_eq.mpr c3
  have c3b2 : (l0.length == l1.length) = true := by first | simpa using c3 | (simp at c3 ⊢; omega)
  clear c3; have H' := Aside0.mk H; clear H
  go_enter Try.func27, Try.ntmps27
  go_wp2
  repeat (go_quiet (fail); try go_wp2)
  go_loopg [5] k (fun kq v5 w' => ∃ (x5_1 : Int), v5 = .int .i64 x5_1 ∧ Aside0 (laws_eqIntS.l0 kq l0 l1 x5_1 = some r) ∧ Aside0 (kq ≤ k) ∧ Drawn0 w w')
  case atStart => exact ⟨(0), (by first | rfl | (simp; done) | (simp [*]; done)), H', ⟨Nat.le_refl _⟩, by repeat (first | exact Drawn0.refl _ | apply Drawn0.step)⟩
  case round =>
   clear H'
   try clear c1
   try clear c2
   try clear p2
   try clear c3
   try clear c3b0
   try clear c3b1
   try clear c3b2
   obtain ⟨x5_1, rfl, HA, HK1, ⟨m1, rfl⟩⟩ := hrel
   cases gk with
   | zero => exact absurd HA.out (by simp [laws_eqIntS.l0])
   | succ k1 =>
    have H := HA.out; clear HA
    simp only [laws_eqIntS.l0] at H
    by_cases c4 : x5_1 < (l0.length : Int)
    ·rw [if_pos c4] at H
     have c4b0 : decide (x5_1 < (l0.length : Int)) = true := decide_eq_true c4; clear c4
     by_cases c5 : 0 ≤ x5_1
     ·rw [if_pos c5] at H
      have c5b0 : decide (0 ≤ x5_1) = true := decide_eq_true c5; clear c5
      by_cases c6 : x5_1 < (l1.length : Int)
      ·rw [if_pos c6] at H
       have c6b0 : decide (x5_1 < (l1.length : Int)) = true := decide_eq_true c6; clear c6
       by_cases c7 : (rd l0 x5_1) = (rd l1 x5_1)
       ·rw [if_pos c7] at H
        have c7b0 : ((rd l0 x5_1) == (rd l1 x5_1)) = true := beq_iff_eq.mpr c7; have c7b1 : ((rd l0 x5_1) != (rd l1 x5_1)) = false := bne_eq_false_iff_eq.mpr c7; clear c7; have H' := Aside0.mk H; clear H; have p239 : 0 ≤ (x5_1 : Int) := of_decide_eq_true (by first | (with_reducible assumption) | assumption); have q239 : x5_1 < (l0.length : Int) := of_decide_eq_true (by first | (with_reducible assumption) | assumption); obtain ⟨ad239, e239, hx239_0⟩ := Kd.at_int HR0.out x5_1 p239 q239
        cases e239
        replace p239 := eq_true p239; replace q239 := eq_true q239; have p240 : 0 ≤ (x5_1 : Int) := of_decide_eq_true (by first | (with_reducible assumption) | assumption); have q240 : x5_1 < (l1.length : Int) := of_decide_eq_true (by first | (with_reducible assumption) | assumption); obtain ⟨ad240, e240, hx240_0⟩ := Kd.at_int HR1.out x5_1 p240 q240
        cases e240
        replace p240 := eq_true p240; replace q240 := eq_true q240
        go_wp2
        repeat (go_quiet (fail); try go_wp2)
        go_roundg k1
        case measure => have := HK1.out; omega
        case rel => exact ⟨(wrap64 (x5_1 + 1)), (by first | rfl | (simp; done) | (simp [*]; done)), H', ⟨by have := HK1.out; omega⟩, by repeat (first | exact Drawn0.refl _ | apply Drawn0.step)⟩
       ·rw [if_neg c7] at H
        have c7b0 : ((rd l0 x5_1) == (rd l1 x5_1)) = false := beq_eq_false_iff_ne.mpr c7; have c7b1 : ((rd l0 x5_1) != (rd l1 x5_1)) = true := bne_iff_ne.mpr c7; obtain rfl := Option.some.inj H; have p239 : 0 ≤ (x5_1 : Int) := of_decide_eq_true (by first | (with_reducible assumption) | assumption); have q239 : x5_1 < (l0.length : Int) := of_decide_eq_true (by first | (with_reducible assumption) | assumption); obtain ⟨ad239, e239, hx239_0⟩ := Kd.at_int HR0.out x5_1 p239 q239
        cases e239
        replace p239 := eq_true p239; replace q239 := eq_true q239; have p240 : 0 ≤ (x5_1 : Int) := of_decide_eq_true (by first | (with_reducible assumption) | assumption); have q240 : x5_1 < (l1.length : Int) := of_decide_eq_true (by first | (with_reducible assumption) | assumption); obtain ⟨ad240, e240, hx240_0⟩ := Kd.at_int HR1.out x5_1 p240 q240
        cases e240
        replace p240 := eq_true p240; replace q240 := eq_true q240
        go_wp2
        repeat (go_quiet (fail); try go_wp2)
        go_ret
        exact ⟨by first | rfl | (simp; done) | (simp [*]; done), by repeat (first | exact Drawn0.refl _ | apply Drawn0.step)⟩
      ·rw [if_neg c6] at H
       exact absurd H (by simp)
     ·rw [if_neg c5] at H
      exact absurd H (by simp)
    ·rw [if_neg c4] at H
     have c4b0 : decide (x5_1 < (l0.length : Int)) = false := decide_eq_false c4; clear c4; obtain rfl := Option.some.inj H
     go_wp2
     repeat (go_quiet (fail); try go_wp2)
     go_ret
     exact ⟨by first | rfl | (simp; done) | (simp [*]; done), by repeat (first | exact Drawn0.refl _ | apply Drawn0.step)⟩
 ·rw [if_neg c3] at H
  have c3b0 : ((l0.length : Int) == (l1.length : Int)) = false := beq_eq_false_iff_ne.mpr c3; have c3b1 : ((l0.length : Int) != (l1.length : Int)) = true := bne_iff_ne.mpr c3
  have c3b2 : (l0.length == l1.length) = false := by first | simpa using c3 | (simp at c3 ⊢; omega)
  obtain rfl := Option.some.inj H
  go_enter Try.func27, Try.ntmps27
  go_wp2
  repeat (go_quiet (fail); try go_wp2)
  go_ret
  exact ⟨by first | rfl | (simp; done) | (simp [*]; done), by repeat (first | exact Drawn0.refl _ | apply Drawn0.step)⟩
end Go.Proofs.Ytlecpmgdoomngaa.P
end
section
-- Written by a changed copy of the print program, one module a function. Not trusted: Lean checks it.
namespace Go.Proofs.Ytlecpmgdoomngaa.P
open Go.RowKit Go.Proofs.YtlecpmgdoomngaaW.PrintWords Go.Proofs.YtlecpmgdoomngaaW.PrintLast Go.Proofs.YtlecpmgdoomngaaW.PrintMore
attribute [local go_sem] max2_int min2_int max_two min_two max_three min_three max_four min_four   -- for this text's walks alone
set_option linter.unusedVariables false
set_option linter.unusedSimpArgs false
def laws_eqTableRef.f (a0_0 : Int) (a0_1 : Int) (a0_2 : ByteArray) (a0_3 : ByteArray) (a1_0 : Int) (a1_1 : Int) (a1_2 : ByteArray) (a1_3 : ByteArray) : Option (Bool) := if a0_0 = a1_0 then (if a0_1 = a1_1 then (if a0_2.toList = a1_2.toList then (if a0_3.toList = a1_3.toList then (some true) else (some false)) else (some false)) else (some false)) else (some false)
set_option maxHeartbeats 8000000 in
set_option maxRecDepth 100000 in
theorem laws_eqTableRef.calls (a0_0 : Int) (a0_1 : Int) (a0_2 : ByteArray) (a0_3 : ByteArray) (a1_0 : Int) (a1_1 : Int) (a1_2 : ByteArray) (a1_3 : ByteArray) (r : Bool) (w : World) (h : laws_eqTableRef.f a0_0 a0_1 a0_2 a0_3 a1_0 a1_1 a1_2 a1_3 = some r) :
  Calls Try.prog 43 #[.agg #[.int .i64 a0_0, .int .i64 a0_1, .string a0_2, .string a0_3], .agg #[.int .i64 a1_0, .int .i64 a1_1, .string a1_2, .string a1_3]] w fun e w' => e = .returned (.bool r) ∧ Below w.heap.size w w' := by
 have hu48 := Try.underlying48; have HB := Aside0.mk (Below.refl w.heap.size w); have H : (if a0_0 = a1_0 then (if a0_1 = a1_1 then (if a0_2.toList = a1_2.toList then (if a0_3.toList = a1_3.toList then (some true) else (some false)) else (some false)) else (some false)) else (some false)) = some r := h; clear h
 by_cases c3 : a0_0 = a1_0
 ·rw [if_pos c3] at H
  have c3b0 : (a0_0 == a1_0) = true := beq_iff_eq.mpr c3; have c3b1 : (a0_0 != a1_0) = false := bne_eq_false_iff_eq.mpr c3; clear c3
  by_cases c4 : a0_1 = a1_1
  ·rw [if_pos c4] at H
   have c4b0 : (a0_1 == a1_1) = true := beq_iff_eq.mpr c4; have c4b1 : (a0_1 != a1_1) = false := bne_eq_false_iff_eq.mpr c4; clear c4
   by_cases c5 : a0_2.toList = a1_2.toList
   ·rw [if_pos c5] at H
    have c5b0 : (a0_2.toList == a1_2.toList) = true := beq_iff_eq.mpr c5; have c5b1 : (a0_2.toList != a1_2.toList) = false := bne_eq_false_iff_eq.mpr c5; clear c5
    by_cases c6 : a0_3.toList = a1_3.toList
    ·rw [if_pos c6] at H
     have c6b0 : (a0_3.toList == a1_3.toList) = true := beq_iff_eq.mpr c6; have c6b1 : (a0_3.toList != a1_3.toList) = false := bne_eq_false_iff_eq.mpr c6; clear c6; obtain rfl := Option.some.inj H
     go_enter Try.func43, Try.ntmps43
     go_wp2_with (first | ((with_reducible refine gate_dst (N := 2) rfl ?_); refine box_event ?hg (N := 2) ?hd (cs := #[.int .i64 a0_0, .int .i64 a0_1, .string a0_2, .string a0_3]) (t := 48) ?hr ?_; (case hd => rfl); (case hg => rfl); (case hr => first | (go_simp; done) | (go_simp; rfl)); intro gb231 hg w7 hbox hb; have BK231 := Aside0.mk (hbox); have GW231 := Aside0.mk ((by rw [hg]; exact (below_size (xh HB)) : w.heap.size ≤ gb231)); have GE231 := Aside0.mk ((by rw [hg]; exact (below_size (xh HB)) : w.heap.size ≤ gb231)); replace HB := Aside0.mk (below_step (xh HB) hb); clear hb hbox hg) | ((with_reducible refine gate_dst (N := 3) rfl ?_); refine box_event ?hg (N := 3) ?hd (cs := #[.int .i64 a1_0, .int .i64 a1_1, .string a1_2, .string a1_3]) (t := 48) ?hr ?_; (case hd => rfl); (case hg => rfl); (case hr => first | (go_simp; done) | (go_simp; rfl)); intro gb232 hg w8 hbox hb; have BK232 := Aside0.mk (hbox); have GW232 := Aside0.mk ((by rw [hg]; exact (below_size (xh HB)) : w.heap.size ≤ gb232)); have GE232 := Aside0.mk ((by rw [hg]; exact (below_size (xh HB)) : w.heap.size ≤ gb232)); replace HB := Aside0.mk (below_step (xh HB) hb); have NB231_232 := Aside0.mk (xn1 hg BK231); have NB232_231 := Aside0.mk (xn2 hg BK231); replace BK231 := Aside0.mk (xbb BK231 hb); clear hb hbox hg; have hnb9 := NB231_232.out; have hnc9 := NB232_231.out; have hcz10_0 : w8.cell? ⟨gb231, 0, none⟩ = some (.int .i64 a0_0) := (blk_cell BK231.out 0).trans rfl; have hcz10_1 : w8.cell? ⟨gb231, 1, none⟩ = some (.int .i64 a0_1) := (blk_cell BK231.out 1).trans rfl; have hcz10_2 : w8.cell? ⟨gb231, 2, none⟩ = some (.string a0_2) := (blk_cell BK231.out 2).trans rfl; have hcz10_3 : w8.cell? ⟨gb231, 3, none⟩ = some (.string a0_3) := (blk_cell BK231.out 3).trans rfl; have hfz10_0 := blk_frozen BK231.out 0; have hfz10_1 := blk_frozen BK231.out 1; have hfz10_2 := blk_frozen BK231.out 2; have hfz10_3 := blk_frozen BK231.out 3; have hcz11_0 : w8.cell? ⟨gb232, 0, none⟩ = some (.int .i64 a1_0) := (blk_cell BK232.out 0).trans rfl; have hcz11_1 : w8.cell? ⟨gb232, 1, none⟩ = some (.int .i64 a1_1) := (blk_cell BK232.out 1).trans rfl; have hcz11_2 : w8.cell? ⟨gb232, 2, none⟩ = some (.string a1_2) := (blk_cell BK232.out 2).trans rfl; have hcz11_3 : w8.cell? ⟨gb232, 3, none⟩ = some (.string a1_3) := (blk_cell BK232.out 3).trans rfl; have hfz11_0 := blk_frozen BK232.out 0; have hfz11_1 := blk_frozen BK232.out 1; have hfz11_2 := blk_frozen BK232.out 2; have hfz11_3 := blk_frozen BK232.out 3))
     go_ret
     exact ⟨by first | rfl | (simp [errW_none, errW_some] <;> rfl) | (simp [*, errW_none, errW_some] <;> rfl), by repeat (first | (with_reducible first | exact HB.out | apply below_alloc | apply pw_below_drewN | apply below_drew1 | refine below_set ?_ GE231.out | refine below_set ?_ GE232.out) | exact HB.out)⟩
    ·rw [if_neg c6] at H
     have c6b0 : (a0_3.toList == a1_3.toList) = false := beq_eq_false_iff_ne.mpr c6; have c6b1 : (a0_3.toList != a1_3.toList) = true := bne_iff_ne.mpr c6; obtain rfl := Option.some.inj H
     go_enter Try.func43, Try.ntmps43
     go_wp2_with (first | ((with_reducible refine gate_dst (N := 2) rfl ?_); refine box_event ?hg (N := 2) ?hd (cs := #[.int .i64 a0_0, .int .i64 a0_1, .string a0_2, .string a0_3]) (t := 48) ?hr ?_; (case hd => rfl); (case hg => rfl); (case hr => first | (go_simp; done) | (go_simp; rfl)); intro gb231 hg w12 hbox hb; have BK231 := Aside0.mk (hbox); have GW231 := Aside0.mk ((by rw [hg]; exact (below_size (xh HB)) : w.heap.size ≤ gb231)); have GE231 := Aside0.mk ((by rw [hg]; exact (below_size (xh HB)) : w.heap.size ≤ gb231)); replace HB := Aside0.mk (below_step (xh HB) hb); clear hb hbox hg) | ((with_reducible refine gate_dst (N := 3) rfl ?_); refine box_event ?hg (N := 3) ?hd (cs := #[.int .i64 a1_0, .int .i64 a1_1, .string a1_2, .string a1_3]) (t := 48) ?hr ?_; (case hd => rfl); (case hg => rfl); (case hr => first | (go_simp; done) | (go_simp; rfl)); intro gb232 hg w13 hbox hb; have BK232 := Aside0.mk (hbox); have GW232 := Aside0.mk ((by rw [hg]; exact (below_size (xh HB)) : w.heap.size ≤ gb232)); have GE232 := Aside0.mk ((by rw [hg]; exact (below_size (xh HB)) : w.heap.size ≤ gb232)); replace HB := Aside0.mk (below_step (xh HB) hb); have NB231_232 := Aside0.mk (xn1 hg BK231); have NB232_231 := Aside0.mk (xn2 hg BK231); replace BK231 := Aside0.mk (xbb BK231 hb); clear hb hbox hg; have hnb14 := NB231_232.out; have hnc14 := NB232_231.out; have hcz15_0 : w13.cell? ⟨gb231, 0, none⟩ = some (.int .i64 a0_0) := (blk_cell BK231.out 0).trans rfl; have hcz15_1 : w13.cell? ⟨gb231, 1, none⟩ = some (.int .i64 a0_1) := (blk_cell BK231.out 1).trans rfl; have hcz15_2 : w13.cell? ⟨gb231, 2, none⟩ = some (.string a0_2) := (blk_cell BK231.out 2).trans rfl; have hcz15_3 : w13.cell? ⟨gb231, 3, none⟩ = some (.string a0_3) := (blk_cell BK231.out 3).trans rfl; have hfz15_0 := blk_frozen BK231.out 0; have hfz15_1 := blk_frozen BK231.out 1; have hfz15_2 := blk_frozen BK231.out 2; have hfz15_3 := blk_frozen BK231.out 3; have hcz16_0 : w13.cell? ⟨gb232, 0, none⟩ = some (.int .i64 a1_0) := (blk_cell BK232.out 0).trans rfl; have hcz16_1 : w13.cell? ⟨gb232, 1, none⟩ = some (.int .i64 a1_1) := (blk_cell BK232.out 1).trans rfl; have hcz16_2 : w13.cell? ⟨gb232, 2, none⟩ = some (.string a1_2) := (blk_cell BK232.out 2).trans rfl; have hcz16_3 : w13.cell? ⟨gb232, 3, none⟩ = some (.string a1_3) := (blk_cell BK232.out 3).trans rfl; have hfz16_0 := blk_frozen BK232.out 0; have hfz16_1 := blk_frozen BK232.out 1; have hfz16_2 := blk_frozen BK232.out 2; have hfz16_3 := blk_frozen BK232.out 3))
     go_ret
     exact ⟨by first | rfl | (simp [errW_none, errW_some] <;> rfl) | (simp [*, errW_none, errW_some] <;> rfl), by repeat (first | (with_reducible first | exact HB.out | apply below_alloc | apply pw_below_drewN | apply below_drew1 | refine below_set ?_ GE231.out | refine below_set ?_ GE232.out) | exact HB.out)⟩
   ·rw [if_neg c5] at H
    have c5b0 : (a0_2.toList == a1_2.toList) = false := beq_eq_false_iff_ne.mpr c5; have c5b1 : (a0_2.toList != a1_2.toList) = true := bne_iff_ne.mpr c5; obtain rfl := Option.some.inj H
    go_enter Try.func43, Try.ntmps43
    go_wp2_with (first | ((with_reducible refine gate_dst (N := 2) rfl ?_); refine box_event ?hg (N := 2) ?hd (cs := #[.int .i64 a0_0, .int .i64 a0_1, .string a0_2, .string a0_3]) (t := 48) ?hr ?_; (case hd => rfl); (case hg => rfl); (case hr => first | (go_simp; done) | (go_simp; rfl)); intro gb231 hg w17 hbox hb; have BK231 := Aside0.mk (hbox); have GW231 := Aside0.mk ((by rw [hg]; exact (below_size (xh HB)) : w.heap.size ≤ gb231)); have GE231 := Aside0.mk ((by rw [hg]; exact (below_size (xh HB)) : w.heap.size ≤ gb231)); replace HB := Aside0.mk (below_step (xh HB) hb); clear hb hbox hg) | ((with_reducible refine gate_dst (N := 3) rfl ?_); refine box_event ?hg (N := 3) ?hd (cs := #[.int .i64 a1_0, .int .i64 a1_1, .string a1_2, .string a1_3]) (t := 48) ?hr ?_; (case hd => rfl); (case hg => rfl); (case hr => first | (go_simp; done) | (go_simp; rfl)); intro gb232 hg w18 hbox hb; have BK232 := Aside0.mk (hbox); have GW232 := Aside0.mk ((by rw [hg]; exact (below_size (xh HB)) : w.heap.size ≤ gb232)); have GE232 := Aside0.mk ((by rw [hg]; exact (below_size (xh HB)) : w.heap.size ≤ gb232)); replace HB := Aside0.mk (below_step (xh HB) hb); have NB231_232 := Aside0.mk (xn1 hg BK231); have NB232_231 := Aside0.mk (xn2 hg BK231); replace BK231 := Aside0.mk (xbb BK231 hb); clear hb hbox hg; have hnb19 := NB231_232.out; have hnc19 := NB232_231.out; have hcz20_0 : w18.cell? ⟨gb231, 0, none⟩ = some (.int .i64 a0_0) := (blk_cell BK231.out 0).trans rfl; have hcz20_1 : w18.cell? ⟨gb231, 1, none⟩ = some (.int .i64 a0_1) := (blk_cell BK231.out 1).trans rfl; have hcz20_2 : w18.cell? ⟨gb231, 2, none⟩ = some (.string a0_2) := (blk_cell BK231.out 2).trans rfl; have hcz20_3 : w18.cell? ⟨gb231, 3, none⟩ = some (.string a0_3) := (blk_cell BK231.out 3).trans rfl; have hfz20_0 := blk_frozen BK231.out 0; have hfz20_1 := blk_frozen BK231.out 1; have hfz20_2 := blk_frozen BK231.out 2; have hfz20_3 := blk_frozen BK231.out 3; have hcz21_0 : w18.cell? ⟨gb232, 0, none⟩ = some (.int .i64 a1_0) := (blk_cell BK232.out 0).trans rfl; have hcz21_1 : w18.cell? ⟨gb232, 1, none⟩ = some (.int .i64 a1_1) := (blk_cell BK232.out 1).trans rfl; have hcz21_2 : w18.cell? ⟨gb232, 2, none⟩ = some (.string a1_2) := (blk_cell BK232.out 2).trans rfl; have hcz21_3 : w18.cell? ⟨gb232, 3, none⟩ = some (.string a1_3) := (blk_cell BK232.out 3).trans rfl; have hfz21_0 := blk_frozen BK232.out 0; have hfz21_1 := blk_frozen BK232.out 1; have hfz21_2 := blk_frozen BK232.out 2; have hfz21_3 := blk_frozen BK232.out 3))
    go_ret
    exact ⟨by first | rfl | (simp [errW_none, errW_some] <;> rfl) | (simp [*, errW_none, errW_some] <;> rfl), by repeat (first | (with_reducible first | exact HB.out | apply below_alloc | apply pw_below_drewN | apply below_drew1 | refine below_set ?_ GE231.out | refine below_set ?_ GE232.out) | exact HB.out)⟩
  ·rw [if_neg c4] at H
   have c4b0 : (a0_1 == a1_1) = false := beq_eq_false_iff_ne.mpr c4; have c4b1 : (a0_1 != a1_1) = true := bne_iff_ne.mpr c4; obtain rfl := Option.some.inj H
   go_enter Try.func43, Try.ntmps43
   go_wp2_with (first | ((with_reducible refine gate_dst (N := 2) rfl ?_); refine box_event ?hg (N := 2) ?hd (cs := #[.int .i64 a0_0, .int .i64 a0_1, .string a0_2, .string a0_3]) (t := 48) ?hr ?_; (case hd => rfl); (case hg => rfl); (case hr => first | (go_simp; done) | (go_simp; rfl)); intro gb231 hg w22 hbox hb; have BK231 := Aside0.mk (hbox); have GW231 := Aside0.mk ((by rw [hg]; exact (below_size (xh HB)) : w.heap.size ≤ gb231)); have GE231 := Aside0.mk ((by rw [hg]; exact (below_size (xh HB)) : w.heap.size ≤ gb231)); replace HB := Aside0.mk (below_step (xh HB) hb); clear hb hbox hg) | ((with_reducible refine gate_dst (N := 3) rfl ?_); refine box_event ?hg (N := 3) ?hd (cs := #[.int .i64 a1_0, .int .i64 a1_1, .string a1_2, .string a1_3]) (t := 48) ?hr ?_; (case hd => rfl); (case hg => rfl); (case hr => first | (go_simp; done) | (go_simp; rfl)); intro gb232 hg w23 hbox hb; have BK232 := Aside0.mk (hbox); have GW232 := Aside0.mk ((by rw [hg]; exact (below_size (xh HB)) : w.heap.size ≤ gb232)); have GE232 := Aside0.mk ((by rw [hg]; exact (below_size (xh HB)) : w.heap.size ≤ gb232)); replace HB := Aside0.mk (below_step (xh HB) hb); have NB231_232 := Aside0.mk (xn1 hg BK231); have NB232_231 := Aside0.mk (xn2 hg BK231); replace BK231 := Aside0.mk (xbb BK231 hb); clear hb hbox hg; have hnb24 := NB231_232.out; have hnc24 := NB232_231.out; have hcz25_0 : w23.cell? ⟨gb231, 0, none⟩ = some (.int .i64 a0_0) := (blk_cell BK231.out 0).trans rfl; have hcz25_1 : w23.cell? ⟨gb231, 1, none⟩ = some (.int .i64 a0_1) := (blk_cell BK231.out 1).trans rfl; have hcz25_2 : w23.cell? ⟨gb231, 2, none⟩ = some (.string a0_2) := (blk_cell BK231.out 2).trans rfl; have hcz25_3 : w23.cell? ⟨gb231, 3, none⟩ = some (.string a0_3) := (blk_cell BK231.out 3).trans rfl; have hfz25_0 := blk_frozen BK231.out 0; have hfz25_1 := blk_frozen BK231.out 1; have hfz25_2 := blk_frozen BK231.out 2; have hfz25_3 := blk_frozen BK231.out 3; have hcz26_0 : w23.cell? ⟨gb232, 0, none⟩ = some (.int .i64 a1_0) := (blk_cell BK232.out 0).trans rfl; have hcz26_1 : w23.cell? ⟨gb232, 1, none⟩ = some (.int .i64 a1_1) := (blk_cell BK232.out 1).trans rfl; have hcz26_2 : w23.cell? ⟨gb232, 2, none⟩ = some (.string a1_2) := (blk_cell BK232.out 2).trans rfl; have hcz26_3 : w23.cell? ⟨gb232, 3, none⟩ = some (.string a1_3) := (blk_cell BK232.out 3).trans rfl; have hfz26_0 := blk_frozen BK232.out 0; have hfz26_1 := blk_frozen BK232.out 1; have hfz26_2 := blk_frozen BK232.out 2; have hfz26_3 := blk_frozen BK232.out 3))
   go_ret
   exact ⟨by first | rfl | (simp [errW_none, errW_some] <;> rfl) | (simp [*, errW_none, errW_some] <;> rfl), by repeat (first | (with_reducible first | exact HB.out | apply below_alloc | apply pw_below_drewN | apply below_drew1 | refine below_set ?_ GE231.out | refine below_set ?_ GE232.out) | exact HB.out)⟩
 ·rw [if_neg c3] at H
  have c3b0 : (a0_0 == a1_0) = false := beq_eq_false_iff_ne.mpr c3; have c3b1 : (a0_0 != a1_0) = true := bne_iff_ne.mpr c3; obtain rfl := Option.some.inj H
  go_enter Try.func43, Try.ntmps43
  go_wp2_with (first | ((with_reducible refine gate_dst (N := 2) rfl ?_); refine box_event ?hg (N := 2) ?hd (cs := #[.int .i64 a0_0, .int .i64 a0_1, .string a0_2, .string a0_3]) (t := 48) ?hr ?_; (case hd => rfl); (case hg => rfl); (case hr => first | (go_simp; done) | (go_simp; rfl)); intro gb231 hg w27 hbox hb; have BK231 := Aside0.mk (hbox); have GW231 := Aside0.mk ((by rw [hg]; exact (below_size (xh HB)) : w.heap.size ≤ gb231)); have GE231 := Aside0.mk ((by rw [hg]; exact (below_size (xh HB)) : w.heap.size ≤ gb231)); replace HB := Aside0.mk (below_step (xh HB) hb); clear hb hbox hg) | ((with_reducible refine gate_dst (N := 3) rfl ?_); refine box_event ?hg (N := 3) ?hd (cs := #[.int .i64 a1_0, .int .i64 a1_1, .string a1_2, .string a1_3]) (t := 48) ?hr ?_; (case hd => rfl); (case hg => rfl); (case hr => first | (go_simp; done) | (go_simp; rfl)); intro gb232 hg w28 hbox hb; have BK232 := Aside0.mk (hbox); have GW232 := Aside0.mk ((by rw [hg]; exact (below_size (xh HB)) : w.heap.size ≤ gb232)); have GE232 := Aside0.mk ((by rw [hg]; exact (below_size (xh HB)) : w.heap.size ≤ gb232)); replace HB := Aside0.mk (below_step (xh HB) hb); have NB231_232 := Aside0.mk (xn1 hg BK231); have NB232_231 := Aside0.mk (xn2 hg BK231); replace BK231 := Aside0.mk (xbb BK231 hb); clear hb hbox hg; have hnb29 := NB231_232.out; have hnc29 := NB232_231.out; have hcz30_0 : w28.cell? ⟨gb231, 0, none⟩ = some (.int .i64 a0_0) := (blk_cell BK231.out 0).trans rfl; have hcz30_1 : w28.cell? ⟨gb231, 1, none⟩ = some (.int .i64 a0_1) := (blk_cell BK231.out 1).trans rfl; have hcz30_2 : w28.cell? ⟨gb231, 2, none⟩ = some (.string a0_2) := (blk_cell BK231.out 2).trans rfl; have hcz30_3 : w28.cell? ⟨gb231, 3, none⟩ = some (.string a0_3) := (blk_cell BK231.out 3).trans rfl; have hfz30_0 := blk_frozen BK231.out 0; have hfz30_1 := blk_frozen BK231.out 1; have hfz30_2 := blk_frozen BK231.out 2; have hfz30_3 := blk_frozen BK231.out 3; have hcz31_0 : w28.cell? ⟨gb232, 0, none⟩ = some (.int .i64 a1_0) := (blk_cell BK232.out 0).trans rfl; have hcz31_1 : w28.cell? ⟨gb232, 1, none⟩ = some (.int .i64 a1_1) := (blk_cell BK232.out 1).trans rfl; have hcz31_2 : w28.cell? ⟨gb232, 2, none⟩ = some (.string a1_2) := (blk_cell BK232.out 2).trans rfl; have hcz31_3 : w28.cell? ⟨gb232, 3, none⟩ = some (.string a1_3) := (blk_cell BK232.out 3).trans rfl; have hfz31_0 := blk_frozen BK232.out 0; have hfz31_1 := blk_frozen BK232.out 1; have hfz31_2 := blk_frozen BK232.out 2; have hfz31_3 := blk_frozen BK232.out 3))
  go_ret
  exact ⟨by first | rfl | (simp [errW_none, errW_some] <;> rfl) | (simp [*, errW_none, errW_some] <;> rfl), by repeat (first | (with_reducible first | exact HB.out | apply below_alloc | apply pw_below_drewN | apply below_drew1 | refine below_set ?_ GE231.out | refine below_set ?_ GE232.out) | exact HB.out)⟩
end Go.Proofs.Ytlecpmgdoomngaa.P
end

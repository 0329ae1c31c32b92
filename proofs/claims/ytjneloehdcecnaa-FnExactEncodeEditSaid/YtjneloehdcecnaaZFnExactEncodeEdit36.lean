/- Texts of the claim FnExactEncodeEdit, part 36 of 36, joined: PlawseqEntry, PlawseqEntryS, MEntLaw, MRefLaw, MSpecEdit, PureFnExactEncodeEdit, RowFnExactEncodeEdit. No condition beyond those that stand at each. -/
import Derived.Test.YtjneloehdcecnaaZFnExactEncodeEdit26
import Derived.Test.YtjneloehdcecnaaZFnExactEncodeEdit35
import Derived.Test.YtjneloehdcecnaaZFnExactEncodeEdit27
import Derived.Test.YtjneloehdcecnaaZFnExactEncodeEdit22
import Derived.Test.YtjneloehdcecnaaZFnExactEncodeEdit28
import Derived.Test.YtjneloehdcecnaaZFnExactEncodeEdit31
import Derived.Test.YtjneloehdcecnaaZFnExactEncodeEdit32
import Derived.Test.YtjneloehdcecnaaZFnExactEncodeEdit30
import Derived.Test.YtjneloehdcecnaaZFnExactEncodeEdit34
import Derived.Test.YtjneloehdcecnaaZFnExactEncodeEdit29
import Derived.Test.YtjneloehdcecnaaRows
import Derived.WalkKit
import Derived.ProofKit
import Derived.OpenShut
import Derived.ShutString
import Derived.ChangeOld
import Derived.Below
import Derived.SizedLaws
section
-- Written by a changed copy of the print program, one module a function. Not trusted: Lean checks it.
namespace Go.Proofs.Ytjneloehdcecnaa.P
open Go.RowKit Go.Proofs.YtjneloehdcecnaaW.PrintWords Go.Proofs.YtjneloehdcecnaaW.PrintLast Go.Proofs.YtjneloehdcecnaaW.PrintMore
attribute [local go_sem] max2_int min2_int max_two min_two max_three min_three max_four min_four   -- for this text's walks alone
set_option linter.unusedVariables false
set_option linter.unusedSimpArgs false

/-! ### laws_eqEntry: function 49 -/
def laws_eqEntry.f (a0_0 : ByteArray) (a0_1 : Int) (a0_2 : Int) (a0_3 : ByteArray) (a1_0 : ByteArray) (a1_1 : Int) (a1_2 : Int) (a1_3 : ByteArray) : Option (Bool) := if a0_0.toList = a1_0.toList then (if a0_1 = a1_1 then (if a0_2 = a1_2 then (if a0_3.toList = a1_3.toList then (some true) else (some false)) else (some false)) else (some false)) else (some false)
set_option maxHeartbeats 8000000 in
set_option maxRecDepth 100000 in
theorem laws_eqEntry.calls (a0_0 : ByteArray) (a0_1 : Int) (a0_2 : Int) (a0_3 : ByteArray) (a1_0 : ByteArray) (a1_1 : Int) (a1_2 : Int) (a1_3 : ByteArray) (r : Bool) (w : World) (h : laws_eqEntry.f a0_0 a0_1 a0_2 a0_3 a1_0 a1_1 a1_2 a1_3 = some r) :
  Calls Try.prog 49 #[.agg #[.string a0_0, .int .i64 a0_1, .int .i64 a0_2, .string a0_3], .agg #[.string a1_0, .int .i64 a1_1, .int .i64 a1_2, .string a1_3]] w fun e w' => e = .returned (.bool r) ∧ Below w.heap.size w w' := by
 have hu71 := Try.underlying71
 have HB := Aside0.mk (Below.refl w.heap.size w)
 have H : (if a0_0.toList = a1_0.toList then (if a0_1 = a1_1 then (if a0_2 = a1_2 then (if a0_3.toList = a1_3.toList then (some true) else (some false)) else (some false)) else (some false)) else (some false)) = some r := h
 clear h
 by_cases c3 : a0_0.toList = a1_0.toList
 ·rw [if_pos c3] at H
  have c3b0 : (a0_0.toList == a1_0.toList) = true := beq_iff_eq.mpr c3
  have c3b1 : (a0_0.toList != a1_0.toList) = false := bne_eq_false_iff_eq.mpr c3
  clear c3
  by_cases c4 : a0_1 = a1_1
  ·rw [if_pos c4] at H
   have c4b0 : (a0_1 == a1_1) = true := beq_iff_eq.mpr c4
   have c4b1 : (a0_1 != a1_1) = false := bne_eq_false_iff_eq.mpr c4
   clear c4
   by_cases c5 : a0_2 = a1_2
   ·rw [if_pos c5] at H
    have c5b0 : (a0_2 == a1_2) = true := beq_iff_eq.mpr c5
    have c5b1 : (a0_2 != a1_2) = false := bne_eq_false_iff_eq.mpr c5
    clear c5
    by_cases c6 : a0_3.toList = a1_3.toList
    ·rw [if_pos c6] at H
     have c6b0 : (a0_3.toList == a1_3.toList) = true := beq_iff_eq.mpr c6
     have c6b1 : (a0_3.toList != a1_3.toList) = false := bne_eq_false_iff_eq.mpr c6
     clear c6
     obtain rfl := Option.some.inj H
     go_enter Try.func49, Try.ntmps49
     go_wp2_with (first | ((with_reducible refine gate_dst (N := 2) rfl ?_); refine box_event ?hg (N := 2) ?hd (cs := #[.string a0_0, .int .i64 a0_1, .int .i64 a0_2, .string a0_3]) (t := 71) ?hr ?_; (case hd => rfl); (case hg => rfl); (case hr => first | (go_simp; done) | (go_simp; rfl)); intro gb159 hg w7 hbox hb; have n0_ := Aside0.mk (below_step (by repeat (first | (with_reducible first | exact HB.out | apply below_alloc | apply pw_below_drewN | apply below_drew1) | exact HB.out)) hb); have n1_ := Aside0.mk (hbox); have n2_ := Aside0.mk ((by rw [hg]; exact (below_size (by repeat (first | (with_reducible first | exact HB.out | apply below_alloc | apply pw_below_drewN | apply below_drew1) | exact HB.out))) : w.heap.size ≤ gb159)); have n3_ := Aside0.mk ((by rw [hg]; exact (below_size (by repeat (first | (with_reducible first | exact HB.out | apply below_alloc | apply pw_below_drewN | apply below_drew1) | exact HB.out))) : w.heap.size ≤ gb159)); clear HB; have HB := n0_; have BK159 := n1_; have GW159 := n2_; have GE159 := n3_; clear n0_ n1_ n2_ n3_; clear hb hbox hg) | ((with_reducible refine gate_dst (N := 3) rfl ?_); refine box_event ?hg (N := 3) ?hd (cs := #[.string a1_0, .int .i64 a1_1, .int .i64 a1_2, .string a1_3]) (t := 71) ?hr ?_; (case hd => rfl); (case hg => rfl); (case hr => first | (go_simp; done) | (go_simp; rfl)); intro gb160 hg w8 hbox hb; have n0_ := Aside0.mk (blk_below (g := gb159) (o := .cells #[.string a0_0, .int .i64 a0_1, .int .i64 a0_2, .string a0_3] 71 (0, 0)) (by (with_reducible repeat (first | refine blk_drewN ?_ _ | refine blk_drew ?_ | refine blk_alloc ?_ _)); exact BK159.out) hb); have n1_ := Aside0.mk (below_step (by repeat (first | (with_reducible first | exact HB.out | apply below_alloc | apply pw_below_drewN | apply below_drew1 | refine below_set ?_ GE159.out) | exact HB.out)) hb); have n2_ := Aside0.mk (hbox); have n3_ := Aside0.mk ((by rw [hg]; exact (below_size (by repeat (first | (with_reducible first | exact HB.out | apply below_alloc | apply pw_below_drewN | apply below_drew1 | refine below_set ?_ GE159.out) | exact HB.out))) : w.heap.size ≤ gb160)); have n4_ := Aside0.mk ((by rw [hg]; exact (below_size (by repeat (first | (with_reducible first | exact HB.out | apply below_alloc | apply pw_below_drewN | apply below_drew1 | refine below_set ?_ GE159.out) | exact HB.out))) : w.heap.size ≤ gb160)); have n5_ := Aside0.mk ((by rw [hg]; exact Nat.ne_of_lt (blk_lt (g := gb159) (o := .cells #[.string a0_0, .int .i64 a0_1, .int .i64 a0_2, .string a0_3] 71 (0, 0)) (by (with_reducible repeat (first | refine blk_drewN ?_ _ | refine blk_drew ?_ | refine blk_alloc ?_ _)); exact BK159.out)) : gb159 ≠ gb160)); have n6_ := Aside0.mk ((by rw [hg]; exact Nat.ne_of_gt (blk_lt (g := gb159) (o := .cells #[.string a0_0, .int .i64 a0_1, .int .i64 a0_2, .string a0_3] 71 (0, 0)) (by (with_reducible repeat (first | refine blk_drewN ?_ _ | refine blk_drew ?_ | refine blk_alloc ?_ _)); exact BK159.out)) : gb160 ≠ gb159)); clear BK159; clear HB; have BK159 := n0_; have HB := n1_; have BK160 := n2_; have GW160 := n3_; have GE160 := n4_; have NB159_160 := n5_; have NB160_159 := n6_; clear n0_ n1_ n2_ n3_ n4_ n5_ n6_; clear hb hbox hg; have hnb9 := NB159_160.out; have hnc9 := NB160_159.out; have hcz10_0 : w8.cell? ⟨gb159, 0, none⟩ = some (.string a0_0) := (blk_cell BK159.out 0).trans rfl; have hcz10_1 : w8.cell? ⟨gb159, 1, none⟩ = some (.int .i64 a0_1) := (blk_cell BK159.out 1).trans rfl; have hcz10_2 : w8.cell? ⟨gb159, 2, none⟩ = some (.int .i64 a0_2) := (blk_cell BK159.out 2).trans rfl; have hcz10_3 : w8.cell? ⟨gb159, 3, none⟩ = some (.string a0_3) := (blk_cell BK159.out 3).trans rfl; have hfz10_0 := blk_frozen BK159.out 0; have hfz10_1 := blk_frozen BK159.out 1; have hfz10_2 := blk_frozen BK159.out 2; have hfz10_3 := blk_frozen BK159.out 3; have hcz11_0 : w8.cell? ⟨gb160, 0, none⟩ = some (.string a1_0) := (blk_cell BK160.out 0).trans rfl; have hcz11_1 : w8.cell? ⟨gb160, 1, none⟩ = some (.int .i64 a1_1) := (blk_cell BK160.out 1).trans rfl; have hcz11_2 : w8.cell? ⟨gb160, 2, none⟩ = some (.int .i64 a1_2) := (blk_cell BK160.out 2).trans rfl; have hcz11_3 : w8.cell? ⟨gb160, 3, none⟩ = some (.string a1_3) := (blk_cell BK160.out 3).trans rfl; have hfz11_0 := blk_frozen BK160.out 0; have hfz11_1 := blk_frozen BK160.out 1; have hfz11_2 := blk_frozen BK160.out 2; have hfz11_3 := blk_frozen BK160.out 3))
     go_ret
     exact ⟨by first | rfl | (simp [errW_none, errW_some] <;> rfl) | (simp [*, errW_none, errW_some] <;> rfl), by repeat (first | (with_reducible first | exact HB.out | apply below_alloc | apply pw_below_drewN | apply below_drew1 | refine below_set ?_ GE159.out | refine below_set ?_ GE160.out) | exact HB.out)⟩
    ·rw [if_neg c6] at H
     have c6b0 : (a0_3.toList == a1_3.toList) = false := beq_eq_false_iff_ne.mpr c6
     have c6b1 : (a0_3.toList != a1_3.toList) = true := bne_iff_ne.mpr c6
     obtain rfl := Option.some.inj H
     go_enter Try.func49, Try.ntmps49
     go_wp2_with (first | ((with_reducible refine gate_dst (N := 2) rfl ?_); refine box_event ?hg (N := 2) ?hd (cs := #[.string a0_0, .int .i64 a0_1, .int .i64 a0_2, .string a0_3]) (t := 71) ?hr ?_; (case hd => rfl); (case hg => rfl); (case hr => first | (go_simp; done) | (go_simp; rfl)); intro gb159 hg w12 hbox hb; have n0_ := Aside0.mk (below_step (by repeat (first | (with_reducible first | exact HB.out | apply below_alloc | apply pw_below_drewN | apply below_drew1) | exact HB.out)) hb); have n1_ := Aside0.mk (hbox); have n2_ := Aside0.mk ((by rw [hg]; exact (below_size (by repeat (first | (with_reducible first | exact HB.out | apply below_alloc | apply pw_below_drewN | apply below_drew1) | exact HB.out))) : w.heap.size ≤ gb159)); have n3_ := Aside0.mk ((by rw [hg]; exact (below_size (by repeat (first | (with_reducible first | exact HB.out | apply below_alloc | apply pw_below_drewN | apply below_drew1) | exact HB.out))) : w.heap.size ≤ gb159)); clear HB; have HB := n0_; have BK159 := n1_; have GW159 := n2_; have GE159 := n3_; clear n0_ n1_ n2_ n3_; clear hb hbox hg) | ((with_reducible refine gate_dst (N := 3) rfl ?_); refine box_event ?hg (N := 3) ?hd (cs := #[.string a1_0, .int .i64 a1_1, .int .i64 a1_2, .string a1_3]) (t := 71) ?hr ?_; (case hd => rfl); (case hg => rfl); (case hr => first | (go_simp; done) | (go_simp; rfl)); intro gb160 hg w13 hbox hb; have n0_ := Aside0.mk (blk_below (g := gb159) (o := .cells #[.string a0_0, .int .i64 a0_1, .int .i64 a0_2, .string a0_3] 71 (0, 0)) (by (with_reducible repeat (first | refine blk_drewN ?_ _ | refine blk_drew ?_ | refine blk_alloc ?_ _)); exact BK159.out) hb); have n1_ := Aside0.mk (below_step (by repeat (first | (with_reducible first | exact HB.out | apply below_alloc | apply pw_below_drewN | apply below_drew1 | refine below_set ?_ GE159.out) | exact HB.out)) hb); have n2_ := Aside0.mk (hbox); have n3_ := Aside0.mk ((by rw [hg]; exact (below_size (by repeat (first | (with_reducible first | exact HB.out | apply below_alloc | apply pw_below_drewN | apply below_drew1 | refine below_set ?_ GE159.out) | exact HB.out))) : w.heap.size ≤ gb160)); have n4_ := Aside0.mk ((by rw [hg]; exact (below_size (by repeat (first | (with_reducible first | exact HB.out | apply below_alloc | apply pw_below_drewN | apply below_drew1 | refine below_set ?_ GE159.out) | exact HB.out))) : w.heap.size ≤ gb160)); have n5_ := Aside0.mk ((by rw [hg]; exact Nat.ne_of_lt (blk_lt (g := gb159) (o := .cells #[.string a0_0, .int .i64 a0_1, .int .i64 a0_2, .string a0_3] 71 (0, 0)) (by (with_reducible repeat (first | refine blk_drewN ?_ _ | refine blk_drew ?_ | refine blk_alloc ?_ _)); exact BK159.out)) : gb159 ≠ gb160)); have n6_ := Aside0.mk ((by rw [hg]; exact Nat.ne_of_gt (blk_lt (g := gb159) (o := .cells #[.string a0_0, .int .i64 a0_1, .int .i64 a0_2, .string a0_3] 71 (0, 0)) (by (with_reducible repeat (first | refine blk_drewN ?_ _ | refine blk_drew ?_ | refine blk_alloc ?_ _)); exact BK159.out)) : gb160 ≠ gb159)); clear BK159; clear HB; have BK159 := n0_; have HB := n1_; have BK160 := n2_; have GW160 := n3_; have GE160 := n4_; have NB159_160 := n5_; have NB160_159 := n6_; clear n0_ n1_ n2_ n3_ n4_ n5_ n6_; clear hb hbox hg; have hnb14 := NB159_160.out; have hnc14 := NB160_159.out; have hcz15_0 : w13.cell? ⟨gb159, 0, none⟩ = some (.string a0_0) := (blk_cell BK159.out 0).trans rfl; have hcz15_1 : w13.cell? ⟨gb159, 1, none⟩ = some (.int .i64 a0_1) := (blk_cell BK159.out 1).trans rfl; have hcz15_2 : w13.cell? ⟨gb159, 2, none⟩ = some (.int .i64 a0_2) := (blk_cell BK159.out 2).trans rfl; have hcz15_3 : w13.cell? ⟨gb159, 3, none⟩ = some (.string a0_3) := (blk_cell BK159.out 3).trans rfl; have hfz15_0 := blk_frozen BK159.out 0; have hfz15_1 := blk_frozen BK159.out 1; have hfz15_2 := blk_frozen BK159.out 2; have hfz15_3 := blk_frozen BK159.out 3; have hcz16_0 : w13.cell? ⟨gb160, 0, none⟩ = some (.string a1_0) := (blk_cell BK160.out 0).trans rfl; have hcz16_1 : w13.cell? ⟨gb160, 1, none⟩ = some (.int .i64 a1_1) := (blk_cell BK160.out 1).trans rfl; have hcz16_2 : w13.cell? ⟨gb160, 2, none⟩ = some (.int .i64 a1_2) := (blk_cell BK160.out 2).trans rfl; have hcz16_3 : w13.cell? ⟨gb160, 3, none⟩ = some (.string a1_3) := (blk_cell BK160.out 3).trans rfl; have hfz16_0 := blk_frozen BK160.out 0; have hfz16_1 := blk_frozen BK160.out 1; have hfz16_2 := blk_frozen BK160.out 2; have hfz16_3 := blk_frozen BK160.out 3))
     go_ret
     exact ⟨by first | rfl | (simp [errW_none, errW_some] <;> rfl) | (simp [*, errW_none, errW_some] <;> rfl), by repeat (first | (with_reducible first | exact HB.out | apply below_alloc | apply pw_below_drewN | apply below_drew1 | refine below_set ?_ GE159.out | refine below_set ?_ GE160.out) | exact HB.out)⟩
   ·rw [if_neg c5] at H
    have c5b0 : (a0_2 == a1_2) = false := beq_eq_false_iff_ne.mpr c5
    have c5b1 : (a0_2 != a1_2) = true := bne_iff_ne.mpr c5
    obtain rfl := Option.some.inj H
    go_enter Try.func49, Try.ntmps49
    go_wp2_with (first | ((with_reducible refine gate_dst (N := 2) rfl ?_); refine box_event ?hg (N := 2) ?hd (cs := #[.string a0_0, .int .i64 a0_1, .int .i64 a0_2, .string a0_3]) (t := 71) ?hr ?_; (case hd => rfl); (case hg => rfl); (case hr => first | (go_simp; done) | (go_simp; rfl)); intro gb159 hg w17 hbox hb; have n0_ := Aside0.mk (below_step (by repeat (first | (with_reducible first | exact HB.out | apply below_alloc | apply pw_below_drewN | apply below_drew1) | exact HB.out)) hb); have n1_ := Aside0.mk (hbox); have n2_ := Aside0.mk ((by rw [hg]; exact (below_size (by repeat (first | (with_reducible first | exact HB.out | apply below_alloc | apply pw_below_drewN | apply below_drew1) | exact HB.out))) : w.heap.size ≤ gb159)); have n3_ := Aside0.mk ((by rw [hg]; exact (below_size (by repeat (first | (with_reducible first | exact HB.out | apply below_alloc | apply pw_below_drewN | apply below_drew1) | exact HB.out))) : w.heap.size ≤ gb159)); clear HB; have HB := n0_; have BK159 := n1_; have GW159 := n2_; have GE159 := n3_; clear n0_ n1_ n2_ n3_; clear hb hbox hg) | ((with_reducible refine gate_dst (N := 3) rfl ?_); refine box_event ?hg (N := 3) ?hd (cs := #[.string a1_0, .int .i64 a1_1, .int .i64 a1_2, .string a1_3]) (t := 71) ?hr ?_; (case hd => rfl); (case hg => rfl); (case hr => first | (go_simp; done) | (go_simp; rfl)); intro gb160 hg w18 hbox hb; have n0_ := Aside0.mk (blk_below (g := gb159) (o := .cells #[.string a0_0, .int .i64 a0_1, .int .i64 a0_2, .string a0_3] 71 (0, 0)) (by (with_reducible repeat (first | refine blk_drewN ?_ _ | refine blk_drew ?_ | refine blk_alloc ?_ _)); exact BK159.out) hb); have n1_ := Aside0.mk (below_step (by repeat (first | (with_reducible first | exact HB.out | apply below_alloc | apply pw_below_drewN | apply below_drew1 | refine below_set ?_ GE159.out) | exact HB.out)) hb); have n2_ := Aside0.mk (hbox); have n3_ := Aside0.mk ((by rw [hg]; exact (below_size (by repeat (first | (with_reducible first | exact HB.out | apply below_alloc | apply pw_below_drewN | apply below_drew1 | refine below_set ?_ GE159.out) | exact HB.out))) : w.heap.size ≤ gb160)); have n4_ := Aside0.mk ((by rw [hg]; exact (below_size (by repeat (first | (with_reducible first | exact HB.out | apply below_alloc | apply pw_below_drewN | apply below_drew1 | refine below_set ?_ GE159.out) | exact HB.out))) : w.heap.size ≤ gb160)); have n5_ := Aside0.mk ((by rw [hg]; exact Nat.ne_of_lt (blk_lt (g := gb159) (o := .cells #[.string a0_0, .int .i64 a0_1, .int .i64 a0_2, .string a0_3] 71 (0, 0)) (by (with_reducible repeat (first | refine blk_drewN ?_ _ | refine blk_drew ?_ | refine blk_alloc ?_ _)); exact BK159.out)) : gb159 ≠ gb160)); have n6_ := Aside0.mk ((by rw [hg]; exact Nat.ne_of_gt (blk_lt (g := gb159) (o := .cells #[.string a0_0, .int .i64 a0_1, .int .i64 a0_2, .string a0_3] 71 (0, 0)) (by (with_reducible repeat (first | refine blk_drewN ?_ _ | refine blk_drew ?_ | refine blk_alloc ?_ _)); exact BK159.out)) : gb160 ≠ gb159)); clear BK159; clear HB; have BK159 := n0_; have HB := n1_; have BK160 := n2_; have GW160 := n3_; have GE160 := n4_; have NB159_160 := n5_; have NB160_159 := n6_; clear n0_ n1_ n2_ n3_ n4_ n5_ n6_; clear hb hbox hg; have hnb19 := NB159_160.out; have hnc19 := NB160_159.out; have hcz20_0 : w18.cell? ⟨gb159, 0, none⟩ = some (.string a0_0) := (blk_cell BK159.out 0).trans rfl; have hcz20_1 : w18.cell? ⟨gb159, 1, none⟩ = some (.int .i64 a0_1) := (blk_cell BK159.out 1).trans rfl; have hcz20_2 : w18.cell? ⟨gb159, 2, none⟩ = some (.int .i64 a0_2) := (blk_cell BK159.out 2).trans rfl; have hcz20_3 : w18.cell? ⟨gb159, 3, none⟩ = some (.string a0_3) := (blk_cell BK159.out 3).trans rfl; have hfz20_0 := blk_frozen BK159.out 0; have hfz20_1 := blk_frozen BK159.out 1; have hfz20_2 := blk_frozen BK159.out 2; have hfz20_3 := blk_frozen BK159.out 3; have hcz21_0 : w18.cell? ⟨gb160, 0, none⟩ = some (.string a1_0) := (blk_cell BK160.out 0).trans rfl; have hcz21_1 : w18.cell? ⟨gb160, 1, none⟩ = some (.int .i64 a1_1) := (blk_cell BK160.out 1).trans rfl; have hcz21_2 : w18.cell? ⟨gb160, 2, none⟩ = some (.int .i64 a1_2) := (blk_cell BK160.out 2).trans rfl; have hcz21_3 : w18.cell? ⟨gb160, 3, none⟩ = some (.string a1_3) := (blk_cell BK160.out 3).trans rfl; have hfz21_0 := blk_frozen BK160.out 0; have hfz21_1 := blk_frozen BK160.out 1; have hfz21_2 := blk_frozen BK160.out 2; have hfz21_3 := blk_frozen BK160.out 3))
    go_ret
    exact ⟨by first | rfl | (simp [errW_none, errW_some] <;> rfl) | (simp [*, errW_none, errW_some] <;> rfl), by repeat (first | (with_reducible first | exact HB.out | apply below_alloc | apply pw_below_drewN | apply below_drew1 | refine below_set ?_ GE159.out | refine below_set ?_ GE160.out) | exact HB.out)⟩
  ·rw [if_neg c4] at H
   have c4b0 : (a0_1 == a1_1) = false := beq_eq_false_iff_ne.mpr c4
   have c4b1 : (a0_1 != a1_1) = true := bne_iff_ne.mpr c4
   obtain rfl := Option.some.inj H
   go_enter Try.func49, Try.ntmps49
   go_wp2_with (first | ((with_reducible refine gate_dst (N := 2) rfl ?_); refine box_event ?hg (N := 2) ?hd (cs := #[.string a0_0, .int .i64 a0_1, .int .i64 a0_2, .string a0_3]) (t := 71) ?hr ?_; (case hd => rfl); (case hg => rfl); (case hr => first | (go_simp; done) | (go_simp; rfl)); intro gb159 hg w22 hbox hb; have n0_ := Aside0.mk (below_step (by repeat (first | (with_reducible first | exact HB.out | apply below_alloc | apply pw_below_drewN | apply below_drew1) | exact HB.out)) hb); have n1_ := Aside0.mk (hbox); have n2_ := Aside0.mk ((by rw [hg]; exact (below_size (by repeat (first | (with_reducible first | exact HB.out | apply below_alloc | apply pw_below_drewN | apply below_drew1) | exact HB.out))) : w.heap.size ≤ gb159)); have n3_ := Aside0.mk ((by rw [hg]; exact (below_size (by repeat (first | (with_reducible first | exact HB.out | apply below_alloc | apply pw_below_drewN | apply below_drew1) | exact HB.out))) : w.heap.size ≤ gb159)); clear HB; have HB := n0_; have BK159 := n1_; have GW159 := n2_; have GE159 := n3_; clear n0_ n1_ n2_ n3_; clear hb hbox hg) | ((with_reducible refine gate_dst (N := 3) rfl ?_); refine box_event ?hg (N := 3) ?hd (cs := #[.string a1_0, .int .i64 a1_1, .int .i64 a1_2, .string a1_3]) (t := 71) ?hr ?_; (case hd => rfl); (case hg => rfl); (case hr => first | (go_simp; done) | (go_simp; rfl)); intro gb160 hg w23 hbox hb; have n0_ := Aside0.mk (blk_below (g := gb159) (o := .cells #[.string a0_0, .int .i64 a0_1, .int .i64 a0_2, .string a0_3] 71 (0, 0)) (by (with_reducible repeat (first | refine blk_drewN ?_ _ | refine blk_drew ?_ | refine blk_alloc ?_ _)); exact BK159.out) hb); have n1_ := Aside0.mk (below_step (by repeat (first | (with_reducible first | exact HB.out | apply below_alloc | apply pw_below_drewN | apply below_drew1 | refine below_set ?_ GE159.out) | exact HB.out)) hb); have n2_ := Aside0.mk (hbox); have n3_ := Aside0.mk ((by rw [hg]; exact (below_size (by repeat (first | (with_reducible first | exact HB.out | apply below_alloc | apply pw_below_drewN | apply below_drew1 | refine below_set ?_ GE159.out) | exact HB.out))) : w.heap.size ≤ gb160)); have n4_ := Aside0.mk ((by rw [hg]; exact (below_size (by repeat (first | (with_reducible first | exact HB.out | apply below_alloc | apply pw_below_drewN | apply below_drew1 | refine below_set ?_ GE159.out) | exact HB.out))) : w.heap.size ≤ gb160)); have n5_ := Aside0.mk ((by rw [hg]; exact Nat.ne_of_lt (blk_lt (g := gb159) (o := .cells #[.string a0_0, .int .i64 a0_1, .int .i64 a0_2, .string a0_3] 71 (0, 0)) (by (with_reducible repeat (first | refine blk_drewN ?_ _ | refine blk_drew ?_ | refine blk_alloc ?_ _)); exact BK159.out)) : gb159 ≠ gb160)); have n6_ := Aside0.mk ((by rw [hg]; exact Nat.ne_of_gt (blk_lt (g := gb159) (o := .cells #[.string a0_0, .int .i64 a0_1, .int .i64 a0_2, .string a0_3] 71 (0, 0)) (by (with_reducible repeat (first | refine blk_drewN ?_ _ | refine blk_drew ?_ | refine blk_alloc ?_ _)); exact BK159.out)) : gb160 ≠ gb159)); clear BK159; clear HB; have BK159 := n0_; have HB := n1_; have BK160 := n2_; have GW160 := n3_; have GE160 := n4_; have NB159_160 := n5_; have NB160_159 := n6_; clear n0_ n1_ n2_ n3_ n4_ n5_ n6_; clear hb hbox hg; have hnb24 := NB159_160.out; have hnc24 := NB160_159.out; have hcz25_0 : w23.cell? ⟨gb159, 0, none⟩ = some (.string a0_0) := (blk_cell BK159.out 0).trans rfl; have hcz25_1 : w23.cell? ⟨gb159, 1, none⟩ = some (.int .i64 a0_1) := (blk_cell BK159.out 1).trans rfl; have hcz25_2 : w23.cell? ⟨gb159, 2, none⟩ = some (.int .i64 a0_2) := (blk_cell BK159.out 2).trans rfl; have hcz25_3 : w23.cell? ⟨gb159, 3, none⟩ = some (.string a0_3) := (blk_cell BK159.out 3).trans rfl; have hfz25_0 := blk_frozen BK159.out 0; have hfz25_1 := blk_frozen BK159.out 1; have hfz25_2 := blk_frozen BK159.out 2; have hfz25_3 := blk_frozen BK159.out 3; have hcz26_0 : w23.cell? ⟨gb160, 0, none⟩ = some (.string a1_0) := (blk_cell BK160.out 0).trans rfl; have hcz26_1 : w23.cell? ⟨gb160, 1, none⟩ = some (.int .i64 a1_1) := (blk_cell BK160.out 1).trans rfl; have hcz26_2 : w23.cell? ⟨gb160, 2, none⟩ = some (.int .i64 a1_2) := (blk_cell BK160.out 2).trans rfl; have hcz26_3 : w23.cell? ⟨gb160, 3, none⟩ = some (.string a1_3) := (blk_cell BK160.out 3).trans rfl; have hfz26_0 := blk_frozen BK160.out 0; have hfz26_1 := blk_frozen BK160.out 1; have hfz26_2 := blk_frozen BK160.out 2; have hfz26_3 := blk_frozen BK160.out 3))
   go_ret
   exact ⟨by first | rfl | (simp [errW_none, errW_some] <;> rfl) | (simp [*, errW_none, errW_some] <;> rfl), by repeat (first | (with_reducible first | exact HB.out | apply below_alloc | apply pw_below_drewN | apply below_drew1 | refine below_set ?_ GE159.out | refine below_set ?_ GE160.out) | exact HB.out)⟩
 ·rw [if_neg c3] at H
  have c3b0 : (a0_0.toList == a1_0.toList) = false := beq_eq_false_iff_ne.mpr c3
  have c3b1 : (a0_0.toList != a1_0.toList) = true := bne_iff_ne.mpr c3
  obtain rfl := Option.some.inj H
  go_enter Try.func49, Try.ntmps49
  go_wp2_with (first | ((with_reducible refine gate_dst (N := 2) rfl ?_); refine box_event ?hg (N := 2) ?hd (cs := #[.string a0_0, .int .i64 a0_1, .int .i64 a0_2, .string a0_3]) (t := 71) ?hr ?_; (case hd => rfl); (case hg => rfl); (case hr => first | (go_simp; done) | (go_simp; rfl)); intro gb159 hg w27 hbox hb; have n0_ := Aside0.mk (below_step (by repeat (first | (with_reducible first | exact HB.out | apply below_alloc | apply pw_below_drewN | apply below_drew1) | exact HB.out)) hb); have n1_ := Aside0.mk (hbox); have n2_ := Aside0.mk ((by rw [hg]; exact (below_size (by repeat (first | (with_reducible first | exact HB.out | apply below_alloc | apply pw_below_drewN | apply below_drew1) | exact HB.out))) : w.heap.size ≤ gb159)); have n3_ := Aside0.mk ((by rw [hg]; exact (below_size (by repeat (first | (with_reducible first | exact HB.out | apply below_alloc | apply pw_below_drewN | apply below_drew1) | exact HB.out))) : w.heap.size ≤ gb159)); clear HB; have HB := n0_; have BK159 := n1_; have GW159 := n2_; have GE159 := n3_; clear n0_ n1_ n2_ n3_; clear hb hbox hg) | ((with_reducible refine gate_dst (N := 3) rfl ?_); refine box_event ?hg (N := 3) ?hd (cs := #[.string a1_0, .int .i64 a1_1, .int .i64 a1_2, .string a1_3]) (t := 71) ?hr ?_; (case hd => rfl); (case hg => rfl); (case hr => first | (go_simp; done) | (go_simp; rfl)); intro gb160 hg w28 hbox hb; have n0_ := Aside0.mk (blk_below (g := gb159) (o := .cells #[.string a0_0, .int .i64 a0_1, .int .i64 a0_2, .string a0_3] 71 (0, 0)) (by (with_reducible repeat (first | refine blk_drewN ?_ _ | refine blk_drew ?_ | refine blk_alloc ?_ _)); exact BK159.out) hb); have n1_ := Aside0.mk (below_step (by repeat (first | (with_reducible first | exact HB.out | apply below_alloc | apply pw_below_drewN | apply below_drew1 | refine below_set ?_ GE159.out) | exact HB.out)) hb); have n2_ := Aside0.mk (hbox); have n3_ := Aside0.mk ((by rw [hg]; exact (below_size (by repeat (first | (with_reducible first | exact HB.out | apply below_alloc | apply pw_below_drewN | apply below_drew1 | refine below_set ?_ GE159.out) | exact HB.out))) : w.heap.size ≤ gb160)); have n4_ := Aside0.mk ((by rw [hg]; exact (below_size (by repeat (first | (with_reducible first | exact HB.out | apply below_alloc | apply pw_below_drewN | apply below_drew1 | refine below_set ?_ GE159.out) | exact HB.out))) : w.heap.size ≤ gb160)); have n5_ := Aside0.mk ((by rw [hg]; exact Nat.ne_of_lt (blk_lt (g := gb159) (o := .cells #[.string a0_0, .int .i64 a0_1, .int .i64 a0_2, .string a0_3] 71 (0, 0)) (by (with_reducible repeat (first | refine blk_drewN ?_ _ | refine blk_drew ?_ | refine blk_alloc ?_ _)); exact BK159.out)) : gb159 ≠ gb160)); have n6_ := Aside0.mk ((by rw [hg]; exact Nat.ne_of_gt (blk_lt (g := gb159) (o := .cells #[.string a0_0, .int .i64 a0_1, .int .i64 a0_2, .string a0_3] 71 (0, 0)) (by (with_reducible repeat (first | refine blk_drewN ?_ _ | refine blk_drew ?_ | refine blk_alloc ?_ _)); exact BK159.out)) : gb160 ≠ gb159)); clear BK159; clear HB; have BK159 := n0_; have HB := n1_; have BK160 := n2_; have GW160 := n3_; have GE160 := n4_; have NB159_160 := n5_; have NB160_159 := n6_; clear n0_ n1_ n2_ n3_ n4_ n5_ n6_; clear hb hbox hg; have hnb29 := NB159_160.out; have hnc29 := NB160_159.out; have hcz30_0 : w28.cell? ⟨gb159, 0, none⟩ = some (.string a0_0) := (blk_cell BK159.out 0).trans rfl; have hcz30_1 : w28.cell? ⟨gb159, 1, none⟩ = some (.int .i64 a0_1) := (blk_cell BK159.out 1).trans rfl; have hcz30_2 : w28.cell? ⟨gb159, 2, none⟩ = some (.int .i64 a0_2) := (blk_cell BK159.out 2).trans rfl; have hcz30_3 : w28.cell? ⟨gb159, 3, none⟩ = some (.string a0_3) := (blk_cell BK159.out 3).trans rfl; have hfz30_0 := blk_frozen BK159.out 0; have hfz30_1 := blk_frozen BK159.out 1; have hfz30_2 := blk_frozen BK159.out 2; have hfz30_3 := blk_frozen BK159.out 3; have hcz31_0 : w28.cell? ⟨gb160, 0, none⟩ = some (.string a1_0) := (blk_cell BK160.out 0).trans rfl; have hcz31_1 : w28.cell? ⟨gb160, 1, none⟩ = some (.int .i64 a1_1) := (blk_cell BK160.out 1).trans rfl; have hcz31_2 : w28.cell? ⟨gb160, 2, none⟩ = some (.int .i64 a1_2) := (blk_cell BK160.out 2).trans rfl; have hcz31_3 : w28.cell? ⟨gb160, 3, none⟩ = some (.string a1_3) := (blk_cell BK160.out 3).trans rfl; have hfz31_0 := blk_frozen BK160.out 0; have hfz31_1 := blk_frozen BK160.out 1; have hfz31_2 := blk_frozen BK160.out 2; have hfz31_3 := blk_frozen BK160.out 3))
  go_ret
  exact ⟨by first | rfl | (simp [errW_none, errW_some] <;> rfl) | (simp [*, errW_none, errW_some] <;> rfl), by repeat (first | (with_reducible first | exact HB.out | apply below_alloc | apply pw_below_drewN | apply below_drew1 | refine below_set ?_ GE159.out | refine below_set ?_ GE160.out) | exact HB.out)⟩

end Go.Proofs.Ytjneloehdcecnaa.P
end
section
-- Written by a changed copy of the print program, one module a function. Not trusted: Lean checks it.
namespace Go.Proofs.Ytjneloehdcecnaa.P
open Go.RowKit Go.Proofs.YtjneloehdcecnaaW.PrintWords Go.Proofs.YtjneloehdcecnaaW.PrintLast Go.Proofs.YtjneloehdcecnaaW.PrintMore
attribute [local go_sem] max2_int min2_int max_two min_two max_three min_three max_four min_four   -- for this text's walks alone
set_option linter.unusedVariables false
set_option linter.unusedSimpArgs false

/-! ### laws_eqEntryS: function 19 -/
def laws_eqEntryS.l0 : Nat → List (S71) → List (S71) → Int → Option (Bool)
 | 0, _, _, _ => none
 | k + 1, x0, x1, x5 => if x5 < (x0.length : Int) then (if 0 ≤ x5 then (if x5 < (x1.length : Int) then ((laws_eqEntry.f ((rd_T71 x0 x5).f0) ((rd_T71 x0 x5).f1) ((rd_T71 x0 x5).f2) ((rd_T71 x0 x5).f3) ((rd_T71 x1 x5).f0) ((rd_T71 x1 x5).f1) ((rd_T71 x1 x5).f2) ((rd_T71 x1 x5).f3)).bind fun t163 => (if t163 = true then (laws_eqEntryS.l0 k x0 x1 (wrap64 (x5 + 1))) else (some false))) else (none)) else (none)) else (some true)
def laws_eqEntryS.f (k : Nat) (l0 : List (S71)) (l1 : List (S71)) : Option (Bool) := if (l0.length : Int) = (l1.length : Int) then (laws_eqEntryS.l0 k l0 l1 0) else (some false)
theorem laws_eqEntryS.mono_l : ∀ k, (∀ y0 y1 y2, LeO (laws_eqEntryS.l0 k y0 y1 y2) (laws_eqEntryS.l0 (k + 1) y0 y1 y2))
 | 0 => fun _ _ _ r h => by simp [laws_eqEntryS.l0] at h
 | k + 1 => by
  have ih0 := laws_eqEntryS.mono_l k
  ·intro y0 y1 y2
   unfold laws_eqEntryS.l0
   repeat' first
   | (with_reducible exact ih0 _ _ _)
   | (with_reducible exact LeO.refl _)
   | (with_reducible exact LeO.none _)
   | (with_reducible refine LeO.ite ?_ ?_)
   | (with_reducible refine LeO.bind ?_ (fun _ => ?_))
   | exact ih0 _ _ _
   | exact LeO.none _
   | refine LeO.ite ?_ ?_
   | refine LeO.bind ?_ (fun _ => ?_)
theorem laws_eqEntryS.mono : ∀ a0 a1 k, LeO (laws_eqEntryS.f k a0 a1) (laws_eqEntryS.f (k + 1) a0 a1) := by
 intro a0 a1 k
 have ih0 := laws_eqEntryS.mono_l k
 unfold laws_eqEntryS.f
 repeat' first
   | (with_reducible exact ih0 _ _ _)
   | (with_reducible exact LeO.refl _)
   | (with_reducible exact LeO.none _)
   | (with_reducible refine LeO.ite ?_ ?_)
   | (with_reducible refine LeO.bind ?_ (fun _ => ?_))
   | exact ih0 _ _ _
   | exact LeO.none _
   | refine LeO.ite ?_ ?_
   | refine LeO.bind ?_ (fun _ => ?_)
def laws_eqEntryS.T6 : Bool × List (List Nat × List Nat) := (true, [([], []), ([], []), ([0, 1], [0, 1]), ([2], [2]), ([], []), ([], []), ([4, 5], [4, 5]), ([6], [6]), ([3, 7], [3, 7]), ([8], [8])])
def laws_eqEntryS.B6 : List Nat := [0, 0, 3, 7, 0, 0, 48, 112, 255, 511]
theorem laws_eqEntryS.tab6 : rtab .any (opsOf Try.f19 6) = laws_eqEntryS.T6 := by kernel_rfl
theorem laws_eqEntryS.bits6 : waitsOk laws_eqEntryS.T6.2 laws_eqEntryS.B6 = true := by kernel_rfl
set_option maxHeartbeats 8000000 in
set_option maxRecDepth 100000 in
theorem laws_eqEntryS.calls (k : Nat) (A0 : Option Addr) (c0 : Nat) (l0 : List (S71)) (A1 : Option Addr) (c1 : Nat) (l1 : List (S71)) (r : Bool) (w : World) (hr0 : Kd.C k71 w A0 l0.length l0) (hc0 : l0.length ≤ c0) (hr1 : Kd.C k71 w A1 l1.length l1) (hc1 : l1.length ≤ c1) (h : laws_eqEntryS.f k l0 l1 = some r) :
  Calls Try.prog 19 #[.slice A0 l0.length c0, .slice A1 l1.length c1] w fun e w' => e = .returned (.bool r) ∧ Below w.heap.size w w' := by
 have hu71 := Try.underlying71
 have HR0 := Aside0.mk hr0
 have HC0 := Aside0.mk hc0
 clear hr0 hc0
 have HR1 := Aside0.mk hr1
 have HC1 := Aside0.mk hc1
 clear hr1 hc1
 have HB := Aside0.mk (Below.refl w.heap.size w)
 have H : (if (l0.length : Int) = (l1.length : Int) then (laws_eqEntryS.l0 k l0 l1 0) else (some false)) = some r := h
 clear h
 by_cases c3 : (l0.length : Int) = (l1.length : Int)
 ·rw [if_pos c3] at H
  have c3b0 : ((l0.length : Int) == (l1.length : Int)) = true := beq_iff_eq.mpr c3
  have c3b1 : ((l0.length : Int) != (l1.length : Int)) = false := bne_eq_false_iff_eq.mpr c3
  have c3b2 : (l0.length == l1.length) = true := by first | simpa using c3 | (simp at c3 ⊢; omega)
  clear c3
  have H' := Aside0.mk H
  clear H
  go_enter Try.func19, Try.ntmps19
  go_wp2
  go_loopg [5] k (fun kq v5 w' => ∃ (x5_1 : Int), v5 = .int .i64 x5_1 ∧ Aside0 (laws_eqEntryS.l0 kq l0 l1 x5_1 = some r) ∧ Aside0 (kq ≤ k) ∧ Aside0 (Below w.heap.size w w'))
  case atStart => exact ⟨(0), (by first | rfl | (simp; done) | (simp [*]; done)), H', ⟨Nat.le_refl _⟩, ⟨by repeat (first | (with_reducible first | exact HB.out | apply below_alloc | apply pw_below_drewN | apply below_drew1) | exact HB.out)⟩⟩
  case round =>
   clear H'
   try clear c1
   try clear p2
   try clear c3
   try clear c3b0
   try clear c3b1
   try clear c3b2
   obtain ⟨x5_1, rfl, HA, HK1, HB⟩ := hrel
   cases gk with
   | zero => exact absurd HA.out (by simp [laws_eqEntryS.l0])
   | succ k1 =>
    have H := HA.out
    clear HA
    simp only [laws_eqEntryS.l0] at H
    by_cases c4 : x5_1 < (l0.length : Int)
    ·rw [if_pos c4] at H
     have c4b0 : decide (x5_1 < (l0.length : Int)) = true := decide_eq_true c4
     clear c4
     by_cases c5 : 0 ≤ x5_1
     ·rw [if_pos c5] at H
      have c5b0 : decide (0 ≤ x5_1) = true := decide_eq_true c5
      clear c5
      by_cases c6 : x5_1 < (l1.length : Int)
      ·rw [if_pos c6] at H
       have c6b0 : decide (x5_1 < (l1.length : Int)) = true := decide_eq_true c6
       clear c6
       replace H := Option.bind_eq_some_iff.mp H
       obtain ⟨t163, A70, H⟩ := H
       replace H : (if t163 = true then (laws_eqEntryS.l0 k1 l0 l1 (wrap64 (x5_1 + 1))) else (some false)) = some r := H
       have A7 := Aside0.mk A70
       clear A70
       by_cases c8 : t163 = true
       ·subst c8
        have H1 : (laws_eqEntryS.l0 k1 l0 l1 (wrap64 (x5_1 + 1))) = some r := by rw [if_pos rfl] at H; exact H
        clear H
        have H := H1
        clear H1
        have H' := Aside0.mk H
        clear H
        try go_wp2
        have n0_ := Aside0.mk (below_drew1 HB.out)
        clear HB
        have HB := n0_
        clear n0_
        have p161 : 0 ≤ (x5_1 : Int) := of_decide_eq_true (by first | (with_reducible assumption) | assumption)
        have q161 : x5_1 < (l0.length : Int) := of_decide_eq_true (by first | (with_reducible assumption) | assumption)
        obtain ⟨ad161, e161, hx161_0, hx161_1, hx161_2, hx161_3⟩ := at_T71 HR0.out x5_1 p161 q161
        have hw161_3 := hx161_3
        have hw161_2 := hx161_2
        have hw161_1 := hx161_1
        have hw161_0 := hx161_0
        cases e161
        replace hx161_0 := (HB.out.cell (World.block_lt_of_cell? w _ hx161_0)).trans hx161_0
        replace hx161_1 := (HB.out.cell (World.block_lt_of_cell? w _ hx161_1)).trans hx161_1
        replace hx161_2 := (HB.out.cell (World.block_lt_of_cell? w _ hx161_2)).trans hx161_2
        replace hx161_3 := (HB.out.cell (World.block_lt_of_cell? w _ hx161_3)).trans hx161_3
        replace p161 := eq_true p161
        replace q161 := eq_true q161
        have p162 : 0 ≤ (x5_1 : Int) := of_decide_eq_true (by first | (with_reducible assumption) | assumption)
        have q162 : x5_1 < (l1.length : Int) := of_decide_eq_true (by first | (with_reducible assumption) | assumption)
        obtain ⟨ad162, e162, hx162_0, hx162_1, hx162_2, hx162_3⟩ := at_T71 HR1.out x5_1 p162 q162
        have hw162_3 := hx162_3
        have hw162_2 := hx162_2
        have hw162_1 := hx162_1
        have hw162_0 := hx162_0
        cases e162
        replace hx162_0 := (HB.out.cell (World.block_lt_of_cell? w _ hx162_0)).trans hx162_0
        replace hx162_1 := (HB.out.cell (World.block_lt_of_cell? w _ hx162_1)).trans hx162_1
        replace hx162_2 := (HB.out.cell (World.block_lt_of_cell? w _ hx162_2)).trans hx162_2
        replace hx162_3 := (HB.out.cell (World.block_lt_of_cell? w _ hx162_3)).trans hx162_3
        replace p162 := eq_true p162
        replace q162 := eq_true q162
        refine start_ (n := 10) (S := fun w' => w'.cell? (ad161.add ((x5_1).toNat * 4)) = some (.string ((rd_T71 l0 x5_1).f0)) ∧ w'.cell? ⟨(ad161.add ((x5_1).toNat * 4)).block, (ad161.add ((x5_1).toNat * 4)).off + 1, none⟩ = some (.int .i64 ((rd_T71 l0 x5_1).f1)) ∧ w'.cell? ⟨(ad161.add ((x5_1).toNat * 4)).block, (ad161.add ((x5_1).toNat * 4)).off + 2, none⟩ = some (.int .i64 ((rd_T71 l0 x5_1).f2)) ∧ w'.cell? ⟨(ad161.add ((x5_1).toNat * 4)).block, (ad161.add ((x5_1).toNat * 4)).off + 3, none⟩ = some (.string ((rd_T71 l0 x5_1).f3)) ∧ w'.cell? (ad162.add ((x5_1).toNat * 4)) = some (.string ((rd_T71 l1 x5_1).f0)) ∧ w'.cell? ⟨(ad162.add ((x5_1).toNat * 4)).block, (ad162.add ((x5_1).toNat * 4)).off + 1, none⟩ = some (.int .i64 ((rd_T71 l1 x5_1).f1)) ∧ w'.cell? ⟨(ad162.add ((x5_1).toNat * 4)).block, (ad162.add ((x5_1).toNat * 4)).off + 2, none⟩ = some (.int .i64 ((rd_T71 l1 x5_1).f2)) ∧ w'.cell? ⟨(ad162.add ((x5_1).toNat * 4)).block, (ad162.add ((x5_1).toNat * 4)).off + 3, none⟩ = some (.string ((rd_T71 l1 x5_1).f3))) (ds := []) #[false, false, false, false, false, false, false, false, false, false] (by kernel_rfl) rfl rfl ⟨((HB.out.cell (World.block_lt_of_cell? w _ hw161_0)).trans hw161_0), ((HB.out.cell (World.block_lt_of_cell? w _ hw161_1)).trans hw161_1), ((HB.out.cell (World.block_lt_of_cell? w _ hw161_2)).trans hw161_2), ((HB.out.cell (World.block_lt_of_cell? w _ hw161_3)).trans hw161_3), ((HB.out.cell (World.block_lt_of_cell? w _ hw162_0)).trans hw162_0), ((HB.out.cell (World.block_lt_of_cell? w _ hw162_1)).trans hw162_1), ((HB.out.cell (World.block_lt_of_cell? w _ hw162_2)).trans hw162_2), ((HB.out.cell (World.block_lt_of_cell? w _ hw162_3)).trans hw162_3)⟩ (fun hHeld => ?_); refine with_tabW laws_eqEntryS.tab6 laws_eqEntryS.bits6 (fun HT_ HW_ => ?_)
        generalize wr.drew = w9 at HB hx161_0 hx161_1 hx161_2 hx161_3 hx162_0 hx162_1 hx162_2 hx162_3 hHeld ⊢
        refine pure_ (i := 0) (N := some 17) (v := ?_) (a' := ?_) #[true, false, false, false, false, false, false, false, false, false] rfl rfl (any_of HT_.out (by kernel_rfl)) (fun _ _ _ h => h) (Or.inl ⟨by rfl, ?_⟩) ?_ ?_
        rotate_left
        ·intro w'
         go_simp
         with_reducible rfl
        rotate_left
        ·simp only [Act.put, List.setIfInBounds_toArray, List.set_cons_zero, List.set_cons_succ, i64_w, i32_w]
         rfl
        refine pure_ (i := 1) (N := some 18) (v := ?_) (a' := ?_) #[true, true, false, false, false, false, false, false, false, false] rfl rfl (any_of HT_.out (by kernel_rfl)) (fun _ _ _ h => h) (Or.inl ⟨by rfl, ?_⟩) ?_ ?_
        rotate_left
        ·intro w'
         go_simp
         with_reducible rfl
        rotate_left
        ·simp only [Act.put, List.setIfInBounds_toArray, List.set_cons_zero, List.set_cons_succ, i64_w, i32_w]
         rfl
        refine pure_ (i := 2) (N := some 19) (v := ?_) (a' := ?_) #[true, true, true, false, false, false, false, false, false, false] rfl rfl (any_of HT_.out (by kernel_rfl)) (fun _ _ _ h => h) (Or.inl ⟨by rfl, ?_⟩) ?_ ?_
        rotate_left
        ·intro w'
         go_simp
         with_reducible rfl
        rotate_left
        ·simp only [Act.put, List.setIfInBounds_toArray, List.set_cons_zero, List.set_cons_succ, i64_w, i32_w]
         rfl
        refine pure_ (i := 4) (N := some 21) (v := ?_) (a' := ?_) #[true, true, true, false, true, false, false, false, false, false] rfl rfl (any_of HT_.out (by kernel_rfl)) (fun _ _ _ h => h) (Or.inl ⟨by rfl, ?_⟩) ?_ ?_
        rotate_left
        ·intro w'
         go_simp
         with_reducible rfl
        rotate_left
        ·simp only [Act.put, List.setIfInBounds_toArray, List.set_cons_zero, List.set_cons_succ, i64_w, i32_w]
         rfl
        refine pure_ (i := 5) (N := some 22) (v := ?_) (a' := ?_) #[true, true, true, false, true, true, false, false, false, false] rfl rfl (any_of HT_.out (by kernel_rfl)) (fun _ _ _ h => h) (Or.inl ⟨by rfl, ?_⟩) ?_ ?_
        rotate_left
        ·intro w'
         go_simp
         with_reducible rfl
        rotate_left
        ·simp only [Act.put, List.setIfInBounds_toArray, List.set_cons_zero, List.set_cons_succ, i64_w, i32_w]
         rfl
        refine pure_ (i := 6) (N := some 23) (v := ?_) (a' := ?_) #[true, true, true, false, true, true, true, false, false, false] rfl rfl (any_of HT_.out (by kernel_rfl)) (fun _ _ _ h => h) (Or.inl ⟨by rfl, ?_⟩) ?_ ?_
        rotate_left
        ·intro w'
         go_simp
         with_reducible rfl
        rotate_left
        ·simp only [Act.put, List.setIfInBounds_toArray, List.set_cons_zero, List.set_cons_succ, i64_w, i32_w]
         rfl
        refine take_ (i := 3) (N := some 20) (v := ?_) (a' := ?_) #[true, true, true, true, true, true, true, false, false, false] rfl rfl (take_ofW HT_.out HW_.out (by kernel_rfl)) (fun _ _ _ h => h) (Or.inl ⟨by rfl, ?_⟩) hHeld ?_ ?_
        rotate_left
        ·rintro w' ⟨s0, s1, s2, s3, s4, s5, s6, s7⟩
         go_simp
         with_reducible rfl
        rotate_left
        ·simp only [Act.put, List.setIfInBounds_toArray, List.set_cons_zero, List.set_cons_succ, i64_w, i32_w]
         rfl
        refine take_ (i := 7) (N := some 24) (v := ?_) (a' := ?_) #[true, true, true, true, true, true, true, true, false, false] rfl rfl (take_ofW HT_.out HW_.out (by kernel_rfl)) (fun _ _ _ h => h) (Or.inl ⟨by rfl, ?_⟩) hHeld ?_ ?_
        rotate_left
        ·rintro w' ⟨s0, s1, s2, s3, s4, s5, s6, s7⟩
         go_simp
         with_reducible rfl
        rotate_left
        ·simp only [Act.put, List.setIfInBounds_toArray, List.set_cons_zero, List.set_cons_succ, i64_w, i32_w]
         rfl
        refine one_ (i := 8) (N := some 25) #[true, true, true, true, true, true, true, true, true, false] rfl rfl (one_of HT_.out (by kernel_rfl)) (by decide) (fun K hK => ?_)
        refine goes_ Try.func49 (by kernel_rfl) rfl #[.agg #[.string ((rd_T71 l0 x5_1).f0), .int .i64 ((rd_T71 l0 x5_1).f1), .int .i64 ((rd_T71 l0 x5_1).f2), .string ((rd_T71 l0 x5_1).f3)], .agg #[.string ((rd_T71 l1 x5_1).f0), .int .i64 ((rd_T71 l1 x5_1).f1), .int .i64 ((rd_T71 l1 x5_1).f2), .string ((rd_T71 l1 x5_1).f3)]] (by rfl) rfl rfl (by (try simp only [List.map_toArray, List.map_cons, List.map_nil]); first | done | rfl | (simp only [List.length_drop, List.length_take]; rfl)) ?_
        with_reducible refine (laws_eqEntry.calls ((rd_T71 l0 x5_1).f0) ((rd_T71 l0 x5_1).f1) ((rd_T71 l0 x5_1).f2) ((rd_T71 l0 x5_1).f3) ((rd_T71 l1 x5_1).f0) ((rd_T71 l1 x5_1).f1) ((rd_T71 l1 x5_1).f2) ((rd_T71 l1 x5_1).f3) true _ A7.out).mono ?_
        rintro e w10 ⟨rfl, hb⟩
        refine ⟨_, rfl, ?_⟩
        have n0_ := Aside0.mk (below_step (by repeat (first | (with_reducible first | exact HB.out | apply below_alloc | apply pw_below_drewN | apply below_drew1) | exact HB.out)) hb)
        clear HB
        have HB := n0_
        clear n0_
        (try clear hb)
        (try clear hb2)
        (try clear hk)
        (try clear hi)
        refine hK.out _ _ ⟨((HB.out.cell (World.block_lt_of_cell? w _ hw161_0)).trans hw161_0), ((HB.out.cell (World.block_lt_of_cell? w _ hw161_1)).trans hw161_1), ((HB.out.cell (World.block_lt_of_cell? w _ hw161_2)).trans hw161_2), ((HB.out.cell (World.block_lt_of_cell? w _ hw161_3)).trans hw161_3), ((HB.out.cell (World.block_lt_of_cell? w _ hw162_0)).trans hw162_0), ((HB.out.cell (World.block_lt_of_cell? w _ hw162_1)).trans hw162_1), ((HB.out.cell (World.block_lt_of_cell? w _ hw162_2)).trans hw162_2), ((HB.out.cell (World.block_lt_of_cell? w _ hw162_3)).trans hw162_3)⟩ (fun hHeld => ?_)
        clear hK K
        refine norm_ (a' := ?_) ?_ ?_
        rotate_left
        ·show Act.put _ (some 25) _ = _
         simp only [Act.put, List.setIfInBounds_toArray, List.set_cons_zero, List.set_cons_succ, i64_w, i32_w]
         rfl
        refine pure_ (i := 9) (N := some 26) (v := ?_) (a' := ?_) #[true, true, true, true, true, true, true, true, true, true] rfl rfl (any_of HT_.out (by kernel_rfl)) (fun _ _ _ h => h) (Or.inl ⟨by rfl, ?_⟩) ?_ ?_
        rotate_left
        ·intro w'
         go_simp
         with_reducible rfl
        rotate_left
        ·simp only [Act.put, List.setIfInBounds_toArray, List.set_cons_zero, List.set_cons_succ, i64_w, i32_w]
         rfl
        refine done_ (done_of HT_.out (by kernel_rfl)) ?_
        try go_wp2
        go_roundg k1
        case measure => have := HK1.out; omega
        case rel => exact ⟨(wrap64 (x5_1 + 1)), (by first | rfl | (simp; done) | (simp [*]; done)), H', ⟨by have := HK1.out; omega⟩, ⟨by repeat (first | (with_reducible first | exact HB.out | apply below_alloc | apply pw_below_drewN | apply below_drew1) | exact HB.out)⟩⟩
       ·replace c8 := Bool.eq_false_iff.mpr c8
        subst c8
        have H1 : (some false) = some r := by rw [if_neg (show ¬ (false = true) by decide)] at H; exact H
        clear H
        have H := H1
        clear H1
        obtain rfl := Option.some.inj H
        try go_wp2
        have n0_ := Aside0.mk (below_drew1 HB.out)
        clear HB
        have HB := n0_
        clear n0_
        have p161 : 0 ≤ (x5_1 : Int) := of_decide_eq_true (by first | (with_reducible assumption) | assumption)
        have q161 : x5_1 < (l0.length : Int) := of_decide_eq_true (by first | (with_reducible assumption) | assumption)
        obtain ⟨ad161, e161, hx161_0, hx161_1, hx161_2, hx161_3⟩ := at_T71 HR0.out x5_1 p161 q161
        have hw161_3 := hx161_3
        have hw161_2 := hx161_2
        have hw161_1 := hx161_1
        have hw161_0 := hx161_0
        cases e161
        replace hx161_0 := (HB.out.cell (World.block_lt_of_cell? w _ hx161_0)).trans hx161_0
        replace hx161_1 := (HB.out.cell (World.block_lt_of_cell? w _ hx161_1)).trans hx161_1
        replace hx161_2 := (HB.out.cell (World.block_lt_of_cell? w _ hx161_2)).trans hx161_2
        replace hx161_3 := (HB.out.cell (World.block_lt_of_cell? w _ hx161_3)).trans hx161_3
        replace p161 := eq_true p161
        replace q161 := eq_true q161
        have p162 : 0 ≤ (x5_1 : Int) := of_decide_eq_true (by first | (with_reducible assumption) | assumption)
        have q162 : x5_1 < (l1.length : Int) := of_decide_eq_true (by first | (with_reducible assumption) | assumption)
        obtain ⟨ad162, e162, hx162_0, hx162_1, hx162_2, hx162_3⟩ := at_T71 HR1.out x5_1 p162 q162
        have hw162_3 := hx162_3
        have hw162_2 := hx162_2
        have hw162_1 := hx162_1
        have hw162_0 := hx162_0
        cases e162
        replace hx162_0 := (HB.out.cell (World.block_lt_of_cell? w _ hx162_0)).trans hx162_0
        replace hx162_1 := (HB.out.cell (World.block_lt_of_cell? w _ hx162_1)).trans hx162_1
        replace hx162_2 := (HB.out.cell (World.block_lt_of_cell? w _ hx162_2)).trans hx162_2
        replace hx162_3 := (HB.out.cell (World.block_lt_of_cell? w _ hx162_3)).trans hx162_3
        replace p162 := eq_true p162
        replace q162 := eq_true q162
        refine start_ (n := 10) (S := fun w' => w'.cell? (ad161.add ((x5_1).toNat * 4)) = some (.string ((rd_T71 l0 x5_1).f0)) ∧ w'.cell? ⟨(ad161.add ((x5_1).toNat * 4)).block, (ad161.add ((x5_1).toNat * 4)).off + 1, none⟩ = some (.int .i64 ((rd_T71 l0 x5_1).f1)) ∧ w'.cell? ⟨(ad161.add ((x5_1).toNat * 4)).block, (ad161.add ((x5_1).toNat * 4)).off + 2, none⟩ = some (.int .i64 ((rd_T71 l0 x5_1).f2)) ∧ w'.cell? ⟨(ad161.add ((x5_1).toNat * 4)).block, (ad161.add ((x5_1).toNat * 4)).off + 3, none⟩ = some (.string ((rd_T71 l0 x5_1).f3)) ∧ w'.cell? (ad162.add ((x5_1).toNat * 4)) = some (.string ((rd_T71 l1 x5_1).f0)) ∧ w'.cell? ⟨(ad162.add ((x5_1).toNat * 4)).block, (ad162.add ((x5_1).toNat * 4)).off + 1, none⟩ = some (.int .i64 ((rd_T71 l1 x5_1).f1)) ∧ w'.cell? ⟨(ad162.add ((x5_1).toNat * 4)).block, (ad162.add ((x5_1).toNat * 4)).off + 2, none⟩ = some (.int .i64 ((rd_T71 l1 x5_1).f2)) ∧ w'.cell? ⟨(ad162.add ((x5_1).toNat * 4)).block, (ad162.add ((x5_1).toNat * 4)).off + 3, none⟩ = some (.string ((rd_T71 l1 x5_1).f3))) (ds := []) #[false, false, false, false, false, false, false, false, false, false] (by kernel_rfl) rfl rfl ⟨((HB.out.cell (World.block_lt_of_cell? w _ hw161_0)).trans hw161_0), ((HB.out.cell (World.block_lt_of_cell? w _ hw161_1)).trans hw161_1), ((HB.out.cell (World.block_lt_of_cell? w _ hw161_2)).trans hw161_2), ((HB.out.cell (World.block_lt_of_cell? w _ hw161_3)).trans hw161_3), ((HB.out.cell (World.block_lt_of_cell? w _ hw162_0)).trans hw162_0), ((HB.out.cell (World.block_lt_of_cell? w _ hw162_1)).trans hw162_1), ((HB.out.cell (World.block_lt_of_cell? w _ hw162_2)).trans hw162_2), ((HB.out.cell (World.block_lt_of_cell? w _ hw162_3)).trans hw162_3)⟩ (fun hHeld => ?_); refine with_tabW laws_eqEntryS.tab6 laws_eqEntryS.bits6 (fun HT_ HW_ => ?_)
        generalize wr.drew = w11 at HB hx161_0 hx161_1 hx161_2 hx161_3 hx162_0 hx162_1 hx162_2 hx162_3 hHeld ⊢
        refine pure_ (i := 0) (N := some 17) (v := ?_) (a' := ?_) #[true, false, false, false, false, false, false, false, false, false] rfl rfl (any_of HT_.out (by kernel_rfl)) (fun _ _ _ h => h) (Or.inl ⟨by rfl, ?_⟩) ?_ ?_
        rotate_left
        ·intro w'
         go_simp
         with_reducible rfl
        rotate_left
        ·simp only [Act.put, List.setIfInBounds_toArray, List.set_cons_zero, List.set_cons_succ, i64_w, i32_w]
         rfl
        refine pure_ (i := 1) (N := some 18) (v := ?_) (a' := ?_) #[true, true, false, false, false, false, false, false, false, false] rfl rfl (any_of HT_.out (by kernel_rfl)) (fun _ _ _ h => h) (Or.inl ⟨by rfl, ?_⟩) ?_ ?_
        rotate_left
        ·intro w'
         go_simp
         with_reducible rfl
        rotate_left
        ·simp only [Act.put, List.setIfInBounds_toArray, List.set_cons_zero, List.set_cons_succ, i64_w, i32_w]
         rfl
        refine pure_ (i := 2) (N := some 19) (v := ?_) (a' := ?_) #[true, true, true, false, false, false, false, false, false, false] rfl rfl (any_of HT_.out (by kernel_rfl)) (fun _ _ _ h => h) (Or.inl ⟨by rfl, ?_⟩) ?_ ?_
        rotate_left
        ·intro w'
         go_simp
         with_reducible rfl
        rotate_left
        ·simp only [Act.put, List.setIfInBounds_toArray, List.set_cons_zero, List.set_cons_succ, i64_w, i32_w]
         rfl
        refine pure_ (i := 4) (N := some 21) (v := ?_) (a' := ?_) #[true, true, true, false, true, false, false, false, false, false] rfl rfl (any_of HT_.out (by kernel_rfl)) (fun _ _ _ h => h) (Or.inl ⟨by rfl, ?_⟩) ?_ ?_
        rotate_left
        ·intro w'
         go_simp
         with_reducible rfl
        rotate_left
        ·simp only [Act.put, List.setIfInBounds_toArray, List.set_cons_zero, List.set_cons_succ, i64_w, i32_w]
         rfl
        refine pure_ (i := 5) (N := some 22) (v := ?_) (a' := ?_) #[true, true, true, false, true, true, false, false, false, false] rfl rfl (any_of HT_.out (by kernel_rfl)) (fun _ _ _ h => h) (Or.inl ⟨by rfl, ?_⟩) ?_ ?_
        rotate_left
        ·intro w'
         go_simp
         with_reducible rfl
        rotate_left
        ·simp only [Act.put, List.setIfInBounds_toArray, List.set_cons_zero, List.set_cons_succ, i64_w, i32_w]
         rfl
        refine pure_ (i := 6) (N := some 23) (v := ?_) (a' := ?_) #[true, true, true, false, true, true, true, false, false, false] rfl rfl (any_of HT_.out (by kernel_rfl)) (fun _ _ _ h => h) (Or.inl ⟨by rfl, ?_⟩) ?_ ?_
        rotate_left
        ·intro w'
         go_simp
         with_reducible rfl
        rotate_left
        ·simp only [Act.put, List.setIfInBounds_toArray, List.set_cons_zero, List.set_cons_succ, i64_w, i32_w]
         rfl
        refine take_ (i := 3) (N := some 20) (v := ?_) (a' := ?_) #[true, true, true, true, true, true, true, false, false, false] rfl rfl (take_ofW HT_.out HW_.out (by kernel_rfl)) (fun _ _ _ h => h) (Or.inl ⟨by rfl, ?_⟩) hHeld ?_ ?_
        rotate_left
        ·rintro w' ⟨s0, s1, s2, s3, s4, s5, s6, s7⟩
         go_simp
         with_reducible rfl
        rotate_left
        ·simp only [Act.put, List.setIfInBounds_toArray, List.set_cons_zero, List.set_cons_succ, i64_w, i32_w]
         rfl
        refine take_ (i := 7) (N := some 24) (v := ?_) (a' := ?_) #[true, true, true, true, true, true, true, true, false, false] rfl rfl (take_ofW HT_.out HW_.out (by kernel_rfl)) (fun _ _ _ h => h) (Or.inl ⟨by rfl, ?_⟩) hHeld ?_ ?_
        rotate_left
        ·rintro w' ⟨s0, s1, s2, s3, s4, s5, s6, s7⟩
         go_simp
         with_reducible rfl
        rotate_left
        ·simp only [Act.put, List.setIfInBounds_toArray, List.set_cons_zero, List.set_cons_succ, i64_w, i32_w]
         rfl
        refine one_ (i := 8) (N := some 25) #[true, true, true, true, true, true, true, true, true, false] rfl rfl (one_of HT_.out (by kernel_rfl)) (by decide) (fun K hK => ?_)
        refine goes_ Try.func49 (by kernel_rfl) rfl #[.agg #[.string ((rd_T71 l0 x5_1).f0), .int .i64 ((rd_T71 l0 x5_1).f1), .int .i64 ((rd_T71 l0 x5_1).f2), .string ((rd_T71 l0 x5_1).f3)], .agg #[.string ((rd_T71 l1 x5_1).f0), .int .i64 ((rd_T71 l1 x5_1).f1), .int .i64 ((rd_T71 l1 x5_1).f2), .string ((rd_T71 l1 x5_1).f3)]] (by rfl) rfl rfl (by (try simp only [List.map_toArray, List.map_cons, List.map_nil]); first | done | rfl | (simp only [List.length_drop, List.length_take]; rfl)) ?_
        with_reducible refine (laws_eqEntry.calls ((rd_T71 l0 x5_1).f0) ((rd_T71 l0 x5_1).f1) ((rd_T71 l0 x5_1).f2) ((rd_T71 l0 x5_1).f3) ((rd_T71 l1 x5_1).f0) ((rd_T71 l1 x5_1).f1) ((rd_T71 l1 x5_1).f2) ((rd_T71 l1 x5_1).f3) false _ A7.out).mono ?_
        rintro e w12 ⟨rfl, hb⟩
        refine ⟨_, rfl, ?_⟩
        have n0_ := Aside0.mk (below_step (by repeat (first | (with_reducible first | exact HB.out | apply below_alloc | apply pw_below_drewN | apply below_drew1) | exact HB.out)) hb)
        clear HB
        have HB := n0_
        clear n0_
        (try clear hb)
        (try clear hb2)
        (try clear hk)
        (try clear hi)
        refine hK.out _ _ ⟨((HB.out.cell (World.block_lt_of_cell? w _ hw161_0)).trans hw161_0), ((HB.out.cell (World.block_lt_of_cell? w _ hw161_1)).trans hw161_1), ((HB.out.cell (World.block_lt_of_cell? w _ hw161_2)).trans hw161_2), ((HB.out.cell (World.block_lt_of_cell? w _ hw161_3)).trans hw161_3), ((HB.out.cell (World.block_lt_of_cell? w _ hw162_0)).trans hw162_0), ((HB.out.cell (World.block_lt_of_cell? w _ hw162_1)).trans hw162_1), ((HB.out.cell (World.block_lt_of_cell? w _ hw162_2)).trans hw162_2), ((HB.out.cell (World.block_lt_of_cell? w _ hw162_3)).trans hw162_3)⟩ (fun hHeld => ?_)
        clear hK K
        refine norm_ (a' := ?_) ?_ ?_
        rotate_left
        ·show Act.put _ (some 25) _ = _
         simp only [Act.put, List.setIfInBounds_toArray, List.set_cons_zero, List.set_cons_succ, i64_w, i32_w]
         rfl
        refine pure_ (i := 9) (N := some 26) (v := ?_) (a' := ?_) #[true, true, true, true, true, true, true, true, true, true] rfl rfl (any_of HT_.out (by kernel_rfl)) (fun _ _ _ h => h) (Or.inl ⟨by rfl, ?_⟩) ?_ ?_
        rotate_left
        ·intro w'
         go_simp
         with_reducible rfl
        rotate_left
        ·simp only [Act.put, List.setIfInBounds_toArray, List.set_cons_zero, List.set_cons_succ, i64_w, i32_w]
         rfl
        refine done_ (done_of HT_.out (by kernel_rfl)) ?_
        try go_wp2
        go_ret
        exact ⟨by first | rfl | (simp [errW_none, errW_some] <;> rfl) | (simp [*, errW_none, errW_some] <;> rfl), by repeat (first | (with_reducible first | exact HB.out | apply below_alloc | apply pw_below_drewN | apply below_drew1) | exact HB.out)⟩
      ·rw [if_neg c6] at H
       exact absurd H (by simp)
     ·rw [if_neg c5] at H
      exact absurd H (by simp)
    ·rw [if_neg c4] at H
     have c4b0 : decide (x5_1 < (l0.length : Int)) = false := decide_eq_false c4
     clear c4
     obtain rfl := Option.some.inj H
     go_wp2
     go_ret
     exact ⟨by first | rfl | (simp [errW_none, errW_some] <;> rfl) | (simp [*, errW_none, errW_some] <;> rfl), by repeat (first | (with_reducible first | exact HB.out | apply below_alloc | apply pw_below_drewN | apply below_drew1) | exact HB.out)⟩
 ·rw [if_neg c3] at H
  have c3b0 : ((l0.length : Int) == (l1.length : Int)) = false := beq_eq_false_iff_ne.mpr c3
  have c3b1 : ((l0.length : Int) != (l1.length : Int)) = true := bne_iff_ne.mpr c3
  have c3b2 : (l0.length == l1.length) = false := by first | simpa using c3 | (simp at c3 ⊢; omega)
  obtain rfl := Option.some.inj H
  go_enter Try.func19, Try.ntmps19
  go_wp2
  go_ret
  exact ⟨by first | rfl | (simp [errW_none, errW_some] <;> rfl) | (simp [*, errW_none, errW_some] <;> rfl), by repeat (first | (with_reducible first | exact HB.out | apply below_alloc | apply pw_below_drewN | apply below_drew1) | exact HB.out)⟩

end Go.Proofs.Ytjneloehdcecnaa.P
end
section
/- The laws' rows of entries: weighed, copied, compared. Condition: at most 2 to the 20 of them. -/
namespace Go.Proofs.Ytjneloehdcecnaa.M
open Go.RowKit Go.Proofs.Ytjneloehdcecnaa.P Go.Proofs.YtjneloehdcecnaaW.PrintWords Go.Proofs.YtjneloehdcecnaaW.PrintLast
set_option linter.unusedVariables false
theorem Ev.pure {α : Type} {g : Nat → Option α} {r : α} (h : ∀ k, g k = some r) : Ev g r := ⟨0, fun k _ => h k⟩
def conv (x : S68) : S71 := ⟨x.f0, x.f1, x.f2, x.f3⟩
theorem rd68 (l : List S68) (i : Nat) (h : i < l.length) : rd_T68 l (i : Int) = l[i] := by
  unfold rd_T68
  rw [Int.toNat_natCast, getD_at l i _ h]
theorem rd71' (l : List S71) (i : Nat) (h : i < l.length) : rd_T71 l (i : Int) = l[i] := by
  unfold rd_T71
  rw [Int.toNat_natCast, getD_at l i _ h]
theorem szEntry_eq (x : S68) (a : Int) (ha : 0 ≤ a) (ha2 : a ≤ 1048576) (h0 : x.f0.size ≤ 140737488351232) (h1 : x.f3.size ≤ 140737488351232) :
    laws_szEntry.f x.f0 x.f1 x.f2 x.f3 a = some (if (x.f0.size + x.f3.size : Int) ≤ a then a - (x.f0.size + x.f3.size : Int) else -1) := by
  unfold laws_szEntry.f
  rw [wrap_ok (x := a - (x.f0.size : Int)) (by omega) (by omega), wrap_ok (x := a - (x.f0.size : Int) - (x.f3.size : Int)) (by omega) (by omega)]
  by_cases c1 : a - (x.f0.size : Int) < 0
  · rw [if_pos c1, if_neg (by omega)]
  · rw [if_neg c1]
    by_cases c2 : a - (x.f0.size : Int) - (x.f3.size : Int) < 0
    · rw [if_pos c2, if_neg (by omega)]
    · rw [if_neg c2, if_pos (by omega), show a - (x.f0.size : Int) - (x.f3.size : Int) = a - ((x.f0.size : Int) + (x.f3.size : Int)) by omega]
def texts68 (l : List S68) : Nat := (l.map fun x => x.f0.size + x.f3.size).sum
def weight68 (l : List S68) : Nat := texts68 l + l.length
theorem texts68_drop (l : List S68) (i : Nat) (h : i < l.length) : texts68 (l.drop i) = (l[i].f0.size + l[i].f3.size) + texts68 (l.drop (i + 1)) := by
  rw [drop_at l i h]
  rfl
theorem szEntryS_loop (l : List S68) (ok : Ok68s l) (hl : l.length ≤ 1048576) : ∀ d i : Nat, i + d = l.length → ∀ a : Int, 0 ≤ a → a ≤ 1048576 →
    Ev (fun k => laws_szEntryS.l0 k l a (i : Int)) (if (texts68 (l.drop i) : Int) ≤ a then a - texts68 (l.drop i) else -1) := by
  intro d
  induction d with
  | zero =>
    intro i hi a ha ha2
    rw [List.drop_eq_nil_of_le (by omega)]
    refine Ev.step (f := fun _ => some a) (fun k => ?_) ?_
    · rw [laws_szEntryS.l0, if_neg (by omega)]
    · have : (if ((texts68 [] : Nat) : Int) ≤ a then a - ((texts68 [] : Nat) : Int) else -1) = a := by simp [texts68]; omega
      rw [this]; exact Ev.now a
  | succ d ih =>
    intro i hi a ha ha2
    have hlt : i < l.length := by omega
    have hk := ok.2 l[i] (List.getElem_mem hlt)
    rw [texts68_drop l i hlt]
    have hs := szEntry_eq l[i] a ha ha2 hk.1 hk.2.2.2
    by_cases c : (l[i].f0.size + l[i].f3.size : Int) ≤ a
    · rw [if_pos c] at hs
      have hi' := ih (i + 1) (by omega) (a - (l[i].f0.size + l[i].f3.size : Int)) (by omega) (by omega)
      refine Ev.step (f := fun k => laws_szEntryS.l0 k l (a - (l[i].f0.size + l[i].f3.size : Int)) ((i + 1 : Nat) : Int)) (fun k => ?_) ?_
      · rw [laws_szEntryS.l0, if_pos (by omega), if_pos (by omega), rd68 l i hlt, hs]
        simp only [Option.bind_some]
        rw [if_neg (by omega), wrap_succ (by omega)]
      · generalize texts68 (l.drop (i + 1)) = n at hi' ⊢
        have e : (if (n : Int) ≤ a - (l[i].f0.size + l[i].f3.size : Int) then a - (l[i].f0.size + l[i].f3.size : Int) - (n : Int) else -1) = (if ((l[i].f0.size + l[i].f3.size + n : Nat) : Int) ≤ a then a - ((l[i].f0.size + l[i].f3.size + n : Nat) : Int) else -1) := by
          by_cases c3 : (n : Int) ≤ a - (l[i].f0.size + l[i].f3.size : Int)
          · rw [if_pos c3, if_pos (by omega)]; omega
          · rw [if_neg c3, if_neg (by omega)]
        rw [← e]; exact hi'
    · rw [if_neg c] at hs
      rw [if_neg (by omega)]
      refine Ev.step (f := fun _ => some (-1)) (fun k => ?_) (Ev.now _)
      rw [laws_szEntryS.l0, if_pos (by omega), if_pos (by omega), rd68 l i hlt, hs]
      simp only [Option.bind_some]
      rw [if_pos (by omega)]
/-- What is left of a bound, or -1. -/
theorem szEntryS_eq (l : List S68) (a : Int) (ha : 0 ≤ a) (ha2 : a ≤ 1048576) (ok : Ok68s l) : Ev (fun k => laws_szEntryS.f k l a) (if (weight68 l : Int) ≤ a then (a - weight68 l : Int) else -1) := by
  have h40 := ok.1
  have hw : weight68 l = texts68 l + l.length := rfl
  by_cases hl : (l.length : Int) ≤ a
  · have h := szEntryS_loop l ok (by omega) l.length 0 (by omega) (a - (l.length : Int)) (by omega) (by omega)
    rw [List.drop_zero] at h
    have e : (if (texts68 l : Int) ≤ a - (l.length : Int) then a - (l.length : Int) - texts68 l else -1) = (if (weight68 l : Int) ≤ a then (a - weight68 l : Int) else -1) := by
      by_cases c : (texts68 l : Int) ≤ a - (l.length : Int)
      · rw [if_pos c, if_pos (by omega)]; omega
      · rw [if_neg c, if_neg (by omega)]
    rw [← e]
    refine Ev.congr (fun k => ?_) h
    show (if _ then _ else _) = _
    rw [wrap_ok (x := a - (l.length : Int)) (by omega) (by omega), if_neg (by omega)]
    rfl
  · rw [if_neg (by omega)]
    refine Ev.pure (fun k => ?_)
    show (if _ then _ else _) = _
    rw [wrap_ok (x := a - (l.length : Int)) (by omega) (by omega), if_pos (by omega)]
theorem toEntryS_loop (l : List S68) (hl : l.length ≤ 1048576) : ∀ d i : Nat, i + d = l.length → ∀ xs : List S71, xs.length = l.length → xs.take i = (l.take i).map conv →
    Ev (fun k => laws_toEntryS.l0 k l xs (i : Int)) (l.map conv) := by
  intro d
  induction d with
  | zero =>
    intro i hi xs hx ht
    have e : xs = l.map conv := by rw [List.take_of_length_le (by omega), List.take_of_length_le (by omega)] at ht; exact ht
    refine Ev.step (f := fun _ => some xs) (fun k => ?_) (e ▸ Ev.now _)
    rw [laws_toEntryS.l0, if_neg (by omega)]
  | succ d ih =>
    intro i hi xs hx ht
    have hlt : i < l.length := by omega
    refine Ev.step (fun k => ?_) (ih (i + 1) (by omega) (xs.set i (conv l[i])) (by rw [List.length_set]; exact hx) ?_)
    · rw [laws_toEntryS.l0, if_pos (by omega), if_pos (by omega), rd68 l i hlt]
      show (if _ then _ else _) = _
      rw [if_pos (by omega), wrap_succ (by omega), Int.toNat_natCast]
      rfl
    · rw [take_at _ i (by rw [List.length_set]; omega), List.take_set_of_le (Nat.le_refl i), ht, List.getElem_set_self, take_at l i hlt, List.map_append]
      rfl
theorem toEntryS_eq (l : List S68) (hl : l.length ≤ 1048576) : Ev (fun k => laws_toEntryS.f k l) (l.map conv) := by
  refine Ev.congr (fun k => ?_) (toEntryS_loop l hl l.length 0 (by omega) (List.replicate l.length z71) (by simp) (by simp))
  unfold laws_toEntryS.f
  rw [if_pos (by omega), Int.toNat_natCast, if_pos (by omega)]
  rfl
theorem eqEntry_self (x : S71) : laws_eqEntry.f x.f0 x.f1 x.f2 x.f3 x.f0 x.f1 x.f2 x.f3 = some true := by
  unfold laws_eqEntry.f
  rw [if_pos rfl, if_pos rfl, if_pos rfl, if_pos rfl]
theorem eqEntryS_loop (l : List S71) (hl : l.length ≤ 1048576) : ∀ d i : Nat, i + d = l.length → Ev (fun k => laws_eqEntryS.l0 k l l (i : Int)) true := by
  intro d
  induction d with
  | zero =>
    intro i hi
    refine Ev.step (f := fun _ => some true) (fun k => ?_) (Ev.now _)
    rw [laws_eqEntryS.l0, if_neg (by omega)]
  | succ d ih =>
    intro i hi
    have hlt : i < l.length := by omega
    refine Ev.step (fun k => ?_) (ih (i + 1) (by omega))
    rw [laws_eqEntryS.l0, if_pos (by omega), if_pos (by omega), if_pos (by omega), rd71' l i hlt, eqEntry_self]
    simp only [Option.bind_some]
    rw [if_pos trivial, wrap_succ (by omega)]
theorem eqEntryS_self (l : List S71) (hl : l.length ≤ 1048576) : Ev (fun k => laws_eqEntryS.f k l l) true := by
  refine Ev.congr (fun k => ?_) (eqEntryS_loop l hl l.length 0 (by omega))
  unfold laws_eqEntryS.f
  rw [if_pos rfl]
  rfl
end Go.Proofs.Ytjneloehdcecnaa.M
end
section
/- The laws' rows of table references, of numbers, and edits: weighed, copied, compared. Condition: at most 2 to the 20 of them. -/
namespace Go.Proofs.Ytjneloehdcecnaa.M
open Go.RowKit Go.Proofs.Ytjneloehdcecnaa.P Go.Proofs.YtjneloehdcecnaaW.PrintWords Go.Proofs.YtjneloehdcecnaaW.PrintLast
set_option linter.unusedVariables false
def convR (x : S113) : S87 := ⟨x.f0, x.f1, x.f2, x.f3⟩
theorem rd113 (l : List S113) (i : Nat) (h : i < l.length) : rd_T113 l (i : Int) = l[i] := by
  unfold rd_T113
  rw [Int.toNat_natCast, getD_at l i _ h]
theorem szTableRef_eq (x : S113) (a : Int) (ha : 0 ≤ a) (ha2 : a ≤ 1048576) (h0 : x.f2.size ≤ 140737488351232) (h1 : x.f3.size ≤ 140737488351232) :
    laws_szTableRef.f x.f0 x.f1 x.f2 x.f3 a = some (if (x.f2.size + x.f3.size : Int) ≤ a then a - (x.f2.size + x.f3.size : Int) else -1) := by
  unfold laws_szTableRef.f
  rw [wrap_ok (x := a - (x.f2.size : Int)) (by omega) (by omega), wrap_ok (x := a - (x.f2.size : Int) - (x.f3.size : Int)) (by omega) (by omega)]
  by_cases c1 : a - (x.f2.size : Int) < 0
  · rw [if_pos c1, if_neg (by omega)]
  · rw [if_neg c1]
    by_cases c2 : a - (x.f2.size : Int) - (x.f3.size : Int) < 0
    · rw [if_pos c2, if_neg (by omega)]
    · rw [if_neg c2, if_pos (by omega), show a - (x.f2.size : Int) - (x.f3.size : Int) = a - ((x.f2.size : Int) + (x.f3.size : Int)) by omega]
def texts113 (l : List S113) : Nat := (l.map fun x => x.f2.size + x.f3.size).sum
def weight113 (l : List S113) : Nat := texts113 l + l.length
theorem texts113_drop (l : List S113) (i : Nat) (h : i < l.length) : texts113 (l.drop i) = (l[i].f2.size + l[i].f3.size) + texts113 (l.drop (i + 1)) := by
  rw [drop_at l i h]
  rfl
theorem szTableRefS_loop (l : List S113) (ok : Ok113s l) (hl : l.length ≤ 1048576) : ∀ d i : Nat, i + d = l.length → ∀ a : Int, 0 ≤ a → a ≤ 1048576 →
    Ev (fun k => laws_szTableRefS.l0 k l a (i : Int)) (if (texts113 (l.drop i) : Int) ≤ a then a - texts113 (l.drop i) else -1) := by
  intro d
  induction d with
  | zero =>
    intro i hi a ha ha2
    rw [List.drop_eq_nil_of_le (by omega)]
    refine Ev.step (f := fun _ => some a) (fun k => ?_) ?_
    · rw [laws_szTableRefS.l0, if_neg (by omega)]
    · have : (if ((texts113 [] : Nat) : Int) ≤ a then a - ((texts113 [] : Nat) : Int) else -1) = a := by simp [texts113]; omega
      rw [this]; exact Ev.now a
  | succ d ih =>
    intro i hi a ha ha2
    have hlt : i < l.length := by omega
    have hk := ok.2 l[i] (List.getElem_mem hlt)
    rw [texts113_drop l i hlt]
    have hs := szTableRef_eq l[i] a ha ha2 hk.1 hk.2
    by_cases c : (l[i].f2.size + l[i].f3.size : Int) ≤ a
    · rw [if_pos c] at hs
      have hi' := ih (i + 1) (by omega) (a - (l[i].f2.size + l[i].f3.size : Int)) (by omega) (by omega)
      refine Ev.step (f := fun k => laws_szTableRefS.l0 k l (a - (l[i].f2.size + l[i].f3.size : Int)) ((i + 1 : Nat) : Int)) (fun k => ?_) ?_
      · rw [laws_szTableRefS.l0, if_pos (by omega), if_pos (by omega), rd113 l i hlt, hs]
        simp only [Option.bind_some]
        rw [if_neg (by omega), wrap_succ (by omega)]
      · generalize texts113 (l.drop (i + 1)) = n at hi' ⊢
        have e : (if (n : Int) ≤ a - (l[i].f2.size + l[i].f3.size : Int) then a - (l[i].f2.size + l[i].f3.size : Int) - (n : Int) else -1) = (if ((l[i].f2.size + l[i].f3.size + n : Nat) : Int) ≤ a then a - ((l[i].f2.size + l[i].f3.size + n : Nat) : Int) else -1) := by
          by_cases c3 : (n : Int) ≤ a - (l[i].f2.size + l[i].f3.size : Int)
          · rw [if_pos c3, if_pos (by omega)]; omega
          · rw [if_neg c3, if_neg (by omega)]
        rw [← e]; exact hi'
    · rw [if_neg c] at hs
      rw [if_neg (by omega)]
      refine Ev.step (f := fun _ => some (-1)) (fun k => ?_) (Ev.now _)
      rw [laws_szTableRefS.l0, if_pos (by omega), if_pos (by omega), rd113 l i hlt, hs]
      simp only [Option.bind_some]
      rw [if_pos (by omega)]
/-- What is left of a bound, or -1. -/
theorem szTableRefS_eq (l : List S113) (a : Int) (ha : 0 ≤ a) (ha2 : a ≤ 1048576) (ok : Ok113s l) : Ev (fun k => laws_szTableRefS.f k l a) (if (weight113 l : Int) ≤ a then (a - weight113 l : Int) else -1) := by
  have h40 := ok.1
  have hw : weight113 l = texts113 l + l.length := rfl
  by_cases hl : (l.length : Int) ≤ a
  · have h := szTableRefS_loop l ok (by omega) l.length 0 (by omega) (a - (l.length : Int)) (by omega) (by omega)
    rw [List.drop_zero] at h
    have e : (if (texts113 l : Int) ≤ a - (l.length : Int) then a - (l.length : Int) - texts113 l else -1) = (if (weight113 l : Int) ≤ a then (a - weight113 l : Int) else -1) := by
      by_cases c : (texts113 l : Int) ≤ a - (l.length : Int)
      · rw [if_pos c, if_pos (by omega)]; omega
      · rw [if_neg c, if_neg (by omega)]
    rw [← e]
    refine Ev.congr (fun k => ?_) h
    show (if _ then _ else _) = _
    rw [wrap_ok (x := a - (l.length : Int)) (by omega) (by omega), if_neg (by omega)]
    rfl
  · rw [if_neg (by omega)]
    refine Ev.pure (fun k => ?_)
    show (if _ then _ else _) = _
    rw [wrap_ok (x := a - (l.length : Int)) (by omega) (by omega), if_pos (by omega)]
theorem toTableRefS_loop (l : List S113) (hl : l.length ≤ 1048576) : ∀ d i : Nat, i + d = l.length → ∀ xs : List S87, xs.length = l.length → xs.take i = (l.take i).map convR →
    Ev (fun k => laws_toTableRefS.l0 k l xs (i : Int)) (l.map convR) := by
  intro d
  induction d with
  | zero =>
    intro i hi xs hx ht
    have e : xs = l.map convR := by rw [List.take_of_length_le (by omega), List.take_of_length_le (by omega)] at ht; exact ht
    refine Ev.step (f := fun _ => some xs) (fun k => ?_) (e ▸ Ev.now _)
    rw [laws_toTableRefS.l0, if_neg (by omega)]
  | succ d ih =>
    intro i hi xs hx ht
    have hlt : i < l.length := by omega
    refine Ev.step (fun k => ?_) (ih (i + 1) (by omega) (xs.set i (convR l[i])) (by rw [List.length_set]; exact hx) ?_)
    · rw [laws_toTableRefS.l0, if_pos (by omega), if_pos (by omega), rd113 l i hlt]
      show (if _ then _ else _) = _
      rw [if_pos (by omega), wrap_succ (by omega), Int.toNat_natCast]
      rfl
    · rw [take_at _ i (by rw [List.length_set]; omega), List.take_set_of_le (Nat.le_refl i), ht, List.getElem_set_self, take_at l i hlt, List.map_append]
      rfl
theorem toTableRefS_eq (l : List S113) (hl : l.length ≤ 1048576) : Ev (fun k => laws_toTableRefS.f k l) (l.map convR) := by
  refine Ev.congr (fun k => ?_) (toTableRefS_loop l hl l.length 0 (by omega) (List.replicate l.length z87) (by simp) (by simp))
  unfold laws_toTableRefS.f
  rw [if_pos (by omega), Int.toNat_natCast, if_pos (by omega)]
  rfl
theorem eqTableRef_self (x : S87) : laws_eqTableRef.f x.f0 x.f1 x.f2 x.f3 x.f0 x.f1 x.f2 x.f3 = some true := by
  unfold laws_eqTableRef.f
  rw [if_pos rfl, if_pos rfl, if_pos rfl, if_pos rfl]
theorem eqTableRefS_loop (l : List S87) (hl : l.length ≤ 1048576) : ∀ d i : Nat, i + d = l.length → Ev (fun k => laws_eqTableRefS.l0 k l l (i : Int)) true := by
  intro d
  induction d with
  | zero =>
    intro i hi
    refine Ev.step (f := fun _ => some true) (fun k => ?_) (Ev.now _)
    rw [laws_eqTableRefS.l0, if_neg (by omega)]
  | succ d ih =>
    intro i hi
    have hlt : i < l.length := by omega
    refine Ev.step (fun k => ?_) (ih (i + 1) (by omega))
    rw [laws_eqTableRefS.l0, if_pos (by omega), if_pos (by omega), if_pos (by omega), rd87 l i hlt, eqTableRef_self]
    simp only [Option.bind_some]
    rw [if_pos trivial, wrap_succ (by omega)]
theorem eqTableRefS_self (l : List S87) (hl : l.length ≤ 1048576) : Ev (fun k => laws_eqTableRefS.f k l l) true := by
  refine Ev.congr (fun k => ?_) (eqTableRefS_loop l hl l.length 0 (by omega))
  unfold laws_eqTableRefS.f
  rw [if_pos rfl]
  rfl
theorem toIntS_loop (l : List Int) (hl : l.length ≤ 1048576) : ∀ d i : Nat, i + d = l.length → ∀ xs : List Int, xs.length = l.length → xs.take i = l.take i →
    Ev (fun k => laws_toIntS.l0 k l xs (i : Int)) l := by
  intro d
  induction d with
  | zero =>
    intro i hi xs hx ht
    have e : xs = l := by rw [List.take_of_length_le (by omega), List.take_of_length_le (by omega)] at ht; exact ht
    refine Ev.step (f := fun _ => some xs) (fun k => ?_) (e ▸ Ev.now _)
    rw [laws_toIntS.l0, if_neg (by omega)]
  | succ d ih =>
    intro i hi xs hx ht
    have hlt : i < l.length := by omega
    refine Ev.step (fun k => ?_) (ih (i + 1) (by omega) (xs.set i l[i]) (by rw [List.length_set]; exact hx) ?_)
    · rw [laws_toIntS.l0, if_pos (by omega), if_pos (by omega), if_pos (by omega), rdI l i hlt, wrap_succ (by omega), Int.toNat_natCast]
    · rw [take_at _ i (by rw [List.length_set]; omega), List.take_set_of_le (Nat.le_refl i), ht, List.getElem_set_self, take_at l i hlt]
theorem toIntS_eq (l : List Int) (hl : l.length ≤ 1048576) : Ev (fun k => laws_toIntS.f k l) l := by
  refine Ev.congr (fun k => ?_) (toIntS_loop l hl l.length 0 (by omega) (List.replicate l.length 0) (by simp) (by simp))
  unfold laws_toIntS.f
  rw [if_pos (by omega), Int.toNat_natCast, if_pos (by omega)]
  rfl
theorem eqIntS_loop (l : List Int) (hl : l.length ≤ 1048576) : ∀ d i : Nat, i + d = l.length → Ev (fun k => laws_eqIntS.l0 k l l (i : Int)) true := by
  intro d
  induction d with
  | zero =>
    intro i hi
    refine Ev.step (f := fun _ => some true) (fun k => ?_) (Ev.now _)
    rw [laws_eqIntS.l0, if_neg (by omega)]
  | succ d ih =>
    intro i hi
    have hlt : i < l.length := by omega
    refine Ev.step (fun k => ?_) (ih (i + 1) (by omega))
    rw [laws_eqIntS.l0, if_pos (by omega), if_pos (by omega), if_pos (by omega), if_pos rfl, wrap_succ (by omega)]
theorem eqIntS_self (l : List Int) (hl : l.length ≤ 1048576) : Ev (fun k => laws_eqIntS.f k l l) true := by
  refine Ev.congr (fun k => ?_) (eqIntS_loop l hl l.length 0 (by omega))
  unfold laws_eqIntS.f
  rw [if_pos rfl]
  rfl

theorem szIntS_eq (l : List Int) (a : Int) (ha : 0 ≤ a) (ha2 : a ≤ 1048576) (hl : l.length * 8 ≤ 140737488351232) : laws_szIntS.f l a = some (if (l.length : Int) ≤ a then a - (l.length : Int) else -1) := by
  unfold laws_szIntS.f
  rw [wrap_ok (x := a - (l.length : Int)) (by omega) (by omega)]
  by_cases c : (l.length : Int) ≤ a
  · rw [if_neg (by omega), if_pos c]
  · rw [if_pos (by omega), if_neg c]
def weightE (adds : List S113) (dels : List Int) : Nat := weight113 adds + dels.length
theorem szEdit_eq (adds : List S113) (dels : List Int) (log next last : Int) (a : Int) (ha : 0 ≤ a) (ha2 : a ≤ 1048576) (ok : Ok113s adds) (okd : dels.length * 8 ≤ 140737488351232) :
    Ev (fun k => laws_szEdit.f k adds dels log next last a) (if (weightE adds dels : Int) ≤ a then a - (weightE adds dels : Int) else -1) := by
  refine Ev.bind (szTableRefS_eq adds a ha ha2 ok) ?_
  have hw : weightE adds dels = weight113 adds + dels.length := rfl
  by_cases c : (weight113 adds : Int) ≤ a
  · rw [if_pos c]
    refine Ev.congr (fun k => if_neg (by omega)) ?_
    rw [szIntS_eq dels _ (by omega) (by omega) okd]
    by_cases d : (dels.length : Int) ≤ a - (weight113 adds : Int)
    · rw [if_pos d, if_pos (by omega)]
      refine Ev.pure (fun k => ?_)
      show (if _ then _ else _) = _
      rw [if_neg (by omega)]
      congr 1
      omega
    · rw [if_neg d, if_neg (by omega)]
      exact Ev.pure (fun k => rfl)
  · have e : (if (weightE adds dels : Int) ≤ a then a - (weightE adds dels : Int) else -1) = -1 := if_neg (by omega)
    rw [if_neg c, e]
    exact Ev.pure (fun k => if_pos (by omega))
theorem toEdit_eq (adds : List S113) (dels : List Int) (log next last : Int) (ha : adds.length ≤ 1048576) (hd : dels.length ≤ 1048576) : Ev (fun k => laws_toEdit.f k adds dels log next last) (adds.map convR, dels, log, next, last) :=
  Ev.bind (toTableRefS_eq adds ha) (Ev.bind (toIntS_eq dels hd) (Ev.now _))
theorem eqEdit_self (adds : List S87) (dels : List Int) (log next last : Int) (ha : adds.length ≤ 1048576) (hd : dels.length ≤ 1048576) : Ev (fun k => laws_eqEdit.f k adds dels log next last adds dels log next last) true := by
  refine Ev.bind (eqTableRefS_self adds ha) (Ev.congr (fun k => if_pos rfl) (Ev.bind (eqIntS_self dels hd) (Ev.congr (fun k => if_pos rfl) (Ev.pure (fun k => ?_)))))
  rw [if_pos rfl, if_pos rfl, if_pos rfl]
end Go.Proofs.Ytjneloehdcecnaa.M
end
section
/- The specification's EncodeEdit answers what the program's does. No condition. -/
namespace Go.Proofs.Ytjneloehdcecnaa.M
open Go.RowKit Go.Proofs.Ytjneloehdcecnaa.P Go.Proofs.YtjneloehdcecnaaW.PrintWords Go.Proofs.YtjneloehdcecnaaW.PrintLast
set_option linter.unusedVariables false
/-! ### the order of texts -/
theorem less_loop (a b : ByteArray) (ha : a.size ≤ 9223372036854775000) : ∀ d i : Nat, i + d = a.size → i ≤ b.size → Ev (fun k => spec_l1Less.l0 k a b (i : Int)) (Op.bytesLess (a.toList.drop i) (b.toList.drop i)) := by
  have la := toList_size a
  have lb := toList_size b
  intro d
  induction d with
  | zero =>
    intro i hi hb
    refine Ev.step (f := fun k => spec_l1Less.j1 k a b (i : Int) false) (fun k => ?_) (Ev.step (f := fun _ => some (decide ((a.size : Int) < (b.size : Int)))) (fun k => ?_) ?_)
    · rw [spec_l1Less.l0, if_neg (by omega)]
    · rw [spec_l1Less.j1, if_neg (by simp)]
    · rw [List.drop_eq_nil_of_le (by omega)]
      by_cases c : i < b.size
      · rw [drop_at b.toList i (by omega), decide_eq_true (by omega)]; exact Ev.now _
      · rw [List.drop_eq_nil_of_le (show b.toList.length ≤ i by omega), decide_eq_false (by omega)]; exact Ev.now _
  | succ d ih =>
    intro i hi hb
    by_cases c : i < b.size
    · have ga := bt_toList a i (by omega)
      have gb := bt_toList b i (by omega)
      rw [drop_at a.toList i (by omega), drop_at b.toList i (by omega)]
      have e0 : ∀ k, spec_l1Less.l0 (k + 1) a b (i : Int) = spec_l1Less.j1 k a b (i : Int) true := fun k => by rw [spec_l1Less.l0, if_pos (by omega), decide_eq_true (by omega)]
      have er : ∀ (p q : UInt8) (X Y : List UInt8), Op.bytesLess (p :: X) (q :: Y) = (decide (p < q) || (p == q && Op.bytesLess X Y)) := fun _ _ _ _ => rfl
      rw [er]
      generalize a.toList[i] = p at ga
      generalize b.toList[i] = q at gb
      by_cases ce : p = q
      · subst ce
        refine Ev.step e0 (Ev.step (f := fun k => spec_l1Less.l0 k a b ((i + 1 : Nat) : Int)) (fun k => ?_) ?_)
        · rw [spec_l1Less.j1, if_pos rfl, if_pos (by omega), if_pos (by omega), if_pos (by omega), if_pos (by rw [ga, gb]), wrap_succ (by omega)]
        · have := ih (i + 1) (by omega) (by omega)
          have e : (decide (p < p) || (p == p && Op.bytesLess (a.toList.drop (i + 1)) (b.toList.drop (i + 1)))) = Op.bytesLess (a.toList.drop (i + 1)) (b.toList.drop (i + 1)) := by simp
          rw [e]; exact this
      · refine Ev.step e0 (Ev.step (f := fun _ => some (decide ((p.toNat : Int) < (q.toNat : Int)))) (fun k => ?_) ?_)
        · have hn : ¬ ((p.toNat : Int) = (q.toNat : Int)) := fun h => ce (UInt8.toNat_inj.1 (by omega))
          rw [spec_l1Less.j1, if_pos rfl, if_pos (by omega), if_pos (by omega), if_pos (by omega), ga, gb, if_neg hn]
        · have e : (decide (p < q) || (p == q && Op.bytesLess (a.toList.drop (i + 1)) (b.toList.drop (i + 1)))) = decide ((p.toNat : Int) < (q.toNat : Int)) := by
            rw [beq_eq_false_iff_ne.2 ce, Bool.false_and, Bool.or_false]
            by_cases c3 : p < q
            · rw [decide_eq_true c3, decide_eq_true (by have := UInt8.lt_iff_toNat_lt.1 c3; omega)]
            · rw [decide_eq_false c3, decide_eq_false (fun h => c3 (UInt8.lt_iff_toNat_lt.2 (by omega)))]
          rw [e]; exact Ev.now _
    · have hib : i = b.size := by omega
      refine Ev.step (f := fun k => spec_l1Less.j1 k a b (i : Int) false) (fun k => ?_) (Ev.step (f := fun _ => some (decide ((a.size : Int) < (b.size : Int)))) (fun k => ?_) ?_)
      · rw [spec_l1Less.l0, if_pos (by omega), decide_eq_false (by omega)]
      · rw [spec_l1Less.j1, if_neg (by simp)]
      · rw [List.drop_eq_nil_of_le (show b.toList.length ≤ i by omega), decide_eq_false (by omega)]
        have : Op.bytesLess (a.toList.drop i) [] = false := by cases a.toList.drop i <;> rfl
        rw [this]; exact Ev.now _
theorem less_eq (a b : ByteArray) (ha : a.size ≤ 9223372036854775000) : Ev (fun k => spec_l1Less.f k a b) (lss a b) := by
  have := less_loop a b ha a.size 0 (by omega) (by omega)
  rw [List.drop_zero, List.drop_zero] at this
  exact Ev.congr (fun _ => rfl) this
/-! ### is an edit good -/
theorem snum_eq (n : Int) : spec_l4NumOk.f n = some (numOk n) := by
  unfold spec_l4NumOk.f numOk
  by_cases h : n ≥ 1
  · rw [if_pos h, decide_eq_true (show 1 ≤ n by omega)]; rfl
  · rw [if_neg h, decide_eq_false (show ¬ 1 ≤ n by omega)]; rfl
theorem sref_end (t : S87) : Ev (fun k => spec_l4RefOk.j0 k true t.f0 t.f1 t.f2 t.f3) false :=
  Ev.step (f := fun _ => some false) (fun k => by rw [spec_l4RefOk.j0, if_pos rfl]) (Ev.now _)
theorem sref_eq (t : S87) : Ev (fun k => spec_l4RefOk.f k t.f0 t.f1 t.f2 t.f3) (refOk t) := by
  unfold refOk
  refine Ev.bind (Ev.pure (fun k => snum_eq t.f0)) ?_
  by_cases h0 : numOk t.f0 = true
  rotate_left
  · rw [Bool.eq_false_iff.2 h0]
    refine Ev.congr (fun k => if_neg (by simp)) ?_
    simpa using sref_end t
  rw [h0, Bool.true_and]
  refine Ev.congr (fun k => if_pos rfl) ?_
  by_cases h1 : t.f1 < 0
  · rw [decide_eq_false (show ¬ 0 ≤ t.f1 by omega)]
    refine Ev.congr (fun k => if_pos h1) ?_
    simpa using sref_end t
  rw [decide_eq_true (show 0 ≤ t.f1 by omega), Bool.true_and]
  refine Ev.congr (fun k => if_neg h1) ?_
  by_cases h2 : t.f1 > 3
  · rw [decide_eq_false (show ¬ t.f1 ≤ 3 by omega), decide_eq_true h2]
    simpa using sref_end t
  rw [decide_eq_true (show t.f1 ≤ 3 by omega), decide_eq_false h2, Bool.true_and]
  refine Ev.step (f := fun k => if (t.f2.size : Int) < 1 then (some false) else (if (t.f2.size : Int) > 1000 then (some false) else (if (t.f3.size : Int) < 1 then (some false) else (if (t.f3.size : Int) > 1000 then (some false) else ((spec_l1Less.f k t.f3 t.f2).bind fun t185 => (some (!t185))))))) (fun k => by rw [spec_l4RefOk.j0, if_neg (by simp)]) ?_
  by_cases h3 : (t.f2.size : Int) < 1
  · rw [decide_eq_false (show ¬ 1 ≤ t.f2.size by omega)]
    exact Ev.congr (fun k => if_pos h3) (by simpa using Ev.now false)
  rw [decide_eq_true (show 1 ≤ t.f2.size by omega), Bool.true_and]
  refine Ev.congr (fun k => if_neg h3) ?_
  by_cases h4 : (t.f2.size : Int) > 1000
  · rw [decide_eq_false (show ¬ t.f2.size ≤ 1000 by omega)]
    exact Ev.congr (fun k => if_pos h4) (by simpa using Ev.now false)
  rw [decide_eq_true (show t.f2.size ≤ 1000 by omega), Bool.true_and]
  refine Ev.congr (fun k => if_neg h4) ?_
  by_cases h5 : (t.f3.size : Int) < 1
  · rw [decide_eq_false (show ¬ 1 ≤ t.f3.size by omega)]
    exact Ev.congr (fun k => if_pos h5) (by simpa using Ev.now false)
  rw [decide_eq_true (show 1 ≤ t.f3.size by omega), Bool.true_and]
  refine Ev.congr (fun k => if_neg h5) ?_
  by_cases h6 : (t.f3.size : Int) > 1000
  · rw [decide_eq_false (show ¬ t.f3.size ≤ 1000 by omega)]
    exact Ev.congr (fun k => if_pos h6) (by simpa using Ev.now false)
  rw [decide_eq_true (show t.f3.size ≤ 1000 by omega), Bool.true_and]
  exact Ev.congr (fun k => if_neg h6) (Ev.bind (less_eq t.f3 t.f2 (by omega)) (Ev.now _))
section
variable (adds : List S87) (dels : List Int) (log next last : Int)
theorem sedit_end : Ev (fun k => spec_l4EditOk.j0 k true adds dels log next last) false :=
  Ev.step (f := fun _ => some false) (fun k => by rw [spec_l4EditOk.j0, if_pos rfl]) (Ev.now _)
theorem sedit_l1 (ha : adds.length ≤ 1000) (hd : dels.length ≤ 1000) : ∀ d i : Nat, i + d = dels.length → Ev (fun k => spec_l4EditOk.l1 k (i : Int) adds dels log next last) ((dels.drop i).all numOk && (decide (0 ≤ last) && decide (last ≤ 72057594037927935))) := by
  intro d
  induction d with
  | zero =>
    intro i hi
    rw [List.drop_eq_nil_of_le (by omega), List.all_nil, Bool.true_and]
    refine Ev.step (f := fun _ => if last ≥ 0 then (some (decide (last ≤ 72057594037927935))) else (some false)) (fun k => ?_) ?_
    · rw [spec_l4EditOk.l1, if_neg (by omega)]
    · by_cases c : last ≥ 0
      · rw [decide_eq_true (show 0 ≤ last by omega), Bool.true_and]
        exact Ev.pure (fun k => if_pos c)
      · rw [decide_eq_false (show ¬ 0 ≤ last by omega), Bool.false_and]
        exact Ev.pure (fun k => if_neg c)
  | succ d ih =>
    intro i hi
    have hlt : i < dels.length := by omega
    rw [drop_at dels i hlt, List.all_cons]
    by_cases h : numOk dels[i] = true
    · rw [h, Bool.true_and]
      refine Ev.step (fun k => ?_) (ih (i + 1) (by omega))
      rw [spec_l4EditOk.l1, if_pos (by omega), if_pos (by omega), rdI dels i hlt, snum_eq, Option.bind_some, if_pos h, wrap_succ (by omega)]
    · rw [Bool.eq_false_iff.2 h, Bool.false_and, Bool.false_and]
      refine Ev.step (f := fun _ => some false) (fun k => ?_) (Ev.now _)
      rw [spec_l4EditOk.l1, if_pos (by omega), if_pos (by omega), rdI dels i hlt, snum_eq, Option.bind_some, if_neg h]
theorem sedit_l0 (ha : adds.length ≤ 1000) (hd : dels.length ≤ 1000) : ∀ d i : Nat, i + d = adds.length → Ev (fun k => spec_l4EditOk.l0 k (i : Int) adds dels log next last) ((adds.drop i).all refOk && (dels.all numOk && (decide (0 ≤ last) && decide (last ≤ 72057594037927935)))) := by
  intro d
  induction d with
  | zero =>
    intro i hi
    rw [List.drop_eq_nil_of_le (by omega), List.all_nil, Bool.true_and]
    have h := sedit_l1 adds dels log next last ha hd dels.length 0 (by omega)
    rw [List.drop_zero] at h
    refine Ev.step (fun k => ?_) h
    rw [spec_l4EditOk.l0, if_neg (by omega)]
    rfl
  | succ d ih =>
    intro i hi
    have hlt : i < adds.length := by omega
    rw [drop_at adds i hlt, List.all_cons]
    refine Ev.step (f := fun k => (spec_l4RefOk.f k adds[i].f0 adds[i].f1 adds[i].f2 adds[i].f3).bind fun t190 => (if t190 = true then (spec_l4EditOk.l0 k ((i + 1 : Nat) : Int) adds dels log next last) else (some false))) (fun k => ?_) (Ev.bind (sref_eq adds[i]) ?_)
    · rw [spec_l4EditOk.l0, if_pos (by omega), if_pos (by omega), rd87 adds i hlt, wrap_succ (by omega)]
    · by_cases h : refOk adds[i] = true
      · rw [h, Bool.true_and]
        exact Ev.congr (fun k => if_pos rfl) (ih (i + 1) (by omega))
      · rw [Bool.eq_false_iff.2 h, Bool.false_and, Bool.false_and]
        exact Ev.pure (fun k => if_neg (by simp))
theorem sedit_eq : Ev (fun k => spec_l4EditOk.f k adds dels log next last) (editOk adds dels log next last) := by
  unfold editOk
  by_cases h0 : (adds.length : Int) > 1000
  · rw [decide_eq_false (show ¬ adds.length ≤ 1000 by omega)]
    refine Ev.congr (fun k => if_pos h0) ?_
    simpa using sedit_end adds dels log next last
  rw [decide_eq_true (show adds.length ≤ 1000 by omega), Bool.true_and]
  refine Ev.congr (fun k => if_neg h0) ?_
  by_cases h1 : (dels.length : Int) > 1000
  · rw [decide_eq_false (show ¬ dels.length ≤ 1000 by omega)]
    refine Ev.congr (fun k => if_pos h1) ?_
    simpa using sedit_end adds dels log next last
  rw [decide_eq_true (show dels.length ≤ 1000 by omega), Bool.true_and]
  refine Ev.congr (fun k => if_neg h1) ?_
  simp only [snum_eq, Option.bind_some]
  by_cases h2 : numOk log = true
  rotate_left
  · rw [Bool.eq_false_iff.2 h2]
    refine Ev.congr (fun k => if_neg (by simp)) ?_
    simpa using sedit_end adds dels log next last
  rw [h2, Bool.true_and]
  refine Ev.congr (fun k => if_pos rfl) ?_
  by_cases h3 : numOk next = true
  rotate_left
  · rw [Bool.eq_false_iff.2 h3]
    simpa using sedit_end adds dels log next last
  rw [h3, Bool.true_and]
  have h := sedit_l0 adds dels log next last (by omega) (by omega) adds.length 0 (by omega)
  rw [List.drop_zero] at h
  have e : (decide (0 ≤ last) && decide (last ≤ 72057594037927935) && adds.all refOk && dels.all numOk) = (adds.all refOk && (dels.all numOk && (decide (0 ≤ last) && decide (last ≤ 72057594037927935)))) := by
    cases decide (0 ≤ last) <;> cases decide (last ≤ 72057594037927935) <;> cases adds.all refOk <;> cases dels.all numOk <;> rfl
  rw [e]
  refine Ev.step (fun k => ?_) h
  rw [spec_l4EditOk.j0, if_neg (by simp)]
  rfl
/-! ### what is written -/
theorem keyed_ev (s : ByteArray) (hs : s.size ≤ 1048576) : Ev (fun k => spec_l3Keyed.f k s) (szd s) := by
  refine Ev.bind (spec_put (s.size : Int)) (Ev.pure (fun k => ?_))
  have := put_size (s.size : Int)
  exact if_pos (by omega)
theorem sE_l1 (hd : dels.length ≤ 1000) (P : ByteArray) (hP : P.size ≤ 2100000) : ∀ d i : Nat, i + d = dels.length → Ev (fun k => spec_EncodeEdit.l1 k (P ++ numsL (dels.take i)) (i : Int) adds dels log next last) (P ++ numsL dels ++ (put log ++ put next ++ put last)) := by
  intro d
  induction d with
  | zero =>
    intro i hi
    have e0 := numsL_size dels
    have p0 := put_size log
    have p1 := put_size next
    have p2 := put_size last
    rw [List.take_of_length_le (by omega)]
    have ep : P ++ numsL dels ++ (put log ++ put next ++ put last) = P ++ numsL dels ++ put log ++ put next ++ put last := by simp only [ByteArray.append_assoc]
    rw [ep]
    refine Ev.step (f := fun k => (spec_PutVarint.f k log).bind fun t206 => (if (P ++ numsL dels).size + t206.size ≤ 9223372036854775807 then ((spec_PutVarint.f k next).bind fun t207 => (if ((P ++ numsL dels) ++ t206).size + t207.size ≤ 9223372036854775807 then ((spec_PutVarint.f k last).bind fun t208 => (if (((P ++ numsL dels) ++ t206) ++ t207).size + t208.size ≤ 9223372036854775807 then (some ((((P ++ numsL dels) ++ t206) ++ t207) ++ t208)) else (none))) else (none))) else (none))) (fun k => ?_) ?_
    · rw [spec_EncodeEdit.l1, if_neg (by omega)]
    · refine Ev.bind (spec_put _) (Ev.congr (fun k => if_pos (by rw [ByteArray.size_append]; omega)) (Ev.bind (spec_put _) (Ev.congr (fun k => if_pos (by rw [ByteArray.size_append, ByteArray.size_append]; omega)) (Ev.bind (spec_put _) (Ev.pure (fun k => if_pos (by rw [ByteArray.size_append, ByteArray.size_append, ByteArray.size_append]; omega)))))))
  | succ d ih =>
    intro i hi
    have hlt : i < dels.length := by omega
    have e0 := numsL_size (dels.take i)
    have e1 : (dels.take i).length = i := by rw [List.length_take]; omega
    have p0 := put_size dels[i]
    have h2 := ih (i + 1) (by omega)
    rw [take_at dels i hlt, numsL_snoc, ← ByteArray.append_assoc] at h2
    refine Ev.step (f := fun k => (spec_PutVarint.f k dels[i]).bind fun t205 => (if (P ++ numsL (dels.take i)).size + t205.size ≤ 9223372036854775807 then (spec_EncodeEdit.l1 k ((P ++ numsL (dels.take i)) ++ t205) ((i + 1 : Nat) : Int) adds dels log next last) else (none))) (fun k => ?_) (Ev.bind (spec_put _) (Ev.congr (fun k => if_pos (by rw [ByteArray.size_append]; omega)) h2))
    rw [spec_EncodeEdit.l1, if_pos (by omega), if_pos (by omega), rdI dels i hlt, wrap_succ (by omega)]
theorem sE_l0 (ha : adds.length ≤ 1000) (hd : dels.length ≤ 1000) (hr : adds.all refOk = true) : ∀ d i : Nat, i + d = adds.length → Ev (fun k => spec_EncodeEdit.l0 k (ed0 adds ++ refsL (adds.take i)) (i : Int) adds dels log next last) (edAll adds dels log next last) := by
  intro d
  induction d with
  | zero =>
    intro i hi
    have e0 := refsL_size adds hr
    have p0 := put_size (dels.length : Int)
    have p1 := put_size (adds.length : Int)
    rw [List.take_of_length_le (by omega)]
    have h := sE_l1 adds dels log next last hd (ed1 adds dels) (by unfold ed1 ed0; rw [ByteArray.size_append, ByteArray.size_append]; omega) dels.length 0 (by omega)
    have e2 : ed1 adds dels ++ numsL (dels.take 0) = ed0 adds ++ refsL adds ++ put (dels.length : Int) := by
      show ed1 adds dels ++ (⟨#[]⟩ : ByteArray) = _
      rw [ba_append_empty]
      rfl
    rw [e2] at h
    refine Ev.step (f := fun k => (spec_PutVarint.f k (dels.length : Int)).bind fun t203 => (if (ed0 adds ++ refsL adds).size + t203.size ≤ 9223372036854775807 then (spec_EncodeEdit.l1 k ((ed0 adds ++ refsL adds) ++ t203) 0 adds dels log next last) else (none))) (fun k => ?_) (Ev.bind (spec_put _) (Ev.congr (fun k => if_pos (by unfold ed0; rw [ByteArray.size_append]; omega)) h))
    rw [spec_EncodeEdit.l0, if_neg (by omega)]
  | succ d ih =>
    intro i hi
    have hlt : i < adds.length := by omega
    have e0 := refsL_size (adds.take i) (all_take hr i)
    have e1 : (adds.take i).length = i := by rw [List.length_take]; omega
    have hok : refOk adds[i] = true := List.all_eq_true.1 hr _ (List.getElem_mem hlt)
    obtain ⟨k2, k3⟩ := refOk_sizes hok
    have p := put_size (adds.length : Int)
    have p0 := put_size adds[i].f0
    have p1 := put_size adds[i].f1
    have p2 := szd_size adds[i].f2
    have p3 := szd_size adds[i].f3
    have h2 := ih (i + 1) (by omega)
    have e2 : ed0 adds ++ refsL (adds.take (i + 1)) = ed0 adds ++ refsL (adds.take i) ++ put adds[i].f0 ++ put adds[i].f1 ++ szd adds[i].f2 ++ szd adds[i].f3 := by
      rw [take_at adds i hlt, refsL_snoc]
      unfold refB
      simp only [ByteArray.append_assoc]
    rw [e2] at h2
    generalize hG : ed0 adds ++ refsL (adds.take i) = G at h2 ⊢
    have hGs : G.size ≤ 2100000 := by rw [← hG]; unfold ed0; rw [ByteArray.size_append]; omega
    refine Ev.step (f := fun k => (spec_PutVarint.f k adds[i].f0).bind fun t199 => (if G.size + t199.size ≤ 9223372036854775807 then ((spec_PutVarint.f k adds[i].f1).bind fun t200 => (if (G ++ t199).size + t200.size ≤ 9223372036854775807 then ((spec_l3Keyed.f k adds[i].f2).bind fun t201 => (if ((G ++ t199) ++ t200).size + t201.size ≤ 9223372036854775807 then ((spec_l3Keyed.f k adds[i].f3).bind fun t202 => (if (((G ++ t199) ++ t200) ++ t201).size + t202.size ≤ 9223372036854775807 then (spec_EncodeEdit.l0 k ((((G ++ t199) ++ t200) ++ t201) ++ t202) ((i + 1 : Nat) : Int) adds dels log next last) else (none))) else (none))) else (none))) else (none))) (fun k => ?_) ?_
    · rw [spec_EncodeEdit.l0, if_pos (by omega), if_pos (by omega), rd87 adds i hlt, wrap_succ (by omega)]
    · refine Ev.bind (spec_put _) (Ev.congr (fun k => if_pos (by omega)) (Ev.bind (spec_put _) (Ev.congr (fun k => if_pos (by rw [ByteArray.size_append]; omega)) (Ev.bind (keyed_ev _ (by omega)) (Ev.congr (fun k => if_pos (by rw [ByteArray.size_append, ByteArray.size_append]; omega)) (Ev.bind (keyed_ev _ (by omega)) (Ev.congr (fun k => if_pos (by rw [ByteArray.size_append, ByteArray.size_append, ByteArray.size_append]; omega)) h2)))))))
theorem specEncEdit_eq : Ev (fun k => spec_EncodeEdit.f k adds dels log next last) (encEd adds dels log next last) := by
  unfold encEd
  refine Ev.bind (sedit_eq adds dels log next last) ?_
  by_cases h : editOk adds dels log next last = true
  · obtain ⟨ha, hd, hra, _⟩ := editOk_parts h
    rw [h, if_pos rfl]
    have hl := sE_l0 adds dels log next last ha hd hra adds.length 0 (by omega)
    have e : ed0 adds ++ refsL (adds.take 0) = put (adds.length : Int) := by
      show put (adds.length : Int) ++ (⟨#[]⟩ : ByteArray) = _
      rw [ba_append_empty]
    rw [e] at hl
    exact Ev.congr (fun k => if_pos rfl) (Ev.bind (spec_put _) hl)
  · rw [Bool.eq_false_iff.2 h, if_neg (by simp)]
    exact Ev.pure (fun k => if_neg (by simp))
end
end Go.Proofs.Ytjneloehdcecnaa.M
end
section
/- The program's EncodeEdit answers as the specification's at every edit and leaves it as it was: no condition beyond the law's own bound of 2 to the 20. -/
namespace Go.Proofs.Ytjneloehdcecnaa.Pure
open Go.RowKit Go.Proofs.Ytjneloehdcecnaa.P Go.Proofs.YtjneloehdcecnaaW.PrintWords Go.Proofs.YtjneloehdcecnaaW.PrintLast Go.Proofs.Ytjneloehdcecnaa.M
set_option linter.unusedVariables false
theorem FnExactEncodeEdit (adds : List S113) (dels : List Int) (log next last : Int) (ok : Ok38 (adds, dels, log, next, last)) : ∃ k, laws_FnExactEncodeEdit.f k adds dels log next last = some true := by
  refine Ev.rounds (r := true) ?_
  refine Ev.bind (szEdit_eq adds dels log next last 1048576 (by omega) (by omega) ok.1 ok.2.1) ?_
  by_cases c : (weightE adds dels : Int) ≤ 1048576
  rotate_left
  · rw [if_neg c]
    exact M.Ev.pure (fun k => if_pos (by omega))
  rw [if_pos c]
  have hl : adds.length ≤ 1048576 := by unfold weightE weight113 at c; omega
  have hd : dels.length ≤ 1048576 := by unfold weightE weight113 at c; omega
  have hto := toEdit_eq adds dels log next last hl hd
  have hl' : (adds.map convR).length ≤ 1048576 := by simpa using hl
  refine Ev.congr (fun k => if_neg (by omega)) (Ev.bind hto (Ev.bind (specEncEdit_eq _ _ _ _ _) (Ev.bind hto (Ev.bind (M.Ev.pure (fun k => rfl)) (Ev.congr (fun k => if_pos rfl) (Ev.bind hto (Ev.bind (eqEdit_self _ _ _ _ _ hl' hd) (M.Ev.pure (fun k => rfl)))))))))
end Go.Proofs.Ytjneloehdcecnaa.Pure
end
section
/- The law FnExactEncodeEdit answers true at every argument that its row lets in. No condition beyond the row's own. -/
namespace Go.Proofs.Ytjneloehdcecnaa.fnExactEncodeEdit
open Go.ChangeShapes Go.WideShapes Go.ChangeAt Go.RowKit Go.Proofs.Ytjneloehdcecnaa.P Go.Proofs.Ytjneloehdcecnaa.M
open Go.ChangeMaps (open_string shut_string)
set_option linter.unusedVariables false
theorem own : ownKnob Try.prog.godebug = none := by kernel_rfl
theorem laidOut : laidOutB Try.prog = true := by kernel_rfl
set_option maxRecDepth 100000 in
theorem lifted (os : Os) (started : os.Started) (H : Type) (enc : TypeId × Value → H) :
    ReturnsInHanded {} Try.checked os 7 .any (Rows.fnExactEncodeEditSpec.pre6 enc Try.prog Try.f7 Rows.fnExactEncodeEditRow.domain false) (Rows.fnExactEncodeEditSpec.post enc Try.prog Try.f7 false true false false) := by
  refine returnsInHanded_of_change_sized (C := Try.checked) own started (by kernel_rfl) Try.func7
    (ChangeSpec.witness6 (enc := enc) (C := Try.checked) false ⟨#[], #[.agg #[.slice none 0 0, .slice none 0 0, .int .i64 0, .int .i64 0, .int .i64 0]], []⟩ 8 (by kernel_rfl) (by kernel_rfl) (by kernel_rfl) (by kernel_rfl)) ?_
  intro W base args ds gs before hval0 hW hcnd hsz0 _
  have hsz : (DataW.weightsEach Try.prog (Try.f7.params.toList ++ Rows.fnExactEncodeEditSpec.plain.varTypes Try.prog) (ds ++ gs)).all (· ≤ reachBytes) = true := hsz0
  have hval : ∀ (j : Nat) t v, Try.f7.params[j]? = some t → args[j]? = some v → Value.okWide Try.prog W .any base t v := hval0
  have hW' := hW
  obtain ⟨p, q, hA0, hV, rfl, hfz, hnd⟩ := hW
  have hA : DataW.TrodAll enc Try.prog W 0 (fun _ => true) true Try.f7.params.toList args.toList ds p := hA0
  rw [Try.params7] at hA hval hsz
  obtain ⟨v0, vs0, d0, ds0, p0, q0, hargs, rfl, rfl, h0, r0⟩ := trodAll_cons hA
  obtain ⟨rfl, rfl, rfl⟩ := trodAll_nil r0
  obtain rfl : args = #[v0] := by cases args; simp_all
  obtain ⟨rfl, rfl⟩ := trodVars_none hV
  have k0 := h0
  have lt0 : ∀ x ∈ p0, x.block < W.heap.size := by obtain ⟨m, hm⟩ := k0; exact DataW.trod_lt m _ _ _ hm
  obtain ⟨cs0, rfl, _⟩ := okWide_struct Try.underlying38 (hval 0 38 v0 rfl rfl)
  obtain ⟨⟨l0_0, l0_1, a0_2, a0_3, a0_4⟩, K0, ok0⟩ := open_arg o38 hsz (j := 0) rfl rfl h0
  obtain ⟨_, _, e0, ⟨A0_0, c0_0, rfl, hc0_0, hr0_0⟩, ⟨_, _, rfl, ⟨A0_1, c0_1, rfl, hc0_1, hr0_1⟩, ⟨_, _, rfl, rfl, ⟨_, _, rfl, rfl, rfl⟩⟩⟩⟩ := K0
  obtain rfl : cs0 = #[.slice A0_0 l0_0.length c0_0, .slice A0_1 l0_1.length c0_1, .int .i64 a0_2, .int .i64 a0_3, .int .i64 a0_4] := by apply Array.ext'; simpa [Value.cells] using e0
  clear hA0 hval0 hsz0 hsz
  obtain ⟨k, hp⟩ := Pure.FnExactEncodeEdit l0_0 l0_1 a0_2 a0_3 a0_4 ok0
  refine (laws_FnExactEncodeEdit.calls k A0_0 c0_0 l0_0 A0_1 c0_1 l0_1 a0_2 a0_3 a0_4 W hr0_0 hc0_0 hr0_1 hc0_1 hp).mono fun e W' ⟨he, bel⟩ => ?_
  subst he
  exact ⟨_, rfl, _, _, _, [], _, [], hW', trodAll_mk1 (shut_bool Try.underlying4 _), (trodAll_cons_mk (Below.trod laidOut (by kernel_rfl) (of_decide_eq_true (by kernel_rfl)) k0 bel lt0) trodAll_mk0), rfl, bel.frame _, fun h => by cases h⟩
theorem over : Rows.fnExactEncodeEditRow.holds Try.pinned (OpenSpec.ofChange Rows.fnExactEncodeEditSpec) :=
  OpenClaim.holds_of_wide 7 Try.f7 rfl rfl rfl rfl rfl rfl rfl ⟨rfl, rfl, rfl, rfl, rfl⟩ rfl rfl rfl rfl rfl (by kernel_rfl) Try.func7 (by kernel_rfl)
    (of_decide_eq_true (by kernel_rfl)) (by unfold Func.isWrapper; first | (rw [if_pos (by decide +kernel)]; kernel_rfl) | (rw [if_neg (by decide +kernel)]; exact ⟨rfl, rfl⟩))
    (fun os started H enc _ => lifted os started H enc)
theorem proved : Rows.FnExactEncodeEditSaid := over
#print axioms proved
end Go.Proofs.Ytjneloehdcecnaa.fnExactEncodeEdit
namespace Go.Proofs.Ytjneloehdcecnaa
/-- The row, under a short name, for the claim. -/
theorem fnExactEncodeEdit_holds : Rows.FnExactEncodeEditSaid := fnExactEncodeEdit.proved
end Go.Proofs.Ytjneloehdcecnaa
end

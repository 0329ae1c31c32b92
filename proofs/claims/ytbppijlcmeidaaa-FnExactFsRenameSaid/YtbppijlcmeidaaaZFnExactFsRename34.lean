/- Texts of the claim FnExactFsRename, part 34 of 36, joined: PspecFsRename. No condition beyond those that stand at each. -/
import Derived.Test.YtbppijlcmeidaaaZFnExactFsRename25
import Derived.Test.YtbppijlcmeidaaaZFnExactFsRename30
import Derived.Test.YtbppijlcmeidaaaZFnExactFsRename32
import Derived.Test.YtbppijlcmeidaaaZFnExactFsRename26
import Derived.Test.YtbppijlcmeidaaaZFnExactFsRename33
import Derived.Test.YtbppijlcmeidaaaZFnExactFsRename31
section
-- Written by a changed copy of the print program, one module a function. Not trusted: Lean checks it.
namespace Go.Proofs.Ytbppijlcmeidaaa.P
open Go.RowKit Go.Proofs.YtbppijlcmeidaaaW.PrintWords Go.Proofs.YtbppijlcmeidaaaW.PrintLast Go.Proofs.YtbppijlcmeidaaaW.PrintMore
attribute [local go_sem] max2_int min2_int max_two min_two max_three min_three max_four min_four   -- for this text's walks alone
set_option linter.unusedVariables false
set_option linter.unusedSimpArgs false

/-! ### spec_FsRename: function 37 -/
def spec_FsRename.j0 : Nat → ByteArray → ByteArray → Bool → List (S52) → Int → Int → List (S52) → Int → Int → Option ((List (S52)) × Int × Int × Int)
 | 0, _, _, _, _, _, _, _, _, _ => none
 | k + 1, x1, x2, x28, x817000, x817001, x817002, x825000, x825001, x825002 => if x28 = true then (some (x825000, x825001, x825002, 2)) else ((spec_l1At.f k x817000 x817001 x817002 x1).bind fun t827 => (if t827 < 0 then (some (x825000, x825001, x825002, 1)) else (if 0 ≤ t827 then (if t827 < (x817000.length : Int) then ((spec_l1Without.f k x817000 x1).bind fun t830 => ((spec_l1With.f k t830 x2 ((rd_T52 x817000 t827).f1) ((rd_T52 x817000 t827).f2)).bind fun t833 => (some (t833, x825001, x825002, 0)))) else (none)) else (none))))
def spec_FsRename.f (k : Nat) (l0_0 : List (S52)) (a0_1 : Int) (a0_2 : Int) (a1 : ByteArray) (a2 : ByteArray) : Option ((List (S52)) × Int × Int × Int) := (spec_l1Begin.f k l0_0 a0_1 a0_2).bind fun bt818 => (if bt818.2.2.2 = 0 then ((spec_l1NameOk.f a1).bind fun t825 => (if t825 = true then ((spec_l1NameOk.f a2).bind fun t826 => (spec_FsRename.j0 k a1 a2 (!t826) l0_0 a0_1 a0_2 bt818.1 bt818.2.1 bt818.2.2.1)) else (spec_FsRename.j0 k a1 a2 true l0_0 a0_1 a0_2 bt818.1 bt818.2.1 bt818.2.2.1))) else (some (bt818.1, bt818.2.1, bt818.2.2.1, bt818.2.2.2)))
theorem spec_FsRename.mono_l : ∀ k, (∀ y0 y1 y2 y3 y4 y5 y6 y7 y8, LeO (spec_FsRename.j0 k y0 y1 y2 y3 y4 y5 y6 y7 y8) (spec_FsRename.j0 (k + 1) y0 y1 y2 y3 y4 y5 y6 y7 y8))
 | 0 => fun _ _ _ _ _ _ _ _ _ r h => by simp [spec_FsRename.j0] at h
 | k + 1 => by
  have ih0 := spec_FsRename.mono_l k
  ·intro y0 y1 y2 y3 y4 y5 y6 y7 y8
   unfold spec_FsRename.j0
   repeat' first
   | (with_reducible exact ih0 _ _ _ _ _ _ _ _ _)
   | (with_reducible exact spec_l1At.mono _ _ _ _ _)
   | (with_reducible exact spec_l1Begin.mono _ _ _ _)
   | (with_reducible exact spec_l1With.mono _ _ _ _ _)
   | (with_reducible exact spec_l1Without.mono _ _ _)
   | (with_reducible exact LeO.refl _)
   | (with_reducible exact LeO.none _)
   | (with_reducible refine LeO.ite ?_ ?_)
   | (with_reducible refine LeO.bind ?_ (fun _ => ?_))
   | exact ih0 _ _ _ _ _ _ _ _ _
   | exact spec_l1At.mono _ _ _ _ _
   | exact spec_l1Begin.mono _ _ _ _
   | exact spec_l1With.mono _ _ _ _ _
   | exact spec_l1Without.mono _ _ _
   | exact LeO.none _
   | refine LeO.ite ?_ ?_
   | refine LeO.bind ?_ (fun _ => ?_)
theorem spec_FsRename.mono : ∀ a0 a1 a2 a3 a4 k, LeO (spec_FsRename.f k a0 a1 a2 a3 a4) (spec_FsRename.f (k + 1) a0 a1 a2 a3 a4) := by
 intro a0 a1 a2 a3 a4 k
 have ih0 := spec_FsRename.mono_l k
 unfold spec_FsRename.f
 repeat' first
   | (with_reducible exact ih0 _ _ _ _ _ _ _ _ _)
   | (with_reducible exact spec_l1At.mono _ _ _ _ _)
   | (with_reducible exact spec_l1Begin.mono _ _ _ _)
   | (with_reducible exact spec_l1With.mono _ _ _ _ _)
   | (with_reducible exact spec_l1Without.mono _ _ _)
   | (with_reducible exact LeO.refl _)
   | (with_reducible exact LeO.none _)
   | (with_reducible refine LeO.ite ?_ ?_)
   | (with_reducible refine LeO.bind ?_ (fun _ => ?_))
   | exact ih0 _ _ _ _ _ _ _ _ _
   | exact spec_l1At.mono _ _ _ _ _
   | exact spec_l1Begin.mono _ _ _ _
   | exact spec_l1With.mono _ _ _ _ _
   | exact spec_l1Without.mono _ _ _
   | exact LeO.none _
   | refine LeO.ite ?_ ?_
   | refine LeO.bind ?_ (fun _ => ?_)
def spec_FsRename.T10 : Bool × List (List Nat × List Nat) := (true, [([], []), ([0], [0]), ([], []), ([1, 2], [1, 2]), ([], []), ([], []), ([5], [5]), ([], []), ([7], [7]), ([4, 6, 8], [4, 6, 8]), ([3, 9, 3], [3, 9]), ([0, 1, 2, 3, 4, 5, 6, 7, 8, 9, 10], []), ([11, 10, 10, 0, 1, 2, 3, 4, 5, 6, 7, 8, 9, 10], [10, 11])])
def spec_FsRename.B10 : List Nat := [0, 1, 0, 7, 0, 0, 32, 0, 128, 496, 1023, 2047, 4095]
theorem spec_FsRename.tab10 : rtab .any (opsOf Try.f37 10) = spec_FsRename.T10 := by kernel_rfl
theorem spec_FsRename.bits10 : waitsOk spec_FsRename.T10.2 spec_FsRename.B10 = true := by kernel_rfl
set_option maxHeartbeats 8000000 in
set_option maxRecDepth 100000 in
theorem spec_FsRename.calls (k : Nat) (A0_0 : Option Addr) (c0_0 : Nat) (l0_0 : List (S52)) (a0_1 : Int) (a0_2 : Int) (a1 : ByteArray) (a2 : ByteArray) (r1 : List (S52)) (r2 : Int) (r3 : Int) (r4 : Int) (w : World) (hr0_0 : Kd.C k52 w A0_0 l0_0.length l0_0) (hc0_0 : l0_0.length ≤ c0_0) (h : spec_FsRename.f k l0_0 a0_1 a0_2 a1 a2 = some (r1, r2, r3, r4)) :
  Calls Try.prog 37 #[.agg #[.slice A0_0 l0_0.length c0_0, .int .i64 a0_1, .int .i64 a0_2], .string a1, .string a2] w fun e w' => ∃ v0_ : Value, e = .returned (.tuple #[.agg #[v0_, .int .i64 r2, .int .i64 r3], .int .i64 r4]) ∧ Kd.R k52 52 w' w.heap.size (fun _ => True) v0_ r1 ∧ Below w.heap.size w w' := by
 have hu29 := Try.underlying29
 have hu52 := Try.underlying52
 have HR0_0 := Aside0.mk hr0_0
 have HC0_0 := Aside0.mk hc0_0
 clear hr0_0 hc0_0
 have HB := Aside0.mk (Below.refl w.heap.size w)
 have H : ((spec_l1Begin.f k l0_0 a0_1 a0_2).bind fun bt818 => (if bt818.2.2.2 = 0 then ((spec_l1NameOk.f a1).bind fun t825 => (if t825 = true then ((spec_l1NameOk.f a2).bind fun t826 => (spec_FsRename.j0 k a1 a2 (!t826) l0_0 a0_1 a0_2 bt818.1 bt818.2.1 bt818.2.2.1)) else (spec_FsRename.j0 k a1 a2 true l0_0 a0_1 a0_2 bt818.1 bt818.2.1 bt818.2.2.1))) else (some (bt818.1, bt818.2.1, bt818.2.2.1, bt818.2.2.2)))) = some (r1, r2, r3, r4) := h
 clear h
 replace H := Option.bind_eq_some_iff.mp H
 obtain ⟨⟨t818, t821, t822, t823⟩, A40, H⟩ := H
 replace H : (if t823 = 0 then ((spec_l1NameOk.f a1).bind fun t825 => (if t825 = true then ((spec_l1NameOk.f a2).bind fun t826 => (spec_FsRename.j0 k a1 a2 (!t826) l0_0 a0_1 a0_2 t818 t821 t822)) else (spec_FsRename.j0 k a1 a2 true l0_0 a0_1 a0_2 t818 t821 t822))) else (some (t818, t821, t822, t823))) = some (r1, r2, r3, r4) := H
 have A4 := Aside0.mk A40
 clear A40
 by_cases c5 : t823 = 0
 ·rw [if_pos c5] at H
  have c5b0 : (t823 == 0) = true := beq_iff_eq.mpr c5
  have c5b1 : (t823 != 0) = false := bne_eq_false_iff_eq.mpr c5
  clear c5
  have HC6 := Aside0.mk H
  clear H
  go_enter Try.func37, Try.ntmps37
  go_upto_region 4 with (first | ((with_reducible refine gate_dst (N := 3) rfl ?_); refine box_event ?hg (N := 3) ?hd (cs := #[.slice A0_0 l0_0.length c0_0, .int .i64 a0_1, .int .i64 a0_2]) (t := 29) ?hr ?_; (case hd => rfl); (case hg => rfl); (case hr => first | (go_simp; done) | (go_simp; rfl)); intro gb816 hg w7 hbox hb; have n0_ := Aside0.mk (below_step (by repeat (first | (with_reducible first | exact HB.out | apply below_alloc | apply pw_below_drewN | apply below_drew1) | exact HB.out)) hb); have n1_ := Aside0.mk (hbox); have n2_ := Aside0.mk ((by rw [hg]; exact (below_size (by repeat (first | (with_reducible first | exact HB.out | apply below_alloc | apply pw_below_drewN | apply below_drew1) | exact HB.out))) : w.heap.size ≤ gb816)); have n3_ := Aside0.mk ((by rw [hg]; exact (below_size (by repeat (first | (with_reducible first | exact HB.out | apply below_alloc | apply pw_below_drewN | apply below_drew1) | exact HB.out))) : w.heap.size ≤ gb816)); clear HB; have HB := n0_; have BK816 := n1_; have GW816 := n2_; have GE816 := n3_; clear n0_ n1_ n2_ n3_; clear hb hbox hg) | ((with_reducible refine gate_dst (N := 6) rfl ?_); refine box_event ?hg (N := 6) ?hd (cs := #[.slice none 0 0, .int .i64 0, .int .i64 0]) (t := 29) ?hr ?_; (case hd => rfl); (case hg => rfl); (case hr => first | (go_simp; done) | (go_simp; rfl)); intro gb817 hg w8 hbox hb; have n0_ := Aside0.mk (blk_below (g := gb816) (o := .cells #[.slice A0_0 l0_0.length c0_0, .int .i64 a0_1, .int .i64 a0_2] 29 (0, 0)) (by (with_reducible repeat (first | refine blk_drewN ?_ _ | refine blk_drew ?_ | refine blk_alloc ?_ _)); exact BK816.out) hb); have n1_ := Aside0.mk (below_step (by repeat (first | (with_reducible first | exact HB.out | apply below_alloc | apply pw_below_drewN | apply below_drew1 | refine below_set ?_ GE816.out) | exact HB.out)) hb); have n2_ := Aside0.mk (hbox); have n3_ := Aside0.mk ((by rw [hg]; exact (below_size (by repeat (first | (with_reducible first | exact HB.out | apply below_alloc | apply pw_below_drewN | apply below_drew1 | refine below_set ?_ GE816.out) | exact HB.out))) : w.heap.size ≤ gb817)); have n4_ := Aside0.mk ((by rw [hg]; exact (below_size (by repeat (first | (with_reducible first | exact HB.out | apply below_alloc | apply pw_below_drewN | apply below_drew1 | refine below_set ?_ GE816.out) | exact HB.out))) : w.heap.size ≤ gb817)); have n5_ := Aside0.mk ((by rw [hg]; exact Nat.ne_of_lt (blk_lt (g := gb816) (o := .cells #[.slice A0_0 l0_0.length c0_0, .int .i64 a0_1, .int .i64 a0_2] 29 (0, 0)) (by (with_reducible repeat (first | refine blk_drewN ?_ _ | refine blk_drew ?_ | refine blk_alloc ?_ _)); exact BK816.out)) : gb816 ≠ gb817)); have n6_ := Aside0.mk ((by rw [hg]; exact Nat.ne_of_gt (blk_lt (g := gb816) (o := .cells #[.slice A0_0 l0_0.length c0_0, .int .i64 a0_1, .int .i64 a0_2] 29 (0, 0)) (by (with_reducible repeat (first | refine blk_drewN ?_ _ | refine blk_drew ?_ | refine blk_alloc ?_ _)); exact BK816.out)) : gb817 ≠ gb816)); clear BK816; clear HB; have BK816 := n0_; have HB := n1_; have BK817 := n2_; have GW817 := n3_; have GE817 := n4_; have NB816_817 := n5_; have NB817_816 := n6_; clear n0_ n1_ n2_ n3_ n4_ n5_ n6_; clear hb hbox hg; have hnb9 := NB816_817.out; have hnc9 := NB817_816.out; have hcz10_0 : w8.cell? ⟨gb816, 0, none⟩ = some (.slice A0_0 l0_0.length c0_0) := (blk_cell BK816.out 0).trans rfl; have hcz10_1 : w8.cell? ⟨gb816, 1, none⟩ = some (.int .i64 a0_1) := (blk_cell BK816.out 1).trans rfl; have hcz10_2 : w8.cell? ⟨gb816, 2, none⟩ = some (.int .i64 a0_2) := (blk_cell BK816.out 2).trans rfl; have hfz10_0 := blk_frozen BK816.out 0; have hfz10_1 := blk_frozen BK816.out 1; have hfz10_2 := blk_frozen BK816.out 2) | ((with_reducible refine gate_callee (f := 52) rfl ?_); refine goesL_ (some 14) rfl rfl Try.func52 (by kernel_rfl) rfl #[.agg #[.slice A0_0 l0_0.length c0_0, .int .i64 a0_1, .int .i64 a0_2]] rfl (by (try simp only [List.map_toArray, List.map_cons, List.map_nil]); first | done | rfl | (simp only [List.length_drop, List.length_take]; rfl)) ?_; (with_reducible refine (spec_l1Begin.calls k _ _ l0_0 a0_1 a0_2 t818 t821 t822 t823 _ ?side1 ?side2 A4.out).mono ?_); (case side1 => repeat (first | exact (Kd.C_below HR0_0.out HB.out) | (with_reducible refine Kd.C_alloc ?_ _) | (with_reducible refine Kd.C_drewN ?_ _) | (with_reducible refine Kd.C_drew ?_))); (case side2 => exact HC0_0.out); rintro e w11 ⟨v819, rfl, ho0, hb⟩; refine ⟨_, rfl, ?_⟩; have n0_ := Aside0.mk (Kd.R_lower ho0 (below_size (by repeat (first | (with_reducible first | exact HB.out | apply below_alloc | apply pw_below_drewN | apply below_drew1 | refine below_set ?_ GE816.out | refine below_set ?_ GE817.out) | exact HB.out)))); have n1_ := Aside0.mk (blk_below (g := gb816) (o := .cells #[.slice A0_0 l0_0.length c0_0, .int .i64 a0_1, .int .i64 a0_2] 29 (0, 0)) (by (with_reducible repeat (first | refine blk_drewN ?_ _ | refine blk_drew ?_ | refine blk_alloc ?_ _)); exact BK816.out) hb); have n2_ := Aside0.mk (blk_below (g := gb817) (o := .cells #[.slice none 0 0, .int .i64 0, .int .i64 0] 29 (0, 0)) (by (with_reducible repeat (first | refine blk_drewN ?_ _ | refine blk_drew ?_ | refine blk_alloc ?_ _)); exact BK817.out) hb); have n3_ := Aside0.mk (below_step (by repeat (first | (with_reducible first | exact HB.out | apply below_alloc | apply pw_below_drewN | apply below_drew1 | refine below_set ?_ GE816.out | refine below_set ?_ GE817.out) | exact HB.out)) hb); clear BK816; clear BK817; clear HB; have HO820 := n0_; have BK816 := n1_; have BK817 := n2_; have HB := n3_; clear n0_ n1_ n2_ n3_; (try clear hb); (try clear hb2); (try clear hk); (try clear hi); (try clear ho0)) | ((with_reducible refine gate_dst (N := 8) rfl ?_); refine box_event ?hg (N := 8) ?hd (cs := #[.slice none 0 0, .int .i64 0, .int .i64 0]) (t := 29) ?hr ?_; (case hd => rfl); (case hg => rfl); (case hr => first | (go_simp; done) | (go_simp; rfl)); intro gb824 hg w12 hbox hb; have n0_ := Aside0.mk (Kd.R_below (by (with_reducible repeat (first | apply Kd.R_alloc | apply Kd.R_drewN | apply Kd.R_drew)); exact HO820.out) hb); have n1_ := Aside0.mk (blk_below (g := gb816) (o := .cells #[.slice A0_0 l0_0.length c0_0, .int .i64 a0_1, .int .i64 a0_2] 29 (0, 0)) (by (with_reducible repeat (first | refine blk_drewN ?_ _ | refine blk_drew ?_ | refine blk_alloc ?_ _)); exact BK816.out) hb); have n2_ := Aside0.mk (blk_below (g := gb817) (o := .cells #[.slice none 0 0, .int .i64 0, .int .i64 0] 29 (0, 0)) (by (with_reducible repeat (first | refine blk_drewN ?_ _ | refine blk_drew ?_ | refine blk_alloc ?_ _)); exact BK817.out) hb); have n3_ := Aside0.mk (below_step (by repeat (first | (with_reducible first | exact HB.out | apply below_alloc | apply pw_below_drewN | apply below_drew1 | refine below_set ?_ GE816.out | refine below_set ?_ GE817.out) | exact HB.out)) hb); have n4_ := Aside0.mk (hbox); have n5_ := Aside0.mk ((by rw [hg]; exact (below_size (by repeat (first | (with_reducible first | exact HB.out | apply below_alloc | apply pw_below_drewN | apply below_drew1 | refine below_set ?_ GE816.out | refine below_set ?_ GE817.out) | exact HB.out))) : w.heap.size ≤ gb824)); have n6_ := Aside0.mk ((by rw [hg]; exact (below_size (by repeat (first | (with_reducible first | exact HB.out | apply below_alloc | apply pw_below_drewN | apply below_drew1 | refine below_set ?_ GE816.out | refine below_set ?_ GE817.out) | exact HB.out))) : w.heap.size ≤ gb824)); have n7_ := Aside0.mk ((by rw [hg]; exact Nat.ne_of_lt (blk_lt (g := gb816) (o := .cells #[.slice A0_0 l0_0.length c0_0, .int .i64 a0_1, .int .i64 a0_2] 29 (0, 0)) (by (with_reducible repeat (first | refine blk_drewN ?_ _ | refine blk_drew ?_ | refine blk_alloc ?_ _)); exact BK816.out)) : gb816 ≠ gb824)); have n8_ := Aside0.mk ((by rw [hg]; exact Nat.ne_of_gt (blk_lt (g := gb816) (o := .cells #[.slice A0_0 l0_0.length c0_0, .int .i64 a0_1, .int .i64 a0_2] 29 (0, 0)) (by (with_reducible repeat (first | refine blk_drewN ?_ _ | refine blk_drew ?_ | refine blk_alloc ?_ _)); exact BK816.out)) : gb824 ≠ gb816)); have n9_ := Aside0.mk ((by rw [hg]; exact Nat.ne_of_lt (blk_lt (g := gb817) (o := .cells #[.slice none 0 0, .int .i64 0, .int .i64 0] 29 (0, 0)) (by (with_reducible repeat (first | refine blk_drewN ?_ _ | refine blk_drew ?_ | refine blk_alloc ?_ _)); exact BK817.out)) : gb817 ≠ gb824)); have n10_ := Aside0.mk ((by rw [hg]; exact Nat.ne_of_gt (blk_lt (g := gb817) (o := .cells #[.slice none 0 0, .int .i64 0, .int .i64 0] 29 (0, 0)) (by (with_reducible repeat (first | refine blk_drewN ?_ _ | refine blk_drew ?_ | refine blk_alloc ?_ _)); exact BK817.out)) : gb824 ≠ gb817)); clear HO820; clear BK816; clear BK817; clear HB; have HO820 := n0_; have BK816 := n1_; have BK817 := n2_; have HB := n3_; have BK824 := n4_; have GW824 := n5_; have GE824 := n6_; have NB816_824 := n7_; have NB824_816 := n8_; have NB817_824 := n9_; have NB824_817 := n10_; clear n0_ n1_ n2_ n3_ n4_ n5_ n6_ n7_ n8_ n9_ n10_; clear hb hbox hg; obtain ⟨Ao13, co13, eo13⟩ := Kd.R_slice HO820.out; subst eo13; have hnb14 := NB824_816.out; have hnc14 := NB816_824.out; have hnb15 := NB824_817.out; have hnc15 := NB817_824.out; have hcz16_0 : w12.cell? ⟨gb824, 0, none⟩ = some (.slice none 0 0) := (blk_cell BK824.out 0).trans rfl; have hcz16_1 : w12.cell? ⟨gb824, 1, none⟩ = some (.int .i64 0) := (blk_cell BK824.out 1).trans rfl; have hcz16_2 : w12.cell? ⟨gb824, 2, none⟩ = some (.int .i64 0) := (blk_cell BK824.out 2).trans rfl; have hfz16_0 := blk_frozen BK824.out 0; have hfz16_1 := blk_frozen BK824.out 1; have hfz16_2 := blk_frozen BK824.out 2))
  (try simp only [Act.put, List.setIfInBounds_toArray, List.set_cons_zero, List.set_cons_succ])
  go_cut [28] (fun v28 wc => ∃ (kq : Nat) (x28_5 : Bool), v28 = .bool x28_5 ∧ Aside0 (spec_FsRename.j0 kq a1 a2 x28_5 l0_0 a0_1 a0_2 t818 t821 t822 = some (r1, r2, r3, r4)) ∧ Aside0 (kq ≤ k) ∧ Aside0 (Kd.R k52 52 wc w.heap.size (fun _ => True) (.slice Ao13 t818.length co13) t818) ∧ Aside0 (wc.heap[gb816]? = some (.cells #[(.slice A0_0 l0_0.length c0_0), .int .i64 a0_1, .int .i64 a0_2] 29 (0, 0))) ∧ Aside0 (wc.heap[gb817]? = some (.cells #[(.slice none 0 0), .int .i64 0, .int .i64 0] 29 (0, 0))) ∧ Aside0 (wc.heap[gb824]? = some (.cells #[(.slice Ao13 t818.length co13), .int .i64 t821, .int .i64 t822] 29 (0, 0))) ∧ Aside0 (Below w.heap.size w wc))
  case first =>
   have H := HC6.out
   clear HC6
   replace H := Option.bind_eq_some_iff.mp H
   obtain ⟨t825, A170, H⟩ := H
   replace H : (if t825 = true then ((spec_l1NameOk.f a2).bind fun t826 => (spec_FsRename.j0 k a1 a2 (!t826) l0_0 a0_1 a0_2 t818 t821 t822)) else (spec_FsRename.j0 k a1 a2 true l0_0 a0_1 a0_2 t818 t821 t822)) = some (r1, r2, r3, r4) := H
   have A17 := Aside0.mk A170
   clear A170
   by_cases c18 : t825 = true
   ·subst c18
    have H1 : ((spec_l1NameOk.f a2).bind fun t826 => (spec_FsRename.j0 k a1 a2 (!t826) l0_0 a0_1 a0_2 t818 t821 t822)) = some (r1, r2, r3, r4) := by rw [if_pos rfl] at H; exact H
    clear H
    have H := H1
    clear H1
    replace H := Option.bind_eq_some_iff.mp H
    obtain ⟨t826, A190, H⟩ := H
    replace H : (spec_FsRename.j0 k a1 a2 (!t826) l0_0 a0_1 a0_2 t818 t821 t822) = some (r1, r2, r3, r4) := H
    have A19 := Aside0.mk A190
    clear A190
    have H' := Aside0.mk H
    clear H
    go_wp2_with (first | ((with_reducible refine gate_callee (f := 40) rfl ?_); refine goesL_ (some 22) rfl rfl Try.func40 (by kernel_rfl) rfl #[.string a1] rfl (by (try simp only [List.map_toArray, List.map_cons, List.map_nil]); first | done | rfl | (simp only [List.length_drop, List.length_take]; rfl)) ?_; (with_reducible refine (spec_l1NameOk.calls a1 true _ A17.out).mono ?_); rintro e w' ⟨rfl, ⟨nd, rfl⟩⟩; refine ⟨_, rfl, ?_⟩) | (go_at_call 40; (with_reducible refine (spec_l1NameOk.calls a2 t826 _ A19.out).mono ?_); rintro e w' ⟨rfl, ⟨nd, rfl⟩⟩))
    go_meet
    case rel => exact ⟨_, (!t826), (by first | rfl | (simp; done) | (simp [*]; done)), H', ⟨by first | omega | exact Nat.le_refl _⟩, ⟨by (with_reducible repeat (first | apply Kd.R_alloc | apply Kd.R_drewN | apply Kd.R_drew)); exact Kd.R_mono (Kd.R_far (p := ⟨gb824, 2, none⟩) (Kd.R_far (p := ⟨gb824, 1, none⟩) (Kd.R_far (p := ⟨gb824, 0, none⟩) (Kd.R_types HO820.out BK824.out (by decide)) (fun _ hk => hk.2) (.slice Ao13 t818.length co13)) (fun _ hk => hk.2) (.int .i64 t821)) (fun _ hk => hk.2) (.int .i64 t822)) (fun _ hk => trivial)⟩, ⟨by (with_reducible repeat (first | refine blk_drewN ?_ _ | refine blk_drew ?_ | refine blk_alloc ?_ _)); refine blk_far ?_ NB816_824.out _; (with_reducible repeat (first | refine blk_drewN ?_ _ | refine blk_drew ?_ | refine blk_alloc ?_ _)); refine blk_far ?_ NB816_824.out _; (with_reducible repeat (first | refine blk_drewN ?_ _ | refine blk_drew ?_ | refine blk_alloc ?_ _)); refine blk_far ?_ NB816_824.out _; (with_reducible repeat (first | refine blk_drewN ?_ _ | refine blk_drew ?_ | refine blk_alloc ?_ _)); exact BK816.out⟩, ⟨by (with_reducible repeat (first | refine blk_drewN ?_ _ | refine blk_drew ?_ | refine blk_alloc ?_ _)); refine blk_far ?_ NB817_824.out _; (with_reducible repeat (first | refine blk_drewN ?_ _ | refine blk_drew ?_ | refine blk_alloc ?_ _)); refine blk_far ?_ NB817_824.out _; (with_reducible repeat (first | refine blk_drewN ?_ _ | refine blk_drew ?_ | refine blk_alloc ?_ _)); refine blk_far ?_ NB817_824.out _; (with_reducible repeat (first | refine blk_drewN ?_ _ | refine blk_drew ?_ | refine blk_alloc ?_ _)); exact BK817.out⟩, ⟨by (with_reducible repeat (first | refine blk_drewN ?_ _ | refine blk_drew ?_ | refine blk_alloc ?_ _)); refine blk_put (cs := #[.slice Ao13 t818.length co13, .int .i64 t821, .int .i64 0]) ?_ 2 _ rfl; (with_reducible repeat (first | refine blk_drewN ?_ _ | refine blk_drew ?_ | refine blk_alloc ?_ _)); refine blk_put (cs := #[.slice Ao13 t818.length co13, .int .i64 0, .int .i64 0]) ?_ 1 _ rfl; (with_reducible repeat (first | refine blk_drewN ?_ _ | refine blk_drew ?_ | refine blk_alloc ?_ _)); refine blk_put (cs := #[.slice none 0 0, .int .i64 0, .int .i64 0]) ?_ 0 _ rfl; (with_reducible repeat (first | refine blk_drewN ?_ _ | refine blk_drew ?_ | refine blk_alloc ?_ _)); exact BK824.out⟩, ⟨by repeat (first | (with_reducible first | exact HB.out | apply below_alloc | apply pw_below_drewN | apply below_drew1 | refine below_set ?_ GE816.out | refine below_set ?_ GE817.out | refine below_set ?_ GE824.out) | exact HB.out)⟩⟩
   ·replace c18 := Bool.eq_false_iff.mpr c18
    subst c18
    have H1 : (spec_FsRename.j0 k a1 a2 true l0_0 a0_1 a0_2 t818 t821 t822) = some (r1, r2, r3, r4) := by rw [if_neg (show ¬ (false = true) by decide)] at H; exact H
    clear H
    have H := H1
    clear H1
    have H' := Aside0.mk H
    clear H
    go_wp2_with (first | ((with_reducible refine gate_callee (f := 40) rfl ?_); refine goesL_ (some 22) rfl rfl Try.func40 (by kernel_rfl) rfl #[.string a1] rfl (by (try simp only [List.map_toArray, List.map_cons, List.map_nil]); first | done | rfl | (simp only [List.length_drop, List.length_take]; rfl)) ?_; (with_reducible refine (spec_l1NameOk.calls a1 false _ A17.out).mono ?_); rintro e w' ⟨rfl, ⟨nd, rfl⟩⟩; refine ⟨_, rfl, ?_⟩))
    go_meet
    case rel => exact ⟨_, (true), (by first | rfl | (simp; done) | (simp [*]; done)), H', ⟨by first | omega | exact Nat.le_refl _⟩, ⟨by (with_reducible repeat (first | apply Kd.R_alloc | apply Kd.R_drewN | apply Kd.R_drew)); exact Kd.R_mono (Kd.R_far (p := ⟨gb824, 2, none⟩) (Kd.R_far (p := ⟨gb824, 1, none⟩) (Kd.R_far (p := ⟨gb824, 0, none⟩) (Kd.R_types HO820.out BK824.out (by decide)) (fun _ hk => hk.2) (.slice Ao13 t818.length co13)) (fun _ hk => hk.2) (.int .i64 t821)) (fun _ hk => hk.2) (.int .i64 t822)) (fun _ hk => trivial)⟩, ⟨by (with_reducible repeat (first | refine blk_drewN ?_ _ | refine blk_drew ?_ | refine blk_alloc ?_ _)); refine blk_far ?_ NB816_824.out _; (with_reducible repeat (first | refine blk_drewN ?_ _ | refine blk_drew ?_ | refine blk_alloc ?_ _)); refine blk_far ?_ NB816_824.out _; (with_reducible repeat (first | refine blk_drewN ?_ _ | refine blk_drew ?_ | refine blk_alloc ?_ _)); refine blk_far ?_ NB816_824.out _; (with_reducible repeat (first | refine blk_drewN ?_ _ | refine blk_drew ?_ | refine blk_alloc ?_ _)); exact BK816.out⟩, ⟨by (with_reducible repeat (first | refine blk_drewN ?_ _ | refine blk_drew ?_ | refine blk_alloc ?_ _)); refine blk_far ?_ NB817_824.out _; (with_reducible repeat (first | refine blk_drewN ?_ _ | refine blk_drew ?_ | refine blk_alloc ?_ _)); refine blk_far ?_ NB817_824.out _; (with_reducible repeat (first | refine blk_drewN ?_ _ | refine blk_drew ?_ | refine blk_alloc ?_ _)); refine blk_far ?_ NB817_824.out _; (with_reducible repeat (first | refine blk_drewN ?_ _ | refine blk_drew ?_ | refine blk_alloc ?_ _)); exact BK817.out⟩, ⟨by (with_reducible repeat (first | refine blk_drewN ?_ _ | refine blk_drew ?_ | refine blk_alloc ?_ _)); refine blk_put (cs := #[.slice Ao13 t818.length co13, .int .i64 t821, .int .i64 0]) ?_ 2 _ rfl; (with_reducible repeat (first | refine blk_drewN ?_ _ | refine blk_drew ?_ | refine blk_alloc ?_ _)); refine blk_put (cs := #[.slice Ao13 t818.length co13, .int .i64 0, .int .i64 0]) ?_ 1 _ rfl; (with_reducible repeat (first | refine blk_drewN ?_ _ | refine blk_drew ?_ | refine blk_alloc ?_ _)); refine blk_put (cs := #[.slice none 0 0, .int .i64 0, .int .i64 0]) ?_ 0 _ rfl; (with_reducible repeat (first | refine blk_drewN ?_ _ | refine blk_drew ?_ | refine blk_alloc ?_ _)); exact BK824.out⟩, ⟨by repeat (first | (with_reducible first | exact HB.out | apply below_alloc | apply pw_below_drewN | apply below_drew1 | refine below_set ?_ GE816.out | refine below_set ?_ GE817.out | refine below_set ?_ GE824.out) | exact HB.out)⟩⟩
  case rest =>
   clear HC6
   try clear c1
   try clear p2
   try clear c3
   try clear c4
   try clear c5
   try clear c5b0
   try clear c5b1
   try clear c9
   try clear c14
   try clear c15
   try clear c18
   try clear hcz10_0
   try clear hcz10_1
   try clear hcz10_2
   try clear hcz16_0
   try clear hcz16_1
   try clear hcz16_2
   try clear hfz10_0
   try clear hfz10_1
   try clear hfz10_2
   try clear hfz16_0
   try clear hfz16_1
   try clear hfz16_2
   obtain ⟨kq, x28_5, rfl, HA, HJ5, HO_825000, BK816, BK817, BK824, HB⟩ := hcut
   cases kq with
   | zero => exact absurd HA.out (by simp [spec_FsRename.j0])
   | succ kj5 =>
    have H := HA.out
    clear HA
    simp only [spec_FsRename.j0] at H
    by_cases c20 : x28_5 = true
    ·subst c20
     have H1 : (some (t818, t821, t822, 2)) = some (r1, r2, r3, r4) := by rw [if_pos rfl] at H; exact H
     clear H
     have H := H1
     clear H1
     simp only [Option.some.injEq, Prod.mk.injEq] at H
     obtain ⟨rfl, rfl, rfl, rfl⟩ := H
     have hnb21 := NB824_816.out
     have hnc21 := NB816_824.out
     have hnb22 := NB824_817.out
     have hnc22 := NB817_824.out
     have hcz23_0 : wc.cell? ⟨gb824, 0, none⟩ = some (.slice Ao13 t818.length co13) := (blk_cell BK824.out 0).trans rfl
     have hcz23_1 : wc.cell? ⟨gb824, 1, none⟩ = some (.int .i64 t821) := (blk_cell BK824.out 1).trans rfl
     have hcz23_2 : wc.cell? ⟨gb824, 2, none⟩ = some (.int .i64 t822) := (blk_cell BK824.out 2).trans rfl
     have hfz23_0 := blk_frozen BK824.out 0
     have hfz23_1 := blk_frozen BK824.out 1
     have hfz23_2 := blk_frozen BK824.out 2
     have hnb24 := NB817_816.out
     have hnc24 := NB816_817.out
     have hcz25_0 : wc.cell? ⟨gb817, 0, none⟩ = some (.slice none 0 0) := (blk_cell BK817.out 0).trans rfl
     have hcz25_1 : wc.cell? ⟨gb817, 1, none⟩ = some (.int .i64 0) := (blk_cell BK817.out 1).trans rfl
     have hcz25_2 : wc.cell? ⟨gb817, 2, none⟩ = some (.int .i64 0) := (blk_cell BK817.out 2).trans rfl
     have hfz25_0 := blk_frozen BK817.out 0
     have hfz25_1 := blk_frozen BK817.out 1
     have hfz25_2 := blk_frozen BK817.out 2
     go_wp2
     refine bodyPost_ret (results_ct rfl _ _ gb817 29 #[.slice Ao13 t818.length co13, .int .i64 t821, .int .i64 t822] (0, 0) _ rfl (by (with_reducible repeat (first | refine blk_drewN ?_ _ | refine blk_drew ?_ | refine blk_alloc ?_ _)); refine blk_put (cs := #[.slice Ao13 t818.length co13, .int .i64 t821, .int .i64 0]) ?_ 2 _ rfl; (with_reducible repeat (first | refine blk_drewN ?_ _ | refine blk_drew ?_ | refine blk_alloc ?_ _)); refine blk_put (cs := #[.slice Ao13 t818.length co13, .int .i64 0, .int .i64 0]) ?_ 1 _ rfl; (with_reducible repeat (first | refine blk_drewN ?_ _ | refine blk_drew ?_ | refine blk_alloc ?_ _)); refine blk_put (cs := #[.slice none 0 0, .int .i64 0, .int .i64 0]) ?_ 0 _ rfl; (with_reducible repeat (first | refine blk_drewN ?_ _ | refine blk_drew ?_ | refine blk_alloc ?_ _)); exact BK817.out) Try.underlying29 rfl (by kernel_rfl)) rfl ?_
     exact ⟨_, by first | rfl | (simp [errW_none, errW_some] <;> rfl) | (simp [*, errW_none, errW_some] <;> rfl), by (with_reducible repeat (first | apply Kd.R_alloc | apply Kd.R_drewN | apply Kd.R_drew)); exact Kd.R_mono (Kd.R_far (p := ⟨gb817, 2, none⟩) (Kd.R_far (p := ⟨gb817, 1, none⟩) (Kd.R_far (p := ⟨gb817, 0, none⟩) (Kd.R_types HO_825000.out BK817.out (by decide)) (fun _ hk => hk.2) (.slice Ao13 t818.length co13)) (fun _ hk => hk.2) (.int .i64 t821)) (fun _ hk => hk.2) (.int .i64 t822)) (fun _ hk => trivial), by repeat (first | (with_reducible first | exact HB.out | apply below_alloc | apply pw_below_drewN | apply below_drew1 | refine below_set ?_ GE816.out | refine below_set ?_ GE817.out | refine below_set ?_ GE824.out) | exact HB.out)⟩
    ·replace c20 := Bool.eq_false_iff.mpr c20
     subst c20
     have H1 : ((spec_l1At.f kj5 l0_0 a0_1 a0_2 a1).bind fun t827 => (if t827 < 0 then (some (t818, t821, t822, 1)) else (if 0 ≤ t827 then (if t827 < (l0_0.length : Int) then ((spec_l1Without.f kj5 l0_0 a1).bind fun t830 => ((spec_l1With.f kj5 t830 a2 ((rd_T52 l0_0 t827).f1) ((rd_T52 l0_0 t827).f2)).bind fun t833 => (some (t833, t821, t822, 0)))) else (none)) else (none)))) = some (r1, r2, r3, r4) := by rw [if_neg (show ¬ (false = true) by decide)] at H; exact H
     clear H
     have H := H1
     clear H1
     replace H := Option.bind_eq_some_iff.mp H
     obtain ⟨t827, A260, H⟩ := H
     replace H : (if t827 < 0 then (some (t818, t821, t822, 1)) else (if 0 ≤ t827 then (if t827 < (l0_0.length : Int) then ((spec_l1Without.f kj5 l0_0 a1).bind fun t830 => ((spec_l1With.f kj5 t830 a2 ((rd_T52 l0_0 t827).f1) ((rd_T52 l0_0 t827).f2)).bind fun t833 => (some (t833, t821, t822, 0)))) else (none)) else (none))) = some (r1, r2, r3, r4) := H
     have A26 := Aside0.mk A260
     clear A260
     by_cases c27 : t827 < 0
     ·rw [if_pos c27] at H
      have c27b0 : decide (t827 < 0) = true := decide_eq_true c27
      clear c27
      simp only [Option.some.injEq, Prod.mk.injEq] at H
      obtain ⟨rfl, rfl, rfl, rfl⟩ := H
      have hnb28 := NB816_817.out
      have hnc28 := NB817_816.out
      have hnb29 := NB816_824.out
      have hnc29 := NB824_816.out
      have hcz30_0 : wc.cell? ⟨gb816, 0, none⟩ = some (.slice A0_0 l0_0.length c0_0) := (blk_cell BK816.out 0).trans rfl
      have hcz30_1 : wc.cell? ⟨gb816, 1, none⟩ = some (.int .i64 a0_1) := (blk_cell BK816.out 1).trans rfl
      have hcz30_2 : wc.cell? ⟨gb816, 2, none⟩ = some (.int .i64 a0_2) := (blk_cell BK816.out 2).trans rfl
      have hfz30_0 := blk_frozen BK816.out 0
      have hfz30_1 := blk_frozen BK816.out 1
      have hfz30_2 := blk_frozen BK816.out 2
      go_wp2_with (first | ((with_reducible refine gate_callee (f := 53) rfl ?_); refine goesL_ (some 32) rfl rfl Try.func53 (by kernel_rfl) rfl #[.agg #[.slice A0_0 l0_0.length c0_0, .int .i64 a0_1, .int .i64 a0_2], .string a1] rfl (by (try simp only [List.map_toArray, List.map_cons, List.map_nil]); first | done | rfl | (simp only [List.length_drop, List.length_take]; rfl)) ?_; (with_reducible refine (spec_l1At.calls kj5 _ _ l0_0 a0_1 a0_2 a1 t827 _ ?side1 ?side2 A26.out).mono ?_); (case side1 => repeat (first | exact (Kd.C_below HR0_0.out HB.out) | (with_reducible refine Kd.C_alloc ?_ _) | (with_reducible refine Kd.C_drewN ?_ _) | (with_reducible refine Kd.C_drew ?_))); (case side2 => exact HC0_0.out); rintro e w31 ⟨rfl, hb⟩; refine ⟨_, rfl, ?_⟩; have n0_ := Aside0.mk (Kd.R_below (by (with_reducible repeat (first | apply Kd.R_alloc | apply Kd.R_drewN | apply Kd.R_drew)); exact HO_825000.out) hb); have n1_ := Aside0.mk (blk_below (g := gb816) (o := .cells #[.slice A0_0 l0_0.length c0_0, .int .i64 a0_1, .int .i64 a0_2] 29 (0, 0)) (by (with_reducible repeat (first | refine blk_drewN ?_ _ | refine blk_drew ?_ | refine blk_alloc ?_ _)); exact BK816.out) hb); have n2_ := Aside0.mk (blk_below (g := gb817) (o := .cells #[.slice none 0 0, .int .i64 0, .int .i64 0] 29 (0, 0)) (by (with_reducible repeat (first | refine blk_drewN ?_ _ | refine blk_drew ?_ | refine blk_alloc ?_ _)); exact BK817.out) hb); have n3_ := Aside0.mk (blk_below (g := gb824) (o := .cells #[.slice Ao13 t818.length co13, .int .i64 t821, .int .i64 t822] 29 (0, 0)) (by (with_reducible repeat (first | refine blk_drewN ?_ _ | refine blk_drew ?_ | refine blk_alloc ?_ _)); exact BK824.out) hb); have n4_ := Aside0.mk (below_step (by repeat (first | (with_reducible first | exact HB.out | apply below_alloc | apply pw_below_drewN | apply below_drew1 | refine below_set ?_ GE816.out | refine below_set ?_ GE817.out | refine below_set ?_ GE824.out) | exact HB.out)) hb); clear HO_825000; clear BK816; clear BK817; clear BK824; clear HB; have HO_825000 := n0_; have BK816 := n1_; have BK817 := n2_; have BK824 := n3_; have HB := n4_; clear n0_ n1_ n2_ n3_ n4_; (try clear hb); (try clear hb2); (try clear hk); (try clear hi); have hnb32 := NB824_817.out; have hnc32 := NB817_824.out; have hcz33_0 : w31.cell? ⟨gb824, 0, none⟩ = some (.slice Ao13 t818.length co13) := (blk_cell BK824.out 0).trans rfl; have hcz33_1 : w31.cell? ⟨gb824, 1, none⟩ = some (.int .i64 t821) := (blk_cell BK824.out 1).trans rfl; have hcz33_2 : w31.cell? ⟨gb824, 2, none⟩ = some (.int .i64 t822) := (blk_cell BK824.out 2).trans rfl; have hfz33_0 := blk_frozen BK824.out 0; have hfz33_1 := blk_frozen BK824.out 1; have hfz33_2 := blk_frozen BK824.out 2; have hcz34_0 : w31.cell? ⟨gb817, 0, none⟩ = some (.slice none 0 0) := (blk_cell BK817.out 0).trans rfl; have hcz34_1 : w31.cell? ⟨gb817, 1, none⟩ = some (.int .i64 0) := (blk_cell BK817.out 1).trans rfl; have hcz34_2 : w31.cell? ⟨gb817, 2, none⟩ = some (.int .i64 0) := (blk_cell BK817.out 2).trans rfl; have hfz34_0 := blk_frozen BK817.out 0; have hfz34_1 := blk_frozen BK817.out 1; have hfz34_2 := blk_frozen BK817.out 2))
      refine bodyPost_ret (results_ct rfl _ _ gb817 29 #[.slice Ao13 t818.length co13, .int .i64 t821, .int .i64 t822] (0, 0) _ rfl (by (with_reducible repeat (first | refine blk_drewN ?_ _ | refine blk_drew ?_ | refine blk_alloc ?_ _)); refine blk_put (cs := #[.slice Ao13 t818.length co13, .int .i64 t821, .int .i64 0]) ?_ 2 _ rfl; (with_reducible repeat (first | refine blk_drewN ?_ _ | refine blk_drew ?_ | refine blk_alloc ?_ _)); refine blk_put (cs := #[.slice Ao13 t818.length co13, .int .i64 0, .int .i64 0]) ?_ 1 _ rfl; (with_reducible repeat (first | refine blk_drewN ?_ _ | refine blk_drew ?_ | refine blk_alloc ?_ _)); refine blk_put (cs := #[.slice none 0 0, .int .i64 0, .int .i64 0]) ?_ 0 _ rfl; (with_reducible repeat (first | refine blk_drewN ?_ _ | refine blk_drew ?_ | refine blk_alloc ?_ _)); exact BK817.out) Try.underlying29 rfl (by kernel_rfl)) rfl ?_
      exact ⟨_, by first | rfl | (simp [errW_none, errW_some] <;> rfl) | (simp [*, errW_none, errW_some] <;> rfl), by (with_reducible repeat (first | apply Kd.R_alloc | apply Kd.R_drewN | apply Kd.R_drew)); exact Kd.R_mono (Kd.R_far (p := ⟨gb817, 2, none⟩) (Kd.R_far (p := ⟨gb817, 1, none⟩) (Kd.R_far (p := ⟨gb817, 0, none⟩) (Kd.R_types HO_825000.out BK817.out (by decide)) (fun _ hk => hk.2) (.slice Ao13 t818.length co13)) (fun _ hk => hk.2) (.int .i64 t821)) (fun _ hk => hk.2) (.int .i64 t822)) (fun _ hk => trivial), by repeat (first | (with_reducible first | exact HB.out | apply below_alloc | apply pw_below_drewN | apply below_drew1 | refine below_set ?_ GE816.out | refine below_set ?_ GE817.out | refine below_set ?_ GE824.out) | exact HB.out)⟩
     ·rw [if_neg c27] at H
      have c27b0 : decide (t827 < 0) = false := decide_eq_false c27
      clear c27
      by_cases c35 : 0 ≤ t827
      ·rw [if_pos c35] at H
       have c35b0 : decide (0 ≤ t827) = true := decide_eq_true c35
       clear c35
       by_cases c36 : t827 < (l0_0.length : Int)
       ·rw [if_pos c36] at H
        have c36b0 : decide (t827 < (l0_0.length : Int)) = true := decide_eq_true c36
        clear c36
        replace H := Option.bind_eq_some_iff.mp H
        obtain ⟨t830, A370, H⟩ := H
        replace H : ((spec_l1With.f kj5 t830 a2 ((rd_T52 l0_0 t827).f1) ((rd_T52 l0_0 t827).f2)).bind fun t833 => (some (t833, t821, t822, 0))) = some (r1, r2, r3, r4) := H
        have A37 := Aside0.mk A370
        clear A370
        replace H := Option.bind_eq_some_iff.mp H
        obtain ⟨t833, A380, H⟩ := H
        replace H : (some (t833, t821, t822, 0)) = some (r1, r2, r3, r4) := H
        have A38 := Aside0.mk A380
        clear A380
        simp only [Option.some.injEq, Prod.mk.injEq] at H
        obtain ⟨rfl, rfl, rfl, rfl⟩ := H
        have hnb39 := NB816_817.out
        have hnc39 := NB817_816.out
        have hnb40 := NB816_824.out
        have hnc40 := NB824_816.out
        have hcz41_0 : wc.cell? ⟨gb816, 0, none⟩ = some (.slice A0_0 l0_0.length c0_0) := (blk_cell BK816.out 0).trans rfl
        have hcz41_1 : wc.cell? ⟨gb816, 1, none⟩ = some (.int .i64 a0_1) := (blk_cell BK816.out 1).trans rfl
        have hcz41_2 : wc.cell? ⟨gb816, 2, none⟩ = some (.int .i64 a0_2) := (blk_cell BK816.out 2).trans rfl
        have hfz41_0 := blk_frozen BK816.out 0
        have hfz41_1 := blk_frozen BK816.out 1
        have hfz41_2 := blk_frozen BK816.out 2
        try go_wp2_with (first | ((with_reducible refine gate_callee (f := 53) rfl ?_); refine goesL_ (some 32) rfl rfl Try.func53 (by kernel_rfl) rfl #[.agg #[.slice A0_0 l0_0.length c0_0, .int .i64 a0_1, .int .i64 a0_2], .string a1] rfl (by (try simp only [List.map_toArray, List.map_cons, List.map_nil]); first | done | rfl | (simp only [List.length_drop, List.length_take]; rfl)) ?_; (with_reducible refine (spec_l1At.calls kj5 _ _ l0_0 a0_1 a0_2 a1 t827 _ ?side1 ?side2 A26.out).mono ?_); (case side1 => repeat (first | exact (Kd.C_below HR0_0.out HB.out) | (with_reducible refine Kd.C_alloc ?_ _) | (with_reducible refine Kd.C_drewN ?_ _) | (with_reducible refine Kd.C_drew ?_))); (case side2 => exact HC0_0.out); rintro e w42 ⟨rfl, hb⟩; refine ⟨_, rfl, ?_⟩; have n0_ := Aside0.mk (Kd.R_below (by (with_reducible repeat (first | apply Kd.R_alloc | apply Kd.R_drewN | apply Kd.R_drew)); exact HO_825000.out) hb); have n1_ := Aside0.mk (blk_below (g := gb816) (o := .cells #[.slice A0_0 l0_0.length c0_0, .int .i64 a0_1, .int .i64 a0_2] 29 (0, 0)) (by (with_reducible repeat (first | refine blk_drewN ?_ _ | refine blk_drew ?_ | refine blk_alloc ?_ _)); exact BK816.out) hb); have n2_ := Aside0.mk (blk_below (g := gb817) (o := .cells #[.slice none 0 0, .int .i64 0, .int .i64 0] 29 (0, 0)) (by (with_reducible repeat (first | refine blk_drewN ?_ _ | refine blk_drew ?_ | refine blk_alloc ?_ _)); exact BK817.out) hb); have n3_ := Aside0.mk (blk_below (g := gb824) (o := .cells #[.slice Ao13 t818.length co13, .int .i64 t821, .int .i64 t822] 29 (0, 0)) (by (with_reducible repeat (first | refine blk_drewN ?_ _ | refine blk_drew ?_ | refine blk_alloc ?_ _)); exact BK824.out) hb); have n4_ := Aside0.mk (below_step (by repeat (first | (with_reducible first | exact HB.out | apply below_alloc | apply pw_below_drewN | apply below_drew1 | refine below_set ?_ GE816.out | refine below_set ?_ GE817.out | refine below_set ?_ GE824.out) | exact HB.out)) hb); clear HO_825000; clear BK816; clear BK817; clear BK824; clear HB; have HO_825000 := n0_; have BK816 := n1_; have BK817 := n2_; have BK824 := n3_; have HB := n4_; clear n0_ n1_ n2_ n3_ n4_; (try clear hb); (try clear hb2); (try clear hk); (try clear hi); have hcz43_0 : w42.cell? ⟨gb816, 0, none⟩ = some (.slice A0_0 l0_0.length c0_0) := (blk_cell BK816.out 0).trans rfl; have hcz43_1 : w42.cell? ⟨gb816, 1, none⟩ = some (.int .i64 a0_1) := (blk_cell BK816.out 1).trans rfl; have hcz43_2 : w42.cell? ⟨gb816, 2, none⟩ = some (.int .i64 a0_2) := (blk_cell BK816.out 2).trans rfl; have hfz43_0 := blk_frozen BK816.out 0; have hfz43_1 := blk_frozen BK816.out 1; have hfz43_2 := blk_frozen BK816.out 2; have p828 : 0 ≤ (t827 : Int) := of_decide_eq_true (by first | (with_reducible assumption) | assumption); have q828 : t827 < (l0_0.length : Int) := of_decide_eq_true (by first | (with_reducible assumption) | assumption); obtain ⟨ad828, e828, hx828_0, hx828_1, hx828_2⟩ := at_T52 HR0_0.out t827 p828 q828; cases e828; replace hx828_0 := (HB.out.cell (World.block_lt_of_cell? w _ hx828_0)).trans hx828_0; replace hx828_1 := (HB.out.cell (World.block_lt_of_cell? w _ hx828_1)).trans hx828_1; replace hx828_2 := (HB.out.cell (World.block_lt_of_cell? w _ hx828_2)).trans hx828_2; replace p828 := eq_true p828; replace q828 := eq_true q828) | ((with_reducible refine gate_dst (N := 11) rfl ?_); refine box_event ?hg (N := 11) ?hd (cs := #[.string (⟨#[]⟩ : ByteArray), .string (⟨#[]⟩ : ByteArray), .int .i64 0]) (t := 52) ?hr ?_; (case hd => rfl); (case hg => rfl); (case hr => first | (go_simp; done) | (go_simp; rfl)); intro gb829 hg w44 hbox hb; have n0_ := Aside0.mk (Kd.R_below (Kd.R_elderB (by (with_reducible repeat (first | apply Kd.R_alloc | apply Kd.R_drewN | apply Kd.R_drew)); exact HO_825000.out) gb829 (Nat.le_of_eq hg.symm)) hb); have n1_ := Aside0.mk (blk_below (g := gb816) (o := .cells #[.slice (some ad828) l0_0.length c0_0, .int .i64 a0_1, .int .i64 a0_2] 29 (0, 0)) (by (with_reducible repeat (first | refine blk_drewN ?_ _ | refine blk_drew ?_ | refine blk_alloc ?_ _)); exact BK816.out) hb); have n2_ := Aside0.mk (blk_below (g := gb817) (o := .cells #[.slice none 0 0, .int .i64 0, .int .i64 0] 29 (0, 0)) (by (with_reducible repeat (first | refine blk_drewN ?_ _ | refine blk_drew ?_ | refine blk_alloc ?_ _)); exact BK817.out) hb); have n3_ := Aside0.mk (blk_below (g := gb824) (o := .cells #[.slice Ao13 t818.length co13, .int .i64 t821, .int .i64 t822] 29 (0, 0)) (by (with_reducible repeat (first | refine blk_drewN ?_ _ | refine blk_drew ?_ | refine blk_alloc ?_ _)); exact BK824.out) hb); have n4_ := Aside0.mk (below_step (by repeat (first | (with_reducible first | exact HB.out | apply below_alloc | apply pw_below_drewN | apply below_drew1 | refine below_set ?_ GE816.out | refine below_set ?_ GE817.out | refine below_set ?_ GE824.out) | exact HB.out)) hb); have n5_ := Aside0.mk (hbox); have n6_ := Aside0.mk ((by rw [hg]; exact (below_size (by repeat (first | (with_reducible first | exact HB.out | apply below_alloc | apply pw_below_drewN | apply below_drew1 | refine below_set ?_ GE816.out | refine below_set ?_ GE817.out | refine below_set ?_ GE824.out) | exact HB.out))) : w.heap.size ≤ gb829)); have n7_ := Aside0.mk ((by rw [hg]; exact (below_size (by repeat (first | (with_reducible first | exact HB.out | apply below_alloc | apply pw_below_drewN | apply below_drew1 | refine below_set ?_ GE816.out | refine below_set ?_ GE817.out | refine below_set ?_ GE824.out) | exact HB.out))) : w.heap.size ≤ gb829)); have n8_ := Aside0.mk ((by rw [hg]; exact Nat.ne_of_lt (blk_lt (g := gb816) (o := .cells #[.slice (some ad828) l0_0.length c0_0, .int .i64 a0_1, .int .i64 a0_2] 29 (0, 0)) (by (with_reducible repeat (first | refine blk_drewN ?_ _ | refine blk_drew ?_ | refine blk_alloc ?_ _)); exact BK816.out)) : gb816 ≠ gb829)); have n9_ := Aside0.mk ((by rw [hg]; exact Nat.ne_of_gt (blk_lt (g := gb816) (o := .cells #[.slice (some ad828) l0_0.length c0_0, .int .i64 a0_1, .int .i64 a0_2] 29 (0, 0)) (by (with_reducible repeat (first | refine blk_drewN ?_ _ | refine blk_drew ?_ | refine blk_alloc ?_ _)); exact BK816.out)) : gb829 ≠ gb816)); have n10_ := Aside0.mk ((by rw [hg]; exact Nat.ne_of_lt (blk_lt (g := gb817) (o := .cells #[.slice none 0 0, .int .i64 0, .int .i64 0] 29 (0, 0)) (by (with_reducible repeat (first | refine blk_drewN ?_ _ | refine blk_drew ?_ | refine blk_alloc ?_ _)); exact BK817.out)) : gb817 ≠ gb829)); have n11_ := Aside0.mk ((by rw [hg]; exact Nat.ne_of_gt (blk_lt (g := gb817) (o := .cells #[.slice none 0 0, .int .i64 0, .int .i64 0] 29 (0, 0)) (by (with_reducible repeat (first | refine blk_drewN ?_ _ | refine blk_drew ?_ | refine blk_alloc ?_ _)); exact BK817.out)) : gb829 ≠ gb817)); have n12_ := Aside0.mk ((by rw [hg]; exact Nat.ne_of_lt (blk_lt (g := gb824) (o := .cells #[.slice Ao13 t818.length co13, .int .i64 t821, .int .i64 t822] 29 (0, 0)) (by (with_reducible repeat (first | refine blk_drewN ?_ _ | refine blk_drew ?_ | refine blk_alloc ?_ _)); exact BK824.out)) : gb824 ≠ gb829)); have n13_ := Aside0.mk ((by rw [hg]; exact Nat.ne_of_gt (blk_lt (g := gb824) (o := .cells #[.slice Ao13 t818.length co13, .int .i64 t821, .int .i64 t822] 29 (0, 0)) (by (with_reducible repeat (first | refine blk_drewN ?_ _ | refine blk_drew ?_ | refine blk_alloc ?_ _)); exact BK824.out)) : gb829 ≠ gb824)); clear HO_825000; clear BK816; clear BK817; clear BK824; clear HB; have HO_825000 := n0_; have BK816 := n1_; have BK817 := n2_; have BK824 := n3_; have HB := n4_; have BK829 := n5_; have GW829 := n6_; have GE829 := n7_; have NB816_829 := n8_; have NB829_816 := n9_; have NB817_829 := n10_; have NB829_817 := n11_; have NB824_829 := n12_; have NB829_824 := n13_; clear n0_ n1_ n2_ n3_ n4_ n5_ n6_ n7_ n8_ n9_ n10_ n11_ n12_ n13_; clear hb hbox hg; have hnb45 := NB829_816.out; have hnc45 := NB816_829.out; have hnb46 := NB829_817.out; have hnc46 := NB817_829.out; have hnb47 := NB829_824.out; have hnc47 := NB824_829.out; have hcz48_0 : w44.cell? ⟨gb829, 0, none⟩ = some (.string (⟨#[]⟩ : ByteArray)) := (blk_cell BK829.out 0).trans rfl; have hcz48_1 : w44.cell? ⟨gb829, 1, none⟩ = some (.string (⟨#[]⟩ : ByteArray)) := (blk_cell BK829.out 1).trans rfl; have hcz48_2 : w44.cell? ⟨gb829, 2, none⟩ = some (.int .i64 0) := (blk_cell BK829.out 2).trans rfl; have hfz48_0 := blk_frozen BK829.out 0; have hfz48_1 := blk_frozen BK829.out 1; have hfz48_2 := blk_frozen BK829.out 2))
        have n0_ : Aside0 (Kd.R k52 52 (((w44.setCell ⟨gb829, 0, none⟩ (.string ((rd_T52 l0_0 t827).f0))).setCell ⟨gb829, 1, none⟩ (.string ((rd_T52 l0_0 t827).f1))).setCell ⟨gb829, 2, none⟩ (.int .i64 ((rd_T52 l0_0 t827).f2))) w.heap.size (fun k_ => k_ ≠ gb829) (.slice Ao13 t818.length co13) t818) := ⟨by (with_reducible repeat (first | apply Kd.R_alloc | apply Kd.R_drewN | apply Kd.R_drew)); exact Kd.R_mono (Kd.R_far (p := ⟨gb829, 2, none⟩) (Kd.R_far (p := ⟨gb829, 1, none⟩) (Kd.R_far (p := ⟨gb829, 0, none⟩) (Kd.R_mono HO_825000.out (fun k_ hk => (⟨hk, hk.2⟩ : _ ∧ k_ ≠ gb829))) (fun _ hk => hk.2) (.string ((rd_T52 l0_0 t827).f0))) (fun _ hk => hk.2) (.string ((rd_T52 l0_0 t827).f1))) (fun _ hk => hk.2) (.int .i64 ((rd_T52 l0_0 t827).f2))) (fun _ hk => hk.1.2)⟩
        have n1_ : Aside0 ((((w44.setCell ⟨gb829, 0, none⟩ (.string ((rd_T52 l0_0 t827).f0))).setCell ⟨gb829, 1, none⟩ (.string ((rd_T52 l0_0 t827).f1))).setCell ⟨gb829, 2, none⟩ (.int .i64 ((rd_T52 l0_0 t827).f2))).heap[gb816]? = some (.cells #[.slice (some ad828) l0_0.length c0_0, .int .i64 a0_1, .int .i64 a0_2] 29 (0, 0))) := ⟨by (with_reducible repeat (first | refine blk_drewN ?_ _ | refine blk_drew ?_ | refine blk_alloc ?_ _)); refine blk_far ?_ NB816_829.out _; (with_reducible repeat (first | refine blk_drewN ?_ _ | refine blk_drew ?_ | refine blk_alloc ?_ _)); refine blk_far ?_ NB816_829.out _; (with_reducible repeat (first | refine blk_drewN ?_ _ | refine blk_drew ?_ | refine blk_alloc ?_ _)); refine blk_far ?_ NB816_829.out _; (with_reducible repeat (first | refine blk_drewN ?_ _ | refine blk_drew ?_ | refine blk_alloc ?_ _)); exact BK816.out⟩
        have n2_ : Aside0 ((((w44.setCell ⟨gb829, 0, none⟩ (.string ((rd_T52 l0_0 t827).f0))).setCell ⟨gb829, 1, none⟩ (.string ((rd_T52 l0_0 t827).f1))).setCell ⟨gb829, 2, none⟩ (.int .i64 ((rd_T52 l0_0 t827).f2))).heap[gb817]? = some (.cells #[.slice none 0 0, .int .i64 0, .int .i64 0] 29 (0, 0))) := ⟨by (with_reducible repeat (first | refine blk_drewN ?_ _ | refine blk_drew ?_ | refine blk_alloc ?_ _)); refine blk_far ?_ NB817_829.out _; (with_reducible repeat (first | refine blk_drewN ?_ _ | refine blk_drew ?_ | refine blk_alloc ?_ _)); refine blk_far ?_ NB817_829.out _; (with_reducible repeat (first | refine blk_drewN ?_ _ | refine blk_drew ?_ | refine blk_alloc ?_ _)); refine blk_far ?_ NB817_829.out _; (with_reducible repeat (first | refine blk_drewN ?_ _ | refine blk_drew ?_ | refine blk_alloc ?_ _)); exact BK817.out⟩
        have n3_ : Aside0 ((((w44.setCell ⟨gb829, 0, none⟩ (.string ((rd_T52 l0_0 t827).f0))).setCell ⟨gb829, 1, none⟩ (.string ((rd_T52 l0_0 t827).f1))).setCell ⟨gb829, 2, none⟩ (.int .i64 ((rd_T52 l0_0 t827).f2))).heap[gb824]? = some (.cells #[.slice Ao13 t818.length co13, .int .i64 t821, .int .i64 t822] 29 (0, 0))) := ⟨by (with_reducible repeat (first | refine blk_drewN ?_ _ | refine blk_drew ?_ | refine blk_alloc ?_ _)); refine blk_far ?_ NB824_829.out _; (with_reducible repeat (first | refine blk_drewN ?_ _ | refine blk_drew ?_ | refine blk_alloc ?_ _)); refine blk_far ?_ NB824_829.out _; (with_reducible repeat (first | refine blk_drewN ?_ _ | refine blk_drew ?_ | refine blk_alloc ?_ _)); refine blk_far ?_ NB824_829.out _; (with_reducible repeat (first | refine blk_drewN ?_ _ | refine blk_drew ?_ | refine blk_alloc ?_ _)); exact BK824.out⟩
        have n4_ : Aside0 ((((w44.setCell ⟨gb829, 0, none⟩ (.string ((rd_T52 l0_0 t827).f0))).setCell ⟨gb829, 1, none⟩ (.string ((rd_T52 l0_0 t827).f1))).setCell ⟨gb829, 2, none⟩ (.int .i64 ((rd_T52 l0_0 t827).f2))).heap[gb829]? = some (.cells #[.string ((rd_T52 l0_0 t827).f0), .string ((rd_T52 l0_0 t827).f1), .int .i64 ((rd_T52 l0_0 t827).f2)] 52 (0, 0))) := ⟨by (with_reducible repeat (first | refine blk_drewN ?_ _ | refine blk_drew ?_ | refine blk_alloc ?_ _)); refine blk_put (cs := #[.string ((rd_T52 l0_0 t827).f0), .string ((rd_T52 l0_0 t827).f1), .int .i64 0]) ?_ 2 _ rfl; (with_reducible repeat (first | refine blk_drewN ?_ _ | refine blk_drew ?_ | refine blk_alloc ?_ _)); refine blk_put (cs := #[.string ((rd_T52 l0_0 t827).f0), .string (⟨#[]⟩ : ByteArray), .int .i64 0]) ?_ 1 _ rfl; (with_reducible repeat (first | refine blk_drewN ?_ _ | refine blk_drew ?_ | refine blk_alloc ?_ _)); refine blk_put (cs := #[.string (⟨#[]⟩ : ByteArray), .string (⟨#[]⟩ : ByteArray), .int .i64 0]) ?_ 0 _ rfl; (with_reducible repeat (first | refine blk_drewN ?_ _ | refine blk_drew ?_ | refine blk_alloc ?_ _)); exact BK829.out⟩
        have n5_ : Aside0 (Below w.heap.size w (((w44.setCell ⟨gb829, 0, none⟩ (.string ((rd_T52 l0_0 t827).f0))).setCell ⟨gb829, 1, none⟩ (.string ((rd_T52 l0_0 t827).f1))).setCell ⟨gb829, 2, none⟩ (.int .i64 ((rd_T52 l0_0 t827).f2)))) := ⟨by repeat (first | (with_reducible first | exact HB.out | apply below_alloc | apply pw_below_drewN | apply below_drew1 | refine below_set ?_ GE816.out | refine below_set ?_ GE817.out | refine below_set ?_ GE824.out | refine below_set ?_ GE829.out) | exact HB.out)⟩
        (try clear HO_825000)
        (try clear BK816)
        (try clear BK817)
        (try clear BK824)
        (try clear BK829)
        (try clear HB)
        generalize (((w44.setCell ⟨gb829, 0, none⟩ (.string ((rd_T52 l0_0 t827).f0))).setCell ⟨gb829, 1, none⟩ (.string ((rd_T52 l0_0 t827).f1))).setCell ⟨gb829, 2, none⟩ (.int .i64 ((rd_T52 l0_0 t827).f2))) = w49 at n0_ n1_ n2_ n3_ n4_ n5_ ⊢
        have HO_825000 := n0_
        have BK816 := n1_
        have BK817 := n2_
        have BK824 := n3_
        have BK829 := n4_
        have HB := n5_
        clear n0_ n1_ n2_ n3_ n4_ n5_
        have n0_ := Aside0.mk (Kd.R_drew HO_825000.out)
        have n1_ := Aside0.mk (blk_drew BK816.out)
        have n2_ := Aside0.mk (blk_drew BK817.out)
        have n3_ := Aside0.mk (blk_drew BK824.out)
        have n4_ := Aside0.mk (blk_drew BK829.out)
        have n5_ := Aside0.mk (below_drew1 HB.out)
        clear HO_825000
        clear BK816
        clear BK817
        clear BK824
        clear BK829
        clear HB
        have HO_825000 := n0_
        have BK816 := n1_
        have BK817 := n2_
        have BK824 := n3_
        have BK829 := n4_
        have HB := n5_
        clear n0_ n1_ n2_ n3_ n4_ n5_
        refine start_ (n := 13) (S := fun w' => w'.cell? ⟨gb816, 0, none⟩ = some (.slice (some ad828) l0_0.length c0_0) ∧ w'.cell? ⟨gb816, 1, none⟩ = some (.int .i64 a0_1) ∧ w'.cell? ⟨gb816, 2, none⟩ = some (.int .i64 a0_2) ∧ w'.cell? ⟨gb829, 0, none⟩ = some (.string ((rd_T52 l0_0 t827).f0)) ∧ w'.cell? ⟨gb829, 1, none⟩ = some (.string ((rd_T52 l0_0 t827).f1)) ∧ w'.cell? ⟨gb829, 2, none⟩ = some (.int .i64 ((rd_T52 l0_0 t827).f2))) (ds := []) #[false, false, false, false, false, false, false, false, false, false, false, false, false] (by kernel_rfl) rfl rfl ⟨(blk_cell BK816.out 0).trans rfl, (blk_cell BK816.out 1).trans rfl, (blk_cell BK816.out 2).trans rfl, (blk_cell BK829.out 0).trans rfl, (blk_cell BK829.out 1).trans rfl, (blk_cell BK829.out 2).trans rfl⟩ (fun hHeld => ?_); refine with_tabW spec_FsRename.tab10 spec_FsRename.bits10 (fun HT_ HW_ => ?_)
        generalize w49.drew = w50 at HO_825000 BK816 BK817 BK824 BK829 HB hHeld ⊢
        refine pure_ (i := 0) (N := some 41) (v := ?_) (a' := ?_) #[true, false, false, false, false, false, false, false, false, false, false, false, false] rfl rfl (any_of HT_.out (by kernel_rfl)) (fun _ _ _ h => h) (Or.inl ⟨by rfl, ?_⟩) ?_ ?_
        rotate_left
        ·intro w'
         go_simp
         with_reducible rfl
        rotate_left
        ·simp only [Act.put, List.setIfInBounds_toArray, List.set_cons_zero, List.set_cons_succ, i64_w, i32_w]
         rfl
        refine pure_ (i := 2) (N := some 43) (v := ?_) (a' := ?_) #[true, false, true, false, false, false, false, false, false, false, false, false, false] rfl rfl (any_of HT_.out (by kernel_rfl)) (fun _ _ _ h => h) (Or.inl ⟨by rfl, ?_⟩) ?_ ?_
        rotate_left
        ·intro w'
         go_simp
         with_reducible rfl
        rotate_left
        ·simp only [Act.put, List.setIfInBounds_toArray, List.set_cons_zero, List.set_cons_succ, i64_w, i32_w]
         rfl
        refine pure_ (i := 4) (N := some 45) (v := ?_) (a' := ?_) #[true, false, true, false, true, false, false, false, false, false, false, false, false] rfl rfl (any_of HT_.out (by kernel_rfl)) (fun _ _ _ h => h) (Or.inl ⟨by rfl, ?_⟩) ?_ ?_
        rotate_left
        ·intro w'
         go_simp
         with_reducible rfl
        rotate_left
        ·simp only [Act.put, List.setIfInBounds_toArray, List.set_cons_zero, List.set_cons_succ, i64_w, i32_w]
         rfl
        refine pure_ (i := 5) (N := some 46) (v := ?_) (a' := ?_) #[true, false, true, false, true, true, false, false, false, false, false, false, false] rfl rfl (any_of HT_.out (by kernel_rfl)) (fun _ _ _ h => h) (Or.inl ⟨by rfl, ?_⟩) ?_ ?_
        rotate_left
        ·intro w'
         go_simp
         with_reducible rfl
        rotate_left
        ·simp only [Act.put, List.setIfInBounds_toArray, List.set_cons_zero, List.set_cons_succ, i64_w, i32_w]
         rfl
        refine pure_ (i := 7) (N := some 48) (v := ?_) (a' := ?_) #[true, false, true, false, true, true, false, true, false, false, false, false, false] rfl rfl (any_of HT_.out (by kernel_rfl)) (fun _ _ _ h => h) (Or.inl ⟨by rfl, ?_⟩) ?_ ?_
        rotate_left
        ·intro w'
         go_simp
         with_reducible rfl
        rotate_left
        ·simp only [Act.put, List.setIfInBounds_toArray, List.set_cons_zero, List.set_cons_succ, i64_w, i32_w]
         rfl
        refine take_ (i := 1) (N := some 42) (v := ?_) (a' := ?_) #[true, true, true, false, true, true, false, true, false, false, false, false, false] rfl rfl (take_ofW HT_.out HW_.out (by kernel_rfl)) (fun _ _ _ h => h) (Or.inl ⟨by rfl, ?_⟩) hHeld ?_ ?_
        rotate_left
        ·rintro w' ⟨s0, s1, s2, s3, s4, s5⟩
         go_simp
         with_reducible rfl
        rotate_left
        ·simp only [Act.put, List.setIfInBounds_toArray, List.set_cons_zero, List.set_cons_succ, i64_w, i32_w]
         rfl
        refine take_ (i := 6) (N := some 47) (v := ?_) (a' := ?_) #[true, true, true, false, true, true, true, true, false, false, false, false, false] rfl rfl (take_ofW HT_.out HW_.out (by kernel_rfl)) (fun _ _ _ h => h) (Or.inl ⟨by rfl, ?_⟩) hHeld ?_ ?_
        rotate_left
        ·rintro w' ⟨s0, s1, s2, s3, s4, s5⟩
         go_simp
         with_reducible rfl
        rotate_left
        ·simp only [Act.put, List.setIfInBounds_toArray, List.set_cons_zero, List.set_cons_succ, i64_w, i32_w]
         rfl
        refine take_ (i := 8) (N := some 49) (v := ?_) (a' := ?_) #[true, true, true, false, true, true, true, true, true, false, false, false, false] rfl rfl (take_ofW HT_.out HW_.out (by kernel_rfl)) (fun _ _ _ h => h) (Or.inl ⟨by rfl, ?_⟩) hHeld ?_ ?_
        rotate_left
        ·rintro w' ⟨s0, s1, s2, s3, s4, s5⟩
         go_simp
         with_reducible rfl
        rotate_left
        ·simp only [Act.put, List.setIfInBounds_toArray, List.set_cons_zero, List.set_cons_succ, i64_w, i32_w]
         rfl
        refine pure_ (i := 9) (N := some 50) (v := ?_) (a' := ?_) #[true, true, true, false, true, true, true, true, true, true, false, false, false] rfl rfl (any_of HT_.out (by kernel_rfl)) (fun _ _ _ h => h) (Or.inl ⟨by rfl, ?_⟩) ?_ ?_
        rotate_left
        ·intro w'
         go_simp
         with_reducible rfl
        rotate_left
        ·simp only [Act.put, List.setIfInBounds_toArray, List.set_cons_zero, List.set_cons_succ, i64_w, i32_w]
         rfl
        refine one_ (i := 3) (N := some 44) #[true, true, true, true, true, true, true, true, true, true, false, false, false] rfl rfl (one_of HT_.out (by kernel_rfl)) (by decide) (fun K hK => ?_)
        refine goes_ Try.func54 (by kernel_rfl) rfl #[.slice (some ad828) l0_0.length c0_0, .string a1] (by rfl) rfl rfl (by (try simp only [List.map_toArray, List.map_cons, List.map_nil]); first | done | rfl | (simp only [List.length_drop, List.length_take]; rfl)) ?_
        with_reducible refine (spec_l1Without.calls kj5 _ _ l0_0 a1 t830 _ ?side1 ?side2 A37.out).mono ?_
        (case side1 => repeat (first | exact (Kd.C_below HR0_0.out HB.out) | (with_reducible refine Kd.C_alloc ?_ _) | (with_reducible refine Kd.C_drewN ?_ _) | (with_reducible refine Kd.C_drew ?_)))
        (case side2 => exact HC0_0.out)
        rintro e w51 ⟨v831, rfl, ho0, hb⟩
        refine ⟨_, rfl, ?_⟩
        have n0_ := Aside0.mk (Kd.R_elder' (by (with_reducible repeat (first | apply Kd.R_alloc | apply Kd.R_drewN | apply Kd.R_drew)); exact HO_825000.out) (Kd.R_base ho0) hb)
        have n1_ := Aside0.mk (Kd.R_lower (Kd.R_newB (Kd.R_new' ho0 (Kd.R_lt (by (with_reducible repeat (first | apply Kd.R_alloc | apply Kd.R_drewN | apply Kd.R_drew)); exact HO_825000.out))) (g := gb829) (o := .cells #[.string ((rd_T52 l0_0 t827).f0), .string ((rd_T52 l0_0 t827).f1), .int .i64 ((rd_T52 l0_0 t827).f2)] 52 (0, 0)) (by (with_reducible repeat (first | refine blk_drewN ?_ _ | refine blk_drew ?_ | refine blk_alloc ?_ _)); exact BK829.out)) (below_size (by repeat (first | (with_reducible first | exact HB.out | apply below_alloc | apply pw_below_drewN | apply below_drew1 | refine below_set ?_ GE816.out | refine below_set ?_ GE817.out | refine below_set ?_ GE824.out | refine below_set ?_ GE829.out) | exact HB.out))))
        have n2_ := Aside0.mk (blk_below (g := gb816) (o := .cells #[.slice (some ad828) l0_0.length c0_0, .int .i64 a0_1, .int .i64 a0_2] 29 (0, 0)) (by (with_reducible repeat (first | refine blk_drewN ?_ _ | refine blk_drew ?_ | refine blk_alloc ?_ _)); exact BK816.out) hb)
        have n3_ := Aside0.mk (blk_below (g := gb817) (o := .cells #[.slice none 0 0, .int .i64 0, .int .i64 0] 29 (0, 0)) (by (with_reducible repeat (first | refine blk_drewN ?_ _ | refine blk_drew ?_ | refine blk_alloc ?_ _)); exact BK817.out) hb)
        have n4_ := Aside0.mk (blk_below (g := gb824) (o := .cells #[.slice Ao13 t818.length co13, .int .i64 t821, .int .i64 t822] 29 (0, 0)) (by (with_reducible repeat (first | refine blk_drewN ?_ _ | refine blk_drew ?_ | refine blk_alloc ?_ _)); exact BK824.out) hb)
        have n5_ := Aside0.mk (blk_below (g := gb829) (o := .cells #[.string ((rd_T52 l0_0 t827).f0), .string ((rd_T52 l0_0 t827).f1), .int .i64 ((rd_T52 l0_0 t827).f2)] 52 (0, 0)) (by (with_reducible repeat (first | refine blk_drewN ?_ _ | refine blk_drew ?_ | refine blk_alloc ?_ _)); exact BK829.out) hb)
        have n6_ := Aside0.mk (below_step (by repeat (first | (with_reducible first | exact HB.out | apply below_alloc | apply pw_below_drewN | apply below_drew1 | refine below_set ?_ GE816.out | refine below_set ?_ GE817.out | refine below_set ?_ GE824.out | refine below_set ?_ GE829.out) | exact HB.out)) hb)
        clear HO_825000
        clear BK816
        clear BK817
        clear BK824
        clear BK829
        clear HB
        have HO_825000 := n0_
        have HO832 := n1_
        have BK816 := n2_
        have BK817 := n3_
        have BK824 := n4_
        have BK829 := n5_
        have HB := n6_
        clear n0_ n1_ n2_ n3_ n4_ n5_ n6_
        (try clear hb)
        (try clear hb2)
        (try clear hk)
        (try clear hi)
        (try clear ho0)
        obtain ⟨Ao52, co52, eo52⟩ := Kd.R_slice HO832.out
        (first | subst eo52 | (injection eo52 with f1_ f2_ f3_; have f4_ := f1_.symm; have f5_ := f3_.symm; clear f1_ f2_ f3_; subst f4_; subst f5_))
        refine hK.out _ _ ⟨(blk_cell BK816.out 0).trans rfl, (blk_cell BK816.out 1).trans rfl, (blk_cell BK816.out 2).trans rfl, (blk_cell BK829.out 0).trans rfl, (blk_cell BK829.out 1).trans rfl, (blk_cell BK829.out 2).trans rfl⟩ (fun hHeld => ?_)
        clear hK K
        refine norm_ (a' := ?_) ?_ ?_
        rotate_left
        ·show Act.put _ (some 44) _ = _
         simp only [Act.put, List.setIfInBounds_toArray, List.set_cons_zero, List.set_cons_succ, i64_w, i32_w]
         rfl
        refine one_ (i := 10) (N := some 51) #[true, true, true, true, true, true, true, true, true, true, true, false, false] rfl rfl (one_of HT_.out (by kernel_rfl)) (by decide) (fun K hK => ?_)
        refine goes_ Try.func58 (by kernel_rfl) rfl #[.slice Ao52 t830.length co52, .agg #[.string a2, .string ((rd_T52 l0_0 t827).f1), .int .i64 ((rd_T52 l0_0 t827).f2)]] (by rfl) rfl rfl (by (try simp only [List.map_toArray, List.map_cons, List.map_nil]); first | done | rfl | (simp only [List.length_drop, List.length_take]; rfl)) ?_
        with_reducible refine (spec_l1With.calls kj5 _ _ t830 a2 ((rd_T52 l0_0 t827).f1) ((rd_T52 l0_0 t827).f2) t833 _ ?side1 ?side2 A38.out).mono ?_
        (case side1 => repeat (first | exact (Kd.R_reads' HO832.out).2.2 | (with_reducible refine Kd.C_alloc ?_ _) | (with_reducible refine Kd.C_drewN ?_ _) | (with_reducible refine Kd.C_drew ?_)))
        (case side2 => exact (Kd.R_reads' HO832.out).2.1)
        rintro e w53 ⟨v834, rfl, ho0, hb⟩
        refine ⟨_, rfl, ?_⟩
        have n0_ := Aside0.mk (Kd.R_elder' (by (with_reducible repeat (first | apply Kd.R_alloc | apply Kd.R_drewN | apply Kd.R_drew)); exact HO_825000.out) (Kd.R_base ho0) hb)
        have n1_ := Aside0.mk (Kd.R_elder' (by (with_reducible repeat (first | apply Kd.R_alloc | apply Kd.R_drewN | apply Kd.R_drew)); exact HO832.out) (Kd.R_base ho0) hb)
        have n2_ := Aside0.mk (Kd.R_lower (Kd.R_newB (Kd.R_new' (Kd.R_new' ho0 (Kd.R_lt (by (with_reducible repeat (first | apply Kd.R_alloc | apply Kd.R_drewN | apply Kd.R_drew)); exact HO_825000.out))) (Kd.R_lt (by (with_reducible repeat (first | apply Kd.R_alloc | apply Kd.R_drewN | apply Kd.R_drew)); exact HO832.out))) (g := gb829) (o := .cells #[.string ((rd_T52 l0_0 t827).f0), .string ((rd_T52 l0_0 t827).f1), .int .i64 ((rd_T52 l0_0 t827).f2)] 52 (0, 0)) (by (with_reducible repeat (first | refine blk_drewN ?_ _ | refine blk_drew ?_ | refine blk_alloc ?_ _)); exact BK829.out)) (below_size (by repeat (first | (with_reducible first | exact HB.out | apply below_alloc | apply pw_below_drewN | apply below_drew1 | refine below_set ?_ GE816.out | refine below_set ?_ GE817.out | refine below_set ?_ GE824.out | refine below_set ?_ GE829.out) | exact HB.out))))
        have n3_ := Aside0.mk (blk_below (g := gb816) (o := .cells #[.slice (some ad828) l0_0.length c0_0, .int .i64 a0_1, .int .i64 a0_2] 29 (0, 0)) (by (with_reducible repeat (first | refine blk_drewN ?_ _ | refine blk_drew ?_ | refine blk_alloc ?_ _)); exact BK816.out) hb)
        have n4_ := Aside0.mk (blk_below (g := gb817) (o := .cells #[.slice none 0 0, .int .i64 0, .int .i64 0] 29 (0, 0)) (by (with_reducible repeat (first | refine blk_drewN ?_ _ | refine blk_drew ?_ | refine blk_alloc ?_ _)); exact BK817.out) hb)
        have n5_ := Aside0.mk (blk_below (g := gb824) (o := .cells #[.slice Ao13 t818.length co13, .int .i64 t821, .int .i64 t822] 29 (0, 0)) (by (with_reducible repeat (first | refine blk_drewN ?_ _ | refine blk_drew ?_ | refine blk_alloc ?_ _)); exact BK824.out) hb)
        have n6_ := Aside0.mk (blk_below (g := gb829) (o := .cells #[.string ((rd_T52 l0_0 t827).f0), .string ((rd_T52 l0_0 t827).f1), .int .i64 ((rd_T52 l0_0 t827).f2)] 52 (0, 0)) (by (with_reducible repeat (first | refine blk_drewN ?_ _ | refine blk_drew ?_ | refine blk_alloc ?_ _)); exact BK829.out) hb)
        have n7_ := Aside0.mk (below_step (by repeat (first | (with_reducible first | exact HB.out | apply below_alloc | apply pw_below_drewN | apply below_drew1 | refine below_set ?_ GE816.out | refine below_set ?_ GE817.out | refine below_set ?_ GE824.out | refine below_set ?_ GE829.out) | exact HB.out)) hb)
        clear HO_825000
        clear HO832
        clear BK816
        clear BK817
        clear BK824
        clear BK829
        clear HB
        have HO_825000 := n0_
        have HO832 := n1_
        have HO835 := n2_
        have BK816 := n3_
        have BK817 := n4_
        have BK824 := n5_
        have BK829 := n6_
        have HB := n7_
        clear n0_ n1_ n2_ n3_ n4_ n5_ n6_ n7_
        (try clear hb)
        (try clear hb2)
        (try clear hk)
        (try clear hi)
        (try clear ho0)
        obtain ⟨Ao54, co54, eo54⟩ := Kd.R_slice HO835.out
        (first | subst eo54 | (injection eo54 with f1_ f2_ f3_; have f4_ := f1_.symm; have f5_ := f3_.symm; clear f1_ f2_ f3_; subst f4_; subst f5_))
        refine hK.out _ _ ⟨(blk_cell BK816.out 0).trans rfl, (blk_cell BK816.out 1).trans rfl, (blk_cell BK816.out 2).trans rfl, (blk_cell BK829.out 0).trans rfl, (blk_cell BK829.out 1).trans rfl, (blk_cell BK829.out 2).trans rfl⟩ (fun hHeld => ?_)
        clear hK K
        refine norm_ (a' := ?_) ?_ ?_
        rotate_left
        ·show Act.put _ (some 51) _ = _
         simp only [Act.put, List.setIfInBounds_toArray, List.set_cons_zero, List.set_cons_succ, i64_w, i32_w]
         rfl
        refine pure_ (i := 11) (N := some 52) (v := ?_) (a' := ?_) #[true, true, true, true, true, true, true, true, true, true, true, true, false] rfl rfl (any_of HT_.out (by kernel_rfl)) (fun _ _ _ h => h) (Or.inl ⟨by rfl, ?_⟩) ?_ ?_
        rotate_left
        ·intro w'
         go_simp
         with_reducible rfl
        rotate_left
        ·simp only [Act.put, List.setIfInBounds_toArray, List.set_cons_zero, List.set_cons_succ, i64_w, i32_w]
         rfl
        refine one_ (i := 12) (N := none) #[true, true, true, true, true, true, true, true, true, true, true, true, true] rfl rfl (one_of HT_.out (by kernel_rfl)) (by decide) (fun K hK => ?_)
        have hs55 : w53.cell? ⟨gb824, 0, none⟩ = some (.slice Ao13 t818.length co13) := (blk_cell BK824.out 0).trans rfl
        have hfs55 := blk_frozen BK824.out 0
        have hns55_0 := NB816_824.out
        have hns55_1 := NB817_824.out
        have hns55_3 := NB829_824.out
        have hms55_0 := NB824_816.out
        have hms55_1 := NB824_817.out
        have hms55_3 := NB824_829.out
        refine skip_ (w1 := ?_) (by rfl) rfl ?_ ?_
        rotate_left
        ·go_simp
         rfl
        refine hK.out _ _ ⟨((cell_far (p := ⟨gb824, _, none⟩) NB816_824.out _).trans (hHeld.1)), ((cell_far (p := ⟨gb824, _, none⟩) NB816_824.out _).trans (hHeld.2.1)), ((cell_far (p := ⟨gb824, _, none⟩) NB816_824.out _).trans (hHeld.2.2.1)), ((cell_far (p := ⟨gb824, _, none⟩) NB829_824.out _).trans (hHeld.2.2.2.1)), ((cell_far (p := ⟨gb824, _, none⟩) NB829_824.out _).trans (hHeld.2.2.2.2.1)), ((cell_far (p := ⟨gb824, _, none⟩) NB829_824.out _).trans (hHeld.2.2.2.2.2))⟩ (fun hHeld => ?_)
        clear hK K
        refine done_ (done_of HT_.out (by kernel_rfl)) ?_
        have hnb56 := NB824_817.out
        have hnc56 := NB817_824.out
        have hcz57_0 : w53.cell? ⟨gb824, 0, none⟩ = some (.slice Ao13 t818.length co13) := (blk_cell BK824.out 0).trans rfl
        have hcz57_1 : w53.cell? ⟨gb824, 1, none⟩ = some (.int .i64 t821) := (blk_cell BK824.out 1).trans rfl
        have hcz57_2 : w53.cell? ⟨gb824, 2, none⟩ = some (.int .i64 t822) := (blk_cell BK824.out 2).trans rfl
        have hfz57_0 := blk_frozen BK824.out 0
        have hfz57_1 := blk_frozen BK824.out 1
        have hfz57_2 := blk_frozen BK824.out 2
        have hcz58_0 : w53.cell? ⟨gb817, 0, none⟩ = some (.slice none 0 0) := (blk_cell BK817.out 0).trans rfl
        have hcz58_1 : w53.cell? ⟨gb817, 1, none⟩ = some (.int .i64 0) := (blk_cell BK817.out 1).trans rfl
        have hcz58_2 : w53.cell? ⟨gb817, 2, none⟩ = some (.int .i64 0) := (blk_cell BK817.out 2).trans rfl
        have hfz58_0 := blk_frozen BK817.out 0
        have hfz58_1 := blk_frozen BK817.out 1
        have hfz58_2 := blk_frozen BK817.out 2
        try go_wp2
        refine bodyPost_ret (results_ct rfl _ _ gb817 29 #[.slice Ao54 t833.length co54, .int .i64 t821, .int .i64 t822] (0, 0) _ rfl (by (with_reducible repeat (first | refine blk_drewN ?_ _ | refine blk_drew ?_ | refine blk_alloc ?_ _)); refine blk_put (cs := #[.slice Ao54 t833.length co54, .int .i64 t821, .int .i64 0]) ?_ 2 _ rfl; (with_reducible repeat (first | refine blk_drewN ?_ _ | refine blk_drew ?_ | refine blk_alloc ?_ _)); refine blk_put (cs := #[.slice Ao54 t833.length co54, .int .i64 0, .int .i64 0]) ?_ 1 _ rfl; (with_reducible repeat (first | refine blk_drewN ?_ _ | refine blk_drew ?_ | refine blk_alloc ?_ _)); refine blk_put (cs := #[.slice none 0 0, .int .i64 0, .int .i64 0]) ?_ 0 _ rfl; (with_reducible repeat (first | refine blk_drewN ?_ _ | refine blk_drew ?_ | refine blk_alloc ?_ _)); refine blk_far ?_ NB817_824.out _; (with_reducible repeat (first | refine blk_drewN ?_ _ | refine blk_drew ?_ | refine blk_alloc ?_ _)); exact BK817.out) Try.underlying29 rfl (by kernel_rfl)) rfl ?_
        exact ⟨_, by first | rfl | (simp [errW_none, errW_some] <;> rfl) | (simp [*, errW_none, errW_some] <;> rfl), by (with_reducible repeat (first | apply Kd.R_alloc | apply Kd.R_drewN | apply Kd.R_drew)); exact Kd.R_mono (Kd.R_far (p := ⟨gb817, 2, none⟩) (Kd.R_far (p := ⟨gb817, 1, none⟩) (Kd.R_far (p := ⟨gb817, 0, none⟩) (Kd.R_far (p := ⟨gb824, 0, none⟩) (Kd.R_types (Kd.R_types HO835.out BK824.out (by decide)) BK817.out (by decide)) (fun _ hk => hk.1.2) (.slice Ao54 t833.length co54)) (fun _ hk => hk.2) (.slice Ao54 t833.length co54)) (fun _ hk => hk.2) (.int .i64 t821)) (fun _ hk => hk.2) (.int .i64 t822)) (fun _ hk => trivial), by repeat (first | (with_reducible first | exact HB.out | apply below_alloc | apply pw_below_drewN | apply below_drew1 | refine below_set ?_ GE816.out | refine below_set ?_ GE817.out | refine below_set ?_ GE824.out | refine below_set ?_ GE829.out) | exact HB.out)⟩
       ·rw [if_neg c36] at H
        exact absurd H (by simp)
      ·rw [if_neg c35] at H
       exact absurd H (by simp)
 ·rw [if_neg c5] at H
  have c5b0 : (t823 == 0) = false := beq_eq_false_iff_ne.mpr c5
  have c5b1 : (t823 != 0) = true := bne_iff_ne.mpr c5
  simp only [Option.some.injEq, Prod.mk.injEq] at H
  obtain ⟨rfl, rfl, rfl, rfl⟩ := H
  go_enter Try.func37, Try.ntmps37
  go_wp2_with (first | ((with_reducible refine gate_dst (N := 3) rfl ?_); refine box_event ?hg (N := 3) ?hd (cs := #[.slice A0_0 l0_0.length c0_0, .int .i64 a0_1, .int .i64 a0_2]) (t := 29) ?hr ?_; (case hd => rfl); (case hg => rfl); (case hr => first | (go_simp; done) | (go_simp; rfl)); intro gb816 hg w59 hbox hb; have n0_ := Aside0.mk (below_step (by repeat (first | (with_reducible first | exact HB.out | apply below_alloc | apply pw_below_drewN | apply below_drew1) | exact HB.out)) hb); have n1_ := Aside0.mk (hbox); have n2_ := Aside0.mk ((by rw [hg]; exact (below_size (by repeat (first | (with_reducible first | exact HB.out | apply below_alloc | apply pw_below_drewN | apply below_drew1) | exact HB.out))) : w.heap.size ≤ gb816)); have n3_ := Aside0.mk ((by rw [hg]; exact (below_size (by repeat (first | (with_reducible first | exact HB.out | apply below_alloc | apply pw_below_drewN | apply below_drew1) | exact HB.out))) : w.heap.size ≤ gb816)); clear HB; have HB := n0_; have BK816 := n1_; have GW816 := n2_; have GE816 := n3_; clear n0_ n1_ n2_ n3_; clear hb hbox hg) | ((with_reducible refine gate_dst (N := 6) rfl ?_); refine box_event ?hg (N := 6) ?hd (cs := #[.slice none 0 0, .int .i64 0, .int .i64 0]) (t := 29) ?hr ?_; (case hd => rfl); (case hg => rfl); (case hr => first | (go_simp; done) | (go_simp; rfl)); intro gb817 hg w60 hbox hb; have n0_ := Aside0.mk (blk_below (g := gb816) (o := .cells #[.slice A0_0 l0_0.length c0_0, .int .i64 a0_1, .int .i64 a0_2] 29 (0, 0)) (by (with_reducible repeat (first | refine blk_drewN ?_ _ | refine blk_drew ?_ | refine blk_alloc ?_ _)); exact BK816.out) hb); have n1_ := Aside0.mk (below_step (by repeat (first | (with_reducible first | exact HB.out | apply below_alloc | apply pw_below_drewN | apply below_drew1 | refine below_set ?_ GE816.out) | exact HB.out)) hb); have n2_ := Aside0.mk (hbox); have n3_ := Aside0.mk ((by rw [hg]; exact (below_size (by repeat (first | (with_reducible first | exact HB.out | apply below_alloc | apply pw_below_drewN | apply below_drew1 | refine below_set ?_ GE816.out) | exact HB.out))) : w.heap.size ≤ gb817)); have n4_ := Aside0.mk ((by rw [hg]; exact (below_size (by repeat (first | (with_reducible first | exact HB.out | apply below_alloc | apply pw_below_drewN | apply below_drew1 | refine below_set ?_ GE816.out) | exact HB.out))) : w.heap.size ≤ gb817)); have n5_ := Aside0.mk ((by rw [hg]; exact Nat.ne_of_lt (blk_lt (g := gb816) (o := .cells #[.slice A0_0 l0_0.length c0_0, .int .i64 a0_1, .int .i64 a0_2] 29 (0, 0)) (by (with_reducible repeat (first | refine blk_drewN ?_ _ | refine blk_drew ?_ | refine blk_alloc ?_ _)); exact BK816.out)) : gb816 ≠ gb817)); have n6_ := Aside0.mk ((by rw [hg]; exact Nat.ne_of_gt (blk_lt (g := gb816) (o := .cells #[.slice A0_0 l0_0.length c0_0, .int .i64 a0_1, .int .i64 a0_2] 29 (0, 0)) (by (with_reducible repeat (first | refine blk_drewN ?_ _ | refine blk_drew ?_ | refine blk_alloc ?_ _)); exact BK816.out)) : gb817 ≠ gb816)); clear BK816; clear HB; have BK816 := n0_; have HB := n1_; have BK817 := n2_; have GW817 := n3_; have GE817 := n4_; have NB816_817 := n5_; have NB817_816 := n6_; clear n0_ n1_ n2_ n3_ n4_ n5_ n6_; clear hb hbox hg; have hnb61 := NB816_817.out; have hnc61 := NB817_816.out; have hcz62_0 : w60.cell? ⟨gb816, 0, none⟩ = some (.slice A0_0 l0_0.length c0_0) := (blk_cell BK816.out 0).trans rfl; have hcz62_1 : w60.cell? ⟨gb816, 1, none⟩ = some (.int .i64 a0_1) := (blk_cell BK816.out 1).trans rfl; have hcz62_2 : w60.cell? ⟨gb816, 2, none⟩ = some (.int .i64 a0_2) := (blk_cell BK816.out 2).trans rfl; have hfz62_0 := blk_frozen BK816.out 0; have hfz62_1 := blk_frozen BK816.out 1; have hfz62_2 := blk_frozen BK816.out 2) | ((with_reducible refine gate_callee (f := 52) rfl ?_); refine goesL_ (some 14) rfl rfl Try.func52 (by kernel_rfl) rfl #[.agg #[.slice A0_0 l0_0.length c0_0, .int .i64 a0_1, .int .i64 a0_2]] rfl (by (try simp only [List.map_toArray, List.map_cons, List.map_nil]); first | done | rfl | (simp only [List.length_drop, List.length_take]; rfl)) ?_; (with_reducible refine (spec_l1Begin.calls k _ _ l0_0 a0_1 a0_2 t818 t821 t822 t823 _ ?side1 ?side2 A4.out).mono ?_); (case side1 => repeat (first | exact (Kd.C_below HR0_0.out HB.out) | (with_reducible refine Kd.C_alloc ?_ _) | (with_reducible refine Kd.C_drewN ?_ _) | (with_reducible refine Kd.C_drew ?_))); (case side2 => exact HC0_0.out); rintro e w63 ⟨v819, rfl, ho0, hb⟩; refine ⟨_, rfl, ?_⟩; have n0_ := Aside0.mk (Kd.R_lower ho0 (below_size (by repeat (first | (with_reducible first | exact HB.out | apply below_alloc | apply pw_below_drewN | apply below_drew1 | refine below_set ?_ GE816.out | refine below_set ?_ GE817.out) | exact HB.out)))); have n1_ := Aside0.mk (blk_below (g := gb816) (o := .cells #[.slice A0_0 l0_0.length c0_0, .int .i64 a0_1, .int .i64 a0_2] 29 (0, 0)) (by (with_reducible repeat (first | refine blk_drewN ?_ _ | refine blk_drew ?_ | refine blk_alloc ?_ _)); exact BK816.out) hb); have n2_ := Aside0.mk (blk_below (g := gb817) (o := .cells #[.slice none 0 0, .int .i64 0, .int .i64 0] 29 (0, 0)) (by (with_reducible repeat (first | refine blk_drewN ?_ _ | refine blk_drew ?_ | refine blk_alloc ?_ _)); exact BK817.out) hb); have n3_ := Aside0.mk (below_step (by repeat (first | (with_reducible first | exact HB.out | apply below_alloc | apply pw_below_drewN | apply below_drew1 | refine below_set ?_ GE816.out | refine below_set ?_ GE817.out) | exact HB.out)) hb); clear BK816; clear BK817; clear HB; have HO820 := n0_; have BK816 := n1_; have BK817 := n2_; have HB := n3_; clear n0_ n1_ n2_ n3_; (try clear hb); (try clear hb2); (try clear hk); (try clear hi); (try clear ho0)) | ((with_reducible refine gate_dst (N := 8) rfl ?_); refine box_event ?hg (N := 8) ?hd (cs := #[.slice none 0 0, .int .i64 0, .int .i64 0]) (t := 29) ?hr ?_; (case hd => rfl); (case hg => rfl); (case hr => first | (go_simp; done) | (go_simp; rfl)); intro gb824 hg w64 hbox hb; have n0_ := Aside0.mk (Kd.R_below (by (with_reducible repeat (first | apply Kd.R_alloc | apply Kd.R_drewN | apply Kd.R_drew)); exact HO820.out) hb); have n1_ := Aside0.mk (blk_below (g := gb816) (o := .cells #[.slice A0_0 l0_0.length c0_0, .int .i64 a0_1, .int .i64 a0_2] 29 (0, 0)) (by (with_reducible repeat (first | refine blk_drewN ?_ _ | refine blk_drew ?_ | refine blk_alloc ?_ _)); exact BK816.out) hb); have n2_ := Aside0.mk (blk_below (g := gb817) (o := .cells #[.slice none 0 0, .int .i64 0, .int .i64 0] 29 (0, 0)) (by (with_reducible repeat (first | refine blk_drewN ?_ _ | refine blk_drew ?_ | refine blk_alloc ?_ _)); exact BK817.out) hb); have n3_ := Aside0.mk (below_step (by repeat (first | (with_reducible first | exact HB.out | apply below_alloc | apply pw_below_drewN | apply below_drew1 | refine below_set ?_ GE816.out | refine below_set ?_ GE817.out) | exact HB.out)) hb); have n4_ := Aside0.mk (hbox); have n5_ := Aside0.mk ((by rw [hg]; exact (below_size (by repeat (first | (with_reducible first | exact HB.out | apply below_alloc | apply pw_below_drewN | apply below_drew1 | refine below_set ?_ GE816.out | refine below_set ?_ GE817.out) | exact HB.out))) : w.heap.size ≤ gb824)); have n6_ := Aside0.mk ((by rw [hg]; exact (below_size (by repeat (first | (with_reducible first | exact HB.out | apply below_alloc | apply pw_below_drewN | apply below_drew1 | refine below_set ?_ GE816.out | refine below_set ?_ GE817.out) | exact HB.out))) : w.heap.size ≤ gb824)); have n7_ := Aside0.mk ((by rw [hg]; exact Nat.ne_of_lt (blk_lt (g := gb816) (o := .cells #[.slice A0_0 l0_0.length c0_0, .int .i64 a0_1, .int .i64 a0_2] 29 (0, 0)) (by (with_reducible repeat (first | refine blk_drewN ?_ _ | refine blk_drew ?_ | refine blk_alloc ?_ _)); exact BK816.out)) : gb816 ≠ gb824)); have n8_ := Aside0.mk ((by rw [hg]; exact Nat.ne_of_gt (blk_lt (g := gb816) (o := .cells #[.slice A0_0 l0_0.length c0_0, .int .i64 a0_1, .int .i64 a0_2] 29 (0, 0)) (by (with_reducible repeat (first | refine blk_drewN ?_ _ | refine blk_drew ?_ | refine blk_alloc ?_ _)); exact BK816.out)) : gb824 ≠ gb816)); have n9_ := Aside0.mk ((by rw [hg]; exact Nat.ne_of_lt (blk_lt (g := gb817) (o := .cells #[.slice none 0 0, .int .i64 0, .int .i64 0] 29 (0, 0)) (by (with_reducible repeat (first | refine blk_drewN ?_ _ | refine blk_drew ?_ | refine blk_alloc ?_ _)); exact BK817.out)) : gb817 ≠ gb824)); have n10_ := Aside0.mk ((by rw [hg]; exact Nat.ne_of_gt (blk_lt (g := gb817) (o := .cells #[.slice none 0 0, .int .i64 0, .int .i64 0] 29 (0, 0)) (by (with_reducible repeat (first | refine blk_drewN ?_ _ | refine blk_drew ?_ | refine blk_alloc ?_ _)); exact BK817.out)) : gb824 ≠ gb817)); clear HO820; clear BK816; clear BK817; clear HB; have HO820 := n0_; have BK816 := n1_; have BK817 := n2_; have HB := n3_; have BK824 := n4_; have GW824 := n5_; have GE824 := n6_; have NB816_824 := n7_; have NB824_816 := n8_; have NB817_824 := n9_; have NB824_817 := n10_; clear n0_ n1_ n2_ n3_ n4_ n5_ n6_ n7_ n8_ n9_ n10_; clear hb hbox hg; obtain ⟨Ao65, co65, eo65⟩ := Kd.R_slice HO820.out; subst eo65; have hnb66 := NB824_816.out; have hnc66 := NB816_824.out; have hnb67 := NB824_817.out; have hnc67 := NB817_824.out; have hcz68_0 : w64.cell? ⟨gb824, 0, none⟩ = some (.slice none 0 0) := (blk_cell BK824.out 0).trans rfl; have hcz68_1 : w64.cell? ⟨gb824, 1, none⟩ = some (.int .i64 0) := (blk_cell BK824.out 1).trans rfl; have hcz68_2 : w64.cell? ⟨gb824, 2, none⟩ = some (.int .i64 0) := (blk_cell BK824.out 2).trans rfl; have hfz68_0 := blk_frozen BK824.out 0; have hfz68_1 := blk_frozen BK824.out 1; have hfz68_2 := blk_frozen BK824.out 2; have hcz69_0 : w64.cell? ⟨gb817, 0, none⟩ = some (.slice none 0 0) := (blk_cell BK817.out 0).trans rfl; have hcz69_1 : w64.cell? ⟨gb817, 1, none⟩ = some (.int .i64 0) := (blk_cell BK817.out 1).trans rfl; have hcz69_2 : w64.cell? ⟨gb817, 2, none⟩ = some (.int .i64 0) := (blk_cell BK817.out 2).trans rfl; have hfz69_0 := blk_frozen BK817.out 0; have hfz69_1 := blk_frozen BK817.out 1; have hfz69_2 := blk_frozen BK817.out 2))
  refine bodyPost_ret (results_ct rfl _ _ gb817 29 #[.slice Ao65 t818.length co65, .int .i64 t821, .int .i64 t822] (0, 0) _ rfl (by (with_reducible repeat (first | refine blk_drewN ?_ _ | refine blk_drew ?_ | refine blk_alloc ?_ _)); refine blk_put (cs := #[.slice Ao65 t818.length co65, .int .i64 t821, .int .i64 0]) ?_ 2 _ rfl; (with_reducible repeat (first | refine blk_drewN ?_ _ | refine blk_drew ?_ | refine blk_alloc ?_ _)); refine blk_put (cs := #[.slice Ao65 t818.length co65, .int .i64 0, .int .i64 0]) ?_ 1 _ rfl; (with_reducible repeat (first | refine blk_drewN ?_ _ | refine blk_drew ?_ | refine blk_alloc ?_ _)); refine blk_put (cs := #[.slice none 0 0, .int .i64 0, .int .i64 0]) ?_ 0 _ rfl; (with_reducible repeat (first | refine blk_drewN ?_ _ | refine blk_drew ?_ | refine blk_alloc ?_ _)); refine blk_far ?_ NB817_824.out _; (with_reducible repeat (first | refine blk_drewN ?_ _ | refine blk_drew ?_ | refine blk_alloc ?_ _)); refine blk_far ?_ NB817_824.out _; (with_reducible repeat (first | refine blk_drewN ?_ _ | refine blk_drew ?_ | refine blk_alloc ?_ _)); refine blk_far ?_ NB817_824.out _; (with_reducible repeat (first | refine blk_drewN ?_ _ | refine blk_drew ?_ | refine blk_alloc ?_ _)); exact BK817.out) Try.underlying29 rfl (by kernel_rfl)) rfl ?_
  exact ⟨_, by first | rfl | (simp [errW_none, errW_some] <;> rfl) | (simp [*, errW_none, errW_some] <;> rfl), by (with_reducible repeat (first | apply Kd.R_alloc | apply Kd.R_drewN | apply Kd.R_drew)); exact Kd.R_mono (Kd.R_far (p := ⟨gb817, 2, none⟩) (Kd.R_far (p := ⟨gb817, 1, none⟩) (Kd.R_far (p := ⟨gb817, 0, none⟩) (Kd.R_far (p := ⟨gb824, 2, none⟩) (Kd.R_far (p := ⟨gb824, 1, none⟩) (Kd.R_far (p := ⟨gb824, 0, none⟩) (Kd.R_types (Kd.R_types HO820.out BK824.out (by decide)) BK817.out (by decide)) (fun _ hk => hk.1.2) (.slice Ao65 t818.length co65)) (fun _ hk => hk.1.2) (.int .i64 t821)) (fun _ hk => hk.1.2) (.int .i64 t822)) (fun _ hk => hk.2) (.slice Ao65 t818.length co65)) (fun _ hk => hk.2) (.int .i64 t821)) (fun _ hk => hk.2) (.int .i64 t822)) (fun _ hk => trivial), by repeat (first | (with_reducible first | exact HB.out | apply below_alloc | apply pw_below_drewN | apply below_drew1 | refine below_set ?_ GE816.out | refine below_set ?_ GE817.out | refine below_set ?_ GE824.out) | exact HB.out)⟩

end Go.Proofs.Ytbppijlcmeidaaa.P
end

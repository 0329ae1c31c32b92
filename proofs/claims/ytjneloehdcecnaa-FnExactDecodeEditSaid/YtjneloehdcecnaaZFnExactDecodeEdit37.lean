/- Texts of the claim FnExactDecodeEdit, part 37 of 38, joined: PlawsFnExactDecodeEdit, MEntLaw, MSpecEnc, MSpecDec, MRefLaw. No condition beyond those that stand at each. -/
import Derived.Test.YtjneloehdcecnaaZFnExactDecodeEdit25
import Derived.Test.YtjneloehdcecnaaZFnExactDecodeEdit28
import Derived.Test.YtjneloehdcecnaaZFnExactDecodeEdit30
import Derived.Test.YtjneloehdcecnaaZFnExactDecodeEdit31
import Derived.Test.YtjneloehdcecnaaZFnExactDecodeEdit32
import Derived.Test.YtjneloehdcecnaaZFnExactDecodeEdit36
import Derived.Test.YtjneloehdcecnaaZFnExactDecodeEdit23
import Derived.Test.YtjneloehdcecnaaZFnExactDecodeEdit21
import Derived.Deep.Slices
import Derived.Deep.Strs
import Derived.Lib.SmallJoins
import Derived.SizedLaws
import Derived.ChangeShapes
import Derived.WideShapes
import Derived.Test.YtjneloehdcecnaaZFnExactDecodeEdit26
import Derived.Test.YtjneloehdcecnaaZFnExactDecodeEdit22
import Derived.Test.YtjneloehdcecnaaZFnExactDecodeEdit27
import Derived.Test.YtjneloehdcecnaaZFnExactDecodeEdit34
import Derived.Test.YtjneloehdcecnaaZFnExactDecodeEdit29
section
-- Written by a changed copy of the print program, one module a function. Not trusted: Lean checks it.
namespace Go.Proofs.Ytjneloehdcecnaa.P
open Go.RowKit Go.Proofs.YtjneloehdcecnaaW.PrintWords Go.Proofs.YtjneloehdcecnaaW.PrintLast Go.Proofs.YtjneloehdcecnaaW.PrintMore
attribute [local go_sem] max2_int min2_int max_two min_two max_three min_three max_four min_four   -- for this text's walks alone
set_option linter.unusedVariables false
set_option linter.unusedSimpArgs false

/-! ### laws_FnExactDecodeEdit: function 9 -/
def laws_FnExactDecodeEdit.j0 : Nat → ByteArray → Bool → Bool → List (S87) → List Int → Int → Int → Int → List (S87) → List Int → Int → Int → Int → Option (Bool)
 | 0, _, _, _, _, _, _, _, _, _, _, _, _, _ => none
 | k + 1, x0, x4, x32, x442000, x442001, x442002, x442003, x442004, x453000, x453001, x453002, x453003, x453004 => if x32 = true then (some false) else ((laws_markEdit.f k x453000 x453001 x453002 x453003 x453004 1).bind fun bt454 => ((laws_heldEdit.f k bt454.2.1 bt454.2.2 x453002 x453003 x453004 1).bind fun t457 => (if t457 < 0 then (some false) else (if t457 = bt454.1 then ((impl_DecodeEdit.f x0).bind fun bt458 => ((laws_eqEdit.f k bt458.1 bt458.2.1 bt458.2.2.1 bt458.2.2.2.1 bt458.2.2.2.2.1 x442000 x442001 x442002 x442003 x442004).bind fun t469 => (if t469 = true then (if (bt458.2.2.2.2.2 != x4) = true then (some false) else (some true)) else (some false)))) else (some false)))))
def laws_FnExactDecodeEdit.f (k : Nat) (a0 : ByteArray) : Option (Bool) := if (a0.size : Int) > 1048576 then (some true) else ((spec_DecodeEdit.f k a0).bind fun bt431 => ((impl_DecodeEdit.f a0).bind fun bt442 => ((laws_eqEdit.f k bt442.1 bt442.2.1 bt442.2.2.1 bt442.2.2.2.1 bt442.2.2.2.2.1 bt431.1 bt431.2.1 bt431.2.2.1 bt431.2.2.2.1 bt431.2.2.2.2.1).bind fun t453 => (if t453 = true then (laws_FnExactDecodeEdit.j0 k a0 bt431.2.2.2.2.2 (bt442.2.2.2.2.2 != bt431.2.2.2.2.2) bt431.1 bt431.2.1 bt431.2.2.1 bt431.2.2.2.1 bt431.2.2.2.2.1 bt442.1 bt442.2.1 bt442.2.2.1 bt442.2.2.2.1 bt442.2.2.2.2.1) else (laws_FnExactDecodeEdit.j0 k a0 bt431.2.2.2.2.2 true bt431.1 bt431.2.1 bt431.2.2.1 bt431.2.2.2.1 bt431.2.2.2.2.1 bt442.1 bt442.2.1 bt442.2.2.1 bt442.2.2.2.1 bt442.2.2.2.2.1)))))
theorem laws_FnExactDecodeEdit.mono_l : ∀ k, (∀ y0 y1 y2 y3 y4 y5 y6 y7 y8 y9 y10 y11 y12, LeO (laws_FnExactDecodeEdit.j0 k y0 y1 y2 y3 y4 y5 y6 y7 y8 y9 y10 y11 y12) (laws_FnExactDecodeEdit.j0 (k + 1) y0 y1 y2 y3 y4 y5 y6 y7 y8 y9 y10 y11 y12))
 | 0 => fun _ _ _ _ _ _ _ _ _ _ _ _ _ r h => by simp [laws_FnExactDecodeEdit.j0] at h
 | k + 1 => by
  have ih0 := laws_FnExactDecodeEdit.mono_l k
  ·intro y0 y1 y2 y3 y4 y5 y6 y7 y8 y9 y10 y11 y12
   unfold laws_FnExactDecodeEdit.j0
   repeat' first
   | (with_reducible exact ih0 _ _ _ _ _ _ _ _ _ _ _ _ _)
   | (with_reducible exact laws_eqEdit.mono _ _ _ _ _ _ _ _ _ _ _)
   | (with_reducible exact laws_heldEdit.mono _ _ _ _ _ _ _)
   | (with_reducible exact laws_markEdit.mono _ _ _ _ _ _ _)
   | (with_reducible exact spec_DecodeEdit.mono _ _)
   | (with_reducible exact LeO.refl _)
   | (with_reducible exact LeO.none _)
   | (with_reducible refine LeO.ite ?_ ?_)
   | (with_reducible refine LeO.bind ?_ (fun _ => ?_))
   | exact ih0 _ _ _ _ _ _ _ _ _ _ _ _ _
   | exact laws_eqEdit.mono _ _ _ _ _ _ _ _ _ _ _
   | exact laws_heldEdit.mono _ _ _ _ _ _ _
   | exact laws_markEdit.mono _ _ _ _ _ _ _
   | exact spec_DecodeEdit.mono _ _
   | exact LeO.none _
   | refine LeO.ite ?_ ?_
   | refine LeO.bind ?_ (fun _ => ?_)
theorem laws_FnExactDecodeEdit.mono : ∀ a0 k, LeO (laws_FnExactDecodeEdit.f k a0) (laws_FnExactDecodeEdit.f (k + 1) a0) := by
 intro a0 k
 have ih0 := laws_FnExactDecodeEdit.mono_l k
 unfold laws_FnExactDecodeEdit.f
 repeat' first
   | (with_reducible exact ih0 _ _ _ _ _ _ _ _ _ _ _ _ _)
   | (with_reducible exact laws_eqEdit.mono _ _ _ _ _ _ _ _ _ _ _)
   | (with_reducible exact laws_heldEdit.mono _ _ _ _ _ _ _)
   | (with_reducible exact laws_markEdit.mono _ _ _ _ _ _ _)
   | (with_reducible exact spec_DecodeEdit.mono _ _)
   | (with_reducible exact LeO.refl _)
   | (with_reducible exact LeO.none _)
   | (with_reducible refine LeO.ite ?_ ?_)
   | (with_reducible refine LeO.bind ?_ (fun _ => ?_))
   | exact ih0 _ _ _ _ _ _ _ _ _ _ _ _ _
   | exact laws_eqEdit.mono _ _ _ _ _ _ _ _ _ _ _
   | exact laws_heldEdit.mono _ _ _ _ _ _ _
   | exact laws_markEdit.mono _ _ _ _ _ _ _
   | exact spec_DecodeEdit.mono _ _
   | exact LeO.none _
   | refine LeO.ite ?_ ?_
   | refine LeO.bind ?_ (fun _ => ?_)
set_option maxHeartbeats 8000000 in
set_option maxRecDepth 100000 in
theorem laws_FnExactDecodeEdit.calls (k : Nat) (a0 : ByteArray) (w : World) (h : laws_FnExactDecodeEdit.f k a0 = some true) :
  Calls Try.prog 9 #[.string a0] w fun e w' => e = .returned (.bool true) ∧ Below w.heap.size w w' := by
 have hu43 := Try.underlying43
 have HB := Aside0.mk (Below.refl w.heap.size w)
 have H : (if (a0.size : Int) > 1048576 then (some true) else ((spec_DecodeEdit.f k a0).bind fun bt431 => ((impl_DecodeEdit.f a0).bind fun bt442 => ((laws_eqEdit.f k bt442.1 bt442.2.1 bt442.2.2.1 bt442.2.2.2.1 bt442.2.2.2.2.1 bt431.1 bt431.2.1 bt431.2.2.1 bt431.2.2.2.1 bt431.2.2.2.2.1).bind fun t453 => (if t453 = true then (laws_FnExactDecodeEdit.j0 k a0 bt431.2.2.2.2.2 (bt442.2.2.2.2.2 != bt431.2.2.2.2.2) bt431.1 bt431.2.1 bt431.2.2.1 bt431.2.2.2.1 bt431.2.2.2.2.1 bt442.1 bt442.2.1 bt442.2.2.1 bt442.2.2.2.1 bt442.2.2.2.2.1) else (laws_FnExactDecodeEdit.j0 k a0 bt431.2.2.2.2.2 true bt431.1 bt431.2.1 bt431.2.2.1 bt431.2.2.2.1 bt431.2.2.2.2.1 bt442.1 bt442.2.1 bt442.2.2.1 bt442.2.2.2.1 bt442.2.2.2.2.1)))))) = some true := h
 clear h
 by_cases c2 : (a0.size : Int) > 1048576
 ·rw [if_pos c2] at H
  have c2b0 : decide (1048576 < (a0.size : Int)) = true := decide_eq_true c2
  have c2b1 : decide (1048576 < a0.size) = true := decide_eq_true (by omega)
  clear c2
  clear H
  go_enter Try.func9, Try.ntmps9
  go_wp2
  go_ret
  exact ⟨by first | rfl | (simp [errW_none, errW_some] <;> rfl) | (simp [*, errW_none, errW_some] <;> rfl), by repeat (first | (with_reducible first | exact HB.out | apply below_alloc | apply pw_below_drewN | apply below_drew1) | exact HB.out)⟩
 ·rw [if_neg c2] at H
  have c2b0 : decide (1048576 < (a0.size : Int)) = false := decide_eq_false c2
  have c2b1 : decide (1048576 < a0.size) = false := decide_eq_false (by omega)
  clear c2
  replace H := Option.bind_eq_some_iff.mp H
  obtain ⟨⟨t431, t434, t437, t438, t439, t440⟩, A30, H⟩ := H
  replace H : ((impl_DecodeEdit.f a0).bind fun bt442 => ((laws_eqEdit.f k bt442.1 bt442.2.1 bt442.2.2.1 bt442.2.2.2.1 bt442.2.2.2.2.1 t431 t434 t437 t438 t439).bind fun t453 => (if t453 = true then (laws_FnExactDecodeEdit.j0 k a0 t440 (bt442.2.2.2.2.2 != t440) t431 t434 t437 t438 t439 bt442.1 bt442.2.1 bt442.2.2.1 bt442.2.2.2.1 bt442.2.2.2.2.1) else (laws_FnExactDecodeEdit.j0 k a0 t440 true t431 t434 t437 t438 t439 bt442.1 bt442.2.1 bt442.2.2.1 bt442.2.2.2.1 bt442.2.2.2.2.1)))) = some true := H
  have A3 := Aside0.mk A30
  clear A30
  replace H := Option.bind_eq_some_iff.mp H
  obtain ⟨⟨t442, t445, t448, t449, t450, t451⟩, A40, H⟩ := H
  replace H : ((laws_eqEdit.f k t442 t445 t448 t449 t450 t431 t434 t437 t438 t439).bind fun t453 => (if t453 = true then (laws_FnExactDecodeEdit.j0 k a0 t440 (t451 != t440) t431 t434 t437 t438 t439 t442 t445 t448 t449 t450) else (laws_FnExactDecodeEdit.j0 k a0 t440 true t431 t434 t437 t438 t439 t442 t445 t448 t449 t450))) = some true := H
  have A4 := Aside0.mk A40
  clear A40
  have HC5 := Aside0.mk H
  clear H
  go_enter Try.func9, Try.ntmps9
  go_upto_region 5 with (first | ((with_reducible refine gate_callee (f := 29) rfl ?_); refine goesL_ (some 16) rfl rfl Try.func29 (by kernel_rfl) rfl #[.string a0] rfl (by (try simp only [List.map_toArray, List.map_cons, List.map_nil]); first | done | rfl | (simp only [List.length_drop, List.length_take]; rfl)) ?_; (with_reducible refine (spec_DecodeEdit.calls k a0 t431 t434 t437 t438 t439 t440 _ A3.out).mono ?_); rintro e w6 ⟨v432, v435, rfl, ho0, ho1, hb⟩; refine ⟨_, rfl, ?_⟩; have n0_ := Aside0.mk (Kd.R_lower ho0 (below_size (by repeat (first | (with_reducible first | exact HB.out | apply below_alloc | apply pw_below_drewN | apply below_drew1) | exact HB.out)))); have n1_ := Aside0.mk (Kd.R_lower ho1 (below_size (by repeat (first | (with_reducible first | exact HB.out | apply below_alloc | apply pw_below_drewN | apply below_drew1) | exact HB.out)))); have n2_ := Aside0.mk (below_step (by repeat (first | (with_reducible first | exact HB.out | apply below_alloc | apply pw_below_drewN | apply below_drew1) | exact HB.out)) hb); clear HB; have HO433 := n0_; have HO436 := n1_; have HB := n2_; clear n0_ n1_ n2_; (try clear hb); (try clear hb2); (try clear hk); (try clear hi); (try clear ho0); (try clear ho1)) | ((with_reducible refine gate_dst (N := 3) rfl ?_); refine box_event ?hg (N := 3) ?hd (cs := #[.slice none 0 0, .slice none 0 0, .int .i64 0, .int .i64 0, .int .i64 0]) (t := 43) ?hr ?_; (case hd => rfl); (case hg => rfl); (case hr => first | (go_simp; done) | (go_simp; rfl)); intro gb441 hg w7 hbox hb; have n0_ := Aside0.mk (Kd.R_below (by (with_reducible repeat (first | apply Kd.R_alloc | apply Kd.R_drewN | apply Kd.R_drew)); exact HO433.out) hb); have n1_ := Aside0.mk (Kd.R_below (by (with_reducible repeat (first | apply Kd.R_alloc | apply Kd.R_drewN | apply Kd.R_drew)); exact HO436.out) hb); have n2_ := Aside0.mk (below_step (by repeat (first | (with_reducible first | exact HB.out | apply below_alloc | apply pw_below_drewN | apply below_drew1) | exact HB.out)) hb); have n3_ := Aside0.mk (hbox); have n4_ := Aside0.mk ((by rw [hg]; exact (below_size (by repeat (first | (with_reducible first | exact HB.out | apply below_alloc | apply pw_below_drewN | apply below_drew1) | exact HB.out))) : w.heap.size ≤ gb441)); have n5_ := Aside0.mk ((by rw [hg]; exact (below_size (by repeat (first | (with_reducible first | exact HB.out | apply below_alloc | apply pw_below_drewN | apply below_drew1) | exact HB.out))) : w.heap.size ≤ gb441)); clear HO433; clear HO436; clear HB; have HO433 := n0_; have HO436 := n1_; have HB := n2_; have BK441 := n3_; have GW441 := n4_; have GE441 := n5_; clear n0_ n1_ n2_ n3_ n4_ n5_; clear hb hbox hg; obtain ⟨Ao8, co8, eo8⟩ := Kd.R_slice HO433.out; subst eo8; have hcz9_0 : w7.cell? ⟨gb441, 0, none⟩ = some (.slice none 0 0) := (blk_cell BK441.out 0).trans rfl; have hcz9_1 : w7.cell? ⟨gb441, 1, none⟩ = some (.slice none 0 0) := (blk_cell BK441.out 1).trans rfl; have hcz9_2 : w7.cell? ⟨gb441, 2, none⟩ = some (.int .i64 0) := (blk_cell BK441.out 2).trans rfl; have hcz9_3 : w7.cell? ⟨gb441, 3, none⟩ = some (.int .i64 0) := (blk_cell BK441.out 3).trans rfl; have hcz9_4 : w7.cell? ⟨gb441, 4, none⟩ = some (.int .i64 0) := (blk_cell BK441.out 4).trans rfl; have hfz9_0 := blk_frozen BK441.out 0; have hfz9_1 := blk_frozen BK441.out 1; have hfz9_2 := blk_frozen BK441.out 2; have hfz9_3 := blk_frozen BK441.out 3; have hfz9_4 := blk_frozen BK441.out 4; obtain ⟨Ao10, co10, eo10⟩ := Kd.R_slice HO436.out; subst eo10) | ((with_reducible refine gate_callee (f := 30) rfl ?_); refine goesL_ (some 21) rfl rfl Try.func30 (by kernel_rfl) rfl #[.string a0] rfl (by (try simp only [List.map_toArray, List.map_cons, List.map_nil]); first | done | rfl | (simp only [List.length_drop, List.length_take]; rfl)) ?_; (with_reducible refine (impl_DecodeEdit.calls a0 t442 t445 t448 t449 t450 t451 _ A4.out).mono ?_); rintro e w11 ⟨v443, v446, rfl, ho0, ho1, hb⟩; refine ⟨_, rfl, ?_⟩; have n0_ := Aside0.mk (Kd.R_elder' (by (with_reducible repeat (first | apply Kd.R_alloc | apply Kd.R_drewN | apply Kd.R_drew)); exact (Kd.R_mono (Kd.R_far (p := ⟨gb441, 4, none⟩) (Kd.R_far (p := ⟨gb441, 3, none⟩) (Kd.R_far (p := ⟨gb441, 2, none⟩) (Kd.R_far (p := ⟨gb441, 1, none⟩) (Kd.R_far (p := ⟨gb441, 0, none⟩) (Kd.R_types HO433.out BK441.out (by decide)) (fun _ hk => hk.2) (.slice Ao8 t431.length co8)) (fun _ hk => hk.2) (.slice Ao10 t434.length co10)) (fun _ hk => hk.2) (.int .i64 t437)) (fun _ hk => hk.2) (.int .i64 t438)) (fun _ hk => hk.2) (.int .i64 t439)) (fun _ h_ => h_.1))) (Kd.R_base ho0) hb); have n1_ := Aside0.mk (Kd.R_elder' (by (with_reducible repeat (first | apply Kd.R_alloc | apply Kd.R_drewN | apply Kd.R_drew)); exact (Kd.R_mono (Kd.R_far (p := ⟨gb441, 4, none⟩) (Kd.R_far (p := ⟨gb441, 3, none⟩) (Kd.R_far (p := ⟨gb441, 2, none⟩) (Kd.R_far (p := ⟨gb441, 1, none⟩) (Kd.R_far (p := ⟨gb441, 0, none⟩) (Kd.R_types HO436.out BK441.out (by decide)) (fun _ hk => hk.2) (.slice Ao8 t431.length co8)) (fun _ hk => hk.2) (.slice Ao10 t434.length co10)) (fun _ hk => hk.2) (.int .i64 t437)) (fun _ hk => hk.2) (.int .i64 t438)) (fun _ hk => hk.2) (.int .i64 t439)) (fun _ h_ => h_.1))) (Kd.R_base ho1) hb); have n2_ := Aside0.mk (Kd.R_lower (Kd.R_new' ho0 (Kd.R_lt (by (with_reducible repeat (first | apply Kd.R_alloc | apply Kd.R_drewN | apply Kd.R_drew)); exact (Kd.R_mono (Kd.R_far (p := ⟨gb441, 4, none⟩) (Kd.R_far (p := ⟨gb441, 3, none⟩) (Kd.R_far (p := ⟨gb441, 2, none⟩) (Kd.R_far (p := ⟨gb441, 1, none⟩) (Kd.R_far (p := ⟨gb441, 0, none⟩) (Kd.R_types HO433.out BK441.out (by decide)) (fun _ hk => hk.2) (.slice Ao8 t431.length co8)) (fun _ hk => hk.2) (.slice Ao10 t434.length co10)) (fun _ hk => hk.2) (.int .i64 t437)) (fun _ hk => hk.2) (.int .i64 t438)) (fun _ hk => hk.2) (.int .i64 t439)) (fun _ h_ => h_.1))))) (below_size (by repeat (first | (with_reducible first | exact HB.out | apply below_alloc | apply pw_below_drewN | apply below_drew1 | refine below_set ?_ GE441.out) | exact HB.out)))); have n3_ := Aside0.mk (Kd.R_lower (Kd.R_new' ho1 (Kd.R_lt (by (with_reducible repeat (first | apply Kd.R_alloc | apply Kd.R_drewN | apply Kd.R_drew)); exact (Kd.R_mono (Kd.R_far (p := ⟨gb441, 4, none⟩) (Kd.R_far (p := ⟨gb441, 3, none⟩) (Kd.R_far (p := ⟨gb441, 2, none⟩) (Kd.R_far (p := ⟨gb441, 1, none⟩) (Kd.R_far (p := ⟨gb441, 0, none⟩) (Kd.R_types HO436.out BK441.out (by decide)) (fun _ hk => hk.2) (.slice Ao8 t431.length co8)) (fun _ hk => hk.2) (.slice Ao10 t434.length co10)) (fun _ hk => hk.2) (.int .i64 t437)) (fun _ hk => hk.2) (.int .i64 t438)) (fun _ hk => hk.2) (.int .i64 t439)) (fun _ h_ => h_.1))))) (below_size (by repeat (first | (with_reducible first | exact HB.out | apply below_alloc | apply pw_below_drewN | apply below_drew1 | refine below_set ?_ GE441.out) | exact HB.out)))); have n4_ := Aside0.mk (blk_below (g := gb441) (o := .cells #[.slice Ao8 t431.length co8, .slice Ao10 t434.length co10, .int .i64 t437, .int .i64 t438, .int .i64 t439] 43 (0, 0)) (by (with_reducible repeat (first | refine blk_drewN ?_ _ | refine blk_drew ?_ | refine blk_alloc ?_ _)); refine blk_put (cs := #[.slice Ao8 t431.length co8, .slice Ao10 t434.length co10, .int .i64 t437, .int .i64 t438, .int .i64 0]) ?_ 4 _ rfl; (with_reducible repeat (first | refine blk_drewN ?_ _ | refine blk_drew ?_ | refine blk_alloc ?_ _)); refine blk_put (cs := #[.slice Ao8 t431.length co8, .slice Ao10 t434.length co10, .int .i64 t437, .int .i64 0, .int .i64 0]) ?_ 3 _ rfl; (with_reducible repeat (first | refine blk_drewN ?_ _ | refine blk_drew ?_ | refine blk_alloc ?_ _)); refine blk_put (cs := #[.slice Ao8 t431.length co8, .slice Ao10 t434.length co10, .int .i64 0, .int .i64 0, .int .i64 0]) ?_ 2 _ rfl; (with_reducible repeat (first | refine blk_drewN ?_ _ | refine blk_drew ?_ | refine blk_alloc ?_ _)); refine blk_put (cs := #[.slice Ao8 t431.length co8, .slice none 0 0, .int .i64 0, .int .i64 0, .int .i64 0]) ?_ 1 _ rfl; (with_reducible repeat (first | refine blk_drewN ?_ _ | refine blk_drew ?_ | refine blk_alloc ?_ _)); refine blk_put (cs := #[.slice none 0 0, .slice none 0 0, .int .i64 0, .int .i64 0, .int .i64 0]) ?_ 0 _ rfl; (with_reducible repeat (first | refine blk_drewN ?_ _ | refine blk_drew ?_ | refine blk_alloc ?_ _)); exact BK441.out) hb); have n5_ := Aside0.mk (below_step (by repeat (first | (with_reducible first | exact HB.out | apply below_alloc | apply pw_below_drewN | apply below_drew1 | refine below_set ?_ GE441.out) | exact HB.out)) hb); clear HO433; clear HO436; clear BK441; clear HB; have HO433 := n0_; have HO436 := n1_; have HO444 := n2_; have HO447 := n3_; have BK441 := n4_; have HB := n5_; clear n0_ n1_ n2_ n3_ n4_ n5_; (try clear hb); (try clear hb2); (try clear hk); (try clear hi); (try clear ho0); (try clear ho1)) | ((with_reducible refine gate_dst (N := 5) rfl ?_); refine box_event ?hg (N := 5) ?hd (cs := #[.slice none 0 0, .slice none 0 0, .int .i64 0, .int .i64 0, .int .i64 0]) (t := 43) ?hr ?_; (case hd => rfl); (case hg => rfl); (case hr => first | (go_simp; done) | (go_simp; rfl)); intro gb452 hg w12 hbox hb; have n0_ := Aside0.mk (Kd.R_below (by (with_reducible repeat (first | apply Kd.R_alloc | apply Kd.R_drewN | apply Kd.R_drew)); exact HO433.out) hb); have n1_ := Aside0.mk (Kd.R_below (by (with_reducible repeat (first | apply Kd.R_alloc | apply Kd.R_drewN | apply Kd.R_drew)); exact HO436.out) hb); have n2_ := Aside0.mk (Kd.R_below (by (with_reducible repeat (first | apply Kd.R_alloc | apply Kd.R_drewN | apply Kd.R_drew)); exact HO444.out) hb); have n3_ := Aside0.mk (Kd.R_below (by (with_reducible repeat (first | apply Kd.R_alloc | apply Kd.R_drewN | apply Kd.R_drew)); exact HO447.out) hb); have n4_ := Aside0.mk (blk_below (g := gb441) (o := .cells #[.slice Ao8 t431.length co8, .slice Ao10 t434.length co10, .int .i64 t437, .int .i64 t438, .int .i64 t439] 43 (0, 0)) (by (with_reducible repeat (first | refine blk_drewN ?_ _ | refine blk_drew ?_ | refine blk_alloc ?_ _)); exact BK441.out) hb); have n5_ := Aside0.mk (below_step (by repeat (first | (with_reducible first | exact HB.out | apply below_alloc | apply pw_below_drewN | apply below_drew1 | refine below_set ?_ GE441.out) | exact HB.out)) hb); have n6_ := Aside0.mk (hbox); have n7_ := Aside0.mk ((by rw [hg]; exact (below_size (by repeat (first | (with_reducible first | exact HB.out | apply below_alloc | apply pw_below_drewN | apply below_drew1 | refine below_set ?_ GE441.out) | exact HB.out))) : w.heap.size ≤ gb452)); have n8_ := Aside0.mk ((by rw [hg]; exact (below_size (by repeat (first | (with_reducible first | exact HB.out | apply below_alloc | apply pw_below_drewN | apply below_drew1 | refine below_set ?_ GE441.out) | exact HB.out))) : w.heap.size ≤ gb452)); have n9_ := Aside0.mk ((by rw [hg]; exact Nat.ne_of_lt (blk_lt (g := gb441) (o := .cells #[.slice Ao8 t431.length co8, .slice Ao10 t434.length co10, .int .i64 t437, .int .i64 t438, .int .i64 t439] 43 (0, 0)) (by (with_reducible repeat (first | refine blk_drewN ?_ _ | refine blk_drew ?_ | refine blk_alloc ?_ _)); exact BK441.out)) : gb441 ≠ gb452)); have n10_ := Aside0.mk ((by rw [hg]; exact Nat.ne_of_gt (blk_lt (g := gb441) (o := .cells #[.slice Ao8 t431.length co8, .slice Ao10 t434.length co10, .int .i64 t437, .int .i64 t438, .int .i64 t439] 43 (0, 0)) (by (with_reducible repeat (first | refine blk_drewN ?_ _ | refine blk_drew ?_ | refine blk_alloc ?_ _)); exact BK441.out)) : gb452 ≠ gb441)); clear HO433; clear HO436; clear HO444; clear HO447; clear BK441; clear HB; have HO433 := n0_; have HO436 := n1_; have HO444 := n2_; have HO447 := n3_; have BK441 := n4_; have HB := n5_; have BK452 := n6_; have GW452 := n7_; have GE452 := n8_; have NB441_452 := n9_; have NB452_441 := n10_; clear n0_ n1_ n2_ n3_ n4_ n5_ n6_ n7_ n8_ n9_ n10_; clear hb hbox hg; obtain ⟨Ao13, co13, eo13⟩ := Kd.R_slice HO444.out; subst eo13; have hnb14 := NB452_441.out; have hnc14 := NB441_452.out; have hcz15_0 : w12.cell? ⟨gb452, 0, none⟩ = some (.slice none 0 0) := (blk_cell BK452.out 0).trans rfl; have hcz15_1 : w12.cell? ⟨gb452, 1, none⟩ = some (.slice none 0 0) := (blk_cell BK452.out 1).trans rfl; have hcz15_2 : w12.cell? ⟨gb452, 2, none⟩ = some (.int .i64 0) := (blk_cell BK452.out 2).trans rfl; have hcz15_3 : w12.cell? ⟨gb452, 3, none⟩ = some (.int .i64 0) := (blk_cell BK452.out 3).trans rfl; have hcz15_4 : w12.cell? ⟨gb452, 4, none⟩ = some (.int .i64 0) := (blk_cell BK452.out 4).trans rfl; have hfz15_0 := blk_frozen BK452.out 0; have hfz15_1 := blk_frozen BK452.out 1; have hfz15_2 := blk_frozen BK452.out 2; have hfz15_3 := blk_frozen BK452.out 3; have hfz15_4 := blk_frozen BK452.out 4; obtain ⟨Ao16, co16, eo16⟩ := Kd.R_slice HO447.out; subst eo16))
  (try simp only [Act.put, List.setIfInBounds_toArray, List.set_cons_zero, List.set_cons_succ])
  go_cut [32] (fun v32 wc => ∃ (kq : Nat) (x32_4 : Bool), v32 = .bool x32_4 ∧ Aside0 (laws_FnExactDecodeEdit.j0 kq a0 t440 x32_4 t431 t434 t437 t438 t439 t442 t445 t448 t449 t450 = some true) ∧ Aside0 (kq ≤ k) ∧ Aside0 (Kd.R k87 87 wc w.heap.size (fun k_ => some k_ ≠ ((.slice Ao13 t442.length co13) : Value).ownBlock) (.slice Ao8 t431.length co8) t431) ∧ Aside0 (Kd.R (Kd.int .i64) 3 wc w.heap.size (fun k_ => some k_ ≠ ((.slice Ao16 t445.length co16) : Value).ownBlock) (.slice Ao10 t434.length co10) t434) ∧ Aside0 (Kd.R k87 87 wc w.heap.size (fun k_ => some k_ ≠ ((.slice Ao8 t431.length co8) : Value).ownBlock) (.slice Ao13 t442.length co13) t442) ∧ Aside0 (Kd.R (Kd.int .i64) 3 wc w.heap.size (fun k_ => some k_ ≠ ((.slice Ao10 t434.length co10) : Value).ownBlock) (.slice Ao16 t445.length co16) t445) ∧ Aside0 (wc.heap[gb441]? = some (.cells #[(.slice Ao8 t431.length co8), (.slice Ao10 t434.length co10), .int .i64 t437, .int .i64 t438, .int .i64 t439] 43 (0, 0))) ∧ Aside0 (wc.heap[gb452]? = some (.cells #[(.slice Ao13 t442.length co13), (.slice Ao16 t445.length co16), .int .i64 t448, .int .i64 t449, .int .i64 t450] 43 (0, 0))) ∧ Aside0 (Below w.heap.size w wc))
  case first =>
   have H := HC5.out
   clear HC5
   replace H := Option.bind_eq_some_iff.mp H
   obtain ⟨t453, A170, H⟩ := H
   replace H : (if t453 = true then (laws_FnExactDecodeEdit.j0 k a0 t440 (t451 != t440) t431 t434 t437 t438 t439 t442 t445 t448 t449 t450) else (laws_FnExactDecodeEdit.j0 k a0 t440 true t431 t434 t437 t438 t439 t442 t445 t448 t449 t450)) = some true := H
   have A17 := Aside0.mk A170
   clear A170
   by_cases c18 : t453 = true
   ·subst c18
    have H1 : (laws_FnExactDecodeEdit.j0 k a0 t440 (t451 != t440) t431 t434 t437 t438 t439 t442 t445 t448 t449 t450) = some true := by rw [if_pos rfl] at H; exact H
    clear H
    have H := H1
    clear H1
    have H' := Aside0.mk H
    clear H
    have hnb19 := NB452_441.out
    have hnc19 := NB441_452.out
    have hcz20_0 : w12.cell? ⟨gb452, 0, none⟩ = some (.slice none 0 0) := (blk_cell BK452.out 0).trans rfl
    have hcz20_1 : w12.cell? ⟨gb452, 1, none⟩ = some (.slice none 0 0) := (blk_cell BK452.out 1).trans rfl
    have hcz20_2 : w12.cell? ⟨gb452, 2, none⟩ = some (.int .i64 0) := (blk_cell BK452.out 2).trans rfl
    have hcz20_3 : w12.cell? ⟨gb452, 3, none⟩ = some (.int .i64 0) := (blk_cell BK452.out 3).trans rfl
    have hcz20_4 : w12.cell? ⟨gb452, 4, none⟩ = some (.int .i64 0) := (blk_cell BK452.out 4).trans rfl
    have hfz20_0 := blk_frozen BK452.out 0
    have hfz20_1 := blk_frozen BK452.out 1
    have hfz20_2 := blk_frozen BK452.out 2
    have hfz20_3 := blk_frozen BK452.out 3
    have hfz20_4 := blk_frozen BK452.out 4
    have hcz21_0 : w12.cell? ⟨gb441, 0, none⟩ = some (.slice Ao8 t431.length co8) := (blk_cell BK441.out 0).trans rfl
    have hcz21_1 : w12.cell? ⟨gb441, 1, none⟩ = some (.slice Ao10 t434.length co10) := (blk_cell BK441.out 1).trans rfl
    have hcz21_2 : w12.cell? ⟨gb441, 2, none⟩ = some (.int .i64 t437) := (blk_cell BK441.out 2).trans rfl
    have hcz21_3 : w12.cell? ⟨gb441, 3, none⟩ = some (.int .i64 t438) := (blk_cell BK441.out 3).trans rfl
    have hcz21_4 : w12.cell? ⟨gb441, 4, none⟩ = some (.int .i64 t439) := (blk_cell BK441.out 4).trans rfl
    have hfz21_0 := blk_frozen BK441.out 0
    have hfz21_1 := blk_frozen BK441.out 1
    have hfz21_2 := blk_frozen BK441.out 2
    have hfz21_3 := blk_frozen BK441.out 3
    have hfz21_4 := blk_frozen BK441.out 4
    go_wp2_with (first | ((with_reducible refine gate_callee (f := 24) rfl ?_); refine goesL_ (some 26) rfl rfl Try.func24 (by kernel_rfl) rfl #[.agg #[.slice Ao13 t442.length co13, .slice Ao16 t445.length co16, .int .i64 t448, .int .i64 t449, .int .i64 t450], .agg #[.slice Ao8 t431.length co8, .slice Ao10 t434.length co10, .int .i64 t437, .int .i64 t438, .int .i64 t439]] rfl (by (try simp only [List.map_toArray, List.map_cons, List.map_nil]); first | done | rfl | (simp only [List.length_drop, List.length_take]; rfl)) ?_; (with_reducible refine (laws_eqEdit.calls k _ _ t442 _ _ t445 t448 t449 t450 _ _ t431 _ _ t434 t437 t438 t439 true _ ?side1 ?side2 ?side3 ?side4 ?side5 ?side6 ?side7 ?side8 A17.out).mono ?_); (case side1 => refine (Kd.R_reads' (e := 87) (base := w.heap.size) (ok := fun k_ => (True ∧ some k_ ≠ (.slice Ao8 t431.length co8 : Value).ownBlock)) (n := t442.length) (c := co13) ?_).2.2; exact (by (with_reducible repeat (first | apply Kd.R_alloc | apply Kd.R_drewN | apply Kd.R_drew)); exact (Kd.R_mono (Kd.R_far (p := ⟨gb452, 4, none⟩) (Kd.R_far (p := ⟨gb452, 3, none⟩) (Kd.R_far (p := ⟨gb452, 2, none⟩) (Kd.R_far (p := ⟨gb452, 1, none⟩) (Kd.R_far (p := ⟨gb452, 0, none⟩) (Kd.R_types HO444.out BK452.out (by decide)) (fun _ hk => hk.2) (.slice Ao13 t442.length co13)) (fun _ hk => hk.2) (.slice Ao16 t445.length co16)) (fun _ hk => hk.2) (.int .i64 t448)) (fun _ hk => hk.2) (.int .i64 t449)) (fun _ hk => hk.2) (.int .i64 t450)) (fun _ h_ => h_.1)))); (case side2 => exact (Kd.R_reads' HO444.out).2.1); (case side3 => refine (Kd.R_reads' (e := 3) (base := w.heap.size) (ok := fun k_ => (True ∧ some k_ ≠ (.slice Ao10 t434.length co10 : Value).ownBlock)) (n := t445.length) (c := co16) ?_).2.2; exact (by (with_reducible repeat (first | apply Kd.R_alloc | apply Kd.R_drewN | apply Kd.R_drew)); exact (Kd.R_mono (Kd.R_far (p := ⟨gb452, 4, none⟩) (Kd.R_far (p := ⟨gb452, 3, none⟩) (Kd.R_far (p := ⟨gb452, 2, none⟩) (Kd.R_far (p := ⟨gb452, 1, none⟩) (Kd.R_far (p := ⟨gb452, 0, none⟩) (Kd.R_types HO447.out BK452.out (by decide)) (fun _ hk => hk.2) (.slice Ao13 t442.length co13)) (fun _ hk => hk.2) (.slice Ao16 t445.length co16)) (fun _ hk => hk.2) (.int .i64 t448)) (fun _ hk => hk.2) (.int .i64 t449)) (fun _ hk => hk.2) (.int .i64 t450)) (fun _ h_ => h_.1)))); (case side4 => exact (Kd.R_reads' HO447.out).2.1); (case side5 => refine (Kd.R_reads' (e := 87) (base := w.heap.size) (ok := fun k_ => (True ∧ some k_ ≠ (.slice Ao13 t442.length co13 : Value).ownBlock)) (n := t431.length) (c := co8) ?_).2.2; exact (by (with_reducible repeat (first | apply Kd.R_alloc | apply Kd.R_drewN | apply Kd.R_drew)); exact (Kd.R_mono (Kd.R_far (p := ⟨gb452, 4, none⟩) (Kd.R_far (p := ⟨gb452, 3, none⟩) (Kd.R_far (p := ⟨gb452, 2, none⟩) (Kd.R_far (p := ⟨gb452, 1, none⟩) (Kd.R_far (p := ⟨gb452, 0, none⟩) (Kd.R_types HO433.out BK452.out (by decide)) (fun _ hk => hk.2) (.slice Ao13 t442.length co13)) (fun _ hk => hk.2) (.slice Ao16 t445.length co16)) (fun _ hk => hk.2) (.int .i64 t448)) (fun _ hk => hk.2) (.int .i64 t449)) (fun _ hk => hk.2) (.int .i64 t450)) (fun _ h_ => h_.1)))); (case side6 => exact (Kd.R_reads' HO433.out).2.1); (case side7 => refine (Kd.R_reads' (e := 3) (base := w.heap.size) (ok := fun k_ => (True ∧ some k_ ≠ (.slice Ao16 t445.length co16 : Value).ownBlock)) (n := t434.length) (c := co10) ?_).2.2; exact (by (with_reducible repeat (first | apply Kd.R_alloc | apply Kd.R_drewN | apply Kd.R_drew)); exact (Kd.R_mono (Kd.R_far (p := ⟨gb452, 4, none⟩) (Kd.R_far (p := ⟨gb452, 3, none⟩) (Kd.R_far (p := ⟨gb452, 2, none⟩) (Kd.R_far (p := ⟨gb452, 1, none⟩) (Kd.R_far (p := ⟨gb452, 0, none⟩) (Kd.R_types HO436.out BK452.out (by decide)) (fun _ hk => hk.2) (.slice Ao13 t442.length co13)) (fun _ hk => hk.2) (.slice Ao16 t445.length co16)) (fun _ hk => hk.2) (.int .i64 t448)) (fun _ hk => hk.2) (.int .i64 t449)) (fun _ hk => hk.2) (.int .i64 t450)) (fun _ h_ => h_.1)))); (case side8 => exact (Kd.R_reads' HO436.out).2.1); rintro e w22 ⟨rfl, hb⟩; refine ⟨_, rfl, ?_⟩; have n0_ := Aside0.mk (Kd.R_below (by (with_reducible repeat (first | apply Kd.R_alloc | apply Kd.R_drewN | apply Kd.R_drew)); exact (Kd.R_mono (Kd.R_far (p := ⟨gb452, 4, none⟩) (Kd.R_far (p := ⟨gb452, 3, none⟩) (Kd.R_far (p := ⟨gb452, 2, none⟩) (Kd.R_far (p := ⟨gb452, 1, none⟩) (Kd.R_far (p := ⟨gb452, 0, none⟩) (Kd.R_types HO433.out BK452.out (by decide)) (fun _ hk => hk.2) (.slice Ao13 t442.length co13)) (fun _ hk => hk.2) (.slice Ao16 t445.length co16)) (fun _ hk => hk.2) (.int .i64 t448)) (fun _ hk => hk.2) (.int .i64 t449)) (fun _ hk => hk.2) (.int .i64 t450)) (fun _ h_ => h_.1))) hb); have n1_ := Aside0.mk (Kd.R_below (by (with_reducible repeat (first | apply Kd.R_alloc | apply Kd.R_drewN | apply Kd.R_drew)); exact (Kd.R_mono (Kd.R_far (p := ⟨gb452, 4, none⟩) (Kd.R_far (p := ⟨gb452, 3, none⟩) (Kd.R_far (p := ⟨gb452, 2, none⟩) (Kd.R_far (p := ⟨gb452, 1, none⟩) (Kd.R_far (p := ⟨gb452, 0, none⟩) (Kd.R_types HO436.out BK452.out (by decide)) (fun _ hk => hk.2) (.slice Ao13 t442.length co13)) (fun _ hk => hk.2) (.slice Ao16 t445.length co16)) (fun _ hk => hk.2) (.int .i64 t448)) (fun _ hk => hk.2) (.int .i64 t449)) (fun _ hk => hk.2) (.int .i64 t450)) (fun _ h_ => h_.1))) hb); have n2_ := Aside0.mk (Kd.R_below (by (with_reducible repeat (first | apply Kd.R_alloc | apply Kd.R_drewN | apply Kd.R_drew)); exact (Kd.R_mono (Kd.R_far (p := ⟨gb452, 4, none⟩) (Kd.R_far (p := ⟨gb452, 3, none⟩) (Kd.R_far (p := ⟨gb452, 2, none⟩) (Kd.R_far (p := ⟨gb452, 1, none⟩) (Kd.R_far (p := ⟨gb452, 0, none⟩) (Kd.R_types HO444.out BK452.out (by decide)) (fun _ hk => hk.2) (.slice Ao13 t442.length co13)) (fun _ hk => hk.2) (.slice Ao16 t445.length co16)) (fun _ hk => hk.2) (.int .i64 t448)) (fun _ hk => hk.2) (.int .i64 t449)) (fun _ hk => hk.2) (.int .i64 t450)) (fun _ h_ => h_.1))) hb); have n3_ := Aside0.mk (Kd.R_below (by (with_reducible repeat (first | apply Kd.R_alloc | apply Kd.R_drewN | apply Kd.R_drew)); exact (Kd.R_mono (Kd.R_far (p := ⟨gb452, 4, none⟩) (Kd.R_far (p := ⟨gb452, 3, none⟩) (Kd.R_far (p := ⟨gb452, 2, none⟩) (Kd.R_far (p := ⟨gb452, 1, none⟩) (Kd.R_far (p := ⟨gb452, 0, none⟩) (Kd.R_types HO447.out BK452.out (by decide)) (fun _ hk => hk.2) (.slice Ao13 t442.length co13)) (fun _ hk => hk.2) (.slice Ao16 t445.length co16)) (fun _ hk => hk.2) (.int .i64 t448)) (fun _ hk => hk.2) (.int .i64 t449)) (fun _ hk => hk.2) (.int .i64 t450)) (fun _ h_ => h_.1))) hb); have n4_ := Aside0.mk (blk_below (g := gb441) (o := .cells #[.slice Ao8 t431.length co8, .slice Ao10 t434.length co10, .int .i64 t437, .int .i64 t438, .int .i64 t439] 43 (0, 0)) (by (with_reducible repeat (first | refine blk_drewN ?_ _ | refine blk_drew ?_ | refine blk_alloc ?_ _)); refine blk_far ?_ NB441_452.out _; (with_reducible repeat (first | refine blk_drewN ?_ _ | refine blk_drew ?_ | refine blk_alloc ?_ _)); refine blk_far ?_ NB441_452.out _; (with_reducible repeat (first | refine blk_drewN ?_ _ | refine blk_drew ?_ | refine blk_alloc ?_ _)); refine blk_far ?_ NB441_452.out _; (with_reducible repeat (first | refine blk_drewN ?_ _ | refine blk_drew ?_ | refine blk_alloc ?_ _)); refine blk_far ?_ NB441_452.out _; (with_reducible repeat (first | refine blk_drewN ?_ _ | refine blk_drew ?_ | refine blk_alloc ?_ _)); refine blk_far ?_ NB441_452.out _; (with_reducible repeat (first | refine blk_drewN ?_ _ | refine blk_drew ?_ | refine blk_alloc ?_ _)); exact BK441.out) hb); have n5_ := Aside0.mk (blk_below (g := gb452) (o := .cells #[.slice Ao13 t442.length co13, .slice Ao16 t445.length co16, .int .i64 t448, .int .i64 t449, .int .i64 t450] 43 (0, 0)) (by (with_reducible repeat (first | refine blk_drewN ?_ _ | refine blk_drew ?_ | refine blk_alloc ?_ _)); refine blk_put (cs := #[.slice Ao13 t442.length co13, .slice Ao16 t445.length co16, .int .i64 t448, .int .i64 t449, .int .i64 0]) ?_ 4 _ rfl; (with_reducible repeat (first | refine blk_drewN ?_ _ | refine blk_drew ?_ | refine blk_alloc ?_ _)); refine blk_put (cs := #[.slice Ao13 t442.length co13, .slice Ao16 t445.length co16, .int .i64 t448, .int .i64 0, .int .i64 0]) ?_ 3 _ rfl; (with_reducible repeat (first | refine blk_drewN ?_ _ | refine blk_drew ?_ | refine blk_alloc ?_ _)); refine blk_put (cs := #[.slice Ao13 t442.length co13, .slice Ao16 t445.length co16, .int .i64 0, .int .i64 0, .int .i64 0]) ?_ 2 _ rfl; (with_reducible repeat (first | refine blk_drewN ?_ _ | refine blk_drew ?_ | refine blk_alloc ?_ _)); refine blk_put (cs := #[.slice Ao13 t442.length co13, .slice none 0 0, .int .i64 0, .int .i64 0, .int .i64 0]) ?_ 1 _ rfl; (with_reducible repeat (first | refine blk_drewN ?_ _ | refine blk_drew ?_ | refine blk_alloc ?_ _)); refine blk_put (cs := #[.slice none 0 0, .slice none 0 0, .int .i64 0, .int .i64 0, .int .i64 0]) ?_ 0 _ rfl; (with_reducible repeat (first | refine blk_drewN ?_ _ | refine blk_drew ?_ | refine blk_alloc ?_ _)); exact BK452.out) hb); have n6_ := Aside0.mk (below_step (by repeat (first | (with_reducible first | exact HB.out | apply below_alloc | apply pw_below_drewN | apply below_drew1 | refine below_set ?_ GE441.out | refine below_set ?_ GE452.out) | exact HB.out)) hb); clear HO433; clear HO436; clear HO444; clear HO447; clear BK441; clear BK452; clear HB; have HO433 := n0_; have HO436 := n1_; have HO444 := n2_; have HO447 := n3_; have BK441 := n4_; have BK452 := n5_; have HB := n6_; clear n0_ n1_ n2_ n3_ n4_ n5_ n6_; (try clear hb); (try clear hb2); (try clear hk); (try clear hi)))
    go_meet
    case rel => exact ⟨_, ((t451 != t440)), (by first | rfl | (simp; done) | (simp [*]; done)), H', ⟨by first | omega | exact Nat.le_refl _⟩, ⟨by (with_reducible repeat (first | apply Kd.R_alloc | apply Kd.R_drewN | apply Kd.R_drew)); exact Kd.R_mono HO433.out (fun _ hk => hk.2)⟩, ⟨by (with_reducible repeat (first | apply Kd.R_alloc | apply Kd.R_drewN | apply Kd.R_drew)); exact Kd.R_mono HO436.out (fun _ hk => hk.2)⟩, ⟨by (with_reducible repeat (first | apply Kd.R_alloc | apply Kd.R_drewN | apply Kd.R_drew)); exact Kd.R_mono HO444.out (fun _ hk => hk.2)⟩, ⟨by (with_reducible repeat (first | apply Kd.R_alloc | apply Kd.R_drewN | apply Kd.R_drew)); exact Kd.R_mono HO447.out (fun _ hk => hk.2)⟩, ⟨by (with_reducible repeat (first | refine blk_drewN ?_ _ | refine blk_drew ?_ | refine blk_alloc ?_ _)); exact BK441.out⟩, ⟨by (with_reducible repeat (first | refine blk_drewN ?_ _ | refine blk_drew ?_ | refine blk_alloc ?_ _)); exact BK452.out⟩, ⟨by repeat (first | (with_reducible first | exact HB.out | apply below_alloc | apply pw_below_drewN | apply below_drew1 | refine below_set ?_ GE441.out | refine below_set ?_ GE452.out) | exact HB.out)⟩⟩
   ·replace c18 := Bool.eq_false_iff.mpr c18
    subst c18
    have H1 : (laws_FnExactDecodeEdit.j0 k a0 t440 true t431 t434 t437 t438 t439 t442 t445 t448 t449 t450) = some true := by rw [if_neg (show ¬ (false = true) by decide)] at H; exact H
    clear H
    have H := H1
    clear H1
    have H' := Aside0.mk H
    clear H
    have hnb23 := NB452_441.out
    have hnc23 := NB441_452.out
    have hcz24_0 : w12.cell? ⟨gb452, 0, none⟩ = some (.slice none 0 0) := (blk_cell BK452.out 0).trans rfl
    have hcz24_1 : w12.cell? ⟨gb452, 1, none⟩ = some (.slice none 0 0) := (blk_cell BK452.out 1).trans rfl
    have hcz24_2 : w12.cell? ⟨gb452, 2, none⟩ = some (.int .i64 0) := (blk_cell BK452.out 2).trans rfl
    have hcz24_3 : w12.cell? ⟨gb452, 3, none⟩ = some (.int .i64 0) := (blk_cell BK452.out 3).trans rfl
    have hcz24_4 : w12.cell? ⟨gb452, 4, none⟩ = some (.int .i64 0) := (blk_cell BK452.out 4).trans rfl
    have hfz24_0 := blk_frozen BK452.out 0
    have hfz24_1 := blk_frozen BK452.out 1
    have hfz24_2 := blk_frozen BK452.out 2
    have hfz24_3 := blk_frozen BK452.out 3
    have hfz24_4 := blk_frozen BK452.out 4
    have hcz25_0 : w12.cell? ⟨gb441, 0, none⟩ = some (.slice Ao8 t431.length co8) := (blk_cell BK441.out 0).trans rfl
    have hcz25_1 : w12.cell? ⟨gb441, 1, none⟩ = some (.slice Ao10 t434.length co10) := (blk_cell BK441.out 1).trans rfl
    have hcz25_2 : w12.cell? ⟨gb441, 2, none⟩ = some (.int .i64 t437) := (blk_cell BK441.out 2).trans rfl
    have hcz25_3 : w12.cell? ⟨gb441, 3, none⟩ = some (.int .i64 t438) := (blk_cell BK441.out 3).trans rfl
    have hcz25_4 : w12.cell? ⟨gb441, 4, none⟩ = some (.int .i64 t439) := (blk_cell BK441.out 4).trans rfl
    have hfz25_0 := blk_frozen BK441.out 0
    have hfz25_1 := blk_frozen BK441.out 1
    have hfz25_2 := blk_frozen BK441.out 2
    have hfz25_3 := blk_frozen BK441.out 3
    have hfz25_4 := blk_frozen BK441.out 4
    go_wp2_with (first | ((with_reducible refine gate_callee (f := 24) rfl ?_); refine goesL_ (some 26) rfl rfl Try.func24 (by kernel_rfl) rfl #[.agg #[.slice Ao13 t442.length co13, .slice Ao16 t445.length co16, .int .i64 t448, .int .i64 t449, .int .i64 t450], .agg #[.slice Ao8 t431.length co8, .slice Ao10 t434.length co10, .int .i64 t437, .int .i64 t438, .int .i64 t439]] rfl (by (try simp only [List.map_toArray, List.map_cons, List.map_nil]); first | done | rfl | (simp only [List.length_drop, List.length_take]; rfl)) ?_; (with_reducible refine (laws_eqEdit.calls k _ _ t442 _ _ t445 t448 t449 t450 _ _ t431 _ _ t434 t437 t438 t439 false _ ?side1 ?side2 ?side3 ?side4 ?side5 ?side6 ?side7 ?side8 A17.out).mono ?_); (case side1 => refine (Kd.R_reads' (e := 87) (base := w.heap.size) (ok := fun k_ => (True ∧ some k_ ≠ (.slice Ao8 t431.length co8 : Value).ownBlock)) (n := t442.length) (c := co13) ?_).2.2; exact (by (with_reducible repeat (first | apply Kd.R_alloc | apply Kd.R_drewN | apply Kd.R_drew)); exact (Kd.R_mono (Kd.R_far (p := ⟨gb452, 4, none⟩) (Kd.R_far (p := ⟨gb452, 3, none⟩) (Kd.R_far (p := ⟨gb452, 2, none⟩) (Kd.R_far (p := ⟨gb452, 1, none⟩) (Kd.R_far (p := ⟨gb452, 0, none⟩) (Kd.R_types HO444.out BK452.out (by decide)) (fun _ hk => hk.2) (.slice Ao13 t442.length co13)) (fun _ hk => hk.2) (.slice Ao16 t445.length co16)) (fun _ hk => hk.2) (.int .i64 t448)) (fun _ hk => hk.2) (.int .i64 t449)) (fun _ hk => hk.2) (.int .i64 t450)) (fun _ h_ => h_.1)))); (case side2 => exact (Kd.R_reads' HO444.out).2.1); (case side3 => refine (Kd.R_reads' (e := 3) (base := w.heap.size) (ok := fun k_ => (True ∧ some k_ ≠ (.slice Ao10 t434.length co10 : Value).ownBlock)) (n := t445.length) (c := co16) ?_).2.2; exact (by (with_reducible repeat (first | apply Kd.R_alloc | apply Kd.R_drewN | apply Kd.R_drew)); exact (Kd.R_mono (Kd.R_far (p := ⟨gb452, 4, none⟩) (Kd.R_far (p := ⟨gb452, 3, none⟩) (Kd.R_far (p := ⟨gb452, 2, none⟩) (Kd.R_far (p := ⟨gb452, 1, none⟩) (Kd.R_far (p := ⟨gb452, 0, none⟩) (Kd.R_types HO447.out BK452.out (by decide)) (fun _ hk => hk.2) (.slice Ao13 t442.length co13)) (fun _ hk => hk.2) (.slice Ao16 t445.length co16)) (fun _ hk => hk.2) (.int .i64 t448)) (fun _ hk => hk.2) (.int .i64 t449)) (fun _ hk => hk.2) (.int .i64 t450)) (fun _ h_ => h_.1)))); (case side4 => exact (Kd.R_reads' HO447.out).2.1); (case side5 => refine (Kd.R_reads' (e := 87) (base := w.heap.size) (ok := fun k_ => (True ∧ some k_ ≠ (.slice Ao13 t442.length co13 : Value).ownBlock)) (n := t431.length) (c := co8) ?_).2.2; exact (by (with_reducible repeat (first | apply Kd.R_alloc | apply Kd.R_drewN | apply Kd.R_drew)); exact (Kd.R_mono (Kd.R_far (p := ⟨gb452, 4, none⟩) (Kd.R_far (p := ⟨gb452, 3, none⟩) (Kd.R_far (p := ⟨gb452, 2, none⟩) (Kd.R_far (p := ⟨gb452, 1, none⟩) (Kd.R_far (p := ⟨gb452, 0, none⟩) (Kd.R_types HO433.out BK452.out (by decide)) (fun _ hk => hk.2) (.slice Ao13 t442.length co13)) (fun _ hk => hk.2) (.slice Ao16 t445.length co16)) (fun _ hk => hk.2) (.int .i64 t448)) (fun _ hk => hk.2) (.int .i64 t449)) (fun _ hk => hk.2) (.int .i64 t450)) (fun _ h_ => h_.1)))); (case side6 => exact (Kd.R_reads' HO433.out).2.1); (case side7 => refine (Kd.R_reads' (e := 3) (base := w.heap.size) (ok := fun k_ => (True ∧ some k_ ≠ (.slice Ao16 t445.length co16 : Value).ownBlock)) (n := t434.length) (c := co10) ?_).2.2; exact (by (with_reducible repeat (first | apply Kd.R_alloc | apply Kd.R_drewN | apply Kd.R_drew)); exact (Kd.R_mono (Kd.R_far (p := ⟨gb452, 4, none⟩) (Kd.R_far (p := ⟨gb452, 3, none⟩) (Kd.R_far (p := ⟨gb452, 2, none⟩) (Kd.R_far (p := ⟨gb452, 1, none⟩) (Kd.R_far (p := ⟨gb452, 0, none⟩) (Kd.R_types HO436.out BK452.out (by decide)) (fun _ hk => hk.2) (.slice Ao13 t442.length co13)) (fun _ hk => hk.2) (.slice Ao16 t445.length co16)) (fun _ hk => hk.2) (.int .i64 t448)) (fun _ hk => hk.2) (.int .i64 t449)) (fun _ hk => hk.2) (.int .i64 t450)) (fun _ h_ => h_.1)))); (case side8 => exact (Kd.R_reads' HO436.out).2.1); rintro e w26 ⟨rfl, hb⟩; refine ⟨_, rfl, ?_⟩; have n0_ := Aside0.mk (Kd.R_below (by (with_reducible repeat (first | apply Kd.R_alloc | apply Kd.R_drewN | apply Kd.R_drew)); exact (Kd.R_mono (Kd.R_far (p := ⟨gb452, 4, none⟩) (Kd.R_far (p := ⟨gb452, 3, none⟩) (Kd.R_far (p := ⟨gb452, 2, none⟩) (Kd.R_far (p := ⟨gb452, 1, none⟩) (Kd.R_far (p := ⟨gb452, 0, none⟩) (Kd.R_types HO433.out BK452.out (by decide)) (fun _ hk => hk.2) (.slice Ao13 t442.length co13)) (fun _ hk => hk.2) (.slice Ao16 t445.length co16)) (fun _ hk => hk.2) (.int .i64 t448)) (fun _ hk => hk.2) (.int .i64 t449)) (fun _ hk => hk.2) (.int .i64 t450)) (fun _ h_ => h_.1))) hb); have n1_ := Aside0.mk (Kd.R_below (by (with_reducible repeat (first | apply Kd.R_alloc | apply Kd.R_drewN | apply Kd.R_drew)); exact (Kd.R_mono (Kd.R_far (p := ⟨gb452, 4, none⟩) (Kd.R_far (p := ⟨gb452, 3, none⟩) (Kd.R_far (p := ⟨gb452, 2, none⟩) (Kd.R_far (p := ⟨gb452, 1, none⟩) (Kd.R_far (p := ⟨gb452, 0, none⟩) (Kd.R_types HO436.out BK452.out (by decide)) (fun _ hk => hk.2) (.slice Ao13 t442.length co13)) (fun _ hk => hk.2) (.slice Ao16 t445.length co16)) (fun _ hk => hk.2) (.int .i64 t448)) (fun _ hk => hk.2) (.int .i64 t449)) (fun _ hk => hk.2) (.int .i64 t450)) (fun _ h_ => h_.1))) hb); have n2_ := Aside0.mk (Kd.R_below (by (with_reducible repeat (first | apply Kd.R_alloc | apply Kd.R_drewN | apply Kd.R_drew)); exact (Kd.R_mono (Kd.R_far (p := ⟨gb452, 4, none⟩) (Kd.R_far (p := ⟨gb452, 3, none⟩) (Kd.R_far (p := ⟨gb452, 2, none⟩) (Kd.R_far (p := ⟨gb452, 1, none⟩) (Kd.R_far (p := ⟨gb452, 0, none⟩) (Kd.R_types HO444.out BK452.out (by decide)) (fun _ hk => hk.2) (.slice Ao13 t442.length co13)) (fun _ hk => hk.2) (.slice Ao16 t445.length co16)) (fun _ hk => hk.2) (.int .i64 t448)) (fun _ hk => hk.2) (.int .i64 t449)) (fun _ hk => hk.2) (.int .i64 t450)) (fun _ h_ => h_.1))) hb); have n3_ := Aside0.mk (Kd.R_below (by (with_reducible repeat (first | apply Kd.R_alloc | apply Kd.R_drewN | apply Kd.R_drew)); exact (Kd.R_mono (Kd.R_far (p := ⟨gb452, 4, none⟩) (Kd.R_far (p := ⟨gb452, 3, none⟩) (Kd.R_far (p := ⟨gb452, 2, none⟩) (Kd.R_far (p := ⟨gb452, 1, none⟩) (Kd.R_far (p := ⟨gb452, 0, none⟩) (Kd.R_types HO447.out BK452.out (by decide)) (fun _ hk => hk.2) (.slice Ao13 t442.length co13)) (fun _ hk => hk.2) (.slice Ao16 t445.length co16)) (fun _ hk => hk.2) (.int .i64 t448)) (fun _ hk => hk.2) (.int .i64 t449)) (fun _ hk => hk.2) (.int .i64 t450)) (fun _ h_ => h_.1))) hb); have n4_ := Aside0.mk (blk_below (g := gb441) (o := .cells #[.slice Ao8 t431.length co8, .slice Ao10 t434.length co10, .int .i64 t437, .int .i64 t438, .int .i64 t439] 43 (0, 0)) (by (with_reducible repeat (first | refine blk_drewN ?_ _ | refine blk_drew ?_ | refine blk_alloc ?_ _)); refine blk_far ?_ NB441_452.out _; (with_reducible repeat (first | refine blk_drewN ?_ _ | refine blk_drew ?_ | refine blk_alloc ?_ _)); refine blk_far ?_ NB441_452.out _; (with_reducible repeat (first | refine blk_drewN ?_ _ | refine blk_drew ?_ | refine blk_alloc ?_ _)); refine blk_far ?_ NB441_452.out _; (with_reducible repeat (first | refine blk_drewN ?_ _ | refine blk_drew ?_ | refine blk_alloc ?_ _)); refine blk_far ?_ NB441_452.out _; (with_reducible repeat (first | refine blk_drewN ?_ _ | refine blk_drew ?_ | refine blk_alloc ?_ _)); refine blk_far ?_ NB441_452.out _; (with_reducible repeat (first | refine blk_drewN ?_ _ | refine blk_drew ?_ | refine blk_alloc ?_ _)); exact BK441.out) hb); have n5_ := Aside0.mk (blk_below (g := gb452) (o := .cells #[.slice Ao13 t442.length co13, .slice Ao16 t445.length co16, .int .i64 t448, .int .i64 t449, .int .i64 t450] 43 (0, 0)) (by (with_reducible repeat (first | refine blk_drewN ?_ _ | refine blk_drew ?_ | refine blk_alloc ?_ _)); refine blk_put (cs := #[.slice Ao13 t442.length co13, .slice Ao16 t445.length co16, .int .i64 t448, .int .i64 t449, .int .i64 0]) ?_ 4 _ rfl; (with_reducible repeat (first | refine blk_drewN ?_ _ | refine blk_drew ?_ | refine blk_alloc ?_ _)); refine blk_put (cs := #[.slice Ao13 t442.length co13, .slice Ao16 t445.length co16, .int .i64 t448, .int .i64 0, .int .i64 0]) ?_ 3 _ rfl; (with_reducible repeat (first | refine blk_drewN ?_ _ | refine blk_drew ?_ | refine blk_alloc ?_ _)); refine blk_put (cs := #[.slice Ao13 t442.length co13, .slice Ao16 t445.length co16, .int .i64 0, .int .i64 0, .int .i64 0]) ?_ 2 _ rfl; (with_reducible repeat (first | refine blk_drewN ?_ _ | refine blk_drew ?_ | refine blk_alloc ?_ _)); refine blk_put (cs := #[.slice Ao13 t442.length co13, .slice none 0 0, .int .i64 0, .int .i64 0, .int .i64 0]) ?_ 1 _ rfl; (with_reducible repeat (first | refine blk_drewN ?_ _ | refine blk_drew ?_ | refine blk_alloc ?_ _)); refine blk_put (cs := #[.slice none 0 0, .slice none 0 0, .int .i64 0, .int .i64 0, .int .i64 0]) ?_ 0 _ rfl; (with_reducible repeat (first | refine blk_drewN ?_ _ | refine blk_drew ?_ | refine blk_alloc ?_ _)); exact BK452.out) hb); have n6_ := Aside0.mk (below_step (by repeat (first | (with_reducible first | exact HB.out | apply below_alloc | apply pw_below_drewN | apply below_drew1 | refine below_set ?_ GE441.out | refine below_set ?_ GE452.out) | exact HB.out)) hb); clear HO433; clear HO436; clear HO444; clear HO447; clear BK441; clear BK452; clear HB; have HO433 := n0_; have HO436 := n1_; have HO444 := n2_; have HO447 := n3_; have BK441 := n4_; have BK452 := n5_; have HB := n6_; clear n0_ n1_ n2_ n3_ n4_ n5_ n6_; (try clear hb); (try clear hb2); (try clear hk); (try clear hi)))
    go_meet
    case rel => exact ⟨_, (true), (by first | rfl | (simp; done) | (simp [*]; done)), H', ⟨by first | omega | exact Nat.le_refl _⟩, ⟨by (with_reducible repeat (first | apply Kd.R_alloc | apply Kd.R_drewN | apply Kd.R_drew)); exact Kd.R_mono HO433.out (fun _ hk => hk.2)⟩, ⟨by (with_reducible repeat (first | apply Kd.R_alloc | apply Kd.R_drewN | apply Kd.R_drew)); exact Kd.R_mono HO436.out (fun _ hk => hk.2)⟩, ⟨by (with_reducible repeat (first | apply Kd.R_alloc | apply Kd.R_drewN | apply Kd.R_drew)); exact Kd.R_mono HO444.out (fun _ hk => hk.2)⟩, ⟨by (with_reducible repeat (first | apply Kd.R_alloc | apply Kd.R_drewN | apply Kd.R_drew)); exact Kd.R_mono HO447.out (fun _ hk => hk.2)⟩, ⟨by (with_reducible repeat (first | refine blk_drewN ?_ _ | refine blk_drew ?_ | refine blk_alloc ?_ _)); exact BK441.out⟩, ⟨by (with_reducible repeat (first | refine blk_drewN ?_ _ | refine blk_drew ?_ | refine blk_alloc ?_ _)); exact BK452.out⟩, ⟨by repeat (first | (with_reducible first | exact HB.out | apply below_alloc | apply pw_below_drewN | apply below_drew1 | refine below_set ?_ GE441.out | refine below_set ?_ GE452.out) | exact HB.out)⟩⟩
  case rest =>
   clear HC5
   try clear c1
   try clear c2
   try clear c2b0
   try clear c2b1
   try clear p2
   try clear c3
   try clear c9
   try clear c14
   try clear c18
   try clear c19
   try clear c23
   try clear c24
   try clear hcz15_0
   try clear hcz15_1
   try clear hcz15_2
   try clear hcz15_3
   try clear hcz15_4
   try clear hcz20_0
   try clear hcz20_1
   try clear hcz20_2
   try clear hcz20_3
   try clear hcz20_4
   try clear hcz21_0
   try clear hcz21_1
   try clear hcz21_2
   try clear hcz21_3
   try clear hcz21_4
   try clear hcz24_0
   try clear hcz24_1
   try clear hcz24_2
   try clear hcz24_3
   try clear hcz24_4
   try clear hcz25_0
   try clear hcz25_1
   try clear hcz25_2
   try clear hcz25_3
   try clear hcz25_4
   try clear hcz9_0
   try clear hcz9_1
   try clear hcz9_2
   try clear hcz9_3
   try clear hcz9_4
   try clear hfz15_0
   try clear hfz15_1
   try clear hfz15_2
   try clear hfz15_3
   try clear hfz15_4
   try clear hfz20_0
   try clear hfz20_1
   try clear hfz20_2
   try clear hfz20_3
   try clear hfz20_4
   try clear hfz21_0
   try clear hfz21_1
   try clear hfz21_2
   try clear hfz21_3
   try clear hfz21_4
   try clear hfz24_0
   try clear hfz24_1
   try clear hfz24_2
   try clear hfz24_3
   try clear hfz24_4
   try clear hfz25_0
   try clear hfz25_1
   try clear hfz25_2
   try clear hfz25_3
   try clear hfz25_4
   try clear hfz9_0
   try clear hfz9_1
   try clear hfz9_2
   try clear hfz9_3
   try clear hfz9_4
   obtain ⟨kq, x32_4, rfl, HA, HJ4, HO_442000, HO_442001, HO_453000, HO_453001, BK441, BK452, HB⟩ := hcut
   cases kq with
   | zero => exact absurd HA.out (by simp [laws_FnExactDecodeEdit.j0])
   | succ kj4 =>
    have H := HA.out
    clear HA
    simp only [laws_FnExactDecodeEdit.j0] at H
    by_cases c27 : x32_4 = true
    ·subst c27
     have H1 : (some false) = some true := by rw [if_pos rfl] at H; exact H
     clear H
     have H := H1
     clear H1
     exact absurd H (by simp)
    ·replace c27 := Bool.eq_false_iff.mpr c27
     subst c27
     have H1 : ((laws_markEdit.f kj4 t442 t445 t448 t449 t450 1).bind fun bt454 => ((laws_heldEdit.f kj4 bt454.2.1 bt454.2.2 t448 t449 t450 1).bind fun t457 => (if t457 < 0 then (some false) else (if t457 = bt454.1 then ((impl_DecodeEdit.f a0).bind fun bt458 => ((laws_eqEdit.f kj4 bt458.1 bt458.2.1 bt458.2.2.1 bt458.2.2.2.1 bt458.2.2.2.2.1 t431 t434 t437 t438 t439).bind fun t469 => (if t469 = true then (if (bt458.2.2.2.2.2 != t440) = true then (some false) else (some true)) else (some false)))) else (some false))))) = some true := by rw [if_neg (show ¬ (false = true) by decide)] at H; exact H
     clear H
     have H := H1
     clear H1
     replace H := Option.bind_eq_some_iff.mp H
     obtain ⟨⟨t454, t455, t456⟩, A280, H⟩ := H
     replace H : ((laws_heldEdit.f kj4 t455 t456 t448 t449 t450 1).bind fun t457 => (if t457 < 0 then (some false) else (if t457 = t454 then ((impl_DecodeEdit.f a0).bind fun bt458 => ((laws_eqEdit.f kj4 bt458.1 bt458.2.1 bt458.2.2.1 bt458.2.2.2.1 bt458.2.2.2.2.1 t431 t434 t437 t438 t439).bind fun t469 => (if t469 = true then (if (bt458.2.2.2.2.2 != t440) = true then (some false) else (some true)) else (some false)))) else (some false)))) = some true := H
     have A28 := Aside0.mk A280
     clear A280
     replace H := Option.bind_eq_some_iff.mp H
     obtain ⟨t457, A290, H⟩ := H
     replace H : (if t457 < 0 then (some false) else (if t457 = t454 then ((impl_DecodeEdit.f a0).bind fun bt458 => ((laws_eqEdit.f kj4 bt458.1 bt458.2.1 bt458.2.2.1 bt458.2.2.2.1 bt458.2.2.2.2.1 t431 t434 t437 t438 t439).bind fun t469 => (if t469 = true then (if (bt458.2.2.2.2.2 != t440) = true then (some false) else (some true)) else (some false)))) else (some false))) = some true := H
     have A29 := Aside0.mk A290
     clear A290
     by_cases c30 : t457 < 0
     ·rw [if_pos c30] at H
      have c30b0 : decide (t457 < 0) = true := decide_eq_true c30
      clear c30
      exact absurd H (by simp)
     ·rw [if_neg c30] at H
      have c30b0 : decide (t457 < 0) = false := decide_eq_false c30
      clear c30
      by_cases c31 : t457 = t454
      ·rw [if_pos c31] at H
       have c31b0 : (t457 == t454) = true := beq_iff_eq.mpr c31
       have c31b1 : (t457 != t454) = false := bne_eq_false_iff_eq.mpr c31
       clear c31
       replace H := Option.bind_eq_some_iff.mp H
       obtain ⟨⟨t458, t461, t464, t465, t466, t467⟩, A320, H⟩ := H
       replace H : ((laws_eqEdit.f kj4 t458 t461 t464 t465 t466 t431 t434 t437 t438 t439).bind fun t469 => (if t469 = true then (if (t467 != t440) = true then (some false) else (some true)) else (some false))) = some true := H
       have A32 := Aside0.mk A320
       clear A320
       replace H := Option.bind_eq_some_iff.mp H
       obtain ⟨t469, A330, H⟩ := H
       replace H : (if t469 = true then (if (t467 != t440) = true then (some false) else (some true)) else (some false)) = some true := H
       have A33 := Aside0.mk A330
       clear A330
       by_cases c34 : t469 = true
       ·subst c34
        have H1 : (if (t467 != t440) = true then (some false) else (some true)) = some true := by rw [if_pos rfl] at H; exact H
        clear H
        have H := H1
        clear H1
        by_cases c35 : (t467 != t440) = true
        ·rw [if_pos c35] at H
         have c35b0 : (t467 != t440) = true := c35
         (try (have c35b1 : decide (t467 = t440) = false := by simpa using c35))
         (try (have c35b2 : (t467 == t440) = false := by simpa using c35))
         (try (have c35b3 : ¬ (t467 = t440) := by simpa using c35))
         clear c35
         exact absurd H (by simp)
        ·rw [if_neg c35] at H
         have c35b0 : (t467 != t440) = false := by simpa using c35
         (try (have c35b1 : decide (t467 = t440) = true := by simpa using c35))
         (try (have c35b2 : (t467 == t440) = true := by simpa using c35))
         clear c35
         clear H
         have hnb36 := NB452_441.out
         have hnc36 := NB441_452.out
         have hcz37_0 : wc.cell? ⟨gb452, 0, none⟩ = some (.slice Ao13 t442.length co13) := (blk_cell BK452.out 0).trans rfl
         have hcz37_1 : wc.cell? ⟨gb452, 1, none⟩ = some (.slice Ao16 t445.length co16) := (blk_cell BK452.out 1).trans rfl
         have hcz37_2 : wc.cell? ⟨gb452, 2, none⟩ = some (.int .i64 t448) := (blk_cell BK452.out 2).trans rfl
         have hcz37_3 : wc.cell? ⟨gb452, 3, none⟩ = some (.int .i64 t449) := (blk_cell BK452.out 3).trans rfl
         have hcz37_4 : wc.cell? ⟨gb452, 4, none⟩ = some (.int .i64 t450) := (blk_cell BK452.out 4).trans rfl
         have hfz37_0 := blk_frozen BK452.out 0
         have hfz37_1 := blk_frozen BK452.out 1
         have hfz37_2 := blk_frozen BK452.out 2
         have hfz37_3 := blk_frozen BK452.out 3
         have hfz37_4 := blk_frozen BK452.out 4
         go_wp2_with (first | ((with_reducible refine gate_callee (f := 31) rfl ?_); refine goesL_ (some 35) rfl rfl Try.func31 (by kernel_rfl) rfl #[.agg #[.slice Ao13 t442.length co13, .slice Ao16 t445.length co16, .int .i64 t448, .int .i64 t449, .int .i64 t450], .int .i64 1] rfl (by (try simp only [List.map_toArray, List.map_cons, List.map_nil]); first | done | rfl | (simp only [List.length_drop, List.length_take]; rfl)) ?_; (with_reducible refine (laws_markEdit.calls kj4 (fun k_ => some k_ = (.slice Ao13 t442.length co13 : Value).ownBlock) (.slice Ao13 t442.length co13) t442 (fun k_ => some k_ = (.slice Ao16 t445.length co16 : Value).ownBlock) (.slice Ao16 t445.length co16) t445 t448 t449 t450 1 t454 t455 t456 w _ ?side1 ?side2 ?side3 A28.out).mono ?_); (case side1 => repeat (first | (with_reducible first | exact HB.out | apply below_alloc | apply pw_below_drewN | apply below_drew1 | refine below_set ?_ GE441.out | refine below_set ?_ GE452.out) | exact HB.out)); (case side2 => exact Kd.R_tight rfl HO_453000.out); (case side3 => exact Kd.R_tight rfl HO_453001.out); rintro e w38 ⟨rfl, hy0, hy1, hb, hkp⟩; refine ⟨_, rfl, ?_⟩; have n0_ := Aside0.mk (Kd.R_mono (ok' := fun k_ => some k_ ≠ (.slice Ao13 t442.length co13 : Value).ownBlock) (Kd.R_keptB ((Kd.R_apart' HO_442000.out (Kd.R_typed HO_453001.out) (by decide))) hkp (fun k_ hk_ hs_ => Or.elim hs_ (fun e_ => (hk_.1) e_) (fun e_ => (hk_.2) e_))) (fun k_ hk_ => hk_.1.1)); have n1_ := Aside0.mk (Kd.R_mono (ok' := fun k_ => some k_ ≠ (.slice Ao16 t445.length co16 : Value).ownBlock) (Kd.R_keptB ((Kd.R_apart' HO_442001.out (Kd.R_typed HO_453000.out) (by decide))) hkp (fun k_ hk_ hs_ => Or.elim hs_ (fun e_ => (hk_.2) e_) (fun e_ => (hk_.1) e_))) (fun k_ hk_ => hk_.1.1)); have n2_ := Aside0.mk (Kd.R_reok rfl hy0 (fun k_ e_ => HO_453000.out.1 k_ e_)); have n3_ := Aside0.mk (Kd.R_reok rfl hy1 (fun k_ e_ => HO_453001.out.1 k_ e_)); have n4_ := Aside0.mk (blk_kept (by first | exact BK441.out | exact blk_drewN BK441.out _ | exact blk_drew BK441.out) hkp (fun hs_ => Or.elim hs_ (fun e_ => (fun e_ => (Kd.R_ne HO_453000.out BK441.out (by decide)) e_) e_) (fun e_ => (fun e_ => (Kd.R_ne HO_453001.out BK441.out (by decide)) e_) e_))); have n5_ := Aside0.mk (blk_kept (by first | exact BK452.out | exact blk_drewN BK452.out _ | exact blk_drew BK452.out) hkp (fun hs_ => Or.elim hs_ (fun e_ => (fun e_ => (Kd.R_ne HO_453000.out BK452.out (by decide)) e_) e_) (fun e_ => (fun e_ => (Kd.R_ne HO_453001.out BK452.out (by decide)) e_) e_))); have n6_ := Aside0.mk (hb); clear HO_442000; clear HO_442001; clear HO_453000; clear HO_453001; clear BK441; clear BK452; clear HB; have HO_442000 := n0_; have HO_442001 := n1_; have HO_453000 := n2_; have HO_453001 := n3_; have BK441 := n4_; have BK452 := n5_; have HB := n6_; clear n0_ n1_ n2_ n3_ n4_ n5_ n6_; (try clear hb); (try clear hkp); (try clear hy0); (try clear hy1); have hcz39_0 : w38.cell? ⟨gb452, 0, none⟩ = some (.slice Ao13 t442.length co13) := (blk_cell BK452.out 0).trans rfl; have hcz39_1 : w38.cell? ⟨gb452, 1, none⟩ = some (.slice Ao16 t445.length co16) := (blk_cell BK452.out 1).trans rfl; have hcz39_2 : w38.cell? ⟨gb452, 2, none⟩ = some (.int .i64 t448) := (blk_cell BK452.out 2).trans rfl; have hcz39_3 : w38.cell? ⟨gb452, 3, none⟩ = some (.int .i64 t449) := (blk_cell BK452.out 3).trans rfl; have hcz39_4 : w38.cell? ⟨gb452, 4, none⟩ = some (.int .i64 t450) := (blk_cell BK452.out 4).trans rfl; have hfz39_0 := blk_frozen BK452.out 0; have hfz39_1 := blk_frozen BK452.out 1; have hfz39_2 := blk_frozen BK452.out 2; have hfz39_3 := blk_frozen BK452.out 3; have hfz39_4 := blk_frozen BK452.out 4) | ((with_reducible refine gate_callee (f := 32) rfl ?_); refine goesL_ (some 38) rfl rfl Try.func32 (by kernel_rfl) rfl #[.agg #[.slice Ao13 t455.length co13, .slice Ao16 t456.length co16, .int .i64 t448, .int .i64 t449, .int .i64 t450], .int .i64 1] rfl (by (try simp only [List.map_toArray, List.map_cons, List.map_nil]); first | done | (rw [show t455.length = t442.length from (Kd.R_reads' HO_453000.out).1.symm, show t456.length = t445.length from (Kd.R_reads' HO_453001.out).1.symm] <;> rfl) | rfl | (simp only [List.length_drop, List.length_take]; rfl)) ?_; (with_reducible refine (laws_heldEdit.calls kj4 _ _ t455 _ _ t456 t448 t449 t450 1 t457 _ ?side1 ?side2 ?side3 ?side4 A29.out).mono ?_); (case side1 => repeat (first | exact (Kd.R_reads' HO_453000.out).2.2 | (with_reducible refine Kd.C_alloc ?_ _) | (with_reducible refine Kd.C_drewN ?_ _) | (with_reducible refine Kd.C_drew ?_))); (case side2 => rw [show t455.length = t442.length from (Kd.R_reads' HO_453000.out).1.symm]; exact (Kd.R_reads' HO_453000.out).2.1); (case side3 => repeat (first | exact (Kd.R_reads' HO_453001.out).2.2 | (with_reducible refine Kd.C_alloc ?_ _) | (with_reducible refine Kd.C_drewN ?_ _) | (with_reducible refine Kd.C_drew ?_))); (case side4 => rw [show t456.length = t445.length from (Kd.R_reads' HO_453001.out).1.symm]; exact (Kd.R_reads' HO_453001.out).2.1); rintro e w40 ⟨rfl, hb⟩; refine ⟨_, rfl, ?_⟩; have n0_ := Aside0.mk (Kd.R_below (by (with_reducible repeat (first | apply Kd.R_alloc | apply Kd.R_drewN | apply Kd.R_drew)); exact HO_442000.out) hb); have n1_ := Aside0.mk (Kd.R_below (by (with_reducible repeat (first | apply Kd.R_alloc | apply Kd.R_drewN | apply Kd.R_drew)); exact HO_442001.out) hb); have n2_ := Aside0.mk (Kd.R_below (by (with_reducible repeat (first | apply Kd.R_alloc | apply Kd.R_drewN | apply Kd.R_drew)); exact HO_453000.out) hb); have n3_ := Aside0.mk (Kd.R_below (by (with_reducible repeat (first | apply Kd.R_alloc | apply Kd.R_drewN | apply Kd.R_drew)); exact HO_453001.out) hb); have n4_ := Aside0.mk (blk_below (g := gb441) (o := .cells #[.slice Ao8 t431.length co8, .slice Ao10 t434.length co10, .int .i64 t437, .int .i64 t438, .int .i64 t439] 43 (0, 0)) (by (with_reducible repeat (first | refine blk_drewN ?_ _ | refine blk_drew ?_ | refine blk_alloc ?_ _)); exact BK441.out) hb); have n5_ := Aside0.mk (blk_below (g := gb452) (o := .cells #[.slice Ao13 t442.length co13, .slice Ao16 t445.length co16, .int .i64 t448, .int .i64 t449, .int .i64 t450] 43 (0, 0)) (by (with_reducible repeat (first | refine blk_drewN ?_ _ | refine blk_drew ?_ | refine blk_alloc ?_ _)); exact BK452.out) hb); have n6_ := Aside0.mk (below_step (by repeat (first | (with_reducible first | exact HB.out | apply below_alloc | apply pw_below_drewN | apply below_drew1 | refine below_set ?_ GE441.out | refine below_set ?_ GE452.out) | exact HB.out)) hb); clear HO_442000; clear HO_442001; clear HO_453000; clear HO_453001; clear BK441; clear BK452; clear HB; have HO_442000 := n0_; have HO_442001 := n1_; have HO_453000 := n2_; have HO_453001 := n3_; have BK441 := n4_; have BK452 := n5_; have HB := n6_; clear n0_ n1_ n2_ n3_ n4_ n5_ n6_; (try clear hb); (try clear hb2); (try clear hk); (try clear hi)) | ((with_reducible refine gate_callee (f := 30) rfl ?_); refine goesL_ (some 46) rfl rfl Try.func30 (by kernel_rfl) rfl #[.string a0] rfl (by (try simp only [List.map_toArray, List.map_cons, List.map_nil]); first | done | rfl | (simp only [List.length_drop, List.length_take]; rfl)) ?_; (with_reducible refine (impl_DecodeEdit.calls a0 t458 t461 t464 t465 t466 t467 _ A32.out).mono ?_); rintro e w41 ⟨v459, v462, rfl, ho0, ho1, hb⟩; refine ⟨_, rfl, ?_⟩; have n0_ := Aside0.mk (Kd.R_elder' (by (with_reducible repeat (first | apply Kd.R_alloc | apply Kd.R_drewN | apply Kd.R_drew)); exact HO_442000.out) (Kd.R_base ho0) hb); have n1_ := Aside0.mk (Kd.R_elder' (by (with_reducible repeat (first | apply Kd.R_alloc | apply Kd.R_drewN | apply Kd.R_drew)); exact HO_442001.out) (Kd.R_base ho1) hb); have n2_ := Aside0.mk (Kd.R_elder' (by (with_reducible repeat (first | apply Kd.R_alloc | apply Kd.R_drewN | apply Kd.R_drew)); exact HO_453000.out) (Kd.R_base ho0) hb); have n3_ := Aside0.mk (Kd.R_elder' (by (with_reducible repeat (first | apply Kd.R_alloc | apply Kd.R_drewN | apply Kd.R_drew)); exact HO_453001.out) (Kd.R_base ho1) hb); have n4_ := Aside0.mk (Kd.R_lower (Kd.R_new' (Kd.R_new' ho0 (Kd.R_lt (by (with_reducible repeat (first | apply Kd.R_alloc | apply Kd.R_drewN | apply Kd.R_drew)); exact HO_442000.out))) (Kd.R_lt (by (with_reducible repeat (first | apply Kd.R_alloc | apply Kd.R_drewN | apply Kd.R_drew)); exact HO_453000.out))) (below_size (by repeat (first | (with_reducible first | exact HB.out | apply below_alloc | apply pw_below_drewN | apply below_drew1 | refine below_set ?_ GE441.out | refine below_set ?_ GE452.out) | exact HB.out)))); have n5_ := Aside0.mk (Kd.R_lower (Kd.R_new' (Kd.R_new' ho1 (Kd.R_lt (by (with_reducible repeat (first | apply Kd.R_alloc | apply Kd.R_drewN | apply Kd.R_drew)); exact HO_442001.out))) (Kd.R_lt (by (with_reducible repeat (first | apply Kd.R_alloc | apply Kd.R_drewN | apply Kd.R_drew)); exact HO_453001.out))) (below_size (by repeat (first | (with_reducible first | exact HB.out | apply below_alloc | apply pw_below_drewN | apply below_drew1 | refine below_set ?_ GE441.out | refine below_set ?_ GE452.out) | exact HB.out)))); have n6_ := Aside0.mk (blk_below (g := gb441) (o := .cells #[.slice Ao8 t431.length co8, .slice Ao10 t434.length co10, .int .i64 t437, .int .i64 t438, .int .i64 t439] 43 (0, 0)) (by (with_reducible repeat (first | refine blk_drewN ?_ _ | refine blk_drew ?_ | refine blk_alloc ?_ _)); exact BK441.out) hb); have n7_ := Aside0.mk (blk_below (g := gb452) (o := .cells #[.slice Ao13 t442.length co13, .slice Ao16 t445.length co16, .int .i64 t448, .int .i64 t449, .int .i64 t450] 43 (0, 0)) (by (with_reducible repeat (first | refine blk_drewN ?_ _ | refine blk_drew ?_ | refine blk_alloc ?_ _)); exact BK452.out) hb); have n8_ := Aside0.mk (below_step (by repeat (first | (with_reducible first | exact HB.out | apply below_alloc | apply pw_below_drewN | apply below_drew1 | refine below_set ?_ GE441.out | refine below_set ?_ GE452.out) | exact HB.out)) hb); clear HO_442000; clear HO_442001; clear HO_453000; clear HO_453001; clear BK441; clear BK452; clear HB; have HO_442000 := n0_; have HO_442001 := n1_; have HO_453000 := n2_; have HO_453001 := n3_; have HO460 := n4_; have HO463 := n5_; have BK441 := n6_; have BK452 := n7_; have HB := n8_; clear n0_ n1_ n2_ n3_ n4_ n5_ n6_ n7_ n8_; (try clear hb); (try clear hb2); (try clear hk); (try clear hi); (try clear ho0); (try clear ho1)) | ((with_reducible refine gate_dst (N := 9) rfl ?_); refine box_event ?hg (N := 9) ?hd (cs := #[.slice none 0 0, .slice none 0 0, .int .i64 0, .int .i64 0, .int .i64 0]) (t := 43) ?hr ?_; (case hd => rfl); (case hg => rfl); (case hr => first | (go_simp; done) | (go_simp; rfl)); intro gb468 hg w42 hbox hb; have n0_ := Aside0.mk (Kd.R_below (by (with_reducible repeat (first | apply Kd.R_alloc | apply Kd.R_drewN | apply Kd.R_drew)); exact HO_442000.out) hb); have n1_ := Aside0.mk (Kd.R_below (by (with_reducible repeat (first | apply Kd.R_alloc | apply Kd.R_drewN | apply Kd.R_drew)); exact HO_442001.out) hb); have n2_ := Aside0.mk (Kd.R_below (by (with_reducible repeat (first | apply Kd.R_alloc | apply Kd.R_drewN | apply Kd.R_drew)); exact HO_453000.out) hb); have n3_ := Aside0.mk (Kd.R_below (by (with_reducible repeat (first | apply Kd.R_alloc | apply Kd.R_drewN | apply Kd.R_drew)); exact HO_453001.out) hb); have n4_ := Aside0.mk (Kd.R_below (by (with_reducible repeat (first | apply Kd.R_alloc | apply Kd.R_drewN | apply Kd.R_drew)); exact HO460.out) hb); have n5_ := Aside0.mk (Kd.R_below (by (with_reducible repeat (first | apply Kd.R_alloc | apply Kd.R_drewN | apply Kd.R_drew)); exact HO463.out) hb); have n6_ := Aside0.mk (blk_below (g := gb441) (o := .cells #[.slice Ao8 t431.length co8, .slice Ao10 t434.length co10, .int .i64 t437, .int .i64 t438, .int .i64 t439] 43 (0, 0)) (by (with_reducible repeat (first | refine blk_drewN ?_ _ | refine blk_drew ?_ | refine blk_alloc ?_ _)); exact BK441.out) hb); have n7_ := Aside0.mk (blk_below (g := gb452) (o := .cells #[.slice Ao13 t442.length co13, .slice Ao16 t445.length co16, .int .i64 t448, .int .i64 t449, .int .i64 t450] 43 (0, 0)) (by (with_reducible repeat (first | refine blk_drewN ?_ _ | refine blk_drew ?_ | refine blk_alloc ?_ _)); exact BK452.out) hb); have n8_ := Aside0.mk (below_step (by repeat (first | (with_reducible first | exact HB.out | apply below_alloc | apply pw_below_drewN | apply below_drew1 | refine below_set ?_ GE441.out | refine below_set ?_ GE452.out) | exact HB.out)) hb); have n9_ := Aside0.mk (hbox); have n10_ := Aside0.mk ((by rw [hg]; exact (below_size (by repeat (first | (with_reducible first | exact HB.out | apply below_alloc | apply pw_below_drewN | apply below_drew1 | refine below_set ?_ GE441.out | refine below_set ?_ GE452.out) | exact HB.out))) : w.heap.size ≤ gb468)); have n11_ := Aside0.mk ((by rw [hg]; exact (below_size (by repeat (first | (with_reducible first | exact HB.out | apply below_alloc | apply pw_below_drewN | apply below_drew1 | refine below_set ?_ GE441.out | refine below_set ?_ GE452.out) | exact HB.out))) : w.heap.size ≤ gb468)); have n12_ := Aside0.mk ((by rw [hg]; exact Nat.ne_of_lt (blk_lt (g := gb441) (o := .cells #[.slice Ao8 t431.length co8, .slice Ao10 t434.length co10, .int .i64 t437, .int .i64 t438, .int .i64 t439] 43 (0, 0)) (by (with_reducible repeat (first | refine blk_drewN ?_ _ | refine blk_drew ?_ | refine blk_alloc ?_ _)); exact BK441.out)) : gb441 ≠ gb468)); have n13_ := Aside0.mk ((by rw [hg]; exact Nat.ne_of_gt (blk_lt (g := gb441) (o := .cells #[.slice Ao8 t431.length co8, .slice Ao10 t434.length co10, .int .i64 t437, .int .i64 t438, .int .i64 t439] 43 (0, 0)) (by (with_reducible repeat (first | refine blk_drewN ?_ _ | refine blk_drew ?_ | refine blk_alloc ?_ _)); exact BK441.out)) : gb468 ≠ gb441)); have n14_ := Aside0.mk ((by rw [hg]; exact Nat.ne_of_lt (blk_lt (g := gb452) (o := .cells #[.slice Ao13 t442.length co13, .slice Ao16 t445.length co16, .int .i64 t448, .int .i64 t449, .int .i64 t450] 43 (0, 0)) (by (with_reducible repeat (first | refine blk_drewN ?_ _ | refine blk_drew ?_ | refine blk_alloc ?_ _)); exact BK452.out)) : gb452 ≠ gb468)); have n15_ := Aside0.mk ((by rw [hg]; exact Nat.ne_of_gt (blk_lt (g := gb452) (o := .cells #[.slice Ao13 t442.length co13, .slice Ao16 t445.length co16, .int .i64 t448, .int .i64 t449, .int .i64 t450] 43 (0, 0)) (by (with_reducible repeat (first | refine blk_drewN ?_ _ | refine blk_drew ?_ | refine blk_alloc ?_ _)); exact BK452.out)) : gb468 ≠ gb452)); clear HO_442000; clear HO_442001; clear HO_453000; clear HO_453001; clear HO460; clear HO463; clear BK441; clear BK452; clear HB; have HO_442000 := n0_; have HO_442001 := n1_; have HO_453000 := n2_; have HO_453001 := n3_; have HO460 := n4_; have HO463 := n5_; have BK441 := n6_; have BK452 := n7_; have HB := n8_; have BK468 := n9_; have GW468 := n10_; have GE468 := n11_; have NB441_468 := n12_; have NB468_441 := n13_; have NB452_468 := n14_; have NB468_452 := n15_; clear n0_ n1_ n2_ n3_ n4_ n5_ n6_ n7_ n8_ n9_ n10_ n11_ n12_ n13_ n14_ n15_; clear hb hbox hg; obtain ⟨Ao43, co43, eo43⟩ := Kd.R_slice HO460.out; subst eo43; have hnb44 := NB468_441.out; have hnc44 := NB441_468.out; have hnb45 := NB468_452.out; have hnc45 := NB452_468.out; have hcz46_0 : w42.cell? ⟨gb468, 0, none⟩ = some (.slice none 0 0) := (blk_cell BK468.out 0).trans rfl; have hcz46_1 : w42.cell? ⟨gb468, 1, none⟩ = some (.slice none 0 0) := (blk_cell BK468.out 1).trans rfl; have hcz46_2 : w42.cell? ⟨gb468, 2, none⟩ = some (.int .i64 0) := (blk_cell BK468.out 2).trans rfl; have hcz46_3 : w42.cell? ⟨gb468, 3, none⟩ = some (.int .i64 0) := (blk_cell BK468.out 3).trans rfl; have hcz46_4 : w42.cell? ⟨gb468, 4, none⟩ = some (.int .i64 0) := (blk_cell BK468.out 4).trans rfl; have hfz46_0 := blk_frozen BK468.out 0; have hfz46_1 := blk_frozen BK468.out 1; have hfz46_2 := blk_frozen BK468.out 2; have hfz46_3 := blk_frozen BK468.out 3; have hfz46_4 := blk_frozen BK468.out 4; obtain ⟨Ao47, co47, eo47⟩ := Kd.R_slice HO463.out; subst eo47; have hcz48_0 : w42.cell? ⟨gb441, 0, none⟩ = some (.slice Ao8 t431.length co8) := (blk_cell BK441.out 0).trans rfl; have hcz48_1 : w42.cell? ⟨gb441, 1, none⟩ = some (.slice Ao10 t434.length co10) := (blk_cell BK441.out 1).trans rfl; have hcz48_2 : w42.cell? ⟨gb441, 2, none⟩ = some (.int .i64 t437) := (blk_cell BK441.out 2).trans rfl; have hcz48_3 : w42.cell? ⟨gb441, 3, none⟩ = some (.int .i64 t438) := (blk_cell BK441.out 3).trans rfl; have hcz48_4 : w42.cell? ⟨gb441, 4, none⟩ = some (.int .i64 t439) := (blk_cell BK441.out 4).trans rfl; have hfz48_0 := blk_frozen BK441.out 0; have hfz48_1 := blk_frozen BK441.out 1; have hfz48_2 := blk_frozen BK441.out 2; have hfz48_3 := blk_frozen BK441.out 3; have hfz48_4 := blk_frozen BK441.out 4) | ((with_reducible refine gate_callee (f := 24) rfl ?_); refine goesL_ (some 51) rfl rfl Try.func24 (by kernel_rfl) rfl #[.agg #[.slice Ao43 t458.length co43, .slice Ao47 t461.length co47, .int .i64 t464, .int .i64 t465, .int .i64 t466], .agg #[.slice Ao8 t431.length co8, .slice Ao10 t434.length co10, .int .i64 t437, .int .i64 t438, .int .i64 t439]] rfl (by (try simp only [List.map_toArray, List.map_cons, List.map_nil]); first | done | rfl | (simp only [List.length_drop, List.length_take]; rfl)) ?_; (with_reducible refine (laws_eqEdit.calls kj4 _ _ t458 _ _ t461 t464 t465 t466 _ _ t431 _ _ t434 t437 t438 t439 true _ ?side1 ?side2 ?side3 ?side4 ?side5 ?side6 ?side7 ?side8 A33.out).mono ?_); (case side1 => refine (Kd.R_reads' (e := 87) (base := w.heap.size) (ok := fun k_ => ((True ∧ some k_ ≠ (.slice Ao8 t431.length co8 : Value).ownBlock) ∧ some k_ ≠ (.slice Ao13 t442.length co13 : Value).ownBlock)) (n := t458.length) (c := co43) ?_).2.2; exact (by (with_reducible repeat (first | apply Kd.R_alloc | apply Kd.R_drewN | apply Kd.R_drew)); exact (Kd.R_mono (Kd.R_far (p := ⟨gb468, 4, none⟩) (Kd.R_far (p := ⟨gb468, 3, none⟩) (Kd.R_far (p := ⟨gb468, 2, none⟩) (Kd.R_far (p := ⟨gb468, 1, none⟩) (Kd.R_far (p := ⟨gb468, 0, none⟩) (Kd.R_types HO460.out BK468.out (by decide)) (fun _ hk => hk.2) (.slice Ao43 t458.length co43)) (fun _ hk => hk.2) (.slice Ao47 t461.length co47)) (fun _ hk => hk.2) (.int .i64 t464)) (fun _ hk => hk.2) (.int .i64 t465)) (fun _ hk => hk.2) (.int .i64 t466)) (fun _ h_ => h_.1)))); (case side2 => exact (Kd.R_reads' HO460.out).2.1); (case side3 => refine (Kd.R_reads' (e := 3) (base := w.heap.size) (ok := fun k_ => ((True ∧ some k_ ≠ (.slice Ao10 t434.length co10 : Value).ownBlock) ∧ some k_ ≠ (.slice Ao16 t445.length co16 : Value).ownBlock)) (n := t461.length) (c := co47) ?_).2.2; exact (by (with_reducible repeat (first | apply Kd.R_alloc | apply Kd.R_drewN | apply Kd.R_drew)); exact (Kd.R_mono (Kd.R_far (p := ⟨gb468, 4, none⟩) (Kd.R_far (p := ⟨gb468, 3, none⟩) (Kd.R_far (p := ⟨gb468, 2, none⟩) (Kd.R_far (p := ⟨gb468, 1, none⟩) (Kd.R_far (p := ⟨gb468, 0, none⟩) (Kd.R_types HO463.out BK468.out (by decide)) (fun _ hk => hk.2) (.slice Ao43 t458.length co43)) (fun _ hk => hk.2) (.slice Ao47 t461.length co47)) (fun _ hk => hk.2) (.int .i64 t464)) (fun _ hk => hk.2) (.int .i64 t465)) (fun _ hk => hk.2) (.int .i64 t466)) (fun _ h_ => h_.1)))); (case side4 => exact (Kd.R_reads' HO463.out).2.1); (case side5 => refine (Kd.R_reads' (e := 87) (base := w.heap.size) (ok := fun k_ => (some k_ ≠ (.slice Ao13 t442.length co13 : Value).ownBlock ∧ some k_ ≠ (.slice Ao43 t458.length co43 : Value).ownBlock)) (n := t431.length) (c := co8) ?_).2.2; exact (by (with_reducible repeat (first | apply Kd.R_alloc | apply Kd.R_drewN | apply Kd.R_drew)); exact (Kd.R_mono (Kd.R_far (p := ⟨gb468, 4, none⟩) (Kd.R_far (p := ⟨gb468, 3, none⟩) (Kd.R_far (p := ⟨gb468, 2, none⟩) (Kd.R_far (p := ⟨gb468, 1, none⟩) (Kd.R_far (p := ⟨gb468, 0, none⟩) (Kd.R_types HO_442000.out BK468.out (by decide)) (fun _ hk => hk.2) (.slice Ao43 t458.length co43)) (fun _ hk => hk.2) (.slice Ao47 t461.length co47)) (fun _ hk => hk.2) (.int .i64 t464)) (fun _ hk => hk.2) (.int .i64 t465)) (fun _ hk => hk.2) (.int .i64 t466)) (fun _ h_ => h_.1)))); (case side6 => exact (Kd.R_reads' HO_442000.out).2.1); (case side7 => refine (Kd.R_reads' (e := 3) (base := w.heap.size) (ok := fun k_ => (some k_ ≠ (.slice Ao16 t445.length co16 : Value).ownBlock ∧ some k_ ≠ (.slice Ao47 t461.length co47 : Value).ownBlock)) (n := t434.length) (c := co10) ?_).2.2; exact (by (with_reducible repeat (first | apply Kd.R_alloc | apply Kd.R_drewN | apply Kd.R_drew)); exact (Kd.R_mono (Kd.R_far (p := ⟨gb468, 4, none⟩) (Kd.R_far (p := ⟨gb468, 3, none⟩) (Kd.R_far (p := ⟨gb468, 2, none⟩) (Kd.R_far (p := ⟨gb468, 1, none⟩) (Kd.R_far (p := ⟨gb468, 0, none⟩) (Kd.R_types HO_442001.out BK468.out (by decide)) (fun _ hk => hk.2) (.slice Ao43 t458.length co43)) (fun _ hk => hk.2) (.slice Ao47 t461.length co47)) (fun _ hk => hk.2) (.int .i64 t464)) (fun _ hk => hk.2) (.int .i64 t465)) (fun _ hk => hk.2) (.int .i64 t466)) (fun _ h_ => h_.1)))); (case side8 => exact (Kd.R_reads' HO_442001.out).2.1); rintro e w49 ⟨rfl, hb⟩; refine ⟨_, rfl, ?_⟩; have n0_ := Aside0.mk (Kd.R_below (by (with_reducible repeat (first | apply Kd.R_alloc | apply Kd.R_drewN | apply Kd.R_drew)); exact (Kd.R_mono (Kd.R_far (p := ⟨gb468, 4, none⟩) (Kd.R_far (p := ⟨gb468, 3, none⟩) (Kd.R_far (p := ⟨gb468, 2, none⟩) (Kd.R_far (p := ⟨gb468, 1, none⟩) (Kd.R_far (p := ⟨gb468, 0, none⟩) (Kd.R_types HO_442000.out BK468.out (by decide)) (fun _ hk => hk.2) (.slice Ao43 t458.length co43)) (fun _ hk => hk.2) (.slice Ao47 t461.length co47)) (fun _ hk => hk.2) (.int .i64 t464)) (fun _ hk => hk.2) (.int .i64 t465)) (fun _ hk => hk.2) (.int .i64 t466)) (fun _ h_ => h_.1))) hb); have n1_ := Aside0.mk (Kd.R_below (by (with_reducible repeat (first | apply Kd.R_alloc | apply Kd.R_drewN | apply Kd.R_drew)); exact (Kd.R_mono (Kd.R_far (p := ⟨gb468, 4, none⟩) (Kd.R_far (p := ⟨gb468, 3, none⟩) (Kd.R_far (p := ⟨gb468, 2, none⟩) (Kd.R_far (p := ⟨gb468, 1, none⟩) (Kd.R_far (p := ⟨gb468, 0, none⟩) (Kd.R_types HO_442001.out BK468.out (by decide)) (fun _ hk => hk.2) (.slice Ao43 t458.length co43)) (fun _ hk => hk.2) (.slice Ao47 t461.length co47)) (fun _ hk => hk.2) (.int .i64 t464)) (fun _ hk => hk.2) (.int .i64 t465)) (fun _ hk => hk.2) (.int .i64 t466)) (fun _ h_ => h_.1))) hb); have n2_ := Aside0.mk (Kd.R_below (by (with_reducible repeat (first | apply Kd.R_alloc | apply Kd.R_drewN | apply Kd.R_drew)); exact (Kd.R_mono (Kd.R_far (p := ⟨gb468, 4, none⟩) (Kd.R_far (p := ⟨gb468, 3, none⟩) (Kd.R_far (p := ⟨gb468, 2, none⟩) (Kd.R_far (p := ⟨gb468, 1, none⟩) (Kd.R_far (p := ⟨gb468, 0, none⟩) (Kd.R_types HO_453000.out BK468.out (by decide)) (fun _ hk => hk.2) (.slice Ao43 t458.length co43)) (fun _ hk => hk.2) (.slice Ao47 t461.length co47)) (fun _ hk => hk.2) (.int .i64 t464)) (fun _ hk => hk.2) (.int .i64 t465)) (fun _ hk => hk.2) (.int .i64 t466)) (fun _ h_ => h_.1))) hb); have n3_ := Aside0.mk (Kd.R_below (by (with_reducible repeat (first | apply Kd.R_alloc | apply Kd.R_drewN | apply Kd.R_drew)); exact (Kd.R_mono (Kd.R_far (p := ⟨gb468, 4, none⟩) (Kd.R_far (p := ⟨gb468, 3, none⟩) (Kd.R_far (p := ⟨gb468, 2, none⟩) (Kd.R_far (p := ⟨gb468, 1, none⟩) (Kd.R_far (p := ⟨gb468, 0, none⟩) (Kd.R_types HO_453001.out BK468.out (by decide)) (fun _ hk => hk.2) (.slice Ao43 t458.length co43)) (fun _ hk => hk.2) (.slice Ao47 t461.length co47)) (fun _ hk => hk.2) (.int .i64 t464)) (fun _ hk => hk.2) (.int .i64 t465)) (fun _ hk => hk.2) (.int .i64 t466)) (fun _ h_ => h_.1))) hb); have n4_ := Aside0.mk (Kd.R_below (by (with_reducible repeat (first | apply Kd.R_alloc | apply Kd.R_drewN | apply Kd.R_drew)); exact (Kd.R_mono (Kd.R_far (p := ⟨gb468, 4, none⟩) (Kd.R_far (p := ⟨gb468, 3, none⟩) (Kd.R_far (p := ⟨gb468, 2, none⟩) (Kd.R_far (p := ⟨gb468, 1, none⟩) (Kd.R_far (p := ⟨gb468, 0, none⟩) (Kd.R_types HO460.out BK468.out (by decide)) (fun _ hk => hk.2) (.slice Ao43 t458.length co43)) (fun _ hk => hk.2) (.slice Ao47 t461.length co47)) (fun _ hk => hk.2) (.int .i64 t464)) (fun _ hk => hk.2) (.int .i64 t465)) (fun _ hk => hk.2) (.int .i64 t466)) (fun _ h_ => h_.1))) hb); have n5_ := Aside0.mk (Kd.R_below (by (with_reducible repeat (first | apply Kd.R_alloc | apply Kd.R_drewN | apply Kd.R_drew)); exact (Kd.R_mono (Kd.R_far (p := ⟨gb468, 4, none⟩) (Kd.R_far (p := ⟨gb468, 3, none⟩) (Kd.R_far (p := ⟨gb468, 2, none⟩) (Kd.R_far (p := ⟨gb468, 1, none⟩) (Kd.R_far (p := ⟨gb468, 0, none⟩) (Kd.R_types HO463.out BK468.out (by decide)) (fun _ hk => hk.2) (.slice Ao43 t458.length co43)) (fun _ hk => hk.2) (.slice Ao47 t461.length co47)) (fun _ hk => hk.2) (.int .i64 t464)) (fun _ hk => hk.2) (.int .i64 t465)) (fun _ hk => hk.2) (.int .i64 t466)) (fun _ h_ => h_.1))) hb); have n6_ := Aside0.mk (blk_below (g := gb441) (o := .cells #[.slice Ao8 t431.length co8, .slice Ao10 t434.length co10, .int .i64 t437, .int .i64 t438, .int .i64 t439] 43 (0, 0)) (by (with_reducible repeat (first | refine blk_drewN ?_ _ | refine blk_drew ?_ | refine blk_alloc ?_ _)); refine blk_far ?_ NB441_468.out _; (with_reducible repeat (first | refine blk_drewN ?_ _ | refine blk_drew ?_ | refine blk_alloc ?_ _)); refine blk_far ?_ NB441_468.out _; (with_reducible repeat (first | refine blk_drewN ?_ _ | refine blk_drew ?_ | refine blk_alloc ?_ _)); refine blk_far ?_ NB441_468.out _; (with_reducible repeat (first | refine blk_drewN ?_ _ | refine blk_drew ?_ | refine blk_alloc ?_ _)); refine blk_far ?_ NB441_468.out _; (with_reducible repeat (first | refine blk_drewN ?_ _ | refine blk_drew ?_ | refine blk_alloc ?_ _)); refine blk_far ?_ NB441_468.out _; (with_reducible repeat (first | refine blk_drewN ?_ _ | refine blk_drew ?_ | refine blk_alloc ?_ _)); exact BK441.out) hb); have n7_ := Aside0.mk (blk_below (g := gb452) (o := .cells #[.slice Ao13 t442.length co13, .slice Ao16 t445.length co16, .int .i64 t448, .int .i64 t449, .int .i64 t450] 43 (0, 0)) (by (with_reducible repeat (first | refine blk_drewN ?_ _ | refine blk_drew ?_ | refine blk_alloc ?_ _)); refine blk_far ?_ NB452_468.out _; (with_reducible repeat (first | refine blk_drewN ?_ _ | refine blk_drew ?_ | refine blk_alloc ?_ _)); refine blk_far ?_ NB452_468.out _; (with_reducible repeat (first | refine blk_drewN ?_ _ | refine blk_drew ?_ | refine blk_alloc ?_ _)); refine blk_far ?_ NB452_468.out _; (with_reducible repeat (first | refine blk_drewN ?_ _ | refine blk_drew ?_ | refine blk_alloc ?_ _)); refine blk_far ?_ NB452_468.out _; (with_reducible repeat (first | refine blk_drewN ?_ _ | refine blk_drew ?_ | refine blk_alloc ?_ _)); refine blk_far ?_ NB452_468.out _; (with_reducible repeat (first | refine blk_drewN ?_ _ | refine blk_drew ?_ | refine blk_alloc ?_ _)); exact BK452.out) hb); have n8_ := Aside0.mk (blk_below (g := gb468) (o := .cells #[.slice Ao43 t458.length co43, .slice Ao47 t461.length co47, .int .i64 t464, .int .i64 t465, .int .i64 t466] 43 (0, 0)) (by (with_reducible repeat (first | refine blk_drewN ?_ _ | refine blk_drew ?_ | refine blk_alloc ?_ _)); refine blk_put (cs := #[.slice Ao43 t458.length co43, .slice Ao47 t461.length co47, .int .i64 t464, .int .i64 t465, .int .i64 0]) ?_ 4 _ rfl; (with_reducible repeat (first | refine blk_drewN ?_ _ | refine blk_drew ?_ | refine blk_alloc ?_ _)); refine blk_put (cs := #[.slice Ao43 t458.length co43, .slice Ao47 t461.length co47, .int .i64 t464, .int .i64 0, .int .i64 0]) ?_ 3 _ rfl; (with_reducible repeat (first | refine blk_drewN ?_ _ | refine blk_drew ?_ | refine blk_alloc ?_ _)); refine blk_put (cs := #[.slice Ao43 t458.length co43, .slice Ao47 t461.length co47, .int .i64 0, .int .i64 0, .int .i64 0]) ?_ 2 _ rfl; (with_reducible repeat (first | refine blk_drewN ?_ _ | refine blk_drew ?_ | refine blk_alloc ?_ _)); refine blk_put (cs := #[.slice Ao43 t458.length co43, .slice none 0 0, .int .i64 0, .int .i64 0, .int .i64 0]) ?_ 1 _ rfl; (with_reducible repeat (first | refine blk_drewN ?_ _ | refine blk_drew ?_ | refine blk_alloc ?_ _)); refine blk_put (cs := #[.slice none 0 0, .slice none 0 0, .int .i64 0, .int .i64 0, .int .i64 0]) ?_ 0 _ rfl; (with_reducible repeat (first | refine blk_drewN ?_ _ | refine blk_drew ?_ | refine blk_alloc ?_ _)); exact BK468.out) hb); have n9_ := Aside0.mk (below_step (by repeat (first | (with_reducible first | exact HB.out | apply below_alloc | apply pw_below_drewN | apply below_drew1 | refine below_set ?_ GE441.out | refine below_set ?_ GE452.out | refine below_set ?_ GE468.out) | exact HB.out)) hb); clear HO_442000; clear HO_442001; clear HO_453000; clear HO_453001; clear HO460; clear HO463; clear BK441; clear BK452; clear BK468; clear HB; have HO_442000 := n0_; have HO_442001 := n1_; have HO_453000 := n2_; have HO_453001 := n3_; have HO460 := n4_; have HO463 := n5_; have BK441 := n6_; have BK452 := n7_; have BK468 := n8_; have HB := n9_; clear n0_ n1_ n2_ n3_ n4_ n5_ n6_ n7_ n8_ n9_; (try clear hb); (try clear hb2); (try clear hk); (try clear hi)))
         go_ret
         exact ⟨by first | rfl | (simp [errW_none, errW_some] <;> rfl) | (simp [*, errW_none, errW_some] <;> rfl), by repeat (first | (with_reducible first | exact HB.out | apply below_alloc | apply pw_below_drewN | apply below_drew1 | refine below_set ?_ GE441.out | refine below_set ?_ GE452.out | refine below_set ?_ GE468.out) | exact HB.out)⟩
       ·replace c34 := Bool.eq_false_iff.mpr c34
        subst c34
        have H1 : (some false) = some true := by rw [if_neg (show ¬ (false = true) by decide)] at H; exact H
        clear H
        have H := H1
        clear H1
        exact absurd H (by simp)
      ·rw [if_neg c31] at H
       have c31b0 : (t457 == t454) = false := beq_eq_false_iff_ne.mpr c31
       have c31b1 : (t457 != t454) = true := bne_iff_ne.mpr c31
       exact absurd H (by simp)

/-- THE ONE PURE STATEMENT of laws_FnExactDecodeEdit: yours. -/
def laws_FnExactDecodeEdit.Pure : Prop := ∀ (a0 : ByteArray), a0.size ≤ 140737488351232 → ∃ k, laws_FnExactDecodeEdit.f k a0 = some true
theorem laws_FnExactDecodeEdit.walk (P : laws_FnExactDecodeEdit.Pure) (a0 : ByteArray) (w : World) (w0 : a0.size ≤ 140737488351232) :
  Calls Try.prog 9 #[.string a0] w fun e w' => e = .returned (.bool true) ∧ Below w.heap.size w w' := by
 obtain ⟨k, h⟩ := P a0 w0
 refine (laws_FnExactDecodeEdit.calls k a0 w h).mono ?_
 rintro e w' ⟨rfl, hd⟩
 exact ⟨rfl, hd⟩

end Go.Proofs.Ytjneloehdcecnaa.P
end
section
/- The laws' rows of entries: weighed, copied, compared. Condition: at most 2 to the 20 of them. -/
namespace Go.Proofs.Ytjneloehdcecnaa.M
open Go.RowKit Go.Proofs.Ytjneloehdcecnaa.P Go.Proofs.YtjneloehdcecnaaW.PrintWords Go.Proofs.YtjneloehdcecnaaW.PrintLast
set_option linter.unusedVariables false
theorem Ev.pure {α : Type} {g : Nat → Option α} {r : α} (h : ∀ k, g k = some r) : Ev g r := ⟨0, fun k _ => h k⟩
def conv (x : S68) : S71 := ⟨x.f0, x.f1, x.f2, x.f3⟩
end Go.Proofs.Ytjneloehdcecnaa.M
end
section
/- The specification's EncodeEntries answers what the program's does. No condition. -/
namespace Go.Proofs.Ytjneloehdcecnaa.M
open Go.RowKit Go.Proofs.Ytjneloehdcecnaa.P Go.Proofs.YtjneloehdcecnaaW.PrintWords Go.Proofs.YtjneloehdcecnaaW.PrintLast
set_option linter.unusedVariables false
def nb (a : ByteArray) : List Int := a.data.toList.map fun b => (b.toNat : Int)
end Go.Proofs.Ytjneloehdcecnaa.M
end
section
/- The specification's DecodeEntries answers what the program's does. Condition: the text has at most 2 to the 20 bytes. -/
namespace Go.Proofs.Ytjneloehdcecnaa.M
open Go.RowKit Go.Proofs.Ytjneloehdcecnaa.P Go.Proofs.YtjneloehdcecnaaW.PrintWords Go.Proofs.YtjneloehdcecnaaW.PrintLast
set_option linter.unusedVariables false
def pc (s : ByteArray) (a : Int) : ByteArray × Int × Bool := if (ttext s a false).2.2 = true then (⟨#[]⟩, 0, false) else ((ttext s a false).1, (ttext s a false).2.1, true)
theorem tnum_good {s : ByteArray} {a : Int} (h : (get s a).2.2 = true) : tnum s a false = ((get s a).1, (get s a).2.1, false) := by unfold tnum; rw [if_neg (by simp), if_pos h]
theorem tnum_fail {s : ByteArray} {a : Int} (h : ¬ (get s a).2.2 = true) : tnum s a false = (0, a, true) := by unfold tnum; rw [if_neg (by simp), if_neg h]
theorem tbytes_bad (s : ByteArray) (a n : Int) : tbytes s a true n = (⟨#[]⟩, a, true) := rfl
theorem piece_ev (s : ByteArray) (a : Int) (hs : s.size ≤ 1048576) : Ev (fun k => spec_l2Piece.f k s a) (pc s a) := by
  refine Ev.bind (spec_get s a hs) ⟨0, fun k _ => ?_⟩
  unfold pc ttext
  by_cases h : (get s a).2.2 = true
  · have g := get_ok h
    rw [if_pos h, tnum_good h, wrap_ok (x := (s.size : Int) - (get s a).2.1) (by omega) (by omega)]
    unfold tbytes
    rw [if_neg (show ¬ false = true by simp)]
    by_cases h2 : (get s a).1 > (s.size : Int) - (get s a).2.1
    · rw [if_pos h2, if_pos h2]
      rfl
    · rw [if_neg h2, if_neg h2, wrap_ok (x := (get s a).2.1 + (get s a).1) (by omega) (by omega), if_pos (by omega), if_pos (by omega), if_pos (by omega)]
      rfl
  · rw [if_neg h, tnum_fail h, tbytes_bad, if_pos rfl]
theorem list_eq_iff (a b : ByteArray) : a.toList = b.toList ↔ a = b := by
  constructor
  · intro h
    apply ByteArray.ext
    apply Array.ext'
    simpa [ByteArray.toList_eq] using h
  · rintro rfl; rfl
end Go.Proofs.Ytjneloehdcecnaa.M
end
section
/- The laws' rows of table references, of numbers, and edits: weighed, copied, compared. Condition: at most 2 to the 20 of them. -/
namespace Go.Proofs.Ytjneloehdcecnaa.M
open Go.RowKit Go.Proofs.Ytjneloehdcecnaa.P Go.Proofs.YtjneloehdcecnaaW.PrintWords Go.Proofs.YtjneloehdcecnaaW.PrintLast
set_option linter.unusedVariables false
theorem eqTableRef_self (x : S87) : laws_eqTableRef.f x.f0 x.f1 x.f2 x.f3 x.f0 x.f1 x.f2 x.f3 = some true := by
  unfold laws_eqTableRef.f
  rw [if_pos rfl, if_pos rfl, if_pos rfl, if_pos rfl]
theorem eqTableRefS_loop (l : List S87) (hl : l.length ≤ 1048576) : ∀ d i : Nat, i + d = l.length → Ev (fun k => laws_eqTableRefS.l0 k l l (i : Int)) true := by
  intro d
  induction d with
  | zero =>
    intro i hi
    refine Ev.step (f := fun _ => some true) (fun k => ?_) (Ev.now _)
    rw [laws_eqTableRefS.l0, if_neg (by omega)]
  | succ d ih =>
    intro i hi
    have hlt : i < l.length := by omega
    refine Ev.step (fun k => ?_) (ih (i + 1) (by omega))
    rw [laws_eqTableRefS.l0, if_pos (by omega), if_pos (by omega), if_pos (by omega), rd87 l i hlt, eqTableRef_self]
    simp only [Option.bind_some]
    rw [if_pos trivial, wrap_succ (by omega)]
theorem eqTableRefS_self (l : List S87) (hl : l.length ≤ 1048576) : Ev (fun k => laws_eqTableRefS.f k l l) true := by
  refine Ev.congr (fun k => ?_) (eqTableRefS_loop l hl l.length 0 (by omega))
  unfold laws_eqTableRefS.f
  rw [if_pos rfl]
  rfl
theorem eqIntS_loop (l : List Int) (hl : l.length ≤ 1048576) : ∀ d i : Nat, i + d = l.length → Ev (fun k => laws_eqIntS.l0 k l l (i : Int)) true := by
  intro d
  induction d with
  | zero =>
    intro i hi
    refine Ev.step (f := fun _ => some true) (fun k => ?_) (Ev.now _)
    rw [laws_eqIntS.l0, if_neg (by omega)]
  | succ d ih =>
    intro i hi
    have hlt : i < l.length := by omega
    refine Ev.step (fun k => ?_) (ih (i + 1) (by omega))
    rw [laws_eqIntS.l0, if_pos (by omega), if_pos (by omega), if_pos (by omega), if_pos rfl, wrap_succ (by omega)]
theorem eqIntS_self (l : List Int) (hl : l.length ≤ 1048576) : Ev (fun k => laws_eqIntS.f k l l) true := by
  refine Ev.congr (fun k => ?_) (eqIntS_loop l hl l.length 0 (by omega))
  unfold laws_eqIntS.f
  rw [if_pos rfl]
  rfl

theorem eqEdit_self (adds : List S87) (dels : List Int) (log next last : Int) (ha : adds.length ≤ 1048576) (hd : dels.length ≤ 1048576) : Ev (fun k => laws_eqEdit.f k adds dels log next last adds dels log next last) true := by
  refine Ev.bind (eqTableRefS_self adds ha) (Ev.congr (fun k => if_pos rfl) (Ev.bind (eqIntS_self dels hd) (Ev.congr (fun k => if_pos rfl) (Ev.pure (fun k => ?_)))))
  rw [if_pos rfl, if_pos rfl, if_pos rfl]
end Go.Proofs.Ytjneloehdcecnaa.M
end

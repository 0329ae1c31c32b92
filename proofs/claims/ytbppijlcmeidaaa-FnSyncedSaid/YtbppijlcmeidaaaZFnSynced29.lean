/- Texts of the claim FnSynced, part 29 of 34, joined: Pspecl1Begin, MPut, MLong, Pspecl1Long. No condition beyond those that stand at each. -/
import Derived.Test.YtbppijlcmeidaaaZFnSynced24
import Derived.Test.YtbppijlcmeidaaaZFnSynced28
import Derived.Test.YtbppijlcmeidaaaZFnSynced26
import Derived.Test.YtbppijlcmeidaaaZFnSynced25
import Derived.Test.YtbppijlcmeidaaaZFnSynced27
import Derived.Test.YtbppijlcmeidaaaZFnSynced13
section
-- Written by a changed copy of the print program, one module a function. Not trusted: Lean checks it.
namespace Go.Proofs.Ytbppijlcmeidaaa.P
open Go.RowKit Go.Proofs.YtbppijlcmeidaaaW.PrintWords Go.Proofs.YtbppijlcmeidaaaW.PrintLast Go.Proofs.YtbppijlcmeidaaaW.PrintMore
attribute [local go_sem] max2_int min2_int max_two min_two max_three min_three max_four min_four   -- for this text's walks alone
set_option linter.unusedVariables false
set_option linter.unusedSimpArgs false

/-! ### spec_l1Begin: function 52 -/
def spec_l1Begin.f (k : Nat) (l0_0 : List (S52)) (a0_1 : Int) (a0_2 : Int) : Option ((List (S52)) × Int × Int × Int) := (spec_ValidFS.f k l0_0 a0_1 a0_2).bind fun t325 => (if t325 = true then (if a0_2 = 0 then ((spec_l1Copy.f k l0_0 a0_1 a0_2 false).bind fun bt326 => (some (bt326.1, bt326.2.1, bt326.2.2, 8))) else ((spec_l1Copy.f k l0_0 a0_1 a0_2 true).bind fun bt331 => (some (bt331.1, bt331.2.1, bt331.2.2, 0)))) else (some (([] : List (S52)), 0, 0, 9)))
theorem spec_l1Begin.mono : ∀ a0 a1 a2 k, LeO (spec_l1Begin.f k a0 a1 a2) (spec_l1Begin.f (k + 1) a0 a1 a2) := by
 intro a0 a1 a2 k
 unfold spec_l1Begin.f
 repeat' first
   | (with_reducible exact spec_ValidFS.mono _ _ _ _)
   | (with_reducible exact spec_l1Copy.mono _ _ _ _ _)
   | (with_reducible exact LeO.refl _)
   | (with_reducible exact LeO.none _)
   | (with_reducible refine LeO.ite ?_ ?_)
   | (with_reducible refine LeO.bind ?_ (fun _ => ?_))
   | exact spec_ValidFS.mono _ _ _ _
   | exact spec_l1Copy.mono _ _ _ _ _
   | exact LeO.none _
   | refine LeO.ite ?_ ?_
   | refine LeO.bind ?_ (fun _ => ?_)
set_option maxHeartbeats 8000000 in
set_option maxRecDepth 100000 in
theorem spec_l1Begin.calls (k : Nat) (A0_0 : Option Addr) (c0_0 : Nat) (l0_0 : List (S52)) (a0_1 : Int) (a0_2 : Int) (r1 : List (S52)) (r2 : Int) (r3 : Int) (r4 : Int) (w : World) (hr0_0 : Kd.C k52 w A0_0 l0_0.length l0_0) (hc0_0 : l0_0.length ≤ c0_0) (h : spec_l1Begin.f k l0_0 a0_1 a0_2 = some (r1, r2, r3, r4)) :
  Calls Try.prog 52 #[.agg #[.slice A0_0 l0_0.length c0_0, .int .i64 a0_1, .int .i64 a0_2]] w fun e w' => ∃ v0_ : Value, e = .returned (.tuple #[.agg #[v0_, .int .i64 r2, .int .i64 r3], .int .i64 r4]) ∧ Kd.R k52 52 w' w.heap.size (fun _ => True) v0_ r1 ∧ Below w.heap.size w w' := by
 have hu29 := Try.underlying29
 have HR0_0 := Aside0.mk hr0_0
 have HC0_0 := Aside0.mk hc0_0
 clear hr0_0 hc0_0
 have HB := Aside0.mk (Below.refl w.heap.size w)
 have H : ((spec_ValidFS.f k l0_0 a0_1 a0_2).bind fun t325 => (if t325 = true then (if a0_2 = 0 then ((spec_l1Copy.f k l0_0 a0_1 a0_2 false).bind fun bt326 => (some (bt326.1, bt326.2.1, bt326.2.2, 8))) else ((spec_l1Copy.f k l0_0 a0_1 a0_2 true).bind fun bt331 => (some (bt331.1, bt331.2.1, bt331.2.2, 0)))) else (some (([] : List (S52)), 0, 0, 9)))) = some (r1, r2, r3, r4) := h
 clear h
 replace H := Option.bind_eq_some_iff.mp H
 obtain ⟨t325, A20, H⟩ := H
 replace H : (if t325 = true then (if a0_2 = 0 then ((spec_l1Copy.f k l0_0 a0_1 a0_2 false).bind fun bt326 => (some (bt326.1, bt326.2.1, bt326.2.2, 8))) else ((spec_l1Copy.f k l0_0 a0_1 a0_2 true).bind fun bt331 => (some (bt331.1, bt331.2.1, bt331.2.2, 0)))) else (some (([] : List (S52)), 0, 0, 9))) = some (r1, r2, r3, r4) := H
 have A2 := Aside0.mk A20
 clear A20
 by_cases c3 : t325 = true
 ·subst c3
  have H1 : (if a0_2 = 0 then ((spec_l1Copy.f k l0_0 a0_1 a0_2 false).bind fun bt326 => (some (bt326.1, bt326.2.1, bt326.2.2, 8))) else ((spec_l1Copy.f k l0_0 a0_1 a0_2 true).bind fun bt331 => (some (bt331.1, bt331.2.1, bt331.2.2, 0)))) = some (r1, r2, r3, r4) := by rw [if_pos rfl] at H; exact H
  clear H
  have H := H1
  clear H1
  by_cases c4 : a0_2 = 0
  ·rw [if_pos c4] at H
   have c4b0 : (a0_2 == 0) = true := beq_iff_eq.mpr c4
   have c4b1 : (a0_2 != 0) = false := bne_eq_false_iff_eq.mpr c4
   clear c4
   replace H := Option.bind_eq_some_iff.mp H
   obtain ⟨⟨t326, t329, t330⟩, A50, H⟩ := H
   replace H : (some (t326, t329, t330, 8)) = some (r1, r2, r3, r4) := H
   have A5 := Aside0.mk A50
   clear A50
   simp only [Option.some.injEq, Prod.mk.injEq] at H
   obtain ⟨rfl, rfl, rfl, rfl⟩ := H
   go_enter Try.func52, Try.ntmps52
   go_wp2_with (first | ((with_reducible refine gate_dst (N := 1) rfl ?_); refine box_event ?hg (N := 1) ?hd (cs := #[.slice A0_0 l0_0.length c0_0, .int .i64 a0_1, .int .i64 a0_2]) (t := 29) ?hr ?_; (case hd => rfl); (case hg => rfl); (case hr => first | (go_simp; done) | (go_simp; rfl)); intro gb323 hg w6 hbox hb; have n0_ := Aside0.mk (below_step (by repeat (first | (with_reducible first | exact HB.out | apply below_alloc | apply pw_below_drewN | apply below_drew1) | exact HB.out)) hb); have n1_ := Aside0.mk (hbox); have n2_ := Aside0.mk ((by rw [hg]; exact (below_size (by repeat (first | (with_reducible first | exact HB.out | apply below_alloc | apply pw_below_drewN | apply below_drew1) | exact HB.out))) : w.heap.size ≤ gb323)); have n3_ := Aside0.mk ((by rw [hg]; exact (below_size (by repeat (first | (with_reducible first | exact HB.out | apply below_alloc | apply pw_below_drewN | apply below_drew1) | exact HB.out))) : w.heap.size ≤ gb323)); clear HB; have HB := n0_; have BK323 := n1_; have GW323 := n2_; have GE323 := n3_; clear n0_ n1_ n2_ n3_; clear hb hbox hg) | ((with_reducible refine gate_dst (N := 2) rfl ?_); refine box_event ?hg (N := 2) ?hd (cs := #[.slice none 0 0, .int .i64 0, .int .i64 0]) (t := 29) ?hr ?_; (case hd => rfl); (case hg => rfl); (case hr => first | (go_simp; done) | (go_simp; rfl)); intro gb324 hg w7 hbox hb; have n0_ := Aside0.mk (blk_below (g := gb323) (o := .cells #[.slice A0_0 l0_0.length c0_0, .int .i64 a0_1, .int .i64 a0_2] 29 (0, 0)) (by (with_reducible repeat (first | refine blk_drewN ?_ _ | refine blk_drew ?_ | refine blk_alloc ?_ _)); exact BK323.out) hb); have n1_ := Aside0.mk (below_step (by repeat (first | (with_reducible first | exact HB.out | apply below_alloc | apply pw_below_drewN | apply below_drew1 | refine below_set ?_ GE323.out) | exact HB.out)) hb); have n2_ := Aside0.mk (hbox); have n3_ := Aside0.mk ((by rw [hg]; exact (below_size (by repeat (first | (with_reducible first | exact HB.out | apply below_alloc | apply pw_below_drewN | apply below_drew1 | refine below_set ?_ GE323.out) | exact HB.out))) : w.heap.size ≤ gb324)); have n4_ := Aside0.mk ((by rw [hg]; exact (below_size (by repeat (first | (with_reducible first | exact HB.out | apply below_alloc | apply pw_below_drewN | apply below_drew1 | refine below_set ?_ GE323.out) | exact HB.out))) : w.heap.size ≤ gb324)); have n5_ := Aside0.mk ((by rw [hg]; exact Nat.ne_of_lt (blk_lt (g := gb323) (o := .cells #[.slice A0_0 l0_0.length c0_0, .int .i64 a0_1, .int .i64 a0_2] 29 (0, 0)) (by (with_reducible repeat (first | refine blk_drewN ?_ _ | refine blk_drew ?_ | refine blk_alloc ?_ _)); exact BK323.out)) : gb323 ≠ gb324)); have n6_ := Aside0.mk ((by rw [hg]; exact Nat.ne_of_gt (blk_lt (g := gb323) (o := .cells #[.slice A0_0 l0_0.length c0_0, .int .i64 a0_1, .int .i64 a0_2] 29 (0, 0)) (by (with_reducible repeat (first | refine blk_drewN ?_ _ | refine blk_drew ?_ | refine blk_alloc ?_ _)); exact BK323.out)) : gb324 ≠ gb323)); clear BK323; clear HB; have BK323 := n0_; have HB := n1_; have BK324 := n2_; have GW324 := n3_; have GE324 := n4_; have NB323_324 := n5_; have NB324_323 := n6_; clear n0_ n1_ n2_ n3_ n4_ n5_ n6_; clear hb hbox hg; have hnb8 := NB323_324.out; have hnc8 := NB324_323.out; have hcz9_0 : w7.cell? ⟨gb323, 0, none⟩ = some (.slice A0_0 l0_0.length c0_0) := (blk_cell BK323.out 0).trans rfl; have hcz9_1 : w7.cell? ⟨gb323, 1, none⟩ = some (.int .i64 a0_1) := (blk_cell BK323.out 1).trans rfl; have hcz9_2 : w7.cell? ⟨gb323, 2, none⟩ = some (.int .i64 a0_2) := (blk_cell BK323.out 2).trans rfl; have hfz9_0 := blk_frozen BK323.out 0; have hfz9_1 := blk_frozen BK323.out 1; have hfz9_2 := blk_frozen BK323.out 2) | ((with_reducible refine gate_callee (f := 13) rfl ?_); refine goesL_ (some 5) rfl rfl Try.func13 (by kernel_rfl) rfl #[.agg #[.slice A0_0 l0_0.length c0_0, .int .i64 a0_1, .int .i64 a0_2]] rfl (by (try simp only [List.map_toArray, List.map_cons, List.map_nil]); first | done | rfl | (simp only [List.length_drop, List.length_take]; rfl)) ?_; (with_reducible refine (spec_ValidFS.calls k _ _ l0_0 a0_1 a0_2 true _ ?side1 ?side2 A2.out).mono ?_); (case side1 => repeat (first | exact (Kd.C_below HR0_0.out HB.out) | (with_reducible refine Kd.C_alloc ?_ _) | (with_reducible refine Kd.C_drewN ?_ _) | (with_reducible refine Kd.C_drew ?_))); (case side2 => exact HC0_0.out); rintro e w10 ⟨rfl, hb⟩; refine ⟨_, rfl, ?_⟩; have n0_ := Aside0.mk (blk_below (g := gb323) (o := .cells #[.slice A0_0 l0_0.length c0_0, .int .i64 a0_1, .int .i64 a0_2] 29 (0, 0)) (by (with_reducible repeat (first | refine blk_drewN ?_ _ | refine blk_drew ?_ | refine blk_alloc ?_ _)); exact BK323.out) hb); have n1_ := Aside0.mk (blk_below (g := gb324) (o := .cells #[.slice none 0 0, .int .i64 0, .int .i64 0] 29 (0, 0)) (by (with_reducible repeat (first | refine blk_drewN ?_ _ | refine blk_drew ?_ | refine blk_alloc ?_ _)); exact BK324.out) hb); have n2_ := Aside0.mk (below_step (by repeat (first | (with_reducible first | exact HB.out | apply below_alloc | apply pw_below_drewN | apply below_drew1 | refine below_set ?_ GE323.out | refine below_set ?_ GE324.out) | exact HB.out)) hb); clear BK323; clear BK324; clear HB; have BK323 := n0_; have BK324 := n1_; have HB := n2_; clear n0_ n1_ n2_; (try clear hb); (try clear hb2); (try clear hk); (try clear hi); have hcz11_0 : w10.cell? ⟨gb323, 0, none⟩ = some (.slice A0_0 l0_0.length c0_0) := (blk_cell BK323.out 0).trans rfl; have hcz11_1 : w10.cell? ⟨gb323, 1, none⟩ = some (.int .i64 a0_1) := (blk_cell BK323.out 1).trans rfl; have hcz11_2 : w10.cell? ⟨gb323, 2, none⟩ = some (.int .i64 a0_2) := (blk_cell BK323.out 2).trans rfl; have hfz11_0 := blk_frozen BK323.out 0; have hfz11_1 := blk_frozen BK323.out 1; have hfz11_2 := blk_frozen BK323.out 2) | ((with_reducible refine gate_callee (f := 77) rfl ?_); refine goesL_ (some 12) rfl rfl Try.func77 (by kernel_rfl) rfl #[.agg #[.slice A0_0 l0_0.length c0_0, .int .i64 a0_1, .int .i64 a0_2], .bool false] rfl (by (try simp only [List.map_toArray, List.map_cons, List.map_nil]); first | done | rfl | (simp only [List.length_drop, List.length_take]; rfl)) ?_; (with_reducible refine (spec_l1Copy.calls k _ _ l0_0 a0_1 a0_2 false t326 t329 t330 _ ?side1 ?side2 A5.out).mono ?_); (case side1 => repeat (first | exact (Kd.C_below HR0_0.out HB.out) | (with_reducible refine Kd.C_alloc ?_ _) | (with_reducible refine Kd.C_drewN ?_ _) | (with_reducible refine Kd.C_drew ?_))); (case side2 => exact HC0_0.out); rintro e w12 ⟨v327, rfl, ho0, hb⟩; refine ⟨_, rfl, ?_⟩; have n0_ := Aside0.mk (Kd.R_lower ho0 (below_size (by repeat (first | (with_reducible first | exact HB.out | apply below_alloc | apply pw_below_drewN | apply below_drew1 | refine below_set ?_ GE323.out | refine below_set ?_ GE324.out) | exact HB.out)))); have n1_ := Aside0.mk (blk_below (g := gb323) (o := .cells #[.slice A0_0 l0_0.length c0_0, .int .i64 a0_1, .int .i64 a0_2] 29 (0, 0)) (by (with_reducible repeat (first | refine blk_drewN ?_ _ | refine blk_drew ?_ | refine blk_alloc ?_ _)); exact BK323.out) hb); have n2_ := Aside0.mk (blk_below (g := gb324) (o := .cells #[.slice none 0 0, .int .i64 0, .int .i64 0] 29 (0, 0)) (by (with_reducible repeat (first | refine blk_drewN ?_ _ | refine blk_drew ?_ | refine blk_alloc ?_ _)); exact BK324.out) hb); have n3_ := Aside0.mk (below_step (by repeat (first | (with_reducible first | exact HB.out | apply below_alloc | apply pw_below_drewN | apply below_drew1 | refine below_set ?_ GE323.out | refine below_set ?_ GE324.out) | exact HB.out)) hb); clear BK323; clear BK324; clear HB; have HO328 := n0_; have BK323 := n1_; have BK324 := n2_; have HB := n3_; clear n0_ n1_ n2_ n3_; (try clear hb); (try clear hb2); (try clear hk); (try clear hi); (try clear ho0); obtain ⟨Ao13, co13, eo13⟩ := Kd.R_slice HO328.out; subst eo13; have hcz14_0 : w12.cell? ⟨gb324, 0, none⟩ = some (.slice none 0 0) := (blk_cell BK324.out 0).trans rfl; have hcz14_1 : w12.cell? ⟨gb324, 1, none⟩ = some (.int .i64 0) := (blk_cell BK324.out 1).trans rfl; have hcz14_2 : w12.cell? ⟨gb324, 2, none⟩ = some (.int .i64 0) := (blk_cell BK324.out 2).trans rfl; have hfz14_0 := blk_frozen BK324.out 0; have hfz14_1 := blk_frozen BK324.out 1; have hfz14_2 := blk_frozen BK324.out 2))
   refine bodyPost_ret (results_ct rfl _ _ gb324 29 #[.slice Ao13 t326.length co13, .int .i64 t329, .int .i64 t330] (0, 0) _ rfl (by (with_reducible repeat (first | refine blk_drewN ?_ _ | refine blk_drew ?_ | refine blk_alloc ?_ _)); refine blk_put (cs := #[.slice Ao13 t326.length co13, .int .i64 t329, .int .i64 0]) ?_ 2 _ rfl; (with_reducible repeat (first | refine blk_drewN ?_ _ | refine blk_drew ?_ | refine blk_alloc ?_ _)); refine blk_put (cs := #[.slice Ao13 t326.length co13, .int .i64 0, .int .i64 0]) ?_ 1 _ rfl; (with_reducible repeat (first | refine blk_drewN ?_ _ | refine blk_drew ?_ | refine blk_alloc ?_ _)); refine blk_put (cs := #[.slice none 0 0, .int .i64 0, .int .i64 0]) ?_ 0 _ rfl; (with_reducible repeat (first | refine blk_drewN ?_ _ | refine blk_drew ?_ | refine blk_alloc ?_ _)); exact BK324.out) Try.underlying29 rfl (by kernel_rfl)) rfl ?_
   exact ⟨_, by first | rfl | (simp [errW_none, errW_some] <;> rfl) | (simp [*, errW_none, errW_some] <;> rfl), by (with_reducible repeat (first | apply Kd.R_alloc | apply Kd.R_drewN | apply Kd.R_drew)); exact Kd.R_mono (Kd.R_far (p := ⟨gb324, 2, none⟩) (Kd.R_far (p := ⟨gb324, 1, none⟩) (Kd.R_far (p := ⟨gb324, 0, none⟩) (Kd.R_types HO328.out BK324.out (by decide)) (fun _ hk => hk.2) (.slice Ao13 t326.length co13)) (fun _ hk => hk.2) (.int .i64 t329)) (fun _ hk => hk.2) (.int .i64 t330)) (fun _ hk => trivial), by repeat (first | (with_reducible first | exact HB.out | apply below_alloc | apply pw_below_drewN | apply below_drew1 | refine below_set ?_ GE323.out | refine below_set ?_ GE324.out) | exact HB.out)⟩
  ·rw [if_neg c4] at H
   have c4b0 : (a0_2 == 0) = false := beq_eq_false_iff_ne.mpr c4
   have c4b1 : (a0_2 != 0) = true := bne_iff_ne.mpr c4
   replace H := Option.bind_eq_some_iff.mp H
   obtain ⟨⟨t331, t334, t335⟩, A150, H⟩ := H
   replace H : (some (t331, t334, t335, 0)) = some (r1, r2, r3, r4) := H
   have A15 := Aside0.mk A150
   clear A150
   simp only [Option.some.injEq, Prod.mk.injEq] at H
   obtain ⟨rfl, rfl, rfl, rfl⟩ := H
   go_enter Try.func52, Try.ntmps52
   go_wp2_with (first | ((with_reducible refine gate_dst (N := 1) rfl ?_); refine box_event ?hg (N := 1) ?hd (cs := #[.slice A0_0 l0_0.length c0_0, .int .i64 a0_1, .int .i64 a0_2]) (t := 29) ?hr ?_; (case hd => rfl); (case hg => rfl); (case hr => first | (go_simp; done) | (go_simp; rfl)); intro gb323 hg w16 hbox hb; have n0_ := Aside0.mk (below_step (by repeat (first | (with_reducible first | exact HB.out | apply below_alloc | apply pw_below_drewN | apply below_drew1) | exact HB.out)) hb); have n1_ := Aside0.mk (hbox); have n2_ := Aside0.mk ((by rw [hg]; exact (below_size (by repeat (first | (with_reducible first | exact HB.out | apply below_alloc | apply pw_below_drewN | apply below_drew1) | exact HB.out))) : w.heap.size ≤ gb323)); have n3_ := Aside0.mk ((by rw [hg]; exact (below_size (by repeat (first | (with_reducible first | exact HB.out | apply below_alloc | apply pw_below_drewN | apply below_drew1) | exact HB.out))) : w.heap.size ≤ gb323)); clear HB; have HB := n0_; have BK323 := n1_; have GW323 := n2_; have GE323 := n3_; clear n0_ n1_ n2_ n3_; clear hb hbox hg) | ((with_reducible refine gate_dst (N := 2) rfl ?_); refine box_event ?hg (N := 2) ?hd (cs := #[.slice none 0 0, .int .i64 0, .int .i64 0]) (t := 29) ?hr ?_; (case hd => rfl); (case hg => rfl); (case hr => first | (go_simp; done) | (go_simp; rfl)); intro gb324 hg w17 hbox hb; have n0_ := Aside0.mk (blk_below (g := gb323) (o := .cells #[.slice A0_0 l0_0.length c0_0, .int .i64 a0_1, .int .i64 a0_2] 29 (0, 0)) (by (with_reducible repeat (first | refine blk_drewN ?_ _ | refine blk_drew ?_ | refine blk_alloc ?_ _)); exact BK323.out) hb); have n1_ := Aside0.mk (below_step (by repeat (first | (with_reducible first | exact HB.out | apply below_alloc | apply pw_below_drewN | apply below_drew1 | refine below_set ?_ GE323.out) | exact HB.out)) hb); have n2_ := Aside0.mk (hbox); have n3_ := Aside0.mk ((by rw [hg]; exact (below_size (by repeat (first | (with_reducible first | exact HB.out | apply below_alloc | apply pw_below_drewN | apply below_drew1 | refine below_set ?_ GE323.out) | exact HB.out))) : w.heap.size ≤ gb324)); have n4_ := Aside0.mk ((by rw [hg]; exact (below_size (by repeat (first | (with_reducible first | exact HB.out | apply below_alloc | apply pw_below_drewN | apply below_drew1 | refine below_set ?_ GE323.out) | exact HB.out))) : w.heap.size ≤ gb324)); have n5_ := Aside0.mk ((by rw [hg]; exact Nat.ne_of_lt (blk_lt (g := gb323) (o := .cells #[.slice A0_0 l0_0.length c0_0, .int .i64 a0_1, .int .i64 a0_2] 29 (0, 0)) (by (with_reducible repeat (first | refine blk_drewN ?_ _ | refine blk_drew ?_ | refine blk_alloc ?_ _)); exact BK323.out)) : gb323 ≠ gb324)); have n6_ := Aside0.mk ((by rw [hg]; exact Nat.ne_of_gt (blk_lt (g := gb323) (o := .cells #[.slice A0_0 l0_0.length c0_0, .int .i64 a0_1, .int .i64 a0_2] 29 (0, 0)) (by (with_reducible repeat (first | refine blk_drewN ?_ _ | refine blk_drew ?_ | refine blk_alloc ?_ _)); exact BK323.out)) : gb324 ≠ gb323)); clear BK323; clear HB; have BK323 := n0_; have HB := n1_; have BK324 := n2_; have GW324 := n3_; have GE324 := n4_; have NB323_324 := n5_; have NB324_323 := n6_; clear n0_ n1_ n2_ n3_ n4_ n5_ n6_; clear hb hbox hg; have hnb18 := NB323_324.out; have hnc18 := NB324_323.out; have hcz19_0 : w17.cell? ⟨gb323, 0, none⟩ = some (.slice A0_0 l0_0.length c0_0) := (blk_cell BK323.out 0).trans rfl; have hcz19_1 : w17.cell? ⟨gb323, 1, none⟩ = some (.int .i64 a0_1) := (blk_cell BK323.out 1).trans rfl; have hcz19_2 : w17.cell? ⟨gb323, 2, none⟩ = some (.int .i64 a0_2) := (blk_cell BK323.out 2).trans rfl; have hfz19_0 := blk_frozen BK323.out 0; have hfz19_1 := blk_frozen BK323.out 1; have hfz19_2 := blk_frozen BK323.out 2) | ((with_reducible refine gate_callee (f := 13) rfl ?_); refine goesL_ (some 5) rfl rfl Try.func13 (by kernel_rfl) rfl #[.agg #[.slice A0_0 l0_0.length c0_0, .int .i64 a0_1, .int .i64 a0_2]] rfl (by (try simp only [List.map_toArray, List.map_cons, List.map_nil]); first | done | rfl | (simp only [List.length_drop, List.length_take]; rfl)) ?_; (with_reducible refine (spec_ValidFS.calls k _ _ l0_0 a0_1 a0_2 true _ ?side1 ?side2 A2.out).mono ?_); (case side1 => repeat (first | exact (Kd.C_below HR0_0.out HB.out) | (with_reducible refine Kd.C_alloc ?_ _) | (with_reducible refine Kd.C_drewN ?_ _) | (with_reducible refine Kd.C_drew ?_))); (case side2 => exact HC0_0.out); rintro e w20 ⟨rfl, hb⟩; refine ⟨_, rfl, ?_⟩; have n0_ := Aside0.mk (blk_below (g := gb323) (o := .cells #[.slice A0_0 l0_0.length c0_0, .int .i64 a0_1, .int .i64 a0_2] 29 (0, 0)) (by (with_reducible repeat (first | refine blk_drewN ?_ _ | refine blk_drew ?_ | refine blk_alloc ?_ _)); exact BK323.out) hb); have n1_ := Aside0.mk (blk_below (g := gb324) (o := .cells #[.slice none 0 0, .int .i64 0, .int .i64 0] 29 (0, 0)) (by (with_reducible repeat (first | refine blk_drewN ?_ _ | refine blk_drew ?_ | refine blk_alloc ?_ _)); exact BK324.out) hb); have n2_ := Aside0.mk (below_step (by repeat (first | (with_reducible first | exact HB.out | apply below_alloc | apply pw_below_drewN | apply below_drew1 | refine below_set ?_ GE323.out | refine below_set ?_ GE324.out) | exact HB.out)) hb); clear BK323; clear BK324; clear HB; have BK323 := n0_; have BK324 := n1_; have HB := n2_; clear n0_ n1_ n2_; (try clear hb); (try clear hb2); (try clear hk); (try clear hi); have hcz21_0 : w20.cell? ⟨gb323, 0, none⟩ = some (.slice A0_0 l0_0.length c0_0) := (blk_cell BK323.out 0).trans rfl; have hcz21_1 : w20.cell? ⟨gb323, 1, none⟩ = some (.int .i64 a0_1) := (blk_cell BK323.out 1).trans rfl; have hcz21_2 : w20.cell? ⟨gb323, 2, none⟩ = some (.int .i64 a0_2) := (blk_cell BK323.out 2).trans rfl; have hfz21_0 := blk_frozen BK323.out 0; have hfz21_1 := blk_frozen BK323.out 1; have hfz21_2 := blk_frozen BK323.out 2) | ((with_reducible refine gate_callee (f := 77) rfl ?_); refine goesL_ (some 14) rfl rfl Try.func77 (by kernel_rfl) rfl #[.agg #[.slice A0_0 l0_0.length c0_0, .int .i64 a0_1, .int .i64 a0_2], .bool true] rfl (by (try simp only [List.map_toArray, List.map_cons, List.map_nil]); first | done | rfl | (simp only [List.length_drop, List.length_take]; rfl)) ?_; (with_reducible refine (spec_l1Copy.calls k _ _ l0_0 a0_1 a0_2 true t331 t334 t335 _ ?side1 ?side2 A15.out).mono ?_); (case side1 => repeat (first | exact (Kd.C_below HR0_0.out HB.out) | (with_reducible refine Kd.C_alloc ?_ _) | (with_reducible refine Kd.C_drewN ?_ _) | (with_reducible refine Kd.C_drew ?_))); (case side2 => exact HC0_0.out); rintro e w22 ⟨v332, rfl, ho0, hb⟩; refine ⟨_, rfl, ?_⟩; have n0_ := Aside0.mk (Kd.R_lower ho0 (below_size (by repeat (first | (with_reducible first | exact HB.out | apply below_alloc | apply pw_below_drewN | apply below_drew1 | refine below_set ?_ GE323.out | refine below_set ?_ GE324.out) | exact HB.out)))); have n1_ := Aside0.mk (blk_below (g := gb323) (o := .cells #[.slice A0_0 l0_0.length c0_0, .int .i64 a0_1, .int .i64 a0_2] 29 (0, 0)) (by (with_reducible repeat (first | refine blk_drewN ?_ _ | refine blk_drew ?_ | refine blk_alloc ?_ _)); exact BK323.out) hb); have n2_ := Aside0.mk (blk_below (g := gb324) (o := .cells #[.slice none 0 0, .int .i64 0, .int .i64 0] 29 (0, 0)) (by (with_reducible repeat (first | refine blk_drewN ?_ _ | refine blk_drew ?_ | refine blk_alloc ?_ _)); exact BK324.out) hb); have n3_ := Aside0.mk (below_step (by repeat (first | (with_reducible first | exact HB.out | apply below_alloc | apply pw_below_drewN | apply below_drew1 | refine below_set ?_ GE323.out | refine below_set ?_ GE324.out) | exact HB.out)) hb); clear BK323; clear BK324; clear HB; have HO333 := n0_; have BK323 := n1_; have BK324 := n2_; have HB := n3_; clear n0_ n1_ n2_ n3_; (try clear hb); (try clear hb2); (try clear hk); (try clear hi); (try clear ho0); obtain ⟨Ao23, co23, eo23⟩ := Kd.R_slice HO333.out; subst eo23; have hcz24_0 : w22.cell? ⟨gb324, 0, none⟩ = some (.slice none 0 0) := (blk_cell BK324.out 0).trans rfl; have hcz24_1 : w22.cell? ⟨gb324, 1, none⟩ = some (.int .i64 0) := (blk_cell BK324.out 1).trans rfl; have hcz24_2 : w22.cell? ⟨gb324, 2, none⟩ = some (.int .i64 0) := (blk_cell BK324.out 2).trans rfl; have hfz24_0 := blk_frozen BK324.out 0; have hfz24_1 := blk_frozen BK324.out 1; have hfz24_2 := blk_frozen BK324.out 2))
   refine bodyPost_ret (results_ct rfl _ _ gb324 29 #[.slice Ao23 t331.length co23, .int .i64 t334, .int .i64 t335] (0, 0) _ rfl (by (with_reducible repeat (first | refine blk_drewN ?_ _ | refine blk_drew ?_ | refine blk_alloc ?_ _)); refine blk_put (cs := #[.slice Ao23 t331.length co23, .int .i64 t334, .int .i64 0]) ?_ 2 _ rfl; (with_reducible repeat (first | refine blk_drewN ?_ _ | refine blk_drew ?_ | refine blk_alloc ?_ _)); refine blk_put (cs := #[.slice Ao23 t331.length co23, .int .i64 0, .int .i64 0]) ?_ 1 _ rfl; (with_reducible repeat (first | refine blk_drewN ?_ _ | refine blk_drew ?_ | refine blk_alloc ?_ _)); refine blk_put (cs := #[.slice none 0 0, .int .i64 0, .int .i64 0]) ?_ 0 _ rfl; (with_reducible repeat (first | refine blk_drewN ?_ _ | refine blk_drew ?_ | refine blk_alloc ?_ _)); exact BK324.out) Try.underlying29 rfl (by kernel_rfl)) rfl ?_
   exact ⟨_, by first | rfl | (simp [errW_none, errW_some] <;> rfl) | (simp [*, errW_none, errW_some] <;> rfl), by (with_reducible repeat (first | apply Kd.R_alloc | apply Kd.R_drewN | apply Kd.R_drew)); exact Kd.R_mono (Kd.R_far (p := ⟨gb324, 2, none⟩) (Kd.R_far (p := ⟨gb324, 1, none⟩) (Kd.R_far (p := ⟨gb324, 0, none⟩) (Kd.R_types HO333.out BK324.out (by decide)) (fun _ hk => hk.2) (.slice Ao23 t331.length co23)) (fun _ hk => hk.2) (.int .i64 t334)) (fun _ hk => hk.2) (.int .i64 t335)) (fun _ hk => trivial), by repeat (first | (with_reducible first | exact HB.out | apply below_alloc | apply pw_below_drewN | apply below_drew1 | refine below_set ?_ GE323.out | refine below_set ?_ GE324.out) | exact HB.out)⟩
 ·replace c3 := Bool.eq_false_iff.mpr c3
  subst c3
  have H1 : (some (([] : List (S52)), 0, 0, 9)) = some (r1, r2, r3, r4) := by rw [if_neg (show ¬ (false = true) by decide)] at H; exact H
  clear H
  have H := H1
  clear H1
  simp only [Option.some.injEq, Prod.mk.injEq] at H
  obtain ⟨rfl, rfl, rfl, rfl⟩ := H
  go_enter Try.func52, Try.ntmps52
  go_wp2_with (first | ((with_reducible refine gate_dst (N := 1) rfl ?_); refine box_event ?hg (N := 1) ?hd (cs := #[.slice A0_0 l0_0.length c0_0, .int .i64 a0_1, .int .i64 a0_2]) (t := 29) ?hr ?_; (case hd => rfl); (case hg => rfl); (case hr => first | (go_simp; done) | (go_simp; rfl)); intro gb323 hg w25 hbox hb; have n0_ := Aside0.mk (below_step (by repeat (first | (with_reducible first | exact HB.out | apply below_alloc | apply pw_below_drewN | apply below_drew1) | exact HB.out)) hb); have n1_ := Aside0.mk (hbox); have n2_ := Aside0.mk ((by rw [hg]; exact (below_size (by repeat (first | (with_reducible first | exact HB.out | apply below_alloc | apply pw_below_drewN | apply below_drew1) | exact HB.out))) : w.heap.size ≤ gb323)); have n3_ := Aside0.mk ((by rw [hg]; exact (below_size (by repeat (first | (with_reducible first | exact HB.out | apply below_alloc | apply pw_below_drewN | apply below_drew1) | exact HB.out))) : w.heap.size ≤ gb323)); clear HB; have HB := n0_; have BK323 := n1_; have GW323 := n2_; have GE323 := n3_; clear n0_ n1_ n2_ n3_; clear hb hbox hg) | ((with_reducible refine gate_dst (N := 2) rfl ?_); refine box_event ?hg (N := 2) ?hd (cs := #[.slice none 0 0, .int .i64 0, .int .i64 0]) (t := 29) ?hr ?_; (case hd => rfl); (case hg => rfl); (case hr => first | (go_simp; done) | (go_simp; rfl)); intro gb324 hg w26 hbox hb; have n0_ := Aside0.mk (blk_below (g := gb323) (o := .cells #[.slice A0_0 l0_0.length c0_0, .int .i64 a0_1, .int .i64 a0_2] 29 (0, 0)) (by (with_reducible repeat (first | refine blk_drewN ?_ _ | refine blk_drew ?_ | refine blk_alloc ?_ _)); exact BK323.out) hb); have n1_ := Aside0.mk (below_step (by repeat (first | (with_reducible first | exact HB.out | apply below_alloc | apply pw_below_drewN | apply below_drew1 | refine below_set ?_ GE323.out) | exact HB.out)) hb); have n2_ := Aside0.mk (hbox); have n3_ := Aside0.mk ((by rw [hg]; exact (below_size (by repeat (first | (with_reducible first | exact HB.out | apply below_alloc | apply pw_below_drewN | apply below_drew1 | refine below_set ?_ GE323.out) | exact HB.out))) : w.heap.size ≤ gb324)); have n4_ := Aside0.mk ((by rw [hg]; exact (below_size (by repeat (first | (with_reducible first | exact HB.out | apply below_alloc | apply pw_below_drewN | apply below_drew1 | refine below_set ?_ GE323.out) | exact HB.out))) : w.heap.size ≤ gb324)); have n5_ := Aside0.mk ((by rw [hg]; exact Nat.ne_of_lt (blk_lt (g := gb323) (o := .cells #[.slice A0_0 l0_0.length c0_0, .int .i64 a0_1, .int .i64 a0_2] 29 (0, 0)) (by (with_reducible repeat (first | refine blk_drewN ?_ _ | refine blk_drew ?_ | refine blk_alloc ?_ _)); exact BK323.out)) : gb323 ≠ gb324)); have n6_ := Aside0.mk ((by rw [hg]; exact Nat.ne_of_gt (blk_lt (g := gb323) (o := .cells #[.slice A0_0 l0_0.length c0_0, .int .i64 a0_1, .int .i64 a0_2] 29 (0, 0)) (by (with_reducible repeat (first | refine blk_drewN ?_ _ | refine blk_drew ?_ | refine blk_alloc ?_ _)); exact BK323.out)) : gb324 ≠ gb323)); clear BK323; clear HB; have BK323 := n0_; have HB := n1_; have BK324 := n2_; have GW324 := n3_; have GE324 := n4_; have NB323_324 := n5_; have NB324_323 := n6_; clear n0_ n1_ n2_ n3_ n4_ n5_ n6_; clear hb hbox hg; have hnb27 := NB323_324.out; have hnc27 := NB324_323.out; have hcz28_0 : w26.cell? ⟨gb323, 0, none⟩ = some (.slice A0_0 l0_0.length c0_0) := (blk_cell BK323.out 0).trans rfl; have hcz28_1 : w26.cell? ⟨gb323, 1, none⟩ = some (.int .i64 a0_1) := (blk_cell BK323.out 1).trans rfl; have hcz28_2 : w26.cell? ⟨gb323, 2, none⟩ = some (.int .i64 a0_2) := (blk_cell BK323.out 2).trans rfl; have hfz28_0 := blk_frozen BK323.out 0; have hfz28_1 := blk_frozen BK323.out 1; have hfz28_2 := blk_frozen BK323.out 2) | ((with_reducible refine gate_callee (f := 13) rfl ?_); refine goesL_ (some 5) rfl rfl Try.func13 (by kernel_rfl) rfl #[.agg #[.slice A0_0 l0_0.length c0_0, .int .i64 a0_1, .int .i64 a0_2]] rfl (by (try simp only [List.map_toArray, List.map_cons, List.map_nil]); first | done | rfl | (simp only [List.length_drop, List.length_take]; rfl)) ?_; (with_reducible refine (spec_ValidFS.calls k _ _ l0_0 a0_1 a0_2 false _ ?side1 ?side2 A2.out).mono ?_); (case side1 => repeat (first | exact (Kd.C_below HR0_0.out HB.out) | (with_reducible refine Kd.C_alloc ?_ _) | (with_reducible refine Kd.C_drewN ?_ _) | (with_reducible refine Kd.C_drew ?_))); (case side2 => exact HC0_0.out); rintro e w29 ⟨rfl, hb⟩; refine ⟨_, rfl, ?_⟩; have n0_ := Aside0.mk (blk_below (g := gb323) (o := .cells #[.slice A0_0 l0_0.length c0_0, .int .i64 a0_1, .int .i64 a0_2] 29 (0, 0)) (by (with_reducible repeat (first | refine blk_drewN ?_ _ | refine blk_drew ?_ | refine blk_alloc ?_ _)); exact BK323.out) hb); have n1_ := Aside0.mk (blk_below (g := gb324) (o := .cells #[.slice none 0 0, .int .i64 0, .int .i64 0] 29 (0, 0)) (by (with_reducible repeat (first | refine blk_drewN ?_ _ | refine blk_drew ?_ | refine blk_alloc ?_ _)); exact BK324.out) hb); have n2_ := Aside0.mk (below_step (by repeat (first | (with_reducible first | exact HB.out | apply below_alloc | apply pw_below_drewN | apply below_drew1 | refine below_set ?_ GE323.out | refine below_set ?_ GE324.out) | exact HB.out)) hb); clear BK323; clear BK324; clear HB; have BK323 := n0_; have BK324 := n1_; have HB := n2_; clear n0_ n1_ n2_; (try clear hb); (try clear hb2); (try clear hk); (try clear hi); have hcz30_0 : w29.cell? ⟨gb324, 0, none⟩ = some (.slice none 0 0) := (blk_cell BK324.out 0).trans rfl; have hcz30_1 : w29.cell? ⟨gb324, 1, none⟩ = some (.int .i64 0) := (blk_cell BK324.out 1).trans rfl; have hcz30_2 : w29.cell? ⟨gb324, 2, none⟩ = some (.int .i64 0) := (blk_cell BK324.out 2).trans rfl; have hfz30_0 := blk_frozen BK324.out 0; have hfz30_1 := blk_frozen BK324.out 1; have hfz30_2 := blk_frozen BK324.out 2))
  refine bodyPost_ret (results_ct rfl _ _ gb324 29 #[.slice none 0 0, .int .i64 0, .int .i64 0] (0, 0) _ rfl (by (with_reducible repeat (first | refine blk_drewN ?_ _ | refine blk_drew ?_ | refine blk_alloc ?_ _)); refine blk_put (cs := #[.slice none 0 0, .int .i64 0, .int .i64 0]) ?_ 2 _ rfl; (with_reducible repeat (first | refine blk_drewN ?_ _ | refine blk_drew ?_ | refine blk_alloc ?_ _)); refine blk_put (cs := #[.slice none 0 0, .int .i64 0, .int .i64 0]) ?_ 1 _ rfl; (with_reducible repeat (first | refine blk_drewN ?_ _ | refine blk_drew ?_ | refine blk_alloc ?_ _)); refine blk_put (cs := #[.slice none 0 0, .int .i64 0, .int .i64 0]) ?_ 0 _ rfl; (with_reducible repeat (first | refine blk_drewN ?_ _ | refine blk_drew ?_ | refine blk_alloc ?_ _)); exact BK324.out) Try.underlying29 rfl (by kernel_rfl)) rfl ?_
  exact ⟨_, by first | rfl | (simp [errW_none, errW_some] <;> rfl) | (simp [*, errW_none, errW_some] <;> rfl), by first | exact Kd.R_nil _ _ _ _ _ | exact Kd.N_nil _ _ _ _ _ | exact Kd.V_nil _ _ _ _ _ | exact Kd.Q_nil _ _ _ _ _ | exact Kd.S_nil _ _ _ _ _, by repeat (first | (with_reducible first | exact HB.out | apply below_alloc | apply pw_below_drewN | apply below_drew1 | refine below_set ?_ GE323.out | refine below_set ?_ GE324.out) | exact HB.out)⟩

end Go.Proofs.Ytbppijlcmeidaaa.P
end
section
/- The specification's files without one and with one, for files in order: what they print to. Condition: the files are in order and not too many. -/
namespace Go.Proofs.Ytbppijlcmeidaaa.M
open Go.RowKit Go.Proofs.Ytbppijlcmeidaaa.P Go.Proofs.YtbppijlcmeidaaaW.PrintWords Go.Proofs.YtbppijlcmeidaaaW.PrintLast Go.Proofs.YtbppijlcmeidaaaW.PrintMore
set_option linter.unusedVariables false
/-- The files but those of a name. -/
def but (l : List S52) (s : ByteArray) : List S52 := l.filter fun x => decide (x.f0 ≠ s)
theorem but_snoc (l : List S52) (x : S52) (s : ByteArray) : but (l ++ [x]) s = but l s ++ (if x.f0 = s then [] else [x]) := by
  unfold but
  rw [List.filter_append]
  congr 1
  by_cases h : x.f0 = s
  · rw [if_pos h]; simp [h]
  · rw [if_neg h]; simp [h]
theorem but_length (l : List S52) (s : ByteArray) : (but l s).length ≤ l.length := List.length_filter_le _ _
theorem without_loop (l : List S52) (s : ByteArray) (hl : l.length ≤ 1048576) : ∀ d i : Nat, i + d = l.length → Ev (fun k => spec_l1Without.l0 k l s (but (l.take i) s) (i : Int)) (but l s) := by
  intro d
  induction d with
  | zero =>
    intro i hi
    refine Ev.step (f := fun _ => some (but l s)) (fun k => ?_) (Ev.now _)
    rw [spec_l1Without.l0, if_neg (by omega), List.take_of_length_le (by omega)]
  | succ d ih =>
    intro i hi
    have hlt : i < l.length := by omega
    have h2 := ih (i + 1) (by omega)
    have hb := but_length (l.take i) s
    rw [List.length_take] at hb
    rw [take_at l i hlt, but_snoc] at h2
    by_cases c : l[i].f0 = s
    · rw [if_pos c, List.append_nil] at h2
      refine Ev.step (fun k => ?_) h2
      rw [spec_l1Without.l0, if_pos (by omega), if_pos (by omega), rd52 l i hlt, if_pos (by rw [c]), wrap_succ (by omega)]
    · rw [if_neg c] at h2
      refine Ev.step (fun k => ?_) h2
      rw [spec_l1Without.l0, if_pos (by omega), if_pos (by omega), rd52 l i hlt, if_neg (fun h => c (toList_inj h)), if_pos (by omega), wrap_succ (by omega)]
theorem without_eq (l : List S52) (s : ByteArray) (hl : l.length ≤ 1048576) : Ev (fun k => spec_l1Without.f k l s) (but l s) := without_loop l s hl l.length 0 (by omega)

/-- One put ahead of the first that is behind it. -/
def putIn (x : S52) : List S52 → List S52
  | [] => [x]
  | y :: l => if lss x.f0 y.f0 = true then x :: y :: l else y :: putIn x l
theorem putIn_at (x : S52) (A C : List S52) (hA : ∀ a ∈ A, lss x.f0 a.f0 = false) (hC : ∀ c ∈ C.head?, lss x.f0 c.f0 = true) : putIn x (A ++ C) = A ++ x :: C := by
  induction A with
  | nil =>
    cases C with
    | nil => rfl
    | cons c C => show (if _ then _ else _) = _; rw [if_pos (hC c rfl)]; rfl
  | cons a A ih =>
    show (if lss x.f0 a.f0 = true then x :: a :: (A ++ C) else a :: putIn x (A ++ C)) = a :: (A ++ x :: C)
    rw [if_neg (by rw [hA a (by simp)]; simp), ih (fun b hb => hA b (by simp [hb]))]
theorem with_done (m : List S52) (x : S52) (hm : m.length ≤ 1048576) : ∀ d i : Nat, i + d = m.length → ∀ acc : List S52, acc.length + m.length ≤ 4194304 + i →
    Ev (fun k => spec_l1With.l0 k m acc true (i : Int) x.f0 x.f1 x.f2) (acc ++ m.drop i) := by
  intro d
  induction d with
  | zero =>
    intro i hi acc ha
    refine Ev.step (f := fun _ => some (acc ++ m.drop i)) (fun k => ?_) (Ev.now _)
    rw [spec_l1With.l0, if_neg (by omega), if_pos rfl, List.drop_eq_nil_of_le (by omega), List.append_nil]
  | succ d ih =>
    intro i hi acc ha
    have hlt : i < m.length := by omega
    have h2 := ih (i + 1) (by omega) (acc ++ [m[i]]) (by simp; omega)
    rw [List.append_assoc, List.singleton_append, ← drop_at m i hlt] at h2
    refine Ev.step (fun k => ?_) h2
    rw [spec_l1With.l0, if_pos (by omega), if_pos rfl, if_pos (by omega), rd52 m i hlt, if_pos (by omega), wrap_succ (by omega)]
theorem with_loop (m : List S52) (x : S52) (hm : m.length ≤ 1048576) (hx : x.f0.size ≤ 1048576) : ∀ d i : Nat, i + d = m.length →
    Ev (fun k => spec_l1With.l0 k m (m.take i) false (i : Int) x.f0 x.f1 x.f2) (m.take i ++ putIn x (m.drop i)) := by
  intro d
  induction d with
  | zero =>
    intro i hi
    refine Ev.step (f := fun _ => some (m.take i ++ [x])) (fun k => ?_) ?_
    · rw [spec_l1With.l0, if_neg (by omega), if_neg (by simp), if_pos (by rw [List.length_take]; omega)]
    · rw [List.drop_eq_nil_of_le (by omega)]; exact Ev.now _
  | succ d ih =>
    intro i hi
    have hlt : i < m.length := by omega
    have ht : (m.take i).length = i := by rw [List.length_take]; omega
    have hs := less_eq x.f0 m[i].f0 (by omega)
    rw [drop_at m i hlt]
    have e4 : wrap64 ((i : Int) + 1) = ((i + 1 : Nat) : Int) := wrap_succ (by omega)
    by_cases c : lss x.f0 m[i].f0 = true
    · rw [c] at hs
      have h2 := with_done m x hm d (i + 1) (by omega) (m.take i ++ [x] ++ [m[i]]) (by simp; omega)
      have e : m.take i ++ putIn x (m[i] :: m.drop (i + 1)) = m.take i ++ [x] ++ [m[i]] ++ m.drop (i + 1) := by
        show m.take i ++ (if _ then _ else _) = _
        rw [if_pos c]; simp
      rw [e]
      refine Ev.step (f := fun k => (spec_l1Less.f k x.f0 m[i].f0).bind fun t => (if t = true then (spec_l1With.l0 k m (m.take i ++ [x] ++ [m[i]]) true ((i + 1 : Nat) : Int) x.f0 x.f1 x.f2) else (spec_l1With.l0 k m (m.take i ++ [m[i]]) false ((i + 1 : Nat) : Int) x.f0 x.f1 x.f2))) (fun k => ?_) (Ev.bind hs (Ev.congr (fun k => if_pos rfl) h2))
      rw [spec_l1With.l0, if_pos (by omega), if_neg (by simp), if_pos (by omega), rd52 m i hlt, e4, if_pos (by omega), Option.bind_some, if_pos (by rw [List.length_append, ht]; simp; omega)]
      simp only [if_pos (show (m.take i).length < 3518437208883 by omega)]
    · rw [Bool.eq_false_iff.2 c] at hs
      have h2 := ih (i + 1) (by omega)
      rw [take_at m i hlt] at h2
      have e : m.take i ++ putIn x (m[i] :: m.drop (i + 1)) = m.take i ++ [m[i]] ++ putIn x (m.drop (i + 1)) := by
        show m.take i ++ (if lss x.f0 m[i].f0 = true then x :: m[i] :: m.drop (i + 1) else m[i] :: putIn x (m.drop (i + 1))) = _
        rw [if_neg c, List.append_assoc]; rfl
      rw [e]
      refine Ev.step (f := fun k => (spec_l1Less.f k x.f0 m[i].f0).bind fun t => (if t = true then (spec_l1With.l0 k m (m.take i ++ [x] ++ [m[i]]) true ((i + 1 : Nat) : Int) x.f0 x.f1 x.f2) else (spec_l1With.l0 k m (m.take i ++ [m[i]]) false ((i + 1 : Nat) : Int) x.f0 x.f1 x.f2))) (fun k => ?_) (Ev.bind hs (Ev.congr (fun k => if_neg (by simp)) h2))
      rw [spec_l1With.l0, if_pos (by omega), if_neg (by simp), if_pos (by omega), rd52 m i hlt, e4, if_pos (by omega), Option.bind_some, if_pos (by rw [List.length_append, ht]; simp; omega)]
      simp only [if_pos (show (m.take i).length < 3518437208883 by omega)]
theorem with_eq (l : List S52) (n d : ByteArray) (y : Int) (hl : l.length ≤ 1048576) (hn : n.size ≤ 1048576) : Ev (fun k => spec_l1With.f k l n d y) (putIn ⟨n, d, y⟩ (but l n)) :=
  Ev.bind (without_eq l n hl) (with_loop (but l n) ⟨n, d, y⟩ (Nat.le_trans (but_length l n) hl) hn (but l n).length 0 (by omega))

/-- Files in order fall into those ahead of a name, one of the name or none, those behind it. -/
theorem split_at {l : List S52} (h : Sorted l) (s : ByteArray) : ∃ A m C, l = A ++ m ++ C ∧ A.length = pos l s ∧ (∀ a ∈ A, lss a.f0 s = true) ∧ (∀ c ∈ C, lss s c.f0 = true) ∧ ((there l s = true ∧ ∃ y, m = [y] ∧ y.f0 = s) ∨ (there l s = false ∧ m = [])) := by
  have hp := pos_le l s
  have hA : ∀ a ∈ l.take (pos l s), lss a.f0 s = true := by
    intro a ha
    obtain ⟨t, ht, rfl⟩ := List.mem_iff_getElem.1 ha
    rw [List.length_take] at ht
    have := (pos_iff h s t (by omega)).2 (by omega)
    rw [rd52 l t (by omega)] at this
    rw [List.getElem_take]; exact this
  have hC : ∀ t (ht : t < l.length), pos l s ≤ t → lss l[t].f0 s = false := by
    intro t ht hpt
    rw [Bool.eq_false_iff]
    intro hh
    have := (pos_iff h s t ht).1 (by rw [rd52 l t ht]; exact hh)
    omega
  have hgt : ∀ t (ht : t < l.length), pos l s ≤ t → l[t].f0 ≠ s → lss s l[t].f0 = true := by
    intro t ht hpt hne
    cases e : lss s l[t].f0 with
    | true => rfl
    | false => exact absurd (lss_total (hC t ht hpt) e) hne
  by_cases ht : there l s = true
  · have hlt := there_lt ht
    have hname := there_name ht
    rw [rd52 l _ hlt] at hname
    refine ⟨l.take (pos l s), [l[pos l s]], l.drop (pos l s + 1), ?_, by rw [List.length_take]; omega, hA, fun c hc => ?_, .inl ⟨ht, _, rfl, hname⟩⟩
    · rw [List.append_assoc, List.singleton_append, ← drop_at l _ hlt, List.take_append_drop]
    · obtain ⟨t, ht', rfl⟩ := List.mem_iff_getElem.1 hc
      have hl' : pos l s + 1 + t < l.length := by rw [List.length_drop] at ht'; omega
      rw [List.getElem_drop]
      refine hgt _ hl' (by omega) (fun he => ?_)
      have h3 := (there_of h hl' (by rw [rd52 l _ hl', he])).1
      have h4 : pos l s = pos l s + 1 + t := h3
      omega
  · refine ⟨l.take (pos l s), [], l.drop (pos l s), ?_, by rw [List.length_take]; omega, hA, fun c hc => ?_, .inr ⟨Bool.eq_false_iff.2 ht, rfl⟩⟩
    · rw [List.append_nil, List.take_append_drop]
    · obtain ⟨t, ht', rfl⟩ := List.mem_iff_getElem.1 hc
      have hl' : pos l s + t < l.length := by rw [List.length_drop] at ht'; omega
      rw [List.getElem_drop]
      refine hgt _ hl' (by omega) (fun he => ?_)
      exact ht (there_of h hl' (by rw [rd52 l _ hl']; exact he)).2
theorem lss_ne {a b : ByteArray} (h : lss a b = true) : a ≠ b := fun e => by rw [e, lss_irrefl] at h; cases h
theorem but_split {A m C : List S52} {s : ByteArray} (hA : ∀ a ∈ A, lss a.f0 s = true) (hC : ∀ c ∈ C, lss s c.f0 = true) (hm : ∀ y ∈ m, y.f0 = s) : but (A ++ m ++ C) s = A ++ C := by
  have h1 : A.filter (fun x => decide (x.f0 ≠ s)) = A := List.filter_eq_self.2 (fun a ha => by simpa using lss_ne (hA a ha))
  have h2 : C.filter (fun x => decide (x.f0 ≠ s)) = C := List.filter_eq_self.2 (fun c hc => by simpa using fun e : c.f0 = s => lss_ne (hC c hc) e.symm)
  have h3 : m.filter (fun x => decide (x.f0 ≠ s)) = [] := List.filter_eq_nil_iff.2 (fun y hy => by simp [hm y hy])
  unfold but
  rw [List.filter_append, List.filter_append, h1, h2, h3, List.append_nil]
theorem put_split {A C : List S52} {x : S52} (hA : ∀ a ∈ A, lss a.f0 x.f0 = true) (hC : ∀ c ∈ C, lss x.f0 c.f0 = true) : putIn x (A ++ C) = A ++ x :: C :=
  putIn_at x A C (fun a ha => lss_asymm (hA a ha)) (fun c hc => hC c (List.mem_of_mem_head? hc))
theorem put_over {l : List S52} (h : Sorted l) {x : S52} (ht : there l x.f0 = true) : putIn x (but l x.f0) = l.set (pos l x.f0) x := by
  obtain ⟨A, m, C, e, hp, hA, hC, ⟨_, y, rfl, hy⟩ | ⟨hf, _⟩⟩ := split_at h x.f0
  · rw [← hp, e, but_split hA hC (by simpa using hy), put_split hA hC, List.append_assoc, List.set_append_right _ _ (Nat.le_refl _), Nat.sub_self]
    rfl
  · rw [hf] at ht; cases ht
theorem but_empty {l : List S52} (h : okFrom none l = true) : but l ⟨#[]⟩ = l := by
  unfold but
  rw [List.filter_eq_self]
  intro x hx
  have := (okFrom_all h).1 x hx
  unfold fileOk nameOk at this
  simp only [Bool.and_eq_true, decide_eq_true_eq] at this
  have h1 := this.1.1.1
  simp only [decide_eq_true_eq]
  intro e
  rw [e] at h1
  exact absurd h1 (by decide)
/-- The specification's beginning of a step. -/
theorem specBegin_eq (l : List S52) (q f : Int) (ht : total l ≤ 1048576) (hl : l.length ≤ 1048576) (hn : ∀ x ∈ l, x.f0.size ≤ 1048576) (hf : f ≤ 9223372036854775807) :
    Ev (fun k => spec_l1Begin.f k l q f) (if validB l q f = true then (l, q, fuel' f, if f = 0 then 8 else 0) else ([], 0, 0, 9)) := by
  refine Ev.bind (specValid_eq l q f ht hl hn) ?_
  by_cases c : validB l q f = true
  · rw [c]
    have hb := but_empty (valid_parts c).2.2.2.2.1
    have hf0 := (valid_parts c).2.2.2.1
    refine Ev.congr (fun k => if_pos rfl) ?_
    by_cases z : f = 0
    · subst z
      refine Ev.congr (fun k => if_pos rfl) (Ev.bind (a := (l, q, 0)) (Ev.bind (without_eq l ⟨#[]⟩ hl) ?_) ?_)
      · rw [hb]; exact Ev.now _
      · exact Ev.now _
    · refine Ev.congr (fun k => if_neg z) (Ev.bind (a := (l, q, fuel' f)) (Ev.bind (without_eq l ⟨#[]⟩ hl) ?_) ?_)
      · rw [hb]
        refine Ev.pure (fun k => ?_)
        show (if true = true then (if f > 0 then some (l, q, wrap64 (f - 1)) else some (l, q, f)) else some (l, q, f)) = some (l, q, fuel' f)
        unfold fuel'
        by_cases p : f > 0
        · rw [if_pos rfl, if_pos p, if_pos p, wrap_ok (by omega) (by omega)]
        · rw [if_pos rfl, if_neg p, if_neg p]
      · rw [if_neg z]; exact Ev.now _
  · have c' := Bool.eq_false_iff.2 c
    rw [c']
    exact Ev.congr (fun k => if_neg (by simp)) (Ev.now _)
end Go.Proofs.Ytbppijlcmeidaaa.M
end
section
/- The specification's l1Long writes its text n times. Condition: the text has one byte, n at most ten million. -/
namespace Go.Proofs.Ytbppijlcmeidaaa.M
open Go.RowKit Go.Proofs.Ytbppijlcmeidaaa.P Go.Proofs.YtbppijlcmeidaaaW.PrintWords Go.Proofs.YtbppijlcmeidaaaW.PrintLast Go.Proofs.YtbppijlcmeidaaaW.PrintMore
set_option linter.unusedVariables false
set_option linter.unusedSimpArgs false
def rep (b : ByteArray) : Nat → ByteArray
  | 0 => ⟨#[]⟩
  | n + 1 => b ++ rep b n
theorem rep_size {b : ByteArray} (hb : b.size = 1) (n : Nat) : (rep b n).size = n := by
  induction n with
  | zero => rfl
  | succ n ih => show (b ++ rep b n).size = n + 1; rw [ByteArray.size_append, ih, hb]; omega
theorem rep_add (b : ByteArray) (m n : Nat) : rep b m ++ rep b n = rep b (m + n) := by
  induction m with
  | zero =>
    rw [Nat.zero_add]
    show (⟨#[]⟩ : ByteArray) ++ rep b n = rep b n
    apply ByteArray.ext
    rw [ByteArray.data_append]
    simp
  | succ m ih =>
    rw [show m + 1 + n = (m + n) + 1 by omega]
    show b ++ rep b m ++ rep b n = b ++ rep b (m + n)
    rw [ByteArray.append_assoc, ih]
def lenOf : Value → Nat
  | .string s => s.size
  | _ => 0
theorem rep_one {b : ByteArray} : rep b 1 = b := by
  show b ++ (⟨#[]⟩ : ByteArray) = b
  apply ByteArray.ext
  rw [ByteArray.data_append]
  simp
set_option maxHeartbeats 8000000 in
set_option maxRecDepth 100000 in
theorem long_call (b : ByteArray) (hb : b.size = 1) : ∀ (N n : Nat), n < N → n ≤ 10000000 → ∀ w : World, Calls Try.prog 66 #[.int .i64 (n : Int), .string b] w fun e w' => e = .returned (.string (rep b n)) ∧ Drawn0 w w' := by
  intro N
  induction N with
  | zero => intro n h; omega
  | succ N ih =>
    intro n hn hle w
    have HIH := Aside0.mk ih
    have HBB := Aside0.mk hb
    clear ih hb
    cases n with
    | zero =>
      go_enter Try.func66, Try.ntmps66
      go_wp2
      go_loopw [5] (fun v5 wr => v5 = .string (⟨#[]⟩ : ByteArray) ∧ Drawn0 w wr) (fun _ _ => 0)
      case atStart => exact ⟨rfl, Drawn0.refl _⟩
      case round =>
        obtain ⟨rfl, ⟨m, rfl⟩⟩ := hrel
        go_wp2
        go_ret
        exact ⟨rfl, Drawn0.step (Drawn0.refl _) _⟩
    | succ n =>
      have hpos : decide ((0 : Int) < ((n + 1 : Nat) : Int)) = true := decide_eq_true (by omega)
      go_enter Try.func66, Try.ntmps66
      go_wp2
      go_loopw [5] (fun v5 wr => ∃ m : Nat, v5 = .string (rep b m) ∧ 1 ≤ m ∧ m ≤ n + 1 ∧ Drawn0 w wr) (fun v _ => n + 1 - lenOf v)
      case atStart => exact ⟨1, by rw [rep_one], by omega, by omega, Drawn0.refl _⟩
      case round =>
        obtain ⟨m, rfl, h1, h2, ⟨q, rfl⟩⟩ := hrel
        have hsz := rep_size HBB.out m
        generalize hs : rep b m = S at hsz ⊢
        have HS := Aside0.mk hs
        clear hs
        have hw : wrap64 ((S.size : Int) * 2) = (S.size : Int) * 2 := wrap_ok (by omega) (by omega)
        go_wp2_with fail
        · rename_i hc
          go_roundw
          case rel => exact ⟨.string (S ++ S), _, _, _, _, _, _, _, _, _, _, _, _, ⟨m + m, by rw [← rep_add, HS.out], by omega, by omega, Drawn0.step (Drawn0.refl _) _⟩, rfl⟩
          case measure =>
            show n + 1 - (S ++ S).size < n + 1 - S.size
            rw [ByteArray.size_append]
            omega
        · rename_i hc
          have hlt : m < n + 1 := by
            by_cases h : m < n + 1
            · exact h
            · omega
          rw [show (n : Int) + 1 - (m : Int) = ((n + 1 - m : Nat) : Int) by omega]
          have hsz2 := rep_size HBB.out (n + 1 - m)
          refine (HIH.out (n + 1 - m) (by omega) (by omega) _).mono ?_
          rintro e w2 ⟨rfl, ⟨q2, rfl⟩⟩
          have HE := Aside0.mk (show S ++ rep b (n + 1 - m) = rep b (n + 1) from by rw [← HS.out, rep_add, show m + (n + 1 - m) = n + 1 by omega])
          generalize rep b (n + 1 - m) = S2 at hsz2 HE ⊢
          go_wp2
          go_ret
          exact ⟨by rw [← HE.out]; rfl, Drawn0.step (Drawn0.refl _) _⟩
        · rename_i hc1 hc2
          have HE := Aside0.mk (show S = rep b (n + 1) from by rw [← HS.out, show m = n + 1 by omega])
          go_ret
          exact ⟨by rw [← HE.out]; rfl, Drawn0.step (Drawn0.refl _) _⟩
end Go.Proofs.Ytbppijlcmeidaaa.M
end
section
-- Written by a changed copy of the print program, one module a function. Not trusted: Lean checks it.
namespace Go.Proofs.Ytbppijlcmeidaaa.P
open Go.RowKit Go.Proofs.YtbppijlcmeidaaaW.PrintWords Go.Proofs.YtbppijlcmeidaaaW.PrintLast Go.Proofs.YtbppijlcmeidaaaW.PrintMore
attribute [local go_sem] max2_int min2_int max_two min_two max_three min_three max_four min_four   -- for this text's walks alone
set_option linter.unusedVariables false
set_option linter.unusedSimpArgs false

/-! ### spec_l1Long: function 66 -/
def spec_l1Long.f (a0 : Int) (a1 : ByteArray) : Option (ByteArray) := if a1.size = 1 ∧ 0 ≤ a0 ∧ a0 ≤ 10000000 then some (M.rep a1 a0.toNat) else none

theorem spec_l1Long.calls (a0 : Int) (a1 : ByteArray) (r : ByteArray) (w : World) (h : spec_l1Long.f a0 a1 = some r) :
  Calls Try.prog 66 #[.int .i64 a0, .string a1] w fun e w' => e = .returned (.string r) ∧ Drawn0 w w' := by
 unfold spec_l1Long.f at h
 by_cases c : a1.size = 1 ∧ 0 ≤ a0 ∧ a0 ≤ 10000000
 ·rw [if_pos c] at h
  obtain rfl := Option.some.inj h
  have h1 := M.long_call a1 c.1 (a0.toNat + 1) a0.toNat (by omega) (by omega) w
  rw [show ((a0.toNat : Nat) : Int) = a0 by omega] at h1
  exact h1
 ·rw [if_neg c] at h
  cases h

end Go.Proofs.Ytbppijlcmeidaaa.P
end

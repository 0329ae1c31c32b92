/- Texts of the claim FnExactFsCreate, part 35 of 36, joined: PlawsFnExactFsCreate. No condition beyond those that stand at each. -/
import Derived.Test.YtbppijlcmeidaaaZFnExactFsCreate25
import Derived.Test.YtbppijlcmeidaaaZFnExactFsCreate29
import Derived.Test.YtbppijlcmeidaaaZFnExactFsCreate26
import Derived.Test.YtbppijlcmeidaaaZFnExactFsCreate30
import Derived.Test.YtbppijlcmeidaaaZFnExactFsCreate34
section
-- Written by a changed copy of the print program, one module a function. Not trusted: Lean checks it.
namespace Go.Proofs.Ytbppijlcmeidaaa.P
open Go.RowKit Go.Proofs.YtbppijlcmeidaaaW.PrintWords Go.Proofs.YtbppijlcmeidaaaW.PrintLast Go.Proofs.YtbppijlcmeidaaaW.PrintMore
attribute [local go_sem] max2_int min2_int max_two min_two max_three min_three max_four min_four   -- for this text's walks alone
set_option linter.unusedVariables false
set_option linter.unusedSimpArgs false

/-! ### laws_FnExactFsCreate: function 10 -/
mutual
def laws_FnExactFsCreate.j0 : Nat → ByteArray → Int → Int → Bool → List (S80) → Int → Int → List (S52) → Int → Int → List (S52) → Int → Int → List (S52) → Int → Int → Option (Bool)
 | 0, _, _, _, _, _, _, _, _, _, _, _, _, _, _, _, _ => none
 | k + 1, x1, x7, x10, x47, x764000, x764001, x764002, x777000, x777001, x777002, x783000, x783001, x783002, x790000, x790001, x790002 => if x47 = true then (some false) else ((laws_toFS.f k x764000 x764001 x764002).bind fun bt791 => ((laws_eqFS.f k x783000 x783001 x783002 bt791.1 bt791.2.1 bt791.2.2).bind fun t796 => (if t796 = true then ((laws_markFS.f k x783000 x783001 x783002 1).bind fun bt797 => (if bt797.1 < 0 then (laws_FnExactFsCreate.j1 k x1 x7 true x764000 x764001 x764002 x777000 x777001 x777002 x790000 x790001 x790002) else ((laws_eqFS.f k x790000 x790001 x790002 x777000 x777001 x777002).bind fun t799 => (if t799 = true then (laws_FnExactFsCreate.j1 k x1 x7 (x10 != x7) x764000 x764001 x764002 x777000 x777001 x777002 x790000 x790001 x790002) else (laws_FnExactFsCreate.j1 k x1 x7 true x764000 x764001 x764002 x777000 x777001 x777002 x790000 x790001 x790002))))) else (some false))))
def laws_FnExactFsCreate.j1 : Nat → ByteArray → Int → Bool → List (S80) → Int → Int → List (S52) → Int → Int → List (S52) → Int → Int → Option (Bool)
 | 0, _, _, _, _, _, _, _, _, _, _, _, _ => none
 | k + 1, x1, x7, x68, x764000, x764001, x764002, x777000, x777001, x777002, x790000, x790001, x790002 => if x68 = true then (some false) else ((laws_markFS.f k x790000 x790001 x790002 1).bind fun bt800 => ((laws_heldFS.f k bt800.2 x790001 x790002 1).bind fun t802 => (if t802 < 0 then (some false) else (if t802 = bt800.1 then ((laws_toFS.f k x764000 x764001 x764002).bind fun bt803 => ((impl_FsCreate.f bt803.1 bt803.2.1 bt803.2.2 x1).bind fun bt808 => ((laws_eqFS.f k bt808.1 bt808.2.1 bt808.2.2.1 x777000 x777001 x777002).bind fun t815 => (if t815 = true then (if bt808.2.2.2 = x7 then (some true) else (some false)) else (some false))))) else (some false)))))
end
def laws_FnExactFsCreate.f (k : Nat) (l0_0 : List (S80)) (a0_1 : Int) (a0_2 : Int) (a1 : ByteArray) : Option (Bool) := if (a1.size : Int) > 1048576 then (some true) else ((laws_szFS.f k l0_0 a0_1 a0_2 1048576).bind fun t764 => (if t764 < 0 then (some true) else ((laws_toFS.f k l0_0 a0_1 a0_2).bind fun bt765 => ((spec_FsCreate.f k bt765.1 bt765.2.1 bt765.2.2 a1).bind fun bt770 => ((laws_toFS.f k l0_0 a0_1 a0_2).bind fun bt777 => ((impl_FsCreate.f bt777.1 bt777.2.1 bt777.2.2 a1).bind fun bt783 => ((laws_eqFS.f k bt783.1 bt783.2.1 bt783.2.2.1 bt770.1 bt770.2.1 bt770.2.2.1).bind fun t790 => (if t790 = true then (laws_FnExactFsCreate.j0 k a1 bt770.2.2.2 bt783.2.2.2 (bt783.2.2.2 != bt770.2.2.2) l0_0 a0_1 a0_2 bt770.1 bt770.2.1 bt770.2.2.1 bt777.1 bt777.2.1 bt777.2.2 bt783.1 bt783.2.1 bt783.2.2.1) else (laws_FnExactFsCreate.j0 k a1 bt770.2.2.2 bt783.2.2.2 true l0_0 a0_1 a0_2 bt770.1 bt770.2.1 bt770.2.2.1 bt777.1 bt777.2.1 bt777.2.2 bt783.1 bt783.2.1 bt783.2.2.1)))))))))
theorem laws_FnExactFsCreate.mono_l : ∀ k, (∀ y0 y1 y2 y3 y4 y5 y6 y7 y8 y9 y10 y11 y12 y13 y14 y15, LeO (laws_FnExactFsCreate.j0 k y0 y1 y2 y3 y4 y5 y6 y7 y8 y9 y10 y11 y12 y13 y14 y15) (laws_FnExactFsCreate.j0 (k + 1) y0 y1 y2 y3 y4 y5 y6 y7 y8 y9 y10 y11 y12 y13 y14 y15)) ∧ (∀ y0 y1 y2 y3 y4 y5 y6 y7 y8 y9 y10 y11, LeO (laws_FnExactFsCreate.j1 k y0 y1 y2 y3 y4 y5 y6 y7 y8 y9 y10 y11) (laws_FnExactFsCreate.j1 (k + 1) y0 y1 y2 y3 y4 y5 y6 y7 y8 y9 y10 y11))
 | 0 => ⟨fun _ _ _ _ _ _ _ _ _ _ _ _ _ _ _ _ r h => by simp [laws_FnExactFsCreate.j0] at h, fun _ _ _ _ _ _ _ _ _ _ _ _ r h => by simp [laws_FnExactFsCreate.j1] at h⟩
 | k + 1 => by
  obtain ⟨ih0, ih1⟩ := laws_FnExactFsCreate.mono_l k
  refine ⟨?_, ?_⟩
  ·intro y0 y1 y2 y3 y4 y5 y6 y7 y8 y9 y10 y11 y12 y13 y14 y15
   unfold laws_FnExactFsCreate.j0
   repeat' first
   | (with_reducible exact ih0 _ _ _ _ _ _ _ _ _ _ _ _ _ _ _ _)
   | (with_reducible exact ih1 _ _ _ _ _ _ _ _ _ _ _ _)
   | (with_reducible exact laws_eqFS.mono _ _ _ _ _ _ _)
   | (with_reducible exact laws_heldFS.mono _ _ _ _ _)
   | (with_reducible exact laws_markFS.mono _ _ _ _ _)
   | (with_reducible exact laws_szFS.mono _ _ _ _ _)
   | (with_reducible exact laws_toFS.mono _ _ _ _)
   | (with_reducible exact spec_FsCreate.mono _ _ _ _ _)
   | (with_reducible exact LeO.refl _)
   | (with_reducible exact LeO.none _)
   | (with_reducible refine LeO.ite ?_ ?_)
   | (with_reducible refine LeO.bind ?_ (fun _ => ?_))
   | exact ih0 _ _ _ _ _ _ _ _ _ _ _ _ _ _ _ _
   | exact ih1 _ _ _ _ _ _ _ _ _ _ _ _
   | exact laws_eqFS.mono _ _ _ _ _ _ _
   | exact laws_heldFS.mono _ _ _ _ _
   | exact laws_markFS.mono _ _ _ _ _
   | exact laws_szFS.mono _ _ _ _ _
   | exact laws_toFS.mono _ _ _ _
   | exact spec_FsCreate.mono _ _ _ _ _
   | exact LeO.none _
   | refine LeO.ite ?_ ?_
   | refine LeO.bind ?_ (fun _ => ?_)
  ·intro y0 y1 y2 y3 y4 y5 y6 y7 y8 y9 y10 y11
   unfold laws_FnExactFsCreate.j1
   repeat' first
   | (with_reducible exact ih0 _ _ _ _ _ _ _ _ _ _ _ _ _ _ _ _)
   | (with_reducible exact ih1 _ _ _ _ _ _ _ _ _ _ _ _)
   | (with_reducible exact laws_eqFS.mono _ _ _ _ _ _ _)
   | (with_reducible exact laws_heldFS.mono _ _ _ _ _)
   | (with_reducible exact laws_markFS.mono _ _ _ _ _)
   | (with_reducible exact laws_szFS.mono _ _ _ _ _)
   | (with_reducible exact laws_toFS.mono _ _ _ _)
   | (with_reducible exact spec_FsCreate.mono _ _ _ _ _)
   | (with_reducible exact LeO.refl _)
   | (with_reducible exact LeO.none _)
   | (with_reducible refine LeO.ite ?_ ?_)
   | (with_reducible refine LeO.bind ?_ (fun _ => ?_))
   | exact ih0 _ _ _ _ _ _ _ _ _ _ _ _ _ _ _ _
   | exact ih1 _ _ _ _ _ _ _ _ _ _ _ _
   | exact laws_eqFS.mono _ _ _ _ _ _ _
   | exact laws_heldFS.mono _ _ _ _ _
   | exact laws_markFS.mono _ _ _ _ _
   | exact laws_szFS.mono _ _ _ _ _
   | exact laws_toFS.mono _ _ _ _
   | exact spec_FsCreate.mono _ _ _ _ _
   | exact LeO.none _
   | refine LeO.ite ?_ ?_
   | refine LeO.bind ?_ (fun _ => ?_)
theorem laws_FnExactFsCreate.mono : ∀ a0 a1 a2 a3 k, LeO (laws_FnExactFsCreate.f k a0 a1 a2 a3) (laws_FnExactFsCreate.f (k + 1) a0 a1 a2 a3) := by
 intro a0 a1 a2 a3 k
 obtain ⟨ih0, ih1⟩ := laws_FnExactFsCreate.mono_l k
 unfold laws_FnExactFsCreate.f
 repeat' first
   | (with_reducible exact ih0 _ _ _ _ _ _ _ _ _ _ _ _ _ _ _ _)
   | (with_reducible exact ih1 _ _ _ _ _ _ _ _ _ _ _ _)
   | (with_reducible exact laws_eqFS.mono _ _ _ _ _ _ _)
   | (with_reducible exact laws_heldFS.mono _ _ _ _ _)
   | (with_reducible exact laws_markFS.mono _ _ _ _ _)
   | (with_reducible exact laws_szFS.mono _ _ _ _ _)
   | (with_reducible exact laws_toFS.mono _ _ _ _)
   | (with_reducible exact spec_FsCreate.mono _ _ _ _ _)
   | (with_reducible exact LeO.refl _)
   | (with_reducible exact LeO.none _)
   | (with_reducible refine LeO.ite ?_ ?_)
   | (with_reducible refine LeO.bind ?_ (fun _ => ?_))
   | exact ih0 _ _ _ _ _ _ _ _ _ _ _ _ _ _ _ _
   | exact ih1 _ _ _ _ _ _ _ _ _ _ _ _
   | exact laws_eqFS.mono _ _ _ _ _ _ _
   | exact laws_heldFS.mono _ _ _ _ _
   | exact laws_markFS.mono _ _ _ _ _
   | exact laws_szFS.mono _ _ _ _ _
   | exact laws_toFS.mono _ _ _ _
   | exact spec_FsCreate.mono _ _ _ _ _
   | exact LeO.none _
   | refine LeO.ite ?_ ?_
   | refine LeO.bind ?_ (fun _ => ?_)
set_option maxHeartbeats 8000000 in
set_option maxRecDepth 100000 in
theorem laws_FnExactFsCreate.calls (k : Nat) (A0_0 : Option Addr) (c0_0 : Nat) (l0_0 : List (S80)) (a0_1 : Int) (a0_2 : Int) (a1 : ByteArray) (w : World) (hr0_0 : Kd.C k80 w A0_0 l0_0.length l0_0) (hc0_0 : l0_0.length ≤ c0_0) (h : laws_FnExactFsCreate.f k l0_0 a0_1 a0_2 a1 = some true) :
  Calls Try.prog 10 #[.agg #[.slice A0_0 l0_0.length c0_0, .int .i64 a0_1, .int .i64 a0_2], .string a1] w fun e w' => e = .returned (.bool true) ∧ Below w.heap.size w w' := by
 have hu24 := Try.underlying24
 have hu29 := Try.underlying29
 have HR0_0 := Aside0.mk hr0_0
 have HC0_0 := Aside0.mk hc0_0
 clear hr0_0 hc0_0
 have HB := Aside0.mk (Below.refl w.heap.size w)
 have H : (if (a1.size : Int) > 1048576 then (some true) else ((laws_szFS.f k l0_0 a0_1 a0_2 1048576).bind fun t764 => (if t764 < 0 then (some true) else ((laws_toFS.f k l0_0 a0_1 a0_2).bind fun bt765 => ((spec_FsCreate.f k bt765.1 bt765.2.1 bt765.2.2 a1).bind fun bt770 => ((laws_toFS.f k l0_0 a0_1 a0_2).bind fun bt777 => ((impl_FsCreate.f bt777.1 bt777.2.1 bt777.2.2 a1).bind fun bt783 => ((laws_eqFS.f k bt783.1 bt783.2.1 bt783.2.2.1 bt770.1 bt770.2.1 bt770.2.2.1).bind fun t790 => (if t790 = true then (laws_FnExactFsCreate.j0 k a1 bt770.2.2.2 bt783.2.2.2 (bt783.2.2.2 != bt770.2.2.2) l0_0 a0_1 a0_2 bt770.1 bt770.2.1 bt770.2.2.1 bt777.1 bt777.2.1 bt777.2.2 bt783.1 bt783.2.1 bt783.2.2.1) else (laws_FnExactFsCreate.j0 k a1 bt770.2.2.2 bt783.2.2.2 true l0_0 a0_1 a0_2 bt770.1 bt770.2.1 bt770.2.2.1 bt777.1 bt777.2.1 bt777.2.2 bt783.1 bt783.2.1 bt783.2.2.1)))))))))) = some true := h
 clear h
 by_cases c3 : (a1.size : Int) > 1048576
 ·rw [if_pos c3] at H
  have c3b0 : decide (1048576 < (a1.size : Int)) = true := decide_eq_true c3
  have c3b1 : decide (1048576 < a1.size) = true := decide_eq_true (by omega)
  clear c3
  clear H
  go_enter Try.func10, Try.ntmps10
  go_wp2_with (first | ((with_reducible refine gate_dst (N := 2) rfl ?_); refine box_event ?hg (N := 2) ?hd (cs := #[.slice A0_0 l0_0.length c0_0, .int .i64 a0_1, .int .i64 a0_2]) (t := 24) ?hr ?_; (case hd => rfl); (case hg => rfl); (case hr => first | (go_simp; done) | (go_simp; rfl)); intro gb763 hg w4 hbox hb; have n0_ := Aside0.mk (below_step (by repeat (first | (with_reducible first | exact HB.out | apply below_alloc | apply pw_below_drewN | apply below_drew1) | exact HB.out)) hb); have n1_ := Aside0.mk (hbox); have n2_ := Aside0.mk ((by rw [hg]; exact (below_size (by repeat (first | (with_reducible first | exact HB.out | apply below_alloc | apply pw_below_drewN | apply below_drew1) | exact HB.out))) : w.heap.size ≤ gb763)); have n3_ := Aside0.mk ((by rw [hg]; exact (below_size (by repeat (first | (with_reducible first | exact HB.out | apply below_alloc | apply pw_below_drewN | apply below_drew1) | exact HB.out))) : w.heap.size ≤ gb763)); clear HB; have HB := n0_; have BK763 := n1_; have GW763 := n2_; have GE763 := n3_; clear n0_ n1_ n2_ n3_; clear hb hbox hg))
  go_ret
  exact ⟨by first | rfl | (simp [errW_none, errW_some] <;> rfl) | (simp [*, errW_none, errW_some] <;> rfl), by repeat (first | (with_reducible first | exact HB.out | apply below_alloc | apply pw_below_drewN | apply below_drew1 | refine below_set ?_ GE763.out) | exact HB.out)⟩
 ·rw [if_neg c3] at H
  have c3b0 : decide (1048576 < (a1.size : Int)) = false := decide_eq_false c3
  have c3b1 : decide (1048576 < a1.size) = false := decide_eq_false (by omega)
  clear c3
  replace H := Option.bind_eq_some_iff.mp H
  obtain ⟨t764, A50, H⟩ := H
  replace H : (if t764 < 0 then (some true) else ((laws_toFS.f k l0_0 a0_1 a0_2).bind fun bt765 => ((spec_FsCreate.f k bt765.1 bt765.2.1 bt765.2.2 a1).bind fun bt770 => ((laws_toFS.f k l0_0 a0_1 a0_2).bind fun bt777 => ((impl_FsCreate.f bt777.1 bt777.2.1 bt777.2.2 a1).bind fun bt783 => ((laws_eqFS.f k bt783.1 bt783.2.1 bt783.2.2.1 bt770.1 bt770.2.1 bt770.2.2.1).bind fun t790 => (if t790 = true then (laws_FnExactFsCreate.j0 k a1 bt770.2.2.2 bt783.2.2.2 (bt783.2.2.2 != bt770.2.2.2) l0_0 a0_1 a0_2 bt770.1 bt770.2.1 bt770.2.2.1 bt777.1 bt777.2.1 bt777.2.2 bt783.1 bt783.2.1 bt783.2.2.1) else (laws_FnExactFsCreate.j0 k a1 bt770.2.2.2 bt783.2.2.2 true l0_0 a0_1 a0_2 bt770.1 bt770.2.1 bt770.2.2.1 bt777.1 bt777.2.1 bt777.2.2 bt783.1 bt783.2.1 bt783.2.2.1)))))))) = some true := H
  have A5 := Aside0.mk A50
  clear A50
  by_cases c6 : t764 < 0
  ·rw [if_pos c6] at H
   have c6b0 : decide (t764 < 0) = true := decide_eq_true c6
   clear c6
   clear H
   go_enter Try.func10, Try.ntmps10
   go_wp2_with (first | ((with_reducible refine gate_dst (N := 2) rfl ?_); refine box_event ?hg (N := 2) ?hd (cs := #[.slice A0_0 l0_0.length c0_0, .int .i64 a0_1, .int .i64 a0_2]) (t := 24) ?hr ?_; (case hd => rfl); (case hg => rfl); (case hr => first | (go_simp; done) | (go_simp; rfl)); intro gb763 hg w7 hbox hb; have n0_ := Aside0.mk (below_step (by repeat (first | (with_reducible first | exact HB.out | apply below_alloc | apply pw_below_drewN | apply below_drew1) | exact HB.out)) hb); have n1_ := Aside0.mk (hbox); have n2_ := Aside0.mk ((by rw [hg]; exact (below_size (by repeat (first | (with_reducible first | exact HB.out | apply below_alloc | apply pw_below_drewN | apply below_drew1) | exact HB.out))) : w.heap.size ≤ gb763)); have n3_ := Aside0.mk ((by rw [hg]; exact (below_size (by repeat (first | (with_reducible first | exact HB.out | apply below_alloc | apply pw_below_drewN | apply below_drew1) | exact HB.out))) : w.heap.size ≤ gb763)); clear HB; have HB := n0_; have BK763 := n1_; have GW763 := n2_; have GE763 := n3_; clear n0_ n1_ n2_ n3_; clear hb hbox hg; have hcz8_0 : w7.cell? ⟨gb763, 0, none⟩ = some (.slice A0_0 l0_0.length c0_0) := (blk_cell BK763.out 0).trans rfl; have hcz8_1 : w7.cell? ⟨gb763, 1, none⟩ = some (.int .i64 a0_1) := (blk_cell BK763.out 1).trans rfl; have hcz8_2 : w7.cell? ⟨gb763, 2, none⟩ = some (.int .i64 a0_2) := (blk_cell BK763.out 2).trans rfl; have hfz8_0 := blk_frozen BK763.out 0; have hfz8_1 := blk_frozen BK763.out 1; have hfz8_2 := blk_frozen BK763.out 2) | ((with_reducible refine gate_callee (f := 12) rfl ?_); refine goesL_ (some 21) rfl rfl Try.func12 (by kernel_rfl) rfl #[.agg #[.slice A0_0 l0_0.length c0_0, .int .i64 a0_1, .int .i64 a0_2], .int .i64 1048576] rfl (by (try simp only [List.map_toArray, List.map_cons, List.map_nil]); first | done | rfl | (simp only [List.length_drop, List.length_take]; rfl)) ?_; (with_reducible refine (laws_szFS.calls k _ _ l0_0 a0_1 a0_2 1048576 t764 _ ?side1 ?side2 A5.out).mono ?_); (case side1 => repeat (first | exact (Kd.C_below HR0_0.out HB.out) | (with_reducible refine Kd.C_alloc ?_ _) | (with_reducible refine Kd.C_drewN ?_ _) | (with_reducible refine Kd.C_drew ?_))); (case side2 => exact HC0_0.out); rintro e w9 ⟨rfl, hb⟩; refine ⟨_, rfl, ?_⟩; have n0_ := Aside0.mk (blk_below (g := gb763) (o := .cells #[.slice A0_0 l0_0.length c0_0, .int .i64 a0_1, .int .i64 a0_2] 24 (0, 0)) (by (with_reducible repeat (first | refine blk_drewN ?_ _ | refine blk_drew ?_ | refine blk_alloc ?_ _)); exact BK763.out) hb); have n1_ := Aside0.mk (below_step (by repeat (first | (with_reducible first | exact HB.out | apply below_alloc | apply pw_below_drewN | apply below_drew1 | refine below_set ?_ GE763.out) | exact HB.out)) hb); clear BK763; clear HB; have BK763 := n0_; have HB := n1_; clear n0_ n1_; (try clear hb); (try clear hb2); (try clear hk); (try clear hi)))
   go_ret
   exact ⟨by first | rfl | (simp [errW_none, errW_some] <;> rfl) | (simp [*, errW_none, errW_some] <;> rfl), by repeat (first | (with_reducible first | exact HB.out | apply below_alloc | apply pw_below_drewN | apply below_drew1 | refine below_set ?_ GE763.out) | exact HB.out)⟩
  ·rw [if_neg c6] at H
   have c6b0 : decide (t764 < 0) = false := decide_eq_false c6
   clear c6
   replace H := Option.bind_eq_some_iff.mp H
   obtain ⟨⟨t765, t768, t769⟩, A100, H⟩ := H
   replace H : ((spec_FsCreate.f k t765 t768 t769 a1).bind fun bt770 => ((laws_toFS.f k l0_0 a0_1 a0_2).bind fun bt777 => ((impl_FsCreate.f bt777.1 bt777.2.1 bt777.2.2 a1).bind fun bt783 => ((laws_eqFS.f k bt783.1 bt783.2.1 bt783.2.2.1 bt770.1 bt770.2.1 bt770.2.2.1).bind fun t790 => (if t790 = true then (laws_FnExactFsCreate.j0 k a1 bt770.2.2.2 bt783.2.2.2 (bt783.2.2.2 != bt770.2.2.2) l0_0 a0_1 a0_2 bt770.1 bt770.2.1 bt770.2.2.1 bt777.1 bt777.2.1 bt777.2.2 bt783.1 bt783.2.1 bt783.2.2.1) else (laws_FnExactFsCreate.j0 k a1 bt770.2.2.2 bt783.2.2.2 true l0_0 a0_1 a0_2 bt770.1 bt770.2.1 bt770.2.2.1 bt777.1 bt777.2.1 bt777.2.2 bt783.1 bt783.2.1 bt783.2.2.1)))))) = some true := H
   have A10 := Aside0.mk A100
   clear A100
   replace H := Option.bind_eq_some_iff.mp H
   obtain ⟨⟨t770, t773, t774, t775⟩, A110, H⟩ := H
   replace H : ((laws_toFS.f k l0_0 a0_1 a0_2).bind fun bt777 => ((impl_FsCreate.f bt777.1 bt777.2.1 bt777.2.2 a1).bind fun bt783 => ((laws_eqFS.f k bt783.1 bt783.2.1 bt783.2.2.1 t770 t773 t774).bind fun t790 => (if t790 = true then (laws_FnExactFsCreate.j0 k a1 t775 bt783.2.2.2 (bt783.2.2.2 != t775) l0_0 a0_1 a0_2 t770 t773 t774 bt777.1 bt777.2.1 bt777.2.2 bt783.1 bt783.2.1 bt783.2.2.1) else (laws_FnExactFsCreate.j0 k a1 t775 bt783.2.2.2 true l0_0 a0_1 a0_2 t770 t773 t774 bt777.1 bt777.2.1 bt777.2.2 bt783.1 bt783.2.1 bt783.2.2.1))))) = some true := H
   have A11 := Aside0.mk A110
   clear A110
   replace H := Option.bind_eq_some_iff.mp H
   obtain ⟨⟨t777, t780, t781⟩, A120, H⟩ := H
   replace H : ((impl_FsCreate.f t777 t780 t781 a1).bind fun bt783 => ((laws_eqFS.f k bt783.1 bt783.2.1 bt783.2.2.1 t770 t773 t774).bind fun t790 => (if t790 = true then (laws_FnExactFsCreate.j0 k a1 t775 bt783.2.2.2 (bt783.2.2.2 != t775) l0_0 a0_1 a0_2 t770 t773 t774 t777 t780 t781 bt783.1 bt783.2.1 bt783.2.2.1) else (laws_FnExactFsCreate.j0 k a1 t775 bt783.2.2.2 true l0_0 a0_1 a0_2 t770 t773 t774 t777 t780 t781 bt783.1 bt783.2.1 bt783.2.2.1)))) = some true := H
   have A12 := Aside0.mk A120
   clear A120
   replace H := Option.bind_eq_some_iff.mp H
   obtain ⟨⟨t783, t786, t787, t788⟩, A130, H⟩ := H
   replace H : ((laws_eqFS.f k t783 t786 t787 t770 t773 t774).bind fun t790 => (if t790 = true then (laws_FnExactFsCreate.j0 k a1 t775 t788 (t788 != t775) l0_0 a0_1 a0_2 t770 t773 t774 t777 t780 t781 t783 t786 t787) else (laws_FnExactFsCreate.j0 k a1 t775 t788 true l0_0 a0_1 a0_2 t770 t773 t774 t777 t780 t781 t783 t786 t787))) = some true := H
   have A13 := Aside0.mk A130
   clear A130
   have HC14 := Aside0.mk H
   clear H
   go_enter Try.func10, Try.ntmps10
   go_upto_region 10 with (first | ((with_reducible refine gate_dst (N := 2) rfl ?_); refine box_event ?hg (N := 2) ?hd (cs := #[.slice A0_0 l0_0.length c0_0, .int .i64 a0_1, .int .i64 a0_2]) (t := 24) ?hr ?_; (case hd => rfl); (case hg => rfl); (case hr => first | (go_simp; done) | (go_simp; rfl)); intro gb763 hg w15 hbox hb; have n0_ := Aside0.mk (below_step (by repeat (first | (with_reducible first | exact HB.out | apply below_alloc | apply pw_below_drewN | apply below_drew1) | exact HB.out)) hb); have n1_ := Aside0.mk (hbox); have n2_ := Aside0.mk ((by rw [hg]; exact (below_size (by repeat (first | (with_reducible first | exact HB.out | apply below_alloc | apply pw_below_drewN | apply below_drew1) | exact HB.out))) : w.heap.size ≤ gb763)); have n3_ := Aside0.mk ((by rw [hg]; exact (below_size (by repeat (first | (with_reducible first | exact HB.out | apply below_alloc | apply pw_below_drewN | apply below_drew1) | exact HB.out))) : w.heap.size ≤ gb763)); clear HB; have HB := n0_; have BK763 := n1_; have GW763 := n2_; have GE763 := n3_; clear n0_ n1_ n2_ n3_; clear hb hbox hg; have hcz16_0 : w15.cell? ⟨gb763, 0, none⟩ = some (.slice A0_0 l0_0.length c0_0) := (blk_cell BK763.out 0).trans rfl; have hcz16_1 : w15.cell? ⟨gb763, 1, none⟩ = some (.int .i64 a0_1) := (blk_cell BK763.out 1).trans rfl; have hcz16_2 : w15.cell? ⟨gb763, 2, none⟩ = some (.int .i64 a0_2) := (blk_cell BK763.out 2).trans rfl; have hfz16_0 := blk_frozen BK763.out 0; have hfz16_1 := blk_frozen BK763.out 1; have hfz16_2 := blk_frozen BK763.out 2) | ((with_reducible refine gate_callee (f := 12) rfl ?_); refine goesL_ (some 21) rfl rfl Try.func12 (by kernel_rfl) rfl #[.agg #[.slice A0_0 l0_0.length c0_0, .int .i64 a0_1, .int .i64 a0_2], .int .i64 1048576] rfl (by (try simp only [List.map_toArray, List.map_cons, List.map_nil]); first | done | rfl | (simp only [List.length_drop, List.length_take]; rfl)) ?_; (with_reducible refine (laws_szFS.calls k _ _ l0_0 a0_1 a0_2 1048576 t764 _ ?side1 ?side2 A5.out).mono ?_); (case side1 => repeat (first | exact (Kd.C_below HR0_0.out HB.out) | (with_reducible refine Kd.C_alloc ?_ _) | (with_reducible refine Kd.C_drewN ?_ _) | (with_reducible refine Kd.C_drew ?_))); (case side2 => exact HC0_0.out); rintro e w17 ⟨rfl, hb⟩; refine ⟨_, rfl, ?_⟩; have n0_ := Aside0.mk (blk_below (g := gb763) (o := .cells #[.slice A0_0 l0_0.length c0_0, .int .i64 a0_1, .int .i64 a0_2] 24 (0, 0)) (by (with_reducible repeat (first | refine blk_drewN ?_ _ | refine blk_drew ?_ | refine blk_alloc ?_ _)); exact BK763.out) hb); have n1_ := Aside0.mk (below_step (by repeat (first | (with_reducible first | exact HB.out | apply below_alloc | apply pw_below_drewN | apply below_drew1 | refine below_set ?_ GE763.out) | exact HB.out)) hb); clear BK763; clear HB; have BK763 := n0_; have HB := n1_; clear n0_ n1_; (try clear hb); (try clear hb2); (try clear hk); (try clear hi); have hcz18_0 : w17.cell? ⟨gb763, 0, none⟩ = some (.slice A0_0 l0_0.length c0_0) := (blk_cell BK763.out 0).trans rfl; have hcz18_1 : w17.cell? ⟨gb763, 1, none⟩ = some (.int .i64 a0_1) := (blk_cell BK763.out 1).trans rfl; have hcz18_2 : w17.cell? ⟨gb763, 2, none⟩ = some (.int .i64 a0_2) := (blk_cell BK763.out 2).trans rfl; have hfz18_0 := blk_frozen BK763.out 0; have hfz18_1 := blk_frozen BK763.out 1; have hfz18_2 := blk_frozen BK763.out 2) | ((with_reducible refine gate_callee (f := 14) rfl ?_); refine goesL_ (some 26) rfl rfl Try.func14 (by kernel_rfl) rfl #[.agg #[.slice A0_0 l0_0.length c0_0, .int .i64 a0_1, .int .i64 a0_2]] rfl (by (try simp only [List.map_toArray, List.map_cons, List.map_nil]); first | done | rfl | (simp only [List.length_drop, List.length_take]; rfl)) ?_; (with_reducible refine (laws_toFS.calls k _ _ l0_0 a0_1 a0_2 t765 t768 t769 _ ?side1 ?side2 A10.out).mono ?_); (case side1 => repeat (first | exact (Kd.C_below HR0_0.out HB.out) | (with_reducible refine Kd.C_alloc ?_ _) | (with_reducible refine Kd.C_drewN ?_ _) | (with_reducible refine Kd.C_drew ?_))); (case side2 => exact HC0_0.out); rintro e w19 ⟨v766, rfl, ho0, hb⟩; refine ⟨_, rfl, ?_⟩; have n0_ := Aside0.mk (Kd.R_lower ho0 (below_size (by repeat (first | (with_reducible first | exact HB.out | apply below_alloc | apply pw_below_drewN | apply below_drew1 | refine below_set ?_ GE763.out) | exact HB.out)))); have n1_ := Aside0.mk (blk_below (g := gb763) (o := .cells #[.slice A0_0 l0_0.length c0_0, .int .i64 a0_1, .int .i64 a0_2] 24 (0, 0)) (by (with_reducible repeat (first | refine blk_drewN ?_ _ | refine blk_drew ?_ | refine blk_alloc ?_ _)); exact BK763.out) hb); have n2_ := Aside0.mk (below_step (by repeat (first | (with_reducible first | exact HB.out | apply below_alloc | apply pw_below_drewN | apply below_drew1 | refine below_set ?_ GE763.out) | exact HB.out)) hb); clear BK763; clear HB; have HO767 := n0_; have BK763 := n1_; have HB := n2_; clear n0_ n1_ n2_; (try clear hb); (try clear hb2); (try clear hk); (try clear hi); (try clear ho0); obtain ⟨Ao20, co20, eo20⟩ := Kd.R_slice HO767.out; subst eo20) | ((with_reducible refine gate_callee (f := 35) rfl ?_); refine goesL_ (some 28) rfl rfl Try.func35 (by kernel_rfl) rfl #[.agg #[.slice Ao20 t765.length co20, .int .i64 t768, .int .i64 t769], .string a1] rfl (by (try simp only [List.map_toArray, List.map_cons, List.map_nil]); first | done | rfl | (simp only [List.length_drop, List.length_take]; rfl)) ?_; (with_reducible refine (spec_FsCreate.calls k _ _ t765 t768 t769 a1 t770 t773 t774 t775 _ ?side1 ?side2 A11.out).mono ?_); (case side1 => repeat (first | exact (Kd.R_reads' HO767.out).2.2 | (with_reducible refine Kd.C_alloc ?_ _) | (with_reducible refine Kd.C_drewN ?_ _) | (with_reducible refine Kd.C_drew ?_))); (case side2 => exact (Kd.R_reads' HO767.out).2.1); rintro e w21 ⟨v771, rfl, ho0, hb⟩; refine ⟨_, rfl, ?_⟩; have n0_ := Aside0.mk (Kd.R_elder' (by (with_reducible repeat (first | apply Kd.R_alloc | apply Kd.R_drewN | apply Kd.R_drew)); exact HO767.out) (Kd.R_base ho0) hb); have n1_ := Aside0.mk (Kd.R_lower (Kd.R_new' ho0 (Kd.R_lt (by (with_reducible repeat (first | apply Kd.R_alloc | apply Kd.R_drewN | apply Kd.R_drew)); exact HO767.out))) (below_size (by repeat (first | (with_reducible first | exact HB.out | apply below_alloc | apply pw_below_drewN | apply below_drew1 | refine below_set ?_ GE763.out) | exact HB.out)))); have n2_ := Aside0.mk (blk_below (g := gb763) (o := .cells #[.slice A0_0 l0_0.length c0_0, .int .i64 a0_1, .int .i64 a0_2] 24 (0, 0)) (by (with_reducible repeat (first | refine blk_drewN ?_ _ | refine blk_drew ?_ | refine blk_alloc ?_ _)); exact BK763.out) hb); have n3_ := Aside0.mk (below_step (by repeat (first | (with_reducible first | exact HB.out | apply below_alloc | apply pw_below_drewN | apply below_drew1 | refine below_set ?_ GE763.out) | exact HB.out)) hb); clear HO767; clear BK763; clear HB; have HO767 := n0_; have HO772 := n1_; have BK763 := n2_; have HB := n3_; clear n0_ n1_ n2_ n3_; (try clear hb); (try clear hb2); (try clear hk); (try clear hi); (try clear ho0)) | ((with_reducible refine gate_dst (N := 6) rfl ?_); refine box_event ?hg (N := 6) ?hd (cs := #[.slice none 0 0, .int .i64 0, .int .i64 0]) (t := 29) ?hr ?_; (case hd => rfl); (case hg => rfl); (case hr => first | (go_simp; done) | (go_simp; rfl)); intro gb776 hg w22 hbox hb; have n0_ := Aside0.mk (Kd.R_below (by (with_reducible repeat (first | apply Kd.R_alloc | apply Kd.R_drewN | apply Kd.R_drew)); exact HO767.out) hb); have n1_ := Aside0.mk (Kd.R_below (by (with_reducible repeat (first | apply Kd.R_alloc | apply Kd.R_drewN | apply Kd.R_drew)); exact HO772.out) hb); have n2_ := Aside0.mk (blk_below (g := gb763) (o := .cells #[.slice A0_0 l0_0.length c0_0, .int .i64 a0_1, .int .i64 a0_2] 24 (0, 0)) (by (with_reducible repeat (first | refine blk_drewN ?_ _ | refine blk_drew ?_ | refine blk_alloc ?_ _)); exact BK763.out) hb); have n3_ := Aside0.mk (below_step (by repeat (first | (with_reducible first | exact HB.out | apply below_alloc | apply pw_below_drewN | apply below_drew1 | refine below_set ?_ GE763.out) | exact HB.out)) hb); have n4_ := Aside0.mk (hbox); have n5_ := Aside0.mk ((by rw [hg]; exact (below_size (by repeat (first | (with_reducible first | exact HB.out | apply below_alloc | apply pw_below_drewN | apply below_drew1 | refine below_set ?_ GE763.out) | exact HB.out))) : w.heap.size ≤ gb776)); have n6_ := Aside0.mk ((by rw [hg]; exact (below_size (by repeat (first | (with_reducible first | exact HB.out | apply below_alloc | apply pw_below_drewN | apply below_drew1 | refine below_set ?_ GE763.out) | exact HB.out))) : w.heap.size ≤ gb776)); have n7_ := Aside0.mk ((by rw [hg]; exact Nat.ne_of_lt (blk_lt (g := gb763) (o := .cells #[.slice A0_0 l0_0.length c0_0, .int .i64 a0_1, .int .i64 a0_2] 24 (0, 0)) (by (with_reducible repeat (first | refine blk_drewN ?_ _ | refine blk_drew ?_ | refine blk_alloc ?_ _)); exact BK763.out)) : gb763 ≠ gb776)); have n8_ := Aside0.mk ((by rw [hg]; exact Nat.ne_of_gt (blk_lt (g := gb763) (o := .cells #[.slice A0_0 l0_0.length c0_0, .int .i64 a0_1, .int .i64 a0_2] 24 (0, 0)) (by (with_reducible repeat (first | refine blk_drewN ?_ _ | refine blk_drew ?_ | refine blk_alloc ?_ _)); exact BK763.out)) : gb776 ≠ gb763)); clear HO767; clear HO772; clear BK763; clear HB; have HO767 := n0_; have HO772 := n1_; have BK763 := n2_; have HB := n3_; have BK776 := n4_; have GW776 := n5_; have GE776 := n6_; have NB763_776 := n7_; have NB776_763 := n8_; clear n0_ n1_ n2_ n3_ n4_ n5_ n6_ n7_ n8_; clear hb hbox hg; obtain ⟨Ao23, co23, eo23⟩ := Kd.R_slice HO772.out; subst eo23; have hnb24 := NB776_763.out; have hnc24 := NB763_776.out; have hcz25_0 : w22.cell? ⟨gb776, 0, none⟩ = some (.slice none 0 0) := (blk_cell BK776.out 0).trans rfl; have hcz25_1 : w22.cell? ⟨gb776, 1, none⟩ = some (.int .i64 0) := (blk_cell BK776.out 1).trans rfl; have hcz25_2 : w22.cell? ⟨gb776, 2, none⟩ = some (.int .i64 0) := (blk_cell BK776.out 2).trans rfl; have hfz25_0 := blk_frozen BK776.out 0; have hfz25_1 := blk_frozen BK776.out 1; have hfz25_2 := blk_frozen BK776.out 2; have hcz26_0 : w22.cell? ⟨gb763, 0, none⟩ = some (.slice A0_0 l0_0.length c0_0) := (blk_cell BK763.out 0).trans rfl; have hcz26_1 : w22.cell? ⟨gb763, 1, none⟩ = some (.int .i64 a0_1) := (blk_cell BK763.out 1).trans rfl; have hcz26_2 : w22.cell? ⟨gb763, 2, none⟩ = some (.int .i64 a0_2) := (blk_cell BK763.out 2).trans rfl; have hfz26_0 := blk_frozen BK763.out 0; have hfz26_1 := blk_frozen BK763.out 1; have hfz26_2 := blk_frozen BK763.out 2) | ((with_reducible refine gate_callee (f := 14) rfl ?_); refine goesL_ (some 32) rfl rfl Try.func14 (by kernel_rfl) rfl #[.agg #[.slice A0_0 l0_0.length c0_0, .int .i64 a0_1, .int .i64 a0_2]] rfl (by (try simp only [List.map_toArray, List.map_cons, List.map_nil]); first | done | rfl | (simp only [List.length_drop, List.length_take]; rfl)) ?_; (with_reducible refine (laws_toFS.calls k _ _ l0_0 a0_1 a0_2 t777 t780 t781 _ ?side1 ?side2 A12.out).mono ?_); (case side1 => exact Kd.C_below HR0_0.out (by repeat (first | (with_reducible first | exact HB.out | apply below_alloc | apply pw_below_drewN | apply below_drew1 | refine below_set ?_ GE763.out | refine below_set ?_ GE776.out) | exact HB.out))); (case side2 => exact HC0_0.out); rintro e w27 ⟨v778, rfl, ho0, hb⟩; refine ⟨_, rfl, ?_⟩; have n0_ := Aside0.mk (Kd.R_elder' (by (with_reducible repeat (first | apply Kd.R_alloc | apply Kd.R_drewN | apply Kd.R_drew)); exact (Kd.R_mono (Kd.R_far (p := ⟨gb776, 2, none⟩) (Kd.R_far (p := ⟨gb776, 1, none⟩) (Kd.R_far (p := ⟨gb776, 0, none⟩) (Kd.R_types HO767.out BK776.out (by decide)) (fun _ hk => hk.2) (.slice Ao23 t770.length co23)) (fun _ hk => hk.2) (.int .i64 t773)) (fun _ hk => hk.2) (.int .i64 t774)) (fun _ h_ => h_.1))) (Kd.R_base ho0) hb); have n1_ := Aside0.mk (Kd.R_elder' (by (with_reducible repeat (first | apply Kd.R_alloc | apply Kd.R_drewN | apply Kd.R_drew)); exact (Kd.R_mono (Kd.R_far (p := ⟨gb776, 2, none⟩) (Kd.R_far (p := ⟨gb776, 1, none⟩) (Kd.R_far (p := ⟨gb776, 0, none⟩) (Kd.R_types HO772.out BK776.out (by decide)) (fun _ hk => hk.2) (.slice Ao23 t770.length co23)) (fun _ hk => hk.2) (.int .i64 t773)) (fun _ hk => hk.2) (.int .i64 t774)) (fun _ h_ => h_.1))) (Kd.R_base ho0) hb); have n2_ := Aside0.mk (Kd.R_lower (Kd.R_new' (Kd.R_new' ho0 (Kd.R_lt (by (with_reducible repeat (first | apply Kd.R_alloc | apply Kd.R_drewN | apply Kd.R_drew)); exact (Kd.R_mono (Kd.R_far (p := ⟨gb776, 2, none⟩) (Kd.R_far (p := ⟨gb776, 1, none⟩) (Kd.R_far (p := ⟨gb776, 0, none⟩) (Kd.R_types HO767.out BK776.out (by decide)) (fun _ hk => hk.2) (.slice Ao23 t770.length co23)) (fun _ hk => hk.2) (.int .i64 t773)) (fun _ hk => hk.2) (.int .i64 t774)) (fun _ h_ => h_.1))))) (Kd.R_lt (by (with_reducible repeat (first | apply Kd.R_alloc | apply Kd.R_drewN | apply Kd.R_drew)); exact (Kd.R_mono (Kd.R_far (p := ⟨gb776, 2, none⟩) (Kd.R_far (p := ⟨gb776, 1, none⟩) (Kd.R_far (p := ⟨gb776, 0, none⟩) (Kd.R_types HO772.out BK776.out (by decide)) (fun _ hk => hk.2) (.slice Ao23 t770.length co23)) (fun _ hk => hk.2) (.int .i64 t773)) (fun _ hk => hk.2) (.int .i64 t774)) (fun _ h_ => h_.1))))) (below_size (by repeat (first | (with_reducible first | exact HB.out | apply below_alloc | apply pw_below_drewN | apply below_drew1 | refine below_set ?_ GE763.out | refine below_set ?_ GE776.out) | exact HB.out)))); have n3_ := Aside0.mk (blk_below (g := gb763) (o := .cells #[.slice A0_0 l0_0.length c0_0, .int .i64 a0_1, .int .i64 a0_2] 24 (0, 0)) (by (with_reducible repeat (first | refine blk_drewN ?_ _ | refine blk_drew ?_ | refine blk_alloc ?_ _)); refine blk_far ?_ NB763_776.out _; (with_reducible repeat (first | refine blk_drewN ?_ _ | refine blk_drew ?_ | refine blk_alloc ?_ _)); refine blk_far ?_ NB763_776.out _; (with_reducible repeat (first | refine blk_drewN ?_ _ | refine blk_drew ?_ | refine blk_alloc ?_ _)); refine blk_far ?_ NB763_776.out _; (with_reducible repeat (first | refine blk_drewN ?_ _ | refine blk_drew ?_ | refine blk_alloc ?_ _)); exact BK763.out) hb); have n4_ := Aside0.mk (blk_below (g := gb776) (o := .cells #[.slice Ao23 t770.length co23, .int .i64 t773, .int .i64 t774] 29 (0, 0)) (by (with_reducible repeat (first | refine blk_drewN ?_ _ | refine blk_drew ?_ | refine blk_alloc ?_ _)); refine blk_put (cs := #[.slice Ao23 t770.length co23, .int .i64 t773, .int .i64 0]) ?_ 2 _ rfl; (with_reducible repeat (first | refine blk_drewN ?_ _ | refine blk_drew ?_ | refine blk_alloc ?_ _)); refine blk_put (cs := #[.slice Ao23 t770.length co23, .int .i64 0, .int .i64 0]) ?_ 1 _ rfl; (with_reducible repeat (first | refine blk_drewN ?_ _ | refine blk_drew ?_ | refine blk_alloc ?_ _)); refine blk_put (cs := #[.slice none 0 0, .int .i64 0, .int .i64 0]) ?_ 0 _ rfl; (with_reducible repeat (first | refine blk_drewN ?_ _ | refine blk_drew ?_ | refine blk_alloc ?_ _)); exact BK776.out) hb); have n5_ := Aside0.mk (below_step (by repeat (first | (with_reducible first | exact HB.out | apply below_alloc | apply pw_below_drewN | apply below_drew1 | refine below_set ?_ GE763.out | refine below_set ?_ GE776.out) | exact HB.out)) hb); clear HO767; clear HO772; clear BK763; clear BK776; clear HB; have HO767 := n0_; have HO772 := n1_; have HO779 := n2_; have BK763 := n3_; have BK776 := n4_; have HB := n5_; clear n0_ n1_ n2_ n3_ n4_ n5_; (try clear hb); (try clear hb2); (try clear hk); (try clear hi); (try clear ho0)) | ((with_reducible refine gate_dst (N := 8) rfl ?_); refine box_event ?hg (N := 8) ?hd (cs := #[.slice none 0 0, .int .i64 0, .int .i64 0]) (t := 29) ?hr ?_; (case hd => rfl); (case hg => rfl); (case hr => first | (go_simp; done) | (go_simp; rfl)); intro gb782 hg w28 hbox hb; have n0_ := Aside0.mk (Kd.R_below (by (with_reducible repeat (first | apply Kd.R_alloc | apply Kd.R_drewN | apply Kd.R_drew)); exact HO767.out) hb); have n1_ := Aside0.mk (Kd.R_below (by (with_reducible repeat (first | apply Kd.R_alloc | apply Kd.R_drewN | apply Kd.R_drew)); exact HO772.out) hb); have n2_ := Aside0.mk (Kd.R_below (by (with_reducible repeat (first | apply Kd.R_alloc | apply Kd.R_drewN | apply Kd.R_drew)); exact HO779.out) hb); have n3_ := Aside0.mk (blk_below (g := gb763) (o := .cells #[.slice A0_0 l0_0.length c0_0, .int .i64 a0_1, .int .i64 a0_2] 24 (0, 0)) (by (with_reducible repeat (first | refine blk_drewN ?_ _ | refine blk_drew ?_ | refine blk_alloc ?_ _)); exact BK763.out) hb); have n4_ := Aside0.mk (blk_below (g := gb776) (o := .cells #[.slice Ao23 t770.length co23, .int .i64 t773, .int .i64 t774] 29 (0, 0)) (by (with_reducible repeat (first | refine blk_drewN ?_ _ | refine blk_drew ?_ | refine blk_alloc ?_ _)); exact BK776.out) hb); have n5_ := Aside0.mk (below_step (by repeat (first | (with_reducible first | exact HB.out | apply below_alloc | apply pw_below_drewN | apply below_drew1 | refine below_set ?_ GE763.out | refine below_set ?_ GE776.out) | exact HB.out)) hb); have n6_ := Aside0.mk (hbox); have n7_ := Aside0.mk ((by rw [hg]; exact (below_size (by repeat (first | (with_reducible first | exact HB.out | apply below_alloc | apply pw_below_drewN | apply below_drew1 | refine below_set ?_ GE763.out | refine below_set ?_ GE776.out) | exact HB.out))) : w.heap.size ≤ gb782)); have n8_ := Aside0.mk ((by rw [hg]; exact (below_size (by repeat (first | (with_reducible first | exact HB.out | apply below_alloc | apply pw_below_drewN | apply below_drew1 | refine below_set ?_ GE763.out | refine below_set ?_ GE776.out) | exact HB.out))) : w.heap.size ≤ gb782)); have n9_ := Aside0.mk ((by rw [hg]; exact Nat.ne_of_lt (blk_lt (g := gb763) (o := .cells #[.slice A0_0 l0_0.length c0_0, .int .i64 a0_1, .int .i64 a0_2] 24 (0, 0)) (by (with_reducible repeat (first | refine blk_drewN ?_ _ | refine blk_drew ?_ | refine blk_alloc ?_ _)); exact BK763.out)) : gb763 ≠ gb782)); have n10_ := Aside0.mk ((by rw [hg]; exact Nat.ne_of_gt (blk_lt (g := gb763) (o := .cells #[.slice A0_0 l0_0.length c0_0, .int .i64 a0_1, .int .i64 a0_2] 24 (0, 0)) (by (with_reducible repeat (first | refine blk_drewN ?_ _ | refine blk_drew ?_ | refine blk_alloc ?_ _)); exact BK763.out)) : gb782 ≠ gb763)); have n11_ := Aside0.mk ((by rw [hg]; exact Nat.ne_of_lt (blk_lt (g := gb776) (o := .cells #[.slice Ao23 t770.length co23, .int .i64 t773, .int .i64 t774] 29 (0, 0)) (by (with_reducible repeat (first | refine blk_drewN ?_ _ | refine blk_drew ?_ | refine blk_alloc ?_ _)); exact BK776.out)) : gb776 ≠ gb782)); have n12_ := Aside0.mk ((by rw [hg]; exact Nat.ne_of_gt (blk_lt (g := gb776) (o := .cells #[.slice Ao23 t770.length co23, .int .i64 t773, .int .i64 t774] 29 (0, 0)) (by (with_reducible repeat (first | refine blk_drewN ?_ _ | refine blk_drew ?_ | refine blk_alloc ?_ _)); exact BK776.out)) : gb782 ≠ gb776)); clear HO767; clear HO772; clear HO779; clear BK763; clear BK776; clear HB; have HO767 := n0_; have HO772 := n1_; have HO779 := n2_; have BK763 := n3_; have BK776 := n4_; have HB := n5_; have BK782 := n6_; have GW782 := n7_; have GE782 := n8_; have NB763_782 := n9_; have NB782_763 := n10_; have NB776_782 := n11_; have NB782_776 := n12_; clear n0_ n1_ n2_ n3_ n4_ n5_ n6_ n7_ n8_ n9_ n10_ n11_ n12_; clear hb hbox hg; obtain ⟨Ao29, co29, eo29⟩ := Kd.R_slice HO779.out; subst eo29; have hnb30 := NB782_763.out; have hnc30 := NB763_782.out; have hnb31 := NB782_776.out; have hnc31 := NB776_782.out; have hcz32_0 : w28.cell? ⟨gb782, 0, none⟩ = some (.slice none 0 0) := (blk_cell BK782.out 0).trans rfl; have hcz32_1 : w28.cell? ⟨gb782, 1, none⟩ = some (.int .i64 0) := (blk_cell BK782.out 1).trans rfl; have hcz32_2 : w28.cell? ⟨gb782, 2, none⟩ = some (.int .i64 0) := (blk_cell BK782.out 2).trans rfl; have hfz32_0 := blk_frozen BK782.out 0; have hfz32_1 := blk_frozen BK782.out 1; have hfz32_2 := blk_frozen BK782.out 2) | ((with_reducible refine gate_callee (f := 36) rfl ?_); refine goesL_ (some 36) rfl rfl Try.func36 (by kernel_rfl) rfl #[.agg #[.slice Ao29 t777.length co29, .int .i64 t780, .int .i64 t781], .string a1] rfl (by (try simp only [List.map_toArray, List.map_cons, List.map_nil]); first | done | rfl | (simp only [List.length_drop, List.length_take]; rfl)) ?_; (with_reducible refine (impl_FsCreate.calls _ _ t777 t780 t781 a1 t783 t786 t787 t788 _ ?side1 ?side2 A13.out).mono ?_); (case side1 => refine (Kd.R_reads' (e := 52) (base := w.heap.size) (ok := fun k_ => ((True ∧ some k_ ≠ (.slice Ao20 t765.length co20 : Value).ownBlock) ∧ some k_ ≠ (.slice Ao23 t770.length co23 : Value).ownBlock)) (n := t777.length) (c := co29) ?_).2.2; exact (by (with_reducible repeat (first | apply Kd.R_alloc | apply Kd.R_drewN | apply Kd.R_drew)); exact (Kd.R_mono (Kd.R_far (p := ⟨gb782, 2, none⟩) (Kd.R_far (p := ⟨gb782, 1, none⟩) (Kd.R_far (p := ⟨gb782, 0, none⟩) (Kd.R_types HO779.out BK782.out (by decide)) (fun _ hk => hk.2) (.slice Ao29 t777.length co29)) (fun _ hk => hk.2) (.int .i64 t780)) (fun _ hk => hk.2) (.int .i64 t781)) (fun _ h_ => h_.1)))); (case side2 => exact (Kd.R_reads' HO779.out).2.1); rintro e w33 ⟨v784, rfl, ho0, hb⟩; refine ⟨_, rfl, ?_⟩; have n0_ := Aside0.mk (Kd.R_elder' (by (with_reducible repeat (first | apply Kd.R_alloc | apply Kd.R_drewN | apply Kd.R_drew)); exact (Kd.R_mono (Kd.R_far (p := ⟨gb782, 2, none⟩) (Kd.R_far (p := ⟨gb782, 1, none⟩) (Kd.R_far (p := ⟨gb782, 0, none⟩) (Kd.R_types HO767.out BK782.out (by decide)) (fun _ hk => hk.2) (.slice Ao29 t777.length co29)) (fun _ hk => hk.2) (.int .i64 t780)) (fun _ hk => hk.2) (.int .i64 t781)) (fun _ h_ => h_.1))) (Kd.R_base ho0) hb); have n1_ := Aside0.mk (Kd.R_elder' (by (with_reducible repeat (first | apply Kd.R_alloc | apply Kd.R_drewN | apply Kd.R_drew)); exact (Kd.R_mono (Kd.R_far (p := ⟨gb782, 2, none⟩) (Kd.R_far (p := ⟨gb782, 1, none⟩) (Kd.R_far (p := ⟨gb782, 0, none⟩) (Kd.R_types HO772.out BK782.out (by decide)) (fun _ hk => hk.2) (.slice Ao29 t777.length co29)) (fun _ hk => hk.2) (.int .i64 t780)) (fun _ hk => hk.2) (.int .i64 t781)) (fun _ h_ => h_.1))) (Kd.R_base ho0) hb); have n2_ := Aside0.mk (Kd.R_elder' (by (with_reducible repeat (first | apply Kd.R_alloc | apply Kd.R_drewN | apply Kd.R_drew)); exact (Kd.R_mono (Kd.R_far (p := ⟨gb782, 2, none⟩) (Kd.R_far (p := ⟨gb782, 1, none⟩) (Kd.R_far (p := ⟨gb782, 0, none⟩) (Kd.R_types HO779.out BK782.out (by decide)) (fun _ hk => hk.2) (.slice Ao29 t777.length co29)) (fun _ hk => hk.2) (.int .i64 t780)) (fun _ hk => hk.2) (.int .i64 t781)) (fun _ h_ => h_.1))) (Kd.R_base ho0) hb); have n3_ := Aside0.mk (Kd.R_lower (Kd.R_new' (Kd.R_new' (Kd.R_new' ho0 (Kd.R_lt (by (with_reducible repeat (first | apply Kd.R_alloc | apply Kd.R_drewN | apply Kd.R_drew)); exact (Kd.R_mono (Kd.R_far (p := ⟨gb782, 2, none⟩) (Kd.R_far (p := ⟨gb782, 1, none⟩) (Kd.R_far (p := ⟨gb782, 0, none⟩) (Kd.R_types HO767.out BK782.out (by decide)) (fun _ hk => hk.2) (.slice Ao29 t777.length co29)) (fun _ hk => hk.2) (.int .i64 t780)) (fun _ hk => hk.2) (.int .i64 t781)) (fun _ h_ => h_.1))))) (Kd.R_lt (by (with_reducible repeat (first | apply Kd.R_alloc | apply Kd.R_drewN | apply Kd.R_drew)); exact (Kd.R_mono (Kd.R_far (p := ⟨gb782, 2, none⟩) (Kd.R_far (p := ⟨gb782, 1, none⟩) (Kd.R_far (p := ⟨gb782, 0, none⟩) (Kd.R_types HO772.out BK782.out (by decide)) (fun _ hk => hk.2) (.slice Ao29 t777.length co29)) (fun _ hk => hk.2) (.int .i64 t780)) (fun _ hk => hk.2) (.int .i64 t781)) (fun _ h_ => h_.1))))) (Kd.R_lt (by (with_reducible repeat (first | apply Kd.R_alloc | apply Kd.R_drewN | apply Kd.R_drew)); exact (Kd.R_mono (Kd.R_far (p := ⟨gb782, 2, none⟩) (Kd.R_far (p := ⟨gb782, 1, none⟩) (Kd.R_far (p := ⟨gb782, 0, none⟩) (Kd.R_types HO779.out BK782.out (by decide)) (fun _ hk => hk.2) (.slice Ao29 t777.length co29)) (fun _ hk => hk.2) (.int .i64 t780)) (fun _ hk => hk.2) (.int .i64 t781)) (fun _ h_ => h_.1))))) (below_size (by repeat (first | (with_reducible first | exact HB.out | apply below_alloc | apply pw_below_drewN | apply below_drew1 | refine below_set ?_ GE763.out | refine below_set ?_ GE776.out | refine below_set ?_ GE782.out) | exact HB.out)))); have n4_ := Aside0.mk (blk_below (g := gb763) (o := .cells #[.slice A0_0 l0_0.length c0_0, .int .i64 a0_1, .int .i64 a0_2] 24 (0, 0)) (by (with_reducible repeat (first | refine blk_drewN ?_ _ | refine blk_drew ?_ | refine blk_alloc ?_ _)); refine blk_far ?_ NB763_782.out _; (with_reducible repeat (first | refine blk_drewN ?_ _ | refine blk_drew ?_ | refine blk_alloc ?_ _)); refine blk_far ?_ NB763_782.out _; (with_reducible repeat (first | refine blk_drewN ?_ _ | refine blk_drew ?_ | refine blk_alloc ?_ _)); refine blk_far ?_ NB763_782.out _; (with_reducible repeat (first | refine blk_drewN ?_ _ | refine blk_drew ?_ | refine blk_alloc ?_ _)); exact BK763.out) hb); have n5_ := Aside0.mk (blk_below (g := gb776) (o := .cells #[.slice Ao23 t770.length co23, .int .i64 t773, .int .i64 t774] 29 (0, 0)) (by (with_reducible repeat (first | refine blk_drewN ?_ _ | refine blk_drew ?_ | refine blk_alloc ?_ _)); refine blk_far ?_ NB776_782.out _; (with_reducible repeat (first | refine blk_drewN ?_ _ | refine blk_drew ?_ | refine blk_alloc ?_ _)); refine blk_far ?_ NB776_782.out _; (with_reducible repeat (first | refine blk_drewN ?_ _ | refine blk_drew ?_ | refine blk_alloc ?_ _)); refine blk_far ?_ NB776_782.out _; (with_reducible repeat (first | refine blk_drewN ?_ _ | refine blk_drew ?_ | refine blk_alloc ?_ _)); exact BK776.out) hb); have n6_ := Aside0.mk (blk_below (g := gb782) (o := .cells #[.slice Ao29 t777.length co29, .int .i64 t780, .int .i64 t781] 29 (0, 0)) (by (with_reducible repeat (first | refine blk_drewN ?_ _ | refine blk_drew ?_ | refine blk_alloc ?_ _)); refine blk_put (cs := #[.slice Ao29 t777.length co29, .int .i64 t780, .int .i64 0]) ?_ 2 _ rfl; (with_reducible repeat (first | refine blk_drewN ?_ _ | refine blk_drew ?_ | refine blk_alloc ?_ _)); refine blk_put (cs := #[.slice Ao29 t777.length co29, .int .i64 0, .int .i64 0]) ?_ 1 _ rfl; (with_reducible repeat (first | refine blk_drewN ?_ _ | refine blk_drew ?_ | refine blk_alloc ?_ _)); refine blk_put (cs := #[.slice none 0 0, .int .i64 0, .int .i64 0]) ?_ 0 _ rfl; (with_reducible repeat (first | refine blk_drewN ?_ _ | refine blk_drew ?_ | refine blk_alloc ?_ _)); exact BK782.out) hb); have n7_ := Aside0.mk (below_step (by repeat (first | (with_reducible first | exact HB.out | apply below_alloc | apply pw_below_drewN | apply below_drew1 | refine below_set ?_ GE763.out | refine below_set ?_ GE776.out | refine below_set ?_ GE782.out) | exact HB.out)) hb); clear HO767; clear HO772; clear HO779; clear BK763; clear BK776; clear BK782; clear HB; have HO767 := n0_; have HO772 := n1_; have HO779 := n2_; have HO785 := n3_; have BK763 := n4_; have BK776 := n5_; have BK782 := n6_; have HB := n7_; clear n0_ n1_ n2_ n3_ n4_ n5_ n6_ n7_; (try clear hb); (try clear hb2); (try clear hk); (try clear hi); (try clear ho0)) | ((with_reducible refine gate_dst (N := 9) rfl ?_); refine box_event ?hg (N := 9) ?hd (cs := #[.slice none 0 0, .int .i64 0, .int .i64 0]) (t := 29) ?hr ?_; (case hd => rfl); (case hg => rfl); (case hr => first | (go_simp; done) | (go_simp; rfl)); intro gb789 hg w34 hbox hb; have n0_ := Aside0.mk (Kd.R_below (by (with_reducible repeat (first | apply Kd.R_alloc | apply Kd.R_drewN | apply Kd.R_drew)); exact HO767.out) hb); have n1_ := Aside0.mk (Kd.R_below (by (with_reducible repeat (first | apply Kd.R_alloc | apply Kd.R_drewN | apply Kd.R_drew)); exact HO772.out) hb); have n2_ := Aside0.mk (Kd.R_below (by (with_reducible repeat (first | apply Kd.R_alloc | apply Kd.R_drewN | apply Kd.R_drew)); exact HO779.out) hb); have n3_ := Aside0.mk (Kd.R_below (by (with_reducible repeat (first | apply Kd.R_alloc | apply Kd.R_drewN | apply Kd.R_drew)); exact HO785.out) hb); have n4_ := Aside0.mk (blk_below (g := gb763) (o := .cells #[.slice A0_0 l0_0.length c0_0, .int .i64 a0_1, .int .i64 a0_2] 24 (0, 0)) (by (with_reducible repeat (first | refine blk_drewN ?_ _ | refine blk_drew ?_ | refine blk_alloc ?_ _)); exact BK763.out) hb); have n5_ := Aside0.mk (blk_below (g := gb776) (o := .cells #[.slice Ao23 t770.length co23, .int .i64 t773, .int .i64 t774] 29 (0, 0)) (by (with_reducible repeat (first | refine blk_drewN ?_ _ | refine blk_drew ?_ | refine blk_alloc ?_ _)); exact BK776.out) hb); have n6_ := Aside0.mk (blk_below (g := gb782) (o := .cells #[.slice Ao29 t777.length co29, .int .i64 t780, .int .i64 t781] 29 (0, 0)) (by (with_reducible repeat (first | refine blk_drewN ?_ _ | refine blk_drew ?_ | refine blk_alloc ?_ _)); exact BK782.out) hb); have n7_ := Aside0.mk (below_step (by repeat (first | (with_reducible first | exact HB.out | apply below_alloc | apply pw_below_drewN | apply below_drew1 | refine below_set ?_ GE763.out | refine below_set ?_ GE776.out | refine below_set ?_ GE782.out) | exact HB.out)) hb); have n8_ := Aside0.mk (hbox); have n9_ := Aside0.mk ((by rw [hg]; exact (below_size (by repeat (first | (with_reducible first | exact HB.out | apply below_alloc | apply pw_below_drewN | apply below_drew1 | refine below_set ?_ GE763.out | refine below_set ?_ GE776.out | refine below_set ?_ GE782.out) | exact HB.out))) : w.heap.size ≤ gb789)); have n10_ := Aside0.mk ((by rw [hg]; exact (below_size (by repeat (first | (with_reducible first | exact HB.out | apply below_alloc | apply pw_below_drewN | apply below_drew1 | refine below_set ?_ GE763.out | refine below_set ?_ GE776.out | refine below_set ?_ GE782.out) | exact HB.out))) : w.heap.size ≤ gb789)); have n11_ := Aside0.mk ((by rw [hg]; exact Nat.ne_of_lt (blk_lt (g := gb763) (o := .cells #[.slice A0_0 l0_0.length c0_0, .int .i64 a0_1, .int .i64 a0_2] 24 (0, 0)) (by (with_reducible repeat (first | refine blk_drewN ?_ _ | refine blk_drew ?_ | refine blk_alloc ?_ _)); exact BK763.out)) : gb763 ≠ gb789)); have n12_ := Aside0.mk ((by rw [hg]; exact Nat.ne_of_gt (blk_lt (g := gb763) (o := .cells #[.slice A0_0 l0_0.length c0_0, .int .i64 a0_1, .int .i64 a0_2] 24 (0, 0)) (by (with_reducible repeat (first | refine blk_drewN ?_ _ | refine blk_drew ?_ | refine blk_alloc ?_ _)); exact BK763.out)) : gb789 ≠ gb763)); have n13_ := Aside0.mk ((by rw [hg]; exact Nat.ne_of_lt (blk_lt (g := gb776) (o := .cells #[.slice Ao23 t770.length co23, .int .i64 t773, .int .i64 t774] 29 (0, 0)) (by (with_reducible repeat (first | refine blk_drewN ?_ _ | refine blk_drew ?_ | refine blk_alloc ?_ _)); exact BK776.out)) : gb776 ≠ gb789)); have n14_ := Aside0.mk ((by rw [hg]; exact Nat.ne_of_gt (blk_lt (g := gb776) (o := .cells #[.slice Ao23 t770.length co23, .int .i64 t773, .int .i64 t774] 29 (0, 0)) (by (with_reducible repeat (first | refine blk_drewN ?_ _ | refine blk_drew ?_ | refine blk_alloc ?_ _)); exact BK776.out)) : gb789 ≠ gb776)); have n15_ := Aside0.mk ((by rw [hg]; exact Nat.ne_of_lt (blk_lt (g := gb782) (o := .cells #[.slice Ao29 t777.length co29, .int .i64 t780, .int .i64 t781] 29 (0, 0)) (by (with_reducible repeat (first | refine blk_drewN ?_ _ | refine blk_drew ?_ | refine blk_alloc ?_ _)); exact BK782.out)) : gb782 ≠ gb789)); have n16_ := Aside0.mk ((by rw [hg]; exact Nat.ne_of_gt (blk_lt (g := gb782) (o := .cells #[.slice Ao29 t777.length co29, .int .i64 t780, .int .i64 t781] 29 (0, 0)) (by (with_reducible repeat (first | refine blk_drewN ?_ _ | refine blk_drew ?_ | refine blk_alloc ?_ _)); exact BK782.out)) : gb789 ≠ gb782)); clear HO767; clear HO772; clear HO779; clear HO785; clear BK763; clear BK776; clear BK782; clear HB; have HO767 := n0_; have HO772 := n1_; have HO779 := n2_; have HO785 := n3_; have BK763 := n4_; have BK776 := n5_; have BK782 := n6_; have HB := n7_; have BK789 := n8_; have GW789 := n9_; have GE789 := n10_; have NB763_789 := n11_; have NB789_763 := n12_; have NB776_789 := n13_; have NB789_776 := n14_; have NB782_789 := n15_; have NB789_782 := n16_; clear n0_ n1_ n2_ n3_ n4_ n5_ n6_ n7_ n8_ n9_ n10_ n11_ n12_ n13_ n14_ n15_ n16_; clear hb hbox hg; obtain ⟨Ao35, co35, eo35⟩ := Kd.R_slice HO785.out; subst eo35; have hnb36 := NB789_763.out; have hnc36 := NB763_789.out; have hnb37 := NB789_776.out; have hnc37 := NB776_789.out; have hnb38 := NB789_782.out; have hnc38 := NB782_789.out; have hcz39_0 : w34.cell? ⟨gb789, 0, none⟩ = some (.slice none 0 0) := (blk_cell BK789.out 0).trans rfl; have hcz39_1 : w34.cell? ⟨gb789, 1, none⟩ = some (.int .i64 0) := (blk_cell BK789.out 1).trans rfl; have hcz39_2 : w34.cell? ⟨gb789, 2, none⟩ = some (.int .i64 0) := (blk_cell BK789.out 2).trans rfl; have hfz39_0 := blk_frozen BK789.out 0; have hfz39_1 := blk_frozen BK789.out 1; have hfz39_2 := blk_frozen BK789.out 2))
   (try simp only [Act.put, List.setIfInBounds_toArray, List.set_cons_zero, List.set_cons_succ])
   go_cut [47] (fun v47 wc => ∃ (kq : Nat) (x47_13 : Bool), v47 = .bool x47_13 ∧ Aside0 (laws_FnExactFsCreate.j0 kq a1 t775 t788 x47_13 l0_0 a0_1 a0_2 t770 t773 t774 t777 t780 t781 t783 t786 t787 = some true) ∧ Aside0 (kq ≤ k) ∧ Aside0 (Kd.R k52 52 wc w.heap.size (fun k_ => some k_ ≠ ((.slice Ao29 t777.length co29) : Value).ownBlock ∧ some k_ ≠ ((.slice Ao35 t783.length co35) : Value).ownBlock) (.slice Ao23 t770.length co23) t770) ∧ Aside0 (Kd.R k52 52 wc w.heap.size (fun k_ => some k_ ≠ ((.slice Ao23 t770.length co23) : Value).ownBlock ∧ some k_ ≠ ((.slice Ao35 t783.length co35) : Value).ownBlock) (.slice Ao29 t777.length co29) t777) ∧ Aside0 (Kd.R k52 52 wc w.heap.size (fun k_ => some k_ ≠ ((.slice Ao23 t770.length co23) : Value).ownBlock ∧ some k_ ≠ ((.slice Ao29 t777.length co29) : Value).ownBlock) (.slice Ao35 t783.length co35) t783) ∧ Aside0 (wc.heap[gb763]? = some (.cells #[(.slice A0_0 l0_0.length c0_0), .int .i64 a0_1, .int .i64 a0_2] 24 (0, 0))) ∧ Aside0 (wc.heap[gb776]? = some (.cells #[(.slice Ao23 t770.length co23), .int .i64 t773, .int .i64 t774] 29 (0, 0))) ∧ Aside0 (wc.heap[gb782]? = some (.cells #[(.slice Ao29 t777.length co29), .int .i64 t780, .int .i64 t781] 29 (0, 0))) ∧ Aside0 (wc.heap[gb789]? = some (.cells #[(.slice Ao35 t783.length co35), .int .i64 t786, .int .i64 t787] 29 (0, 0))) ∧ Aside0 (Below w.heap.size w wc))
   case first =>
    have H := HC14.out
    clear HC14
    replace H := Option.bind_eq_some_iff.mp H
    obtain ⟨t790, A400, H⟩ := H
    replace H : (if t790 = true then (laws_FnExactFsCreate.j0 k a1 t775 t788 (t788 != t775) l0_0 a0_1 a0_2 t770 t773 t774 t777 t780 t781 t783 t786 t787) else (laws_FnExactFsCreate.j0 k a1 t775 t788 true l0_0 a0_1 a0_2 t770 t773 t774 t777 t780 t781 t783 t786 t787)) = some true := H
    have A40 := Aside0.mk A400
    clear A400
    by_cases c41 : t790 = true
    ·subst c41
     have H1 : (laws_FnExactFsCreate.j0 k a1 t775 t788 (t788 != t775) l0_0 a0_1 a0_2 t770 t773 t774 t777 t780 t781 t783 t786 t787) = some true := by rw [if_pos rfl] at H; exact H
     clear H
     have H := H1
     clear H1
     have H' := Aside0.mk H
     clear H
     have hnb42 := NB789_763.out
     have hnc42 := NB763_789.out
     have hnb43 := NB789_776.out
     have hnc43 := NB776_789.out
     have hnb44 := NB789_782.out
     have hnc44 := NB782_789.out
     have hcz45_0 : w34.cell? ⟨gb789, 0, none⟩ = some (.slice none 0 0) := (blk_cell BK789.out 0).trans rfl
     have hcz45_1 : w34.cell? ⟨gb789, 1, none⟩ = some (.int .i64 0) := (blk_cell BK789.out 1).trans rfl
     have hcz45_2 : w34.cell? ⟨gb789, 2, none⟩ = some (.int .i64 0) := (blk_cell BK789.out 2).trans rfl
     have hfz45_0 := blk_frozen BK789.out 0
     have hfz45_1 := blk_frozen BK789.out 1
     have hfz45_2 := blk_frozen BK789.out 2
     have hnb46 := NB776_763.out
     have hnc46 := NB763_776.out
     have hnb47 := NB776_782.out
     have hnc47 := NB782_776.out
     have hcz48_0 : w34.cell? ⟨gb776, 0, none⟩ = some (.slice Ao23 t770.length co23) := (blk_cell BK776.out 0).trans rfl
     have hcz48_1 : w34.cell? ⟨gb776, 1, none⟩ = some (.int .i64 t773) := (blk_cell BK776.out 1).trans rfl
     have hcz48_2 : w34.cell? ⟨gb776, 2, none⟩ = some (.int .i64 t774) := (blk_cell BK776.out 2).trans rfl
     have hfz48_0 := blk_frozen BK776.out 0
     have hfz48_1 := blk_frozen BK776.out 1
     have hfz48_2 := blk_frozen BK776.out 2
     go_wp2_with (first | ((with_reducible refine gate_callee (f := 16) rfl ?_); refine goesL_ (some 41) rfl rfl Try.func16 (by kernel_rfl) rfl #[.agg #[.slice Ao35 t783.length co35, .int .i64 t786, .int .i64 t787], .agg #[.slice Ao23 t770.length co23, .int .i64 t773, .int .i64 t774]] rfl (by (try simp only [List.map_toArray, List.map_cons, List.map_nil]); first | done | rfl | (simp only [List.length_drop, List.length_take]; rfl)) ?_; (with_reducible refine (laws_eqFS.calls k _ _ t783 t786 t787 _ _ t770 t773 t774 true _ ?side1 ?side2 ?side3 ?side4 A40.out).mono ?_); (case side1 => refine (Kd.R_reads' (e := 52) (base := w.heap.size) (ok := fun k_ => (((True ∧ some k_ ≠ (.slice Ao20 t765.length co20 : Value).ownBlock) ∧ some k_ ≠ (.slice Ao23 t770.length co23 : Value).ownBlock) ∧ some k_ ≠ (.slice Ao29 t777.length co29 : Value).ownBlock)) (n := t783.length) (c := co35) ?_).2.2; exact (by (with_reducible repeat (first | apply Kd.R_alloc | apply Kd.R_drewN | apply Kd.R_drew)); exact (Kd.R_mono (Kd.R_far (p := ⟨gb789, 2, none⟩) (Kd.R_far (p := ⟨gb789, 1, none⟩) (Kd.R_far (p := ⟨gb789, 0, none⟩) (Kd.R_types HO785.out BK789.out (by decide)) (fun _ hk => hk.2) (.slice Ao35 t783.length co35)) (fun _ hk => hk.2) (.int .i64 t786)) (fun _ hk => hk.2) (.int .i64 t787)) (fun _ h_ => h_.1)))); (case side2 => exact (Kd.R_reads' HO785.out).2.1); (case side3 => refine (Kd.R_reads' (e := 52) (base := w.heap.size) (ok := fun k_ => (((True ∧ some k_ ≠ (.slice Ao20 t765.length co20 : Value).ownBlock) ∧ some k_ ≠ (.slice Ao29 t777.length co29 : Value).ownBlock) ∧ some k_ ≠ (.slice Ao35 t783.length co35 : Value).ownBlock)) (n := t770.length) (c := co23) ?_).2.2; exact (by (with_reducible repeat (first | apply Kd.R_alloc | apply Kd.R_drewN | apply Kd.R_drew)); exact (Kd.R_mono (Kd.R_far (p := ⟨gb789, 2, none⟩) (Kd.R_far (p := ⟨gb789, 1, none⟩) (Kd.R_far (p := ⟨gb789, 0, none⟩) (Kd.R_types HO772.out BK789.out (by decide)) (fun _ hk => hk.2) (.slice Ao35 t783.length co35)) (fun _ hk => hk.2) (.int .i64 t786)) (fun _ hk => hk.2) (.int .i64 t787)) (fun _ h_ => h_.1)))); (case side4 => exact (Kd.R_reads' HO772.out).2.1); rintro e w49 ⟨rfl, hb⟩; refine ⟨_, rfl, ?_⟩; have n0_ := Aside0.mk (Kd.R_below (by (with_reducible repeat (first | apply Kd.R_alloc | apply Kd.R_drewN | apply Kd.R_drew)); exact (Kd.R_mono (Kd.R_far (p := ⟨gb789, 2, none⟩) (Kd.R_far (p := ⟨gb789, 1, none⟩) (Kd.R_far (p := ⟨gb789, 0, none⟩) (Kd.R_types HO767.out BK789.out (by decide)) (fun _ hk => hk.2) (.slice Ao35 t783.length co35)) (fun _ hk => hk.2) (.int .i64 t786)) (fun _ hk => hk.2) (.int .i64 t787)) (fun _ h_ => h_.1))) hb); have n1_ := Aside0.mk (Kd.R_below (by (with_reducible repeat (first | apply Kd.R_alloc | apply Kd.R_drewN | apply Kd.R_drew)); exact (Kd.R_mono (Kd.R_far (p := ⟨gb789, 2, none⟩) (Kd.R_far (p := ⟨gb789, 1, none⟩) (Kd.R_far (p := ⟨gb789, 0, none⟩) (Kd.R_types HO772.out BK789.out (by decide)) (fun _ hk => hk.2) (.slice Ao35 t783.length co35)) (fun _ hk => hk.2) (.int .i64 t786)) (fun _ hk => hk.2) (.int .i64 t787)) (fun _ h_ => h_.1))) hb); have n2_ := Aside0.mk (Kd.R_below (by (with_reducible repeat (first | apply Kd.R_alloc | apply Kd.R_drewN | apply Kd.R_drew)); exact (Kd.R_mono (Kd.R_far (p := ⟨gb789, 2, none⟩) (Kd.R_far (p := ⟨gb789, 1, none⟩) (Kd.R_far (p := ⟨gb789, 0, none⟩) (Kd.R_types HO779.out BK789.out (by decide)) (fun _ hk => hk.2) (.slice Ao35 t783.length co35)) (fun _ hk => hk.2) (.int .i64 t786)) (fun _ hk => hk.2) (.int .i64 t787)) (fun _ h_ => h_.1))) hb); have n3_ := Aside0.mk (Kd.R_below (by (with_reducible repeat (first | apply Kd.R_alloc | apply Kd.R_drewN | apply Kd.R_drew)); exact (Kd.R_mono (Kd.R_far (p := ⟨gb789, 2, none⟩) (Kd.R_far (p := ⟨gb789, 1, none⟩) (Kd.R_far (p := ⟨gb789, 0, none⟩) (Kd.R_types HO785.out BK789.out (by decide)) (fun _ hk => hk.2) (.slice Ao35 t783.length co35)) (fun _ hk => hk.2) (.int .i64 t786)) (fun _ hk => hk.2) (.int .i64 t787)) (fun _ h_ => h_.1))) hb); have n4_ := Aside0.mk (blk_below (g := gb763) (o := .cells #[.slice A0_0 l0_0.length c0_0, .int .i64 a0_1, .int .i64 a0_2] 24 (0, 0)) (by (with_reducible repeat (first | refine blk_drewN ?_ _ | refine blk_drew ?_ | refine blk_alloc ?_ _)); refine blk_far ?_ NB763_789.out _; (with_reducible repeat (first | refine blk_drewN ?_ _ | refine blk_drew ?_ | refine blk_alloc ?_ _)); refine blk_far ?_ NB763_789.out _; (with_reducible repeat (first | refine blk_drewN ?_ _ | refine blk_drew ?_ | refine blk_alloc ?_ _)); refine blk_far ?_ NB763_789.out _; (with_reducible repeat (first | refine blk_drewN ?_ _ | refine blk_drew ?_ | refine blk_alloc ?_ _)); exact BK763.out) hb); have n5_ := Aside0.mk (blk_below (g := gb776) (o := .cells #[.slice Ao23 t770.length co23, .int .i64 t773, .int .i64 t774] 29 (0, 0)) (by (with_reducible repeat (first | refine blk_drewN ?_ _ | refine blk_drew ?_ | refine blk_alloc ?_ _)); refine blk_far ?_ NB776_789.out _; (with_reducible repeat (first | refine blk_drewN ?_ _ | refine blk_drew ?_ | refine blk_alloc ?_ _)); refine blk_far ?_ NB776_789.out _; (with_reducible repeat (first | refine blk_drewN ?_ _ | refine blk_drew ?_ | refine blk_alloc ?_ _)); refine blk_far ?_ NB776_789.out _; (with_reducible repeat (first | refine blk_drewN ?_ _ | refine blk_drew ?_ | refine blk_alloc ?_ _)); exact BK776.out) hb); have n6_ := Aside0.mk (blk_below (g := gb782) (o := .cells #[.slice Ao29 t777.length co29, .int .i64 t780, .int .i64 t781] 29 (0, 0)) (by (with_reducible repeat (first | refine blk_drewN ?_ _ | refine blk_drew ?_ | refine blk_alloc ?_ _)); refine blk_far ?_ NB782_789.out _; (with_reducible repeat (first | refine blk_drewN ?_ _ | refine blk_drew ?_ | refine blk_alloc ?_ _)); refine blk_far ?_ NB782_789.out _; (with_reducible repeat (first | refine blk_drewN ?_ _ | refine blk_drew ?_ | refine blk_alloc ?_ _)); refine blk_far ?_ NB782_789.out _; (with_reducible repeat (first | refine blk_drewN ?_ _ | refine blk_drew ?_ | refine blk_alloc ?_ _)); exact BK782.out) hb); have n7_ := Aside0.mk (blk_below (g := gb789) (o := .cells #[.slice Ao35 t783.length co35, .int .i64 t786, .int .i64 t787] 29 (0, 0)) (by (with_reducible repeat (first | refine blk_drewN ?_ _ | refine blk_drew ?_ | refine blk_alloc ?_ _)); refine blk_put (cs := #[.slice Ao35 t783.length co35, .int .i64 t786, .int .i64 0]) ?_ 2 _ rfl; (with_reducible repeat (first | refine blk_drewN ?_ _ | refine blk_drew ?_ | refine blk_alloc ?_ _)); refine blk_put (cs := #[.slice Ao35 t783.length co35, .int .i64 0, .int .i64 0]) ?_ 1 _ rfl; (with_reducible repeat (first | refine blk_drewN ?_ _ | refine blk_drew ?_ | refine blk_alloc ?_ _)); refine blk_put (cs := #[.slice none 0 0, .int .i64 0, .int .i64 0]) ?_ 0 _ rfl; (with_reducible repeat (first | refine blk_drewN ?_ _ | refine blk_drew ?_ | refine blk_alloc ?_ _)); exact BK789.out) hb); have n8_ := Aside0.mk (below_step (by repeat (first | (with_reducible first | exact HB.out | apply below_alloc | apply pw_below_drewN | apply below_drew1 | refine below_set ?_ GE763.out | refine below_set ?_ GE776.out | refine below_set ?_ GE782.out | refine below_set ?_ GE789.out) | exact HB.out)) hb); clear HO767; clear HO772; clear HO779; clear HO785; clear BK763; clear BK776; clear BK782; clear BK789; clear HB; have HO767 := n0_; have HO772 := n1_; have HO779 := n2_; have HO785 := n3_; have BK763 := n4_; have BK776 := n5_; have BK782 := n6_; have BK789 := n7_; have HB := n8_; clear n0_ n1_ n2_ n3_ n4_ n5_ n6_ n7_ n8_; (try clear hb); (try clear hb2); (try clear hk); (try clear hi)))
     go_meet
     case rel => exact ⟨_, ((t788 != t775)), (by first | rfl | (simp; done) | (simp [*]; done)), H', ⟨by first | omega | exact Nat.le_refl _⟩, ⟨by (with_reducible repeat (first | apply Kd.R_alloc | apply Kd.R_drewN | apply Kd.R_drew)); exact Kd.R_mono HO772.out (fun _ hk => ⟨hk.1.2, hk.2⟩)⟩, ⟨by (with_reducible repeat (first | apply Kd.R_alloc | apply Kd.R_drewN | apply Kd.R_drew)); exact Kd.R_mono HO779.out (fun _ hk => ⟨hk.1.2, hk.2⟩)⟩, ⟨by (with_reducible repeat (first | apply Kd.R_alloc | apply Kd.R_drewN | apply Kd.R_drew)); exact Kd.R_mono HO785.out (fun _ hk => ⟨hk.1.2, hk.2⟩)⟩, ⟨by (with_reducible repeat (first | refine blk_drewN ?_ _ | refine blk_drew ?_ | refine blk_alloc ?_ _)); exact BK763.out⟩, ⟨by (with_reducible repeat (first | refine blk_drewN ?_ _ | refine blk_drew ?_ | refine blk_alloc ?_ _)); exact BK776.out⟩, ⟨by (with_reducible repeat (first | refine blk_drewN ?_ _ | refine blk_drew ?_ | refine blk_alloc ?_ _)); exact BK782.out⟩, ⟨by (with_reducible repeat (first | refine blk_drewN ?_ _ | refine blk_drew ?_ | refine blk_alloc ?_ _)); exact BK789.out⟩, ⟨by repeat (first | (with_reducible first | exact HB.out | apply below_alloc | apply pw_below_drewN | apply below_drew1 | refine below_set ?_ GE763.out | refine below_set ?_ GE776.out | refine below_set ?_ GE782.out | refine below_set ?_ GE789.out) | exact HB.out)⟩⟩
    ·replace c41 := Bool.eq_false_iff.mpr c41
     subst c41
     have H1 : (laws_FnExactFsCreate.j0 k a1 t775 t788 true l0_0 a0_1 a0_2 t770 t773 t774 t777 t780 t781 t783 t786 t787) = some true := by rw [if_neg (show ¬ (false = true) by decide)] at H; exact H
     clear H
     have H := H1
     clear H1
     have H' := Aside0.mk H
     clear H
     have hnb50 := NB789_763.out
     have hnc50 := NB763_789.out
     have hnb51 := NB789_776.out
     have hnc51 := NB776_789.out
     have hnb52 := NB789_782.out
     have hnc52 := NB782_789.out
     have hcz53_0 : w34.cell? ⟨gb789, 0, none⟩ = some (.slice none 0 0) := (blk_cell BK789.out 0).trans rfl
     have hcz53_1 : w34.cell? ⟨gb789, 1, none⟩ = some (.int .i64 0) := (blk_cell BK789.out 1).trans rfl
     have hcz53_2 : w34.cell? ⟨gb789, 2, none⟩ = some (.int .i64 0) := (blk_cell BK789.out 2).trans rfl
     have hfz53_0 := blk_frozen BK789.out 0
     have hfz53_1 := blk_frozen BK789.out 1
     have hfz53_2 := blk_frozen BK789.out 2
     have hnb54 := NB776_763.out
     have hnc54 := NB763_776.out
     have hnb55 := NB776_782.out
     have hnc55 := NB782_776.out
     have hcz56_0 : w34.cell? ⟨gb776, 0, none⟩ = some (.slice Ao23 t770.length co23) := (blk_cell BK776.out 0).trans rfl
     have hcz56_1 : w34.cell? ⟨gb776, 1, none⟩ = some (.int .i64 t773) := (blk_cell BK776.out 1).trans rfl
     have hcz56_2 : w34.cell? ⟨gb776, 2, none⟩ = some (.int .i64 t774) := (blk_cell BK776.out 2).trans rfl
     have hfz56_0 := blk_frozen BK776.out 0
     have hfz56_1 := blk_frozen BK776.out 1
     have hfz56_2 := blk_frozen BK776.out 2
     go_wp2_with (first | ((with_reducible refine gate_callee (f := 16) rfl ?_); refine goesL_ (some 41) rfl rfl Try.func16 (by kernel_rfl) rfl #[.agg #[.slice Ao35 t783.length co35, .int .i64 t786, .int .i64 t787], .agg #[.slice Ao23 t770.length co23, .int .i64 t773, .int .i64 t774]] rfl (by (try simp only [List.map_toArray, List.map_cons, List.map_nil]); first | done | rfl | (simp only [List.length_drop, List.length_take]; rfl)) ?_; (with_reducible refine (laws_eqFS.calls k _ _ t783 t786 t787 _ _ t770 t773 t774 false _ ?side1 ?side2 ?side3 ?side4 A40.out).mono ?_); (case side1 => refine (Kd.R_reads' (e := 52) (base := w.heap.size) (ok := fun k_ => (((True ∧ some k_ ≠ (.slice Ao20 t765.length co20 : Value).ownBlock) ∧ some k_ ≠ (.slice Ao23 t770.length co23 : Value).ownBlock) ∧ some k_ ≠ (.slice Ao29 t777.length co29 : Value).ownBlock)) (n := t783.length) (c := co35) ?_).2.2; exact (by (with_reducible repeat (first | apply Kd.R_alloc | apply Kd.R_drewN | apply Kd.R_drew)); exact (Kd.R_mono (Kd.R_far (p := ⟨gb789, 2, none⟩) (Kd.R_far (p := ⟨gb789, 1, none⟩) (Kd.R_far (p := ⟨gb789, 0, none⟩) (Kd.R_types HO785.out BK789.out (by decide)) (fun _ hk => hk.2) (.slice Ao35 t783.length co35)) (fun _ hk => hk.2) (.int .i64 t786)) (fun _ hk => hk.2) (.int .i64 t787)) (fun _ h_ => h_.1)))); (case side2 => exact (Kd.R_reads' HO785.out).2.1); (case side3 => refine (Kd.R_reads' (e := 52) (base := w.heap.size) (ok := fun k_ => (((True ∧ some k_ ≠ (.slice Ao20 t765.length co20 : Value).ownBlock) ∧ some k_ ≠ (.slice Ao29 t777.length co29 : Value).ownBlock) ∧ some k_ ≠ (.slice Ao35 t783.length co35 : Value).ownBlock)) (n := t770.length) (c := co23) ?_).2.2; exact (by (with_reducible repeat (first | apply Kd.R_alloc | apply Kd.R_drewN | apply Kd.R_drew)); exact (Kd.R_mono (Kd.R_far (p := ⟨gb789, 2, none⟩) (Kd.R_far (p := ⟨gb789, 1, none⟩) (Kd.R_far (p := ⟨gb789, 0, none⟩) (Kd.R_types HO772.out BK789.out (by decide)) (fun _ hk => hk.2) (.slice Ao35 t783.length co35)) (fun _ hk => hk.2) (.int .i64 t786)) (fun _ hk => hk.2) (.int .i64 t787)) (fun _ h_ => h_.1)))); (case side4 => exact (Kd.R_reads' HO772.out).2.1); rintro e w57 ⟨rfl, hb⟩; refine ⟨_, rfl, ?_⟩; have n0_ := Aside0.mk (Kd.R_below (by (with_reducible repeat (first | apply Kd.R_alloc | apply Kd.R_drewN | apply Kd.R_drew)); exact (Kd.R_mono (Kd.R_far (p := ⟨gb789, 2, none⟩) (Kd.R_far (p := ⟨gb789, 1, none⟩) (Kd.R_far (p := ⟨gb789, 0, none⟩) (Kd.R_types HO767.out BK789.out (by decide)) (fun _ hk => hk.2) (.slice Ao35 t783.length co35)) (fun _ hk => hk.2) (.int .i64 t786)) (fun _ hk => hk.2) (.int .i64 t787)) (fun _ h_ => h_.1))) hb); have n1_ := Aside0.mk (Kd.R_below (by (with_reducible repeat (first | apply Kd.R_alloc | apply Kd.R_drewN | apply Kd.R_drew)); exact (Kd.R_mono (Kd.R_far (p := ⟨gb789, 2, none⟩) (Kd.R_far (p := ⟨gb789, 1, none⟩) (Kd.R_far (p := ⟨gb789, 0, none⟩) (Kd.R_types HO772.out BK789.out (by decide)) (fun _ hk => hk.2) (.slice Ao35 t783.length co35)) (fun _ hk => hk.2) (.int .i64 t786)) (fun _ hk => hk.2) (.int .i64 t787)) (fun _ h_ => h_.1))) hb); have n2_ := Aside0.mk (Kd.R_below (by (with_reducible repeat (first | apply Kd.R_alloc | apply Kd.R_drewN | apply Kd.R_drew)); exact (Kd.R_mono (Kd.R_far (p := ⟨gb789, 2, none⟩) (Kd.R_far (p := ⟨gb789, 1, none⟩) (Kd.R_far (p := ⟨gb789, 0, none⟩) (Kd.R_types HO779.out BK789.out (by decide)) (fun _ hk => hk.2) (.slice Ao35 t783.length co35)) (fun _ hk => hk.2) (.int .i64 t786)) (fun _ hk => hk.2) (.int .i64 t787)) (fun _ h_ => h_.1))) hb); have n3_ := Aside0.mk (Kd.R_below (by (with_reducible repeat (first | apply Kd.R_alloc | apply Kd.R_drewN | apply Kd.R_drew)); exact (Kd.R_mono (Kd.R_far (p := ⟨gb789, 2, none⟩) (Kd.R_far (p := ⟨gb789, 1, none⟩) (Kd.R_far (p := ⟨gb789, 0, none⟩) (Kd.R_types HO785.out BK789.out (by decide)) (fun _ hk => hk.2) (.slice Ao35 t783.length co35)) (fun _ hk => hk.2) (.int .i64 t786)) (fun _ hk => hk.2) (.int .i64 t787)) (fun _ h_ => h_.1))) hb); have n4_ := Aside0.mk (blk_below (g := gb763) (o := .cells #[.slice A0_0 l0_0.length c0_0, .int .i64 a0_1, .int .i64 a0_2] 24 (0, 0)) (by (with_reducible repeat (first | refine blk_drewN ?_ _ | refine blk_drew ?_ | refine blk_alloc ?_ _)); refine blk_far ?_ NB763_789.out _; (with_reducible repeat (first | refine blk_drewN ?_ _ | refine blk_drew ?_ | refine blk_alloc ?_ _)); refine blk_far ?_ NB763_789.out _; (with_reducible repeat (first | refine blk_drewN ?_ _ | refine blk_drew ?_ | refine blk_alloc ?_ _)); refine blk_far ?_ NB763_789.out _; (with_reducible repeat (first | refine blk_drewN ?_ _ | refine blk_drew ?_ | refine blk_alloc ?_ _)); exact BK763.out) hb); have n5_ := Aside0.mk (blk_below (g := gb776) (o := .cells #[.slice Ao23 t770.length co23, .int .i64 t773, .int .i64 t774] 29 (0, 0)) (by (with_reducible repeat (first | refine blk_drewN ?_ _ | refine blk_drew ?_ | refine blk_alloc ?_ _)); refine blk_far ?_ NB776_789.out _; (with_reducible repeat (first | refine blk_drewN ?_ _ | refine blk_drew ?_ | refine blk_alloc ?_ _)); refine blk_far ?_ NB776_789.out _; (with_reducible repeat (first | refine blk_drewN ?_ _ | refine blk_drew ?_ | refine blk_alloc ?_ _)); refine blk_far ?_ NB776_789.out _; (with_reducible repeat (first | refine blk_drewN ?_ _ | refine blk_drew ?_ | refine blk_alloc ?_ _)); exact BK776.out) hb); have n6_ := Aside0.mk (blk_below (g := gb782) (o := .cells #[.slice Ao29 t777.length co29, .int .i64 t780, .int .i64 t781] 29 (0, 0)) (by (with_reducible repeat (first | refine blk_drewN ?_ _ | refine blk_drew ?_ | refine blk_alloc ?_ _)); refine blk_far ?_ NB782_789.out _; (with_reducible repeat (first | refine blk_drewN ?_ _ | refine blk_drew ?_ | refine blk_alloc ?_ _)); refine blk_far ?_ NB782_789.out _; (with_reducible repeat (first | refine blk_drewN ?_ _ | refine blk_drew ?_ | refine blk_alloc ?_ _)); refine blk_far ?_ NB782_789.out _; (with_reducible repeat (first | refine blk_drewN ?_ _ | refine blk_drew ?_ | refine blk_alloc ?_ _)); exact BK782.out) hb); have n7_ := Aside0.mk (blk_below (g := gb789) (o := .cells #[.slice Ao35 t783.length co35, .int .i64 t786, .int .i64 t787] 29 (0, 0)) (by (with_reducible repeat (first | refine blk_drewN ?_ _ | refine blk_drew ?_ | refine blk_alloc ?_ _)); refine blk_put (cs := #[.slice Ao35 t783.length co35, .int .i64 t786, .int .i64 0]) ?_ 2 _ rfl; (with_reducible repeat (first | refine blk_drewN ?_ _ | refine blk_drew ?_ | refine blk_alloc ?_ _)); refine blk_put (cs := #[.slice Ao35 t783.length co35, .int .i64 0, .int .i64 0]) ?_ 1 _ rfl; (with_reducible repeat (first | refine blk_drewN ?_ _ | refine blk_drew ?_ | refine blk_alloc ?_ _)); refine blk_put (cs := #[.slice none 0 0, .int .i64 0, .int .i64 0]) ?_ 0 _ rfl; (with_reducible repeat (first | refine blk_drewN ?_ _ | refine blk_drew ?_ | refine blk_alloc ?_ _)); exact BK789.out) hb); have n8_ := Aside0.mk (below_step (by repeat (first | (with_reducible first | exact HB.out | apply below_alloc | apply pw_below_drewN | apply below_drew1 | refine below_set ?_ GE763.out | refine below_set ?_ GE776.out | refine below_set ?_ GE782.out | refine below_set ?_ GE789.out) | exact HB.out)) hb); clear HO767; clear HO772; clear HO779; clear HO785; clear BK763; clear BK776; clear BK782; clear BK789; clear HB; have HO767 := n0_; have HO772 := n1_; have HO779 := n2_; have HO785 := n3_; have BK763 := n4_; have BK776 := n5_; have BK782 := n6_; have BK789 := n7_; have HB := n8_; clear n0_ n1_ n2_ n3_ n4_ n5_ n6_ n7_ n8_; (try clear hb); (try clear hb2); (try clear hk); (try clear hi)))
     go_meet
     case rel => exact ⟨_, (true), (by first | rfl | (simp; done) | (simp [*]; done)), H', ⟨by first | omega | exact Nat.le_refl _⟩, ⟨by (with_reducible repeat (first | apply Kd.R_alloc | apply Kd.R_drewN | apply Kd.R_drew)); exact Kd.R_mono HO772.out (fun _ hk => ⟨hk.1.2, hk.2⟩)⟩, ⟨by (with_reducible repeat (first | apply Kd.R_alloc | apply Kd.R_drewN | apply Kd.R_drew)); exact Kd.R_mono HO779.out (fun _ hk => ⟨hk.1.2, hk.2⟩)⟩, ⟨by (with_reducible repeat (first | apply Kd.R_alloc | apply Kd.R_drewN | apply Kd.R_drew)); exact Kd.R_mono HO785.out (fun _ hk => ⟨hk.1.2, hk.2⟩)⟩, ⟨by (with_reducible repeat (first | refine blk_drewN ?_ _ | refine blk_drew ?_ | refine blk_alloc ?_ _)); exact BK763.out⟩, ⟨by (with_reducible repeat (first | refine blk_drewN ?_ _ | refine blk_drew ?_ | refine blk_alloc ?_ _)); exact BK776.out⟩, ⟨by (with_reducible repeat (first | refine blk_drewN ?_ _ | refine blk_drew ?_ | refine blk_alloc ?_ _)); exact BK782.out⟩, ⟨by (with_reducible repeat (first | refine blk_drewN ?_ _ | refine blk_drew ?_ | refine blk_alloc ?_ _)); exact BK789.out⟩, ⟨by repeat (first | (with_reducible first | exact HB.out | apply below_alloc | apply pw_below_drewN | apply below_drew1 | refine below_set ?_ GE763.out | refine below_set ?_ GE776.out | refine below_set ?_ GE782.out | refine below_set ?_ GE789.out) | exact HB.out)⟩⟩
   case rest =>
    clear HC14
    try clear c1
    try clear c2
    try clear p2
    try clear c3
    try clear c3b0
    try clear c3b1
    try clear c4
    try clear c5
    try clear c6
    try clear c6b0
    try clear c10
    try clear c12
    try clear c14
    try clear c16
    try clear c24
    try clear c30
    try clear c31
    try clear c35
    try clear c36
    try clear c37
    try clear c38
    try clear c41
    try clear c42
    try clear c43
    try clear c44
    try clear c46
    try clear c47
    try clear c50
    try clear c51
    try clear c52
    try clear c54
    try clear c55
    try clear hcz16_0
    try clear hcz16_1
    try clear hcz16_2
    try clear hcz18_0
    try clear hcz18_1
    try clear hcz18_2
    try clear hcz25_0
    try clear hcz25_1
    try clear hcz25_2
    try clear hcz26_0
    try clear hcz26_1
    try clear hcz26_2
    try clear hcz32_0
    try clear hcz32_1
    try clear hcz32_2
    try clear hcz39_0
    try clear hcz39_1
    try clear hcz39_2
    try clear hcz45_0
    try clear hcz45_1
    try clear hcz45_2
    try clear hcz48_0
    try clear hcz48_1
    try clear hcz48_2
    try clear hcz53_0
    try clear hcz53_1
    try clear hcz53_2
    try clear hcz56_0
    try clear hcz56_1
    try clear hcz56_2
    try clear hcz8_0
    try clear hcz8_1
    try clear hcz8_2
    try clear hfz16_0
    try clear hfz16_1
    try clear hfz16_2
    try clear hfz18_0
    try clear hfz18_1
    try clear hfz18_2
    try clear hfz25_0
    try clear hfz25_1
    try clear hfz25_2
    try clear hfz26_0
    try clear hfz26_1
    try clear hfz26_2
    try clear hfz32_0
    try clear hfz32_1
    try clear hfz32_2
    try clear hfz39_0
    try clear hfz39_1
    try clear hfz39_2
    try clear hfz45_0
    try clear hfz45_1
    try clear hfz45_2
    try clear hfz48_0
    try clear hfz48_1
    try clear hfz48_2
    try clear hfz53_0
    try clear hfz53_1
    try clear hfz53_2
    try clear hfz56_0
    try clear hfz56_1
    try clear hfz56_2
    try clear hfz8_0
    try clear hfz8_1
    try clear hfz8_2
    obtain ⟨kq, x47_13, rfl, HA, HJ13, HO_777000, HO_783000, HO_790000, BK763, BK776, BK782, BK789, HB⟩ := hcut
    cases kq with
    | zero => exact absurd HA.out (by simp [laws_FnExactFsCreate.j0])
    | succ kj13 =>
     have H := HA.out
     clear HA
     simp only [laws_FnExactFsCreate.j0] at H
     by_cases c58 : x47_13 = true
     ·subst c58
      have H1 : (some false) = some true := by rw [if_pos rfl] at H; exact H
      clear H
      have H := H1
      clear H1
      exact absurd H (by simp)
     ·replace c58 := Bool.eq_false_iff.mpr c58
      subst c58
      have H1 : ((laws_toFS.f kj13 l0_0 a0_1 a0_2).bind fun bt791 => ((laws_eqFS.f kj13 t777 t780 t781 bt791.1 bt791.2.1 bt791.2.2).bind fun t796 => (if t796 = true then ((laws_markFS.f kj13 t777 t780 t781 1).bind fun bt797 => (if bt797.1 < 0 then (laws_FnExactFsCreate.j1 kj13 a1 t775 true l0_0 a0_1 a0_2 t770 t773 t774 t783 t786 t787) else ((laws_eqFS.f kj13 t783 t786 t787 t770 t773 t774).bind fun t799 => (if t799 = true then (laws_FnExactFsCreate.j1 kj13 a1 t775 (t788 != t775) l0_0 a0_1 a0_2 t770 t773 t774 t783 t786 t787) else (laws_FnExactFsCreate.j1 kj13 a1 t775 true l0_0 a0_1 a0_2 t770 t773 t774 t783 t786 t787))))) else (some false)))) = some true := by rw [if_neg (show ¬ (false = true) by decide)] at H; exact H
      clear H
      have H := H1
      clear H1
      replace H := Option.bind_eq_some_iff.mp H
      obtain ⟨⟨t791, t794, t795⟩, A590, H⟩ := H
      replace H : ((laws_eqFS.f kj13 t777 t780 t781 t791 t794 t795).bind fun t796 => (if t796 = true then ((laws_markFS.f kj13 t777 t780 t781 1).bind fun bt797 => (if bt797.1 < 0 then (laws_FnExactFsCreate.j1 kj13 a1 t775 true l0_0 a0_1 a0_2 t770 t773 t774 t783 t786 t787) else ((laws_eqFS.f kj13 t783 t786 t787 t770 t773 t774).bind fun t799 => (if t799 = true then (laws_FnExactFsCreate.j1 kj13 a1 t775 (t788 != t775) l0_0 a0_1 a0_2 t770 t773 t774 t783 t786 t787) else (laws_FnExactFsCreate.j1 kj13 a1 t775 true l0_0 a0_1 a0_2 t770 t773 t774 t783 t786 t787))))) else (some false))) = some true := H
      have A59 := Aside0.mk A590
      clear A590
      replace H := Option.bind_eq_some_iff.mp H
      obtain ⟨t796, A600, H⟩ := H
      replace H : (if t796 = true then ((laws_markFS.f kj13 t777 t780 t781 1).bind fun bt797 => (if bt797.1 < 0 then (laws_FnExactFsCreate.j1 kj13 a1 t775 true l0_0 a0_1 a0_2 t770 t773 t774 t783 t786 t787) else ((laws_eqFS.f kj13 t783 t786 t787 t770 t773 t774).bind fun t799 => (if t799 = true then (laws_FnExactFsCreate.j1 kj13 a1 t775 (t788 != t775) l0_0 a0_1 a0_2 t770 t773 t774 t783 t786 t787) else (laws_FnExactFsCreate.j1 kj13 a1 t775 true l0_0 a0_1 a0_2 t770 t773 t774 t783 t786 t787))))) else (some false)) = some true := H
      have A60 := Aside0.mk A600
      clear A600
      by_cases c61 : t796 = true
      ·subst c61
       have H1 : ((laws_markFS.f kj13 t777 t780 t781 1).bind fun bt797 => (if bt797.1 < 0 then (laws_FnExactFsCreate.j1 kj13 a1 t775 true l0_0 a0_1 a0_2 t770 t773 t774 t783 t786 t787) else ((laws_eqFS.f kj13 t783 t786 t787 t770 t773 t774).bind fun t799 => (if t799 = true then (laws_FnExactFsCreate.j1 kj13 a1 t775 (t788 != t775) l0_0 a0_1 a0_2 t770 t773 t774 t783 t786 t787) else (laws_FnExactFsCreate.j1 kj13 a1 t775 true l0_0 a0_1 a0_2 t770 t773 t774 t783 t786 t787))))) = some true := by rw [if_pos rfl] at H; exact H
       clear H
       have H := H1
       clear H1
       replace H := Option.bind_eq_some_iff.mp H
       obtain ⟨⟨t797, t798⟩, A620, H⟩ := H
       replace H : (if t797 < 0 then (laws_FnExactFsCreate.j1 kj13 a1 t775 true l0_0 a0_1 a0_2 t770 t773 t774 t783 t786 t787) else ((laws_eqFS.f kj13 t783 t786 t787 t770 t773 t774).bind fun t799 => (if t799 = true then (laws_FnExactFsCreate.j1 kj13 a1 t775 (t788 != t775) l0_0 a0_1 a0_2 t770 t773 t774 t783 t786 t787) else (laws_FnExactFsCreate.j1 kj13 a1 t775 true l0_0 a0_1 a0_2 t770 t773 t774 t783 t786 t787)))) = some true := H
       have A62 := Aside0.mk A620
       clear A620
       have HC63 := Aside0.mk H
       clear H
       try go_wp2
       have n0_ := Aside0.mk (Kd.R_drew HO_777000.out)
       have n1_ := Aside0.mk (Kd.R_drew HO_783000.out)
       have n2_ := Aside0.mk (Kd.R_drew HO_790000.out)
       have n3_ := Aside0.mk (blk_drew BK763.out)
       have n4_ := Aside0.mk (blk_drew BK776.out)
       have n5_ := Aside0.mk (blk_drew BK782.out)
       have n6_ := Aside0.mk (blk_drew BK789.out)
       have n7_ := Aside0.mk (below_drew1 HB.out)
       clear HO_777000
       clear HO_783000
       clear HO_790000
       clear BK763
       clear BK776
       clear BK782
       clear BK789
       clear HB
       have HO_777000 := n0_
       have HO_783000 := n1_
       have HO_790000 := n2_
       have BK763 := n3_
       have BK776 := n4_
       have BK782 := n5_
       have BK789 := n6_
       have HB := n7_
       clear n0_ n1_ n2_ n3_ n4_ n5_ n6_ n7_
       refine start_ (n := 5) (S := fun w' => w'.cell? ⟨gb782, 0, none⟩ = some (.slice Ao29 t777.length co29) ∧ w'.cell? ⟨gb782, 1, none⟩ = some (.int .i64 t780) ∧ w'.cell? ⟨gb782, 2, none⟩ = some (.int .i64 t781) ∧ w'.cell? ⟨gb763, 0, none⟩ = some (.slice A0_0 l0_0.length c0_0) ∧ w'.cell? ⟨gb763, 1, none⟩ = some (.int .i64 a0_1) ∧ w'.cell? ⟨gb763, 2, none⟩ = some (.int .i64 a0_2)) (ds := []) #[false, false, false, false, false] (by kernel_rfl) rfl rfl ⟨(blk_cell BK782.out 0).trans rfl, (blk_cell BK782.out 1).trans rfl, (blk_cell BK782.out 2).trans rfl, (blk_cell BK763.out 0).trans rfl, (blk_cell BK763.out 1).trans rfl, (blk_cell BK763.out 2).trans rfl⟩ (fun hHeld => ?_)
       generalize wc.drew = w64 at HO_777000 HO_783000 HO_790000 BK763 BK776 BK782 BK789 HB hHeld ⊢
       refine take_ (i := 0) (N := some 48) (v := ?_) (a' := ?_) #[true, false, false, false, false] rfl rfl (by kernel_rfl) (fun _ _ _ h => h) (Or.inl ⟨by rfl, ?_⟩) hHeld ?_ ?_
       rotate_left
       ·rintro w' ⟨s0, s1, s2, s3, s4, s5⟩
        go_simp
        with_reducible rfl
       rotate_left
       ·simp only [Act.put, List.setIfInBounds_toArray, List.set_cons_zero, List.set_cons_succ, i64_w, i32_w]
        rfl
       refine take_ (i := 1) (N := some 49) (v := ?_) (a' := ?_) #[true, true, false, false, false] rfl rfl (by kernel_rfl) (fun _ _ _ h => h) (Or.inl ⟨by rfl, ?_⟩) hHeld ?_ ?_
       rotate_left
       ·rintro w' ⟨s0, s1, s2, s3, s4, s5⟩
        go_simp
        with_reducible rfl
       rotate_left
       ·simp only [Act.put, List.setIfInBounds_toArray, List.set_cons_zero, List.set_cons_succ, i64_w, i32_w]
        rfl
       refine one_ (i := 2) (N := some 50) #[true, true, true, false, false] rfl rfl (by kernel_rfl) (by decide) (fun K hK => ?_)
       refine goes_ Try.func14 (by kernel_rfl) rfl #[.agg #[.slice A0_0 l0_0.length c0_0, .int .i64 a0_1, .int .i64 a0_2]] (by rfl) rfl rfl (by (try simp only [List.map_toArray, List.map_cons, List.map_nil]); first | done | rfl | (simp only [List.length_drop, List.length_take]; rfl)) ?_
       with_reducible refine (laws_toFS.calls kj13 _ _ l0_0 a0_1 a0_2 t791 t794 t795 _ ?side1 ?side2 A59.out).mono ?_
       (case side1 => repeat (first | exact (Kd.C_below HR0_0.out HB.out) | (with_reducible refine Kd.C_alloc ?_ _) | (with_reducible refine Kd.C_drewN ?_ _) | (with_reducible refine Kd.C_drew ?_)))
       (case side2 => exact HC0_0.out)
       rintro e w65 ⟨v792, rfl, ho0, hb⟩
       refine ⟨_, rfl, ?_⟩
       have n0_ := Aside0.mk (Kd.R_elder' (by (with_reducible repeat (first | apply Kd.R_alloc | apply Kd.R_drewN | apply Kd.R_drew)); exact HO_777000.out) (Kd.R_base ho0) hb)
       have n1_ := Aside0.mk (Kd.R_elder' (by (with_reducible repeat (first | apply Kd.R_alloc | apply Kd.R_drewN | apply Kd.R_drew)); exact HO_783000.out) (Kd.R_base ho0) hb)
       have n2_ := Aside0.mk (Kd.R_elder' (by (with_reducible repeat (first | apply Kd.R_alloc | apply Kd.R_drewN | apply Kd.R_drew)); exact HO_790000.out) (Kd.R_base ho0) hb)
       have n3_ := Aside0.mk (Kd.R_lower (Kd.R_new' (Kd.R_new' (Kd.R_new' ho0 (Kd.R_lt (by (with_reducible repeat (first | apply Kd.R_alloc | apply Kd.R_drewN | apply Kd.R_drew)); exact HO_777000.out))) (Kd.R_lt (by (with_reducible repeat (first | apply Kd.R_alloc | apply Kd.R_drewN | apply Kd.R_drew)); exact HO_783000.out))) (Kd.R_lt (by (with_reducible repeat (first | apply Kd.R_alloc | apply Kd.R_drewN | apply Kd.R_drew)); exact HO_790000.out))) (below_size (by repeat (first | (with_reducible first | exact HB.out | apply below_alloc | apply pw_below_drewN | apply below_drew1 | refine below_set ?_ GE763.out | refine below_set ?_ GE776.out | refine below_set ?_ GE782.out | refine below_set ?_ GE789.out) | exact HB.out))))
       have n4_ := Aside0.mk (blk_below (g := gb763) (o := .cells #[.slice A0_0 l0_0.length c0_0, .int .i64 a0_1, .int .i64 a0_2] 24 (0, 0)) (by (with_reducible repeat (first | refine blk_drewN ?_ _ | refine blk_drew ?_ | refine blk_alloc ?_ _)); exact BK763.out) hb)
       have n5_ := Aside0.mk (blk_below (g := gb776) (o := .cells #[.slice Ao23 t770.length co23, .int .i64 t773, .int .i64 t774] 29 (0, 0)) (by (with_reducible repeat (first | refine blk_drewN ?_ _ | refine blk_drew ?_ | refine blk_alloc ?_ _)); exact BK776.out) hb)
       have n6_ := Aside0.mk (blk_below (g := gb782) (o := .cells #[.slice Ao29 t777.length co29, .int .i64 t780, .int .i64 t781] 29 (0, 0)) (by (with_reducible repeat (first | refine blk_drewN ?_ _ | refine blk_drew ?_ | refine blk_alloc ?_ _)); exact BK782.out) hb)
       have n7_ := Aside0.mk (blk_below (g := gb789) (o := .cells #[.slice Ao35 t783.length co35, .int .i64 t786, .int .i64 t787] 29 (0, 0)) (by (with_reducible repeat (first | refine blk_drewN ?_ _ | refine blk_drew ?_ | refine blk_alloc ?_ _)); exact BK789.out) hb)
       have n8_ := Aside0.mk (below_step (by repeat (first | (with_reducible first | exact HB.out | apply below_alloc | apply pw_below_drewN | apply below_drew1 | refine below_set ?_ GE763.out | refine below_set ?_ GE776.out | refine below_set ?_ GE782.out | refine below_set ?_ GE789.out) | exact HB.out)) hb)
       clear HO_777000
       clear HO_783000
       clear HO_790000
       clear BK763
       clear BK776
       clear BK782
       clear BK789
       clear HB
       have HO_777000 := n0_
       have HO_783000 := n1_
       have HO_790000 := n2_
       have HO793 := n3_
       have BK763 := n4_
       have BK776 := n5_
       have BK782 := n6_
       have BK789 := n7_
       have HB := n8_
       clear n0_ n1_ n2_ n3_ n4_ n5_ n6_ n7_ n8_
       (try clear hb)
       (try clear hb2)
       (try clear hk)
       (try clear hi)
       (try clear ho0)
       obtain ⟨Ao66, co66, eo66⟩ := Kd.R_slice HO793.out
       (first | subst eo66 | (injection eo66 with f1_ f2_ f3_; have f4_ := f1_.symm; have f5_ := f3_.symm; clear f1_ f2_ f3_; subst f4_; subst f5_))
       refine hK.out _ _ ⟨(blk_cell BK782.out 0).trans rfl, (blk_cell BK782.out 1).trans rfl, (blk_cell BK782.out 2).trans rfl, (blk_cell BK763.out 0).trans rfl, (blk_cell BK763.out 1).trans rfl, (blk_cell BK763.out 2).trans rfl⟩ (fun hHeld => ?_)
       clear hK K
       refine norm_ (a' := ?_) ?_ ?_
       rotate_left
       ·show Act.put _ (some 50) _ = _
        simp only [Act.put, List.setIfInBounds_toArray, List.set_cons_zero, List.set_cons_succ, i64_w, i32_w]
        rfl
       refine one_ (i := 3) (N := some 51) #[true, true, true, true, false] rfl rfl (by kernel_rfl) (by decide) (fun K hK => ?_)
       refine goes_ Try.func16 (by kernel_rfl) rfl #[.agg #[.slice Ao29 t777.length co29, .int .i64 t780, .int .i64 t781], .agg #[.slice Ao66 t791.length co66, .int .i64 t794, .int .i64 t795]] (by rfl) rfl rfl (by (try simp only [List.map_toArray, List.map_cons, List.map_nil]); first | done | rfl | (simp only [List.length_drop, List.length_take]; rfl)) ?_
       with_reducible refine (laws_eqFS.calls kj13 _ _ t777 t780 t781 _ _ t791 t794 t795 true _ ?side1 ?side2 ?side3 ?side4 A60.out).mono ?_
       (case side1 => repeat (first | exact (Kd.R_reads' HO_783000.out).2.2 | (with_reducible refine Kd.C_alloc ?_ _) | (with_reducible refine Kd.C_drewN ?_ _) | (with_reducible refine Kd.C_drew ?_)))
       (case side2 => exact (Kd.R_reads' HO_783000.out).2.1)
       (case side3 => repeat (first | exact (Kd.R_reads' HO793.out).2.2 | (with_reducible refine Kd.C_alloc ?_ _) | (with_reducible refine Kd.C_drewN ?_ _) | (with_reducible refine Kd.C_drew ?_)))
       (case side4 => exact (Kd.R_reads' HO793.out).2.1)
       rintro e w67 ⟨rfl, hb⟩
       refine ⟨_, rfl, ?_⟩
       have n0_ := Aside0.mk (Kd.R_below (by (with_reducible repeat (first | apply Kd.R_alloc | apply Kd.R_drewN | apply Kd.R_drew)); exact HO_777000.out) hb)
       have n1_ := Aside0.mk (Kd.R_below (by (with_reducible repeat (first | apply Kd.R_alloc | apply Kd.R_drewN | apply Kd.R_drew)); exact HO_783000.out) hb)
       have n2_ := Aside0.mk (Kd.R_below (by (with_reducible repeat (first | apply Kd.R_alloc | apply Kd.R_drewN | apply Kd.R_drew)); exact HO_790000.out) hb)
       have n3_ := Aside0.mk (Kd.R_below (by (with_reducible repeat (first | apply Kd.R_alloc | apply Kd.R_drewN | apply Kd.R_drew)); exact HO793.out) hb)
       have n4_ := Aside0.mk (blk_below (g := gb763) (o := .cells #[.slice A0_0 l0_0.length c0_0, .int .i64 a0_1, .int .i64 a0_2] 24 (0, 0)) (by (with_reducible repeat (first | refine blk_drewN ?_ _ | refine blk_drew ?_ | refine blk_alloc ?_ _)); exact BK763.out) hb)
       have n5_ := Aside0.mk (blk_below (g := gb776) (o := .cells #[.slice Ao23 t770.length co23, .int .i64 t773, .int .i64 t774] 29 (0, 0)) (by (with_reducible repeat (first | refine blk_drewN ?_ _ | refine blk_drew ?_ | refine blk_alloc ?_ _)); exact BK776.out) hb)
       have n6_ := Aside0.mk (blk_below (g := gb782) (o := .cells #[.slice Ao29 t777.length co29, .int .i64 t780, .int .i64 t781] 29 (0, 0)) (by (with_reducible repeat (first | refine blk_drewN ?_ _ | refine blk_drew ?_ | refine blk_alloc ?_ _)); exact BK782.out) hb)
       have n7_ := Aside0.mk (blk_below (g := gb789) (o := .cells #[.slice Ao35 t783.length co35, .int .i64 t786, .int .i64 t787] 29 (0, 0)) (by (with_reducible repeat (first | refine blk_drewN ?_ _ | refine blk_drew ?_ | refine blk_alloc ?_ _)); exact BK789.out) hb)
       have n8_ := Aside0.mk (below_step (by repeat (first | (with_reducible first | exact HB.out | apply below_alloc | apply pw_below_drewN | apply below_drew1 | refine below_set ?_ GE763.out | refine below_set ?_ GE776.out | refine below_set ?_ GE782.out | refine below_set ?_ GE789.out) | exact HB.out)) hb)
       clear HO_777000
       clear HO_783000
       clear HO_790000
       clear HO793
       clear BK763
       clear BK776
       clear BK782
       clear BK789
       clear HB
       have HO_777000 := n0_
       have HO_783000 := n1_
       have HO_790000 := n2_
       have HO793 := n3_
       have BK763 := n4_
       have BK776 := n5_
       have BK782 := n6_
       have BK789 := n7_
       have HB := n8_
       clear n0_ n1_ n2_ n3_ n4_ n5_ n6_ n7_ n8_
       (try clear hb)
       (try clear hb2)
       (try clear hk)
       (try clear hi)
       refine hK.out _ _ ⟨(blk_cell BK782.out 0).trans rfl, (blk_cell BK782.out 1).trans rfl, (blk_cell BK782.out 2).trans rfl, (blk_cell BK763.out 0).trans rfl, (blk_cell BK763.out 1).trans rfl, (blk_cell BK763.out 2).trans rfl⟩ (fun hHeld => ?_)
       clear hK K
       refine norm_ (a' := ?_) ?_ ?_
       rotate_left
       ·show Act.put _ (some 51) _ = _
        simp only [Act.put, List.setIfInBounds_toArray, List.set_cons_zero, List.set_cons_succ, i64_w, i32_w]
        rfl
       refine pure_ (i := 4) (N := some 52) (v := ?_) (a' := ?_) #[true, true, true, true, true] rfl rfl (by kernel_rfl) (fun _ _ _ h => h) (Or.inl ⟨by rfl, ?_⟩) ?_ ?_
       rotate_left
       ·intro w'
        go_simp
        with_reducible rfl
       rotate_left
       ·simp only [Act.put, List.setIfInBounds_toArray, List.set_cons_zero, List.set_cons_succ, i64_w, i32_w]
        rfl
       refine done_ (by kernel_rfl) ?_
       have hnb68 := NB782_763.out
       have hnc68 := NB763_782.out
       have hnb69 := NB782_776.out
       have hnc69 := NB776_782.out
       have hnb70 := NB782_789.out
       have hnc70 := NB789_782.out
       have hcz71_0 : w67.cell? ⟨gb782, 0, none⟩ = some (.slice Ao29 t777.length co29) := (blk_cell BK782.out 0).trans rfl
       have hcz71_1 : w67.cell? ⟨gb782, 1, none⟩ = some (.int .i64 t780) := (blk_cell BK782.out 1).trans rfl
       have hcz71_2 : w67.cell? ⟨gb782, 2, none⟩ = some (.int .i64 t781) := (blk_cell BK782.out 2).trans rfl
       have hfz71_0 := blk_frozen BK782.out 0
       have hfz71_1 := blk_frozen BK782.out 1
       have hfz71_2 := blk_frozen BK782.out 2
       go_upto_region 16 with (first | ((with_reducible refine gate_callee (f := 23) rfl ?_); refine goesL_ (some 55) rfl rfl Try.func23 (by kernel_rfl) rfl #[.agg #[.slice Ao29 t777.length co29, .int .i64 t780, .int .i64 t781], .int .i64 1] rfl (by (try simp only [List.map_toArray, List.map_cons, List.map_nil]); first | done | rfl | (simp only [List.length_drop, List.length_take]; rfl)) ?_; (with_reducible refine (laws_markFS.calls kj13 (fun k_ => some k_ = (.slice Ao29 t777.length co29 : Value).ownBlock) (.slice Ao29 t777.length co29) t777 t780 t781 1 t797 t798 w _ ?side1 ?side2 A62.out).mono ?_); (case side1 => repeat (first | (with_reducible first | exact HB.out | apply below_alloc | apply pw_below_drewN | apply below_drew1 | refine below_set ?_ GE763.out | refine below_set ?_ GE776.out | refine below_set ?_ GE782.out | refine below_set ?_ GE789.out) | exact HB.out)); (case side2 => exact Kd.R_tight rfl HO_783000.out); rintro e w72 ⟨rfl, hy0, hb, hkp⟩; refine ⟨_, rfl, ?_⟩; have n0_ := Aside0.mk (Kd.R_mono (ok' := fun k_ => some k_ ≠ (.slice Ao29 t777.length co29 : Value).ownBlock ∧ some k_ ≠ (.slice Ao35 t783.length co35 : Value).ownBlock ∧ some k_ ≠ (.slice Ao66 t791.length co66 : Value).ownBlock) (Kd.R_keptB (HO_777000.out) hkp (fun k_ hk_ hs_ => (hk_.1.1) hs_)) (fun k_ hk_ => ⟨hk_.1.1.1, hk_.1.1.2, hk_.1.2⟩)); have n1_ := Aside0.mk (Kd.R_reok rfl hy0 (fun k_ e_ => HO_783000.out.1 k_ e_)); have n2_ := Aside0.mk (Kd.R_mono (ok' := fun k_ => some k_ ≠ (.slice Ao23 t770.length co23 : Value).ownBlock ∧ some k_ ≠ (.slice Ao29 t777.length co29 : Value).ownBlock ∧ some k_ ≠ (.slice Ao66 t791.length co66 : Value).ownBlock) (Kd.R_keptB (HO_790000.out) hkp (fun k_ hk_ hs_ => (hk_.1.2) hs_)) (fun k_ hk_ => ⟨hk_.1.1.1, hk_.1.1.2, hk_.1.2⟩)); have n3_ := Aside0.mk (blk_kept (by (with_reducible repeat (first | refine blk_drewN ?_ _ | refine blk_drew ?_ | refine blk_alloc ?_ _)); exact BK763.out) hkp (fun hs_ => (fun e_ => (Kd.R_ne HO_783000.out BK763.out (by decide)) e_) hs_)); have n4_ := Aside0.mk (blk_kept (by (with_reducible repeat (first | refine blk_drewN ?_ _ | refine blk_drew ?_ | refine blk_alloc ?_ _)); exact BK776.out) hkp (fun hs_ => (fun e_ => (Kd.R_ne HO_783000.out BK776.out (by decide)) e_) hs_)); have n5_ := Aside0.mk (blk_kept (by (with_reducible repeat (first | refine blk_drewN ?_ _ | refine blk_drew ?_ | refine blk_alloc ?_ _)); exact BK782.out) hkp (fun hs_ => (fun e_ => (Kd.R_ne HO_783000.out BK782.out (by decide)) e_) hs_)); have n6_ := Aside0.mk (blk_kept (by (with_reducible repeat (first | refine blk_drewN ?_ _ | refine blk_drew ?_ | refine blk_alloc ?_ _)); exact BK789.out) hkp (fun hs_ => (fun e_ => (Kd.R_ne HO_783000.out BK789.out (by decide)) e_) hs_)); have n7_ := Aside0.mk (Kd.R_mono (ok' := fun k_ => some k_ ≠ (.slice Ao23 t770.length co23 : Value).ownBlock ∧ some k_ ≠ (.slice Ao29 t777.length co29 : Value).ownBlock ∧ some k_ ≠ (.slice Ao35 t783.length co35 : Value).ownBlock) (Kd.R_keptB (HO793.out) hkp (fun k_ hk_ hs_ => (hk_.1.2) hs_)) (fun k_ hk_ => ⟨hk_.1.1.1.2, hk_.1.1.2, hk_.1.2⟩)); have n8_ := Aside0.mk (hb); clear HO_777000; clear HO_783000; clear HO_790000; clear BK763; clear BK776; clear BK782; clear BK789; clear HO793; clear HB; have HO_777000 := n0_; have HO_783000 := n1_; have HO_790000 := n2_; have BK763 := n3_; have BK776 := n4_; have BK782 := n5_; have BK789 := n6_; have HO793 := n7_; have HB := n8_; clear n0_ n1_ n2_ n3_ n4_ n5_ n6_ n7_ n8_; (try clear hb); (try clear hkp); (try clear hy0)))
       (try simp only [Act.put, List.setIfInBounds_toArray, List.set_cons_zero, List.set_cons_succ])
       go_cut [68] (fun v68 wc => ∃ (kq : Nat) (x68_62 : Bool), v68 = .bool x68_62 ∧ Aside0 (laws_FnExactFsCreate.j1 kq a1 t775 x68_62 l0_0 a0_1 a0_2 t770 t773 t774 t783 t786 t787 = some true) ∧ Aside0 (kq ≤ kj13) ∧ Aside0 (Kd.R k52 52 wc w.heap.size (fun k_ => some k_ ≠ ((.slice Ao29 t777.length co29) : Value).ownBlock ∧ some k_ ≠ ((.slice Ao35 t783.length co35) : Value).ownBlock) (.slice Ao23 t770.length co23) t770) ∧ Aside0 (Kd.R k52 52 wc w.heap.size (fun k_ => some k_ ≠ ((.slice Ao23 t770.length co23) : Value).ownBlock ∧ some k_ ≠ ((.slice Ao35 t783.length co35) : Value).ownBlock) (.slice Ao29 t777.length co29) t798) ∧ Aside0 (Kd.R k52 52 wc w.heap.size (fun k_ => some k_ ≠ ((.slice Ao23 t770.length co23) : Value).ownBlock ∧ some k_ ≠ ((.slice Ao29 t777.length co29) : Value).ownBlock) (.slice Ao35 t783.length co35) t783) ∧ Aside0 (wc.heap[gb763]? = some (.cells #[(.slice A0_0 l0_0.length c0_0), .int .i64 a0_1, .int .i64 a0_2] 24 (0, 0))) ∧ Aside0 (wc.heap[gb776]? = some (.cells #[(.slice Ao23 t770.length co23), .int .i64 t773, .int .i64 t774] 29 (0, 0))) ∧ Aside0 (wc.heap[gb782]? = some (.cells #[(.slice Ao29 t777.length co29), .int .i64 t780, .int .i64 t781] 29 (0, 0))) ∧ Aside0 (wc.heap[gb789]? = some (.cells #[(.slice Ao35 t783.length co35), .int .i64 t786, .int .i64 t787] 29 (0, 0))) ∧ Aside0 (Below w.heap.size w wc))
       case first =>
        have H := HC63.out
        clear HC63
        by_cases c73 : t797 < 0
        ·rw [if_pos c73] at H
         have c73b0 : decide (t797 < 0) = true := decide_eq_true c73
         clear c73
         (first | rw [c73b0] | (simp only [i64_w, i32_w]; rw [c73b0]) | skip)
         have H' := Aside0.mk H
         clear H
         go_wp2
         go_meet
         case rel => exact ⟨_, (true), (by first | rfl | (simp; done) | (simp [*]; done)), H', ⟨by have := HJ13.out; first | omega | exact Nat.le_refl _⟩, ⟨by (with_reducible repeat (first | apply Kd.R_alloc | apply Kd.R_drewN | apply Kd.R_drew)); exact Kd.R_mono HO_777000.out (fun _ hk => ⟨hk.1, hk.2.1⟩)⟩, ⟨by (with_reducible repeat (first | apply Kd.R_alloc | apply Kd.R_drewN | apply Kd.R_drew)); exact Kd.R_mono HO_783000.out (fun _ hk => ⟨hk.1.1, hk.1.2⟩)⟩, ⟨by (with_reducible repeat (first | apply Kd.R_alloc | apply Kd.R_drewN | apply Kd.R_drew)); exact Kd.R_mono HO_790000.out (fun _ hk => ⟨hk.1, hk.2.1⟩)⟩, ⟨by (with_reducible repeat (first | refine blk_drewN ?_ _ | refine blk_drew ?_ | refine blk_alloc ?_ _)); exact BK763.out⟩, ⟨by (with_reducible repeat (first | refine blk_drewN ?_ _ | refine blk_drew ?_ | refine blk_alloc ?_ _)); exact BK776.out⟩, ⟨by (with_reducible repeat (first | refine blk_drewN ?_ _ | refine blk_drew ?_ | refine blk_alloc ?_ _)); exact BK782.out⟩, ⟨by (with_reducible repeat (first | refine blk_drewN ?_ _ | refine blk_drew ?_ | refine blk_alloc ?_ _)); exact BK789.out⟩, ⟨by repeat (first | (with_reducible first | exact HB.out | apply below_alloc | apply pw_below_drewN | apply below_drew1 | refine below_set ?_ GE763.out | refine below_set ?_ GE776.out | refine below_set ?_ GE782.out | refine below_set ?_ GE789.out) | exact HB.out)⟩⟩
        ·rw [if_neg c73] at H
         have c73b0 : decide (t797 < 0) = false := decide_eq_false c73
         clear c73
         (first | rw [c73b0] | (simp only [i64_w, i32_w]; rw [c73b0]) | skip)
         replace H := Option.bind_eq_some_iff.mp H
         obtain ⟨t799, A740, H⟩ := H
         replace H : (if t799 = true then (laws_FnExactFsCreate.j1 kj13 a1 t775 (t788 != t775) l0_0 a0_1 a0_2 t770 t773 t774 t783 t786 t787) else (laws_FnExactFsCreate.j1 kj13 a1 t775 true l0_0 a0_1 a0_2 t770 t773 t774 t783 t786 t787)) = some true := H
         have A74 := Aside0.mk A740
         clear A740
         by_cases c75 : t799 = true
         ·subst c75
          have H1 : (laws_FnExactFsCreate.j1 kj13 a1 t775 (t788 != t775) l0_0 a0_1 a0_2 t770 t773 t774 t783 t786 t787) = some true := by rw [if_pos rfl] at H; exact H
          clear H
          have H := H1
          clear H1
          have H' := Aside0.mk H
          clear H
          have hnb76 := NB789_763.out
          have hnc76 := NB763_789.out
          have hnb77 := NB789_776.out
          have hnc77 := NB776_789.out
          have hnb78 := NB789_782.out
          have hnc78 := NB782_789.out
          have hcz79_0 : w72.cell? ⟨gb789, 0, none⟩ = some (.slice Ao35 t783.length co35) := (blk_cell BK789.out 0).trans rfl
          have hcz79_1 : w72.cell? ⟨gb789, 1, none⟩ = some (.int .i64 t786) := (blk_cell BK789.out 1).trans rfl
          have hcz79_2 : w72.cell? ⟨gb789, 2, none⟩ = some (.int .i64 t787) := (blk_cell BK789.out 2).trans rfl
          have hfz79_0 := blk_frozen BK789.out 0
          have hfz79_1 := blk_frozen BK789.out 1
          have hfz79_2 := blk_frozen BK789.out 2
          have hnb80 := NB776_763.out
          have hnc80 := NB763_776.out
          have hnb81 := NB776_782.out
          have hnc81 := NB782_776.out
          have hcz82_0 : w72.cell? ⟨gb776, 0, none⟩ = some (.slice Ao23 t770.length co23) := (blk_cell BK776.out 0).trans rfl
          have hcz82_1 : w72.cell? ⟨gb776, 1, none⟩ = some (.int .i64 t773) := (blk_cell BK776.out 1).trans rfl
          have hcz82_2 : w72.cell? ⟨gb776, 2, none⟩ = some (.int .i64 t774) := (blk_cell BK776.out 2).trans rfl
          have hfz82_0 := blk_frozen BK776.out 0
          have hfz82_1 := blk_frozen BK776.out 1
          have hfz82_2 := blk_frozen BK776.out 2
          go_wp2_with (first | (go_at_call 16; (with_reducible refine (laws_eqFS.calls kj13 _ _ t783 t786 t787 _ _ t770 t773 t774 true _ ?side1 ?side2 ?side3 ?side4 A74.out).mono ?_); (case side1 => repeat (first | exact (Kd.R_reads' HO_790000.out).2.2 | (with_reducible refine Kd.C_alloc ?_ _) | (with_reducible refine Kd.C_drewN ?_ _) | (with_reducible refine Kd.C_drew ?_))); (case side2 => exact (Kd.R_reads' HO_790000.out).2.1); (case side3 => repeat (first | exact (Kd.R_reads' HO_777000.out).2.2 | (with_reducible refine Kd.C_alloc ?_ _) | (with_reducible refine Kd.C_drewN ?_ _) | (with_reducible refine Kd.C_drew ?_))); (case side4 => exact (Kd.R_reads' HO_777000.out).2.1); rintro e w83 ⟨rfl, hb⟩; have n0_ := Aside0.mk (Kd.R_below (by (with_reducible repeat (first | apply Kd.R_alloc | apply Kd.R_drewN | apply Kd.R_drew)); exact HO_777000.out) hb); have n1_ := Aside0.mk (Kd.R_below (by (with_reducible repeat (first | apply Kd.R_alloc | apply Kd.R_drewN | apply Kd.R_drew)); exact HO_783000.out) hb); have n2_ := Aside0.mk (Kd.R_below (by (with_reducible repeat (first | apply Kd.R_alloc | apply Kd.R_drewN | apply Kd.R_drew)); exact HO_790000.out) hb); have n3_ := Aside0.mk (Kd.R_below (by (with_reducible repeat (first | apply Kd.R_alloc | apply Kd.R_drewN | apply Kd.R_drew)); exact HO793.out) hb); have n4_ := Aside0.mk (blk_below (g := gb763) (o := .cells #[.slice A0_0 l0_0.length c0_0, .int .i64 a0_1, .int .i64 a0_2] 24 (0, 0)) (by (with_reducible repeat (first | refine blk_drewN ?_ _ | refine blk_drew ?_ | refine blk_alloc ?_ _)); exact BK763.out) hb); have n5_ := Aside0.mk (blk_below (g := gb776) (o := .cells #[.slice Ao23 t770.length co23, .int .i64 t773, .int .i64 t774] 29 (0, 0)) (by (with_reducible repeat (first | refine blk_drewN ?_ _ | refine blk_drew ?_ | refine blk_alloc ?_ _)); exact BK776.out) hb); have n6_ := Aside0.mk (blk_below (g := gb782) (o := .cells #[.slice Ao29 t777.length co29, .int .i64 t780, .int .i64 t781] 29 (0, 0)) (by (with_reducible repeat (first | refine blk_drewN ?_ _ | refine blk_drew ?_ | refine blk_alloc ?_ _)); exact BK782.out) hb); have n7_ := Aside0.mk (blk_below (g := gb789) (o := .cells #[.slice Ao35 t783.length co35, .int .i64 t786, .int .i64 t787] 29 (0, 0)) (by (with_reducible repeat (first | refine blk_drewN ?_ _ | refine blk_drew ?_ | refine blk_alloc ?_ _)); exact BK789.out) hb); have n8_ := Aside0.mk (below_step (by repeat (first | (with_reducible first | exact HB.out | apply below_alloc | apply pw_below_drewN | apply below_drew1 | refine below_set ?_ GE763.out | refine below_set ?_ GE776.out | refine below_set ?_ GE782.out | refine below_set ?_ GE789.out) | exact HB.out)) hb); clear HO_777000; clear HO_783000; clear HO_790000; clear HO793; clear BK763; clear BK776; clear BK782; clear BK789; clear HB; have HO_777000 := n0_; have HO_783000 := n1_; have HO_790000 := n2_; have HO793 := n3_; have BK763 := n4_; have BK776 := n5_; have BK782 := n6_; have BK789 := n7_; have HB := n8_; clear n0_ n1_ n2_ n3_ n4_ n5_ n6_ n7_ n8_; (try clear hb); (try clear hb2); (try clear hk); (try clear hi)))
          go_meet
          case rel => exact ⟨_, ((t788 != t775)), (by first | rfl | (simp; done) | (simp [*]; done)), H', ⟨by have := HJ13.out; first | omega | exact Nat.le_refl _⟩, ⟨by (with_reducible repeat (first | apply Kd.R_alloc | apply Kd.R_drewN | apply Kd.R_drew)); exact Kd.R_mono HO_777000.out (fun _ hk => ⟨hk.1, hk.2.1⟩)⟩, ⟨by (with_reducible repeat (first | apply Kd.R_alloc | apply Kd.R_drewN | apply Kd.R_drew)); exact Kd.R_mono HO_783000.out (fun _ hk => ⟨hk.1.1, hk.1.2⟩)⟩, ⟨by (with_reducible repeat (first | apply Kd.R_alloc | apply Kd.R_drewN | apply Kd.R_drew)); exact Kd.R_mono HO_790000.out (fun _ hk => ⟨hk.1, hk.2.1⟩)⟩, ⟨by (with_reducible repeat (first | refine blk_drewN ?_ _ | refine blk_drew ?_ | refine blk_alloc ?_ _)); exact BK763.out⟩, ⟨by (with_reducible repeat (first | refine blk_drewN ?_ _ | refine blk_drew ?_ | refine blk_alloc ?_ _)); exact BK776.out⟩, ⟨by (with_reducible repeat (first | refine blk_drewN ?_ _ | refine blk_drew ?_ | refine blk_alloc ?_ _)); exact BK782.out⟩, ⟨by (with_reducible repeat (first | refine blk_drewN ?_ _ | refine blk_drew ?_ | refine blk_alloc ?_ _)); exact BK789.out⟩, ⟨by repeat (first | (with_reducible first | exact HB.out | apply below_alloc | apply pw_below_drewN | apply below_drew1 | refine below_set ?_ GE763.out | refine below_set ?_ GE776.out | refine below_set ?_ GE782.out | refine below_set ?_ GE789.out) | exact HB.out)⟩⟩
         ·replace c75 := Bool.eq_false_iff.mpr c75
          subst c75
          have H1 : (laws_FnExactFsCreate.j1 kj13 a1 t775 true l0_0 a0_1 a0_2 t770 t773 t774 t783 t786 t787) = some true := by rw [if_neg (show ¬ (false = true) by decide)] at H; exact H
          clear H
          have H := H1
          clear H1
          have H' := Aside0.mk H
          clear H
          have hnb84 := NB789_763.out
          have hnc84 := NB763_789.out
          have hnb85 := NB789_776.out
          have hnc85 := NB776_789.out
          have hnb86 := NB789_782.out
          have hnc86 := NB782_789.out
          have hcz87_0 : w72.cell? ⟨gb789, 0, none⟩ = some (.slice Ao35 t783.length co35) := (blk_cell BK789.out 0).trans rfl
          have hcz87_1 : w72.cell? ⟨gb789, 1, none⟩ = some (.int .i64 t786) := (blk_cell BK789.out 1).trans rfl
          have hcz87_2 : w72.cell? ⟨gb789, 2, none⟩ = some (.int .i64 t787) := (blk_cell BK789.out 2).trans rfl
          have hfz87_0 := blk_frozen BK789.out 0
          have hfz87_1 := blk_frozen BK789.out 1
          have hfz87_2 := blk_frozen BK789.out 2
          have hnb88 := NB776_763.out
          have hnc88 := NB763_776.out
          have hnb89 := NB776_782.out
          have hnc89 := NB782_776.out
          have hcz90_0 : w72.cell? ⟨gb776, 0, none⟩ = some (.slice Ao23 t770.length co23) := (blk_cell BK776.out 0).trans rfl
          have hcz90_1 : w72.cell? ⟨gb776, 1, none⟩ = some (.int .i64 t773) := (blk_cell BK776.out 1).trans rfl
          have hcz90_2 : w72.cell? ⟨gb776, 2, none⟩ = some (.int .i64 t774) := (blk_cell BK776.out 2).trans rfl
          have hfz90_0 := blk_frozen BK776.out 0
          have hfz90_1 := blk_frozen BK776.out 1
          have hfz90_2 := blk_frozen BK776.out 2
          go_wp2_with (first | (go_at_call 16; (with_reducible refine (laws_eqFS.calls kj13 _ _ t783 t786 t787 _ _ t770 t773 t774 false _ ?side1 ?side2 ?side3 ?side4 A74.out).mono ?_); (case side1 => repeat (first | exact (Kd.R_reads' HO_790000.out).2.2 | (with_reducible refine Kd.C_alloc ?_ _) | (with_reducible refine Kd.C_drewN ?_ _) | (with_reducible refine Kd.C_drew ?_))); (case side2 => exact (Kd.R_reads' HO_790000.out).2.1); (case side3 => repeat (first | exact (Kd.R_reads' HO_777000.out).2.2 | (with_reducible refine Kd.C_alloc ?_ _) | (with_reducible refine Kd.C_drewN ?_ _) | (with_reducible refine Kd.C_drew ?_))); (case side4 => exact (Kd.R_reads' HO_777000.out).2.1); rintro e w91 ⟨rfl, hb⟩; have n0_ := Aside0.mk (Kd.R_below (by (with_reducible repeat (first | apply Kd.R_alloc | apply Kd.R_drewN | apply Kd.R_drew)); exact HO_777000.out) hb); have n1_ := Aside0.mk (Kd.R_below (by (with_reducible repeat (first | apply Kd.R_alloc | apply Kd.R_drewN | apply Kd.R_drew)); exact HO_783000.out) hb); have n2_ := Aside0.mk (Kd.R_below (by (with_reducible repeat (first | apply Kd.R_alloc | apply Kd.R_drewN | apply Kd.R_drew)); exact HO_790000.out) hb); have n3_ := Aside0.mk (Kd.R_below (by (with_reducible repeat (first | apply Kd.R_alloc | apply Kd.R_drewN | apply Kd.R_drew)); exact HO793.out) hb); have n4_ := Aside0.mk (blk_below (g := gb763) (o := .cells #[.slice A0_0 l0_0.length c0_0, .int .i64 a0_1, .int .i64 a0_2] 24 (0, 0)) (by (with_reducible repeat (first | refine blk_drewN ?_ _ | refine blk_drew ?_ | refine blk_alloc ?_ _)); exact BK763.out) hb); have n5_ := Aside0.mk (blk_below (g := gb776) (o := .cells #[.slice Ao23 t770.length co23, .int .i64 t773, .int .i64 t774] 29 (0, 0)) (by (with_reducible repeat (first | refine blk_drewN ?_ _ | refine blk_drew ?_ | refine blk_alloc ?_ _)); exact BK776.out) hb); have n6_ := Aside0.mk (blk_below (g := gb782) (o := .cells #[.slice Ao29 t777.length co29, .int .i64 t780, .int .i64 t781] 29 (0, 0)) (by (with_reducible repeat (first | refine blk_drewN ?_ _ | refine blk_drew ?_ | refine blk_alloc ?_ _)); exact BK782.out) hb); have n7_ := Aside0.mk (blk_below (g := gb789) (o := .cells #[.slice Ao35 t783.length co35, .int .i64 t786, .int .i64 t787] 29 (0, 0)) (by (with_reducible repeat (first | refine blk_drewN ?_ _ | refine blk_drew ?_ | refine blk_alloc ?_ _)); exact BK789.out) hb); have n8_ := Aside0.mk (below_step (by repeat (first | (with_reducible first | exact HB.out | apply below_alloc | apply pw_below_drewN | apply below_drew1 | refine below_set ?_ GE763.out | refine below_set ?_ GE776.out | refine below_set ?_ GE782.out | refine below_set ?_ GE789.out) | exact HB.out)) hb); clear HO_777000; clear HO_783000; clear HO_790000; clear HO793; clear BK763; clear BK776; clear BK782; clear BK789; clear HB; have HO_777000 := n0_; have HO_783000 := n1_; have HO_790000 := n2_; have HO793 := n3_; have BK763 := n4_; have BK776 := n5_; have BK782 := n6_; have BK789 := n7_; have HB := n8_; clear n0_ n1_ n2_ n3_ n4_ n5_ n6_ n7_ n8_; (try clear hb); (try clear hb2); (try clear hk); (try clear hi)))
          go_meet
          case rel => exact ⟨_, (true), (by first | rfl | (simp; done) | (simp [*]; done)), H', ⟨by have := HJ13.out; first | omega | exact Nat.le_refl _⟩, ⟨by (with_reducible repeat (first | apply Kd.R_alloc | apply Kd.R_drewN | apply Kd.R_drew)); exact Kd.R_mono HO_777000.out (fun _ hk => ⟨hk.1, hk.2.1⟩)⟩, ⟨by (with_reducible repeat (first | apply Kd.R_alloc | apply Kd.R_drewN | apply Kd.R_drew)); exact Kd.R_mono HO_783000.out (fun _ hk => ⟨hk.1.1, hk.1.2⟩)⟩, ⟨by (with_reducible repeat (first | apply Kd.R_alloc | apply Kd.R_drewN | apply Kd.R_drew)); exact Kd.R_mono HO_790000.out (fun _ hk => ⟨hk.1, hk.2.1⟩)⟩, ⟨by (with_reducible repeat (first | refine blk_drewN ?_ _ | refine blk_drew ?_ | refine blk_alloc ?_ _)); exact BK763.out⟩, ⟨by (with_reducible repeat (first | refine blk_drewN ?_ _ | refine blk_drew ?_ | refine blk_alloc ?_ _)); exact BK776.out⟩, ⟨by (with_reducible repeat (first | refine blk_drewN ?_ _ | refine blk_drew ?_ | refine blk_alloc ?_ _)); exact BK782.out⟩, ⟨by (with_reducible repeat (first | refine blk_drewN ?_ _ | refine blk_drew ?_ | refine blk_alloc ?_ _)); exact BK789.out⟩, ⟨by repeat (first | (with_reducible first | exact HB.out | apply below_alloc | apply pw_below_drewN | apply below_drew1 | refine below_set ?_ GE763.out | refine below_set ?_ GE776.out | refine below_set ?_ GE782.out | refine below_set ?_ GE789.out) | exact HB.out)⟩⟩
       case rest =>
        clear HC63
        try clear c1
        try clear c2
        try clear p2
        try clear c3
        try clear c3b0
        try clear c3b1
        try clear c4
        try clear c5
        try clear c6
        try clear c6b0
        try clear c7
        try clear c8
        try clear c10
        try clear c12
        try clear c14
        try clear c16
        try clear c23
        try clear c24
        try clear c30
        try clear c31
        try clear c35
        try clear c36
        try clear c37
        try clear c38
        try clear c41
        try clear c42
        try clear c43
        try clear c44
        try clear c46
        try clear c47
        try clear c50
        try clear c51
        try clear c52
        try clear c54
        try clear c55
        try clear c58
        try clear c61
        try clear c68
        try clear c69
        try clear c70
        try clear c73
        try clear c73b0
        try clear c75
        try clear c76
        try clear c77
        try clear c78
        try clear c80
        try clear c81
        try clear c84
        try clear c85
        try clear c86
        try clear c88
        try clear c89
        try clear hcz16_0
        try clear hcz16_1
        try clear hcz16_2
        try clear hcz18_0
        try clear hcz18_1
        try clear hcz18_2
        try clear hcz25_0
        try clear hcz25_1
        try clear hcz25_2
        try clear hcz26_0
        try clear hcz26_1
        try clear hcz26_2
        try clear hcz32_0
        try clear hcz32_1
        try clear hcz32_2
        try clear hcz39_0
        try clear hcz39_1
        try clear hcz39_2
        try clear hcz45_0
        try clear hcz45_1
        try clear hcz45_2
        try clear hcz48_0
        try clear hcz48_1
        try clear hcz48_2
        try clear hcz53_0
        try clear hcz53_1
        try clear hcz53_2
        try clear hcz56_0
        try clear hcz56_1
        try clear hcz56_2
        try clear hcz71_0
        try clear hcz71_1
        try clear hcz71_2
        try clear hcz79_0
        try clear hcz79_1
        try clear hcz79_2
        try clear hcz82_0
        try clear hcz82_1
        try clear hcz82_2
        try clear hcz87_0
        try clear hcz87_1
        try clear hcz87_2
        try clear hcz8_0
        try clear hcz8_1
        try clear hcz8_2
        try clear hcz90_0
        try clear hcz90_1
        try clear hcz90_2
        try clear hfz16_0
        try clear hfz16_1
        try clear hfz16_2
        try clear hfz18_0
        try clear hfz18_1
        try clear hfz18_2
        try clear hfz25_0
        try clear hfz25_1
        try clear hfz25_2
        try clear hfz26_0
        try clear hfz26_1
        try clear hfz26_2
        try clear hfz32_0
        try clear hfz32_1
        try clear hfz32_2
        try clear hfz39_0
        try clear hfz39_1
        try clear hfz39_2
        try clear hfz45_0
        try clear hfz45_1
        try clear hfz45_2
        try clear hfz48_0
        try clear hfz48_1
        try clear hfz48_2
        try clear hfz53_0
        try clear hfz53_1
        try clear hfz53_2
        try clear hfz56_0
        try clear hfz56_1
        try clear hfz56_2
        try clear hfz71_0
        try clear hfz71_1
        try clear hfz71_2
        try clear hfz79_0
        try clear hfz79_1
        try clear hfz79_2
        try clear hfz82_0
        try clear hfz82_1
        try clear hfz82_2
        try clear hfz87_0
        try clear hfz87_1
        try clear hfz87_2
        try clear hfz8_0
        try clear hfz8_1
        try clear hfz8_2
        try clear hfz90_0
        try clear hfz90_1
        try clear hfz90_2
        try clear p2
        obtain ⟨kq, x68_62, rfl, HA, HJ62, HO_777000, HO_783000, HO_790000, BK763, BK776, BK782, BK789, HB⟩ := hcut
        have hl783000_62 := (Kd.R_reads' HO_783000.out).1
        rw [hl783000_62] at HO_783000
        (try simp only [hl783000_62])
        (try simp only [hl783000_62] at BK763)
        (try simp only [hl783000_62] at BK776)
        (try simp only [hl783000_62] at BK782)
        (try simp only [hl783000_62] at BK789)
        (try simp only [hl783000_62] at HO_777000)
        (try simp only [hl783000_62] at HO_790000)
        cases kq with
        | zero => exact absurd HA.out (by simp [laws_FnExactFsCreate.j1])
        | succ kj62 =>
         have H := HA.out
         clear HA
         simp only [laws_FnExactFsCreate.j1] at H
         by_cases c92 : x68_62 = true
         ·subst c92
          have H1 : (some false) = some true := by rw [if_pos rfl] at H; exact H
          clear H
          have H := H1
          clear H1
          exact absurd H (by simp)
         ·replace c92 := Bool.eq_false_iff.mpr c92
          subst c92
          have H1 : ((laws_markFS.f kj62 t783 t786 t787 1).bind fun bt800 => ((laws_heldFS.f kj62 bt800.2 t786 t787 1).bind fun t802 => (if t802 < 0 then (some false) else (if t802 = bt800.1 then ((laws_toFS.f kj62 l0_0 a0_1 a0_2).bind fun bt803 => ((impl_FsCreate.f bt803.1 bt803.2.1 bt803.2.2 a1).bind fun bt808 => ((laws_eqFS.f kj62 bt808.1 bt808.2.1 bt808.2.2.1 t770 t773 t774).bind fun t815 => (if t815 = true then (if bt808.2.2.2 = t775 then (some true) else (some false)) else (some false))))) else (some false))))) = some true := by rw [if_neg (show ¬ (false = true) by decide)] at H; exact H
          clear H
          have H := H1
          clear H1
          replace H := Option.bind_eq_some_iff.mp H
          obtain ⟨⟨t800, t801⟩, A930, H⟩ := H
          replace H : ((laws_heldFS.f kj62 t801 t786 t787 1).bind fun t802 => (if t802 < 0 then (some false) else (if t802 = t800 then ((laws_toFS.f kj62 l0_0 a0_1 a0_2).bind fun bt803 => ((impl_FsCreate.f bt803.1 bt803.2.1 bt803.2.2 a1).bind fun bt808 => ((laws_eqFS.f kj62 bt808.1 bt808.2.1 bt808.2.2.1 t770 t773 t774).bind fun t815 => (if t815 = true then (if bt808.2.2.2 = t775 then (some true) else (some false)) else (some false))))) else (some false)))) = some true := H
          have A93 := Aside0.mk A930
          clear A930
          replace H := Option.bind_eq_some_iff.mp H
          obtain ⟨t802, A940, H⟩ := H
          replace H : (if t802 < 0 then (some false) else (if t802 = t800 then ((laws_toFS.f kj62 l0_0 a0_1 a0_2).bind fun bt803 => ((impl_FsCreate.f bt803.1 bt803.2.1 bt803.2.2 a1).bind fun bt808 => ((laws_eqFS.f kj62 bt808.1 bt808.2.1 bt808.2.2.1 t770 t773 t774).bind fun t815 => (if t815 = true then (if bt808.2.2.2 = t775 then (some true) else (some false)) else (some false))))) else (some false))) = some true := H
          have A94 := Aside0.mk A940
          clear A940
          by_cases c95 : t802 < 0
          ·rw [if_pos c95] at H
           have c95b0 : decide (t802 < 0) = true := decide_eq_true c95
           clear c95
           exact absurd H (by simp)
          ·rw [if_neg c95] at H
           have c95b0 : decide (t802 < 0) = false := decide_eq_false c95
           clear c95
           by_cases c96 : t802 = t800
           ·rw [if_pos c96] at H
            have c96b0 : (t802 == t800) = true := beq_iff_eq.mpr c96
            have c96b1 : (t802 != t800) = false := bne_eq_false_iff_eq.mpr c96
            clear c96
            replace H := Option.bind_eq_some_iff.mp H
            obtain ⟨⟨t803, t806, t807⟩, A970, H⟩ := H
            replace H : ((impl_FsCreate.f t803 t806 t807 a1).bind fun bt808 => ((laws_eqFS.f kj62 bt808.1 bt808.2.1 bt808.2.2.1 t770 t773 t774).bind fun t815 => (if t815 = true then (if bt808.2.2.2 = t775 then (some true) else (some false)) else (some false)))) = some true := H
            have A97 := Aside0.mk A970
            clear A970
            replace H := Option.bind_eq_some_iff.mp H
            obtain ⟨⟨t808, t811, t812, t813⟩, A980, H⟩ := H
            replace H : ((laws_eqFS.f kj62 t808 t811 t812 t770 t773 t774).bind fun t815 => (if t815 = true then (if t813 = t775 then (some true) else (some false)) else (some false))) = some true := H
            have A98 := Aside0.mk A980
            clear A980
            replace H := Option.bind_eq_some_iff.mp H
            obtain ⟨t815, A990, H⟩ := H
            replace H : (if t815 = true then (if t813 = t775 then (some true) else (some false)) else (some false)) = some true := H
            have A99 := Aside0.mk A990
            clear A990
            by_cases c100 : t815 = true
            ·subst c100
             have H1 : (if t813 = t775 then (some true) else (some false)) = some true := by rw [if_pos rfl] at H; exact H
             clear H
             have H := H1
             clear H1
             by_cases c101 : t813 = t775
             ·rw [if_pos c101] at H
              have c101b0 : (t813 == t775) = true := beq_iff_eq.mpr c101
              have c101b1 : (t813 != t775) = false := bne_eq_false_iff_eq.mpr c101
              clear c101
              clear H
              have hnb102 := NB789_763.out
              have hnc102 := NB763_789.out
              have hnb103 := NB789_776.out
              have hnc103 := NB776_789.out
              have hnb104 := NB789_782.out
              have hnc104 := NB782_789.out
              have hcz105_0 : wc.cell? ⟨gb789, 0, none⟩ = some (.slice Ao35 t783.length co35) := (blk_cell BK789.out 0).trans rfl
              have hcz105_1 : wc.cell? ⟨gb789, 1, none⟩ = some (.int .i64 t786) := (blk_cell BK789.out 1).trans rfl
              have hcz105_2 : wc.cell? ⟨gb789, 2, none⟩ = some (.int .i64 t787) := (blk_cell BK789.out 2).trans rfl
              have hfz105_0 := blk_frozen BK789.out 0
              have hfz105_1 := blk_frozen BK789.out 1
              have hfz105_2 := blk_frozen BK789.out 2
              go_wp2_with (first | ((with_reducible refine gate_callee (f := 23) rfl ?_); refine goesL_ (some 71) rfl rfl Try.func23 (by kernel_rfl) rfl #[.agg #[.slice Ao35 t783.length co35, .int .i64 t786, .int .i64 t787], .int .i64 1] rfl (by (try simp only [List.map_toArray, List.map_cons, List.map_nil]); first | done | rfl | (simp only [List.length_drop, List.length_take]; rfl)) ?_; (with_reducible refine (laws_markFS.calls kj62 (fun k_ => some k_ = (.slice Ao35 t783.length co35 : Value).ownBlock) (.slice Ao35 t783.length co35) t783 t786 t787 1 t800 t801 w _ ?side1 ?side2 A93.out).mono ?_); (case side1 => repeat (first | (with_reducible first | exact HB.out | apply below_alloc | apply pw_below_drewN | apply below_drew1 | refine below_set ?_ GE763.out | refine below_set ?_ GE776.out | refine below_set ?_ GE782.out | refine below_set ?_ GE789.out) | exact HB.out)); (case side2 => exact Kd.R_tight rfl HO_790000.out); rintro e w106 ⟨rfl, hy0, hb, hkp⟩; refine ⟨_, rfl, ?_⟩; have n0_ := Aside0.mk (Kd.R_mono (ok' := fun k_ => some k_ ≠ (.slice Ao29 t798.length co29 : Value).ownBlock ∧ some k_ ≠ (.slice Ao35 t783.length co35 : Value).ownBlock) (Kd.R_keptB (HO_777000.out) hkp (fun k_ hk_ hs_ => (hk_.2) hs_)) (fun k_ hk_ => ⟨hk_.1.1, hk_.1.2⟩)); have n1_ := Aside0.mk (Kd.R_mono (ok' := fun k_ => some k_ ≠ (.slice Ao23 t770.length co23 : Value).ownBlock ∧ some k_ ≠ (.slice Ao35 t783.length co35 : Value).ownBlock) (Kd.R_keptB (HO_783000.out) hkp (fun k_ hk_ hs_ => (hk_.2) hs_)) (fun k_ hk_ => ⟨hk_.1.1, hk_.1.2⟩)); have n2_ := Aside0.mk (Kd.R_reok rfl hy0 (fun k_ e_ => HO_790000.out.1 k_ e_)); have n3_ := Aside0.mk (blk_kept (by (with_reducible repeat (first | refine blk_drewN ?_ _ | refine blk_drew ?_ | refine blk_alloc ?_ _)); exact BK763.out) hkp (fun hs_ => (fun e_ => (Kd.R_ne HO_790000.out BK763.out (by decide)) e_) hs_)); have n4_ := Aside0.mk (blk_kept (by (with_reducible repeat (first | refine blk_drewN ?_ _ | refine blk_drew ?_ | refine blk_alloc ?_ _)); exact BK776.out) hkp (fun hs_ => (fun e_ => (Kd.R_ne HO_790000.out BK776.out (by decide)) e_) hs_)); have n5_ := Aside0.mk (blk_kept (by (with_reducible repeat (first | refine blk_drewN ?_ _ | refine blk_drew ?_ | refine blk_alloc ?_ _)); exact BK782.out) hkp (fun hs_ => (fun e_ => (Kd.R_ne HO_790000.out BK782.out (by decide)) e_) hs_)); have n6_ := Aside0.mk (blk_kept (by (with_reducible repeat (first | refine blk_drewN ?_ _ | refine blk_drew ?_ | refine blk_alloc ?_ _)); exact BK789.out) hkp (fun hs_ => (fun e_ => (Kd.R_ne HO_790000.out BK789.out (by decide)) e_) hs_)); have n7_ := Aside0.mk (hb); clear HO_777000; clear HO_783000; clear HO_790000; clear BK763; clear BK776; clear BK782; clear BK789; clear HB; have HO_777000 := n0_; have HO_783000 := n1_; have HO_790000 := n2_; have BK763 := n3_; have BK776 := n4_; have BK782 := n5_; have BK789 := n6_; have HB := n7_; clear n0_ n1_ n2_ n3_ n4_ n5_ n6_ n7_; (try clear hb); (try clear hkp); (try clear hy0); have hcz107_0 : w106.cell? ⟨gb789, 0, none⟩ = some (.slice Ao35 t783.length co35) := (blk_cell BK789.out 0).trans rfl; have hcz107_1 : w106.cell? ⟨gb789, 1, none⟩ = some (.int .i64 t786) := (blk_cell BK789.out 1).trans rfl; have hcz107_2 : w106.cell? ⟨gb789, 2, none⟩ = some (.int .i64 t787) := (blk_cell BK789.out 2).trans rfl; have hfz107_0 := blk_frozen BK789.out 0; have hfz107_1 := blk_frozen BK789.out 1; have hfz107_2 := blk_frozen BK789.out 2) | ((with_reducible refine gate_callee (f := 25) rfl ?_); refine goesL_ (some 74) rfl rfl Try.func25 (by kernel_rfl) rfl #[.agg #[.slice Ao35 t801.length co35, .int .i64 t786, .int .i64 t787], .int .i64 1] rfl (by (try simp only [List.map_toArray, List.map_cons, List.map_nil]); first | done | (rw [show t801.length = t783.length from (Kd.R_reads' HO_790000.out).1.symm] <;> rfl) | rfl | (simp only [List.length_drop, List.length_take]; rfl)) ?_; (with_reducible refine (laws_heldFS.calls kj62 _ _ t801 t786 t787 1 t802 _ ?side1 ?side2 A94.out).mono ?_); (case side1 => repeat (first | exact (Kd.R_reads' HO_790000.out).2.2 | (with_reducible refine Kd.C_alloc ?_ _) | (with_reducible refine Kd.C_drewN ?_ _) | (with_reducible refine Kd.C_drew ?_))); (case side2 => rw [show t801.length = t783.length from (Kd.R_reads' HO_790000.out).1.symm]; exact (Kd.R_reads' HO_790000.out).2.1); rintro e w108 ⟨rfl, hb⟩; refine ⟨_, rfl, ?_⟩; have n0_ := Aside0.mk (Kd.R_below (by (with_reducible repeat (first | apply Kd.R_alloc | apply Kd.R_drewN | apply Kd.R_drew)); exact HO_777000.out) hb); have n1_ := Aside0.mk (Kd.R_below (by (with_reducible repeat (first | apply Kd.R_alloc | apply Kd.R_drewN | apply Kd.R_drew)); exact HO_783000.out) hb); have n2_ := Aside0.mk (Kd.R_below (by (with_reducible repeat (first | apply Kd.R_alloc | apply Kd.R_drewN | apply Kd.R_drew)); exact HO_790000.out) hb); have n3_ := Aside0.mk (blk_below (g := gb763) (o := .cells #[.slice A0_0 l0_0.length c0_0, .int .i64 a0_1, .int .i64 a0_2] 24 (0, 0)) (by (with_reducible repeat (first | refine blk_drewN ?_ _ | refine blk_drew ?_ | refine blk_alloc ?_ _)); exact BK763.out) hb); have n4_ := Aside0.mk (blk_below (g := gb776) (o := .cells #[.slice Ao23 t770.length co23, .int .i64 t773, .int .i64 t774] 29 (0, 0)) (by (with_reducible repeat (first | refine blk_drewN ?_ _ | refine blk_drew ?_ | refine blk_alloc ?_ _)); exact BK776.out) hb); have n5_ := Aside0.mk (blk_below (g := gb782) (o := .cells #[.slice Ao29 t798.length co29, .int .i64 t780, .int .i64 t781] 29 (0, 0)) (by (with_reducible repeat (first | refine blk_drewN ?_ _ | refine blk_drew ?_ | refine blk_alloc ?_ _)); exact BK782.out) hb); have n6_ := Aside0.mk (blk_below (g := gb789) (o := .cells #[.slice Ao35 t783.length co35, .int .i64 t786, .int .i64 t787] 29 (0, 0)) (by (with_reducible repeat (first | refine blk_drewN ?_ _ | refine blk_drew ?_ | refine blk_alloc ?_ _)); exact BK789.out) hb); have n7_ := Aside0.mk (below_step (by repeat (first | (with_reducible first | exact HB.out | apply below_alloc | apply pw_below_drewN | apply below_drew1 | refine below_set ?_ GE763.out | refine below_set ?_ GE776.out | refine below_set ?_ GE782.out | refine below_set ?_ GE789.out) | exact HB.out)) hb); clear HO_777000; clear HO_783000; clear HO_790000; clear BK763; clear BK776; clear BK782; clear BK789; clear HB; have HO_777000 := n0_; have HO_783000 := n1_; have HO_790000 := n2_; have BK763 := n3_; have BK776 := n4_; have BK782 := n5_; have BK789 := n6_; have HB := n7_; clear n0_ n1_ n2_ n3_ n4_ n5_ n6_ n7_; (try clear hb); (try clear hb2); (try clear hk); (try clear hi); have hnb109 := NB763_776.out; have hnc109 := NB776_763.out; have hnb110 := NB763_782.out; have hnc110 := NB782_763.out; have hcz111_0 : w108.cell? ⟨gb763, 0, none⟩ = some (.slice A0_0 l0_0.length c0_0) := (blk_cell BK763.out 0).trans rfl; have hcz111_1 : w108.cell? ⟨gb763, 1, none⟩ = some (.int .i64 a0_1) := (blk_cell BK763.out 1).trans rfl; have hcz111_2 : w108.cell? ⟨gb763, 2, none⟩ = some (.int .i64 a0_2) := (blk_cell BK763.out 2).trans rfl; have hfz111_0 := blk_frozen BK763.out 0; have hfz111_1 := blk_frozen BK763.out 1; have hfz111_2 := blk_frozen BK763.out 2) | ((with_reducible refine gate_callee (f := 14) rfl ?_); refine goesL_ (some 82) rfl rfl Try.func14 (by kernel_rfl) rfl #[.agg #[.slice A0_0 l0_0.length c0_0, .int .i64 a0_1, .int .i64 a0_2]] rfl (by (try simp only [List.map_toArray, List.map_cons, List.map_nil]); first | done | rfl | (simp only [List.length_drop, List.length_take]; rfl)) ?_; (with_reducible refine (laws_toFS.calls kj62 _ _ l0_0 a0_1 a0_2 t803 t806 t807 _ ?side1 ?side2 A97.out).mono ?_); (case side1 => repeat (first | exact (Kd.C_below HR0_0.out HB.out) | (with_reducible refine Kd.C_alloc ?_ _) | (with_reducible refine Kd.C_drewN ?_ _) | (with_reducible refine Kd.C_drew ?_))); (case side2 => exact HC0_0.out); rintro e w112 ⟨v804, rfl, ho0, hb⟩; refine ⟨_, rfl, ?_⟩; have n0_ := Aside0.mk (Kd.R_elder' (by (with_reducible repeat (first | apply Kd.R_alloc | apply Kd.R_drewN | apply Kd.R_drew)); exact HO_777000.out) (Kd.R_base ho0) hb); have n1_ := Aside0.mk (Kd.R_elder' (by (with_reducible repeat (first | apply Kd.R_alloc | apply Kd.R_drewN | apply Kd.R_drew)); exact HO_783000.out) (Kd.R_base ho0) hb); have n2_ := Aside0.mk (Kd.R_elder' (by (with_reducible repeat (first | apply Kd.R_alloc | apply Kd.R_drewN | apply Kd.R_drew)); exact HO_790000.out) (Kd.R_base ho0) hb); have n3_ := Aside0.mk (Kd.R_lower (Kd.R_new' (Kd.R_new' (Kd.R_new' ho0 (Kd.R_lt (by (with_reducible repeat (first | apply Kd.R_alloc | apply Kd.R_drewN | apply Kd.R_drew)); exact HO_777000.out))) (Kd.R_lt (by (with_reducible repeat (first | apply Kd.R_alloc | apply Kd.R_drewN | apply Kd.R_drew)); exact HO_783000.out))) (Kd.R_lt (by (with_reducible repeat (first | apply Kd.R_alloc | apply Kd.R_drewN | apply Kd.R_drew)); exact HO_790000.out))) (below_size (by repeat (first | (with_reducible first | exact HB.out | apply below_alloc | apply pw_below_drewN | apply below_drew1 | refine below_set ?_ GE763.out | refine below_set ?_ GE776.out | refine below_set ?_ GE782.out | refine below_set ?_ GE789.out) | exact HB.out)))); have n4_ := Aside0.mk (blk_below (g := gb763) (o := .cells #[.slice A0_0 l0_0.length c0_0, .int .i64 a0_1, .int .i64 a0_2] 24 (0, 0)) (by (with_reducible repeat (first | refine blk_drewN ?_ _ | refine blk_drew ?_ | refine blk_alloc ?_ _)); exact BK763.out) hb); have n5_ := Aside0.mk (blk_below (g := gb776) (o := .cells #[.slice Ao23 t770.length co23, .int .i64 t773, .int .i64 t774] 29 (0, 0)) (by (with_reducible repeat (first | refine blk_drewN ?_ _ | refine blk_drew ?_ | refine blk_alloc ?_ _)); exact BK776.out) hb); have n6_ := Aside0.mk (blk_below (g := gb782) (o := .cells #[.slice Ao29 t798.length co29, .int .i64 t780, .int .i64 t781] 29 (0, 0)) (by (with_reducible repeat (first | refine blk_drewN ?_ _ | refine blk_drew ?_ | refine blk_alloc ?_ _)); exact BK782.out) hb); have n7_ := Aside0.mk (blk_below (g := gb789) (o := .cells #[.slice Ao35 t783.length co35, .int .i64 t786, .int .i64 t787] 29 (0, 0)) (by (with_reducible repeat (first | refine blk_drewN ?_ _ | refine blk_drew ?_ | refine blk_alloc ?_ _)); exact BK789.out) hb); have n8_ := Aside0.mk (below_step (by repeat (first | (with_reducible first | exact HB.out | apply below_alloc | apply pw_below_drewN | apply below_drew1 | refine below_set ?_ GE763.out | refine below_set ?_ GE776.out | refine below_set ?_ GE782.out | refine below_set ?_ GE789.out) | exact HB.out)) hb); clear HO_777000; clear HO_783000; clear HO_790000; clear BK763; clear BK776; clear BK782; clear BK789; clear HB; have HO_777000 := n0_; have HO_783000 := n1_; have HO_790000 := n2_; have HO805 := n3_; have BK763 := n4_; have BK776 := n5_; have BK782 := n6_; have BK789 := n7_; have HB := n8_; clear n0_ n1_ n2_ n3_ n4_ n5_ n6_ n7_ n8_; (try clear hb); (try clear hb2); (try clear hk); (try clear hi); (try clear ho0); obtain ⟨Ao113, co113, eo113⟩ := Kd.R_slice HO805.out; subst eo113) | ((with_reducible refine gate_callee (f := 36) rfl ?_); refine goesL_ (some 84) rfl rfl Try.func36 (by kernel_rfl) rfl #[.agg #[.slice Ao113 t803.length co113, .int .i64 t806, .int .i64 t807], .string a1] rfl (by (try simp only [List.map_toArray, List.map_cons, List.map_nil]); first | done | rfl | (simp only [List.length_drop, List.length_take]; rfl)) ?_; (with_reducible refine (impl_FsCreate.calls _ _ t803 t806 t807 a1 t808 t811 t812 t813 _ ?side1 ?side2 A98.out).mono ?_); (case side1 => repeat (first | exact (Kd.R_reads' HO805.out).2.2 | (with_reducible refine Kd.C_alloc ?_ _) | (with_reducible refine Kd.C_drewN ?_ _) | (with_reducible refine Kd.C_drew ?_))); (case side2 => exact (Kd.R_reads' HO805.out).2.1); rintro e w114 ⟨v809, rfl, ho0, hb⟩; refine ⟨_, rfl, ?_⟩; have n0_ := Aside0.mk (Kd.R_elder' (by (with_reducible repeat (first | apply Kd.R_alloc | apply Kd.R_drewN | apply Kd.R_drew)); exact HO_777000.out) (Kd.R_base ho0) hb); have n1_ := Aside0.mk (Kd.R_elder' (by (with_reducible repeat (first | apply Kd.R_alloc | apply Kd.R_drewN | apply Kd.R_drew)); exact HO_783000.out) (Kd.R_base ho0) hb); have n2_ := Aside0.mk (Kd.R_elder' (by (with_reducible repeat (first | apply Kd.R_alloc | apply Kd.R_drewN | apply Kd.R_drew)); exact HO_790000.out) (Kd.R_base ho0) hb); have n3_ := Aside0.mk (Kd.R_elder' (by (with_reducible repeat (first | apply Kd.R_alloc | apply Kd.R_drewN | apply Kd.R_drew)); exact HO805.out) (Kd.R_base ho0) hb); have n4_ := Aside0.mk (Kd.R_lower (Kd.R_new' (Kd.R_new' (Kd.R_new' (Kd.R_new' ho0 (Kd.R_lt (by (with_reducible repeat (first | apply Kd.R_alloc | apply Kd.R_drewN | apply Kd.R_drew)); exact HO_777000.out))) (Kd.R_lt (by (with_reducible repeat (first | apply Kd.R_alloc | apply Kd.R_drewN | apply Kd.R_drew)); exact HO_783000.out))) (Kd.R_lt (by (with_reducible repeat (first | apply Kd.R_alloc | apply Kd.R_drewN | apply Kd.R_drew)); exact HO_790000.out))) (Kd.R_lt (by (with_reducible repeat (first | apply Kd.R_alloc | apply Kd.R_drewN | apply Kd.R_drew)); exact HO805.out))) (below_size (by repeat (first | (with_reducible first | exact HB.out | apply below_alloc | apply pw_below_drewN | apply below_drew1 | refine below_set ?_ GE763.out | refine below_set ?_ GE776.out | refine below_set ?_ GE782.out | refine below_set ?_ GE789.out) | exact HB.out)))); have n5_ := Aside0.mk (blk_below (g := gb763) (o := .cells #[.slice A0_0 l0_0.length c0_0, .int .i64 a0_1, .int .i64 a0_2] 24 (0, 0)) (by (with_reducible repeat (first | refine blk_drewN ?_ _ | refine blk_drew ?_ | refine blk_alloc ?_ _)); exact BK763.out) hb); have n6_ := Aside0.mk (blk_below (g := gb776) (o := .cells #[.slice Ao23 t770.length co23, .int .i64 t773, .int .i64 t774] 29 (0, 0)) (by (with_reducible repeat (first | refine blk_drewN ?_ _ | refine blk_drew ?_ | refine blk_alloc ?_ _)); exact BK776.out) hb); have n7_ := Aside0.mk (blk_below (g := gb782) (o := .cells #[.slice Ao29 t798.length co29, .int .i64 t780, .int .i64 t781] 29 (0, 0)) (by (with_reducible repeat (first | refine blk_drewN ?_ _ | refine blk_drew ?_ | refine blk_alloc ?_ _)); exact BK782.out) hb); have n8_ := Aside0.mk (blk_below (g := gb789) (o := .cells #[.slice Ao35 t783.length co35, .int .i64 t786, .int .i64 t787] 29 (0, 0)) (by (with_reducible repeat (first | refine blk_drewN ?_ _ | refine blk_drew ?_ | refine blk_alloc ?_ _)); exact BK789.out) hb); have n9_ := Aside0.mk (below_step (by repeat (first | (with_reducible first | exact HB.out | apply below_alloc | apply pw_below_drewN | apply below_drew1 | refine below_set ?_ GE763.out | refine below_set ?_ GE776.out | refine below_set ?_ GE782.out | refine below_set ?_ GE789.out) | exact HB.out)) hb); clear HO_777000; clear HO_783000; clear HO_790000; clear HO805; clear BK763; clear BK776; clear BK782; clear BK789; clear HB; have HO_777000 := n0_; have HO_783000 := n1_; have HO_790000 := n2_; have HO805 := n3_; have HO810 := n4_; have BK763 := n5_; have BK776 := n6_; have BK782 := n7_; have BK789 := n8_; have HB := n9_; clear n0_ n1_ n2_ n3_ n4_ n5_ n6_ n7_ n8_ n9_; (try clear hb); (try clear hb2); (try clear hk); (try clear hi); (try clear ho0)) | ((with_reducible refine gate_dst (N := 14) rfl ?_); refine box_event ?hg (N := 14) ?hd (cs := #[.slice none 0 0, .int .i64 0, .int .i64 0]) (t := 29) ?hr ?_; (case hd => rfl); (case hg => rfl); (case hr => first | (go_simp; done) | (go_simp; rfl)); intro gb814 hg w115 hbox hb; have n0_ := Aside0.mk (Kd.R_below (by (with_reducible repeat (first | apply Kd.R_alloc | apply Kd.R_drewN | apply Kd.R_drew)); exact HO_777000.out) hb); have n1_ := Aside0.mk (Kd.R_below (by (with_reducible repeat (first | apply Kd.R_alloc | apply Kd.R_drewN | apply Kd.R_drew)); exact HO_783000.out) hb); have n2_ := Aside0.mk (Kd.R_below (by (with_reducible repeat (first | apply Kd.R_alloc | apply Kd.R_drewN | apply Kd.R_drew)); exact HO_790000.out) hb); have n3_ := Aside0.mk (Kd.R_below (by (with_reducible repeat (first | apply Kd.R_alloc | apply Kd.R_drewN | apply Kd.R_drew)); exact HO805.out) hb); have n4_ := Aside0.mk (Kd.R_below (by (with_reducible repeat (first | apply Kd.R_alloc | apply Kd.R_drewN | apply Kd.R_drew)); exact HO810.out) hb); have n5_ := Aside0.mk (blk_below (g := gb763) (o := .cells #[.slice A0_0 l0_0.length c0_0, .int .i64 a0_1, .int .i64 a0_2] 24 (0, 0)) (by (with_reducible repeat (first | refine blk_drewN ?_ _ | refine blk_drew ?_ | refine blk_alloc ?_ _)); exact BK763.out) hb); have n6_ := Aside0.mk (blk_below (g := gb776) (o := .cells #[.slice Ao23 t770.length co23, .int .i64 t773, .int .i64 t774] 29 (0, 0)) (by (with_reducible repeat (first | refine blk_drewN ?_ _ | refine blk_drew ?_ | refine blk_alloc ?_ _)); exact BK776.out) hb); have n7_ := Aside0.mk (blk_below (g := gb782) (o := .cells #[.slice Ao29 t798.length co29, .int .i64 t780, .int .i64 t781] 29 (0, 0)) (by (with_reducible repeat (first | refine blk_drewN ?_ _ | refine blk_drew ?_ | refine blk_alloc ?_ _)); exact BK782.out) hb); have n8_ := Aside0.mk (blk_below (g := gb789) (o := .cells #[.slice Ao35 t783.length co35, .int .i64 t786, .int .i64 t787] 29 (0, 0)) (by (with_reducible repeat (first | refine blk_drewN ?_ _ | refine blk_drew ?_ | refine blk_alloc ?_ _)); exact BK789.out) hb); have n9_ := Aside0.mk (below_step (by repeat (first | (with_reducible first | exact HB.out | apply below_alloc | apply pw_below_drewN | apply below_drew1 | refine below_set ?_ GE763.out | refine below_set ?_ GE776.out | refine below_set ?_ GE782.out | refine below_set ?_ GE789.out) | exact HB.out)) hb); have n10_ := Aside0.mk (hbox); have n11_ := Aside0.mk ((by rw [hg]; exact (below_size (by repeat (first | (with_reducible first | exact HB.out | apply below_alloc | apply pw_below_drewN | apply below_drew1 | refine below_set ?_ GE763.out | refine below_set ?_ GE776.out | refine below_set ?_ GE782.out | refine below_set ?_ GE789.out) | exact HB.out))) : w.heap.size ≤ gb814)); have n12_ := Aside0.mk ((by rw [hg]; exact (below_size (by repeat (first | (with_reducible first | exact HB.out | apply below_alloc | apply pw_below_drewN | apply below_drew1 | refine below_set ?_ GE763.out | refine below_set ?_ GE776.out | refine below_set ?_ GE782.out | refine below_set ?_ GE789.out) | exact HB.out))) : w.heap.size ≤ gb814)); have n13_ := Aside0.mk ((by rw [hg]; exact Nat.ne_of_lt (blk_lt (g := gb763) (o := .cells #[.slice A0_0 l0_0.length c0_0, .int .i64 a0_1, .int .i64 a0_2] 24 (0, 0)) (by (with_reducible repeat (first | refine blk_drewN ?_ _ | refine blk_drew ?_ | refine blk_alloc ?_ _)); exact BK763.out)) : gb763 ≠ gb814)); have n14_ := Aside0.mk ((by rw [hg]; exact Nat.ne_of_gt (blk_lt (g := gb763) (o := .cells #[.slice A0_0 l0_0.length c0_0, .int .i64 a0_1, .int .i64 a0_2] 24 (0, 0)) (by (with_reducible repeat (first | refine blk_drewN ?_ _ | refine blk_drew ?_ | refine blk_alloc ?_ _)); exact BK763.out)) : gb814 ≠ gb763)); have n15_ := Aside0.mk ((by rw [hg]; exact Nat.ne_of_lt (blk_lt (g := gb776) (o := .cells #[.slice Ao23 t770.length co23, .int .i64 t773, .int .i64 t774] 29 (0, 0)) (by (with_reducible repeat (first | refine blk_drewN ?_ _ | refine blk_drew ?_ | refine blk_alloc ?_ _)); exact BK776.out)) : gb776 ≠ gb814)); have n16_ := Aside0.mk ((by rw [hg]; exact Nat.ne_of_gt (blk_lt (g := gb776) (o := .cells #[.slice Ao23 t770.length co23, .int .i64 t773, .int .i64 t774] 29 (0, 0)) (by (with_reducible repeat (first | refine blk_drewN ?_ _ | refine blk_drew ?_ | refine blk_alloc ?_ _)); exact BK776.out)) : gb814 ≠ gb776)); have n17_ := Aside0.mk ((by rw [hg]; exact Nat.ne_of_lt (blk_lt (g := gb782) (o := .cells #[.slice Ao29 t798.length co29, .int .i64 t780, .int .i64 t781] 29 (0, 0)) (by (with_reducible repeat (first | refine blk_drewN ?_ _ | refine blk_drew ?_ | refine blk_alloc ?_ _)); exact BK782.out)) : gb782 ≠ gb814)); have n18_ := Aside0.mk ((by rw [hg]; exact Nat.ne_of_gt (blk_lt (g := gb782) (o := .cells #[.slice Ao29 t798.length co29, .int .i64 t780, .int .i64 t781] 29 (0, 0)) (by (with_reducible repeat (first | refine blk_drewN ?_ _ | refine blk_drew ?_ | refine blk_alloc ?_ _)); exact BK782.out)) : gb814 ≠ gb782)); have n19_ := Aside0.mk ((by rw [hg]; exact Nat.ne_of_lt (blk_lt (g := gb789) (o := .cells #[.slice Ao35 t783.length co35, .int .i64 t786, .int .i64 t787] 29 (0, 0)) (by (with_reducible repeat (first | refine blk_drewN ?_ _ | refine blk_drew ?_ | refine blk_alloc ?_ _)); exact BK789.out)) : gb789 ≠ gb814)); have n20_ := Aside0.mk ((by rw [hg]; exact Nat.ne_of_gt (blk_lt (g := gb789) (o := .cells #[.slice Ao35 t783.length co35, .int .i64 t786, .int .i64 t787] 29 (0, 0)) (by (with_reducible repeat (first | refine blk_drewN ?_ _ | refine blk_drew ?_ | refine blk_alloc ?_ _)); exact BK789.out)) : gb814 ≠ gb789)); clear HO_777000; clear HO_783000; clear HO_790000; clear HO805; clear HO810; clear BK763; clear BK776; clear BK782; clear BK789; clear HB; have HO_777000 := n0_; have HO_783000 := n1_; have HO_790000 := n2_; have HO805 := n3_; have HO810 := n4_; have BK763 := n5_; have BK776 := n6_; have BK782 := n7_; have BK789 := n8_; have HB := n9_; have BK814 := n10_; have GW814 := n11_; have GE814 := n12_; have NB763_814 := n13_; have NB814_763 := n14_; have NB776_814 := n15_; have NB814_776 := n16_; have NB782_814 := n17_; have NB814_782 := n18_; have NB789_814 := n19_; have NB814_789 := n20_; clear n0_ n1_ n2_ n3_ n4_ n5_ n6_ n7_ n8_ n9_ n10_ n11_ n12_ n13_ n14_ n15_ n16_ n17_ n18_ n19_ n20_; clear hb hbox hg; obtain ⟨Ao116, co116, eo116⟩ := Kd.R_slice HO810.out; subst eo116; have hnb117 := NB814_763.out; have hnc117 := NB763_814.out; have hnb118 := NB814_776.out; have hnc118 := NB776_814.out; have hnb119 := NB814_782.out; have hnc119 := NB782_814.out; have hnb120 := NB814_789.out; have hnc120 := NB789_814.out; have hcz121_0 : w115.cell? ⟨gb814, 0, none⟩ = some (.slice none 0 0) := (blk_cell BK814.out 0).trans rfl; have hcz121_1 : w115.cell? ⟨gb814, 1, none⟩ = some (.int .i64 0) := (blk_cell BK814.out 1).trans rfl; have hcz121_2 : w115.cell? ⟨gb814, 2, none⟩ = some (.int .i64 0) := (blk_cell BK814.out 2).trans rfl; have hfz121_0 := blk_frozen BK814.out 0; have hfz121_1 := blk_frozen BK814.out 1; have hfz121_2 := blk_frozen BK814.out 2; have hnb122 := NB776_782.out; have hnc122 := NB782_776.out; have hcz123_0 : w115.cell? ⟨gb776, 0, none⟩ = some (.slice Ao23 t770.length co23) := (blk_cell BK776.out 0).trans rfl; have hcz123_1 : w115.cell? ⟨gb776, 1, none⟩ = some (.int .i64 t773) := (blk_cell BK776.out 1).trans rfl; have hcz123_2 : w115.cell? ⟨gb776, 2, none⟩ = some (.int .i64 t774) := (blk_cell BK776.out 2).trans rfl; have hfz123_0 := blk_frozen BK776.out 0; have hfz123_1 := blk_frozen BK776.out 1; have hfz123_2 := blk_frozen BK776.out 2) | ((with_reducible refine gate_callee (f := 16) rfl ?_); refine goesL_ (some 89) rfl rfl Try.func16 (by kernel_rfl) rfl #[.agg #[.slice Ao116 t808.length co116, .int .i64 t811, .int .i64 t812], .agg #[.slice Ao23 t770.length co23, .int .i64 t773, .int .i64 t774]] rfl (by (try simp only [List.map_toArray, List.map_cons, List.map_nil]); first | done | rfl | (simp only [List.length_drop, List.length_take]; rfl)) ?_; (with_reducible refine (laws_eqFS.calls kj62 _ _ t808 t811 t812 _ _ t770 t773 t774 true _ ?side1 ?side2 ?side3 ?side4 A99.out).mono ?_); (case side1 => refine (Kd.R_reads' (e := 52) (base := w.heap.size) (ok := fun k_ => ((((True ∧ some k_ ≠ (.slice Ao23 t770.length co23 : Value).ownBlock) ∧ some k_ ≠ (.slice Ao29 t798.length co29 : Value).ownBlock) ∧ some k_ ≠ (.slice Ao35 t783.length co35 : Value).ownBlock) ∧ some k_ ≠ (.slice Ao113 t803.length co113 : Value).ownBlock)) (n := t808.length) (c := co116) ?_).2.2; exact (by (with_reducible repeat (first | apply Kd.R_alloc | apply Kd.R_drewN | apply Kd.R_drew)); exact (Kd.R_mono (Kd.R_far (p := ⟨gb814, 2, none⟩) (Kd.R_far (p := ⟨gb814, 1, none⟩) (Kd.R_far (p := ⟨gb814, 0, none⟩) (Kd.R_types HO810.out BK814.out (by decide)) (fun _ hk => hk.2) (.slice Ao116 t808.length co116)) (fun _ hk => hk.2) (.int .i64 t811)) (fun _ hk => hk.2) (.int .i64 t812)) (fun _ h_ => h_.1)))); (case side2 => exact (Kd.R_reads' HO810.out).2.1); (case side3 => refine (Kd.R_reads' (e := 52) (base := w.heap.size) (ok := fun k_ => (((some k_ ≠ (.slice Ao29 t798.length co29 : Value).ownBlock ∧ some k_ ≠ (.slice Ao35 t783.length co35 : Value).ownBlock) ∧ some k_ ≠ (.slice Ao113 t803.length co113 : Value).ownBlock) ∧ some k_ ≠ (.slice Ao116 t808.length co116 : Value).ownBlock)) (n := t770.length) (c := co23) ?_).2.2; exact (by (with_reducible repeat (first | apply Kd.R_alloc | apply Kd.R_drewN | apply Kd.R_drew)); exact (Kd.R_mono (Kd.R_far (p := ⟨gb814, 2, none⟩) (Kd.R_far (p := ⟨gb814, 1, none⟩) (Kd.R_far (p := ⟨gb814, 0, none⟩) (Kd.R_types HO_777000.out BK814.out (by decide)) (fun _ hk => hk.2) (.slice Ao116 t808.length co116)) (fun _ hk => hk.2) (.int .i64 t811)) (fun _ hk => hk.2) (.int .i64 t812)) (fun _ h_ => h_.1)))); (case side4 => exact (Kd.R_reads' HO_777000.out).2.1); rintro e w124 ⟨rfl, hb⟩; refine ⟨_, rfl, ?_⟩; have n0_ := Aside0.mk (Kd.R_below (by (with_reducible repeat (first | apply Kd.R_alloc | apply Kd.R_drewN | apply Kd.R_drew)); exact (Kd.R_mono (Kd.R_far (p := ⟨gb814, 2, none⟩) (Kd.R_far (p := ⟨gb814, 1, none⟩) (Kd.R_far (p := ⟨gb814, 0, none⟩) (Kd.R_types HO_777000.out BK814.out (by decide)) (fun _ hk => hk.2) (.slice Ao116 t808.length co116)) (fun _ hk => hk.2) (.int .i64 t811)) (fun _ hk => hk.2) (.int .i64 t812)) (fun _ h_ => h_.1))) hb); have n1_ := Aside0.mk (Kd.R_below (by (with_reducible repeat (first | apply Kd.R_alloc | apply Kd.R_drewN | apply Kd.R_drew)); exact (Kd.R_mono (Kd.R_far (p := ⟨gb814, 2, none⟩) (Kd.R_far (p := ⟨gb814, 1, none⟩) (Kd.R_far (p := ⟨gb814, 0, none⟩) (Kd.R_types HO_783000.out BK814.out (by decide)) (fun _ hk => hk.2) (.slice Ao116 t808.length co116)) (fun _ hk => hk.2) (.int .i64 t811)) (fun _ hk => hk.2) (.int .i64 t812)) (fun _ h_ => h_.1))) hb); have n2_ := Aside0.mk (Kd.R_below (by (with_reducible repeat (first | apply Kd.R_alloc | apply Kd.R_drewN | apply Kd.R_drew)); exact (Kd.R_mono (Kd.R_far (p := ⟨gb814, 2, none⟩) (Kd.R_far (p := ⟨gb814, 1, none⟩) (Kd.R_far (p := ⟨gb814, 0, none⟩) (Kd.R_types HO_790000.out BK814.out (by decide)) (fun _ hk => hk.2) (.slice Ao116 t808.length co116)) (fun _ hk => hk.2) (.int .i64 t811)) (fun _ hk => hk.2) (.int .i64 t812)) (fun _ h_ => h_.1))) hb); have n3_ := Aside0.mk (Kd.R_below (by (with_reducible repeat (first | apply Kd.R_alloc | apply Kd.R_drewN | apply Kd.R_drew)); exact (Kd.R_mono (Kd.R_far (p := ⟨gb814, 2, none⟩) (Kd.R_far (p := ⟨gb814, 1, none⟩) (Kd.R_far (p := ⟨gb814, 0, none⟩) (Kd.R_types HO805.out BK814.out (by decide)) (fun _ hk => hk.2) (.slice Ao116 t808.length co116)) (fun _ hk => hk.2) (.int .i64 t811)) (fun _ hk => hk.2) (.int .i64 t812)) (fun _ h_ => h_.1))) hb); have n4_ := Aside0.mk (Kd.R_below (by (with_reducible repeat (first | apply Kd.R_alloc | apply Kd.R_drewN | apply Kd.R_drew)); exact (Kd.R_mono (Kd.R_far (p := ⟨gb814, 2, none⟩) (Kd.R_far (p := ⟨gb814, 1, none⟩) (Kd.R_far (p := ⟨gb814, 0, none⟩) (Kd.R_types HO810.out BK814.out (by decide)) (fun _ hk => hk.2) (.slice Ao116 t808.length co116)) (fun _ hk => hk.2) (.int .i64 t811)) (fun _ hk => hk.2) (.int .i64 t812)) (fun _ h_ => h_.1))) hb); have n5_ := Aside0.mk (blk_below (g := gb763) (o := .cells #[.slice A0_0 l0_0.length c0_0, .int .i64 a0_1, .int .i64 a0_2] 24 (0, 0)) (by (with_reducible repeat (first | refine blk_drewN ?_ _ | refine blk_drew ?_ | refine blk_alloc ?_ _)); refine blk_far ?_ NB763_814.out _; (with_reducible repeat (first | refine blk_drewN ?_ _ | refine blk_drew ?_ | refine blk_alloc ?_ _)); refine blk_far ?_ NB763_814.out _; (with_reducible repeat (first | refine blk_drewN ?_ _ | refine blk_drew ?_ | refine blk_alloc ?_ _)); refine blk_far ?_ NB763_814.out _; (with_reducible repeat (first | refine blk_drewN ?_ _ | refine blk_drew ?_ | refine blk_alloc ?_ _)); exact BK763.out) hb); have n6_ := Aside0.mk (blk_below (g := gb776) (o := .cells #[.slice Ao23 t770.length co23, .int .i64 t773, .int .i64 t774] 29 (0, 0)) (by (with_reducible repeat (first | refine blk_drewN ?_ _ | refine blk_drew ?_ | refine blk_alloc ?_ _)); refine blk_far ?_ NB776_814.out _; (with_reducible repeat (first | refine blk_drewN ?_ _ | refine blk_drew ?_ | refine blk_alloc ?_ _)); refine blk_far ?_ NB776_814.out _; (with_reducible repeat (first | refine blk_drewN ?_ _ | refine blk_drew ?_ | refine blk_alloc ?_ _)); refine blk_far ?_ NB776_814.out _; (with_reducible repeat (first | refine blk_drewN ?_ _ | refine blk_drew ?_ | refine blk_alloc ?_ _)); exact BK776.out) hb); have n7_ := Aside0.mk (blk_below (g := gb782) (o := .cells #[.slice Ao29 t798.length co29, .int .i64 t780, .int .i64 t781] 29 (0, 0)) (by (with_reducible repeat (first | refine blk_drewN ?_ _ | refine blk_drew ?_ | refine blk_alloc ?_ _)); refine blk_far ?_ NB782_814.out _; (with_reducible repeat (first | refine blk_drewN ?_ _ | refine blk_drew ?_ | refine blk_alloc ?_ _)); refine blk_far ?_ NB782_814.out _; (with_reducible repeat (first | refine blk_drewN ?_ _ | refine blk_drew ?_ | refine blk_alloc ?_ _)); refine blk_far ?_ NB782_814.out _; (with_reducible repeat (first | refine blk_drewN ?_ _ | refine blk_drew ?_ | refine blk_alloc ?_ _)); exact BK782.out) hb); have n8_ := Aside0.mk (blk_below (g := gb789) (o := .cells #[.slice Ao35 t783.length co35, .int .i64 t786, .int .i64 t787] 29 (0, 0)) (by (with_reducible repeat (first | refine blk_drewN ?_ _ | refine blk_drew ?_ | refine blk_alloc ?_ _)); refine blk_far ?_ NB789_814.out _; (with_reducible repeat (first | refine blk_drewN ?_ _ | refine blk_drew ?_ | refine blk_alloc ?_ _)); refine blk_far ?_ NB789_814.out _; (with_reducible repeat (first | refine blk_drewN ?_ _ | refine blk_drew ?_ | refine blk_alloc ?_ _)); refine blk_far ?_ NB789_814.out _; (with_reducible repeat (first | refine blk_drewN ?_ _ | refine blk_drew ?_ | refine blk_alloc ?_ _)); exact BK789.out) hb); have n9_ := Aside0.mk (blk_below (g := gb814) (o := .cells #[.slice Ao116 t808.length co116, .int .i64 t811, .int .i64 t812] 29 (0, 0)) (by (with_reducible repeat (first | refine blk_drewN ?_ _ | refine blk_drew ?_ | refine blk_alloc ?_ _)); refine blk_put (cs := #[.slice Ao116 t808.length co116, .int .i64 t811, .int .i64 0]) ?_ 2 _ rfl; (with_reducible repeat (first | refine blk_drewN ?_ _ | refine blk_drew ?_ | refine blk_alloc ?_ _)); refine blk_put (cs := #[.slice Ao116 t808.length co116, .int .i64 0, .int .i64 0]) ?_ 1 _ rfl; (with_reducible repeat (first | refine blk_drewN ?_ _ | refine blk_drew ?_ | refine blk_alloc ?_ _)); refine blk_put (cs := #[.slice none 0 0, .int .i64 0, .int .i64 0]) ?_ 0 _ rfl; (with_reducible repeat (first | refine blk_drewN ?_ _ | refine blk_drew ?_ | refine blk_alloc ?_ _)); exact BK814.out) hb); have n10_ := Aside0.mk (below_step (by repeat (first | (with_reducible first | exact HB.out | apply below_alloc | apply pw_below_drewN | apply below_drew1 | refine below_set ?_ GE763.out | refine below_set ?_ GE776.out | refine below_set ?_ GE782.out | refine below_set ?_ GE789.out | refine below_set ?_ GE814.out) | exact HB.out)) hb); clear HO_777000; clear HO_783000; clear HO_790000; clear HO805; clear HO810; clear BK763; clear BK776; clear BK782; clear BK789; clear BK814; clear HB; have HO_777000 := n0_; have HO_783000 := n1_; have HO_790000 := n2_; have HO805 := n3_; have HO810 := n4_; have BK763 := n5_; have BK776 := n6_; have BK782 := n7_; have BK789 := n8_; have BK814 := n9_; have HB := n10_; clear n0_ n1_ n2_ n3_ n4_ n5_ n6_ n7_ n8_ n9_ n10_; (try clear hb); (try clear hb2); (try clear hk); (try clear hi)))
              go_ret
              exact ⟨by first | rfl | (simp [errW_none, errW_some] <;> rfl) | (simp [*, errW_none, errW_some] <;> rfl), by repeat (first | (with_reducible first | exact HB.out | apply below_alloc | apply pw_below_drewN | apply below_drew1 | refine below_set ?_ GE763.out | refine below_set ?_ GE776.out | refine below_set ?_ GE782.out | refine below_set ?_ GE789.out | refine below_set ?_ GE814.out) | exact HB.out)⟩
             ·rw [if_neg c101] at H
              have c101b0 : (t813 == t775) = false := beq_eq_false_iff_ne.mpr c101
              have c101b1 : (t813 != t775) = true := bne_iff_ne.mpr c101
              exact absurd H (by simp)
            ·replace c100 := Bool.eq_false_iff.mpr c100
             subst c100
             have H1 : (some false) = some true := by rw [if_neg (show ¬ (false = true) by decide)] at H; exact H
             clear H
             have H := H1
             clear H1
             exact absurd H (by simp)
           ·rw [if_neg c96] at H
            have c96b0 : (t802 == t800) = false := beq_eq_false_iff_ne.mpr c96
            have c96b1 : (t802 != t800) = true := bne_iff_ne.mpr c96
            exact absurd H (by simp)
      ·replace c61 := Bool.eq_false_iff.mpr c61
       subst c61
       have H1 : (some false) = some true := by rw [if_neg (show ¬ (false = true) by decide)] at H; exact H
       clear H
       have H := H1
       clear H1
       exact absurd H (by simp)

end Go.Proofs.Ytbppijlcmeidaaa.P
end

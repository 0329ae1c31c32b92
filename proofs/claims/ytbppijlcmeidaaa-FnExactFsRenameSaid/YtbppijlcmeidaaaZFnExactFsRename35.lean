/- Texts of the claim FnExactFsRename, part 35 of 36, joined: PlawsFnExactFsRename. No condition beyond those that stand at each. -/
import Derived.Test.YtbppijlcmeidaaaZFnExactFsRename25
import Derived.Test.YtbppijlcmeidaaaZFnExactFsRename29
import Derived.Test.YtbppijlcmeidaaaZFnExactFsRename26
import Derived.Test.YtbppijlcmeidaaaZFnExactFsRename30
import Derived.Test.YtbppijlcmeidaaaZFnExactFsRename34
section
-- Written by a changed copy of the print program, one module a function. Not trusted: Lean checks it.
namespace Go.Proofs.Ytbppijlcmeidaaa.P
open Go.RowKit Go.Proofs.YtbppijlcmeidaaaW.PrintWords Go.Proofs.YtbppijlcmeidaaaW.PrintLast Go.Proofs.YtbppijlcmeidaaaW.PrintMore
attribute [local go_sem] max2_int min2_int max_two min_two max_three min_three max_four min_four   -- for this text's walks alone
set_option linter.unusedVariables false
set_option linter.unusedSimpArgs false

/-! ### laws_FnExactFsRename: function 11 -/
mutual
def laws_FnExactFsRename.j0 : Nat → ByteArray → ByteArray → Int → Int → Bool → List (S80) → Int → Int → List (S52) → Int → Int → List (S52) → Int → Int → List (S52) → Int → Int → Option (Bool)
 | 0, _, _, _, _, _, _, _, _, _, _, _, _, _, _, _, _, _ => none
 | k + 1, x1, x2, x9, x12, x54, x837000, x837001, x837002, x850000, x850001, x850002, x856000, x856001, x856002, x863000, x863001, x863002 => if x54 = true then (some false) else ((laws_toFS.f k x837000 x837001 x837002).bind fun bt864 => ((laws_eqFS.f k x856000 x856001 x856002 bt864.1 bt864.2.1 bt864.2.2).bind fun t869 => (if t869 = true then ((laws_markFS.f k x856000 x856001 x856002 1).bind fun bt870 => (if bt870.1 < 0 then (laws_FnExactFsRename.j1 k x1 x2 x9 true x837000 x837001 x837002 x850000 x850001 x850002 x863000 x863001 x863002) else ((laws_eqFS.f k x863000 x863001 x863002 x850000 x850001 x850002).bind fun t872 => (if t872 = true then (laws_FnExactFsRename.j1 k x1 x2 x9 (x12 != x9) x837000 x837001 x837002 x850000 x850001 x850002 x863000 x863001 x863002) else (laws_FnExactFsRename.j1 k x1 x2 x9 true x837000 x837001 x837002 x850000 x850001 x850002 x863000 x863001 x863002))))) else (some false))))
def laws_FnExactFsRename.j1 : Nat → ByteArray → ByteArray → Int → Bool → List (S80) → Int → Int → List (S52) → Int → Int → List (S52) → Int → Int → Option (Bool)
 | 0, _, _, _, _, _, _, _, _, _, _, _, _, _ => none
 | k + 1, x1, x2, x9, x75, x837000, x837001, x837002, x850000, x850001, x850002, x863000, x863001, x863002 => if x75 = true then (some false) else ((laws_markFS.f k x863000 x863001 x863002 1).bind fun bt873 => ((laws_heldFS.f k bt873.2 x863001 x863002 1).bind fun t875 => (if t875 < 0 then (some false) else (if t875 = bt873.1 then ((laws_toFS.f k x837000 x837001 x837002).bind fun bt876 => ((impl_FsRename.f bt876.1 bt876.2.1 bt876.2.2 x1 x2).bind fun bt881 => ((laws_eqFS.f k bt881.1 bt881.2.1 bt881.2.2.1 x850000 x850001 x850002).bind fun t888 => (if t888 = true then (if bt881.2.2.2 = x9 then (some true) else (some false)) else (some false))))) else (some false)))))
end
def laws_FnExactFsRename.f (k : Nat) (l0_0 : List (S80)) (a0_1 : Int) (a0_2 : Int) (a1 : ByteArray) (a2 : ByteArray) : Option (Bool) := if (a1.size : Int) > 1048576 then (some true) else (if (a2.size : Int) > 1048576 then (some true) else ((laws_szFS.f k l0_0 a0_1 a0_2 1048576).bind fun t837 => (if t837 < 0 then (some true) else ((laws_toFS.f k l0_0 a0_1 a0_2).bind fun bt838 => ((spec_FsRename.f k bt838.1 bt838.2.1 bt838.2.2 a1 a2).bind fun bt843 => ((laws_toFS.f k l0_0 a0_1 a0_2).bind fun bt850 => ((impl_FsRename.f bt850.1 bt850.2.1 bt850.2.2 a1 a2).bind fun bt856 => ((laws_eqFS.f k bt856.1 bt856.2.1 bt856.2.2.1 bt843.1 bt843.2.1 bt843.2.2.1).bind fun t863 => (if t863 = true then (laws_FnExactFsRename.j0 k a1 a2 bt843.2.2.2 bt856.2.2.2 (bt856.2.2.2 != bt843.2.2.2) l0_0 a0_1 a0_2 bt843.1 bt843.2.1 bt843.2.2.1 bt850.1 bt850.2.1 bt850.2.2 bt856.1 bt856.2.1 bt856.2.2.1) else (laws_FnExactFsRename.j0 k a1 a2 bt843.2.2.2 bt856.2.2.2 true l0_0 a0_1 a0_2 bt843.1 bt843.2.1 bt843.2.2.1 bt850.1 bt850.2.1 bt850.2.2 bt856.1 bt856.2.1 bt856.2.2.1))))))))))
theorem laws_FnExactFsRename.mono_l : ∀ k, (∀ y0 y1 y2 y3 y4 y5 y6 y7 y8 y9 y10 y11 y12 y13 y14 y15 y16, LeO (laws_FnExactFsRename.j0 k y0 y1 y2 y3 y4 y5 y6 y7 y8 y9 y10 y11 y12 y13 y14 y15 y16) (laws_FnExactFsRename.j0 (k + 1) y0 y1 y2 y3 y4 y5 y6 y7 y8 y9 y10 y11 y12 y13 y14 y15 y16)) ∧ (∀ y0 y1 y2 y3 y4 y5 y6 y7 y8 y9 y10 y11 y12, LeO (laws_FnExactFsRename.j1 k y0 y1 y2 y3 y4 y5 y6 y7 y8 y9 y10 y11 y12) (laws_FnExactFsRename.j1 (k + 1) y0 y1 y2 y3 y4 y5 y6 y7 y8 y9 y10 y11 y12))
 | 0 => ⟨fun _ _ _ _ _ _ _ _ _ _ _ _ _ _ _ _ _ r h => by simp [laws_FnExactFsRename.j0] at h, fun _ _ _ _ _ _ _ _ _ _ _ _ _ r h => by simp [laws_FnExactFsRename.j1] at h⟩
 | k + 1 => by
  obtain ⟨ih0, ih1⟩ := laws_FnExactFsRename.mono_l k
  refine ⟨?_, ?_⟩
  ·intro y0 y1 y2 y3 y4 y5 y6 y7 y8 y9 y10 y11 y12 y13 y14 y15 y16
   unfold laws_FnExactFsRename.j0
   repeat' first
   | (with_reducible exact ih0 _ _ _ _ _ _ _ _ _ _ _ _ _ _ _ _ _)
   | (with_reducible exact ih1 _ _ _ _ _ _ _ _ _ _ _ _ _)
   | (with_reducible exact laws_eqFS.mono _ _ _ _ _ _ _)
   | (with_reducible exact laws_heldFS.mono _ _ _ _ _)
   | (with_reducible exact laws_markFS.mono _ _ _ _ _)
   | (with_reducible exact laws_szFS.mono _ _ _ _ _)
   | (with_reducible exact laws_toFS.mono _ _ _ _)
   | (with_reducible exact spec_FsRename.mono _ _ _ _ _ _)
   | (with_reducible exact LeO.refl _)
   | (with_reducible exact LeO.none _)
   | (with_reducible refine LeO.ite ?_ ?_)
   | (with_reducible refine LeO.bind ?_ (fun _ => ?_))
   | exact ih0 _ _ _ _ _ _ _ _ _ _ _ _ _ _ _ _ _
   | exact ih1 _ _ _ _ _ _ _ _ _ _ _ _ _
   | exact laws_eqFS.mono _ _ _ _ _ _ _
   | exact laws_heldFS.mono _ _ _ _ _
   | exact laws_markFS.mono _ _ _ _ _
   | exact laws_szFS.mono _ _ _ _ _
   | exact laws_toFS.mono _ _ _ _
   | exact spec_FsRename.mono _ _ _ _ _ _
   | exact LeO.none _
   | refine LeO.ite ?_ ?_
   | refine LeO.bind ?_ (fun _ => ?_)
  ·intro y0 y1 y2 y3 y4 y5 y6 y7 y8 y9 y10 y11 y12
   unfold laws_FnExactFsRename.j1
   repeat' first
   | (with_reducible exact ih0 _ _ _ _ _ _ _ _ _ _ _ _ _ _ _ _ _)
   | (with_reducible exact ih1 _ _ _ _ _ _ _ _ _ _ _ _ _)
   | (with_reducible exact laws_eqFS.mono _ _ _ _ _ _ _)
   | (with_reducible exact laws_heldFS.mono _ _ _ _ _)
   | (with_reducible exact laws_markFS.mono _ _ _ _ _)
   | (with_reducible exact laws_szFS.mono _ _ _ _ _)
   | (with_reducible exact laws_toFS.mono _ _ _ _)
   | (with_reducible exact spec_FsRename.mono _ _ _ _ _ _)
   | (with_reducible exact LeO.refl _)
   | (with_reducible exact LeO.none _)
   | (with_reducible refine LeO.ite ?_ ?_)
   | (with_reducible refine LeO.bind ?_ (fun _ => ?_))
   | exact ih0 _ _ _ _ _ _ _ _ _ _ _ _ _ _ _ _ _
   | exact ih1 _ _ _ _ _ _ _ _ _ _ _ _ _
   | exact laws_eqFS.mono _ _ _ _ _ _ _
   | exact laws_heldFS.mono _ _ _ _ _
   | exact laws_markFS.mono _ _ _ _ _
   | exact laws_szFS.mono _ _ _ _ _
   | exact laws_toFS.mono _ _ _ _
   | exact spec_FsRename.mono _ _ _ _ _ _
   | exact LeO.none _
   | refine LeO.ite ?_ ?_
   | refine LeO.bind ?_ (fun _ => ?_)
theorem laws_FnExactFsRename.mono : ∀ a0 a1 a2 a3 a4 k, LeO (laws_FnExactFsRename.f k a0 a1 a2 a3 a4) (laws_FnExactFsRename.f (k + 1) a0 a1 a2 a3 a4) := by
 intro a0 a1 a2 a3 a4 k
 obtain ⟨ih0, ih1⟩ := laws_FnExactFsRename.mono_l k
 unfold laws_FnExactFsRename.f
 repeat' first
   | (with_reducible exact ih0 _ _ _ _ _ _ _ _ _ _ _ _ _ _ _ _ _)
   | (with_reducible exact ih1 _ _ _ _ _ _ _ _ _ _ _ _ _)
   | (with_reducible exact laws_eqFS.mono _ _ _ _ _ _ _)
   | (with_reducible exact laws_heldFS.mono _ _ _ _ _)
   | (with_reducible exact laws_markFS.mono _ _ _ _ _)
   | (with_reducible exact laws_szFS.mono _ _ _ _ _)
   | (with_reducible exact laws_toFS.mono _ _ _ _)
   | (with_reducible exact spec_FsRename.mono _ _ _ _ _ _)
   | (with_reducible exact LeO.refl _)
   | (with_reducible exact LeO.none _)
   | (with_reducible refine LeO.ite ?_ ?_)
   | (with_reducible refine LeO.bind ?_ (fun _ => ?_))
   | exact ih0 _ _ _ _ _ _ _ _ _ _ _ _ _ _ _ _ _
   | exact ih1 _ _ _ _ _ _ _ _ _ _ _ _ _
   | exact laws_eqFS.mono _ _ _ _ _ _ _
   | exact laws_heldFS.mono _ _ _ _ _
   | exact laws_markFS.mono _ _ _ _ _
   | exact laws_szFS.mono _ _ _ _ _
   | exact laws_toFS.mono _ _ _ _
   | exact spec_FsRename.mono _ _ _ _ _ _
   | exact LeO.none _
   | refine LeO.ite ?_ ?_
   | refine LeO.bind ?_ (fun _ => ?_)
set_option maxHeartbeats 8000000 in
set_option maxRecDepth 100000 in
theorem laws_FnExactFsRename.calls (k : Nat) (A0_0 : Option Addr) (c0_0 : Nat) (l0_0 : List (S80)) (a0_1 : Int) (a0_2 : Int) (a1 : ByteArray) (a2 : ByteArray) (w : World) (hr0_0 : Kd.C k80 w A0_0 l0_0.length l0_0) (hc0_0 : l0_0.length ≤ c0_0) (h : laws_FnExactFsRename.f k l0_0 a0_1 a0_2 a1 a2 = some true) :
  Calls Try.prog 11 #[.agg #[.slice A0_0 l0_0.length c0_0, .int .i64 a0_1, .int .i64 a0_2], .string a1, .string a2] w fun e w' => e = .returned (.bool true) ∧ Below w.heap.size w w' := by
 have hu24 := Try.underlying24
 have hu29 := Try.underlying29
 have HR0_0 := Aside0.mk hr0_0
 have HC0_0 := Aside0.mk hc0_0
 clear hr0_0 hc0_0
 have HB := Aside0.mk (Below.refl w.heap.size w)
 have H : (if (a1.size : Int) > 1048576 then (some true) else (if (a2.size : Int) > 1048576 then (some true) else ((laws_szFS.f k l0_0 a0_1 a0_2 1048576).bind fun t837 => (if t837 < 0 then (some true) else ((laws_toFS.f k l0_0 a0_1 a0_2).bind fun bt838 => ((spec_FsRename.f k bt838.1 bt838.2.1 bt838.2.2 a1 a2).bind fun bt843 => ((laws_toFS.f k l0_0 a0_1 a0_2).bind fun bt850 => ((impl_FsRename.f bt850.1 bt850.2.1 bt850.2.2 a1 a2).bind fun bt856 => ((laws_eqFS.f k bt856.1 bt856.2.1 bt856.2.2.1 bt843.1 bt843.2.1 bt843.2.2.1).bind fun t863 => (if t863 = true then (laws_FnExactFsRename.j0 k a1 a2 bt843.2.2.2 bt856.2.2.2 (bt856.2.2.2 != bt843.2.2.2) l0_0 a0_1 a0_2 bt843.1 bt843.2.1 bt843.2.2.1 bt850.1 bt850.2.1 bt850.2.2 bt856.1 bt856.2.1 bt856.2.2.1) else (laws_FnExactFsRename.j0 k a1 a2 bt843.2.2.2 bt856.2.2.2 true l0_0 a0_1 a0_2 bt843.1 bt843.2.1 bt843.2.2.1 bt850.1 bt850.2.1 bt850.2.2 bt856.1 bt856.2.1 bt856.2.2.1))))))))))) = some true := h
 clear h
 by_cases c4 : (a1.size : Int) > 1048576
 ·rw [if_pos c4] at H
  have c4b0 : decide (1048576 < (a1.size : Int)) = true := decide_eq_true c4
  have c4b1 : decide (1048576 < a1.size) = true := decide_eq_true (by omega)
  clear c4
  clear H
  go_enter Try.func11, Try.ntmps11
  go_wp2_with (first | ((with_reducible refine gate_dst (N := 3) rfl ?_); refine box_event ?hg (N := 3) ?hd (cs := #[.slice A0_0 l0_0.length c0_0, .int .i64 a0_1, .int .i64 a0_2]) (t := 24) ?hr ?_; (case hd => rfl); (case hg => rfl); (case hr => first | (go_simp; done) | (go_simp; rfl)); intro gb836 hg w5 hbox hb; have n0_ := Aside0.mk (below_step (by repeat (first | (with_reducible first | exact HB.out | apply below_alloc | apply pw_below_drewN | apply below_drew1) | exact HB.out)) hb); have n1_ := Aside0.mk (hbox); have n2_ := Aside0.mk ((by rw [hg]; exact (below_size (by repeat (first | (with_reducible first | exact HB.out | apply below_alloc | apply pw_below_drewN | apply below_drew1) | exact HB.out))) : w.heap.size ≤ gb836)); have n3_ := Aside0.mk ((by rw [hg]; exact (below_size (by repeat (first | (with_reducible first | exact HB.out | apply below_alloc | apply pw_below_drewN | apply below_drew1) | exact HB.out))) : w.heap.size ≤ gb836)); clear HB; have HB := n0_; have BK836 := n1_; have GW836 := n2_; have GE836 := n3_; clear n0_ n1_ n2_ n3_; clear hb hbox hg))
  go_ret
  exact ⟨by first | rfl | (simp [errW_none, errW_some] <;> rfl) | (simp [*, errW_none, errW_some] <;> rfl), by repeat (first | (with_reducible first | exact HB.out | apply below_alloc | apply pw_below_drewN | apply below_drew1 | refine below_set ?_ GE836.out) | exact HB.out)⟩
 ·rw [if_neg c4] at H
  have c4b0 : decide (1048576 < (a1.size : Int)) = false := decide_eq_false c4
  have c4b1 : decide (1048576 < a1.size) = false := decide_eq_false (by omega)
  clear c4
  by_cases c6 : (a2.size : Int) > 1048576
  ·rw [if_pos c6] at H
   have c6b0 : decide (1048576 < (a2.size : Int)) = true := decide_eq_true c6
   have c6b1 : decide (1048576 < a2.size) = true := decide_eq_true (by omega)
   clear c6
   clear H
   go_enter Try.func11, Try.ntmps11
   go_wp2_with (first | ((with_reducible refine gate_dst (N := 3) rfl ?_); refine box_event ?hg (N := 3) ?hd (cs := #[.slice A0_0 l0_0.length c0_0, .int .i64 a0_1, .int .i64 a0_2]) (t := 24) ?hr ?_; (case hd => rfl); (case hg => rfl); (case hr => first | (go_simp; done) | (go_simp; rfl)); intro gb836 hg w7 hbox hb; have n0_ := Aside0.mk (below_step (by repeat (first | (with_reducible first | exact HB.out | apply below_alloc | apply pw_below_drewN | apply below_drew1) | exact HB.out)) hb); have n1_ := Aside0.mk (hbox); have n2_ := Aside0.mk ((by rw [hg]; exact (below_size (by repeat (first | (with_reducible first | exact HB.out | apply below_alloc | apply pw_below_drewN | apply below_drew1) | exact HB.out))) : w.heap.size ≤ gb836)); have n3_ := Aside0.mk ((by rw [hg]; exact (below_size (by repeat (first | (with_reducible first | exact HB.out | apply below_alloc | apply pw_below_drewN | apply below_drew1) | exact HB.out))) : w.heap.size ≤ gb836)); clear HB; have HB := n0_; have BK836 := n1_; have GW836 := n2_; have GE836 := n3_; clear n0_ n1_ n2_ n3_; clear hb hbox hg))
   go_ret
   exact ⟨by first | rfl | (simp [errW_none, errW_some] <;> rfl) | (simp [*, errW_none, errW_some] <;> rfl), by repeat (first | (with_reducible first | exact HB.out | apply below_alloc | apply pw_below_drewN | apply below_drew1 | refine below_set ?_ GE836.out) | exact HB.out)⟩
  ·rw [if_neg c6] at H
   have c6b0 : decide (1048576 < (a2.size : Int)) = false := decide_eq_false c6
   have c6b1 : decide (1048576 < a2.size) = false := decide_eq_false (by omega)
   clear c6
   replace H := Option.bind_eq_some_iff.mp H
   obtain ⟨t837, A80, H⟩ := H
   replace H : (if t837 < 0 then (some true) else ((laws_toFS.f k l0_0 a0_1 a0_2).bind fun bt838 => ((spec_FsRename.f k bt838.1 bt838.2.1 bt838.2.2 a1 a2).bind fun bt843 => ((laws_toFS.f k l0_0 a0_1 a0_2).bind fun bt850 => ((impl_FsRename.f bt850.1 bt850.2.1 bt850.2.2 a1 a2).bind fun bt856 => ((laws_eqFS.f k bt856.1 bt856.2.1 bt856.2.2.1 bt843.1 bt843.2.1 bt843.2.2.1).bind fun t863 => (if t863 = true then (laws_FnExactFsRename.j0 k a1 a2 bt843.2.2.2 bt856.2.2.2 (bt856.2.2.2 != bt843.2.2.2) l0_0 a0_1 a0_2 bt843.1 bt843.2.1 bt843.2.2.1 bt850.1 bt850.2.1 bt850.2.2 bt856.1 bt856.2.1 bt856.2.2.1) else (laws_FnExactFsRename.j0 k a1 a2 bt843.2.2.2 bt856.2.2.2 true l0_0 a0_1 a0_2 bt843.1 bt843.2.1 bt843.2.2.1 bt850.1 bt850.2.1 bt850.2.2 bt856.1 bt856.2.1 bt856.2.2.1)))))))) = some true := H
   have A8 := Aside0.mk A80
   clear A80
   by_cases c9 : t837 < 0
   ·rw [if_pos c9] at H
    have c9b0 : decide (t837 < 0) = true := decide_eq_true c9
    clear c9
    clear H
    go_enter Try.func11, Try.ntmps11
    go_wp2_with (first | ((with_reducible refine gate_dst (N := 3) rfl ?_); refine box_event ?hg (N := 3) ?hd (cs := #[.slice A0_0 l0_0.length c0_0, .int .i64 a0_1, .int .i64 a0_2]) (t := 24) ?hr ?_; (case hd => rfl); (case hg => rfl); (case hr => first | (go_simp; done) | (go_simp; rfl)); intro gb836 hg w10 hbox hb; have n0_ := Aside0.mk (below_step (by repeat (first | (with_reducible first | exact HB.out | apply below_alloc | apply pw_below_drewN | apply below_drew1) | exact HB.out)) hb); have n1_ := Aside0.mk (hbox); have n2_ := Aside0.mk ((by rw [hg]; exact (below_size (by repeat (first | (with_reducible first | exact HB.out | apply below_alloc | apply pw_below_drewN | apply below_drew1) | exact HB.out))) : w.heap.size ≤ gb836)); have n3_ := Aside0.mk ((by rw [hg]; exact (below_size (by repeat (first | (with_reducible first | exact HB.out | apply below_alloc | apply pw_below_drewN | apply below_drew1) | exact HB.out))) : w.heap.size ≤ gb836)); clear HB; have HB := n0_; have BK836 := n1_; have GW836 := n2_; have GE836 := n3_; clear n0_ n1_ n2_ n3_; clear hb hbox hg; have hcz11_0 : w10.cell? ⟨gb836, 0, none⟩ = some (.slice A0_0 l0_0.length c0_0) := (blk_cell BK836.out 0).trans rfl; have hcz11_1 : w10.cell? ⟨gb836, 1, none⟩ = some (.int .i64 a0_1) := (blk_cell BK836.out 1).trans rfl; have hcz11_2 : w10.cell? ⟨gb836, 2, none⟩ = some (.int .i64 a0_2) := (blk_cell BK836.out 2).trans rfl; have hfz11_0 := blk_frozen BK836.out 0; have hfz11_1 := blk_frozen BK836.out 1; have hfz11_2 := blk_frozen BK836.out 2) | ((with_reducible refine gate_callee (f := 12) rfl ?_); refine goesL_ (some 26) rfl rfl Try.func12 (by kernel_rfl) rfl #[.agg #[.slice A0_0 l0_0.length c0_0, .int .i64 a0_1, .int .i64 a0_2], .int .i64 1048576] rfl (by (try simp only [List.map_toArray, List.map_cons, List.map_nil]); first | done | rfl | (simp only [List.length_drop, List.length_take]; rfl)) ?_; (with_reducible refine (laws_szFS.calls k _ _ l0_0 a0_1 a0_2 1048576 t837 _ ?side1 ?side2 A8.out).mono ?_); (case side1 => repeat (first | exact (Kd.C_below HR0_0.out HB.out) | (with_reducible refine Kd.C_alloc ?_ _) | (with_reducible refine Kd.C_drewN ?_ _) | (with_reducible refine Kd.C_drew ?_))); (case side2 => exact HC0_0.out); rintro e w12 ⟨rfl, hb⟩; refine ⟨_, rfl, ?_⟩; have n0_ := Aside0.mk (blk_below (g := gb836) (o := .cells #[.slice A0_0 l0_0.length c0_0, .int .i64 a0_1, .int .i64 a0_2] 24 (0, 0)) (by (with_reducible repeat (first | refine blk_drewN ?_ _ | refine blk_drew ?_ | refine blk_alloc ?_ _)); exact BK836.out) hb); have n1_ := Aside0.mk (below_step (by repeat (first | (with_reducible first | exact HB.out | apply below_alloc | apply pw_below_drewN | apply below_drew1 | refine below_set ?_ GE836.out) | exact HB.out)) hb); clear BK836; clear HB; have BK836 := n0_; have HB := n1_; clear n0_ n1_; (try clear hb); (try clear hb2); (try clear hk); (try clear hi)))
    go_ret
    exact ⟨by first | rfl | (simp [errW_none, errW_some] <;> rfl) | (simp [*, errW_none, errW_some] <;> rfl), by repeat (first | (with_reducible first | exact HB.out | apply below_alloc | apply pw_below_drewN | apply below_drew1 | refine below_set ?_ GE836.out) | exact HB.out)⟩
   ·rw [if_neg c9] at H
    have c9b0 : decide (t837 < 0) = false := decide_eq_false c9
    clear c9
    replace H := Option.bind_eq_some_iff.mp H
    obtain ⟨⟨t838, t841, t842⟩, A130, H⟩ := H
    replace H : ((spec_FsRename.f k t838 t841 t842 a1 a2).bind fun bt843 => ((laws_toFS.f k l0_0 a0_1 a0_2).bind fun bt850 => ((impl_FsRename.f bt850.1 bt850.2.1 bt850.2.2 a1 a2).bind fun bt856 => ((laws_eqFS.f k bt856.1 bt856.2.1 bt856.2.2.1 bt843.1 bt843.2.1 bt843.2.2.1).bind fun t863 => (if t863 = true then (laws_FnExactFsRename.j0 k a1 a2 bt843.2.2.2 bt856.2.2.2 (bt856.2.2.2 != bt843.2.2.2) l0_0 a0_1 a0_2 bt843.1 bt843.2.1 bt843.2.2.1 bt850.1 bt850.2.1 bt850.2.2 bt856.1 bt856.2.1 bt856.2.2.1) else (laws_FnExactFsRename.j0 k a1 a2 bt843.2.2.2 bt856.2.2.2 true l0_0 a0_1 a0_2 bt843.1 bt843.2.1 bt843.2.2.1 bt850.1 bt850.2.1 bt850.2.2 bt856.1 bt856.2.1 bt856.2.2.1)))))) = some true := H
    have A13 := Aside0.mk A130
    clear A130
    replace H := Option.bind_eq_some_iff.mp H
    obtain ⟨⟨t843, t846, t847, t848⟩, A140, H⟩ := H
    replace H : ((laws_toFS.f k l0_0 a0_1 a0_2).bind fun bt850 => ((impl_FsRename.f bt850.1 bt850.2.1 bt850.2.2 a1 a2).bind fun bt856 => ((laws_eqFS.f k bt856.1 bt856.2.1 bt856.2.2.1 t843 t846 t847).bind fun t863 => (if t863 = true then (laws_FnExactFsRename.j0 k a1 a2 t848 bt856.2.2.2 (bt856.2.2.2 != t848) l0_0 a0_1 a0_2 t843 t846 t847 bt850.1 bt850.2.1 bt850.2.2 bt856.1 bt856.2.1 bt856.2.2.1) else (laws_FnExactFsRename.j0 k a1 a2 t848 bt856.2.2.2 true l0_0 a0_1 a0_2 t843 t846 t847 bt850.1 bt850.2.1 bt850.2.2 bt856.1 bt856.2.1 bt856.2.2.1))))) = some true := H
    have A14 := Aside0.mk A140
    clear A140
    replace H := Option.bind_eq_some_iff.mp H
    obtain ⟨⟨t850, t853, t854⟩, A150, H⟩ := H
    replace H : ((impl_FsRename.f t850 t853 t854 a1 a2).bind fun bt856 => ((laws_eqFS.f k bt856.1 bt856.2.1 bt856.2.2.1 t843 t846 t847).bind fun t863 => (if t863 = true then (laws_FnExactFsRename.j0 k a1 a2 t848 bt856.2.2.2 (bt856.2.2.2 != t848) l0_0 a0_1 a0_2 t843 t846 t847 t850 t853 t854 bt856.1 bt856.2.1 bt856.2.2.1) else (laws_FnExactFsRename.j0 k a1 a2 t848 bt856.2.2.2 true l0_0 a0_1 a0_2 t843 t846 t847 t850 t853 t854 bt856.1 bt856.2.1 bt856.2.2.1)))) = some true := H
    have A15 := Aside0.mk A150
    clear A150
    replace H := Option.bind_eq_some_iff.mp H
    obtain ⟨⟨t856, t859, t860, t861⟩, A160, H⟩ := H
    replace H : ((laws_eqFS.f k t856 t859 t860 t843 t846 t847).bind fun t863 => (if t863 = true then (laws_FnExactFsRename.j0 k a1 a2 t848 t861 (t861 != t848) l0_0 a0_1 a0_2 t843 t846 t847 t850 t853 t854 t856 t859 t860) else (laws_FnExactFsRename.j0 k a1 a2 t848 t861 true l0_0 a0_1 a0_2 t843 t846 t847 t850 t853 t854 t856 t859 t860))) = some true := H
    have A16 := Aside0.mk A160
    clear A160
    have HC17 := Aside0.mk H
    clear H
    go_enter Try.func11, Try.ntmps11
    go_upto_region 12 with (first | ((with_reducible refine gate_dst (N := 3) rfl ?_); refine box_event ?hg (N := 3) ?hd (cs := #[.slice A0_0 l0_0.length c0_0, .int .i64 a0_1, .int .i64 a0_2]) (t := 24) ?hr ?_; (case hd => rfl); (case hg => rfl); (case hr => first | (go_simp; done) | (go_simp; rfl)); intro gb836 hg w18 hbox hb; have n0_ := Aside0.mk (below_step (by repeat (first | (with_reducible first | exact HB.out | apply below_alloc | apply pw_below_drewN | apply below_drew1) | exact HB.out)) hb); have n1_ := Aside0.mk (hbox); have n2_ := Aside0.mk ((by rw [hg]; exact (below_size (by repeat (first | (with_reducible first | exact HB.out | apply below_alloc | apply pw_below_drewN | apply below_drew1) | exact HB.out))) : w.heap.size ≤ gb836)); have n3_ := Aside0.mk ((by rw [hg]; exact (below_size (by repeat (first | (with_reducible first | exact HB.out | apply below_alloc | apply pw_below_drewN | apply below_drew1) | exact HB.out))) : w.heap.size ≤ gb836)); clear HB; have HB := n0_; have BK836 := n1_; have GW836 := n2_; have GE836 := n3_; clear n0_ n1_ n2_ n3_; clear hb hbox hg; have hcz19_0 : w18.cell? ⟨gb836, 0, none⟩ = some (.slice A0_0 l0_0.length c0_0) := (blk_cell BK836.out 0).trans rfl; have hcz19_1 : w18.cell? ⟨gb836, 1, none⟩ = some (.int .i64 a0_1) := (blk_cell BK836.out 1).trans rfl; have hcz19_2 : w18.cell? ⟨gb836, 2, none⟩ = some (.int .i64 a0_2) := (blk_cell BK836.out 2).trans rfl; have hfz19_0 := blk_frozen BK836.out 0; have hfz19_1 := blk_frozen BK836.out 1; have hfz19_2 := blk_frozen BK836.out 2) | ((with_reducible refine gate_callee (f := 12) rfl ?_); refine goesL_ (some 26) rfl rfl Try.func12 (by kernel_rfl) rfl #[.agg #[.slice A0_0 l0_0.length c0_0, .int .i64 a0_1, .int .i64 a0_2], .int .i64 1048576] rfl (by (try simp only [List.map_toArray, List.map_cons, List.map_nil]); first | done | rfl | (simp only [List.length_drop, List.length_take]; rfl)) ?_; (with_reducible refine (laws_szFS.calls k _ _ l0_0 a0_1 a0_2 1048576 t837 _ ?side1 ?side2 A8.out).mono ?_); (case side1 => repeat (first | exact (Kd.C_below HR0_0.out HB.out) | (with_reducible refine Kd.C_alloc ?_ _) | (with_reducible refine Kd.C_drewN ?_ _) | (with_reducible refine Kd.C_drew ?_))); (case side2 => exact HC0_0.out); rintro e w20 ⟨rfl, hb⟩; refine ⟨_, rfl, ?_⟩; have n0_ := Aside0.mk (blk_below (g := gb836) (o := .cells #[.slice A0_0 l0_0.length c0_0, .int .i64 a0_1, .int .i64 a0_2] 24 (0, 0)) (by (with_reducible repeat (first | refine blk_drewN ?_ _ | refine blk_drew ?_ | refine blk_alloc ?_ _)); exact BK836.out) hb); have n1_ := Aside0.mk (below_step (by repeat (first | (with_reducible first | exact HB.out | apply below_alloc | apply pw_below_drewN | apply below_drew1 | refine below_set ?_ GE836.out) | exact HB.out)) hb); clear BK836; clear HB; have BK836 := n0_; have HB := n1_; clear n0_ n1_; (try clear hb); (try clear hb2); (try clear hk); (try clear hi); have hcz21_0 : w20.cell? ⟨gb836, 0, none⟩ = some (.slice A0_0 l0_0.length c0_0) := (blk_cell BK836.out 0).trans rfl; have hcz21_1 : w20.cell? ⟨gb836, 1, none⟩ = some (.int .i64 a0_1) := (blk_cell BK836.out 1).trans rfl; have hcz21_2 : w20.cell? ⟨gb836, 2, none⟩ = some (.int .i64 a0_2) := (blk_cell BK836.out 2).trans rfl; have hfz21_0 := blk_frozen BK836.out 0; have hfz21_1 := blk_frozen BK836.out 1; have hfz21_2 := blk_frozen BK836.out 2) | ((with_reducible refine gate_callee (f := 14) rfl ?_); refine goesL_ (some 31) rfl rfl Try.func14 (by kernel_rfl) rfl #[.agg #[.slice A0_0 l0_0.length c0_0, .int .i64 a0_1, .int .i64 a0_2]] rfl (by (try simp only [List.map_toArray, List.map_cons, List.map_nil]); first | done | rfl | (simp only [List.length_drop, List.length_take]; rfl)) ?_; (with_reducible refine (laws_toFS.calls k _ _ l0_0 a0_1 a0_2 t838 t841 t842 _ ?side1 ?side2 A13.out).mono ?_); (case side1 => repeat (first | exact (Kd.C_below HR0_0.out HB.out) | (with_reducible refine Kd.C_alloc ?_ _) | (with_reducible refine Kd.C_drewN ?_ _) | (with_reducible refine Kd.C_drew ?_))); (case side2 => exact HC0_0.out); rintro e w22 ⟨v839, rfl, ho0, hb⟩; refine ⟨_, rfl, ?_⟩; have n0_ := Aside0.mk (Kd.R_lower ho0 (below_size (by repeat (first | (with_reducible first | exact HB.out | apply below_alloc | apply pw_below_drewN | apply below_drew1 | refine below_set ?_ GE836.out) | exact HB.out)))); have n1_ := Aside0.mk (blk_below (g := gb836) (o := .cells #[.slice A0_0 l0_0.length c0_0, .int .i64 a0_1, .int .i64 a0_2] 24 (0, 0)) (by (with_reducible repeat (first | refine blk_drewN ?_ _ | refine blk_drew ?_ | refine blk_alloc ?_ _)); exact BK836.out) hb); have n2_ := Aside0.mk (below_step (by repeat (first | (with_reducible first | exact HB.out | apply below_alloc | apply pw_below_drewN | apply below_drew1 | refine below_set ?_ GE836.out) | exact HB.out)) hb); clear BK836; clear HB; have HO840 := n0_; have BK836 := n1_; have HB := n2_; clear n0_ n1_ n2_; (try clear hb); (try clear hb2); (try clear hk); (try clear hi); (try clear ho0); obtain ⟨Ao23, co23, eo23⟩ := Kd.R_slice HO840.out; subst eo23) | ((with_reducible refine gate_callee (f := 37) rfl ?_); refine goesL_ (some 34) rfl rfl Try.func37 (by kernel_rfl) rfl #[.agg #[.slice Ao23 t838.length co23, .int .i64 t841, .int .i64 t842], .string a1, .string a2] rfl (by (try simp only [List.map_toArray, List.map_cons, List.map_nil]); first | done | rfl | (simp only [List.length_drop, List.length_take]; rfl)) ?_; (with_reducible refine (spec_FsRename.calls k _ _ t838 t841 t842 a1 a2 t843 t846 t847 t848 _ ?side1 ?side2 A14.out).mono ?_); (case side1 => repeat (first | exact (Kd.R_reads' HO840.out).2.2 | (with_reducible refine Kd.C_alloc ?_ _) | (with_reducible refine Kd.C_drewN ?_ _) | (with_reducible refine Kd.C_drew ?_))); (case side2 => exact (Kd.R_reads' HO840.out).2.1); rintro e w24 ⟨v844, rfl, ho0, hb⟩; refine ⟨_, rfl, ?_⟩; have n0_ := Aside0.mk (Kd.R_elder' (by (with_reducible repeat (first | apply Kd.R_alloc | apply Kd.R_drewN | apply Kd.R_drew)); exact HO840.out) (Kd.R_base ho0) hb); have n1_ := Aside0.mk (Kd.R_lower (Kd.R_new' ho0 (Kd.R_lt (by (with_reducible repeat (first | apply Kd.R_alloc | apply Kd.R_drewN | apply Kd.R_drew)); exact HO840.out))) (below_size (by repeat (first | (with_reducible first | exact HB.out | apply below_alloc | apply pw_below_drewN | apply below_drew1 | refine below_set ?_ GE836.out) | exact HB.out)))); have n2_ := Aside0.mk (blk_below (g := gb836) (o := .cells #[.slice A0_0 l0_0.length c0_0, .int .i64 a0_1, .int .i64 a0_2] 24 (0, 0)) (by (with_reducible repeat (first | refine blk_drewN ?_ _ | refine blk_drew ?_ | refine blk_alloc ?_ _)); exact BK836.out) hb); have n3_ := Aside0.mk (below_step (by repeat (first | (with_reducible first | exact HB.out | apply below_alloc | apply pw_below_drewN | apply below_drew1 | refine below_set ?_ GE836.out) | exact HB.out)) hb); clear HO840; clear BK836; clear HB; have HO840 := n0_; have HO845 := n1_; have BK836 := n2_; have HB := n3_; clear n0_ n1_ n2_ n3_; (try clear hb); (try clear hb2); (try clear hk); (try clear hi); (try clear ho0)) | ((with_reducible refine gate_dst (N := 8) rfl ?_); refine box_event ?hg (N := 8) ?hd (cs := #[.slice none 0 0, .int .i64 0, .int .i64 0]) (t := 29) ?hr ?_; (case hd => rfl); (case hg => rfl); (case hr => first | (go_simp; done) | (go_simp; rfl)); intro gb849 hg w25 hbox hb; have n0_ := Aside0.mk (Kd.R_below (by (with_reducible repeat (first | apply Kd.R_alloc | apply Kd.R_drewN | apply Kd.R_drew)); exact HO840.out) hb); have n1_ := Aside0.mk (Kd.R_below (by (with_reducible repeat (first | apply Kd.R_alloc | apply Kd.R_drewN | apply Kd.R_drew)); exact HO845.out) hb); have n2_ := Aside0.mk (blk_below (g := gb836) (o := .cells #[.slice A0_0 l0_0.length c0_0, .int .i64 a0_1, .int .i64 a0_2] 24 (0, 0)) (by (with_reducible repeat (first | refine blk_drewN ?_ _ | refine blk_drew ?_ | refine blk_alloc ?_ _)); exact BK836.out) hb); have n3_ := Aside0.mk (below_step (by repeat (first | (with_reducible first | exact HB.out | apply below_alloc | apply pw_below_drewN | apply below_drew1 | refine below_set ?_ GE836.out) | exact HB.out)) hb); have n4_ := Aside0.mk (hbox); have n5_ := Aside0.mk ((by rw [hg]; exact (below_size (by repeat (first | (with_reducible first | exact HB.out | apply below_alloc | apply pw_below_drewN | apply below_drew1 | refine below_set ?_ GE836.out) | exact HB.out))) : w.heap.size ≤ gb849)); have n6_ := Aside0.mk ((by rw [hg]; exact (below_size (by repeat (first | (with_reducible first | exact HB.out | apply below_alloc | apply pw_below_drewN | apply below_drew1 | refine below_set ?_ GE836.out) | exact HB.out))) : w.heap.size ≤ gb849)); have n7_ := Aside0.mk ((by rw [hg]; exact Nat.ne_of_lt (blk_lt (g := gb836) (o := .cells #[.slice A0_0 l0_0.length c0_0, .int .i64 a0_1, .int .i64 a0_2] 24 (0, 0)) (by (with_reducible repeat (first | refine blk_drewN ?_ _ | refine blk_drew ?_ | refine blk_alloc ?_ _)); exact BK836.out)) : gb836 ≠ gb849)); have n8_ := Aside0.mk ((by rw [hg]; exact Nat.ne_of_gt (blk_lt (g := gb836) (o := .cells #[.slice A0_0 l0_0.length c0_0, .int .i64 a0_1, .int .i64 a0_2] 24 (0, 0)) (by (with_reducible repeat (first | refine blk_drewN ?_ _ | refine blk_drew ?_ | refine blk_alloc ?_ _)); exact BK836.out)) : gb849 ≠ gb836)); clear HO840; clear HO845; clear BK836; clear HB; have HO840 := n0_; have HO845 := n1_; have BK836 := n2_; have HB := n3_; have BK849 := n4_; have GW849 := n5_; have GE849 := n6_; have NB836_849 := n7_; have NB849_836 := n8_; clear n0_ n1_ n2_ n3_ n4_ n5_ n6_ n7_ n8_; clear hb hbox hg; obtain ⟨Ao26, co26, eo26⟩ := Kd.R_slice HO845.out; subst eo26; have hnb27 := NB849_836.out; have hnc27 := NB836_849.out; have hcz28_0 : w25.cell? ⟨gb849, 0, none⟩ = some (.slice none 0 0) := (blk_cell BK849.out 0).trans rfl; have hcz28_1 : w25.cell? ⟨gb849, 1, none⟩ = some (.int .i64 0) := (blk_cell BK849.out 1).trans rfl; have hcz28_2 : w25.cell? ⟨gb849, 2, none⟩ = some (.int .i64 0) := (blk_cell BK849.out 2).trans rfl; have hfz28_0 := blk_frozen BK849.out 0; have hfz28_1 := blk_frozen BK849.out 1; have hfz28_2 := blk_frozen BK849.out 2; have hcz29_0 : w25.cell? ⟨gb836, 0, none⟩ = some (.slice A0_0 l0_0.length c0_0) := (blk_cell BK836.out 0).trans rfl; have hcz29_1 : w25.cell? ⟨gb836, 1, none⟩ = some (.int .i64 a0_1) := (blk_cell BK836.out 1).trans rfl; have hcz29_2 : w25.cell? ⟨gb836, 2, none⟩ = some (.int .i64 a0_2) := (blk_cell BK836.out 2).trans rfl; have hfz29_0 := blk_frozen BK836.out 0; have hfz29_1 := blk_frozen BK836.out 1; have hfz29_2 := blk_frozen BK836.out 2) | ((with_reducible refine gate_callee (f := 14) rfl ?_); refine goesL_ (some 38) rfl rfl Try.func14 (by kernel_rfl) rfl #[.agg #[.slice A0_0 l0_0.length c0_0, .int .i64 a0_1, .int .i64 a0_2]] rfl (by (try simp only [List.map_toArray, List.map_cons, List.map_nil]); first | done | rfl | (simp only [List.length_drop, List.length_take]; rfl)) ?_; (with_reducible refine (laws_toFS.calls k _ _ l0_0 a0_1 a0_2 t850 t853 t854 _ ?side1 ?side2 A15.out).mono ?_); (case side1 => exact Kd.C_below HR0_0.out (by repeat (first | (with_reducible first | exact HB.out | apply below_alloc | apply pw_below_drewN | apply below_drew1 | refine below_set ?_ GE836.out | refine below_set ?_ GE849.out) | exact HB.out))); (case side2 => exact HC0_0.out); rintro e w30 ⟨v851, rfl, ho0, hb⟩; refine ⟨_, rfl, ?_⟩; have n0_ := Aside0.mk (Kd.R_elder' (by (with_reducible repeat (first | apply Kd.R_alloc | apply Kd.R_drewN | apply Kd.R_drew)); exact (Kd.R_mono (Kd.R_far (p := ⟨gb849, 2, none⟩) (Kd.R_far (p := ⟨gb849, 1, none⟩) (Kd.R_far (p := ⟨gb849, 0, none⟩) (Kd.R_types HO840.out BK849.out (by decide)) (fun _ hk => hk.2) (.slice Ao26 t843.length co26)) (fun _ hk => hk.2) (.int .i64 t846)) (fun _ hk => hk.2) (.int .i64 t847)) (fun _ h_ => h_.1))) (Kd.R_base ho0) hb); have n1_ := Aside0.mk (Kd.R_elder' (by (with_reducible repeat (first | apply Kd.R_alloc | apply Kd.R_drewN | apply Kd.R_drew)); exact (Kd.R_mono (Kd.R_far (p := ⟨gb849, 2, none⟩) (Kd.R_far (p := ⟨gb849, 1, none⟩) (Kd.R_far (p := ⟨gb849, 0, none⟩) (Kd.R_types HO845.out BK849.out (by decide)) (fun _ hk => hk.2) (.slice Ao26 t843.length co26)) (fun _ hk => hk.2) (.int .i64 t846)) (fun _ hk => hk.2) (.int .i64 t847)) (fun _ h_ => h_.1))) (Kd.R_base ho0) hb); have n2_ := Aside0.mk (Kd.R_lower (Kd.R_new' (Kd.R_new' ho0 (Kd.R_lt (by (with_reducible repeat (first | apply Kd.R_alloc | apply Kd.R_drewN | apply Kd.R_drew)); exact (Kd.R_mono (Kd.R_far (p := ⟨gb849, 2, none⟩) (Kd.R_far (p := ⟨gb849, 1, none⟩) (Kd.R_far (p := ⟨gb849, 0, none⟩) (Kd.R_types HO840.out BK849.out (by decide)) (fun _ hk => hk.2) (.slice Ao26 t843.length co26)) (fun _ hk => hk.2) (.int .i64 t846)) (fun _ hk => hk.2) (.int .i64 t847)) (fun _ h_ => h_.1))))) (Kd.R_lt (by (with_reducible repeat (first | apply Kd.R_alloc | apply Kd.R_drewN | apply Kd.R_drew)); exact (Kd.R_mono (Kd.R_far (p := ⟨gb849, 2, none⟩) (Kd.R_far (p := ⟨gb849, 1, none⟩) (Kd.R_far (p := ⟨gb849, 0, none⟩) (Kd.R_types HO845.out BK849.out (by decide)) (fun _ hk => hk.2) (.slice Ao26 t843.length co26)) (fun _ hk => hk.2) (.int .i64 t846)) (fun _ hk => hk.2) (.int .i64 t847)) (fun _ h_ => h_.1))))) (below_size (by repeat (first | (with_reducible first | exact HB.out | apply below_alloc | apply pw_below_drewN | apply below_drew1 | refine below_set ?_ GE836.out | refine below_set ?_ GE849.out) | exact HB.out)))); have n3_ := Aside0.mk (blk_below (g := gb836) (o := .cells #[.slice A0_0 l0_0.length c0_0, .int .i64 a0_1, .int .i64 a0_2] 24 (0, 0)) (by (with_reducible repeat (first | refine blk_drewN ?_ _ | refine blk_drew ?_ | refine blk_alloc ?_ _)); refine blk_far ?_ NB836_849.out _; (with_reducible repeat (first | refine blk_drewN ?_ _ | refine blk_drew ?_ | refine blk_alloc ?_ _)); refine blk_far ?_ NB836_849.out _; (with_reducible repeat (first | refine blk_drewN ?_ _ | refine blk_drew ?_ | refine blk_alloc ?_ _)); refine blk_far ?_ NB836_849.out _; (with_reducible repeat (first | refine blk_drewN ?_ _ | refine blk_drew ?_ | refine blk_alloc ?_ _)); exact BK836.out) hb); have n4_ := Aside0.mk (blk_below (g := gb849) (o := .cells #[.slice Ao26 t843.length co26, .int .i64 t846, .int .i64 t847] 29 (0, 0)) (by (with_reducible repeat (first | refine blk_drewN ?_ _ | refine blk_drew ?_ | refine blk_alloc ?_ _)); refine blk_put (cs := #[.slice Ao26 t843.length co26, .int .i64 t846, .int .i64 0]) ?_ 2 _ rfl; (with_reducible repeat (first | refine blk_drewN ?_ _ | refine blk_drew ?_ | refine blk_alloc ?_ _)); refine blk_put (cs := #[.slice Ao26 t843.length co26, .int .i64 0, .int .i64 0]) ?_ 1 _ rfl; (with_reducible repeat (first | refine blk_drewN ?_ _ | refine blk_drew ?_ | refine blk_alloc ?_ _)); refine blk_put (cs := #[.slice none 0 0, .int .i64 0, .int .i64 0]) ?_ 0 _ rfl; (with_reducible repeat (first | refine blk_drewN ?_ _ | refine blk_drew ?_ | refine blk_alloc ?_ _)); exact BK849.out) hb); have n5_ := Aside0.mk (below_step (by repeat (first | (with_reducible first | exact HB.out | apply below_alloc | apply pw_below_drewN | apply below_drew1 | refine below_set ?_ GE836.out | refine below_set ?_ GE849.out) | exact HB.out)) hb); clear HO840; clear HO845; clear BK836; clear BK849; clear HB; have HO840 := n0_; have HO845 := n1_; have HO852 := n2_; have BK836 := n3_; have BK849 := n4_; have HB := n5_; clear n0_ n1_ n2_ n3_ n4_ n5_; (try clear hb); (try clear hb2); (try clear hk); (try clear hi); (try clear ho0)) | ((with_reducible refine gate_dst (N := 10) rfl ?_); refine box_event ?hg (N := 10) ?hd (cs := #[.slice none 0 0, .int .i64 0, .int .i64 0]) (t := 29) ?hr ?_; (case hd => rfl); (case hg => rfl); (case hr => first | (go_simp; done) | (go_simp; rfl)); intro gb855 hg w31 hbox hb; have n0_ := Aside0.mk (Kd.R_below (by (with_reducible repeat (first | apply Kd.R_alloc | apply Kd.R_drewN | apply Kd.R_drew)); exact HO840.out) hb); have n1_ := Aside0.mk (Kd.R_below (by (with_reducible repeat (first | apply Kd.R_alloc | apply Kd.R_drewN | apply Kd.R_drew)); exact HO845.out) hb); have n2_ := Aside0.mk (Kd.R_below (by (with_reducible repeat (first | apply Kd.R_alloc | apply Kd.R_drewN | apply Kd.R_drew)); exact HO852.out) hb); have n3_ := Aside0.mk (blk_below (g := gb836) (o := .cells #[.slice A0_0 l0_0.length c0_0, .int .i64 a0_1, .int .i64 a0_2] 24 (0, 0)) (by (with_reducible repeat (first | refine blk_drewN ?_ _ | refine blk_drew ?_ | refine blk_alloc ?_ _)); exact BK836.out) hb); have n4_ := Aside0.mk (blk_below (g := gb849) (o := .cells #[.slice Ao26 t843.length co26, .int .i64 t846, .int .i64 t847] 29 (0, 0)) (by (with_reducible repeat (first | refine blk_drewN ?_ _ | refine blk_drew ?_ | refine blk_alloc ?_ _)); exact BK849.out) hb); have n5_ := Aside0.mk (below_step (by repeat (first | (with_reducible first | exact HB.out | apply below_alloc | apply pw_below_drewN | apply below_drew1 | refine below_set ?_ GE836.out | refine below_set ?_ GE849.out) | exact HB.out)) hb); have n6_ := Aside0.mk (hbox); have n7_ := Aside0.mk ((by rw [hg]; exact (below_size (by repeat (first | (with_reducible first | exact HB.out | apply below_alloc | apply pw_below_drewN | apply below_drew1 | refine below_set ?_ GE836.out | refine below_set ?_ GE849.out) | exact HB.out))) : w.heap.size ≤ gb855)); have n8_ := Aside0.mk ((by rw [hg]; exact (below_size (by repeat (first | (with_reducible first | exact HB.out | apply below_alloc | apply pw_below_drewN | apply below_drew1 | refine below_set ?_ GE836.out | refine below_set ?_ GE849.out) | exact HB.out))) : w.heap.size ≤ gb855)); have n9_ := Aside0.mk ((by rw [hg]; exact Nat.ne_of_lt (blk_lt (g := gb836) (o := .cells #[.slice A0_0 l0_0.length c0_0, .int .i64 a0_1, .int .i64 a0_2] 24 (0, 0)) (by (with_reducible repeat (first | refine blk_drewN ?_ _ | refine blk_drew ?_ | refine blk_alloc ?_ _)); exact BK836.out)) : gb836 ≠ gb855)); have n10_ := Aside0.mk ((by rw [hg]; exact Nat.ne_of_gt (blk_lt (g := gb836) (o := .cells #[.slice A0_0 l0_0.length c0_0, .int .i64 a0_1, .int .i64 a0_2] 24 (0, 0)) (by (with_reducible repeat (first | refine blk_drewN ?_ _ | refine blk_drew ?_ | refine blk_alloc ?_ _)); exact BK836.out)) : gb855 ≠ gb836)); have n11_ := Aside0.mk ((by rw [hg]; exact Nat.ne_of_lt (blk_lt (g := gb849) (o := .cells #[.slice Ao26 t843.length co26, .int .i64 t846, .int .i64 t847] 29 (0, 0)) (by (with_reducible repeat (first | refine blk_drewN ?_ _ | refine blk_drew ?_ | refine blk_alloc ?_ _)); exact BK849.out)) : gb849 ≠ gb855)); have n12_ := Aside0.mk ((by rw [hg]; exact Nat.ne_of_gt (blk_lt (g := gb849) (o := .cells #[.slice Ao26 t843.length co26, .int .i64 t846, .int .i64 t847] 29 (0, 0)) (by (with_reducible repeat (first | refine blk_drewN ?_ _ | refine blk_drew ?_ | refine blk_alloc ?_ _)); exact BK849.out)) : gb855 ≠ gb849)); clear HO840; clear HO845; clear HO852; clear BK836; clear BK849; clear HB; have HO840 := n0_; have HO845 := n1_; have HO852 := n2_; have BK836 := n3_; have BK849 := n4_; have HB := n5_; have BK855 := n6_; have GW855 := n7_; have GE855 := n8_; have NB836_855 := n9_; have NB855_836 := n10_; have NB849_855 := n11_; have NB855_849 := n12_; clear n0_ n1_ n2_ n3_ n4_ n5_ n6_ n7_ n8_ n9_ n10_ n11_ n12_; clear hb hbox hg; obtain ⟨Ao32, co32, eo32⟩ := Kd.R_slice HO852.out; subst eo32; have hnb33 := NB855_836.out; have hnc33 := NB836_855.out; have hnb34 := NB855_849.out; have hnc34 := NB849_855.out; have hcz35_0 : w31.cell? ⟨gb855, 0, none⟩ = some (.slice none 0 0) := (blk_cell BK855.out 0).trans rfl; have hcz35_1 : w31.cell? ⟨gb855, 1, none⟩ = some (.int .i64 0) := (blk_cell BK855.out 1).trans rfl; have hcz35_2 : w31.cell? ⟨gb855, 2, none⟩ = some (.int .i64 0) := (blk_cell BK855.out 2).trans rfl; have hfz35_0 := blk_frozen BK855.out 0; have hfz35_1 := blk_frozen BK855.out 1; have hfz35_2 := blk_frozen BK855.out 2) | ((with_reducible refine gate_callee (f := 38) rfl ?_); refine goesL_ (some 43) rfl rfl Try.func38 (by kernel_rfl) rfl #[.agg #[.slice Ao32 t850.length co32, .int .i64 t853, .int .i64 t854], .string a1, .string a2] rfl (by (try simp only [List.map_toArray, List.map_cons, List.map_nil]); first | done | rfl | (simp only [List.length_drop, List.length_take]; rfl)) ?_; (with_reducible refine (impl_FsRename.calls _ _ t850 t853 t854 a1 a2 t856 t859 t860 t861 _ ?side1 ?side2 A16.out).mono ?_); (case side1 => refine (Kd.R_reads' (e := 52) (base := w.heap.size) (ok := fun k_ => ((True ∧ some k_ ≠ (.slice Ao23 t838.length co23 : Value).ownBlock) ∧ some k_ ≠ (.slice Ao26 t843.length co26 : Value).ownBlock)) (n := t850.length) (c := co32) ?_).2.2; exact (by (with_reducible repeat (first | apply Kd.R_alloc | apply Kd.R_drewN | apply Kd.R_drew)); exact (Kd.R_mono (Kd.R_far (p := ⟨gb855, 2, none⟩) (Kd.R_far (p := ⟨gb855, 1, none⟩) (Kd.R_far (p := ⟨gb855, 0, none⟩) (Kd.R_types HO852.out BK855.out (by decide)) (fun _ hk => hk.2) (.slice Ao32 t850.length co32)) (fun _ hk => hk.2) (.int .i64 t853)) (fun _ hk => hk.2) (.int .i64 t854)) (fun _ h_ => h_.1)))); (case side2 => exact (Kd.R_reads' HO852.out).2.1); rintro e w36 ⟨v857, rfl, ho0, hb⟩; refine ⟨_, rfl, ?_⟩; have n0_ := Aside0.mk (Kd.R_elder' (by (with_reducible repeat (first | apply Kd.R_alloc | apply Kd.R_drewN | apply Kd.R_drew)); exact (Kd.R_mono (Kd.R_far (p := ⟨gb855, 2, none⟩) (Kd.R_far (p := ⟨gb855, 1, none⟩) (Kd.R_far (p := ⟨gb855, 0, none⟩) (Kd.R_types HO840.out BK855.out (by decide)) (fun _ hk => hk.2) (.slice Ao32 t850.length co32)) (fun _ hk => hk.2) (.int .i64 t853)) (fun _ hk => hk.2) (.int .i64 t854)) (fun _ h_ => h_.1))) (Kd.R_base ho0) hb); have n1_ := Aside0.mk (Kd.R_elder' (by (with_reducible repeat (first | apply Kd.R_alloc | apply Kd.R_drewN | apply Kd.R_drew)); exact (Kd.R_mono (Kd.R_far (p := ⟨gb855, 2, none⟩) (Kd.R_far (p := ⟨gb855, 1, none⟩) (Kd.R_far (p := ⟨gb855, 0, none⟩) (Kd.R_types HO845.out BK855.out (by decide)) (fun _ hk => hk.2) (.slice Ao32 t850.length co32)) (fun _ hk => hk.2) (.int .i64 t853)) (fun _ hk => hk.2) (.int .i64 t854)) (fun _ h_ => h_.1))) (Kd.R_base ho0) hb); have n2_ := Aside0.mk (Kd.R_elder' (by (with_reducible repeat (first | apply Kd.R_alloc | apply Kd.R_drewN | apply Kd.R_drew)); exact (Kd.R_mono (Kd.R_far (p := ⟨gb855, 2, none⟩) (Kd.R_far (p := ⟨gb855, 1, none⟩) (Kd.R_far (p := ⟨gb855, 0, none⟩) (Kd.R_types HO852.out BK855.out (by decide)) (fun _ hk => hk.2) (.slice Ao32 t850.length co32)) (fun _ hk => hk.2) (.int .i64 t853)) (fun _ hk => hk.2) (.int .i64 t854)) (fun _ h_ => h_.1))) (Kd.R_base ho0) hb); have n3_ := Aside0.mk (Kd.R_lower (Kd.R_new' (Kd.R_new' (Kd.R_new' ho0 (Kd.R_lt (by (with_reducible repeat (first | apply Kd.R_alloc | apply Kd.R_drewN | apply Kd.R_drew)); exact (Kd.R_mono (Kd.R_far (p := ⟨gb855, 2, none⟩) (Kd.R_far (p := ⟨gb855, 1, none⟩) (Kd.R_far (p := ⟨gb855, 0, none⟩) (Kd.R_types HO840.out BK855.out (by decide)) (fun _ hk => hk.2) (.slice Ao32 t850.length co32)) (fun _ hk => hk.2) (.int .i64 t853)) (fun _ hk => hk.2) (.int .i64 t854)) (fun _ h_ => h_.1))))) (Kd.R_lt (by (with_reducible repeat (first | apply Kd.R_alloc | apply Kd.R_drewN | apply Kd.R_drew)); exact (Kd.R_mono (Kd.R_far (p := ⟨gb855, 2, none⟩) (Kd.R_far (p := ⟨gb855, 1, none⟩) (Kd.R_far (p := ⟨gb855, 0, none⟩) (Kd.R_types HO845.out BK855.out (by decide)) (fun _ hk => hk.2) (.slice Ao32 t850.length co32)) (fun _ hk => hk.2) (.int .i64 t853)) (fun _ hk => hk.2) (.int .i64 t854)) (fun _ h_ => h_.1))))) (Kd.R_lt (by (with_reducible repeat (first | apply Kd.R_alloc | apply Kd.R_drewN | apply Kd.R_drew)); exact (Kd.R_mono (Kd.R_far (p := ⟨gb855, 2, none⟩) (Kd.R_far (p := ⟨gb855, 1, none⟩) (Kd.R_far (p := ⟨gb855, 0, none⟩) (Kd.R_types HO852.out BK855.out (by decide)) (fun _ hk => hk.2) (.slice Ao32 t850.length co32)) (fun _ hk => hk.2) (.int .i64 t853)) (fun _ hk => hk.2) (.int .i64 t854)) (fun _ h_ => h_.1))))) (below_size (by repeat (first | (with_reducible first | exact HB.out | apply below_alloc | apply pw_below_drewN | apply below_drew1 | refine below_set ?_ GE836.out | refine below_set ?_ GE849.out | refine below_set ?_ GE855.out) | exact HB.out)))); have n4_ := Aside0.mk (blk_below (g := gb836) (o := .cells #[.slice A0_0 l0_0.length c0_0, .int .i64 a0_1, .int .i64 a0_2] 24 (0, 0)) (by (with_reducible repeat (first | refine blk_drewN ?_ _ | refine blk_drew ?_ | refine blk_alloc ?_ _)); refine blk_far ?_ NB836_855.out _; (with_reducible repeat (first | refine blk_drewN ?_ _ | refine blk_drew ?_ | refine blk_alloc ?_ _)); refine blk_far ?_ NB836_855.out _; (with_reducible repeat (first | refine blk_drewN ?_ _ | refine blk_drew ?_ | refine blk_alloc ?_ _)); refine blk_far ?_ NB836_855.out _; (with_reducible repeat (first | refine blk_drewN ?_ _ | refine blk_drew ?_ | refine blk_alloc ?_ _)); exact BK836.out) hb); have n5_ := Aside0.mk (blk_below (g := gb849) (o := .cells #[.slice Ao26 t843.length co26, .int .i64 t846, .int .i64 t847] 29 (0, 0)) (by (with_reducible repeat (first | refine blk_drewN ?_ _ | refine blk_drew ?_ | refine blk_alloc ?_ _)); refine blk_far ?_ NB849_855.out _; (with_reducible repeat (first | refine blk_drewN ?_ _ | refine blk_drew ?_ | refine blk_alloc ?_ _)); refine blk_far ?_ NB849_855.out _; (with_reducible repeat (first | refine blk_drewN ?_ _ | refine blk_drew ?_ | refine blk_alloc ?_ _)); refine blk_far ?_ NB849_855.out _; (with_reducible repeat (first | refine blk_drewN ?_ _ | refine blk_drew ?_ | refine blk_alloc ?_ _)); exact BK849.out) hb); have n6_ := Aside0.mk (blk_below (g := gb855) (o := .cells #[.slice Ao32 t850.length co32, .int .i64 t853, .int .i64 t854] 29 (0, 0)) (by (with_reducible repeat (first | refine blk_drewN ?_ _ | refine blk_drew ?_ | refine blk_alloc ?_ _)); refine blk_put (cs := #[.slice Ao32 t850.length co32, .int .i64 t853, .int .i64 0]) ?_ 2 _ rfl; (with_reducible repeat (first | refine blk_drewN ?_ _ | refine blk_drew ?_ | refine blk_alloc ?_ _)); refine blk_put (cs := #[.slice Ao32 t850.length co32, .int .i64 0, .int .i64 0]) ?_ 1 _ rfl; (with_reducible repeat (first | refine blk_drewN ?_ _ | refine blk_drew ?_ | refine blk_alloc ?_ _)); refine blk_put (cs := #[.slice none 0 0, .int .i64 0, .int .i64 0]) ?_ 0 _ rfl; (with_reducible repeat (first | refine blk_drewN ?_ _ | refine blk_drew ?_ | refine blk_alloc ?_ _)); exact BK855.out) hb); have n7_ := Aside0.mk (below_step (by repeat (first | (with_reducible first | exact HB.out | apply below_alloc | apply pw_below_drewN | apply below_drew1 | refine below_set ?_ GE836.out | refine below_set ?_ GE849.out | refine below_set ?_ GE855.out) | exact HB.out)) hb); clear HO840; clear HO845; clear HO852; clear BK836; clear BK849; clear BK855; clear HB; have HO840 := n0_; have HO845 := n1_; have HO852 := n2_; have HO858 := n3_; have BK836 := n4_; have BK849 := n5_; have BK855 := n6_; have HB := n7_; clear n0_ n1_ n2_ n3_ n4_ n5_ n6_ n7_; (try clear hb); (try clear hb2); (try clear hk); (try clear hi); (try clear ho0)) | ((with_reducible refine gate_dst (N := 11) rfl ?_); refine box_event ?hg (N := 11) ?hd (cs := #[.slice none 0 0, .int .i64 0, .int .i64 0]) (t := 29) ?hr ?_; (case hd => rfl); (case hg => rfl); (case hr => first | (go_simp; done) | (go_simp; rfl)); intro gb862 hg w37 hbox hb; have n0_ := Aside0.mk (Kd.R_below (by (with_reducible repeat (first | apply Kd.R_alloc | apply Kd.R_drewN | apply Kd.R_drew)); exact HO840.out) hb); have n1_ := Aside0.mk (Kd.R_below (by (with_reducible repeat (first | apply Kd.R_alloc | apply Kd.R_drewN | apply Kd.R_drew)); exact HO845.out) hb); have n2_ := Aside0.mk (Kd.R_below (by (with_reducible repeat (first | apply Kd.R_alloc | apply Kd.R_drewN | apply Kd.R_drew)); exact HO852.out) hb); have n3_ := Aside0.mk (Kd.R_below (by (with_reducible repeat (first | apply Kd.R_alloc | apply Kd.R_drewN | apply Kd.R_drew)); exact HO858.out) hb); have n4_ := Aside0.mk (blk_below (g := gb836) (o := .cells #[.slice A0_0 l0_0.length c0_0, .int .i64 a0_1, .int .i64 a0_2] 24 (0, 0)) (by (with_reducible repeat (first | refine blk_drewN ?_ _ | refine blk_drew ?_ | refine blk_alloc ?_ _)); exact BK836.out) hb); have n5_ := Aside0.mk (blk_below (g := gb849) (o := .cells #[.slice Ao26 t843.length co26, .int .i64 t846, .int .i64 t847] 29 (0, 0)) (by (with_reducible repeat (first | refine blk_drewN ?_ _ | refine blk_drew ?_ | refine blk_alloc ?_ _)); exact BK849.out) hb); have n6_ := Aside0.mk (blk_below (g := gb855) (o := .cells #[.slice Ao32 t850.length co32, .int .i64 t853, .int .i64 t854] 29 (0, 0)) (by (with_reducible repeat (first | refine blk_drewN ?_ _ | refine blk_drew ?_ | refine blk_alloc ?_ _)); exact BK855.out) hb); have n7_ := Aside0.mk (below_step (by repeat (first | (with_reducible first | exact HB.out | apply below_alloc | apply pw_below_drewN | apply below_drew1 | refine below_set ?_ GE836.out | refine below_set ?_ GE849.out | refine below_set ?_ GE855.out) | exact HB.out)) hb); have n8_ := Aside0.mk (hbox); have n9_ := Aside0.mk ((by rw [hg]; exact (below_size (by repeat (first | (with_reducible first | exact HB.out | apply below_alloc | apply pw_below_drewN | apply below_drew1 | refine below_set ?_ GE836.out | refine below_set ?_ GE849.out | refine below_set ?_ GE855.out) | exact HB.out))) : w.heap.size ≤ gb862)); have n10_ := Aside0.mk ((by rw [hg]; exact (below_size (by repeat (first | (with_reducible first | exact HB.out | apply below_alloc | apply pw_below_drewN | apply below_drew1 | refine below_set ?_ GE836.out | refine below_set ?_ GE849.out | refine below_set ?_ GE855.out) | exact HB.out))) : w.heap.size ≤ gb862)); have n11_ := Aside0.mk ((by rw [hg]; exact Nat.ne_of_lt (blk_lt (g := gb836) (o := .cells #[.slice A0_0 l0_0.length c0_0, .int .i64 a0_1, .int .i64 a0_2] 24 (0, 0)) (by (with_reducible repeat (first | refine blk_drewN ?_ _ | refine blk_drew ?_ | refine blk_alloc ?_ _)); exact BK836.out)) : gb836 ≠ gb862)); have n12_ := Aside0.mk ((by rw [hg]; exact Nat.ne_of_gt (blk_lt (g := gb836) (o := .cells #[.slice A0_0 l0_0.length c0_0, .int .i64 a0_1, .int .i64 a0_2] 24 (0, 0)) (by (with_reducible repeat (first | refine blk_drewN ?_ _ | refine blk_drew ?_ | refine blk_alloc ?_ _)); exact BK836.out)) : gb862 ≠ gb836)); have n13_ := Aside0.mk ((by rw [hg]; exact Nat.ne_of_lt (blk_lt (g := gb849) (o := .cells #[.slice Ao26 t843.length co26, .int .i64 t846, .int .i64 t847] 29 (0, 0)) (by (with_reducible repeat (first | refine blk_drewN ?_ _ | refine blk_drew ?_ | refine blk_alloc ?_ _)); exact BK849.out)) : gb849 ≠ gb862)); have n14_ := Aside0.mk ((by rw [hg]; exact Nat.ne_of_gt (blk_lt (g := gb849) (o := .cells #[.slice Ao26 t843.length co26, .int .i64 t846, .int .i64 t847] 29 (0, 0)) (by (with_reducible repeat (first | refine blk_drewN ?_ _ | refine blk_drew ?_ | refine blk_alloc ?_ _)); exact BK849.out)) : gb862 ≠ gb849)); have n15_ := Aside0.mk ((by rw [hg]; exact Nat.ne_of_lt (blk_lt (g := gb855) (o := .cells #[.slice Ao32 t850.length co32, .int .i64 t853, .int .i64 t854] 29 (0, 0)) (by (with_reducible repeat (first | refine blk_drewN ?_ _ | refine blk_drew ?_ | refine blk_alloc ?_ _)); exact BK855.out)) : gb855 ≠ gb862)); have n16_ := Aside0.mk ((by rw [hg]; exact Nat.ne_of_gt (blk_lt (g := gb855) (o := .cells #[.slice Ao32 t850.length co32, .int .i64 t853, .int .i64 t854] 29 (0, 0)) (by (with_reducible repeat (first | refine blk_drewN ?_ _ | refine blk_drew ?_ | refine blk_alloc ?_ _)); exact BK855.out)) : gb862 ≠ gb855)); clear HO840; clear HO845; clear HO852; clear HO858; clear BK836; clear BK849; clear BK855; clear HB; have HO840 := n0_; have HO845 := n1_; have HO852 := n2_; have HO858 := n3_; have BK836 := n4_; have BK849 := n5_; have BK855 := n6_; have HB := n7_; have BK862 := n8_; have GW862 := n9_; have GE862 := n10_; have NB836_862 := n11_; have NB862_836 := n12_; have NB849_862 := n13_; have NB862_849 := n14_; have NB855_862 := n15_; have NB862_855 := n16_; clear n0_ n1_ n2_ n3_ n4_ n5_ n6_ n7_ n8_ n9_ n10_ n11_ n12_ n13_ n14_ n15_ n16_; clear hb hbox hg; obtain ⟨Ao38, co38, eo38⟩ := Kd.R_slice HO858.out; subst eo38; have hnb39 := NB862_836.out; have hnc39 := NB836_862.out; have hnb40 := NB862_849.out; have hnc40 := NB849_862.out; have hnb41 := NB862_855.out; have hnc41 := NB855_862.out; have hcz42_0 : w37.cell? ⟨gb862, 0, none⟩ = some (.slice none 0 0) := (blk_cell BK862.out 0).trans rfl; have hcz42_1 : w37.cell? ⟨gb862, 1, none⟩ = some (.int .i64 0) := (blk_cell BK862.out 1).trans rfl; have hcz42_2 : w37.cell? ⟨gb862, 2, none⟩ = some (.int .i64 0) := (blk_cell BK862.out 2).trans rfl; have hfz42_0 := blk_frozen BK862.out 0; have hfz42_1 := blk_frozen BK862.out 1; have hfz42_2 := blk_frozen BK862.out 2))
    (try simp only [Act.put, List.setIfInBounds_toArray, List.set_cons_zero, List.set_cons_succ])
    go_cut [54] (fun v54 wc => ∃ (kq : Nat) (x54_16 : Bool), v54 = .bool x54_16 ∧ Aside0 (laws_FnExactFsRename.j0 kq a1 a2 t848 t861 x54_16 l0_0 a0_1 a0_2 t843 t846 t847 t850 t853 t854 t856 t859 t860 = some true) ∧ Aside0 (kq ≤ k) ∧ Aside0 (Kd.R k52 52 wc w.heap.size (fun k_ => some k_ ≠ ((.slice Ao32 t850.length co32) : Value).ownBlock ∧ some k_ ≠ ((.slice Ao38 t856.length co38) : Value).ownBlock) (.slice Ao26 t843.length co26) t843) ∧ Aside0 (Kd.R k52 52 wc w.heap.size (fun k_ => some k_ ≠ ((.slice Ao26 t843.length co26) : Value).ownBlock ∧ some k_ ≠ ((.slice Ao38 t856.length co38) : Value).ownBlock) (.slice Ao32 t850.length co32) t850) ∧ Aside0 (Kd.R k52 52 wc w.heap.size (fun k_ => some k_ ≠ ((.slice Ao26 t843.length co26) : Value).ownBlock ∧ some k_ ≠ ((.slice Ao32 t850.length co32) : Value).ownBlock) (.slice Ao38 t856.length co38) t856) ∧ Aside0 (wc.heap[gb836]? = some (.cells #[(.slice A0_0 l0_0.length c0_0), .int .i64 a0_1, .int .i64 a0_2] 24 (0, 0))) ∧ Aside0 (wc.heap[gb849]? = some (.cells #[(.slice Ao26 t843.length co26), .int .i64 t846, .int .i64 t847] 29 (0, 0))) ∧ Aside0 (wc.heap[gb855]? = some (.cells #[(.slice Ao32 t850.length co32), .int .i64 t853, .int .i64 t854] 29 (0, 0))) ∧ Aside0 (wc.heap[gb862]? = some (.cells #[(.slice Ao38 t856.length co38), .int .i64 t859, .int .i64 t860] 29 (0, 0))) ∧ Aside0 (Below w.heap.size w wc))
    case first =>
     have H := HC17.out
     clear HC17
     replace H := Option.bind_eq_some_iff.mp H
     obtain ⟨t863, A430, H⟩ := H
     replace H : (if t863 = true then (laws_FnExactFsRename.j0 k a1 a2 t848 t861 (t861 != t848) l0_0 a0_1 a0_2 t843 t846 t847 t850 t853 t854 t856 t859 t860) else (laws_FnExactFsRename.j0 k a1 a2 t848 t861 true l0_0 a0_1 a0_2 t843 t846 t847 t850 t853 t854 t856 t859 t860)) = some true := H
     have A43 := Aside0.mk A430
     clear A430
     by_cases c44 : t863 = true
     ·subst c44
      have H1 : (laws_FnExactFsRename.j0 k a1 a2 t848 t861 (t861 != t848) l0_0 a0_1 a0_2 t843 t846 t847 t850 t853 t854 t856 t859 t860) = some true := by rw [if_pos rfl] at H; exact H
      clear H
      have H := H1
      clear H1
      have H' := Aside0.mk H
      clear H
      have hnb45 := NB862_836.out
      have hnc45 := NB836_862.out
      have hnb46 := NB862_849.out
      have hnc46 := NB849_862.out
      have hnb47 := NB862_855.out
      have hnc47 := NB855_862.out
      have hcz48_0 : w37.cell? ⟨gb862, 0, none⟩ = some (.slice none 0 0) := (blk_cell BK862.out 0).trans rfl
      have hcz48_1 : w37.cell? ⟨gb862, 1, none⟩ = some (.int .i64 0) := (blk_cell BK862.out 1).trans rfl
      have hcz48_2 : w37.cell? ⟨gb862, 2, none⟩ = some (.int .i64 0) := (blk_cell BK862.out 2).trans rfl
      have hfz48_0 := blk_frozen BK862.out 0
      have hfz48_1 := blk_frozen BK862.out 1
      have hfz48_2 := blk_frozen BK862.out 2
      have hnb49 := NB849_836.out
      have hnc49 := NB836_849.out
      have hnb50 := NB849_855.out
      have hnc50 := NB855_849.out
      have hcz51_0 : w37.cell? ⟨gb849, 0, none⟩ = some (.slice Ao26 t843.length co26) := (blk_cell BK849.out 0).trans rfl
      have hcz51_1 : w37.cell? ⟨gb849, 1, none⟩ = some (.int .i64 t846) := (blk_cell BK849.out 1).trans rfl
      have hcz51_2 : w37.cell? ⟨gb849, 2, none⟩ = some (.int .i64 t847) := (blk_cell BK849.out 2).trans rfl
      have hfz51_0 := blk_frozen BK849.out 0
      have hfz51_1 := blk_frozen BK849.out 1
      have hfz51_2 := blk_frozen BK849.out 2
      go_wp2_with (first | ((with_reducible refine gate_callee (f := 16) rfl ?_); refine goesL_ (some 48) rfl rfl Try.func16 (by kernel_rfl) rfl #[.agg #[.slice Ao38 t856.length co38, .int .i64 t859, .int .i64 t860], .agg #[.slice Ao26 t843.length co26, .int .i64 t846, .int .i64 t847]] rfl (by (try simp only [List.map_toArray, List.map_cons, List.map_nil]); first | done | rfl | (simp only [List.length_drop, List.length_take]; rfl)) ?_; (with_reducible refine (laws_eqFS.calls k _ _ t856 t859 t860 _ _ t843 t846 t847 true _ ?side1 ?side2 ?side3 ?side4 A43.out).mono ?_); (case side1 => refine (Kd.R_reads' (e := 52) (base := w.heap.size) (ok := fun k_ => (((True ∧ some k_ ≠ (.slice Ao23 t838.length co23 : Value).ownBlock) ∧ some k_ ≠ (.slice Ao26 t843.length co26 : Value).ownBlock) ∧ some k_ ≠ (.slice Ao32 t850.length co32 : Value).ownBlock)) (n := t856.length) (c := co38) ?_).2.2; exact (by (with_reducible repeat (first | apply Kd.R_alloc | apply Kd.R_drewN | apply Kd.R_drew)); exact (Kd.R_mono (Kd.R_far (p := ⟨gb862, 2, none⟩) (Kd.R_far (p := ⟨gb862, 1, none⟩) (Kd.R_far (p := ⟨gb862, 0, none⟩) (Kd.R_types HO858.out BK862.out (by decide)) (fun _ hk => hk.2) (.slice Ao38 t856.length co38)) (fun _ hk => hk.2) (.int .i64 t859)) (fun _ hk => hk.2) (.int .i64 t860)) (fun _ h_ => h_.1)))); (case side2 => exact (Kd.R_reads' HO858.out).2.1); (case side3 => refine (Kd.R_reads' (e := 52) (base := w.heap.size) (ok := fun k_ => (((True ∧ some k_ ≠ (.slice Ao23 t838.length co23 : Value).ownBlock) ∧ some k_ ≠ (.slice Ao32 t850.length co32 : Value).ownBlock) ∧ some k_ ≠ (.slice Ao38 t856.length co38 : Value).ownBlock)) (n := t843.length) (c := co26) ?_).2.2; exact (by (with_reducible repeat (first | apply Kd.R_alloc | apply Kd.R_drewN | apply Kd.R_drew)); exact (Kd.R_mono (Kd.R_far (p := ⟨gb862, 2, none⟩) (Kd.R_far (p := ⟨gb862, 1, none⟩) (Kd.R_far (p := ⟨gb862, 0, none⟩) (Kd.R_types HO845.out BK862.out (by decide)) (fun _ hk => hk.2) (.slice Ao38 t856.length co38)) (fun _ hk => hk.2) (.int .i64 t859)) (fun _ hk => hk.2) (.int .i64 t860)) (fun _ h_ => h_.1)))); (case side4 => exact (Kd.R_reads' HO845.out).2.1); rintro e w52 ⟨rfl, hb⟩; refine ⟨_, rfl, ?_⟩; have n0_ := Aside0.mk (Kd.R_below (by (with_reducible repeat (first | apply Kd.R_alloc | apply Kd.R_drewN | apply Kd.R_drew)); exact (Kd.R_mono (Kd.R_far (p := ⟨gb862, 2, none⟩) (Kd.R_far (p := ⟨gb862, 1, none⟩) (Kd.R_far (p := ⟨gb862, 0, none⟩) (Kd.R_types HO840.out BK862.out (by decide)) (fun _ hk => hk.2) (.slice Ao38 t856.length co38)) (fun _ hk => hk.2) (.int .i64 t859)) (fun _ hk => hk.2) (.int .i64 t860)) (fun _ h_ => h_.1))) hb); have n1_ := Aside0.mk (Kd.R_below (by (with_reducible repeat (first | apply Kd.R_alloc | apply Kd.R_drewN | apply Kd.R_drew)); exact (Kd.R_mono (Kd.R_far (p := ⟨gb862, 2, none⟩) (Kd.R_far (p := ⟨gb862, 1, none⟩) (Kd.R_far (p := ⟨gb862, 0, none⟩) (Kd.R_types HO845.out BK862.out (by decide)) (fun _ hk => hk.2) (.slice Ao38 t856.length co38)) (fun _ hk => hk.2) (.int .i64 t859)) (fun _ hk => hk.2) (.int .i64 t860)) (fun _ h_ => h_.1))) hb); have n2_ := Aside0.mk (Kd.R_below (by (with_reducible repeat (first | apply Kd.R_alloc | apply Kd.R_drewN | apply Kd.R_drew)); exact (Kd.R_mono (Kd.R_far (p := ⟨gb862, 2, none⟩) (Kd.R_far (p := ⟨gb862, 1, none⟩) (Kd.R_far (p := ⟨gb862, 0, none⟩) (Kd.R_types HO852.out BK862.out (by decide)) (fun _ hk => hk.2) (.slice Ao38 t856.length co38)) (fun _ hk => hk.2) (.int .i64 t859)) (fun _ hk => hk.2) (.int .i64 t860)) (fun _ h_ => h_.1))) hb); have n3_ := Aside0.mk (Kd.R_below (by (with_reducible repeat (first | apply Kd.R_alloc | apply Kd.R_drewN | apply Kd.R_drew)); exact (Kd.R_mono (Kd.R_far (p := ⟨gb862, 2, none⟩) (Kd.R_far (p := ⟨gb862, 1, none⟩) (Kd.R_far (p := ⟨gb862, 0, none⟩) (Kd.R_types HO858.out BK862.out (by decide)) (fun _ hk => hk.2) (.slice Ao38 t856.length co38)) (fun _ hk => hk.2) (.int .i64 t859)) (fun _ hk => hk.2) (.int .i64 t860)) (fun _ h_ => h_.1))) hb); have n4_ := Aside0.mk (blk_below (g := gb836) (o := .cells #[.slice A0_0 l0_0.length c0_0, .int .i64 a0_1, .int .i64 a0_2] 24 (0, 0)) (by (with_reducible repeat (first | refine blk_drewN ?_ _ | refine blk_drew ?_ | refine blk_alloc ?_ _)); refine blk_far ?_ NB836_862.out _; (with_reducible repeat (first | refine blk_drewN ?_ _ | refine blk_drew ?_ | refine blk_alloc ?_ _)); refine blk_far ?_ NB836_862.out _; (with_reducible repeat (first | refine blk_drewN ?_ _ | refine blk_drew ?_ | refine blk_alloc ?_ _)); refine blk_far ?_ NB836_862.out _; (with_reducible repeat (first | refine blk_drewN ?_ _ | refine blk_drew ?_ | refine blk_alloc ?_ _)); exact BK836.out) hb); have n5_ := Aside0.mk (blk_below (g := gb849) (o := .cells #[.slice Ao26 t843.length co26, .int .i64 t846, .int .i64 t847] 29 (0, 0)) (by (with_reducible repeat (first | refine blk_drewN ?_ _ | refine blk_drew ?_ | refine blk_alloc ?_ _)); refine blk_far ?_ NB849_862.out _; (with_reducible repeat (first | refine blk_drewN ?_ _ | refine blk_drew ?_ | refine blk_alloc ?_ _)); refine blk_far ?_ NB849_862.out _; (with_reducible repeat (first | refine blk_drewN ?_ _ | refine blk_drew ?_ | refine blk_alloc ?_ _)); refine blk_far ?_ NB849_862.out _; (with_reducible repeat (first | refine blk_drewN ?_ _ | refine blk_drew ?_ | refine blk_alloc ?_ _)); exact BK849.out) hb); have n6_ := Aside0.mk (blk_below (g := gb855) (o := .cells #[.slice Ao32 t850.length co32, .int .i64 t853, .int .i64 t854] 29 (0, 0)) (by (with_reducible repeat (first | refine blk_drewN ?_ _ | refine blk_drew ?_ | refine blk_alloc ?_ _)); refine blk_far ?_ NB855_862.out _; (with_reducible repeat (first | refine blk_drewN ?_ _ | refine blk_drew ?_ | refine blk_alloc ?_ _)); refine blk_far ?_ NB855_862.out _; (with_reducible repeat (first | refine blk_drewN ?_ _ | refine blk_drew ?_ | refine blk_alloc ?_ _)); refine blk_far ?_ NB855_862.out _; (with_reducible repeat (first | refine blk_drewN ?_ _ | refine blk_drew ?_ | refine blk_alloc ?_ _)); exact BK855.out) hb); have n7_ := Aside0.mk (blk_below (g := gb862) (o := .cells #[.slice Ao38 t856.length co38, .int .i64 t859, .int .i64 t860] 29 (0, 0)) (by (with_reducible repeat (first | refine blk_drewN ?_ _ | refine blk_drew ?_ | refine blk_alloc ?_ _)); refine blk_put (cs := #[.slice Ao38 t856.length co38, .int .i64 t859, .int .i64 0]) ?_ 2 _ rfl; (with_reducible repeat (first | refine blk_drewN ?_ _ | refine blk_drew ?_ | refine blk_alloc ?_ _)); refine blk_put (cs := #[.slice Ao38 t856.length co38, .int .i64 0, .int .i64 0]) ?_ 1 _ rfl; (with_reducible repeat (first | refine blk_drewN ?_ _ | refine blk_drew ?_ | refine blk_alloc ?_ _)); refine blk_put (cs := #[.slice none 0 0, .int .i64 0, .int .i64 0]) ?_ 0 _ rfl; (with_reducible repeat (first | refine blk_drewN ?_ _ | refine blk_drew ?_ | refine blk_alloc ?_ _)); exact BK862.out) hb); have n8_ := Aside0.mk (below_step (by repeat (first | (with_reducible first | exact HB.out | apply below_alloc | apply pw_below_drewN | apply below_drew1 | refine below_set ?_ GE836.out | refine below_set ?_ GE849.out | refine below_set ?_ GE855.out | refine below_set ?_ GE862.out) | exact HB.out)) hb); clear HO840; clear HO845; clear HO852; clear HO858; clear BK836; clear BK849; clear BK855; clear BK862; clear HB; have HO840 := n0_; have HO845 := n1_; have HO852 := n2_; have HO858 := n3_; have BK836 := n4_; have BK849 := n5_; have BK855 := n6_; have BK862 := n7_; have HB := n8_; clear n0_ n1_ n2_ n3_ n4_ n5_ n6_ n7_ n8_; (try clear hb); (try clear hb2); (try clear hk); (try clear hi)))
      go_meet
      case rel => exact ⟨_, ((t861 != t848)), (by first | rfl | (simp; done) | (simp [*]; done)), H', ⟨by first | omega | exact Nat.le_refl _⟩, ⟨by (with_reducible repeat (first | apply Kd.R_alloc | apply Kd.R_drewN | apply Kd.R_drew)); exact Kd.R_mono HO845.out (fun _ hk => ⟨hk.1.2, hk.2⟩)⟩, ⟨by (with_reducible repeat (first | apply Kd.R_alloc | apply Kd.R_drewN | apply Kd.R_drew)); exact Kd.R_mono HO852.out (fun _ hk => ⟨hk.1.2, hk.2⟩)⟩, ⟨by (with_reducible repeat (first | apply Kd.R_alloc | apply Kd.R_drewN | apply Kd.R_drew)); exact Kd.R_mono HO858.out (fun _ hk => ⟨hk.1.2, hk.2⟩)⟩, ⟨by (with_reducible repeat (first | refine blk_drewN ?_ _ | refine blk_drew ?_ | refine blk_alloc ?_ _)); exact BK836.out⟩, ⟨by (with_reducible repeat (first | refine blk_drewN ?_ _ | refine blk_drew ?_ | refine blk_alloc ?_ _)); exact BK849.out⟩, ⟨by (with_reducible repeat (first | refine blk_drewN ?_ _ | refine blk_drew ?_ | refine blk_alloc ?_ _)); exact BK855.out⟩, ⟨by (with_reducible repeat (first | refine blk_drewN ?_ _ | refine blk_drew ?_ | refine blk_alloc ?_ _)); exact BK862.out⟩, ⟨by repeat (first | (with_reducible first | exact HB.out | apply below_alloc | apply pw_below_drewN | apply below_drew1 | refine below_set ?_ GE836.out | refine below_set ?_ GE849.out | refine below_set ?_ GE855.out | refine below_set ?_ GE862.out) | exact HB.out)⟩⟩
     ·replace c44 := Bool.eq_false_iff.mpr c44
      subst c44
      have H1 : (laws_FnExactFsRename.j0 k a1 a2 t848 t861 true l0_0 a0_1 a0_2 t843 t846 t847 t850 t853 t854 t856 t859 t860) = some true := by rw [if_neg (show ¬ (false = true) by decide)] at H; exact H
      clear H
      have H := H1
      clear H1
      have H' := Aside0.mk H
      clear H
      have hnb53 := NB862_836.out
      have hnc53 := NB836_862.out
      have hnb54 := NB862_849.out
      have hnc54 := NB849_862.out
      have hnb55 := NB862_855.out
      have hnc55 := NB855_862.out
      have hcz56_0 : w37.cell? ⟨gb862, 0, none⟩ = some (.slice none 0 0) := (blk_cell BK862.out 0).trans rfl
      have hcz56_1 : w37.cell? ⟨gb862, 1, none⟩ = some (.int .i64 0) := (blk_cell BK862.out 1).trans rfl
      have hcz56_2 : w37.cell? ⟨gb862, 2, none⟩ = some (.int .i64 0) := (blk_cell BK862.out 2).trans rfl
      have hfz56_0 := blk_frozen BK862.out 0
      have hfz56_1 := blk_frozen BK862.out 1
      have hfz56_2 := blk_frozen BK862.out 2
      have hnb57 := NB849_836.out
      have hnc57 := NB836_849.out
      have hnb58 := NB849_855.out
      have hnc58 := NB855_849.out
      have hcz59_0 : w37.cell? ⟨gb849, 0, none⟩ = some (.slice Ao26 t843.length co26) := (blk_cell BK849.out 0).trans rfl
      have hcz59_1 : w37.cell? ⟨gb849, 1, none⟩ = some (.int .i64 t846) := (blk_cell BK849.out 1).trans rfl
      have hcz59_2 : w37.cell? ⟨gb849, 2, none⟩ = some (.int .i64 t847) := (blk_cell BK849.out 2).trans rfl
      have hfz59_0 := blk_frozen BK849.out 0
      have hfz59_1 := blk_frozen BK849.out 1
      have hfz59_2 := blk_frozen BK849.out 2
      go_wp2_with (first | ((with_reducible refine gate_callee (f := 16) rfl ?_); refine goesL_ (some 48) rfl rfl Try.func16 (by kernel_rfl) rfl #[.agg #[.slice Ao38 t856.length co38, .int .i64 t859, .int .i64 t860], .agg #[.slice Ao26 t843.length co26, .int .i64 t846, .int .i64 t847]] rfl (by (try simp only [List.map_toArray, List.map_cons, List.map_nil]); first | done | rfl | (simp only [List.length_drop, List.length_take]; rfl)) ?_; (with_reducible refine (laws_eqFS.calls k _ _ t856 t859 t860 _ _ t843 t846 t847 false _ ?side1 ?side2 ?side3 ?side4 A43.out).mono ?_); (case side1 => refine (Kd.R_reads' (e := 52) (base := w.heap.size) (ok := fun k_ => (((True ∧ some k_ ≠ (.slice Ao23 t838.length co23 : Value).ownBlock) ∧ some k_ ≠ (.slice Ao26 t843.length co26 : Value).ownBlock) ∧ some k_ ≠ (.slice Ao32 t850.length co32 : Value).ownBlock)) (n := t856.length) (c := co38) ?_).2.2; exact (by (with_reducible repeat (first | apply Kd.R_alloc | apply Kd.R_drewN | apply Kd.R_drew)); exact (Kd.R_mono (Kd.R_far (p := ⟨gb862, 2, none⟩) (Kd.R_far (p := ⟨gb862, 1, none⟩) (Kd.R_far (p := ⟨gb862, 0, none⟩) (Kd.R_types HO858.out BK862.out (by decide)) (fun _ hk => hk.2) (.slice Ao38 t856.length co38)) (fun _ hk => hk.2) (.int .i64 t859)) (fun _ hk => hk.2) (.int .i64 t860)) (fun _ h_ => h_.1)))); (case side2 => exact (Kd.R_reads' HO858.out).2.1); (case side3 => refine (Kd.R_reads' (e := 52) (base := w.heap.size) (ok := fun k_ => (((True ∧ some k_ ≠ (.slice Ao23 t838.length co23 : Value).ownBlock) ∧ some k_ ≠ (.slice Ao32 t850.length co32 : Value).ownBlock) ∧ some k_ ≠ (.slice Ao38 t856.length co38 : Value).ownBlock)) (n := t843.length) (c := co26) ?_).2.2; exact (by (with_reducible repeat (first | apply Kd.R_alloc | apply Kd.R_drewN | apply Kd.R_drew)); exact (Kd.R_mono (Kd.R_far (p := ⟨gb862, 2, none⟩) (Kd.R_far (p := ⟨gb862, 1, none⟩) (Kd.R_far (p := ⟨gb862, 0, none⟩) (Kd.R_types HO845.out BK862.out (by decide)) (fun _ hk => hk.2) (.slice Ao38 t856.length co38)) (fun _ hk => hk.2) (.int .i64 t859)) (fun _ hk => hk.2) (.int .i64 t860)) (fun _ h_ => h_.1)))); (case side4 => exact (Kd.R_reads' HO845.out).2.1); rintro e w60 ⟨rfl, hb⟩; refine ⟨_, rfl, ?_⟩; have n0_ := Aside0.mk (Kd.R_below (by (with_reducible repeat (first | apply Kd.R_alloc | apply Kd.R_drewN | apply Kd.R_drew)); exact (Kd.R_mono (Kd.R_far (p := ⟨gb862, 2, none⟩) (Kd.R_far (p := ⟨gb862, 1, none⟩) (Kd.R_far (p := ⟨gb862, 0, none⟩) (Kd.R_types HO840.out BK862.out (by decide)) (fun _ hk => hk.2) (.slice Ao38 t856.length co38)) (fun _ hk => hk.2) (.int .i64 t859)) (fun _ hk => hk.2) (.int .i64 t860)) (fun _ h_ => h_.1))) hb); have n1_ := Aside0.mk (Kd.R_below (by (with_reducible repeat (first | apply Kd.R_alloc | apply Kd.R_drewN | apply Kd.R_drew)); exact (Kd.R_mono (Kd.R_far (p := ⟨gb862, 2, none⟩) (Kd.R_far (p := ⟨gb862, 1, none⟩) (Kd.R_far (p := ⟨gb862, 0, none⟩) (Kd.R_types HO845.out BK862.out (by decide)) (fun _ hk => hk.2) (.slice Ao38 t856.length co38)) (fun _ hk => hk.2) (.int .i64 t859)) (fun _ hk => hk.2) (.int .i64 t860)) (fun _ h_ => h_.1))) hb); have n2_ := Aside0.mk (Kd.R_below (by (with_reducible repeat (first | apply Kd.R_alloc | apply Kd.R_drewN | apply Kd.R_drew)); exact (Kd.R_mono (Kd.R_far (p := ⟨gb862, 2, none⟩) (Kd.R_far (p := ⟨gb862, 1, none⟩) (Kd.R_far (p := ⟨gb862, 0, none⟩) (Kd.R_types HO852.out BK862.out (by decide)) (fun _ hk => hk.2) (.slice Ao38 t856.length co38)) (fun _ hk => hk.2) (.int .i64 t859)) (fun _ hk => hk.2) (.int .i64 t860)) (fun _ h_ => h_.1))) hb); have n3_ := Aside0.mk (Kd.R_below (by (with_reducible repeat (first | apply Kd.R_alloc | apply Kd.R_drewN | apply Kd.R_drew)); exact (Kd.R_mono (Kd.R_far (p := ⟨gb862, 2, none⟩) (Kd.R_far (p := ⟨gb862, 1, none⟩) (Kd.R_far (p := ⟨gb862, 0, none⟩) (Kd.R_types HO858.out BK862.out (by decide)) (fun _ hk => hk.2) (.slice Ao38 t856.length co38)) (fun _ hk => hk.2) (.int .i64 t859)) (fun _ hk => hk.2) (.int .i64 t860)) (fun _ h_ => h_.1))) hb); have n4_ := Aside0.mk (blk_below (g := gb836) (o := .cells #[.slice A0_0 l0_0.length c0_0, .int .i64 a0_1, .int .i64 a0_2] 24 (0, 0)) (by (with_reducible repeat (first | refine blk_drewN ?_ _ | refine blk_drew ?_ | refine blk_alloc ?_ _)); refine blk_far ?_ NB836_862.out _; (with_reducible repeat (first | refine blk_drewN ?_ _ | refine blk_drew ?_ | refine blk_alloc ?_ _)); refine blk_far ?_ NB836_862.out _; (with_reducible repeat (first | refine blk_drewN ?_ _ | refine blk_drew ?_ | refine blk_alloc ?_ _)); refine blk_far ?_ NB836_862.out _; (with_reducible repeat (first | refine blk_drewN ?_ _ | refine blk_drew ?_ | refine blk_alloc ?_ _)); exact BK836.out) hb); have n5_ := Aside0.mk (blk_below (g := gb849) (o := .cells #[.slice Ao26 t843.length co26, .int .i64 t846, .int .i64 t847] 29 (0, 0)) (by (with_reducible repeat (first | refine blk_drewN ?_ _ | refine blk_drew ?_ | refine blk_alloc ?_ _)); refine blk_far ?_ NB849_862.out _; (with_reducible repeat (first | refine blk_drewN ?_ _ | refine blk_drew ?_ | refine blk_alloc ?_ _)); refine blk_far ?_ NB849_862.out _; (with_reducible repeat (first | refine blk_drewN ?_ _ | refine blk_drew ?_ | refine blk_alloc ?_ _)); refine blk_far ?_ NB849_862.out _; (with_reducible repeat (first | refine blk_drewN ?_ _ | refine blk_drew ?_ | refine blk_alloc ?_ _)); exact BK849.out) hb); have n6_ := Aside0.mk (blk_below (g := gb855) (o := .cells #[.slice Ao32 t850.length co32, .int .i64 t853, .int .i64 t854] 29 (0, 0)) (by (with_reducible repeat (first | refine blk_drewN ?_ _ | refine blk_drew ?_ | refine blk_alloc ?_ _)); refine blk_far ?_ NB855_862.out _; (with_reducible repeat (first | refine blk_drewN ?_ _ | refine blk_drew ?_ | refine blk_alloc ?_ _)); refine blk_far ?_ NB855_862.out _; (with_reducible repeat (first | refine blk_drewN ?_ _ | refine blk_drew ?_ | refine blk_alloc ?_ _)); refine blk_far ?_ NB855_862.out _; (with_reducible repeat (first | refine blk_drewN ?_ _ | refine blk_drew ?_ | refine blk_alloc ?_ _)); exact BK855.out) hb); have n7_ := Aside0.mk (blk_below (g := gb862) (o := .cells #[.slice Ao38 t856.length co38, .int .i64 t859, .int .i64 t860] 29 (0, 0)) (by (with_reducible repeat (first | refine blk_drewN ?_ _ | refine blk_drew ?_ | refine blk_alloc ?_ _)); refine blk_put (cs := #[.slice Ao38 t856.length co38, .int .i64 t859, .int .i64 0]) ?_ 2 _ rfl; (with_reducible repeat (first | refine blk_drewN ?_ _ | refine blk_drew ?_ | refine blk_alloc ?_ _)); refine blk_put (cs := #[.slice Ao38 t856.length co38, .int .i64 0, .int .i64 0]) ?_ 1 _ rfl; (with_reducible repeat (first | refine blk_drewN ?_ _ | refine blk_drew ?_ | refine blk_alloc ?_ _)); refine blk_put (cs := #[.slice none 0 0, .int .i64 0, .int .i64 0]) ?_ 0 _ rfl; (with_reducible repeat (first | refine blk_drewN ?_ _ | refine blk_drew ?_ | refine blk_alloc ?_ _)); exact BK862.out) hb); have n8_ := Aside0.mk (below_step (by repeat (first | (with_reducible first | exact HB.out | apply below_alloc | apply pw_below_drewN | apply below_drew1 | refine below_set ?_ GE836.out | refine below_set ?_ GE849.out | refine below_set ?_ GE855.out | refine below_set ?_ GE862.out) | exact HB.out)) hb); clear HO840; clear HO845; clear HO852; clear HO858; clear BK836; clear BK849; clear BK855; clear BK862; clear HB; have HO840 := n0_; have HO845 := n1_; have HO852 := n2_; have HO858 := n3_; have BK836 := n4_; have BK849 := n5_; have BK855 := n6_; have BK862 := n7_; have HB := n8_; clear n0_ n1_ n2_ n3_ n4_ n5_ n6_ n7_ n8_; (try clear hb); (try clear hb2); (try clear hk); (try clear hi)))
      go_meet
      case rel => exact ⟨_, (true), (by first | rfl | (simp; done) | (simp [*]; done)), H', ⟨by first | omega | exact Nat.le_refl _⟩, ⟨by (with_reducible repeat (first | apply Kd.R_alloc | apply Kd.R_drewN | apply Kd.R_drew)); exact Kd.R_mono HO845.out (fun _ hk => ⟨hk.1.2, hk.2⟩)⟩, ⟨by (with_reducible repeat (first | apply Kd.R_alloc | apply Kd.R_drewN | apply Kd.R_drew)); exact Kd.R_mono HO852.out (fun _ hk => ⟨hk.1.2, hk.2⟩)⟩, ⟨by (with_reducible repeat (first | apply Kd.R_alloc | apply Kd.R_drewN | apply Kd.R_drew)); exact Kd.R_mono HO858.out (fun _ hk => ⟨hk.1.2, hk.2⟩)⟩, ⟨by (with_reducible repeat (first | refine blk_drewN ?_ _ | refine blk_drew ?_ | refine blk_alloc ?_ _)); exact BK836.out⟩, ⟨by (with_reducible repeat (first | refine blk_drewN ?_ _ | refine blk_drew ?_ | refine blk_alloc ?_ _)); exact BK849.out⟩, ⟨by (with_reducible repeat (first | refine blk_drewN ?_ _ | refine blk_drew ?_ | refine blk_alloc ?_ _)); exact BK855.out⟩, ⟨by (with_reducible repeat (first | refine blk_drewN ?_ _ | refine blk_drew ?_ | refine blk_alloc ?_ _)); exact BK862.out⟩, ⟨by repeat (first | (with_reducible first | exact HB.out | apply below_alloc | apply pw_below_drewN | apply below_drew1 | refine below_set ?_ GE836.out | refine below_set ?_ GE849.out | refine below_set ?_ GE855.out | refine below_set ?_ GE862.out) | exact HB.out)⟩⟩
    case rest =>
     clear HC17
     try clear c1
     try clear c2
     try clear p2
     try clear c3
     try clear c4
     try clear c4b0
     try clear c4b1
     try clear c5
     try clear c6
     try clear c6b0
     try clear c6b1
     try clear c9
     try clear c9b0
     try clear c11
     try clear c12
     try clear c14
     try clear c16
     try clear c27
     try clear c33
     try clear c34
     try clear c37
     try clear c38
     try clear c39
     try clear c40
     try clear c41
     try clear c44
     try clear c45
     try clear c46
     try clear c47
     try clear c49
     try clear c50
     try clear c53
     try clear c54
     try clear c55
     try clear c57
     try clear c58
     try clear hcz11_0
     try clear hcz11_1
     try clear hcz11_2
     try clear hcz19_0
     try clear hcz19_1
     try clear hcz19_2
     try clear hcz21_0
     try clear hcz21_1
     try clear hcz21_2
     try clear hcz28_0
     try clear hcz28_1
     try clear hcz28_2
     try clear hcz29_0
     try clear hcz29_1
     try clear hcz29_2
     try clear hcz35_0
     try clear hcz35_1
     try clear hcz35_2
     try clear hcz42_0
     try clear hcz42_1
     try clear hcz42_2
     try clear hcz48_0
     try clear hcz48_1
     try clear hcz48_2
     try clear hcz51_0
     try clear hcz51_1
     try clear hcz51_2
     try clear hcz56_0
     try clear hcz56_1
     try clear hcz56_2
     try clear hcz59_0
     try clear hcz59_1
     try clear hcz59_2
     try clear hfz11_0
     try clear hfz11_1
     try clear hfz11_2
     try clear hfz19_0
     try clear hfz19_1
     try clear hfz19_2
     try clear hfz21_0
     try clear hfz21_1
     try clear hfz21_2
     try clear hfz28_0
     try clear hfz28_1
     try clear hfz28_2
     try clear hfz29_0
     try clear hfz29_1
     try clear hfz29_2
     try clear hfz35_0
     try clear hfz35_1
     try clear hfz35_2
     try clear hfz42_0
     try clear hfz42_1
     try clear hfz42_2
     try clear hfz48_0
     try clear hfz48_1
     try clear hfz48_2
     try clear hfz51_0
     try clear hfz51_1
     try clear hfz51_2
     try clear hfz56_0
     try clear hfz56_1
     try clear hfz56_2
     try clear hfz59_0
     try clear hfz59_1
     try clear hfz59_2
     obtain ⟨kq, x54_16, rfl, HA, HJ16, HO_850000, HO_856000, HO_863000, BK836, BK849, BK855, BK862, HB⟩ := hcut
     cases kq with
     | zero => exact absurd HA.out (by simp [laws_FnExactFsRename.j0])
     | succ kj16 =>
      have H := HA.out
      clear HA
      simp only [laws_FnExactFsRename.j0] at H
      by_cases c61 : x54_16 = true
      ·subst c61
       have H1 : (some false) = some true := by rw [if_pos rfl] at H; exact H
       clear H
       have H := H1
       clear H1
       exact absurd H (by simp)
      ·replace c61 := Bool.eq_false_iff.mpr c61
       subst c61
       have H1 : ((laws_toFS.f kj16 l0_0 a0_1 a0_2).bind fun bt864 => ((laws_eqFS.f kj16 t850 t853 t854 bt864.1 bt864.2.1 bt864.2.2).bind fun t869 => (if t869 = true then ((laws_markFS.f kj16 t850 t853 t854 1).bind fun bt870 => (if bt870.1 < 0 then (laws_FnExactFsRename.j1 kj16 a1 a2 t848 true l0_0 a0_1 a0_2 t843 t846 t847 t856 t859 t860) else ((laws_eqFS.f kj16 t856 t859 t860 t843 t846 t847).bind fun t872 => (if t872 = true then (laws_FnExactFsRename.j1 kj16 a1 a2 t848 (t861 != t848) l0_0 a0_1 a0_2 t843 t846 t847 t856 t859 t860) else (laws_FnExactFsRename.j1 kj16 a1 a2 t848 true l0_0 a0_1 a0_2 t843 t846 t847 t856 t859 t860))))) else (some false)))) = some true := by rw [if_neg (show ¬ (false = true) by decide)] at H; exact H
       clear H
       have H := H1
       clear H1
       replace H := Option.bind_eq_some_iff.mp H
       obtain ⟨⟨t864, t867, t868⟩, A620, H⟩ := H
       replace H : ((laws_eqFS.f kj16 t850 t853 t854 t864 t867 t868).bind fun t869 => (if t869 = true then ((laws_markFS.f kj16 t850 t853 t854 1).bind fun bt870 => (if bt870.1 < 0 then (laws_FnExactFsRename.j1 kj16 a1 a2 t848 true l0_0 a0_1 a0_2 t843 t846 t847 t856 t859 t860) else ((laws_eqFS.f kj16 t856 t859 t860 t843 t846 t847).bind fun t872 => (if t872 = true then (laws_FnExactFsRename.j1 kj16 a1 a2 t848 (t861 != t848) l0_0 a0_1 a0_2 t843 t846 t847 t856 t859 t860) else (laws_FnExactFsRename.j1 kj16 a1 a2 t848 true l0_0 a0_1 a0_2 t843 t846 t847 t856 t859 t860))))) else (some false))) = some true := H
       have A62 := Aside0.mk A620
       clear A620
       replace H := Option.bind_eq_some_iff.mp H
       obtain ⟨t869, A630, H⟩ := H
       replace H : (if t869 = true then ((laws_markFS.f kj16 t850 t853 t854 1).bind fun bt870 => (if bt870.1 < 0 then (laws_FnExactFsRename.j1 kj16 a1 a2 t848 true l0_0 a0_1 a0_2 t843 t846 t847 t856 t859 t860) else ((laws_eqFS.f kj16 t856 t859 t860 t843 t846 t847).bind fun t872 => (if t872 = true then (laws_FnExactFsRename.j1 kj16 a1 a2 t848 (t861 != t848) l0_0 a0_1 a0_2 t843 t846 t847 t856 t859 t860) else (laws_FnExactFsRename.j1 kj16 a1 a2 t848 true l0_0 a0_1 a0_2 t843 t846 t847 t856 t859 t860))))) else (some false)) = some true := H
       have A63 := Aside0.mk A630
       clear A630
       by_cases c64 : t869 = true
       ·subst c64
        have H1 : ((laws_markFS.f kj16 t850 t853 t854 1).bind fun bt870 => (if bt870.1 < 0 then (laws_FnExactFsRename.j1 kj16 a1 a2 t848 true l0_0 a0_1 a0_2 t843 t846 t847 t856 t859 t860) else ((laws_eqFS.f kj16 t856 t859 t860 t843 t846 t847).bind fun t872 => (if t872 = true then (laws_FnExactFsRename.j1 kj16 a1 a2 t848 (t861 != t848) l0_0 a0_1 a0_2 t843 t846 t847 t856 t859 t860) else (laws_FnExactFsRename.j1 kj16 a1 a2 t848 true l0_0 a0_1 a0_2 t843 t846 t847 t856 t859 t860))))) = some true := by rw [if_pos rfl] at H; exact H
        clear H
        have H := H1
        clear H1
        replace H := Option.bind_eq_some_iff.mp H
        obtain ⟨⟨t870, t871⟩, A650, H⟩ := H
        replace H : (if t870 < 0 then (laws_FnExactFsRename.j1 kj16 a1 a2 t848 true l0_0 a0_1 a0_2 t843 t846 t847 t856 t859 t860) else ((laws_eqFS.f kj16 t856 t859 t860 t843 t846 t847).bind fun t872 => (if t872 = true then (laws_FnExactFsRename.j1 kj16 a1 a2 t848 (t861 != t848) l0_0 a0_1 a0_2 t843 t846 t847 t856 t859 t860) else (laws_FnExactFsRename.j1 kj16 a1 a2 t848 true l0_0 a0_1 a0_2 t843 t846 t847 t856 t859 t860)))) = some true := H
        have A65 := Aside0.mk A650
        clear A650
        have HC66 := Aside0.mk H
        clear H
        try go_wp2
        have n0_ := Aside0.mk (Kd.R_drew HO_850000.out)
        have n1_ := Aside0.mk (Kd.R_drew HO_856000.out)
        have n2_ := Aside0.mk (Kd.R_drew HO_863000.out)
        have n3_ := Aside0.mk (blk_drew BK836.out)
        have n4_ := Aside0.mk (blk_drew BK849.out)
        have n5_ := Aside0.mk (blk_drew BK855.out)
        have n6_ := Aside0.mk (blk_drew BK862.out)
        have n7_ := Aside0.mk (below_drew1 HB.out)
        clear HO_850000
        clear HO_856000
        clear HO_863000
        clear BK836
        clear BK849
        clear BK855
        clear BK862
        clear HB
        have HO_850000 := n0_
        have HO_856000 := n1_
        have HO_863000 := n2_
        have BK836 := n3_
        have BK849 := n4_
        have BK855 := n5_
        have BK862 := n6_
        have HB := n7_
        clear n0_ n1_ n2_ n3_ n4_ n5_ n6_ n7_
        refine start_ (n := 5) (S := fun w' => w'.cell? ⟨gb855, 0, none⟩ = some (.slice Ao32 t850.length co32) ∧ w'.cell? ⟨gb855, 1, none⟩ = some (.int .i64 t853) ∧ w'.cell? ⟨gb855, 2, none⟩ = some (.int .i64 t854) ∧ w'.cell? ⟨gb836, 0, none⟩ = some (.slice A0_0 l0_0.length c0_0) ∧ w'.cell? ⟨gb836, 1, none⟩ = some (.int .i64 a0_1) ∧ w'.cell? ⟨gb836, 2, none⟩ = some (.int .i64 a0_2)) (ds := []) #[false, false, false, false, false] (by kernel_rfl) rfl rfl ⟨(blk_cell BK855.out 0).trans rfl, (blk_cell BK855.out 1).trans rfl, (blk_cell BK855.out 2).trans rfl, (blk_cell BK836.out 0).trans rfl, (blk_cell BK836.out 1).trans rfl, (blk_cell BK836.out 2).trans rfl⟩ (fun hHeld => ?_)
        generalize wc.drew = w67 at HO_850000 HO_856000 HO_863000 BK836 BK849 BK855 BK862 HB hHeld ⊢
        refine take_ (i := 0) (N := some 55) (v := ?_) (a' := ?_) #[true, false, false, false, false] rfl rfl (by kernel_rfl) (fun _ _ _ h => h) (Or.inl ⟨by rfl, ?_⟩) hHeld ?_ ?_
        rotate_left
        ·rintro w' ⟨s0, s1, s2, s3, s4, s5⟩
         go_simp
         with_reducible rfl
        rotate_left
        ·simp only [Act.put, List.setIfInBounds_toArray, List.set_cons_zero, List.set_cons_succ, i64_w, i32_w]
         rfl
        refine take_ (i := 1) (N := some 56) (v := ?_) (a' := ?_) #[true, true, false, false, false] rfl rfl (by kernel_rfl) (fun _ _ _ h => h) (Or.inl ⟨by rfl, ?_⟩) hHeld ?_ ?_
        rotate_left
        ·rintro w' ⟨s0, s1, s2, s3, s4, s5⟩
         go_simp
         with_reducible rfl
        rotate_left
        ·simp only [Act.put, List.setIfInBounds_toArray, List.set_cons_zero, List.set_cons_succ, i64_w, i32_w]
         rfl
        refine one_ (i := 2) (N := some 57) #[true, true, true, false, false] rfl rfl (by kernel_rfl) (by decide) (fun K hK => ?_)
        refine goes_ Try.func14 (by kernel_rfl) rfl #[.agg #[.slice A0_0 l0_0.length c0_0, .int .i64 a0_1, .int .i64 a0_2]] (by rfl) rfl rfl (by (try simp only [List.map_toArray, List.map_cons, List.map_nil]); first | done | rfl | (simp only [List.length_drop, List.length_take]; rfl)) ?_
        with_reducible refine (laws_toFS.calls kj16 _ _ l0_0 a0_1 a0_2 t864 t867 t868 _ ?side1 ?side2 A62.out).mono ?_
        (case side1 => repeat (first | exact (Kd.C_below HR0_0.out HB.out) | (with_reducible refine Kd.C_alloc ?_ _) | (with_reducible refine Kd.C_drewN ?_ _) | (with_reducible refine Kd.C_drew ?_)))
        (case side2 => exact HC0_0.out)
        rintro e w68 ⟨v865, rfl, ho0, hb⟩
        refine ⟨_, rfl, ?_⟩
        have n0_ := Aside0.mk (Kd.R_elder' (by (with_reducible repeat (first | apply Kd.R_alloc | apply Kd.R_drewN | apply Kd.R_drew)); exact HO_850000.out) (Kd.R_base ho0) hb)
        have n1_ := Aside0.mk (Kd.R_elder' (by (with_reducible repeat (first | apply Kd.R_alloc | apply Kd.R_drewN | apply Kd.R_drew)); exact HO_856000.out) (Kd.R_base ho0) hb)
        have n2_ := Aside0.mk (Kd.R_elder' (by (with_reducible repeat (first | apply Kd.R_alloc | apply Kd.R_drewN | apply Kd.R_drew)); exact HO_863000.out) (Kd.R_base ho0) hb)
        have n3_ := Aside0.mk (Kd.R_lower (Kd.R_new' (Kd.R_new' (Kd.R_new' ho0 (Kd.R_lt (by (with_reducible repeat (first | apply Kd.R_alloc | apply Kd.R_drewN | apply Kd.R_drew)); exact HO_850000.out))) (Kd.R_lt (by (with_reducible repeat (first | apply Kd.R_alloc | apply Kd.R_drewN | apply Kd.R_drew)); exact HO_856000.out))) (Kd.R_lt (by (with_reducible repeat (first | apply Kd.R_alloc | apply Kd.R_drewN | apply Kd.R_drew)); exact HO_863000.out))) (below_size (by repeat (first | (with_reducible first | exact HB.out | apply below_alloc | apply pw_below_drewN | apply below_drew1 | refine below_set ?_ GE836.out | refine below_set ?_ GE849.out | refine below_set ?_ GE855.out | refine below_set ?_ GE862.out) | exact HB.out))))
        have n4_ := Aside0.mk (blk_below (g := gb836) (o := .cells #[.slice A0_0 l0_0.length c0_0, .int .i64 a0_1, .int .i64 a0_2] 24 (0, 0)) (by (with_reducible repeat (first | refine blk_drewN ?_ _ | refine blk_drew ?_ | refine blk_alloc ?_ _)); exact BK836.out) hb)
        have n5_ := Aside0.mk (blk_below (g := gb849) (o := .cells #[.slice Ao26 t843.length co26, .int .i64 t846, .int .i64 t847] 29 (0, 0)) (by (with_reducible repeat (first | refine blk_drewN ?_ _ | refine blk_drew ?_ | refine blk_alloc ?_ _)); exact BK849.out) hb)
        have n6_ := Aside0.mk (blk_below (g := gb855) (o := .cells #[.slice Ao32 t850.length co32, .int .i64 t853, .int .i64 t854] 29 (0, 0)) (by (with_reducible repeat (first | refine blk_drewN ?_ _ | refine blk_drew ?_ | refine blk_alloc ?_ _)); exact BK855.out) hb)
        have n7_ := Aside0.mk (blk_below (g := gb862) (o := .cells #[.slice Ao38 t856.length co38, .int .i64 t859, .int .i64 t860] 29 (0, 0)) (by (with_reducible repeat (first | refine blk_drewN ?_ _ | refine blk_drew ?_ | refine blk_alloc ?_ _)); exact BK862.out) hb)
        have n8_ := Aside0.mk (below_step (by repeat (first | (with_reducible first | exact HB.out | apply below_alloc | apply pw_below_drewN | apply below_drew1 | refine below_set ?_ GE836.out | refine below_set ?_ GE849.out | refine below_set ?_ GE855.out | refine below_set ?_ GE862.out) | exact HB.out)) hb)
        clear HO_850000
        clear HO_856000
        clear HO_863000
        clear BK836
        clear BK849
        clear BK855
        clear BK862
        clear HB
        have HO_850000 := n0_
        have HO_856000 := n1_
        have HO_863000 := n2_
        have HO866 := n3_
        have BK836 := n4_
        have BK849 := n5_
        have BK855 := n6_
        have BK862 := n7_
        have HB := n8_
        clear n0_ n1_ n2_ n3_ n4_ n5_ n6_ n7_ n8_
        (try clear hb)
        (try clear hb2)
        (try clear hk)
        (try clear hi)
        (try clear ho0)
        obtain ⟨Ao69, co69, eo69⟩ := Kd.R_slice HO866.out
        (first | subst eo69 | (injection eo69 with f1_ f2_ f3_; have f4_ := f1_.symm; have f5_ := f3_.symm; clear f1_ f2_ f3_; subst f4_; subst f5_))
        refine hK.out _ _ ⟨(blk_cell BK855.out 0).trans rfl, (blk_cell BK855.out 1).trans rfl, (blk_cell BK855.out 2).trans rfl, (blk_cell BK836.out 0).trans rfl, (blk_cell BK836.out 1).trans rfl, (blk_cell BK836.out 2).trans rfl⟩ (fun hHeld => ?_)
        clear hK K
        refine norm_ (a' := ?_) ?_ ?_
        rotate_left
        ·show Act.put _ (some 57) _ = _
         simp only [Act.put, List.setIfInBounds_toArray, List.set_cons_zero, List.set_cons_succ, i64_w, i32_w]
         rfl
        refine one_ (i := 3) (N := some 58) #[true, true, true, true, false] rfl rfl (by kernel_rfl) (by decide) (fun K hK => ?_)
        refine goes_ Try.func16 (by kernel_rfl) rfl #[.agg #[.slice Ao32 t850.length co32, .int .i64 t853, .int .i64 t854], .agg #[.slice Ao69 t864.length co69, .int .i64 t867, .int .i64 t868]] (by rfl) rfl rfl (by (try simp only [List.map_toArray, List.map_cons, List.map_nil]); first | done | rfl | (simp only [List.length_drop, List.length_take]; rfl)) ?_
        with_reducible refine (laws_eqFS.calls kj16 _ _ t850 t853 t854 _ _ t864 t867 t868 true _ ?side1 ?side2 ?side3 ?side4 A63.out).mono ?_
        (case side1 => repeat (first | exact (Kd.R_reads' HO_856000.out).2.2 | (with_reducible refine Kd.C_alloc ?_ _) | (with_reducible refine Kd.C_drewN ?_ _) | (with_reducible refine Kd.C_drew ?_)))
        (case side2 => exact (Kd.R_reads' HO_856000.out).2.1)
        (case side3 => repeat (first | exact (Kd.R_reads' HO866.out).2.2 | (with_reducible refine Kd.C_alloc ?_ _) | (with_reducible refine Kd.C_drewN ?_ _) | (with_reducible refine Kd.C_drew ?_)))
        (case side4 => exact (Kd.R_reads' HO866.out).2.1)
        rintro e w70 ⟨rfl, hb⟩
        refine ⟨_, rfl, ?_⟩
        have n0_ := Aside0.mk (Kd.R_below (by (with_reducible repeat (first | apply Kd.R_alloc | apply Kd.R_drewN | apply Kd.R_drew)); exact HO_850000.out) hb)
        have n1_ := Aside0.mk (Kd.R_below (by (with_reducible repeat (first | apply Kd.R_alloc | apply Kd.R_drewN | apply Kd.R_drew)); exact HO_856000.out) hb)
        have n2_ := Aside0.mk (Kd.R_below (by (with_reducible repeat (first | apply Kd.R_alloc | apply Kd.R_drewN | apply Kd.R_drew)); exact HO_863000.out) hb)
        have n3_ := Aside0.mk (Kd.R_below (by (with_reducible repeat (first | apply Kd.R_alloc | apply Kd.R_drewN | apply Kd.R_drew)); exact HO866.out) hb)
        have n4_ := Aside0.mk (blk_below (g := gb836) (o := .cells #[.slice A0_0 l0_0.length c0_0, .int .i64 a0_1, .int .i64 a0_2] 24 (0, 0)) (by (with_reducible repeat (first | refine blk_drewN ?_ _ | refine blk_drew ?_ | refine blk_alloc ?_ _)); exact BK836.out) hb)
        have n5_ := Aside0.mk (blk_below (g := gb849) (o := .cells #[.slice Ao26 t843.length co26, .int .i64 t846, .int .i64 t847] 29 (0, 0)) (by (with_reducible repeat (first | refine blk_drewN ?_ _ | refine blk_drew ?_ | refine blk_alloc ?_ _)); exact BK849.out) hb)
        have n6_ := Aside0.mk (blk_below (g := gb855) (o := .cells #[.slice Ao32 t850.length co32, .int .i64 t853, .int .i64 t854] 29 (0, 0)) (by (with_reducible repeat (first | refine blk_drewN ?_ _ | refine blk_drew ?_ | refine blk_alloc ?_ _)); exact BK855.out) hb)
        have n7_ := Aside0.mk (blk_below (g := gb862) (o := .cells #[.slice Ao38 t856.length co38, .int .i64 t859, .int .i64 t860] 29 (0, 0)) (by (with_reducible repeat (first | refine blk_drewN ?_ _ | refine blk_drew ?_ | refine blk_alloc ?_ _)); exact BK862.out) hb)
        have n8_ := Aside0.mk (below_step (by repeat (first | (with_reducible first | exact HB.out | apply below_alloc | apply pw_below_drewN | apply below_drew1 | refine below_set ?_ GE836.out | refine below_set ?_ GE849.out | refine below_set ?_ GE855.out | refine below_set ?_ GE862.out) | exact HB.out)) hb)
        clear HO_850000
        clear HO_856000
        clear HO_863000
        clear HO866
        clear BK836
        clear BK849
        clear BK855
        clear BK862
        clear HB
        have HO_850000 := n0_
        have HO_856000 := n1_
        have HO_863000 := n2_
        have HO866 := n3_
        have BK836 := n4_
        have BK849 := n5_
        have BK855 := n6_
        have BK862 := n7_
        have HB := n8_
        clear n0_ n1_ n2_ n3_ n4_ n5_ n6_ n7_ n8_
        (try clear hb)
        (try clear hb2)
        (try clear hk)
        (try clear hi)
        refine hK.out _ _ ⟨(blk_cell BK855.out 0).trans rfl, (blk_cell BK855.out 1).trans rfl, (blk_cell BK855.out 2).trans rfl, (blk_cell BK836.out 0).trans rfl, (blk_cell BK836.out 1).trans rfl, (blk_cell BK836.out 2).trans rfl⟩ (fun hHeld => ?_)
        clear hK K
        refine norm_ (a' := ?_) ?_ ?_
        rotate_left
        ·show Act.put _ (some 58) _ = _
         simp only [Act.put, List.setIfInBounds_toArray, List.set_cons_zero, List.set_cons_succ, i64_w, i32_w]
         rfl
        refine pure_ (i := 4) (N := some 59) (v := ?_) (a' := ?_) #[true, true, true, true, true] rfl rfl (by kernel_rfl) (fun _ _ _ h => h) (Or.inl ⟨by rfl, ?_⟩) ?_ ?_
        rotate_left
        ·intro w'
         go_simp
         with_reducible rfl
        rotate_left
        ·simp only [Act.put, List.setIfInBounds_toArray, List.set_cons_zero, List.set_cons_succ, i64_w, i32_w]
         rfl
        refine done_ (by kernel_rfl) ?_
        have hnb71 := NB855_836.out
        have hnc71 := NB836_855.out
        have hnb72 := NB855_849.out
        have hnc72 := NB849_855.out
        have hnb73 := NB855_862.out
        have hnc73 := NB862_855.out
        have hcz74_0 : w70.cell? ⟨gb855, 0, none⟩ = some (.slice Ao32 t850.length co32) := (blk_cell BK855.out 0).trans rfl
        have hcz74_1 : w70.cell? ⟨gb855, 1, none⟩ = some (.int .i64 t853) := (blk_cell BK855.out 1).trans rfl
        have hcz74_2 : w70.cell? ⟨gb855, 2, none⟩ = some (.int .i64 t854) := (blk_cell BK855.out 2).trans rfl
        have hfz74_0 := blk_frozen BK855.out 0
        have hfz74_1 := blk_frozen BK855.out 1
        have hfz74_2 := blk_frozen BK855.out 2
        go_upto_region 18 with (first | ((with_reducible refine gate_callee (f := 23) rfl ?_); refine goesL_ (some 62) rfl rfl Try.func23 (by kernel_rfl) rfl #[.agg #[.slice Ao32 t850.length co32, .int .i64 t853, .int .i64 t854], .int .i64 1] rfl (by (try simp only [List.map_toArray, List.map_cons, List.map_nil]); first | done | rfl | (simp only [List.length_drop, List.length_take]; rfl)) ?_; (with_reducible refine (laws_markFS.calls kj16 (fun k_ => some k_ = (.slice Ao32 t850.length co32 : Value).ownBlock) (.slice Ao32 t850.length co32) t850 t853 t854 1 t870 t871 w _ ?side1 ?side2 A65.out).mono ?_); (case side1 => repeat (first | (with_reducible first | exact HB.out | apply below_alloc | apply pw_below_drewN | apply below_drew1 | refine below_set ?_ GE836.out | refine below_set ?_ GE849.out | refine below_set ?_ GE855.out | refine below_set ?_ GE862.out) | exact HB.out)); (case side2 => exact Kd.R_tight rfl HO_856000.out); rintro e w75 ⟨rfl, hy0, hb, hkp⟩; refine ⟨_, rfl, ?_⟩; have n0_ := Aside0.mk (Kd.R_mono (ok' := fun k_ => some k_ ≠ (.slice Ao32 t850.length co32 : Value).ownBlock ∧ some k_ ≠ (.slice Ao38 t856.length co38 : Value).ownBlock ∧ some k_ ≠ (.slice Ao69 t864.length co69 : Value).ownBlock) (Kd.R_keptB (HO_850000.out) hkp (fun k_ hk_ hs_ => (hk_.1.1) hs_)) (fun k_ hk_ => ⟨hk_.1.1.1, hk_.1.1.2, hk_.1.2⟩)); have n1_ := Aside0.mk (Kd.R_reok rfl hy0 (fun k_ e_ => HO_856000.out.1 k_ e_)); have n2_ := Aside0.mk (Kd.R_mono (ok' := fun k_ => some k_ ≠ (.slice Ao26 t843.length co26 : Value).ownBlock ∧ some k_ ≠ (.slice Ao32 t850.length co32 : Value).ownBlock ∧ some k_ ≠ (.slice Ao69 t864.length co69 : Value).ownBlock) (Kd.R_keptB (HO_863000.out) hkp (fun k_ hk_ hs_ => (hk_.1.2) hs_)) (fun k_ hk_ => ⟨hk_.1.1.1, hk_.1.1.2, hk_.1.2⟩)); have n3_ := Aside0.mk (blk_kept (by (with_reducible repeat (first | refine blk_drewN ?_ _ | refine blk_drew ?_ | refine blk_alloc ?_ _)); exact BK836.out) hkp (fun hs_ => (fun e_ => (Kd.R_ne HO_856000.out BK836.out (by decide)) e_) hs_)); have n4_ := Aside0.mk (blk_kept (by (with_reducible repeat (first | refine blk_drewN ?_ _ | refine blk_drew ?_ | refine blk_alloc ?_ _)); exact BK849.out) hkp (fun hs_ => (fun e_ => (Kd.R_ne HO_856000.out BK849.out (by decide)) e_) hs_)); have n5_ := Aside0.mk (blk_kept (by (with_reducible repeat (first | refine blk_drewN ?_ _ | refine blk_drew ?_ | refine blk_alloc ?_ _)); exact BK855.out) hkp (fun hs_ => (fun e_ => (Kd.R_ne HO_856000.out BK855.out (by decide)) e_) hs_)); have n6_ := Aside0.mk (blk_kept (by (with_reducible repeat (first | refine blk_drewN ?_ _ | refine blk_drew ?_ | refine blk_alloc ?_ _)); exact BK862.out) hkp (fun hs_ => (fun e_ => (Kd.R_ne HO_856000.out BK862.out (by decide)) e_) hs_)); have n7_ := Aside0.mk (Kd.R_mono (ok' := fun k_ => some k_ ≠ (.slice Ao26 t843.length co26 : Value).ownBlock ∧ some k_ ≠ (.slice Ao32 t850.length co32 : Value).ownBlock ∧ some k_ ≠ (.slice Ao38 t856.length co38 : Value).ownBlock) (Kd.R_keptB (HO866.out) hkp (fun k_ hk_ hs_ => (hk_.1.2) hs_)) (fun k_ hk_ => ⟨hk_.1.1.1.2, hk_.1.1.2, hk_.1.2⟩)); have n8_ := Aside0.mk (hb); clear HO_850000; clear HO_856000; clear HO_863000; clear BK836; clear BK849; clear BK855; clear BK862; clear HO866; clear HB; have HO_850000 := n0_; have HO_856000 := n1_; have HO_863000 := n2_; have BK836 := n3_; have BK849 := n4_; have BK855 := n5_; have BK862 := n6_; have HO866 := n7_; have HB := n8_; clear n0_ n1_ n2_ n3_ n4_ n5_ n6_ n7_ n8_; (try clear hb); (try clear hkp); (try clear hy0)))
        (try simp only [Act.put, List.setIfInBounds_toArray, List.set_cons_zero, List.set_cons_succ])
        go_cut [75] (fun v75 wc => ∃ (kq : Nat) (x75_65 : Bool), v75 = .bool x75_65 ∧ Aside0 (laws_FnExactFsRename.j1 kq a1 a2 t848 x75_65 l0_0 a0_1 a0_2 t843 t846 t847 t856 t859 t860 = some true) ∧ Aside0 (kq ≤ kj16) ∧ Aside0 (Kd.R k52 52 wc w.heap.size (fun k_ => some k_ ≠ ((.slice Ao32 t850.length co32) : Value).ownBlock ∧ some k_ ≠ ((.slice Ao38 t856.length co38) : Value).ownBlock) (.slice Ao26 t843.length co26) t843) ∧ Aside0 (Kd.R k52 52 wc w.heap.size (fun k_ => some k_ ≠ ((.slice Ao26 t843.length co26) : Value).ownBlock ∧ some k_ ≠ ((.slice Ao38 t856.length co38) : Value).ownBlock) (.slice Ao32 t850.length co32) t871) ∧ Aside0 (Kd.R k52 52 wc w.heap.size (fun k_ => some k_ ≠ ((.slice Ao26 t843.length co26) : Value).ownBlock ∧ some k_ ≠ ((.slice Ao32 t850.length co32) : Value).ownBlock) (.slice Ao38 t856.length co38) t856) ∧ Aside0 (wc.heap[gb836]? = some (.cells #[(.slice A0_0 l0_0.length c0_0), .int .i64 a0_1, .int .i64 a0_2] 24 (0, 0))) ∧ Aside0 (wc.heap[gb849]? = some (.cells #[(.slice Ao26 t843.length co26), .int .i64 t846, .int .i64 t847] 29 (0, 0))) ∧ Aside0 (wc.heap[gb855]? = some (.cells #[(.slice Ao32 t850.length co32), .int .i64 t853, .int .i64 t854] 29 (0, 0))) ∧ Aside0 (wc.heap[gb862]? = some (.cells #[(.slice Ao38 t856.length co38), .int .i64 t859, .int .i64 t860] 29 (0, 0))) ∧ Aside0 (Below w.heap.size w wc))
        case first =>
         have H := HC66.out
         clear HC66
         by_cases c76 : t870 < 0
         ·rw [if_pos c76] at H
          have c76b0 : decide (t870 < 0) = true := decide_eq_true c76
          clear c76
          (first | rw [c76b0] | (simp only [i64_w, i32_w]; rw [c76b0]) | skip)
          have H' := Aside0.mk H
          clear H
          go_wp2
          go_meet
          case rel => exact ⟨_, (true), (by first | rfl | (simp; done) | (simp [*]; done)), H', ⟨by have := HJ16.out; first | omega | exact Nat.le_refl _⟩, ⟨by (with_reducible repeat (first | apply Kd.R_alloc | apply Kd.R_drewN | apply Kd.R_drew)); exact Kd.R_mono HO_850000.out (fun _ hk => ⟨hk.1, hk.2.1⟩)⟩, ⟨by (with_reducible repeat (first | apply Kd.R_alloc | apply Kd.R_drewN | apply Kd.R_drew)); exact Kd.R_mono HO_856000.out (fun _ hk => ⟨hk.1.1, hk.1.2⟩)⟩, ⟨by (with_reducible repeat (first | apply Kd.R_alloc | apply Kd.R_drewN | apply Kd.R_drew)); exact Kd.R_mono HO_863000.out (fun _ hk => ⟨hk.1, hk.2.1⟩)⟩, ⟨by (with_reducible repeat (first | refine blk_drewN ?_ _ | refine blk_drew ?_ | refine blk_alloc ?_ _)); exact BK836.out⟩, ⟨by (with_reducible repeat (first | refine blk_drewN ?_ _ | refine blk_drew ?_ | refine blk_alloc ?_ _)); exact BK849.out⟩, ⟨by (with_reducible repeat (first | refine blk_drewN ?_ _ | refine blk_drew ?_ | refine blk_alloc ?_ _)); exact BK855.out⟩, ⟨by (with_reducible repeat (first | refine blk_drewN ?_ _ | refine blk_drew ?_ | refine blk_alloc ?_ _)); exact BK862.out⟩, ⟨by repeat (first | (with_reducible first | exact HB.out | apply below_alloc | apply pw_below_drewN | apply below_drew1 | refine below_set ?_ GE836.out | refine below_set ?_ GE849.out | refine below_set ?_ GE855.out | refine below_set ?_ GE862.out) | exact HB.out)⟩⟩
         ·rw [if_neg c76] at H
          have c76b0 : decide (t870 < 0) = false := decide_eq_false c76
          clear c76
          (first | rw [c76b0] | (simp only [i64_w, i32_w]; rw [c76b0]) | skip)
          replace H := Option.bind_eq_some_iff.mp H
          obtain ⟨t872, A770, H⟩ := H
          replace H : (if t872 = true then (laws_FnExactFsRename.j1 kj16 a1 a2 t848 (t861 != t848) l0_0 a0_1 a0_2 t843 t846 t847 t856 t859 t860) else (laws_FnExactFsRename.j1 kj16 a1 a2 t848 true l0_0 a0_1 a0_2 t843 t846 t847 t856 t859 t860)) = some true := H
          have A77 := Aside0.mk A770
          clear A770
          by_cases c78 : t872 = true
          ·subst c78
           have H1 : (laws_FnExactFsRename.j1 kj16 a1 a2 t848 (t861 != t848) l0_0 a0_1 a0_2 t843 t846 t847 t856 t859 t860) = some true := by rw [if_pos rfl] at H; exact H
           clear H
           have H := H1
           clear H1
           have H' := Aside0.mk H
           clear H
           have hnb79 := NB862_836.out
           have hnc79 := NB836_862.out
           have hnb80 := NB862_849.out
           have hnc80 := NB849_862.out
           have hnb81 := NB862_855.out
           have hnc81 := NB855_862.out
           have hcz82_0 : w75.cell? ⟨gb862, 0, none⟩ = some (.slice Ao38 t856.length co38) := (blk_cell BK862.out 0).trans rfl
           have hcz82_1 : w75.cell? ⟨gb862, 1, none⟩ = some (.int .i64 t859) := (blk_cell BK862.out 1).trans rfl
           have hcz82_2 : w75.cell? ⟨gb862, 2, none⟩ = some (.int .i64 t860) := (blk_cell BK862.out 2).trans rfl
           have hfz82_0 := blk_frozen BK862.out 0
           have hfz82_1 := blk_frozen BK862.out 1
           have hfz82_2 := blk_frozen BK862.out 2
           have hnb83 := NB849_836.out
           have hnc83 := NB836_849.out
           have hnb84 := NB849_855.out
           have hnc84 := NB855_849.out
           have hcz85_0 : w75.cell? ⟨gb849, 0, none⟩ = some (.slice Ao26 t843.length co26) := (blk_cell BK849.out 0).trans rfl
           have hcz85_1 : w75.cell? ⟨gb849, 1, none⟩ = some (.int .i64 t846) := (blk_cell BK849.out 1).trans rfl
           have hcz85_2 : w75.cell? ⟨gb849, 2, none⟩ = some (.int .i64 t847) := (blk_cell BK849.out 2).trans rfl
           have hfz85_0 := blk_frozen BK849.out 0
           have hfz85_1 := blk_frozen BK849.out 1
           have hfz85_2 := blk_frozen BK849.out 2
           go_wp2_with (first | (go_at_call 16; (with_reducible refine (laws_eqFS.calls kj16 _ _ t856 t859 t860 _ _ t843 t846 t847 true _ ?side1 ?side2 ?side3 ?side4 A77.out).mono ?_); (case side1 => repeat (first | exact (Kd.R_reads' HO_863000.out).2.2 | (with_reducible refine Kd.C_alloc ?_ _) | (with_reducible refine Kd.C_drewN ?_ _) | (with_reducible refine Kd.C_drew ?_))); (case side2 => exact (Kd.R_reads' HO_863000.out).2.1); (case side3 => repeat (first | exact (Kd.R_reads' HO_850000.out).2.2 | (with_reducible refine Kd.C_alloc ?_ _) | (with_reducible refine Kd.C_drewN ?_ _) | (with_reducible refine Kd.C_drew ?_))); (case side4 => exact (Kd.R_reads' HO_850000.out).2.1); rintro e w86 ⟨rfl, hb⟩; have n0_ := Aside0.mk (Kd.R_below (by (with_reducible repeat (first | apply Kd.R_alloc | apply Kd.R_drewN | apply Kd.R_drew)); exact HO_850000.out) hb); have n1_ := Aside0.mk (Kd.R_below (by (with_reducible repeat (first | apply Kd.R_alloc | apply Kd.R_drewN | apply Kd.R_drew)); exact HO_856000.out) hb); have n2_ := Aside0.mk (Kd.R_below (by (with_reducible repeat (first | apply Kd.R_alloc | apply Kd.R_drewN | apply Kd.R_drew)); exact HO_863000.out) hb); have n3_ := Aside0.mk (Kd.R_below (by (with_reducible repeat (first | apply Kd.R_alloc | apply Kd.R_drewN | apply Kd.R_drew)); exact HO866.out) hb); have n4_ := Aside0.mk (blk_below (g := gb836) (o := .cells #[.slice A0_0 l0_0.length c0_0, .int .i64 a0_1, .int .i64 a0_2] 24 (0, 0)) (by (with_reducible repeat (first | refine blk_drewN ?_ _ | refine blk_drew ?_ | refine blk_alloc ?_ _)); exact BK836.out) hb); have n5_ := Aside0.mk (blk_below (g := gb849) (o := .cells #[.slice Ao26 t843.length co26, .int .i64 t846, .int .i64 t847] 29 (0, 0)) (by (with_reducible repeat (first | refine blk_drewN ?_ _ | refine blk_drew ?_ | refine blk_alloc ?_ _)); exact BK849.out) hb); have n6_ := Aside0.mk (blk_below (g := gb855) (o := .cells #[.slice Ao32 t850.length co32, .int .i64 t853, .int .i64 t854] 29 (0, 0)) (by (with_reducible repeat (first | refine blk_drewN ?_ _ | refine blk_drew ?_ | refine blk_alloc ?_ _)); exact BK855.out) hb); have n7_ := Aside0.mk (blk_below (g := gb862) (o := .cells #[.slice Ao38 t856.length co38, .int .i64 t859, .int .i64 t860] 29 (0, 0)) (by (with_reducible repeat (first | refine blk_drewN ?_ _ | refine blk_drew ?_ | refine blk_alloc ?_ _)); exact BK862.out) hb); have n8_ := Aside0.mk (below_step (by repeat (first | (with_reducible first | exact HB.out | apply below_alloc | apply pw_below_drewN | apply below_drew1 | refine below_set ?_ GE836.out | refine below_set ?_ GE849.out | refine below_set ?_ GE855.out | refine below_set ?_ GE862.out) | exact HB.out)) hb); clear HO_850000; clear HO_856000; clear HO_863000; clear HO866; clear BK836; clear BK849; clear BK855; clear BK862; clear HB; have HO_850000 := n0_; have HO_856000 := n1_; have HO_863000 := n2_; have HO866 := n3_; have BK836 := n4_; have BK849 := n5_; have BK855 := n6_; have BK862 := n7_; have HB := n8_; clear n0_ n1_ n2_ n3_ n4_ n5_ n6_ n7_ n8_; (try clear hb); (try clear hb2); (try clear hk); (try clear hi)))
           go_meet
           case rel => exact ⟨_, ((t861 != t848)), (by first | rfl | (simp; done) | (simp [*]; done)), H', ⟨by have := HJ16.out; first | omega | exact Nat.le_refl _⟩, ⟨by (with_reducible repeat (first | apply Kd.R_alloc | apply Kd.R_drewN | apply Kd.R_drew)); exact Kd.R_mono HO_850000.out (fun _ hk => ⟨hk.1, hk.2.1⟩)⟩, ⟨by (with_reducible repeat (first | apply Kd.R_alloc | apply Kd.R_drewN | apply Kd.R_drew)); exact Kd.R_mono HO_856000.out (fun _ hk => ⟨hk.1.1, hk.1.2⟩)⟩, ⟨by (with_reducible repeat (first | apply Kd.R_alloc | apply Kd.R_drewN | apply Kd.R_drew)); exact Kd.R_mono HO_863000.out (fun _ hk => ⟨hk.1, hk.2.1⟩)⟩, ⟨by (with_reducible repeat (first | refine blk_drewN ?_ _ | refine blk_drew ?_ | refine blk_alloc ?_ _)); exact BK836.out⟩, ⟨by (with_reducible repeat (first | refine blk_drewN ?_ _ | refine blk_drew ?_ | refine blk_alloc ?_ _)); exact BK849.out⟩, ⟨by (with_reducible repeat (first | refine blk_drewN ?_ _ | refine blk_drew ?_ | refine blk_alloc ?_ _)); exact BK855.out⟩, ⟨by (with_reducible repeat (first | refine blk_drewN ?_ _ | refine blk_drew ?_ | refine blk_alloc ?_ _)); exact BK862.out⟩, ⟨by repeat (first | (with_reducible first | exact HB.out | apply below_alloc | apply pw_below_drewN | apply below_drew1 | refine below_set ?_ GE836.out | refine below_set ?_ GE849.out | refine below_set ?_ GE855.out | refine below_set ?_ GE862.out) | exact HB.out)⟩⟩
          ·replace c78 := Bool.eq_false_iff.mpr c78
           subst c78
           have H1 : (laws_FnExactFsRename.j1 kj16 a1 a2 t848 true l0_0 a0_1 a0_2 t843 t846 t847 t856 t859 t860) = some true := by rw [if_neg (show ¬ (false = true) by decide)] at H; exact H
           clear H
           have H := H1
           clear H1
           have H' := Aside0.mk H
           clear H
           have hnb87 := NB862_836.out
           have hnc87 := NB836_862.out
           have hnb88 := NB862_849.out
           have hnc88 := NB849_862.out
           have hnb89 := NB862_855.out
           have hnc89 := NB855_862.out
           have hcz90_0 : w75.cell? ⟨gb862, 0, none⟩ = some (.slice Ao38 t856.length co38) := (blk_cell BK862.out 0).trans rfl
           have hcz90_1 : w75.cell? ⟨gb862, 1, none⟩ = some (.int .i64 t859) := (blk_cell BK862.out 1).trans rfl
           have hcz90_2 : w75.cell? ⟨gb862, 2, none⟩ = some (.int .i64 t860) := (blk_cell BK862.out 2).trans rfl
           have hfz90_0 := blk_frozen BK862.out 0
           have hfz90_1 := blk_frozen BK862.out 1
           have hfz90_2 := blk_frozen BK862.out 2
           have hnb91 := NB849_836.out
           have hnc91 := NB836_849.out
           have hnb92 := NB849_855.out
           have hnc92 := NB855_849.out
           have hcz93_0 : w75.cell? ⟨gb849, 0, none⟩ = some (.slice Ao26 t843.length co26) := (blk_cell BK849.out 0).trans rfl
           have hcz93_1 : w75.cell? ⟨gb849, 1, none⟩ = some (.int .i64 t846) := (blk_cell BK849.out 1).trans rfl
           have hcz93_2 : w75.cell? ⟨gb849, 2, none⟩ = some (.int .i64 t847) := (blk_cell BK849.out 2).trans rfl
           have hfz93_0 := blk_frozen BK849.out 0
           have hfz93_1 := blk_frozen BK849.out 1
           have hfz93_2 := blk_frozen BK849.out 2
           go_wp2_with (first | (go_at_call 16; (with_reducible refine (laws_eqFS.calls kj16 _ _ t856 t859 t860 _ _ t843 t846 t847 false _ ?side1 ?side2 ?side3 ?side4 A77.out).mono ?_); (case side1 => repeat (first | exact (Kd.R_reads' HO_863000.out).2.2 | (with_reducible refine Kd.C_alloc ?_ _) | (with_reducible refine Kd.C_drewN ?_ _) | (with_reducible refine Kd.C_drew ?_))); (case side2 => exact (Kd.R_reads' HO_863000.out).2.1); (case side3 => repeat (first | exact (Kd.R_reads' HO_850000.out).2.2 | (with_reducible refine Kd.C_alloc ?_ _) | (with_reducible refine Kd.C_drewN ?_ _) | (with_reducible refine Kd.C_drew ?_))); (case side4 => exact (Kd.R_reads' HO_850000.out).2.1); rintro e w94 ⟨rfl, hb⟩; have n0_ := Aside0.mk (Kd.R_below (by (with_reducible repeat (first | apply Kd.R_alloc | apply Kd.R_drewN | apply Kd.R_drew)); exact HO_850000.out) hb); have n1_ := Aside0.mk (Kd.R_below (by (with_reducible repeat (first | apply Kd.R_alloc | apply Kd.R_drewN | apply Kd.R_drew)); exact HO_856000.out) hb); have n2_ := Aside0.mk (Kd.R_below (by (with_reducible repeat (first | apply Kd.R_alloc | apply Kd.R_drewN | apply Kd.R_drew)); exact HO_863000.out) hb); have n3_ := Aside0.mk (Kd.R_below (by (with_reducible repeat (first | apply Kd.R_alloc | apply Kd.R_drewN | apply Kd.R_drew)); exact HO866.out) hb); have n4_ := Aside0.mk (blk_below (g := gb836) (o := .cells #[.slice A0_0 l0_0.length c0_0, .int .i64 a0_1, .int .i64 a0_2] 24 (0, 0)) (by (with_reducible repeat (first | refine blk_drewN ?_ _ | refine blk_drew ?_ | refine blk_alloc ?_ _)); exact BK836.out) hb); have n5_ := Aside0.mk (blk_below (g := gb849) (o := .cells #[.slice Ao26 t843.length co26, .int .i64 t846, .int .i64 t847] 29 (0, 0)) (by (with_reducible repeat (first | refine blk_drewN ?_ _ | refine blk_drew ?_ | refine blk_alloc ?_ _)); exact BK849.out) hb); have n6_ := Aside0.mk (blk_below (g := gb855) (o := .cells #[.slice Ao32 t850.length co32, .int .i64 t853, .int .i64 t854] 29 (0, 0)) (by (with_reducible repeat (first | refine blk_drewN ?_ _ | refine blk_drew ?_ | refine blk_alloc ?_ _)); exact BK855.out) hb); have n7_ := Aside0.mk (blk_below (g := gb862) (o := .cells #[.slice Ao38 t856.length co38, .int .i64 t859, .int .i64 t860] 29 (0, 0)) (by (with_reducible repeat (first | refine blk_drewN ?_ _ | refine blk_drew ?_ | refine blk_alloc ?_ _)); exact BK862.out) hb); have n8_ := Aside0.mk (below_step (by repeat (first | (with_reducible first | exact HB.out | apply below_alloc | apply pw_below_drewN | apply below_drew1 | refine below_set ?_ GE836.out | refine below_set ?_ GE849.out | refine below_set ?_ GE855.out | refine below_set ?_ GE862.out) | exact HB.out)) hb); clear HO_850000; clear HO_856000; clear HO_863000; clear HO866; clear BK836; clear BK849; clear BK855; clear BK862; clear HB; have HO_850000 := n0_; have HO_856000 := n1_; have HO_863000 := n2_; have HO866 := n3_; have BK836 := n4_; have BK849 := n5_; have BK855 := n6_; have BK862 := n7_; have HB := n8_; clear n0_ n1_ n2_ n3_ n4_ n5_ n6_ n7_ n8_; (try clear hb); (try clear hb2); (try clear hk); (try clear hi)))
           go_meet
           case rel => exact ⟨_, (true), (by first | rfl | (simp; done) | (simp [*]; done)), H', ⟨by have := HJ16.out; first | omega | exact Nat.le_refl _⟩, ⟨by (with_reducible repeat (first | apply Kd.R_alloc | apply Kd.R_drewN | apply Kd.R_drew)); exact Kd.R_mono HO_850000.out (fun _ hk => ⟨hk.1, hk.2.1⟩)⟩, ⟨by (with_reducible repeat (first | apply Kd.R_alloc | apply Kd.R_drewN | apply Kd.R_drew)); exact Kd.R_mono HO_856000.out (fun _ hk => ⟨hk.1.1, hk.1.2⟩)⟩, ⟨by (with_reducible repeat (first | apply Kd.R_alloc | apply Kd.R_drewN | apply Kd.R_drew)); exact Kd.R_mono HO_863000.out (fun _ hk => ⟨hk.1, hk.2.1⟩)⟩, ⟨by (with_reducible repeat (first | refine blk_drewN ?_ _ | refine blk_drew ?_ | refine blk_alloc ?_ _)); exact BK836.out⟩, ⟨by (with_reducible repeat (first | refine blk_drewN ?_ _ | refine blk_drew ?_ | refine blk_alloc ?_ _)); exact BK849.out⟩, ⟨by (with_reducible repeat (first | refine blk_drewN ?_ _ | refine blk_drew ?_ | refine blk_alloc ?_ _)); exact BK855.out⟩, ⟨by (with_reducible repeat (first | refine blk_drewN ?_ _ | refine blk_drew ?_ | refine blk_alloc ?_ _)); exact BK862.out⟩, ⟨by repeat (first | (with_reducible first | exact HB.out | apply below_alloc | apply pw_below_drewN | apply below_drew1 | refine below_set ?_ GE836.out | refine below_set ?_ GE849.out | refine below_set ?_ GE855.out | refine below_set ?_ GE862.out) | exact HB.out)⟩⟩
        case rest =>
         clear HC66
         try clear c1
         try clear c2
         try clear p2
         try clear c3
         try clear c4
         try clear c4b0
         try clear c4b1
         try clear c5
         try clear c6
         try clear c6b0
         try clear c6b1
         try clear c7
         try clear c8
         try clear c9
         try clear c9b0
         try clear c11
         try clear c12
         try clear c14
         try clear c16
         try clear c23
         try clear c27
         try clear c33
         try clear c34
         try clear c37
         try clear c38
         try clear c39
         try clear c40
         try clear c41
         try clear c44
         try clear c45
         try clear c46
         try clear c47
         try clear c49
         try clear c50
         try clear c53
         try clear c54
         try clear c55
         try clear c57
         try clear c58
         try clear c61
         try clear c64
         try clear c71
         try clear c72
         try clear c73
         try clear c76
         try clear c76b0
         try clear c78
         try clear c79
         try clear c80
         try clear c81
         try clear c83
         try clear c84
         try clear c87
         try clear c88
         try clear c89
         try clear c91
         try clear c92
         try clear hcz11_0
         try clear hcz11_1
         try clear hcz11_2
         try clear hcz19_0
         try clear hcz19_1
         try clear hcz19_2
         try clear hcz21_0
         try clear hcz21_1
         try clear hcz21_2
         try clear hcz28_0
         try clear hcz28_1
         try clear hcz28_2
         try clear hcz29_0
         try clear hcz29_1
         try clear hcz29_2
         try clear hcz35_0
         try clear hcz35_1
         try clear hcz35_2
         try clear hcz42_0
         try clear hcz42_1
         try clear hcz42_2
         try clear hcz48_0
         try clear hcz48_1
         try clear hcz48_2
         try clear hcz51_0
         try clear hcz51_1
         try clear hcz51_2
         try clear hcz56_0
         try clear hcz56_1
         try clear hcz56_2
         try clear hcz59_0
         try clear hcz59_1
         try clear hcz59_2
         try clear hcz74_0
         try clear hcz74_1
         try clear hcz74_2
         try clear hcz82_0
         try clear hcz82_1
         try clear hcz82_2
         try clear hcz85_0
         try clear hcz85_1
         try clear hcz85_2
         try clear hcz90_0
         try clear hcz90_1
         try clear hcz90_2
         try clear hcz93_0
         try clear hcz93_1
         try clear hcz93_2
         try clear hfz11_0
         try clear hfz11_1
         try clear hfz11_2
         try clear hfz19_0
         try clear hfz19_1
         try clear hfz19_2
         try clear hfz21_0
         try clear hfz21_1
         try clear hfz21_2
         try clear hfz28_0
         try clear hfz28_1
         try clear hfz28_2
         try clear hfz29_0
         try clear hfz29_1
         try clear hfz29_2
         try clear hfz35_0
         try clear hfz35_1
         try clear hfz35_2
         try clear hfz42_0
         try clear hfz42_1
         try clear hfz42_2
         try clear hfz48_0
         try clear hfz48_1
         try clear hfz48_2
         try clear hfz51_0
         try clear hfz51_1
         try clear hfz51_2
         try clear hfz56_0
         try clear hfz56_1
         try clear hfz56_2
         try clear hfz59_0
         try clear hfz59_1
         try clear hfz59_2
         try clear hfz74_0
         try clear hfz74_1
         try clear hfz74_2
         try clear hfz82_0
         try clear hfz82_1
         try clear hfz82_2
         try clear hfz85_0
         try clear hfz85_1
         try clear hfz85_2
         try clear hfz90_0
         try clear hfz90_1
         try clear hfz90_2
         try clear hfz93_0
         try clear hfz93_1
         try clear hfz93_2
         try clear p2
         obtain ⟨kq, x75_65, rfl, HA, HJ65, HO_850000, HO_856000, HO_863000, BK836, BK849, BK855, BK862, HB⟩ := hcut
         have hl856000_65 := (Kd.R_reads' HO_856000.out).1
         rw [hl856000_65] at HO_856000
         (try simp only [hl856000_65])
         (try simp only [hl856000_65] at BK836)
         (try simp only [hl856000_65] at BK849)
         (try simp only [hl856000_65] at BK855)
         (try simp only [hl856000_65] at BK862)
         (try simp only [hl856000_65] at HO_850000)
         (try simp only [hl856000_65] at HO_863000)
         cases kq with
         | zero => exact absurd HA.out (by simp [laws_FnExactFsRename.j1])
         | succ kj65 =>
          have H := HA.out
          clear HA
          simp only [laws_FnExactFsRename.j1] at H
          by_cases c95 : x75_65 = true
          ·subst c95
           have H1 : (some false) = some true := by rw [if_pos rfl] at H; exact H
           clear H
           have H := H1
           clear H1
           exact absurd H (by simp)
          ·replace c95 := Bool.eq_false_iff.mpr c95
           subst c95
           have H1 : ((laws_markFS.f kj65 t856 t859 t860 1).bind fun bt873 => ((laws_heldFS.f kj65 bt873.2 t859 t860 1).bind fun t875 => (if t875 < 0 then (some false) else (if t875 = bt873.1 then ((laws_toFS.f kj65 l0_0 a0_1 a0_2).bind fun bt876 => ((impl_FsRename.f bt876.1 bt876.2.1 bt876.2.2 a1 a2).bind fun bt881 => ((laws_eqFS.f kj65 bt881.1 bt881.2.1 bt881.2.2.1 t843 t846 t847).bind fun t888 => (if t888 = true then (if bt881.2.2.2 = t848 then (some true) else (some false)) else (some false))))) else (some false))))) = some true := by rw [if_neg (show ¬ (false = true) by decide)] at H; exact H
           clear H
           have H := H1
           clear H1
           replace H := Option.bind_eq_some_iff.mp H
           obtain ⟨⟨t873, t874⟩, A960, H⟩ := H
           replace H : ((laws_heldFS.f kj65 t874 t859 t860 1).bind fun t875 => (if t875 < 0 then (some false) else (if t875 = t873 then ((laws_toFS.f kj65 l0_0 a0_1 a0_2).bind fun bt876 => ((impl_FsRename.f bt876.1 bt876.2.1 bt876.2.2 a1 a2).bind fun bt881 => ((laws_eqFS.f kj65 bt881.1 bt881.2.1 bt881.2.2.1 t843 t846 t847).bind fun t888 => (if t888 = true then (if bt881.2.2.2 = t848 then (some true) else (some false)) else (some false))))) else (some false)))) = some true := H
           have A96 := Aside0.mk A960
           clear A960
           replace H := Option.bind_eq_some_iff.mp H
           obtain ⟨t875, A970, H⟩ := H
           replace H : (if t875 < 0 then (some false) else (if t875 = t873 then ((laws_toFS.f kj65 l0_0 a0_1 a0_2).bind fun bt876 => ((impl_FsRename.f bt876.1 bt876.2.1 bt876.2.2 a1 a2).bind fun bt881 => ((laws_eqFS.f kj65 bt881.1 bt881.2.1 bt881.2.2.1 t843 t846 t847).bind fun t888 => (if t888 = true then (if bt881.2.2.2 = t848 then (some true) else (some false)) else (some false))))) else (some false))) = some true := H
           have A97 := Aside0.mk A970
           clear A970
           by_cases c98 : t875 < 0
           ·rw [if_pos c98] at H
            have c98b0 : decide (t875 < 0) = true := decide_eq_true c98
            clear c98
            exact absurd H (by simp)
           ·rw [if_neg c98] at H
            have c98b0 : decide (t875 < 0) = false := decide_eq_false c98
            clear c98
            by_cases c99 : t875 = t873
            ·rw [if_pos c99] at H
             have c99b0 : (t875 == t873) = true := beq_iff_eq.mpr c99
             have c99b1 : (t875 != t873) = false := bne_eq_false_iff_eq.mpr c99
             clear c99
             replace H := Option.bind_eq_some_iff.mp H
             obtain ⟨⟨t876, t879, t880⟩, A1000, H⟩ := H
             replace H : ((impl_FsRename.f t876 t879 t880 a1 a2).bind fun bt881 => ((laws_eqFS.f kj65 bt881.1 bt881.2.1 bt881.2.2.1 t843 t846 t847).bind fun t888 => (if t888 = true then (if bt881.2.2.2 = t848 then (some true) else (some false)) else (some false)))) = some true := H
             have A100 := Aside0.mk A1000
             clear A1000
             replace H := Option.bind_eq_some_iff.mp H
             obtain ⟨⟨t881, t884, t885, t886⟩, A1010, H⟩ := H
             replace H : ((laws_eqFS.f kj65 t881 t884 t885 t843 t846 t847).bind fun t888 => (if t888 = true then (if t886 = t848 then (some true) else (some false)) else (some false))) = some true := H
             have A101 := Aside0.mk A1010
             clear A1010
             replace H := Option.bind_eq_some_iff.mp H
             obtain ⟨t888, A1020, H⟩ := H
             replace H : (if t888 = true then (if t886 = t848 then (some true) else (some false)) else (some false)) = some true := H
             have A102 := Aside0.mk A1020
             clear A1020
             by_cases c103 : t888 = true
             ·subst c103
              have H1 : (if t886 = t848 then (some true) else (some false)) = some true := by rw [if_pos rfl] at H; exact H
              clear H
              have H := H1
              clear H1
              by_cases c104 : t886 = t848
              ·rw [if_pos c104] at H
               have c104b0 : (t886 == t848) = true := beq_iff_eq.mpr c104
               have c104b1 : (t886 != t848) = false := bne_eq_false_iff_eq.mpr c104
               clear c104
               clear H
               have hnb105 := NB862_836.out
               have hnc105 := NB836_862.out
               have hnb106 := NB862_849.out
               have hnc106 := NB849_862.out
               have hnb107 := NB862_855.out
               have hnc107 := NB855_862.out
               have hcz108_0 : wc.cell? ⟨gb862, 0, none⟩ = some (.slice Ao38 t856.length co38) := (blk_cell BK862.out 0).trans rfl
               have hcz108_1 : wc.cell? ⟨gb862, 1, none⟩ = some (.int .i64 t859) := (blk_cell BK862.out 1).trans rfl
               have hcz108_2 : wc.cell? ⟨gb862, 2, none⟩ = some (.int .i64 t860) := (blk_cell BK862.out 2).trans rfl
               have hfz108_0 := blk_frozen BK862.out 0
               have hfz108_1 := blk_frozen BK862.out 1
               have hfz108_2 := blk_frozen BK862.out 2
               go_wp2_with (first | ((with_reducible refine gate_callee (f := 23) rfl ?_); refine goesL_ (some 78) rfl rfl Try.func23 (by kernel_rfl) rfl #[.agg #[.slice Ao38 t856.length co38, .int .i64 t859, .int .i64 t860], .int .i64 1] rfl (by (try simp only [List.map_toArray, List.map_cons, List.map_nil]); first | done | rfl | (simp only [List.length_drop, List.length_take]; rfl)) ?_; (with_reducible refine (laws_markFS.calls kj65 (fun k_ => some k_ = (.slice Ao38 t856.length co38 : Value).ownBlock) (.slice Ao38 t856.length co38) t856 t859 t860 1 t873 t874 w _ ?side1 ?side2 A96.out).mono ?_); (case side1 => repeat (first | (with_reducible first | exact HB.out | apply below_alloc | apply pw_below_drewN | apply below_drew1 | refine below_set ?_ GE836.out | refine below_set ?_ GE849.out | refine below_set ?_ GE855.out | refine below_set ?_ GE862.out) | exact HB.out)); (case side2 => exact Kd.R_tight rfl HO_863000.out); rintro e w109 ⟨rfl, hy0, hb, hkp⟩; refine ⟨_, rfl, ?_⟩; have n0_ := Aside0.mk (Kd.R_mono (ok' := fun k_ => some k_ ≠ (.slice Ao32 t871.length co32 : Value).ownBlock ∧ some k_ ≠ (.slice Ao38 t856.length co38 : Value).ownBlock) (Kd.R_keptB (HO_850000.out) hkp (fun k_ hk_ hs_ => (hk_.2) hs_)) (fun k_ hk_ => ⟨hk_.1.1, hk_.1.2⟩)); have n1_ := Aside0.mk (Kd.R_mono (ok' := fun k_ => some k_ ≠ (.slice Ao26 t843.length co26 : Value).ownBlock ∧ some k_ ≠ (.slice Ao38 t856.length co38 : Value).ownBlock) (Kd.R_keptB (HO_856000.out) hkp (fun k_ hk_ hs_ => (hk_.2) hs_)) (fun k_ hk_ => ⟨hk_.1.1, hk_.1.2⟩)); have n2_ := Aside0.mk (Kd.R_reok rfl hy0 (fun k_ e_ => HO_863000.out.1 k_ e_)); have n3_ := Aside0.mk (blk_kept (by (with_reducible repeat (first | refine blk_drewN ?_ _ | refine blk_drew ?_ | refine blk_alloc ?_ _)); exact BK836.out) hkp (fun hs_ => (fun e_ => (Kd.R_ne HO_863000.out BK836.out (by decide)) e_) hs_)); have n4_ := Aside0.mk (blk_kept (by (with_reducible repeat (first | refine blk_drewN ?_ _ | refine blk_drew ?_ | refine blk_alloc ?_ _)); exact BK849.out) hkp (fun hs_ => (fun e_ => (Kd.R_ne HO_863000.out BK849.out (by decide)) e_) hs_)); have n5_ := Aside0.mk (blk_kept (by (with_reducible repeat (first | refine blk_drewN ?_ _ | refine blk_drew ?_ | refine blk_alloc ?_ _)); exact BK855.out) hkp (fun hs_ => (fun e_ => (Kd.R_ne HO_863000.out BK855.out (by decide)) e_) hs_)); have n6_ := Aside0.mk (blk_kept (by (with_reducible repeat (first | refine blk_drewN ?_ _ | refine blk_drew ?_ | refine blk_alloc ?_ _)); exact BK862.out) hkp (fun hs_ => (fun e_ => (Kd.R_ne HO_863000.out BK862.out (by decide)) e_) hs_)); have n7_ := Aside0.mk (hb); clear HO_850000; clear HO_856000; clear HO_863000; clear BK836; clear BK849; clear BK855; clear BK862; clear HB; have HO_850000 := n0_; have HO_856000 := n1_; have HO_863000 := n2_; have BK836 := n3_; have BK849 := n4_; have BK855 := n5_; have BK862 := n6_; have HB := n7_; clear n0_ n1_ n2_ n3_ n4_ n5_ n6_ n7_; (try clear hb); (try clear hkp); (try clear hy0); have hcz110_0 : w109.cell? ⟨gb862, 0, none⟩ = some (.slice Ao38 t856.length co38) := (blk_cell BK862.out 0).trans rfl; have hcz110_1 : w109.cell? ⟨gb862, 1, none⟩ = some (.int .i64 t859) := (blk_cell BK862.out 1).trans rfl; have hcz110_2 : w109.cell? ⟨gb862, 2, none⟩ = some (.int .i64 t860) := (blk_cell BK862.out 2).trans rfl; have hfz110_0 := blk_frozen BK862.out 0; have hfz110_1 := blk_frozen BK862.out 1; have hfz110_2 := blk_frozen BK862.out 2) | ((with_reducible refine gate_callee (f := 25) rfl ?_); refine goesL_ (some 81) rfl rfl Try.func25 (by kernel_rfl) rfl #[.agg #[.slice Ao38 t874.length co38, .int .i64 t859, .int .i64 t860], .int .i64 1] rfl (by (try simp only [List.map_toArray, List.map_cons, List.map_nil]); first | done | (rw [show t874.length = t856.length from (Kd.R_reads' HO_863000.out).1.symm] <;> rfl) | rfl | (simp only [List.length_drop, List.length_take]; rfl)) ?_; (with_reducible refine (laws_heldFS.calls kj65 _ _ t874 t859 t860 1 t875 _ ?side1 ?side2 A97.out).mono ?_); (case side1 => repeat (first | exact (Kd.R_reads' HO_863000.out).2.2 | (with_reducible refine Kd.C_alloc ?_ _) | (with_reducible refine Kd.C_drewN ?_ _) | (with_reducible refine Kd.C_drew ?_))); (case side2 => rw [show t874.length = t856.length from (Kd.R_reads' HO_863000.out).1.symm]; exact (Kd.R_reads' HO_863000.out).2.1); rintro e w111 ⟨rfl, hb⟩; refine ⟨_, rfl, ?_⟩; have n0_ := Aside0.mk (Kd.R_below (by (with_reducible repeat (first | apply Kd.R_alloc | apply Kd.R_drewN | apply Kd.R_drew)); exact HO_850000.out) hb); have n1_ := Aside0.mk (Kd.R_below (by (with_reducible repeat (first | apply Kd.R_alloc | apply Kd.R_drewN | apply Kd.R_drew)); exact HO_856000.out) hb); have n2_ := Aside0.mk (Kd.R_below (by (with_reducible repeat (first | apply Kd.R_alloc | apply Kd.R_drewN | apply Kd.R_drew)); exact HO_863000.out) hb); have n3_ := Aside0.mk (blk_below (g := gb836) (o := .cells #[.slice A0_0 l0_0.length c0_0, .int .i64 a0_1, .int .i64 a0_2] 24 (0, 0)) (by (with_reducible repeat (first | refine blk_drewN ?_ _ | refine blk_drew ?_ | refine blk_alloc ?_ _)); exact BK836.out) hb); have n4_ := Aside0.mk (blk_below (g := gb849) (o := .cells #[.slice Ao26 t843.length co26, .int .i64 t846, .int .i64 t847] 29 (0, 0)) (by (with_reducible repeat (first | refine blk_drewN ?_ _ | refine blk_drew ?_ | refine blk_alloc ?_ _)); exact BK849.out) hb); have n5_ := Aside0.mk (blk_below (g := gb855) (o := .cells #[.slice Ao32 t871.length co32, .int .i64 t853, .int .i64 t854] 29 (0, 0)) (by (with_reducible repeat (first | refine blk_drewN ?_ _ | refine blk_drew ?_ | refine blk_alloc ?_ _)); exact BK855.out) hb); have n6_ := Aside0.mk (blk_below (g := gb862) (o := .cells #[.slice Ao38 t856.length co38, .int .i64 t859, .int .i64 t860] 29 (0, 0)) (by (with_reducible repeat (first | refine blk_drewN ?_ _ | refine blk_drew ?_ | refine blk_alloc ?_ _)); exact BK862.out) hb); have n7_ := Aside0.mk (below_step (by repeat (first | (with_reducible first | exact HB.out | apply below_alloc | apply pw_below_drewN | apply below_drew1 | refine below_set ?_ GE836.out | refine below_set ?_ GE849.out | refine below_set ?_ GE855.out | refine below_set ?_ GE862.out) | exact HB.out)) hb); clear HO_850000; clear HO_856000; clear HO_863000; clear BK836; clear BK849; clear BK855; clear BK862; clear HB; have HO_850000 := n0_; have HO_856000 := n1_; have HO_863000 := n2_; have BK836 := n3_; have BK849 := n4_; have BK855 := n5_; have BK862 := n6_; have HB := n7_; clear n0_ n1_ n2_ n3_ n4_ n5_ n6_ n7_; (try clear hb); (try clear hb2); (try clear hk); (try clear hi); have hnb112 := NB836_849.out; have hnc112 := NB849_836.out; have hnb113 := NB836_855.out; have hnc113 := NB855_836.out; have hcz114_0 : w111.cell? ⟨gb836, 0, none⟩ = some (.slice A0_0 l0_0.length c0_0) := (blk_cell BK836.out 0).trans rfl; have hcz114_1 : w111.cell? ⟨gb836, 1, none⟩ = some (.int .i64 a0_1) := (blk_cell BK836.out 1).trans rfl; have hcz114_2 : w111.cell? ⟨gb836, 2, none⟩ = some (.int .i64 a0_2) := (blk_cell BK836.out 2).trans rfl; have hfz114_0 := blk_frozen BK836.out 0; have hfz114_1 := blk_frozen BK836.out 1; have hfz114_2 := blk_frozen BK836.out 2) | ((with_reducible refine gate_callee (f := 14) rfl ?_); refine goesL_ (some 89) rfl rfl Try.func14 (by kernel_rfl) rfl #[.agg #[.slice A0_0 l0_0.length c0_0, .int .i64 a0_1, .int .i64 a0_2]] rfl (by (try simp only [List.map_toArray, List.map_cons, List.map_nil]); first | done | rfl | (simp only [List.length_drop, List.length_take]; rfl)) ?_; (with_reducible refine (laws_toFS.calls kj65 _ _ l0_0 a0_1 a0_2 t876 t879 t880 _ ?side1 ?side2 A100.out).mono ?_); (case side1 => repeat (first | exact (Kd.C_below HR0_0.out HB.out) | (with_reducible refine Kd.C_alloc ?_ _) | (with_reducible refine Kd.C_drewN ?_ _) | (with_reducible refine Kd.C_drew ?_))); (case side2 => exact HC0_0.out); rintro e w115 ⟨v877, rfl, ho0, hb⟩; refine ⟨_, rfl, ?_⟩; have n0_ := Aside0.mk (Kd.R_elder' (by (with_reducible repeat (first | apply Kd.R_alloc | apply Kd.R_drewN | apply Kd.R_drew)); exact HO_850000.out) (Kd.R_base ho0) hb); have n1_ := Aside0.mk (Kd.R_elder' (by (with_reducible repeat (first | apply Kd.R_alloc | apply Kd.R_drewN | apply Kd.R_drew)); exact HO_856000.out) (Kd.R_base ho0) hb); have n2_ := Aside0.mk (Kd.R_elder' (by (with_reducible repeat (first | apply Kd.R_alloc | apply Kd.R_drewN | apply Kd.R_drew)); exact HO_863000.out) (Kd.R_base ho0) hb); have n3_ := Aside0.mk (Kd.R_lower (Kd.R_new' (Kd.R_new' (Kd.R_new' ho0 (Kd.R_lt (by (with_reducible repeat (first | apply Kd.R_alloc | apply Kd.R_drewN | apply Kd.R_drew)); exact HO_850000.out))) (Kd.R_lt (by (with_reducible repeat (first | apply Kd.R_alloc | apply Kd.R_drewN | apply Kd.R_drew)); exact HO_856000.out))) (Kd.R_lt (by (with_reducible repeat (first | apply Kd.R_alloc | apply Kd.R_drewN | apply Kd.R_drew)); exact HO_863000.out))) (below_size (by repeat (first | (with_reducible first | exact HB.out | apply below_alloc | apply pw_below_drewN | apply below_drew1 | refine below_set ?_ GE836.out | refine below_set ?_ GE849.out | refine below_set ?_ GE855.out | refine below_set ?_ GE862.out) | exact HB.out)))); have n4_ := Aside0.mk (blk_below (g := gb836) (o := .cells #[.slice A0_0 l0_0.length c0_0, .int .i64 a0_1, .int .i64 a0_2] 24 (0, 0)) (by (with_reducible repeat (first | refine blk_drewN ?_ _ | refine blk_drew ?_ | refine blk_alloc ?_ _)); exact BK836.out) hb); have n5_ := Aside0.mk (blk_below (g := gb849) (o := .cells #[.slice Ao26 t843.length co26, .int .i64 t846, .int .i64 t847] 29 (0, 0)) (by (with_reducible repeat (first | refine blk_drewN ?_ _ | refine blk_drew ?_ | refine blk_alloc ?_ _)); exact BK849.out) hb); have n6_ := Aside0.mk (blk_below (g := gb855) (o := .cells #[.slice Ao32 t871.length co32, .int .i64 t853, .int .i64 t854] 29 (0, 0)) (by (with_reducible repeat (first | refine blk_drewN ?_ _ | refine blk_drew ?_ | refine blk_alloc ?_ _)); exact BK855.out) hb); have n7_ := Aside0.mk (blk_below (g := gb862) (o := .cells #[.slice Ao38 t856.length co38, .int .i64 t859, .int .i64 t860] 29 (0, 0)) (by (with_reducible repeat (first | refine blk_drewN ?_ _ | refine blk_drew ?_ | refine blk_alloc ?_ _)); exact BK862.out) hb); have n8_ := Aside0.mk (below_step (by repeat (first | (with_reducible first | exact HB.out | apply below_alloc | apply pw_below_drewN | apply below_drew1 | refine below_set ?_ GE836.out | refine below_set ?_ GE849.out | refine below_set ?_ GE855.out | refine below_set ?_ GE862.out) | exact HB.out)) hb); clear HO_850000; clear HO_856000; clear HO_863000; clear BK836; clear BK849; clear BK855; clear BK862; clear HB; have HO_850000 := n0_; have HO_856000 := n1_; have HO_863000 := n2_; have HO878 := n3_; have BK836 := n4_; have BK849 := n5_; have BK855 := n6_; have BK862 := n7_; have HB := n8_; clear n0_ n1_ n2_ n3_ n4_ n5_ n6_ n7_ n8_; (try clear hb); (try clear hb2); (try clear hk); (try clear hi); (try clear ho0); obtain ⟨Ao116, co116, eo116⟩ := Kd.R_slice HO878.out; subst eo116) | ((with_reducible refine gate_callee (f := 38) rfl ?_); refine goesL_ (some 92) rfl rfl Try.func38 (by kernel_rfl) rfl #[.agg #[.slice Ao116 t876.length co116, .int .i64 t879, .int .i64 t880], .string a1, .string a2] rfl (by (try simp only [List.map_toArray, List.map_cons, List.map_nil]); first | done | rfl | (simp only [List.length_drop, List.length_take]; rfl)) ?_; (with_reducible refine (impl_FsRename.calls _ _ t876 t879 t880 a1 a2 t881 t884 t885 t886 _ ?side1 ?side2 A101.out).mono ?_); (case side1 => repeat (first | exact (Kd.R_reads' HO878.out).2.2 | (with_reducible refine Kd.C_alloc ?_ _) | (with_reducible refine Kd.C_drewN ?_ _) | (with_reducible refine Kd.C_drew ?_))); (case side2 => exact (Kd.R_reads' HO878.out).2.1); rintro e w117 ⟨v882, rfl, ho0, hb⟩; refine ⟨_, rfl, ?_⟩; have n0_ := Aside0.mk (Kd.R_elder' (by (with_reducible repeat (first | apply Kd.R_alloc | apply Kd.R_drewN | apply Kd.R_drew)); exact HO_850000.out) (Kd.R_base ho0) hb); have n1_ := Aside0.mk (Kd.R_elder' (by (with_reducible repeat (first | apply Kd.R_alloc | apply Kd.R_drewN | apply Kd.R_drew)); exact HO_856000.out) (Kd.R_base ho0) hb); have n2_ := Aside0.mk (Kd.R_elder' (by (with_reducible repeat (first | apply Kd.R_alloc | apply Kd.R_drewN | apply Kd.R_drew)); exact HO_863000.out) (Kd.R_base ho0) hb); have n3_ := Aside0.mk (Kd.R_elder' (by (with_reducible repeat (first | apply Kd.R_alloc | apply Kd.R_drewN | apply Kd.R_drew)); exact HO878.out) (Kd.R_base ho0) hb); have n4_ := Aside0.mk (Kd.R_lower (Kd.R_new' (Kd.R_new' (Kd.R_new' (Kd.R_new' ho0 (Kd.R_lt (by (with_reducible repeat (first | apply Kd.R_alloc | apply Kd.R_drewN | apply Kd.R_drew)); exact HO_850000.out))) (Kd.R_lt (by (with_reducible repeat (first | apply Kd.R_alloc | apply Kd.R_drewN | apply Kd.R_drew)); exact HO_856000.out))) (Kd.R_lt (by (with_reducible repeat (first | apply Kd.R_alloc | apply Kd.R_drewN | apply Kd.R_drew)); exact HO_863000.out))) (Kd.R_lt (by (with_reducible repeat (first | apply Kd.R_alloc | apply Kd.R_drewN | apply Kd.R_drew)); exact HO878.out))) (below_size (by repeat (first | (with_reducible first | exact HB.out | apply below_alloc | apply pw_below_drewN | apply below_drew1 | refine below_set ?_ GE836.out | refine below_set ?_ GE849.out | refine below_set ?_ GE855.out | refine below_set ?_ GE862.out) | exact HB.out)))); have n5_ := Aside0.mk (blk_below (g := gb836) (o := .cells #[.slice A0_0 l0_0.length c0_0, .int .i64 a0_1, .int .i64 a0_2] 24 (0, 0)) (by (with_reducible repeat (first | refine blk_drewN ?_ _ | refine blk_drew ?_ | refine blk_alloc ?_ _)); exact BK836.out) hb); have n6_ := Aside0.mk (blk_below (g := gb849) (o := .cells #[.slice Ao26 t843.length co26, .int .i64 t846, .int .i64 t847] 29 (0, 0)) (by (with_reducible repeat (first | refine blk_drewN ?_ _ | refine blk_drew ?_ | refine blk_alloc ?_ _)); exact BK849.out) hb); have n7_ := Aside0.mk (blk_below (g := gb855) (o := .cells #[.slice Ao32 t871.length co32, .int .i64 t853, .int .i64 t854] 29 (0, 0)) (by (with_reducible repeat (first | refine blk_drewN ?_ _ | refine blk_drew ?_ | refine blk_alloc ?_ _)); exact BK855.out) hb); have n8_ := Aside0.mk (blk_below (g := gb862) (o := .cells #[.slice Ao38 t856.length co38, .int .i64 t859, .int .i64 t860] 29 (0, 0)) (by (with_reducible repeat (first | refine blk_drewN ?_ _ | refine blk_drew ?_ | refine blk_alloc ?_ _)); exact BK862.out) hb); have n9_ := Aside0.mk (below_step (by repeat (first | (with_reducible first | exact HB.out | apply below_alloc | apply pw_below_drewN | apply below_drew1 | refine below_set ?_ GE836.out | refine below_set ?_ GE849.out | refine below_set ?_ GE855.out | refine below_set ?_ GE862.out) | exact HB.out)) hb); clear HO_850000; clear HO_856000; clear HO_863000; clear HO878; clear BK836; clear BK849; clear BK855; clear BK862; clear HB; have HO_850000 := n0_; have HO_856000 := n1_; have HO_863000 := n2_; have HO878 := n3_; have HO883 := n4_; have BK836 := n5_; have BK849 := n6_; have BK855 := n7_; have BK862 := n8_; have HB := n9_; clear n0_ n1_ n2_ n3_ n4_ n5_ n6_ n7_ n8_ n9_; (try clear hb); (try clear hb2); (try clear hk); (try clear hi); (try clear ho0)) | ((with_reducible refine gate_dst (N := 16) rfl ?_); refine box_event ?hg (N := 16) ?hd (cs := #[.slice none 0 0, .int .i64 0, .int .i64 0]) (t := 29) ?hr ?_; (case hd => rfl); (case hg => rfl); (case hr => first | (go_simp; done) | (go_simp; rfl)); intro gb887 hg w118 hbox hb; have n0_ := Aside0.mk (Kd.R_below (by (with_reducible repeat (first | apply Kd.R_alloc | apply Kd.R_drewN | apply Kd.R_drew)); exact HO_850000.out) hb); have n1_ := Aside0.mk (Kd.R_below (by (with_reducible repeat (first | apply Kd.R_alloc | apply Kd.R_drewN | apply Kd.R_drew)); exact HO_856000.out) hb); have n2_ := Aside0.mk (Kd.R_below (by (with_reducible repeat (first | apply Kd.R_alloc | apply Kd.R_drewN | apply Kd.R_drew)); exact HO_863000.out) hb); have n3_ := Aside0.mk (Kd.R_below (by (with_reducible repeat (first | apply Kd.R_alloc | apply Kd.R_drewN | apply Kd.R_drew)); exact HO878.out) hb); have n4_ := Aside0.mk (Kd.R_below (by (with_reducible repeat (first | apply Kd.R_alloc | apply Kd.R_drewN | apply Kd.R_drew)); exact HO883.out) hb); have n5_ := Aside0.mk (blk_below (g := gb836) (o := .cells #[.slice A0_0 l0_0.length c0_0, .int .i64 a0_1, .int .i64 a0_2] 24 (0, 0)) (by (with_reducible repeat (first | refine blk_drewN ?_ _ | refine blk_drew ?_ | refine blk_alloc ?_ _)); exact BK836.out) hb); have n6_ := Aside0.mk (blk_below (g := gb849) (o := .cells #[.slice Ao26 t843.length co26, .int .i64 t846, .int .i64 t847] 29 (0, 0)) (by (with_reducible repeat (first | refine blk_drewN ?_ _ | refine blk_drew ?_ | refine blk_alloc ?_ _)); exact BK849.out) hb); have n7_ := Aside0.mk (blk_below (g := gb855) (o := .cells #[.slice Ao32 t871.length co32, .int .i64 t853, .int .i64 t854] 29 (0, 0)) (by (with_reducible repeat (first | refine blk_drewN ?_ _ | refine blk_drew ?_ | refine blk_alloc ?_ _)); exact BK855.out) hb); have n8_ := Aside0.mk (blk_below (g := gb862) (o := .cells #[.slice Ao38 t856.length co38, .int .i64 t859, .int .i64 t860] 29 (0, 0)) (by (with_reducible repeat (first | refine blk_drewN ?_ _ | refine blk_drew ?_ | refine blk_alloc ?_ _)); exact BK862.out) hb); have n9_ := Aside0.mk (below_step (by repeat (first | (with_reducible first | exact HB.out | apply below_alloc | apply pw_below_drewN | apply below_drew1 | refine below_set ?_ GE836.out | refine below_set ?_ GE849.out | refine below_set ?_ GE855.out | refine below_set ?_ GE862.out) | exact HB.out)) hb); have n10_ := Aside0.mk (hbox); have n11_ := Aside0.mk ((by rw [hg]; exact (below_size (by repeat (first | (with_reducible first | exact HB.out | apply below_alloc | apply pw_below_drewN | apply below_drew1 | refine below_set ?_ GE836.out | refine below_set ?_ GE849.out | refine below_set ?_ GE855.out | refine below_set ?_ GE862.out) | exact HB.out))) : w.heap.size ≤ gb887)); have n12_ := Aside0.mk ((by rw [hg]; exact (below_size (by repeat (first | (with_reducible first | exact HB.out | apply below_alloc | apply pw_below_drewN | apply below_drew1 | refine below_set ?_ GE836.out | refine below_set ?_ GE849.out | refine below_set ?_ GE855.out | refine below_set ?_ GE862.out) | exact HB.out))) : w.heap.size ≤ gb887)); have n13_ := Aside0.mk ((by rw [hg]; exact Nat.ne_of_lt (blk_lt (g := gb836) (o := .cells #[.slice A0_0 l0_0.length c0_0, .int .i64 a0_1, .int .i64 a0_2] 24 (0, 0)) (by (with_reducible repeat (first | refine blk_drewN ?_ _ | refine blk_drew ?_ | refine blk_alloc ?_ _)); exact BK836.out)) : gb836 ≠ gb887)); have n14_ := Aside0.mk ((by rw [hg]; exact Nat.ne_of_gt (blk_lt (g := gb836) (o := .cells #[.slice A0_0 l0_0.length c0_0, .int .i64 a0_1, .int .i64 a0_2] 24 (0, 0)) (by (with_reducible repeat (first | refine blk_drewN ?_ _ | refine blk_drew ?_ | refine blk_alloc ?_ _)); exact BK836.out)) : gb887 ≠ gb836)); have n15_ := Aside0.mk ((by rw [hg]; exact Nat.ne_of_lt (blk_lt (g := gb849) (o := .cells #[.slice Ao26 t843.length co26, .int .i64 t846, .int .i64 t847] 29 (0, 0)) (by (with_reducible repeat (first | refine blk_drewN ?_ _ | refine blk_drew ?_ | refine blk_alloc ?_ _)); exact BK849.out)) : gb849 ≠ gb887)); have n16_ := Aside0.mk ((by rw [hg]; exact Nat.ne_of_gt (blk_lt (g := gb849) (o := .cells #[.slice Ao26 t843.length co26, .int .i64 t846, .int .i64 t847] 29 (0, 0)) (by (with_reducible repeat (first | refine blk_drewN ?_ _ | refine blk_drew ?_ | refine blk_alloc ?_ _)); exact BK849.out)) : gb887 ≠ gb849)); have n17_ := Aside0.mk ((by rw [hg]; exact Nat.ne_of_lt (blk_lt (g := gb855) (o := .cells #[.slice Ao32 t871.length co32, .int .i64 t853, .int .i64 t854] 29 (0, 0)) (by (with_reducible repeat (first | refine blk_drewN ?_ _ | refine blk_drew ?_ | refine blk_alloc ?_ _)); exact BK855.out)) : gb855 ≠ gb887)); have n18_ := Aside0.mk ((by rw [hg]; exact Nat.ne_of_gt (blk_lt (g := gb855) (o := .cells #[.slice Ao32 t871.length co32, .int .i64 t853, .int .i64 t854] 29 (0, 0)) (by (with_reducible repeat (first | refine blk_drewN ?_ _ | refine blk_drew ?_ | refine blk_alloc ?_ _)); exact BK855.out)) : gb887 ≠ gb855)); have n19_ := Aside0.mk ((by rw [hg]; exact Nat.ne_of_lt (blk_lt (g := gb862) (o := .cells #[.slice Ao38 t856.length co38, .int .i64 t859, .int .i64 t860] 29 (0, 0)) (by (with_reducible repeat (first | refine blk_drewN ?_ _ | refine blk_drew ?_ | refine blk_alloc ?_ _)); exact BK862.out)) : gb862 ≠ gb887)); have n20_ := Aside0.mk ((by rw [hg]; exact Nat.ne_of_gt (blk_lt (g := gb862) (o := .cells #[.slice Ao38 t856.length co38, .int .i64 t859, .int .i64 t860] 29 (0, 0)) (by (with_reducible repeat (first | refine blk_drewN ?_ _ | refine blk_drew ?_ | refine blk_alloc ?_ _)); exact BK862.out)) : gb887 ≠ gb862)); clear HO_850000; clear HO_856000; clear HO_863000; clear HO878; clear HO883; clear BK836; clear BK849; clear BK855; clear BK862; clear HB; have HO_850000 := n0_; have HO_856000 := n1_; have HO_863000 := n2_; have HO878 := n3_; have HO883 := n4_; have BK836 := n5_; have BK849 := n6_; have BK855 := n7_; have BK862 := n8_; have HB := n9_; have BK887 := n10_; have GW887 := n11_; have GE887 := n12_; have NB836_887 := n13_; have NB887_836 := n14_; have NB849_887 := n15_; have NB887_849 := n16_; have NB855_887 := n17_; have NB887_855 := n18_; have NB862_887 := n19_; have NB887_862 := n20_; clear n0_ n1_ n2_ n3_ n4_ n5_ n6_ n7_ n8_ n9_ n10_ n11_ n12_ n13_ n14_ n15_ n16_ n17_ n18_ n19_ n20_; clear hb hbox hg; obtain ⟨Ao119, co119, eo119⟩ := Kd.R_slice HO883.out; subst eo119; have hnb120 := NB887_836.out; have hnc120 := NB836_887.out; have hnb121 := NB887_849.out; have hnc121 := NB849_887.out; have hnb122 := NB887_855.out; have hnc122 := NB855_887.out; have hnb123 := NB887_862.out; have hnc123 := NB862_887.out; have hcz124_0 : w118.cell? ⟨gb887, 0, none⟩ = some (.slice none 0 0) := (blk_cell BK887.out 0).trans rfl; have hcz124_1 : w118.cell? ⟨gb887, 1, none⟩ = some (.int .i64 0) := (blk_cell BK887.out 1).trans rfl; have hcz124_2 : w118.cell? ⟨gb887, 2, none⟩ = some (.int .i64 0) := (blk_cell BK887.out 2).trans rfl; have hfz124_0 := blk_frozen BK887.out 0; have hfz124_1 := blk_frozen BK887.out 1; have hfz124_2 := blk_frozen BK887.out 2; have hnb125 := NB849_855.out; have hnc125 := NB855_849.out; have hcz126_0 : w118.cell? ⟨gb849, 0, none⟩ = some (.slice Ao26 t843.length co26) := (blk_cell BK849.out 0).trans rfl; have hcz126_1 : w118.cell? ⟨gb849, 1, none⟩ = some (.int .i64 t846) := (blk_cell BK849.out 1).trans rfl; have hcz126_2 : w118.cell? ⟨gb849, 2, none⟩ = some (.int .i64 t847) := (blk_cell BK849.out 2).trans rfl; have hfz126_0 := blk_frozen BK849.out 0; have hfz126_1 := blk_frozen BK849.out 1; have hfz126_2 := blk_frozen BK849.out 2) | ((with_reducible refine gate_callee (f := 16) rfl ?_); refine goesL_ (some 97) rfl rfl Try.func16 (by kernel_rfl) rfl #[.agg #[.slice Ao119 t881.length co119, .int .i64 t884, .int .i64 t885], .agg #[.slice Ao26 t843.length co26, .int .i64 t846, .int .i64 t847]] rfl (by (try simp only [List.map_toArray, List.map_cons, List.map_nil]); first | done | rfl | (simp only [List.length_drop, List.length_take]; rfl)) ?_; (with_reducible refine (laws_eqFS.calls kj65 _ _ t881 t884 t885 _ _ t843 t846 t847 true _ ?side1 ?side2 ?side3 ?side4 A102.out).mono ?_); (case side1 => refine (Kd.R_reads' (e := 52) (base := w.heap.size) (ok := fun k_ => ((((True ∧ some k_ ≠ (.slice Ao26 t843.length co26 : Value).ownBlock) ∧ some k_ ≠ (.slice Ao32 t871.length co32 : Value).ownBlock) ∧ some k_ ≠ (.slice Ao38 t856.length co38 : Value).ownBlock) ∧ some k_ ≠ (.slice Ao116 t876.length co116 : Value).ownBlock)) (n := t881.length) (c := co119) ?_).2.2; exact (by (with_reducible repeat (first | apply Kd.R_alloc | apply Kd.R_drewN | apply Kd.R_drew)); exact (Kd.R_mono (Kd.R_far (p := ⟨gb887, 2, none⟩) (Kd.R_far (p := ⟨gb887, 1, none⟩) (Kd.R_far (p := ⟨gb887, 0, none⟩) (Kd.R_types HO883.out BK887.out (by decide)) (fun _ hk => hk.2) (.slice Ao119 t881.length co119)) (fun _ hk => hk.2) (.int .i64 t884)) (fun _ hk => hk.2) (.int .i64 t885)) (fun _ h_ => h_.1)))); (case side2 => exact (Kd.R_reads' HO883.out).2.1); (case side3 => refine (Kd.R_reads' (e := 52) (base := w.heap.size) (ok := fun k_ => (((some k_ ≠ (.slice Ao32 t871.length co32 : Value).ownBlock ∧ some k_ ≠ (.slice Ao38 t856.length co38 : Value).ownBlock) ∧ some k_ ≠ (.slice Ao116 t876.length co116 : Value).ownBlock) ∧ some k_ ≠ (.slice Ao119 t881.length co119 : Value).ownBlock)) (n := t843.length) (c := co26) ?_).2.2; exact (by (with_reducible repeat (first | apply Kd.R_alloc | apply Kd.R_drewN | apply Kd.R_drew)); exact (Kd.R_mono (Kd.R_far (p := ⟨gb887, 2, none⟩) (Kd.R_far (p := ⟨gb887, 1, none⟩) (Kd.R_far (p := ⟨gb887, 0, none⟩) (Kd.R_types HO_850000.out BK887.out (by decide)) (fun _ hk => hk.2) (.slice Ao119 t881.length co119)) (fun _ hk => hk.2) (.int .i64 t884)) (fun _ hk => hk.2) (.int .i64 t885)) (fun _ h_ => h_.1)))); (case side4 => exact (Kd.R_reads' HO_850000.out).2.1); rintro e w127 ⟨rfl, hb⟩; refine ⟨_, rfl, ?_⟩; have n0_ := Aside0.mk (Kd.R_below (by (with_reducible repeat (first | apply Kd.R_alloc | apply Kd.R_drewN | apply Kd.R_drew)); exact (Kd.R_mono (Kd.R_far (p := ⟨gb887, 2, none⟩) (Kd.R_far (p := ⟨gb887, 1, none⟩) (Kd.R_far (p := ⟨gb887, 0, none⟩) (Kd.R_types HO_850000.out BK887.out (by decide)) (fun _ hk => hk.2) (.slice Ao119 t881.length co119)) (fun _ hk => hk.2) (.int .i64 t884)) (fun _ hk => hk.2) (.int .i64 t885)) (fun _ h_ => h_.1))) hb); have n1_ := Aside0.mk (Kd.R_below (by (with_reducible repeat (first | apply Kd.R_alloc | apply Kd.R_drewN | apply Kd.R_drew)); exact (Kd.R_mono (Kd.R_far (p := ⟨gb887, 2, none⟩) (Kd.R_far (p := ⟨gb887, 1, none⟩) (Kd.R_far (p := ⟨gb887, 0, none⟩) (Kd.R_types HO_856000.out BK887.out (by decide)) (fun _ hk => hk.2) (.slice Ao119 t881.length co119)) (fun _ hk => hk.2) (.int .i64 t884)) (fun _ hk => hk.2) (.int .i64 t885)) (fun _ h_ => h_.1))) hb); have n2_ := Aside0.mk (Kd.R_below (by (with_reducible repeat (first | apply Kd.R_alloc | apply Kd.R_drewN | apply Kd.R_drew)); exact (Kd.R_mono (Kd.R_far (p := ⟨gb887, 2, none⟩) (Kd.R_far (p := ⟨gb887, 1, none⟩) (Kd.R_far (p := ⟨gb887, 0, none⟩) (Kd.R_types HO_863000.out BK887.out (by decide)) (fun _ hk => hk.2) (.slice Ao119 t881.length co119)) (fun _ hk => hk.2) (.int .i64 t884)) (fun _ hk => hk.2) (.int .i64 t885)) (fun _ h_ => h_.1))) hb); have n3_ := Aside0.mk (Kd.R_below (by (with_reducible repeat (first | apply Kd.R_alloc | apply Kd.R_drewN | apply Kd.R_drew)); exact (Kd.R_mono (Kd.R_far (p := ⟨gb887, 2, none⟩) (Kd.R_far (p := ⟨gb887, 1, none⟩) (Kd.R_far (p := ⟨gb887, 0, none⟩) (Kd.R_types HO878.out BK887.out (by decide)) (fun _ hk => hk.2) (.slice Ao119 t881.length co119)) (fun _ hk => hk.2) (.int .i64 t884)) (fun _ hk => hk.2) (.int .i64 t885)) (fun _ h_ => h_.1))) hb); have n4_ := Aside0.mk (Kd.R_below (by (with_reducible repeat (first | apply Kd.R_alloc | apply Kd.R_drewN | apply Kd.R_drew)); exact (Kd.R_mono (Kd.R_far (p := ⟨gb887, 2, none⟩) (Kd.R_far (p := ⟨gb887, 1, none⟩) (Kd.R_far (p := ⟨gb887, 0, none⟩) (Kd.R_types HO883.out BK887.out (by decide)) (fun _ hk => hk.2) (.slice Ao119 t881.length co119)) (fun _ hk => hk.2) (.int .i64 t884)) (fun _ hk => hk.2) (.int .i64 t885)) (fun _ h_ => h_.1))) hb); have n5_ := Aside0.mk (blk_below (g := gb836) (o := .cells #[.slice A0_0 l0_0.length c0_0, .int .i64 a0_1, .int .i64 a0_2] 24 (0, 0)) (by (with_reducible repeat (first | refine blk_drewN ?_ _ | refine blk_drew ?_ | refine blk_alloc ?_ _)); refine blk_far ?_ NB836_887.out _; (with_reducible repeat (first | refine blk_drewN ?_ _ | refine blk_drew ?_ | refine blk_alloc ?_ _)); refine blk_far ?_ NB836_887.out _; (with_reducible repeat (first | refine blk_drewN ?_ _ | refine blk_drew ?_ | refine blk_alloc ?_ _)); refine blk_far ?_ NB836_887.out _; (with_reducible repeat (first | refine blk_drewN ?_ _ | refine blk_drew ?_ | refine blk_alloc ?_ _)); exact BK836.out) hb); have n6_ := Aside0.mk (blk_below (g := gb849) (o := .cells #[.slice Ao26 t843.length co26, .int .i64 t846, .int .i64 t847] 29 (0, 0)) (by (with_reducible repeat (first | refine blk_drewN ?_ _ | refine blk_drew ?_ | refine blk_alloc ?_ _)); refine blk_far ?_ NB849_887.out _; (with_reducible repeat (first | refine blk_drewN ?_ _ | refine blk_drew ?_ | refine blk_alloc ?_ _)); refine blk_far ?_ NB849_887.out _; (with_reducible repeat (first | refine blk_drewN ?_ _ | refine blk_drew ?_ | refine blk_alloc ?_ _)); refine blk_far ?_ NB849_887.out _; (with_reducible repeat (first | refine blk_drewN ?_ _ | refine blk_drew ?_ | refine blk_alloc ?_ _)); exact BK849.out) hb); have n7_ := Aside0.mk (blk_below (g := gb855) (o := .cells #[.slice Ao32 t871.length co32, .int .i64 t853, .int .i64 t854] 29 (0, 0)) (by (with_reducible repeat (first | refine blk_drewN ?_ _ | refine blk_drew ?_ | refine blk_alloc ?_ _)); refine blk_far ?_ NB855_887.out _; (with_reducible repeat (first | refine blk_drewN ?_ _ | refine blk_drew ?_ | refine blk_alloc ?_ _)); refine blk_far ?_ NB855_887.out _; (with_reducible repeat (first | refine blk_drewN ?_ _ | refine blk_drew ?_ | refine blk_alloc ?_ _)); refine blk_far ?_ NB855_887.out _; (with_reducible repeat (first | refine blk_drewN ?_ _ | refine blk_drew ?_ | refine blk_alloc ?_ _)); exact BK855.out) hb); have n8_ := Aside0.mk (blk_below (g := gb862) (o := .cells #[.slice Ao38 t856.length co38, .int .i64 t859, .int .i64 t860] 29 (0, 0)) (by (with_reducible repeat (first | refine blk_drewN ?_ _ | refine blk_drew ?_ | refine blk_alloc ?_ _)); refine blk_far ?_ NB862_887.out _; (with_reducible repeat (first | refine blk_drewN ?_ _ | refine blk_drew ?_ | refine blk_alloc ?_ _)); refine blk_far ?_ NB862_887.out _; (with_reducible repeat (first | refine blk_drewN ?_ _ | refine blk_drew ?_ | refine blk_alloc ?_ _)); refine blk_far ?_ NB862_887.out _; (with_reducible repeat (first | refine blk_drewN ?_ _ | refine blk_drew ?_ | refine blk_alloc ?_ _)); exact BK862.out) hb); have n9_ := Aside0.mk (blk_below (g := gb887) (o := .cells #[.slice Ao119 t881.length co119, .int .i64 t884, .int .i64 t885] 29 (0, 0)) (by (with_reducible repeat (first | refine blk_drewN ?_ _ | refine blk_drew ?_ | refine blk_alloc ?_ _)); refine blk_put (cs := #[.slice Ao119 t881.length co119, .int .i64 t884, .int .i64 0]) ?_ 2 _ rfl; (with_reducible repeat (first | refine blk_drewN ?_ _ | refine blk_drew ?_ | refine blk_alloc ?_ _)); refine blk_put (cs := #[.slice Ao119 t881.length co119, .int .i64 0, .int .i64 0]) ?_ 1 _ rfl; (with_reducible repeat (first | refine blk_drewN ?_ _ | refine blk_drew ?_ | refine blk_alloc ?_ _)); refine blk_put (cs := #[.slice none 0 0, .int .i64 0, .int .i64 0]) ?_ 0 _ rfl; (with_reducible repeat (first | refine blk_drewN ?_ _ | refine blk_drew ?_ | refine blk_alloc ?_ _)); exact BK887.out) hb); have n10_ := Aside0.mk (below_step (by repeat (first | (with_reducible first | exact HB.out | apply below_alloc | apply pw_below_drewN | apply below_drew1 | refine below_set ?_ GE836.out | refine below_set ?_ GE849.out | refine below_set ?_ GE855.out | refine below_set ?_ GE862.out | refine below_set ?_ GE887.out) | exact HB.out)) hb); clear HO_850000; clear HO_856000; clear HO_863000; clear HO878; clear HO883; clear BK836; clear BK849; clear BK855; clear BK862; clear BK887; clear HB; have HO_850000 := n0_; have HO_856000 := n1_; have HO_863000 := n2_; have HO878 := n3_; have HO883 := n4_; have BK836 := n5_; have BK849 := n6_; have BK855 := n7_; have BK862 := n8_; have BK887 := n9_; have HB := n10_; clear n0_ n1_ n2_ n3_ n4_ n5_ n6_ n7_ n8_ n9_ n10_; (try clear hb); (try clear hb2); (try clear hk); (try clear hi)))
               go_ret
               exact ⟨by first | rfl | (simp [errW_none, errW_some] <;> rfl) | (simp [*, errW_none, errW_some] <;> rfl), by repeat (first | (with_reducible first | exact HB.out | apply below_alloc | apply pw_below_drewN | apply below_drew1 | refine below_set ?_ GE836.out | refine below_set ?_ GE849.out | refine below_set ?_ GE855.out | refine below_set ?_ GE862.out | refine below_set ?_ GE887.out) | exact HB.out)⟩
              ·rw [if_neg c104] at H
               have c104b0 : (t886 == t848) = false := beq_eq_false_iff_ne.mpr c104
               have c104b1 : (t886 != t848) = true := bne_iff_ne.mpr c104
               exact absurd H (by simp)
             ·replace c103 := Bool.eq_false_iff.mpr c103
              subst c103
              have H1 : (some false) = some true := by rw [if_neg (show ¬ (false = true) by decide)] at H; exact H
              clear H
              have H := H1
              clear H1
              exact absurd H (by simp)
            ·rw [if_neg c99] at H
             have c99b0 : (t875 == t873) = false := beq_eq_false_iff_ne.mpr c99
             have c99b1 : (t875 != t873) = true := bne_iff_ne.mpr c99
             exact absurd H (by simp)
       ·replace c64 := Bool.eq_false_iff.mpr c64
        subst c64
        have H1 : (some false) = some true := by rw [if_neg (show ¬ (false = true) by decide)] at H; exact H
        clear H
        have H := H1
        clear H1
        exact absurd H (by simp)

end Go.Proofs.Ytbppijlcmeidaaa.P
end

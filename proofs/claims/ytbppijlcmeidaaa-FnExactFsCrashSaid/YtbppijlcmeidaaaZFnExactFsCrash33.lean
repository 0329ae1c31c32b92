/- Texts of the claim FnExactFsCrash, part 33 of 33, joined: Pspecl1At, Pspecl1Data, PspecFsFind, MAt, MInts, MSpecCrash, MMark, PureFnExactFsCrash, RowFnExactFsCrash. No condition beyond those that stand at each. -/
import Derived.Test.YtbppijlcmeidaaaZFnExactFsCrash25
import Derived.Test.YtbppijlcmeidaaaZFnExactFsCrash27
import Derived.Test.YtbppijlcmeidaaaZFnExactFsCrash28
import Derived.Test.YtbppijlcmeidaaaZFnExactFsCrash30
import Derived.Test.YtbppijlcmeidaaaZFnExactFsCrash29
import Derived.Test.YtbppijlcmeidaaaZFnExactFsCrash31
import Derived.Test.YtbppijlcmeidaaaZFnExactFsCrash32
import Derived.Test.YtbppijlcmeidaaaRows
import Derived.WalkKit
import Derived.ProofKit
import Derived.OpenShut
import Derived.ShutString
import Derived.ChangeOld
import Derived.Below
import Derived.SizedLaws
section
-- Written by a changed copy of the print program, one module a function. Not trusted: Lean checks it.
namespace Go.Proofs.Ytbppijlcmeidaaa.P
open Go.RowKit Go.Proofs.YtbppijlcmeidaaaW.PrintWords Go.Proofs.YtbppijlcmeidaaaW.PrintLast Go.Proofs.YtbppijlcmeidaaaW.PrintMore
attribute [local go_sem] max2_int min2_int max_two min_two max_three min_three max_four min_four   -- for this text's walks alone
set_option linter.unusedVariables false
set_option linter.unusedSimpArgs false

/-! ### spec_l1At: function 53 -/
def spec_l1At.l0 : Nat → ByteArray → Int → List (S52) → Int → Int → Option (Int)
 | 0, _, _, _, _, _ => none
 | k + 1, x1, x5, x165000, x165001, x165002 => if x5 < (x165000.length : Int) then (if 0 ≤ x5 then (if ((rd_T52 x165000 x5).f0).toList = x1.toList then (some x5) else (spec_l1At.l0 k x1 (wrap64 (x5 + 1)) x165000 x165001 x165002)) else (none)) else (some (-1))
def spec_l1At.f (k : Nat) (l0_0 : List (S52)) (a0_1 : Int) (a0_2 : Int) (a1 : ByteArray) : Option (Int) := spec_l1At.l0 k a1 0 l0_0 a0_1 a0_2
theorem spec_l1At.mono_l : ∀ k, (∀ y0 y1 y2 y3 y4, LeO (spec_l1At.l0 k y0 y1 y2 y3 y4) (spec_l1At.l0 (k + 1) y0 y1 y2 y3 y4))
 | 0 => fun _ _ _ _ _ r h => by simp [spec_l1At.l0] at h
 | k + 1 => by
  have ih0 := spec_l1At.mono_l k
  ·intro y0 y1 y2 y3 y4
   unfold spec_l1At.l0
   repeat' first
   | (with_reducible exact ih0 _ _ _ _ _)
   | (with_reducible exact LeO.refl _)
   | (with_reducible exact LeO.none _)
   | (with_reducible refine LeO.ite ?_ ?_)
   | (with_reducible refine LeO.bind ?_ (fun _ => ?_))
   | exact ih0 _ _ _ _ _
   | exact LeO.none _
   | refine LeO.ite ?_ ?_
   | refine LeO.bind ?_ (fun _ => ?_)
theorem spec_l1At.mono : ∀ a0 a1 a2 a3 k, LeO (spec_l1At.f k a0 a1 a2 a3) (spec_l1At.f (k + 1) a0 a1 a2 a3) := by
 intro a0 a1 a2 a3 k
 have ih0 := spec_l1At.mono_l k
 unfold spec_l1At.f
 repeat' first
   | (with_reducible exact ih0 _ _ _ _ _)
   | (with_reducible exact LeO.refl _)
   | (with_reducible exact LeO.none _)
   | (with_reducible refine LeO.ite ?_ ?_)
   | (with_reducible refine LeO.bind ?_ (fun _ => ?_))
   | exact ih0 _ _ _ _ _
   | exact LeO.none _
   | refine LeO.ite ?_ ?_
   | refine LeO.bind ?_ (fun _ => ?_)
set_option maxHeartbeats 8000000 in
set_option maxRecDepth 100000 in
theorem spec_l1At.calls (k : Nat) (A0_0 : Option Addr) (c0_0 : Nat) (l0_0 : List (S52)) (a0_1 : Int) (a0_2 : Int) (a1 : ByteArray) (r : Int) (w : World) (hr0_0 : Kd.C k52 w A0_0 l0_0.length l0_0) (hc0_0 : l0_0.length ≤ c0_0) (h : spec_l1At.f k l0_0 a0_1 a0_2 a1 = some r) :
  Calls Try.prog 53 #[.agg #[.slice A0_0 l0_0.length c0_0, .int .i64 a0_1, .int .i64 a0_2], .string a1] w fun e w' => e = .returned (.int .i64 r) ∧ Below w.heap.size w w' := by
 have hu29 := Try.underlying29
 have HR0_0 := Aside0.mk hr0_0
 have HC0_0 := Aside0.mk hc0_0
 clear hr0_0 hc0_0
 have HB := Aside0.mk (Below.refl w.heap.size w)
 have H : (spec_l1At.l0 k a1 0 l0_0 a0_1 a0_2) = some r := h
 clear h
 have H' := Aside0.mk H
 clear H
 go_enter Try.func53, Try.ntmps53
 go_wp2_with (first | ((with_reducible refine gate_dst (N := 2) rfl ?_); refine box_event ?hg (N := 2) ?hd (cs := #[.slice A0_0 l0_0.length c0_0, .int .i64 a0_1, .int .i64 a0_2]) (t := 29) ?hr ?_; (case hd => rfl); (case hg => rfl); (case hr => first | (go_simp; done) | (go_simp; rfl)); intro gb164 hg w3 hbox hb; have n0_ := Aside0.mk (below_step (by repeat (first | (with_reducible first | exact HB.out | apply below_alloc | apply pw_below_drewN | apply below_drew1) | exact HB.out)) hb); have n1_ := Aside0.mk (hbox); have n2_ := Aside0.mk ((by rw [hg]; exact (below_size (by repeat (first | (with_reducible first | exact HB.out | apply below_alloc | apply pw_below_drewN | apply below_drew1) | exact HB.out))) : w.heap.size ≤ gb164)); have n3_ := Aside0.mk ((by rw [hg]; exact (below_size (by repeat (first | (with_reducible first | exact HB.out | apply below_alloc | apply pw_below_drewN | apply below_drew1) | exact HB.out))) : w.heap.size ≤ gb164)); clear HB; have HB := n0_; have BK164 := n1_; have GW164 := n2_; have GE164 := n3_; clear n0_ n1_ n2_ n3_; clear hb hbox hg))
 go_loopg [5] k (fun kq v5 w' => ∃ (x5_1 : Int), v5 = .int .i64 x5_1 ∧ Aside0 (spec_l1At.l0 kq a1 x5_1 l0_0 a0_1 a0_2 = some r) ∧ Aside0 (kq ≤ k) ∧ Aside0 (w'.heap[gb164]? = some (.cells #[(.slice A0_0 l0_0.length c0_0), .int .i64 a0_1, .int .i64 a0_2] 29 (0, 0))) ∧ Aside0 (Below w.heap.size w w'))
 case atStart => exact ⟨(0), (by first | rfl | (simp; done) | (simp [*]; done)), H', ⟨Nat.le_refl _⟩, ⟨by (with_reducible repeat (first | refine blk_drewN ?_ _ | refine blk_drew ?_ | refine blk_alloc ?_ _)); exact BK164.out⟩, ⟨by repeat (first | (with_reducible first | exact HB.out | apply below_alloc | apply pw_below_drewN | apply below_drew1 | refine below_set ?_ GE164.out) | exact HB.out)⟩⟩
 case round =>
  clear H'
  try clear p2
  obtain ⟨x5_1, rfl, HA, HK1, BK164, HB⟩ := hrel
  cases gk with
  | zero => exact absurd HA.out (by simp [spec_l1At.l0])
  | succ k1 =>
   have H := HA.out
   clear HA
   simp only [spec_l1At.l0] at H
   by_cases c4 : x5_1 < (l0_0.length : Int)
   ·rw [if_pos c4] at H
    have c4b0 : decide (x5_1 < (l0_0.length : Int)) = true := decide_eq_true c4
    clear c4
    by_cases c5 : 0 ≤ x5_1
    ·rw [if_pos c5] at H
     have c5b0 : decide (0 ≤ x5_1) = true := decide_eq_true c5
     clear c5
     by_cases c6 : ((rd_T52 l0_0 x5_1).f0).toList = a1.toList
     ·rw [if_pos c6] at H
      have c6b0 : (((rd_T52 l0_0 x5_1).f0).toList == a1.toList) = true := beq_iff_eq.mpr c6
      have c6b1 : (((rd_T52 l0_0 x5_1).f0).toList != a1.toList) = false := bne_eq_false_iff_eq.mpr c6
      clear c6
      obtain rfl := Option.some.inj H
      have hcz7_0 : wr.cell? ⟨gb164, 0, none⟩ = some (.slice A0_0 l0_0.length c0_0) := (blk_cell BK164.out 0).trans rfl
      have hcz7_1 : wr.cell? ⟨gb164, 1, none⟩ = some (.int .i64 a0_1) := (blk_cell BK164.out 1).trans rfl
      have hcz7_2 : wr.cell? ⟨gb164, 2, none⟩ = some (.int .i64 a0_2) := (blk_cell BK164.out 2).trans rfl
      have hfz7_0 := blk_frozen BK164.out 0
      have hfz7_1 := blk_frozen BK164.out 1
      have hfz7_2 := blk_frozen BK164.out 2
      have p165 : 0 ≤ (x5_1 : Int) := of_decide_eq_true (by first | (with_reducible assumption) | assumption)
      have q165 : x5_1 < (l0_0.length : Int) := of_decide_eq_true (by first | (with_reducible assumption) | assumption)
      obtain ⟨ad165, e165, hx165_0, hx165_1, hx165_2⟩ := at_T52 HR0_0.out x5_1 p165 q165
      cases e165
      replace hx165_0 := (HB.out.cell (World.block_lt_of_cell? w _ hx165_0)).trans hx165_0
      replace hx165_1 := (HB.out.cell (World.block_lt_of_cell? w _ hx165_1)).trans hx165_1
      replace hx165_2 := (HB.out.cell (World.block_lt_of_cell? w _ hx165_2)).trans hx165_2
      replace p165 := eq_true p165
      replace q165 := eq_true q165
      go_wp2
      go_ret
      exact ⟨by first | rfl | (simp [errW_none, errW_some] <;> rfl) | (simp [*, errW_none, errW_some] <;> rfl), by repeat (first | (with_reducible first | exact HB.out | apply below_alloc | apply pw_below_drewN | apply below_drew1 | refine below_set ?_ GE164.out) | exact HB.out)⟩
     ·rw [if_neg c6] at H
      have c6b0 : (((rd_T52 l0_0 x5_1).f0).toList == a1.toList) = false := beq_eq_false_iff_ne.mpr c6
      have c6b1 : (((rd_T52 l0_0 x5_1).f0).toList != a1.toList) = true := bne_iff_ne.mpr c6
      have H' := Aside0.mk H
      clear H
      have hcz8_0 : wr.cell? ⟨gb164, 0, none⟩ = some (.slice A0_0 l0_0.length c0_0) := (blk_cell BK164.out 0).trans rfl
      have hcz8_1 : wr.cell? ⟨gb164, 1, none⟩ = some (.int .i64 a0_1) := (blk_cell BK164.out 1).trans rfl
      have hcz8_2 : wr.cell? ⟨gb164, 2, none⟩ = some (.int .i64 a0_2) := (blk_cell BK164.out 2).trans rfl
      have hfz8_0 := blk_frozen BK164.out 0
      have hfz8_1 := blk_frozen BK164.out 1
      have hfz8_2 := blk_frozen BK164.out 2
      have p165 : 0 ≤ (x5_1 : Int) := of_decide_eq_true (by first | (with_reducible assumption) | assumption)
      have q165 : x5_1 < (l0_0.length : Int) := of_decide_eq_true (by first | (with_reducible assumption) | assumption)
      obtain ⟨ad165, e165, hx165_0, hx165_1, hx165_2⟩ := at_T52 HR0_0.out x5_1 p165 q165
      cases e165
      replace hx165_0 := (HB.out.cell (World.block_lt_of_cell? w _ hx165_0)).trans hx165_0
      replace hx165_1 := (HB.out.cell (World.block_lt_of_cell? w _ hx165_1)).trans hx165_1
      replace hx165_2 := (HB.out.cell (World.block_lt_of_cell? w _ hx165_2)).trans hx165_2
      replace p165 := eq_true p165
      replace q165 := eq_true q165
      go_wp2
      go_roundg k1
      case measure => have := HK1.out; omega
      case rel => exact ⟨(wrap64 (x5_1 + 1)), (by first | rfl | (simp; done) | (simp [*]; done)), H', ⟨by have := HK1.out; omega⟩, ⟨by (with_reducible repeat (first | refine blk_drewN ?_ _ | refine blk_drew ?_ | refine blk_alloc ?_ _)); exact BK164.out⟩, ⟨by repeat (first | (with_reducible first | exact HB.out | apply below_alloc | apply pw_below_drewN | apply below_drew1 | refine below_set ?_ GE164.out) | exact HB.out)⟩⟩
    ·rw [if_neg c5] at H
     exact absurd H (by simp)
   ·rw [if_neg c4] at H
    have c4b0 : decide (x5_1 < (l0_0.length : Int)) = false := decide_eq_false c4
    clear c4
    obtain rfl := Option.some.inj H
    have hcz9_0 : wr.cell? ⟨gb164, 0, none⟩ = some (.slice A0_0 l0_0.length c0_0) := (blk_cell BK164.out 0).trans rfl
    have hcz9_1 : wr.cell? ⟨gb164, 1, none⟩ = some (.int .i64 a0_1) := (blk_cell BK164.out 1).trans rfl
    have hcz9_2 : wr.cell? ⟨gb164, 2, none⟩ = some (.int .i64 a0_2) := (blk_cell BK164.out 2).trans rfl
    have hfz9_0 := blk_frozen BK164.out 0
    have hfz9_1 := blk_frozen BK164.out 1
    have hfz9_2 := blk_frozen BK164.out 2
    go_wp2
    go_ret
    exact ⟨by first | rfl | (simp [errW_none, errW_some] <;> rfl) | (simp [*, errW_none, errW_some] <;> rfl), by repeat (first | (with_reducible first | exact HB.out | apply below_alloc | apply pw_below_drewN | apply below_drew1 | refine below_set ?_ GE164.out) | exact HB.out)⟩

end Go.Proofs.Ytbppijlcmeidaaa.P
end
section
-- Written by a changed copy of the print program, one module a function. Not trusted: Lean checks it.
namespace Go.Proofs.Ytbppijlcmeidaaa.P
open Go.RowKit Go.Proofs.YtbppijlcmeidaaaW.PrintWords Go.Proofs.YtbppijlcmeidaaaW.PrintLast Go.Proofs.YtbppijlcmeidaaaW.PrintMore
attribute [local go_sem] max2_int min2_int max_two min_two max_three min_three max_four min_four   -- for this text's walks alone
set_option linter.unusedVariables false
set_option linter.unusedSimpArgs false

/-! ### spec_l1Data: function 47 -/
def spec_l1Data.f (k : Nat) (l0_0 : List (S52)) (a0_1 : Int) (a0_2 : Int) (a1 : ByteArray) : Option (ByteArray × Bool) := (spec_l1At.f k l0_0 a0_1 a0_2 a1).bind fun t167 => (if t167 < 0 then (some ((⟨#[]⟩ : ByteArray), false)) else (if 0 ≤ t167 then (if t167 < (l0_0.length : Int) then (some ((rd_T52 l0_0 t167).f1, true)) else (none)) else (none)))
theorem spec_l1Data.mono : ∀ a0 a1 a2 a3 k, LeO (spec_l1Data.f k a0 a1 a2 a3) (spec_l1Data.f (k + 1) a0 a1 a2 a3) := by
 intro a0 a1 a2 a3 k
 unfold spec_l1Data.f
 repeat' first
   | (with_reducible exact spec_l1At.mono _ _ _ _ _)
   | (with_reducible exact LeO.refl _)
   | (with_reducible exact LeO.none _)
   | (with_reducible refine LeO.ite ?_ ?_)
   | (with_reducible refine LeO.bind ?_ (fun _ => ?_))
   | exact spec_l1At.mono _ _ _ _ _
   | exact LeO.none _
   | refine LeO.ite ?_ ?_
   | refine LeO.bind ?_ (fun _ => ?_)
set_option maxHeartbeats 8000000 in
set_option maxRecDepth 100000 in
theorem spec_l1Data.calls (k : Nat) (A0_0 : Option Addr) (c0_0 : Nat) (l0_0 : List (S52)) (a0_1 : Int) (a0_2 : Int) (a1 : ByteArray) (r1 : ByteArray) (r2 : Bool) (w : World) (hr0_0 : Kd.C k52 w A0_0 l0_0.length l0_0) (hc0_0 : l0_0.length ≤ c0_0) (h : spec_l1Data.f k l0_0 a0_1 a0_2 a1 = some (r1, r2)) :
  Calls Try.prog 47 #[.agg #[.slice A0_0 l0_0.length c0_0, .int .i64 a0_1, .int .i64 a0_2], .string a1] w fun e w' => e = .returned (.tuple #[.string r1, .bool r2]) ∧ Below w.heap.size w w' := by
 have hu29 := Try.underlying29
 have HR0_0 := Aside0.mk hr0_0
 have HC0_0 := Aside0.mk hc0_0
 clear hr0_0 hc0_0
 have HB := Aside0.mk (Below.refl w.heap.size w)
 have H : ((spec_l1At.f k l0_0 a0_1 a0_2 a1).bind fun t167 => (if t167 < 0 then (some ((⟨#[]⟩ : ByteArray), false)) else (if 0 ≤ t167 then (if t167 < (l0_0.length : Int) then (some ((rd_T52 l0_0 t167).f1, true)) else (none)) else (none)))) = some (r1, r2) := h
 clear h
 replace H := Option.bind_eq_some_iff.mp H
 obtain ⟨t167, A30, H⟩ := H
 replace H : (if t167 < 0 then (some ((⟨#[]⟩ : ByteArray), false)) else (if 0 ≤ t167 then (if t167 < (l0_0.length : Int) then (some ((rd_T52 l0_0 t167).f1, true)) else (none)) else (none))) = some (r1, r2) := H
 have A3 := Aside0.mk A30
 clear A30
 by_cases c4 : t167 < 0
 ·rw [if_pos c4] at H
  have c4b0 : decide (t167 < 0) = true := decide_eq_true c4
  clear c4
  simp only [Option.some.injEq, Prod.mk.injEq] at H
  obtain ⟨rfl, rfl⟩ := H
  go_enter Try.func47, Try.ntmps47
  go_wp2_with (first | ((with_reducible refine gate_dst (N := 2) rfl ?_); refine box_event ?hg (N := 2) ?hd (cs := #[.slice A0_0 l0_0.length c0_0, .int .i64 a0_1, .int .i64 a0_2]) (t := 29) ?hr ?_; (case hd => rfl); (case hg => rfl); (case hr => first | (go_simp; done) | (go_simp; rfl)); intro gb166 hg w5 hbox hb; have n0_ := Aside0.mk (below_step (by repeat (first | (with_reducible first | exact HB.out | apply below_alloc | apply pw_below_drewN | apply below_drew1) | exact HB.out)) hb); have n1_ := Aside0.mk (hbox); have n2_ := Aside0.mk ((by rw [hg]; exact (below_size (by repeat (first | (with_reducible first | exact HB.out | apply below_alloc | apply pw_below_drewN | apply below_drew1) | exact HB.out))) : w.heap.size ≤ gb166)); have n3_ := Aside0.mk ((by rw [hg]; exact (below_size (by repeat (first | (with_reducible first | exact HB.out | apply below_alloc | apply pw_below_drewN | apply below_drew1) | exact HB.out))) : w.heap.size ≤ gb166)); clear HB; have HB := n0_; have BK166 := n1_; have GW166 := n2_; have GE166 := n3_; clear n0_ n1_ n2_ n3_; clear hb hbox hg; have hcz6_0 : w5.cell? ⟨gb166, 0, none⟩ = some (.slice A0_0 l0_0.length c0_0) := (blk_cell BK166.out 0).trans rfl; have hcz6_1 : w5.cell? ⟨gb166, 1, none⟩ = some (.int .i64 a0_1) := (blk_cell BK166.out 1).trans rfl; have hcz6_2 : w5.cell? ⟨gb166, 2, none⟩ = some (.int .i64 a0_2) := (blk_cell BK166.out 2).trans rfl; have hfz6_0 := blk_frozen BK166.out 0; have hfz6_1 := blk_frozen BK166.out 1; have hfz6_2 := blk_frozen BK166.out 2) | ((with_reducible refine gate_callee (f := 53) rfl ?_); refine goesL_ (some 9) rfl rfl Try.func53 (by kernel_rfl) rfl #[.agg #[.slice A0_0 l0_0.length c0_0, .int .i64 a0_1, .int .i64 a0_2], .string a1] rfl (by (try simp only [List.map_toArray, List.map_cons, List.map_nil]); first | done | rfl | (simp only [List.length_drop, List.length_take]; rfl)) ?_; (with_reducible refine (spec_l1At.calls k _ _ l0_0 a0_1 a0_2 a1 t167 _ ?side1 ?side2 A3.out).mono ?_); (case side1 => repeat (first | exact (Kd.C_below HR0_0.out HB.out) | (with_reducible refine Kd.C_alloc ?_ _) | (with_reducible refine Kd.C_drewN ?_ _) | (with_reducible refine Kd.C_drew ?_))); (case side2 => exact HC0_0.out); rintro e w7 ⟨rfl, hb⟩; refine ⟨_, rfl, ?_⟩; have n0_ := Aside0.mk (blk_below (g := gb166) (o := .cells #[.slice A0_0 l0_0.length c0_0, .int .i64 a0_1, .int .i64 a0_2] 29 (0, 0)) (by (with_reducible repeat (first | refine blk_drewN ?_ _ | refine blk_drew ?_ | refine blk_alloc ?_ _)); exact BK166.out) hb); have n1_ := Aside0.mk (below_step (by repeat (first | (with_reducible first | exact HB.out | apply below_alloc | apply pw_below_drewN | apply below_drew1 | refine below_set ?_ GE166.out) | exact HB.out)) hb); clear BK166; clear HB; have BK166 := n0_; have HB := n1_; clear n0_ n1_; (try clear hb); (try clear hb2); (try clear hk); (try clear hi)))
  go_ret2
  exact ⟨by first | rfl | (simp [errW_none, errW_some] <;> rfl) | (simp [*, errW_none, errW_some] <;> rfl), by repeat (first | (with_reducible first | exact HB.out | apply below_alloc | apply pw_below_drewN | apply below_drew1 | refine below_set ?_ GE166.out) | exact HB.out)⟩
 ·rw [if_neg c4] at H
  have c4b0 : decide (t167 < 0) = false := decide_eq_false c4
  clear c4
  by_cases c8 : 0 ≤ t167
  ·rw [if_pos c8] at H
   have c8b0 : decide (0 ≤ t167) = true := decide_eq_true c8
   clear c8
   by_cases c9 : t167 < (l0_0.length : Int)
   ·rw [if_pos c9] at H
    have c9b0 : decide (t167 < (l0_0.length : Int)) = true := decide_eq_true c9
    clear c9
    simp only [Option.some.injEq, Prod.mk.injEq] at H
    obtain ⟨rfl, rfl⟩ := H
    go_enter Try.func47, Try.ntmps47
    go_wp2_with (first | ((with_reducible refine gate_dst (N := 2) rfl ?_); refine box_event ?hg (N := 2) ?hd (cs := #[.slice A0_0 l0_0.length c0_0, .int .i64 a0_1, .int .i64 a0_2]) (t := 29) ?hr ?_; (case hd => rfl); (case hg => rfl); (case hr => first | (go_simp; done) | (go_simp; rfl)); intro gb166 hg w10 hbox hb; have n0_ := Aside0.mk (below_step (by repeat (first | (with_reducible first | exact HB.out | apply below_alloc | apply pw_below_drewN | apply below_drew1) | exact HB.out)) hb); have n1_ := Aside0.mk (hbox); have n2_ := Aside0.mk ((by rw [hg]; exact (below_size (by repeat (first | (with_reducible first | exact HB.out | apply below_alloc | apply pw_below_drewN | apply below_drew1) | exact HB.out))) : w.heap.size ≤ gb166)); have n3_ := Aside0.mk ((by rw [hg]; exact (below_size (by repeat (first | (with_reducible first | exact HB.out | apply below_alloc | apply pw_below_drewN | apply below_drew1) | exact HB.out))) : w.heap.size ≤ gb166)); clear HB; have HB := n0_; have BK166 := n1_; have GW166 := n2_; have GE166 := n3_; clear n0_ n1_ n2_ n3_; clear hb hbox hg; have hcz11_0 : w10.cell? ⟨gb166, 0, none⟩ = some (.slice A0_0 l0_0.length c0_0) := (blk_cell BK166.out 0).trans rfl; have hcz11_1 : w10.cell? ⟨gb166, 1, none⟩ = some (.int .i64 a0_1) := (blk_cell BK166.out 1).trans rfl; have hcz11_2 : w10.cell? ⟨gb166, 2, none⟩ = some (.int .i64 a0_2) := (blk_cell BK166.out 2).trans rfl; have hfz11_0 := blk_frozen BK166.out 0; have hfz11_1 := blk_frozen BK166.out 1; have hfz11_2 := blk_frozen BK166.out 2) | ((with_reducible refine gate_callee (f := 53) rfl ?_); refine goesL_ (some 9) rfl rfl Try.func53 (by kernel_rfl) rfl #[.agg #[.slice A0_0 l0_0.length c0_0, .int .i64 a0_1, .int .i64 a0_2], .string a1] rfl (by (try simp only [List.map_toArray, List.map_cons, List.map_nil]); first | done | rfl | (simp only [List.length_drop, List.length_take]; rfl)) ?_; (with_reducible refine (spec_l1At.calls k _ _ l0_0 a0_1 a0_2 a1 t167 _ ?side1 ?side2 A3.out).mono ?_); (case side1 => repeat (first | exact (Kd.C_below HR0_0.out HB.out) | (with_reducible refine Kd.C_alloc ?_ _) | (with_reducible refine Kd.C_drewN ?_ _) | (with_reducible refine Kd.C_drew ?_))); (case side2 => exact HC0_0.out); rintro e w12 ⟨rfl, hb⟩; refine ⟨_, rfl, ?_⟩; have n0_ := Aside0.mk (blk_below (g := gb166) (o := .cells #[.slice A0_0 l0_0.length c0_0, .int .i64 a0_1, .int .i64 a0_2] 29 (0, 0)) (by (with_reducible repeat (first | refine blk_drewN ?_ _ | refine blk_drew ?_ | refine blk_alloc ?_ _)); exact BK166.out) hb); have n1_ := Aside0.mk (below_step (by repeat (first | (with_reducible first | exact HB.out | apply below_alloc | apply pw_below_drewN | apply below_drew1 | refine below_set ?_ GE166.out) | exact HB.out)) hb); clear BK166; clear HB; have BK166 := n0_; have HB := n1_; clear n0_ n1_; (try clear hb); (try clear hb2); (try clear hk); (try clear hi); have hcz13_0 : w12.cell? ⟨gb166, 0, none⟩ = some (.slice A0_0 l0_0.length c0_0) := (blk_cell BK166.out 0).trans rfl; have hcz13_1 : w12.cell? ⟨gb166, 1, none⟩ = some (.int .i64 a0_1) := (blk_cell BK166.out 1).trans rfl; have hcz13_2 : w12.cell? ⟨gb166, 2, none⟩ = some (.int .i64 a0_2) := (blk_cell BK166.out 2).trans rfl; have hfz13_0 := blk_frozen BK166.out 0; have hfz13_1 := blk_frozen BK166.out 1; have hfz13_2 := blk_frozen BK166.out 2; have p168 : 0 ≤ (t167 : Int) := of_decide_eq_true (by first | (with_reducible assumption) | assumption); have q168 : t167 < (l0_0.length : Int) := of_decide_eq_true (by first | (with_reducible assumption) | assumption); obtain ⟨ad168, e168, hx168_0, hx168_1, hx168_2⟩ := at_T52 HR0_0.out t167 p168 q168; cases e168; replace hx168_0 := (HB.out.cell (World.block_lt_of_cell? w _ hx168_0)).trans hx168_0; replace hx168_1 := (HB.out.cell (World.block_lt_of_cell? w _ hx168_1)).trans hx168_1; replace hx168_2 := (HB.out.cell (World.block_lt_of_cell? w _ hx168_2)).trans hx168_2; replace p168 := eq_true p168; replace q168 := eq_true q168))
    go_ret2
    exact ⟨by first | rfl | (simp [errW_none, errW_some] <;> rfl) | (simp [*, errW_none, errW_some] <;> rfl), by repeat (first | (with_reducible first | exact HB.out | apply below_alloc | apply pw_below_drewN | apply below_drew1 | refine below_set ?_ GE166.out) | exact HB.out)⟩
   ·rw [if_neg c9] at H
    exact absurd H (by simp)
  ·rw [if_neg c8] at H
   exact absurd H (by simp)

end Go.Proofs.Ytbppijlcmeidaaa.P
end
section
-- Written by a changed copy of the print program, one module a function. Not trusted: Lean checks it.
namespace Go.Proofs.Ytbppijlcmeidaaa.P
open Go.RowKit Go.Proofs.YtbppijlcmeidaaaW.PrintWords Go.Proofs.YtbppijlcmeidaaaW.PrintLast Go.Proofs.YtbppijlcmeidaaaW.PrintMore
attribute [local go_sem] max2_int min2_int max_two min_two max_three min_three max_four min_four   -- for this text's walks alone
set_option linter.unusedVariables false
set_option linter.unusedSimpArgs false

/-! ### spec_FsFind: function 17 -/
def spec_FsFind.f (k : Nat) (l0_0 : List (S52)) (a0_1 : Int) (a0_2 : Int) (a1 : ByteArray) : Option (ByteArray × Bool) := (spec_ValidFS.f k l0_0 a0_1 a0_2).bind fun t170 => (if t170 = true then ((spec_l1Data.f k l0_0 a0_1 a0_2 a1).bind fun bt171 => (some (bt171.1, bt171.2))) else (some ((⟨#[]⟩ : ByteArray), false)))
theorem spec_FsFind.mono : ∀ a0 a1 a2 a3 k, LeO (spec_FsFind.f k a0 a1 a2 a3) (spec_FsFind.f (k + 1) a0 a1 a2 a3) := by
 intro a0 a1 a2 a3 k
 unfold spec_FsFind.f
 repeat' first
   | (with_reducible exact spec_ValidFS.mono _ _ _ _)
   | (with_reducible exact spec_l1Data.mono _ _ _ _ _)
   | (with_reducible exact LeO.refl _)
   | (with_reducible exact LeO.none _)
   | (with_reducible refine LeO.ite ?_ ?_)
   | (with_reducible refine LeO.bind ?_ (fun _ => ?_))
   | exact spec_ValidFS.mono _ _ _ _
   | exact spec_l1Data.mono _ _ _ _ _
   | exact LeO.none _
   | refine LeO.ite ?_ ?_
   | refine LeO.bind ?_ (fun _ => ?_)
set_option maxHeartbeats 8000000 in
set_option maxRecDepth 100000 in
theorem spec_FsFind.calls (k : Nat) (A0_0 : Option Addr) (c0_0 : Nat) (l0_0 : List (S52)) (a0_1 : Int) (a0_2 : Int) (a1 : ByteArray) (r1 : ByteArray) (r2 : Bool) (w : World) (hr0_0 : Kd.C k52 w A0_0 l0_0.length l0_0) (hc0_0 : l0_0.length ≤ c0_0) (h : spec_FsFind.f k l0_0 a0_1 a0_2 a1 = some (r1, r2)) :
  Calls Try.prog 17 #[.agg #[.slice A0_0 l0_0.length c0_0, .int .i64 a0_1, .int .i64 a0_2], .string a1] w fun e w' => e = .returned (.tuple #[.string r1, .bool r2]) ∧ Below w.heap.size w w' := by
 have hu29 := Try.underlying29
 have HR0_0 := Aside0.mk hr0_0
 have HC0_0 := Aside0.mk hc0_0
 clear hr0_0 hc0_0
 have HB := Aside0.mk (Below.refl w.heap.size w)
 have H : ((spec_ValidFS.f k l0_0 a0_1 a0_2).bind fun t170 => (if t170 = true then ((spec_l1Data.f k l0_0 a0_1 a0_2 a1).bind fun bt171 => (some (bt171.1, bt171.2))) else (some ((⟨#[]⟩ : ByteArray), false)))) = some (r1, r2) := h
 clear h
 replace H := Option.bind_eq_some_iff.mp H
 obtain ⟨t170, A30, H⟩ := H
 replace H : (if t170 = true then ((spec_l1Data.f k l0_0 a0_1 a0_2 a1).bind fun bt171 => (some (bt171.1, bt171.2))) else (some ((⟨#[]⟩ : ByteArray), false))) = some (r1, r2) := H
 have A3 := Aside0.mk A30
 clear A30
 by_cases c4 : t170 = true
 ·subst c4
  have H1 : ((spec_l1Data.f k l0_0 a0_1 a0_2 a1).bind fun bt171 => (some (bt171.1, bt171.2))) = some (r1, r2) := by rw [if_pos rfl] at H; exact H
  clear H
  have H := H1
  clear H1
  replace H := Option.bind_eq_some_iff.mp H
  obtain ⟨⟨t171, t172⟩, A50, H⟩ := H
  replace H : (some (t171, t172)) = some (r1, r2) := H
  have A5 := Aside0.mk A50
  clear A50
  simp only [Option.some.injEq, Prod.mk.injEq] at H
  obtain ⟨rfl, rfl⟩ := H
  go_enter Try.func17, Try.ntmps17
  go_wp2_with (first | ((with_reducible refine gate_dst (N := 2) rfl ?_); refine box_event ?hg (N := 2) ?hd (cs := #[.slice A0_0 l0_0.length c0_0, .int .i64 a0_1, .int .i64 a0_2]) (t := 29) ?hr ?_; (case hd => rfl); (case hg => rfl); (case hr => first | (go_simp; done) | (go_simp; rfl)); intro gb169 hg w6 hbox hb; have n0_ := Aside0.mk (below_step (by repeat (first | (with_reducible first | exact HB.out | apply below_alloc | apply pw_below_drewN | apply below_drew1) | exact HB.out)) hb); have n1_ := Aside0.mk (hbox); have n2_ := Aside0.mk ((by rw [hg]; exact (below_size (by repeat (first | (with_reducible first | exact HB.out | apply below_alloc | apply pw_below_drewN | apply below_drew1) | exact HB.out))) : w.heap.size ≤ gb169)); have n3_ := Aside0.mk ((by rw [hg]; exact (below_size (by repeat (first | (with_reducible first | exact HB.out | apply below_alloc | apply pw_below_drewN | apply below_drew1) | exact HB.out))) : w.heap.size ≤ gb169)); clear HB; have HB := n0_; have BK169 := n1_; have GW169 := n2_; have GE169 := n3_; clear n0_ n1_ n2_ n3_; clear hb hbox hg; have hcz7_0 : w6.cell? ⟨gb169, 0, none⟩ = some (.slice A0_0 l0_0.length c0_0) := (blk_cell BK169.out 0).trans rfl; have hcz7_1 : w6.cell? ⟨gb169, 1, none⟩ = some (.int .i64 a0_1) := (blk_cell BK169.out 1).trans rfl; have hcz7_2 : w6.cell? ⟨gb169, 2, none⟩ = some (.int .i64 a0_2) := (blk_cell BK169.out 2).trans rfl; have hfz7_0 := blk_frozen BK169.out 0; have hfz7_1 := blk_frozen BK169.out 1; have hfz7_2 := blk_frozen BK169.out 2) | ((with_reducible refine gate_callee (f := 13) rfl ?_); refine goesL_ (some 7) rfl rfl Try.func13 (by kernel_rfl) rfl #[.agg #[.slice A0_0 l0_0.length c0_0, .int .i64 a0_1, .int .i64 a0_2]] rfl (by (try simp only [List.map_toArray, List.map_cons, List.map_nil]); first | done | rfl | (simp only [List.length_drop, List.length_take]; rfl)) ?_; (with_reducible refine (spec_ValidFS.calls k _ _ l0_0 a0_1 a0_2 true _ ?side1 ?side2 A3.out).mono ?_); (case side1 => repeat (first | exact (Kd.C_below HR0_0.out HB.out) | (with_reducible refine Kd.C_alloc ?_ _) | (with_reducible refine Kd.C_drewN ?_ _) | (with_reducible refine Kd.C_drew ?_))); (case side2 => exact HC0_0.out); rintro e w8 ⟨rfl, hb⟩; refine ⟨_, rfl, ?_⟩; have n0_ := Aside0.mk (blk_below (g := gb169) (o := .cells #[.slice A0_0 l0_0.length c0_0, .int .i64 a0_1, .int .i64 a0_2] 29 (0, 0)) (by (with_reducible repeat (first | refine blk_drewN ?_ _ | refine blk_drew ?_ | refine blk_alloc ?_ _)); exact BK169.out) hb); have n1_ := Aside0.mk (below_step (by repeat (first | (with_reducible first | exact HB.out | apply below_alloc | apply pw_below_drewN | apply below_drew1 | refine below_set ?_ GE169.out) | exact HB.out)) hb); clear BK169; clear HB; have BK169 := n0_; have HB := n1_; clear n0_ n1_; (try clear hb); (try clear hb2); (try clear hk); (try clear hi); have hcz9_0 : w8.cell? ⟨gb169, 0, none⟩ = some (.slice A0_0 l0_0.length c0_0) := (blk_cell BK169.out 0).trans rfl; have hcz9_1 : w8.cell? ⟨gb169, 1, none⟩ = some (.int .i64 a0_1) := (blk_cell BK169.out 1).trans rfl; have hcz9_2 : w8.cell? ⟨gb169, 2, none⟩ = some (.int .i64 a0_2) := (blk_cell BK169.out 2).trans rfl; have hfz9_0 := blk_frozen BK169.out 0; have hfz9_1 := blk_frozen BK169.out 1; have hfz9_2 := blk_frozen BK169.out 2) | ((with_reducible refine gate_callee (f := 47) rfl ?_); refine goesL_ (some 11) rfl rfl Try.func47 (by kernel_rfl) rfl #[.agg #[.slice A0_0 l0_0.length c0_0, .int .i64 a0_1, .int .i64 a0_2], .string a1] rfl (by (try simp only [List.map_toArray, List.map_cons, List.map_nil]); first | done | rfl | (simp only [List.length_drop, List.length_take]; rfl)) ?_; (with_reducible refine (spec_l1Data.calls k _ _ l0_0 a0_1 a0_2 a1 t171 t172 _ ?side1 ?side2 A5.out).mono ?_); (case side1 => repeat (first | exact (Kd.C_below HR0_0.out HB.out) | (with_reducible refine Kd.C_alloc ?_ _) | (with_reducible refine Kd.C_drewN ?_ _) | (with_reducible refine Kd.C_drew ?_))); (case side2 => exact HC0_0.out); rintro e w10 ⟨rfl, hb⟩; refine ⟨_, rfl, ?_⟩; have n0_ := Aside0.mk (blk_below (g := gb169) (o := .cells #[.slice A0_0 l0_0.length c0_0, .int .i64 a0_1, .int .i64 a0_2] 29 (0, 0)) (by (with_reducible repeat (first | refine blk_drewN ?_ _ | refine blk_drew ?_ | refine blk_alloc ?_ _)); exact BK169.out) hb); have n1_ := Aside0.mk (below_step (by repeat (first | (with_reducible first | exact HB.out | apply below_alloc | apply pw_below_drewN | apply below_drew1 | refine below_set ?_ GE169.out) | exact HB.out)) hb); clear BK169; clear HB; have BK169 := n0_; have HB := n1_; clear n0_ n1_; (try clear hb); (try clear hb2); (try clear hk); (try clear hi)))
  go_ret2
  exact ⟨by first | rfl | (simp [errW_none, errW_some] <;> rfl) | (simp [*, errW_none, errW_some] <;> rfl), by repeat (first | (with_reducible first | exact HB.out | apply below_alloc | apply pw_below_drewN | apply below_drew1 | refine below_set ?_ GE169.out) | exact HB.out)⟩
 ·replace c4 := Bool.eq_false_iff.mpr c4
  subst c4
  have H1 : (some ((⟨#[]⟩ : ByteArray), false)) = some (r1, r2) := by rw [if_neg (show ¬ (false = true) by decide)] at H; exact H
  clear H
  have H := H1
  clear H1
  simp only [Option.some.injEq, Prod.mk.injEq] at H
  obtain ⟨rfl, rfl⟩ := H
  go_enter Try.func17, Try.ntmps17
  go_wp2_with (first | ((with_reducible refine gate_dst (N := 2) rfl ?_); refine box_event ?hg (N := 2) ?hd (cs := #[.slice A0_0 l0_0.length c0_0, .int .i64 a0_1, .int .i64 a0_2]) (t := 29) ?hr ?_; (case hd => rfl); (case hg => rfl); (case hr => first | (go_simp; done) | (go_simp; rfl)); intro gb169 hg w11 hbox hb; have n0_ := Aside0.mk (below_step (by repeat (first | (with_reducible first | exact HB.out | apply below_alloc | apply pw_below_drewN | apply below_drew1) | exact HB.out)) hb); have n1_ := Aside0.mk (hbox); have n2_ := Aside0.mk ((by rw [hg]; exact (below_size (by repeat (first | (with_reducible first | exact HB.out | apply below_alloc | apply pw_below_drewN | apply below_drew1) | exact HB.out))) : w.heap.size ≤ gb169)); have n3_ := Aside0.mk ((by rw [hg]; exact (below_size (by repeat (first | (with_reducible first | exact HB.out | apply below_alloc | apply pw_below_drewN | apply below_drew1) | exact HB.out))) : w.heap.size ≤ gb169)); clear HB; have HB := n0_; have BK169 := n1_; have GW169 := n2_; have GE169 := n3_; clear n0_ n1_ n2_ n3_; clear hb hbox hg; have hcz12_0 : w11.cell? ⟨gb169, 0, none⟩ = some (.slice A0_0 l0_0.length c0_0) := (blk_cell BK169.out 0).trans rfl; have hcz12_1 : w11.cell? ⟨gb169, 1, none⟩ = some (.int .i64 a0_1) := (blk_cell BK169.out 1).trans rfl; have hcz12_2 : w11.cell? ⟨gb169, 2, none⟩ = some (.int .i64 a0_2) := (blk_cell BK169.out 2).trans rfl; have hfz12_0 := blk_frozen BK169.out 0; have hfz12_1 := blk_frozen BK169.out 1; have hfz12_2 := blk_frozen BK169.out 2) | ((with_reducible refine gate_callee (f := 13) rfl ?_); refine goesL_ (some 7) rfl rfl Try.func13 (by kernel_rfl) rfl #[.agg #[.slice A0_0 l0_0.length c0_0, .int .i64 a0_1, .int .i64 a0_2]] rfl (by (try simp only [List.map_toArray, List.map_cons, List.map_nil]); first | done | rfl | (simp only [List.length_drop, List.length_take]; rfl)) ?_; (with_reducible refine (spec_ValidFS.calls k _ _ l0_0 a0_1 a0_2 false _ ?side1 ?side2 A3.out).mono ?_); (case side1 => repeat (first | exact (Kd.C_below HR0_0.out HB.out) | (with_reducible refine Kd.C_alloc ?_ _) | (with_reducible refine Kd.C_drewN ?_ _) | (with_reducible refine Kd.C_drew ?_))); (case side2 => exact HC0_0.out); rintro e w13 ⟨rfl, hb⟩; refine ⟨_, rfl, ?_⟩; have n0_ := Aside0.mk (blk_below (g := gb169) (o := .cells #[.slice A0_0 l0_0.length c0_0, .int .i64 a0_1, .int .i64 a0_2] 29 (0, 0)) (by (with_reducible repeat (first | refine blk_drewN ?_ _ | refine blk_drew ?_ | refine blk_alloc ?_ _)); exact BK169.out) hb); have n1_ := Aside0.mk (below_step (by repeat (first | (with_reducible first | exact HB.out | apply below_alloc | apply pw_below_drewN | apply below_drew1 | refine below_set ?_ GE169.out) | exact HB.out)) hb); clear BK169; clear HB; have BK169 := n0_; have HB := n1_; clear n0_ n1_; (try clear hb); (try clear hb2); (try clear hk); (try clear hi)))
  go_ret2
  exact ⟨by first | rfl | (simp [errW_none, errW_some] <;> rfl) | (simp [*, errW_none, errW_some] <;> rfl), by repeat (first | (with_reducible first | exact HB.out | apply below_alloc | apply pw_below_drewN | apply below_drew1 | refine below_set ?_ GE169.out) | exact HB.out)⟩

end Go.Proofs.Ytbppijlcmeidaaa.P
end
section
/- The specification's search by name in files that are in order: what it prints to. Condition: the files are in order. -/
namespace Go.Proofs.Ytbppijlcmeidaaa.M
open Go.RowKit Go.Proofs.Ytbppijlcmeidaaa.P Go.Proofs.YtbppijlcmeidaaaW.PrintWords Go.Proofs.YtbppijlcmeidaaaW.PrintLast Go.Proofs.YtbppijlcmeidaaaW.PrintMore
set_option linter.unusedVariables false

theorem Ev.pure {α : Type} {g : Nat → Option α} {r : α} (h : ∀ k, g k = some r) : Ev g r := ⟨0, fun k _ => h k⟩
/-- What the weight says of the directory. -/
theorem weight_says (l : List S80) (h : weight l ≤ 1048576) : l.length ≤ 1048576 ∧ total (l.map conv) ≤ 1048576 ∧ ∀ x ∈ l.map conv, x.f0.size ≤ 1048576 ∧ x.f1.size ≤ 1048576 := by
  have hsum : ∀ l : List S80, total (l.map conv) ≤ (l.map fun x => x.f0.size + x.f1.size).sum ∧ ∀ x ∈ l, x.f0.size + x.f1.size ≤ (l.map fun x => x.f0.size + x.f1.size).sum := by
    intro l
    induction l with
    | nil => exact ⟨by simp [total], by simp⟩
    | cons x l ih =>
      refine ⟨?_, fun y hy => ?_⟩
      · have := ih.1
        show x.f1.size + total (l.map conv) ≤ x.f0.size + x.f1.size + (l.map fun x => x.f0.size + x.f1.size).sum
        omega
      · show y.f0.size + y.f1.size ≤ x.f0.size + x.f1.size + (l.map fun x => x.f0.size + x.f1.size).sum
        rcases List.mem_cons.1 hy with rfl | hy
        · omega
        · have := ih.2 y hy
          omega
  obtain ⟨h1, h2⟩ := hsum l
  unfold weight at h
  refine ⟨by omega, by omega, fun x hx => ?_⟩
  obtain ⟨y, hy, rfl⟩ := List.mem_map.1 hx
  have := h2 y hy
  exact ⟨by show y.f0.size ≤ _; omega, by show y.f1.size ≤ _; omega⟩
theorem countP_mono {α : Type} (p : α → Bool) : ∀ (l : List α), l.Pairwise (fun a b => p b = true → p a = true) → ∀ t x, l[t]? = some x → (p x = true ↔ t < l.countP p)
  | [], _, t, x, h => by simp at h
  | a :: r, hp, t, x, h => by
    have h1 := (List.pairwise_cons.1 hp).1
    have h2 := (List.pairwise_cons.1 hp).2
    by_cases ha : p a = true
    · rw [List.countP_cons_of_pos ha]
      cases t with
      | zero =>
        have : a = x := by simpa using h
        subst this
        simp [ha]
      | succ t =>
        have := countP_mono p r h2 t x (by simpa using h)
        rw [this]; omega
    · have hz : (a :: r).countP p = 0 := by
        rw [List.countP_eq_zero]
        intro y hy
        rcases List.mem_cons.1 hy with rfl | hy
        · exact ha
        · exact fun h => ha (h1 y hy h)
      rw [hz]
      constructor
      · intro hx
        exfalso
        cases t with
        | zero =>
          have : a = x := by simpa using h
          subst this
          exact ha hx
        | succ t => exact ha (h1 x (List.mem_of_getElem? (i := t) (by simpa using h)) hx)
      · intro h; omega
theorem sorted_pairwise {l : List S52} (h : Sorted l) : l.Pairwise (fun x y => lss x.f0 y.f0 = true) := by
  rw [List.pairwise_iff_getElem]
  intro i j hi hj hij
  have := h i j hij hj
  rwa [rd52 l i hi, rd52 l j hj] at this
theorem pos_iff {l : List S52} (hs : Sorted l) (s : ByteArray) (t : Nat) (ht : t < l.length) : lss (rd_T52 l (t : Int)).f0 s = true ↔ t < pos l s := by
  rw [rd52 l t ht]
  exact countP_mono (fun x => lss x.f0 s) l ((sorted_pairwise hs).imp (fun hab hb => lss_trans hab hb)) t l[t] (List.getElem?_eq_getElem ht)
theorem pos_le (l : List S52) (s : ByteArray) : pos l s ≤ l.length := List.countP_le_length
theorem cmp3_zero {a b : ByteArray} (h : cmp3 a b = 0) : a = b := by
  unfold cmp3 at h
  by_cases c1 : lss a b = true
  · rw [if_pos c1] at h; omega
  · rw [if_neg c1] at h
    by_cases c2 : lss b a = true
    · rw [if_pos c2] at h; omega
    · exact lss_total (Bool.eq_false_iff.2 c1) (Bool.eq_false_iff.2 c2)
theorem cmp3_self (a : ByteArray) : cmp3 a a = 0 := by
  unfold cmp3
  rw [lss_irrefl]
  simp
/-- A name is there just where some file has it. -/
theorem there_name {l : List S52} {s : ByteArray} (h : there l s = true) : (rd_T52 l (pos l s : Int)).f0 = s := by
  unfold there at h
  simp only [Bool.and_eq_true, decide_eq_true_eq] at h
  exact cmp3_zero h.2
theorem there_of {l : List S52} (hs : Sorted l) {s : ByteArray} {t : Nat} (ht : t < l.length) (he : (rd_T52 l (t : Int)).f0 = s) : pos l s = t ∧ there l s = true := by
  have h1 : ¬ t < pos l s := by
    rw [← pos_iff hs s t ht, he, lss_irrefl]
    simp
  have h2 : ¬ pos l s < t := by
    intro hlt
    have h3 := hs (pos l s) t hlt ht
    rw [he] at h3
    have := (pos_iff hs s (pos l s) (by omega)).1 h3
    omega
  have e : pos l s = t := by omega
  refine ⟨e, ?_⟩
  unfold there
  rw [e, he, cmp3_self, decide_eq_true ht]
  rfl

def atOf (l : List S52) (s : ByteArray) : Int := if there l s = true then (pos l s : Int) else -1
theorem specAt_loop (l : List S52) (q f : Int) (s : ByteArray) (hs : Sorted l) (hl : l.length ≤ 1048576) : ∀ d i : Nat, i + d = l.length → (there l s = true → i ≤ pos l s) →
    Ev (fun k => spec_l1At.l0 k s (i : Int) l q f) (atOf l s) := by
  intro d
  induction d with
  | zero =>
    intro i hi hp
    have hn : ¬ there l s = true := fun h => by have := there_lt h; have := hp h; omega
    refine Ev.step (f := fun _ => some (-1)) (fun k => ?_) ?_
    · rw [spec_l1At.l0, if_neg (by omega)]
    · unfold atOf; rw [if_neg hn]; exact Ev.now _
  | succ d ih =>
    intro i hi hp
    have hlt : i < l.length := by omega
    by_cases c : (rd_T52 l (i : Int)).f0 = s
    · obtain ⟨e, ht⟩ := there_of hs hlt c
      refine Ev.step (f := fun _ => some (i : Int)) (fun k => ?_) ?_
      · rw [spec_l1At.l0, if_pos (by omega), if_pos (by omega), if_pos (by rw [c])]
      · unfold atOf; rw [if_pos ht, e]; exact Ev.now _
    · refine Ev.step (fun k => ?_) (ih (i + 1) (by omega) (fun h => ?_))
      · rw [spec_l1At.l0, if_pos (by omega), if_pos (by omega), if_neg (fun h => c (toList_inj h)), wrap_succ (by omega)]
      · have h1 := hp h
        have h2 := there_name h
        rcases Nat.eq_or_lt_of_le h1 with h3 | h3
        · rw [← h3] at h2; exact absurd h2 c
        · omega
theorem specAt_eq (l : List S52) (q f : Int) (s : ByteArray) (hs : Sorted l) (hl : l.length ≤ 1048576) : Ev (fun k => spec_l1At.f k l q f s) (atOf l s) :=
  Ev.congr (fun _ => rfl) (specAt_loop l q f s hs hl l.length 0 (by omega) (fun _ => Nat.zero_le _))
theorem specData_eq (l : List S52) (q f : Int) (s : ByteArray) (hs : Sorted l) (hl : l.length ≤ 1048576) : Ev (fun k => spec_l1Data.f k l q f s) (dataAt l s, there l s) := by
  refine Ev.bind (specAt_eq l q f s hs hl) (Ev.pure (fun k => ?_))
  unfold atOf dataAt
  by_cases c : there l s = true
  · have := there_lt c
    rw [if_pos c, if_pos c, if_neg (by omega), if_pos (by omega), if_pos (by omega), c]
  · rw [if_neg c, if_neg c, if_pos (by omega), Bool.eq_false_iff.2 c]
theorem specFind_eq (l : List S52) (q f : Int) (s : ByteArray) (ht : total l ≤ 1048576) (hl : l.length ≤ 1048576) (hn : ∀ x ∈ l, x.f0.size ≤ 1048576) : Ev (fun k => spec_FsFind.f k l q f s) (fsFind l q f s) := by
  refine Ev.bind (specValid_eq l q f ht hl hn) ?_
  unfold fsFind
  by_cases c : validB l q f = true
  · rw [if_pos c]
    refine Ev.congr (fun k => if_pos c) (Ev.bind (specData_eq l q f s (valid_sorted c) hl) (Ev.pure (fun _ => rfl)))
  · rw [if_neg c]
    exact Ev.pure (fun k => if_neg c)
end Go.Proofs.Ytbppijlcmeidaaa.M
end
section
/- The laws' rows of whole numbers: copied, compared, marked. Condition: at most 2 to the 20 of them. -/
namespace Go.Proofs.Ytbppijlcmeidaaa.M
open Go.RowKit Go.Proofs.Ytbppijlcmeidaaa.P Go.Proofs.YtbppijlcmeidaaaW.PrintWords Go.Proofs.YtbppijlcmeidaaaW.PrintLast Go.Proofs.YtbppijlcmeidaaaW.PrintMore
set_option linter.unusedVariables false
theorem rdI (l : List Int) (i : Nat) (h : i < l.length) : rd l (i : Int) = l[i] := by
  unfold rd
  rw [Int.toNat_natCast, getD_at l i 0 h]
theorem toIntS_loop (l : List Int) (hl : l.length ≤ 1048576) : ∀ d i : Nat, i + d = l.length → ∀ xs : List Int, xs.length = l.length → xs.take i = l.take i →
    Ev (fun k => laws_toIntS.l0 k l xs (i : Int)) l := by
  intro d
  induction d with
  | zero =>
    intro i hi xs hx ht
    have e : xs = l := by rw [List.take_of_length_le (by omega), List.take_of_length_le (by omega)] at ht; exact ht
    refine Ev.step (f := fun _ => some xs) (fun k => ?_) (e ▸ Ev.now _)
    rw [laws_toIntS.l0, if_neg (by omega)]
  | succ d ih =>
    intro i hi xs hx ht
    have hlt : i < l.length := by omega
    refine Ev.step (fun k => ?_) (ih (i + 1) (by omega) (xs.set i l[i]) (by rw [List.length_set]; exact hx) ?_)
    · rw [laws_toIntS.l0, if_pos (by omega), if_pos (by omega), if_pos (by omega), rdI l i hlt, wrap_succ (by omega), Int.toNat_natCast]
    · rw [take_at _ i (by rw [List.length_set]; omega), List.take_set_of_le (Nat.le_refl i), ht, List.getElem_set_self, take_at l i hlt]
theorem toIntS_eq (l : List Int) (hl : l.length ≤ 1048576) : Ev (fun k => laws_toIntS.f k l) l := by
  refine Ev.congr (fun k => ?_) (toIntS_loop l hl l.length 0 (by omega) (List.replicate l.length 0) (by simp) (by simp))
  unfold laws_toIntS.f
  rw [if_pos (by omega), Int.toNat_natCast, if_pos (by omega)]
  rfl
theorem eqIntS_loop (l : List Int) (hl : l.length ≤ 1048576) : ∀ d i : Nat, i + d = l.length → Ev (fun k => laws_eqIntS.l0 k l l (i : Int)) true := by
  intro d
  induction d with
  | zero =>
    intro i hi
    refine Ev.step (f := fun _ => some true) (fun k => ?_) (Ev.now _)
    rw [laws_eqIntS.l0, if_neg (by omega)]
  | succ d ih =>
    intro i hi
    have hlt : i < l.length := by omega
    refine Ev.step (fun k => ?_) (ih (i + 1) (by omega))
    rw [laws_eqIntS.l0, if_pos (by omega), if_pos (by omega), if_pos (by omega), if_pos rfl, wrap_succ (by omega)]
theorem eqIntS_self (l : List Int) (hl : l.length ≤ 1048576) : Ev (fun k => laws_eqIntS.f k l l) true := by
  refine Ev.congr (fun k => ?_) (eqIntS_loop l hl l.length 0 (by omega))
  unfold laws_eqIntS.f
  rw [if_pos rfl]
  rfl
/-- What the marks of a row of numbers come to: some row, and the count behind it. -/
theorem markIntS_loop (n : Nat) (hl : n ≤ 1048576) : ∀ d i : Nat, i + d = n → ∀ (xs : List Int) (m : Nat), xs.length = n → m + d ≤ 9223372036854775000 →
    ∃ r : List Int, Ev (fun k => laws_markIntS.l0 k xs (m : Int) (i : Int)) (((m + d : Nat) : Int), r) := by
  intro d
  induction d with
  | zero =>
    intro i hi xs m hx hm
    refine ⟨xs, Ev.step (f := fun _ => some ((m : Int), xs)) (fun k => ?_) (Ev.now _)⟩
    rw [laws_markIntS.l0, if_neg (by omega)]
  | succ d ih =>
    intro i hi xs m hx hm
    obtain ⟨r, hr⟩ := ih (i + 1) (by omega) (xs.set i (m : Int)) (m + 1) (by rw [List.length_set]; exact hx) (by omega)
    rw [show m + 1 + d = m + (d + 1) by omega] at hr
    refine ⟨r, Ev.step (fun k => ?_) hr⟩
    rw [laws_markIntS.l0, if_pos (by omega), if_pos (by omega), wrap_succ (by omega), wrap_succ (by omega), Int.toNat_natCast]
theorem markIntS_eq (l : List Int) (m : Nat) (hl : l.length ≤ 1048576) (hm : m ≤ 1048576000) : ∃ r : List Int, Ev (fun k => laws_markIntS.f k l (m : Int)) (((m + l.length : Nat) : Int), r) :=
  markIntS_loop l.length hl l.length 0 (by omega) l m rfl (by omega)
end Go.Proofs.Ytbppijlcmeidaaa.M
end
section
/- The specification's FsCrash answers what the program's does. Condition: the directory is within the law's bounds. -/
namespace Go.Proofs.Ytbppijlcmeidaaa.M
open Go.RowKit Go.Proofs.Ytbppijlcmeidaaa.P Go.Proofs.YtbppijlcmeidaaaW.PrintWords Go.Proofs.YtbppijlcmeidaaaW.PrintLast Go.Proofs.YtbppijlcmeidaaaW.PrintMore
set_option linter.unusedVariables false
theorem crash_take (keep : List Int) (l : List S52) (i : Nat) (h : i < l.length) : (crash keep l).take (i + 1) = (crash keep l).take i ++ [crashFile keep i l[i]] := by
  rw [take_at (crash keep l) i (by rw [crash_length]; exact h), crash_at keep l i h]
theorem specCrash_loop (l : List S52) (q f : Int) (keep : List Int) (hl : l.length ≤ 1048576) (hx : ∀ i (h : i < l.length), 0 ≤ l[i].f2 ∧ l[i].f2 ≤ (l[i].f1.size : Int) ∧ (l[i].f1.size : Int) ≤ 1048576) : ∀ d i : Nat, i + d = l.length →
    Ev (fun k => spec_FsCrash.l0 k keep (i : Int) l q f ((crash keep l).take i) q (-1)) (crash keep l, q, -1) := by
  intro d
  induction d with
  | zero =>
    intro i hi
    refine Ev.step (f := fun _ => some ((crash keep l).take i, q, -1)) (fun k => ?_) ?_
    · rw [spec_FsCrash.l0, if_neg (by omega)]
    · rw [List.take_of_length_le (by rw [crash_length]; omega)]
      exact Ev.now _
  | succ d ih =>
    intro i hi
    have hlt : i < l.length := by omega
    have h2 := ih (i + 1) (by omega)
    obtain ⟨x0, x1, x2⟩ := hx i hlt
    have hal : ((crash keep l).take i).length < 3518437208883 := by rw [List.length_take]; omega
    rw [crash_take keep l i hlt] at h2
    unfold crashFile at h2
    have hw : wrap64 ((l[i].f1.size : Int) - l[i].f2) = (l[i].f1.size : Int) - l[i].f2 := wrap_ok (by omega) (by omega)
    have hws : wrap64 ((i : Int) + 1) = ((i + 1 : Nat) : Int) := wrap_succ (by omega)
    by_cases hk : i < keep.length
    · have hr := rdI keep i hk
      by_cases p1 : 0 < keep[i]
      · by_cases p2 : (l[i].f1.size : Int) - l[i].f2 < keep[i]
        · have hkept : keptAt keep i l[i] = (l[i].f1.size : Int) - l[i].f2 := by
            unfold keptAt mn mx
            rw [if_pos hk, getD_at keep i 0 hk, if_pos p1, if_pos p2]
          rw [hkept] at h2
          refine Ev.step (f := fun k => spec_FsCrash.j1 k keep (i : Int) 0 true l q f ((crash keep l).take i) q (-1) l[i].f0 l[i].f1 l[i].f2) (fun k => ?_) (Ev.step (fun k => ?_) h2)
          · rw [spec_FsCrash.l0, if_pos (by omega), if_pos (by omega), if_pos (by omega), rd52 l i hlt, hr, decide_eq_true p1]
          · have hw2 : wrap64 (l[i].f2 + ((l[i].f1.size : Int) - l[i].f2)) = l[i].f2 + ((l[i].f1.size : Int) - l[i].f2) := wrap_ok (by omega) (by omega)
            rw [spec_FsCrash.j1, if_pos rfl, if_pos (by omega), if_pos (by omega), hr, hw, if_pos p2, hw2, if_pos (by omega), if_pos (by omega), if_pos hal, hws]
        · have hkept : keptAt keep i l[i] = keep[i] := by
            unfold keptAt mn mx
            rw [if_pos hk, getD_at keep i 0 hk, if_pos p1, if_neg p2]
          rw [hkept] at h2
          refine Ev.step (f := fun k => spec_FsCrash.j1 k keep (i : Int) 0 true l q f ((crash keep l).take i) q (-1) l[i].f0 l[i].f1 l[i].f2) (fun k => ?_) (Ev.step (fun k => ?_) h2)
          · rw [spec_FsCrash.l0, if_pos (by omega), if_pos (by omega), if_pos (by omega), rd52 l i hlt, hr, decide_eq_true p1]
          · have hw2 : wrap64 (l[i].f2 + keep[i]) = l[i].f2 + keep[i] := wrap_ok (by omega) (by omega)
            rw [spec_FsCrash.j1, if_pos rfl, if_pos (by omega), if_pos (by omega), hr, hw, if_neg p2, hw2, if_pos (by omega), if_pos (by omega), if_pos hal, hws]
      · have hkept : keptAt keep i l[i] = 0 := by
          unfold keptAt mn mx
          rw [if_pos hk, getD_at keep i 0 hk, if_neg p1, if_neg (by omega)]
        rw [hkept] at h2
        refine Ev.step (f := fun k => spec_FsCrash.j1 k keep (i : Int) 0 false l q f ((crash keep l).take i) q (-1) l[i].f0 l[i].f1 l[i].f2) (fun k => ?_) (Ev.step (fun k => ?_) h2)
        · rw [spec_FsCrash.l0, if_pos (by omega), if_pos (by omega), if_pos (by omega), rd52 l i hlt, hr, decide_eq_false p1]
        · have hw2 : wrap64 (l[i].f2 + 0) = l[i].f2 + 0 := wrap_ok (by omega) (by omega)
          rw [spec_FsCrash.j1, if_neg (by simp), hw, if_neg (by omega), hw2, if_pos (by omega), if_pos (by omega), if_pos hal, hws]
    · have hkept : keptAt keep i l[i] = 0 := by
        unfold keptAt
        rw [if_neg hk]
      rw [hkept] at h2
      refine Ev.step (f := fun k => spec_FsCrash.j1 k keep (i : Int) 0 false l q f ((crash keep l).take i) q (-1) l[i].f0 l[i].f1 l[i].f2) (fun k => ?_) (Ev.step (fun k => ?_) h2)
      · rw [spec_FsCrash.l0, if_pos (by omega), if_pos (by omega), if_neg (by omega), rd52 l i hlt]
      · have hw2 : wrap64 (l[i].f2 + 0) = l[i].f2 + 0 := wrap_ok (by omega) (by omega)
        rw [spec_FsCrash.j1, if_neg (by simp), hw, if_neg (by omega), hw2, if_pos (by omega), if_pos (by omega), if_pos hal, hws]
theorem specCrash_eq (l : List S52) (q f : Int) (keep : List Int) (ht : total l ≤ 1048576) (hl : l.length ≤ 1048576) (hn : ∀ x ∈ l, x.f0.size ≤ 1048576) : Ev (fun k => spec_FsCrash.f k l q f keep) (crashRes l q f keep) := by
  refine Ev.bind (specValid_eq l q f ht hl hn) ?_
  unfold crashRes
  by_cases c : validB l q f = true
  · rw [c, if_pos rfl]
    refine Ev.congr (fun k => if_pos rfl) ?_
    exact specCrash_loop l q f keep hl (fun i h => by have := file_bounds c i h; rwa [rd52 l i h] at this) l.length 0 (by omega)
  · rw [Bool.eq_false_iff.2 c, if_neg (by simp)]
    exact Ev.congr (fun k => if_neg (by simp)) (Ev.now _)
theorem crashRes_length (l : List S52) (q f : Int) (keep : List Int) (hl : l.length ≤ 1048576) : (crashRes l q f keep).1.length ≤ 1048576 := by
  unfold crashRes
  split
  · show (crash keep l).length ≤ _
    rw [crash_length]; exact hl
  · exact Nat.zero_le _
end Go.Proofs.Ytbppijlcmeidaaa.M
end
section
/- The laws' marks: what markFS writes heldFS finds. Condition: the row and the count are far from the end of the numbers. -/
namespace Go.Proofs.Ytbppijlcmeidaaa.M
open Go.RowKit Go.Proofs.Ytbppijlcmeidaaa.P Go.Proofs.YtbppijlcmeidaaaW.PrintWords Go.Proofs.YtbppijlcmeidaaaW.PrintLast Go.Proofs.YtbppijlcmeidaaaW.PrintMore
set_option linter.unusedVariables false
theorem size_strOfNums (a : Int) : (strOfNums [a]).size = 1 := rfl
theorem markText_ends : ∀ (n : Nat) (k : Nat) (acc : ByteArray), k ≤ n → acc.size + k ≤ 4611686018427387904 → ∃ t, Ev (fun j => laws_markText.l0 j (k : Int) acc) t := by
  intro n
  induction n with
  | zero =>
    intro k acc hk hs
    refine ⟨(⟨#[109]⟩ : ByteArray) ++ acc, Ev.step (f := fun _ => some ((⟨#[109]⟩ : ByteArray) ++ acc)) (fun j => ?_) (Ev.now _)⟩
    rw [laws_markText.l0, if_neg (by omega), if_pos (by omega)]
  | succ n ih =>
    intro k acc hk hs
    by_cases c : k = 0
    · refine ⟨(⟨#[109]⟩ : ByteArray) ++ acc, Ev.step (f := fun _ => some ((⟨#[109]⟩ : ByteArray) ++ acc)) (fun j => ?_) (Ev.now _)⟩
      rw [laws_markText.l0, if_neg (by omega), if_pos (by omega)]
    · have ht : Int.tdiv (k : Int) 10 = ((k / 10 : Nat) : Int) := by
        rw [Int.tdiv_eq_ediv_of_nonneg (by omega)]; omega
      have hsz := size_strOfNums ((wrap64 (48 + (Int.tmod (k : Int) 10))) % 256)
      obtain ⟨t, h⟩ := ih (k / 10) (strOfNums [(wrap64 (48 + (Int.tmod (k : Int) 10))) % 256] ++ acc) (by omega) (by rw [ByteArray.size_append, hsz]; omega)
      refine ⟨t, Ev.step (fun j => ?_) h⟩
      rw [laws_markText.l0, if_pos (by omega), Option.bind_some, if_pos (by rw [hsz]; omega), ht, wrap_ok (by omega) (by omega)]
theorem markText_all (k : Nat) (hk : k ≤ 4611686018427387904) : ∃ t, Ev (fun j => laws_markText.f j (k : Int)) t := by
  by_cases c : k = 0
  · exact ⟨_, Ev.pure (fun j => if_pos (by omega))⟩
  · obtain ⟨t, h⟩ := markText_ends k k ⟨#[]⟩ (Nat.le_refl _) (by show 0 + k ≤ _; omega)
    exact ⟨t, Ev.congr (fun j => if_neg (by omega)) h⟩
open Classical in
noncomputable def mt (k : Nat) : ByteArray := if h : ∃ t, Ev (fun j => laws_markText.f j (k : Int)) t then Classical.choose h else ⟨#[]⟩
theorem mt_eq (k : Nat) (hk : k ≤ 4611686018427387904) : Ev (fun j => laws_markText.f j (k : Int)) (mt k) := by
  unfold mt
  rw [dif_pos (markText_all k hk)]
  exact Classical.choose_spec (markText_all k hk)
noncomputable def marked : Nat → List S52 → List S52
  | _, [] => []
  | k, _ :: l => ⟨mt k, mt (k + 1), ((k + 2 : Nat) : Int)⟩ :: marked (k + 3) l
theorem marked_length (l : List S52) : ∀ k, (marked k l).length = l.length := by
  induction l with
  | nil => intro k; rfl
  | cons x l ih => intro k; show (marked (k + 3) l).length + 1 = l.length + 1; rw [ih]
theorem marked_append (a b : List S52) : ∀ k, marked k (a ++ b) = marked k a ++ marked (k + 3 * a.length) b := by
  induction a with
  | nil => intro k; rfl
  | cons x a ih =>
    intro k
    show _ :: marked (k + 3) (a ++ b) = _ :: (marked (k + 3) a ++ _)
    rw [ih, show k + 3 + 3 * a.length = k + 3 * (x :: a).length by simp; omega]
theorem set_here {α : Type} (a b : List α) (x y : α) (i : Nat) (h : a.length = i) : (a ++ x :: b).set i y = a ++ y :: b := by
  subst h
  rw [List.set_append_right _ _ (Nat.le_refl _), Nat.sub_self]
  rfl
theorem rd_here (a b : List S52) (x : S52) (i : Nat) (h : a.length = i) : rd_T52 (a ++ x :: b) (i : Int) = x := by
  subst h
  rw [rd52 _ _ (by simp)]
  simp
theorem markFileS_loop (l : List S52) (hl : l.length ≤ 1048577) : ∀ d i : Nat, i + d = l.length →
    Ev (fun j => laws_markFileS.l0 j (marked 1 (l.take i) ++ l.drop i) ((1 + 3 * i : Nat) : Int) (i : Int)) (((1 + 3 * l.length : Nat) : Int), marked 1 l) := by
  intro d
  induction d with
  | zero =>
    intro i hi
    refine Ev.step (f := fun _ => some (((1 + 3 * l.length : Nat) : Int), marked 1 l)) (fun j => ?_) (Ev.now _)
    have e : marked 1 (l.take i) ++ l.drop i = marked 1 l := by rw [List.drop_eq_nil_of_le (by omega), List.append_nil, List.take_of_length_le (by omega)]
    rw [e, laws_markFileS.l0, if_neg (by rw [marked_length]; omega), show i = l.length by omega]
  | succ d ih =>
    intro i hi
    have hlt : i < l.length := by omega
    have hm : (marked 1 (l.take i)).length = i := by rw [marked_length, List.length_take]; omega
    have hlen : (marked 1 (l.take i) ++ l.drop i).length = l.length := by rw [List.length_append, hm, List.length_drop]; omega
    rw [drop_at l i hlt] at hlen ⊢
    generalize hA : marked 1 (l.take i) = A at hm hlen ⊢
    have e1 : wrap64 (((1 + 3 * i : Nat) : Int) + 1) = ((1 + 3 * i + 1 : Nat) : Int) := by rw [wrap_ok] <;> omega
    have e2 : wrap64 (((1 + 3 * i + 1 : Nat) : Int) + 1) = ((1 + 3 * i + 2 : Nat) : Int) := by rw [wrap_ok] <;> omega
    have e3 : wrap64 (((1 + 3 * i + 2 : Nat) : Int) + 1) = ((1 + 3 * (i + 1) : Nat) : Int) := by rw [wrap_ok] <;> omega
    have e4 : wrap64 ((i : Int) + 1) = ((i + 1 : Nat) : Int) := wrap_succ (by omega)
    have h2 := ih (i + 1) (by omega)
    have e5 : marked 1 (l.take (i + 1)) ++ l.drop (i + 1) = A ++ ⟨mt (1 + 3 * i), mt (1 + 3 * i + 1), ((1 + 3 * i + 2 : Nat) : Int)⟩ :: l.drop (i + 1) := by
      rw [take_at l i hlt, marked_append, hA, List.length_take, Nat.min_eq_left (by omega), List.append_assoc]
      rfl
    rw [e5] at h2
    refine Ev.step (f := fun j => ((laws_markText.f j ((1 + 3 * i : Nat) : Int)).bind fun t231 => ((laws_markText.f j ((1 + 3 * i + 1 : Nat) : Int)).bind fun t233 => (laws_markFileS.l0 j (A ++ (⟨t231, t233, ((1 + 3 * i + 2 : Nat) : Int)⟩ : S52) :: l.drop (i + 1)) ((1 + 3 * (i + 1) : Nat) : Int) ((i + 1 : Nat) : Int))))) (fun j => ?_) (Ev.bind (mt_eq _ (by omega)) (Ev.bind (mt_eq _ (by omega)) h2))
    rw [laws_markFileS.l0, if_pos (by rw [hlen]; omega)]
    have e6 : ((0 : Int) ≤ (i : Int)) = True := eq_true (by omega)
    simp only [Option.bind_some, Int.toNat_natCast, e1, e2, e3, e4, e6, if_true, rd_here A _ _ i hm, set_here A _ _ _ i hm]
theorem markFS_eq (l : List S52) (q f : Int) (hl : l.length ≤ 1048577) : Ev (fun j => laws_markFS.f j l q f 1) (((1 + 3 * l.length : Nat) : Int), marked 1 l) := by
  refine Ev.bind (a := (((1 + 3 * l.length : Nat) : Int), marked 1 l)) ?_ (Ev.now _)
  have := markFileS_loop l hl l.length 0 (by omega)
  exact this
theorem heldFileS_loop (l : List S52) (hl : l.length ≤ 1048577) : ∀ d i : Nat, i + d = l.length →
    Ev (fun j => laws_heldFileS.l0 j (marked 1 l) ((1 + 3 * i : Nat) : Int) (i : Int)) ((1 + 3 * l.length : Nat) : Int) := by
  intro d
  induction d with
  | zero =>
    intro i hi
    refine Ev.step (f := fun _ => some ((1 + 3 * l.length : Nat) : Int)) (fun j => ?_) (Ev.now _)
    rw [laws_heldFileS.l0, if_neg (by rw [marked_length]; omega), show i = l.length by omega]
  | succ d ih =>
    intro i hi
    have hlt : i < l.length := by omega
    have hm : (marked 1 (l.take i)).length = i := by rw [marked_length, List.length_take]; omega
    have hlen := marked_length l 1
    have e0 : marked 1 l = marked 1 (l.take i) ++ ⟨mt (1 + 3 * i), mt (1 + 3 * i + 1), ((1 + 3 * i + 2 : Nat) : Int)⟩ :: marked (1 + 3 * i + 3) (l.drop (i + 1)) := by
      have : l = l.take i ++ l[i] :: l.drop (i + 1) := by rw [← drop_at l i hlt, List.take_append_drop]
      conv => lhs; rw [this, marked_append, List.length_take, Nat.min_eq_left (by omega)]
      rfl
    have e1 : wrap64 (((1 + 3 * i : Nat) : Int) + 1) = ((1 + 3 * i + 1 : Nat) : Int) := by rw [wrap_ok] <;> omega
    have e2 : wrap64 (((1 + 3 * i + 1 : Nat) : Int) + 1) = ((1 + 3 * i + 2 : Nat) : Int) := by rw [wrap_ok] <;> omega
    have e3 : wrap64 (((1 + 3 * i + 2 : Nat) : Int) + 1) = ((1 + 3 * (i + 1) : Nat) : Int) := by rw [wrap_ok] <;> omega
    have e4 : wrap64 ((i : Int) + 1) = ((i + 1 : Nat) : Int) := wrap_succ (by omega)
    have er : rd_T52 (marked 1 l) (i : Int) = ⟨mt (1 + 3 * i), mt (1 + 3 * i + 1), ((1 + 3 * i + 2 : Nat) : Int)⟩ := by rw [e0]; exact rd_here _ _ _ i hm
    have h2 := ih (i + 1) (by omega)
    refine Ev.step (f := fun j => ((laws_markText.f j ((1 + 3 * i : Nat) : Int)).bind fun t241 => (if (mt (1 + 3 * i)).toList = t241.toList then ((laws_markText.f j ((1 + 3 * i + 1 : Nat) : Int)).bind fun t243 => (if (mt (1 + 3 * i + 1)).toList = t243.toList then (laws_heldFileS.l0 j (marked 1 l) ((1 + 3 * (i + 1) : Nat) : Int) ((i + 1 : Nat) : Int)) else (some (-1)))) else (some (-1))))) (fun j => ?_) (Ev.bind (mt_eq _ (by omega)) (Ev.congr (fun j => if_pos rfl) (Ev.bind (mt_eq _ (by omega)) (Ev.congr (fun j => if_pos rfl) h2))))
    rw [laws_heldFileS.l0, if_pos (by rw [hlen]; omega)]
    have e6 : ((0 : Int) ≤ (i : Int)) = True := eq_true (by omega)
    simp only [e1, e2, e3, e4, er, e6, if_true]
theorem heldFS_eq (l : List S52) (q f : Int) (hl : l.length ≤ 1048577) : Ev (fun j => laws_heldFS.f j (marked 1 l) q f 1) ((1 + 3 * l.length : Nat) : Int) := by
  refine Ev.bind (a := ((1 + 3 * l.length : Nat) : Int)) ?_ (Ev.pure (fun k => if_neg (by omega)))
  have := heldFileS_loop l hl l.length 0 (by omega)
  exact this
end Go.Proofs.Ytbppijlcmeidaaa.M
end
section
/- The program's FsCrash answers as the specification's at every directory and every row of numbers and leaves what came in as it was: no condition beyond the law's own bounds of 2 to the 20. -/
namespace Go.Proofs.Ytbppijlcmeidaaa.Pure
open Go.RowKit Go.Proofs.Ytbppijlcmeidaaa.P Go.Proofs.YtbppijlcmeidaaaW.PrintWords Go.Proofs.YtbppijlcmeidaaaW.PrintLast Go.Proofs.Ytbppijlcmeidaaa.M
set_option linter.unusedVariables false
theorem Ev.shift {α : Type} {g : Nat → Option α} {r : α} (h : Ev (fun k => g (k + 1)) r) : Ev g r := Ev.step (fun _ => rfl) h
theorem FnExactFsCrash (l : List S80) (q f : Int) (keep : List Int) (ok : Ok24 (l, q, f)) (_ : Ok36 keep) : ∃ k, laws_FnExactFsCrash.f k l q f keep = some true := by
  refine Ev.rounds (r := true) ?_
  by_cases cs : (keep.length : Int) > 1048576
  · exact M.Ev.pure (fun k => if_pos cs)
  refine Ev.congr (fun k => if_neg cs) (Ev.bind (szFS_eq l q f ok.1) ?_)
  by_cases c : weight l ≤ 1048576
  rotate_left
  · rw [if_neg c]
    exact M.Ev.pure (fun k => if_pos (by omega))
  obtain ⟨hl0, ht, hn⟩ := weight_says l c
  have hto := toFS_eq l q f hl0
  have hk : keep.length ≤ 1048576 := by omega
  have hti := toIntS_eq keep hk
  have hei := eqIntS_self keep hk
  rw [if_pos c]
  refine Ev.congr (fun k => if_neg (by omega)) ?_
  have hl : (l.map conv).length ≤ 1048576 := by simpa using hl0
  generalize l.map conv = l' at hto ht hn hl
  have hsp := specCrash_eq l' q f keep ht hl (fun x hx => (hn x hx).1)
  have him : ∀ k : Nat, impl_FsCrash.f l' q f keep = some (crashRes l' q f keep) := fun _ => by
    unfold impl_FsCrash.f
    exact if_pos (fun _ => Nat.le_trans ht (by omega))
  have hr : (crashRes l' q f keep).1.length ≤ 1048576 := crashRes_length l' q f keep hl
  generalize crashRes l' q f keep = r at hsp him hr
  have he := eqFS_self r.1 r.2.1 r.2.2 hr
  have he' := eqFS_self l' q f hl
  have hm := markFS_eq r.1 r.2.1 r.2.2 (by omega)
  have hm' := markFS_eq l' q f (by omega)
  have hh := heldFS_eq r.1 r.2.1 r.2.2 (by omega)
  obtain ⟨mk, hmi⟩ := markIntS_eq keep (1 + 3 * l'.length) hk (by omega)
  refine Ev.bind hto (Ev.bind hti (Ev.bind hsp (Ev.bind hto (Ev.bind hti (Ev.bind (M.Ev.pure him) (Ev.bind he (Ev.congr (fun k => if_pos rfl) ?_)))))))
  refine Ev.bind hto (Ev.bind he' (Ev.congr (fun k => if_pos rfl) (Ev.bind hti (Ev.bind hei (Ev.congr (fun k => if_pos rfl) (Ev.bind hm' (Ev.bind hmi (Ev.congr (fun k => if_neg (by omega)) (Ev.bind he ?_)))))))))
  refine Pure.Ev.shift ?_
  simp only [laws_FnExactFsCrash.j0]
  refine Ev.congr (fun k => if_neg (by simp)) (Ev.bind hm (Ev.bind hh (Ev.congr (fun k => if_neg (by omega)) (Ev.congr (fun k => if_pos rfl) (Ev.bind hto (Ev.bind hti (Ev.bind (M.Ev.pure him) (Ev.bind he (Ev.congr (fun k => if_pos rfl) (M.Ev.pure (fun k => rfl)))))))))))
end Go.Proofs.Ytbppijlcmeidaaa.Pure
end
section
/- The law FnExactFsCrash answers true at every argument that its row lets in. No condition beyond the row's own. -/
namespace Go.Proofs.Ytbppijlcmeidaaa.fnExactFsCrash
open Go.ChangeShapes Go.WideShapes Go.ChangeAt Go.RowKit Go.Proofs.Ytbppijlcmeidaaa.P Go.Proofs.Ytbppijlcmeidaaa.M
open Go.ChangeMaps (open_string shut_string)
set_option linter.unusedVariables false
theorem own : ownKnob Try.prog.godebug = none := by kernel_rfl
theorem laidOut : laidOutB Try.prog = true := by kernel_rfl
set_option maxRecDepth 100000 in
theorem lifted (os : Os) (started : os.Started) (H : Type) (enc : TypeId × Value → H) :
    ReturnsInHanded {} Try.checked os 5 .any (Rows.fnExactFsCrashSpec.pre6 enc Try.prog Try.f5 Rows.fnExactFsCrashRow.domain false) (Rows.fnExactFsCrashSpec.post enc Try.prog Try.f5 false true false false) := by
  refine returnsInHanded_of_change_sized (C := Try.checked) own started (by kernel_rfl) Try.func5
    (ChangeSpec.witness6 (enc := enc) (C := Try.checked) false ⟨#[], #[.agg #[.slice none 0 0, .int .i64 0, .int .i64 0], .slice none 0 0], []⟩ 8 (by kernel_rfl) (by kernel_rfl) (by kernel_rfl) (by kernel_rfl)) ?_
  intro W base args ds gs before hval0 hW hcnd hsz0 _
  have hsz : (DataW.weightsEach Try.prog (Try.f5.params.toList ++ Rows.fnExactFsCrashSpec.plain.varTypes Try.prog) (ds ++ gs)).all (· ≤ reachBytes) = true := hsz0
  have hval : ∀ (j : Nat) t v, Try.f5.params[j]? = some t → args[j]? = some v → Value.okWide Try.prog W .any base t v := hval0
  have hW' := hW
  obtain ⟨p, q, hA0, hV, rfl, hfz, hnd⟩ := hW
  have hA : DataW.TrodAll enc Try.prog W 0 (fun _ => true) true Try.f5.params.toList args.toList ds p := hA0
  rw [Try.params5] at hA hval hsz
  obtain ⟨v0, vs0, d0, ds0, p0, q0, hargs, rfl, rfl, h0, r0⟩ := trodAll_cons hA
  obtain ⟨v1, vs1, d1, ds1, p1, q1, rfl, rfl, rfl, h1, r1⟩ := trodAll_cons r0
  obtain ⟨rfl, rfl, rfl⟩ := trodAll_nil r1
  obtain rfl : args = #[v0, v1] := by cases args; simp_all
  obtain ⟨rfl, rfl⟩ := trodVars_none hV
  have k0 := h0
  have lt0 : ∀ x ∈ p0, x.block < W.heap.size := by obtain ⟨m, hm⟩ := k0; exact DataW.trod_lt m _ _ _ hm
  obtain ⟨cs0, rfl, _⟩ := okWide_struct Try.underlying24 (hval 0 24 v0 rfl rfl)
  obtain ⟨⟨l0_0, a0_1, a0_2⟩, K0, ok0⟩ := open_arg o24 hsz (j := 0) rfl rfl h0
  obtain ⟨_, _, e0, ⟨A0_0, c0_0, rfl, hc0_0, hr0_0⟩, ⟨_, _, rfl, rfl, rfl⟩⟩ := K0
  obtain rfl : cs0 = #[.slice A0_0 l0_0.length c0_0, .int .i64 a0_1, .int .i64 a0_2] := by apply Array.ext'; simpa [Value.cells] using e0
  have k1 := h1
  have lt1 : ∀ x ∈ p1, x.block < W.heap.size := by obtain ⟨m, hm⟩ := k1; exact DataW.trod_lt m _ _ _ hm
  obtain ⟨B1, len1, cap1, rfl⟩ := okWide_slice Try.underlying36 (hval 1 36 v1 rfl rfl)
  obtain ⟨l1, ⟨A1, c1, e1, hc1, hr1⟩, ok1⟩ := open_arg o36 hsz (j := 1) rfl rfl h1
  have e1' : B1 = A1 ∧ len1 = l1.length ∧ cap1 = c1 := by simpa [Value.cells] using e1
  obtain ⟨rfl, rfl, rfl⟩ := e1'
  clear hA0 hval0 hsz0 hsz
  obtain ⟨k, hp⟩ := Pure.FnExactFsCrash l0_0 a0_1 a0_2 l1 ok0 ok1
  refine (laws_FnExactFsCrash.calls k A0_0 c0_0 l0_0 a0_1 a0_2 B1 cap1 l1 W hr0_0 hc0_0 hr1 hc1 hp).mono fun e W' ⟨he, bel⟩ => ?_
  subst he
  exact ⟨_, rfl, _, _, _, [], _, [], hW', trodAll_mk1 (shut_bool Try.underlying4 _), (trodAll_cons_mk (Below.trod laidOut (by kernel_rfl) (of_decide_eq_true (by kernel_rfl)) k0 bel lt0) (trodAll_cons_mk (Below.trod laidOut (by kernel_rfl) (of_decide_eq_true (by kernel_rfl)) k1 bel lt1) trodAll_mk0)), rfl, bel.frame _, fun h => by cases h⟩
theorem over : Rows.fnExactFsCrashRow.holds Try.pinned (OpenSpec.ofChange Rows.fnExactFsCrashSpec) :=
  OpenClaim.holds_of_wide 5 Try.f5 rfl rfl rfl rfl rfl rfl rfl ⟨rfl, rfl, rfl, rfl, rfl⟩ rfl rfl rfl rfl rfl (by kernel_rfl) Try.func5 (by kernel_rfl)
    (of_decide_eq_true (by kernel_rfl)) (by unfold Func.isWrapper; first | (rw [if_pos (by decide +kernel)]; kernel_rfl) | (rw [if_neg (by decide +kernel)]; exact ⟨rfl, rfl⟩))
    (fun os started H enc _ => lifted os started H enc)
theorem proved : Rows.FnExactFsCrashSaid := over
#print axioms proved
end Go.Proofs.Ytbppijlcmeidaaa.fnExactFsCrash
namespace Go.Proofs.Ytbppijlcmeidaaa
/-- The row, under a short name, for the claim. -/
theorem fnExactFsCrash_holds : Rows.FnExactFsCrashSaid := fnExactFsCrash.proved
end Go.Proofs.Ytbppijlcmeidaaa
end

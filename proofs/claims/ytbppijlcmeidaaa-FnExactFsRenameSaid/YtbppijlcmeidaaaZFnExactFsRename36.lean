/- Texts of the claim FnExactFsRename, part 36 of 36, joined: Pspecl1Data, PspecFsFind, MAt, MPut, MSpecStep, MSpecRename, MMark, PureFnExactFsRename, RowFnExactFsRename. No condition beyond those that stand at each. -/
import Derived.Test.YtbppijlcmeidaaaZFnExactFsRename25
import Derived.Test.YtbppijlcmeidaaaZFnExactFsRename30
import Derived.Test.YtbppijlcmeidaaaZFnExactFsRename27
import Derived.Test.YtbppijlcmeidaaaZFnExactFsRename28
import Derived.Test.YtbppijlcmeidaaaZFnExactFsRename29
import Derived.Test.YtbppijlcmeidaaaZFnExactFsRename33
import Derived.Test.YtbppijlcmeidaaaZFnExactFsRename32
import Derived.Test.YtbppijlcmeidaaaZFnExactFsRename34
import Derived.Test.YtbppijlcmeidaaaZFnExactFsRename35
import Derived.Test.YtbppijlcmeidaaaRows
import Derived.WalkKit
import Derived.ProofKit
import Derived.OpenShut
import Derived.ShutString
import Derived.ChangeOld
import Derived.Below
import Derived.SizedLaws
section
-- Written by a changed copy of the print program, one module a function. Not trusted: Lean checks it.
namespace Go.Proofs.Ytbppijlcmeidaaa.P
open Go.RowKit Go.Proofs.YtbppijlcmeidaaaW.PrintWords Go.Proofs.YtbppijlcmeidaaaW.PrintLast Go.Proofs.YtbppijlcmeidaaaW.PrintMore
attribute [local go_sem] max2_int min2_int max_two min_two max_three min_three max_four min_four   -- for this text's walks alone
set_option linter.unusedVariables false
set_option linter.unusedSimpArgs false

/-! ### spec_l1Data: function 47 -/
def spec_l1Data.f (k : Nat) (l0_0 : List (S52)) (a0_1 : Int) (a0_2 : Int) (a1 : ByteArray) : Option (ByteArray × Bool) := (spec_l1At.f k l0_0 a0_1 a0_2 a1).bind fun t167 => (if t167 < 0 then (some ((⟨#[]⟩ : ByteArray), false)) else (if 0 ≤ t167 then (if t167 < (l0_0.length : Int) then (some ((rd_T52 l0_0 t167).f1, true)) else (none)) else (none)))
theorem spec_l1Data.mono : ∀ a0 a1 a2 a3 k, LeO (spec_l1Data.f k a0 a1 a2 a3) (spec_l1Data.f (k + 1) a0 a1 a2 a3) := by
 intro a0 a1 a2 a3 k
 unfold spec_l1Data.f
 repeat' first
   | (with_reducible exact spec_l1At.mono _ _ _ _ _)
   | (with_reducible exact LeO.refl _)
   | (with_reducible exact LeO.none _)
   | (with_reducible refine LeO.ite ?_ ?_)
   | (with_reducible refine LeO.bind ?_ (fun _ => ?_))
   | exact spec_l1At.mono _ _ _ _ _
   | exact LeO.none _
   | refine LeO.ite ?_ ?_
   | refine LeO.bind ?_ (fun _ => ?_)
set_option maxHeartbeats 8000000 in
set_option maxRecDepth 100000 in
theorem spec_l1Data.calls (k : Nat) (A0_0 : Option Addr) (c0_0 : Nat) (l0_0 : List (S52)) (a0_1 : Int) (a0_2 : Int) (a1 : ByteArray) (r1 : ByteArray) (r2 : Bool) (w : World) (hr0_0 : Kd.C k52 w A0_0 l0_0.length l0_0) (hc0_0 : l0_0.length ≤ c0_0) (h : spec_l1Data.f k l0_0 a0_1 a0_2 a1 = some (r1, r2)) :
  Calls Try.prog 47 #[.agg #[.slice A0_0 l0_0.length c0_0, .int .i64 a0_1, .int .i64 a0_2], .string a1] w fun e w' => e = .returned (.tuple #[.string r1, .bool r2]) ∧ Below w.heap.size w w' := by
 have hu29 := Try.underlying29
 have HR0_0 := Aside0.mk hr0_0
 have HC0_0 := Aside0.mk hc0_0
 clear hr0_0 hc0_0
 have HB := Aside0.mk (Below.refl w.heap.size w)
 have H : ((spec_l1At.f k l0_0 a0_1 a0_2 a1).bind fun t167 => (if t167 < 0 then (some ((⟨#[]⟩ : ByteArray), false)) else (if 0 ≤ t167 then (if t167 < (l0_0.length : Int) then (some ((rd_T52 l0_0 t167).f1, true)) else (none)) else (none)))) = some (r1, r2) := h
 clear h
 replace H := Option.bind_eq_some_iff.mp H
 obtain ⟨t167, A30, H⟩ := H
 replace H : (if t167 < 0 then (some ((⟨#[]⟩ : ByteArray), false)) else (if 0 ≤ t167 then (if t167 < (l0_0.length : Int) then (some ((rd_T52 l0_0 t167).f1, true)) else (none)) else (none))) = some (r1, r2) := H
 have A3 := Aside0.mk A30
 clear A30
 by_cases c4 : t167 < 0
 ·rw [if_pos c4] at H
  have c4b0 : decide (t167 < 0) = true := decide_eq_true c4
  clear c4
  simp only [Option.some.injEq, Prod.mk.injEq] at H
  obtain ⟨rfl, rfl⟩ := H
  go_enter Try.func47, Try.ntmps47
  go_wp2_with (first | ((with_reducible refine gate_dst (N := 2) rfl ?_); refine box_event ?hg (N := 2) ?hd (cs := #[.slice A0_0 l0_0.length c0_0, .int .i64 a0_1, .int .i64 a0_2]) (t := 29) ?hr ?_; (case hd => rfl); (case hg => rfl); (case hr => first | (go_simp; done) | (go_simp; rfl)); intro gb166 hg w5 hbox hb; have n0_ := Aside0.mk (below_step (by repeat (first | (with_reducible first | exact HB.out | apply below_alloc | apply pw_below_drewN | apply below_drew1) | exact HB.out)) hb); have n1_ := Aside0.mk (hbox); have n2_ := Aside0.mk ((by rw [hg]; exact (below_size (by repeat (first | (with_reducible first | exact HB.out | apply below_alloc | apply pw_below_drewN | apply below_drew1) | exact HB.out))) : w.heap.size ≤ gb166)); have n3_ := Aside0.mk ((by rw [hg]; exact (below_size (by repeat (first | (with_reducible first | exact HB.out | apply below_alloc | apply pw_below_drewN | apply below_drew1) | exact HB.out))) : w.heap.size ≤ gb166)); clear HB; have HB := n0_; have BK166 := n1_; have GW166 := n2_; have GE166 := n3_; clear n0_ n1_ n2_ n3_; clear hb hbox hg; have hcz6_0 : w5.cell? ⟨gb166, 0, none⟩ = some (.slice A0_0 l0_0.length c0_0) := (blk_cell BK166.out 0).trans rfl; have hcz6_1 : w5.cell? ⟨gb166, 1, none⟩ = some (.int .i64 a0_1) := (blk_cell BK166.out 1).trans rfl; have hcz6_2 : w5.cell? ⟨gb166, 2, none⟩ = some (.int .i64 a0_2) := (blk_cell BK166.out 2).trans rfl; have hfz6_0 := blk_frozen BK166.out 0; have hfz6_1 := blk_frozen BK166.out 1; have hfz6_2 := blk_frozen BK166.out 2) | ((with_reducible refine gate_callee (f := 53) rfl ?_); refine goesL_ (some 9) rfl rfl Try.func53 (by kernel_rfl) rfl #[.agg #[.slice A0_0 l0_0.length c0_0, .int .i64 a0_1, .int .i64 a0_2], .string a1] rfl (by (try simp only [List.map_toArray, List.map_cons, List.map_nil]); first | done | rfl | (simp only [List.length_drop, List.length_take]; rfl)) ?_; (with_reducible refine (spec_l1At.calls k _ _ l0_0 a0_1 a0_2 a1 t167 _ ?side1 ?side2 A3.out).mono ?_); (case side1 => repeat (first | exact (Kd.C_below HR0_0.out HB.out) | (with_reducible refine Kd.C_alloc ?_ _) | (with_reducible refine Kd.C_drewN ?_ _) | (with_reducible refine Kd.C_drew ?_))); (case side2 => exact HC0_0.out); rintro e w7 ⟨rfl, hb⟩; refine ⟨_, rfl, ?_⟩; have n0_ := Aside0.mk (blk_below (g := gb166) (o := .cells #[.slice A0_0 l0_0.length c0_0, .int .i64 a0_1, .int .i64 a0_2] 29 (0, 0)) (by (with_reducible repeat (first | refine blk_drewN ?_ _ | refine blk_drew ?_ | refine blk_alloc ?_ _)); exact BK166.out) hb); have n1_ := Aside0.mk (below_step (by repeat (first | (with_reducible first | exact HB.out | apply below_alloc | apply pw_below_drewN | apply below_drew1 | refine below_set ?_ GE166.out) | exact HB.out)) hb); clear BK166; clear HB; have BK166 := n0_; have HB := n1_; clear n0_ n1_; (try clear hb); (try clear hb2); (try clear hk); (try clear hi)))
  go_ret2
  exact ⟨by first | rfl | (simp [errW_none, errW_some] <;> rfl) | (simp [*, errW_none, errW_some] <;> rfl), by repeat (first | (with_reducible first | exact HB.out | apply below_alloc | apply pw_below_drewN | apply below_drew1 | refine below_set ?_ GE166.out) | exact HB.out)⟩
 ·rw [if_neg c4] at H
  have c4b0 : decide (t167 < 0) = false := decide_eq_false c4
  clear c4
  by_cases c8 : 0 ≤ t167
  ·rw [if_pos c8] at H
   have c8b0 : decide (0 ≤ t167) = true := decide_eq_true c8
   clear c8
   by_cases c9 : t167 < (l0_0.length : Int)
   ·rw [if_pos c9] at H
    have c9b0 : decide (t167 < (l0_0.length : Int)) = true := decide_eq_true c9
    clear c9
    simp only [Option.some.injEq, Prod.mk.injEq] at H
    obtain ⟨rfl, rfl⟩ := H
    go_enter Try.func47, Try.ntmps47
    go_wp2_with (first | ((with_reducible refine gate_dst (N := 2) rfl ?_); refine box_event ?hg (N := 2) ?hd (cs := #[.slice A0_0 l0_0.length c0_0, .int .i64 a0_1, .int .i64 a0_2]) (t := 29) ?hr ?_; (case hd => rfl); (case hg => rfl); (case hr => first | (go_simp; done) | (go_simp; rfl)); intro gb166 hg w10 hbox hb; have n0_ := Aside0.mk (below_step (by repeat (first | (with_reducible first | exact HB.out | apply below_alloc | apply pw_below_drewN | apply below_drew1) | exact HB.out)) hb); have n1_ := Aside0.mk (hbox); have n2_ := Aside0.mk ((by rw [hg]; exact (below_size (by repeat (first | (with_reducible first | exact HB.out | apply below_alloc | apply pw_below_drewN | apply below_drew1) | exact HB.out))) : w.heap.size ≤ gb166)); have n3_ := Aside0.mk ((by rw [hg]; exact (below_size (by repeat (first | (with_reducible first | exact HB.out | apply below_alloc | apply pw_below_drewN | apply below_drew1) | exact HB.out))) : w.heap.size ≤ gb166)); clear HB; have HB := n0_; have BK166 := n1_; have GW166 := n2_; have GE166 := n3_; clear n0_ n1_ n2_ n3_; clear hb hbox hg; have hcz11_0 : w10.cell? ⟨gb166, 0, none⟩ = some (.slice A0_0 l0_0.length c0_0) := (blk_cell BK166.out 0).trans rfl; have hcz11_1 : w10.cell? ⟨gb166, 1, none⟩ = some (.int .i64 a0_1) := (blk_cell BK166.out 1).trans rfl; have hcz11_2 : w10.cell? ⟨gb166, 2, none⟩ = some (.int .i64 a0_2) := (blk_cell BK166.out 2).trans rfl; have hfz11_0 := blk_frozen BK166.out 0; have hfz11_1 := blk_frozen BK166.out 1; have hfz11_2 := blk_frozen BK166.out 2) | ((with_reducible refine gate_callee (f := 53) rfl ?_); refine goesL_ (some 9) rfl rfl Try.func53 (by kernel_rfl) rfl #[.agg #[.slice A0_0 l0_0.length c0_0, .int .i64 a0_1, .int .i64 a0_2], .string a1] rfl (by (try simp only [List.map_toArray, List.map_cons, List.map_nil]); first | done | rfl | (simp only [List.length_drop, List.length_take]; rfl)) ?_; (with_reducible refine (spec_l1At.calls k _ _ l0_0 a0_1 a0_2 a1 t167 _ ?side1 ?side2 A3.out).mono ?_); (case side1 => repeat (first | exact (Kd.C_below HR0_0.out HB.out) | (with_reducible refine Kd.C_alloc ?_ _) | (with_reducible refine Kd.C_drewN ?_ _) | (with_reducible refine Kd.C_drew ?_))); (case side2 => exact HC0_0.out); rintro e w12 ⟨rfl, hb⟩; refine ⟨_, rfl, ?_⟩; have n0_ := Aside0.mk (blk_below (g := gb166) (o := .cells #[.slice A0_0 l0_0.length c0_0, .int .i64 a0_1, .int .i64 a0_2] 29 (0, 0)) (by (with_reducible repeat (first | refine blk_drewN ?_ _ | refine blk_drew ?_ | refine blk_alloc ?_ _)); exact BK166.out) hb); have n1_ := Aside0.mk (below_step (by repeat (first | (with_reducible first | exact HB.out | apply below_alloc | apply pw_below_drewN | apply below_drew1 | refine below_set ?_ GE166.out) | exact HB.out)) hb); clear BK166; clear HB; have BK166 := n0_; have HB := n1_; clear n0_ n1_; (try clear hb); (try clear hb2); (try clear hk); (try clear hi); have hcz13_0 : w12.cell? ⟨gb166, 0, none⟩ = some (.slice A0_0 l0_0.length c0_0) := (blk_cell BK166.out 0).trans rfl; have hcz13_1 : w12.cell? ⟨gb166, 1, none⟩ = some (.int .i64 a0_1) := (blk_cell BK166.out 1).trans rfl; have hcz13_2 : w12.cell? ⟨gb166, 2, none⟩ = some (.int .i64 a0_2) := (blk_cell BK166.out 2).trans rfl; have hfz13_0 := blk_frozen BK166.out 0; have hfz13_1 := blk_frozen BK166.out 1; have hfz13_2 := blk_frozen BK166.out 2; have p168 : 0 ≤ (t167 : Int) := of_decide_eq_true (by first | (with_reducible assumption) | assumption); have q168 : t167 < (l0_0.length : Int) := of_decide_eq_true (by first | (with_reducible assumption) | assumption); obtain ⟨ad168, e168, hx168_0, hx168_1, hx168_2⟩ := at_T52 HR0_0.out t167 p168 q168; cases e168; replace hx168_0 := (HB.out.cell (World.block_lt_of_cell? w _ hx168_0)).trans hx168_0; replace hx168_1 := (HB.out.cell (World.block_lt_of_cell? w _ hx168_1)).trans hx168_1; replace hx168_2 := (HB.out.cell (World.block_lt_of_cell? w _ hx168_2)).trans hx168_2; replace p168 := eq_true p168; replace q168 := eq_true q168))
    go_ret2
    exact ⟨by first | rfl | (simp [errW_none, errW_some] <;> rfl) | (simp [*, errW_none, errW_some] <;> rfl), by repeat (first | (with_reducible first | exact HB.out | apply below_alloc | apply pw_below_drewN | apply below_drew1 | refine below_set ?_ GE166.out) | exact HB.out)⟩
   ·rw [if_neg c9] at H
    exact absurd H (by simp)
  ·rw [if_neg c8] at H
   exact absurd H (by simp)

end Go.Proofs.Ytbppijlcmeidaaa.P
end
section
-- Written by a changed copy of the print program, one module a function. Not trusted: Lean checks it.
namespace Go.Proofs.Ytbppijlcmeidaaa.P
open Go.RowKit Go.Proofs.YtbppijlcmeidaaaW.PrintWords Go.Proofs.YtbppijlcmeidaaaW.PrintLast Go.Proofs.YtbppijlcmeidaaaW.PrintMore
attribute [local go_sem] max2_int min2_int max_two min_two max_three min_three max_four min_four   -- for this text's walks alone
set_option linter.unusedVariables false
set_option linter.unusedSimpArgs false

/-! ### spec_FsFind: function 17 -/
def spec_FsFind.f (k : Nat) (l0_0 : List (S52)) (a0_1 : Int) (a0_2 : Int) (a1 : ByteArray) : Option (ByteArray × Bool) := (spec_ValidFS.f k l0_0 a0_1 a0_2).bind fun t170 => (if t170 = true then ((spec_l1Data.f k l0_0 a0_1 a0_2 a1).bind fun bt171 => (some (bt171.1, bt171.2))) else (some ((⟨#[]⟩ : ByteArray), false)))
theorem spec_FsFind.mono : ∀ a0 a1 a2 a3 k, LeO (spec_FsFind.f k a0 a1 a2 a3) (spec_FsFind.f (k + 1) a0 a1 a2 a3) := by
 intro a0 a1 a2 a3 k
 unfold spec_FsFind.f
 repeat' first
   | (with_reducible exact spec_ValidFS.mono _ _ _ _)
   | (with_reducible exact spec_l1Data.mono _ _ _ _ _)
   | (with_reducible exact LeO.refl _)
   | (with_reducible exact LeO.none _)
   | (with_reducible refine LeO.ite ?_ ?_)
   | (with_reducible refine LeO.bind ?_ (fun _ => ?_))
   | exact spec_ValidFS.mono _ _ _ _
   | exact spec_l1Data.mono _ _ _ _ _
   | exact LeO.none _
   | refine LeO.ite ?_ ?_
   | refine LeO.bind ?_ (fun _ => ?_)
set_option maxHeartbeats 8000000 in
set_option maxRecDepth 100000 in
theorem spec_FsFind.calls (k : Nat) (A0_0 : Option Addr) (c0_0 : Nat) (l0_0 : List (S52)) (a0_1 : Int) (a0_2 : Int) (a1 : ByteArray) (r1 : ByteArray) (r2 : Bool) (w : World) (hr0_0 : Kd.C k52 w A0_0 l0_0.length l0_0) (hc0_0 : l0_0.length ≤ c0_0) (h : spec_FsFind.f k l0_0 a0_1 a0_2 a1 = some (r1, r2)) :
  Calls Try.prog 17 #[.agg #[.slice A0_0 l0_0.length c0_0, .int .i64 a0_1, .int .i64 a0_2], .string a1] w fun e w' => e = .returned (.tuple #[.string r1, .bool r2]) ∧ Below w.heap.size w w' := by
 have hu29 := Try.underlying29
 have HR0_0 := Aside0.mk hr0_0
 have HC0_0 := Aside0.mk hc0_0
 clear hr0_0 hc0_0
 have HB := Aside0.mk (Below.refl w.heap.size w)
 have H : ((spec_ValidFS.f k l0_0 a0_1 a0_2).bind fun t170 => (if t170 = true then ((spec_l1Data.f k l0_0 a0_1 a0_2 a1).bind fun bt171 => (some (bt171.1, bt171.2))) else (some ((⟨#[]⟩ : ByteArray), false)))) = some (r1, r2) := h
 clear h
 replace H := Option.bind_eq_some_iff.mp H
 obtain ⟨t170, A30, H⟩ := H
 replace H : (if t170 = true then ((spec_l1Data.f k l0_0 a0_1 a0_2 a1).bind fun bt171 => (some (bt171.1, bt171.2))) else (some ((⟨#[]⟩ : ByteArray), false))) = some (r1, r2) := H
 have A3 := Aside0.mk A30
 clear A30
 by_cases c4 : t170 = true
 ·subst c4
  have H1 : ((spec_l1Data.f k l0_0 a0_1 a0_2 a1).bind fun bt171 => (some (bt171.1, bt171.2))) = some (r1, r2) := by rw [if_pos rfl] at H; exact H
  clear H
  have H := H1
  clear H1
  replace H := Option.bind_eq_some_iff.mp H
  obtain ⟨⟨t171, t172⟩, A50, H⟩ := H
  replace H : (some (t171, t172)) = some (r1, r2) := H
  have A5 := Aside0.mk A50
  clear A50
  simp only [Option.some.injEq, Prod.mk.injEq] at H
  obtain ⟨rfl, rfl⟩ := H
  go_enter Try.func17, Try.ntmps17
  go_wp2_with (first | ((with_reducible refine gate_dst (N := 2) rfl ?_); refine box_event ?hg (N := 2) ?hd (cs := #[.slice A0_0 l0_0.length c0_0, .int .i64 a0_1, .int .i64 a0_2]) (t := 29) ?hr ?_; (case hd => rfl); (case hg => rfl); (case hr => first | (go_simp; done) | (go_simp; rfl)); intro gb169 hg w6 hbox hb; have n0_ := Aside0.mk (below_step (by repeat (first | (with_reducible first | exact HB.out | apply below_alloc | apply pw_below_drewN | apply below_drew1) | exact HB.out)) hb); have n1_ := Aside0.mk (hbox); have n2_ := Aside0.mk ((by rw [hg]; exact (below_size (by repeat (first | (with_reducible first | exact HB.out | apply below_alloc | apply pw_below_drewN | apply below_drew1) | exact HB.out))) : w.heap.size ≤ gb169)); have n3_ := Aside0.mk ((by rw [hg]; exact (below_size (by repeat (first | (with_reducible first | exact HB.out | apply below_alloc | apply pw_below_drewN | apply below_drew1) | exact HB.out))) : w.heap.size ≤ gb169)); clear HB; have HB := n0_; have BK169 := n1_; have GW169 := n2_; have GE169 := n3_; clear n0_ n1_ n2_ n3_; clear hb hbox hg; have hcz7_0 : w6.cell? ⟨gb169, 0, none⟩ = some (.slice A0_0 l0_0.length c0_0) := (blk_cell BK169.out 0).trans rfl; have hcz7_1 : w6.cell? ⟨gb169, 1, none⟩ = some (.int .i64 a0_1) := (blk_cell BK169.out 1).trans rfl; have hcz7_2 : w6.cell? ⟨gb169, 2, none⟩ = some (.int .i64 a0_2) := (blk_cell BK169.out 2).trans rfl; have hfz7_0 := blk_frozen BK169.out 0; have hfz7_1 := blk_frozen BK169.out 1; have hfz7_2 := blk_frozen BK169.out 2) | ((with_reducible refine gate_callee (f := 13) rfl ?_); refine goesL_ (some 7) rfl rfl Try.func13 (by kernel_rfl) rfl #[.agg #[.slice A0_0 l0_0.length c0_0, .int .i64 a0_1, .int .i64 a0_2]] rfl (by (try simp only [List.map_toArray, List.map_cons, List.map_nil]); first | done | rfl | (simp only [List.length_drop, List.length_take]; rfl)) ?_; (with_reducible refine (spec_ValidFS.calls k _ _ l0_0 a0_1 a0_2 true _ ?side1 ?side2 A3.out).mono ?_); (case side1 => repeat (first | exact (Kd.C_below HR0_0.out HB.out) | (with_reducible refine Kd.C_alloc ?_ _) | (with_reducible refine Kd.C_drewN ?_ _) | (with_reducible refine Kd.C_drew ?_))); (case side2 => exact HC0_0.out); rintro e w8 ⟨rfl, hb⟩; refine ⟨_, rfl, ?_⟩; have n0_ := Aside0.mk (blk_below (g := gb169) (o := .cells #[.slice A0_0 l0_0.length c0_0, .int .i64 a0_1, .int .i64 a0_2] 29 (0, 0)) (by (with_reducible repeat (first | refine blk_drewN ?_ _ | refine blk_drew ?_ | refine blk_alloc ?_ _)); exact BK169.out) hb); have n1_ := Aside0.mk (below_step (by repeat (first | (with_reducible first | exact HB.out | apply below_alloc | apply pw_below_drewN | apply below_drew1 | refine below_set ?_ GE169.out) | exact HB.out)) hb); clear BK169; clear HB; have BK169 := n0_; have HB := n1_; clear n0_ n1_; (try clear hb); (try clear hb2); (try clear hk); (try clear hi); have hcz9_0 : w8.cell? ⟨gb169, 0, none⟩ = some (.slice A0_0 l0_0.length c0_0) := (blk_cell BK169.out 0).trans rfl; have hcz9_1 : w8.cell? ⟨gb169, 1, none⟩ = some (.int .i64 a0_1) := (blk_cell BK169.out 1).trans rfl; have hcz9_2 : w8.cell? ⟨gb169, 2, none⟩ = some (.int .i64 a0_2) := (blk_cell BK169.out 2).trans rfl; have hfz9_0 := blk_frozen BK169.out 0; have hfz9_1 := blk_frozen BK169.out 1; have hfz9_2 := blk_frozen BK169.out 2) | ((with_reducible refine gate_callee (f := 47) rfl ?_); refine goesL_ (some 11) rfl rfl Try.func47 (by kernel_rfl) rfl #[.agg #[.slice A0_0 l0_0.length c0_0, .int .i64 a0_1, .int .i64 a0_2], .string a1] rfl (by (try simp only [List.map_toArray, List.map_cons, List.map_nil]); first | done | rfl | (simp only [List.length_drop, List.length_take]; rfl)) ?_; (with_reducible refine (spec_l1Data.calls k _ _ l0_0 a0_1 a0_2 a1 t171 t172 _ ?side1 ?side2 A5.out).mono ?_); (case side1 => repeat (first | exact (Kd.C_below HR0_0.out HB.out) | (with_reducible refine Kd.C_alloc ?_ _) | (with_reducible refine Kd.C_drewN ?_ _) | (with_reducible refine Kd.C_drew ?_))); (case side2 => exact HC0_0.out); rintro e w10 ⟨rfl, hb⟩; refine ⟨_, rfl, ?_⟩; have n0_ := Aside0.mk (blk_below (g := gb169) (o := .cells #[.slice A0_0 l0_0.length c0_0, .int .i64 a0_1, .int .i64 a0_2] 29 (0, 0)) (by (with_reducible repeat (first | refine blk_drewN ?_ _ | refine blk_drew ?_ | refine blk_alloc ?_ _)); exact BK169.out) hb); have n1_ := Aside0.mk (below_step (by repeat (first | (with_reducible first | exact HB.out | apply below_alloc | apply pw_below_drewN | apply below_drew1 | refine below_set ?_ GE169.out) | exact HB.out)) hb); clear BK169; clear HB; have BK169 := n0_; have HB := n1_; clear n0_ n1_; (try clear hb); (try clear hb2); (try clear hk); (try clear hi)))
  go_ret2
  exact ⟨by first | rfl | (simp [errW_none, errW_some] <;> rfl) | (simp [*, errW_none, errW_some] <;> rfl), by repeat (first | (with_reducible first | exact HB.out | apply below_alloc | apply pw_below_drewN | apply below_drew1 | refine below_set ?_ GE169.out) | exact HB.out)⟩
 ·replace c4 := Bool.eq_false_iff.mpr c4
  subst c4
  have H1 : (some ((⟨#[]⟩ : ByteArray), false)) = some (r1, r2) := by rw [if_neg (show ¬ (false = true) by decide)] at H; exact H
  clear H
  have H := H1
  clear H1
  simp only [Option.some.injEq, Prod.mk.injEq] at H
  obtain ⟨rfl, rfl⟩ := H
  go_enter Try.func17, Try.ntmps17
  go_wp2_with (first | ((with_reducible refine gate_dst (N := 2) rfl ?_); refine box_event ?hg (N := 2) ?hd (cs := #[.slice A0_0 l0_0.length c0_0, .int .i64 a0_1, .int .i64 a0_2]) (t := 29) ?hr ?_; (case hd => rfl); (case hg => rfl); (case hr => first | (go_simp; done) | (go_simp; rfl)); intro gb169 hg w11 hbox hb; have n0_ := Aside0.mk (below_step (by repeat (first | (with_reducible first | exact HB.out | apply below_alloc | apply pw_below_drewN | apply below_drew1) | exact HB.out)) hb); have n1_ := Aside0.mk (hbox); have n2_ := Aside0.mk ((by rw [hg]; exact (below_size (by repeat (first | (with_reducible first | exact HB.out | apply below_alloc | apply pw_below_drewN | apply below_drew1) | exact HB.out))) : w.heap.size ≤ gb169)); have n3_ := Aside0.mk ((by rw [hg]; exact (below_size (by repeat (first | (with_reducible first | exact HB.out | apply below_alloc | apply pw_below_drewN | apply below_drew1) | exact HB.out))) : w.heap.size ≤ gb169)); clear HB; have HB := n0_; have BK169 := n1_; have GW169 := n2_; have GE169 := n3_; clear n0_ n1_ n2_ n3_; clear hb hbox hg; have hcz12_0 : w11.cell? ⟨gb169, 0, none⟩ = some (.slice A0_0 l0_0.length c0_0) := (blk_cell BK169.out 0).trans rfl; have hcz12_1 : w11.cell? ⟨gb169, 1, none⟩ = some (.int .i64 a0_1) := (blk_cell BK169.out 1).trans rfl; have hcz12_2 : w11.cell? ⟨gb169, 2, none⟩ = some (.int .i64 a0_2) := (blk_cell BK169.out 2).trans rfl; have hfz12_0 := blk_frozen BK169.out 0; have hfz12_1 := blk_frozen BK169.out 1; have hfz12_2 := blk_frozen BK169.out 2) | ((with_reducible refine gate_callee (f := 13) rfl ?_); refine goesL_ (some 7) rfl rfl Try.func13 (by kernel_rfl) rfl #[.agg #[.slice A0_0 l0_0.length c0_0, .int .i64 a0_1, .int .i64 a0_2]] rfl (by (try simp only [List.map_toArray, List.map_cons, List.map_nil]); first | done | rfl | (simp only [List.length_drop, List.length_take]; rfl)) ?_; (with_reducible refine (spec_ValidFS.calls k _ _ l0_0 a0_1 a0_2 false _ ?side1 ?side2 A3.out).mono ?_); (case side1 => repeat (first | exact (Kd.C_below HR0_0.out HB.out) | (with_reducible refine Kd.C_alloc ?_ _) | (with_reducible refine Kd.C_drewN ?_ _) | (with_reducible refine Kd.C_drew ?_))); (case side2 => exact HC0_0.out); rintro e w13 ⟨rfl, hb⟩; refine ⟨_, rfl, ?_⟩; have n0_ := Aside0.mk (blk_below (g := gb169) (o := .cells #[.slice A0_0 l0_0.length c0_0, .int .i64 a0_1, .int .i64 a0_2] 29 (0, 0)) (by (with_reducible repeat (first | refine blk_drewN ?_ _ | refine blk_drew ?_ | refine blk_alloc ?_ _)); exact BK169.out) hb); have n1_ := Aside0.mk (below_step (by repeat (first | (with_reducible first | exact HB.out | apply below_alloc | apply pw_below_drewN | apply below_drew1 | refine below_set ?_ GE169.out) | exact HB.out)) hb); clear BK169; clear HB; have BK169 := n0_; have HB := n1_; clear n0_ n1_; (try clear hb); (try clear hb2); (try clear hk); (try clear hi)))
  go_ret2
  exact ⟨by first | rfl | (simp [errW_none, errW_some] <;> rfl) | (simp [*, errW_none, errW_some] <;> rfl), by repeat (first | (with_reducible first | exact HB.out | apply below_alloc | apply pw_below_drewN | apply below_drew1 | refine below_set ?_ GE169.out) | exact HB.out)⟩

end Go.Proofs.Ytbppijlcmeidaaa.P
end
section
/- The specification's search by name in files that are in order: what it prints to. Condition: the files are in order. -/
namespace Go.Proofs.Ytbppijlcmeidaaa.M
open Go.RowKit Go.Proofs.Ytbppijlcmeidaaa.P Go.Proofs.YtbppijlcmeidaaaW.PrintWords Go.Proofs.YtbppijlcmeidaaaW.PrintLast Go.Proofs.YtbppijlcmeidaaaW.PrintMore
set_option linter.unusedVariables false

theorem Ev.pure {α : Type} {g : Nat → Option α} {r : α} (h : ∀ k, g k = some r) : Ev g r := ⟨0, fun k _ => h k⟩
/-- What the weight says of the directory. -/
theorem weight_says (l : List S80) (h : weight l ≤ 1048576) : l.length ≤ 1048576 ∧ total (l.map conv) ≤ 1048576 ∧ ∀ x ∈ l.map conv, x.f0.size ≤ 1048576 ∧ x.f1.size ≤ 1048576 := by
  have hsum : ∀ l : List S80, total (l.map conv) ≤ (l.map fun x => x.f0.size + x.f1.size).sum ∧ ∀ x ∈ l, x.f0.size + x.f1.size ≤ (l.map fun x => x.f0.size + x.f1.size).sum := by
    intro l
    induction l with
    | nil => exact ⟨by simp [total], by simp⟩
    | cons x l ih =>
      refine ⟨?_, fun y hy => ?_⟩
      · have := ih.1
        show x.f1.size + total (l.map conv) ≤ x.f0.size + x.f1.size + (l.map fun x => x.f0.size + x.f1.size).sum
        omega
      · show y.f0.size + y.f1.size ≤ x.f0.size + x.f1.size + (l.map fun x => x.f0.size + x.f1.size).sum
        rcases List.mem_cons.1 hy with rfl | hy
        · omega
        · have := ih.2 y hy
          omega
  obtain ⟨h1, h2⟩ := hsum l
  unfold weight at h
  refine ⟨by omega, by omega, fun x hx => ?_⟩
  obtain ⟨y, hy, rfl⟩ := List.mem_map.1 hx
  have := h2 y hy
  exact ⟨by show y.f0.size ≤ _; omega, by show y.f1.size ≤ _; omega⟩
theorem countP_mono {α : Type} (p : α → Bool) : ∀ (l : List α), l.Pairwise (fun a b => p b = true → p a = true) → ∀ t x, l[t]? = some x → (p x = true ↔ t < l.countP p)
  | [], _, t, x, h => by simp at h
  | a :: r, hp, t, x, h => by
    have h1 := (List.pairwise_cons.1 hp).1
    have h2 := (List.pairwise_cons.1 hp).2
    by_cases ha : p a = true
    · rw [List.countP_cons_of_pos ha]
      cases t with
      | zero =>
        have : a = x := by simpa using h
        subst this
        simp [ha]
      | succ t =>
        have := countP_mono p r h2 t x (by simpa using h)
        rw [this]; omega
    · have hz : (a :: r).countP p = 0 := by
        rw [List.countP_eq_zero]
        intro y hy
        rcases List.mem_cons.1 hy with rfl | hy
        · exact ha
        · exact fun h => ha (h1 y hy h)
      rw [hz]
      constructor
      · intro hx
        exfalso
        cases t with
        | zero =>
          have : a = x := by simpa using h
          subst this
          exact ha hx
        | succ t => exact ha (h1 x (List.mem_of_getElem? (i := t) (by simpa using h)) hx)
      · intro h; omega
theorem sorted_pairwise {l : List S52} (h : Sorted l) : l.Pairwise (fun x y => lss x.f0 y.f0 = true) := by
  rw [List.pairwise_iff_getElem]
  intro i j hi hj hij
  have := h i j hij hj
  rwa [rd52 l i hi, rd52 l j hj] at this
theorem pos_iff {l : List S52} (hs : Sorted l) (s : ByteArray) (t : Nat) (ht : t < l.length) : lss (rd_T52 l (t : Int)).f0 s = true ↔ t < pos l s := by
  rw [rd52 l t ht]
  exact countP_mono (fun x => lss x.f0 s) l ((sorted_pairwise hs).imp (fun hab hb => lss_trans hab hb)) t l[t] (List.getElem?_eq_getElem ht)
theorem pos_le (l : List S52) (s : ByteArray) : pos l s ≤ l.length := List.countP_le_length
theorem cmp3_zero {a b : ByteArray} (h : cmp3 a b = 0) : a = b := by
  unfold cmp3 at h
  by_cases c1 : lss a b = true
  · rw [if_pos c1] at h; omega
  · rw [if_neg c1] at h
    by_cases c2 : lss b a = true
    · rw [if_pos c2] at h; omega
    · exact lss_total (Bool.eq_false_iff.2 c1) (Bool.eq_false_iff.2 c2)
theorem cmp3_self (a : ByteArray) : cmp3 a a = 0 := by
  unfold cmp3
  rw [lss_irrefl]
  simp
/-- A name is there just where some file has it. -/
theorem there_name {l : List S52} {s : ByteArray} (h : there l s = true) : (rd_T52 l (pos l s : Int)).f0 = s := by
  unfold there at h
  simp only [Bool.and_eq_true, decide_eq_true_eq] at h
  exact cmp3_zero h.2
theorem there_of {l : List S52} (hs : Sorted l) {s : ByteArray} {t : Nat} (ht : t < l.length) (he : (rd_T52 l (t : Int)).f0 = s) : pos l s = t ∧ there l s = true := by
  have h1 : ¬ t < pos l s := by
    rw [← pos_iff hs s t ht, he, lss_irrefl]
    simp
  have h2 : ¬ pos l s < t := by
    intro hlt
    have h3 := hs (pos l s) t hlt ht
    rw [he] at h3
    have := (pos_iff hs s (pos l s) (by omega)).1 h3
    omega
  have e : pos l s = t := by omega
  refine ⟨e, ?_⟩
  unfold there
  rw [e, he, cmp3_self, decide_eq_true ht]
  rfl

def atOf (l : List S52) (s : ByteArray) : Int := if there l s = true then (pos l s : Int) else -1
theorem specAt_loop (l : List S52) (q f : Int) (s : ByteArray) (hs : Sorted l) (hl : l.length ≤ 1048576) : ∀ d i : Nat, i + d = l.length → (there l s = true → i ≤ pos l s) →
    Ev (fun k => spec_l1At.l0 k s (i : Int) l q f) (atOf l s) := by
  intro d
  induction d with
  | zero =>
    intro i hi hp
    have hn : ¬ there l s = true := fun h => by have := there_lt h; have := hp h; omega
    refine Ev.step (f := fun _ => some (-1)) (fun k => ?_) ?_
    · rw [spec_l1At.l0, if_neg (by omega)]
    · unfold atOf; rw [if_neg hn]; exact Ev.now _
  | succ d ih =>
    intro i hi hp
    have hlt : i < l.length := by omega
    by_cases c : (rd_T52 l (i : Int)).f0 = s
    · obtain ⟨e, ht⟩ := there_of hs hlt c
      refine Ev.step (f := fun _ => some (i : Int)) (fun k => ?_) ?_
      · rw [spec_l1At.l0, if_pos (by omega), if_pos (by omega), if_pos (by rw [c])]
      · unfold atOf; rw [if_pos ht, e]; exact Ev.now _
    · refine Ev.step (fun k => ?_) (ih (i + 1) (by omega) (fun h => ?_))
      · rw [spec_l1At.l0, if_pos (by omega), if_pos (by omega), if_neg (fun h => c (toList_inj h)), wrap_succ (by omega)]
      · have h1 := hp h
        have h2 := there_name h
        rcases Nat.eq_or_lt_of_le h1 with h3 | h3
        · rw [← h3] at h2; exact absurd h2 c
        · omega
theorem specAt_eq (l : List S52) (q f : Int) (s : ByteArray) (hs : Sorted l) (hl : l.length ≤ 1048576) : Ev (fun k => spec_l1At.f k l q f s) (atOf l s) :=
  Ev.congr (fun _ => rfl) (specAt_loop l q f s hs hl l.length 0 (by omega) (fun _ => Nat.zero_le _))
theorem specData_eq (l : List S52) (q f : Int) (s : ByteArray) (hs : Sorted l) (hl : l.length ≤ 1048576) : Ev (fun k => spec_l1Data.f k l q f s) (dataAt l s, there l s) := by
  refine Ev.bind (specAt_eq l q f s hs hl) (Ev.pure (fun k => ?_))
  unfold atOf dataAt
  by_cases c : there l s = true
  · have := there_lt c
    rw [if_pos c, if_pos c, if_neg (by omega), if_pos (by omega), if_pos (by omega), c]
  · rw [if_neg c, if_neg c, if_pos (by omega), Bool.eq_false_iff.2 c]
theorem specFind_eq (l : List S52) (q f : Int) (s : ByteArray) (ht : total l ≤ 1048576) (hl : l.length ≤ 1048576) (hn : ∀ x ∈ l, x.f0.size ≤ 1048576) : Ev (fun k => spec_FsFind.f k l q f s) (fsFind l q f s) := by
  refine Ev.bind (specValid_eq l q f ht hl hn) ?_
  unfold fsFind
  by_cases c : validB l q f = true
  · rw [if_pos c]
    refine Ev.congr (fun k => if_pos c) (Ev.bind (specData_eq l q f s (valid_sorted c) hl) (Ev.pure (fun _ => rfl)))
  · rw [if_neg c]
    exact Ev.pure (fun k => if_neg c)
end Go.Proofs.Ytbppijlcmeidaaa.M
end
section
/- The specification's files without one and with one, for files in order: what they print to. Condition: the files are in order and not too many. -/
namespace Go.Proofs.Ytbppijlcmeidaaa.M
open Go.RowKit Go.Proofs.Ytbppijlcmeidaaa.P Go.Proofs.YtbppijlcmeidaaaW.PrintWords Go.Proofs.YtbppijlcmeidaaaW.PrintLast Go.Proofs.YtbppijlcmeidaaaW.PrintMore
set_option linter.unusedVariables false
/-- The files but those of a name. -/
def but (l : List S52) (s : ByteArray) : List S52 := l.filter fun x => decide (x.f0 ≠ s)
theorem but_snoc (l : List S52) (x : S52) (s : ByteArray) : but (l ++ [x]) s = but l s ++ (if x.f0 = s then [] else [x]) := by
  unfold but
  rw [List.filter_append]
  congr 1
  by_cases h : x.f0 = s
  · rw [if_pos h]; simp [h]
  · rw [if_neg h]; simp [h]
theorem but_length (l : List S52) (s : ByteArray) : (but l s).length ≤ l.length := List.length_filter_le _ _
theorem without_loop (l : List S52) (s : ByteArray) (hl : l.length ≤ 1048576) : ∀ d i : Nat, i + d = l.length → Ev (fun k => spec_l1Without.l0 k l s (but (l.take i) s) (i : Int)) (but l s) := by
  intro d
  induction d with
  | zero =>
    intro i hi
    refine Ev.step (f := fun _ => some (but l s)) (fun k => ?_) (Ev.now _)
    rw [spec_l1Without.l0, if_neg (by omega), List.take_of_length_le (by omega)]
  | succ d ih =>
    intro i hi
    have hlt : i < l.length := by omega
    have h2 := ih (i + 1) (by omega)
    have hb := but_length (l.take i) s
    rw [List.length_take] at hb
    rw [take_at l i hlt, but_snoc] at h2
    by_cases c : l[i].f0 = s
    · rw [if_pos c, List.append_nil] at h2
      refine Ev.step (fun k => ?_) h2
      rw [spec_l1Without.l0, if_pos (by omega), if_pos (by omega), rd52 l i hlt, if_pos (by rw [c]), wrap_succ (by omega)]
    · rw [if_neg c] at h2
      refine Ev.step (fun k => ?_) h2
      rw [spec_l1Without.l0, if_pos (by omega), if_pos (by omega), rd52 l i hlt, if_neg (fun h => c (toList_inj h)), if_pos (by omega), wrap_succ (by omega)]
theorem without_eq (l : List S52) (s : ByteArray) (hl : l.length ≤ 1048576) : Ev (fun k => spec_l1Without.f k l s) (but l s) := without_loop l s hl l.length 0 (by omega)

/-- One put ahead of the first that is behind it. -/
def putIn (x : S52) : List S52 → List S52
  | [] => [x]
  | y :: l => if lss x.f0 y.f0 = true then x :: y :: l else y :: putIn x l
theorem putIn_at (x : S52) (A C : List S52) (hA : ∀ a ∈ A, lss x.f0 a.f0 = false) (hC : ∀ c ∈ C.head?, lss x.f0 c.f0 = true) : putIn x (A ++ C) = A ++ x :: C := by
  induction A with
  | nil =>
    cases C with
    | nil => rfl
    | cons c C => show (if _ then _ else _) = _; rw [if_pos (hC c rfl)]; rfl
  | cons a A ih =>
    show (if lss x.f0 a.f0 = true then x :: a :: (A ++ C) else a :: putIn x (A ++ C)) = a :: (A ++ x :: C)
    rw [if_neg (by rw [hA a (by simp)]; simp), ih (fun b hb => hA b (by simp [hb]))]
theorem with_done (m : List S52) (x : S52) (hm : m.length ≤ 1048576) : ∀ d i : Nat, i + d = m.length → ∀ acc : List S52, acc.length + m.length ≤ 4194304 + i →
    Ev (fun k => spec_l1With.l0 k m acc true (i : Int) x.f0 x.f1 x.f2) (acc ++ m.drop i) := by
  intro d
  induction d with
  | zero =>
    intro i hi acc ha
    refine Ev.step (f := fun _ => some (acc ++ m.drop i)) (fun k => ?_) (Ev.now _)
    rw [spec_l1With.l0, if_neg (by omega), if_pos rfl, List.drop_eq_nil_of_le (by omega), List.append_nil]
  | succ d ih =>
    intro i hi acc ha
    have hlt : i < m.length := by omega
    have h2 := ih (i + 1) (by omega) (acc ++ [m[i]]) (by simp; omega)
    rw [List.append_assoc, List.singleton_append, ← drop_at m i hlt] at h2
    refine Ev.step (fun k => ?_) h2
    rw [spec_l1With.l0, if_pos (by omega), if_pos rfl, if_pos (by omega), rd52 m i hlt, if_pos (by omega), wrap_succ (by omega)]
theorem with_loop (m : List S52) (x : S52) (hm : m.length ≤ 1048576) (hx : x.f0.size ≤ 1048576) : ∀ d i : Nat, i + d = m.length →
    Ev (fun k => spec_l1With.l0 k m (m.take i) false (i : Int) x.f0 x.f1 x.f2) (m.take i ++ putIn x (m.drop i)) := by
  intro d
  induction d with
  | zero =>
    intro i hi
    refine Ev.step (f := fun _ => some (m.take i ++ [x])) (fun k => ?_) ?_
    · rw [spec_l1With.l0, if_neg (by omega), if_neg (by simp), if_pos (by rw [List.length_take]; omega)]
    · rw [List.drop_eq_nil_of_le (by omega)]; exact Ev.now _
  | succ d ih =>
    intro i hi
    have hlt : i < m.length := by omega
    have ht : (m.take i).length = i := by rw [List.length_take]; omega
    have hs := less_eq x.f0 m[i].f0 (by omega)
    rw [drop_at m i hlt]
    have e4 : wrap64 ((i : Int) + 1) = ((i + 1 : Nat) : Int) := wrap_succ (by omega)
    by_cases c : lss x.f0 m[i].f0 = true
    · rw [c] at hs
      have h2 := with_done m x hm d (i + 1) (by omega) (m.take i ++ [x] ++ [m[i]]) (by simp; omega)
      have e : m.take i ++ putIn x (m[i] :: m.drop (i + 1)) = m.take i ++ [x] ++ [m[i]] ++ m.drop (i + 1) := by
        show m.take i ++ (if _ then _ else _) = _
        rw [if_pos c]; simp
      rw [e]
      refine Ev.step (f := fun k => (spec_l1Less.f k x.f0 m[i].f0).bind fun t => (if t = true then (spec_l1With.l0 k m (m.take i ++ [x] ++ [m[i]]) true ((i + 1 : Nat) : Int) x.f0 x.f1 x.f2) else (spec_l1With.l0 k m (m.take i ++ [m[i]]) false ((i + 1 : Nat) : Int) x.f0 x.f1 x.f2))) (fun k => ?_) (Ev.bind hs (Ev.congr (fun k => if_pos rfl) h2))
      rw [spec_l1With.l0, if_pos (by omega), if_neg (by simp), if_pos (by omega), rd52 m i hlt, e4, if_pos (by omega), Option.bind_some, if_pos (by rw [List.length_append, ht]; simp; omega)]
      simp only [if_pos (show (m.take i).length < 3518437208883 by omega)]
    · rw [Bool.eq_false_iff.2 c] at hs
      have h2 := ih (i + 1) (by omega)
      rw [take_at m i hlt] at h2
      have e : m.take i ++ putIn x (m[i] :: m.drop (i + 1)) = m.take i ++ [m[i]] ++ putIn x (m.drop (i + 1)) := by
        show m.take i ++ (if lss x.f0 m[i].f0 = true then x :: m[i] :: m.drop (i + 1) else m[i] :: putIn x (m.drop (i + 1))) = _
        rw [if_neg c, List.append_assoc]; rfl
      rw [e]
      refine Ev.step (f := fun k => (spec_l1Less.f k x.f0 m[i].f0).bind fun t => (if t = true then (spec_l1With.l0 k m (m.take i ++ [x] ++ [m[i]]) true ((i + 1 : Nat) : Int) x.f0 x.f1 x.f2) else (spec_l1With.l0 k m (m.take i ++ [m[i]]) false ((i + 1 : Nat) : Int) x.f0 x.f1 x.f2))) (fun k => ?_) (Ev.bind hs (Ev.congr (fun k => if_neg (by simp)) h2))
      rw [spec_l1With.l0, if_pos (by omega), if_neg (by simp), if_pos (by omega), rd52 m i hlt, e4, if_pos (by omega), Option.bind_some, if_pos (by rw [List.length_append, ht]; simp; omega)]
      simp only [if_pos (show (m.take i).length < 3518437208883 by omega)]
theorem with_eq (l : List S52) (n d : ByteArray) (y : Int) (hl : l.length ≤ 1048576) (hn : n.size ≤ 1048576) : Ev (fun k => spec_l1With.f k l n d y) (putIn ⟨n, d, y⟩ (but l n)) :=
  Ev.bind (without_eq l n hl) (with_loop (but l n) ⟨n, d, y⟩ (Nat.le_trans (but_length l n) hl) hn (but l n).length 0 (by omega))

/-- Files in order fall into those ahead of a name, one of the name or none, those behind it. -/
theorem split_at {l : List S52} (h : Sorted l) (s : ByteArray) : ∃ A m C, l = A ++ m ++ C ∧ A.length = pos l s ∧ (∀ a ∈ A, lss a.f0 s = true) ∧ (∀ c ∈ C, lss s c.f0 = true) ∧ ((there l s = true ∧ ∃ y, m = [y] ∧ y.f0 = s) ∨ (there l s = false ∧ m = [])) := by
  have hp := pos_le l s
  have hA : ∀ a ∈ l.take (pos l s), lss a.f0 s = true := by
    intro a ha
    obtain ⟨t, ht, rfl⟩ := List.mem_iff_getElem.1 ha
    rw [List.length_take] at ht
    have := (pos_iff h s t (by omega)).2 (by omega)
    rw [rd52 l t (by omega)] at this
    rw [List.getElem_take]; exact this
  have hC : ∀ t (ht : t < l.length), pos l s ≤ t → lss l[t].f0 s = false := by
    intro t ht hpt
    rw [Bool.eq_false_iff]
    intro hh
    have := (pos_iff h s t ht).1 (by rw [rd52 l t ht]; exact hh)
    omega
  have hgt : ∀ t (ht : t < l.length), pos l s ≤ t → l[t].f0 ≠ s → lss s l[t].f0 = true := by
    intro t ht hpt hne
    cases e : lss s l[t].f0 with
    | true => rfl
    | false => exact absurd (lss_total (hC t ht hpt) e) hne
  by_cases ht : there l s = true
  · have hlt := there_lt ht
    have hname := there_name ht
    rw [rd52 l _ hlt] at hname
    refine ⟨l.take (pos l s), [l[pos l s]], l.drop (pos l s + 1), ?_, by rw [List.length_take]; omega, hA, fun c hc => ?_, .inl ⟨ht, _, rfl, hname⟩⟩
    · rw [List.append_assoc, List.singleton_append, ← drop_at l _ hlt, List.take_append_drop]
    · obtain ⟨t, ht', rfl⟩ := List.mem_iff_getElem.1 hc
      have hl' : pos l s + 1 + t < l.length := by rw [List.length_drop] at ht'; omega
      rw [List.getElem_drop]
      refine hgt _ hl' (by omega) (fun he => ?_)
      have h3 := (there_of h hl' (by rw [rd52 l _ hl', he])).1
      have h4 : pos l s = pos l s + 1 + t := h3
      omega
  · refine ⟨l.take (pos l s), [], l.drop (pos l s), ?_, by rw [List.length_take]; omega, hA, fun c hc => ?_, .inr ⟨Bool.eq_false_iff.2 ht, rfl⟩⟩
    · rw [List.append_nil, List.take_append_drop]
    · obtain ⟨t, ht', rfl⟩ := List.mem_iff_getElem.1 hc
      have hl' : pos l s + t < l.length := by rw [List.length_drop] at ht'; omega
      rw [List.getElem_drop]
      refine hgt _ hl' (by omega) (fun he => ?_)
      exact ht (there_of h hl' (by rw [rd52 l _ hl']; exact he)).2
theorem lss_ne {a b : ByteArray} (h : lss a b = true) : a ≠ b := fun e => by rw [e, lss_irrefl] at h; cases h
theorem but_split {A m C : List S52} {s : ByteArray} (hA : ∀ a ∈ A, lss a.f0 s = true) (hC : ∀ c ∈ C, lss s c.f0 = true) (hm : ∀ y ∈ m, y.f0 = s) : but (A ++ m ++ C) s = A ++ C := by
  have h1 : A.filter (fun x => decide (x.f0 ≠ s)) = A := List.filter_eq_self.2 (fun a ha => by simpa using lss_ne (hA a ha))
  have h2 : C.filter (fun x => decide (x.f0 ≠ s)) = C := List.filter_eq_self.2 (fun c hc => by simpa using fun e : c.f0 = s => lss_ne (hC c hc) e.symm)
  have h3 : m.filter (fun x => decide (x.f0 ≠ s)) = [] := List.filter_eq_nil_iff.2 (fun y hy => by simp [hm y hy])
  unfold but
  rw [List.filter_append, List.filter_append, h1, h2, h3, List.append_nil]
theorem put_split {A C : List S52} {x : S52} (hA : ∀ a ∈ A, lss a.f0 x.f0 = true) (hC : ∀ c ∈ C, lss x.f0 c.f0 = true) : putIn x (A ++ C) = A ++ x :: C :=
  putIn_at x A C (fun a ha => lss_asymm (hA a ha)) (fun c hc => hC c (List.mem_of_mem_head? hc))
theorem but_gone {l : List S52} (h : Sorted l) {s : ByteArray} (ht : there l s = true) : but l s = l.eraseIdx (pos l s) := by
  obtain ⟨A, m, C, rfl, hp, hA, hC, ⟨_, y, rfl, hy⟩ | ⟨hf, _⟩⟩ := split_at h s
  · rw [but_split hA hC (by simpa using hy), ← hp, List.append_assoc, List.eraseIdx_append_of_length_le (Nat.le_refl _), Nat.sub_self]
    rfl
  · rw [hf] at ht; cases ht
theorem put_over {l : List S52} (h : Sorted l) {x : S52} (ht : there l x.f0 = true) : putIn x (but l x.f0) = l.set (pos l x.f0) x := by
  obtain ⟨A, m, C, e, hp, hA, hC, ⟨_, y, rfl, hy⟩ | ⟨hf, _⟩⟩ := split_at h x.f0
  · rw [← hp, e, but_split hA hC (by simpa using hy), put_split hA hC, List.append_assoc, List.set_append_right _ _ (Nat.le_refl _), Nat.sub_self]
    rfl
  · rw [hf] at ht; cases ht
theorem but_none {l : List S52} (h : Sorted l) {s : ByteArray} (ht : there l s = false) : but l s = l := by
  obtain ⟨A, m, C, e, hp, hA, hC, ⟨ht', _⟩ | ⟨_, rfl⟩⟩ := split_at h s
  · rw [ht] at ht'; cases ht'
  · rw [e, but_split hA hC (by simp), List.append_nil]
theorem put_new {l : List S52} (h : Sorted l) {x : S52} (ht : there l x.f0 = false) : putIn x (but l x.f0) = l.take (pos l x.f0) ++ x :: l.drop (pos l x.f0) := by
  obtain ⟨A, m, C, e, hp, hA, hC, ⟨ht', _⟩ | ⟨_, rfl⟩⟩ := split_at h x.f0
  · rw [ht] at ht'; cases ht'
  · rw [← hp, e, but_split hA hC (by simp), put_split hA hC, List.append_nil, List.take_left', List.drop_left'] <;> rfl
theorem but_empty {l : List S52} (h : okFrom none l = true) : but l ⟨#[]⟩ = l := by
  unfold but
  rw [List.filter_eq_self]
  intro x hx
  have := (okFrom_all h).1 x hx
  unfold fileOk nameOk at this
  simp only [Bool.and_eq_true, decide_eq_true_eq] at this
  have h1 := this.1.1.1
  simp only [decide_eq_true_eq]
  intro e
  rw [e] at h1
  exact absurd h1 (by decide)
/-- The specification's beginning of a step. -/
theorem specBegin_eq (l : List S52) (q f : Int) (ht : total l ≤ 1048576) (hl : l.length ≤ 1048576) (hn : ∀ x ∈ l, x.f0.size ≤ 1048576) (hf : f ≤ 9223372036854775807) :
    Ev (fun k => spec_l1Begin.f k l q f) (if validB l q f = true then (l, q, fuel' f, if f = 0 then 8 else 0) else ([], 0, 0, 9)) := by
  refine Ev.bind (specValid_eq l q f ht hl hn) ?_
  by_cases c : validB l q f = true
  · rw [c]
    have hb := but_empty (valid_parts c).2.2.2.2.1
    have hf0 := (valid_parts c).2.2.2.1
    refine Ev.congr (fun k => if_pos rfl) ?_
    by_cases z : f = 0
    · subst z
      refine Ev.congr (fun k => if_pos rfl) (Ev.bind (a := (l, q, 0)) (Ev.bind (without_eq l ⟨#[]⟩ hl) ?_) ?_)
      · rw [hb]; exact Ev.now _
      · exact Ev.now _
    · refine Ev.congr (fun k => if_neg z) (Ev.bind (a := (l, q, fuel' f)) (Ev.bind (without_eq l ⟨#[]⟩ hl) ?_) ?_)
      · rw [hb]
        refine Ev.pure (fun k => ?_)
        show (if true = true then (if f > 0 then some (l, q, wrap64 (f - 1)) else some (l, q, f)) else some (l, q, f)) = some (l, q, fuel' f)
        unfold fuel'
        by_cases p : f > 0
        · rw [if_pos rfl, if_pos p, if_pos p, wrap_ok (by omega) (by omega)]
        · rw [if_pos rfl, if_neg p, if_neg p]
      · rw [if_neg z]; exact Ev.now _
  · have c' := Bool.eq_false_iff.2 c
    rw [c']
    exact Ev.congr (fun k => if_neg (by simp)) (Ev.now _)
end Go.Proofs.Ytbppijlcmeidaaa.M
end
section
/- The specification's steps answer what the program's do. Condition: the directory is within the law's bounds. -/
namespace Go.Proofs.Ytbppijlcmeidaaa.M
open Go.RowKit Go.Proofs.Ytbppijlcmeidaaa.P Go.Proofs.YtbppijlcmeidaaaW.PrintWords Go.Proofs.YtbppijlcmeidaaaW.PrintLast Go.Proofs.YtbppijlcmeidaaaW.PrintMore
set_option linter.unusedVariables false
theorem step1_code (f : Int) (s : ByteArray) : stepCode f [s] = if f = 0 then 8 else if nameOk s = true then 0 else 2 := by
  unfold stepCode namesCode
  by_cases z : f = 0
  · rw [if_pos z, if_pos z]
  · rw [if_neg z, if_neg z]
    by_cases n : nameOk s = true
    · rw [if_pos n, if_pos (by simp [n])]
    · rw [if_neg n, if_neg (by simp [n])]
theorem nameOk_size {s : ByteArray} (h : nameOk s = true) : s.size ≤ 1048576 := by
  unfold nameOk at h
  simp only [Bool.and_eq_true, decide_eq_true_eq] at h
  omega
abbrev T4 := List S52 × Int × Int × Int
/-- A step of one name: what is left to show of it. -/
theorem step1_ev {G : Nat → Option T4} {H : Nat → T4 → Option T4} {l : List S52} {q f : Int} {s : ByteArray} {op : List S52 × Int} (ht : total l ≤ 1048576) (hl : l.length ≤ 1048576) (hn : ∀ x ∈ l, x.f0.size ≤ 1048576) (hf : f ≤ 9223372036854775807)
    (hG : ∀ k, G k = (spec_l1Begin.f k l q f).bind fun bt => (if bt.2.2.2 = 0 then ((spec_l1NameOk.f s).bind fun t => (if t = true then H k bt else (some (bt.1, bt.2.1, bt.2.2.1, 2)))) else (some (bt.1, bt.2.1, bt.2.2.1, bt.2.2.2))))
    (hH : validB l q f = true → nameOk s = true → Ev (fun k => H k (l, q, fuel' f, 0)) (op.1, q, fuel' f, op.2)) : Ev G (fsRes l q f (stepOf f [s] l op)) := by
  refine Ev.congr hG (Ev.bind (specBegin_eq l q f ht hl hn hf) ?_)
  unfold fsRes stepOf
  rw [step1_code]
  by_cases c : validB l q f = true
  · rw [if_pos c, if_pos c]
    by_cases z : f = 0
    · rw [if_pos z, if_pos z, if_neg (by decide)]
      exact Ev.pure (fun k => if_neg (show ¬ (8 : Int) = 0 by decide))
    · rw [if_neg z, if_neg z]
      refine Ev.congr (fun k => if_pos rfl) ?_
      rw [nameOk_spec]
      by_cases n : nameOk s = true
      · rw [n, if_pos rfl, if_pos rfl]
        exact Ev.congr (f := fun k => H k (l, q, fuel' f, 0)) (fun k => rfl) (hH c n)
      · rw [Bool.eq_false_iff.2 n, if_neg (by decide), if_neg (by decide)]
        exact Ev.pure (fun k => rfl)
  · rw [if_neg c, if_neg c]
    exact Ev.pure (fun k => if_neg (show ¬ (9 : Int) = 0 by decide))
theorem fsRes_length {l : List S52} {q f : Int} {ns : List ByteArray} {op : List S52 × Int} (hl : l.length ≤ 1048576) (hop : op.1.length ≤ 1048576) : (fsRes l q f (stepOf f ns l op)).1.length ≤ 1048576 := by
  unfold fsRes stepOf
  split
  · split
    · exact hop
    · exact hl
  · exact Nat.zero_le _
end Go.Proofs.Ytbppijlcmeidaaa.M
end
section
/- The specification's FsRename answers what the program's does. Condition: the directory is within the law's bounds. -/
namespace Go.Proofs.Ytbppijlcmeidaaa.M
open Go.RowKit Go.Proofs.Ytbppijlcmeidaaa.P Go.Proofs.YtbppijlcmeidaaaW.PrintWords Go.Proofs.YtbppijlcmeidaaaW.PrintLast Go.Proofs.YtbppijlcmeidaaaW.PrintMore
set_option linter.unusedVariables false
theorem step2_code (f : Int) (s d : ByteArray) : stepCode f [s, d] = if f = 0 then 8 else if nameOk s = true then (if nameOk d = true then 0 else 2) else 2 := by
  unfold stepCode namesCode
  by_cases z : f = 0
  · rw [if_pos z, if_pos z]
  · rw [if_neg z, if_neg z]
    by_cases n : nameOk s = true
    · by_cases m : nameOk d = true
      · rw [if_pos n, if_pos m, if_pos (by simp [n, m])]
      · rw [if_pos n, if_neg m, if_neg (by simp [n, m])]
    · rw [if_neg n, if_neg (by simp [n])]
theorem but_but (l : List S52) (s : ByteArray) : but (but l s) s = but l s := by
  unfold but
  rw [List.filter_filter]
  congr 1
  funext x
  simp
section
variable (l : List S52) (q f : Int) (s d : ByteArray) (ht : total l ≤ 1048576) (hl : l.length ≤ 1048576) (hn : ∀ x ∈ l, x.f0.size ≤ 1048576) (hf : f ≤ 9223372036854775807)
include ht hl hn hf
theorem specRename_eq : Ev (fun k => spec_FsRename.f k l q f s d) (fsRes l q f (renameRes l f s d)) := by
  refine Ev.bind (specBegin_eq l q f ht hl hn hf) ?_
  unfold fsRes renameRes stepOf
  rw [step2_code]
  by_cases c : validB l q f = true
  · rw [if_pos c, if_pos c]
    have hs := valid_sorted c
    by_cases z : f = 0
    · rw [if_pos z, if_pos z, if_neg (by decide)]
      exact Ev.pure (fun k => if_neg (show ¬ (8 : Int) = 0 by decide))
    · rw [if_neg z, if_neg z]
      refine Ev.congr (fun k => if_pos rfl) ?_
      simp only [nameOk_spec, Option.bind_some]
      by_cases n1 : nameOk s = true
      · rw [n1, if_pos rfl]
        refine Ev.congr (fun k => if_pos rfl) ?_
        refine Ev.step (fun _ => rfl) ?_
        simp only [spec_FsRename.j0]
        by_cases n2 : nameOk d = true
        · rw [n2, if_pos rfl, if_pos rfl]
          refine Ev.congr (fun k => if_neg (by simp)) (Ev.bind (specAt_eq l q f s hs hl) ?_)
          unfold atOf renameOp
          by_cases e : there l s = true
          · have hlt := there_lt e
            have hnm := there_name e
            rw [if_pos e, if_pos e]
            refine Ev.congr (fun k => if_neg (by omega)) (Ev.congr (fun k => if_pos (by omega)) (Ev.congr (fun k => if_pos (by omega)) (Ev.bind (without_eq l s hl) ?_)))
            have hw := with_eq (but l s) d (rd_T52 l (pos l s : Int)).f1 (rd_T52 l (pos l s : Int)).f2 (Nat.le_trans (but_length l s) hl) (nameOk_size n2)
            by_cases hsd : s = d
            · subst hsd
              rw [if_pos rfl]
              rw [but_but, put_over hs (x := ⟨s, (rd_T52 l (pos l s : Int)).f1, (rd_T52 l (pos l s : Int)).f2⟩) e] at hw
              have e2 : l.set (pos l s) ⟨s, (rd_T52 l (pos l s : Int)).f1, (rd_T52 l (pos l s : Int)).f2⟩ = l := by
                have e3 : ∀ x : S52, x.f0 = s → (⟨s, x.f1, x.f2⟩ : S52) = x := fun x h => by subst h; rfl
                rw [e3 _ hnm, rd52 l _ hlt]
                exact List.set_getElem_self hlt
              rw [e2] at hw
              exact Ev.bind hw (Ev.now _)
            · rw [if_neg hsd]
              have hg := but_gone hs e
              have hr : but l s = renRest l s := hg
              rw [hr] at hw ⊢
              have hsr : Sorted (renRest l s) := sorted_rest hs _
              unfold renOp
              by_cases e2 : there (renRest l s) d = true
              · rw [if_pos e2]
                rw [put_over hsr (x := ⟨d, (rd_T52 l (pos l s : Int)).f1, (rd_T52 l (pos l s : Int)).f2⟩) e2] at hw
                exact Ev.bind hw (Ev.now _)
              · rw [if_neg e2]
                rw [put_new hsr (x := ⟨d, (rd_T52 l (pos l s : Int)).f1, (rd_T52 l (pos l s : Int)).f2⟩) (Bool.eq_false_iff.2 e2)] at hw
                exact Ev.bind hw (Ev.now _)
          · rw [if_neg e, if_neg e]
            exact Ev.pure (fun k => if_pos (by decide))
        · rw [Bool.eq_false_iff.2 n2]
          exact Ev.pure (fun k => by simp only [Bool.not_false, if_true]; rfl)
      · rw [Bool.eq_false_iff.2 n1]
        refine Ev.congr (fun k => if_neg (by simp)) ?_
        refine Ev.step (fun _ => rfl) ?_
        simp only [spec_FsRename.j0]
        exact Ev.pure (fun k => by simp only [if_true]; rfl)
  · rw [if_neg c, if_neg c]
    exact Ev.pure (fun k => if_neg (show ¬ (9 : Int) = 0 by decide))
end
theorem fsRename_length (l : List S52) (q f : Int) (s d : ByteArray) (hl : l.length ≤ 1048576) : (fsRes l q f (renameRes l f s d)).1.length ≤ 1048576 := by
  unfold fsRes renameRes stepOf
  split
  · split
    · unfold renameOp
      split
      · split
        · exact hl
        · have hlen : (renRest l s).length ≤ l.length := by unfold renRest; exact List.length_eraseIdx_le l _
          unfold renOp
          split
          · rw [List.length_set]; exact Nat.le_trans hlen hl
          · rename_i hts _ _
            have hlt := there_lt hts
            have hle : (renRest l s).length = l.length - 1 := by unfold renRest; rw [List.length_eraseIdx_of_lt hlt]
            have : ((renRest l s).take (pos (renRest l s) d) ++ renFile l s d :: (renRest l s).drop (pos (renRest l s) d)).length ≤ (renRest l s).length + 1 := by simp; omega
            exact Nat.le_trans this (by omega)
      · exact hl
    · exact hl
  · exact Nat.zero_le _
end Go.Proofs.Ytbppijlcmeidaaa.M
end
section
/- The laws' marks: what markFS writes heldFS finds. Condition: the row and the count are far from the end of the numbers. -/
namespace Go.Proofs.Ytbppijlcmeidaaa.M
open Go.RowKit Go.Proofs.Ytbppijlcmeidaaa.P Go.Proofs.YtbppijlcmeidaaaW.PrintWords Go.Proofs.YtbppijlcmeidaaaW.PrintLast Go.Proofs.YtbppijlcmeidaaaW.PrintMore
set_option linter.unusedVariables false
theorem size_strOfNums (a : Int) : (strOfNums [a]).size = 1 := rfl
theorem markText_ends : ∀ (n : Nat) (k : Nat) (acc : ByteArray), k ≤ n → acc.size + k ≤ 4611686018427387904 → ∃ t, Ev (fun j => laws_markText.l0 j (k : Int) acc) t := by
  intro n
  induction n with
  | zero =>
    intro k acc hk hs
    refine ⟨(⟨#[109]⟩ : ByteArray) ++ acc, Ev.step (f := fun _ => some ((⟨#[109]⟩ : ByteArray) ++ acc)) (fun j => ?_) (Ev.now _)⟩
    rw [laws_markText.l0, if_neg (by omega), if_pos (by omega)]
  | succ n ih =>
    intro k acc hk hs
    by_cases c : k = 0
    · refine ⟨(⟨#[109]⟩ : ByteArray) ++ acc, Ev.step (f := fun _ => some ((⟨#[109]⟩ : ByteArray) ++ acc)) (fun j => ?_) (Ev.now _)⟩
      rw [laws_markText.l0, if_neg (by omega), if_pos (by omega)]
    · have ht : Int.tdiv (k : Int) 10 = ((k / 10 : Nat) : Int) := by
        rw [Int.tdiv_eq_ediv_of_nonneg (by omega)]; omega
      have hsz := size_strOfNums ((wrap64 (48 + (Int.tmod (k : Int) 10))) % 256)
      obtain ⟨t, h⟩ := ih (k / 10) (strOfNums [(wrap64 (48 + (Int.tmod (k : Int) 10))) % 256] ++ acc) (by omega) (by rw [ByteArray.size_append, hsz]; omega)
      refine ⟨t, Ev.step (fun j => ?_) h⟩
      rw [laws_markText.l0, if_pos (by omega), Option.bind_some, if_pos (by rw [hsz]; omega), ht, wrap_ok (by omega) (by omega)]
theorem markText_all (k : Nat) (hk : k ≤ 4611686018427387904) : ∃ t, Ev (fun j => laws_markText.f j (k : Int)) t := by
  by_cases c : k = 0
  · exact ⟨_, Ev.pure (fun j => if_pos (by omega))⟩
  · obtain ⟨t, h⟩ := markText_ends k k ⟨#[]⟩ (Nat.le_refl _) (by show 0 + k ≤ _; omega)
    exact ⟨t, Ev.congr (fun j => if_neg (by omega)) h⟩
open Classical in
noncomputable def mt (k : Nat) : ByteArray := if h : ∃ t, Ev (fun j => laws_markText.f j (k : Int)) t then Classical.choose h else ⟨#[]⟩
theorem mt_eq (k : Nat) (hk : k ≤ 4611686018427387904) : Ev (fun j => laws_markText.f j (k : Int)) (mt k) := by
  unfold mt
  rw [dif_pos (markText_all k hk)]
  exact Classical.choose_spec (markText_all k hk)
noncomputable def marked : Nat → List S52 → List S52
  | _, [] => []
  | k, _ :: l => ⟨mt k, mt (k + 1), ((k + 2 : Nat) : Int)⟩ :: marked (k + 3) l
theorem marked_length (l : List S52) : ∀ k, (marked k l).length = l.length := by
  induction l with
  | nil => intro k; rfl
  | cons x l ih => intro k; show (marked (k + 3) l).length + 1 = l.length + 1; rw [ih]
theorem marked_append (a b : List S52) : ∀ k, marked k (a ++ b) = marked k a ++ marked (k + 3 * a.length) b := by
  induction a with
  | nil => intro k; rfl
  | cons x a ih =>
    intro k
    show _ :: marked (k + 3) (a ++ b) = _ :: (marked (k + 3) a ++ _)
    rw [ih, show k + 3 + 3 * a.length = k + 3 * (x :: a).length by simp; omega]
theorem set_here {α : Type} (a b : List α) (x y : α) (i : Nat) (h : a.length = i) : (a ++ x :: b).set i y = a ++ y :: b := by
  subst h
  rw [List.set_append_right _ _ (Nat.le_refl _), Nat.sub_self]
  rfl
theorem rd_here (a b : List S52) (x : S52) (i : Nat) (h : a.length = i) : rd_T52 (a ++ x :: b) (i : Int) = x := by
  subst h
  rw [rd52 _ _ (by simp)]
  simp
theorem markFileS_loop (l : List S52) (hl : l.length ≤ 1048577) : ∀ d i : Nat, i + d = l.length →
    Ev (fun j => laws_markFileS.l0 j (marked 1 (l.take i) ++ l.drop i) ((1 + 3 * i : Nat) : Int) (i : Int)) (((1 + 3 * l.length : Nat) : Int), marked 1 l) := by
  intro d
  induction d with
  | zero =>
    intro i hi
    refine Ev.step (f := fun _ => some (((1 + 3 * l.length : Nat) : Int), marked 1 l)) (fun j => ?_) (Ev.now _)
    have e : marked 1 (l.take i) ++ l.drop i = marked 1 l := by rw [List.drop_eq_nil_of_le (by omega), List.append_nil, List.take_of_length_le (by omega)]
    rw [e, laws_markFileS.l0, if_neg (by rw [marked_length]; omega), show i = l.length by omega]
  | succ d ih =>
    intro i hi
    have hlt : i < l.length := by omega
    have hm : (marked 1 (l.take i)).length = i := by rw [marked_length, List.length_take]; omega
    have hlen : (marked 1 (l.take i) ++ l.drop i).length = l.length := by rw [List.length_append, hm, List.length_drop]; omega
    rw [drop_at l i hlt] at hlen ⊢
    generalize hA : marked 1 (l.take i) = A at hm hlen ⊢
    have e1 : wrap64 (((1 + 3 * i : Nat) : Int) + 1) = ((1 + 3 * i + 1 : Nat) : Int) := by rw [wrap_ok] <;> omega
    have e2 : wrap64 (((1 + 3 * i + 1 : Nat) : Int) + 1) = ((1 + 3 * i + 2 : Nat) : Int) := by rw [wrap_ok] <;> omega
    have e3 : wrap64 (((1 + 3 * i + 2 : Nat) : Int) + 1) = ((1 + 3 * (i + 1) : Nat) : Int) := by rw [wrap_ok] <;> omega
    have e4 : wrap64 ((i : Int) + 1) = ((i + 1 : Nat) : Int) := wrap_succ (by omega)
    have h2 := ih (i + 1) (by omega)
    have e5 : marked 1 (l.take (i + 1)) ++ l.drop (i + 1) = A ++ ⟨mt (1 + 3 * i), mt (1 + 3 * i + 1), ((1 + 3 * i + 2 : Nat) : Int)⟩ :: l.drop (i + 1) := by
      rw [take_at l i hlt, marked_append, hA, List.length_take, Nat.min_eq_left (by omega), List.append_assoc]
      rfl
    rw [e5] at h2
    refine Ev.step (f := fun j => ((laws_markText.f j ((1 + 3 * i : Nat) : Int)).bind fun t231 => ((laws_markText.f j ((1 + 3 * i + 1 : Nat) : Int)).bind fun t233 => (laws_markFileS.l0 j (A ++ (⟨t231, t233, ((1 + 3 * i + 2 : Nat) : Int)⟩ : S52) :: l.drop (i + 1)) ((1 + 3 * (i + 1) : Nat) : Int) ((i + 1 : Nat) : Int))))) (fun j => ?_) (Ev.bind (mt_eq _ (by omega)) (Ev.bind (mt_eq _ (by omega)) h2))
    rw [laws_markFileS.l0, if_pos (by rw [hlen]; omega)]
    have e6 : ((0 : Int) ≤ (i : Int)) = True := eq_true (by omega)
    simp only [Option.bind_some, Int.toNat_natCast, e1, e2, e3, e4, e6, if_true, rd_here A _ _ i hm, set_here A _ _ _ i hm]
theorem markFS_eq (l : List S52) (q f : Int) (hl : l.length ≤ 1048577) : Ev (fun j => laws_markFS.f j l q f 1) (((1 + 3 * l.length : Nat) : Int), marked 1 l) := by
  refine Ev.bind (a := (((1 + 3 * l.length : Nat) : Int), marked 1 l)) ?_ (Ev.now _)
  have := markFileS_loop l hl l.length 0 (by omega)
  exact this
theorem heldFileS_loop (l : List S52) (hl : l.length ≤ 1048577) : ∀ d i : Nat, i + d = l.length →
    Ev (fun j => laws_heldFileS.l0 j (marked 1 l) ((1 + 3 * i : Nat) : Int) (i : Int)) ((1 + 3 * l.length : Nat) : Int) := by
  intro d
  induction d with
  | zero =>
    intro i hi
    refine Ev.step (f := fun _ => some ((1 + 3 * l.length : Nat) : Int)) (fun j => ?_) (Ev.now _)
    rw [laws_heldFileS.l0, if_neg (by rw [marked_length]; omega), show i = l.length by omega]
  | succ d ih =>
    intro i hi
    have hlt : i < l.length := by omega
    have hm : (marked 1 (l.take i)).length = i := by rw [marked_length, List.length_take]; omega
    have hlen := marked_length l 1
    have e0 : marked 1 l = marked 1 (l.take i) ++ ⟨mt (1 + 3 * i), mt (1 + 3 * i + 1), ((1 + 3 * i + 2 : Nat) : Int)⟩ :: marked (1 + 3 * i + 3) (l.drop (i + 1)) := by
      have : l = l.take i ++ l[i] :: l.drop (i + 1) := by rw [← drop_at l i hlt, List.take_append_drop]
      conv => lhs; rw [this, marked_append, List.length_take, Nat.min_eq_left (by omega)]
      rfl
    have e1 : wrap64 (((1 + 3 * i : Nat) : Int) + 1) = ((1 + 3 * i + 1 : Nat) : Int) := by rw [wrap_ok] <;> omega
    have e2 : wrap64 (((1 + 3 * i + 1 : Nat) : Int) + 1) = ((1 + 3 * i + 2 : Nat) : Int) := by rw [wrap_ok] <;> omega
    have e3 : wrap64 (((1 + 3 * i + 2 : Nat) : Int) + 1) = ((1 + 3 * (i + 1) : Nat) : Int) := by rw [wrap_ok] <;> omega
    have e4 : wrap64 ((i : Int) + 1) = ((i + 1 : Nat) : Int) := wrap_succ (by omega)
    have er : rd_T52 (marked 1 l) (i : Int) = ⟨mt (1 + 3 * i), mt (1 + 3 * i + 1), ((1 + 3 * i + 2 : Nat) : Int)⟩ := by rw [e0]; exact rd_here _ _ _ i hm
    have h2 := ih (i + 1) (by omega)
    refine Ev.step (f := fun j => ((laws_markText.f j ((1 + 3 * i : Nat) : Int)).bind fun t241 => (if (mt (1 + 3 * i)).toList = t241.toList then ((laws_markText.f j ((1 + 3 * i + 1 : Nat) : Int)).bind fun t243 => (if (mt (1 + 3 * i + 1)).toList = t243.toList then (laws_heldFileS.l0 j (marked 1 l) ((1 + 3 * (i + 1) : Nat) : Int) ((i + 1 : Nat) : Int)) else (some (-1)))) else (some (-1))))) (fun j => ?_) (Ev.bind (mt_eq _ (by omega)) (Ev.congr (fun j => if_pos rfl) (Ev.bind (mt_eq _ (by omega)) (Ev.congr (fun j => if_pos rfl) h2))))
    rw [laws_heldFileS.l0, if_pos (by rw [hlen]; omega)]
    have e6 : ((0 : Int) ≤ (i : Int)) = True := eq_true (by omega)
    simp only [e1, e2, e3, e4, er, e6, if_true]
theorem heldFS_eq (l : List S52) (q f : Int) (hl : l.length ≤ 1048577) : Ev (fun j => laws_heldFS.f j (marked 1 l) q f 1) ((1 + 3 * l.length : Nat) : Int) := by
  refine Ev.bind (a := ((1 + 3 * l.length : Nat) : Int)) ?_ (Ev.pure (fun k => if_neg (by omega)))
  have := heldFileS_loop l hl l.length 0 (by omega)
  exact this
end Go.Proofs.Ytbppijlcmeidaaa.M
end
section
/- The program's FsRename answers as the specification's at every directory and leaves what came in as it was: no condition beyond the law's own bounds of 2 to the 20. -/
namespace Go.Proofs.Ytbppijlcmeidaaa.Pure
open Go.RowKit Go.Proofs.Ytbppijlcmeidaaa.P Go.Proofs.YtbppijlcmeidaaaW.PrintWords Go.Proofs.YtbppijlcmeidaaaW.PrintLast Go.Proofs.Ytbppijlcmeidaaa.M
set_option linter.unusedVariables false
theorem Ev.shift {α : Type} {g : Nat → Option α} {r : α} (h : Ev (fun k => g (k + 1)) r) : Ev g r := Ev.step (fun _ => rfl) h
theorem FnExactFsRename (l : List S80) (q f : Int) (s : ByteArray) (d : ByteArray) (ok : Ok24 (l, q, f)) (_ : s.size ≤ 140737488351232) (_ : d.size ≤ 140737488351232) : ∃ k, laws_FnExactFsRename.f k l q f s d = some true := by
  refine Ev.rounds (r := true) ?_
  by_cases cs : (s.size : Int) > 1048576
  · exact M.Ev.pure (fun k => if_pos cs)
  by_cases cd : (d.size : Int) > 1048576
  · exact M.Ev.pure (fun k => (if_neg cs).trans (if_pos cd))
  refine Ev.congr (fun k => if_neg cs) (Ev.congr (fun k => if_neg cd) (Ev.bind (szFS_eq l q f ok.1) ?_))
  by_cases c : weight l ≤ 1048576
  rotate_left
  · rw [if_neg c]
    exact M.Ev.pure (fun k => if_pos (by omega))
  obtain ⟨hl0, ht, hn⟩ := weight_says l c
  have hf := (wf_bounds ok.2.2).2
  have hto := toFS_eq l q f hl0
  rw [if_pos c]
  refine Ev.congr (fun k => if_neg (by omega)) ?_
  have hl : (l.map conv).length ≤ 1048576 := by simpa using hl0
  generalize l.map conv = l' at hto ht hn hl
  have hsp := specRename_eq l' q f s d ht hl (fun x hx => (hn x hx).1) hf
  have him : ∀ k : Nat, impl_FsRename.f l' q f s d = some (fsRes l' q f (renameRes l' f s d)) := fun _ => by
    unfold impl_FsRename.f
    exact if_pos ⟨fun _ => Nat.le_trans ht (by omega), hf⟩
  have hr : (fsRes l' q f (renameRes l' f s d)).1.length ≤ 1048576 := fsRename_length l' q f s d hl
  generalize fsRes l' q f (renameRes l' f s d) = r at hsp him hr
  have he := eqFS_self r.1 r.2.1 r.2.2.1 hr
  have he' := eqFS_self l' q f hl
  have hm := markFS_eq r.1 r.2.1 r.2.2.1 (by omega)
  have hm' := markFS_eq l' q f (by omega)
  have hh := heldFS_eq r.1 r.2.1 r.2.2.1 (by omega)
  refine Ev.bind hto (Ev.bind hsp (Ev.bind hto (Ev.bind (M.Ev.pure him) (Ev.bind he (Ev.congr (fun k => if_pos rfl) ?_)))))
  refine Pure.Ev.shift ?_
  simp only [laws_FnExactFsRename.j0]
  refine Ev.congr (fun k => if_neg (by simp)) (Ev.bind hto (Ev.bind he' (Ev.congr (fun k => if_pos rfl) (Ev.bind hm' (Ev.congr (fun k => if_neg (by omega)) (Ev.bind he (Ev.congr (fun k => if_pos rfl) ?_)))))))
  refine Pure.Ev.shift ?_
  simp only [laws_FnExactFsRename.j1]
  refine Ev.congr (fun k => if_neg (by simp)) (Ev.bind hm (Ev.bind hh (Ev.congr (fun k => if_neg (by omega)) (Ev.congr (fun k => if_pos rfl) (Ev.bind hto (Ev.bind (M.Ev.pure him) (Ev.bind he (Ev.congr (fun k => if_pos rfl) (M.Ev.pure (fun k => if_pos rfl))))))))))
end Go.Proofs.Ytbppijlcmeidaaa.Pure
end
section
/- The law FnExactFsRename answers true at every argument that its row lets in. No condition beyond the row's own. -/
namespace Go.Proofs.Ytbppijlcmeidaaa.fnExactFsRename
open Go.ChangeShapes Go.WideShapes Go.ChangeAt Go.RowKit Go.Proofs.Ytbppijlcmeidaaa.P Go.Proofs.Ytbppijlcmeidaaa.M
open Go.ChangeMaps (open_string shut_string)
set_option linter.unusedVariables false
theorem own : ownKnob Try.prog.godebug = none := by kernel_rfl
theorem laidOut : laidOutB Try.prog = true := by kernel_rfl
set_option maxRecDepth 100000 in
theorem lifted (os : Os) (started : os.Started) (H : Type) (enc : TypeId × Value → H) :
    ReturnsInHanded {} Try.checked os 11 .any (Rows.fnExactFsRenameSpec.pre6 enc Try.prog Try.f11 Rows.fnExactFsRenameRow.domain false) (Rows.fnExactFsRenameSpec.post enc Try.prog Try.f11 false true false false) := by
  refine returnsInHanded_of_change_sized (C := Try.checked) own started (by kernel_rfl) Try.func11
    (ChangeSpec.witness6 (enc := enc) (C := Try.checked) false ⟨#[], #[.agg #[.slice none 0 0, .int .i64 0, .int .i64 0], .string ByteArray.empty, .string ByteArray.empty], []⟩ 8 (by kernel_rfl) (by kernel_rfl) (by kernel_rfl) (by kernel_rfl)) ?_
  intro W base args ds gs before hval0 hW hcnd hsz0 _
  have hsz : (DataW.weightsEach Try.prog (Try.f11.params.toList ++ Rows.fnExactFsRenameSpec.plain.varTypes Try.prog) (ds ++ gs)).all (· ≤ reachBytes) = true := hsz0
  have hval : ∀ (j : Nat) t v, Try.f11.params[j]? = some t → args[j]? = some v → Value.okWide Try.prog W .any base t v := hval0
  have hW' := hW
  obtain ⟨p, q, hA0, hV, rfl, hfz, hnd⟩ := hW
  have hA : DataW.TrodAll enc Try.prog W 0 (fun _ => true) true Try.f11.params.toList args.toList ds p := hA0
  rw [Try.params11] at hA hval hsz
  obtain ⟨v0, vs0, d0, ds0, p0, q0, hargs, rfl, rfl, h0, r0⟩ := trodAll_cons hA
  obtain ⟨v1, vs1, d1, ds1, p1, q1, rfl, rfl, rfl, h1, r1⟩ := trodAll_cons r0
  obtain ⟨v2, vs2, d2, ds2, p2, q2, rfl, rfl, rfl, h2, r2⟩ := trodAll_cons r1
  obtain ⟨rfl, rfl, rfl⟩ := trodAll_nil r2
  obtain rfl : args = #[v0, v1, v2] := by cases args; simp_all
  obtain ⟨rfl, rfl⟩ := trodVars_none hV
  have k0 := h0
  have lt0 : ∀ x ∈ p0, x.block < W.heap.size := by obtain ⟨m, hm⟩ := k0; exact DataW.trod_lt m _ _ _ hm
  obtain ⟨cs0, rfl, _⟩ := okWide_struct Try.underlying24 (hval 0 24 v0 rfl rfl)
  obtain ⟨⟨l0_0, a0_1, a0_2⟩, K0, ok0⟩ := open_arg o24 hsz (j := 0) rfl rfl h0
  obtain ⟨_, _, e0, ⟨A0_0, c0_0, rfl, hc0_0, hr0_0⟩, ⟨_, _, rfl, rfl, rfl⟩⟩ := K0
  obtain rfl : cs0 = #[.slice A0_0 l0_0.length c0_0, .int .i64 a0_1, .int .i64 a0_2] := by apply Array.ext'; simpa [Value.cells] using e0
  obtain ⟨a1, rfl, rfl, rfl, y1⟩ := open_string Try.underlying9 (hval 1 9 v1 rfl rfl) h1
  have w1 : a1.size ≤ 140737488351232 := by
    have z := sized_string hsz (j := 1) (t := 9) rfl rfl
    rw [Array.length_toList] at z
    exact z
  obtain ⟨a2, rfl, rfl, rfl, y2⟩ := open_string Try.underlying9 (hval 2 9 v2 rfl rfl) h2
  have w2 : a2.size ≤ 140737488351232 := by
    have z := sized_string hsz (j := 2) (t := 9) rfl rfl
    rw [Array.length_toList] at z
    exact z
  clear hA0 hval0 hsz0 hsz
  obtain ⟨k, hp⟩ := Pure.FnExactFsRename l0_0 a0_1 a0_2 a1 a2 ok0 w1 w2
  refine (laws_FnExactFsRename.calls k A0_0 c0_0 l0_0 a0_1 a0_2 a1 a2 W hr0_0 hc0_0 hp).mono fun e W' ⟨he, bel⟩ => ?_
  subst he
  exact ⟨_, rfl, _, _, _, [], _, [], hW', trodAll_mk1 (shut_bool Try.underlying4 _), (trodAll_cons_mk (Below.trod laidOut (by kernel_rfl) (of_decide_eq_true (by kernel_rfl)) k0 bel lt0) (trodAll_cons_mk (shut_string Try.underlying9 y1) (trodAll_cons_mk (shut_string Try.underlying9 y2) trodAll_mk0))), rfl, bel.frame _, fun h => by cases h⟩
theorem over : Rows.fnExactFsRenameRow.holds Try.pinned (OpenSpec.ofChange Rows.fnExactFsRenameSpec) :=
  OpenClaim.holds_of_wide 11 Try.f11 rfl rfl rfl rfl rfl rfl rfl ⟨rfl, rfl, rfl, rfl, rfl⟩ rfl rfl rfl rfl rfl (by kernel_rfl) Try.func11 (by kernel_rfl)
    (of_decide_eq_true (by kernel_rfl)) (by unfold Func.isWrapper; first | (rw [if_pos (by decide +kernel)]; kernel_rfl) | (rw [if_neg (by decide +kernel)]; exact ⟨rfl, rfl⟩))
    (fun os started H enc _ => lifted os started H enc)
theorem proved : Rows.FnExactFsRenameSaid := over
#print axioms proved
end Go.Proofs.Ytbppijlcmeidaaa.fnExactFsRename
namespace Go.Proofs.Ytbppijlcmeidaaa
/-- The row, under a short name, for the claim. -/
theorem fnExactFsRename_holds : Rows.FnExactFsRenameSaid := fnExactFsRename.proved
end Go.Proofs.Ytbppijlcmeidaaa
end

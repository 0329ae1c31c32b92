/- Texts of the claim FnExactDecodeEntries, part 33 of 33, joined: PlawstoEntry, PlawstoEntryS, MEntLaw, MSpecEnc, MSpecDec, MMark, PureFnExactDecodeEntries, RowFnExactDecodeEntries. No condition beyond those that stand at each. -/
import Derived.Test.YtjneloehdcecnaaZFnExactDecodeEntries26
import Derived.Test.YtjneloehdcecnaaZFnExactDecodeEntries32
import Derived.Test.YtjneloehdcecnaaZFnExactDecodeEntries27
import Derived.Test.YtjneloehdcecnaaZFnExactDecodeEntries22
import Derived.Test.YtjneloehdcecnaaZFnExactDecodeEntries29
import Derived.Test.YtjneloehdcecnaaZFnExactDecodeEntries31
import Derived.Test.YtjneloehdcecnaaZFnExactDecodeEntries28
import Derived.Test.YtjneloehdcecnaaZFnExactDecodeEntries30
import Derived.Test.YtjneloehdcecnaaRows
import Derived.WalkKit
import Derived.ProofKit
import Derived.OpenShut
import Derived.ShutString
import Derived.ChangeOld
import Derived.Below
import Derived.SizedLaws
section
-- Written by a changed copy of the print program, one module a function. Not trusted: Lean checks it.
namespace Go.Proofs.Ytjneloehdcecnaa.P
open Go.RowKit Go.Proofs.YtjneloehdcecnaaW.PrintWords Go.Proofs.YtjneloehdcecnaaW.PrintLast Go.Proofs.YtjneloehdcecnaaW.PrintMore
attribute [local go_sem] max2_int min2_int max_two min_two max_three min_three max_four min_four   -- for this text's walks alone
set_option linter.unusedVariables false
set_option linter.unusedSimpArgs false

/-! ### laws_toEntry: function 44 -/
def laws_toEntry.f (a0_0 : ByteArray) (a0_1 : Int) (a0_2 : Int) (a0_3 : ByteArray) : Option (ByteArray × Int × Int × ByteArray) := some (a0_0, a0_1, a0_2, a0_3)
set_option maxHeartbeats 8000000 in
set_option maxRecDepth 100000 in
theorem laws_toEntry.calls (a0_0 : ByteArray) (a0_1 : Int) (a0_2 : Int) (a0_3 : ByteArray) (r1 : ByteArray) (r2 : Int) (r3 : Int) (r4 : ByteArray) (w : World) (h : laws_toEntry.f a0_0 a0_1 a0_2 a0_3 = some (r1, r2, r3, r4)) :
  Calls Try.prog 44 #[.agg #[.string a0_0, .int .i64 a0_1, .int .i64 a0_2, .string a0_3]] w fun e w' => e = .returned (.agg #[.string r1, .int .i64 r2, .int .i64 r3, .string r4]) ∧ Below w.heap.size w w' := by
 have hu68 := Try.underlying68
 have hu71 := Try.underlying71
 have HB := Aside0.mk (Below.refl w.heap.size w)
 have H : (some (a0_0, a0_1, a0_2, a0_3)) = some (r1, r2, r3, r4) := h
 clear h
 simp only [Option.some.injEq, Prod.mk.injEq] at H
 obtain ⟨rfl, rfl, rfl, rfl⟩ := H
 go_enter Try.func44, Try.ntmps44
 go_wp2_with (first | ((with_reducible refine gate_dst (N := 1) rfl ?_); refine box_event ?hg (N := 1) ?hd (cs := #[.string a0_0, .int .i64 a0_1, .int .i64 a0_2, .string a0_3]) (t := 68) ?hr ?_; (case hd => rfl); (case hg => rfl); (case hr => first | (go_simp; done) | (go_simp; rfl)); intro gb139 hg w2 hbox hb; have n0_ := Aside0.mk (below_step (by repeat (first | (with_reducible first | exact HB.out | apply below_alloc | apply pw_below_drewN | apply below_drew1) | exact HB.out)) hb); have n1_ := Aside0.mk (hbox); have n2_ := Aside0.mk ((by rw [hg]; exact (below_size (by repeat (first | (with_reducible first | exact HB.out | apply below_alloc | apply pw_below_drewN | apply below_drew1) | exact HB.out))) : w.heap.size ≤ gb139)); have n3_ := Aside0.mk ((by rw [hg]; exact (below_size (by repeat (first | (with_reducible first | exact HB.out | apply below_alloc | apply pw_below_drewN | apply below_drew1) | exact HB.out))) : w.heap.size ≤ gb139)); clear HB; have HB := n0_; have BK139 := n1_; have GW139 := n2_; have GE139 := n3_; clear n0_ n1_ n2_ n3_; clear hb hbox hg) | ((with_reducible refine gate_dst (N := 2) rfl ?_); refine box_event ?hg (N := 2) ?hd (cs := #[.string (⟨#[]⟩ : ByteArray), .int .i64 0, .int .i64 0, .string (⟨#[]⟩ : ByteArray)]) (t := 71) ?hr ?_; (case hd => rfl); (case hg => rfl); (case hr => first | (go_simp; done) | (go_simp; rfl)); intro gb140 hg w3 hbox hb; have n0_ := Aside0.mk (blk_below (g := gb139) (o := .cells #[.string a0_0, .int .i64 a0_1, .int .i64 a0_2, .string a0_3] 68 (0, 0)) (by (with_reducible repeat (first | refine blk_drewN ?_ _ | refine blk_drew ?_ | refine blk_alloc ?_ _)); exact BK139.out) hb); have n1_ := Aside0.mk (below_step (by repeat (first | (with_reducible first | exact HB.out | apply below_alloc | apply pw_below_drewN | apply below_drew1 | refine below_set ?_ GE139.out) | exact HB.out)) hb); have n2_ := Aside0.mk (hbox); have n3_ := Aside0.mk ((by rw [hg]; exact (below_size (by repeat (first | (with_reducible first | exact HB.out | apply below_alloc | apply pw_below_drewN | apply below_drew1 | refine below_set ?_ GE139.out) | exact HB.out))) : w.heap.size ≤ gb140)); have n4_ := Aside0.mk ((by rw [hg]; exact (below_size (by repeat (first | (with_reducible first | exact HB.out | apply below_alloc | apply pw_below_drewN | apply below_drew1 | refine below_set ?_ GE139.out) | exact HB.out))) : w.heap.size ≤ gb140)); have n5_ := Aside0.mk ((by rw [hg]; exact Nat.ne_of_lt (blk_lt (g := gb139) (o := .cells #[.string a0_0, .int .i64 a0_1, .int .i64 a0_2, .string a0_3] 68 (0, 0)) (by (with_reducible repeat (first | refine blk_drewN ?_ _ | refine blk_drew ?_ | refine blk_alloc ?_ _)); exact BK139.out)) : gb139 ≠ gb140)); have n6_ := Aside0.mk ((by rw [hg]; exact Nat.ne_of_gt (blk_lt (g := gb139) (o := .cells #[.string a0_0, .int .i64 a0_1, .int .i64 a0_2, .string a0_3] 68 (0, 0)) (by (with_reducible repeat (first | refine blk_drewN ?_ _ | refine blk_drew ?_ | refine blk_alloc ?_ _)); exact BK139.out)) : gb140 ≠ gb139)); clear BK139; clear HB; have BK139 := n0_; have HB := n1_; have BK140 := n2_; have GW140 := n3_; have GE140 := n4_; have NB139_140 := n5_; have NB140_139 := n6_; clear n0_ n1_ n2_ n3_ n4_ n5_ n6_; clear hb hbox hg) | ((with_reducible refine gate_dst (N := 3) rfl ?_); refine box_event ?hg (N := 3) ?hd (cs := #[.string (⟨#[]⟩ : ByteArray), .int .i64 0, .int .i64 0, .string (⟨#[]⟩ : ByteArray)]) (t := 71) ?hr ?_; (case hd => rfl); (case hg => rfl); (case hr => first | (go_simp; done) | (go_simp; rfl)); intro gb141 hg w4 hbox hb; have n0_ := Aside0.mk (blk_below (g := gb139) (o := .cells #[.string a0_0, .int .i64 a0_1, .int .i64 a0_2, .string a0_3] 68 (0, 0)) (by (with_reducible repeat (first | refine blk_drewN ?_ _ | refine blk_drew ?_ | refine blk_alloc ?_ _)); exact BK139.out) hb); have n1_ := Aside0.mk (blk_below (g := gb140) (o := .cells #[.string (⟨#[]⟩ : ByteArray), .int .i64 0, .int .i64 0, .string (⟨#[]⟩ : ByteArray)] 71 (0, 0)) (by (with_reducible repeat (first | refine blk_drewN ?_ _ | refine blk_drew ?_ | refine blk_alloc ?_ _)); exact BK140.out) hb); have n2_ := Aside0.mk (below_step (by repeat (first | (with_reducible first | exact HB.out | apply below_alloc | apply pw_below_drewN | apply below_drew1 | refine below_set ?_ GE139.out | refine below_set ?_ GE140.out) | exact HB.out)) hb); have n3_ := Aside0.mk (hbox); have n4_ := Aside0.mk ((by rw [hg]; exact (below_size (by repeat (first | (with_reducible first | exact HB.out | apply below_alloc | apply pw_below_drewN | apply below_drew1 | refine below_set ?_ GE139.out | refine below_set ?_ GE140.out) | exact HB.out))) : w.heap.size ≤ gb141)); have n5_ := Aside0.mk ((by rw [hg]; exact (below_size (by repeat (first | (with_reducible first | exact HB.out | apply below_alloc | apply pw_below_drewN | apply below_drew1 | refine below_set ?_ GE139.out | refine below_set ?_ GE140.out) | exact HB.out))) : w.heap.size ≤ gb141)); have n6_ := Aside0.mk ((by rw [hg]; exact Nat.ne_of_lt (blk_lt (g := gb139) (o := .cells #[.string a0_0, .int .i64 a0_1, .int .i64 a0_2, .string a0_3] 68 (0, 0)) (by (with_reducible repeat (first | refine blk_drewN ?_ _ | refine blk_drew ?_ | refine blk_alloc ?_ _)); exact BK139.out)) : gb139 ≠ gb141)); have n7_ := Aside0.mk ((by rw [hg]; exact Nat.ne_of_gt (blk_lt (g := gb139) (o := .cells #[.string a0_0, .int .i64 a0_1, .int .i64 a0_2, .string a0_3] 68 (0, 0)) (by (with_reducible repeat (first | refine blk_drewN ?_ _ | refine blk_drew ?_ | refine blk_alloc ?_ _)); exact BK139.out)) : gb141 ≠ gb139)); have n8_ := Aside0.mk ((by rw [hg]; exact Nat.ne_of_lt (blk_lt (g := gb140) (o := .cells #[.string (⟨#[]⟩ : ByteArray), .int .i64 0, .int .i64 0, .string (⟨#[]⟩ : ByteArray)] 71 (0, 0)) (by (with_reducible repeat (first | refine blk_drewN ?_ _ | refine blk_drew ?_ | refine blk_alloc ?_ _)); exact BK140.out)) : gb140 ≠ gb141)); have n9_ := Aside0.mk ((by rw [hg]; exact Nat.ne_of_gt (blk_lt (g := gb140) (o := .cells #[.string (⟨#[]⟩ : ByteArray), .int .i64 0, .int .i64 0, .string (⟨#[]⟩ : ByteArray)] 71 (0, 0)) (by (with_reducible repeat (first | refine blk_drewN ?_ _ | refine blk_drew ?_ | refine blk_alloc ?_ _)); exact BK140.out)) : gb141 ≠ gb140)); clear BK139; clear BK140; clear HB; have BK139 := n0_; have BK140 := n1_; have HB := n2_; have BK141 := n3_; have GW141 := n4_; have GE141 := n5_; have NB139_141 := n6_; have NB141_139 := n7_; have NB140_141 := n8_; have NB141_140 := n9_; clear n0_ n1_ n2_ n3_ n4_ n5_ n6_ n7_ n8_ n9_; clear hb hbox hg; have hnb5 := NB139_140.out; have hnc5 := NB140_139.out; have hnb6 := NB139_141.out; have hnc6 := NB141_139.out; have hcz7_0 : w4.cell? ⟨gb139, 0, none⟩ = some (.string a0_0) := (blk_cell BK139.out 0).trans rfl; have hcz7_1 : w4.cell? ⟨gb139, 1, none⟩ = some (.int .i64 a0_1) := (blk_cell BK139.out 1).trans rfl; have hcz7_2 : w4.cell? ⟨gb139, 2, none⟩ = some (.int .i64 a0_2) := (blk_cell BK139.out 2).trans rfl; have hcz7_3 : w4.cell? ⟨gb139, 3, none⟩ = some (.string a0_3) := (blk_cell BK139.out 3).trans rfl; have hfz7_0 := blk_frozen BK139.out 0; have hfz7_1 := blk_frozen BK139.out 1; have hfz7_2 := blk_frozen BK139.out 2; have hfz7_3 := blk_frozen BK139.out 3; have hnb8 := NB141_140.out; have hnc8 := NB140_141.out; have hcz9_0 : w4.cell? ⟨gb141, 0, none⟩ = some (.string (⟨#[]⟩ : ByteArray)) := (blk_cell BK141.out 0).trans rfl; have hcz9_1 : w4.cell? ⟨gb141, 1, none⟩ = some (.int .i64 0) := (blk_cell BK141.out 1).trans rfl; have hcz9_2 : w4.cell? ⟨gb141, 2, none⟩ = some (.int .i64 0) := (blk_cell BK141.out 2).trans rfl; have hcz9_3 : w4.cell? ⟨gb141, 3, none⟩ = some (.string (⟨#[]⟩ : ByteArray)) := (blk_cell BK141.out 3).trans rfl; have hfz9_0 := blk_frozen BK141.out 0; have hfz9_1 := blk_frozen BK141.out 1; have hfz9_2 := blk_frozen BK141.out 2; have hfz9_3 := blk_frozen BK141.out 3; have hcz10_0 : w4.cell? ⟨gb140, 0, none⟩ = some (.string (⟨#[]⟩ : ByteArray)) := (blk_cell BK140.out 0).trans rfl; have hcz10_1 : w4.cell? ⟨gb140, 1, none⟩ = some (.int .i64 0) := (blk_cell BK140.out 1).trans rfl; have hcz10_2 : w4.cell? ⟨gb140, 2, none⟩ = some (.int .i64 0) := (blk_cell BK140.out 2).trans rfl; have hcz10_3 : w4.cell? ⟨gb140, 3, none⟩ = some (.string (⟨#[]⟩ : ByteArray)) := (blk_cell BK140.out 3).trans rfl; have hfz10_0 := blk_frozen BK140.out 0; have hfz10_1 := blk_frozen BK140.out 1; have hfz10_2 := blk_frozen BK140.out 2; have hfz10_3 := blk_frozen BK140.out 3))
 refine bodyPost_ret (results_cell_row rfl _ _ gb140 71 #[.string a0_0, .int .i64 a0_1, .int .i64 a0_2, .string a0_3] (0, 0) _ rfl (by (with_reducible repeat (first | refine blk_drewN ?_ _ | refine blk_drew ?_ | refine blk_alloc ?_ _)); refine blk_put (cs := #[.string a0_0, .int .i64 a0_1, .int .i64 a0_2, .string (⟨#[]⟩ : ByteArray)]) ?_ 3 _ rfl; (with_reducible repeat (first | refine blk_drewN ?_ _ | refine blk_drew ?_ | refine blk_alloc ?_ _)); refine blk_put (cs := #[.string a0_0, .int .i64 a0_1, .int .i64 0, .string (⟨#[]⟩ : ByteArray)]) ?_ 2 _ rfl; (with_reducible repeat (first | refine blk_drewN ?_ _ | refine blk_drew ?_ | refine blk_alloc ?_ _)); refine blk_put (cs := #[.string a0_0, .int .i64 0, .int .i64 0, .string (⟨#[]⟩ : ByteArray)]) ?_ 1 _ rfl; (with_reducible repeat (first | refine blk_drewN ?_ _ | refine blk_drew ?_ | refine blk_alloc ?_ _)); refine blk_put (cs := #[.string (⟨#[]⟩ : ByteArray), .int .i64 0, .int .i64 0, .string (⟨#[]⟩ : ByteArray)]) ?_ 0 _ rfl; (with_reducible repeat (first | refine blk_drewN ?_ _ | refine blk_drew ?_ | refine blk_alloc ?_ _)); refine blk_far ?_ NB140_141.out _; (with_reducible repeat (first | refine blk_drewN ?_ _ | refine blk_drew ?_ | refine blk_alloc ?_ _)); refine blk_far ?_ NB140_141.out _; (with_reducible repeat (first | refine blk_drewN ?_ _ | refine blk_drew ?_ | refine blk_alloc ?_ _)); refine blk_far ?_ NB140_141.out _; (with_reducible repeat (first | refine blk_drewN ?_ _ | refine blk_drew ?_ | refine blk_alloc ?_ _)); refine blk_far ?_ NB140_141.out _; (with_reducible repeat (first | refine blk_drewN ?_ _ | refine blk_drew ?_ | refine blk_alloc ?_ _)); exact BK140.out) Try.underlying71 rfl (by kernel_rfl)) rfl ?_
 exact ⟨by first | rfl | (simp [errW_none, errW_some] <;> rfl) | (simp [*, errW_none, errW_some] <;> rfl), by repeat (first | (with_reducible first | exact HB.out | apply below_alloc | apply pw_below_drewN | apply below_drew1 | refine below_set ?_ GE139.out | refine below_set ?_ GE140.out | refine below_set ?_ GE141.out) | exact HB.out)⟩

end Go.Proofs.Ytjneloehdcecnaa.P
end
section
-- Written by a changed copy of the print program, one module a function. Not trusted: Lean checks it.
namespace Go.Proofs.Ytjneloehdcecnaa.P
open Go.RowKit Go.Proofs.YtjneloehdcecnaaW.PrintWords Go.Proofs.YtjneloehdcecnaaW.PrintLast Go.Proofs.YtjneloehdcecnaaW.PrintMore
attribute [local go_sem] max2_int min2_int max_two min_two max_three min_three max_four min_four   -- for this text's walks alone
set_option linter.unusedVariables false
set_option linter.unusedSimpArgs false

/-! ### laws_toEntryS: function 17 -/
def laws_toEntryS.l0 : Nat → List (S68) → List (S71) → Int → Option ((List (S71)))
 | 0, _, _, _ => none
 | k + 1, x0, x3, x4 => if x4 < (x0.length : Int) then (if 0 ≤ x4 then ((laws_toEntry.f ((rd_T68 x0 x4).f0) ((rd_T68 x0 x4).f1) ((rd_T68 x0 x4).f2) ((rd_T68 x0 x4).f3)).bind fun bt146 => (if x4 < (x3.length : Int) then (laws_toEntryS.l0 k x0 (x3.set (x4 : Int).toNat (⟨bt146.1, bt146.2.1, bt146.2.2.1, bt146.2.2.2⟩ : S71)) (wrap64 (x4 + 1))) else (none))) else (none)) else (some x3)
def laws_toEntryS.f (k : Nat) (l0 : List (S68)) : Option ((List (S71))) := if 0 ≤ (l0.length : Int) then (if ((l0.length : Int) : Int).toNat ≤ 5864062014805 then (laws_toEntryS.l0 k l0 (List.replicate ((l0.length : Int) : Int).toNat z71) 0) else (none)) else (none)
theorem laws_toEntryS.mono_l : ∀ k, (∀ y0 y1 y2, LeO (laws_toEntryS.l0 k y0 y1 y2) (laws_toEntryS.l0 (k + 1) y0 y1 y2))
 | 0 => fun _ _ _ r h => by simp [laws_toEntryS.l0] at h
 | k + 1 => by
  have ih0 := laws_toEntryS.mono_l k
  ·intro y0 y1 y2
   unfold laws_toEntryS.l0
   repeat' first
   | (with_reducible exact ih0 _ _ _)
   | (with_reducible exact LeO.refl _)
   | (with_reducible exact LeO.none _)
   | (with_reducible refine LeO.ite ?_ ?_)
   | (with_reducible refine LeO.bind ?_ (fun _ => ?_))
   | exact ih0 _ _ _
   | exact LeO.none _
   | refine LeO.ite ?_ ?_
   | refine LeO.bind ?_ (fun _ => ?_)
theorem laws_toEntryS.mono : ∀ a0 k, LeO (laws_toEntryS.f k a0) (laws_toEntryS.f (k + 1) a0) := by
 intro a0 k
 have ih0 := laws_toEntryS.mono_l k
 unfold laws_toEntryS.f
 repeat' first
   | (with_reducible exact ih0 _ _ _)
   | (with_reducible exact LeO.refl _)
   | (with_reducible exact LeO.none _)
   | (with_reducible refine LeO.ite ?_ ?_)
   | (with_reducible refine LeO.bind ?_ (fun _ => ?_))
   | exact ih0 _ _ _
   | exact LeO.none _
   | refine LeO.ite ?_ ?_
   | refine LeO.bind ?_ (fun _ => ?_)
set_option maxHeartbeats 8000000 in
set_option maxRecDepth 100000 in
theorem laws_toEntryS.calls (k : Nat) (A0 : Option Addr) (c0 : Nat) (l0 : List (S68)) (r : List (S71)) (w : World) (hr0 : Kd.C k68 w A0 l0.length l0) (hc0 : l0.length ≤ c0) (h : laws_toEntryS.f k l0 = some r) :
  Calls Try.prog 17 #[.slice A0 l0.length c0] w fun e w' => ∃ v0_ : Value, e = .returned (v0_) ∧ Kd.R k71 71 w' w.heap.size (fun _ => True) v0_ r ∧ Below w.heap.size w w' := by
 have hu68 := Try.underlying68
 have hu71 := Try.underlying71
 have HR0 := Aside0.mk hr0
 have HC0 := Aside0.mk hc0
 clear hr0 hc0
 have HB := Aside0.mk (Below.refl w.heap.size w)
 have H : (if 0 ≤ (l0.length : Int) then (if ((l0.length : Int) : Int).toNat ≤ 5864062014805 then (laws_toEntryS.l0 k l0 (List.replicate ((l0.length : Int) : Int).toNat z71) 0) else (none)) else (none)) = some r := h
 clear h
 by_cases c2 : 0 ≤ (l0.length : Int)
 ·rw [if_pos c2] at H
  have c2b0 := eq_true c2
  have c2b1 : decide (0 ≤ (l0.length : Int)) = true := decide_eq_true c2
  clear c2
  by_cases c3 : ((l0.length : Int) : Int).toNat ≤ 5864062014805
  ·rw [if_pos c3] at H
   have c3b0 := eq_true c3
   have c3b1 : decide (((l0.length : Int) : Int).toNat ≤ 5864062014805) = true := decide_eq_true c3
   clear c3
   obtain ⟨y142, hy142⟩ : ∃ y_ : List (S71), y_ = (List.replicate ((l0.length : Int) : Int).toNat z71) := ⟨_, rfl⟩
   replace H : (laws_toEntryS.l0 k l0 y142 0) = some r := by first | (rw [hy142]; with_reducible exact H) | (have H2_ := (Option.bind_some _ _).symm.trans H; rw [hy142]; with_reducible exact H2_) | (have H2_ := (Option.bind_some _ _).symm.trans H; with_reducible exact H2_) | with_reducible exact H | (rw [hy142]; exact H) | exact H
   have Ny142 := Aside0.mk hy142
   clear hy142
   have H' := Aside0.mk H
   clear H
   go_enter Try.func17, Try.ntmps17
   go_wp2_with (first | ((with_reducible refine gate_dst (N := 7) rfl ?_); refine Kd.R_make k71 _ 71 rfl (N := 7) rfl 31 _ _ rfl (l0.length : Int) rfl rfl Try.underlying31 (.agg #[(.string ⟨#[]⟩), (.int .i64 0), (.int .i64 0), (.string ⟨#[]⟩)]) 48 info71 rfl (by decide) (by omega) z71 (ok := fun _ => True) (okp := fun _ => True) (k71_mkM _ _ _ z71 ) (fun _ hk => hk) trivial (of_decide_eq_true (by first | (with_reducible assumption) | assumption)) (Nat.le_trans (Nat.mul_le_mul_right _ (of_decide_eq_true (by first | (with_reducible assumption) | assumption) : (l0.length : Int).toNat ≤ 5864062014805)) (by omega)) (Below.refl _ _) (Nat.le_refl _) ?_; intro v143 w4 ho5 hb hg_ hnew_; clear hg_ hnew_; (first | rw [← Ny142.out] at ho5 | (simp only [Int.reduceToNat] at ho5; rw [← Ny142.out] at ho5)); have n0_ := Aside0.mk (Kd.R_lower ho5 (below_size (by repeat (first | (with_reducible first | exact HB.out | apply below_alloc | apply pw_below_drewN | apply below_drew1) | exact HB.out)))); have n1_ := Aside0.mk (below_step (by repeat (first | (with_reducible first | exact HB.out | apply below_alloc | apply pw_below_drewN | apply below_drew1) | exact HB.out)) hb); clear HB; have HO144 := n0_; have HB := n1_; clear n0_ n1_; clear hb ho5))
   go_loopg [4] k (fun kq v4 w' => ∃ (x3_1 : List (S71)) (x4_1 : Int), v4 = .int .i64 x4_1 ∧ Aside0 (laws_toEntryS.l0 kq l0 x3_1 x4_1 = some r) ∧ Aside0 (kq ≤ k) ∧ Aside0 (Kd.R k71 71 w' w.heap.size (fun _ => True) v143 x3_1) ∧ Aside0 (Below w.heap.size w w'))
   case atStart => exact ⟨(y142), (0), (by first | rfl | (simp; done) | (simp [*]; done)), H', ⟨Nat.le_refl _⟩, ⟨by (with_reducible repeat (first | apply Kd.R_alloc | apply Kd.R_drewN | apply Kd.R_drew)); exact HO144.out⟩, ⟨by repeat (first | (with_reducible first | exact HB.out | apply below_alloc | apply pw_below_drewN | apply below_drew1) | exact HB.out)⟩⟩
   case round =>
    clear H'
    try clear c1
    try clear c2
    try clear c2b0
    try clear c2b1
    try clear p2
    try clear c3
    try clear c3b0
    try clear c3b1
    obtain ⟨x3_1, x4_1, rfl, HA, HK1, HO_3, HB⟩ := hrel
    cases gk with
    | zero => exact absurd HA.out (by simp [laws_toEntryS.l0])
    | succ k1 =>
     have H := HA.out
     clear HA
     simp only [laws_toEntryS.l0] at H
     by_cases c6 : x4_1 < (l0.length : Int)
     ·rw [if_pos c6] at H
      have c6b0 : decide (x4_1 < (l0.length : Int)) = true := decide_eq_true c6
      clear c6
      by_cases c7 : 0 ≤ x4_1
      ·rw [if_pos c7] at H
       have c7b0 : decide (0 ≤ x4_1) = true := decide_eq_true c7
       clear c7
       replace H := Option.bind_eq_some_iff.mp H
       obtain ⟨⟨t146, t147, t148, t149⟩, A80, H⟩ := H
       replace H : (if x4_1 < (x3_1.length : Int) then (laws_toEntryS.l0 k1 l0 (x3_1.set (x4_1 : Int).toNat (⟨t146, t147, t148, t149⟩ : S71)) (wrap64 (x4_1 + 1))) else (none)) = some r := H
       have A8 := Aside0.mk A80
       clear A80
       by_cases c9 : x4_1 < (x3_1.length : Int)
       ·rw [if_pos c9] at H
        have c9b0 : decide (x4_1 < (x3_1.length : Int)) = true := decide_eq_true c9
        clear c9
        obtain ⟨y150, hy150⟩ : ∃ y_ : List (S71), y_ = (x3_1.set (x4_1 : Int).toNat (⟨t146, t147, t148, t149⟩ : S71)) := ⟨_, rfl⟩
        replace H : (laws_toEntryS.l0 k1 l0 y150 (wrap64 (x4_1 + 1))) = some r := by first | (rw [hy150]; with_reducible exact H) | (have H2_ := (Option.bind_some _ _).symm.trans H; rw [hy150]; with_reducible exact H2_) | (have H2_ := (Option.bind_some _ _).symm.trans H; with_reducible exact H2_) | with_reducible exact H | (rw [hy150]; exact H) | exact H
        have Ny150 := Aside0.mk hy150
        clear hy150
        have H' := Aside0.mk H
        clear H
        have p145 : 0 ≤ (x4_1 : Int) := of_decide_eq_true (by first | (with_reducible assumption) | assumption)
        have q145 : x4_1 < (l0.length : Int) := of_decide_eq_true (by first | (with_reducible assumption) | assumption)
        obtain ⟨ad145, e145, hx145_0, hx145_1, hx145_2, hx145_3⟩ := at_T68 HR0.out x4_1 p145 q145
        cases e145
        replace hx145_0 := (HB.out.cell (World.block_lt_of_cell? w _ hx145_0)).trans hx145_0
        replace hx145_1 := (HB.out.cell (World.block_lt_of_cell? w _ hx145_1)).trans hx145_1
        replace hx145_2 := (HB.out.cell (World.block_lt_of_cell? w _ hx145_2)).trans hx145_2
        replace hx145_3 := (HB.out.cell (World.block_lt_of_cell? w _ hx145_3)).trans hx145_3
        replace p145 := eq_true p145
        replace q145 := eq_true q145
        go_wp2_with (first | ((with_reducible refine gate_callee (f := 44) rfl ?_); refine goesL_ (some 20) rfl rfl Try.func44 (by kernel_rfl) rfl #[.agg #[.string ((rd_T68 l0 x4_1).f0), .int .i64 ((rd_T68 l0 x4_1).f1), .int .i64 ((rd_T68 l0 x4_1).f2), .string ((rd_T68 l0 x4_1).f3)]] rfl (by (try simp only [List.map_toArray, List.map_cons, List.map_nil]); first | done | rfl | (simp only [List.length_drop, List.length_take]; rfl)) ?_; (with_reducible refine (laws_toEntry.calls ((rd_T68 l0 x4_1).f0) ((rd_T68 l0 x4_1).f1) ((rd_T68 l0 x4_1).f2) ((rd_T68 l0 x4_1).f3) t146 t147 t148 t149 _ A8.out).mono ?_); rintro e w11 ⟨rfl, hb⟩; refine ⟨_, rfl, ?_⟩; have n0_ := Aside0.mk (Kd.R_below (by (with_reducible repeat (first | apply Kd.R_alloc | apply Kd.R_drewN | apply Kd.R_drew)); exact HO_3.out) hb); have n1_ := Aside0.mk (below_step (by repeat (first | (with_reducible first | exact HB.out | apply below_alloc | apply pw_below_drewN | apply below_drew1) | exact HB.out)) hb); clear HO_3; clear HB; have HO_3 := n0_; have HB := n1_; clear n0_ n1_; (try clear hb); (try clear hb2); (try clear hk); (try clear hi); have p10 : 0 ≤ (x4_1 : Int) := of_decide_eq_true (by first | (with_reducible assumption) | assumption); have q10 : (x4_1 : Int) < ((x3_1.length : Int) : Int) := of_decide_eq_true (by first | (with_reducible assumption) | assumption); obtain ⟨go10, co10, eo10, gb10, gl10, cl10, HG10⟩ := Kd.R_form HO_3.out (by omega); (first | cases eo10 | (injection eo10 with ea_ en_ ec_; (first | subst ea_ | (injection ea_ with ea_; subst ea_)); subst ec_; clear en_)); have GB10 := Aside0.mk gb10; have GG10 := Aside0.mk HG10; clear gb10 gl10 HG10; obtain ⟨ce10, hcl10, hM10, hcc10, hfr10⟩ := Kd.R_elem HO_3.out z71 (x4_1 : Int) p10 q10; obtain rfl := k71_openM hM10; have hx10_0 : w11.cell? ⟨go10, (x4_1 : Int).toNat * 4, none⟩ = some (.string ((rd_T71 x3_1 x4_1).f0)) := hcc10 0 _ rfl; have hx10_1 : w11.cell? ⟨go10, (x4_1 : Int).toNat * 4 + 1, none⟩ = some (.int .i64 ((rd_T71 x3_1 x4_1).f1)) := hcc10 1 _ rfl; have hx10_2 : w11.cell? ⟨go10, (x4_1 : Int).toNat * 4 + 2, none⟩ = some (.int .i64 ((rd_T71 x3_1 x4_1).f2)) := hcc10 2 _ rfl; have hx10_3 : w11.cell? ⟨go10, (x4_1 : Int).toNat * 4 + 3, none⟩ = some (.string ((rd_T71 x3_1 x4_1).f3)) := hcc10 3 _ rfl; have hf10_0 : w11.frozen? ⟨go10, (x4_1 : Int).toNat * 4, none⟩ = false := hfr10 0; have hf10_1 : w11.frozen? ⟨go10, (x4_1 : Int).toNat * 4 + 1, none⟩ = false := hfr10 1; have hf10_2 : w11.frozen? ⟨go10, (x4_1 : Int).toNat * 4 + 2, none⟩ = false := hfr10 2; have hf10_3 : w11.frozen? ⟨go10, (x4_1 : Int).toNat * 4 + 3, none⟩ = false := hfr10 3; clear hcl10 hcc10 hfr10 hM10; replace p10 := eq_true p10; replace q10 := eq_true q10; have HX12 := Aside0.mk (show Kd.R k71 71 w11 w.heap.size (fun _ => True) (.slice (some ⟨go10, 0, none⟩) x3_1.length co10) x3_1 from (by (with_reducible repeat (first | apply Kd.R_alloc | apply Kd.R_drewN | apply Kd.R_drew)); exact HO_3.out)); obtain ⟨ce12, hcl12, hM12, hcc12, hfr12⟩ := Kd.R_elem HX12.out z71 (x4_1 : Int) (of_decide_eq_true (by first | (with_reducible assumption) | assumption)) (by have h_ : (x4_1 : Int) < ((x3_1.length : Int) : Int) := of_decide_eq_true (by first | (with_reducible assumption) | assumption); first | exact h_ | (have e_ := (Kd.R_reads' HO_3.out).1; omega) | simpa using h_); obtain rfl := k71_openM hM12; have HP12 := Kd.R_seg HX12.out (x4_1 : Int) (of_decide_eq_true (by first | (with_reducible assumption) | assumption)) (by have h_ : (x4_1 : Int) < ((x3_1.length : Int) : Int) := of_decide_eq_true (by first | (with_reducible assumption) | assumption); first | exact h_ | (have e_ := (Kd.R_reads' HO_3.out).1; omega) | simpa using h_) (seg := [.string t146, .int .i64 t147, .int .i64 t148, .string t149]) (j := 0) hcl12 hcc12 (show 4 ≤ 4 from by decide) (x' := (⟨t146, t147, t148, t149⟩ : S71)) (k71_mkM _ _ _ (⟨t146, t147, t148, t149⟩ : S71) ) (fun _ hk => hk); have hx12_0 := hcc12 0 _ rfl; (try simp only [show (k71).sz = 4 from rfl, Nat.mul_one, Nat.add_zero] at hx12_0); have hf12_0 := hfr12 0; (try simp only [show (k71).sz = 4 from rfl, Nat.mul_one, Nat.add_zero] at hf12_0); have hx12_1 := hcc12 1 _ rfl; (try simp only [show (k71).sz = 4 from rfl, Nat.mul_one, Nat.add_zero] at hx12_1); have hf12_1 := hfr12 1; (try simp only [show (k71).sz = 4 from rfl, Nat.mul_one, Nat.add_zero] at hf12_1); have hx12_2 := hcc12 2 _ rfl; (try simp only [show (k71).sz = 4 from rfl, Nat.mul_one, Nat.add_zero] at hx12_2); have hf12_2 := hfr12 2; (try simp only [show (k71).sz = 4 from rfl, Nat.mul_one, Nat.add_zero] at hf12_2); have hx12_3 := hcc12 3 _ rfl; (try simp only [show (k71).sz = 4 from rfl, Nat.mul_one, Nat.add_zero] at hx12_3); have hf12_3 := hfr12 3; (try simp only [show (k71).sz = 4 from rfl, Nat.mul_one, Nat.add_zero] at hf12_3); clear hcl12 hcc12 hfr12 hM12) | ((with_reducible refine gate_store (t := 71) (p := 21) rfl ?_); refine store_event (t := 71) (p := 21) (v := ?vo_w13) (w1 := ((((w11.setCell ⟨go10, (x4_1 : Int).toNat * 4, none⟩ (.string t146)).setCell ⟨go10, (x4_1 : Int).toNat * 4 + 1, none⟩ (.int .i64 t147)).setCell ⟨go10, (x4_1 : Int).toNat * 4 + 2, none⟩ (.int .i64 t148)).setCell ⟨go10, (x4_1 : Int).toNat * 4 + 3, none⟩ (.string t149))) ?hg ?ho ?hn ?hr ?_; (case ho => rfl); (case hg => rfl); (case hn => rfl); (case hr => first | (go_simp; done) | (go_simp; rfl)); intro w13 hw; have hg : w11.grownBy w13 (some go10) := (by rw [hw]; exact HP12.2); have hp_ : Kd.R k71 71 w13 w.heap.size (fun _ => True) (.slice (some ⟨go10, 0, none⟩) x3_1.length co10) y150 := (by rw [hw, Ny150.out]; exact HP12.1); clear HP12; have n0_ := Aside0.mk (hp_); have n1_ := Aside0.mk ((by rw [hw]; exact below_set (below_set (below_set (below_set (HB.out) GB10.out) GB10.out) GB10.out) GB10.out : Below w.heap.size w w13)); clear HO_3; clear HB; have HO_3 := n0_; have HB := n1_; clear n0_ n1_; clear hg hw hp_))
        go_roundg k1
        case measure => have := HK1.out; omega
        case rel => exact ⟨(y150), (wrap64 (x4_1 + 1)), (by first | rfl | (simp; done) | (simp [*]; done)), H', ⟨by have := HK1.out; omega⟩, ⟨by (with_reducible repeat (first | apply Kd.R_alloc | apply Kd.R_drewN | apply Kd.R_drew)); exact HO_3.out⟩, ⟨by repeat (first | (with_reducible first | exact HB.out | apply below_alloc | apply pw_below_drewN | apply below_drew1) | exact HB.out)⟩⟩
       ·rw [if_neg c9] at H
        exact absurd H (by simp)
      ·rw [if_neg c7] at H
       exact absurd H (by simp)
     ·rw [if_neg c6] at H
      have c6b0 : decide (x4_1 < (l0.length : Int)) = false := decide_eq_false c6
      clear c6
      obtain rfl := Option.some.inj H
      go_wp2
      go_ret
      exact ⟨_, by first | rfl | (simp [errW_none, errW_some] <;> rfl) | (simp [*, errW_none, errW_some] <;> rfl), by (with_reducible repeat (first | apply Kd.R_alloc | apply Kd.R_drewN | apply Kd.R_drew)); exact HO_3.out, by repeat (first | (with_reducible first | exact HB.out | apply below_alloc | apply pw_below_drewN | apply below_drew1) | exact HB.out)⟩
  ·rw [if_neg c3] at H
   exact absurd H (by simp)
 ·rw [if_neg c2] at H
  exact absurd H (by simp)

end Go.Proofs.Ytjneloehdcecnaa.P
end
section
/- The laws' rows of entries: weighed, copied, compared. Condition: at most 2 to the 20 of them. -/
namespace Go.Proofs.Ytjneloehdcecnaa.M
open Go.RowKit Go.Proofs.Ytjneloehdcecnaa.P Go.Proofs.YtjneloehdcecnaaW.PrintWords Go.Proofs.YtjneloehdcecnaaW.PrintLast
set_option linter.unusedVariables false
theorem Ev.pure {α : Type} {g : Nat → Option α} {r : α} (h : ∀ k, g k = some r) : Ev g r := ⟨0, fun k _ => h k⟩
def conv (x : S68) : S71 := ⟨x.f0, x.f1, x.f2, x.f3⟩
theorem rd68 (l : List S68) (i : Nat) (h : i < l.length) : rd_T68 l (i : Int) = l[i] := by
  unfold rd_T68
  rw [Int.toNat_natCast, getD_at l i _ h]
theorem rd71' (l : List S71) (i : Nat) (h : i < l.length) : rd_T71 l (i : Int) = l[i] := by
  unfold rd_T71
  rw [Int.toNat_natCast, getD_at l i _ h]
theorem szEntry_eq (x : S68) (a : Int) (ha : 0 ≤ a) (ha2 : a ≤ 1048576) (h0 : x.f0.size ≤ 140737488351232) (h1 : x.f3.size ≤ 140737488351232) :
    laws_szEntry.f x.f0 x.f1 x.f2 x.f3 a = some (if (x.f0.size + x.f3.size : Int) ≤ a then a - (x.f0.size + x.f3.size : Int) else -1) := by
  unfold laws_szEntry.f
  rw [wrap_ok (x := a - (x.f0.size : Int)) (by omega) (by omega), wrap_ok (x := a - (x.f0.size : Int) - (x.f3.size : Int)) (by omega) (by omega)]
  by_cases c1 : a - (x.f0.size : Int) < 0
  · rw [if_pos c1, if_neg (by omega)]
  · rw [if_neg c1]
    by_cases c2 : a - (x.f0.size : Int) - (x.f3.size : Int) < 0
    · rw [if_pos c2, if_neg (by omega)]
    · rw [if_neg c2, if_pos (by omega), show a - (x.f0.size : Int) - (x.f3.size : Int) = a - ((x.f0.size : Int) + (x.f3.size : Int)) by omega]
def texts68 (l : List S68) : Nat := (l.map fun x => x.f0.size + x.f3.size).sum
def weight68 (l : List S68) : Nat := texts68 l + l.length
theorem texts68_drop (l : List S68) (i : Nat) (h : i < l.length) : texts68 (l.drop i) = (l[i].f0.size + l[i].f3.size) + texts68 (l.drop (i + 1)) := by
  rw [drop_at l i h]
  rfl
theorem szEntryS_loop (l : List S68) (ok : Ok68s l) (hl : l.length ≤ 1048576) : ∀ d i : Nat, i + d = l.length → ∀ a : Int, 0 ≤ a → a ≤ 1048576 →
    Ev (fun k => laws_szEntryS.l0 k l a (i : Int)) (if (texts68 (l.drop i) : Int) ≤ a then a - texts68 (l.drop i) else -1) := by
  intro d
  induction d with
  | zero =>
    intro i hi a ha ha2
    rw [List.drop_eq_nil_of_le (by omega)]
    refine Ev.step (f := fun _ => some a) (fun k => ?_) ?_
    · rw [laws_szEntryS.l0, if_neg (by omega)]
    · have : (if ((texts68 [] : Nat) : Int) ≤ a then a - ((texts68 [] : Nat) : Int) else -1) = a := by simp [texts68]; omega
      rw [this]; exact Ev.now a
  | succ d ih =>
    intro i hi a ha ha2
    have hlt : i < l.length := by omega
    have hk := ok.2 l[i] (List.getElem_mem hlt)
    rw [texts68_drop l i hlt]
    have hs := szEntry_eq l[i] a ha ha2 hk.1 hk.2.2.2
    by_cases c : (l[i].f0.size + l[i].f3.size : Int) ≤ a
    · rw [if_pos c] at hs
      have hi' := ih (i + 1) (by omega) (a - (l[i].f0.size + l[i].f3.size : Int)) (by omega) (by omega)
      refine Ev.step (f := fun k => laws_szEntryS.l0 k l (a - (l[i].f0.size + l[i].f3.size : Int)) ((i + 1 : Nat) : Int)) (fun k => ?_) ?_
      · rw [laws_szEntryS.l0, if_pos (by omega), if_pos (by omega), rd68 l i hlt, hs]
        simp only [Option.bind_some]
        rw [if_neg (by omega), wrap_succ (by omega)]
      · generalize texts68 (l.drop (i + 1)) = n at hi' ⊢
        have e : (if (n : Int) ≤ a - (l[i].f0.size + l[i].f3.size : Int) then a - (l[i].f0.size + l[i].f3.size : Int) - (n : Int) else -1) = (if ((l[i].f0.size + l[i].f3.size + n : Nat) : Int) ≤ a then a - ((l[i].f0.size + l[i].f3.size + n : Nat) : Int) else -1) := by
          by_cases c3 : (n : Int) ≤ a - (l[i].f0.size + l[i].f3.size : Int)
          · rw [if_pos c3, if_pos (by omega)]; omega
          · rw [if_neg c3, if_neg (by omega)]
        rw [← e]; exact hi'
    · rw [if_neg c] at hs
      rw [if_neg (by omega)]
      refine Ev.step (f := fun _ => some (-1)) (fun k => ?_) (Ev.now _)
      rw [laws_szEntryS.l0, if_pos (by omega), if_pos (by omega), rd68 l i hlt, hs]
      simp only [Option.bind_some]
      rw [if_pos (by omega)]
/-- What is left of a bound, or -1. -/
theorem szEntryS_eq (l : List S68) (a : Int) (ha : 0 ≤ a) (ha2 : a ≤ 1048576) (ok : Ok68s l) : Ev (fun k => laws_szEntryS.f k l a) (if (weight68 l : Int) ≤ a then (a - weight68 l : Int) else -1) := by
  have h40 := ok.1
  have hw : weight68 l = texts68 l + l.length := rfl
  by_cases hl : (l.length : Int) ≤ a
  · have h := szEntryS_loop l ok (by omega) l.length 0 (by omega) (a - (l.length : Int)) (by omega) (by omega)
    rw [List.drop_zero] at h
    have e : (if (texts68 l : Int) ≤ a - (l.length : Int) then a - (l.length : Int) - texts68 l else -1) = (if (weight68 l : Int) ≤ a then (a - weight68 l : Int) else -1) := by
      by_cases c : (texts68 l : Int) ≤ a - (l.length : Int)
      · rw [if_pos c, if_pos (by omega)]; omega
      · rw [if_neg c, if_neg (by omega)]
    rw [← e]
    refine Ev.congr (fun k => ?_) h
    show (if _ then _ else _) = _
    rw [wrap_ok (x := a - (l.length : Int)) (by omega) (by omega), if_neg (by omega)]
    rfl
  · rw [if_neg (by omega)]
    refine Ev.pure (fun k => ?_)
    show (if _ then _ else _) = _
    rw [wrap_ok (x := a - (l.length : Int)) (by omega) (by omega), if_pos (by omega)]
theorem toEntryS_loop (l : List S68) (hl : l.length ≤ 1048576) : ∀ d i : Nat, i + d = l.length → ∀ xs : List S71, xs.length = l.length → xs.take i = (l.take i).map conv →
    Ev (fun k => laws_toEntryS.l0 k l xs (i : Int)) (l.map conv) := by
  intro d
  induction d with
  | zero =>
    intro i hi xs hx ht
    have e : xs = l.map conv := by rw [List.take_of_length_le (by omega), List.take_of_length_le (by omega)] at ht; exact ht
    refine Ev.step (f := fun _ => some xs) (fun k => ?_) (e ▸ Ev.now _)
    rw [laws_toEntryS.l0, if_neg (by omega)]
  | succ d ih =>
    intro i hi xs hx ht
    have hlt : i < l.length := by omega
    refine Ev.step (fun k => ?_) (ih (i + 1) (by omega) (xs.set i (conv l[i])) (by rw [List.length_set]; exact hx) ?_)
    · rw [laws_toEntryS.l0, if_pos (by omega), if_pos (by omega), rd68 l i hlt]
      show (if _ then _ else _) = _
      rw [if_pos (by omega), wrap_succ (by omega), Int.toNat_natCast]
      rfl
    · rw [take_at _ i (by rw [List.length_set]; omega), List.take_set_of_le (Nat.le_refl i), ht, List.getElem_set_self, take_at l i hlt, List.map_append]
      rfl
theorem toEntryS_eq (l : List S68) (hl : l.length ≤ 1048576) : Ev (fun k => laws_toEntryS.f k l) (l.map conv) := by
  refine Ev.congr (fun k => ?_) (toEntryS_loop l hl l.length 0 (by omega) (List.replicate l.length z71) (by simp) (by simp))
  unfold laws_toEntryS.f
  rw [if_pos (by omega), Int.toNat_natCast, if_pos (by omega)]
  rfl
theorem eqEntry_self (x : S71) : laws_eqEntry.f x.f0 x.f1 x.f2 x.f3 x.f0 x.f1 x.f2 x.f3 = some true := by
  unfold laws_eqEntry.f
  rw [if_pos rfl, if_pos rfl, if_pos rfl, if_pos rfl]
theorem eqEntryS_loop (l : List S71) (hl : l.length ≤ 1048576) : ∀ d i : Nat, i + d = l.length → Ev (fun k => laws_eqEntryS.l0 k l l (i : Int)) true := by
  intro d
  induction d with
  | zero =>
    intro i hi
    refine Ev.step (f := fun _ => some true) (fun k => ?_) (Ev.now _)
    rw [laws_eqEntryS.l0, if_neg (by omega)]
  | succ d ih =>
    intro i hi
    have hlt : i < l.length := by omega
    refine Ev.step (fun k => ?_) (ih (i + 1) (by omega))
    rw [laws_eqEntryS.l0, if_pos (by omega), if_pos (by omega), if_pos (by omega), rd71' l i hlt, eqEntry_self]
    simp only [Option.bind_some]
    rw [if_pos trivial, wrap_succ (by omega)]
theorem eqEntryS_self (l : List S71) (hl : l.length ≤ 1048576) : Ev (fun k => laws_eqEntryS.f k l l) true := by
  refine Ev.congr (fun k => ?_) (eqEntryS_loop l hl l.length 0 (by omega))
  unfold laws_eqEntryS.f
  rw [if_pos rfl]
  rfl
end Go.Proofs.Ytjneloehdcecnaa.M
end
section
/- The specification's EncodeEntries answers what the program's does. No condition. -/
namespace Go.Proofs.Ytjneloehdcecnaa.M
open Go.RowKit Go.Proofs.Ytjneloehdcecnaa.P Go.Proofs.YtjneloehdcecnaaW.PrintWords Go.Proofs.YtjneloehdcecnaaW.PrintLast
set_option linter.unusedVariables false
def nb (a : ByteArray) : List Int := a.data.toList.map fun b => (b.toNat : Int)
theorem nb_append (a b : ByteArray) : nb (a ++ b) = nb a ++ nb b := by
  unfold nb
  rw [ByteArray.data_append]
  simp
theorem nb_length (a : ByteArray) : (nb a).length = a.size := by simp [nb]
theorem strOf_nb (a : ByteArray) : strOfNums (nb a) = a := by
  apply ByteArray.ext
  show ((nb a).map fun n => UInt8.ofNat n.toNat).toArray = a.data
  unfold nb
  rw [List.map_map]
  have : ((fun n : Int => UInt8.ofNat n.toNat) ∘ fun b : UInt8 => (b.toNat : Int)) = id := by
    funext b
    simp
  rw [this]
  simp
theorem bt_nb (a : ByteArray) (i : Nat) (h : i < (nb a).length) : bt a (i : Int) = (nb a)[i] := by
  have hs : i < a.size := by rw [nb_length] at h; exact h
  unfold bt
  rw [dif_pos (by simpa using hs)]
  simp [nb]
  rfl
theorem put2_loop (xs : List Int) (a : ByteArray) (h : xs.length + a.size < 140737488355328) : ∀ d i : Nat, i + d = a.size →
    Ev (fun k => spec_l2Put.l0 k (xs ++ (nb a).take i) a (i : Int)) (xs ++ nb a) := by
  have hn := nb_length a
  intro d
  induction d with
  | zero =>
    intro i hi
    refine Ev.step (f := fun _ => some (xs ++ (nb a).take i)) (fun k => ?_) ?_
    · rw [spec_l2Put.l0, if_neg (by omega)]
    · rw [List.take_of_length_le (by omega)]
      exact Ev.now _
  | succ d ih =>
    intro i hi
    have h2 := ih (i + 1) (by omega)
    rw [take_at (nb a) i (by omega), ← List.append_assoc] at h2
    refine Ev.step (fun k => ?_) h2
    rw [spec_l2Put.l0, if_pos (by omega), if_pos (by omega), if_pos (by rw [List.length_append, List.length_take]; omega), bt_nb a i (by omega), wrap_succ (by omega)]
theorem put2_eq (xs : List Int) (a : ByteArray) (h : xs.length + a.size < 140737488355328) : Ev (fun k => spec_l2Put.f k xs a) (xs ++ nb a) := by
  have := put2_loop xs a h a.size 0 (by omega)
  rw [List.take_zero, List.append_nil] at this
  exact this
theorem ok_end (e : S71) : Ev (fun k => spec_l2EntryOk.j0 k true e.f0 e.f1 e.f2 e.f3) false :=
  Ev.step (f := fun _ => some false) (fun k => by rw [spec_l2EntryOk.j0, if_pos rfl]) (Ev.now _)
theorem specOk_eq (e : S71) : Ev (fun k => spec_l2EntryOk.f k e.f0 e.f1 e.f2 e.f3) (entOk e) := by
  unfold entOk
  by_cases h1 : (e.f0.size : Int) < 1
  · rw [decide_eq_false (show ¬ 1 ≤ e.f0.size by omega)]
    refine Ev.congr (fun k => if_pos h1) ?_
    simpa using ok_end e
  · rw [decide_eq_true (show 1 ≤ e.f0.size by omega)]
    refine Ev.congr (fun k => if_neg h1) ?_
    by_cases h2 : (e.f0.size : Int) > 1000
    · rw [decide_eq_false (show ¬ e.f0.size ≤ 1000 by omega)]
      refine Ev.congr (fun k => if_pos h2) ?_
      simpa using ok_end e
    · rw [decide_eq_true (show e.f0.size ≤ 1000 by omega)]
      refine Ev.congr (fun k => if_neg h2) ?_
      by_cases h3 : e.f1 < 1
      · rw [decide_eq_false (show ¬ 1 ≤ e.f1 by omega)]
        refine Ev.congr (fun k => if_pos h3) ?_
        simpa using ok_end e
      · rw [decide_eq_true (show 1 ≤ e.f1 by omega)]
        refine Ev.congr (fun k => if_neg h3) ?_
        by_cases h4 : e.f1 > 72057594037927935
        · rw [decide_eq_false (show ¬ e.f1 ≤ 72057594037927935 by omega), decide_eq_true h4]
          simpa using ok_end e
        · rw [decide_eq_true (show e.f1 ≤ 72057594037927935 by omega), decide_eq_false h4]
          by_cases h5 : e.f2 = 1
          · refine Ev.step (f := fun _ => some (decide ((e.f3.size : Int) ≤ 4000))) (fun k => ?_) ?_
            · rw [spec_l2EntryOk.j0, if_neg (by simp), if_pos h5]
            · rw [decide_eq_true h5, decide_eq_false (show ¬ e.f2 = 0 by omega)]
              have : decide ((e.f3.size : Int) ≤ 4000) = decide (e.f3.size ≤ 4000) := by
                by_cases c : e.f3.size ≤ 4000
                · rw [decide_eq_true c, decide_eq_true (by omega)]
                · rw [decide_eq_false c, decide_eq_false (by omega)]
              rw [this]
              simpa using Ev.now (decide (e.f3.size ≤ 4000))
          · by_cases h6 : e.f2 = 0
            · refine Ev.step (f := fun _ => some ((e.f3.size : Int) == 0)) (fun k => ?_) ?_
              · rw [spec_l2EntryOk.j0, if_neg (by simp), if_neg h5, if_pos h6]
              · rw [decide_eq_false h5, decide_eq_true h6]
                have : ((e.f3.size : Int) == 0) = decide (e.f3.size = 0) := by
                  by_cases c : e.f3.size = 0
                  · rw [decide_eq_true c, c]; rfl
                  · rw [decide_eq_false c]; simpa using c
                rw [this]
                simpa using Ev.now (decide (e.f3.size = 0))
            · refine Ev.step (f := fun _ => some false) (fun k => ?_) ?_
              · rw [spec_l2EntryOk.j0, if_neg (by simp), if_neg h5, if_neg h6]
              · rw [decide_eq_false h5, decide_eq_false h6]
                simpa using Ev.now false
theorem byte_eq (n : Int) : spec_l2Byte.f n = some (strOfNums [n % 256]) := rfl
theorem specEnc_loop (l : List S71) (P : ByteArray) (hP : P.size ≤ 8) (hl : l.length ≤ 1000) : ∀ d i : Nat, i + d = l.length → (l.take i).all entOk = true →
    Ev (fun k => spec_EncodeEntries.l0 k l (nb (P ++ encL (l.take i))) (i : Int)) (if (l.drop i).all entOk = true then P ++ encL l else ⟨#[]⟩) := by
  intro d
  induction d with
  | zero =>
    intro i hi ha
    refine Ev.step (f := fun _ => some (strOfNums (nb (P ++ encL (l.take i))))) (fun k => ?_) ?_
    · rw [spec_EncodeEntries.l0, if_neg (by omega)]
    · rw [strOf_nb, List.drop_eq_nil_of_le (by omega), List.take_of_length_le (by omega)]
      exact Ev.now _
  | succ d ih =>
    intro i hi ha
    have hlt : i < l.length := by omega
    have hsz := encL_size (l.take i) ha
    have hti : (l.take i).length = i := by rw [List.length_take]; omega
    rw [drop_at l i hlt, List.all_cons]
    by_cases hok : entOk l[i] = true
    · have h2 := ih (i + 1) (by omega) (by rw [take_at l i hlt, List.all_append, ha]; simp [hok])
      rw [hok, Bool.true_and]
      obtain ⟨h0, h3⟩ := entOk_sizes hok
      have p0 := put_size (l[i].f0.size : Int)
      have p1 := put_size l[i].f1
      have p3 := put_size (l[i].f3.size : Int)
      have e1 : nb (P ++ encL (l.take i)) ++ nb (put (l[i].f0.size : Int) ++ l[i].f0 ++ put l[i].f1 ++ strOfNums [l[i].f2 % 256]) ++ nb (put (l[i].f3.size : Int) ++ l[i].f3) = nb (P ++ encL (l.take (i + 1))) := by
        rw [take_at l i hlt, encL_snoc, ← nb_append, ← nb_append]
        congr 1
        unfold entB szd
        simp only [ByteArray.append_assoc]
      have hs1 : (strOfNums [l[i].f2 % 256]).size = 1 := by rw [strOfNums_size]; rfl
      refine Ev.step (f := fun k => (spec_l2EntryOk.f k l[i].f0 l[i].f1 l[i].f2 l[i].f3).bind fun t122 => (if t122 = true then ((spec_PutVarint.f k (l[i].f0.size : Int)).bind fun t124 => (if t124.size + l[i].f0.size ≤ 9223372036854775807 then ((spec_PutVarint.f k l[i].f1).bind fun t127 => (if (t124 ++ l[i].f0).size + t127.size ≤ 9223372036854775807 then ((spec_l2Byte.f l[i].f2).bind fun t129 => (if ((t124 ++ l[i].f0) ++ t127).size + t129.size ≤ 9223372036854775807 then ((spec_l2Put.f k (nb (P ++ encL (l.take i))) (((t124 ++ l[i].f0) ++ t127) ++ t129)).bind fun t130 => ((spec_PutVarint.f k (l[i].f3.size : Int)).bind fun t134 => (if t134.size + l[i].f3.size ≤ 9223372036854775807 then ((spec_l2Put.f k t130 (t134 ++ l[i].f3)).bind fun t136 => (spec_EncodeEntries.l0 k l t136 ((i + 1 : Nat) : Int))) else (none)))) else (none))) else (none))) else (none))) else (some (⟨#[]⟩ : ByteArray)))) (fun k => ?_) ?_
      · rw [spec_EncodeEntries.l0, if_pos (by omega), if_pos (by omega), rd71' l i hlt, wrap_succ (by omega)]
      · refine Ev.bind (specOk_eq l[i]) ?_
        rw [hok]
        refine Ev.congr (fun k => if_pos rfl) (Ev.bind (spec_put _) (Ev.congr (fun k => if_pos (by omega)) (Ev.bind (spec_put _) (Ev.congr (fun k => if_pos (by rw [ByteArray.size_append]; omega)) (Ev.bind (Ev.pure (fun k => byte_eq _)) (Ev.congr (fun k => if_pos (by rw [ByteArray.size_append, ByteArray.size_append]; omega)) (Ev.bind (put2_eq _ _ ?_) (Ev.bind (spec_put _) (Ev.congr (fun k => if_pos (by omega)) (Ev.bind (put2_eq _ _ ?_) ?_))))))))))
        · rw [nb_length, ByteArray.size_append, ByteArray.size_append, ByteArray.size_append, ByteArray.size_append]
          omega
        · rw [List.length_append, nb_length, nb_length, ByteArray.size_append, ByteArray.size_append, ByteArray.size_append, ByteArray.size_append, ByteArray.size_append]
          omega
        · rw [e1]
          exact h2
    · rw [Bool.eq_false_iff.2 hok, Bool.false_and, if_neg (by simp)]
      refine Ev.step (f := fun k => (spec_l2EntryOk.f k l[i].f0 l[i].f1 l[i].f2 l[i].f3).bind fun t122 => (if t122 = true then ((spec_PutVarint.f k (l[i].f0.size : Int)).bind fun t124 => (if t124.size + l[i].f0.size ≤ 9223372036854775807 then ((spec_PutVarint.f k l[i].f1).bind fun t127 => (if (t124 ++ l[i].f0).size + t127.size ≤ 9223372036854775807 then ((spec_l2Byte.f l[i].f2).bind fun t129 => (if ((t124 ++ l[i].f0) ++ t127).size + t129.size ≤ 9223372036854775807 then ((spec_l2Put.f k (nb (P ++ encL (l.take i))) (((t124 ++ l[i].f0) ++ t127) ++ t129)).bind fun t130 => ((spec_PutVarint.f k (l[i].f3.size : Int)).bind fun t134 => (if t134.size + l[i].f3.size ≤ 9223372036854775807 then ((spec_l2Put.f k t130 (t134 ++ l[i].f3)).bind fun t136 => (spec_EncodeEntries.l0 k l t136 ((i + 1 : Nat) : Int))) else (none)))) else (none))) else (none))) else (none))) else (some (⟨#[]⟩ : ByteArray)))) (fun k => ?_) ?_
      · rw [spec_EncodeEntries.l0, if_pos (by omega), if_pos (by omega), rd71' l i hlt, wrap_succ (by omega)]
      · refine Ev.bind (specOk_eq l[i]) ?_
        rw [Bool.eq_false_iff.2 hok]
        exact Ev.pure (fun k => if_neg (by simp))
theorem specEnc_eq (l : List S71) : Ev (fun k => spec_EncodeEntries.f k l) (enc l) := by
  unfold enc
  by_cases h : l.length > 1000
  · rw [if_pos h]
    exact Ev.pure (fun k => if_pos (by omega))
  · rw [if_neg h]
    have p := put_size (l.length : Int)
    refine Ev.congr (fun k => if_neg (by omega)) (Ev.bind (spec_put _) (Ev.bind (put2_eq [] _ (by simp; omega)) ?_))
    have := specEnc_loop l (put (l.length : Int)) p (by omega) l.length 0 (by omega) rfl
    rw [List.drop_zero, List.take_zero] at this
    have e : nb (put (l.length : Int) ++ encL []) = [] ++ nb (put (l.length : Int)) := by
      show nb (put (l.length : Int) ++ (⟨#[]⟩ : ByteArray)) = _
      rw [ba_append_empty, List.nil_append]
    rw [e] at this
    exact this
end Go.Proofs.Ytjneloehdcecnaa.M
end
section
/- The specification's DecodeEntries answers what the program's does. Condition: the text has at most 2 to the 20 bytes. -/
namespace Go.Proofs.Ytjneloehdcecnaa.M
open Go.RowKit Go.Proofs.Ytjneloehdcecnaa.P Go.Proofs.YtjneloehdcecnaaW.PrintWords Go.Proofs.YtjneloehdcecnaaW.PrintLast
set_option linter.unusedVariables false
def pc (s : ByteArray) (a : Int) : ByteArray × Int × Bool := if (ttext s a false).2.2 = true then (⟨#[]⟩, 0, false) else ((ttext s a false).1, (ttext s a false).2.1, true)
theorem tnum_good {s : ByteArray} {a : Int} (h : (get s a).2.2 = true) : tnum s a false = ((get s a).1, (get s a).2.1, false) := by unfold tnum; rw [if_neg (by simp), if_pos h]
theorem tnum_fail {s : ByteArray} {a : Int} (h : ¬ (get s a).2.2 = true) : tnum s a false = (0, a, true) := by unfold tnum; rw [if_neg (by simp), if_neg h]
theorem tnum_bad (s : ByteArray) (a : Int) : tnum s a true = (0, a, true) := rfl
theorem tbytes_bad (s : ByteArray) (a n : Int) : tbytes s a true n = (⟨#[]⟩, a, true) := rfl
theorem ttext_bad (s : ByteArray) (a : Int) : ttext s a true = (⟨#[]⟩, a, true) := rfl
theorem pair_eta {α β γ : Type} (x : α × β × γ) {c : γ} (h : x.2.2 = c) : x = (x.1, x.2.1, c) := by subst h; rfl
theorem piece_ev (s : ByteArray) (a : Int) (hs : s.size ≤ 1048576) : Ev (fun k => spec_l2Piece.f k s a) (pc s a) := by
  refine Ev.bind (spec_get s a hs) ⟨0, fun k _ => ?_⟩
  unfold pc ttext
  by_cases h : (get s a).2.2 = true
  · have g := get_ok h
    rw [if_pos h, tnum_good h, wrap_ok (x := (s.size : Int) - (get s a).2.1) (by omega) (by omega)]
    unfold tbytes
    rw [if_neg (show ¬ false = true by simp)]
    by_cases h2 : (get s a).1 > (s.size : Int) - (get s a).2.1
    · rw [if_pos h2, if_pos h2]
      rfl
    · rw [if_neg h2, if_neg h2, wrap_ok (x := (get s a).2.1 + (get s a).1) (by omega) (by omega), if_pos (by omega), if_pos (by omega), if_pos (by omega)]
      rfl
  · rw [if_neg h, tnum_fail h, tbytes_bad, if_pos rfl]
def fin (s : ByteArray) (R : List S71 × Bool) : List S71 × Bool := if R.2 = true then ([], false) else if enc R.1 = s then (R.1, true) else ([], false)
theorem dloop_bad (s : ByteArray) (n : Nat) (a : Int) (out : List S71) : (dloop s n a true out).2 = true := by
  cases n with
  | zero => rfl
  | succ n => unfold dloop; rw [if_pos rfl]
theorem list_eq_iff (a b : ByteArray) : a.toList = b.toList ↔ a = b := by
  constructor
  · intro h
    apply ByteArray.ext
    apply Array.ext'
    simpa [ByteArray.toList_eq] using h
  · rintro rfl; rfl
theorem bt_extract (s : ByteArray) (a : Int) (h0 : 0 ≤ a) (h1 : a < (s.size : Int)) : kindOf (s.extract a.toNat (a + 1).toNat) = bt s a ∧ bt s a < 256 ∧ 0 ≤ bt s a := by
  obtain ⟨c, hc, hc2⟩ := bt_nat s a
  refine ⟨?_, by omega, by omega⟩
  have hsz : (s.extract a.toNat (a + 1).toNat).size = 1 := by rw [ByteArray.size_extract]; omega
  unfold kindOf
  rw [if_neg (by omega)]
  unfold bt
  rw [dif_pos (show (0 : Int).toNat < (s.extract a.toNat (a + 1).toNat).size by rw [hsz]; decide), dif_pos (show a.toNat < s.size by omega)]
  have : (s.extract a.toNat (a + 1).toNat)[0]'(by omega) = s[a.toNat]'(by omega) := by
    simp only [ByteArray.getElem_eq_getElem_data, ByteArray.data_extract, Array.getElem_extract, Nat.add_zero]
  rw [← this]
  rfl
theorem spec_loop (s : ByteArray) (hs : s.size ≤ 1048576) (count : Nat) (hc : count ≤ 1000) : ∀ d i : Nat, i + d = count → ∀ (a : Int) (out : List S71), 0 ≤ a ∧ a ≤ (s.size : Int) → out.length = i →
    Ev (fun k => spec_DecodeEntries.l0 k s [] (count : Int) a out (i : Int)) (fin s (dloop s d a false out)) := by
  intro d
  induction d with
  | zero =>
    intro i hi a out ha hl
    refine Ev.step (fun k => by rw [spec_DecodeEntries.l0, if_neg (by omega)]) (Ev.bind (specEnc_eq out) (Ev.pure (fun k => ?_)))
    by_cases h : enc out = s
    · refine (if_pos ((list_eq_iff _ _).2 h)).trans ?_
      unfold dloop fin
      rw [if_neg (by simp), if_pos h]
    · refine (if_neg (fun x => h ((list_eq_iff _ _).1 x))).trans ?_
      unfold dloop fin
      rw [if_neg (by simp), if_neg h]
  | succ d ih =>
    intro i hi a out ha hl
    refine Ev.step (fun k => by rw [spec_DecodeEntries.l0, if_pos (by omega)]) (Ev.bind (piece_ev s a hs) ?_)
    unfold dloop
    rw [if_neg (by simp), decide_eq_false (show ¬ 1000 ≤ out.length by omega), Bool.or_false]
    have h1 := ttext_in (b := false) ha
    unfold pc
    by_cases c1 : (ttext s a false).2.2 = true
    · rw [if_pos c1]
      refine Ev.pure (fun k => ?_)
      have e : (dround s a false).2.2 = true := by unfold dround; rw [pair_eta _ c1, tnum_bad, tbytes_bad, ttext_bad]
      rw [e]
      unfold fin
      rw [dloop_bad, if_pos rfl, if_neg (by simp)]
    · rw [if_neg c1]
      have c1 := Bool.eq_false_iff.2 c1
      generalize hT : ttext s a false = T at *
      obtain ⟨t0, t1, t2⟩ := T
      subst c1
      refine Ev.congr (fun k => if_pos rfl) (Ev.bind (spec_get s t1 hs) ?_)
      by_cases c2 : (get s t1).2.2 = true
      · have hn := tnum_good c2
        have g := get_ok c2
        refine Ev.congr (fun k => if_pos c2) ?_
        by_cases c3 : (get s t1).2.1 ≥ (s.size : Int)
        · refine Ev.step (f := fun k => some ([], false)) (fun k => by rw [spec_DecodeEntries.j2, if_pos (decide_eq_true c3)]) (Ev.pure (fun k => ?_))
          have e : (dround s a false).2.2 = true := by
            unfold dround
            rw [hT]
            show (ttext s (tbytes s (tnum s t1 false).2.1 (tnum s t1 false).2.2 1).2.1 (tbytes s (tnum s t1 false).2.1 (tnum s t1 false).2.2 1).2.2).2.2 = true
            have hb : tbytes s (get s t1).2.1 false 1 = (⟨#[]⟩, (get s t1).2.1, true) := by
              unfold tbytes
              rw [if_neg (show ¬ false = true by simp), if_pos (by omega)]
            rw [hn]
            show (ttext s (tbytes s (get s t1).2.1 false 1).2.1 (tbytes s (get s t1).2.1 false 1).2.2).2.2 = true
            rw [hb, ttext_bad]
          rw [e]
          unfold fin
          rw [dloop_bad, if_pos rfl]
        · have hb : tbytes s (get s t1).2.1 false 1 = (s.extract (get s t1).2.1.toNat ((get s t1).2.1 + 1).toNat, (get s t1).2.1 + 1, false) := by
            unfold tbytes
            rw [if_neg (show ¬ false = true by simp), if_neg (by omega)]
          have hk := bt_extract s (get s t1).2.1 (by omega) (by omega)
          have hd : dround s a false = (⟨t0, (get s t1).1, bt s (get s t1).2.1, (ttext s ((get s t1).2.1 + 1) false).1⟩, (ttext s ((get s t1).2.1 + 1) false).2) := by
            unfold dround
            rw [hT]
            show (S71.mk t0 (tnum s t1 false).1 (kindOf (tbytes s (tnum s t1 false).2.1 (tnum s t1 false).2.2 1).1) (ttext s (tbytes s (tnum s t1 false).2.1 (tnum s t1 false).2.2 1).2.1 (tbytes s (tnum s t1 false).2.1 (tnum s t1 false).2.2 1).2.2).1, (ttext s (tbytes s (tnum s t1 false).2.1 (tnum s t1 false).2.2 1).2.1 (tbytes s (tnum s t1 false).2.1 (tnum s t1 false).2.2 1).2.2).2) = _
            rw [hn]
            show (S71.mk t0 (get s t1).1 (kindOf (tbytes s (get s t1).2.1 false 1).1) (ttext s (tbytes s (get s t1).2.1 false 1).2.1 (tbytes s (get s t1).2.1 false 1).2.2).1, (ttext s (tbytes s (get s t1).2.1 false 1).2.1 (tbytes s (get s t1).2.1 false 1).2.2).2) = _
            rw [hb, hk.1]
          rw [hd]
          refine Ev.step (f := fun k => (spec_l2Piece.f k s ((get s t1).2.1 + 1)).bind fun bt310 => (if bt310.2.2 = true then spec_DecodeEntries.l0 k s [] (count : Int) bt310.2.1 (out ++ [(⟨t0, (get s t1).1, bt s (get s t1).2.1, bt310.1⟩ : S71)]) ((i + 1 : Nat) : Int) else (some ([], false)))) (fun k => by
            rw [spec_DecodeEntries.j2, if_neg (by rw [decide_eq_false c3]; simp), if_pos (by omega), if_pos (by omega), wrap_ok (x := (get s t1).2.1 + 1) (by omega) (by omega), wrap_ok (x := bt s (get s t1).2.1) (by omega) (by omega)]
            simp only [show (out.length < 2932031007402) = True from eq_true (by omega), if_true, wrap_succ (show i < 9223372036854775807 by omega)]) ?_
          refine Ev.bind (piece_ev s ((get s t1).2.1 + 1) hs) ?_
          have h4 := ttext_in (s := s) (a := (get s t1).2.1 + 1) (b := false) (by omega)
          unfold pc
          by_cases c4 : (ttext s ((get s t1).2.1 + 1) false).2.2 = true
          · rw [if_pos c4]
            refine Ev.pure (fun k => ?_)
            show (if false = true then _ else _) = _
            rw [if_neg (by simp), c4]
            unfold fin
            rw [dloop_bad, if_pos rfl]
          · rw [if_neg c4]
            have c4 := Bool.eq_false_iff.2 c4
            rw [c4]
            refine Ev.congr (fun k => if_pos rfl) ?_
            exact ih (i + 1) (by omega) _ _ h4 (by rw [List.length_append, hl]; rfl)
      · have hn := tnum_fail c2
        refine Ev.congr (fun k => if_neg c2) (Ev.step (f := fun k => some ([], false)) (fun k => by rw [spec_DecodeEntries.j2, if_pos rfl]) (Ev.pure (fun k => ?_)))
        have e : (dround s a false).2.2 = true := by
          unfold dround
          rw [hT]
          show (ttext s (tbytes s (tnum s t1 false).2.1 (tnum s t1 false).2.2 1).2.1 (tbytes s (tnum s t1 false).2.1 (tnum s t1 false).2.2 1).2.2).2.2 = true
          rw [hn, tbytes_bad, ttext_bad]
        rw [e]
        unfold fin
        rw [dloop_bad, if_pos rfl]
theorem dloop_long (s : ByteArray) : ∀ (n : Nat) (a : Int) (b : Bool) (out : List S71), out.length ≤ 1000 → 1000 < out.length + n → (dloop s n a b out).2 = true := by
  intro n
  induction n with
  | zero => intro a b out h1 h2; omega
  | succ n ih =>
    intro a b out h1 h2
    unfold dloop
    by_cases hb : b = true
    · rw [if_pos hb]; exact hb
    · rw [if_neg hb]
      by_cases hl : 1000 ≤ out.length
      · rw [decide_eq_true hl, Bool.or_true]
        exact dloop_bad _ _ _ _
      · exact ih _ _ _ (by rw [List.length_append]; simp; omega) (by rw [List.length_append]; simp; omega)
theorem specDec_eq (s : ByteArray) (hs : s.size ≤ 1048576) : Ev (fun k => spec_DecodeEntries.f k s) (dec s) := by
  refine Ev.bind (a := ([] : List S71)) (Ev.pure (fun _ => rfl)) (Ev.bind (spec_get s 0 hs) ?_)
  by_cases c : (get s 0).2.2 = true
  · have g := get_ok c
    refine Ev.congr (fun k => if_pos c) ?_
    unfold dec
    rw [tnum_good c]
    show Ev _ (if (dloop s (get s 0).1.toNat (get s 0).2.1 false []).2 = true then ([], false) else if s.size = 0 then ([], false) else if enc (dloop s (get s 0).1.toNat (get s 0).2.1 false []).1 = s then ((dloop s (get s 0).1.toNat (get s 0).2.1 false []).1, true) else ([], false))
    rw [if_neg (show ¬ s.size = 0 by omega)]
    by_cases h : (get s 0).1 > 1000
    · rw [if_pos (dloop_long s _ _ _ _ (by simp) (by simp; omega))]
      exact Ev.step (f := fun _ => some ([], false)) (fun k => by rw [spec_DecodeEntries.j0, if_pos (decide_eq_true h)]) (Ev.now _)
    · obtain ⟨n, hn⟩ : ∃ n : Nat, (get s 0).1 = (n : Int) := ⟨(get s 0).1.toNat, by omega⟩
      have hl := spec_loop s hs n (by omega) n 0 (by omega) (get s 0).2.1 [] (by omega) rfl
      rw [hn, Int.toNat_natCast]
      refine Ev.step (fun k => ?_) hl
      rw [spec_DecodeEntries.j0, if_neg (by rw [decide_eq_false (by omega)]; simp)]
      rfl
  · refine Ev.congr (fun k => if_neg c) ?_
    have e : dec s = ([], false) := by
      unfold dec
      rw [tnum_fail c]
      rfl
    rw [e]
    exact Ev.step (f := fun _ => some ([], false)) (fun k => by rw [spec_DecodeEntries.j0, if_pos rfl]) (Ev.now _)
theorem dloop_length (s : ByteArray) : ∀ (n : Nat) (a : Int) (b : Bool) (out : List S71), out.length ≤ 1001 → (b = false → out.length ≤ 1000) → (dloop s n a b out).1.length ≤ 1001 := by
  intro n
  induction n with
  | zero => intro a b out h1 h2; exact h1
  | succ n ih =>
    intro a b out h1 h2
    unfold dloop
    by_cases hb : b = true
    · rw [if_pos hb]; exact h1
    · rw [if_neg hb]
      have h3 := h2 (Bool.eq_false_iff.2 hb)
      refine ih _ _ _ (by rw [List.length_append]; simp; omega) (fun h => ?_)
      have : ¬ 1000 ≤ out.length := by
        intro h4
        rw [decide_eq_true h4, Bool.or_true] at h
        cases h
      rw [List.length_append]; simp; omega
theorem dec_length (s : ByteArray) : (dec s).1.length ≤ 1001 := by
  unfold dec
  split
  · exact Nat.zero_le _
  · split
    · exact Nat.zero_le _
    · split
      · exact dloop_length _ _ _ _ _ (Nat.zero_le _) (fun _ => Nat.zero_le _)
      · exact Nat.zero_le _
end Go.Proofs.Ytjneloehdcecnaa.M
end
section
/- The laws' marks: what markEntryS writes heldEntryS finds. Condition: the row and the count are far from the end of the numbers. -/
namespace Go.Proofs.Ytjneloehdcecnaa.M
open Go.RowKit Go.Proofs.Ytjneloehdcecnaa.P Go.Proofs.YtjneloehdcecnaaW.PrintWords Go.Proofs.YtjneloehdcecnaaW.PrintLast Go.Proofs.YtjneloehdcecnaaW.PrintMore
set_option linter.unusedVariables false
theorem size_strOfNums (a : Int) : (strOfNums [a]).size = 1 := rfl
theorem markText_ends : ∀ (n : Nat) (k : Nat) (acc : ByteArray), k ≤ n → acc.size + k ≤ 4611686018427387904 → ∃ t, Ev (fun j => laws_markText.l0 j (k : Int) acc) t := by
  intro n
  induction n with
  | zero =>
    intro k acc hk hs
    refine ⟨(⟨#[109]⟩ : ByteArray) ++ acc, Ev.step (f := fun _ => some ((⟨#[109]⟩ : ByteArray) ++ acc)) (fun j => ?_) (Ev.now _)⟩
    rw [laws_markText.l0, if_neg (by omega), if_pos (by omega)]
  | succ n ih =>
    intro k acc hk hs
    by_cases c : k = 0
    · refine ⟨(⟨#[109]⟩ : ByteArray) ++ acc, Ev.step (f := fun _ => some ((⟨#[109]⟩ : ByteArray) ++ acc)) (fun j => ?_) (Ev.now _)⟩
      rw [laws_markText.l0, if_neg (by omega), if_pos (by omega)]
    · have ht : Int.tdiv (k : Int) 10 = ((k / 10 : Nat) : Int) := by
        rw [Int.tdiv_eq_ediv_of_nonneg (by omega)]; omega
      have hsz := size_strOfNums ((wrap64 (48 + (Int.tmod (k : Int) 10))) % 256)
      obtain ⟨t, h⟩ := ih (k / 10) (strOfNums [(wrap64 (48 + (Int.tmod (k : Int) 10))) % 256] ++ acc) (by omega) (by rw [ByteArray.size_append, hsz]; omega)
      refine ⟨t, Ev.step (fun j => ?_) h⟩
      rw [laws_markText.l0, if_pos (by omega), Option.bind_some, if_pos (by rw [hsz]; omega), ht, wrap_ok (by omega) (by omega)]
theorem markText_all (k : Nat) (hk : k ≤ 4611686018427387904) : ∃ t, Ev (fun j => laws_markText.f j (k : Int)) t := by
  by_cases c : k = 0
  · exact ⟨_, Ev.pure (fun j => if_pos (by omega))⟩
  · obtain ⟨t, h⟩ := markText_ends k k ⟨#[]⟩ (Nat.le_refl _) (by show 0 + k ≤ _; omega)
    exact ⟨t, Ev.congr (fun j => if_neg (by omega)) h⟩
open Classical in
noncomputable def mt (k : Nat) : ByteArray := if h : ∃ t, Ev (fun j => laws_markText.f j (k : Int)) t then Classical.choose h else ⟨#[]⟩
theorem mt_eq (k : Nat) (hk : k ≤ 4611686018427387904) : Ev (fun j => laws_markText.f j (k : Int)) (mt k) := by
  unfold mt
  rw [dif_pos (markText_all k hk)]
  exact Classical.choose_spec (markText_all k hk)
theorem set_here {α : Type} (a b : List α) (x y : α) (i : Nat) (h : a.length = i) : (a ++ x :: b).set i y = a ++ y :: b := by
  subst h
  rw [List.set_append_right _ _ (Nat.le_refl _), Nat.sub_self]
  rfl
noncomputable def mark1 (k : Nat) : S71 := ⟨mt k, ((k + 1 : Nat) : Int), ((k + 2 : Nat) : Int), mt (k + 3)⟩
noncomputable def marked : Nat → List S71 → List S71
  | _, [] => []
  | k, _ :: l => mark1 k :: marked (k + 4) l
theorem marked_length (l : List S71) : ∀ k, (marked k l).length = l.length := by
  induction l with
  | nil => intro k; rfl
  | cons x l ih => intro k; show (marked (k + 4) l).length + 1 = l.length + 1; rw [ih]
theorem marked_append (a b : List S71) : ∀ k, marked k (a ++ b) = marked k a ++ marked (k + 4 * a.length) b := by
  induction a with
  | nil => intro k; rfl
  | cons x a ih =>
    intro k
    show _ :: marked (k + 4) (a ++ b) = _ :: (marked (k + 4) a ++ _)
    rw [ih, show k + 4 + 4 * a.length = k + 4 * (x :: a).length by simp; omega]
theorem rd_here (a b : List S71) (x : S71) (i : Nat) (h : a.length = i) : rd_T71 (a ++ x :: b) (i : Int) = x := by
  subst h
  rw [rd71 _ _ (by simp)]
  simp
theorem markEntryS_loop (l : List S71) (hl : l.length ≤ 1048577) : ∀ d i : Nat, i + d = l.length →
    Ev (fun j => laws_markEntryS.l0 j (marked 1 (l.take i) ++ l.drop i) ((1 + 4 * i : Nat) : Int) (i : Int)) (((1 + 4 * l.length : Nat) : Int), marked 1 l) := by
  intro d
  induction d with
  | zero =>
    intro i hi
    refine Ev.step (f := fun _ => some (((1 + 4 * l.length : Nat) : Int), marked 1 l)) (fun j => ?_) (Ev.now _)
    have e : marked 1 (l.take i) ++ l.drop i = marked 1 l := by rw [List.drop_eq_nil_of_le (by omega), List.append_nil, List.take_of_length_le (by omega)]
    rw [e, laws_markEntryS.l0, if_neg (by rw [marked_length]; omega), show i = l.length by omega]
  | succ d ih =>
    intro i hi
    have hlt : i < l.length := by omega
    have hm : (marked 1 (l.take i)).length = i := by rw [marked_length, List.length_take]; omega
    have hlen : (marked 1 (l.take i) ++ l.drop i).length = l.length := by rw [List.length_append, hm, List.length_drop]; omega
    rw [drop_at l i hlt] at hlen ⊢
    generalize hA : marked 1 (l.take i) = A at hm hlen ⊢
    have e1 : wrap64 (((1 + 4 * i : Nat) : Int) + 1) = ((1 + 4 * i + 1 : Nat) : Int) := by rw [wrap_ok] <;> omega
    have e2 : wrap64 (((1 + 4 * i + 1 : Nat) : Int) + 1) = ((1 + 4 * i + 2 : Nat) : Int) := by rw [wrap_ok] <;> omega
    have e3 : wrap64 (((1 + 4 * i + 2 : Nat) : Int) + 1) = ((1 + 4 * i + 3 : Nat) : Int) := by rw [wrap_ok] <;> omega
    have e3' : wrap64 (((1 + 4 * i + 3 : Nat) : Int) + 1) = ((1 + 4 * (i + 1) : Nat) : Int) := by rw [wrap_ok] <;> omega
    have e4 : wrap64 ((i : Int) + 1) = ((i + 1 : Nat) : Int) := wrap_succ (by omega)
    have h2 := ih (i + 1) (by omega)
    have e5 : marked 1 (l.take (i + 1)) ++ l.drop (i + 1) = A ++ mark1 (1 + 4 * i) :: l.drop (i + 1) := by
      rw [take_at l i hlt, marked_append, hA, List.length_take, Nat.min_eq_left (by omega), List.append_assoc]
      rfl
    rw [e5] at h2
    refine Ev.step (f := fun j => ((laws_markText.f j ((1 + 4 * i : Nat) : Int)).bind fun t231 => ((laws_markText.f j ((1 + 4 * i + 3 : Nat) : Int)).bind fun t233 => (laws_markEntryS.l0 j (A ++ (⟨t231, ((1 + 4 * i + 1 : Nat) : Int), ((1 + 4 * i + 2 : Nat) : Int), t233⟩ : S71) :: l.drop (i + 1)) ((1 + 4 * (i + 1) : Nat) : Int) ((i + 1 : Nat) : Int))))) (fun j => ?_) (Ev.bind (mt_eq _ (by omega)) (Ev.bind (mt_eq _ (by omega)) h2))
    rw [laws_markEntryS.l0, if_pos (by rw [hlen]; omega)]
    have e6 : ((0 : Int) ≤ (i : Int)) = True := eq_true (by omega)
    simp only [Option.bind_some, Int.toNat_natCast, e1, e2, e3, e3', e4, e6, if_true, rd_here A _ _ i hm, set_here A _ _ _ i hm]
theorem markEntryS_eq (l : List S71) (hl : l.length ≤ 1048577) : Ev (fun j => laws_markEntryS.f j l 1) (((1 + 4 * l.length : Nat) : Int), marked 1 l) := by
  have := markEntryS_loop l hl l.length 0 (by omega)
  exact this
theorem heldEntryS_loop (l : List S71) (hl : l.length ≤ 1048577) : ∀ d i : Nat, i + d = l.length →
    Ev (fun j => laws_heldEntryS.l0 j (marked 1 l) ((1 + 4 * i : Nat) : Int) (i : Int)) ((1 + 4 * l.length : Nat) : Int) := by
  intro d
  induction d with
  | zero =>
    intro i hi
    refine Ev.step (f := fun _ => some ((1 + 4 * l.length : Nat) : Int)) (fun j => ?_) (Ev.now _)
    rw [laws_heldEntryS.l0, if_neg (by rw [marked_length]; omega), show i = l.length by omega]
  | succ d ih =>
    intro i hi
    have hlt : i < l.length := by omega
    have hm : (marked 1 (l.take i)).length = i := by rw [marked_length, List.length_take]; omega
    have hlen := marked_length l 1
    have e0 : marked 1 l = marked 1 (l.take i) ++ mark1 (1 + 4 * i) :: marked (1 + 4 * i + 4) (l.drop (i + 1)) := by
      have : l = l.take i ++ l[i] :: l.drop (i + 1) := by rw [← drop_at l i hlt, List.take_append_drop]
      conv => lhs; rw [this, marked_append, List.length_take, Nat.min_eq_left (by omega)]
      rfl
    have e1 : wrap64 (((1 + 4 * i : Nat) : Int) + 1) = ((1 + 4 * i + 1 : Nat) : Int) := by rw [wrap_ok] <;> omega
    have e2 : wrap64 (((1 + 4 * i + 1 : Nat) : Int) + 1) = ((1 + 4 * i + 2 : Nat) : Int) := by rw [wrap_ok] <;> omega
    have e3 : wrap64 (((1 + 4 * i + 2 : Nat) : Int) + 1) = ((1 + 4 * i + 3 : Nat) : Int) := by rw [wrap_ok] <;> omega
    have e3' : wrap64 (((1 + 4 * i + 3 : Nat) : Int) + 1) = ((1 + 4 * (i + 1) : Nat) : Int) := by rw [wrap_ok] <;> omega
    have e4 : wrap64 ((i : Int) + 1) = ((i + 1 : Nat) : Int) := wrap_succ (by omega)
    have er : rd_T71 (marked 1 l) (i : Int) = ⟨mt (1 + 4 * i), ((1 + 4 * i + 1 : Nat) : Int), ((1 + 4 * i + 2 : Nat) : Int), mt (1 + 4 * i + 3)⟩ := by rw [e0]; exact rd_here _ _ _ i hm
    have h2 := ih (i + 1) (by omega)
    refine Ev.step (f := fun j => ((laws_markText.f j ((1 + 4 * i : Nat) : Int)).bind fun t241 => (if (mt (1 + 4 * i)).toList = t241.toList then ((laws_markText.f j ((1 + 4 * i + 3 : Nat) : Int)).bind fun t243 => (if (mt (1 + 4 * i + 3)).toList = t243.toList then (laws_heldEntryS.l0 j (marked 1 l) ((1 + 4 * (i + 1) : Nat) : Int) ((i + 1 : Nat) : Int)) else (some (-1)))) else (some (-1))))) (fun j => ?_) (Ev.bind (mt_eq _ (by omega)) (Ev.congr (fun j => if_pos rfl) (Ev.bind (mt_eq _ (by omega)) (Ev.congr (fun j => if_pos rfl) h2))))
    rw [laws_heldEntryS.l0, if_pos (by rw [hlen]; omega)]
    have e6 : ((0 : Int) ≤ (i : Int)) = True := eq_true (by omega)
    simp only [e1, e2, e3, e3', e4, er, e6, if_true]
theorem heldEntryS_eq (l : List S71) (hl : l.length ≤ 1048577) : Ev (fun j => laws_heldEntryS.f j (marked 1 l) 1) ((1 + 4 * l.length : Nat) : Int) := by
  have := heldEntryS_loop l hl l.length 0 (by omega)
  exact this
end Go.Proofs.Ytjneloehdcecnaa.M
end
section
/- The program's DecodeEntries answers as the specification's at every text of at most 2 to the 20 bytes, and its answer owns its memory. -/
namespace Go.Proofs.Ytjneloehdcecnaa.Pure
open Go.RowKit Go.Proofs.Ytjneloehdcecnaa.P Go.Proofs.YtjneloehdcecnaaW.PrintWords Go.Proofs.YtjneloehdcecnaaW.PrintLast Go.Proofs.Ytjneloehdcecnaa.M
set_option linter.unusedVariables false
theorem FnExactDecodeEntries : laws_FnExactDecodeEntries.Pure := by
  intro s _
  refine Ev.rounds (r := true) ?_
  by_cases hs : (s.size : Int) > 1048576
  · exact M.Ev.pure (fun k => if_pos hs)
  have hsp := specDec_eq s (by omega)
  have him : ∀ k : Nat, impl_DecodeEntries.f s = some (dec s) := fun _ => if_pos (by omega)
  have hl := dec_length s
  generalize dec s = r at hsp him hl
  have he := eqEntryS_self r.1 (by omega)
  have hm := markEntryS_eq r.1 (by omega)
  have hh := heldEntryS_eq r.1 (by omega)
  refine Ev.congr (fun k => if_neg hs) (Ev.bind hsp (Ev.bind (M.Ev.pure him) (Ev.bind he (Ev.congr (fun k => if_pos rfl) ?_))))
  refine Ev.step (f := fun k => ((laws_markEntryS.f k r.1 1).bind fun bt351 => ((laws_heldEntryS.f k bt351.2 1).bind fun t353 => (if t353 < 0 then (some false) else (if t353 = bt351.1 then ((impl_DecodeEntries.f s).bind fun bt354 => ((laws_eqEntryS.f k bt354.1 r.1).bind fun t358 => (if t358 = true then (if (bt354.2 != r.2) = true then (some false) else (some true)) else (some false)))) else (some false)))))) (fun k => by rw [laws_FnExactDecodeEntries.j0, if_neg (by simp)]) ?_
  refine Ev.bind hm (Ev.bind hh (Ev.congr (fun k => if_neg (by omega)) (Ev.congr (fun k => if_pos rfl) (Ev.bind (M.Ev.pure him) (Ev.bind he (Ev.congr (fun k => if_pos rfl) (M.Ev.pure (fun k => if_neg (by simp)))))))))
end Go.Proofs.Ytjneloehdcecnaa.Pure
end
section
-- PRINTED by print.py: the row of the law laws_FnExactDecodeEntries, out of its Pure (the session's) and the printed walk. Not trusted: Lean checks it.
namespace Go.Proofs.Ytjneloehdcecnaa.fnExactDecodeEntries
open Go.ChangeShapes Go.WideShapes Go.ChangeAt Go.RowKit
open Go.ChangeMaps (open_string shut_string)
set_option linter.unusedVariables false
theorem own : ownKnob Try.prog.godebug = none := by kernel_rfl
set_option maxRecDepth 100000 in
theorem lifted (os : Os) (started : os.Started) (H : Type) (enc : TypeId × Value → H) :
    ReturnsInHanded {} Try.checked os 8 .any (Rows.fnExactDecodeEntriesSpec.pre6 enc Try.prog Try.f8 Rows.fnExactDecodeEntriesRow.domain false) (Rows.fnExactDecodeEntriesSpec.post enc Try.prog Try.f8 false true false false) := by
  refine returnsInHanded_of_change_sized (C := Try.checked) own started (by kernel_rfl) Try.func8
    (ChangeSpec.witness6 (enc := enc) (C := Try.checked) false ⟨#[], #[.string ByteArray.empty], []⟩ 8 (by kernel_rfl) (by kernel_rfl) (by kernel_rfl) (by kernel_rfl)) ?_
  intro W base args ds gs before hval0 hW hcnd hsz0 _
  have hsz : (DataW.weightsEach Try.prog (Try.f8.params.toList ++ Rows.fnExactDecodeEntriesSpec.plain.varTypes Try.prog) (ds ++ gs)).all (· ≤ reachBytes) = true := hsz0
  have hval : ∀ (j : Nat) t v, Try.f8.params[j]? = some t → args[j]? = some v → Value.okWide Try.prog W .any base t v := hval0
  have hW' := hW
  obtain ⟨p, q, hA0, hV, rfl, hfz, hnd⟩ := hW
  have hA : DataW.TrodAll enc Try.prog W 0 (fun _ => true) true Try.f8.params.toList args.toList ds p := hA0
  rw [Try.params8] at hA hval hsz
  obtain ⟨v0, vs0, d0, ds0, p0, q0, hargs, rfl, rfl, h0, r0⟩ := trodAll_cons hA
  obtain ⟨rfl, rfl, rfl⟩ := trodAll_nil r0
  obtain rfl : args = #[v0] := by cases args; simp_all
  obtain ⟨rfl, rfl⟩ := trodVars_none hV
  obtain ⟨a0, rfl, rfl, rfl, y0⟩ := open_string Try.underlying9 (hval 0 9 v0 rfl rfl) h0
  have w0 : a0.size ≤ 140737488351232 := by
    have z := sized_string hsz (j := 0) (t := 9) rfl rfl
    rw [Array.length_toList] at z
    exact z
  clear hA0 hval0 hsz0 hsz
  refine (P.laws_FnExactDecodeEntries.walk Pure.FnExactDecodeEntries a0 W w0).mono fun e W' ⟨he, bel⟩ => ?_
  subst he
  exact ⟨_, rfl, _, _, _, [], _, [], hW', trodAll_mk1 (shut_bool Try.underlying4 _), (trodAll_cons_mk (shut_string Try.underlying9 y0) trodAll_mk0), rfl, bel.frame _, fun h => by cases h⟩
theorem over : Rows.fnExactDecodeEntriesRow.holds Try.pinned (OpenSpec.ofChange Rows.fnExactDecodeEntriesSpec) :=
  OpenClaim.holds_of_wide 8 Try.f8 rfl rfl rfl rfl rfl rfl rfl ⟨rfl, rfl, rfl, rfl, rfl⟩ rfl rfl rfl rfl rfl (by kernel_rfl) Try.func8 (by kernel_rfl)
    (of_decide_eq_true (by kernel_rfl)) (by unfold Func.isWrapper; first | (rw [if_pos (by decide +kernel)]; kernel_rfl) | (rw [if_neg (by decide +kernel)]; exact ⟨rfl, rfl⟩))
    (fun os started H enc _ => lifted os started H enc)
theorem proved : Rows.FnExactDecodeEntriesSaid := over
end Go.Proofs.Ytjneloehdcecnaa.fnExactDecodeEntries
namespace Go.Proofs.Ytjneloehdcecnaa
/-- The row, under a short name, for the claim. -/
theorem fnExactDecodeEntries_holds : Rows.FnExactDecodeEntriesSaid := fnExactDecodeEntries.proved
end Go.Proofs.Ytjneloehdcecnaa
end

/- Texts of the claim FnSynced, part 30 of 34, joined: Pspecl1DrawFS, MDrawFS, Pspecl1Pad. No condition beyond those that stand at each. -/
import Derived.Test.YtbppijlcmeidaaaZFnSynced24
import Derived.Test.YtbppijlcmeidaaaZFnSynced26
import Derived.Test.YtbppijlcmeidaaaZFnSynced29
import Derived.Test.YtbppijlcmeidaaaZFnSynced27
section
-- Written by a changed copy of the print program, one module a function. Not trusted: Lean checks it.
namespace Go.Proofs.Ytbppijlcmeidaaa.P
open Go.RowKit Go.Proofs.YtbppijlcmeidaaaW.PrintWords Go.Proofs.YtbppijlcmeidaaaW.PrintLast Go.Proofs.YtbppijlcmeidaaaW.PrintMore
attribute [local go_sem] max2_int min2_int max_two min_two max_three min_three max_four min_four   -- for this text's walks alone
set_option linter.unusedVariables false
set_option linter.unusedSimpArgs false

/-! ### spec_l1DrawFS: function 80 -/
mutual
def spec_l1DrawFS.l0 : Nat → List Int → Int → Int → Int → List (S52) → Int → Int → Option ((List (S52)) × Int × Int × Int)
 | 0, _, _, _, _, _, _, _ => none
 | k + 1, x0, x1, x8, x10, x586000, x586001, x586002 => if x10 < x8 then ((spec_l1DrawName.f k x0 x1).bind fun bt586 => ((spec_l1Take.f k x0 bt586.2 20).bind fun bt588 => ((spec_l1Take.f k x0 bt588.2 20).bind fun bt590 => (if 0 ≤ (Int.tmod bt590.1 3) then (if (Int.tmod bt590.1 3) ≤ (wrap64 ((Int.tmod bt590.1 3) + 1)) then (if (wrap64 ((Int.tmod bt590.1 3) + 1)) ≤ 3 then ((spec_l1Long.f bt588.1 ((⟨#[120, 121, 122]⟩ : ByteArray).extract ((Int.tmod bt590.1 3) : Int).toNat ((wrap64 ((Int.tmod bt590.1 3) + 1)) : Int).toNat)).bind fun t592 => (if (wrap64 (bt588.1 + 1)) = 0 then (none) else ((spec_l1With.f k x586000 bt586.1 t592 (Int.tmod bt590.1 (wrap64 (bt588.1 + 1)))).bind fun t593 => (spec_l1DrawFS.l0 k x0 bt590.2 x8 (wrap64 (x10 + 1)) t593 x586001 x586002)))) else (none)) else (none)) else (none))))) else ((spec_l1Take.f k x0 x1 8).bind fun bt596 => (if bt596.1 < 3 then ((spec_l1Total.f k x586000 200 x586002).bind fun t598 => (spec_l1DrawFS.j1 k bt596.2 bt596.1 x586000 (wrap64 (t598 + (wrap64 (bt596.1 * 3)))) x586002)) else (spec_l1DrawFS.j1 k bt596.2 bt596.1 x586000 200 x586002)))
def spec_l1DrawFS.j1 : Nat → Int → Int → List (S52) → Int → Int → Option ((List (S52)) × Int × Int × Int)
 | 0, _, _, _, _, _ => none
 | k + 1, x1, x6, x586000, x586001, x586002 => if x6 = 3 then ((spec_l1Total.f k x586000 x586001 x586002).bind fun t599 => (spec_l1DrawFS.j2 k x1 x6 x586000 (wrap64 (Int.tdiv t599 2)) x586002)) else (spec_l1DrawFS.j2 k x1 x6 x586000 x586001 x586002)
def spec_l1DrawFS.j2 : Nat → Int → Int → List (S52) → Int → Int → Option ((List (S52)) × Int × Int × Int)
 | 0, _, _, _, _, _ => none
 | k + 1, x1, x6, x586000, x586001, x586002 => if x6 = 4 then (if x6 = 5 then (some (x586000, x586001, 5, x1)) else (some (x586000, x586001, 0, x1))) else (if x6 = 5 then (some (x586000, x586001, 5, x1)) else (some (x586000, x586001, x586002, x1)))
end
def spec_l1DrawFS.f (k : Nat) (l0 : List Int) (a1 : Int) : Option ((List (S52)) × Int × Int × Int) := (spec_l1Take.f k l0 a1 7).bind fun bt583 => (spec_l1DrawFS.l0 k l0 bt583.2 bt583.1 0 ([] : List (S52)) 0 (-1))
theorem spec_l1DrawFS.mono_l : ∀ k, (∀ y0 y1 y2 y3 y4 y5 y6, LeO (spec_l1DrawFS.l0 k y0 y1 y2 y3 y4 y5 y6) (spec_l1DrawFS.l0 (k + 1) y0 y1 y2 y3 y4 y5 y6)) ∧ (∀ y0 y1 y2 y3 y4, LeO (spec_l1DrawFS.j1 k y0 y1 y2 y3 y4) (spec_l1DrawFS.j1 (k + 1) y0 y1 y2 y3 y4)) ∧ (∀ y0 y1 y2 y3 y4, LeO (spec_l1DrawFS.j2 k y0 y1 y2 y3 y4) (spec_l1DrawFS.j2 (k + 1) y0 y1 y2 y3 y4))
 | 0 => ⟨fun _ _ _ _ _ _ _ r h => by simp [spec_l1DrawFS.l0] at h, fun _ _ _ _ _ r h => by simp [spec_l1DrawFS.j1] at h, fun _ _ _ _ _ r h => by simp [spec_l1DrawFS.j2] at h⟩
 | k + 1 => by
  obtain ⟨ih0, ih1, ih2⟩ := spec_l1DrawFS.mono_l k
  refine ⟨?_, ?_, ?_⟩
  ·intro y0 y1 y2 y3 y4 y5 y6
   unfold spec_l1DrawFS.l0
   repeat' first
   | (with_reducible exact ih0 _ _ _ _ _ _ _)
   | (with_reducible exact ih1 _ _ _ _ _)
   | (with_reducible exact ih2 _ _ _ _ _)
   | (with_reducible exact spec_l1DrawName.mono _ _ _)
   | (with_reducible exact spec_l1Take.mono _ _ _ _)
   | (with_reducible exact spec_l1Total.mono _ _ _ _)
   | (with_reducible exact spec_l1With.mono _ _ _ _ _)
   | (with_reducible exact LeO.refl _)
   | (with_reducible exact LeO.none _)
   | (with_reducible refine LeO.ite ?_ ?_)
   | (with_reducible refine LeO.bind ?_ (fun _ => ?_))
   | exact ih0 _ _ _ _ _ _ _
   | exact ih1 _ _ _ _ _
   | exact ih2 _ _ _ _ _
   | exact spec_l1DrawName.mono _ _ _
   | exact spec_l1Take.mono _ _ _ _
   | exact spec_l1Total.mono _ _ _ _
   | exact spec_l1With.mono _ _ _ _ _
   | exact LeO.none _
   | refine LeO.ite ?_ ?_
   | refine LeO.bind ?_ (fun _ => ?_)
  ·intro y0 y1 y2 y3 y4
   unfold spec_l1DrawFS.j1
   repeat' first
   | (with_reducible exact ih0 _ _ _ _ _ _ _)
   | (with_reducible exact ih1 _ _ _ _ _)
   | (with_reducible exact ih2 _ _ _ _ _)
   | (with_reducible exact spec_l1DrawName.mono _ _ _)
   | (with_reducible exact spec_l1Take.mono _ _ _ _)
   | (with_reducible exact spec_l1Total.mono _ _ _ _)
   | (with_reducible exact spec_l1With.mono _ _ _ _ _)
   | (with_reducible exact LeO.refl _)
   | (with_reducible exact LeO.none _)
   | (with_reducible refine LeO.ite ?_ ?_)
   | (with_reducible refine LeO.bind ?_ (fun _ => ?_))
   | exact ih0 _ _ _ _ _ _ _
   | exact ih1 _ _ _ _ _
   | exact ih2 _ _ _ _ _
   | exact spec_l1DrawName.mono _ _ _
   | exact spec_l1Take.mono _ _ _ _
   | exact spec_l1Total.mono _ _ _ _
   | exact spec_l1With.mono _ _ _ _ _
   | exact LeO.none _
   | refine LeO.ite ?_ ?_
   | refine LeO.bind ?_ (fun _ => ?_)
  ·intro y0 y1 y2 y3 y4
   unfold spec_l1DrawFS.j2
   repeat' first
   | (with_reducible exact ih0 _ _ _ _ _ _ _)
   | (with_reducible exact ih1 _ _ _ _ _)
   | (with_reducible exact ih2 _ _ _ _ _)
   | (with_reducible exact spec_l1DrawName.mono _ _ _)
   | (with_reducible exact spec_l1Take.mono _ _ _ _)
   | (with_reducible exact spec_l1Total.mono _ _ _ _)
   | (with_reducible exact spec_l1With.mono _ _ _ _ _)
   | (with_reducible exact LeO.refl _)
   | (with_reducible exact LeO.none _)
   | (with_reducible refine LeO.ite ?_ ?_)
   | (with_reducible refine LeO.bind ?_ (fun _ => ?_))
   | exact ih0 _ _ _ _ _ _ _
   | exact ih1 _ _ _ _ _
   | exact ih2 _ _ _ _ _
   | exact spec_l1DrawName.mono _ _ _
   | exact spec_l1Take.mono _ _ _ _
   | exact spec_l1Total.mono _ _ _ _
   | exact spec_l1With.mono _ _ _ _ _
   | exact LeO.none _
   | refine LeO.ite ?_ ?_
   | refine LeO.bind ?_ (fun _ => ?_)
theorem spec_l1DrawFS.mono : ∀ a0 a1 k, LeO (spec_l1DrawFS.f k a0 a1) (spec_l1DrawFS.f (k + 1) a0 a1) := by
 intro a0 a1 k
 obtain ⟨ih0, ih1, ih2⟩ := spec_l1DrawFS.mono_l k
 unfold spec_l1DrawFS.f
 repeat' first
   | (with_reducible exact ih0 _ _ _ _ _ _ _)
   | (with_reducible exact ih1 _ _ _ _ _)
   | (with_reducible exact ih2 _ _ _ _ _)
   | (with_reducible exact spec_l1DrawName.mono _ _ _)
   | (with_reducible exact spec_l1Take.mono _ _ _ _)
   | (with_reducible exact spec_l1Total.mono _ _ _ _)
   | (with_reducible exact spec_l1With.mono _ _ _ _ _)
   | (with_reducible exact LeO.refl _)
   | (with_reducible exact LeO.none _)
   | (with_reducible refine LeO.ite ?_ ?_)
   | (with_reducible refine LeO.bind ?_ (fun _ => ?_))
   | exact ih0 _ _ _ _ _ _ _
   | exact ih1 _ _ _ _ _
   | exact ih2 _ _ _ _ _
   | exact spec_l1DrawName.mono _ _ _
   | exact spec_l1Take.mono _ _ _ _
   | exact spec_l1Total.mono _ _ _ _
   | exact spec_l1With.mono _ _ _ _ _
   | exact LeO.none _
   | refine LeO.ite ?_ ?_
   | refine LeO.bind ?_ (fun _ => ?_)
def spec_l1DrawFS.T12 : Bool × List (List Nat × List Nat) := (true, [([], []), ([0], [0]), ([], []), ([], []), ([], []), ([], []), ([5], [5]), ([4, 6], [4, 6]), ([2, 3, 7], [2, 3, 7]), ([1, 8], [1, 8]), ([0, 1, 2, 3, 4, 5, 6, 7, 8, 9], []), ([10, 9, 9, 0, 1, 2, 3, 4, 5, 6, 7, 8, 9], [9, 10])])
def spec_l1DrawFS.B12 : List Nat := [0, 1, 0, 0, 0, 0, 32, 112, 252, 511, 1023, 2047]
theorem spec_l1DrawFS.tab12 : rtab .any (opsOf Try.f80 12) = spec_l1DrawFS.T12 := by kernel_rfl
theorem spec_l1DrawFS.bits12 : waitsOk spec_l1DrawFS.T12.2 spec_l1DrawFS.B12 = true := by kernel_rfl
set_option maxHeartbeats 8000000 in
set_option maxRecDepth 100000 in
theorem spec_l1DrawFS.calls (k : Nat) (A0 : Option Addr) (c0 : Nat) (l0 : List Int) (a1 : Int) (r1 : List (S52)) (r2 : Int) (r3 : Int) (r4 : Int) (w : World) (hr0 : Kd.C (Kd.int .u8) w A0 l0.length l0) (hc0 : l0.length ≤ c0) (h : spec_l1DrawFS.f k l0 a1 = some (r1, r2, r3, r4)) :
  Calls Try.prog 80 #[.slice A0 l0.length c0, .int .i64 a1] w fun e w' => ∃ v0_ : Value, e = .returned (.tuple #[.agg #[v0_, .int .i64 r2, .int .i64 r3], .int .i64 r4]) ∧ Kd.R k52 52 w' w.heap.size (fun _ => True) v0_ r1 ∧ Below w.heap.size w w' := by
 have hu29 := Try.underlying29
 have hu52 := Try.underlying52
 have HR0 := Aside0.mk hr0
 have HC0 := Aside0.mk hc0
 clear hr0 hc0
 have HB := Aside0.mk (Below.refl w.heap.size w)
 have H : ((spec_l1Take.f k l0 a1 7).bind fun bt583 => (spec_l1DrawFS.l0 k l0 bt583.2 bt583.1 0 ([] : List (S52)) 0 (-1))) = some (r1, r2, r3, r4) := h
 clear h
 replace H := Option.bind_eq_some_iff.mp H
 obtain ⟨⟨t583, t584⟩, A30, H⟩ := H
 replace H : (spec_l1DrawFS.l0 k l0 t584 t583 0 ([] : List (S52)) 0 (-1)) = some (r1, r2, r3, r4) := H
 have A3 := Aside0.mk A30
 clear A30
 have H' := Aside0.mk H
 clear H
 go_enter Try.func80, Try.ntmps80
 go_wp2_with (first | ((with_reducible refine gate_dst (N := 4) rfl ?_); refine box_event ?hg (N := 4) ?hd (cs := #[.slice none 0 0, .int .i64 0, .int .i64 0]) (t := 29) ?hr ?_; (case hd => rfl); (case hg => rfl); (case hr => first | (go_simp; done) | (go_simp; rfl)); intro gb582 hg w4 hbox hb; have n0_ := Aside0.mk (below_step (by repeat (first | (with_reducible first | exact HB.out | apply below_alloc | apply pw_below_drewN | apply below_drew1) | exact HB.out)) hb); have n1_ := Aside0.mk (hbox); have n2_ := Aside0.mk ((by rw [hg]; exact (below_size (by repeat (first | (with_reducible first | exact HB.out | apply below_alloc | apply pw_below_drewN | apply below_drew1) | exact HB.out))) : w.heap.size ≤ gb582)); have n3_ := Aside0.mk ((by rw [hg]; exact (below_size (by repeat (first | (with_reducible first | exact HB.out | apply below_alloc | apply pw_below_drewN | apply below_drew1) | exact HB.out))) : w.heap.size ≤ gb582)); clear HB; have HB := n0_; have BK582 := n1_; have GW582 := n2_; have GE582 := n3_; clear n0_ n1_ n2_ n3_; clear hb hbox hg) | ((with_reducible refine gate_callee (f := 65) rfl ?_); refine goesL_ (some 16) rfl rfl Try.func65 (by kernel_rfl) rfl #[.slice A0 l0.length c0, .int .i64 a1, .int .i64 7] rfl (by (try simp only [List.map_toArray, List.map_cons, List.map_nil]); first | done | rfl | (simp only [List.length_drop, List.length_take]; rfl)) ?_; (with_reducible refine (spec_l1Take.calls k _ _ l0 a1 7 t583 t584 _ ?side1 ?side2 A3.out).mono ?_); (case side1 => repeat (first | exact (Kd.C_below HR0.out HB.out) | (with_reducible refine Kd.C_alloc ?_ _) | (with_reducible refine Kd.C_drewN ?_ _) | (with_reducible refine Kd.C_drew ?_))); (case side2 => exact HC0.out); rintro e w' ⟨rfl, ⟨nd, rfl⟩⟩; refine ⟨_, rfl, ?_⟩; (try (rw [drewN_self w4]; generalize hq_ : World.drewN w4 _ = w4; have n0_ : Aside0 (w4.heap[gb582]? = some (.cells #[.slice none 0 0, .int .i64 0, .int .i64 0] 29 (0, 0))) := ⟨by rw [← hq_]; exact (by (with_reducible repeat (first | refine blk_drewN ?_ _ | refine blk_drew ?_ | refine blk_alloc ?_ _)); exact BK582.out)⟩; have n1_ : Aside0 (Below w.heap.size w w4) := ⟨by rw [← hq_]; exact (by repeat (first | (with_reducible first | exact HB.out | apply below_alloc | apply pw_below_drewN | apply below_drew1 | refine below_set ?_ GE582.out) | exact HB.out))⟩; clear BK582 HB hq_; have BK582 := n0_; have HB := n1_; clear n0_ n1_))) | ((with_reducible refine gate_dst (N := 9) rfl ?_); refine box_event ?hg (N := 9) ?hd (cs := #[.slice none 0 0, .int .i64 0, .int .i64 0]) (t := 29) ?hr ?_; (case hd => rfl); (case hg => rfl); (case hr => first | (go_simp; done) | (go_simp; rfl)); intro gb585 hg w5 hbox hb; have n0_ := Aside0.mk (blk_below (g := gb582) (o := .cells #[.slice none 0 0, .int .i64 0, .int .i64 0] 29 (0, 0)) (by (with_reducible repeat (first | refine blk_drewN ?_ _ | refine blk_drew ?_ | refine blk_alloc ?_ _)); exact BK582.out) hb); have n1_ := Aside0.mk (below_step (by repeat (first | (with_reducible first | exact HB.out | apply below_alloc | apply pw_below_drewN | apply below_drew1 | refine below_set ?_ GE582.out) | exact HB.out)) hb); have n2_ := Aside0.mk (hbox); have n3_ := Aside0.mk ((by rw [hg]; exact (below_size (by repeat (first | (with_reducible first | exact HB.out | apply below_alloc | apply pw_below_drewN | apply below_drew1 | refine below_set ?_ GE582.out) | exact HB.out))) : w.heap.size ≤ gb585)); have n4_ := Aside0.mk ((by rw [hg]; exact (below_size (by repeat (first | (with_reducible first | exact HB.out | apply below_alloc | apply pw_below_drewN | apply below_drew1 | refine below_set ?_ GE582.out) | exact HB.out))) : w.heap.size ≤ gb585)); have n5_ := Aside0.mk ((by rw [hg]; exact Nat.ne_of_lt (blk_lt (g := gb582) (o := .cells #[.slice none 0 0, .int .i64 0, .int .i64 0] 29 (0, 0)) (by (with_reducible repeat (first | refine blk_drewN ?_ _ | refine blk_drew ?_ | refine blk_alloc ?_ _)); exact BK582.out)) : gb582 ≠ gb585)); have n6_ := Aside0.mk ((by rw [hg]; exact Nat.ne_of_gt (blk_lt (g := gb582) (o := .cells #[.slice none 0 0, .int .i64 0, .int .i64 0] 29 (0, 0)) (by (with_reducible repeat (first | refine blk_drewN ?_ _ | refine blk_drew ?_ | refine blk_alloc ?_ _)); exact BK582.out)) : gb585 ≠ gb582)); clear BK582; clear HB; have BK582 := n0_; have HB := n1_; have BK585 := n2_; have GW585 := n3_; have GE585 := n4_; have NB582_585 := n5_; have NB585_582 := n6_; clear n0_ n1_ n2_ n3_ n4_ n5_ n6_; clear hb hbox hg; have hnb6 := NB585_582.out; have hnc6 := NB582_585.out; have hcz7_0 : w5.cell? ⟨gb585, 0, none⟩ = some (.slice none 0 0) := (blk_cell BK585.out 0).trans rfl; have hcz7_1 : w5.cell? ⟨gb585, 1, none⟩ = some (.int .i64 0) := (blk_cell BK585.out 1).trans rfl; have hcz7_2 : w5.cell? ⟨gb585, 2, none⟩ = some (.int .i64 0) := (blk_cell BK585.out 2).trans rfl; have hfz7_0 := blk_frozen BK585.out 0; have hfz7_1 := blk_frozen BK585.out 1; have hfz7_2 := blk_frozen BK585.out 2))
 go_loopg [1, 10] k (fun kq v1 v10 w' => ∃ (x1_1 : Int) (x10_1 : Int) (x586000_1 : List (S52)) (u586000 : Value), v1 = .int .i64 x1_1 ∧ v10 = .int .i64 x10_1 ∧ Aside0 (spec_l1DrawFS.l0 kq l0 x1_1 t583 x10_1 x586000_1 0 (-1) = some (r1, r2, r3, r4)) ∧ Aside0 (kq ≤ k) ∧ Aside0 (Kd.R k52 52 w' w.heap.size (fun _ => True) u586000 x586000_1) ∧ Aside0 (w'.heap[gb582]? = some (.cells #[(.slice none 0 0), .int .i64 0, .int .i64 0] 29 (0, 0))) ∧ Aside0 (w'.heap[gb585]? = some (.cells #[u586000, .int .i64 0, .int .i64 (-1)] 29 (0, 0))) ∧ Aside0 (Below w.heap.size w w'))
 case atStart => exact ⟨(t584), (0), (([] : List (S52))), (.slice none 0 0), (by first | rfl | (simp; done) | (simp [*]; done)), (by first | rfl | (simp; done) | (simp [*]; done)), H', ⟨Nat.le_refl _⟩, ⟨by first | exact Kd.R_nil _ _ _ _ _ | exact Kd.N_nil _ _ _ _ _ | exact Kd.V_nil _ _ _ _ _ | exact Kd.Q_nil _ _ _ _ _ | exact Kd.S_nil _ _ _ _ _⟩, ⟨by (with_reducible repeat (first | refine blk_drewN ?_ _ | refine blk_drew ?_ | refine blk_alloc ?_ _)); refine blk_far ?_ NB582_585.out _; (with_reducible repeat (first | refine blk_drewN ?_ _ | refine blk_drew ?_ | refine blk_alloc ?_ _)); refine blk_far ?_ NB582_585.out _; (with_reducible repeat (first | refine blk_drewN ?_ _ | refine blk_drew ?_ | refine blk_alloc ?_ _)); refine blk_far ?_ NB582_585.out _; (with_reducible repeat (first | refine blk_drewN ?_ _ | refine blk_drew ?_ | refine blk_alloc ?_ _)); exact BK582.out⟩, ⟨by (with_reducible repeat (first | refine blk_drewN ?_ _ | refine blk_drew ?_ | refine blk_alloc ?_ _)); refine blk_put (cs := #[.slice none 0 0, .int .i64 0, .int .i64 0]) ?_ 2 _ rfl; (with_reducible repeat (first | refine blk_drewN ?_ _ | refine blk_drew ?_ | refine blk_alloc ?_ _)); refine blk_put (cs := #[.slice none 0 0, .int .i64 0, .int .i64 0]) ?_ 1 _ rfl; (with_reducible repeat (first | refine blk_drewN ?_ _ | refine blk_drew ?_ | refine blk_alloc ?_ _)); refine blk_put (cs := #[.slice none 0 0, .int .i64 0, .int .i64 0]) ?_ 0 _ rfl; (with_reducible repeat (first | refine blk_drewN ?_ _ | refine blk_drew ?_ | refine blk_alloc ?_ _)); exact BK585.out⟩, ⟨by repeat (first | (with_reducible first | exact HB.out | apply below_alloc | apply pw_below_drewN | apply below_drew1 | refine below_set ?_ GE582.out | refine below_set ?_ GE585.out) | exact HB.out)⟩⟩
 case round =>
  clear H'
  try clear p2
  try clear c6
  try clear hcz7_0
  try clear hcz7_1
  try clear hcz7_2
  try clear hfz7_0
  try clear hfz7_1
  try clear hfz7_2
  obtain ⟨x1_1, x10_1, x586000_1, u586000, rfl, rfl, HA, HK1, HO_586000, BK582, BK585, HB⟩ := hrel
  cases gk with
  | zero => exact absurd HA.out (by simp [spec_l1DrawFS.l0])
  | succ k1 =>
   have H := HA.out
   clear HA
   simp only [spec_l1DrawFS.l0] at H
   by_cases c8 : x10_1 < t583
   ·rw [if_pos c8] at H
    have c8b0 : decide (x10_1 < t583) = true := decide_eq_true c8
    clear c8
    replace H := Option.bind_eq_some_iff.mp H
    obtain ⟨⟨t586, t587⟩, A90, H⟩ := H
    replace H : ((spec_l1Take.f k1 l0 t587 20).bind fun bt588 => ((spec_l1Take.f k1 l0 bt588.2 20).bind fun bt590 => (if 0 ≤ (Int.tmod bt590.1 3) then (if (Int.tmod bt590.1 3) ≤ (wrap64 ((Int.tmod bt590.1 3) + 1)) then (if (wrap64 ((Int.tmod bt590.1 3) + 1)) ≤ 3 then ((spec_l1Long.f bt588.1 ((⟨#[120, 121, 122]⟩ : ByteArray).extract ((Int.tmod bt590.1 3) : Int).toNat ((wrap64 ((Int.tmod bt590.1 3) + 1)) : Int).toNat)).bind fun t592 => (if (wrap64 (bt588.1 + 1)) = 0 then (none) else ((spec_l1With.f k1 x586000_1 t586 t592 (Int.tmod bt590.1 (wrap64 (bt588.1 + 1)))).bind fun t593 => (spec_l1DrawFS.l0 k1 l0 bt590.2 t583 (wrap64 (x10_1 + 1)) t593 0 (-1))))) else (none)) else (none)) else (none)))) = some (r1, r2, r3, r4) := H
    have A9 := Aside0.mk A90
    clear A90
    replace H := Option.bind_eq_some_iff.mp H
    obtain ⟨⟨t588, t589⟩, A100, H⟩ := H
    replace H : ((spec_l1Take.f k1 l0 t589 20).bind fun bt590 => (if 0 ≤ (Int.tmod bt590.1 3) then (if (Int.tmod bt590.1 3) ≤ (wrap64 ((Int.tmod bt590.1 3) + 1)) then (if (wrap64 ((Int.tmod bt590.1 3) + 1)) ≤ 3 then ((spec_l1Long.f t588 ((⟨#[120, 121, 122]⟩ : ByteArray).extract ((Int.tmod bt590.1 3) : Int).toNat ((wrap64 ((Int.tmod bt590.1 3) + 1)) : Int).toNat)).bind fun t592 => (if (wrap64 (t588 + 1)) = 0 then (none) else ((spec_l1With.f k1 x586000_1 t586 t592 (Int.tmod bt590.1 (wrap64 (t588 + 1)))).bind fun t593 => (spec_l1DrawFS.l0 k1 l0 bt590.2 t583 (wrap64 (x10_1 + 1)) t593 0 (-1))))) else (none)) else (none)) else (none))) = some (r1, r2, r3, r4) := H
    have A10 := Aside0.mk A100
    clear A100
    replace H := Option.bind_eq_some_iff.mp H
    obtain ⟨⟨t590, t591⟩, A110, H⟩ := H
    replace H : (if 0 ≤ (Int.tmod t590 3) then (if (Int.tmod t590 3) ≤ (wrap64 ((Int.tmod t590 3) + 1)) then (if (wrap64 ((Int.tmod t590 3) + 1)) ≤ 3 then ((spec_l1Long.f t588 ((⟨#[120, 121, 122]⟩ : ByteArray).extract ((Int.tmod t590 3) : Int).toNat ((wrap64 ((Int.tmod t590 3) + 1)) : Int).toNat)).bind fun t592 => (if (wrap64 (t588 + 1)) = 0 then (none) else ((spec_l1With.f k1 x586000_1 t586 t592 (Int.tmod t590 (wrap64 (t588 + 1)))).bind fun t593 => (spec_l1DrawFS.l0 k1 l0 t591 t583 (wrap64 (x10_1 + 1)) t593 0 (-1))))) else (none)) else (none)) else (none)) = some (r1, r2, r3, r4) := H
    have A11 := Aside0.mk A110
    clear A110
    obtain ⟨ji12, hji12⟩ : ∃ j_ : Int, (Int.tmod t590 3) = j_ := ⟨_, rfl⟩
    replace H : (if 0 ≤ (ji12) then (if (ji12) ≤ (wrap64 ((ji12) + 1)) then (if (wrap64 ((ji12) + 1)) ≤ 3 then ((spec_l1Long.f t588 ((⟨#[120, 121, 122]⟩ : ByteArray).extract ((ji12) : Int).toNat ((wrap64 ((ji12) + 1)) : Int).toNat)).bind fun t592 => (if (wrap64 (t588 + 1)) = 0 then (none) else ((spec_l1With.f k1 x586000_1 t586 t592 (Int.tmod t590 (wrap64 (t588 + 1)))).bind fun t593 => (spec_l1DrawFS.l0 k1 l0 t591 t583 (wrap64 (x10_1 + 1)) t593 0 (-1))))) else (none)) else (none)) else (none)) = some (r1, r2, r3, r4) := by first | (rw [hji12] at H; exact H) | (simp only [hji12] at H ⊢; exact H)
    (try rw [hji12] at A9)
    (try rw [hji12] at A10)
    (try rw [hji12] at A11)
    by_cases c13 : 0 ≤ (ji12)
    ·rw [if_pos c13] at H
     have c13b0 := eq_true c13
     have c13b1 : decide (0 ≤ (ji12)) = true := decide_eq_true c13
     clear c13
     by_cases c14 : (ji12) ≤ (wrap64 ((ji12) + 1))
     ·rw [if_pos c14] at H
      have c14b0 := eq_true c14
      have c14b1 : decide ((ji12) ≤ (wrap64 ((ji12) + 1))) = true := decide_eq_true c14
      by_cases c15 : (wrap64 ((ji12) + 1)) ≤ 3
      ·rw [if_pos c15] at H
       have c15b0 := eq_true c15
       have c15b1 : decide ((wrap64 ((ji12) + 1)) ≤ 3) = true := decide_eq_true c15
       replace H := Option.bind_eq_some_iff.mp H
       obtain ⟨t592, A160, H⟩ := H
       replace H : (if (wrap64 (t588 + 1)) = 0 then (none) else ((spec_l1With.f k1 x586000_1 t586 t592 (Int.tmod t590 (wrap64 (t588 + 1)))).bind fun t593 => (spec_l1DrawFS.l0 k1 l0 t591 t583 (wrap64 (x10_1 + 1)) t593 0 (-1)))) = some (r1, r2, r3, r4) := H
       have A16 := Aside0.mk A160
       clear A160
       by_cases c17 : (wrap64 (t588 + 1)) = 0
       ·rw [if_pos c17] at H
        exact absurd H (by simp)
       ·rw [if_neg c17] at H
        have c17b0 : ((wrap64 (t588 + 1)) == 0) = false := beq_eq_false_iff_ne.mpr c17
        have c17b1 : ((wrap64 (t588 + 1)) != 0) = true := bne_iff_ne.mpr c17
        replace H := Option.bind_eq_some_iff.mp H
        obtain ⟨t593, A180, H⟩ := H
        replace H : (spec_l1DrawFS.l0 k1 l0 t591 t583 (wrap64 (x10_1 + 1)) t593 0 (-1)) = some (r1, r2, r3, r4) := H
        have A18 := Aside0.mk A180
        clear A180
        have H' := Aside0.mk H
        clear H
        try go_wp2_with (first | ((with_reducible refine gate_callee (f := 82) rfl ?_); refine goesL_ (some 28) rfl rfl Try.func82 (by kernel_rfl) rfl #[.slice A0 l0.length c0, .int .i64 x1_1] rfl (by (try simp only [List.map_toArray, List.map_cons, List.map_nil]); first | done | rfl | (simp only [List.length_drop, List.length_take]; rfl)) ?_; (with_reducible refine (spec_l1DrawName.calls k1 _ _ l0 x1_1 t586 t587 _ ?side1 ?side2 A9.out).mono ?_); (case side1 => repeat (first | exact (Kd.C_below HR0.out HB.out) | (with_reducible refine Kd.C_alloc ?_ _) | (with_reducible refine Kd.C_drewN ?_ _) | (with_reducible refine Kd.C_drew ?_))); (case side2 => exact HC0.out); rintro e w' ⟨rfl, ⟨nd, rfl⟩⟩; refine ⟨_, rfl, ?_⟩; (try (rw [drewN_self wr]; generalize hq_ : World.drewN wr _ = wr; have n0_ : Aside0 (Kd.R k52 52 wr w.heap.size (fun _ => True) u586000 x586000_1) := ⟨by rw [← hq_]; exact (by (with_reducible repeat (first | apply Kd.R_alloc | apply Kd.R_drewN | apply Kd.R_drew)); exact HO_586000.out)⟩; have n1_ : Aside0 (wr.heap[gb582]? = some (.cells #[.slice none 0 0, .int .i64 0, .int .i64 0] 29 (0, 0))) := ⟨by rw [← hq_]; exact (by (with_reducible repeat (first | refine blk_drewN ?_ _ | refine blk_drew ?_ | refine blk_alloc ?_ _)); exact BK582.out)⟩; have n2_ : Aside0 (wr.heap[gb585]? = some (.cells #[u586000, .int .i64 0, .int .i64 (-1)] 29 (0, 0))) := ⟨by rw [← hq_]; exact (by (with_reducible repeat (first | refine blk_drewN ?_ _ | refine blk_drew ?_ | refine blk_alloc ?_ _)); exact BK585.out)⟩; have n3_ : Aside0 (Below w.heap.size w wr) := ⟨by rw [← hq_]; exact (by repeat (first | (with_reducible first | exact HB.out | apply below_alloc | apply pw_below_drewN | apply below_drew1 | refine below_set ?_ GE582.out | refine below_set ?_ GE585.out) | exact HB.out))⟩; clear HO_586000 BK582 BK585 HB hq_; have HO_586000 := n0_; have BK582 := n1_; have BK585 := n2_; have HB := n3_; clear n0_ n1_ n2_ n3_))) | ((with_reducible refine gate_callee (f := 65) rfl ?_); refine goesL_ (some 34) rfl rfl Try.func65 (by kernel_rfl) rfl #[.slice A0 l0.length c0, .int .i64 t587, .int .i64 20] rfl (by (try simp only [List.map_toArray, List.map_cons, List.map_nil]); first | done | rfl | (simp only [List.length_drop, List.length_take]; rfl)) ?_; (with_reducible refine (spec_l1Take.calls k1 _ _ l0 t587 20 t588 t589 _ ?side1 ?side2 A10.out).mono ?_); (case side1 => repeat (first | exact (Kd.C_below HR0.out HB.out) | (with_reducible refine Kd.C_alloc ?_ _) | (with_reducible refine Kd.C_drewN ?_ _) | (with_reducible refine Kd.C_drew ?_))); (case side2 => exact HC0.out); rintro e w' ⟨rfl, ⟨nd, rfl⟩⟩; refine ⟨_, rfl, ?_⟩; (try (rw [drewN_self wr]; generalize hq_ : World.drewN wr _ = wr; have n0_ : Aside0 (Kd.R k52 52 wr w.heap.size (fun _ => True) u586000 x586000_1) := ⟨by rw [← hq_]; exact (by (with_reducible repeat (first | apply Kd.R_alloc | apply Kd.R_drewN | apply Kd.R_drew)); exact HO_586000.out)⟩; have n1_ : Aside0 (wr.heap[gb582]? = some (.cells #[.slice none 0 0, .int .i64 0, .int .i64 0] 29 (0, 0))) := ⟨by rw [← hq_]; exact (by (with_reducible repeat (first | refine blk_drewN ?_ _ | refine blk_drew ?_ | refine blk_alloc ?_ _)); exact BK582.out)⟩; have n2_ : Aside0 (wr.heap[gb585]? = some (.cells #[u586000, .int .i64 0, .int .i64 (-1)] 29 (0, 0))) := ⟨by rw [← hq_]; exact (by (with_reducible repeat (first | refine blk_drewN ?_ _ | refine blk_drew ?_ | refine blk_alloc ?_ _)); exact BK585.out)⟩; have n3_ : Aside0 (Below w.heap.size w wr) := ⟨by rw [← hq_]; exact (by repeat (first | (with_reducible first | exact HB.out | apply below_alloc | apply pw_below_drewN | apply below_drew1 | refine below_set ?_ GE582.out | refine below_set ?_ GE585.out) | exact HB.out))⟩; clear HO_586000 BK582 BK585 HB hq_; have HO_586000 := n0_; have BK582 := n1_; have BK585 := n2_; have HB := n3_; clear n0_ n1_ n2_ n3_))) | ((with_reducible refine gate_callee (f := 65) rfl ?_); refine goesL_ (some 40) rfl rfl Try.func65 (by kernel_rfl) rfl #[.slice A0 l0.length c0, .int .i64 t589, .int .i64 20] rfl (by (try simp only [List.map_toArray, List.map_cons, List.map_nil]); first | done | rfl | (simp only [List.length_drop, List.length_take]; rfl)) ?_; (with_reducible refine (spec_l1Take.calls k1 _ _ l0 t589 20 t590 t591 _ ?side1 ?side2 A11.out).mono ?_); (case side1 => repeat (first | exact (Kd.C_below HR0.out HB.out) | (with_reducible refine Kd.C_alloc ?_ _) | (with_reducible refine Kd.C_drewN ?_ _) | (with_reducible refine Kd.C_drew ?_))); (case side2 => exact HC0.out); rintro e w' ⟨rfl, ⟨nd, rfl⟩⟩; refine ⟨_, rfl, ?_⟩; (try (rw [drewN_self wr]; generalize hq_ : World.drewN wr _ = wr; have n0_ : Aside0 (Kd.R k52 52 wr w.heap.size (fun _ => True) u586000 x586000_1) := ⟨by rw [← hq_]; exact (by (with_reducible repeat (first | apply Kd.R_alloc | apply Kd.R_drewN | apply Kd.R_drew)); exact HO_586000.out)⟩; have n1_ : Aside0 (wr.heap[gb582]? = some (.cells #[.slice none 0 0, .int .i64 0, .int .i64 0] 29 (0, 0))) := ⟨by rw [← hq_]; exact (by (with_reducible repeat (first | refine blk_drewN ?_ _ | refine blk_drew ?_ | refine blk_alloc ?_ _)); exact BK582.out)⟩; have n2_ : Aside0 (wr.heap[gb585]? = some (.cells #[u586000, .int .i64 0, .int .i64 (-1)] 29 (0, 0))) := ⟨by rw [← hq_]; exact (by (with_reducible repeat (first | refine blk_drewN ?_ _ | refine blk_drew ?_ | refine blk_alloc ?_ _)); exact BK585.out)⟩; have n3_ : Aside0 (Below w.heap.size w wr) := ⟨by rw [← hq_]; exact (by repeat (first | (with_reducible first | exact HB.out | apply below_alloc | apply pw_below_drewN | apply below_drew1 | refine below_set ?_ GE582.out | refine below_set ?_ GE585.out) | exact HB.out))⟩; clear HO_586000 BK582 BK585 HB hq_; have HO_586000 := n0_; have BK582 := n1_; have BK585 := n2_; have HB := n3_; clear n0_ n1_ n2_ n3_))) | ((with_reducible refine gate_callee (f := 66) rfl ?_); refine goesL_ (some 50) rfl rfl Try.func66 (by kernel_rfl) rfl #[.int .i64 t588, .string ((⟨#[120, 121, 122]⟩ : ByteArray).extract ((ji12) : Int).toNat ((wrap64 ((ji12) + 1)) : Int).toNat)] rfl (by (try simp only [List.map_toArray, List.map_cons, List.map_nil]); first | done | (simp only [hji12]; rfl) | rfl | (simp only [List.length_drop, List.length_take]; rfl)) ?_; (with_reducible refine (spec_l1Long.calls t588 ((⟨#[120, 121, 122]⟩ : ByteArray).extract ((ji12) : Int).toNat ((wrap64 ((ji12) + 1)) : Int).toNat) t592 _ A16.out).mono ?_); rintro e w' ⟨rfl, ⟨nd, rfl⟩⟩; refine ⟨_, rfl, ?_⟩; (try (rw [drewN_self wr]; generalize hq_ : World.drewN wr _ = wr; have n0_ : Aside0 (Kd.R k52 52 wr w.heap.size (fun _ => True) u586000 x586000_1) := ⟨by rw [← hq_]; exact (by (with_reducible repeat (first | apply Kd.R_alloc | apply Kd.R_drewN | apply Kd.R_drew)); exact HO_586000.out)⟩; have n1_ : Aside0 (wr.heap[gb582]? = some (.cells #[.slice none 0 0, .int .i64 0, .int .i64 0] 29 (0, 0))) := ⟨by rw [← hq_]; exact (by (with_reducible repeat (first | refine blk_drewN ?_ _ | refine blk_drew ?_ | refine blk_alloc ?_ _)); exact BK582.out)⟩; have n2_ : Aside0 (wr.heap[gb585]? = some (.cells #[u586000, .int .i64 0, .int .i64 (-1)] 29 (0, 0))) := ⟨by rw [← hq_]; exact (by (with_reducible repeat (first | refine blk_drewN ?_ _ | refine blk_drew ?_ | refine blk_alloc ?_ _)); exact BK585.out)⟩; have n3_ : Aside0 (Below w.heap.size w wr) := ⟨by rw [← hq_]; exact (by repeat (first | (with_reducible first | exact HB.out | apply below_alloc | apply pw_below_drewN | apply below_drew1 | refine below_set ?_ GE582.out | refine below_set ?_ GE585.out) | exact HB.out))⟩; clear HO_586000 BK582 BK585 HB hq_; have HO_586000 := n0_; have BK582 := n1_; have BK585 := n2_; have HB := n3_; clear n0_ n1_ n2_ n3_))))
        have n0_ := Aside0.mk (Kd.R_drew HO_586000.out)
        have n1_ := Aside0.mk (blk_drew BK582.out)
        have n2_ := Aside0.mk (blk_drew BK585.out)
        have n3_ := Aside0.mk (below_drew1 HB.out)
        clear HO_586000
        clear BK582
        clear BK585
        clear HB
        have HO_586000 := n0_
        have BK582 := n1_
        have BK585 := n2_
        have HB := n3_
        clear n0_ n1_ n2_ n3_
        obtain ⟨Ao20, co20, eo20⟩ := Kd.R_slice HO_586000.out
        (first | subst eo20 | (injection eo20 with f1_ f2_ f3_; have f4_ := f1_.symm; have f5_ := f3_.symm; clear f1_ f2_ f3_; subst f4_; subst f5_))
        refine start_ (n := 12) (S := fun w' => w'.cell? ⟨gb585, 0, none⟩ = some (.slice Ao20 x586000_1.length co20) ∧ w'.cell? ⟨gb585, 1, none⟩ = some (.int .i64 0) ∧ w'.cell? ⟨gb585, 2, none⟩ = some (.int .i64 (-1))) (ds := [11]) #[false, false, false, false, false, false, false, false, false, false, false, false] (by kernel_rfl) rfl rfl ⟨(blk_cell BK585.out 0).trans rfl, (blk_cell BK585.out 1).trans rfl, (blk_cell BK585.out 2).trans rfl⟩ (fun hHeld => ?_); refine with_tabW spec_l1DrawFS.tab12 spec_l1DrawFS.bits12 (fun HT_ HW_ => ?_)
        generalize wr.drew = w19 at HO_586000 BK582 BK585 HB hHeld ⊢
        refine pure_ (i := 0) (N := some 51) (v := ?_) (a' := ?_) #[true, false, false, false, false, false, false, false, false, false, false, false] rfl rfl (any_of HT_.out (by kernel_rfl)) (fun _ _ _ h => h) (Or.inl ⟨by rfl, ?_⟩) ?_ ?_
        rotate_left
        ·intro w'
         go_simp
         with_reducible rfl
        rotate_left
        ·simp only [Act.put, List.setIfInBounds_toArray, List.set_cons_zero, List.set_cons_succ, i64_w, i32_w]
         rfl
        refine pure_ (i := 2) (N := some 53) (v := ?_) (a' := ?_) #[true, false, true, false, false, false, false, false, false, false, false, false] rfl rfl (any_of HT_.out (by kernel_rfl)) (fun _ _ _ h => h) (Or.inl ⟨by rfl, ?_⟩) ?_ ?_
        rotate_left
        ·intro w'
         go_simp
         with_reducible rfl
        rotate_left
        ·simp only [Act.put, List.setIfInBounds_toArray, List.set_cons_zero, List.set_cons_succ, i64_w, i32_w]
         rfl
        refine pure_ (i := 3) (N := some 54) (v := ?_) (a' := ?_) #[true, false, true, true, false, false, false, false, false, false, false, false] rfl rfl (any_of HT_.out (by kernel_rfl)) (fun _ _ _ h => h) (Or.inl ⟨by rfl, ?_⟩) ?_ ?_
        rotate_left
        ·intro w'
         go_simp
         with_reducible rfl
        rotate_left
        ·simp only [Act.put, List.setIfInBounds_toArray, List.set_cons_zero, List.set_cons_succ, i64_w, i32_w]
         rfl
        refine pure_ (i := 4) (N := some 55) (v := ?_) (a' := ?_) #[true, false, true, true, true, false, false, false, false, false, false, false] rfl rfl (any_of HT_.out (by kernel_rfl)) (fun _ _ _ h => h) (Or.inl ⟨by rfl, ?_⟩) ?_ ?_
        rotate_left
        ·intro w'
         go_simp
         with_reducible rfl
        rotate_left
        ·simp only [Act.put, List.setIfInBounds_toArray, List.set_cons_zero, List.set_cons_succ, i64_w, i32_w]
         rfl
        refine pure_ (i := 5) (N := some 56) (v := ?_) (a' := ?_) #[true, false, true, true, true, true, false, false, false, false, false, false] rfl rfl (any_of HT_.out (by kernel_rfl)) (fun _ _ _ h => h) (Or.inl ⟨by rfl, ?_⟩) ?_ ?_
        rotate_left
        ·intro w'
         go_simp
         with_reducible rfl
        rotate_left
        ·simp only [Act.put, List.setIfInBounds_toArray, List.set_cons_zero, List.set_cons_succ, i64_w, i32_w]
         rfl
        refine pure_ (i := 6) (N := some 57) (v := ?_) (a' := ?_) #[true, false, true, true, true, true, true, false, false, false, false, false] rfl rfl (any_of HT_.out (by kernel_rfl)) (fun _ _ _ h => h) (Or.inl ⟨by rfl, ?_⟩) ?_ ?_
        rotate_left
        ·intro w'
         go_simp
         with_reducible rfl
        rotate_left
        ·simp only [Act.put, List.setIfInBounds_toArray, List.set_cons_zero, List.set_cons_succ, i64_w, i32_w]
         rfl
        refine pure_ (i := 7) (N := some 58) (v := ?_) (a' := ?_) #[true, false, true, true, true, true, true, true, false, false, false, false] rfl rfl (any_of HT_.out (by kernel_rfl)) (fun _ _ _ h => h) (Or.inl ⟨by rfl, ?_⟩) ?_ ?_
        rotate_left
        ·intro w'
         go_simp
         with_reducible rfl
        rotate_left
        ·simp only [Act.put, List.setIfInBounds_toArray, List.set_cons_zero, List.set_cons_succ, i64_w, i32_w]
         rfl
        refine pure_ (i := 8) (N := some 59) (v := ?_) (a' := ?_) #[true, false, true, true, true, true, true, true, true, false, false, false] rfl rfl (any_of HT_.out (by kernel_rfl)) (fun _ _ _ h => h) (Or.inl ⟨by rfl, ?_⟩) ?_ ?_
        rotate_left
        ·intro w'
         go_simp
         with_reducible rfl
        rotate_left
        ·simp only [Act.put, List.setIfInBounds_toArray, List.set_cons_zero, List.set_cons_succ, i64_w, i32_w]
         rfl
        refine take_ (i := 1) (N := some 52) (v := ?_) (a' := ?_) #[true, true, true, true, true, true, true, true, true, false, false, false] rfl rfl (take_ofW HT_.out HW_.out (by kernel_rfl)) (fun _ _ _ h => h) (Or.inl ⟨by rfl, ?_⟩) hHeld ?_ ?_
        rotate_left
        ·rintro w' ⟨s0, s1, s2⟩
         go_simp
         with_reducible rfl
        rotate_left
        ·simp only [Act.put, List.setIfInBounds_toArray, List.set_cons_zero, List.set_cons_succ, i64_w, i32_w]
         rfl
        refine one_ (i := 9) (N := some 60) #[true, true, true, true, true, true, true, true, true, true, false, false] rfl rfl (one_of HT_.out (by kernel_rfl)) (by decide) (fun K hK => ?_)
        refine goes_ Try.func58 (by kernel_rfl) rfl #[.slice Ao20 x586000_1.length co20, .agg #[.string t586, .string t592, .int .i64 (Int.tmod t590 (wrap64 (t588 + 1)))]] (by rfl) rfl rfl (by (try simp only [List.map_toArray, List.map_cons, List.map_nil]); first | done | rfl | (simp only [List.length_drop, List.length_take]; rfl)) ?_
        with_reducible refine (spec_l1With.calls k1 _ _ x586000_1 t586 t592 (Int.tmod t590 (wrap64 (t588 + 1))) t593 _ ?side1 ?side2 A18.out).mono ?_
        (case side1 => repeat (first | exact (Kd.R_reads' HO_586000.out).2.2 | (with_reducible refine Kd.C_alloc ?_ _) | (with_reducible refine Kd.C_drewN ?_ _) | (with_reducible refine Kd.C_drew ?_)))
        (case side2 => exact (Kd.R_reads' HO_586000.out).2.1)
        rintro e w21 ⟨v594, rfl, ho0, hb⟩
        refine ⟨_, rfl, ?_⟩
        have n0_ := Aside0.mk (Kd.R_elder' (by (with_reducible repeat (first | apply Kd.R_alloc | apply Kd.R_drewN | apply Kd.R_drew)); exact HO_586000.out) (Kd.R_base ho0) hb)
        have n1_ := Aside0.mk (Kd.R_lower (Kd.R_new' ho0 (Kd.R_lt (by (with_reducible repeat (first | apply Kd.R_alloc | apply Kd.R_drewN | apply Kd.R_drew)); exact HO_586000.out))) (below_size (by repeat (first | (with_reducible first | exact HB.out | apply below_alloc | apply pw_below_drewN | apply below_drew1 | refine below_set ?_ GE582.out | refine below_set ?_ GE585.out) | exact HB.out))))
        have n2_ := Aside0.mk (blk_below (g := gb582) (o := .cells #[.slice none 0 0, .int .i64 0, .int .i64 0] 29 (0, 0)) (by (with_reducible repeat (first | refine blk_drewN ?_ _ | refine blk_drew ?_ | refine blk_alloc ?_ _)); exact BK582.out) hb)
        have n3_ := Aside0.mk (blk_below (g := gb585) (o := .cells #[.slice Ao20 x586000_1.length co20, .int .i64 0, .int .i64 (-1)] 29 (0, 0)) (by (with_reducible repeat (first | refine blk_drewN ?_ _ | refine blk_drew ?_ | refine blk_alloc ?_ _)); exact BK585.out) hb)
        have n4_ := Aside0.mk (below_step (by repeat (first | (with_reducible first | exact HB.out | apply below_alloc | apply pw_below_drewN | apply below_drew1 | refine below_set ?_ GE582.out | refine below_set ?_ GE585.out) | exact HB.out)) hb)
        clear HO_586000
        clear BK582
        clear BK585
        clear HB
        have HO_586000 := n0_
        have HO595 := n1_
        have BK582 := n2_
        have BK585 := n3_
        have HB := n4_
        clear n0_ n1_ n2_ n3_ n4_
        (try clear hb)
        (try clear hb2)
        (try clear hk)
        (try clear hi)
        (try clear ho0)
        obtain ⟨Ao22, co22, eo22⟩ := Kd.R_slice HO595.out
        (first | subst eo22 | (injection eo22 with f1_ f2_ f3_; have f4_ := f1_.symm; have f5_ := f3_.symm; clear f1_ f2_ f3_; subst f4_; subst f5_))
        refine hK.out _ _ ⟨(blk_cell BK585.out 0).trans rfl, (blk_cell BK585.out 1).trans rfl, (blk_cell BK585.out 2).trans rfl⟩ (fun hHeld => ?_)
        clear hK K
        refine norm_ (a' := ?_) ?_ ?_
        rotate_left
        ·show Act.put _ (some 60) _ = _
         simp only [Act.put, List.setIfInBounds_toArray, List.set_cons_zero, List.set_cons_succ, i64_w, i32_w]
         rfl
        refine pure_ (i := 10) (N := some 61) (v := ?_) (a' := ?_) #[true, true, true, true, true, true, true, true, true, true, true, false] rfl rfl (any_of HT_.out (by kernel_rfl)) (fun _ _ _ h => h) (Or.inl ⟨by rfl, ?_⟩) ?_ ?_
        rotate_left
        ·intro w'
         go_simp
         with_reducible rfl
        rotate_left
        ·simp only [Act.put, List.setIfInBounds_toArray, List.set_cons_zero, List.set_cons_succ, i64_w, i32_w]
         rfl
        refine last_ (i := 11) (N := none) #[true, true, true, true, true, true, true, true, true, true, true, true] rfl rfl (one_of HT_.out (by kernel_rfl)) (by decide) (fun K hK => ?_)
        have hs23 : w21.cell? ⟨gb585, 0, none⟩ = some (.slice Ao20 x586000_1.length co20) := (blk_cell BK585.out 0).trans rfl
        have hfs23 := blk_frozen BK585.out 0
        have hns23_0 := NB582_585.out
        have hms23_0 := NB585_582.out
        refine skip_ (w1 := ?_) (by rfl) rfl ?_ ?_
        rotate_left
        ·go_simp
         rfl
        refine hK.out _ _ ?_
        clear hK K
        refine done_ (done_of HT_.out (by kernel_rfl)) ?_
        try go_wp2
        go_roundg k1
        case measure => have := HK1.out; omega
        case rel => exact ⟨(t591), (wrap64 (x10_1 + 1)), (t593), (.slice Ao22 t593.length co22), (by first | rfl | (simp; done) | (simp [*]; done)), (by first | rfl | (simp; done) | (simp [*]; done)), H', ⟨by have := HK1.out; omega⟩, ⟨by (with_reducible repeat (first | apply Kd.R_alloc | apply Kd.R_drewN | apply Kd.R_drew)); exact Kd.R_mono (Kd.R_far (p := ⟨gb585, 0, none⟩) (Kd.R_types HO595.out BK585.out (by decide)) (fun _ hk => hk.2) (.slice Ao22 t593.length co22)) (fun _ hk => trivial)⟩, ⟨by (with_reducible repeat (first | refine blk_drewN ?_ _ | refine blk_drew ?_ | refine blk_alloc ?_ _)); refine blk_far ?_ NB582_585.out _; (with_reducible repeat (first | refine blk_drewN ?_ _ | refine blk_drew ?_ | refine blk_alloc ?_ _)); exact BK582.out⟩, ⟨by (with_reducible repeat (first | refine blk_drewN ?_ _ | refine blk_drew ?_ | refine blk_alloc ?_ _)); refine blk_put (cs := #[.slice Ao20 x586000_1.length co20, .int .i64 0, .int .i64 (-1)]) ?_ 0 _ rfl; (with_reducible repeat (first | refine blk_drewN ?_ _ | refine blk_drew ?_ | refine blk_alloc ?_ _)); exact BK585.out⟩, ⟨by repeat (first | (with_reducible first | exact HB.out | apply below_alloc | apply pw_below_drewN | apply below_drew1 | refine below_set ?_ GE582.out | refine below_set ?_ GE585.out) | exact HB.out)⟩⟩
      ·rw [if_neg c15] at H
       exact absurd H (by simp)
     ·rw [if_neg c14] at H
      exact absurd H (by simp)
    ·rw [if_neg c13] at H
     exact absurd H (by simp)
   ·rw [if_neg c8] at H
    have c8b0 : decide (x10_1 < t583) = false := decide_eq_false c8
    clear c8
    replace H := Option.bind_eq_some_iff.mp H
    obtain ⟨⟨t596, t597⟩, A240, H⟩ := H
    replace H : (if t596 < 3 then ((spec_l1Total.f k1 x586000_1 200 (-1)).bind fun t598 => (spec_l1DrawFS.j1 k1 t597 t596 x586000_1 (wrap64 (t598 + (wrap64 (t596 * 3)))) (-1))) else (spec_l1DrawFS.j1 k1 t597 t596 x586000_1 200 (-1))) = some (r1, r2, r3, r4) := H
    have A24 := Aside0.mk A240
    clear A240
    have HC25 := Aside0.mk H
    clear H
    go_upto_if 70 with (first | ((with_reducible refine gate_callee (f := 65) rfl ?_); refine goesL_ (some 65) rfl rfl Try.func65 (by kernel_rfl) rfl #[.slice A0 l0.length c0, .int .i64 x1_1, .int .i64 8] rfl (by (try simp only [List.map_toArray, List.map_cons, List.map_nil]); first | done | rfl | (simp only [List.length_drop, List.length_take]; rfl)) ?_; (with_reducible refine (spec_l1Take.calls k1 _ _ l0 x1_1 8 t596 t597 _ ?side1 ?side2 A24.out).mono ?_); (case side1 => repeat (first | exact (Kd.C_below HR0.out HB.out) | (with_reducible refine Kd.C_alloc ?_ _) | (with_reducible refine Kd.C_drewN ?_ _) | (with_reducible refine Kd.C_drew ?_))); (case side2 => exact HC0.out); rintro e w' ⟨rfl, ⟨nd, rfl⟩⟩; refine ⟨_, rfl, ?_⟩; (try (rw [drewN_self wr]; generalize hq_ : World.drewN wr _ = wr; have n0_ : Aside0 (Kd.R k52 52 wr w.heap.size (fun _ => True) u586000 x586000_1) := ⟨by rw [← hq_]; exact (by (with_reducible repeat (first | apply Kd.R_alloc | apply Kd.R_drewN | apply Kd.R_drew)); exact HO_586000.out)⟩; have n1_ : Aside0 (wr.heap[gb582]? = some (.cells #[.slice none 0 0, .int .i64 0, .int .i64 0] 29 (0, 0))) := ⟨by rw [← hq_]; exact (by (with_reducible repeat (first | refine blk_drewN ?_ _ | refine blk_drew ?_ | refine blk_alloc ?_ _)); exact BK582.out)⟩; have n2_ : Aside0 (wr.heap[gb585]? = some (.cells #[u586000, .int .i64 0, .int .i64 (-1)] 29 (0, 0))) := ⟨by rw [← hq_]; exact (by (with_reducible repeat (first | refine blk_drewN ?_ _ | refine blk_drew ?_ | refine blk_alloc ?_ _)); exact BK585.out)⟩; have n3_ : Aside0 (Below w.heap.size w wr) := ⟨by rw [← hq_]; exact (by repeat (first | (with_reducible first | exact HB.out | apply below_alloc | apply pw_below_drewN | apply below_drew1 | refine below_set ?_ GE582.out | refine below_set ?_ GE585.out) | exact HB.out))⟩; clear HO_586000 BK582 BK585 HB hq_; have HO_586000 := n0_; have BK582 := n1_; have BK585 := n2_; have HB := n3_; clear n0_ n1_ n2_ n3_)); have hnb26 := NB585_582.out; have hnc26 := NB582_585.out; have hcz27_0 : wr.cell? ⟨gb585, 0, none⟩ = some (u586000) := (blk_cell BK585.out 0).trans rfl; have hcz27_1 : wr.cell? ⟨gb585, 1, none⟩ = some (.int .i64 0) := (blk_cell BK585.out 1).trans rfl; have hcz27_2 : wr.cell? ⟨gb585, 2, none⟩ = some (.int .i64 (-1)) := (blk_cell BK585.out 2).trans rfl; have hfz27_0 := blk_frozen BK585.out 0; have hfz27_1 := blk_frozen BK585.out 1; have hfz27_2 := blk_frozen BK585.out 2))
    (try simp only [Act.put, List.setIfInBounds_toArray, List.set_cons_zero, List.set_cons_succ])
    go_cut [] (fun wc => ∃ (kq : Nat) (x586001_24 : Int), Aside0 (spec_l1DrawFS.j1 kq t597 t596 x586000_1 x586001_24 (-1) = some (r1, r2, r3, r4)) ∧ Aside0 (kq ≤ k1) ∧ Aside0 (Kd.R k52 52 wc w.heap.size (fun _ => True) u586000 x586000_1) ∧ Aside0 (wc.heap[gb582]? = some (.cells #[(.slice none 0 0), .int .i64 0, .int .i64 0] 29 (0, 0))) ∧ Aside0 (wc.heap[gb585]? = some (.cells #[u586000, .int .i64 x586001_24, .int .i64 (-1)] 29 (0, 0))) ∧ Aside0 (Below w.heap.size w wc))
    case first =>
     have H := HC25.out
     clear HC25
     by_cases c28 : t596 < 3
     ·rw [if_pos c28] at H
      have c28b0 : decide (t596 < 3) = true := decide_eq_true c28
      clear c28
      (first | rw [c28b0] | (simp only [i64_w, i32_w]; rw [c28b0]) | skip)
      replace H := Option.bind_eq_some_iff.mp H
      obtain ⟨t598, A290, H⟩ := H
      replace H : (spec_l1DrawFS.j1 k1 t597 t596 x586000_1 (wrap64 (t598 + (wrap64 (t596 * 3)))) (-1)) = some (r1, r2, r3, r4) := H
      have A29 := Aside0.mk A290
      clear A290
      have H' := Aside0.mk H
      clear H
      have hnb30 := NB585_582.out
      have hnc30 := NB582_585.out
      have hcz31_0 : wr.cell? ⟨gb585, 0, none⟩ = some (u586000) := (blk_cell BK585.out 0).trans rfl
      have hcz31_1 : wr.cell? ⟨gb585, 1, none⟩ = some (.int .i64 0) := (blk_cell BK585.out 1).trans rfl
      have hcz31_2 : wr.cell? ⟨gb585, 2, none⟩ = some (.int .i64 (-1)) := (blk_cell BK585.out 2).trans rfl
      have hfz31_0 := blk_frozen BK585.out 0
      have hfz31_1 := blk_frozen BK585.out 1
      have hfz31_2 := blk_frozen BK585.out 2
      obtain ⟨Ao32, co32, eo32⟩ := Kd.R_slice HO_586000.out
      subst eo32
      go_wp2_with (first | ((with_reducible refine gate_callee (f := 42) rfl ?_); refine goesL_ (some 72) rfl rfl Try.func42 (by kernel_rfl) rfl #[.agg #[.slice Ao32 x586000_1.length co32, .int .i64 200, .int .i64 (-1)]] rfl (by (try simp only [List.map_toArray, List.map_cons, List.map_nil]); first | done | rfl | (simp only [List.length_drop, List.length_take]; rfl)) ?_; (with_reducible refine (spec_l1Total.calls k1 _ _ x586000_1 200 (-1) t598 _ ?side1 ?side2 A29.out).mono ?_); (case side1 => refine (Kd.R_reads' (e := 52) (base := w.heap.size) (ok := fun k_ => True) (n := x586000_1.length) (c := co32) ?_).2.2; exact (by (with_reducible repeat (first | apply Kd.R_alloc | apply Kd.R_drewN | apply Kd.R_drew)); exact (Kd.R_mono (Kd.R_far (p := ⟨gb585, 1, none⟩) (Kd.R_types HO_586000.out BK585.out (by decide)) (fun _ hk => hk.2) (.int .i64 200)) (fun _ h_ => h_.1)))); (case side2 => exact (Kd.R_reads' HO_586000.out).2.1); rintro e w33 ⟨rfl, hb⟩; refine ⟨_, rfl, ?_⟩; have n0_ := Aside0.mk (Kd.R_below (by (with_reducible repeat (first | apply Kd.R_alloc | apply Kd.R_drewN | apply Kd.R_drew)); exact (Kd.R_mono (Kd.R_far (p := ⟨gb585, 1, none⟩) (Kd.R_types HO_586000.out BK585.out (by decide)) (fun _ hk => hk.2) (.int .i64 200)) (fun _ h_ => h_.1))) hb); have n1_ := Aside0.mk (blk_below (g := gb582) (o := .cells #[.slice none 0 0, .int .i64 0, .int .i64 0] 29 (0, 0)) (by (with_reducible repeat (first | refine blk_drewN ?_ _ | refine blk_drew ?_ | refine blk_alloc ?_ _)); refine blk_far ?_ NB582_585.out _; (with_reducible repeat (first | refine blk_drewN ?_ _ | refine blk_drew ?_ | refine blk_alloc ?_ _)); exact BK582.out) hb); have n2_ := Aside0.mk (blk_below (g := gb585) (o := .cells #[.slice Ao32 x586000_1.length co32, .int .i64 200, .int .i64 (-1)] 29 (0, 0)) (by (with_reducible repeat (first | refine blk_drewN ?_ _ | refine blk_drew ?_ | refine blk_alloc ?_ _)); refine blk_put (cs := #[.slice Ao32 x586000_1.length co32, .int .i64 0, .int .i64 (-1)]) ?_ 1 _ rfl; (with_reducible repeat (first | refine blk_drewN ?_ _ | refine blk_drew ?_ | refine blk_alloc ?_ _)); exact BK585.out) hb); have n3_ := Aside0.mk (below_step (by repeat (first | (with_reducible first | exact HB.out | apply below_alloc | apply pw_below_drewN | apply below_drew1 | refine below_set ?_ GE582.out | refine below_set ?_ GE585.out) | exact HB.out)) hb); clear HO_586000; clear BK582; clear BK585; clear HB; have HO_586000 := n0_; have BK582 := n1_; have BK585 := n2_; have HB := n3_; clear n0_ n1_ n2_ n3_; (try clear hb); (try clear hb2); (try clear hk); (try clear hi); have hcz34_0 : w33.cell? ⟨gb585, 0, none⟩ = some (.slice Ao32 x586000_1.length co32) := (blk_cell BK585.out 0).trans rfl; have hcz34_1 : w33.cell? ⟨gb585, 1, none⟩ = some (.int .i64 200) := (blk_cell BK585.out 1).trans rfl; have hcz34_2 : w33.cell? ⟨gb585, 2, none⟩ = some (.int .i64 (-1)) := (blk_cell BK585.out 2).trans rfl; have hfz34_0 := blk_frozen BK585.out 0; have hfz34_1 := blk_frozen BK585.out 1; have hfz34_2 := blk_frozen BK585.out 2))
      go_meet
      case rel => exact ⟨_, (wrap64 (t598 + (wrap64 (t596 * 3)))), H', ⟨by have := HK1.out; first | omega | exact Nat.le_refl _⟩, ⟨by (with_reducible repeat (first | apply Kd.R_alloc | apply Kd.R_drewN | apply Kd.R_drew)); exact Kd.R_mono (Kd.R_far (p := ⟨gb585, 1, none⟩) (Kd.R_types HO_586000.out BK585.out (by decide)) (fun _ hk => hk.2) (.int .i64 (wrap64 (t598 + (wrap64 (t596 * 3)))))) (fun _ hk => trivial)⟩, ⟨by (with_reducible repeat (first | refine blk_drewN ?_ _ | refine blk_drew ?_ | refine blk_alloc ?_ _)); refine blk_far ?_ NB582_585.out _; (with_reducible repeat (first | refine blk_drewN ?_ _ | refine blk_drew ?_ | refine blk_alloc ?_ _)); exact BK582.out⟩, ⟨by (with_reducible repeat (first | refine blk_drewN ?_ _ | refine blk_drew ?_ | refine blk_alloc ?_ _)); refine blk_put (cs := #[.slice Ao32 x586000_1.length co32, .int .i64 200, .int .i64 (-1)]) ?_ 1 _ rfl; (with_reducible repeat (first | refine blk_drewN ?_ _ | refine blk_drew ?_ | refine blk_alloc ?_ _)); exact BK585.out⟩, ⟨by repeat (first | (with_reducible first | exact HB.out | apply below_alloc | apply pw_below_drewN | apply below_drew1 | refine below_set ?_ GE582.out | refine below_set ?_ GE585.out) | exact HB.out)⟩⟩
     ·rw [if_neg c28] at H
      have c28b0 : decide (t596 < 3) = false := decide_eq_false c28
      clear c28
      (first | rw [c28b0] | (simp only [i64_w, i32_w]; rw [c28b0]) | skip)
      have H' := Aside0.mk H
      clear H
      go_wp2
      go_meet
      case rel => exact ⟨_, (200), H', ⟨by have := HK1.out; first | omega | exact Nat.le_refl _⟩, ⟨by (with_reducible repeat (first | apply Kd.R_alloc | apply Kd.R_drewN | apply Kd.R_drew)); exact Kd.R_mono (Kd.R_far (p := ⟨gb585, 1, none⟩) (Kd.R_types HO_586000.out BK585.out (by decide)) (fun _ hk => hk.2) (.int .i64 200)) (fun _ hk => trivial)⟩, ⟨by (with_reducible repeat (first | refine blk_drewN ?_ _ | refine blk_drew ?_ | refine blk_alloc ?_ _)); refine blk_far ?_ NB582_585.out _; (with_reducible repeat (first | refine blk_drewN ?_ _ | refine blk_drew ?_ | refine blk_alloc ?_ _)); exact BK582.out⟩, ⟨by (with_reducible repeat (first | refine blk_drewN ?_ _ | refine blk_drew ?_ | refine blk_alloc ?_ _)); refine blk_put (cs := #[u586000, .int .i64 0, .int .i64 (-1)]) ?_ 1 _ rfl; (with_reducible repeat (first | refine blk_drewN ?_ _ | refine blk_drew ?_ | refine blk_alloc ?_ _)); exact BK585.out⟩, ⟨by repeat (first | (with_reducible first | exact HB.out | apply below_alloc | apply pw_below_drewN | apply below_drew1 | refine below_set ?_ GE582.out | refine below_set ?_ GE585.out) | exact HB.out)⟩⟩
    case rest =>
     clear HC25
     try clear c1
     try clear c2
     try clear p2
     try clear c3
     try clear c4
     try clear c5
     try clear c6
     try clear p6
     try clear c8
     try clear c8b0
     try clear c13
     try clear c13b0
     try clear c13b1
     try clear c14
     try clear c14b0
     try clear c14b1
     try clear c15
     try clear c15b0
     try clear c15b1
     try clear c17
     try clear c17b0
     try clear c17b1
     try clear c26
     try clear c28
     try clear c28b0
     try clear c30
     try clear hcz27_0
     try clear hcz27_1
     try clear hcz27_2
     try clear hcz31_0
     try clear hcz31_1
     try clear hcz31_2
     try clear hcz34_0
     try clear hcz34_1
     try clear hcz34_2
     try clear hcz7_0
     try clear hcz7_1
     try clear hcz7_2
     try clear hfz27_0
     try clear hfz27_1
     try clear hfz27_2
     try clear hfz31_0
     try clear hfz31_1
     try clear hfz31_2
     try clear hfz34_0
     try clear hfz34_1
     try clear hfz34_2
     try clear hfz7_0
     try clear hfz7_1
     try clear hfz7_2
     try clear p2
     obtain ⟨kq, x586001_24, HA, HJ24, HO_586000, BK582, BK585, HB⟩ := hcut
     cases kq with
     | zero => exact absurd HA.out (by simp [spec_l1DrawFS.j1])
     | succ kj24 =>
      have H := HA.out
      clear HA
      simp only [spec_l1DrawFS.j1] at H
      have HC35 := Aside0.mk H
      clear H
      go_upto_if 78 with (fail)
      go_cut [] (fun wc => ∃ (kq : Nat) (x586001_34 : Int), Aside0 (spec_l1DrawFS.j2 kq t597 t596 x586000_1 x586001_34 (-1) = some (r1, r2, r3, r4)) ∧ Aside0 (kq ≤ kj24) ∧ Aside0 (Kd.R k52 52 wc w.heap.size (fun _ => True) u586000 x586000_1) ∧ Aside0 (wc.heap[gb582]? = some (.cells #[(.slice none 0 0), .int .i64 0, .int .i64 0] 29 (0, 0))) ∧ Aside0 (wc.heap[gb585]? = some (.cells #[u586000, .int .i64 x586001_34, .int .i64 (-1)] 29 (0, 0))) ∧ Aside0 (Below w.heap.size w wc))
      case first =>
       have H := HC35.out
       clear HC35
       by_cases c36 : t596 = 3
       ·rw [if_pos c36] at H
        have c36b0 : (t596 == 3) = true := beq_iff_eq.mpr c36
        have c36b1 : (t596 != 3) = false := bne_eq_false_iff_eq.mpr c36
        clear c36
        (first | rw [c36b0] | (simp only [i64_w, i32_w]; rw [c36b0]) | skip)
        replace H := Option.bind_eq_some_iff.mp H
        obtain ⟨t599, A370, H⟩ := H
        replace H : (spec_l1DrawFS.j2 kj24 t597 t596 x586000_1 (wrap64 (Int.tdiv t599 2)) (-1)) = some (r1, r2, r3, r4) := H
        have A37 := Aside0.mk A370
        clear A370
        have H' := Aside0.mk H
        clear H
        have hnb38 := NB585_582.out
        have hnc38 := NB582_585.out
        have hcz39_0 : wc.cell? ⟨gb585, 0, none⟩ = some (u586000) := (blk_cell BK585.out 0).trans rfl
        have hcz39_1 : wc.cell? ⟨gb585, 1, none⟩ = some (.int .i64 x586001_24) := (blk_cell BK585.out 1).trans rfl
        have hcz39_2 : wc.cell? ⟨gb585, 2, none⟩ = some (.int .i64 (-1)) := (blk_cell BK585.out 2).trans rfl
        have hfz39_0 := blk_frozen BK585.out 0
        have hfz39_1 := blk_frozen BK585.out 1
        have hfz39_2 := blk_frozen BK585.out 2
        obtain ⟨Ao40, co40, eo40⟩ := Kd.R_slice HO_586000.out
        subst eo40
        go_wp2_with (first | ((with_reducible refine gate_callee (f := 42) rfl ?_); refine goesL_ (some 80) rfl rfl Try.func42 (by kernel_rfl) rfl #[.agg #[.slice Ao40 x586000_1.length co40, .int .i64 x586001_24, .int .i64 (-1)]] rfl (by (try simp only [List.map_toArray, List.map_cons, List.map_nil]); first | done | rfl | (simp only [List.length_drop, List.length_take]; rfl)) ?_; (with_reducible refine (spec_l1Total.calls kj24 _ _ x586000_1 x586001_24 (-1) t599 _ ?side1 ?side2 A37.out).mono ?_); (case side1 => repeat (first | exact (Kd.R_reads' HO_586000.out).2.2 | (with_reducible refine Kd.C_alloc ?_ _) | (with_reducible refine Kd.C_drewN ?_ _) | (with_reducible refine Kd.C_drew ?_))); (case side2 => exact (Kd.R_reads' HO_586000.out).2.1); rintro e w41 ⟨rfl, hb⟩; refine ⟨_, rfl, ?_⟩; have n0_ := Aside0.mk (Kd.R_below (by (with_reducible repeat (first | apply Kd.R_alloc | apply Kd.R_drewN | apply Kd.R_drew)); exact HO_586000.out) hb); have n1_ := Aside0.mk (blk_below (g := gb582) (o := .cells #[.slice none 0 0, .int .i64 0, .int .i64 0] 29 (0, 0)) (by (with_reducible repeat (first | refine blk_drewN ?_ _ | refine blk_drew ?_ | refine blk_alloc ?_ _)); exact BK582.out) hb); have n2_ := Aside0.mk (blk_below (g := gb585) (o := .cells #[.slice Ao40 x586000_1.length co40, .int .i64 x586001_24, .int .i64 (-1)] 29 (0, 0)) (by (with_reducible repeat (first | refine blk_drewN ?_ _ | refine blk_drew ?_ | refine blk_alloc ?_ _)); exact BK585.out) hb); have n3_ := Aside0.mk (below_step (by repeat (first | (with_reducible first | exact HB.out | apply below_alloc | apply pw_below_drewN | apply below_drew1 | refine below_set ?_ GE582.out | refine below_set ?_ GE585.out) | exact HB.out)) hb); clear HO_586000; clear BK582; clear BK585; clear HB; have HO_586000 := n0_; have BK582 := n1_; have BK585 := n2_; have HB := n3_; clear n0_ n1_ n2_ n3_; (try clear hb); (try clear hb2); (try clear hk); (try clear hi); have hcz42_0 : w41.cell? ⟨gb585, 0, none⟩ = some (.slice Ao40 x586000_1.length co40) := (blk_cell BK585.out 0).trans rfl; have hcz42_1 : w41.cell? ⟨gb585, 1, none⟩ = some (.int .i64 x586001_24) := (blk_cell BK585.out 1).trans rfl; have hcz42_2 : w41.cell? ⟨gb585, 2, none⟩ = some (.int .i64 (-1)) := (blk_cell BK585.out 2).trans rfl; have hfz42_0 := blk_frozen BK585.out 0; have hfz42_1 := blk_frozen BK585.out 1; have hfz42_2 := blk_frozen BK585.out 2))
        go_meet
        case rel => exact ⟨_, (wrap64 (Int.tdiv t599 2)), H', ⟨by have := HK1.out; have := HJ24.out; first | omega | exact Nat.le_refl _⟩, ⟨by (with_reducible repeat (first | apply Kd.R_alloc | apply Kd.R_drewN | apply Kd.R_drew)); exact Kd.R_mono (Kd.R_far (p := ⟨gb585, 1, none⟩) (Kd.R_types HO_586000.out BK585.out (by decide)) (fun _ hk => hk.2) (.int .i64 (wrap64 (Int.tdiv t599 2)))) (fun _ hk => trivial)⟩, ⟨by (with_reducible repeat (first | refine blk_drewN ?_ _ | refine blk_drew ?_ | refine blk_alloc ?_ _)); refine blk_far ?_ NB582_585.out _; (with_reducible repeat (first | refine blk_drewN ?_ _ | refine blk_drew ?_ | refine blk_alloc ?_ _)); exact BK582.out⟩, ⟨by (with_reducible repeat (first | refine blk_drewN ?_ _ | refine blk_drew ?_ | refine blk_alloc ?_ _)); refine blk_put (cs := #[.slice Ao40 x586000_1.length co40, .int .i64 x586001_24, .int .i64 (-1)]) ?_ 1 _ rfl; (with_reducible repeat (first | refine blk_drewN ?_ _ | refine blk_drew ?_ | refine blk_alloc ?_ _)); exact BK585.out⟩, ⟨by repeat (first | (with_reducible first | exact HB.out | apply below_alloc | apply pw_below_drewN | apply below_drew1 | refine below_set ?_ GE582.out | refine below_set ?_ GE585.out) | exact HB.out)⟩⟩
       ·rw [if_neg c36] at H
        have c36b0 : (t596 == 3) = false := beq_eq_false_iff_ne.mpr c36
        have c36b1 : (t596 != 3) = true := bne_iff_ne.mpr c36
        (first | rw [c36b0] | (simp only [i64_w, i32_w]; rw [c36b0]) | skip)
        have H' := Aside0.mk H
        clear H
        go_wp2
        go_meet
        case rel => exact ⟨_, (x586001_24), H', ⟨by have := HK1.out; have := HJ24.out; first | omega | exact Nat.le_refl _⟩, ⟨by (with_reducible repeat (first | apply Kd.R_alloc | apply Kd.R_drewN | apply Kd.R_drew)); exact HO_586000.out⟩, ⟨by (with_reducible repeat (first | refine blk_drewN ?_ _ | refine blk_drew ?_ | refine blk_alloc ?_ _)); exact BK582.out⟩, ⟨by (with_reducible repeat (first | refine blk_drewN ?_ _ | refine blk_drew ?_ | refine blk_alloc ?_ _)); exact BK585.out⟩, ⟨by repeat (first | (with_reducible first | exact HB.out | apply below_alloc | apply pw_below_drewN | apply below_drew1 | refine below_set ?_ GE582.out | refine below_set ?_ GE585.out) | exact HB.out)⟩⟩
      case rest =>
       clear HC35
       try clear c1
       try clear c2
       try clear p2
       try clear c3
       try clear c4
       try clear c5
       try clear c6
       try clear p6
       try clear c8
       try clear c8b0
       try clear c13
       try clear c13b0
       try clear c13b1
       try clear c14
       try clear c14b0
       try clear c14b1
       try clear c15
       try clear c15b0
       try clear c15b1
       try clear c17
       try clear c17b0
       try clear c17b1
       try clear c26
       try clear c28
       try clear c28b0
       try clear c30
       try clear c36
       try clear c36b0
       try clear c36b1
       try clear c38
       try clear c42
       try clear hcz27_0
       try clear hcz27_1
       try clear hcz27_2
       try clear hcz31_0
       try clear hcz31_1
       try clear hcz31_2
       try clear hcz34_0
       try clear hcz34_1
       try clear hcz34_2
       try clear hcz39_0
       try clear hcz39_1
       try clear hcz39_2
       try clear hcz42_0
       try clear hcz42_1
       try clear hcz42_2
       try clear hcz7_0
       try clear hcz7_1
       try clear hcz7_2
       try clear hfz27_0
       try clear hfz27_1
       try clear hfz27_2
       try clear hfz31_0
       try clear hfz31_1
       try clear hfz31_2
       try clear hfz34_0
       try clear hfz34_1
       try clear hfz34_2
       try clear hfz39_0
       try clear hfz39_1
       try clear hfz39_2
       try clear hfz42_0
       try clear hfz42_1
       try clear hfz42_2
       try clear hfz7_0
       try clear hfz7_1
       try clear hfz7_2
       try clear p2
       try clear p6
       obtain ⟨kq, x586001_34, HA, HJ34, HO_586000, BK582, BK585, HB⟩ := hcut
       cases kq with
       | zero => exact absurd HA.out (by simp [spec_l1DrawFS.j2])
       | succ kj34 =>
        have H := HA.out
        clear HA
        simp only [spec_l1DrawFS.j2] at H
        by_cases c43 : t596 = 4
        ·rw [if_pos c43] at H
         have c43b0 : (t596 == 4) = true := beq_iff_eq.mpr c43
         have c43b1 : (t596 != 4) = false := bne_eq_false_iff_eq.mpr c43
         clear c43
         by_cases c44 : t596 = 5
         ·rw [if_pos c44] at H
          have c44b0 : (t596 == 5) = true := beq_iff_eq.mpr c44
          have c44b1 : (t596 != 5) = false := bne_eq_false_iff_eq.mpr c44
          clear c44
          simp only [Option.some.injEq, Prod.mk.injEq] at H
          obtain ⟨rfl, rfl, rfl, rfl⟩ := H
          have hnb45 := NB585_582.out
          have hnc45 := NB582_585.out
          have hcz46_0 : wc.cell? ⟨gb585, 0, none⟩ = some (u586000) := (blk_cell BK585.out 0).trans rfl
          have hcz46_1 : wc.cell? ⟨gb585, 1, none⟩ = some (.int .i64 x586001_34) := (blk_cell BK585.out 1).trans rfl
          have hcz46_2 : wc.cell? ⟨gb585, 2, none⟩ = some (.int .i64 (-1)) := (blk_cell BK585.out 2).trans rfl
          have hfz46_0 := blk_frozen BK585.out 0
          have hfz46_1 := blk_frozen BK585.out 1
          have hfz46_2 := blk_frozen BK585.out 2
          obtain ⟨Ao47, co47, eo47⟩ := Kd.R_slice HO_586000.out
          subst eo47
          have hcz48_0 : wc.cell? ⟨gb582, 0, none⟩ = some (.slice none 0 0) := (blk_cell BK582.out 0).trans rfl
          have hcz48_1 : wc.cell? ⟨gb582, 1, none⟩ = some (.int .i64 0) := (blk_cell BK582.out 1).trans rfl
          have hcz48_2 : wc.cell? ⟨gb582, 2, none⟩ = some (.int .i64 0) := (blk_cell BK582.out 2).trans rfl
          have hfz48_0 := blk_frozen BK582.out 0
          have hfz48_1 := blk_frozen BK582.out 1
          have hfz48_2 := blk_frozen BK582.out 2
          go_wp2
          refine bodyPost_ret (results_ct rfl _ _ gb582 29 #[.slice Ao47 x586000_1.length co47, .int .i64 x586001_34, .int .i64 5] (0, 0) _ rfl (by (with_reducible repeat (first | refine blk_drewN ?_ _ | refine blk_drew ?_ | refine blk_alloc ?_ _)); refine blk_put (cs := #[.slice Ao47 x586000_1.length co47, .int .i64 x586001_34, .int .i64 0]) ?_ 2 _ rfl; (with_reducible repeat (first | refine blk_drewN ?_ _ | refine blk_drew ?_ | refine blk_alloc ?_ _)); refine blk_put (cs := #[.slice Ao47 x586000_1.length co47, .int .i64 0, .int .i64 0]) ?_ 1 _ rfl; (with_reducible repeat (first | refine blk_drewN ?_ _ | refine blk_drew ?_ | refine blk_alloc ?_ _)); refine blk_put (cs := #[.slice none 0 0, .int .i64 0, .int .i64 0]) ?_ 0 _ rfl; (with_reducible repeat (first | refine blk_drewN ?_ _ | refine blk_drew ?_ | refine blk_alloc ?_ _)); refine blk_far ?_ NB582_585.out _; (with_reducible repeat (first | refine blk_drewN ?_ _ | refine blk_drew ?_ | refine blk_alloc ?_ _)); refine blk_far ?_ NB582_585.out _; (with_reducible repeat (first | refine blk_drewN ?_ _ | refine blk_drew ?_ | refine blk_alloc ?_ _)); exact BK582.out) Try.underlying29 rfl (by kernel_rfl)) rfl ?_
          exact ⟨_, by first | rfl | (simp [errW_none, errW_some] <;> rfl) | (simp [*, errW_none, errW_some] <;> rfl), by (with_reducible repeat (first | apply Kd.R_alloc | apply Kd.R_drewN | apply Kd.R_drew)); exact Kd.R_mono (Kd.R_far (p := ⟨gb582, 2, none⟩) (Kd.R_far (p := ⟨gb582, 1, none⟩) (Kd.R_far (p := ⟨gb582, 0, none⟩) (Kd.R_far (p := ⟨gb585, 2, none⟩) (Kd.R_far (p := ⟨gb585, 2, none⟩) (Kd.R_types (Kd.R_types HO_586000.out BK585.out (by decide)) BK582.out (by decide)) (fun _ hk => hk.1.2) (.int .i64 0)) (fun _ hk => hk.1.2) (.int .i64 5)) (fun _ hk => hk.2) (.slice Ao47 x586000_1.length co47)) (fun _ hk => hk.2) (.int .i64 x586001_34)) (fun _ hk => hk.2) (.int .i64 5)) (fun _ hk => trivial), by repeat (first | (with_reducible first | exact HB.out | apply below_alloc | apply pw_below_drewN | apply below_drew1 | refine below_set ?_ GE582.out | refine below_set ?_ GE585.out) | exact HB.out)⟩
         ·rw [if_neg c44] at H
          have c44b0 : (t596 == 5) = false := beq_eq_false_iff_ne.mpr c44
          have c44b1 : (t596 != 5) = true := bne_iff_ne.mpr c44
          simp only [Option.some.injEq, Prod.mk.injEq] at H
          obtain ⟨rfl, rfl, rfl, rfl⟩ := H
          have hnb49 := NB585_582.out
          have hnc49 := NB582_585.out
          have hcz50_0 : wc.cell? ⟨gb585, 0, none⟩ = some (u586000) := (blk_cell BK585.out 0).trans rfl
          have hcz50_1 : wc.cell? ⟨gb585, 1, none⟩ = some (.int .i64 x586001_34) := (blk_cell BK585.out 1).trans rfl
          have hcz50_2 : wc.cell? ⟨gb585, 2, none⟩ = some (.int .i64 (-1)) := (blk_cell BK585.out 2).trans rfl
          have hfz50_0 := blk_frozen BK585.out 0
          have hfz50_1 := blk_frozen BK585.out 1
          have hfz50_2 := blk_frozen BK585.out 2
          obtain ⟨Ao51, co51, eo51⟩ := Kd.R_slice HO_586000.out
          subst eo51
          have hcz52_0 : wc.cell? ⟨gb582, 0, none⟩ = some (.slice none 0 0) := (blk_cell BK582.out 0).trans rfl
          have hcz52_1 : wc.cell? ⟨gb582, 1, none⟩ = some (.int .i64 0) := (blk_cell BK582.out 1).trans rfl
          have hcz52_2 : wc.cell? ⟨gb582, 2, none⟩ = some (.int .i64 0) := (blk_cell BK582.out 2).trans rfl
          have hfz52_0 := blk_frozen BK582.out 0
          have hfz52_1 := blk_frozen BK582.out 1
          have hfz52_2 := blk_frozen BK582.out 2
          go_wp2
          refine bodyPost_ret (results_ct rfl _ _ gb582 29 #[.slice Ao51 x586000_1.length co51, .int .i64 x586001_34, .int .i64 0] (0, 0) _ rfl (by (with_reducible repeat (first | refine blk_drewN ?_ _ | refine blk_drew ?_ | refine blk_alloc ?_ _)); refine blk_put (cs := #[.slice Ao51 x586000_1.length co51, .int .i64 x586001_34, .int .i64 0]) ?_ 2 _ rfl; (with_reducible repeat (first | refine blk_drewN ?_ _ | refine blk_drew ?_ | refine blk_alloc ?_ _)); refine blk_put (cs := #[.slice Ao51 x586000_1.length co51, .int .i64 0, .int .i64 0]) ?_ 1 _ rfl; (with_reducible repeat (first | refine blk_drewN ?_ _ | refine blk_drew ?_ | refine blk_alloc ?_ _)); refine blk_put (cs := #[.slice none 0 0, .int .i64 0, .int .i64 0]) ?_ 0 _ rfl; (with_reducible repeat (first | refine blk_drewN ?_ _ | refine blk_drew ?_ | refine blk_alloc ?_ _)); refine blk_far ?_ NB582_585.out _; (with_reducible repeat (first | refine blk_drewN ?_ _ | refine blk_drew ?_ | refine blk_alloc ?_ _)); exact BK582.out) Try.underlying29 rfl (by kernel_rfl)) rfl ?_
          exact ⟨_, by first | rfl | (simp [errW_none, errW_some] <;> rfl) | (simp [*, errW_none, errW_some] <;> rfl), by (with_reducible repeat (first | apply Kd.R_alloc | apply Kd.R_drewN | apply Kd.R_drew)); exact Kd.R_mono (Kd.R_far (p := ⟨gb582, 2, none⟩) (Kd.R_far (p := ⟨gb582, 1, none⟩) (Kd.R_far (p := ⟨gb582, 0, none⟩) (Kd.R_far (p := ⟨gb585, 2, none⟩) (Kd.R_types (Kd.R_types HO_586000.out BK585.out (by decide)) BK582.out (by decide)) (fun _ hk => hk.1.2) (.int .i64 0)) (fun _ hk => hk.2) (.slice Ao51 x586000_1.length co51)) (fun _ hk => hk.2) (.int .i64 x586001_34)) (fun _ hk => hk.2) (.int .i64 0)) (fun _ hk => trivial), by repeat (first | (with_reducible first | exact HB.out | apply below_alloc | apply pw_below_drewN | apply below_drew1 | refine below_set ?_ GE582.out | refine below_set ?_ GE585.out) | exact HB.out)⟩
        ·rw [if_neg c43] at H
         have c43b0 : (t596 == 4) = false := beq_eq_false_iff_ne.mpr c43
         have c43b1 : (t596 != 4) = true := bne_iff_ne.mpr c43
         by_cases c53 : t596 = 5
         ·rw [if_pos c53] at H
          have c53b0 : (t596 == 5) = true := beq_iff_eq.mpr c53
          have c53b1 : (t596 != 5) = false := bne_eq_false_iff_eq.mpr c53
          clear c53
          simp only [Option.some.injEq, Prod.mk.injEq] at H
          obtain ⟨rfl, rfl, rfl, rfl⟩ := H
          have hnb54 := NB585_582.out
          have hnc54 := NB582_585.out
          have hcz55_0 : wc.cell? ⟨gb585, 0, none⟩ = some (u586000) := (blk_cell BK585.out 0).trans rfl
          have hcz55_1 : wc.cell? ⟨gb585, 1, none⟩ = some (.int .i64 x586001_34) := (blk_cell BK585.out 1).trans rfl
          have hcz55_2 : wc.cell? ⟨gb585, 2, none⟩ = some (.int .i64 (-1)) := (blk_cell BK585.out 2).trans rfl
          have hfz55_0 := blk_frozen BK585.out 0
          have hfz55_1 := blk_frozen BK585.out 1
          have hfz55_2 := blk_frozen BK585.out 2
          obtain ⟨Ao56, co56, eo56⟩ := Kd.R_slice HO_586000.out
          subst eo56
          have hcz57_0 : wc.cell? ⟨gb582, 0, none⟩ = some (.slice none 0 0) := (blk_cell BK582.out 0).trans rfl
          have hcz57_1 : wc.cell? ⟨gb582, 1, none⟩ = some (.int .i64 0) := (blk_cell BK582.out 1).trans rfl
          have hcz57_2 : wc.cell? ⟨gb582, 2, none⟩ = some (.int .i64 0) := (blk_cell BK582.out 2).trans rfl
          have hfz57_0 := blk_frozen BK582.out 0
          have hfz57_1 := blk_frozen BK582.out 1
          have hfz57_2 := blk_frozen BK582.out 2
          go_wp2
          refine bodyPost_ret (results_ct rfl _ _ gb582 29 #[.slice Ao56 x586000_1.length co56, .int .i64 x586001_34, .int .i64 5] (0, 0) _ rfl (by (with_reducible repeat (first | refine blk_drewN ?_ _ | refine blk_drew ?_ | refine blk_alloc ?_ _)); refine blk_put (cs := #[.slice Ao56 x586000_1.length co56, .int .i64 x586001_34, .int .i64 0]) ?_ 2 _ rfl; (with_reducible repeat (first | refine blk_drewN ?_ _ | refine blk_drew ?_ | refine blk_alloc ?_ _)); refine blk_put (cs := #[.slice Ao56 x586000_1.length co56, .int .i64 0, .int .i64 0]) ?_ 1 _ rfl; (with_reducible repeat (first | refine blk_drewN ?_ _ | refine blk_drew ?_ | refine blk_alloc ?_ _)); refine blk_put (cs := #[.slice none 0 0, .int .i64 0, .int .i64 0]) ?_ 0 _ rfl; (with_reducible repeat (first | refine blk_drewN ?_ _ | refine blk_drew ?_ | refine blk_alloc ?_ _)); refine blk_far ?_ NB582_585.out _; (with_reducible repeat (first | refine blk_drewN ?_ _ | refine blk_drew ?_ | refine blk_alloc ?_ _)); exact BK582.out) Try.underlying29 rfl (by kernel_rfl)) rfl ?_
          exact ⟨_, by first | rfl | (simp [errW_none, errW_some] <;> rfl) | (simp [*, errW_none, errW_some] <;> rfl), by (with_reducible repeat (first | apply Kd.R_alloc | apply Kd.R_drewN | apply Kd.R_drew)); exact Kd.R_mono (Kd.R_far (p := ⟨gb582, 2, none⟩) (Kd.R_far (p := ⟨gb582, 1, none⟩) (Kd.R_far (p := ⟨gb582, 0, none⟩) (Kd.R_far (p := ⟨gb585, 2, none⟩) (Kd.R_types (Kd.R_types HO_586000.out BK585.out (by decide)) BK582.out (by decide)) (fun _ hk => hk.1.2) (.int .i64 5)) (fun _ hk => hk.2) (.slice Ao56 x586000_1.length co56)) (fun _ hk => hk.2) (.int .i64 x586001_34)) (fun _ hk => hk.2) (.int .i64 5)) (fun _ hk => trivial), by repeat (first | (with_reducible first | exact HB.out | apply below_alloc | apply pw_below_drewN | apply below_drew1 | refine below_set ?_ GE582.out | refine below_set ?_ GE585.out) | exact HB.out)⟩
         ·rw [if_neg c53] at H
          have c53b0 : (t596 == 5) = false := beq_eq_false_iff_ne.mpr c53
          have c53b1 : (t596 != 5) = true := bne_iff_ne.mpr c53
          simp only [Option.some.injEq, Prod.mk.injEq] at H
          obtain ⟨rfl, rfl, rfl, rfl⟩ := H
          have hnb58 := NB585_582.out
          have hnc58 := NB582_585.out
          have hcz59_0 : wc.cell? ⟨gb585, 0, none⟩ = some (u586000) := (blk_cell BK585.out 0).trans rfl
          have hcz59_1 : wc.cell? ⟨gb585, 1, none⟩ = some (.int .i64 x586001_34) := (blk_cell BK585.out 1).trans rfl
          have hcz59_2 : wc.cell? ⟨gb585, 2, none⟩ = some (.int .i64 (-1)) := (blk_cell BK585.out 2).trans rfl
          have hfz59_0 := blk_frozen BK585.out 0
          have hfz59_1 := blk_frozen BK585.out 1
          have hfz59_2 := blk_frozen BK585.out 2
          obtain ⟨Ao60, co60, eo60⟩ := Kd.R_slice HO_586000.out
          subst eo60
          have hcz61_0 : wc.cell? ⟨gb582, 0, none⟩ = some (.slice none 0 0) := (blk_cell BK582.out 0).trans rfl
          have hcz61_1 : wc.cell? ⟨gb582, 1, none⟩ = some (.int .i64 0) := (blk_cell BK582.out 1).trans rfl
          have hcz61_2 : wc.cell? ⟨gb582, 2, none⟩ = some (.int .i64 0) := (blk_cell BK582.out 2).trans rfl
          have hfz61_0 := blk_frozen BK582.out 0
          have hfz61_1 := blk_frozen BK582.out 1
          have hfz61_2 := blk_frozen BK582.out 2
          go_wp2
          refine bodyPost_ret (results_ct rfl _ _ gb582 29 #[.slice Ao60 x586000_1.length co60, .int .i64 x586001_34, .int .i64 (-1)] (0, 0) _ rfl (by (with_reducible repeat (first | refine blk_drewN ?_ _ | refine blk_drew ?_ | refine blk_alloc ?_ _)); refine blk_put (cs := #[.slice Ao60 x586000_1.length co60, .int .i64 x586001_34, .int .i64 0]) ?_ 2 _ rfl; (with_reducible repeat (first | refine blk_drewN ?_ _ | refine blk_drew ?_ | refine blk_alloc ?_ _)); refine blk_put (cs := #[.slice Ao60 x586000_1.length co60, .int .i64 0, .int .i64 0]) ?_ 1 _ rfl; (with_reducible repeat (first | refine blk_drewN ?_ _ | refine blk_drew ?_ | refine blk_alloc ?_ _)); refine blk_put (cs := #[.slice none 0 0, .int .i64 0, .int .i64 0]) ?_ 0 _ rfl; (with_reducible repeat (first | refine blk_drewN ?_ _ | refine blk_drew ?_ | refine blk_alloc ?_ _)); exact BK582.out) Try.underlying29 rfl (by kernel_rfl)) rfl ?_
          exact ⟨_, by first | rfl | (simp [errW_none, errW_some] <;> rfl) | (simp [*, errW_none, errW_some] <;> rfl), by (with_reducible repeat (first | apply Kd.R_alloc | apply Kd.R_drewN | apply Kd.R_drew)); exact Kd.R_mono (Kd.R_far (p := ⟨gb582, 2, none⟩) (Kd.R_far (p := ⟨gb582, 1, none⟩) (Kd.R_far (p := ⟨gb582, 0, none⟩) (Kd.R_types HO_586000.out BK582.out (by decide)) (fun _ hk => hk.2) (.slice Ao60 x586000_1.length co60)) (fun _ hk => hk.2) (.int .i64 x586001_34)) (fun _ hk => hk.2) (.int .i64 (-1))) (fun _ hk => trivial), by repeat (first | (with_reducible first | exact HB.out | apply below_alloc | apply pw_below_drewN | apply below_drew1 | refine below_set ?_ GE582.out | refine below_set ?_ GE585.out) | exact HB.out)⟩

end Go.Proofs.Ytbppijlcmeidaaa.P
end
section
/- The specification's l1DrawFS answers, within bounds. Condition: the code's bytes are bytes, at most 2 to the 20 of them. -/
namespace Go.Proofs.Ytbppijlcmeidaaa.M
open Go.RowKit Go.Proofs.Ytbppijlcmeidaaa.P Go.Proofs.YtbppijlcmeidaaaW.PrintWords Go.Proofs.YtbppijlcmeidaaaW.PrintLast Go.Proofs.YtbppijlcmeidaaaW.PrintMore
set_option linter.unusedVariables false
/-- Small files: names of at most N bytes, data of at most D. -/
def Small (N D : Nat) (l : List S52) : Prop := ∀ x ∈ l, x.f0.size ≤ N ∧ x.f1.size ≤ D
theorem putIn_mem (x : S52) : ∀ (l : List S52) (y : S52), y ∈ putIn x l → y = x ∨ y ∈ l := by
  intro l
  induction l with
  | nil => intro y h; simp [putIn] at h; exact Or.inl h
  | cons a l ih =>
    intro y h
    unfold putIn at h
    split at h
    · rcases List.mem_cons.1 h with h | h
      · exact Or.inl h
      · exact Or.inr h
    · rcases List.mem_cons.1 h with h | h
      · exact Or.inr (h ▸ List.mem_cons_self)
      · rcases ih y h with h | h
        · exact Or.inl h
        · exact Or.inr (List.mem_cons_of_mem _ h)
theorem putIn_length (x : S52) : ∀ l : List S52, (putIn x l).length = l.length + 1 := by
  intro l
  induction l with
  | nil => rfl
  | cons a l ih =>
    unfold putIn
    split
    · rfl
    · show (putIn x l).length + 1 = l.length + 1 + 1
      rw [ih]
theorem total_small {N D : Nat} : ∀ {l : List S52}, Small N D l → total l ≤ l.length * D := by
  intro l
  induction l with
  | nil => intro _; exact Nat.zero_le _
  | cons a l ih =>
    intro h
    have h1 := ih (fun x hx => h x (List.mem_cons_of_mem _ hx))
    have h2 := (h a List.mem_cons_self).2
    show a.f1.size + total l ≤ (l.length + 1) * D
    rw [Nat.add_mul]
    omega
theorem long_ev (n : Int) (b : ByteArray) (hb : b.size = 1) (h0 : 0 ≤ n) (h1 : n ≤ 10000000) : spec_l1Long.f n b = some (rep b n.toNat) := if_pos ⟨hb, h0, h1⟩
structure FSOk (files : List S52) (q fuel : Int) (n N D : Nat) : Prop where
  len : files.length ≤ n
  small : Small N D files
  q0 : -1 ≤ q
  q1 : q ≤ 1048577
  f0 : -2 ≤ fuel
  f1 : fuel ≤ 5
theorem drawFS_end (l : List Int) (hl : ∀ x ∈ l, 0 ≤ x ∧ x ≤ 255) (hlen : l.length ≤ 1048576) (n i : Int) (hi : ¬ i < n) (p : Int) (hp : 0 ≤ p ∧ p ≤ 1048576) (files : List S52) (hf : files.length ≤ 7) (hs : Small 7 19 files) :
    ∃ q fuel, Ev (fun k => spec_l1DrawFS.l0 k l p n i files 0 (-1)) (files, q, fuel, p + 1) ∧ FSOk files q fuel 7 7 19 := by
  obtain ⟨a, ha, a0, _, a1⟩ := take_ev l hl hlen p 8 hp (by omega)
  have a1 := a1 (by omega)
  have ht := total_small hs
  have hT : total files ≤ 133 := Nat.le_trans ht (Nat.le_trans (Nat.mul_le_mul_right 19 hf) (by omega))
  have htot := fun q => specTotal_eq files q (-1) (by omega) (by omega)
  -- the last two tests
  have j2 : ∀ q : Int, -1 ≤ q → q ≤ 1048577 → ∃ fuel, Ev (fun k => spec_l1DrawFS.j2 k (p + 1) a files q (-1)) (files, q, fuel, p + 1) ∧ FSOk files q fuel 7 7 19 := by
    intro q h0 h1
    by_cases c4 : a = 4
    · exact ⟨0, Ev.step (f := fun _ => some (files, q, 0, p + 1)) (fun k => by rw [spec_l1DrawFS.j2, if_pos c4, if_neg (by omega)]) (Ev.now _), hf, hs, h0, h1, by omega, by omega⟩
    · by_cases c5 : a = 5
      · exact ⟨5, Ev.step (f := fun _ => some (files, q, 5, p + 1)) (fun k => by rw [spec_l1DrawFS.j2, if_neg c4, if_pos c5]) (Ev.now _), hf, hs, h0, h1, by omega, by omega⟩
      · exact ⟨-1, Ev.step (f := fun _ => some (files, q, -1, p + 1)) (fun k => by rw [spec_l1DrawFS.j2, if_neg c4, if_neg c5]) (Ev.now _), hf, hs, h0, h1, by omega, by omega⟩
  have j1 : ∀ q : Int, -1 ≤ q → q ≤ 1048577 → ∃ q' fuel, Ev (fun k => spec_l1DrawFS.j1 k (p + 1) a files q (-1)) (files, q', fuel, p + 1) ∧ FSOk files q' fuel 7 7 19 := by
    intro q h0 h1
    by_cases c3 : a = 3
    · have hd : Int.tdiv (total files : Int) 2 = ((total files / 2 : Nat) : Int) := by rw [Int.tdiv_eq_ediv_of_nonneg (by omega)]; omega
      obtain ⟨fuel, h, ok⟩ := j2 ((total files / 2 : Nat) : Int) (by omega) (by omega)
      refine ⟨_, fuel, Ev.step (fun k => by rw [spec_l1DrawFS.j1, if_pos c3]) (Ev.bind (htot q) ?_), ok⟩
      rw [hd, wrap_ok (by omega) (by omega)]
      exact h
    · obtain ⟨fuel, h, ok⟩ := j2 q h0 h1
      exact ⟨q, fuel, Ev.step (fun k => by rw [spec_l1DrawFS.j1, if_neg c3]) h, ok⟩
  by_cases c : a < 3
  · obtain ⟨q', fuel, h, ok⟩ := j1 ((total files : Int) + a * 3) (by omega) (by omega)
    refine ⟨q', fuel, Ev.step (fun k => by rw [spec_l1DrawFS.l0, if_neg hi]) (Ev.bind ha (Ev.congr (fun k => if_pos c) (Ev.bind (htot 200) ?_))), ok⟩
    rw [wrap_ok (x := a * 3) (by omega) (by omega), wrap_ok (x := (total files : Int) + a * 3) (by omega) (by omega)]
    exact h
  · obtain ⟨q', fuel, h, ok⟩ := j1 200 (by omega) (by omega)
    exact ⟨q', fuel, Ev.step (fun k => by rw [spec_l1DrawFS.l0, if_neg hi]) (Ev.bind ha (Ev.congr (fun k => if_neg c) h)), ok⟩
theorem drawFS_loop (l : List Int) (hl : ∀ x ∈ l, 0 ≤ x ∧ x ≤ 255) (hlen : l.length ≤ 1048576) (n : Nat) (hn : n ≤ 7) : ∀ d i : Nat, i + d = n → ∀ (p : Int) (files : List S52), 0 ≤ p ∧ p + 3 * (d : Int) ≤ 1048576 → files.length ≤ i → Small 7 19 files →
    ∃ files' q fuel, Ev (fun k => spec_l1DrawFS.l0 k l p (n : Int) (i : Int) files 0 (-1)) (files', q, fuel, p + 3 * (d : Int) + 1) ∧ FSOk files' q fuel 7 7 19 := by
  intro d
  induction d with
  | zero =>
    intro i hi p files hp hf hs
    obtain ⟨q, fuel, h, ok⟩ := drawFS_end l hl hlen (n : Int) (i : Int) (by omega) p (by omega) files (by omega) hs
    refine ⟨files, q, fuel, ?_, ok⟩
    rw [show p + 3 * ((0 : Nat) : Int) + 1 = p + 1 by omega]
    exact h
  | succ d ih =>
    intro i hi p files hp hf hs
    obtain ⟨nm, hnm, nsz⟩ := drawName_ev l hl hlen p (by omega)
    obtain ⟨a, ha, a0, _, a1⟩ := take_ev l hl hlen (p + 1) 20 (by omega) (by omega)
    obtain ⟨b, hb, b0, _, b1⟩ := take_ev l hl hlen (p + 1 + 1) 20 (by omega) (by omega)
    have a1 := a1 (by omega)
    have b1 := b1 (by omega)
    have hm := tmod_in (a := b) (n := 3) b0 (by omega)
    generalize ht : Int.tmod b 3 = t at hm
    have hx : ((⟨#[120, 121, 122]⟩ : ByteArray).extract t.toNat (t + 1).toNat).size = 1 := by
      rw [ByteArray.size_extract]
      show min (t + 1).toNat 3 - t.toNat = 1
      omega
    have hw := with_eq files nm (rep ((⟨#[120, 121, 122]⟩ : ByteArray).extract t.toNat (t + 1).toNat) a.toNat) (Int.tmod b (a + 1)) (by omega) (by omega)
    have hlen2 : (putIn ⟨nm, rep ((⟨#[120, 121, 122]⟩ : ByteArray).extract t.toNat (t + 1).toNat) a.toNat, Int.tmod b (a + 1)⟩ (but files nm)).length ≤ i + 1 := by
      rw [putIn_length]
      have := but_length files nm
      omega
    have hsm : Small 7 19 (putIn ⟨nm, rep ((⟨#[120, 121, 122]⟩ : ByteArray).extract t.toNat (t + 1).toNat) a.toNat, Int.tmod b (a + 1)⟩ (but files nm)) := by
      intro x hx2
      rcases putIn_mem _ _ _ hx2 with h | h
      · subst h
        exact ⟨nsz, by show (rep _ a.toNat).size ≤ 19; rw [rep_size hx]; omega⟩
      · exact hs x (List.mem_filter.1 h).1
    obtain ⟨files', q, fuel, h, ok⟩ := ih (i + 1) (by omega) (p + 1 + 1 + 1) _ (by omega) hlen2 hsm
    refine ⟨files', q, fuel, ?_, ok⟩
    rw [show p + 3 * ((d + 1 : Nat) : Int) + 1 = p + 1 + 1 + 1 + 3 * (d : Int) + 1 by omega]
    refine Ev.step (fun k => by rw [spec_l1DrawFS.l0, if_pos (show (i : Int) < (n : Int) by omega)]) (Ev.bind hnm (Ev.bind ha (Ev.bind hb ?_)))
    show Ev (fun k => (if 0 ≤ (Int.tmod b 3) then _ else _)) _
    rw [ht]
    refine Ev.congr (fun k => if_pos hm.1) ?_
    rw [wrap_ok (x := t + 1) (by omega) (by omega)]
    refine Ev.congr (fun k => if_pos (by omega)) (Ev.congr (fun k => if_pos (by omega)) (Ev.bind (Ev.pure (fun _ => long_ev a _ hx a0 (by omega))) ?_))
    show Ev (fun k => (if (wrap64 (a + 1)) = 0 then _ else _)) _
    rw [wrap_ok (x := a + 1) (by omega) (by omega)]
    refine Ev.congr (fun k => if_neg (by omega)) (Ev.bind hw ?_)
    show Ev (fun k => spec_l1DrawFS.l0 k l (p + 1 + 1 + 1) (n : Int) (wrap64 ((i : Int) + 1)) _ 0 (-1)) _
    rw [wrap_succ (by omega)]
    exact h
theorem drawFS_ev (l : List Int) (hl : ∀ x ∈ l, 0 ≤ x ∧ x ≤ 255) (hlen : l.length ≤ 1048576) (p : Int) (hp : 0 ≤ p ∧ p ≤ 1048000) :
    ∃ files q fuel p', Ev (fun k => spec_l1DrawFS.f k l p) (files, q, fuel, p') ∧ FSOk files q fuel 7 7 19 ∧ 0 ≤ p' ∧ p' ≤ p + 30 := by
  obtain ⟨n, hn, n0, _, n1⟩ := take_ev l hl hlen p 7 (by omega) (by omega)
  have n1 := n1 (by omega)
  obtain ⟨m, rfl⟩ : ∃ m : Nat, n = (m : Int) := ⟨n.toNat, by omega⟩
  obtain ⟨files, q, fuel, h, ok⟩ := drawFS_loop l hl hlen m (by omega) m 0 (by omega) (p + 1) [] (by omega) (Nat.le_refl _) (fun x hx => by cases hx)
  exact ⟨files, q, fuel, _, Ev.bind hn h, ok, by omega, by omega⟩
end Go.Proofs.Ytbppijlcmeidaaa.M
end
section
-- Written by a changed copy of the print program, one module a function. Not trusted: Lean checks it.
namespace Go.Proofs.Ytbppijlcmeidaaa.P
open Go.RowKit Go.Proofs.YtbppijlcmeidaaaW.PrintWords Go.Proofs.YtbppijlcmeidaaaW.PrintLast Go.Proofs.YtbppijlcmeidaaaW.PrintMore
attribute [local go_sem] max2_int min2_int max_two min_two max_three min_three max_four min_four   -- for this text's walks alone
set_option linter.unusedVariables false
set_option linter.unusedSimpArgs false

/-! ### spec_l1Pad: function 86 -/
def spec_l1Pad.f (a0 : Int) : Option (ByteArray) := if 0 ≤ (Int.tmod (wrap64 (Int.tdiv a0 100)) 10) then (if (Int.tmod (wrap64 (Int.tdiv a0 100)) 10) ≤ (wrap64 ((Int.tmod (wrap64 (Int.tdiv a0 100)) 10) + 1)) then (if (wrap64 ((Int.tmod (wrap64 (Int.tdiv a0 100)) 10) + 1)) ≤ 10 then (if 0 ≤ (Int.tmod (wrap64 (Int.tdiv a0 10)) 10) then (if (Int.tmod (wrap64 (Int.tdiv a0 10)) 10) ≤ (wrap64 ((Int.tmod (wrap64 (Int.tdiv a0 10)) 10) + 1)) then (if (wrap64 ((Int.tmod (wrap64 (Int.tdiv a0 10)) 10) + 1)) ≤ 10 then (if ((⟨#[48, 49, 50, 51, 52, 53, 54, 55, 56, 57]⟩ : ByteArray).extract ((Int.tmod (wrap64 (Int.tdiv a0 100)) 10) : Int).toNat ((wrap64 ((Int.tmod (wrap64 (Int.tdiv a0 100)) 10) + 1)) : Int).toNat).size + ((⟨#[48, 49, 50, 51, 52, 53, 54, 55, 56, 57]⟩ : ByteArray).extract ((Int.tmod (wrap64 (Int.tdiv a0 10)) 10) : Int).toNat ((wrap64 ((Int.tmod (wrap64 (Int.tdiv a0 10)) 10) + 1)) : Int).toNat).size ≤ 9223372036854775807 then (if 0 ≤ (Int.tmod a0 10) then (if (Int.tmod a0 10) ≤ (wrap64 ((Int.tmod a0 10) + 1)) then (if (wrap64 ((Int.tmod a0 10) + 1)) ≤ 10 then (if (((⟨#[48, 49, 50, 51, 52, 53, 54, 55, 56, 57]⟩ : ByteArray).extract ((Int.tmod (wrap64 (Int.tdiv a0 100)) 10) : Int).toNat ((wrap64 ((Int.tmod (wrap64 (Int.tdiv a0 100)) 10) + 1)) : Int).toNat) ++ ((⟨#[48, 49, 50, 51, 52, 53, 54, 55, 56, 57]⟩ : ByteArray).extract ((Int.tmod (wrap64 (Int.tdiv a0 10)) 10) : Int).toNat ((wrap64 ((Int.tmod (wrap64 (Int.tdiv a0 10)) 10) + 1)) : Int).toNat)).size + ((⟨#[48, 49, 50, 51, 52, 53, 54, 55, 56, 57]⟩ : ByteArray).extract ((Int.tmod a0 10) : Int).toNat ((wrap64 ((Int.tmod a0 10) + 1)) : Int).toNat).size ≤ 9223372036854775807 then (some ((((⟨#[48, 49, 50, 51, 52, 53, 54, 55, 56, 57]⟩ : ByteArray).extract ((Int.tmod (wrap64 (Int.tdiv a0 100)) 10) : Int).toNat ((wrap64 ((Int.tmod (wrap64 (Int.tdiv a0 100)) 10) + 1)) : Int).toNat) ++ ((⟨#[48, 49, 50, 51, 52, 53, 54, 55, 56, 57]⟩ : ByteArray).extract ((Int.tmod (wrap64 (Int.tdiv a0 10)) 10) : Int).toNat ((wrap64 ((Int.tmod (wrap64 (Int.tdiv a0 10)) 10) + 1)) : Int).toNat)) ++ ((⟨#[48, 49, 50, 51, 52, 53, 54, 55, 56, 57]⟩ : ByteArray).extract ((Int.tmod a0 10) : Int).toNat ((wrap64 ((Int.tmod a0 10) + 1)) : Int).toNat))) else (none)) else (none)) else (none)) else (none)) else (none)) else (none)) else (none)) else (none)) else (none)) else (none)) else (none)
set_option maxHeartbeats 8000000 in
set_option maxRecDepth 100000 in
theorem spec_l1Pad.calls (a0 : Int) (r : ByteArray) (w : World) (h : spec_l1Pad.f a0 = some r) :
  Calls Try.prog 86 #[.int .i64 a0] w fun e w' => e = .returned (.string r) ∧ Drawn0 w w' := by
 have H : (if 0 ≤ (Int.tmod (wrap64 (Int.tdiv a0 100)) 10) then (if (Int.tmod (wrap64 (Int.tdiv a0 100)) 10) ≤ (wrap64 ((Int.tmod (wrap64 (Int.tdiv a0 100)) 10) + 1)) then (if (wrap64 ((Int.tmod (wrap64 (Int.tdiv a0 100)) 10) + 1)) ≤ 10 then (if 0 ≤ (Int.tmod (wrap64 (Int.tdiv a0 10)) 10) then (if (Int.tmod (wrap64 (Int.tdiv a0 10)) 10) ≤ (wrap64 ((Int.tmod (wrap64 (Int.tdiv a0 10)) 10) + 1)) then (if (wrap64 ((Int.tmod (wrap64 (Int.tdiv a0 10)) 10) + 1)) ≤ 10 then (if ((⟨#[48, 49, 50, 51, 52, 53, 54, 55, 56, 57]⟩ : ByteArray).extract ((Int.tmod (wrap64 (Int.tdiv a0 100)) 10) : Int).toNat ((wrap64 ((Int.tmod (wrap64 (Int.tdiv a0 100)) 10) + 1)) : Int).toNat).size + ((⟨#[48, 49, 50, 51, 52, 53, 54, 55, 56, 57]⟩ : ByteArray).extract ((Int.tmod (wrap64 (Int.tdiv a0 10)) 10) : Int).toNat ((wrap64 ((Int.tmod (wrap64 (Int.tdiv a0 10)) 10) + 1)) : Int).toNat).size ≤ 9223372036854775807 then (if 0 ≤ (Int.tmod a0 10) then (if (Int.tmod a0 10) ≤ (wrap64 ((Int.tmod a0 10) + 1)) then (if (wrap64 ((Int.tmod a0 10) + 1)) ≤ 10 then (if (((⟨#[48, 49, 50, 51, 52, 53, 54, 55, 56, 57]⟩ : ByteArray).extract ((Int.tmod (wrap64 (Int.tdiv a0 100)) 10) : Int).toNat ((wrap64 ((Int.tmod (wrap64 (Int.tdiv a0 100)) 10) + 1)) : Int).toNat) ++ ((⟨#[48, 49, 50, 51, 52, 53, 54, 55, 56, 57]⟩ : ByteArray).extract ((Int.tmod (wrap64 (Int.tdiv a0 10)) 10) : Int).toNat ((wrap64 ((Int.tmod (wrap64 (Int.tdiv a0 10)) 10) + 1)) : Int).toNat)).size + ((⟨#[48, 49, 50, 51, 52, 53, 54, 55, 56, 57]⟩ : ByteArray).extract ((Int.tmod a0 10) : Int).toNat ((wrap64 ((Int.tmod a0 10) + 1)) : Int).toNat).size ≤ 9223372036854775807 then (some ((((⟨#[48, 49, 50, 51, 52, 53, 54, 55, 56, 57]⟩ : ByteArray).extract ((Int.tmod (wrap64 (Int.tdiv a0 100)) 10) : Int).toNat ((wrap64 ((Int.tmod (wrap64 (Int.tdiv a0 100)) 10) + 1)) : Int).toNat) ++ ((⟨#[48, 49, 50, 51, 52, 53, 54, 55, 56, 57]⟩ : ByteArray).extract ((Int.tmod (wrap64 (Int.tdiv a0 10)) 10) : Int).toNat ((wrap64 ((Int.tmod (wrap64 (Int.tdiv a0 10)) 10) + 1)) : Int).toNat)) ++ ((⟨#[48, 49, 50, 51, 52, 53, 54, 55, 56, 57]⟩ : ByteArray).extract ((Int.tmod a0 10) : Int).toNat ((wrap64 ((Int.tmod a0 10) + 1)) : Int).toNat))) else (none)) else (none)) else (none)) else (none)) else (none)) else (none)) else (none)) else (none)) else (none)) else (none)) else (none)) = some r := h
 clear h
 obtain ⟨ji2, hji2⟩ : ∃ j_ : Int, (Int.tmod (wrap64 (Int.tdiv a0 100)) 10) = j_ := ⟨_, rfl⟩
 replace H : (if 0 ≤ (ji2) then (if (ji2) ≤ (wrap64 ((ji2) + 1)) then (if (wrap64 ((ji2) + 1)) ≤ 10 then (if 0 ≤ (Int.tmod (wrap64 (Int.tdiv a0 10)) 10) then (if (Int.tmod (wrap64 (Int.tdiv a0 10)) 10) ≤ (wrap64 ((Int.tmod (wrap64 (Int.tdiv a0 10)) 10) + 1)) then (if (wrap64 ((Int.tmod (wrap64 (Int.tdiv a0 10)) 10) + 1)) ≤ 10 then (if ((⟨#[48, 49, 50, 51, 52, 53, 54, 55, 56, 57]⟩ : ByteArray).extract ((ji2) : Int).toNat ((wrap64 ((ji2) + 1)) : Int).toNat).size + ((⟨#[48, 49, 50, 51, 52, 53, 54, 55, 56, 57]⟩ : ByteArray).extract ((Int.tmod (wrap64 (Int.tdiv a0 10)) 10) : Int).toNat ((wrap64 ((Int.tmod (wrap64 (Int.tdiv a0 10)) 10) + 1)) : Int).toNat).size ≤ 9223372036854775807 then (if 0 ≤ (Int.tmod a0 10) then (if (Int.tmod a0 10) ≤ (wrap64 ((Int.tmod a0 10) + 1)) then (if (wrap64 ((Int.tmod a0 10) + 1)) ≤ 10 then (if (((⟨#[48, 49, 50, 51, 52, 53, 54, 55, 56, 57]⟩ : ByteArray).extract ((ji2) : Int).toNat ((wrap64 ((ji2) + 1)) : Int).toNat) ++ ((⟨#[48, 49, 50, 51, 52, 53, 54, 55, 56, 57]⟩ : ByteArray).extract ((Int.tmod (wrap64 (Int.tdiv a0 10)) 10) : Int).toNat ((wrap64 ((Int.tmod (wrap64 (Int.tdiv a0 10)) 10) + 1)) : Int).toNat)).size + ((⟨#[48, 49, 50, 51, 52, 53, 54, 55, 56, 57]⟩ : ByteArray).extract ((Int.tmod a0 10) : Int).toNat ((wrap64 ((Int.tmod a0 10) + 1)) : Int).toNat).size ≤ 9223372036854775807 then (some ((((⟨#[48, 49, 50, 51, 52, 53, 54, 55, 56, 57]⟩ : ByteArray).extract ((ji2) : Int).toNat ((wrap64 ((ji2) + 1)) : Int).toNat) ++ ((⟨#[48, 49, 50, 51, 52, 53, 54, 55, 56, 57]⟩ : ByteArray).extract ((Int.tmod (wrap64 (Int.tdiv a0 10)) 10) : Int).toNat ((wrap64 ((Int.tmod (wrap64 (Int.tdiv a0 10)) 10) + 1)) : Int).toNat)) ++ ((⟨#[48, 49, 50, 51, 52, 53, 54, 55, 56, 57]⟩ : ByteArray).extract ((Int.tmod a0 10) : Int).toNat ((wrap64 ((Int.tmod a0 10) + 1)) : Int).toNat))) else (none)) else (none)) else (none)) else (none)) else (none)) else (none)) else (none)) else (none)) else (none)) else (none)) else (none)) = some r := by first | (rw [hji2] at H; exact H) | (simp only [hji2] at H ⊢; exact H)
 by_cases c3 : 0 ≤ (ji2)
 ·rw [if_pos c3] at H
  have c3b0 := eq_true c3
  have c3b1 : decide (0 ≤ (ji2)) = true := decide_eq_true c3
  clear c3
  by_cases c4 : (ji2) ≤ (wrap64 ((ji2) + 1))
  ·rw [if_pos c4] at H
   have c4b0 := eq_true c4
   have c4b1 : decide ((ji2) ≤ (wrap64 ((ji2) + 1))) = true := decide_eq_true c4
   by_cases c5 : (wrap64 ((ji2) + 1)) ≤ 10
   ·rw [if_pos c5] at H
    have c5b0 := eq_true c5
    have c5b1 : decide ((wrap64 ((ji2) + 1)) ≤ 10) = true := decide_eq_true c5
    obtain ⟨ji6, hji6⟩ : ∃ j_ : Int, (Int.tmod (wrap64 (Int.tdiv a0 10)) 10) = j_ := ⟨_, rfl⟩
    replace H : (if 0 ≤ (ji6) then (if (ji6) ≤ (wrap64 ((ji6) + 1)) then (if (wrap64 ((ji6) + 1)) ≤ 10 then (if ((⟨#[48, 49, 50, 51, 52, 53, 54, 55, 56, 57]⟩ : ByteArray).extract ((ji2) : Int).toNat ((wrap64 ((ji2) + 1)) : Int).toNat).size + ((⟨#[48, 49, 50, 51, 52, 53, 54, 55, 56, 57]⟩ : ByteArray).extract ((ji6) : Int).toNat ((wrap64 ((ji6) + 1)) : Int).toNat).size ≤ 9223372036854775807 then (if 0 ≤ (Int.tmod a0 10) then (if (Int.tmod a0 10) ≤ (wrap64 ((Int.tmod a0 10) + 1)) then (if (wrap64 ((Int.tmod a0 10) + 1)) ≤ 10 then (if (((⟨#[48, 49, 50, 51, 52, 53, 54, 55, 56, 57]⟩ : ByteArray).extract ((ji2) : Int).toNat ((wrap64 ((ji2) + 1)) : Int).toNat) ++ ((⟨#[48, 49, 50, 51, 52, 53, 54, 55, 56, 57]⟩ : ByteArray).extract ((ji6) : Int).toNat ((wrap64 ((ji6) + 1)) : Int).toNat)).size + ((⟨#[48, 49, 50, 51, 52, 53, 54, 55, 56, 57]⟩ : ByteArray).extract ((Int.tmod a0 10) : Int).toNat ((wrap64 ((Int.tmod a0 10) + 1)) : Int).toNat).size ≤ 9223372036854775807 then (some ((((⟨#[48, 49, 50, 51, 52, 53, 54, 55, 56, 57]⟩ : ByteArray).extract ((ji2) : Int).toNat ((wrap64 ((ji2) + 1)) : Int).toNat) ++ ((⟨#[48, 49, 50, 51, 52, 53, 54, 55, 56, 57]⟩ : ByteArray).extract ((ji6) : Int).toNat ((wrap64 ((ji6) + 1)) : Int).toNat)) ++ ((⟨#[48, 49, 50, 51, 52, 53, 54, 55, 56, 57]⟩ : ByteArray).extract ((Int.tmod a0 10) : Int).toNat ((wrap64 ((Int.tmod a0 10) + 1)) : Int).toNat))) else (none)) else (none)) else (none)) else (none)) else (none)) else (none)) else (none)) else (none)) = some r := by first | (rw [hji6] at H; exact H) | (simp only [hji6] at H ⊢; exact H)
    by_cases c7 : 0 ≤ (ji6)
    ·rw [if_pos c7] at H
     have c7b0 := eq_true c7
     have c7b1 : decide (0 ≤ (ji6)) = true := decide_eq_true c7
     clear c7
     by_cases c8 : (ji6) ≤ (wrap64 ((ji6) + 1))
     ·rw [if_pos c8] at H
      have c8b0 := eq_true c8
      have c8b1 : decide ((ji6) ≤ (wrap64 ((ji6) + 1))) = true := decide_eq_true c8
      by_cases c9 : (wrap64 ((ji6) + 1)) ≤ 10
      ·rw [if_pos c9] at H
       have c9b0 := eq_true c9
       have c9b1 : decide ((wrap64 ((ji6) + 1)) ≤ 10) = true := decide_eq_true c9
       by_cases c10 : ((⟨#[48, 49, 50, 51, 52, 53, 54, 55, 56, 57]⟩ : ByteArray).extract ((ji2) : Int).toNat ((wrap64 ((ji2) + 1)) : Int).toNat).size + ((⟨#[48, 49, 50, 51, 52, 53, 54, 55, 56, 57]⟩ : ByteArray).extract ((ji6) : Int).toNat ((wrap64 ((ji6) + 1)) : Int).toNat).size ≤ 9223372036854775807
       ·rw [if_pos c10] at H
        have c10b0 := eq_true c10
        have c10b1 : decide (((⟨#[48, 49, 50, 51, 52, 53, 54, 55, 56, 57]⟩ : ByteArray).extract ((ji2) : Int).toNat ((wrap64 ((ji2) + 1)) : Int).toNat).size + ((⟨#[48, 49, 50, 51, 52, 53, 54, 55, 56, 57]⟩ : ByteArray).extract ((ji6) : Int).toNat ((wrap64 ((ji6) + 1)) : Int).toNat).size ≤ 9223372036854775807) = true := decide_eq_true c10
        try have c10b2 : (9223372036854775807 < ((⟨#[48, 49, 50, 51, 52, 53, 54, 55, 56, 57]⟩ : ByteArray).extract ((ji2) : Int).toNat ((wrap64 ((ji2) + 1)) : Int).toNat).size + ((⟨#[48, 49, 50, 51, 52, 53, 54, 55, 56, 57]⟩ : ByteArray).extract ((ji6) : Int).toNat ((wrap64 ((ji6) + 1)) : Int).toNat).size) = False := eq_false (Nat.not_lt.2 c10)
        obtain ⟨ji11, hji11⟩ : ∃ j_ : Int, (Int.tmod a0 10) = j_ := ⟨_, rfl⟩
        replace H : (if 0 ≤ (ji11) then (if (ji11) ≤ (wrap64 ((ji11) + 1)) then (if (wrap64 ((ji11) + 1)) ≤ 10 then (if (((⟨#[48, 49, 50, 51, 52, 53, 54, 55, 56, 57]⟩ : ByteArray).extract ((ji2) : Int).toNat ((wrap64 ((ji2) + 1)) : Int).toNat) ++ ((⟨#[48, 49, 50, 51, 52, 53, 54, 55, 56, 57]⟩ : ByteArray).extract ((ji6) : Int).toNat ((wrap64 ((ji6) + 1)) : Int).toNat)).size + ((⟨#[48, 49, 50, 51, 52, 53, 54, 55, 56, 57]⟩ : ByteArray).extract ((ji11) : Int).toNat ((wrap64 ((ji11) + 1)) : Int).toNat).size ≤ 9223372036854775807 then (some ((((⟨#[48, 49, 50, 51, 52, 53, 54, 55, 56, 57]⟩ : ByteArray).extract ((ji2) : Int).toNat ((wrap64 ((ji2) + 1)) : Int).toNat) ++ ((⟨#[48, 49, 50, 51, 52, 53, 54, 55, 56, 57]⟩ : ByteArray).extract ((ji6) : Int).toNat ((wrap64 ((ji6) + 1)) : Int).toNat)) ++ ((⟨#[48, 49, 50, 51, 52, 53, 54, 55, 56, 57]⟩ : ByteArray).extract ((ji11) : Int).toNat ((wrap64 ((ji11) + 1)) : Int).toNat))) else (none)) else (none)) else (none)) else (none)) = some r := by first | (rw [hji11] at H; exact H) | (simp only [hji11] at H ⊢; exact H)
        by_cases c12 : 0 ≤ (ji11)
        ·rw [if_pos c12] at H
         have c12b0 := eq_true c12
         have c12b1 : decide (0 ≤ (ji11)) = true := decide_eq_true c12
         clear c12
         by_cases c13 : (ji11) ≤ (wrap64 ((ji11) + 1))
         ·rw [if_pos c13] at H
          have c13b0 := eq_true c13
          have c13b1 : decide ((ji11) ≤ (wrap64 ((ji11) + 1))) = true := decide_eq_true c13
          by_cases c14 : (wrap64 ((ji11) + 1)) ≤ 10
          ·rw [if_pos c14] at H
           have c14b0 := eq_true c14
           have c14b1 : decide ((wrap64 ((ji11) + 1)) ≤ 10) = true := decide_eq_true c14
           by_cases c15 : (((⟨#[48, 49, 50, 51, 52, 53, 54, 55, 56, 57]⟩ : ByteArray).extract ((ji2) : Int).toNat ((wrap64 ((ji2) + 1)) : Int).toNat) ++ ((⟨#[48, 49, 50, 51, 52, 53, 54, 55, 56, 57]⟩ : ByteArray).extract ((ji6) : Int).toNat ((wrap64 ((ji6) + 1)) : Int).toNat)).size + ((⟨#[48, 49, 50, 51, 52, 53, 54, 55, 56, 57]⟩ : ByteArray).extract ((ji11) : Int).toNat ((wrap64 ((ji11) + 1)) : Int).toNat).size ≤ 9223372036854775807
           ·rw [if_pos c15] at H
            have c15b0 := eq_true c15
            have c15b1 : decide ((((⟨#[48, 49, 50, 51, 52, 53, 54, 55, 56, 57]⟩ : ByteArray).extract ((ji2) : Int).toNat ((wrap64 ((ji2) + 1)) : Int).toNat) ++ ((⟨#[48, 49, 50, 51, 52, 53, 54, 55, 56, 57]⟩ : ByteArray).extract ((ji6) : Int).toNat ((wrap64 ((ji6) + 1)) : Int).toNat)).size + ((⟨#[48, 49, 50, 51, 52, 53, 54, 55, 56, 57]⟩ : ByteArray).extract ((ji11) : Int).toNat ((wrap64 ((ji11) + 1)) : Int).toNat).size ≤ 9223372036854775807) = true := decide_eq_true c15
            try have c15b2 : (9223372036854775807 < (((⟨#[48, 49, 50, 51, 52, 53, 54, 55, 56, 57]⟩ : ByteArray).extract ((ji2) : Int).toNat ((wrap64 ((ji2) + 1)) : Int).toNat) ++ ((⟨#[48, 49, 50, 51, 52, 53, 54, 55, 56, 57]⟩ : ByteArray).extract ((ji6) : Int).toNat ((wrap64 ((ji6) + 1)) : Int).toNat)).size + ((⟨#[48, 49, 50, 51, 52, 53, 54, 55, 56, 57]⟩ : ByteArray).extract ((ji11) : Int).toNat ((wrap64 ((ji11) + 1)) : Int).toNat).size) = False := eq_false (Nat.not_lt.2 c15)
            obtain rfl := Option.some.inj H
            go_enter Try.func86, Try.ntmps86
            go_wp2
            repeat (go_quiet (fail); try go_wp2)
            go_ret
            exact ⟨by first | rfl | (simp; done) | (simp only [← hji2, ← hji6, ← hji11] <;> (first | rfl | simp)) | (simp [*]; done), by repeat (first | exact Drawn0.refl _ | apply Drawn0.step)⟩
           ·rw [if_neg c15] at H
            exact absurd H (by simp)
          ·rw [if_neg c14] at H
           exact absurd H (by simp)
         ·rw [if_neg c13] at H
          exact absurd H (by simp)
        ·rw [if_neg c12] at H
         exact absurd H (by simp)
       ·rw [if_neg c10] at H
        exact absurd H (by simp)
      ·rw [if_neg c9] at H
       exact absurd H (by simp)
     ·rw [if_neg c8] at H
      exact absurd H (by simp)
    ·rw [if_neg c7] at H
     exact absurd H (by simp)
   ·rw [if_neg c5] at H
    exact absurd H (by simp)
  ·rw [if_neg c4] at H
   exact absurd H (by simp)
 ·rw [if_neg c3] at H
  exact absurd H (by simp)

end Go.Proofs.Ytbppijlcmeidaaa.P
end

/- Texts of the claim FnSynced, part 25 of 34, joined: Pimpltotal, MWalkValid, MFind, MFsFind, MClone, MBegin, MSync, MRes, MAppend. No condition beyond those that stand at each. -/
import Derived.Test.YtbppijlcmeidaaaZFnSynced24
import Derived.Deep.QuietTactic
import Derived.BigQuiet
import Derived.WalkLawsBesides
import Derived.WalkSpells
import Derived.Deep.LoopGhost
import Derived.RegionTactic
import Derived.ChangeAlike
import Derived.BigRegion
section
-- Written by a changed copy of the print program, one module a function. Not trusted: Lean checks it.
namespace Go.Proofs.Ytbppijlcmeidaaa.P
open Go.RowKit Go.Proofs.YtbppijlcmeidaaaW.PrintWords Go.Proofs.YtbppijlcmeidaaaW.PrintLast Go.Proofs.YtbppijlcmeidaaaW.PrintMore
attribute [local go_sem] max2_int min2_int max_two min_two max_three min_three max_four min_four   -- for this text's walks alone
set_option linter.unusedVariables false
set_option linter.unusedSimpArgs false

/-! ### impl_total: function 45 -/
def impl_total.l0 : Nat → Int → List (S52) → Int → Int → Option (Int)
 | 0, _, _, _, _ => none
 | k + 1, x3, x7, x8, x9 => if x9 < x8 then (if 0 ≤ x9 then (if x9 < (x7.length : Int) then (impl_total.l0 k (wrap64 (x3 + (((rd_T52 x7 x9).f1).size : Int))) x7 x8 (wrap64 (x9 + 1))) else (none)) else (none)) else (some x3)
def impl_total.f (k : Nat) (l0_0 : List (S52)) (a0_1 : Int) (a0_2 : Int) : Option (Int) := impl_total.l0 k 0 l0_0 (l0_0.length : Int) 0
theorem impl_total.mono_l : ∀ k, (∀ y0 y1 y2 y3, LeO (impl_total.l0 k y0 y1 y2 y3) (impl_total.l0 (k + 1) y0 y1 y2 y3))
 | 0 => fun _ _ _ _ r h => by simp [impl_total.l0] at h
 | k + 1 => by
  have ih0 := impl_total.mono_l k
  ·intro y0 y1 y2 y3
   unfold impl_total.l0
   repeat' first
   | (with_reducible exact ih0 _ _ _ _)
   | (with_reducible exact LeO.refl _)
   | (with_reducible exact LeO.none _)
   | (with_reducible refine LeO.ite ?_ ?_)
   | (with_reducible refine LeO.bind ?_ (fun _ => ?_))
   | exact ih0 _ _ _ _
   | exact LeO.none _
   | refine LeO.ite ?_ ?_
   | refine LeO.bind ?_ (fun _ => ?_)
theorem impl_total.mono : ∀ a0 a1 a2 k, LeO (impl_total.f k a0 a1 a2) (impl_total.f (k + 1) a0 a1 a2) := by
 intro a0 a1 a2 k
 have ih0 := impl_total.mono_l k
 unfold impl_total.f
 repeat' first
   | (with_reducible exact ih0 _ _ _ _)
   | (with_reducible exact LeO.refl _)
   | (with_reducible exact LeO.none _)
   | (with_reducible refine LeO.ite ?_ ?_)
   | (with_reducible refine LeO.bind ?_ (fun _ => ?_))
   | exact ih0 _ _ _ _
   | exact LeO.none _
   | refine LeO.ite ?_ ?_
   | refine LeO.bind ?_ (fun _ => ?_)
set_option maxHeartbeats 8000000 in
set_option maxRecDepth 100000 in
theorem impl_total.calls (k : Nat) (A0_0 : Option Addr) (c0_0 : Nat) (l0_0 : List (S52)) (a0_1 : Int) (a0_2 : Int) (r : Int) (w : World) (hr0_0 : Kd.C k52 w A0_0 l0_0.length l0_0) (hc0_0 : l0_0.length ≤ c0_0) (h : impl_total.f k l0_0 a0_1 a0_2 = some r) :
  Calls Try.prog 45 #[.agg #[.slice A0_0 l0_0.length c0_0, .int .i64 a0_1, .int .i64 a0_2]] w fun e w' => e = .returned (.int .i64 r) ∧ Below w.heap.size w w' := by
 have hu29 := Try.underlying29
 have hu52 := Try.underlying52
 have HR0_0 := Aside0.mk hr0_0
 have HC0_0 := Aside0.mk hc0_0
 clear hr0_0 hc0_0
 have HB := Aside0.mk (Below.refl w.heap.size w)
 have H : (impl_total.l0 k 0 l0_0 (l0_0.length : Int) 0) = some r := h
 clear h
 have H' := Aside0.mk H
 clear H
 go_enter Try.func45, Try.ntmps45
 go_wp2_with (first | ((with_reducible refine gate_dst (N := 1) rfl ?_); refine box_event ?hg (N := 1) ?hd (cs := #[.slice A0_0 l0_0.length c0_0, .int .i64 a0_1, .int .i64 a0_2]) (t := 29) ?hr ?_; (case hd => rfl); (case hg => rfl); (case hr => first | (go_simp; done) | (go_simp; rfl)); intro gb132 hg w2 hbox hb; have n0_ := Aside0.mk (below_step (by repeat (first | (with_reducible first | exact HB.out | apply below_alloc | apply pw_below_drewN | apply below_drew1) | exact HB.out)) hb); have n1_ := Aside0.mk (hbox); have n2_ := Aside0.mk ((by rw [hg]; exact (below_size (by repeat (first | (with_reducible first | exact HB.out | apply below_alloc | apply pw_below_drewN | apply below_drew1) | exact HB.out))) : w.heap.size ≤ gb132)); have n3_ := Aside0.mk ((by rw [hg]; exact (below_size (by repeat (first | (with_reducible first | exact HB.out | apply below_alloc | apply pw_below_drewN | apply below_drew1) | exact HB.out))) : w.heap.size ≤ gb132)); clear HB; have HB := n0_; have BK132 := n1_; have GW132 := n2_; have GE132 := n3_; clear n0_ n1_ n2_ n3_; clear hb hbox hg; have hcz3_0 : w2.cell? ⟨gb132, 0, none⟩ = some (.slice A0_0 l0_0.length c0_0) := (blk_cell BK132.out 0).trans rfl; have hcz3_1 : w2.cell? ⟨gb132, 1, none⟩ = some (.int .i64 a0_1) := (blk_cell BK132.out 1).trans rfl; have hcz3_2 : w2.cell? ⟨gb132, 2, none⟩ = some (.int .i64 a0_2) := (blk_cell BK132.out 2).trans rfl; have hfz3_0 := blk_frozen BK132.out 0; have hfz3_1 := blk_frozen BK132.out 1; have hfz3_2 := blk_frozen BK132.out 2))
 go_loopg [3, 9] k (fun kq v3 v9 w' => ∃ (x3_1 : Int) (x9_1 : Int), v3 = .int .i64 x3_1 ∧ v9 = .int .i64 x9_1 ∧ Aside0 (impl_total.l0 kq x3_1 l0_0 (l0_0.length : Int) x9_1 = some r) ∧ Aside0 (kq ≤ k) ∧ Aside0 (w'.heap[gb132]? = some (.cells #[(.slice A0_0 l0_0.length c0_0), .int .i64 a0_1, .int .i64 a0_2] 29 (0, 0))) ∧ Aside0 (Below w.heap.size w w'))
 case atStart => exact ⟨(0), (0), (by first | rfl | (simp; done) | (simp [*]; done)), (by first | rfl | (simp; done) | (simp [*]; done)), H', ⟨Nat.le_refl _⟩, ⟨by (with_reducible repeat (first | refine blk_drewN ?_ _ | refine blk_drew ?_ | refine blk_alloc ?_ _)); exact BK132.out⟩, ⟨by repeat (first | (with_reducible first | exact HB.out | apply below_alloc | apply pw_below_drewN | apply below_drew1 | refine below_set ?_ GE132.out) | exact HB.out)⟩⟩
 case round =>
  clear H'
  try clear p2
  try clear hcz3_0
  try clear hcz3_1
  try clear hcz3_2
  try clear hfz3_0
  try clear hfz3_1
  try clear hfz3_2
  obtain ⟨x3_1, x9_1, rfl, rfl, HA, HK1, BK132, HB⟩ := hrel
  cases gk with
  | zero => exact absurd HA.out (by simp [impl_total.l0])
  | succ k1 =>
   have H := HA.out
   clear HA
   simp only [impl_total.l0] at H
   by_cases c4 : x9_1 < (l0_0.length : Int)
   ·rw [if_pos c4] at H
    have c4b0 : decide (x9_1 < (l0_0.length : Int)) = true := decide_eq_true c4
    clear c4
    by_cases c5 : 0 ≤ x9_1
    ·rw [if_pos c5] at H
     have c5b0 : decide (0 ≤ x9_1) = true := decide_eq_true c5
     clear c5
     by_cases c6 : x9_1 < (l0_0.length : Int)
     ·rw [if_pos c6] at H
      have c6b0 : decide (x9_1 < (l0_0.length : Int)) = true := decide_eq_true c6
      clear c6
      have H' := Aside0.mk H
      clear H
      have p133 : 0 ≤ (x9_1 : Int) := of_decide_eq_true (by first | (with_reducible assumption) | assumption)
      have q133 : x9_1 < (l0_0.length : Int) := of_decide_eq_true (by first | (with_reducible assumption) | assumption)
      obtain ⟨ad133, e133, hx133_0, hx133_1, hx133_2⟩ := at_T52 HR0_0.out x9_1 p133 q133
      cases e133
      replace hx133_0 := (HB.out.cell (World.block_lt_of_cell? w _ hx133_0)).trans hx133_0
      replace hx133_1 := (HB.out.cell (World.block_lt_of_cell? w _ hx133_1)).trans hx133_1
      replace hx133_2 := (HB.out.cell (World.block_lt_of_cell? w _ hx133_2)).trans hx133_2
      replace p133 := eq_true p133
      replace q133 := eq_true q133
      go_wp2_with (first | ((with_reducible refine gate_dst (N := 5) rfl ?_); refine box_event ?hg (N := 5) ?hd (cs := #[.string (⟨#[]⟩ : ByteArray), .string (⟨#[]⟩ : ByteArray), .int .i64 0]) (t := 52) ?hr ?_; (case hd => rfl); (case hg => rfl); (case hr => first | (go_simp; done) | (go_simp; rfl)); intro gb134 hg w7 hbox hb; have n0_ := Aside0.mk (blk_below (g := gb132) (o := .cells #[.slice (some ad133) l0_0.length c0_0, .int .i64 a0_1, .int .i64 a0_2] 29 (0, 0)) (by (with_reducible repeat (first | refine blk_drewN ?_ _ | refine blk_drew ?_ | refine blk_alloc ?_ _)); exact BK132.out) hb); have n1_ := Aside0.mk (below_step (by repeat (first | (with_reducible first | exact HB.out | apply below_alloc | apply pw_below_drewN | apply below_drew1 | refine below_set ?_ GE132.out) | exact HB.out)) hb); have n2_ := Aside0.mk (hbox); have n3_ := Aside0.mk ((by rw [hg]; exact (below_size (by repeat (first | (with_reducible first | exact HB.out | apply below_alloc | apply pw_below_drewN | apply below_drew1 | refine below_set ?_ GE132.out) | exact HB.out))) : w.heap.size ≤ gb134)); have n4_ := Aside0.mk ((by rw [hg]; exact (below_size (by repeat (first | (with_reducible first | exact HB.out | apply below_alloc | apply pw_below_drewN | apply below_drew1 | refine below_set ?_ GE132.out) | exact HB.out))) : w.heap.size ≤ gb134)); have n5_ := Aside0.mk ((by rw [hg]; exact Nat.ne_of_lt (blk_lt (g := gb132) (o := .cells #[.slice (some ad133) l0_0.length c0_0, .int .i64 a0_1, .int .i64 a0_2] 29 (0, 0)) (by (with_reducible repeat (first | refine blk_drewN ?_ _ | refine blk_drew ?_ | refine blk_alloc ?_ _)); exact BK132.out)) : gb132 ≠ gb134)); have n6_ := Aside0.mk ((by rw [hg]; exact Nat.ne_of_gt (blk_lt (g := gb132) (o := .cells #[.slice (some ad133) l0_0.length c0_0, .int .i64 a0_1, .int .i64 a0_2] 29 (0, 0)) (by (with_reducible repeat (first | refine blk_drewN ?_ _ | refine blk_drew ?_ | refine blk_alloc ?_ _)); exact BK132.out)) : gb134 ≠ gb132)); clear BK132; clear HB; have BK132 := n0_; have HB := n1_; have BK134 := n2_; have GW134 := n3_; have GE134 := n4_; have NB132_134 := n5_; have NB134_132 := n6_; clear n0_ n1_ n2_ n3_ n4_ n5_ n6_; clear hb hbox hg; have hnb8 := NB134_132.out; have hnc8 := NB132_134.out; have hcz9_0 : w7.cell? ⟨gb134, 0, none⟩ = some (.string (⟨#[]⟩ : ByteArray)) := (blk_cell BK134.out 0).trans rfl; have hcz9_1 : w7.cell? ⟨gb134, 1, none⟩ = some (.string (⟨#[]⟩ : ByteArray)) := (blk_cell BK134.out 1).trans rfl; have hcz9_2 : w7.cell? ⟨gb134, 2, none⟩ = some (.int .i64 0) := (blk_cell BK134.out 2).trans rfl; have hfz9_0 := blk_frozen BK134.out 0; have hfz9_1 := blk_frozen BK134.out 1; have hfz9_2 := blk_frozen BK134.out 2))
      go_roundg k1
      case measure => have := HK1.out; omega
      case rel => exact ⟨(wrap64 (x3_1 + (((rd_T52 l0_0 x9_1).f1).size : Int))), (wrap64 (x9_1 + 1)), (by first | rfl | (simp; done) | (simp [*]; done)), (by first | rfl | (simp; done) | (simp [*]; done)), H', ⟨by have := HK1.out; omega⟩, ⟨by (with_reducible repeat (first | refine blk_drewN ?_ _ | refine blk_drew ?_ | refine blk_alloc ?_ _)); refine blk_far ?_ NB132_134.out _; (with_reducible repeat (first | refine blk_drewN ?_ _ | refine blk_drew ?_ | refine blk_alloc ?_ _)); refine blk_far ?_ NB132_134.out _; (with_reducible repeat (first | refine blk_drewN ?_ _ | refine blk_drew ?_ | refine blk_alloc ?_ _)); refine blk_far ?_ NB132_134.out _; (with_reducible repeat (first | refine blk_drewN ?_ _ | refine blk_drew ?_ | refine blk_alloc ?_ _)); exact BK132.out⟩, ⟨by repeat (first | (with_reducible first | exact HB.out | apply below_alloc | apply pw_below_drewN | apply below_drew1 | refine below_set ?_ GE132.out | refine below_set ?_ GE134.out) | exact HB.out)⟩⟩
     ·rw [if_neg c6] at H
      exact absurd H (by simp)
    ·rw [if_neg c5] at H
     exact absurd H (by simp)
   ·rw [if_neg c4] at H
    have c4b0 : decide (x9_1 < (l0_0.length : Int)) = false := decide_eq_false c4
    clear c4
    obtain rfl := Option.some.inj H
    go_wp2
    go_ret
    exact ⟨by first | rfl | (simp [errW_none, errW_some] <;> rfl) | (simp [*, errW_none, errW_some] <;> rfl), by repeat (first | (with_reducible first | exact HB.out | apply below_alloc | apply pw_below_drewN | apply below_drew1 | refine below_set ?_ GE132.out) | exact HB.out)⟩

end Go.Proofs.Ytbppijlcmeidaaa.P
end
section
/- The program's ValidFS, walked: it answers validB of the directory. Condition: the sizes of the Data add up to a number of 63 bits. -/
namespace Go.Proofs.Ytbppijlcmeidaaa.M
open Go.RowKit Go.Proofs.Ytbppijlcmeidaaa.P Go.Proofs.YtbppijlcmeidaaaW.PrintWords Go.Proofs.YtbppijlcmeidaaaW.PrintLast Go.Proofs.YtbppijlcmeidaaaW.PrintMore
set_option linter.unusedVariables false

theorem dec_size (s : ByteArray) (n : Nat) : decide ((s.size : Int) ≤ (n : Int)) = decide (s.size ≤ n) := by
  by_cases c : s.size ≤ n
  · rw [decide_eq_true c, decide_eq_true (by omega)]
  · rw [decide_eq_false c, decide_eq_false (by omega)]
theorem dec_nat (m n : Nat) : decide ((m : Int) ≤ (n : Int)) = decide (m ≤ n) := by
  by_cases c : m ≤ n
  · rw [decide_eq_true c, decide_eq_true (by omega)]
  · rw [decide_eq_false c, decide_eq_false (by omega)]
theorem ret_bool {a b : Bool} (h : a = b) : Ending.returned (.bool a) = Ending.returned (.bool b) := by rw [h]
theorem nameFine_any (s : ByteArray) (w : World) : Calls Try.prog 44 #[.string s] w fun e w' => e = .returned (.bool (nameOk s)) ∧ w' = w := by
  unfold nameOk
  by_cases c1 : 1 ≤ s.size
  · rw [decide_eq_true c1, Bool.true_and]
    have h1 : decide (1 ≤ s.size) = true := decide_eq_true c1
    go_enter Try.func44, Try.ntmps44
    go_wp2
    go_ret
    exact ⟨ret_bool (dec_size s 120), rfl⟩
  · rw [decide_eq_false c1, Bool.false_and]
    have h1 : decide (1 ≤ s.size) = false := decide_eq_false c1
    go_enter Try.func44, Try.ntmps44
    go_wp2
    go_ret
    exact ⟨rfl, rfl⟩
theorem nameFine_yes (s : ByteArray) (w : World) (h : nameOk s = true) : Calls Try.prog 44 #[.string s] w fun e w' => e = .returned (.bool true) ∧ w' = w := by
  have := nameFine_any s w
  rwa [h] at this
theorem nameFine_no (s : ByteArray) (w : World) (h : nameOk s = false) : Calls Try.prog 44 #[.string s] w fun e w' => e = .returned (.bool false) ∧ w' = w := by
  have := nameFine_any s w
  rwa [h] at this

theorem rdi52 (l : List S52) (i : Int) (h0 : 0 ≤ i) (h : i < (l.length : Int)) : rd_T52 l i = l[i.toNat]'(by omega) := by
  unfold rd_T52; exact getD_at l i.toNat z52 (by omega)
theorem okStep (l : List S52) (i : Int) (h0 : 0 ≤ i) (h : i < (l.length : Int)) : okFrom (prev l i.toNat) (l.drop i.toNat) = (fileOk (rd_T52 l i) && (match prev l i.toNat with | none => true | some b => lss b (rd_T52 l i).f0) && okFrom (prev l (i + 1).toNat) (l.drop (i + 1).toNat)) := by
  rw [rdi52 l i h0 h, drop_at l i.toNat (by omega), okFrom_cons, show (i + 1).toNat = i.toNat + 1 by omega, prev_succ l i.toNat (by omega)]
  cases prev l i.toNat <;> rfl
theorem prev_pos (l : List S52) (i : Int) (h0 : 0 < i) (h : i < (l.length : Int)) : prev l i.toNat = some (rd_T52 l (i - 1)).f0 := by
  rw [rdi52 l (i - 1) (by omega) (by omega)]
  unfold prev
  rw [if_neg (by omega), getD_at l (i.toNat - 1) z52 (by omega)]
  congr 3
  omega
theorem total_call (l : List S52) (A : Option Addr) (c : Nat) (q f : Int) (w : World) (hr : Kd.C k52 w A l.length l) (hc : l.length ≤ c) (ht : total l ≤ 9223372036854775000) (hl : l.length ≤ 200) :
    Calls Try.prog 45 #[.agg #[.slice A l.length c, .int .i64 q, .int .i64 f]] w fun e w' => e = .returned (.int .i64 (total l : Int)) ∧ Below w.heap.size w w' := by
  have h : ∀ d i : Nat, i + d = l.length → Ev (fun k => impl_total.l0 k (total (l.take i) : Int) l (l.length : Int) (i : Int)) (total l : Int) := by
    intro d
    induction d with
    | zero =>
      intro i hi
      refine Ev.step (f := fun _ => some (total (l.take i) : Int)) (fun k => ?_) ?_
      · rw [impl_total.l0, if_neg (by omega)]
      · rw [List.take_of_length_le (by omega)]; exact Ev.now _
    | succ d ih =>
      intro i hi
      have hlt : i < l.length := by omega
      have h1 := total_take_succ l i hlt
      have h2 := total_take_le l (i + 1)
      refine Ev.step (fun k => ?_) (ih (i + 1) (by omega))
      rw [impl_total.l0, if_pos (by omega), if_pos (by omega), if_pos (by omega), rd52 l i hlt, wrap_succ (by omega), wrap_ok (by omega) (by omega), h1]
      rfl
  obtain ⟨k, hk⟩ := Ev.rounds (h l.length 0 (by omega))
  exact impl_total.calls k A c l q f (total l : Int) w hr hc hk

/-- What a round of the loop needs of the world. -/
def VInv (w wr : World) (A : Option Addr) (c : Nat) (l : List S52) (q f : Int) : Prop :=
  wr.heap[w.heap.size]? = some (.cells #[.slice A l.length c, .int .i64 q, .int .i64 f] 29 (0, 0)) ∧ Below w.heap.size w wr
theorem vinv_next {w wr : World} {A : Option Addr} {c : Nat} {l : List S52} {q f : Int} (h : VInv w wr A c l q f) (o : Obj) (n : Nat) : VInv w ((wr.alloc o).drewN n) A c l q f :=
  ⟨blk_drewN (blk_alloc h.1 _) _, pw_below_drewN (h.2.alloc h.2.size _) _⟩

set_option maxHeartbeats 4000000 in
set_option maxRecDepth 100000 in
theorem valid_walk (A : Option Addr) (c : Nat) (l : List S52) (q f : Int) (w : World) (hr : Kd.C k52 w A l.length l) (hc : l.length ≤ c) (h1 : l.length ≤ 200) (h2 : 0 ≤ q) (h3 : q ≤ 1048576) (h4 : -1 ≤ f) (ht : total l ≤ 9223372036854775000) :
    Calls Try.prog 15 #[.agg #[.slice A l.length c, .int .i64 q, .int .i64 f]] w fun e w' => e = .returned (.bool (okFrom none l && decide (total l ≤ 1048576))) ∧ Below w.heap.size w w' := by
  have HR := Aside0.mk hr
  have HT := Aside0.mk ht
  clear hr ht
  have hu29 := Try.underlying29
  have hu52 := Try.underlying52
  generalize hVV : (okFrom none l && decide (total l ≤ 1048576)) = VV
  have HVV := Aside0.mk hVV
  clear hVV
  go_enter Try.func15, Try.ntmps15
  go_wp2
  go_loopw [27] (fun v wr => ∃ i : Int, 0 ≤ i ∧ i ≤ (l.length : Int) ∧ v = .int .i64 i ∧ Aside0 (VInv w wr A c l q f) ∧ Aside0 (VV = (okFrom (prev l i.toNat) (l.drop i.toNat) && decide (total l ≤ 1048576)))) (fun v _ => l.length - (intOf v).toNat)
  case atStart => exact ⟨0, by omega, by omega, rfl, ⟨heap_alloc_new _ _, (Below.refl _ _).alloc (Nat.le_refl _) _⟩, ⟨HVV.out.symm⟩⟩
  case round =>
    obtain ⟨i, hi0, hi1, rfl, HI, HV⟩ := hrel
    by_cases hlt : i < (l.length : Int)
    · obtain ⟨ad, hA, hx0, hx1, hx2⟩ := at_T52 HR.out i hi0 hlt
      have hx0 := (HI.out.2.cell (World.block_lt_of_cell? w _ hx0)).trans hx0
      have hx1 := (HI.out.2.cell (World.block_lt_of_cell? w _ hx1)).trans hx1
      have hx2 := (HI.out.2.cell (World.block_lt_of_cell? w _ hx2)).trans hx2
      subst hA
      have hb0 : wr.cell? ⟨w.heap.size, 0, none⟩ = some (.slice (some ad) l.length c) := (blk_cell HI.out.1 0).trans rfl
      have hlt' := decide_eq_true hlt
      have HS := Aside0.mk (okStep l i hi0 hlt)
      by_cases n1 : nameOk (rd_T52 l i).f0 = true
      · have N1 := Aside0.mk n1
        clear n1
        by_cases z : i = 0
        · have hz : decide (0 < i) = false := decide_eq_false (by omega)
          have HP := Aside0.mk (show prev l i.toNat = none by rw [z]; rfl)
          clear z
          by_cases s1 : (rd_T52 l i).f2 < 0
          · have hs1 := decide_eq_true s1
            have F := Aside0.mk (show VV = false by rw [HV.out, HS.out]; unfold fileOk; rw [decide_eq_false (show ¬ 0 ≤ (rd_T52 l i).f2 by omega), Bool.and_false, Bool.false_and, Bool.false_and, Bool.false_and, Bool.false_and])
            clear s1
            go_wp2
            go_quiet ((go_at_call 44; exact Calls.quiet_of_same (nameFine_yes _ _ N1.out)))
            go_wp2
            go_ret
            exact ⟨ret_bool F.out.symm, (vinv_next HI.out _ _).2⟩
          · have hs1 : decide ((rd_T52 l i).f2 < 0) = false := decide_eq_false s1
            by_cases s2 : ((rd_T52 l i).f1.size : Int) < (rd_T52 l i).f2
            · have hs2 := decide_eq_true s2
              have F := Aside0.mk (show VV = false by rw [HV.out, HS.out]; unfold fileOk; rw [decide_eq_false (show ¬ (rd_T52 l i).f2 ≤ ((rd_T52 l i).f1.size : Int) by omega), Bool.and_false, Bool.false_and, Bool.false_and, Bool.false_and])
              clear s1 s2
              go_wp2
              go_quiet ((go_at_call 44; exact Calls.quiet_of_same (nameFine_yes _ _ N1.out)))
              go_wp2
              go_ret
              exact ⟨ret_bool F.out.symm, (vinv_next HI.out _ _).2⟩
            · have hs2 : decide (((rd_T52 l i).f1.size : Int) < (rd_T52 l i).f2) = false := decide_eq_false s2
              have F := Aside0.mk (show VV = (okFrom (prev l (i + 1).toNat) (l.drop (i + 1).toNat) && decide (total l ≤ 1048576)) by rw [HV.out, HS.out, HP.out]; unfold fileOk; rw [N1.out, decide_eq_true (show 0 ≤ (rd_T52 l i).f2 by omega), decide_eq_true (show (rd_T52 l i).f2 ≤ ((rd_T52 l i).f1.size : Int) by omega)]; rfl)
              clear s1 s2
              go_wp2
              go_quiet ((go_at_call 44; exact Calls.quiet_of_same (nameFine_yes _ _ N1.out)))
              go_wp2
              go_roundw
              case rel => exact ⟨i + 1, by omega, by omega, rfl, ⟨vinv_next HI.out _ _⟩, F⟩
              case measure => simp [intOf]; omega
        · have hz : decide (0 < i) = true := decide_eq_true (by omega)
          have HP := Aside0.mk (prev_pos l i (by omega) hlt)
          have hj0 : 0 ≤ i - 1 := by omega
          have hj1 : i - 1 < (l.length : Int) := by omega
          have hj2 : 1 ≤ i := by omega
          have hw : IntKind.i64.wrap (i - 1) = i - 1 := IntWalk.i64_in _ (by omega)
          obtain ⟨ad', hA', hy0, _, _⟩ := at_T52 HR.out (i - 1) hj0 hj1
          have hy0 := (HI.out.2.cell (World.block_lt_of_cell? w _ hy0)).trans hy0
          obtain rfl := Option.some.inj hA'
          clear hA'
          rw [show (i - 1).toNat = i.toNat - 1 by omega] at hy0
          have hy0 : ∀ o, (wr.alloc o).cell? (ad.add ((i.toNat - 1) * 3)) = some (.string (rd_T52 l (i - 1)).f0) := fun o => (World.cell?_alloc_lt _ _ _ (World.block_lt_of_cell? wr _ hy0)).trans hy0
          have hb1 : ∀ o, (wr.alloc o).cell? ⟨w.heap.size, 0, none⟩ = some (.slice (some ad) l.length c) := fun o => (World.cell?_alloc_lt _ _ _ (World.block_lt_of_cell? wr _ hb0)).trans hb0
          by_cases g : lss (rd_T52 l (i - 1)).f0 (rd_T52 l i).f0 = true
          · have hg : Op.bytesLess (rd_T52 l (i - 1)).f0.toList (rd_T52 l i).f0.toList = true := g
            have G := Aside0.mk g
            clear g
            by_cases s1 : (rd_T52 l i).f2 < 0
            · have hs1 := decide_eq_true s1
              have F := Aside0.mk (show VV = false by rw [HV.out, HS.out]; unfold fileOk; rw [decide_eq_false (show ¬ 0 ≤ (rd_T52 l i).f2 by omega), Bool.and_false, Bool.false_and, Bool.false_and, Bool.false_and, Bool.false_and])
              clear s1
              go_wp2
              go_quiet ((go_at_call 44; exact Calls.quiet_of_same (nameFine_yes _ _ N1.out)))
              go_wp2
              go_ret
              exact ⟨ret_bool F.out.symm, (vinv_next HI.out _ _).2⟩
            · have hs1 : decide ((rd_T52 l i).f2 < 0) = false := decide_eq_false s1
              by_cases s2 : ((rd_T52 l i).f1.size : Int) < (rd_T52 l i).f2
              · have hs2 := decide_eq_true s2
                have F := Aside0.mk (show VV = false by rw [HV.out, HS.out]; unfold fileOk; rw [decide_eq_false (show ¬ (rd_T52 l i).f2 ≤ ((rd_T52 l i).f1.size : Int) by omega), Bool.and_false, Bool.false_and, Bool.false_and, Bool.false_and])
                clear s1 s2
                go_wp2
                go_quiet ((go_at_call 44; exact Calls.quiet_of_same (nameFine_yes _ _ N1.out)))
                go_wp2
                go_ret
                exact ⟨ret_bool F.out.symm, (vinv_next HI.out _ _).2⟩
              · have hs2 : decide (((rd_T52 l i).f1.size : Int) < (rd_T52 l i).f2) = false := decide_eq_false s2
                have F := Aside0.mk (show VV = (okFrom (prev l (i + 1).toNat) (l.drop (i + 1).toNat) && decide (total l ≤ 1048576)) by
                  rw [HV.out, HS.out, HP.out]
                  show ((fileOk _ && lss _ _ && _) && _) = _
                  unfold fileOk
                  rw [G.out, N1.out, decide_eq_true (show 0 ≤ (rd_T52 l i).f2 by omega), decide_eq_true (show (rd_T52 l i).f2 ≤ ((rd_T52 l i).f1.size : Int) by omega)]
                  rfl)
                clear s1 s2
                go_wp2
                go_quiet ((go_at_call 44; exact Calls.quiet_of_same (nameFine_yes _ _ N1.out)))
                go_wp2
                go_roundw
                case rel => exact ⟨i + 1, by omega, by omega, rfl, ⟨vinv_next HI.out _ _⟩, F⟩
                case measure => simp [intOf]; omega
          · have hg : Op.bytesLess (rd_T52 l (i - 1)).f0.toList (rd_T52 l i).f0.toList = false := Bool.eq_false_iff.2 g
            have F := Aside0.mk (show VV = false by
              rw [HV.out, HS.out, HP.out]
              show ((_ && lss _ _ && _) && _) = _
              rw [Bool.eq_false_iff.2 g, Bool.and_false, Bool.false_and, Bool.false_and])
            clear g
            go_wp2
            go_quiet ((go_at_call 44; exact Calls.quiet_of_same (nameFine_yes _ _ N1.out)))
            go_wp2
            go_ret
            exact ⟨ret_bool F.out.symm, (vinv_next HI.out _ _).2⟩
      · have n1 : nameOk (rd_T52 l i).f0 = false := Bool.eq_false_iff.2 n1
        have F := Aside0.mk (show VV = false by rw [HV.out, HS.out]; unfold fileOk; rw [n1]; simp)
        have N1 := Aside0.mk n1
        clear n1
        go_wp2
        go_quiet ((go_at_call 44; exact Calls.quiet_of_same (nameFine_no _ _ N1.out)))
        go_wp2
        go_ret
        exact ⟨ret_bool F.out.symm, (vinv_next HI.out _ _).2⟩
    · have hi : i = l.length := by omega
      have F := Aside0.mk (show VV = decide (total l ≤ 1048576) by rw [HV.out, hi, Int.toNat_natCast, List.drop_length]; cases prev l l.length <;> simp [okFrom])
      have hlt' : decide (i < (l.length : Int)) = false := decide_eq_false hlt
      have hb0 : wr.cell? ⟨w.heap.size, 0, none⟩ = some (.slice A l.length c) := (blk_cell HI.out.1 0).trans rfl
      have hb1 : wr.cell? ⟨w.heap.size, 1, none⟩ = some (.int .i64 q) := (blk_cell HI.out.1 1).trans rfl
      have hb2 : wr.cell? ⟨w.heap.size, 2, none⟩ = some (.int .i64 f) := (blk_cell HI.out.1 2).trans rfl
      have HC := Aside0.mk (total_call l A c q f wr (Kd.C_below HR.out HI.out.2) hc HT.out h1)
      clear hi
      go_wp2_with (go_at_call 45; refine HC.out.mono ?_; rintro e w' ⟨rfl, hb⟩)
      go_ret
      exact ⟨by rw [F.out]; exact ret_bool (dec_nat _ 1048576), HI.out.2.trans (hb.mono HI.out.2.size)⟩

def ValidFits (l : List S52) : Prop := l.length ≤ 200 → total l ≤ 9223372036854775000
set_option maxHeartbeats 2000000 in
set_option maxRecDepth 100000 in
theorem valid_any (A : Option Addr) (c : Nat) (l : List S52) (q f : Int) (w : World) (hr : Kd.C k52 w A l.length l) (hc : l.length ≤ c) (ht : ValidFits l) :
    Calls Try.prog 15 #[.agg #[.slice A l.length c, .int .i64 q, .int .i64 f]] w fun e w' => e = .returned (.bool (validB l q f)) ∧ Below w.heap.size w w' := by
  unfold validB
  by_cases c1 : l.length ≤ 200
  · by_cases c2 : 0 ≤ q
    · by_cases c3 : q ≤ 1048576
      · by_cases c4 : -1 ≤ f
        · rw [decide_eq_true c1, decide_eq_true c2, decide_eq_true c3, decide_eq_true c4, Bool.true_and, Bool.true_and, Bool.true_and, Bool.true_and]
          exact valid_walk A c l q f w hr hc c1 c2 c3 c4 (ht c1)
        · rw [decide_eq_false c4, Bool.and_false, Bool.false_and, Bool.false_and]
          have g1 : decide (200 < (l.length : Int)) = false := decide_eq_false (by omega)
          have g1' : decide (200 < l.length) = false := decide_eq_false (by omega)
          have g2 : decide (q < 0) = false := decide_eq_false (by omega)
          have g3 : decide (1048576 < q) = false := decide_eq_false (by omega)
          have g4 : decide (f < -1) = true := decide_eq_true (by omega)
          clear c1 c2 c3 c4 hr ht
          go_enter Try.func15, Try.ntmps15
          go_wp2
          go_ret
          exact ⟨rfl, (Below.refl _ _).alloc (Nat.le_refl _) _⟩
      · rw [decide_eq_false c3, Bool.and_false, Bool.false_and, Bool.false_and, Bool.false_and]
        have g1 : decide (200 < (l.length : Int)) = false := decide_eq_false (by omega)
        have g1' : decide (200 < l.length) = false := decide_eq_false (by omega)
        have g2 : decide (q < 0) = false := decide_eq_false (by omega)
        have g3 : decide (1048576 < q) = true := decide_eq_true (by omega)
        clear c1 c2 c3 hr ht
        go_enter Try.func15, Try.ntmps15
        go_wp2
        go_ret
        exact ⟨rfl, (Below.refl _ _).alloc (Nat.le_refl _) _⟩
    · rw [decide_eq_false c2, Bool.and_false, Bool.false_and, Bool.false_and, Bool.false_and, Bool.false_and]
      have g1 : decide (200 < (l.length : Int)) = false := decide_eq_false (by omega)
      have g1' : decide (200 < l.length) = false := decide_eq_false (by omega)
      have g2 : decide (q < 0) = true := decide_eq_true (by omega)
      clear c1 c2 hr ht
      go_enter Try.func15, Try.ntmps15
      go_wp2
      go_ret
      exact ⟨rfl, (Below.refl _ _).alloc (Nat.le_refl _) _⟩
  · rw [decide_eq_false c1, Bool.false_and, Bool.false_and, Bool.false_and, Bool.false_and, Bool.false_and]
    have g1 : decide (200 < (l.length : Int)) = true := decide_eq_true (by omega)
    have g1' : decide (200 < l.length) = true := decide_eq_true (by omega)
    clear c1 hr ht
    go_enter Try.func15, Try.ntmps15
    go_wp2
    go_ret
    exact ⟨rfl, (Below.refl _ _).alloc (Nat.le_refl _) _⟩
end Go.Proofs.Ytbppijlcmeidaaa.M
end
section
/- The search in a directory, walked: where a name stands in files that are in order, or would stand, and whether it is there. Condition: the files are in order, at most 200. -/
namespace Go.Proofs.Ytbppijlcmeidaaa.M
open Go.RowKit Go.Proofs.Ytbppijlcmeidaaa.P Go.Proofs.YtbppijlcmeidaaaW.PrintWords Go.Proofs.YtbppijlcmeidaaaW.PrintLast Go.Proofs.YtbppijlcmeidaaaW.PrintMore
set_option linter.unusedVariables false

def cmp3 (a b : ByteArray) : Int := if lss a b = true then -1 else if lss b a = true then 1 else 0
theorem beq_of_lss {a b : ByteArray} (h1 : lss a b = false) (h2 : lss b a = false) : (a.toList == b.toList) = true := by
  rw [lss_total h1 h2]; simp
theorem beq_of_lss' {a b : ByteArray} (h2 : lss b a = true) : (a.toList == b.toList) = false := by
  rw [beq_eq_false_iff_ne]
  intro h
  rw [toList_inj h, lss_irrefl] at h2
  cases h2

set_option maxHeartbeats 1000000 in
theorem cmp_any (x0 x1 s : ByteArray) (x2 : Int) (w : World) : Calls Try.prog 85 #[.agg #[.string x0, .string x1, .int .i64 x2], .string s] w fun e w' => e = .returned (.int .i64 (cmp3 x0 s)) ∧ Below w.heap.size w w' := by
  have hu52 := Try.underlying52
  unfold cmp3
  by_cases c1 : lss x0 s = true
  · rw [if_pos c1]
    have h1 : Op.bytesLess x0.toList s.toList = true := c1
    clear c1
    go_enter Try.func85, Try.ntmps85
    go_wp2
    go_ret
    exact ⟨rfl, (Below.refl _ _).alloc (Nat.le_refl _) _⟩
  · have c1 := Bool.eq_false_iff.2 c1
    rw [if_neg (by rw [c1]; simp)]
    have h1 : Op.bytesLess x0.toList s.toList = false := c1
    by_cases c2 : lss s x0 = true
    · rw [if_pos c2]
      have h2 := beq_of_lss' c2
      clear c1 c2
      go_enter Try.func85, Try.ntmps85
      go_wp2
      go_ret
      exact ⟨rfl, (Below.refl _ _).alloc (Nat.le_refl _) _⟩
    · have c2 := Bool.eq_false_iff.2 c2
      rw [if_neg (by rw [c2]; simp)]
      have h2 := beq_of_lss c1 c2
      clear c1 c2
      go_enter Try.func85, Try.ntmps85
      go_wp2
      go_ret
      exact ⟨rfl, (Below.refl _ _).alloc (Nat.le_refl _) _⟩

/-! ### In order -/
def Sorted (l : List S52) : Prop := ∀ i j : Nat, i < j → j < l.length → lss (rd_T52 l (i : Int)).f0 (rd_T52 l (j : Int)).f0 = true
def pos (l : List S52) (s : ByteArray) : Nat := l.countP fun x => lss x.f0 s
def there (l : List S52) (s : ByteArray) : Bool := decide (pos l s < l.length) && decide (cmp3 (rd_T52 l (pos l s : Int)).f0 s = 0)
theorem countP_boundary {α : Type} (p : α → Bool) : ∀ (l : List α) (i : Nat), i ≤ l.length → (∀ t x, l[t]? = some x → t < i → p x = true) → (∀ t x, l[t]? = some x → i ≤ t → p x = false) → l.countP p = i
  | [], i, hi, _, _ => by simp at hi; simp [hi]
  | a :: r, 0, _, _, h2 => by
    rw [List.countP_eq_zero]
    intro x hx
    obtain ⟨t, ht⟩ := List.getElem?_of_mem hx
    rw [h2 t x ht (Nat.zero_le _)]
    simp
  | a :: r, i + 1, hi, h1, h2 => by
    have ha : p a = true := h1 0 a rfl (by omega)
    rw [List.countP_cons_of_pos ha, countP_boundary p r i (by simpa using hi) (fun t x h ht => h1 (t + 1) x (by simpa using h) (by omega)) (fun t x h ht => h2 (t + 1) x (by simpa using h) (by omega))]
theorem pos_eq (l : List S52) (s : ByteArray) (i : Nat) (hi : i ≤ l.length) (h1 : ∀ t : Nat, t < i → lss (rd_T52 l (t : Int)).f0 s = true) (h2 : ∀ t : Nat, i ≤ t → t < l.length → lss (rd_T52 l (t : Int)).f0 s = false) : pos l s = i := by
  refine countP_boundary _ l i hi (fun t x h ht => ?_) (fun t x h ht => ?_)
  · obtain ⟨hlt, rfl⟩ := List.getElem?_eq_some_iff.1 h
    have := h1 t ht
    rwa [rd52 l t hlt] at this
  · obtain ⟨hlt, rfl⟩ := List.getElem?_eq_some_iff.1 h
    have := h2 t ht hlt
    rwa [rd52 l t hlt] at this

set_option maxHeartbeats 4000000 in
set_option maxRecDepth 100000 in
theorem search_walk (A : Option Addr) (c : Nat) (l : List S52) (s : ByteArray) (w : World) (hr : Kd.C k52 w A l.length l) (hl : l.length ≤ 200) (hs : Sorted l) :
    Calls Try.prog 84 #[.slice A l.length c, .string s, .func (.func 85) #[] #[]] w fun e w' => e = .returned (.tuple #[.int .i64 (pos l s : Int), .bool (there l s)]) ∧ Below w.heap.size w w' := by
  have HR := Aside0.mk hr
  have HS := Aside0.mk hs
  have hu52 := Try.underlying52
  clear hr hs
  generalize hP : pos l s = P
  generalize hT : there l s = T
  have HP := Aside0.mk hP
  have HT := Aside0.mk hT
  clear hP hT
  go_enter Try.func84, Try.ntmps84
  go_wp2
  go_loopg [9, 10] l.length (fun kx v9 v10 wr => ∃ lo hi : Nat, v9 = .int .i64 lo ∧ v10 = .int .i64 hi ∧ lo ≤ hi ∧ hi ≤ l.length ∧ hi - lo ≤ kx ∧ Aside0 (Below w.heap.size w wr) ∧
    Aside0 ((∀ t : Nat, t < lo → lss (rd_T52 l (t : Int)).f0 s = true) ∧ (∀ t : Nat, hi ≤ t → t < l.length → lss (rd_T52 l (t : Int)).f0 s = false)))
  case atStart => exact ⟨0, l.length, rfl, rfl, Nat.zero_le _, Nat.le_refl _, by omega, ⟨Below.refl _ _⟩, ⟨fun t ht => absurd ht (Nat.not_lt_zero _), fun t h1 h2 => absurd h1 (by omega)⟩⟩
  case round =>
    obtain ⟨lo, hi, rfl, rfl, hlh, hin, hg, HB, HI⟩ := hrel
    by_cases hlt : lo < hi
    · obtain ⟨ad, hA, hx0, hx1, hx2⟩ := at_T52 HR.out (((lo + hi) / 2 : Nat) : Int) (by omega) (by omega)
      have hx0 := (HB.out.cell (World.block_lt_of_cell? w _ hx0)).trans hx0
      have hx1 := (HB.out.cell (World.block_lt_of_cell? w _ hx1)).trans hx1
      have hx2 := (HB.out.cell (World.block_lt_of_cell? w _ hx2)).trans hx2
      rw [Int.toNat_natCast] at hx0 hx1 hx2
      subst hA
      generalize hy : rd_T52 l (((lo + hi) / 2 : Nat) : Int) = y at hx0 hx1 hx2
      have Y := Aside0.mk hy
      clear hy
      have hc := cmp_any y.f0 y.f1 s y.f2 wr
      by_cases hyx : lss y.f0 s = true
      · have e : cmp3 y.f0 s = -1 := by unfold cmp3; rw [if_pos hyx]
        rw [e] at hc
        have HC := Aside0.mk hc
        have HX := Aside0.mk hyx
        clear hc hyx e
        go_wp2_with (go_at_call 85; refine HC.out.mono ?_; rintro e w' ⟨rfl, hb⟩)
        go_roundg (hi - ((lo + hi) / 2 + 1))
        case measure => omega
        case rel =>
          have HB2 := below_then HB.out HB.out.size hb
          have I2 : Aside0 ((∀ t : Nat, t < (lo + hi) / 2 + 1 → lss (rd_T52 l (t : Int)).f0 s = true) ∧ (∀ t : Nat, hi ≤ t → t < l.length → lss (rd_T52 l (t : Int)).f0 s = false)) := ⟨fun t ht => by
              rcases Nat.lt_or_ge t ((lo + hi) / 2) with h | h
              · exact lss_trans (HS.out t ((lo + hi) / 2) h (by omega)) (by rw [Y.out]; exact HX.out)
              · have : t = (lo + hi) / 2 := by omega
                rw [this, Y.out]; exact HX.out, HI.out.2⟩
          exact ⟨(lo + hi) / 2 + 1, hi, by rw [show ((lo : Int) + (hi : Int)) / 2 + 1 = (((lo + hi) / 2 + 1 : Nat) : Int) by omega], rfl, by omega, hin, Nat.le_refl _, ⟨HB2⟩, I2⟩
      · have hyx := Bool.eq_false_iff.2 hyx
        have e : ¬ cmp3 y.f0 s < 0 := by unfold cmp3; rw [if_neg (by rw [hyx]; simp)]; split <;> omega
        have e2 : decide (cmp3 y.f0 s < 0) = false := decide_eq_false e
        generalize cmp3 y.f0 s = z at hc e e2
        have HC := Aside0.mk hc
        have HX := Aside0.mk hyx
        clear hc hyx e
        go_wp2_with (go_at_call 85; refine HC.out.mono ?_; rintro e w' ⟨rfl, hb⟩)
        go_roundg ((lo + hi) / 2 - lo)
        case measure => omega
        case rel =>
          have HB2 := below_then HB.out HB.out.size hb
          have I2 : Aside0 ((∀ t : Nat, t < lo → lss (rd_T52 l (t : Int)).f0 s = true) ∧ (∀ t : Nat, (lo + hi) / 2 ≤ t → t < l.length → lss (rd_T52 l (t : Int)).f0 s = false)) := ⟨HI.out.1, fun t ht h2 => by
              rcases Nat.eq_or_lt_of_le ht with h | h
              · rw [← h, Y.out]; exact HX.out
              · cases hh : lss (rd_T52 l (t : Int)).f0 s with
                | false => rfl
                | true =>
                  have := lss_trans (HS.out ((lo + hi) / 2) t h h2) hh
                  rw [Y.out, HX.out] at this
                  cases this⟩
          exact ⟨lo, (lo + hi) / 2, rfl, by rw [show ((lo : Int) + (hi : Int)) / 2 = (((lo + hi) / 2 : Nat) : Int) by omega], by omega, by omega, Nat.le_refl _, ⟨HB2⟩, I2⟩
    · obtain rfl : hi = lo := by omega
      have E := Aside0.mk (pos_eq l s hi hin HI.out.1 HI.out.2)
      have hPP : P = hi := HP.out.symm.trans E.out
      have hT : T = (decide (hi < l.length) && decide (cmp3 (rd_T52 l (hi : Int)).f0 s = 0)) := by rw [← HT.out]; unfold there; rw [E.out]
      have PP := Aside0.mk hPP
      have TT := Aside0.mk hT
      clear hPP hT
      by_cases hn : hi < l.length
      · obtain ⟨ad, hA, hx0, hx1, hx2⟩ := at_T52 HR.out (hi : Int) (by omega) (by omega)
        have hx0 := (HB.out.cell (World.block_lt_of_cell? w _ hx0)).trans hx0
        have hx1 := (HB.out.cell (World.block_lt_of_cell? w _ hx1)).trans hx1
        have hx2 := (HB.out.cell (World.block_lt_of_cell? w _ hx2)).trans hx2
        rw [Int.toNat_natCast] at hx0 hx1 hx2
        subst hA
        have hn' := decide_eq_true hn
        generalize hy : rd_T52 l (hi : Int) = y at hx0 hx1 hx2
        have Y := Aside0.mk hy
        clear hy
        have hc := cmp_any y.f0 y.f1 s y.f2 wr
        have F := Aside0.mk (show T = decide (cmp3 y.f0 s = 0) by rw [TT.out, hn', Bool.true_and, Y.out])
        generalize hz : cmp3 y.f0 s = z at hc
        have HZ := Aside0.mk hz
        have HC := Aside0.mk hc
        clear hc hz
        by_cases z0 : z = 0
        · have hz0 : (z == 0) = true := by rw [z0]; rfl
          have Z0 := Aside0.mk z0
          clear z0
          go_wp2_with (go_at_call 85; refine HC.out.mono ?_; rintro e w' ⟨rfl, hb⟩)
          go_ret2
          exact ⟨by rw [PP.out, F.out, HZ.out, decide_eq_true Z0.out]; rfl, below_then HB.out HB.out.size hb⟩
        · have hz0 : (z == 0) = false := beq_eq_false_iff_ne.2 z0
          have Z0 := Aside0.mk z0
          clear z0
          go_wp2_with (go_at_call 85; refine HC.out.mono ?_; rintro e w' ⟨rfl, hb⟩)
          go_ret2
          exact ⟨by rw [PP.out, F.out, HZ.out, decide_eq_false Z0.out]; rfl, below_then HB.out HB.out.size hb⟩
      · have F := Aside0.mk (show T = false by rw [TT.out, decide_eq_false hn, Bool.false_and])
        have hn' : decide (hi < l.length) = false := decide_eq_false hn
        go_wp2
        go_ret2
        exact ⟨by rw [PP.out, F.out]; rfl, HB.out⟩
end Go.Proofs.Ytbppijlcmeidaaa.M
end
section
/- The program's find, read and FsFind, walked. Condition: the sizes of the Data add up to a number of 63 bits. -/
namespace Go.Proofs.Ytbppijlcmeidaaa.M
open Go.RowKit Go.Proofs.Ytbppijlcmeidaaa.P Go.Proofs.YtbppijlcmeidaaaW.PrintWords Go.Proofs.YtbppijlcmeidaaaW.PrintLast Go.Proofs.YtbppijlcmeidaaaW.PrintMore
set_option linter.unusedVariables false

/-- A directory that lies at block g. -/
def Lies (w : World) (g : Nat) (A : Option Addr) (c : Nat) (l : List S52) (q f : Int) : Prop := w.heap[g]? = some (.cells #[.slice A l.length c, .int .i64 q, .int .i64 f] 29 (0, 0))
theorem lies_below {w w1 : World} {g : Nat} {A : Option Addr} {c : Nat} {l : List S52} {q f : Int} (h : Lies w g A c l q f) (hb : Below w.heap.size w w1) : Lies w1 g A c l q f := (hb.block g (blk_lt h)).trans h

set_option maxRecDepth 100000 in
set_option maxHeartbeats 1000000 in
theorem find_call (g : Nat) (A : Option Addr) (c : Nat) (l : List S52) (q f : Int) (s : ByteArray) (w : World) (hg : Lies w g A c l q f) (hr : Kd.C k52 w A l.length l) (hl : l.length ≤ 200) (hs : Sorted l) :
    Calls Try.prog 74 #[.pointer (some ⟨g, 0, none⟩), .string s] w fun e w' => e = .returned (.tuple #[.int .i64 (pos l s : Int), .bool (there l s)]) ∧ Below w.heap.size w w' := by
  have hb0 : w.cell? ⟨g, 0, none⟩ = some (.slice A l.length c) := (blk_cell hg 0).trans rfl
  have HC := Aside0.mk (search_walk A c l s w hr hl hs)
  have hu29 := Try.underlying29
  clear hr hs hg
  go_enter Try.func74, Try.ntmps74
  go_wp2_with (go_at_call 84; refine HC.out.mono ?_; rintro e w' ⟨rfl, hb⟩)
  go_ret2
  exact ⟨rfl, hb⟩

def dataAt (l : List S52) (s : ByteArray) : ByteArray := if there l s = true then (rd_T52 l (pos l s : Int)).f1 else ⟨#[]⟩
theorem there_lt {l : List S52} {s : ByteArray} (h : there l s = true) : pos l s < l.length := by
  unfold there at h
  simp only [Bool.and_eq_true, decide_eq_true_eq] at h
  exact h.1

set_option maxRecDepth 100000 in
set_option maxHeartbeats 1000000 in
theorem read_call (g : Nat) (A : Option Addr) (c : Nat) (l : List S52) (q f : Int) (s : ByteArray) (w : World) (hg : Lies w g A c l q f) (hr : Kd.C k52 w A l.length l) (hl : l.length ≤ 200) (hs : Sorted l) :
    Calls Try.prog 48 #[.pointer (some ⟨g, 0, none⟩), .string s] w fun e w' => e = .returned (.tuple #[.string (dataAt l s), .bool (there l s)]) ∧ Below w.heap.size w w' := by
  have hc := find_call g A c l q f s w hg hr hl hs
  have hu29 := Try.underlying29
  have hu52 := Try.underlying52
  have HG := Aside0.mk hg
  have HR := Aside0.mk hr
  unfold dataAt
  by_cases ht : there l s = true
  · have hlt := there_lt ht
    rw [ht] at hc
    rw [if_pos ht, ht]
    obtain ⟨ad, hA, hx0, hx1, hx2⟩ := at_T52 hr (pos l s : Int) (by omega) (by omega)
    rw [Int.toNat_natCast] at hx1
    generalize (rd_T52 l (pos l s : Int)).f1 = d at hx1
    have hlt' : ((pos l s : Nat) : Int) < (l.length : Int) := by omega
    generalize pos l s = p at hc hx1 hlt hlt'
    subst hA
    have HC := Aside0.mk hc
    have HX := Aside0.mk hx1
    clear hc hx0 hx1 hx2 hg hr hs ht
    go_enter Try.func48, Try.ntmps48
    go_wp2_with fail
    refine HC.out.mono ?_
    rintro e w' ⟨rfl, hb⟩
    have hb0 : w'.cell? ⟨g, 0, none⟩ = some (.slice (some ad) l.length c) := (blk_cell (lies_below HG.out hb) 0).trans rfl
    have hb1 := (hb.cell (World.block_lt_of_cell? w _ HX.out)).trans HX.out
    go_wp2
    go_ret2
    exact ⟨rfl, hb⟩
  · have ht := Bool.eq_false_iff.2 ht
    rw [if_neg (by rw [ht]; simp)]
    rw [ht] at hc ⊢
    have HC := Aside0.mk hc
    clear hc hg hr hs ht
    go_enter Try.func48, Try.ntmps48
    go_wp2_with fail
    refine HC.out.mono ?_
    rintro e w' ⟨rfl, hb⟩
    go_wp2
    go_ret2
    exact ⟨rfl, hb⟩

/-! ### What a valid directory says -/
theorem okFrom_step {p : Option ByteArray} {x : S52} {r : List S52} (h : okFrom p (x :: r) = true) : fileOk x = true ∧ (∀ b, p = some b → lss b x.f0 = true) ∧ okFrom (some x.f0) r = true := by
  rw [okFrom_cons] at h
  simp only [Bool.and_eq_true] at h
  refine ⟨h.1.1, fun b hb => ?_, h.2⟩
  subst hb
  exact h.1.2
theorem okFrom_all : ∀ {l : List S52} {p : Option ByteArray}, okFrom p l = true → (∀ x ∈ l, fileOk x = true) ∧ (∀ b, p = some b → ∀ x ∈ l, lss b x.f0 = true) ∧ l.Pairwise (fun x y => lss x.f0 y.f0 = true)
  | [], _, _ => ⟨fun x hx => by simp at hx, fun _ _ x hx => by simp at hx, List.Pairwise.nil⟩
  | x :: r, p, h => by
    obtain ⟨h1, h2, h3⟩ := okFrom_step h
    obtain ⟨g1, g2, g3⟩ := okFrom_all h3
    have g2 := g2 x.f0 rfl
    refine ⟨fun y hy => ?_, fun b hb y hy => ?_, List.Pairwise.cons g2 g3⟩
    · rcases List.mem_cons.1 hy with rfl | hy
      · exact h1
      · exact g1 y hy
    · rcases List.mem_cons.1 hy with rfl | hy
      · exact h2 b hb
      · exact lss_trans (h2 b hb) (g2 y hy)
theorem valid_parts {l : List S52} {q f : Int} (h : validB l q f = true) : l.length ≤ 200 ∧ 0 ≤ q ∧ q ≤ 1048576 ∧ -1 ≤ f ∧ okFrom none l = true ∧ total l ≤ 1048576 := by
  unfold validB at h
  simp only [Bool.and_eq_true, decide_eq_true_eq] at h
  obtain ⟨⟨⟨⟨⟨h1, h2⟩, h3⟩, h4⟩, h5⟩, h6⟩ := h
  exact ⟨h1, h2, h3, h4, h5, h6⟩
theorem sorted_of {l : List S52} (h : l.Pairwise (fun x y => lss x.f0 y.f0 = true)) : Sorted l := by
  intro i j hij hj
  rw [rd52 l i (by omega), rd52 l j hj]
  exact List.pairwise_iff_getElem.1 h i j (by omega) hj hij
theorem valid_sorted {l : List S52} {q f : Int} (h : validB l q f = true) : Sorted l := sorted_of (okFrom_all (valid_parts h).2.2.2.2.1).2.2

def fsFind (l : List S52) (q f : Int) (s : ByteArray) : ByteArray × Bool := if validB l q f = true then (dataAt l s, there l s) else (⟨#[]⟩, false)
set_option maxRecDepth 100000 in
set_option maxHeartbeats 1000000 in
theorem fsFind_call (A : Option Addr) (c : Nat) (l : List S52) (q f : Int) (s : ByteArray) (w : World) (hr : Kd.C k52 w A l.length l) (hc : l.length ≤ c) (ht : ValidFits l) :
    Calls Try.prog 18 #[.agg #[.slice A l.length c, .int .i64 q, .int .i64 f], .string s] w fun e w' => e = .returned (.tuple #[.string (fsFind l q f s).1, .bool (fsFind l q f s).2]) ∧ Below w.heap.size w w' := by
  have hu29 := Try.underlying29
  have HR := Aside0.mk hr
  have b0 : Below w.heap.size w (w.alloc (.cells #[.slice A l.length c, .int .i64 q, .int .i64 f] 29)) := (Below.refl _ _).alloc (Nat.le_refl _) _
  have hv := valid_any A c l q f (w.alloc (.cells #[.slice A l.length c, .int .i64 q, .int .i64 f] 29)) (Kd.C_below hr b0) hc ht
  unfold fsFind
  by_cases h : validB l q f = true
  · rw [if_pos h]
    rw [h] at hv
    have HV := Aside0.mk hv
    have HL := Aside0.mk h
    clear hv hr hc ht h
    go_enter Try.func18, Try.ntmps18
    go_wp2_with fail
    refine HV.out.mono ?_
    rintro e w' ⟨rfl, hb⟩
    have HB := Aside0.mk (b0.trans (hb.mono (by simp)))
    have HG := Aside0.mk (show Lies w' w.heap.size A c l q f from (hb.block _ (by simp)).trans (heap_alloc_new _ _))
    have HC := Aside0.mk (read_call w.heap.size A c l q f s w' HG.out (Kd.C_below HR.out HB.out) (valid_parts HL.out).1 (valid_sorted HL.out))
    clear b0
    go_wp2_with fail
    refine HC.out.mono ?_
    rintro e w2 ⟨rfl, hb2⟩
    go_wp2
    go_ret2
    exact ⟨rfl, below_then HB.out HB.out.size hb2⟩
  · have h := Bool.eq_false_iff.2 h
    rw [if_neg (by rw [h]; simp)]
    rw [h] at hv
    have HV := Aside0.mk hv
    clear hv hr hc ht h
    go_enter Try.func18, Try.ntmps18
    go_wp2_with fail
    refine HV.out.mono ?_
    rintro e w' ⟨rfl, hb⟩
    have HB := Aside0.mk (b0.trans (hb.mono (by simp)))
    clear b0
    go_wp2
    go_ret2
    exact ⟨rfl, HB.out⟩
end Go.Proofs.Ytbppijlcmeidaaa.M
end
section
/- The program's copy of a directory, walked: new memory that reads the same. No condition. -/
namespace Go.Proofs.Ytbppijlcmeidaaa.M
open Go.RowKit Go.Proofs.Ytbppijlcmeidaaa.P Go.Proofs.YtbppijlcmeidaaaW.PrintWords Go.Proofs.YtbppijlcmeidaaaW.PrintLast Go.Proofs.YtbppijlcmeidaaaW.PrintMore
set_option linter.unusedVariables false
theorem info52 : (Try.prog.info? 52).map (fun i => (i.zero, i.size, i.bytes)) = some (some (.agg #[.string ⟨#[]⟩, .string ⟨#[]⟩, .int .i64 0]), 3, 40) := by kernel_rfl
theorem R_empty (w : World) (base : Nat) (hb : base ≤ w.heap.size) : Kd.R k52 52 (w.alloc (.cells #[] 52)) base (fun _ => True) (.slice (some ⟨w.heap.size, 0, none⟩) 0 0) [] :=
  ⟨fun _ _ => trivial, [], ⟨rfl, .inr ⟨w.heap.size, 0, #[], rfl, hb, heap_alloc_new _ _, Nat.le_refl _, by simp [maxLen], rfl, rfl⟩⟩, Reps.none _ _⟩

/-- A row of files that is read, where a block was made: what is known of an element speaks of no world. -/
theorem c_alloc {w : World} {A : Option Addr} {l : List S52} (h : Kd.C k52 w A l.length l) (o : Obj) : ReadsRow (fun x cs => k52.K w x cs) k52.sz (w.alloc o) A l.length l :=
  ReadsRow.imp_ h ((Below.refl _ _).alloc (Nat.le_refl _) _) (fun _ _ hp => hp)
theorem k_bare {w w1 : World} {base : Nat} {x : S52} {cs : List Value} (h : k52.K w x cs) : k52.M w1 base (fun _ => False) x cs := h
set_option maxRecDepth 100000 in
set_option maxHeartbeats 1000000 in
theorem clone_call (A : Option Addr) (c : Nat) (l : List S52) (w : World) (hr : Kd.C k52 w A l.length l) (hl : l.length ≤ 200) :
    Calls Try.prog 75 #[.slice A l.length c] w fun e w' => ∃ v, e = .returned v ∧ Kd.R k52 52 w' w.heap.size (fun _ => True) v l ∧ Below w.heap.size w w' := by
  have hu27 := Try.underlying27
  have hu52 := Try.underlying52
  have HR := Aside0.mk hr
  clear hr
  have hne := fun (W : World) (a : Option Addr) (n c : Nat) => Lib.run_eql_slice_nil (P := Try.prog) W 27 52 a n c 0 0 hu27
  have hlen : (0 + l.length) * 40 ≤ 140737488355328 := by omega
  cases A with
  | none =>
    have hl0 : l = [] := by
      rcases Nat.eq_zero_or_pos l.length with h | h
      · exact List.eq_nil_of_length_eq_zero h
      · obtain ⟨_, h, _⟩ := HR.out.2.2 h
        cases h
    clear hlen
    subst hl0
    go_enter Try.func75, Try.ntmps75
    go_wp2
    go_ret
    exact ⟨_, rfl, Kd.R_nil _ _ _ _ _, Below.refl _ _⟩
  | some ad =>
    have HL := Aside0.mk hlen
    clear hlen
    go_enter Try.func75, Try.ntmps75
    go_wp2_with (at_builtin; refine Kd.R_append_rows k52 (Rr := fun x cs => k52.K w x cs) (w0 := w) w.heap.size rfl _ _ 27 52 _ 40 rfl hu27 info52 rfl (by decide) (by decide) (.slice (some ⟨w.heap.size, 0, none⟩) 0 0) [] l (some ad) l.length c (fun _ => True) (fun _ => False) rfl rfl (R_empty w w.heap.size (Nat.le_refl _)) (c_alloc HR.out _) (fun x cs h => k_bare h) (fun _ h => h.elim) (fun _ _ => trivial) ((Below.refl _ _).alloc (Nat.le_refl _) _) (by simp) HL.out ?_; intro v1 w1 hR hB hg hat)
    go_ret
    exact ⟨_, rfl, by simpa using hR, hB⟩

set_option maxRecDepth 100000 in
set_option maxHeartbeats 1000000 in
theorem copyFS_call (A : Option Addr) (c : Nat) (l : List S52) (q f : Int) (w : World) (hr : Kd.C k52 w A l.length l) (hl : l.length ≤ 200) :
    Calls Try.prog 49 #[.agg #[.slice A l.length c, .int .i64 q, .int .i64 f]] w fun e w' => ∃ v, e = .returned (.agg #[v, .int .i64 q, .int .i64 f]) ∧ Kd.R k52 52 w' w.heap.size (fun _ => True) v l ∧ Below w.heap.size w w' := by
  have hu29 := Try.underlying29
  have HR := Aside0.mk hr
  have b0 : Below w.heap.size w ((w.alloc (.cells #[.slice A l.length c, .int .i64 q, .int .i64 f] 29)).alloc (.cells #[.slice none 0 0, .int .i64 0, .int .i64 0] 29)) := ((Below.refl _ _).alloc (Nat.le_refl _) _).alloc (by simp) _
  have HC := Aside0.mk (clone_call A c l _ (Kd.C_below hr b0) hl)
  have HB0 := Aside0.mk b0
  clear hr b0
  go_enter Try.func49, Try.ntmps49
  go_wp2_with fail
  refine HC.out.mono ?_
  rintro e w' ⟨v, rfl, hR, hb⟩
  obtain ⟨A', c', rfl⟩ := Kd.R_slice hR
  have HB := Aside0.mk (HB0.out.trans (hb.mono (by simp; omega)))
  have B0 := Aside0.mk (show w'.heap[w.heap.size]? = some (.cells #[.slice A l.length c, .int .i64 q, .int .i64 f] 29 (0, 0)) from (hb.block _ (by simp; omega)).trans (blk_alloc (heap_alloc_new _ _) _))
  have B1 := Aside0.mk (show w'.heap[w.heap.size + 1]? = some (.cells #[.slice none 0 0, .int .i64 0, .int .i64 0] 29 (0, 0)) from by
    have := (hb.block (w.alloc (.cells #[.slice A l.length c, .int .i64 q, .int .i64 f] 29)).heap.size (by simp)).trans (heap_alloc_new _ _)
    simpa using this)
  have c00 := blk_cell B0.out 0
  have c01 := blk_cell B0.out 1
  have c02 := blk_cell B0.out 2
  have f00 := blk_frozen B0.out 0
  have f01 := blk_frozen B0.out 1
  have f02 := blk_frozen B0.out 2
  have c10 := blk_cell B1.out 0
  have c11 := blk_cell B1.out 1
  have c12 := blk_cell B1.out 2
  have f10 := blk_frozen B1.out 0
  have f11 := blk_frozen B1.out 1
  have f12 := blk_frozen B1.out 2
  have HRR := Aside0.mk hR
  clear hR hb
  go_wp2
  refine bodyPost_ret (results_single (r := .cell 2 29) rfl (.cell (w.heap.size + 1) 29 #[.slice A' l.length c', .int .i64 q, .int .i64 f] (0, 0) _ rfl ?_ hu29 rfl (by kernel_rfl) .nil)) rfl ⟨_, rfl, ?_, ?_⟩
  · exact blk_put (blk_put (blk_put (blk_far B1.out (by show w.heap.size + 1 ≠ w.heap.size; omega) _) 0 _ rfl) 1 _ rfl) 2 _ rfl
  · have h52 : ∀ q, q ∈ 52 :: k52.E → q ≠ 29 := by decide
    have s0 := Kd.R_set HRR.out B0.out h52 0 (.slice A' l.length c')
    have s1 := Kd.R_set s0 (blk_far B1.out (by show w.heap.size + 1 ≠ w.heap.size; omega) _) h52 0 (.slice A' l.length c')
    have s2 := Kd.R_set s1 (blk_set (blk_far B1.out (by show w.heap.size + 1 ≠ w.heap.size; omega) _) _ _) h52 1 (.int .i64 q)
    have s3 := Kd.R_set s2 (blk_set (blk_set (blk_far B1.out (by show w.heap.size + 1 ≠ w.heap.size; omega) _) _ _) _ _) h52 2 (.int .i64 f)
    exact Kd.R_lower s3 HB0.out.size
  · exact (((HB.out.setCell (Nat.le_refl _) _).setCell (by simp) _).setCell (by simp) _).setCell (by simp) _
end Go.Proofs.Ytbppijlcmeidaaa.M
end
section
/- The beginning of a step, walked: dead, or one step less to live; are the names good. No condition. -/
namespace Go.Proofs.Ytbppijlcmeidaaa.M
open Go.RowKit Go.Proofs.Ytbppijlcmeidaaa.P Go.Proofs.YtbppijlcmeidaaaW.PrintWords Go.Proofs.YtbppijlcmeidaaaW.PrintLast Go.Proofs.YtbppijlcmeidaaaW.PrintMore
set_option linter.unusedVariables false

def fuel' (f : Int) : Int := if f > 0 then f - 1 else f
def namesCode (ns : List ByteArray) : Int := if ns.all nameOk = true then 0 else 2
theorem ret_int {a b : Int} (h : a = b) : Ending.returned (.int .i64 a) = Ending.returned (.int .i64 b) := by rw [h]

/-- A directory of the call's own: at block g; its files' row v; w0: the world in which the call began. -/
structure FsAt (w0 w : World) (g : Nat) (v : Value) (l : List S52) (q f : Int) : Prop where
  blk : w.heap[g]? = some (.cells #[v, .int .i64 q, .int .i64 f] 29 (0, 0))
  row : Kd.R k52 52 w w0.heap.size (fun _ => True) v l
  bel : Below w0.heap.size w0 w
  ge : w0.heap.size ≤ g
/-- Nothing but the directory's block and its row has been written. -/
structure Keeps (w w' : World) (g : Nat) (v : Value) : Prop where
  size : w.heap.size ≤ w'.heap.size
  block : ∀ i, i < w.heap.size → i ≠ g → some i ≠ v.ownBlock → w'.heap[i]? = w.heap[i]?
theorem Keeps.refl (w : World) (g : Nat) (v : Value) : Keeps w w g v := ⟨Nat.le_refl _, fun _ _ _ _ => rfl⟩
theorem Keeps.of_below {w w' : World} {g : Nat} {v : Value} (h : Below w.heap.size w w') : Keeps w w' g v := ⟨h.size, fun i hi _ _ => h.block i hi⟩
theorem Keeps.trans {w w1 w2 : World} {g : Nat} {v v1 : Value} (h : Keeps w w1 g v) (k : Keeps w1 w2 g v1) (hv : v1.ownBlock = v.ownBlock ∨ ∃ b, v1.ownBlock = some b ∧ w.heap.size ≤ b) : Keeps w w2 g v :=
  ⟨Nat.le_trans h.size k.size, fun i hi hg hn => by
    refine (k.block i (Nat.lt_of_lt_of_le hi h.size) hg (fun e => ?_)).trans (h.block i hi hg hn)
    rcases hv with hv | ⟨b, hb, hle⟩
    · exact hn (e.trans hv)
    · rw [hb] at e
      injection e with e
      omega⟩
theorem h52 : ∀ q, q ∈ 52 :: k52.E → q ≠ 29 := by decide
theorem FsAt.lies {w0 w : World} {g : Nat} {v : Value} {l : List S52} {q f : Int} (h : FsAt w0 w g v l q f) : ∃ A c, v = .slice A l.length c ∧ l.length ≤ c ∧ Kd.C k52 w A l.length l ∧ Lies w g A c l q f := by
  obtain ⟨A, c, rfl, hc, hr⟩ := Kd.R_reads h.row
  exact ⟨A, c, rfl, hc, hr, h.blk⟩
theorem FsAt.below {w0 w w' : World} {g : Nat} {v : Value} {l : List S52} {q f : Int} (h : FsAt w0 w g v l q f) (hb : Below w.heap.size w w') : FsAt w0 w' g v l q f :=
  ⟨(hb.block g (blk_lt h.blk)).trans h.blk, Kd.R_below h.row hb, below_then h.bel h.bel.size hb, h.ge⟩
theorem FsAt.setFuel {w0 w : World} {g : Nat} {v : Value} {l : List S52} {q f : Int} (h : FsAt w0 w g v l q f) (f' : Int) : FsAt w0 (w.setCell ⟨g, 2, none⟩ (.int .i64 f')) g v l q f' :=
  ⟨blk_put h.blk 2 _ rfl, Kd.R_set h.row h.blk h52 2 _, h.bel.setCell h.ge _, h.ge⟩
theorem Keeps.setCell {w : World} {g : Nat} (v : Value) (j : Nat) (u : Value) : Keeps w (w.setCell ⟨g, j, none⟩ u) g v :=
  ⟨by simp [World.setCell], fun i _ hg _ => Below.heap_setCell w ⟨g, j, none⟩ u i hg⟩

theorem add_block (ad : Addr) (k : Nat) : (ad.add k).block = ad.block := by unfold Addr.add; split <;> rfl
theorem names_cell {w : World} {A : Option Addr} {ns : List ByteArray} (h : Kd.C Kd.string w A ns.length ns) (k : Nat) (hk : k < ns.length) : ∃ ad, A = some ad ∧ w.cell? (ad.add k) = some (.string ns[k]) := by
  obtain ⟨ad, c, hA, _, hK, hc⟩ := Kd.C_get h ByteArray.empty (k : Int) (by omega) (by omega)
  rw [Int.toNat_natCast, getD_at ns k _ hk] at hK
  obtain rfl : c = [.string ns[k]] := hK
  refine ⟨ad, hA, ?_⟩
  have := hc 0 _ rfl
  rw [Int.toNat_natCast] at this
  simpa [Kd.string, Kd.scalar] using this
/-- The names, looked at one by one. -/
theorem all_step (ns : List ByteArray) (i : Nat) (h : i < ns.length) : (ns.drop i).all nameOk = (nameOk ns[i] && (ns.drop (i + 1)).all nameOk) := by
  rw [drop_at ns i h]; rfl

set_option maxRecDepth 100000 in
set_option maxHeartbeats 2000000 in
theorem begin_call (w0 w : World) (g : Nat) (v : Value) (l : List S52) (q f : Int) (A : Option Addr) (c : Nat) (ns : List ByteArray) (h : FsAt w0 w g v l q f) (hn : Kd.C Kd.string w A ns.length ns) (hf : -1 ≤ f) (hf2 : f ≤ 9223372036854775807) (hlen : ns.length ≤ 2) (hA : ∀ ad, A = some ad → ad.block ≠ g) :
    Calls Try.prog 78 #[.pointer (some ⟨g, 0, none⟩), .slice A ns.length c] w fun e w' => e = .returned (.int .i64 (if f = 0 then 8 else namesCode ns)) ∧ FsAt w0 w' g v l q (fuel' f) ∧ Keeps w w' g v := by
  have hu29 := Try.underlying29
  have H := Aside0.mk h
  have HN := Aside0.mk hn
  have HA := Aside0.mk hA
  have c0 := blk_cell h.blk 0
  have c1 := blk_cell h.blk 1
  have c2 := blk_cell h.blk 2
  have f2 := blk_frozen h.blk 2
  clear h hn hA
  by_cases z : f = 0
  · have F := Aside0.mk (show fuel' f = f by unfold fuel'; rw [if_neg (by omega)])
    rw [if_pos z]
    have hz : (f == 0) = true := beq_iff_eq.2 z
    have Z := Aside0.mk z
    clear z
    go_enter Try.func78, Try.ntmps78
    go_wp2
    go_ret
    exact ⟨rfl, by rw [F.out]; exact H.out, Keeps.refl _ _ _⟩
  · rw [if_neg z]
    have hz : (f == 0) = false := beq_eq_false_iff_ne.2 z
    by_cases p : f > 0
    · have F' := Aside0.mk (show fuel' f = f - 1 by unfold fuel'; rw [if_pos p])
      have hp : decide (0 < f) = true := decide_eq_true p
      clear z
      go_enter Try.func78, Try.ntmps78
      go_wp2
      go_loop [6, 26] (fun _ v26 => ∃ k : Nat, k ≤ ns.length ∧ v26 = .int .i64 k ∧ Aside0 (ns.all nameOk = (ns.drop k).all nameOk)) (fun _ v26 => ns.length - (intOf v26).toNat)
      case atStart => exact ⟨0, Nat.zero_le _, rfl, ⟨rfl⟩⟩
      case round =>
        obtain ⟨k, hk, rfl, HK⟩ := hrel
        by_cases hlt : k < ns.length
        · obtain ⟨ad, hA, hc⟩ := names_cell HN.out k hlt
          subst hA
          have hne := HA.out ad rfl
          have hc' : (w.setCell ⟨g, 2, none⟩ (.int .i64 (f - 1))).cell? (ad.add k) = some (.string ns[k]) := (cell_far (p := ⟨g, 2, none⟩) (a := ad.add k) (by rw [add_block]; exact hne) _).trans hc
          have hlt' : decide ((k : Int) < (ns.length : Int)) = true := decide_eq_true (by omega)
          have hlt2 : decide (k < ns.length) = true := decide_eq_true hlt
          have HS := Aside0.mk (all_step ns k hlt)
          generalize ns[k] = s at hc hc' HS
          by_cases n1 : nameOk s = true
          · have N1 := Aside0.mk n1
            clear n1 hc hne
            go_wp2_with (go_at_call 44; refine (nameFine_yes s _ N1.out).mono ?_; rintro e w' ⟨rfl, rfl⟩)
            go_round
            case rel => exact ⟨k + 1, by omega, by go_num, ⟨by rw [HK.out, HS.out, N1.out, Bool.true_and]⟩⟩
            case measure => simp [intOf]; omega
          · have n1 : nameOk s = false := Bool.eq_false_iff.2 n1
            have N1 := Aside0.mk n1
            have F := Aside0.mk (show namesCode ns = 2 by unfold namesCode; rw [HK.out, HS.out, n1]; rfl)
            clear n1 hc hne
            go_wp2_with (go_at_call 44; refine (nameFine_no s _ N1.out).mono ?_; rintro e w' ⟨rfl, rfl⟩)
            go_ret
            exact ⟨ret_int F.out.symm, by rw [F'.out]; exact H.out.setFuel _, Keeps.setCell v 2 _⟩
        · have F := Aside0.mk (show namesCode ns = 0 by unfold namesCode; rw [HK.out, List.drop_eq_nil_of_le (by omega)]; rfl)
          have hlt' : decide ((k : Int) < (ns.length : Int)) = false := decide_eq_false (by omega)
          have hlt2 : decide (k < ns.length) = false := decide_eq_false hlt
          go_wp2
          go_ret
          exact ⟨ret_int F.out.symm, by rw [F'.out]; exact H.out.setFuel _, Keeps.setCell v 2 _⟩
    · have F' := Aside0.mk (show fuel' f = f by unfold fuel'; rw [if_neg p])
      have hp : decide (0 < f) = false := decide_eq_false p
      clear z
      go_enter Try.func78, Try.ntmps78
      go_wp2
      go_loop [6, 26] (fun _ v26 => ∃ k : Nat, k ≤ ns.length ∧ v26 = .int .i64 k ∧ Aside0 (ns.all nameOk = (ns.drop k).all nameOk)) (fun _ v26 => ns.length - (intOf v26).toNat)
      case atStart => exact ⟨0, Nat.zero_le _, rfl, ⟨rfl⟩⟩
      case round =>
        obtain ⟨k, hk, rfl, HK⟩ := hrel
        by_cases hlt : k < ns.length
        · obtain ⟨ad, hA, hc⟩ := names_cell HN.out k hlt
          subst hA
          have hne := HA.out ad rfl
          have hc' : w.cell? (ad.add k) = some (.string ns[k]) := hc
          have hlt' : decide ((k : Int) < (ns.length : Int)) = true := decide_eq_true (by omega)
          have hlt2 : decide (k < ns.length) = true := decide_eq_true hlt
          have HS := Aside0.mk (all_step ns k hlt)
          generalize ns[k] = s at hc hc' HS
          by_cases n1 : nameOk s = true
          · have N1 := Aside0.mk n1
            clear n1 hc hne
            go_wp2_with (go_at_call 44; refine (nameFine_yes s _ N1.out).mono ?_; rintro e w' ⟨rfl, rfl⟩)
            go_round
            case rel => exact ⟨k + 1, by omega, by go_num, ⟨by rw [HK.out, HS.out, N1.out, Bool.true_and]⟩⟩
            case measure => simp [intOf]; omega
          · have n1 : nameOk s = false := Bool.eq_false_iff.2 n1
            have N1 := Aside0.mk n1
            have F := Aside0.mk (show namesCode ns = 2 by unfold namesCode; rw [HK.out, HS.out, n1]; rfl)
            clear n1 hc hne
            go_wp2_with (go_at_call 44; refine (nameFine_no s _ N1.out).mono ?_; rintro e w' ⟨rfl, rfl⟩)
            go_ret
            exact ⟨ret_int F.out.symm, by rw [F'.out]; exact H.out, Keeps.refl _ _ _⟩
        · have F := Aside0.mk (show namesCode ns = 0 by unfold namesCode; rw [HK.out, List.drop_eq_nil_of_le (by omega)]; rfl)
          have hlt' : decide ((k : Int) < (ns.length : Int)) = false := decide_eq_false (by omega)
          have hlt2 : decide (k < ns.length) = false := decide_eq_false hlt
          go_wp2
          go_ret
          exact ⟨ret_int F.out.symm, by rw [F'.out]; exact H.out, Keeps.refl _ _ _⟩
end Go.Proofs.Ytbppijlcmeidaaa.M
end
section
/- The step sync, walked, on a directory of the call's own. Condition: the files are in order, at most 200. -/
namespace Go.Proofs.Ytbppijlcmeidaaa.M
open Go.RowKit Go.Proofs.Ytbppijlcmeidaaa.P Go.Proofs.YtbppijlcmeidaaaW.PrintWords Go.Proofs.YtbppijlcmeidaaaW.PrintLast Go.Proofs.YtbppijlcmeidaaaW.PrintMore
set_option linter.unusedVariables false

/-- A row of files of the call's own, at its element i: the cells, and what a store there makes of it. -/
theorem row_elem {W : World} {base : Nat} {v : Value} {l : List S52} (h : Kd.R k52 52 W base (fun _ => True) v l) (i : Nat) (hi : i < l.length) :
    ∃ b c, v = .slice (some ⟨b, 0, none⟩) l.length c ∧ base ≤ b ∧ W.cell? ⟨b, i * 3, none⟩ = some (.string (rd_T52 l (i : Int)).f0) ∧ W.cell? ⟨b, i * 3 + 1, none⟩ = some (.string (rd_T52 l (i : Int)).f1) ∧ W.cell? ⟨b, i * 3 + 2, none⟩ = some (.int .i64 (rd_T52 l (i : Int)).f2) ∧
      (∀ j, W.frozen? ⟨b, i * 3 + j, none⟩ = false) ∧
      (∀ u : Int, Kd.R k52 52 (W.setCell ⟨b, i * 3 + 2, none⟩ (.int .i64 u)) base (fun _ => True) v (l.set i ⟨(rd_T52 l (i : Int)).f0, (rd_T52 l (i : Int)).f1, u⟩)) ∧
      (∀ s : ByteArray, Kd.R k52 52 (W.setCell ⟨b, i * 3 + 1, none⟩ (.string s)) base (fun _ => True) v (l.set i ⟨(rd_T52 l (i : Int)).f0, s, (rd_T52 l (i : Int)).f2⟩)) ∧
      (∀ y : S52, Kd.R k52 52 (((W.setCell ⟨b, i * 3, none⟩ (.string y.f0)).setCell ⟨b, i * 3 + 1, none⟩ (.string y.f1)).setCell ⟨b, i * 3 + 2, none⟩ (.int .i64 y.f2)) base (fun _ => True) v (l.set i y)) := by
  obtain ⟨A, c, rfl, hc, hC⟩ := Kd.R_reads h
  obtain ⟨ad, hA, _⟩ := hC.2.2 (by omega)
  subst hA
  obtain ⟨b, rfl⟩ := Kd.R_head h
  have hb := Kd.R_base h b (by simp [Value.ownBlock])
  obtain ⟨cs, hcl, hM, hcc, hfz⟩ := Kd.R_elem h z52 (i : Int) (by omega) (by omega)
  have e : l.getD (i : Int).toNat z52 = rd_T52 l (i : Int) := rfl
  rw [e] at hM
  simp only [Int.toNat_natCast] at hcc hfz
  generalize rd_T52 l (i : Int) = x at *
  obtain rfl : cs = [.string x.f0, .string x.f1, .int .i64 x.f2] := by
    obtain ⟨c0, c1, rfl, h0, c2, c3, rfl, h1, h2⟩ := hM
    rw [show c0 = [Value.string x.f0] from h0, show c2 = [Value.string x.f1] from h1, show c3 = [Value.int .i64 x.f2] from h2]
    rfl
  have hseg := fun (j : Nat) (seg : List Value) (hj : j + seg.length ≤ 3) (x' : S52) (hM' : k52.M W base (fun _ => False) x' (([.string x.f0, .string x.f1, .int .i64 x.f2] : List Value).take j ++ seg ++ ([.string x.f0, .string x.f1, .int .i64 x.f2] : List Value).drop (j + seg.length))) =>
    (Kd.R_seg (okp := fun _ => False) h (i : Int) (by omega) (by omega) hcl (by simp only [Int.toNat_natCast]; exact hcc) hj hM' (fun _ hk => hk.elim)).1
  refine ⟨b, c, rfl, hb, hcc 0 _ rfl, hcc 1 _ rfl, hcc 2 _ rfl, hfz, fun u => ?_, fun s => ?_, fun y => ?_⟩
  · exact hseg 2 [.int .i64 u] (by simp) ⟨x.f0, x.f1, u⟩ (k52_mkM W base _ ⟨x.f0, x.f1, u⟩)
  · exact hseg 1 [.string s] (by simp) ⟨x.f0, s, x.f2⟩ (k52_mkM W base _ ⟨x.f0, s, x.f2⟩)
  · exact hseg 0 [.string y.f0, .string y.f1, .int .i64 y.f2] (by simp) y (k52_mkM W base _ y)

theorem names1 (w : World) (s : ByteArray) : Kd.C Kd.string (w.alloc (.cells #[.string s] 9)) (some ⟨w.heap.size, 0, none⟩) [s].length [s] :=
  ⟨rfl, by simp, fun _ => ⟨_, rfl, fun j p hj => ⟨[.string p], rfl, rfl, fun i u hu => by
    obtain rfl : j = 0 := by
      have := (List.getElem?_eq_some_iff.1 hj).1
      simpa using this
    obtain rfl : i = 0 := by
      have := (List.getElem?_eq_some_iff.1 hu).1
      simpa using this
    have e1 : s = p := by simpa using hj
    have e2 : Value.string p = u := by simpa using hu
    subst e1; subst e2
    exact (cell_of_row _ _ 0 _ _ _ (heap_alloc_new w _)).trans rfl⟩⟩⟩

theorem FsAt.put {w0 w : World} {g b n c a : Nat} {l l' : List S52} {q f : Int} {u : Value} (h : FsAt w0 w g (.slice (some ⟨b, 0, none⟩) n c) l q f) (hne : b ≠ g) (hr : Kd.R k52 52 (w.setCell ⟨b, a, none⟩ u) w0.heap.size (fun _ => True) (.slice (some ⟨b, 0, none⟩) n c) l') :
    FsAt w0 (w.setCell ⟨b, a, none⟩ u) g (.slice (some ⟨b, 0, none⟩) n c) l' q f :=
  ⟨blk_far h.blk (fun e => hne e.symm) _, hr, h.bel.setCell (Kd.R_base h.row b (by simp [Value.ownBlock])) _, h.ge⟩
theorem FsAt.drew {w0 w : World} {g : Nat} {v : Value} {l : List S52} {q f : Int} (h : FsAt w0 w g v l q f) : FsAt w0 w.drew g v l q f := h.below (below_drew (Below.refl _ _))
theorem Keeps.put (w : World) (g b n c a : Nat) (u : Value) : Keeps w (w.setCell ⟨b, a, none⟩ u) g (.slice (some ⟨b, 0, none⟩) n c) :=
  ⟨by simp [World.setCell], fun i _ _ hn => Below.heap_setCell w ⟨b, a, none⟩ u i (fun e => hn (by rw [e]; rfl))⟩
theorem Keeps.drew {w w' : World} {g : Nat} {v : Value} (h : Keeps w w' g v) : Keeps w w'.drew g v := ⟨h.size, h.block⟩

def stepCode (f : Int) (ns : List ByteArray) : Int := if f = 0 then 8 else namesCode ns
/-- What a step leaves: the code, the files, the row. -/
def Stepped (w0 w : World) (g : Nat) (v : Value) (r : List S52 × Int) (q f : Int) (e : Ending) (w' : World) : Prop :=
  ∃ v', e = .returned (.int .i64 r.2) ∧ FsAt w0 w' g v' r.1 q (fuel' f) ∧ Keeps w w' g v
def syncOp (l : List S52) (s : ByteArray) : List S52 × Int :=
  if there l s = true then (l.set (pos l s) ⟨(rd_T52 l (pos l s : Int)).f0, (rd_T52 l (pos l s : Int)).f1, ((rd_T52 l (pos l s : Int)).f1.size : Int)⟩, 0) else (l, 1)
def stepOf (f : Int) (ns : List ByteArray) (l : List S52) (op : List S52 × Int) : List S52 × Int := if stepCode f ns = 0 then op else (l, stepCode f ns)
theorem stepCode_cases (f : Int) (ns : List ByteArray) : (stepCode f ns = 0 ∧ f ≠ 0 ∧ ns.all nameOk = true) ∨ stepCode f ns = 8 ∨ stepCode f ns = 2 := by
  unfold stepCode namesCode
  by_cases z : f = 0
  · rw [if_pos z]; exact .inr (.inl rfl)
  · rw [if_neg z]
    by_cases n : ns.all nameOk = true
    · rw [if_pos n]; exact .inl ⟨rfl, z, n⟩
    · rw [if_neg n]; exact .inr (.inr rfl)

set_option maxRecDepth 100000 in
set_option maxHeartbeats 4000000 in
theorem sync_call (w0 w : World) (g : Nat) (v : Value) (l : List S52) (q f : Int) (s : ByteArray) (h : FsAt w0 w g v l q f) (hf : -1 ≤ f) (hf2 : f ≤ 9223372036854775807) (hl : l.length ≤ 200) (hs : Sorted l) :
    Calls Try.prog 60 #[.pointer (some ⟨g, 0, none⟩), .string s] w fun e w' => Stepped w0 w g v (stepOf f [s] l (syncOp l s)) q f e w' := by
  have hu29 := Try.underlying29
  have hu52 := Try.underlying52
  have hb0 : Below w.heap.size w (w.alloc (.cells #[.string s] 9)) := (Below.refl _ _).alloc (Nat.le_refl _) _
  have hg := blk_lt h.blk
  have hbc := begin_call w0 (w.alloc (.cells #[.string s] 9)) g v l q f (some ⟨w.heap.size, 0, none⟩) 1 [s] (h.below hb0) (names1 w s) hf hf2 (by simp) (fun ad e => by injection e with e; subst e; show w.heap.size ≠ g; omega)
  change Calls _ _ _ _ (fun e w' => e = .returned (.int .i64 (stepCode f [s])) ∧ _) at hbc
  have K0 := Keeps.of_below (g := g) (v := v) hb0
  rcases stepCode_cases f [s] with ⟨h0, _, _⟩ | h8 | h2
  · have hop : stepOf f [s] l (syncOp l s) = syncOp l s := by unfold stepOf; rw [if_pos h0]
    rw [hop]
    rw [h0] at hbc
    have HBC := Aside0.mk hbc
    have HK0 := Aside0.mk K0
    have HS := Aside0.mk hs
    clear hbc K0 hb0 hop h0 h hs
    unfold syncOp
    by_cases ht : there l s = true
    · rw [if_pos ht]
      have hlt := there_lt ht
      have HT := Aside0.mk ht
      clear ht
      go_enter Try.func60, Try.ntmps60
      go_wp2_with fail
      refine HBC.out.mono ?_
      rintro e w1 ⟨rfl, h1, k1⟩
      obtain ⟨A, c, rfl, hc, hC, hL⟩ := h1.lies
      have HF := Aside0.mk (find_call g A c l q _ s w1 hL hC hl HS.out)
      have H1 := Aside0.mk h1
      have K1 := Aside0.mk (HK0.out.trans k1 (.inl rfl))
      clear h1 k1 hC hL
      go_wp2_with fail
      refine HF.out.mono ?_
      rw [HT.out]
      rintro e w2 ⟨rfl, hb⟩
      have h2 := H1.out.below hb
      have K2 := Aside0.mk (K1.out.trans (Keeps.of_below hb) (.inl rfl))
      obtain ⟨b, c', hv, hbb, e0, e1, e2, ez, es2, es1, es3⟩ := row_elem h2.row (pos l s) hlt
      injection hv with hv1 hv2 hv3
      subst hv1; subst hv3
      have H2 := Aside0.mk h2
      have ES := Aside0.mk es2
      have g0 := blk_cell h2.blk 0
      have ez2 := ez 2
      have hne : b ≠ g := fun hh => by
        obtain ⟨cells, hc'⟩ := Kd.R_typed h2.row b (by simp [Value.ownBlock])
        rw [hh, h2.blk] at hc'
        injection hc' with hc'
        injection hc' with _ hc'
        exact absurd hc' (by decide)
      have HNE := Aside0.mk hne
      clear h2 es1 es2 es3 ez hb hbb hne
      generalize hp : pos l s = p at hlt e0 e1 e2 ez2 ES
      generalize hx : rd_T52 l (p : Int) = x at e0 e1 e2 ES
      have hlt1 : ((p : Nat) : Int) < (l.length : Int) := by omega
      have hp0 : 0 ≤ ((p : Nat) : Int) := by omega
      have HP := Aside0.mk hp
      have HX := Aside0.mk hx
      clear hx hp
      go_wp2_with fail
      go_region
      go_wp2
      go_ret
      refine ⟨.slice (some ⟨b, 0, none⟩) l.length c, rfl, ?_, (K2.out.trans (Keeps.put w2 g b l.length c _ _) (.inl rfl)).drew⟩
      rw [HP.out, HX.out]
      exact (H2.out.put HNE.out (ES.out _)).drew
    · rw [if_neg ht]
      have ht := Bool.eq_false_iff.2 ht
      have HT := Aside0.mk ht
      clear ht
      go_enter Try.func60, Try.ntmps60
      go_wp2_with fail
      refine HBC.out.mono ?_
      rintro e w1 ⟨rfl, h1, k1⟩
      obtain ⟨A, c, rfl, hc, hC, hL⟩ := h1.lies
      have HF := Aside0.mk (find_call g A c l q _ s w1 hL hC hl HS.out)
      have H1 := Aside0.mk h1
      have K1 := Aside0.mk (HK0.out.trans k1 (.inl rfl))
      clear h1 k1 hC hL
      go_wp2_with fail
      refine HF.out.mono ?_
      rw [HT.out]
      rintro e w2 ⟨rfl, hb⟩
      go_wp2
      go_ret
      exact ⟨_, rfl, H1.out.below hb, K1.out.trans (Keeps.of_below hb) (.inl rfl)⟩
  · have hop : stepOf f [s] l (syncOp l s) = (l, 8) := by unfold stepOf; rw [h8, if_neg (by omega)]
    rw [hop]
    rw [h8] at hbc
    have HBC := Aside0.mk hbc
    have HK0 := Aside0.mk K0
    clear hbc K0 hb0 hop h8 h hs
    go_enter Try.func60, Try.ntmps60
    go_wp2_with fail
    refine HBC.out.mono ?_
    rintro e w1 ⟨rfl, h1, k1⟩
    go_wp2
    go_ret
    exact ⟨_, rfl, h1, HK0.out.trans k1 (.inl rfl)⟩
  · have hop : stepOf f [s] l (syncOp l s) = (l, 2) := by unfold stepOf; rw [h2, if_neg (by omega)]
    rw [hop]
    rw [h2] at hbc
    have HBC := Aside0.mk hbc
    have HK0 := Aside0.mk K0
    clear hbc K0 hb0 hop h2 h hs
    go_enter Try.func60, Try.ntmps60
    go_wp2_with fail
    refine HBC.out.mono ?_
    rintro e w1 ⟨rfl, h1, k1⟩
    go_wp2
    go_ret
    exact ⟨_, rfl, h1, HK0.out.trans k1 (.inl rfl)⟩
end Go.Proofs.Ytbppijlcmeidaaa.M
end
section
/- What a step answers, in one form for all five. -/
namespace Go.Proofs.Ytbppijlcmeidaaa.M
open Go.RowKit Go.Proofs.Ytbppijlcmeidaaa.P Go.Proofs.YtbppijlcmeidaaaW.PrintWords Go.Proofs.YtbppijlcmeidaaaW.PrintLast Go.Proofs.YtbppijlcmeidaaaW.PrintMore
/-- The directory and the code behind a step whose files and code, for a valid directory, are r. -/
def fsRes (l : List S52) (q f : Int) (r : List S52 × Int) : List S52 × Int × Int × Int := if validB l q f = true then (r.1, q, fuel' f, r.2) else ([], 0, 0, 9)
def syncRes (l : List S52) (f : Int) (s : ByteArray) : List S52 × Int := stepOf f [s] l (syncOp l s)
end Go.Proofs.Ytbppijlcmeidaaa.M
end
section
/- The step append, walked, on a directory of the call's own. Condition: the files are in order, at most 200; the sizes' sum is bounded. -/
namespace Go.Proofs.Ytbppijlcmeidaaa.M
open Go.RowKit Go.Proofs.Ytbppijlcmeidaaa.P Go.Proofs.YtbppijlcmeidaaaW.PrintWords Go.Proofs.YtbppijlcmeidaaaW.PrintLast Go.Proofs.YtbppijlcmeidaaaW.PrintMore
set_option linter.unusedVariables false
theorem empty_toList : (⟨#[]⟩ : ByteArray).toList = [] := by rw [ByteArray.toList_eq]
theorem bytes_ne {d : ByteArray} (h : d ≠ ⟨#[]⟩) : d.toList.isEmpty = false := by
  rw [Bool.eq_false_iff]
  intro e
  apply h
  exact toList_inj ((List.isEmpty_iff.1 e).trans empty_toList.symm)
theorem total_ge : ∀ (l : List S52) (i : Nat), i < l.length → (rd_T52 l (i : Int)).f1.size ≤ total l
  | [], i, h => by simp at h
  | x :: l, 0, _ => by
    show x.f1.size ≤ x.f1.size + total l
    omega
  | x :: l, i + 1, h => by
    have := total_ge l i (by simpa using h)
    have e : rd_T52 (x :: l) ((i + 1 : Nat) : Int) = rd_T52 l (i : Int) := by
      show (x :: l).getD ((i + 1 : Nat) : Int).toNat z52 = l.getD (i : Int).toNat z52
      rw [Int.toNat_natCast, Int.toNat_natCast]
      rfl
    rw [e]
    show _ ≤ x.f1.size + total l
    omega
def appendN (l : List S52) (d : ByteArray) : Int := (total l : Int) + (d.size : Int)
def appendOp (l : List S52) (q : Int) (s d : ByteArray) : List S52 × Int :=
  if there l s = true then (if appendN l d > 1048576 then (l, 4) else if d ≠ ⟨#[]⟩ ∧ appendN l d > q then (l, 3) else (l.set (pos l s) ⟨(rd_T52 l (pos l s : Int)).f0, (rd_T52 l (pos l s : Int)).f1 ++ d, (rd_T52 l (pos l s : Int)).f2⟩, 0)) else (l, 1)
def appendRes (l : List S52) (q f : Int) (s d : ByteArray) : List S52 × Int := stepOf f [s] l (appendOp l q s d)

set_option maxRecDepth 100000 in
set_option maxHeartbeats 4000000 in
theorem append_call (w0 w : World) (g : Nat) (v : Value) (l : List S52) (q f : Int) (s d : ByteArray) (h : FsAt w0 w g v l q f) (hf : -1 ≤ f) (hf2 : f ≤ 9223372036854775807) (hl : l.length ≤ 200) (hs : Sorted l) (hd : d.size ≤ 140737488355328) (htl : total l ≤ 1048576) :
    Calls Try.prog 62 #[.pointer (some ⟨g, 0, none⟩), .string s, .string d] w fun e w' => Stepped w0 w g v (appendRes l q f s d) q f e w' := by
  unfold appendRes
  have hu29 := Try.underlying29
  have hu52 := Try.underlying52
  have hb0 : Below w.heap.size w (w.alloc (.cells #[.string s] 9)) := (Below.refl _ _).alloc (Nat.le_refl _) _
  have hg := blk_lt h.blk
  have hbc := begin_call w0 (w.alloc (.cells #[.string s] 9)) g v l q f (some ⟨w.heap.size, 0, none⟩) 1 [s] (h.below hb0) (names1 w s) hf hf2 (by simp) (fun ad e => by injection e with e; subst e; show w.heap.size ≠ g; omega)
  change Calls _ _ _ _ (fun e w' => e = .returned (.int .i64 (stepCode f [s])) ∧ _) at hbc
  have K0 := Keeps.of_below (g := g) (v := v) hb0
  rcases stepCode_cases f [s] with ⟨h0, _, _⟩ | h8 | h2
  · have hop : stepOf f [s] l (appendOp l q s d) = appendOp l q s d := by unfold stepOf; rw [if_pos h0]
    rw [hop]
    rw [h0] at hbc
    have HBC := Aside0.mk hbc
    have HK0 := Aside0.mk K0
    have HS := Aside0.mk hs
    clear hbc K0 hb0 hop h0 h hs
    unfold appendOp
    by_cases ht : there l s = true
    · have HT := Aside0.mk ht
      have hlt := there_lt ht
      clear ht
      rw [if_pos HT.out]
      by_cases n4 : appendN l d > 1048576
      · rw [if_pos n4]
        have m4 : decide (1048576 < ((total l : Int) + (d.size : Int))) = true := decide_eq_true n4
        clear n4
        go_enter Try.func62, Try.ntmps62
        go_wp2_with fail
        refine HBC.out.mono ?_
        rintro e w1 ⟨rfl, h1, k1⟩
        obtain ⟨A, c, rfl, hc, hC, hL⟩ := h1.lies
        have HF := Aside0.mk (find_call g A c l q _ s w1 hL hC hl HS.out)
        have H1 := Aside0.mk h1
        have K1 := Aside0.mk (HK0.out.trans k1 (.inl rfl))
        clear h1 k1 hC hL
        go_wp2_with fail
        refine HF.out.mono ?_
        rw [HT.out]
        rintro e w2 ⟨rfl, hb⟩
        have h2 := H1.out.below hb
        have K2 := Aside0.mk (K1.out.trans (Keeps.of_below hb) (.inl rfl))
        have H2 := Aside0.mk h2
        have g0 := blk_cell h2.blk 0
        have g1 := blk_cell h2.blk 1
        have g2 := blk_cell h2.blk 2
        have HTC := Aside0.mk (show Calls Try.prog 45 #[.agg #[.slice A l.length c, .int .i64 q, .int .i64 (fuel' f)]] w2 fun e w' => e = .returned (.int .i64 (total l : Int)) ∧ Below w2.heap.size w2 w' from by
          obtain ⟨A', c', e', hc', hC', hL'⟩ := h2.lies
          injection e' with e1 e2 e3
          subst e1; subst e3
          exact total_call l A c q (fuel' f) w2 hC' hc' (by omega) hl)
        clear h2 hb
        go_wp2_with fail
        refine HTC.out.mono ?_
        rintro e w3 ⟨rfl, hb⟩
        have h3 := H2.out.below hb
        have K3 := Aside0.mk (K2.out.trans (Keeps.of_below hb) (.inl rfl))
        have H3 := Aside0.mk h3
        have r1 := blk_cell h3.blk 1
        have r0 := blk_cell h3.blk 0
        clear g0 g1 g2
        clear h3 hb
        go_wp2
        go_ret
        exact ⟨_, rfl, H3.out, K3.out⟩
      · rw [if_neg n4]
        have m4 : decide (1048576 < ((total l : Int) + (d.size : Int))) = false := decide_eq_false n4
        clear n4
        by_cases z : d = ⟨#[]⟩
        · rw [if_neg (fun h => h.1 z)]
          have HZ := Aside0.mk z
          have z1 : d.toList.isEmpty = true := by rw [z, empty_toList]; rfl
          have z2 : (!d.toList.isEmpty) = false := by rw [z1]; rfl
          clear z
          go_enter Try.func62, Try.ntmps62
          go_wp2_with fail
          refine HBC.out.mono ?_
          rintro e w1 ⟨rfl, h1, k1⟩
          obtain ⟨A, c, rfl, hc, hC, hL⟩ := h1.lies
          have HF := Aside0.mk (find_call g A c l q _ s w1 hL hC hl HS.out)
          have H1 := Aside0.mk h1
          have K1 := Aside0.mk (HK0.out.trans k1 (.inl rfl))
          clear h1 k1 hC hL
          go_wp2_with fail
          refine HF.out.mono ?_
          rw [HT.out]
          rintro e w2 ⟨rfl, hb⟩
          have h2 := H1.out.below hb
          have K2 := Aside0.mk (K1.out.trans (Keeps.of_below hb) (.inl rfl))
          have H2 := Aside0.mk h2
          have g0 := blk_cell h2.blk 0
          have g1 := blk_cell h2.blk 1
          have g2 := blk_cell h2.blk 2
          have HTC := Aside0.mk (show Calls Try.prog 45 #[.agg #[.slice A l.length c, .int .i64 q, .int .i64 (fuel' f)]] w2 fun e w' => e = .returned (.int .i64 (total l : Int)) ∧ Below w2.heap.size w2 w' from by
            obtain ⟨A', c', e', hc', hC', hL'⟩ := h2.lies
            injection e' with e1 e2 e3
            subst e1; subst e3
            exact total_call l A c q (fuel' f) w2 hC' hc' (by omega) hl)
          clear h2 hb
          go_wp2_with fail
          refine HTC.out.mono ?_
          rintro e w3 ⟨rfl, hb⟩
          have h3 := H2.out.below hb
          have K3 := Aside0.mk (K2.out.trans (Keeps.of_below hb) (.inl rfl))
          have H3 := Aside0.mk h3
          have r1 := blk_cell h3.blk 1
          have r0 := blk_cell h3.blk 0
          clear g0 g1 g2
          clear h3 hb
          have HIX := Aside0.mk hlt
          obtain ⟨b, c', hv, hbb, e0, e1, e2, ez, es2, es1, es3⟩ := row_elem H3.out.row (pos l s) hlt
          injection hv with hv1 hv2 hv3
          subst hv1; subst hv3
          have ES := Aside0.mk es1
          have ez1 := ez 1
          have hne : b ≠ g := fun hh => by
            obtain ⟨cells, hc'⟩ := Kd.R_typed H3.out.row b (by simp [Value.ownBlock])
            rw [hh, H3.out.blk] at hc'
            injection hc' with hc'
            injection hc' with _ hc'
            exact absurd hc' (by decide)
          have HNE := Aside0.mk hne
          clear es1 es2 es3 ez hbb hne
          generalize hp : pos l s = p at hlt e0 e1 e2 ez1 ES ⊢
          generalize hx : rd_T52 l (p : Int) = x at e0 e1 e2 ES
          have hx1 : x.f1.size ≤ 1048576 := by
            rw [← hx]
            exact Nat.le_trans (total_ge l _ hlt) htl
          have hlt1 : ((p : Nat) : Int) < (l.length : Int) := by omega
          have hp0 : 0 ≤ ((p : Nat) : Int) := by omega
          have HP := Aside0.mk hp
          have HX := Aside0.mk hx
          clear hx hp
          go_wp2
          go_ret
          refine ⟨.slice (some ⟨b, 0, none⟩) l.length c, rfl, ?_, (K3.out.trans (Keeps.put w3 g b l.length c _ _) (.inl rfl))⟩
          rw [HP.out, HX.out]
          exact (H3.out.put HNE.out (ES.out _))
        · have z1 : d.toList.isEmpty = false := bytes_ne z
          have z2 : (!d.toList.isEmpty) = true := by rw [z1]; rfl
          by_cases n3 : appendN l d > q
          · rw [if_pos ⟨z, n3⟩]
            have m3 : decide (q < ((total l : Int) + (d.size : Int))) = true := decide_eq_true n3
            clear n3 z
            go_enter Try.func62, Try.ntmps62
            go_wp2_with fail
            refine HBC.out.mono ?_
            rintro e w1 ⟨rfl, h1, k1⟩
            obtain ⟨A, c, rfl, hc, hC, hL⟩ := h1.lies
            have HF := Aside0.mk (find_call g A c l q _ s w1 hL hC hl HS.out)
            have H1 := Aside0.mk h1
            have K1 := Aside0.mk (HK0.out.trans k1 (.inl rfl))
            clear h1 k1 hC hL
            go_wp2_with fail
            refine HF.out.mono ?_
            rw [HT.out]
            rintro e w2 ⟨rfl, hb⟩
            have h2 := H1.out.below hb
            have K2 := Aside0.mk (K1.out.trans (Keeps.of_below hb) (.inl rfl))
            have H2 := Aside0.mk h2
            have g0 := blk_cell h2.blk 0
            have g1 := blk_cell h2.blk 1
            have g2 := blk_cell h2.blk 2
            have HTC := Aside0.mk (show Calls Try.prog 45 #[.agg #[.slice A l.length c, .int .i64 q, .int .i64 (fuel' f)]] w2 fun e w' => e = .returned (.int .i64 (total l : Int)) ∧ Below w2.heap.size w2 w' from by
              obtain ⟨A', c', e', hc', hC', hL'⟩ := h2.lies
              injection e' with e1 e2 e3
              subst e1; subst e3
              exact total_call l A c q (fuel' f) w2 hC' hc' (by omega) hl)
            clear h2 hb
            go_wp2_with fail
            refine HTC.out.mono ?_
            rintro e w3 ⟨rfl, hb⟩
            have h3 := H2.out.below hb
            have K3 := Aside0.mk (K2.out.trans (Keeps.of_below hb) (.inl rfl))
            have H3 := Aside0.mk h3
            have r1 := blk_cell h3.blk 1
            have r0 := blk_cell h3.blk 0
            clear g0 g1 g2
            clear h3 hb
            go_wp2
            go_ret
            exact ⟨_, rfl, H3.out, K3.out⟩
          · rw [if_neg (fun h => n3 h.2)]
            have m3 : decide (q < ((total l : Int) + (d.size : Int))) = false := decide_eq_false n3
            clear n3 z
            go_enter Try.func62, Try.ntmps62
            go_wp2_with fail
            refine HBC.out.mono ?_
            rintro e w1 ⟨rfl, h1, k1⟩
            obtain ⟨A, c, rfl, hc, hC, hL⟩ := h1.lies
            have HF := Aside0.mk (find_call g A c l q _ s w1 hL hC hl HS.out)
            have H1 := Aside0.mk h1
            have K1 := Aside0.mk (HK0.out.trans k1 (.inl rfl))
            clear h1 k1 hC hL
            go_wp2_with fail
            refine HF.out.mono ?_
            rw [HT.out]
            rintro e w2 ⟨rfl, hb⟩
            have h2 := H1.out.below hb
            have K2 := Aside0.mk (K1.out.trans (Keeps.of_below hb) (.inl rfl))
            have H2 := Aside0.mk h2
            have g0 := blk_cell h2.blk 0
            have g1 := blk_cell h2.blk 1
            have g2 := blk_cell h2.blk 2
            have HTC := Aside0.mk (show Calls Try.prog 45 #[.agg #[.slice A l.length c, .int .i64 q, .int .i64 (fuel' f)]] w2 fun e w' => e = .returned (.int .i64 (total l : Int)) ∧ Below w2.heap.size w2 w' from by
              obtain ⟨A', c', e', hc', hC', hL'⟩ := h2.lies
              injection e' with e1 e2 e3
              subst e1; subst e3
              exact total_call l A c q (fuel' f) w2 hC' hc' (by omega) hl)
            clear h2 hb
            go_wp2_with fail
            refine HTC.out.mono ?_
            rintro e w3 ⟨rfl, hb⟩
            have h3 := H2.out.below hb
            have K3 := Aside0.mk (K2.out.trans (Keeps.of_below hb) (.inl rfl))
            have H3 := Aside0.mk h3
            have r1 := blk_cell h3.blk 1
            have r0 := blk_cell h3.blk 0
            clear g0 g1 g2
            clear h3 hb
            have HIX := Aside0.mk hlt
            obtain ⟨b, c', hv, hbb, e0, e1, e2, ez, es2, es1, es3⟩ := row_elem H3.out.row (pos l s) hlt
            injection hv with hv1 hv2 hv3
            subst hv1; subst hv3
            have ES := Aside0.mk es1
            have ez1 := ez 1
            have hne : b ≠ g := fun hh => by
              obtain ⟨cells, hc'⟩ := Kd.R_typed H3.out.row b (by simp [Value.ownBlock])
              rw [hh, H3.out.blk] at hc'
              injection hc' with hc'
              injection hc' with _ hc'
              exact absurd hc' (by decide)
            have HNE := Aside0.mk hne
            clear es1 es2 es3 ez hbb hne
            generalize hp : pos l s = p at hlt e0 e1 e2 ez1 ES ⊢
            generalize hx : rd_T52 l (p : Int) = x at e0 e1 e2 ES
            have hx1 : x.f1.size ≤ 1048576 := by
              rw [← hx]
              exact Nat.le_trans (total_ge l _ hlt) htl
            have hlt1 : ((p : Nat) : Int) < (l.length : Int) := by omega
            have hp0 : 0 ≤ ((p : Nat) : Int) := by omega
            have HP := Aside0.mk hp
            have HX := Aside0.mk hx
            clear hx hp
            go_wp2
            go_ret
            refine ⟨.slice (some ⟨b, 0, none⟩) l.length c, rfl, ?_, (K3.out.trans (Keeps.put w3 g b l.length c _ _) (.inl rfl))⟩
            rw [HP.out, HX.out]
            exact (H3.out.put HNE.out (ES.out _))
    · rw [if_neg ht]
      have ht := Bool.eq_false_iff.2 ht
      have HT := Aside0.mk ht
      clear ht
      go_enter Try.func62, Try.ntmps62
      go_wp2_with fail
      refine HBC.out.mono ?_
      rintro e w1 ⟨rfl, h1, k1⟩
      obtain ⟨A, c, rfl, hc, hC, hL⟩ := h1.lies
      have HF := Aside0.mk (find_call g A c l q _ s w1 hL hC hl HS.out)
      have H1 := Aside0.mk h1
      have K1 := Aside0.mk (HK0.out.trans k1 (.inl rfl))
      clear h1 k1 hC hL
      go_wp2_with fail
      refine HF.out.mono ?_
      rw [HT.out]
      rintro e w2 ⟨rfl, hb⟩
      have h2 := H1.out.below hb
      have K2 := Aside0.mk (K1.out.trans (Keeps.of_below hb) (.inl rfl))
      have H2 := Aside0.mk h2
      have g0 := blk_cell h2.blk 0
      have g1 := blk_cell h2.blk 1
      have g2 := blk_cell h2.blk 2
      have HTC := Aside0.mk (show Calls Try.prog 45 #[.agg #[.slice A l.length c, .int .i64 q, .int .i64 (fuel' f)]] w2 fun e w' => e = .returned (.int .i64 (total l : Int)) ∧ Below w2.heap.size w2 w' from by
        obtain ⟨A', c', e', hc', hC', hL'⟩ := h2.lies
        injection e' with e1 e2 e3
        subst e1; subst e3
        exact total_call l A c q (fuel' f) w2 hC' hc' (by omega) hl)
      clear h2 hb
      go_wp2_with fail
      refine HTC.out.mono ?_
      rintro e w3 ⟨rfl, hb⟩
      have h3 := H2.out.below hb
      have K3 := Aside0.mk (K2.out.trans (Keeps.of_below hb) (.inl rfl))
      have H3 := Aside0.mk h3
      have r1 := blk_cell h3.blk 1
      have r0 := blk_cell h3.blk 0
      clear g0 g1 g2
      clear h3 hb
      go_wp2
      go_ret
      exact ⟨_, rfl, H3.out, K3.out⟩
  · have hop : stepOf f [s] l (appendOp l q s d) = (l, 8) := by unfold stepOf; rw [h8, if_neg (by omega)]
    rw [hop]
    rw [h8] at hbc
    have HBC := Aside0.mk hbc
    have HK0 := Aside0.mk K0
    clear hbc K0 hb0 hop h8 h hs
    go_enter Try.func62, Try.ntmps62
    go_wp2_with fail
    refine HBC.out.mono ?_
    rintro e w1 ⟨rfl, h1, k1⟩
    go_wp2
    go_ret
    exact ⟨_, rfl, h1, HK0.out.trans k1 (.inl rfl)⟩
  · have hop : stepOf f [s] l (appendOp l q s d) = (l, 2) := by unfold stepOf; rw [h2, if_neg (by omega)]
    rw [hop]
    rw [h2] at hbc
    have HBC := Aside0.mk hbc
    have HK0 := Aside0.mk K0
    clear hbc K0 hb0 hop h2 h hs
    go_enter Try.func62, Try.ntmps62
    go_wp2_with fail
    refine HBC.out.mono ?_
    rintro e w1 ⟨rfl, h1, k1⟩
    go_wp2
    go_ret
    exact ⟨_, rfl, h1, HK0.out.trans k1 (.inl rfl)⟩
end Go.Proofs.Ytbppijlcmeidaaa.M
end

/- Texts of the claim FnExactFsRemove, part 28 of 34, joined: MWalkValid, MFind, MFsFind, MClone, MBegin, MSync, MRow, MDelete, MRemove, MRes, MFsRemove, PimplFsRemove, PlawsmarkText. No condition beyond those that stand at each. -/
import Derived.Test.YtbppijlcmeidaaaZFnExactFsRemove27
import Derived.Deep.QuietTactic
import Derived.BigQuiet
import Derived.WalkLawsBesides
import Derived.WalkSpells
import Derived.Deep.LoopGhost
import Derived.RegionTactic
import Derived.ChangeAlike
import Derived.BigRegion
import Derived.Laws.CopyRow
import Derived.Laws.CopyOwn
import Derived.Deep.RegionLaw
import Derived.Test.YtbppijlcmeidaaaZFnExactFsRemove25
section
/- The program's ValidFS, walked: it answers validB of the directory. Condition: the sizes of the Data add up to a number of 63 bits. -/
namespace Go.Proofs.Ytbppijlcmeidaaa.M
open Go.RowKit Go.Proofs.Ytbppijlcmeidaaa.P Go.Proofs.YtbppijlcmeidaaaW.PrintWords Go.Proofs.YtbppijlcmeidaaaW.PrintLast Go.Proofs.YtbppijlcmeidaaaW.PrintMore
set_option linter.unusedVariables false

theorem dec_size (s : ByteArray) (n : Nat) : decide ((s.size : Int) ≤ (n : Int)) = decide (s.size ≤ n) := by
  by_cases c : s.size ≤ n
  · rw [decide_eq_true c, decide_eq_true (by omega)]
  · rw [decide_eq_false c, decide_eq_false (by omega)]
theorem dec_nat (m n : Nat) : decide ((m : Int) ≤ (n : Int)) = decide (m ≤ n) := by
  by_cases c : m ≤ n
  · rw [decide_eq_true c, decide_eq_true (by omega)]
  · rw [decide_eq_false c, decide_eq_false (by omega)]
theorem ret_bool {a b : Bool} (h : a = b) : Ending.returned (.bool a) = Ending.returned (.bool b) := by rw [h]
theorem nameFine_any (s : ByteArray) (w : World) : Calls Try.prog 44 #[.string s] w fun e w' => e = .returned (.bool (nameOk s)) ∧ w' = w := by
  unfold nameOk
  by_cases c1 : 1 ≤ s.size
  · rw [decide_eq_true c1, Bool.true_and]
    have h1 : decide (1 ≤ s.size) = true := decide_eq_true c1
    go_enter Try.func44, Try.ntmps44
    go_wp2
    go_ret
    exact ⟨ret_bool (dec_size s 120), rfl⟩
  · rw [decide_eq_false c1, Bool.false_and]
    have h1 : decide (1 ≤ s.size) = false := decide_eq_false c1
    go_enter Try.func44, Try.ntmps44
    go_wp2
    go_ret
    exact ⟨rfl, rfl⟩
theorem nameFine_yes (s : ByteArray) (w : World) (h : nameOk s = true) : Calls Try.prog 44 #[.string s] w fun e w' => e = .returned (.bool true) ∧ w' = w := by
  have := nameFine_any s w
  rwa [h] at this
theorem nameFine_no (s : ByteArray) (w : World) (h : nameOk s = false) : Calls Try.prog 44 #[.string s] w fun e w' => e = .returned (.bool false) ∧ w' = w := by
  have := nameFine_any s w
  rwa [h] at this

theorem rdi52 (l : List S52) (i : Int) (h0 : 0 ≤ i) (h : i < (l.length : Int)) : rd_T52 l i = l[i.toNat]'(by omega) := by
  unfold rd_T52; exact getD_at l i.toNat z52 (by omega)
theorem okStep (l : List S52) (i : Int) (h0 : 0 ≤ i) (h : i < (l.length : Int)) : okFrom (prev l i.toNat) (l.drop i.toNat) = (fileOk (rd_T52 l i) && (match prev l i.toNat with | none => true | some b => lss b (rd_T52 l i).f0) && okFrom (prev l (i + 1).toNat) (l.drop (i + 1).toNat)) := by
  rw [rdi52 l i h0 h, drop_at l i.toNat (by omega), okFrom_cons, show (i + 1).toNat = i.toNat + 1 by omega, prev_succ l i.toNat (by omega)]
  cases prev l i.toNat <;> rfl
theorem prev_zero (l : List S52) : prev l 0 = none := rfl
theorem prev_pos (l : List S52) (i : Int) (h0 : 0 < i) (h : i < (l.length : Int)) : prev l i.toNat = some (rd_T52 l (i - 1)).f0 := by
  rw [rdi52 l (i - 1) (by omega) (by omega)]
  unfold prev
  rw [if_neg (by omega), getD_at l (i.toNat - 1) z52 (by omega)]
  congr 3
  omega
theorem total_call (l : List S52) (A : Option Addr) (c : Nat) (q f : Int) (w : World) (hr : Kd.C k52 w A l.length l) (hc : l.length ≤ c) (ht : total l ≤ 9223372036854775000) (hl : l.length ≤ 200) :
    Calls Try.prog 45 #[.agg #[.slice A l.length c, .int .i64 q, .int .i64 f]] w fun e w' => e = .returned (.int .i64 (total l : Int)) ∧ Below w.heap.size w w' := by
  have h : ∀ d i : Nat, i + d = l.length → Ev (fun k => impl_total.l0 k (total (l.take i) : Int) l (l.length : Int) (i : Int)) (total l : Int) := by
    intro d
    induction d with
    | zero =>
      intro i hi
      refine Ev.step (f := fun _ => some (total (l.take i) : Int)) (fun k => ?_) ?_
      · rw [impl_total.l0, if_neg (by omega)]
      · rw [List.take_of_length_le (by omega)]; exact Ev.now _
    | succ d ih =>
      intro i hi
      have hlt : i < l.length := by omega
      have h1 := total_take_succ l i hlt
      have h2 := total_take_le l (i + 1)
      refine Ev.step (fun k => ?_) (ih (i + 1) (by omega))
      rw [impl_total.l0, if_pos (by omega), if_pos (by omega), if_pos (by omega), rd52 l i hlt, wrap_succ (by omega), wrap_ok (by omega) (by omega), h1]
      rfl
  obtain ⟨k, hk⟩ := Ev.rounds (h l.length 0 (by omega))
  exact impl_total.calls k A c l q f (total l : Int) w hr hc hk

/-- What a round of the loop needs of the world. -/
def VInv (w wr : World) (A : Option Addr) (c : Nat) (l : List S52) (q f : Int) : Prop :=
  wr.heap[w.heap.size]? = some (.cells #[.slice A l.length c, .int .i64 q, .int .i64 f] 29 (0, 0)) ∧ Below w.heap.size w wr
theorem vinv_next {w wr : World} {A : Option Addr} {c : Nat} {l : List S52} {q f : Int} (h : VInv w wr A c l q f) (o : Obj) (n : Nat) : VInv w ((wr.alloc o).drewN n) A c l q f :=
  ⟨blk_drewN (blk_alloc h.1 _) _, pw_below_drewN (h.2.alloc h.2.size _) _⟩

set_option maxHeartbeats 4000000 in
set_option maxRecDepth 100000 in
theorem valid_walk (A : Option Addr) (c : Nat) (l : List S52) (q f : Int) (w : World) (hr : Kd.C k52 w A l.length l) (hc : l.length ≤ c) (h1 : l.length ≤ 200) (h2 : 0 ≤ q) (h3 : q ≤ 1048576) (h4 : -1 ≤ f) (ht : total l ≤ 9223372036854775000) :
    Calls Try.prog 15 #[.agg #[.slice A l.length c, .int .i64 q, .int .i64 f]] w fun e w' => e = .returned (.bool (okFrom none l && decide (total l ≤ 1048576))) ∧ Below w.heap.size w w' := by
  have HR := Aside0.mk hr
  have HT := Aside0.mk ht
  clear hr ht
  have hu29 := Try.underlying29
  have hu52 := Try.underlying52
  generalize hVV : (okFrom none l && decide (total l ≤ 1048576)) = VV
  have HVV := Aside0.mk hVV
  clear hVV
  go_enter Try.func15, Try.ntmps15
  go_wp2
  go_loopw [27] (fun v wr => ∃ i : Int, 0 ≤ i ∧ i ≤ (l.length : Int) ∧ v = .int .i64 i ∧ Aside0 (VInv w wr A c l q f) ∧ Aside0 (VV = (okFrom (prev l i.toNat) (l.drop i.toNat) && decide (total l ≤ 1048576)))) (fun v _ => l.length - (intOf v).toNat)
  case atStart => exact ⟨0, by omega, by omega, rfl, ⟨heap_alloc_new _ _, (Below.refl _ _).alloc (Nat.le_refl _) _⟩, ⟨HVV.out.symm⟩⟩
  case round =>
    obtain ⟨i, hi0, hi1, rfl, HI, HV⟩ := hrel
    by_cases hlt : i < (l.length : Int)
    · obtain ⟨ad, hA, hx0, hx1, hx2⟩ := at_T52 HR.out i hi0 hlt
      have hx0 := (HI.out.2.cell (World.block_lt_of_cell? w _ hx0)).trans hx0
      have hx1 := (HI.out.2.cell (World.block_lt_of_cell? w _ hx1)).trans hx1
      have hx2 := (HI.out.2.cell (World.block_lt_of_cell? w _ hx2)).trans hx2
      subst hA
      have hb0 : wr.cell? ⟨w.heap.size, 0, none⟩ = some (.slice (some ad) l.length c) := (blk_cell HI.out.1 0).trans rfl
      have hlt' := decide_eq_true hlt
      have HS := Aside0.mk (okStep l i hi0 hlt)
      by_cases n1 : nameOk (rd_T52 l i).f0 = true
      · have N1 := Aside0.mk n1
        clear n1
        by_cases z : i = 0
        · have hz : decide (0 < i) = false := decide_eq_false (by omega)
          have HP := Aside0.mk (show prev l i.toNat = none by rw [z]; rfl)
          clear z
          by_cases s1 : (rd_T52 l i).f2 < 0
          · have hs1 := decide_eq_true s1
            have F := Aside0.mk (show VV = false by rw [HV.out, HS.out]; unfold fileOk; rw [decide_eq_false (show ¬ 0 ≤ (rd_T52 l i).f2 by omega), Bool.and_false, Bool.false_and, Bool.false_and, Bool.false_and, Bool.false_and])
            clear s1
            go_wp2
            go_quiet ((go_at_call 44; exact Calls.quiet_of_same (nameFine_yes _ _ N1.out)))
            go_wp2
            go_ret
            exact ⟨ret_bool F.out.symm, (vinv_next HI.out _ _).2⟩
          · have hs1 : decide ((rd_T52 l i).f2 < 0) = false := decide_eq_false s1
            by_cases s2 : ((rd_T52 l i).f1.size : Int) < (rd_T52 l i).f2
            · have hs2 := decide_eq_true s2
              have F := Aside0.mk (show VV = false by rw [HV.out, HS.out]; unfold fileOk; rw [decide_eq_false (show ¬ (rd_T52 l i).f2 ≤ ((rd_T52 l i).f1.size : Int) by omega), Bool.and_false, Bool.false_and, Bool.false_and, Bool.false_and])
              clear s1 s2
              go_wp2
              go_quiet ((go_at_call 44; exact Calls.quiet_of_same (nameFine_yes _ _ N1.out)))
              go_wp2
              go_ret
              exact ⟨ret_bool F.out.symm, (vinv_next HI.out _ _).2⟩
            · have hs2 : decide (((rd_T52 l i).f1.size : Int) < (rd_T52 l i).f2) = false := decide_eq_false s2
              have F := Aside0.mk (show VV = (okFrom (prev l (i + 1).toNat) (l.drop (i + 1).toNat) && decide (total l ≤ 1048576)) by rw [HV.out, HS.out, HP.out]; unfold fileOk; rw [N1.out, decide_eq_true (show 0 ≤ (rd_T52 l i).f2 by omega), decide_eq_true (show (rd_T52 l i).f2 ≤ ((rd_T52 l i).f1.size : Int) by omega)]; rfl)
              clear s1 s2
              go_wp2
              go_quiet ((go_at_call 44; exact Calls.quiet_of_same (nameFine_yes _ _ N1.out)))
              go_wp2
              go_roundw
              case rel => exact ⟨i + 1, by omega, by omega, rfl, ⟨vinv_next HI.out _ _⟩, F⟩
              case measure => simp [intOf]; omega
        · have hz : decide (0 < i) = true := decide_eq_true (by omega)
          have HP := Aside0.mk (prev_pos l i (by omega) hlt)
          have hj0 : 0 ≤ i - 1 := by omega
          have hj1 : i - 1 < (l.length : Int) := by omega
          have hj2 : 1 ≤ i := by omega
          have hw : IntKind.i64.wrap (i - 1) = i - 1 := IntWalk.i64_in _ (by omega)
          obtain ⟨ad', hA', hy0, _, _⟩ := at_T52 HR.out (i - 1) hj0 hj1
          have hy0 := (HI.out.2.cell (World.block_lt_of_cell? w _ hy0)).trans hy0
          obtain rfl := Option.some.inj hA'
          clear hA'
          rw [show (i - 1).toNat = i.toNat - 1 by omega] at hy0
          have hy0 : ∀ o, (wr.alloc o).cell? (ad.add ((i.toNat - 1) * 3)) = some (.string (rd_T52 l (i - 1)).f0) := fun o => (World.cell?_alloc_lt _ _ _ (World.block_lt_of_cell? wr _ hy0)).trans hy0
          have hb1 : ∀ o, (wr.alloc o).cell? ⟨w.heap.size, 0, none⟩ = some (.slice (some ad) l.length c) := fun o => (World.cell?_alloc_lt _ _ _ (World.block_lt_of_cell? wr _ hb0)).trans hb0
          by_cases g : lss (rd_T52 l (i - 1)).f0 (rd_T52 l i).f0 = true
          · have hg : Op.bytesLess (rd_T52 l (i - 1)).f0.toList (rd_T52 l i).f0.toList = true := g
            have G := Aside0.mk g
            clear g
            by_cases s1 : (rd_T52 l i).f2 < 0
            · have hs1 := decide_eq_true s1
              have F := Aside0.mk (show VV = false by rw [HV.out, HS.out]; unfold fileOk; rw [decide_eq_false (show ¬ 0 ≤ (rd_T52 l i).f2 by omega), Bool.and_false, Bool.false_and, Bool.false_and, Bool.false_and, Bool.false_and])
              clear s1
              go_wp2
              go_quiet ((go_at_call 44; exact Calls.quiet_of_same (nameFine_yes _ _ N1.out)))
              go_wp2
              go_ret
              exact ⟨ret_bool F.out.symm, (vinv_next HI.out _ _).2⟩
            · have hs1 : decide ((rd_T52 l i).f2 < 0) = false := decide_eq_false s1
              by_cases s2 : ((rd_T52 l i).f1.size : Int) < (rd_T52 l i).f2
              · have hs2 := decide_eq_true s2
                have F := Aside0.mk (show VV = false by rw [HV.out, HS.out]; unfold fileOk; rw [decide_eq_false (show ¬ (rd_T52 l i).f2 ≤ ((rd_T52 l i).f1.size : Int) by omega), Bool.and_false, Bool.false_and, Bool.false_and, Bool.false_and])
                clear s1 s2
                go_wp2
                go_quiet ((go_at_call 44; exact Calls.quiet_of_same (nameFine_yes _ _ N1.out)))
                go_wp2
                go_ret
                exact ⟨ret_bool F.out.symm, (vinv_next HI.out _ _).2⟩
              · have hs2 : decide (((rd_T52 l i).f1.size : Int) < (rd_T52 l i).f2) = false := decide_eq_false s2
                have F := Aside0.mk (show VV = (okFrom (prev l (i + 1).toNat) (l.drop (i + 1).toNat) && decide (total l ≤ 1048576)) by
                  rw [HV.out, HS.out, HP.out]
                  show ((fileOk _ && lss _ _ && _) && _) = _
                  unfold fileOk
                  rw [G.out, N1.out, decide_eq_true (show 0 ≤ (rd_T52 l i).f2 by omega), decide_eq_true (show (rd_T52 l i).f2 ≤ ((rd_T52 l i).f1.size : Int) by omega)]
                  rfl)
                clear s1 s2
                go_wp2
                go_quiet ((go_at_call 44; exact Calls.quiet_of_same (nameFine_yes _ _ N1.out)))
                go_wp2
                go_roundw
                case rel => exact ⟨i + 1, by omega, by omega, rfl, ⟨vinv_next HI.out _ _⟩, F⟩
                case measure => simp [intOf]; omega
          · have hg : Op.bytesLess (rd_T52 l (i - 1)).f0.toList (rd_T52 l i).f0.toList = false := Bool.eq_false_iff.2 g
            have F := Aside0.mk (show VV = false by
              rw [HV.out, HS.out, HP.out]
              show ((_ && lss _ _ && _) && _) = _
              rw [Bool.eq_false_iff.2 g, Bool.and_false, Bool.false_and, Bool.false_and])
            clear g
            go_wp2
            go_quiet ((go_at_call 44; exact Calls.quiet_of_same (nameFine_yes _ _ N1.out)))
            go_wp2
            go_ret
            exact ⟨ret_bool F.out.symm, (vinv_next HI.out _ _).2⟩
      · have n1 : nameOk (rd_T52 l i).f0 = false := Bool.eq_false_iff.2 n1
        have F := Aside0.mk (show VV = false by rw [HV.out, HS.out]; unfold fileOk; rw [n1]; simp)
        have N1 := Aside0.mk n1
        clear n1
        go_wp2
        go_quiet ((go_at_call 44; exact Calls.quiet_of_same (nameFine_no _ _ N1.out)))
        go_wp2
        go_ret
        exact ⟨ret_bool F.out.symm, (vinv_next HI.out _ _).2⟩
    · have hi : i = l.length := by omega
      have F := Aside0.mk (show VV = decide (total l ≤ 1048576) by rw [HV.out, hi, Int.toNat_natCast, List.drop_length]; cases prev l l.length <;> simp [okFrom])
      have hlt' : decide (i < (l.length : Int)) = false := decide_eq_false hlt
      have hb0 : wr.cell? ⟨w.heap.size, 0, none⟩ = some (.slice A l.length c) := (blk_cell HI.out.1 0).trans rfl
      have hb1 : wr.cell? ⟨w.heap.size, 1, none⟩ = some (.int .i64 q) := (blk_cell HI.out.1 1).trans rfl
      have hb2 : wr.cell? ⟨w.heap.size, 2, none⟩ = some (.int .i64 f) := (blk_cell HI.out.1 2).trans rfl
      have HC := Aside0.mk (total_call l A c q f wr (Kd.C_below HR.out HI.out.2) hc HT.out h1)
      clear hi
      go_wp2_with (go_at_call 45; refine HC.out.mono ?_; rintro e w' ⟨rfl, hb⟩)
      go_ret
      exact ⟨by rw [F.out]; exact ret_bool (dec_nat _ 1048576), HI.out.2.trans (hb.mono HI.out.2.size)⟩

def ValidFits (l : List S52) : Prop := l.length ≤ 200 → total l ≤ 9223372036854775000
set_option maxHeartbeats 2000000 in
set_option maxRecDepth 100000 in
theorem valid_any (A : Option Addr) (c : Nat) (l : List S52) (q f : Int) (w : World) (hr : Kd.C k52 w A l.length l) (hc : l.length ≤ c) (ht : ValidFits l) :
    Calls Try.prog 15 #[.agg #[.slice A l.length c, .int .i64 q, .int .i64 f]] w fun e w' => e = .returned (.bool (validB l q f)) ∧ Below w.heap.size w w' := by
  unfold validB
  by_cases c1 : l.length ≤ 200
  · by_cases c2 : 0 ≤ q
    · by_cases c3 : q ≤ 1048576
      · by_cases c4 : -1 ≤ f
        · rw [decide_eq_true c1, decide_eq_true c2, decide_eq_true c3, decide_eq_true c4, Bool.true_and, Bool.true_and, Bool.true_and, Bool.true_and]
          exact valid_walk A c l q f w hr hc c1 c2 c3 c4 (ht c1)
        · rw [decide_eq_false c4, Bool.and_false, Bool.false_and, Bool.false_and]
          have g1 : decide (200 < (l.length : Int)) = false := decide_eq_false (by omega)
          have g1' : decide (200 < l.length) = false := decide_eq_false (by omega)
          have g2 : decide (q < 0) = false := decide_eq_false (by omega)
          have g3 : decide (1048576 < q) = false := decide_eq_false (by omega)
          have g4 : decide (f < -1) = true := decide_eq_true (by omega)
          clear c1 c2 c3 c4 hr ht
          go_enter Try.func15, Try.ntmps15
          go_wp2
          go_ret
          exact ⟨rfl, (Below.refl _ _).alloc (Nat.le_refl _) _⟩
      · rw [decide_eq_false c3, Bool.and_false, Bool.false_and, Bool.false_and, Bool.false_and]
        have g1 : decide (200 < (l.length : Int)) = false := decide_eq_false (by omega)
        have g1' : decide (200 < l.length) = false := decide_eq_false (by omega)
        have g2 : decide (q < 0) = false := decide_eq_false (by omega)
        have g3 : decide (1048576 < q) = true := decide_eq_true (by omega)
        clear c1 c2 c3 hr ht
        go_enter Try.func15, Try.ntmps15
        go_wp2
        go_ret
        exact ⟨rfl, (Below.refl _ _).alloc (Nat.le_refl _) _⟩
    · rw [decide_eq_false c2, Bool.and_false, Bool.false_and, Bool.false_and, Bool.false_and, Bool.false_and]
      have g1 : decide (200 < (l.length : Int)) = false := decide_eq_false (by omega)
      have g1' : decide (200 < l.length) = false := decide_eq_false (by omega)
      have g2 : decide (q < 0) = true := decide_eq_true (by omega)
      clear c1 c2 hr ht
      go_enter Try.func15, Try.ntmps15
      go_wp2
      go_ret
      exact ⟨rfl, (Below.refl _ _).alloc (Nat.le_refl _) _⟩
  · rw [decide_eq_false c1, Bool.false_and, Bool.false_and, Bool.false_and, Bool.false_and, Bool.false_and]
    have g1 : decide (200 < (l.length : Int)) = true := decide_eq_true (by omega)
    have g1' : decide (200 < l.length) = true := decide_eq_true (by omega)
    clear c1 hr ht
    go_enter Try.func15, Try.ntmps15
    go_wp2
    go_ret
    exact ⟨rfl, (Below.refl _ _).alloc (Nat.le_refl _) _⟩
end Go.Proofs.Ytbppijlcmeidaaa.M
end
section
/- The search in a directory, walked: where a name stands in files that are in order, or would stand, and whether it is there. Condition: the files are in order, at most 200. -/
namespace Go.Proofs.Ytbppijlcmeidaaa.M
open Go.RowKit Go.Proofs.Ytbppijlcmeidaaa.P Go.Proofs.YtbppijlcmeidaaaW.PrintWords Go.Proofs.YtbppijlcmeidaaaW.PrintLast Go.Proofs.YtbppijlcmeidaaaW.PrintMore
set_option linter.unusedVariables false

def cmp3 (a b : ByteArray) : Int := if lss a b = true then -1 else if lss b a = true then 1 else 0
theorem ret_tuple2 {a a' b b' : Value} (h1 : a = a') (h2 : b = b') : Ending.returned (.tuple #[a, b]) = Ending.returned (.tuple #[a', b']) := by rw [h1, h2]
theorem beq_of_lss {a b : ByteArray} (h1 : lss a b = false) (h2 : lss b a = false) : (a.toList == b.toList) = true := by
  rw [lss_total h1 h2]; simp
theorem beq_of_lss' {a b : ByteArray} (h2 : lss b a = true) : (a.toList == b.toList) = false := by
  rw [beq_eq_false_iff_ne]
  intro h
  rw [toList_inj h, lss_irrefl] at h2
  cases h2

set_option maxHeartbeats 1000000 in
theorem cmp_any (x0 x1 s : ByteArray) (x2 : Int) (w : World) : Calls Try.prog 85 #[.agg #[.string x0, .string x1, .int .i64 x2], .string s] w fun e w' => e = .returned (.int .i64 (cmp3 x0 s)) ∧ Below w.heap.size w w' := by
  have hu52 := Try.underlying52
  unfold cmp3
  by_cases c1 : lss x0 s = true
  · rw [if_pos c1]
    have h1 : Op.bytesLess x0.toList s.toList = true := c1
    clear c1
    go_enter Try.func85, Try.ntmps85
    go_wp2
    go_ret
    exact ⟨rfl, (Below.refl _ _).alloc (Nat.le_refl _) _⟩
  · have c1 := Bool.eq_false_iff.2 c1
    rw [if_neg (by rw [c1]; simp)]
    have h1 : Op.bytesLess x0.toList s.toList = false := c1
    by_cases c2 : lss s x0 = true
    · rw [if_pos c2]
      have h2 := beq_of_lss' c2
      clear c1 c2
      go_enter Try.func85, Try.ntmps85
      go_wp2
      go_ret
      exact ⟨rfl, (Below.refl _ _).alloc (Nat.le_refl _) _⟩
    · have c2 := Bool.eq_false_iff.2 c2
      rw [if_neg (by rw [c2]; simp)]
      have h2 := beq_of_lss c1 c2
      clear c1 c2
      go_enter Try.func85, Try.ntmps85
      go_wp2
      go_ret
      exact ⟨rfl, (Below.refl _ _).alloc (Nat.le_refl _) _⟩

/-! ### In order -/
def Sorted (l : List S52) : Prop := ∀ i j : Nat, i < j → j < l.length → lss (rd_T52 l (i : Int)).f0 (rd_T52 l (j : Int)).f0 = true
def pos (l : List S52) (s : ByteArray) : Nat := l.countP fun x => lss x.f0 s
def there (l : List S52) (s : ByteArray) : Bool := decide (pos l s < l.length) && decide (cmp3 (rd_T52 l (pos l s : Int)).f0 s = 0)
theorem countP_boundary {α : Type} (p : α → Bool) : ∀ (l : List α) (i : Nat), i ≤ l.length → (∀ t x, l[t]? = some x → t < i → p x = true) → (∀ t x, l[t]? = some x → i ≤ t → p x = false) → l.countP p = i
  | [], i, hi, _, _ => by simp at hi; simp [hi]
  | a :: r, 0, _, _, h2 => by
    rw [List.countP_eq_zero]
    intro x hx
    obtain ⟨t, ht⟩ := List.getElem?_of_mem hx
    rw [h2 t x ht (Nat.zero_le _)]
    simp
  | a :: r, i + 1, hi, h1, h2 => by
    have ha : p a = true := h1 0 a rfl (by omega)
    rw [List.countP_cons_of_pos ha, countP_boundary p r i (by simpa using hi) (fun t x h ht => h1 (t + 1) x (by simpa using h) (by omega)) (fun t x h ht => h2 (t + 1) x (by simpa using h) (by omega))]
theorem pos_eq (l : List S52) (s : ByteArray) (i : Nat) (hi : i ≤ l.length) (h1 : ∀ t : Nat, t < i → lss (rd_T52 l (t : Int)).f0 s = true) (h2 : ∀ t : Nat, i ≤ t → t < l.length → lss (rd_T52 l (t : Int)).f0 s = false) : pos l s = i := by
  refine countP_boundary _ l i hi (fun t x h ht => ?_) (fun t x h ht => ?_)
  · obtain ⟨hlt, rfl⟩ := List.getElem?_eq_some_iff.1 h
    have := h1 t ht
    rwa [rd52 l t hlt] at this
  · obtain ⟨hlt, rfl⟩ := List.getElem?_eq_some_iff.1 h
    have := h2 t ht hlt
    rwa [rd52 l t hlt] at this

set_option maxHeartbeats 4000000 in
set_option maxRecDepth 100000 in
theorem search_walk (A : Option Addr) (c : Nat) (l : List S52) (s : ByteArray) (w : World) (hr : Kd.C k52 w A l.length l) (hl : l.length ≤ 200) (hs : Sorted l) :
    Calls Try.prog 84 #[.slice A l.length c, .string s, .func (.func 85) #[] #[]] w fun e w' => e = .returned (.tuple #[.int .i64 (pos l s : Int), .bool (there l s)]) ∧ Below w.heap.size w w' := by
  have HR := Aside0.mk hr
  have HS := Aside0.mk hs
  have hu52 := Try.underlying52
  clear hr hs
  generalize hP : pos l s = P
  generalize hT : there l s = T
  have HP := Aside0.mk hP
  have HT := Aside0.mk hT
  clear hP hT
  go_enter Try.func84, Try.ntmps84
  go_wp2
  go_loopg [9, 10] l.length (fun kx v9 v10 wr => ∃ lo hi : Nat, v9 = .int .i64 lo ∧ v10 = .int .i64 hi ∧ lo ≤ hi ∧ hi ≤ l.length ∧ hi - lo ≤ kx ∧ Aside0 (Below w.heap.size w wr) ∧
    Aside0 ((∀ t : Nat, t < lo → lss (rd_T52 l (t : Int)).f0 s = true) ∧ (∀ t : Nat, hi ≤ t → t < l.length → lss (rd_T52 l (t : Int)).f0 s = false)))
  case atStart => exact ⟨0, l.length, rfl, rfl, Nat.zero_le _, Nat.le_refl _, by omega, ⟨Below.refl _ _⟩, ⟨fun t ht => absurd ht (Nat.not_lt_zero _), fun t h1 h2 => absurd h1 (by omega)⟩⟩
  case round =>
    obtain ⟨lo, hi, rfl, rfl, hlh, hin, hg, HB, HI⟩ := hrel
    by_cases hlt : lo < hi
    · obtain ⟨ad, hA, hx0, hx1, hx2⟩ := at_T52 HR.out (((lo + hi) / 2 : Nat) : Int) (by omega) (by omega)
      have hx0 := (HB.out.cell (World.block_lt_of_cell? w _ hx0)).trans hx0
      have hx1 := (HB.out.cell (World.block_lt_of_cell? w _ hx1)).trans hx1
      have hx2 := (HB.out.cell (World.block_lt_of_cell? w _ hx2)).trans hx2
      rw [Int.toNat_natCast] at hx0 hx1 hx2
      subst hA
      generalize hy : rd_T52 l (((lo + hi) / 2 : Nat) : Int) = y at hx0 hx1 hx2
      have Y := Aside0.mk hy
      clear hy
      have hc := cmp_any y.f0 y.f1 s y.f2 wr
      by_cases hyx : lss y.f0 s = true
      · have e : cmp3 y.f0 s = -1 := by unfold cmp3; rw [if_pos hyx]
        rw [e] at hc
        have HC := Aside0.mk hc
        have HX := Aside0.mk hyx
        clear hc hyx e
        go_wp2_with (go_at_call 85; refine HC.out.mono ?_; rintro e w' ⟨rfl, hb⟩)
        go_roundg (hi - ((lo + hi) / 2 + 1))
        case measure => omega
        case rel =>
          have HB2 := below_then HB.out HB.out.size hb
          have I2 : Aside0 ((∀ t : Nat, t < (lo + hi) / 2 + 1 → lss (rd_T52 l (t : Int)).f0 s = true) ∧ (∀ t : Nat, hi ≤ t → t < l.length → lss (rd_T52 l (t : Int)).f0 s = false)) := ⟨fun t ht => by
              rcases Nat.lt_or_ge t ((lo + hi) / 2) with h | h
              · exact lss_trans (HS.out t ((lo + hi) / 2) h (by omega)) (by rw [Y.out]; exact HX.out)
              · have : t = (lo + hi) / 2 := by omega
                rw [this, Y.out]; exact HX.out, HI.out.2⟩
          exact ⟨(lo + hi) / 2 + 1, hi, by rw [show ((lo : Int) + (hi : Int)) / 2 + 1 = (((lo + hi) / 2 + 1 : Nat) : Int) by omega], rfl, by omega, hin, Nat.le_refl _, ⟨HB2⟩, I2⟩
      · have hyx := Bool.eq_false_iff.2 hyx
        have e : ¬ cmp3 y.f0 s < 0 := by unfold cmp3; rw [if_neg (by rw [hyx]; simp)]; split <;> omega
        have e2 : decide (cmp3 y.f0 s < 0) = false := decide_eq_false e
        generalize cmp3 y.f0 s = z at hc e e2
        have HC := Aside0.mk hc
        have HX := Aside0.mk hyx
        clear hc hyx e
        go_wp2_with (go_at_call 85; refine HC.out.mono ?_; rintro e w' ⟨rfl, hb⟩)
        go_roundg ((lo + hi) / 2 - lo)
        case measure => omega
        case rel =>
          have HB2 := below_then HB.out HB.out.size hb
          have I2 : Aside0 ((∀ t : Nat, t < lo → lss (rd_T52 l (t : Int)).f0 s = true) ∧ (∀ t : Nat, (lo + hi) / 2 ≤ t → t < l.length → lss (rd_T52 l (t : Int)).f0 s = false)) := ⟨HI.out.1, fun t ht h2 => by
              rcases Nat.eq_or_lt_of_le ht with h | h
              · rw [← h, Y.out]; exact HX.out
              · cases hh : lss (rd_T52 l (t : Int)).f0 s with
                | false => rfl
                | true =>
                  have := lss_trans (HS.out ((lo + hi) / 2) t h h2) hh
                  rw [Y.out, HX.out] at this
                  cases this⟩
          exact ⟨lo, (lo + hi) / 2, rfl, by rw [show ((lo : Int) + (hi : Int)) / 2 = (((lo + hi) / 2 : Nat) : Int) by omega], by omega, by omega, Nat.le_refl _, ⟨HB2⟩, I2⟩
    · obtain rfl : hi = lo := by omega
      have E := Aside0.mk (pos_eq l s hi hin HI.out.1 HI.out.2)
      have hPP : P = hi := HP.out.symm.trans E.out
      have hT : T = (decide (hi < l.length) && decide (cmp3 (rd_T52 l (hi : Int)).f0 s = 0)) := by rw [← HT.out]; unfold there; rw [E.out]
      have PP := Aside0.mk hPP
      have TT := Aside0.mk hT
      clear hPP hT
      by_cases hn : hi < l.length
      · obtain ⟨ad, hA, hx0, hx1, hx2⟩ := at_T52 HR.out (hi : Int) (by omega) (by omega)
        have hx0 := (HB.out.cell (World.block_lt_of_cell? w _ hx0)).trans hx0
        have hx1 := (HB.out.cell (World.block_lt_of_cell? w _ hx1)).trans hx1
        have hx2 := (HB.out.cell (World.block_lt_of_cell? w _ hx2)).trans hx2
        rw [Int.toNat_natCast] at hx0 hx1 hx2
        subst hA
        have hn' := decide_eq_true hn
        generalize hy : rd_T52 l (hi : Int) = y at hx0 hx1 hx2
        have Y := Aside0.mk hy
        clear hy
        have hc := cmp_any y.f0 y.f1 s y.f2 wr
        have F := Aside0.mk (show T = decide (cmp3 y.f0 s = 0) by rw [TT.out, hn', Bool.true_and, Y.out])
        generalize hz : cmp3 y.f0 s = z at hc
        have HZ := Aside0.mk hz
        have HC := Aside0.mk hc
        clear hc hz
        by_cases z0 : z = 0
        · have hz0 : (z == 0) = true := by rw [z0]; rfl
          have Z0 := Aside0.mk z0
          clear z0
          go_wp2_with (go_at_call 85; refine HC.out.mono ?_; rintro e w' ⟨rfl, hb⟩)
          go_ret2
          exact ⟨by rw [PP.out, F.out, HZ.out, decide_eq_true Z0.out]; rfl, below_then HB.out HB.out.size hb⟩
        · have hz0 : (z == 0) = false := beq_eq_false_iff_ne.2 z0
          have Z0 := Aside0.mk z0
          clear z0
          go_wp2_with (go_at_call 85; refine HC.out.mono ?_; rintro e w' ⟨rfl, hb⟩)
          go_ret2
          exact ⟨by rw [PP.out, F.out, HZ.out, decide_eq_false Z0.out]; rfl, below_then HB.out HB.out.size hb⟩
      · have F := Aside0.mk (show T = false by rw [TT.out, decide_eq_false hn, Bool.false_and])
        have hn' : decide (hi < l.length) = false := decide_eq_false hn
        go_wp2
        go_ret2
        exact ⟨by rw [PP.out, F.out]; rfl, HB.out⟩
end Go.Proofs.Ytbppijlcmeidaaa.M
end
section
/- The program's find, read and FsFind, walked. Condition: the sizes of the Data add up to a number of 63 bits. -/
namespace Go.Proofs.Ytbppijlcmeidaaa.M
open Go.RowKit Go.Proofs.Ytbppijlcmeidaaa.P Go.Proofs.YtbppijlcmeidaaaW.PrintWords Go.Proofs.YtbppijlcmeidaaaW.PrintLast Go.Proofs.YtbppijlcmeidaaaW.PrintMore
set_option linter.unusedVariables false

/-- A directory that lies at block g. -/
def Lies (w : World) (g : Nat) (A : Option Addr) (c : Nat) (l : List S52) (q f : Int) : Prop := w.heap[g]? = some (.cells #[.slice A l.length c, .int .i64 q, .int .i64 f] 29 (0, 0))
theorem lies_below {w w1 : World} {g : Nat} {A : Option Addr} {c : Nat} {l : List S52} {q f : Int} (h : Lies w g A c l q f) (hb : Below w.heap.size w w1) : Lies w1 g A c l q f := (hb.block g (blk_lt h)).trans h

set_option maxRecDepth 100000 in
set_option maxHeartbeats 1000000 in
theorem find_call (g : Nat) (A : Option Addr) (c : Nat) (l : List S52) (q f : Int) (s : ByteArray) (w : World) (hg : Lies w g A c l q f) (hr : Kd.C k52 w A l.length l) (hl : l.length ≤ 200) (hs : Sorted l) :
    Calls Try.prog 74 #[.pointer (some ⟨g, 0, none⟩), .string s] w fun e w' => e = .returned (.tuple #[.int .i64 (pos l s : Int), .bool (there l s)]) ∧ Below w.heap.size w w' := by
  have hb0 : w.cell? ⟨g, 0, none⟩ = some (.slice A l.length c) := (blk_cell hg 0).trans rfl
  have HC := Aside0.mk (search_walk A c l s w hr hl hs)
  have hu29 := Try.underlying29
  clear hr hs hg
  go_enter Try.func74, Try.ntmps74
  go_wp2_with (go_at_call 84; refine HC.out.mono ?_; rintro e w' ⟨rfl, hb⟩)
  go_ret2
  exact ⟨rfl, hb⟩

def dataAt (l : List S52) (s : ByteArray) : ByteArray := if there l s = true then (rd_T52 l (pos l s : Int)).f1 else ⟨#[]⟩
theorem there_lt {l : List S52} {s : ByteArray} (h : there l s = true) : pos l s < l.length := by
  unfold there at h
  simp only [Bool.and_eq_true, decide_eq_true_eq] at h
  exact h.1

set_option maxRecDepth 100000 in
set_option maxHeartbeats 1000000 in
theorem read_call (g : Nat) (A : Option Addr) (c : Nat) (l : List S52) (q f : Int) (s : ByteArray) (w : World) (hg : Lies w g A c l q f) (hr : Kd.C k52 w A l.length l) (hl : l.length ≤ 200) (hs : Sorted l) :
    Calls Try.prog 48 #[.pointer (some ⟨g, 0, none⟩), .string s] w fun e w' => e = .returned (.tuple #[.string (dataAt l s), .bool (there l s)]) ∧ Below w.heap.size w w' := by
  have hc := find_call g A c l q f s w hg hr hl hs
  have hu29 := Try.underlying29
  have hu52 := Try.underlying52
  have HG := Aside0.mk hg
  have HR := Aside0.mk hr
  unfold dataAt
  by_cases ht : there l s = true
  · have hlt := there_lt ht
    rw [ht] at hc
    rw [if_pos ht, ht]
    obtain ⟨ad, hA, hx0, hx1, hx2⟩ := at_T52 hr (pos l s : Int) (by omega) (by omega)
    rw [Int.toNat_natCast] at hx1
    generalize (rd_T52 l (pos l s : Int)).f1 = d at hx1
    have hlt' : ((pos l s : Nat) : Int) < (l.length : Int) := by omega
    generalize pos l s = p at hc hx1 hlt hlt'
    subst hA
    have HC := Aside0.mk hc
    have HX := Aside0.mk hx1
    clear hc hx0 hx1 hx2 hg hr hs ht
    go_enter Try.func48, Try.ntmps48
    go_wp2_with fail
    refine HC.out.mono ?_
    rintro e w' ⟨rfl, hb⟩
    have hb0 : w'.cell? ⟨g, 0, none⟩ = some (.slice (some ad) l.length c) := (blk_cell (lies_below HG.out hb) 0).trans rfl
    have hb1 := (hb.cell (World.block_lt_of_cell? w _ HX.out)).trans HX.out
    go_wp2
    go_ret2
    exact ⟨rfl, hb⟩
  · have ht := Bool.eq_false_iff.2 ht
    rw [if_neg (by rw [ht]; simp)]
    rw [ht] at hc ⊢
    have HC := Aside0.mk hc
    clear hc hg hr hs ht
    go_enter Try.func48, Try.ntmps48
    go_wp2_with fail
    refine HC.out.mono ?_
    rintro e w' ⟨rfl, hb⟩
    go_wp2
    go_ret2
    exact ⟨rfl, hb⟩

/-! ### What a valid directory says -/
theorem okFrom_step {p : Option ByteArray} {x : S52} {r : List S52} (h : okFrom p (x :: r) = true) : fileOk x = true ∧ (∀ b, p = some b → lss b x.f0 = true) ∧ okFrom (some x.f0) r = true := by
  rw [okFrom_cons] at h
  simp only [Bool.and_eq_true] at h
  refine ⟨h.1.1, fun b hb => ?_, h.2⟩
  subst hb
  exact h.1.2
theorem okFrom_all : ∀ {l : List S52} {p : Option ByteArray}, okFrom p l = true → (∀ x ∈ l, fileOk x = true) ∧ (∀ b, p = some b → ∀ x ∈ l, lss b x.f0 = true) ∧ l.Pairwise (fun x y => lss x.f0 y.f0 = true)
  | [], _, _ => ⟨fun x hx => by simp at hx, fun _ _ x hx => by simp at hx, List.Pairwise.nil⟩
  | x :: r, p, h => by
    obtain ⟨h1, h2, h3⟩ := okFrom_step h
    obtain ⟨g1, g2, g3⟩ := okFrom_all h3
    have g2 := g2 x.f0 rfl
    refine ⟨fun y hy => ?_, fun b hb y hy => ?_, List.Pairwise.cons g2 g3⟩
    · rcases List.mem_cons.1 hy with rfl | hy
      · exact h1
      · exact g1 y hy
    · rcases List.mem_cons.1 hy with rfl | hy
      · exact h2 b hb
      · exact lss_trans (h2 b hb) (g2 y hy)
theorem valid_parts {l : List S52} {q f : Int} (h : validB l q f = true) : l.length ≤ 200 ∧ 0 ≤ q ∧ q ≤ 1048576 ∧ -1 ≤ f ∧ okFrom none l = true ∧ total l ≤ 1048576 := by
  unfold validB at h
  simp only [Bool.and_eq_true, decide_eq_true_eq] at h
  obtain ⟨⟨⟨⟨⟨h1, h2⟩, h3⟩, h4⟩, h5⟩, h6⟩ := h
  exact ⟨h1, h2, h3, h4, h5, h6⟩
theorem sorted_of {l : List S52} (h : l.Pairwise (fun x y => lss x.f0 y.f0 = true)) : Sorted l := by
  intro i j hij hj
  rw [rd52 l i (by omega), rd52 l j hj]
  exact List.pairwise_iff_getElem.1 h i j (by omega) hj hij
theorem valid_sorted {l : List S52} {q f : Int} (h : validB l q f = true) : Sorted l := sorted_of (okFrom_all (valid_parts h).2.2.2.2.1).2.2

def fsFind (l : List S52) (q f : Int) (s : ByteArray) : ByteArray × Bool := if validB l q f = true then (dataAt l s, there l s) else (⟨#[]⟩, false)
set_option maxRecDepth 100000 in
set_option maxHeartbeats 1000000 in
theorem fsFind_call (A : Option Addr) (c : Nat) (l : List S52) (q f : Int) (s : ByteArray) (w : World) (hr : Kd.C k52 w A l.length l) (hc : l.length ≤ c) (ht : ValidFits l) :
    Calls Try.prog 18 #[.agg #[.slice A l.length c, .int .i64 q, .int .i64 f], .string s] w fun e w' => e = .returned (.tuple #[.string (fsFind l q f s).1, .bool (fsFind l q f s).2]) ∧ Below w.heap.size w w' := by
  have hu29 := Try.underlying29
  have HR := Aside0.mk hr
  have b0 : Below w.heap.size w (w.alloc (.cells #[.slice A l.length c, .int .i64 q, .int .i64 f] 29)) := (Below.refl _ _).alloc (Nat.le_refl _) _
  have hv := valid_any A c l q f (w.alloc (.cells #[.slice A l.length c, .int .i64 q, .int .i64 f] 29)) (Kd.C_below hr b0) hc ht
  unfold fsFind
  by_cases h : validB l q f = true
  · rw [if_pos h]
    rw [h] at hv
    have HV := Aside0.mk hv
    have HL := Aside0.mk h
    clear hv hr hc ht h
    go_enter Try.func18, Try.ntmps18
    go_wp2_with fail
    refine HV.out.mono ?_
    rintro e w' ⟨rfl, hb⟩
    have HB := Aside0.mk (b0.trans (hb.mono (by simp)))
    have HG := Aside0.mk (show Lies w' w.heap.size A c l q f from (hb.block _ (by simp)).trans (heap_alloc_new _ _))
    have HC := Aside0.mk (read_call w.heap.size A c l q f s w' HG.out (Kd.C_below HR.out HB.out) (valid_parts HL.out).1 (valid_sorted HL.out))
    clear b0
    go_wp2_with fail
    refine HC.out.mono ?_
    rintro e w2 ⟨rfl, hb2⟩
    go_wp2
    go_ret2
    exact ⟨rfl, below_then HB.out HB.out.size hb2⟩
  · have h := Bool.eq_false_iff.2 h
    rw [if_neg (by rw [h]; simp)]
    rw [h] at hv
    have HV := Aside0.mk hv
    clear hv hr hc ht h
    go_enter Try.func18, Try.ntmps18
    go_wp2_with fail
    refine HV.out.mono ?_
    rintro e w' ⟨rfl, hb⟩
    have HB := Aside0.mk (b0.trans (hb.mono (by simp)))
    clear b0
    go_wp2
    go_ret2
    exact ⟨rfl, HB.out⟩
end Go.Proofs.Ytbppijlcmeidaaa.M
end
section
/- The program's copy of a directory, walked: new memory that reads the same. No condition. -/
namespace Go.Proofs.Ytbppijlcmeidaaa.M
open Go.RowKit Go.Proofs.Ytbppijlcmeidaaa.P Go.Proofs.YtbppijlcmeidaaaW.PrintWords Go.Proofs.YtbppijlcmeidaaaW.PrintLast Go.Proofs.YtbppijlcmeidaaaW.PrintMore
set_option linter.unusedVariables false
theorem info52 : (Try.prog.info? 52).map (fun i => (i.zero, i.size, i.bytes)) = some (some (.agg #[.string ⟨#[]⟩, .string ⟨#[]⟩, .int .i64 0]), 3, 40) := by kernel_rfl
theorem R_empty (w : World) (base : Nat) (hb : base ≤ w.heap.size) : Kd.R k52 52 (w.alloc (.cells #[] 52)) base (fun _ => True) (.slice (some ⟨w.heap.size, 0, none⟩) 0 0) [] :=
  ⟨fun _ _ => trivial, [], ⟨rfl, .inr ⟨w.heap.size, 0, #[], rfl, hb, heap_alloc_new _ _, Nat.le_refl _, by simp [maxLen], rfl, rfl⟩⟩, Reps.none _ _⟩

/-- A row of files that is read, where a block was made: what is known of an element speaks of no world. -/
theorem c_alloc {w : World} {A : Option Addr} {l : List S52} (h : Kd.C k52 w A l.length l) (o : Obj) : ReadsRow (fun x cs => k52.K w x cs) k52.sz (w.alloc o) A l.length l :=
  ReadsRow.imp_ h ((Below.refl _ _).alloc (Nat.le_refl _) _) (fun _ _ hp => hp)
theorem k_bare {w w1 : World} {base : Nat} {x : S52} {cs : List Value} (h : k52.K w x cs) : k52.M w1 base (fun _ => False) x cs := h
set_option maxRecDepth 100000 in
set_option maxHeartbeats 1000000 in
theorem clone_call (A : Option Addr) (c : Nat) (l : List S52) (w : World) (hr : Kd.C k52 w A l.length l) (hl : l.length ≤ 200) :
    Calls Try.prog 75 #[.slice A l.length c] w fun e w' => ∃ v, e = .returned v ∧ Kd.R k52 52 w' w.heap.size (fun _ => True) v l ∧ Below w.heap.size w w' := by
  have hu27 := Try.underlying27
  have hu52 := Try.underlying52
  have HR := Aside0.mk hr
  clear hr
  have hne := fun (W : World) (a : Option Addr) (n c : Nat) => Lib.run_eql_slice_nil (P := Try.prog) W 27 52 a n c 0 0 hu27
  have hlen : (0 + l.length) * 40 ≤ 140737488355328 := by omega
  cases A with
  | none =>
    have hl0 : l = [] := by
      rcases Nat.eq_zero_or_pos l.length with h | h
      · exact List.eq_nil_of_length_eq_zero h
      · obtain ⟨_, h, _⟩ := HR.out.2.2 h
        cases h
    clear hlen
    subst hl0
    go_enter Try.func75, Try.ntmps75
    go_wp2
    go_ret
    exact ⟨_, rfl, Kd.R_nil _ _ _ _ _, Below.refl _ _⟩
  | some ad =>
    have HL := Aside0.mk hlen
    clear hlen
    go_enter Try.func75, Try.ntmps75
    go_wp2_with (at_builtin; refine Kd.R_append_rows k52 (Rr := fun x cs => k52.K w x cs) (w0 := w) w.heap.size rfl _ _ 27 52 _ 40 rfl hu27 info52 rfl (by decide) (by decide) (.slice (some ⟨w.heap.size, 0, none⟩) 0 0) [] l (some ad) l.length c (fun _ => True) (fun _ => False) rfl rfl (R_empty w w.heap.size (Nat.le_refl _)) (c_alloc HR.out _) (fun x cs h => k_bare h) (fun _ h => h.elim) (fun _ _ => trivial) ((Below.refl _ _).alloc (Nat.le_refl _) _) (by simp) HL.out ?_; intro v1 w1 hR hB hg hat)
    go_ret
    exact ⟨_, rfl, by simpa using hR, hB⟩

set_option maxRecDepth 100000 in
set_option maxHeartbeats 1000000 in
theorem copyFS_call (A : Option Addr) (c : Nat) (l : List S52) (q f : Int) (w : World) (hr : Kd.C k52 w A l.length l) (hl : l.length ≤ 200) :
    Calls Try.prog 49 #[.agg #[.slice A l.length c, .int .i64 q, .int .i64 f]] w fun e w' => ∃ v, e = .returned (.agg #[v, .int .i64 q, .int .i64 f]) ∧ Kd.R k52 52 w' w.heap.size (fun _ => True) v l ∧ Below w.heap.size w w' := by
  have hu29 := Try.underlying29
  have HR := Aside0.mk hr
  have b0 : Below w.heap.size w ((w.alloc (.cells #[.slice A l.length c, .int .i64 q, .int .i64 f] 29)).alloc (.cells #[.slice none 0 0, .int .i64 0, .int .i64 0] 29)) := ((Below.refl _ _).alloc (Nat.le_refl _) _).alloc (by simp) _
  have HC := Aside0.mk (clone_call A c l _ (Kd.C_below hr b0) hl)
  have HB0 := Aside0.mk b0
  clear hr b0
  go_enter Try.func49, Try.ntmps49
  go_wp2_with fail
  refine HC.out.mono ?_
  rintro e w' ⟨v, rfl, hR, hb⟩
  obtain ⟨A', c', rfl⟩ := Kd.R_slice hR
  have HB := Aside0.mk (HB0.out.trans (hb.mono (by simp; omega)))
  have B0 := Aside0.mk (show w'.heap[w.heap.size]? = some (.cells #[.slice A l.length c, .int .i64 q, .int .i64 f] 29 (0, 0)) from (hb.block _ (by simp; omega)).trans (blk_alloc (heap_alloc_new _ _) _))
  have B1 := Aside0.mk (show w'.heap[w.heap.size + 1]? = some (.cells #[.slice none 0 0, .int .i64 0, .int .i64 0] 29 (0, 0)) from by
    have := (hb.block (w.alloc (.cells #[.slice A l.length c, .int .i64 q, .int .i64 f] 29)).heap.size (by simp)).trans (heap_alloc_new _ _)
    simpa using this)
  have c00 := blk_cell B0.out 0
  have c01 := blk_cell B0.out 1
  have c02 := blk_cell B0.out 2
  have f00 := blk_frozen B0.out 0
  have f01 := blk_frozen B0.out 1
  have f02 := blk_frozen B0.out 2
  have c10 := blk_cell B1.out 0
  have c11 := blk_cell B1.out 1
  have c12 := blk_cell B1.out 2
  have f10 := blk_frozen B1.out 0
  have f11 := blk_frozen B1.out 1
  have f12 := blk_frozen B1.out 2
  have HRR := Aside0.mk hR
  clear hR hb
  go_wp2
  refine bodyPost_ret (results_single (r := .cell 2 29) rfl (.cell (w.heap.size + 1) 29 #[.slice A' l.length c', .int .i64 q, .int .i64 f] (0, 0) _ rfl ?_ hu29 rfl (by kernel_rfl) .nil)) rfl ⟨_, rfl, ?_, ?_⟩
  · exact blk_put (blk_put (blk_put (blk_far B1.out (by show w.heap.size + 1 ≠ w.heap.size; omega) _) 0 _ rfl) 1 _ rfl) 2 _ rfl
  · have h52 : ∀ q, q ∈ 52 :: k52.E → q ≠ 29 := by decide
    have s0 := Kd.R_set HRR.out B0.out h52 0 (.slice A' l.length c')
    have s1 := Kd.R_set s0 (blk_far B1.out (by show w.heap.size + 1 ≠ w.heap.size; omega) _) h52 0 (.slice A' l.length c')
    have s2 := Kd.R_set s1 (blk_set (blk_far B1.out (by show w.heap.size + 1 ≠ w.heap.size; omega) _) _ _) h52 1 (.int .i64 q)
    have s3 := Kd.R_set s2 (blk_set (blk_set (blk_far B1.out (by show w.heap.size + 1 ≠ w.heap.size; omega) _) _ _) _ _) h52 2 (.int .i64 f)
    exact Kd.R_lower s3 HB0.out.size
  · exact (((HB.out.setCell (Nat.le_refl _) _).setCell (by simp) _).setCell (by simp) _).setCell (by simp) _
end Go.Proofs.Ytbppijlcmeidaaa.M
end
section
/- The beginning of a step, walked: dead, or one step less to live; are the names good. No condition. -/
namespace Go.Proofs.Ytbppijlcmeidaaa.M
open Go.RowKit Go.Proofs.Ytbppijlcmeidaaa.P Go.Proofs.YtbppijlcmeidaaaW.PrintWords Go.Proofs.YtbppijlcmeidaaaW.PrintLast Go.Proofs.YtbppijlcmeidaaaW.PrintMore
set_option linter.unusedVariables false

def fuel' (f : Int) : Int := if f > 0 then f - 1 else f
def namesCode (ns : List ByteArray) : Int := if ns.all nameOk = true then 0 else 2
theorem ret_int {a b : Int} (h : a = b) : Ending.returned (.int .i64 a) = Ending.returned (.int .i64 b) := by rw [h]

/-- A directory of the call's own: at block g; its files' row v; w0: the world in which the call began. -/
structure FsAt (w0 w : World) (g : Nat) (v : Value) (l : List S52) (q f : Int) : Prop where
  blk : w.heap[g]? = some (.cells #[v, .int .i64 q, .int .i64 f] 29 (0, 0))
  row : Kd.R k52 52 w w0.heap.size (fun _ => True) v l
  bel : Below w0.heap.size w0 w
  ge : w0.heap.size ≤ g
/-- Nothing but the directory's block and its row has been written. -/
structure Keeps (w w' : World) (g : Nat) (v : Value) : Prop where
  size : w.heap.size ≤ w'.heap.size
  block : ∀ i, i < w.heap.size → i ≠ g → some i ≠ v.ownBlock → w'.heap[i]? = w.heap[i]?
theorem Keeps.refl (w : World) (g : Nat) (v : Value) : Keeps w w g v := ⟨Nat.le_refl _, fun _ _ _ _ => rfl⟩
theorem Keeps.of_below {w w' : World} {g : Nat} {v : Value} (h : Below w.heap.size w w') : Keeps w w' g v := ⟨h.size, fun i hi _ _ => h.block i hi⟩
theorem Keeps.trans {w w1 w2 : World} {g : Nat} {v v1 : Value} (h : Keeps w w1 g v) (k : Keeps w1 w2 g v1) (hv : v1.ownBlock = v.ownBlock ∨ ∃ b, v1.ownBlock = some b ∧ w.heap.size ≤ b) : Keeps w w2 g v :=
  ⟨Nat.le_trans h.size k.size, fun i hi hg hn => by
    refine (k.block i (Nat.lt_of_lt_of_le hi h.size) hg (fun e => ?_)).trans (h.block i hi hg hn)
    rcases hv with hv | ⟨b, hb, hle⟩
    · exact hn (e.trans hv)
    · rw [hb] at e
      injection e with e
      omega⟩
theorem h52 : ∀ q, q ∈ 52 :: k52.E → q ≠ 29 := by decide
theorem FsAt.lies {w0 w : World} {g : Nat} {v : Value} {l : List S52} {q f : Int} (h : FsAt w0 w g v l q f) : ∃ A c, v = .slice A l.length c ∧ l.length ≤ c ∧ Kd.C k52 w A l.length l ∧ Lies w g A c l q f := by
  obtain ⟨A, c, rfl, hc, hr⟩ := Kd.R_reads h.row
  exact ⟨A, c, rfl, hc, hr, h.blk⟩
theorem FsAt.below {w0 w w' : World} {g : Nat} {v : Value} {l : List S52} {q f : Int} (h : FsAt w0 w g v l q f) (hb : Below w.heap.size w w') : FsAt w0 w' g v l q f :=
  ⟨(hb.block g (blk_lt h.blk)).trans h.blk, Kd.R_below h.row hb, below_then h.bel h.bel.size hb, h.ge⟩
theorem FsAt.setFuel {w0 w : World} {g : Nat} {v : Value} {l : List S52} {q f : Int} (h : FsAt w0 w g v l q f) (f' : Int) : FsAt w0 (w.setCell ⟨g, 2, none⟩ (.int .i64 f')) g v l q f' :=
  ⟨blk_put h.blk 2 _ rfl, Kd.R_set h.row h.blk h52 2 _, h.bel.setCell h.ge _, h.ge⟩
theorem Keeps.setCell {w : World} {g : Nat} (v : Value) (j : Nat) (u : Value) : Keeps w (w.setCell ⟨g, j, none⟩ u) g v :=
  ⟨by simp [World.setCell], fun i _ hg _ => Below.heap_setCell w ⟨g, j, none⟩ u i hg⟩

theorem add_block (ad : Addr) (k : Nat) : (ad.add k).block = ad.block := by unfold Addr.add; split <;> rfl
theorem names_cell {w : World} {A : Option Addr} {ns : List ByteArray} (h : Kd.C Kd.string w A ns.length ns) (k : Nat) (hk : k < ns.length) : ∃ ad, A = some ad ∧ w.cell? (ad.add k) = some (.string ns[k]) := by
  obtain ⟨ad, c, hA, _, hK, hc⟩ := Kd.C_get h ByteArray.empty (k : Int) (by omega) (by omega)
  rw [Int.toNat_natCast, getD_at ns k _ hk] at hK
  obtain rfl : c = [.string ns[k]] := hK
  refine ⟨ad, hA, ?_⟩
  have := hc 0 _ rfl
  rw [Int.toNat_natCast] at this
  simpa [Kd.string, Kd.scalar] using this
/-- The names, looked at one by one. -/
theorem all_step (ns : List ByteArray) (i : Nat) (h : i < ns.length) : (ns.drop i).all nameOk = (nameOk ns[i] && (ns.drop (i + 1)).all nameOk) := by
  rw [drop_at ns i h]; rfl

set_option maxRecDepth 100000 in
set_option maxHeartbeats 2000000 in
theorem begin_call (w0 w : World) (g : Nat) (v : Value) (l : List S52) (q f : Int) (A : Option Addr) (c : Nat) (ns : List ByteArray) (h : FsAt w0 w g v l q f) (hn : Kd.C Kd.string w A ns.length ns) (hf : -1 ≤ f) (hf2 : f ≤ 9223372036854775807) (hlen : ns.length ≤ 2) (hA : ∀ ad, A = some ad → ad.block ≠ g) :
    Calls Try.prog 78 #[.pointer (some ⟨g, 0, none⟩), .slice A ns.length c] w fun e w' => e = .returned (.int .i64 (if f = 0 then 8 else namesCode ns)) ∧ FsAt w0 w' g v l q (fuel' f) ∧ Keeps w w' g v := by
  have hu29 := Try.underlying29
  have H := Aside0.mk h
  have HN := Aside0.mk hn
  have HA := Aside0.mk hA
  have c0 := blk_cell h.blk 0
  have c1 := blk_cell h.blk 1
  have c2 := blk_cell h.blk 2
  have f2 := blk_frozen h.blk 2
  clear h hn hA
  by_cases z : f = 0
  · have F := Aside0.mk (show fuel' f = f by unfold fuel'; rw [if_neg (by omega)])
    rw [if_pos z]
    have hz : (f == 0) = true := beq_iff_eq.2 z
    have Z := Aside0.mk z
    clear z
    go_enter Try.func78, Try.ntmps78
    go_wp2
    go_ret
    exact ⟨rfl, by rw [F.out]; exact H.out, Keeps.refl _ _ _⟩
  · rw [if_neg z]
    have hz : (f == 0) = false := beq_eq_false_iff_ne.2 z
    by_cases p : f > 0
    · have F' := Aside0.mk (show fuel' f = f - 1 by unfold fuel'; rw [if_pos p])
      have hp : decide (0 < f) = true := decide_eq_true p
      clear z
      go_enter Try.func78, Try.ntmps78
      go_wp2
      go_loop [6, 26] (fun _ v26 => ∃ k : Nat, k ≤ ns.length ∧ v26 = .int .i64 k ∧ Aside0 (ns.all nameOk = (ns.drop k).all nameOk)) (fun _ v26 => ns.length - (intOf v26).toNat)
      case atStart => exact ⟨0, Nat.zero_le _, rfl, ⟨rfl⟩⟩
      case round =>
        obtain ⟨k, hk, rfl, HK⟩ := hrel
        by_cases hlt : k < ns.length
        · obtain ⟨ad, hA, hc⟩ := names_cell HN.out k hlt
          subst hA
          have hne := HA.out ad rfl
          have hc' : (w.setCell ⟨g, 2, none⟩ (.int .i64 (f - 1))).cell? (ad.add k) = some (.string ns[k]) := (cell_far (p := ⟨g, 2, none⟩) (a := ad.add k) (by rw [add_block]; exact hne) _).trans hc
          have hlt' : decide ((k : Int) < (ns.length : Int)) = true := decide_eq_true (by omega)
          have hlt2 : decide (k < ns.length) = true := decide_eq_true hlt
          have HS := Aside0.mk (all_step ns k hlt)
          generalize ns[k] = s at hc hc' HS
          by_cases n1 : nameOk s = true
          · have N1 := Aside0.mk n1
            clear n1 hc hne
            go_wp2_with (go_at_call 44; refine (nameFine_yes s _ N1.out).mono ?_; rintro e w' ⟨rfl, rfl⟩)
            go_round
            case rel => exact ⟨k + 1, by omega, by go_num, ⟨by rw [HK.out, HS.out, N1.out, Bool.true_and]⟩⟩
            case measure => simp [intOf]; omega
          · have n1 : nameOk s = false := Bool.eq_false_iff.2 n1
            have N1 := Aside0.mk n1
            have F := Aside0.mk (show namesCode ns = 2 by unfold namesCode; rw [HK.out, HS.out, n1]; rfl)
            clear n1 hc hne
            go_wp2_with (go_at_call 44; refine (nameFine_no s _ N1.out).mono ?_; rintro e w' ⟨rfl, rfl⟩)
            go_ret
            exact ⟨ret_int F.out.symm, by rw [F'.out]; exact H.out.setFuel _, Keeps.setCell v 2 _⟩
        · have F := Aside0.mk (show namesCode ns = 0 by unfold namesCode; rw [HK.out, List.drop_eq_nil_of_le (by omega)]; rfl)
          have hlt' : decide ((k : Int) < (ns.length : Int)) = false := decide_eq_false (by omega)
          have hlt2 : decide (k < ns.length) = false := decide_eq_false hlt
          go_wp2
          go_ret
          exact ⟨ret_int F.out.symm, by rw [F'.out]; exact H.out.setFuel _, Keeps.setCell v 2 _⟩
    · have F' := Aside0.mk (show fuel' f = f by unfold fuel'; rw [if_neg p])
      have hp : decide (0 < f) = false := decide_eq_false p
      clear z
      go_enter Try.func78, Try.ntmps78
      go_wp2
      go_loop [6, 26] (fun _ v26 => ∃ k : Nat, k ≤ ns.length ∧ v26 = .int .i64 k ∧ Aside0 (ns.all nameOk = (ns.drop k).all nameOk)) (fun _ v26 => ns.length - (intOf v26).toNat)
      case atStart => exact ⟨0, Nat.zero_le _, rfl, ⟨rfl⟩⟩
      case round =>
        obtain ⟨k, hk, rfl, HK⟩ := hrel
        by_cases hlt : k < ns.length
        · obtain ⟨ad, hA, hc⟩ := names_cell HN.out k hlt
          subst hA
          have hne := HA.out ad rfl
          have hc' : w.cell? (ad.add k) = some (.string ns[k]) := hc
          have hlt' : decide ((k : Int) < (ns.length : Int)) = true := decide_eq_true (by omega)
          have hlt2 : decide (k < ns.length) = true := decide_eq_true hlt
          have HS := Aside0.mk (all_step ns k hlt)
          generalize ns[k] = s at hc hc' HS
          by_cases n1 : nameOk s = true
          · have N1 := Aside0.mk n1
            clear n1 hc hne
            go_wp2_with (go_at_call 44; refine (nameFine_yes s _ N1.out).mono ?_; rintro e w' ⟨rfl, rfl⟩)
            go_round
            case rel => exact ⟨k + 1, by omega, by go_num, ⟨by rw [HK.out, HS.out, N1.out, Bool.true_and]⟩⟩
            case measure => simp [intOf]; omega
          · have n1 : nameOk s = false := Bool.eq_false_iff.2 n1
            have N1 := Aside0.mk n1
            have F := Aside0.mk (show namesCode ns = 2 by unfold namesCode; rw [HK.out, HS.out, n1]; rfl)
            clear n1 hc hne
            go_wp2_with (go_at_call 44; refine (nameFine_no s _ N1.out).mono ?_; rintro e w' ⟨rfl, rfl⟩)
            go_ret
            exact ⟨ret_int F.out.symm, by rw [F'.out]; exact H.out, Keeps.refl _ _ _⟩
        · have F := Aside0.mk (show namesCode ns = 0 by unfold namesCode; rw [HK.out, List.drop_eq_nil_of_le (by omega)]; rfl)
          have hlt' : decide ((k : Int) < (ns.length : Int)) = false := decide_eq_false (by omega)
          have hlt2 : decide (k < ns.length) = false := decide_eq_false hlt
          go_wp2
          go_ret
          exact ⟨ret_int F.out.symm, by rw [F'.out]; exact H.out, Keeps.refl _ _ _⟩
end Go.Proofs.Ytbppijlcmeidaaa.M
end
section
/- The step sync, walked, on a directory of the call's own. Condition: the files are in order, at most 200. -/
namespace Go.Proofs.Ytbppijlcmeidaaa.M
open Go.RowKit Go.Proofs.Ytbppijlcmeidaaa.P Go.Proofs.YtbppijlcmeidaaaW.PrintWords Go.Proofs.YtbppijlcmeidaaaW.PrintLast Go.Proofs.YtbppijlcmeidaaaW.PrintMore
set_option linter.unusedVariables false

/-- A row of files of the call's own, at its element i: the cells, and what a store there makes of it. -/
theorem row_elem {W : World} {base : Nat} {v : Value} {l : List S52} (h : Kd.R k52 52 W base (fun _ => True) v l) (i : Nat) (hi : i < l.length) :
    ∃ b c, v = .slice (some ⟨b, 0, none⟩) l.length c ∧ base ≤ b ∧ W.cell? ⟨b, i * 3, none⟩ = some (.string (rd_T52 l (i : Int)).f0) ∧ W.cell? ⟨b, i * 3 + 1, none⟩ = some (.string (rd_T52 l (i : Int)).f1) ∧ W.cell? ⟨b, i * 3 + 2, none⟩ = some (.int .i64 (rd_T52 l (i : Int)).f2) ∧
      (∀ j, W.frozen? ⟨b, i * 3 + j, none⟩ = false) ∧
      (∀ u : Int, Kd.R k52 52 (W.setCell ⟨b, i * 3 + 2, none⟩ (.int .i64 u)) base (fun _ => True) v (l.set i ⟨(rd_T52 l (i : Int)).f0, (rd_T52 l (i : Int)).f1, u⟩)) ∧
      (∀ s : ByteArray, Kd.R k52 52 (W.setCell ⟨b, i * 3 + 1, none⟩ (.string s)) base (fun _ => True) v (l.set i ⟨(rd_T52 l (i : Int)).f0, s, (rd_T52 l (i : Int)).f2⟩)) ∧
      (∀ y : S52, Kd.R k52 52 (((W.setCell ⟨b, i * 3, none⟩ (.string y.f0)).setCell ⟨b, i * 3 + 1, none⟩ (.string y.f1)).setCell ⟨b, i * 3 + 2, none⟩ (.int .i64 y.f2)) base (fun _ => True) v (l.set i y)) := by
  obtain ⟨A, c, rfl, hc, hC⟩ := Kd.R_reads h
  obtain ⟨ad, hA, _⟩ := hC.2.2 (by omega)
  subst hA
  obtain ⟨b, rfl⟩ := Kd.R_head h
  have hb := Kd.R_base h b (by simp [Value.ownBlock])
  obtain ⟨cs, hcl, hM, hcc, hfz⟩ := Kd.R_elem h z52 (i : Int) (by omega) (by omega)
  have e : l.getD (i : Int).toNat z52 = rd_T52 l (i : Int) := rfl
  rw [e] at hM
  simp only [Int.toNat_natCast] at hcc hfz
  generalize rd_T52 l (i : Int) = x at *
  obtain rfl : cs = [.string x.f0, .string x.f1, .int .i64 x.f2] := by
    obtain ⟨c0, c1, rfl, h0, c2, c3, rfl, h1, h2⟩ := hM
    rw [show c0 = [Value.string x.f0] from h0, show c2 = [Value.string x.f1] from h1, show c3 = [Value.int .i64 x.f2] from h2]
    rfl
  have hseg := fun (j : Nat) (seg : List Value) (hj : j + seg.length ≤ 3) (x' : S52) (hM' : k52.M W base (fun _ => False) x' (([.string x.f0, .string x.f1, .int .i64 x.f2] : List Value).take j ++ seg ++ ([.string x.f0, .string x.f1, .int .i64 x.f2] : List Value).drop (j + seg.length))) =>
    (Kd.R_seg (okp := fun _ => False) h (i : Int) (by omega) (by omega) hcl (by simp only [Int.toNat_natCast]; exact hcc) hj hM' (fun _ hk => hk.elim)).1
  refine ⟨b, c, rfl, hb, hcc 0 _ rfl, hcc 1 _ rfl, hcc 2 _ rfl, hfz, fun u => ?_, fun s => ?_, fun y => ?_⟩
  · exact hseg 2 [.int .i64 u] (by simp) ⟨x.f0, x.f1, u⟩ (k52_mkM W base _ ⟨x.f0, x.f1, u⟩)
  · exact hseg 1 [.string s] (by simp) ⟨x.f0, s, x.f2⟩ (k52_mkM W base _ ⟨x.f0, s, x.f2⟩)
  · exact hseg 0 [.string y.f0, .string y.f1, .int .i64 y.f2] (by simp) y (k52_mkM W base _ y)

theorem names1 (w : World) (s : ByteArray) : Kd.C Kd.string (w.alloc (.cells #[.string s] 9)) (some ⟨w.heap.size, 0, none⟩) [s].length [s] :=
  ⟨rfl, by simp, fun _ => ⟨_, rfl, fun j p hj => ⟨[.string p], rfl, rfl, fun i u hu => by
    obtain rfl : j = 0 := by
      have := (List.getElem?_eq_some_iff.1 hj).1
      simpa using this
    obtain rfl : i = 0 := by
      have := (List.getElem?_eq_some_iff.1 hu).1
      simpa using this
    have e1 : s = p := by simpa using hj
    have e2 : Value.string p = u := by simpa using hu
    subst e1; subst e2
    exact (cell_of_row _ _ 0 _ _ _ (heap_alloc_new w _)).trans rfl⟩⟩⟩

theorem FsAt.put {w0 w : World} {g b n c a : Nat} {l l' : List S52} {q f : Int} {u : Value} (h : FsAt w0 w g (.slice (some ⟨b, 0, none⟩) n c) l q f) (hne : b ≠ g) (hr : Kd.R k52 52 (w.setCell ⟨b, a, none⟩ u) w0.heap.size (fun _ => True) (.slice (some ⟨b, 0, none⟩) n c) l') :
    FsAt w0 (w.setCell ⟨b, a, none⟩ u) g (.slice (some ⟨b, 0, none⟩) n c) l' q f :=
  ⟨blk_far h.blk (fun e => hne e.symm) _, hr, h.bel.setCell (Kd.R_base h.row b (by simp [Value.ownBlock])) _, h.ge⟩
theorem FsAt.drew {w0 w : World} {g : Nat} {v : Value} {l : List S52} {q f : Int} (h : FsAt w0 w g v l q f) : FsAt w0 w.drew g v l q f := h.below (below_drew (Below.refl _ _))
theorem Keeps.put (w : World) (g b n c a : Nat) (u : Value) : Keeps w (w.setCell ⟨b, a, none⟩ u) g (.slice (some ⟨b, 0, none⟩) n c) :=
  ⟨by simp [World.setCell], fun i _ _ hn => Below.heap_setCell w ⟨b, a, none⟩ u i (fun e => hn (by rw [e]; rfl))⟩
theorem Keeps.drew {w w' : World} {g : Nat} {v : Value} (h : Keeps w w' g v) : Keeps w w'.drew g v := ⟨h.size, h.block⟩

def stepCode (f : Int) (ns : List ByteArray) : Int := if f = 0 then 8 else namesCode ns
/-- What a step leaves: the code, the files, the row. -/
def Stepped (w0 w : World) (g : Nat) (v : Value) (r : List S52 × Int) (q f : Int) (e : Ending) (w' : World) : Prop :=
  ∃ v', e = .returned (.int .i64 r.2) ∧ FsAt w0 w' g v' r.1 q (fuel' f) ∧ Keeps w w' g v
def syncOp (l : List S52) (s : ByteArray) : List S52 × Int :=
  if there l s = true then (l.set (pos l s) ⟨(rd_T52 l (pos l s : Int)).f0, (rd_T52 l (pos l s : Int)).f1, ((rd_T52 l (pos l s : Int)).f1.size : Int)⟩, 0) else (l, 1)
def stepOf (f : Int) (ns : List ByteArray) (l : List S52) (op : List S52 × Int) : List S52 × Int := if stepCode f ns = 0 then op else (l, stepCode f ns)
theorem stepCode_cases (f : Int) (ns : List ByteArray) : (stepCode f ns = 0 ∧ f ≠ 0 ∧ ns.all nameOk = true) ∨ stepCode f ns = 8 ∨ stepCode f ns = 2 := by
  unfold stepCode namesCode
  by_cases z : f = 0
  · rw [if_pos z]; exact .inr (.inl rfl)
  · rw [if_neg z]
    by_cases n : ns.all nameOk = true
    · rw [if_pos n]; exact .inl ⟨rfl, z, n⟩
    · rw [if_neg n]; exact .inr (.inr rfl)

set_option maxRecDepth 100000 in
set_option maxHeartbeats 4000000 in
theorem sync_call (w0 w : World) (g : Nat) (v : Value) (l : List S52) (q f : Int) (s : ByteArray) (h : FsAt w0 w g v l q f) (hf : -1 ≤ f) (hf2 : f ≤ 9223372036854775807) (hl : l.length ≤ 200) (hs : Sorted l) :
    Calls Try.prog 60 #[.pointer (some ⟨g, 0, none⟩), .string s] w fun e w' => Stepped w0 w g v (stepOf f [s] l (syncOp l s)) q f e w' := by
  have hu29 := Try.underlying29
  have hu52 := Try.underlying52
  have hb0 : Below w.heap.size w (w.alloc (.cells #[.string s] 9)) := (Below.refl _ _).alloc (Nat.le_refl _) _
  have hg := blk_lt h.blk
  have hbc := begin_call w0 (w.alloc (.cells #[.string s] 9)) g v l q f (some ⟨w.heap.size, 0, none⟩) 1 [s] (h.below hb0) (names1 w s) hf hf2 (by simp) (fun ad e => by injection e with e; subst e; show w.heap.size ≠ g; omega)
  change Calls _ _ _ _ (fun e w' => e = .returned (.int .i64 (stepCode f [s])) ∧ _) at hbc
  have K0 := Keeps.of_below (g := g) (v := v) hb0
  rcases stepCode_cases f [s] with ⟨h0, _, _⟩ | h8 | h2
  · have hop : stepOf f [s] l (syncOp l s) = syncOp l s := by unfold stepOf; rw [if_pos h0]
    rw [hop]
    rw [h0] at hbc
    have HBC := Aside0.mk hbc
    have HK0 := Aside0.mk K0
    have HS := Aside0.mk hs
    clear hbc K0 hb0 hop h0 h hs
    unfold syncOp
    by_cases ht : there l s = true
    · rw [if_pos ht]
      have hlt := there_lt ht
      have HT := Aside0.mk ht
      clear ht
      go_enter Try.func60, Try.ntmps60
      go_wp2_with fail
      refine HBC.out.mono ?_
      rintro e w1 ⟨rfl, h1, k1⟩
      obtain ⟨A, c, rfl, hc, hC, hL⟩ := h1.lies
      have HF := Aside0.mk (find_call g A c l q _ s w1 hL hC hl HS.out)
      have H1 := Aside0.mk h1
      have K1 := Aside0.mk (HK0.out.trans k1 (.inl rfl))
      clear h1 k1 hC hL
      go_wp2_with fail
      refine HF.out.mono ?_
      rw [HT.out]
      rintro e w2 ⟨rfl, hb⟩
      have h2 := H1.out.below hb
      have K2 := Aside0.mk (K1.out.trans (Keeps.of_below hb) (.inl rfl))
      obtain ⟨b, c', hv, hbb, e0, e1, e2, ez, es2, es1, es3⟩ := row_elem h2.row (pos l s) hlt
      injection hv with hv1 hv2 hv3
      subst hv1; subst hv3
      have H2 := Aside0.mk h2
      have ES := Aside0.mk es2
      have g0 := blk_cell h2.blk 0
      have ez2 := ez 2
      have hne : b ≠ g := fun hh => by
        obtain ⟨cells, hc'⟩ := Kd.R_typed h2.row b (by simp [Value.ownBlock])
        rw [hh, h2.blk] at hc'
        injection hc' with hc'
        injection hc' with _ hc'
        exact absurd hc' (by decide)
      have HNE := Aside0.mk hne
      clear h2 es1 es2 es3 ez hb hbb hne
      generalize hp : pos l s = p at hlt e0 e1 e2 ez2 ES
      generalize hx : rd_T52 l (p : Int) = x at e0 e1 e2 ES
      have hlt1 : ((p : Nat) : Int) < (l.length : Int) := by omega
      have hp0 : 0 ≤ ((p : Nat) : Int) := by omega
      have HP := Aside0.mk hp
      have HX := Aside0.mk hx
      clear hx hp
      go_wp2_with fail
      go_region
      go_wp2
      go_ret
      refine ⟨.slice (some ⟨b, 0, none⟩) l.length c, rfl, ?_, (K2.out.trans (Keeps.put w2 g b l.length c _ _) (.inl rfl)).drew⟩
      rw [HP.out, HX.out]
      exact (H2.out.put HNE.out (ES.out _)).drew
    · rw [if_neg ht]
      have ht := Bool.eq_false_iff.2 ht
      have HT := Aside0.mk ht
      clear ht
      go_enter Try.func60, Try.ntmps60
      go_wp2_with fail
      refine HBC.out.mono ?_
      rintro e w1 ⟨rfl, h1, k1⟩
      obtain ⟨A, c, rfl, hc, hC, hL⟩ := h1.lies
      have HF := Aside0.mk (find_call g A c l q _ s w1 hL hC hl HS.out)
      have H1 := Aside0.mk h1
      have K1 := Aside0.mk (HK0.out.trans k1 (.inl rfl))
      clear h1 k1 hC hL
      go_wp2_with fail
      refine HF.out.mono ?_
      rw [HT.out]
      rintro e w2 ⟨rfl, hb⟩
      go_wp2
      go_ret
      exact ⟨_, rfl, H1.out.below hb, K1.out.trans (Keeps.of_below hb) (.inl rfl)⟩
  · have hop : stepOf f [s] l (syncOp l s) = (l, 8) := by unfold stepOf; rw [h8, if_neg (by omega)]
    rw [hop]
    rw [h8] at hbc
    have HBC := Aside0.mk hbc
    have HK0 := Aside0.mk K0
    clear hbc K0 hb0 hop h8 h hs
    go_enter Try.func60, Try.ntmps60
    go_wp2_with fail
    refine HBC.out.mono ?_
    rintro e w1 ⟨rfl, h1, k1⟩
    go_wp2
    go_ret
    exact ⟨_, rfl, h1, HK0.out.trans k1 (.inl rfl)⟩
  · have hop : stepOf f [s] l (syncOp l s) = (l, 2) := by unfold stepOf; rw [h2, if_neg (by omega)]
    rw [hop]
    rw [h2] at hbc
    have HBC := Aside0.mk hbc
    have HK0 := Aside0.mk K0
    clear hbc K0 hb0 hop h2 h hs
    go_enter Try.func60, Try.ntmps60
    go_wp2_with fail
    refine HBC.out.mono ?_
    rintro e w1 ⟨rfl, h1, k1⟩
    go_wp2
    go_ret
    exact ⟨_, rfl, h1, HK0.out.trans k1 (.inl rfl)⟩
end Go.Proofs.Ytbppijlcmeidaaa.M
end
section
/- A row of files of the call's own as one run of cells, and back. No condition. -/
namespace Go.Proofs.Ytbppijlcmeidaaa.M
open Go.RowKit Go.Proofs.Ytbppijlcmeidaaa.P Go.Proofs.YtbppijlcmeidaaaW.PrintWords Go.Proofs.YtbppijlcmeidaaaW.PrintLast Go.Proofs.YtbppijlcmeidaaaW.PrintMore
set_option linter.unusedVariables false
def cells3 (x : S52) : List Value := [.string x.f0, .string x.f1, .int .i64 x.f2]
def flat (l : List S52) : List Value := l.flatMap cells3
theorem flat_length (l : List S52) : (flat l).length = l.length * 3 := by
  induction l with
  | nil => rfl
  | cons x l ih => show (cells3 x ++ flat l).length = _; rw [List.length_append, ih]; show 3 + _ = _; simp; omega
theorem flat_append (a b : List S52) : flat (a ++ b) = flat a ++ flat b := List.flatMap_append
theorem cells3_length (x : S52) : (cells3 x).length = 3 := rfl
theorem flat_take (l : List S52) (i : Nat) : flat (l.take i) = (flat l).take (i * 3) := by
  induction l generalizing i with
  | nil => simp [flat]
  | cons x l ih =>
    cases i with
    | zero => simp [flat]
    | succ i =>
      show cells3 x ++ flat (l.take i) = (cells3 x ++ flat l).take ((i + 1) * 3)
      rw [ih, List.take_append, List.take_of_length_le (l := cells3 x) (by rw [cells3_length]; omega), cells3_length, show (i + 1) * 3 - 3 = i * 3 by omega]
theorem flat_drop (l : List S52) (i : Nat) : flat (l.drop i) = (flat l).drop (i * 3) := by
  induction l generalizing i with
  | nil => simp [flat]
  | cons x l ih =>
    cases i with
    | zero => simp
    | succ i =>
      show flat (l.drop i) = (cells3 x ++ flat l).drop ((i + 1) * 3)
      rw [ih, List.drop_append, show List.drop ((i + 1) * 3) (cells3 x) = [] from List.drop_eq_nil_of_le (by rw [cells3_length]; omega), cells3_length, show (i + 1) * 3 - 3 = i * 3 by omega, List.nil_append]
theorem reps_flat (W : World) (base : Nat) (okp : Nat → Prop) (l : List S52) : Reps (k52.M W base okp) 3 l (flat l) := by
  refine ⟨flat_length l, fun i x hx => ?_⟩
  have hi := (List.getElem?_eq_some_iff.1 hx).1
  rw [← flat_drop, drop_at l i hi]
  have e : l[i] = x := by
    have := List.getElem?_eq_getElem hi
    rw [this] at hx
    exact Option.some.inj hx
  rw [e]
  show k52.M W base okp x (List.take 3 (cells3 x ++ flat (l.drop (i + 1))))
  rw [List.take_append_of_le_length (by show 3 ≤ 3; omega), List.take_of_length_le (by show 3 ≤ 3; omega)]
  exact k52_mkM W base _ x
theorem flat_of_reps {W : World} {base : Nat} {okp : Nat → Prop} : ∀ {l : List S52} {inner : List Value}, Reps (k52.M W base okp) 3 l inner → inner = flat l := by
  intro l
  induction l with
  | nil => intro inner h; exact List.eq_nil_of_length_eq_zero (by rw [h.1]; rfl)
  | cons x l ih =>
    intro inner h
    have h0 := h.2 0 x rfl
    rw [Nat.zero_mul, List.drop_zero] at h0
    have e0 : inner.take 3 = cells3 x := by
      obtain ⟨c0, c1, e, g0, c2, c3, rfl, g1, g2⟩ := h0
      rw [e, show c0 = [Value.string x.f0] from g0, show c2 = [Value.string x.f1] from g1, show c3 = [Value.int .i64 x.f2] from g2]
      rfl
    have h1 : Reps (k52.M W base okp) 3 l (inner.drop 3) := by
      refine ⟨by rw [List.length_drop, h.1]; simp; omega, fun i y hy => ?_⟩
      have := h.2 (i + 1) y (by simpa using hy)
      rw [List.drop_drop, show 3 + i * 3 = (i + 1) * 3 by omega]
      exact this
    rw [← List.take_append_drop 3 inner, e0, ih h1]
    rfl
theorem R_flat {W : World} {base b n c : Nat} {l : List S52} (h : Kd.R k52 52 W base (fun _ => True) (.slice (some ⟨b, 0, none⟩) n c) l) :
    ∃ cur, W.heap[b]? = some (.cells cur 52 (0, 0)) ∧ cur.size = c * 3 ∧ cur.toList.take (l.length * 3) = flat l ∧ base ≤ b ∧ l.length ≤ c ∧ n = l.length ∧ c ≤ maxLen := by
  obtain ⟨hn, hnc, _⟩ := Kd.R_reads' h
  obtain ⟨hok, inner, hown, hr⟩ := h
  have e := flat_of_reps hr
  subst e
  rcases hown.2 with ⟨hv, _⟩ | ⟨g', cap', cur, hv, hb, hh, hle, hcm, hcs, htake⟩
  · cases hv
  injection hv with ha _ hc
  injection ha with ha
  injection ha with hg
  subst hg; subst hc
  exact ⟨cur, hh, hcs, htake, hb, hle, hn, hcm⟩
theorem R_of_flat {W : World} {base b c : Nat} {l : List S52} {cur : Array Value} (hh : W.heap[b]? = some (.cells cur 52 (0, 0))) (hcs : cur.size = c * 3) (ht : cur.toList.take (l.length * 3) = flat l) (hb : base ≤ b) (hc : l.length ≤ c) (hm : c ≤ maxLen) :
    Kd.R k52 52 W base (fun _ => True) (.slice (some ⟨b, 0, none⟩) l.length c) l :=
  ⟨fun _ _ => trivial, flat l, ⟨flat_length l, .inr ⟨b, c, cur, rfl, hb, hh, hc, hm, hcs, ht⟩⟩, reps_flat _ _ _ _⟩
end Go.Proofs.Ytbppijlcmeidaaa.M
end
section
/- slices.Delete of one file out of a row of the call's own, walked. Condition: the place is one of the row's. -/
namespace Go.Proofs.Ytbppijlcmeidaaa.M
open Go.RowKit Go.Proofs.Ytbppijlcmeidaaa.P Go.Proofs.YtbppijlcmeidaaaW.PrintWords Go.Proofs.YtbppijlcmeidaaaW.PrintLast Go.Proofs.YtbppijlcmeidaaaW.PrintMore
set_option linter.unusedVariables false

theorem sub_addr (b c p : Nat) : (if c = p + 1 then some (⟨b, 0, none⟩ : Addr) else some ⟨b, (p + 1) * 3, none⟩) = if c = p + 1 then some ⟨b, 0, none⟩ else Option.map (fun x : Addr => x.add ((p + 1) * k52.sz)) (some ⟨b, 0, none⟩) := by
  by_cases h : c = p + 1
  · rw [if_pos h, if_pos h]
  · rw [if_neg h, if_neg h, show k52.sz = 3 from rfl]
    simp [Addr.add]
theorem R_tail {W : World} {base b c : Nat} {l : List S52} {cur : Array Value} (hh : W.heap[b]? = some (.cells cur 52 (0, 0))) (hcs : cur.size = c * 3) (ht : cur.toList.take (l.length * 3) = flat l) (hb : base ≤ b) (hc : l.length + 1 ≤ c) (hm : c ≤ maxLen) (vs : List Value) (hv : vs.length = 3) :
    Kd.R k52 52 (W.setRow b (cur.toList.take (l.length * 3) ++ vs ++ cur.toList.drop (l.length * 3 + 3)).toArray) base (fun _ => True) (.slice (some ⟨b, 0, none⟩) l.length c) l := by
  have hlen : cur.toList.length = c * 3 := by simpa using hcs
  refine R_of_flat (setRow_heap W b cur _ 52 (0, 0) hh) ?_ ?_ hb (by omega) hm
  · simp only [List.size_toArray, List.length_append, List.length_take, List.length_drop, hv, hlen]
    omega
  · rw [List.append_assoc, List.take_left' (by rw [List.length_take, hlen]; omega)]
    exact ht
theorem zero52 (w : World) : (zeroValue 52).run Try.prog w = .ok (Value.agg #[Value.string ⟨#[]⟩, Value.string ⟨#[]⟩, Value.int .i64 0]) w := by
  have h := info52
  obtain ⟨i, hi, hz⟩ := Option.map_eq_some_iff.1 h
  injection hz with hz _
  simp [zeroValue, typeInfo, hi, hz]
theorem run_clear3 (b o c : Nat) (cur : Array Value) (W : World) (hg : W.heap[b]? = some (.cells cur 52 (0, 0))) (hf : o + 3 ≤ cur.size) (ty : TypeId) :
    (Builtin.clear_ #[27] ty #[.slice (some ⟨b, o, none⟩) 1 c]).run Try.prog W = .ok (.tuple #[]) (W.setRow b (cur.toList.take o ++ [Value.string ⟨#[]⟩, Value.string ⟨#[]⟩, Value.int .i64 0] ++ cur.toList.drop (o + 3)).toArray) := by
  have hst := run_storeCells_at Try.prog b o 52 [.string ⟨#[]⟩, .string ⟨#[]⟩, .int .i64 0] 0 cur W hg (by simpa using hf) (by simp [Value.oneCell'])
  have hz : (Builtin.zeroCells (Value.agg #[.string ⟨#[]⟩, .string ⟨#[]⟩, .int .i64 0]).cells 1).toList = [.string ⟨#[]⟩, .string ⟨#[]⟩, .int .i64 0] := by kernel_rfl
  have hzz := zero52
  simp only [Builtin.clear_]
  simp [run_underlying Try.underlying27, hzz, hz, hst]

set_option maxRecDepth 100000 in
set_option maxHeartbeats 4000000 in
theorem delete_call (w0 w : World) (base b c p : Nat) (l : List S52) (h : Kd.R k52 52 w base (fun _ => True) (.slice (some ⟨b, 0, none⟩) l.length c) l) (hp : p < l.length) (hB : Below base w0 w) (hbase : base ≤ w.heap.size) :
    Calls Try.prog 79 #[.slice (some ⟨b, 0, none⟩) l.length c, .int .i64 p, .int .i64 ((p : Int) + 1)] w fun e w' => e = .returned (.slice (some ⟨b, 0, none⟩) (l.length - 1) c) ∧ Kd.R k52 52 w' base (fun _ => True) (.slice (some ⟨b, 0, none⟩) (l.length - 1) c) (l.eraseIdx p) ∧ Below base w0 w' ∧ w.heap.size ≤ w'.heap.size ∧ ∀ i, i < w.heap.size → i ≠ b → w'.heap[i]? = w.heap[i]? := by
  have hu27 := Try.underlying27
  have hu52 := Try.underlying52
  obtain ⟨cur, hcur, hsz, htk, hbb, hlc, _, hmx⟩ := R_flat h
  have hmx2 : c ≤ 9223372036854775807 := by simp [maxLen] at hmx; omega
  have H := Aside0.mk h
  have HB := Aside0.mk hB
  have h1 : ((p : Nat) : Int) + 1 ≤ (l.length : Int) := by omega
  have h2 : ((l.length : Nat) : Int) ≤ (c : Int) := by omega
  have hpc : p ≤ c := by omega
  have hpc1 : p + 1 ≤ l.length := hp
  have hpc2 : p + 1 ≤ c := by omega
  have hpc3 : 0 ≤ ((p : Nat) : Int) + 1 := by omega
  clear h hB hcur hsz htk hbb hmx
  go_enter Try.func79, Try.ntmps79
  go_wp2_with fail
  go_region_law (refine Kd.R_delete_step k52 (w0 := w0) base rfl (.tmp 22) (.tmp 25) 27 52 rfl hu27 (by kernel_rfl) rfl rfl ?hA ?hm (Kd.R_drew H.out) hp (below_drew HB.out) hbase ?_; (case hA => exact sub_addr b c p); (case hm => rfl); intro W1 r1 r2 r3)
  obtain ⟨cur1, k1, k2, k3, q1, q2, q3, hmx⟩ := R_flat r1
  have hcl := run_clear3 b ((l.length - 1) * 3) (c - (l.length - 1)) cur1 W1 k1 (by omega)
  obtain ⟨row, hrow⟩ : ∃ row, row = (cur1.toList.take ((l.length - 1) * 3) ++ [Value.string ⟨#[]⟩, Value.string ⟨#[]⟩, Value.int .i64 0] ++ cur1.toList.drop ((l.length - 1) * 3 + 3)).toArray := ⟨_, rfl⟩
  rw [← hrow] at hcl
  have HRow := Aside0.mk hrow
  clear hrow
  have hcne : ¬ c = l.length - 1 := by omega
  have h1e : l.length - (l.length - 1) = 1 := by omega
  have hle1 : l.length - 1 ≤ l.length := by omega
  have X := Aside0.mk (And.intro k1 (And.intro k2 (And.intro k3 hmx)))
  have Y := Aside0.mk (And.intro r2 r3)
  have Z := Aside0.mk (And.intro q1 (And.intro q2 q3))
  clear k1 k2 k3 hmx r1 r2 r3 q1 q2 q3
  go_wp2
  all_goals
    go_ret
    refine ⟨rfl, ?_, ?_, ?_⟩
    · rw [HRow.out, Z.out.2.2]
      have hR := R_tail X.out.1 X.out.2.1 X.out.2.2.1 Z.out.1 (by have := Z.out.2.2; omega) X.out.2.2.2 [Value.string ⟨#[]⟩, Value.string ⟨#[]⟩, Value.int .i64 0] rfl
      first
        | exact hR
        | (rw [show p + 1 = c by omega]; exact hR)
    · exact below_setRow Y.out.1 Z.out.1 _
    · exact ⟨Nat.le_trans Y.out.2.size (by simp), fun i hi hne => (setRow_other _ _ _ _ hne).trans (Y.out.2.block i hi (fun e => hne (by injection e)))⟩
end Go.Proofs.Ytbppijlcmeidaaa.M
end
section
/- The step remove, walked, on a directory of the call's own. Condition: the files are in order, at most 200. -/
namespace Go.Proofs.Ytbppijlcmeidaaa.M
open Go.RowKit Go.Proofs.Ytbppijlcmeidaaa.P Go.Proofs.YtbppijlcmeidaaaW.PrintWords Go.Proofs.YtbppijlcmeidaaaW.PrintLast Go.Proofs.YtbppijlcmeidaaaW.PrintMore
set_option linter.unusedVariables false
def removeOp (l : List S52) (s : ByteArray) : List S52 × Int := if there l s = true then (l.eraseIdx (pos l s), 0) else (l, 1)
def removeRes (l : List S52) (f : Int) (s : ByteArray) : List S52 × Int := stepOf f [s] l (removeOp l s)
theorem FsAt.row_block {w0 w : World} {g : Nat} {v : Value} {l : List S52} {q f : Int} (h : FsAt w0 w g v l q f) (hl : 0 < l.length) : ∃ b c, v = .slice (some ⟨b, 0, none⟩) l.length c ∧ b ≠ g ∧ w0.heap.size ≤ b ∧ b < w.heap.size := by
  obtain ⟨b, c, e, hb, hlt, cells, hc⟩ := Kd.R_form h.row hl
  refine ⟨b, c, e, fun hh => ?_, hb, hlt⟩
  rw [hh, h.blk] at hc
  injection hc with hc
  injection hc with _ hc
  exact absurd hc (by decide)
/-- The directory with its files put anew. -/
theorem FsAt.files {w0 w : World} {g : Nat} {v v' : Value} {l l' : List S52} {q f : Int} (hb : w.heap[g]? = some (.cells #[v, .int .i64 q, .int .i64 f] 29 (0, 0))) (hr : Kd.R k52 52 w w0.heap.size (fun _ => True) v' l') (hB : Below w0.heap.size w0 w) (hg : w0.heap.size ≤ g) :
    FsAt w0 (w.setCell ⟨g, 0, none⟩ v') g v' l' q f :=
  ⟨blk_put hb 0 _ rfl, Kd.R_set hr hb h52 0 _, hB.setCell hg _, hg⟩

set_option maxRecDepth 100000 in
set_option maxHeartbeats 4000000 in
theorem remove_call (w0 w : World) (g : Nat) (v : Value) (l : List S52) (q f : Int) (s : ByteArray) (h : FsAt w0 w g v l q f) (hf : -1 ≤ f) (hf2 : f ≤ 9223372036854775807) (hl : l.length ≤ 200) (hs : Sorted l) :
    Calls Try.prog 57 #[.pointer (some ⟨g, 0, none⟩), .string s] w fun e w' => Stepped w0 w g v (removeRes l f s) q f e w' := by
  unfold removeRes
  have hu29 := Try.underlying29
  have hu52 := Try.underlying52
  have hb0 : Below w.heap.size w (w.alloc (.cells #[.string s] 9)) := (Below.refl _ _).alloc (Nat.le_refl _) _
  have hg := blk_lt h.blk
  have hbc := begin_call w0 (w.alloc (.cells #[.string s] 9)) g v l q f (some ⟨w.heap.size, 0, none⟩) 1 [s] (h.below hb0) (names1 w s) hf hf2 (by simp) (fun ad e => by injection e with e; subst e; show w.heap.size ≠ g; omega)
  change Calls _ _ _ _ (fun e w' => e = .returned (.int .i64 (stepCode f [s])) ∧ _) at hbc
  have K0 := Keeps.of_below (g := g) (v := v) hb0
  rcases stepCode_cases f [s] with ⟨h0, _, _⟩ | h8 | h2
  · have hop : stepOf f [s] l (removeOp l s) = removeOp l s := by unfold stepOf; rw [if_pos h0]
    rw [hop]
    rw [h0] at hbc
    have HBC := Aside0.mk hbc
    have HK0 := Aside0.mk K0
    have HS := Aside0.mk hs
    clear hbc K0 hb0 hop h0 h hs
    unfold removeOp
    by_cases ht : there l s = true
    · rw [if_pos ht]
      have hlt := there_lt ht
      have HT := Aside0.mk ht
      clear ht
      go_enter Try.func57, Try.ntmps57
      go_wp2_with fail
      refine HBC.out.mono ?_
      rintro e w1 ⟨rfl, h1, k1⟩
      obtain ⟨A, c, rfl, hc, hC, hL⟩ := h1.lies
      have HF := Aside0.mk (find_call g A c l q _ s w1 hL hC hl HS.out)
      have H1 := Aside0.mk h1
      have K1 := Aside0.mk (HK0.out.trans k1 (.inl rfl))
      clear h1 k1 hC hL
      go_wp2_with fail
      refine HF.out.mono ?_
      rw [HT.out]
      rintro e w2 ⟨rfl, hb⟩
      have h2 := H1.out.below hb
      have K2 := Aside0.mk (K1.out.trans (Keeps.of_below hb) (.inl rfl))
      obtain ⟨b, c', hv, hne, hbb, hblt⟩ := h2.row_block (by omega)
      injection hv with hv1 hv2 hv3
      subst hv1; subst hv3
      have H2 := Aside0.mk h2
      have g0 := blk_cell h2.blk 0
      have HD := Aside0.mk (delete_call w0 w2 w0.heap.size b c (pos l s) l h2.row hlt h2.bel h2.bel.size)
      have HNE := Aside0.mk hne
      clear h2 hb hne hbb hblt
      have hp0 : ((pos l s : Nat) : Int) + 1 ≤ 9223372036854775807 := by omega
      have hu27 := Try.underlying27
      go_wp2_with fail
      refine HD.out.mono ?_
      rintro e w3 ⟨rfl, hr, hB, hsz, hbl⟩
      have T := (hbl g (blk_lt H2.out.blk) (fun e => HNE.out e.symm)).trans H2.out.blk
      have j0 := blk_cell T 0
      have j1 := blk_frozen T 0
      have HT3 := Aside0.mk T
      have HR3 := Aside0.mk hr
      have HB3 := Aside0.mk hB
      have HK3 := Aside0.mk (And.intro hsz hbl)
      clear T hr hB hsz hbl
      go_wp2
      go_ret
      refine ⟨.slice (some ⟨b, 0, none⟩) (l.length - 1) c, rfl, FsAt.files (l := l) HT3.out HR3.out HB3.out H2.out.ge, ?_⟩
      refine (K2.out.trans (v1 := .slice (some ⟨b, 0, none⟩) l.length c) ⟨HK3.out.1, fun i hi hg hn => HK3.out.2 i hi (fun e => hn (by rw [e]; rfl))⟩ (.inl rfl)).trans (v1 := .slice (some ⟨b, 0, none⟩) l.length c) (Keeps.setCell _ 0 _) (.inl rfl)
    · rw [if_neg ht]
      have ht := Bool.eq_false_iff.2 ht
      have HT := Aside0.mk ht
      clear ht
      go_enter Try.func57, Try.ntmps57
      go_wp2_with fail
      refine HBC.out.mono ?_
      rintro e w1 ⟨rfl, h1, k1⟩
      obtain ⟨A, c, rfl, hc, hC, hL⟩ := h1.lies
      have HF := Aside0.mk (find_call g A c l q _ s w1 hL hC hl HS.out)
      have H1 := Aside0.mk h1
      have K1 := Aside0.mk (HK0.out.trans k1 (.inl rfl))
      clear h1 k1 hC hL
      go_wp2_with fail
      refine HF.out.mono ?_
      rw [HT.out]
      rintro e w2 ⟨rfl, hb⟩
      go_wp2
      go_ret
      exact ⟨_, rfl, H1.out.below hb, K1.out.trans (Keeps.of_below hb) (.inl rfl)⟩
  · have hop : stepOf f [s] l (removeOp l s) = (l, 8) := by unfold stepOf; rw [h8, if_neg (by omega)]
    rw [hop]
    rw [h8] at hbc
    have HBC := Aside0.mk hbc
    have HK0 := Aside0.mk K0
    clear hbc K0 hb0 hop h8 h hs
    go_enter Try.func57, Try.ntmps57
    go_wp2_with fail
    refine HBC.out.mono ?_
    rintro e w1 ⟨rfl, h1, k1⟩
    go_wp2
    go_ret
    exact ⟨_, rfl, h1, HK0.out.trans k1 (.inl rfl)⟩
  · have hop : stepOf f [s] l (removeOp l s) = (l, 2) := by unfold stepOf; rw [h2, if_neg (by omega)]
    rw [hop]
    rw [h2] at hbc
    have HBC := Aside0.mk hbc
    have HK0 := Aside0.mk K0
    clear hbc K0 hb0 hop h2 h hs
    go_enter Try.func57, Try.ntmps57
    go_wp2_with fail
    refine HBC.out.mono ?_
    rintro e w1 ⟨rfl, h1, k1⟩
    go_wp2
    go_ret
    exact ⟨_, rfl, h1, HK0.out.trans k1 (.inl rfl)⟩
end Go.Proofs.Ytbppijlcmeidaaa.M
end
section
/- What a step answers, in one form for all five. -/
namespace Go.Proofs.Ytbppijlcmeidaaa.M
open Go.RowKit Go.Proofs.Ytbppijlcmeidaaa.P Go.Proofs.YtbppijlcmeidaaaW.PrintWords Go.Proofs.YtbppijlcmeidaaaW.PrintLast Go.Proofs.YtbppijlcmeidaaaW.PrintMore
/-- The directory and the code behind a step whose files and code, for a valid directory, are r. -/
def fsRes (l : List S52) (q f : Int) (r : List S52 × Int) : List S52 × Int × Int × Int := if validB l q f = true then (r.1, q, fuel' f, r.2) else ([], 0, 0, 9)
def syncRes (l : List S52) (f : Int) (s : ByteArray) : List S52 × Int := stepOf f [s] l (syncOp l s)
end Go.Proofs.Ytbppijlcmeidaaa.M
end
section
/- The program's FsRemove, walked, and its closure. Condition: the sizes of the Data add up to a number of 63 bits. -/
namespace Go.Proofs.Ytbppijlcmeidaaa.M
open Go.RowKit Go.Proofs.Ytbppijlcmeidaaa.P Go.Proofs.YtbppijlcmeidaaaW.PrintWords Go.Proofs.YtbppijlcmeidaaaW.PrintLast Go.Proofs.YtbppijlcmeidaaaW.PrintMore
set_option linter.unusedVariables false

set_option maxRecDepth 100000 in
set_option maxHeartbeats 1000000 in
theorem removeCl_call (w0 w : World) (g : Nat) (v : Value) (l : List S52) (q f : Int) (s : ByteArray) (nb0 : Nat) (h : FsAt w0 w g v l q f) (hf : -1 ≤ f) (hf2 : f ≤ 9223372036854775807) (hl : l.length ≤ 200) (hs : Sorted l) (hn0 : w.cell? ⟨nb0, 0, none⟩ = some (.string s)) :
    Calls Try.prog 56 #[.pointer (some ⟨g, 0, none⟩), .pointer (some ⟨nb0, 0, none⟩)] w fun e w' => Stepped w0 w g v (removeRes l f s) q f e w' := by
  have HC := Aside0.mk (remove_call w0 w g v l q f s h hf hf2 hl hs)
  clear h hs
  go_enter Try.func56, Try.ntmps56
  go_wp2_with fail
  refine HC.out.mono ?_
  rintro e w1 ⟨v', rfl, h1, h2⟩
  go_wp2
  go_ret
  exact ⟨v', rfl, h1, h2⟩


set_option maxRecDepth 100000 in
set_option maxHeartbeats 4000000 in
theorem removeStep_call (A : Option Addr) (c : Nat) (l : List S52) (q f : Int) (s : ByteArray) (nb0 : Nat) (w : World) (hr : Kd.C k52 w A l.length l) (hc : l.length ≤ c) (ht : ValidFits l) (hf2 : f ≤ 9223372036854775807) (hn0 : w.cell? ⟨nb0, 0, none⟩ = some (.string s)) :
    Calls Try.prog 55 #[.agg #[.slice A l.length c, .int .i64 q, .int .i64 f], .func (.func 56) #[] #[.pointer (some ⟨nb0, 0, none⟩)]] w fun e w' => ∃ v, e = .returned (.tuple #[.agg #[v, .int .i64 (fsRes l q f (removeRes l f s)).2.1, .int .i64 (fsRes l q f (removeRes l f s)).2.2.1], .int .i64 (fsRes l q f (removeRes l f s)).2.2.2]) ∧ Kd.R k52 52 w' w.heap.size (fun _ => True) v (fsRes l q f (removeRes l f s)).1 ∧ Below w.heap.size w w' := by
  have hu29 := Try.underlying29
  have HR := Aside0.mk hr
  have b0 : Below w.heap.size w ((w.alloc (.cells #[.slice A l.length c, .int .i64 q, .int .i64 f] 29)).alloc (.cells #[.slice none 0 0, .int .i64 0, .int .i64 0] 29)) := ((Below.refl _ _).alloc (Nat.le_refl _) _).alloc (by simp) _
  have hv := valid_any A c l q f _ (Kd.C_below hr b0) hc ht
  have HB0 := Aside0.mk b0
  unfold fsRes
  by_cases h : validB l q f = true
  · rw [if_pos h]
    rw [h] at hv
    have HV := Aside0.mk hv
    have HL := Aside0.mk h
    have HN := Aside0.mk (show w.cell? ⟨nb0, 0, none⟩ = some (.string s) from hn0)
    clear hv hr hc ht h b0 hn0
    go_enter Try.func55, Try.ntmps55
    go_wp2_with fail
    refine HV.out.mono ?_
    rintro e w1 ⟨rfl, hb⟩
    have s1 := hb.size
    simp only [World.size_alloc] at s1
    have HB := Aside0.mk (HB0.out.trans (hb.mono (by simp; omega)))
    have B0 : w1.heap[w.heap.size]? = some (.cells #[.slice A l.length c, .int .i64 q, .int .i64 f] 29 (0, 0)) := (hb.block _ (by simp; omega)).trans (blk_alloc (heap_alloc_new _ _) _)
    have B1 : w1.heap[w.heap.size + 1]? = some (.cells #[.slice none 0 0, .int .i64 0, .int .i64 0] 29 (0, 0)) := by
      have := (hb.block (w.alloc (.cells #[.slice A l.length c, .int .i64 q, .int .i64 f] 29)).heap.size (by simp)).trans (heap_alloc_new _ _)
      simpa using this
    have c00 := blk_cell B0 0
    have c01 := blk_cell B0 1
    have c02 := blk_cell B0 2
    have HC := Aside0.mk (copyFS_call A c l q f w1 (Kd.C_below HR.out HB.out) (valid_parts HL.out).1)
    have HB1 := Aside0.mk B1
    clear B0 B1 hb
    go_wp2_with fail
    refine HC.out.mono ?_
    rintro e w2 ⟨v, rfl, hR, hb⟩
    obtain ⟨A', c', rfl⟩ := Kd.R_slice hR
    have s2 := hb.size
    have HB2 := Aside0.mk (HB.out.trans (hb.mono (by omega)))
    have HB3 := Aside0.mk (HB2.out.alloc HB2.out.size (.cells #[.slice A' l.length c', .int .i64 q, .int .i64 f] 29))
    have HB4 := Aside0.mk ((hb.block _ (blk_lt HB1.out)).trans HB1.out)
    have HF := Aside0.mk (show FsAt w (w2.alloc (.cells #[.slice A' l.length c', .int .i64 q, .int .i64 f] 29)) w2.heap.size (.slice A' l.length c') l q f from
      ⟨heap_alloc_new _ _, Kd.R_lower (Kd.R_alloc hR _) HB.out.size, HB3.out, HB2.out.size⟩)
    have HCL := Aside0.mk (removeCl_call w _ w2.heap.size _ l q f s nb0 HF.out (valid_parts HL.out).2.2.2.1 hf2 (valid_parts HL.out).1 (valid_sorted HL.out) ((HB3.out.cell (World.block_lt_of_cell? w _ HN.out)).trans HN.out))
    clear hb hR c00 c01 c02
    go_wp2_with fail
    refine HCL.out.mono ?_
    rintro e w3 ⟨v3, rfl, h3, k3⟩
    obtain ⟨A3, c3, rfl⟩ := Kd.R_slice h3.row
    have T4 := Aside0.mk (show w3.heap[w.heap.size + 1]? = some (.cells #[.slice none 0 0, .int .i64 0, .int .i64 0] 29 (0, 0)) from
      (k3.block (w.heap.size + 1) (by have := blk_lt HB4.out; simp; omega) (by have := blk_lt HB4.out; omega) (Kd.R_ne HF.out.row (blk_alloc HB4.out _) (by decide))).trans (blk_alloc HB4.out _))
    have d0 := blk_cell h3.blk 0
    have d1 := blk_cell h3.blk 1
    have d2 := blk_cell h3.blk 2
    have e0 := blk_cell T4.out 0
    have e1 := blk_cell T4.out 1
    have e2 := blk_cell T4.out 2
    have k0 := blk_frozen T4.out 0
    have k1 := blk_frozen T4.out 1
    have k2 := blk_frozen T4.out 2
    have H3 := Aside0.mk h3
    clear h3 k3
    go_wp2
    refine bodyPost_ret (results_list (rs := [.cell 4 29, .tmp 5]) rfl (by simp) (.cell (w.heap.size + 1) 29 #[.slice A3 (removeRes l f s).1.length c3, .int .i64 q, .int .i64 (fuel' f)] (0, 0) _ rfl ?_ hu29 rfl (by kernel_rfl) (.tmp .nil))) rfl ⟨_, rfl, ?_, ?_⟩
    · exact blk_put (blk_put (blk_put T4.out 0 _ rfl) 1 _ rfl) 2 _ rfl
    · exact Kd.R_set (Kd.R_set (Kd.R_set H3.out.row T4.out h52 0 _) (blk_set T4.out _ _) h52 1 _) (blk_set (blk_set T4.out _ _) _ _) h52 2 _
    · exact ((H3.out.bel.setCell (by simp) _).setCell (by simp) _).setCell (by simp) _
  · rw [if_neg h]
    rw [Bool.eq_false_iff.2 h] at hv
    have HV := Aside0.mk hv
    clear hv hr hc ht h b0 hn0
    go_enter Try.func55, Try.ntmps55
    go_wp2_with fail
    refine HV.out.mono ?_
    rintro e w1 ⟨rfl, hb⟩
    have s1 := hb.size
    simp only [World.size_alloc] at s1
    have HB := Aside0.mk (HB0.out.trans (hb.mono (by simp; omega)))
    have B1 : w1.heap[w.heap.size + 1]? = some (.cells #[.slice none 0 0, .int .i64 0, .int .i64 0] 29 (0, 0)) := by
      have := (hb.block (w.alloc (.cells #[.slice A l.length c, .int .i64 q, .int .i64 f] 29)).heap.size (by simp)).trans (heap_alloc_new _ _)
      simpa using this
    have e0 := blk_cell B1 0
    have e1 := blk_cell B1 1
    have e2 := blk_cell B1 2
    have k0 := blk_frozen B1 0
    have k1 := blk_frozen B1 1
    have k2 := blk_frozen B1 2
    have T4 := Aside0.mk B1
    clear B1 hb
    go_wp2
    refine bodyPost_ret (results_list (rs := [.cell 4 29, .tmp 5]) rfl (by simp) (.cell (w.heap.size + 1) 29 #[.slice none 0 0, .int .i64 0, .int .i64 0] (0, 0) _ rfl ?_ hu29 rfl (by kernel_rfl) (.tmp .nil))) rfl ⟨_, rfl, Kd.R_nil _ _ _ _ _, ?_⟩
    · exact blk_put (blk_put (blk_put T4.out 0 _ rfl) 1 _ rfl) 2 _ rfl
    · exact ((HB.out.setCell (by simp) _).setCell (by simp) _).setCell (by simp) _


set_option maxRecDepth 100000 in
set_option maxHeartbeats 4000000 in
theorem fsRemove_call (A : Option Addr) (c : Nat) (l : List S52) (q f : Int) (s : ByteArray) (w : World) (hr : Kd.C k52 w A l.length l) (hc : l.length ≤ c) (ht : ValidFits l) (hf2 : f ≤ 9223372036854775807) :
    Calls Try.prog 27 #[.agg #[.slice A l.length c, .int .i64 q, .int .i64 f], .string s] w fun e w' => ∃ v, e = .returned (.tuple #[.agg #[v, .int .i64 (fsRes l q f (removeRes l f s)).2.1, .int .i64 (fsRes l q f (removeRes l f s)).2.2.1], .int .i64 (fsRes l q f (removeRes l f s)).2.2.2]) ∧ Kd.R k52 52 w' w.heap.size (fun _ => True) v (fsRes l q f (removeRes l f s)).1 ∧ Below w.heap.size w w' := by
  have hu29 := Try.underlying29
  have b0 : Below w.heap.size w (((w.alloc (.cells #[.slice A l.length c, .int .i64 q, .int .i64 f] 29)).alloc (.cells #[.string s] 9)).alloc (.cells #[.slice none 0 0, .int .i64 0, .int .i64 0] 29)) := ((((Below.refl _ _).alloc (Nat.le_refl _) _).alloc (by simp) _).alloc (by simp; omega) _)
  have T := heap_alloc_new ((w.alloc (.cells #[.slice A l.length c, .int .i64 q, .int .i64 f] 29)).alloc (.cells #[.string s] 9)) (.cells #[.slice none 0 0, .int .i64 0, .int .i64 0] 29)
  have HC := Aside0.mk (removeStep_call A c l q f s (w.heap.size + 1) (((w.alloc (.cells #[.slice A l.length c, .int .i64 q, .int .i64 f] 29)).alloc (.cells #[.string s] 9)).alloc (.cells #[.slice none 0 0, .int .i64 0, .int .i64 0] 29)) (Kd.C_below hr b0) hc ht hf2 ((blk_cell (blk_alloc (show (((w.alloc (.cells #[.slice A l.length c, .int .i64 q, .int .i64 f] 29)).alloc (.cells #[.string s] 9))).heap[w.heap.size + 1]? = some (.cells #[.string s] 9 (0, 0)) from by have := heap_alloc_new (w.alloc (.cells #[.slice A l.length c, .int .i64 q, .int .i64 f] 29)) (.cells #[.string s] 9); simpa using this) _) 0).trans rfl))
  have HB0 := Aside0.mk b0
  have HT := Aside0.mk T
  generalize fsRes l q f (removeRes l f s) = r at HC ⊢
  clear hr hc ht b0 T
  go_enter Try.func27, Try.ntmps27
  go_wp2_with fail
  refine HC.out.mono ?_
  rintro e w1 ⟨v, rfl, hR, hb⟩
  obtain ⟨A', c', rfl⟩ := Kd.R_slice hR
  have s1 := hb.size
  simp only [World.size_alloc] at s1
  have T4 := Aside0.mk (show w1.heap[w.heap.size + 2]? = some (.cells #[.slice none 0 0, .int .i64 0, .int .i64 0] 29 (0, 0)) from by
    have := (hb.block _ (blk_lt HT.out)).trans HT.out
    simpa using this)
  have e0 := blk_cell T4.out 0
  have e1 := blk_cell T4.out 1
  have e2 := blk_cell T4.out 2
  have k0 := blk_frozen T4.out 0
  have k1 := blk_frozen T4.out 1
  have k2 := blk_frozen T4.out 2
  have HR := Aside0.mk hR
  have HB := Aside0.mk (HB0.out.trans (hb.mono HB0.out.size))
  clear hR hb
  go_wp2
  refine bodyPost_ret (results_list (rs := [.cell 4 29, .tmp 5]) rfl (by simp) (.cell (w.heap.size + 2) 29 #[.slice A' r.1.length c', .int .i64 r.2.1, .int .i64 r.2.2.1] (0, 0) _ rfl ?_ hu29 rfl (by kernel_rfl) (.tmp .nil))) rfl ⟨_, rfl, ?_, ?_⟩
  · exact blk_put (blk_put (blk_put T4.out 0 _ rfl) 1 _ rfl) 2 _ rfl
  · exact Kd.R_lower (Kd.R_set (Kd.R_set (Kd.R_set HR.out T4.out h52 0 _) (blk_set T4.out _ _) h52 1 _) (blk_set (blk_set T4.out _ _) _ _) h52 2 _) HB0.out.size
  · exact ((HB.out.setCell (by show w.heap.size ≤ w.heap.size + 2; omega) _).setCell (by show w.heap.size ≤ w.heap.size + 2; omega) _).setCell (by show w.heap.size ≤ w.heap.size + 2; omega) _
end Go.Proofs.Ytbppijlcmeidaaa.M
end
section
-- PRINTED by print.py (a twelfth state) out of the translation. Not trusted: Lean checks it.
namespace Go.Proofs.Ytbppijlcmeidaaa.P
open Go.RowKit Go.Proofs.YtbppijlcmeidaaaW.PrintWords Go.Proofs.YtbppijlcmeidaaaW.PrintLast Go.Proofs.YtbppijlcmeidaaaW.PrintMore
attribute [local go_sem] max2_int min2_int max_two min_two max_three min_three max_four min_four   -- for this text's walks alone
set_option linter.unusedVariables false
set_option linter.unusedSimpArgs false

/-! ### impl_FsRemove: function 27 -/
def impl_FsRemove.f (l0_0 : List (S52)) (a0_1 : Int) (a0_2 : Int) (a1 : ByteArray) : Option ((List (S52)) × Int × Int × Int) := if (l0_0.length ≤ 200 → M.total l0_0 ≤ 9223372036854775000) ∧ a0_2 ≤ 9223372036854775807 then some (M.fsRes l0_0 a0_1 a0_2 (M.removeRes l0_0 a0_2 a1)) else none
theorem impl_FsRemove.calls (A0_0 : Option Addr) (c0_0 : Nat) (l0_0 : List (S52)) (a0_1 : Int) (a0_2 : Int) (a1 : ByteArray) (r1 : List (S52)) (r2 : Int) (r3 : Int) (r4 : Int) (w : World) (hr0_0 : Kd.C k52 w A0_0 l0_0.length l0_0) (hc0_0 : l0_0.length ≤ c0_0) (h : impl_FsRemove.f l0_0 a0_1 a0_2 a1 = some (r1, r2, r3, r4)) :
  Calls Try.prog 27 #[.agg #[.slice A0_0 l0_0.length c0_0, .int .i64 a0_1, .int .i64 a0_2], .string a1] w fun e w' => ∃ v0_ : Value, e = .returned (.tuple #[.agg #[v0_, .int .i64 r2, .int .i64 r3], .int .i64 r4]) ∧ Kd.R k52 52 w' w.heap.size (fun _ => True) v0_ r1 ∧ Below w.heap.size w w' := by
 by_cases c : (l0_0.length ≤ 200 → M.total l0_0 ≤ 9223372036854775000) ∧ a0_2 ≤ 9223372036854775807
 ·unfold impl_FsRemove.f at h
  rw [if_pos c] at h
  have e := Option.some.inj h
  have h1 := M.fsRemove_call A0_0 c0_0 l0_0 a0_1 a0_2 a1 w hr0_0 hc0_0 c.1 c.2
  rw [e] at h1
  exact h1
 ·unfold impl_FsRemove.f at h
  rw [if_neg c] at h
  cases h

end Go.Proofs.Ytbppijlcmeidaaa.P
end
section
-- PRINTED by print.py (a twelfth state) out of the translation. Not trusted: Lean checks it.
namespace Go.Proofs.Ytbppijlcmeidaaa.P
open Go.RowKit Go.Proofs.YtbppijlcmeidaaaW.PrintWords Go.Proofs.YtbppijlcmeidaaaW.PrintLast Go.Proofs.YtbppijlcmeidaaaW.PrintMore
attribute [local go_sem] max2_int min2_int max_two min_two max_three min_three max_four min_four   -- for this text's walks alone
set_option linter.unusedVariables false
set_option linter.unusedSimpArgs false

/-! ### laws_markText: function 76 -/
def laws_markText.l0 : Nat → Int → ByteArray → Option (ByteArray)
 | 0, _, _ => none
 | k + 1, x0, x3 => if x0 > 0 then ((some (([(wrap64 (48 + (Int.tmod x0 10))) % 256] : List Int) : List Int)).bind fun y228 => (if (strOfNums y228).size + x3.size ≤ 9223372036854775807 then (laws_markText.l0 k (wrap64 (Int.tdiv x0 10)) ((strOfNums y228) ++ x3)) else (none))) else (if 1 + x3.size ≤ 9223372036854775807 then (some ((⟨#[109]⟩ : ByteArray) ++ x3)) else (none))
def laws_markText.f (k : Nat) (a0 : Int) : Option (ByteArray) := if a0 ≤ 0 then (some (⟨#[109, 48]⟩ : ByteArray)) else (laws_markText.l0 k a0 (⟨#[]⟩ : ByteArray))
theorem laws_markText.mono_l : ∀ k, (∀ y0 y1, LeO (laws_markText.l0 k y0 y1) (laws_markText.l0 (k + 1) y0 y1))
 | 0 => fun _ _ r h => by simp [laws_markText.l0] at h
 | k + 1 => by
  have ih0 := laws_markText.mono_l k
  ·intro y0 y1
   unfold laws_markText.l0
   repeat' first
   | (with_reducible exact ih0 _ _)
   | (with_reducible exact LeO.refl _)
   | (with_reducible exact LeO.none _)
   | (with_reducible refine LeO.ite ?_ ?_)
   | (with_reducible refine LeO.bind ?_ (fun _ => ?_))
   | exact ih0 _ _
   | exact LeO.none _
   | refine LeO.ite ?_ ?_
   | refine LeO.bind ?_ (fun _ => ?_)
theorem laws_markText.mono : ∀ a0 k, LeO (laws_markText.f k a0) (laws_markText.f (k + 1) a0) := by
 intro a0 k
 have ih0 := laws_markText.mono_l k
 unfold laws_markText.f
 repeat' first
   | (with_reducible exact ih0 _ _)
   | (with_reducible exact LeO.refl _)
   | (with_reducible exact LeO.none _)
   | (with_reducible refine LeO.ite ?_ ?_)
   | (with_reducible refine LeO.bind ?_ (fun _ => ?_))
   | exact ih0 _ _
   | exact LeO.none _
   | refine LeO.ite ?_ ?_
   | refine LeO.bind ?_ (fun _ => ?_)
set_option maxHeartbeats 8000000 in
set_option maxRecDepth 100000 in
theorem laws_markText.calls (k : Nat) (a0 : Int) (r : ByteArray) (w : World) (h : laws_markText.f k a0 = some r) :
  Calls Try.prog 76 #[.int .i64 a0] w fun e w' => e = .returned (.string r) ∧ Below w.heap.size w w' := by
 have HB := Aside0.mk (Below.refl w.heap.size w)
 have H : (if a0 ≤ 0 then (some (⟨#[109, 48]⟩ : ByteArray)) else (laws_markText.l0 k a0 (⟨#[]⟩ : ByteArray))) = some r := h
 clear h
 by_cases c2 : a0 ≤ 0
 ·rw [if_pos c2] at H
  have c2b0 : decide (a0 ≤ 0) = true := decide_eq_true c2
  clear c2
  obtain rfl := Option.some.inj H
  go_enter Try.func76, Try.ntmps76
  go_wp2
  go_ret
  exact ⟨by first | rfl | (simp [errW_none, errW_some] <;> rfl) | (simp [*, errW_none, errW_some] <;> rfl), by repeat (first | (with_reducible first | exact HB.out | apply below_alloc | apply pw_below_drewN | apply below_drew1) | exact HB.out)⟩
 ·rw [if_neg c2] at H
  have c2b0 : decide (a0 ≤ 0) = false := decide_eq_false c2
  clear c2
  have H' := Aside0.mk H
  clear H
  go_enter Try.func76, Try.ntmps76
  go_wp2
  go_loopg [0, 3] k (fun kq v0 v3 w' => ∃ (x0_1 : Int) (x3_1 : ByteArray), v0 = .int .i64 x0_1 ∧ v3 = .string x3_1 ∧ Aside0 (laws_markText.l0 kq x0_1 x3_1 = some r) ∧ Aside0 (kq ≤ k) ∧ Aside0 (Below w.heap.size w w'))
  case atStart => exact ⟨(a0), ((⟨#[]⟩ : ByteArray)), (by first | rfl | (simp; done) | (simp [*]; done)), (by first | rfl | (simp; done) | (simp [*]; done)), H', ⟨Nat.le_refl _⟩, ⟨by repeat (first | (with_reducible first | exact HB.out | apply below_alloc | apply pw_below_drewN | apply below_drew1) | exact HB.out)⟩⟩
  case round =>
   clear H'
   try clear c2
   try clear c2b0
   try clear p2
   obtain ⟨x0_1, x3_1, rfl, rfl, HA, HK1, HB⟩ := hrel
   cases gk with
   | zero => exact absurd HA.out (by simp [laws_markText.l0])
   | succ k1 =>
    have H := HA.out
    clear HA
    simp only [laws_markText.l0] at H
    by_cases c3 : x0_1 > 0
    ·rw [if_pos c3] at H
     have c3b0 : decide (0 < x0_1) = true := decide_eq_true c3
     clear c3
     obtain ⟨y228, hy228⟩ : ∃ y_ : List Int, y_ = (([(wrap64 (48 + (Int.tmod x0_1 10))) % 256] : List Int)) := ⟨_, rfl⟩
     replace H : (if (strOfNums y228).size + x3_1.size ≤ 9223372036854775807 then (laws_markText.l0 k1 (wrap64 (Int.tdiv x0_1 10)) ((strOfNums y228) ++ x3_1)) else (none)) = some r := by first | (rw [hy228]; with_reducible exact H) | (have H2_ := (Option.bind_some _ _).symm.trans H; rw [hy228]; with_reducible exact H2_) | (have H2_ := (Option.bind_some _ _).symm.trans H; with_reducible exact H2_) | with_reducible exact H | (rw [hy228]; exact H) | exact H
     have Ny228 := Aside0.mk hy228
     clear hy228
     by_cases c4 : (strOfNums y228).size + x3_1.size ≤ 9223372036854775807
     ·rw [if_pos c4] at H
      have c4b0 := eq_true c4
      have c4b1 : decide ((strOfNums y228).size + x3_1.size ≤ 9223372036854775807) = true := decide_eq_true c4
      try have c4b2 : (9223372036854775807 < (strOfNums y228).size + x3_1.size) = False := eq_false (Nat.not_lt.2 c4)
      have H' := Aside0.mk H
      clear H
      go_wp2_with (first | ((with_reducible refine gate_dst (N := 12) rfl ?_); refine Kd.R_lit (Kd.int .u8) _ 5 ?hg (N := 12) ?hd (xs := ([(wrap64 (48 + (Int.tmod x0_1 10))) % 256] : List Int)) (inner := [.int .u8 ((wrap64 (48 + (Int.tmod x0_1 10))) % 256)]) (ok := fun _ => True) (okp := fun _ => True) ?hr ?hp (fun _ hk => hk) trivial (Below.refl _ _) (Nat.le_refl _) (by simp) ?_; (case hd => rfl); (case hg => rfl); (case hr => first | (go_simp; done) | (go_simp; rfl)); (case hp => exact (Reps.one (show Kd.M (Kd.int .u8) _ _ _ ((wrap64 (48 + (Int.tmod x0_1 10))) % 256) [.int .u8 ((wrap64 (48 + (Int.tmod x0_1 10))) % 256)] from rfl) (Reps.none _ _))); intro v229 w5 ho6 hb hg_ hnew_; clear hg_ hnew_; (first | rw [← Ny228.out] at ho6 | (simp only [Int.reduceToNat] at ho6; rw [← Ny228.out] at ho6)); have n0_ := Aside0.mk (Kd.R_lower ho6 (below_size (by repeat (first | (with_reducible first | exact HB.out | apply below_alloc | apply pw_below_drewN | apply below_drew1) | exact HB.out)))); have n1_ := Aside0.mk (below_step (by repeat (first | (with_reducible first | exact HB.out | apply below_alloc | apply pw_below_drewN | apply below_drew1) | exact HB.out)) hb); clear HB; have HO230 := n0_; have HB := n1_; clear n0_ n1_; clear hb ho6; have hcv7 := own_string (P := Try.prog) Try.underlying47 Try.underlying5 Try.underlying9 (Kd.own_of_R HO230.out)))
      go_roundg k1
      case measure => have := HK1.out; omega
      case rel => exact ⟨(wrap64 (Int.tdiv x0_1 10)), ((strOfNums y228) ++ x3_1), (by first | rfl | (simp; done) | (simp [*]; done)), (by first | rfl | (simp; done) | (simp [*]; done)), H', ⟨by have := HK1.out; omega⟩, ⟨by repeat (first | (with_reducible first | exact HB.out | apply below_alloc | apply pw_below_drewN | apply below_drew1) | exact HB.out)⟩⟩
     ·rw [if_neg c4] at H
      exact absurd H (by simp)
    ·rw [if_neg c3] at H
     have c3b0 : decide (0 < x0_1) = false := decide_eq_false c3
     clear c3
     by_cases c8 : 1 + x3_1.size ≤ 9223372036854775807
     ·rw [if_pos c8] at H
      have c8b0 := eq_true c8
      have c8b1 : decide (1 + x3_1.size ≤ 9223372036854775807) = true := decide_eq_true c8
      try have c8b2 : (9223372036854775807 < 1 + x3_1.size) = False := eq_false (Nat.not_lt.2 c8)
      obtain rfl := Option.some.inj H
      go_wp2
      go_ret
      exact ⟨by first | rfl | (simp [errW_none, errW_some] <;> rfl) | (simp [*, errW_none, errW_some] <;> rfl), by repeat (first | (with_reducible first | exact HB.out | apply below_alloc | apply pw_below_drewN | apply below_drew1) | exact HB.out)⟩
     ·rw [if_neg c8] at H
      exact absurd H (by simp)

end Go.Proofs.Ytbppijlcmeidaaa.P
end

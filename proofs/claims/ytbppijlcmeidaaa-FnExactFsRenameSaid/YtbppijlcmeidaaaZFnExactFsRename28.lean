/- Texts of the claim FnExactFsRename, part 28 of 36, joined: MWalkValid, MFind, MFsFind, MClone, MBegin, MSync, MRow, MCopy, MInsertRoom, MInsertGrow, MInsert, MDelete, MRemove. No condition beyond those that stand at each. -/
import Derived.Test.YtbppijlcmeidaaaZFnExactFsRename27
import Derived.Deep.QuietTactic
import Derived.BigQuiet
import Derived.WalkLawsBesides
import Derived.WalkSpells
import Derived.Deep.LoopGhost
import Derived.RegionTactic
import Derived.ChangeAlike
import Derived.BigRegion
import Derived.Laws.CopyRow
import Derived.Deep.RegionLaw
import Derived.Lib.Overlaps
import Derived.Lib.AppendZerosOnto
import Derived.Laws.CopyOwn
section
/- The program's ValidFS, walked: it answers validB of the directory. Condition: the sizes of the Data add up to a number of 63 bits. -/
namespace Go.Proofs.Ytbppijlcmeidaaa.M
open Go.RowKit Go.Proofs.Ytbppijlcmeidaaa.P Go.Proofs.YtbppijlcmeidaaaW.PrintWords Go.Proofs.YtbppijlcmeidaaaW.PrintLast Go.Proofs.YtbppijlcmeidaaaW.PrintMore
set_option linter.unusedVariables false

theorem dec_size (s : ByteArray) (n : Nat) : decide ((s.size : Int) ≤ (n : Int)) = decide (s.size ≤ n) := by
  by_cases c : s.size ≤ n
  · rw [decide_eq_true c, decide_eq_true (by omega)]
  · rw [decide_eq_false c, decide_eq_false (by omega)]
theorem dec_nat (m n : Nat) : decide ((m : Int) ≤ (n : Int)) = decide (m ≤ n) := by
  by_cases c : m ≤ n
  · rw [decide_eq_true c, decide_eq_true (by omega)]
  · rw [decide_eq_false c, decide_eq_false (by omega)]
theorem ret_bool {a b : Bool} (h : a = b) : Ending.returned (.bool a) = Ending.returned (.bool b) := by rw [h]
theorem nameFine_any (s : ByteArray) (w : World) : Calls Try.prog 44 #[.string s] w fun e w' => e = .returned (.bool (nameOk s)) ∧ w' = w := by
  unfold nameOk
  by_cases c1 : 1 ≤ s.size
  · rw [decide_eq_true c1, Bool.true_and]
    have h1 : decide (1 ≤ s.size) = true := decide_eq_true c1
    go_enter Try.func44, Try.ntmps44
    go_wp2
    go_ret
    exact ⟨ret_bool (dec_size s 120), rfl⟩
  · rw [decide_eq_false c1, Bool.false_and]
    have h1 : decide (1 ≤ s.size) = false := decide_eq_false c1
    go_enter Try.func44, Try.ntmps44
    go_wp2
    go_ret
    exact ⟨rfl, rfl⟩
theorem nameFine_yes (s : ByteArray) (w : World) (h : nameOk s = true) : Calls Try.prog 44 #[.string s] w fun e w' => e = .returned (.bool true) ∧ w' = w := by
  have := nameFine_any s w
  rwa [h] at this
theorem nameFine_no (s : ByteArray) (w : World) (h : nameOk s = false) : Calls Try.prog 44 #[.string s] w fun e w' => e = .returned (.bool false) ∧ w' = w := by
  have := nameFine_any s w
  rwa [h] at this

theorem rdi52 (l : List S52) (i : Int) (h0 : 0 ≤ i) (h : i < (l.length : Int)) : rd_T52 l i = l[i.toNat]'(by omega) := by
  unfold rd_T52; exact getD_at l i.toNat z52 (by omega)
theorem okStep (l : List S52) (i : Int) (h0 : 0 ≤ i) (h : i < (l.length : Int)) : okFrom (prev l i.toNat) (l.drop i.toNat) = (fileOk (rd_T52 l i) && (match prev l i.toNat with | none => true | some b => lss b (rd_T52 l i).f0) && okFrom (prev l (i + 1).toNat) (l.drop (i + 1).toNat)) := by
  rw [rdi52 l i h0 h, drop_at l i.toNat (by omega), okFrom_cons, show (i + 1).toNat = i.toNat + 1 by omega, prev_succ l i.toNat (by omega)]
  cases prev l i.toNat <;> rfl
theorem prev_zero (l : List S52) : prev l 0 = none := rfl
theorem prev_pos (l : List S52) (i : Int) (h0 : 0 < i) (h : i < (l.length : Int)) : prev l i.toNat = some (rd_T52 l (i - 1)).f0 := by
  rw [rdi52 l (i - 1) (by omega) (by omega)]
  unfold prev
  rw [if_neg (by omega), getD_at l (i.toNat - 1) z52 (by omega)]
  congr 3
  omega
theorem total_call (l : List S52) (A : Option Addr) (c : Nat) (q f : Int) (w : World) (hr : Kd.C k52 w A l.length l) (hc : l.length ≤ c) (ht : total l ≤ 9223372036854775000) (hl : l.length ≤ 200) :
    Calls Try.prog 45 #[.agg #[.slice A l.length c, .int .i64 q, .int .i64 f]] w fun e w' => e = .returned (.int .i64 (total l : Int)) ∧ Below w.heap.size w w' := by
  have h : ∀ d i : Nat, i + d = l.length → Ev (fun k => impl_total.l0 k (total (l.take i) : Int) l (l.length : Int) (i : Int)) (total l : Int) := by
    intro d
    induction d with
    | zero =>
      intro i hi
      refine Ev.step (f := fun _ => some (total (l.take i) : Int)) (fun k => ?_) ?_
      · rw [impl_total.l0, if_neg (by omega)]
      · rw [List.take_of_length_le (by omega)]; exact Ev.now _
    | succ d ih =>
      intro i hi
      have hlt : i < l.length := by omega
      have h1 := total_take_succ l i hlt
      have h2 := total_take_le l (i + 1)
      refine Ev.step (fun k => ?_) (ih (i + 1) (by omega))
      rw [impl_total.l0, if_pos (by omega), if_pos (by omega), if_pos (by omega), rd52 l i hlt, wrap_succ (by omega), wrap_ok (by omega) (by omega), h1]
      rfl
  obtain ⟨k, hk⟩ := Ev.rounds (h l.length 0 (by omega))
  exact impl_total.calls k A c l q f (total l : Int) w hr hc hk

/-- What a round of the loop needs of the world. -/
def VInv (w wr : World) (A : Option Addr) (c : Nat) (l : List S52) (q f : Int) : Prop :=
  wr.heap[w.heap.size]? = some (.cells #[.slice A l.length c, .int .i64 q, .int .i64 f] 29 (0, 0)) ∧ Below w.heap.size w wr
theorem vinv_next {w wr : World} {A : Option Addr} {c : Nat} {l : List S52} {q f : Int} (h : VInv w wr A c l q f) (o : Obj) (n : Nat) : VInv w ((wr.alloc o).drewN n) A c l q f :=
  ⟨blk_drewN (blk_alloc h.1 _) _, pw_below_drewN (h.2.alloc h.2.size _) _⟩

set_option maxHeartbeats 4000000 in
set_option maxRecDepth 100000 in
theorem valid_walk (A : Option Addr) (c : Nat) (l : List S52) (q f : Int) (w : World) (hr : Kd.C k52 w A l.length l) (hc : l.length ≤ c) (h1 : l.length ≤ 200) (h2 : 0 ≤ q) (h3 : q ≤ 1048576) (h4 : -1 ≤ f) (ht : total l ≤ 9223372036854775000) :
    Calls Try.prog 15 #[.agg #[.slice A l.length c, .int .i64 q, .int .i64 f]] w fun e w' => e = .returned (.bool (okFrom none l && decide (total l ≤ 1048576))) ∧ Below w.heap.size w w' := by
  have HR := Aside0.mk hr
  have HT := Aside0.mk ht
  clear hr ht
  have hu29 := Try.underlying29
  have hu52 := Try.underlying52
  generalize hVV : (okFrom none l && decide (total l ≤ 1048576)) = VV
  have HVV := Aside0.mk hVV
  clear hVV
  go_enter Try.func15, Try.ntmps15
  go_wp2
  go_loopw [27] (fun v wr => ∃ i : Int, 0 ≤ i ∧ i ≤ (l.length : Int) ∧ v = .int .i64 i ∧ Aside0 (VInv w wr A c l q f) ∧ Aside0 (VV = (okFrom (prev l i.toNat) (l.drop i.toNat) && decide (total l ≤ 1048576)))) (fun v _ => l.length - (intOf v).toNat)
  case atStart => exact ⟨0, by omega, by omega, rfl, ⟨heap_alloc_new _ _, (Below.refl _ _).alloc (Nat.le_refl _) _⟩, ⟨HVV.out.symm⟩⟩
  case round =>
    obtain ⟨i, hi0, hi1, rfl, HI, HV⟩ := hrel
    by_cases hlt : i < (l.length : Int)
    · obtain ⟨ad, hA, hx0, hx1, hx2⟩ := at_T52 HR.out i hi0 hlt
      have hx0 := (HI.out.2.cell (World.block_lt_of_cell? w _ hx0)).trans hx0
      have hx1 := (HI.out.2.cell (World.block_lt_of_cell? w _ hx1)).trans hx1
      have hx2 := (HI.out.2.cell (World.block_lt_of_cell? w _ hx2)).trans hx2
      subst hA
      have hb0 : wr.cell? ⟨w.heap.size, 0, none⟩ = some (.slice (some ad) l.length c) := (blk_cell HI.out.1 0).trans rfl
      have hlt' := decide_eq_true hlt
      have HS := Aside0.mk (okStep l i hi0 hlt)
      by_cases n1 : nameOk (rd_T52 l i).f0 = true
      · have N1 := Aside0.mk n1
        clear n1
        by_cases z : i = 0
        · have hz : decide (0 < i) = false := decide_eq_false (by omega)
          have HP := Aside0.mk (show prev l i.toNat = none by rw [z]; rfl)
          clear z
          by_cases s1 : (rd_T52 l i).f2 < 0
          · have hs1 := decide_eq_true s1
            have F := Aside0.mk (show VV = false by rw [HV.out, HS.out]; unfold fileOk; rw [decide_eq_false (show ¬ 0 ≤ (rd_T52 l i).f2 by omega), Bool.and_false, Bool.false_and, Bool.false_and, Bool.false_and, Bool.false_and])
            clear s1
            go_wp2
            go_quiet ((go_at_call 44; exact Calls.quiet_of_same (nameFine_yes _ _ N1.out)))
            go_wp2
            go_ret
            exact ⟨ret_bool F.out.symm, (vinv_next HI.out _ _).2⟩
          · have hs1 : decide ((rd_T52 l i).f2 < 0) = false := decide_eq_false s1
            by_cases s2 : ((rd_T52 l i).f1.size : Int) < (rd_T52 l i).f2
            · have hs2 := decide_eq_true s2
              have F := Aside0.mk (show VV = false by rw [HV.out, HS.out]; unfold fileOk; rw [decide_eq_false (show ¬ (rd_T52 l i).f2 ≤ ((rd_T52 l i).f1.size : Int) by omega), Bool.and_false, Bool.false_and, Bool.false_and, Bool.false_and])
              clear s1 s2
              go_wp2
              go_quiet ((go_at_call 44; exact Calls.quiet_of_same (nameFine_yes _ _ N1.out)))
              go_wp2
              go_ret
              exact ⟨ret_bool F.out.symm, (vinv_next HI.out _ _).2⟩
            · have hs2 : decide (((rd_T52 l i).f1.size : Int) < (rd_T52 l i).f2) = false := decide_eq_false s2
              have F := Aside0.mk (show VV = (okFrom (prev l (i + 1).toNat) (l.drop (i + 1).toNat) && decide (total l ≤ 1048576)) by rw [HV.out, HS.out, HP.out]; unfold fileOk; rw [N1.out, decide_eq_true (show 0 ≤ (rd_T52 l i).f2 by omega), decide_eq_true (show (rd_T52 l i).f2 ≤ ((rd_T52 l i).f1.size : Int) by omega)]; rfl)
              clear s1 s2
              go_wp2
              go_quiet ((go_at_call 44; exact Calls.quiet_of_same (nameFine_yes _ _ N1.out)))
              go_wp2
              go_roundw
              case rel => exact ⟨i + 1, by omega, by omega, rfl, ⟨vinv_next HI.out _ _⟩, F⟩
              case measure => simp [intOf]; omega
        · have hz : decide (0 < i) = true := decide_eq_true (by omega)
          have HP := Aside0.mk (prev_pos l i (by omega) hlt)
          have hj0 : 0 ≤ i - 1 := by omega
          have hj1 : i - 1 < (l.length : Int) := by omega
          have hj2 : 1 ≤ i := by omega
          have hw : IntKind.i64.wrap (i - 1) = i - 1 := IntWalk.i64_in _ (by omega)
          obtain ⟨ad', hA', hy0, _, _⟩ := at_T52 HR.out (i - 1) hj0 hj1
          have hy0 := (HI.out.2.cell (World.block_lt_of_cell? w _ hy0)).trans hy0
          obtain rfl := Option.some.inj hA'
          clear hA'
          rw [show (i - 1).toNat = i.toNat - 1 by omega] at hy0
          have hy0 : ∀ o, (wr.alloc o).cell? (ad.add ((i.toNat - 1) * 3)) = some (.string (rd_T52 l (i - 1)).f0) := fun o => (World.cell?_alloc_lt _ _ _ (World.block_lt_of_cell? wr _ hy0)).trans hy0
          have hb1 : ∀ o, (wr.alloc o).cell? ⟨w.heap.size, 0, none⟩ = some (.slice (some ad) l.length c) := fun o => (World.cell?_alloc_lt _ _ _ (World.block_lt_of_cell? wr _ hb0)).trans hb0
          by_cases g : lss (rd_T52 l (i - 1)).f0 (rd_T52 l i).f0 = true
          · have hg : Op.bytesLess (rd_T52 l (i - 1)).f0.toList (rd_T52 l i).f0.toList = true := g
            have G := Aside0.mk g
            clear g
            by_cases s1 : (rd_T52 l i).f2 < 0
            · have hs1 := decide_eq_true s1
              have F := Aside0.mk (show VV = false by rw [HV.out, HS.out]; unfold fileOk; rw [decide_eq_false (show ¬ 0 ≤ (rd_T52 l i).f2 by omega), Bool.and_false, Bool.false_and, Bool.false_and, Bool.false_and, Bool.false_and])
              clear s1
              go_wp2
              go_quiet ((go_at_call 44; exact Calls.quiet_of_same (nameFine_yes _ _ N1.out)))
              go_wp2
              go_ret
              exact ⟨ret_bool F.out.symm, (vinv_next HI.out _ _).2⟩
            · have hs1 : decide ((rd_T52 l i).f2 < 0) = false := decide_eq_false s1
              by_cases s2 : ((rd_T52 l i).f1.size : Int) < (rd_T52 l i).f2
              · have hs2 := decide_eq_true s2
                have F := Aside0.mk (show VV = false by rw [HV.out, HS.out]; unfold fileOk; rw [decide_eq_false (show ¬ (rd_T52 l i).f2 ≤ ((rd_T52 l i).f1.size : Int) by omega), Bool.and_false, Bool.false_and, Bool.false_and, Bool.false_and])
                clear s1 s2
                go_wp2
                go_quiet ((go_at_call 44; exact Calls.quiet_of_same (nameFine_yes _ _ N1.out)))
                go_wp2
                go_ret
                exact ⟨ret_bool F.out.symm, (vinv_next HI.out _ _).2⟩
              · have hs2 : decide (((rd_T52 l i).f1.size : Int) < (rd_T52 l i).f2) = false := decide_eq_false s2
                have F := Aside0.mk (show VV = (okFrom (prev l (i + 1).toNat) (l.drop (i + 1).toNat) && decide (total l ≤ 1048576)) by
                  rw [HV.out, HS.out, HP.out]
                  show ((fileOk _ && lss _ _ && _) && _) = _
                  unfold fileOk
                  rw [G.out, N1.out, decide_eq_true (show 0 ≤ (rd_T52 l i).f2 by omega), decide_eq_true (show (rd_T52 l i).f2 ≤ ((rd_T52 l i).f1.size : Int) by omega)]
                  rfl)
                clear s1 s2
                go_wp2
                go_quiet ((go_at_call 44; exact Calls.quiet_of_same (nameFine_yes _ _ N1.out)))
                go_wp2
                go_roundw
                case rel => exact ⟨i + 1, by omega, by omega, rfl, ⟨vinv_next HI.out _ _⟩, F⟩
                case measure => simp [intOf]; omega
          · have hg : Op.bytesLess (rd_T52 l (i - 1)).f0.toList (rd_T52 l i).f0.toList = false := Bool.eq_false_iff.2 g
            have F := Aside0.mk (show VV = false by
              rw [HV.out, HS.out, HP.out]
              show ((_ && lss _ _ && _) && _) = _
              rw [Bool.eq_false_iff.2 g, Bool.and_false, Bool.false_and, Bool.false_and])
            clear g
            go_wp2
            go_quiet ((go_at_call 44; exact Calls.quiet_of_same (nameFine_yes _ _ N1.out)))
            go_wp2
            go_ret
            exact ⟨ret_bool F.out.symm, (vinv_next HI.out _ _).2⟩
      · have n1 : nameOk (rd_T52 l i).f0 = false := Bool.eq_false_iff.2 n1
        have F := Aside0.mk (show VV = false by rw [HV.out, HS.out]; unfold fileOk; rw [n1]; simp)
        have N1 := Aside0.mk n1
        clear n1
        go_wp2
        go_quiet ((go_at_call 44; exact Calls.quiet_of_same (nameFine_no _ _ N1.out)))
        go_wp2
        go_ret
        exact ⟨ret_bool F.out.symm, (vinv_next HI.out _ _).2⟩
    · have hi : i = l.length := by omega
      have F := Aside0.mk (show VV = decide (total l ≤ 1048576) by rw [HV.out, hi, Int.toNat_natCast, List.drop_length]; cases prev l l.length <;> simp [okFrom])
      have hlt' : decide (i < (l.length : Int)) = false := decide_eq_false hlt
      have hb0 : wr.cell? ⟨w.heap.size, 0, none⟩ = some (.slice A l.length c) := (blk_cell HI.out.1 0).trans rfl
      have hb1 : wr.cell? ⟨w.heap.size, 1, none⟩ = some (.int .i64 q) := (blk_cell HI.out.1 1).trans rfl
      have hb2 : wr.cell? ⟨w.heap.size, 2, none⟩ = some (.int .i64 f) := (blk_cell HI.out.1 2).trans rfl
      have HC := Aside0.mk (total_call l A c q f wr (Kd.C_below HR.out HI.out.2) hc HT.out h1)
      clear hi
      go_wp2_with (go_at_call 45; refine HC.out.mono ?_; rintro e w' ⟨rfl, hb⟩)
      go_ret
      exact ⟨by rw [F.out]; exact ret_bool (dec_nat _ 1048576), HI.out.2.trans (hb.mono HI.out.2.size)⟩

def ValidFits (l : List S52) : Prop := l.length ≤ 200 → total l ≤ 9223372036854775000
set_option maxHeartbeats 2000000 in
set_option maxRecDepth 100000 in
theorem valid_any (A : Option Addr) (c : Nat) (l : List S52) (q f : Int) (w : World) (hr : Kd.C k52 w A l.length l) (hc : l.length ≤ c) (ht : ValidFits l) :
    Calls Try.prog 15 #[.agg #[.slice A l.length c, .int .i64 q, .int .i64 f]] w fun e w' => e = .returned (.bool (validB l q f)) ∧ Below w.heap.size w w' := by
  unfold validB
  by_cases c1 : l.length ≤ 200
  · by_cases c2 : 0 ≤ q
    · by_cases c3 : q ≤ 1048576
      · by_cases c4 : -1 ≤ f
        · rw [decide_eq_true c1, decide_eq_true c2, decide_eq_true c3, decide_eq_true c4, Bool.true_and, Bool.true_and, Bool.true_and, Bool.true_and]
          exact valid_walk A c l q f w hr hc c1 c2 c3 c4 (ht c1)
        · rw [decide_eq_false c4, Bool.and_false, Bool.false_and, Bool.false_and]
          have g1 : decide (200 < (l.length : Int)) = false := decide_eq_false (by omega)
          have g1' : decide (200 < l.length) = false := decide_eq_false (by omega)
          have g2 : decide (q < 0) = false := decide_eq_false (by omega)
          have g3 : decide (1048576 < q) = false := decide_eq_false (by omega)
          have g4 : decide (f < -1) = true := decide_eq_true (by omega)
          clear c1 c2 c3 c4 hr ht
          go_enter Try.func15, Try.ntmps15
          go_wp2
          go_ret
          exact ⟨rfl, (Below.refl _ _).alloc (Nat.le_refl _) _⟩
      · rw [decide_eq_false c3, Bool.and_false, Bool.false_and, Bool.false_and, Bool.false_and]
        have g1 : decide (200 < (l.length : Int)) = false := decide_eq_false (by omega)
        have g1' : decide (200 < l.length) = false := decide_eq_false (by omega)
        have g2 : decide (q < 0) = false := decide_eq_false (by omega)
        have g3 : decide (1048576 < q) = true := decide_eq_true (by omega)
        clear c1 c2 c3 hr ht
        go_enter Try.func15, Try.ntmps15
        go_wp2
        go_ret
        exact ⟨rfl, (Below.refl _ _).alloc (Nat.le_refl _) _⟩
    · rw [decide_eq_false c2, Bool.and_false, Bool.false_and, Bool.false_and, Bool.false_and, Bool.false_and]
      have g1 : decide (200 < (l.length : Int)) = false := decide_eq_false (by omega)
      have g1' : decide (200 < l.length) = false := decide_eq_false (by omega)
      have g2 : decide (q < 0) = true := decide_eq_true (by omega)
      clear c1 c2 hr ht
      go_enter Try.func15, Try.ntmps15
      go_wp2
      go_ret
      exact ⟨rfl, (Below.refl _ _).alloc (Nat.le_refl _) _⟩
  · rw [decide_eq_false c1, Bool.false_and, Bool.false_and, Bool.false_and, Bool.false_and, Bool.false_and]
    have g1 : decide (200 < (l.length : Int)) = true := decide_eq_true (by omega)
    have g1' : decide (200 < l.length) = true := decide_eq_true (by omega)
    clear c1 hr ht
    go_enter Try.func15, Try.ntmps15
    go_wp2
    go_ret
    exact ⟨rfl, (Below.refl _ _).alloc (Nat.le_refl _) _⟩
end Go.Proofs.Ytbppijlcmeidaaa.M
end
section
/- The search in a directory, walked: where a name stands in files that are in order, or would stand, and whether it is there. Condition: the files are in order, at most 200. -/
namespace Go.Proofs.Ytbppijlcmeidaaa.M
open Go.RowKit Go.Proofs.Ytbppijlcmeidaaa.P Go.Proofs.YtbppijlcmeidaaaW.PrintWords Go.Proofs.YtbppijlcmeidaaaW.PrintLast Go.Proofs.YtbppijlcmeidaaaW.PrintMore
set_option linter.unusedVariables false

def cmp3 (a b : ByteArray) : Int := if lss a b = true then -1 else if lss b a = true then 1 else 0
theorem ret_tuple2 {a a' b b' : Value} (h1 : a = a') (h2 : b = b') : Ending.returned (.tuple #[a, b]) = Ending.returned (.tuple #[a', b']) := by rw [h1, h2]
theorem beq_of_lss {a b : ByteArray} (h1 : lss a b = false) (h2 : lss b a = false) : (a.toList == b.toList) = true := by
  rw [lss_total h1 h2]; simp
theorem beq_of_lss' {a b : ByteArray} (h2 : lss b a = true) : (a.toList == b.toList) = false := by
  rw [beq_eq_false_iff_ne]
  intro h
  rw [toList_inj h, lss_irrefl] at h2
  cases h2

set_option maxHeartbeats 1000000 in
theorem cmp_any (x0 x1 s : ByteArray) (x2 : Int) (w : World) : Calls Try.prog 85 #[.agg #[.string x0, .string x1, .int .i64 x2], .string s] w fun e w' => e = .returned (.int .i64 (cmp3 x0 s)) ∧ Below w.heap.size w w' := by
  have hu52 := Try.underlying52
  unfold cmp3
  by_cases c1 : lss x0 s = true
  · rw [if_pos c1]
    have h1 : Op.bytesLess x0.toList s.toList = true := c1
    clear c1
    go_enter Try.func85, Try.ntmps85
    go_wp2
    go_ret
    exact ⟨rfl, (Below.refl _ _).alloc (Nat.le_refl _) _⟩
  · have c1 := Bool.eq_false_iff.2 c1
    rw [if_neg (by rw [c1]; simp)]
    have h1 : Op.bytesLess x0.toList s.toList = false := c1
    by_cases c2 : lss s x0 = true
    · rw [if_pos c2]
      have h2 := beq_of_lss' c2
      clear c1 c2
      go_enter Try.func85, Try.ntmps85
      go_wp2
      go_ret
      exact ⟨rfl, (Below.refl _ _).alloc (Nat.le_refl _) _⟩
    · have c2 := Bool.eq_false_iff.2 c2
      rw [if_neg (by rw [c2]; simp)]
      have h2 := beq_of_lss c1 c2
      clear c1 c2
      go_enter Try.func85, Try.ntmps85
      go_wp2
      go_ret
      exact ⟨rfl, (Below.refl _ _).alloc (Nat.le_refl _) _⟩

/-! ### In order -/
def Sorted (l : List S52) : Prop := ∀ i j : Nat, i < j → j < l.length → lss (rd_T52 l (i : Int)).f0 (rd_T52 l (j : Int)).f0 = true
def pos (l : List S52) (s : ByteArray) : Nat := l.countP fun x => lss x.f0 s
def there (l : List S52) (s : ByteArray) : Bool := decide (pos l s < l.length) && decide (cmp3 (rd_T52 l (pos l s : Int)).f0 s = 0)
theorem countP_boundary {α : Type} (p : α → Bool) : ∀ (l : List α) (i : Nat), i ≤ l.length → (∀ t x, l[t]? = some x → t < i → p x = true) → (∀ t x, l[t]? = some x → i ≤ t → p x = false) → l.countP p = i
  | [], i, hi, _, _ => by simp at hi; simp [hi]
  | a :: r, 0, _, _, h2 => by
    rw [List.countP_eq_zero]
    intro x hx
    obtain ⟨t, ht⟩ := List.getElem?_of_mem hx
    rw [h2 t x ht (Nat.zero_le _)]
    simp
  | a :: r, i + 1, hi, h1, h2 => by
    have ha : p a = true := h1 0 a rfl (by omega)
    rw [List.countP_cons_of_pos ha, countP_boundary p r i (by simpa using hi) (fun t x h ht => h1 (t + 1) x (by simpa using h) (by omega)) (fun t x h ht => h2 (t + 1) x (by simpa using h) (by omega))]
theorem pos_eq (l : List S52) (s : ByteArray) (i : Nat) (hi : i ≤ l.length) (h1 : ∀ t : Nat, t < i → lss (rd_T52 l (t : Int)).f0 s = true) (h2 : ∀ t : Nat, i ≤ t → t < l.length → lss (rd_T52 l (t : Int)).f0 s = false) : pos l s = i := by
  refine countP_boundary _ l i hi (fun t x h ht => ?_) (fun t x h ht => ?_)
  · obtain ⟨hlt, rfl⟩ := List.getElem?_eq_some_iff.1 h
    have := h1 t ht
    rwa [rd52 l t hlt] at this
  · obtain ⟨hlt, rfl⟩ := List.getElem?_eq_some_iff.1 h
    have := h2 t ht hlt
    rwa [rd52 l t hlt] at this

set_option maxHeartbeats 4000000 in
set_option maxRecDepth 100000 in
theorem search_walk (A : Option Addr) (c : Nat) (l : List S52) (s : ByteArray) (w : World) (hr : Kd.C k52 w A l.length l) (hl : l.length ≤ 200) (hs : Sorted l) :
    Calls Try.prog 84 #[.slice A l.length c, .string s, .func (.func 85) #[] #[]] w fun e w' => e = .returned (.tuple #[.int .i64 (pos l s : Int), .bool (there l s)]) ∧ Below w.heap.size w w' := by
  have HR := Aside0.mk hr
  have HS := Aside0.mk hs
  have hu52 := Try.underlying52
  clear hr hs
  generalize hP : pos l s = P
  generalize hT : there l s = T
  have HP := Aside0.mk hP
  have HT := Aside0.mk hT
  clear hP hT
  go_enter Try.func84, Try.ntmps84
  go_wp2
  go_loopg [9, 10] l.length (fun kx v9 v10 wr => ∃ lo hi : Nat, v9 = .int .i64 lo ∧ v10 = .int .i64 hi ∧ lo ≤ hi ∧ hi ≤ l.length ∧ hi - lo ≤ kx ∧ Aside0 (Below w.heap.size w wr) ∧
    Aside0 ((∀ t : Nat, t < lo → lss (rd_T52 l (t : Int)).f0 s = true) ∧ (∀ t : Nat, hi ≤ t → t < l.length → lss (rd_T52 l (t : Int)).f0 s = false)))
  case atStart => exact ⟨0, l.length, rfl, rfl, Nat.zero_le _, Nat.le_refl _, by omega, ⟨Below.refl _ _⟩, ⟨fun t ht => absurd ht (Nat.not_lt_zero _), fun t h1 h2 => absurd h1 (by omega)⟩⟩
  case round =>
    obtain ⟨lo, hi, rfl, rfl, hlh, hin, hg, HB, HI⟩ := hrel
    by_cases hlt : lo < hi
    · obtain ⟨ad, hA, hx0, hx1, hx2⟩ := at_T52 HR.out (((lo + hi) / 2 : Nat) : Int) (by omega) (by omega)
      have hx0 := (HB.out.cell (World.block_lt_of_cell? w _ hx0)).trans hx0
      have hx1 := (HB.out.cell (World.block_lt_of_cell? w _ hx1)).trans hx1
      have hx2 := (HB.out.cell (World.block_lt_of_cell? w _ hx2)).trans hx2
      rw [Int.toNat_natCast] at hx0 hx1 hx2
      subst hA
      generalize hy : rd_T52 l (((lo + hi) / 2 : Nat) : Int) = y at hx0 hx1 hx2
      have Y := Aside0.mk hy
      clear hy
      have hc := cmp_any y.f0 y.f1 s y.f2 wr
      by_cases hyx : lss y.f0 s = true
      · have e : cmp3 y.f0 s = -1 := by unfold cmp3; rw [if_pos hyx]
        rw [e] at hc
        have HC := Aside0.mk hc
        have HX := Aside0.mk hyx
        clear hc hyx e
        go_wp2_with (go_at_call 85; refine HC.out.mono ?_; rintro e w' ⟨rfl, hb⟩)
        go_roundg (hi - ((lo + hi) / 2 + 1))
        case measure => omega
        case rel =>
          have HB2 := below_then HB.out HB.out.size hb
          have I2 : Aside0 ((∀ t : Nat, t < (lo + hi) / 2 + 1 → lss (rd_T52 l (t : Int)).f0 s = true) ∧ (∀ t : Nat, hi ≤ t → t < l.length → lss (rd_T52 l (t : Int)).f0 s = false)) := ⟨fun t ht => by
              rcases Nat.lt_or_ge t ((lo + hi) / 2) with h | h
              · exact lss_trans (HS.out t ((lo + hi) / 2) h (by omega)) (by rw [Y.out]; exact HX.out)
              · have : t = (lo + hi) / 2 := by omega
                rw [this, Y.out]; exact HX.out, HI.out.2⟩
          exact ⟨(lo + hi) / 2 + 1, hi, by rw [show ((lo : Int) + (hi : Int)) / 2 + 1 = (((lo + hi) / 2 + 1 : Nat) : Int) by omega], rfl, by omega, hin, Nat.le_refl _, ⟨HB2⟩, I2⟩
      · have hyx := Bool.eq_false_iff.2 hyx
        have e : ¬ cmp3 y.f0 s < 0 := by unfold cmp3; rw [if_neg (by rw [hyx]; simp)]; split <;> omega
        have e2 : decide (cmp3 y.f0 s < 0) = false := decide_eq_false e
        generalize cmp3 y.f0 s = z at hc e e2
        have HC := Aside0.mk hc
        have HX := Aside0.mk hyx
        clear hc hyx e
        go_wp2_with (go_at_call 85; refine HC.out.mono ?_; rintro e w' ⟨rfl, hb⟩)
        go_roundg ((lo + hi) / 2 - lo)
        case measure => omega
        case rel =>
          have HB2 := below_then HB.out HB.out.size hb
          have I2 : Aside0 ((∀ t : Nat, t < lo → lss (rd_T52 l (t : Int)).f0 s = true) ∧ (∀ t : Nat, (lo + hi) / 2 ≤ t → t < l.length → lss (rd_T52 l (t : Int)).f0 s = false)) := ⟨HI.out.1, fun t ht h2 => by
              rcases Nat.eq_or_lt_of_le ht with h | h
              · rw [← h, Y.out]; exact HX.out
              · cases hh : lss (rd_T52 l (t : Int)).f0 s with
                | false => rfl
                | true =>
                  have := lss_trans (HS.out ((lo + hi) / 2) t h h2) hh
                  rw [Y.out, HX.out] at this
                  cases this⟩
          exact ⟨lo, (lo + hi) / 2, rfl, by rw [show ((lo : Int) + (hi : Int)) / 2 = (((lo + hi) / 2 : Nat) : Int) by omega], by omega, by omega, Nat.le_refl _, ⟨HB2⟩, I2⟩
    · obtain rfl : hi = lo := by omega
      have E := Aside0.mk (pos_eq l s hi hin HI.out.1 HI.out.2)
      have hPP : P = hi := HP.out.symm.trans E.out
      have hT : T = (decide (hi < l.length) && decide (cmp3 (rd_T52 l (hi : Int)).f0 s = 0)) := by rw [← HT.out]; unfold there; rw [E.out]
      have PP := Aside0.mk hPP
      have TT := Aside0.mk hT
      clear hPP hT
      by_cases hn : hi < l.length
      · obtain ⟨ad, hA, hx0, hx1, hx2⟩ := at_T52 HR.out (hi : Int) (by omega) (by omega)
        have hx0 := (HB.out.cell (World.block_lt_of_cell? w _ hx0)).trans hx0
        have hx1 := (HB.out.cell (World.block_lt_of_cell? w _ hx1)).trans hx1
        have hx2 := (HB.out.cell (World.block_lt_of_cell? w _ hx2)).trans hx2
        rw [Int.toNat_natCast] at hx0 hx1 hx2
        subst hA
        have hn' := decide_eq_true hn
        generalize hy : rd_T52 l (hi : Int) = y at hx0 hx1 hx2
        have Y := Aside0.mk hy
        clear hy
        have hc := cmp_any y.f0 y.f1 s y.f2 wr
        have F := Aside0.mk (show T = decide (cmp3 y.f0 s = 0) by rw [TT.out, hn', Bool.true_and, Y.out])
        generalize hz : cmp3 y.f0 s = z at hc
        have HZ := Aside0.mk hz
        have HC := Aside0.mk hc
        clear hc hz
        by_cases z0 : z = 0
        · have hz0 : (z == 0) = true := by rw [z0]; rfl
          have Z0 := Aside0.mk z0
          clear z0
          go_wp2_with (go_at_call 85; refine HC.out.mono ?_; rintro e w' ⟨rfl, hb⟩)
          go_ret2
          exact ⟨by rw [PP.out, F.out, HZ.out, decide_eq_true Z0.out]; rfl, below_then HB.out HB.out.size hb⟩
        · have hz0 : (z == 0) = false := beq_eq_false_iff_ne.2 z0
          have Z0 := Aside0.mk z0
          clear z0
          go_wp2_with (go_at_call 85; refine HC.out.mono ?_; rintro e w' ⟨rfl, hb⟩)
          go_ret2
          exact ⟨by rw [PP.out, F.out, HZ.out, decide_eq_false Z0.out]; rfl, below_then HB.out HB.out.size hb⟩
      · have F := Aside0.mk (show T = false by rw [TT.out, decide_eq_false hn, Bool.false_and])
        have hn' : decide (hi < l.length) = false := decide_eq_false hn
        go_wp2
        go_ret2
        exact ⟨by rw [PP.out, F.out]; rfl, HB.out⟩
end Go.Proofs.Ytbppijlcmeidaaa.M
end
section
/- The program's find, read and FsFind, walked. Condition: the sizes of the Data add up to a number of 63 bits. -/
namespace Go.Proofs.Ytbppijlcmeidaaa.M
open Go.RowKit Go.Proofs.Ytbppijlcmeidaaa.P Go.Proofs.YtbppijlcmeidaaaW.PrintWords Go.Proofs.YtbppijlcmeidaaaW.PrintLast Go.Proofs.YtbppijlcmeidaaaW.PrintMore
set_option linter.unusedVariables false

/-- A directory that lies at block g. -/
def Lies (w : World) (g : Nat) (A : Option Addr) (c : Nat) (l : List S52) (q f : Int) : Prop := w.heap[g]? = some (.cells #[.slice A l.length c, .int .i64 q, .int .i64 f] 29 (0, 0))
theorem lies_below {w w1 : World} {g : Nat} {A : Option Addr} {c : Nat} {l : List S52} {q f : Int} (h : Lies w g A c l q f) (hb : Below w.heap.size w w1) : Lies w1 g A c l q f := (hb.block g (blk_lt h)).trans h

set_option maxRecDepth 100000 in
set_option maxHeartbeats 1000000 in
theorem find_call (g : Nat) (A : Option Addr) (c : Nat) (l : List S52) (q f : Int) (s : ByteArray) (w : World) (hg : Lies w g A c l q f) (hr : Kd.C k52 w A l.length l) (hl : l.length ≤ 200) (hs : Sorted l) :
    Calls Try.prog 74 #[.pointer (some ⟨g, 0, none⟩), .string s] w fun e w' => e = .returned (.tuple #[.int .i64 (pos l s : Int), .bool (there l s)]) ∧ Below w.heap.size w w' := by
  have hb0 : w.cell? ⟨g, 0, none⟩ = some (.slice A l.length c) := (blk_cell hg 0).trans rfl
  have HC := Aside0.mk (search_walk A c l s w hr hl hs)
  have hu29 := Try.underlying29
  clear hr hs hg
  go_enter Try.func74, Try.ntmps74
  go_wp2_with (go_at_call 84; refine HC.out.mono ?_; rintro e w' ⟨rfl, hb⟩)
  go_ret2
  exact ⟨rfl, hb⟩

def dataAt (l : List S52) (s : ByteArray) : ByteArray := if there l s = true then (rd_T52 l (pos l s : Int)).f1 else ⟨#[]⟩
theorem there_lt {l : List S52} {s : ByteArray} (h : there l s = true) : pos l s < l.length := by
  unfold there at h
  simp only [Bool.and_eq_true, decide_eq_true_eq] at h
  exact h.1

set_option maxRecDepth 100000 in
set_option maxHeartbeats 1000000 in
theorem read_call (g : Nat) (A : Option Addr) (c : Nat) (l : List S52) (q f : Int) (s : ByteArray) (w : World) (hg : Lies w g A c l q f) (hr : Kd.C k52 w A l.length l) (hl : l.length ≤ 200) (hs : Sorted l) :
    Calls Try.prog 48 #[.pointer (some ⟨g, 0, none⟩), .string s] w fun e w' => e = .returned (.tuple #[.string (dataAt l s), .bool (there l s)]) ∧ Below w.heap.size w w' := by
  have hc := find_call g A c l q f s w hg hr hl hs
  have hu29 := Try.underlying29
  have hu52 := Try.underlying52
  have HG := Aside0.mk hg
  have HR := Aside0.mk hr
  unfold dataAt
  by_cases ht : there l s = true
  · have hlt := there_lt ht
    rw [ht] at hc
    rw [if_pos ht, ht]
    obtain ⟨ad, hA, hx0, hx1, hx2⟩ := at_T52 hr (pos l s : Int) (by omega) (by omega)
    rw [Int.toNat_natCast] at hx1
    generalize (rd_T52 l (pos l s : Int)).f1 = d at hx1
    have hlt' : ((pos l s : Nat) : Int) < (l.length : Int) := by omega
    generalize pos l s = p at hc hx1 hlt hlt'
    subst hA
    have HC := Aside0.mk hc
    have HX := Aside0.mk hx1
    clear hc hx0 hx1 hx2 hg hr hs ht
    go_enter Try.func48, Try.ntmps48
    go_wp2_with fail
    refine HC.out.mono ?_
    rintro e w' ⟨rfl, hb⟩
    have hb0 : w'.cell? ⟨g, 0, none⟩ = some (.slice (some ad) l.length c) := (blk_cell (lies_below HG.out hb) 0).trans rfl
    have hb1 := (hb.cell (World.block_lt_of_cell? w _ HX.out)).trans HX.out
    go_wp2
    go_ret2
    exact ⟨rfl, hb⟩
  · have ht := Bool.eq_false_iff.2 ht
    rw [if_neg (by rw [ht]; simp)]
    rw [ht] at hc ⊢
    have HC := Aside0.mk hc
    clear hc hg hr hs ht
    go_enter Try.func48, Try.ntmps48
    go_wp2_with fail
    refine HC.out.mono ?_
    rintro e w' ⟨rfl, hb⟩
    go_wp2
    go_ret2
    exact ⟨rfl, hb⟩

/-! ### What a valid directory says -/
theorem okFrom_step {p : Option ByteArray} {x : S52} {r : List S52} (h : okFrom p (x :: r) = true) : fileOk x = true ∧ (∀ b, p = some b → lss b x.f0 = true) ∧ okFrom (some x.f0) r = true := by
  rw [okFrom_cons] at h
  simp only [Bool.and_eq_true] at h
  refine ⟨h.1.1, fun b hb => ?_, h.2⟩
  subst hb
  exact h.1.2
theorem okFrom_all : ∀ {l : List S52} {p : Option ByteArray}, okFrom p l = true → (∀ x ∈ l, fileOk x = true) ∧ (∀ b, p = some b → ∀ x ∈ l, lss b x.f0 = true) ∧ l.Pairwise (fun x y => lss x.f0 y.f0 = true)
  | [], _, _ => ⟨fun x hx => by simp at hx, fun _ _ x hx => by simp at hx, List.Pairwise.nil⟩
  | x :: r, p, h => by
    obtain ⟨h1, h2, h3⟩ := okFrom_step h
    obtain ⟨g1, g2, g3⟩ := okFrom_all h3
    have g2 := g2 x.f0 rfl
    refine ⟨fun y hy => ?_, fun b hb y hy => ?_, List.Pairwise.cons g2 g3⟩
    · rcases List.mem_cons.1 hy with rfl | hy
      · exact h1
      · exact g1 y hy
    · rcases List.mem_cons.1 hy with rfl | hy
      · exact h2 b hb
      · exact lss_trans (h2 b hb) (g2 y hy)
theorem valid_parts {l : List S52} {q f : Int} (h : validB l q f = true) : l.length ≤ 200 ∧ 0 ≤ q ∧ q ≤ 1048576 ∧ -1 ≤ f ∧ okFrom none l = true ∧ total l ≤ 1048576 := by
  unfold validB at h
  simp only [Bool.and_eq_true, decide_eq_true_eq] at h
  obtain ⟨⟨⟨⟨⟨h1, h2⟩, h3⟩, h4⟩, h5⟩, h6⟩ := h
  exact ⟨h1, h2, h3, h4, h5, h6⟩
theorem sorted_of {l : List S52} (h : l.Pairwise (fun x y => lss x.f0 y.f0 = true)) : Sorted l := by
  intro i j hij hj
  rw [rd52 l i (by omega), rd52 l j hj]
  exact List.pairwise_iff_getElem.1 h i j (by omega) hj hij
theorem valid_sorted {l : List S52} {q f : Int} (h : validB l q f = true) : Sorted l := sorted_of (okFrom_all (valid_parts h).2.2.2.2.1).2.2

def fsFind (l : List S52) (q f : Int) (s : ByteArray) : ByteArray × Bool := if validB l q f = true then (dataAt l s, there l s) else (⟨#[]⟩, false)
set_option maxRecDepth 100000 in
set_option maxHeartbeats 1000000 in
theorem fsFind_call (A : Option Addr) (c : Nat) (l : List S52) (q f : Int) (s : ByteArray) (w : World) (hr : Kd.C k52 w A l.length l) (hc : l.length ≤ c) (ht : ValidFits l) :
    Calls Try.prog 18 #[.agg #[.slice A l.length c, .int .i64 q, .int .i64 f], .string s] w fun e w' => e = .returned (.tuple #[.string (fsFind l q f s).1, .bool (fsFind l q f s).2]) ∧ Below w.heap.size w w' := by
  have hu29 := Try.underlying29
  have HR := Aside0.mk hr
  have b0 : Below w.heap.size w (w.alloc (.cells #[.slice A l.length c, .int .i64 q, .int .i64 f] 29)) := (Below.refl _ _).alloc (Nat.le_refl _) _
  have hv := valid_any A c l q f (w.alloc (.cells #[.slice A l.length c, .int .i64 q, .int .i64 f] 29)) (Kd.C_below hr b0) hc ht
  unfold fsFind
  by_cases h : validB l q f = true
  · rw [if_pos h]
    rw [h] at hv
    have HV := Aside0.mk hv
    have HL := Aside0.mk h
    clear hv hr hc ht h
    go_enter Try.func18, Try.ntmps18
    go_wp2_with fail
    refine HV.out.mono ?_
    rintro e w' ⟨rfl, hb⟩
    have HB := Aside0.mk (b0.trans (hb.mono (by simp)))
    have HG := Aside0.mk (show Lies w' w.heap.size A c l q f from (hb.block _ (by simp)).trans (heap_alloc_new _ _))
    have HC := Aside0.mk (read_call w.heap.size A c l q f s w' HG.out (Kd.C_below HR.out HB.out) (valid_parts HL.out).1 (valid_sorted HL.out))
    clear b0
    go_wp2_with fail
    refine HC.out.mono ?_
    rintro e w2 ⟨rfl, hb2⟩
    go_wp2
    go_ret2
    exact ⟨rfl, below_then HB.out HB.out.size hb2⟩
  · have h := Bool.eq_false_iff.2 h
    rw [if_neg (by rw [h]; simp)]
    rw [h] at hv
    have HV := Aside0.mk hv
    clear hv hr hc ht h
    go_enter Try.func18, Try.ntmps18
    go_wp2_with fail
    refine HV.out.mono ?_
    rintro e w' ⟨rfl, hb⟩
    have HB := Aside0.mk (b0.trans (hb.mono (by simp)))
    clear b0
    go_wp2
    go_ret2
    exact ⟨rfl, HB.out⟩
end Go.Proofs.Ytbppijlcmeidaaa.M
end
section
/- The program's copy of a directory, walked: new memory that reads the same. No condition. -/
namespace Go.Proofs.Ytbppijlcmeidaaa.M
open Go.RowKit Go.Proofs.Ytbppijlcmeidaaa.P Go.Proofs.YtbppijlcmeidaaaW.PrintWords Go.Proofs.YtbppijlcmeidaaaW.PrintLast Go.Proofs.YtbppijlcmeidaaaW.PrintMore
set_option linter.unusedVariables false
theorem info52 : (Try.prog.info? 52).map (fun i => (i.zero, i.size, i.bytes)) = some (some (.agg #[.string ⟨#[]⟩, .string ⟨#[]⟩, .int .i64 0]), 3, 40) := by kernel_rfl
theorem R_empty (w : World) (base : Nat) (hb : base ≤ w.heap.size) : Kd.R k52 52 (w.alloc (.cells #[] 52)) base (fun _ => True) (.slice (some ⟨w.heap.size, 0, none⟩) 0 0) [] :=
  ⟨fun _ _ => trivial, [], ⟨rfl, .inr ⟨w.heap.size, 0, #[], rfl, hb, heap_alloc_new _ _, Nat.le_refl _, by simp [maxLen], rfl, rfl⟩⟩, Reps.none _ _⟩

/-- A row of files that is read, where a block was made: what is known of an element speaks of no world. -/
theorem c_alloc {w : World} {A : Option Addr} {l : List S52} (h : Kd.C k52 w A l.length l) (o : Obj) : ReadsRow (fun x cs => k52.K w x cs) k52.sz (w.alloc o) A l.length l :=
  ReadsRow.imp_ h ((Below.refl _ _).alloc (Nat.le_refl _) _) (fun _ _ hp => hp)
theorem k_bare {w w1 : World} {base : Nat} {x : S52} {cs : List Value} (h : k52.K w x cs) : k52.M w1 base (fun _ => False) x cs := h
set_option maxRecDepth 100000 in
set_option maxHeartbeats 1000000 in
theorem clone_call (A : Option Addr) (c : Nat) (l : List S52) (w : World) (hr : Kd.C k52 w A l.length l) (hl : l.length ≤ 200) :
    Calls Try.prog 75 #[.slice A l.length c] w fun e w' => ∃ v, e = .returned v ∧ Kd.R k52 52 w' w.heap.size (fun _ => True) v l ∧ Below w.heap.size w w' := by
  have hu27 := Try.underlying27
  have hu52 := Try.underlying52
  have HR := Aside0.mk hr
  clear hr
  have hne := fun (W : World) (a : Option Addr) (n c : Nat) => Lib.run_eql_slice_nil (P := Try.prog) W 27 52 a n c 0 0 hu27
  have hlen : (0 + l.length) * 40 ≤ 140737488355328 := by omega
  cases A with
  | none =>
    have hl0 : l = [] := by
      rcases Nat.eq_zero_or_pos l.length with h | h
      · exact List.eq_nil_of_length_eq_zero h
      · obtain ⟨_, h, _⟩ := HR.out.2.2 h
        cases h
    clear hlen
    subst hl0
    go_enter Try.func75, Try.ntmps75
    go_wp2
    go_ret
    exact ⟨_, rfl, Kd.R_nil _ _ _ _ _, Below.refl _ _⟩
  | some ad =>
    have HL := Aside0.mk hlen
    clear hlen
    go_enter Try.func75, Try.ntmps75
    go_wp2_with (at_builtin; refine Kd.R_append_rows k52 (Rr := fun x cs => k52.K w x cs) (w0 := w) w.heap.size rfl _ _ 27 52 _ 40 rfl hu27 info52 rfl (by decide) (by decide) (.slice (some ⟨w.heap.size, 0, none⟩) 0 0) [] l (some ad) l.length c (fun _ => True) (fun _ => False) rfl rfl (R_empty w w.heap.size (Nat.le_refl _)) (c_alloc HR.out _) (fun x cs h => k_bare h) (fun _ h => h.elim) (fun _ _ => trivial) ((Below.refl _ _).alloc (Nat.le_refl _) _) (by simp) HL.out ?_; intro v1 w1 hR hB hg hat)
    go_ret
    exact ⟨_, rfl, by simpa using hR, hB⟩

set_option maxRecDepth 100000 in
set_option maxHeartbeats 1000000 in
theorem copyFS_call (A : Option Addr) (c : Nat) (l : List S52) (q f : Int) (w : World) (hr : Kd.C k52 w A l.length l) (hl : l.length ≤ 200) :
    Calls Try.prog 49 #[.agg #[.slice A l.length c, .int .i64 q, .int .i64 f]] w fun e w' => ∃ v, e = .returned (.agg #[v, .int .i64 q, .int .i64 f]) ∧ Kd.R k52 52 w' w.heap.size (fun _ => True) v l ∧ Below w.heap.size w w' := by
  have hu29 := Try.underlying29
  have HR := Aside0.mk hr
  have b0 : Below w.heap.size w ((w.alloc (.cells #[.slice A l.length c, .int .i64 q, .int .i64 f] 29)).alloc (.cells #[.slice none 0 0, .int .i64 0, .int .i64 0] 29)) := ((Below.refl _ _).alloc (Nat.le_refl _) _).alloc (by simp) _
  have HC := Aside0.mk (clone_call A c l _ (Kd.C_below hr b0) hl)
  have HB0 := Aside0.mk b0
  clear hr b0
  go_enter Try.func49, Try.ntmps49
  go_wp2_with fail
  refine HC.out.mono ?_
  rintro e w' ⟨v, rfl, hR, hb⟩
  obtain ⟨A', c', rfl⟩ := Kd.R_slice hR
  have HB := Aside0.mk (HB0.out.trans (hb.mono (by simp; omega)))
  have B0 := Aside0.mk (show w'.heap[w.heap.size]? = some (.cells #[.slice A l.length c, .int .i64 q, .int .i64 f] 29 (0, 0)) from (hb.block _ (by simp; omega)).trans (blk_alloc (heap_alloc_new _ _) _))
  have B1 := Aside0.mk (show w'.heap[w.heap.size + 1]? = some (.cells #[.slice none 0 0, .int .i64 0, .int .i64 0] 29 (0, 0)) from by
    have := (hb.block (w.alloc (.cells #[.slice A l.length c, .int .i64 q, .int .i64 f] 29)).heap.size (by simp)).trans (heap_alloc_new _ _)
    simpa using this)
  have c00 := blk_cell B0.out 0
  have c01 := blk_cell B0.out 1
  have c02 := blk_cell B0.out 2
  have f00 := blk_frozen B0.out 0
  have f01 := blk_frozen B0.out 1
  have f02 := blk_frozen B0.out 2
  have c10 := blk_cell B1.out 0
  have c11 := blk_cell B1.out 1
  have c12 := blk_cell B1.out 2
  have f10 := blk_frozen B1.out 0
  have f11 := blk_frozen B1.out 1
  have f12 := blk_frozen B1.out 2
  have HRR := Aside0.mk hR
  clear hR hb
  go_wp2
  refine bodyPost_ret (results_single (r := .cell 2 29) rfl (.cell (w.heap.size + 1) 29 #[.slice A' l.length c', .int .i64 q, .int .i64 f] (0, 0) _ rfl ?_ hu29 rfl (by kernel_rfl) .nil)) rfl ⟨_, rfl, ?_, ?_⟩
  · exact blk_put (blk_put (blk_put (blk_far B1.out (by show w.heap.size + 1 ≠ w.heap.size; omega) _) 0 _ rfl) 1 _ rfl) 2 _ rfl
  · have h52 : ∀ q, q ∈ 52 :: k52.E → q ≠ 29 := by decide
    have s0 := Kd.R_set HRR.out B0.out h52 0 (.slice A' l.length c')
    have s1 := Kd.R_set s0 (blk_far B1.out (by show w.heap.size + 1 ≠ w.heap.size; omega) _) h52 0 (.slice A' l.length c')
    have s2 := Kd.R_set s1 (blk_set (blk_far B1.out (by show w.heap.size + 1 ≠ w.heap.size; omega) _) _ _) h52 1 (.int .i64 q)
    have s3 := Kd.R_set s2 (blk_set (blk_set (blk_far B1.out (by show w.heap.size + 1 ≠ w.heap.size; omega) _) _ _) _ _) h52 2 (.int .i64 f)
    exact Kd.R_lower s3 HB0.out.size
  · exact (((HB.out.setCell (Nat.le_refl _) _).setCell (by simp) _).setCell (by simp) _).setCell (by simp) _
end Go.Proofs.Ytbppijlcmeidaaa.M
end
section
/- The beginning of a step, walked: dead, or one step less to live; are the names good. No condition. -/
namespace Go.Proofs.Ytbppijlcmeidaaa.M
open Go.RowKit Go.Proofs.Ytbppijlcmeidaaa.P Go.Proofs.YtbppijlcmeidaaaW.PrintWords Go.Proofs.YtbppijlcmeidaaaW.PrintLast Go.Proofs.YtbppijlcmeidaaaW.PrintMore
set_option linter.unusedVariables false

def fuel' (f : Int) : Int := if f > 0 then f - 1 else f
def namesCode (ns : List ByteArray) : Int := if ns.all nameOk = true then 0 else 2
theorem ret_int {a b : Int} (h : a = b) : Ending.returned (.int .i64 a) = Ending.returned (.int .i64 b) := by rw [h]

/-- A directory of the call's own: at block g; its files' row v; w0: the world in which the call began. -/
structure FsAt (w0 w : World) (g : Nat) (v : Value) (l : List S52) (q f : Int) : Prop where
  blk : w.heap[g]? = some (.cells #[v, .int .i64 q, .int .i64 f] 29 (0, 0))
  row : Kd.R k52 52 w w0.heap.size (fun _ => True) v l
  bel : Below w0.heap.size w0 w
  ge : w0.heap.size ≤ g
/-- Nothing but the directory's block and its row has been written. -/
structure Keeps (w w' : World) (g : Nat) (v : Value) : Prop where
  size : w.heap.size ≤ w'.heap.size
  block : ∀ i, i < w.heap.size → i ≠ g → some i ≠ v.ownBlock → w'.heap[i]? = w.heap[i]?
theorem Keeps.refl (w : World) (g : Nat) (v : Value) : Keeps w w g v := ⟨Nat.le_refl _, fun _ _ _ _ => rfl⟩
theorem Keeps.of_below {w w' : World} {g : Nat} {v : Value} (h : Below w.heap.size w w') : Keeps w w' g v := ⟨h.size, fun i hi _ _ => h.block i hi⟩
theorem Keeps.trans {w w1 w2 : World} {g : Nat} {v v1 : Value} (h : Keeps w w1 g v) (k : Keeps w1 w2 g v1) (hv : v1.ownBlock = v.ownBlock ∨ ∃ b, v1.ownBlock = some b ∧ w.heap.size ≤ b) : Keeps w w2 g v :=
  ⟨Nat.le_trans h.size k.size, fun i hi hg hn => by
    refine (k.block i (Nat.lt_of_lt_of_le hi h.size) hg (fun e => ?_)).trans (h.block i hi hg hn)
    rcases hv with hv | ⟨b, hb, hle⟩
    · exact hn (e.trans hv)
    · rw [hb] at e
      injection e with e
      omega⟩
theorem h52 : ∀ q, q ∈ 52 :: k52.E → q ≠ 29 := by decide
theorem FsAt.lies {w0 w : World} {g : Nat} {v : Value} {l : List S52} {q f : Int} (h : FsAt w0 w g v l q f) : ∃ A c, v = .slice A l.length c ∧ l.length ≤ c ∧ Kd.C k52 w A l.length l ∧ Lies w g A c l q f := by
  obtain ⟨A, c, rfl, hc, hr⟩ := Kd.R_reads h.row
  exact ⟨A, c, rfl, hc, hr, h.blk⟩
theorem FsAt.below {w0 w w' : World} {g : Nat} {v : Value} {l : List S52} {q f : Int} (h : FsAt w0 w g v l q f) (hb : Below w.heap.size w w') : FsAt w0 w' g v l q f :=
  ⟨(hb.block g (blk_lt h.blk)).trans h.blk, Kd.R_below h.row hb, below_then h.bel h.bel.size hb, h.ge⟩
theorem FsAt.setFuel {w0 w : World} {g : Nat} {v : Value} {l : List S52} {q f : Int} (h : FsAt w0 w g v l q f) (f' : Int) : FsAt w0 (w.setCell ⟨g, 2, none⟩ (.int .i64 f')) g v l q f' :=
  ⟨blk_put h.blk 2 _ rfl, Kd.R_set h.row h.blk h52 2 _, h.bel.setCell h.ge _, h.ge⟩
theorem Keeps.setCell {w : World} {g : Nat} (v : Value) (j : Nat) (u : Value) : Keeps w (w.setCell ⟨g, j, none⟩ u) g v :=
  ⟨by simp [World.setCell], fun i _ hg _ => Below.heap_setCell w ⟨g, j, none⟩ u i hg⟩

theorem add_block (ad : Addr) (k : Nat) : (ad.add k).block = ad.block := by unfold Addr.add; split <;> rfl
theorem names_cell {w : World} {A : Option Addr} {ns : List ByteArray} (h : Kd.C Kd.string w A ns.length ns) (k : Nat) (hk : k < ns.length) : ∃ ad, A = some ad ∧ w.cell? (ad.add k) = some (.string ns[k]) := by
  obtain ⟨ad, c, hA, _, hK, hc⟩ := Kd.C_get h ByteArray.empty (k : Int) (by omega) (by omega)
  rw [Int.toNat_natCast, getD_at ns k _ hk] at hK
  obtain rfl : c = [.string ns[k]] := hK
  refine ⟨ad, hA, ?_⟩
  have := hc 0 _ rfl
  rw [Int.toNat_natCast] at this
  simpa [Kd.string, Kd.scalar] using this
/-- The names, looked at one by one. -/
theorem all_step (ns : List ByteArray) (i : Nat) (h : i < ns.length) : (ns.drop i).all nameOk = (nameOk ns[i] && (ns.drop (i + 1)).all nameOk) := by
  rw [drop_at ns i h]; rfl

set_option maxRecDepth 100000 in
set_option maxHeartbeats 2000000 in
theorem begin_call (w0 w : World) (g : Nat) (v : Value) (l : List S52) (q f : Int) (A : Option Addr) (c : Nat) (ns : List ByteArray) (h : FsAt w0 w g v l q f) (hn : Kd.C Kd.string w A ns.length ns) (hf : -1 ≤ f) (hf2 : f ≤ 9223372036854775807) (hlen : ns.length ≤ 2) (hA : ∀ ad, A = some ad → ad.block ≠ g) :
    Calls Try.prog 78 #[.pointer (some ⟨g, 0, none⟩), .slice A ns.length c] w fun e w' => e = .returned (.int .i64 (if f = 0 then 8 else namesCode ns)) ∧ FsAt w0 w' g v l q (fuel' f) ∧ Keeps w w' g v := by
  have hu29 := Try.underlying29
  have H := Aside0.mk h
  have HN := Aside0.mk hn
  have HA := Aside0.mk hA
  have c0 := blk_cell h.blk 0
  have c1 := blk_cell h.blk 1
  have c2 := blk_cell h.blk 2
  have f2 := blk_frozen h.blk 2
  clear h hn hA
  by_cases z : f = 0
  · have F := Aside0.mk (show fuel' f = f by unfold fuel'; rw [if_neg (by omega)])
    rw [if_pos z]
    have hz : (f == 0) = true := beq_iff_eq.2 z
    have Z := Aside0.mk z
    clear z
    go_enter Try.func78, Try.ntmps78
    go_wp2
    go_ret
    exact ⟨rfl, by rw [F.out]; exact H.out, Keeps.refl _ _ _⟩
  · rw [if_neg z]
    have hz : (f == 0) = false := beq_eq_false_iff_ne.2 z
    by_cases p : f > 0
    · have F' := Aside0.mk (show fuel' f = f - 1 by unfold fuel'; rw [if_pos p])
      have hp : decide (0 < f) = true := decide_eq_true p
      clear z
      go_enter Try.func78, Try.ntmps78
      go_wp2
      go_loop [6, 26] (fun _ v26 => ∃ k : Nat, k ≤ ns.length ∧ v26 = .int .i64 k ∧ Aside0 (ns.all nameOk = (ns.drop k).all nameOk)) (fun _ v26 => ns.length - (intOf v26).toNat)
      case atStart => exact ⟨0, Nat.zero_le _, rfl, ⟨rfl⟩⟩
      case round =>
        obtain ⟨k, hk, rfl, HK⟩ := hrel
        by_cases hlt : k < ns.length
        · obtain ⟨ad, hA, hc⟩ := names_cell HN.out k hlt
          subst hA
          have hne := HA.out ad rfl
          have hc' : (w.setCell ⟨g, 2, none⟩ (.int .i64 (f - 1))).cell? (ad.add k) = some (.string ns[k]) := (cell_far (p := ⟨g, 2, none⟩) (a := ad.add k) (by rw [add_block]; exact hne) _).trans hc
          have hlt' : decide ((k : Int) < (ns.length : Int)) = true := decide_eq_true (by omega)
          have hlt2 : decide (k < ns.length) = true := decide_eq_true hlt
          have HS := Aside0.mk (all_step ns k hlt)
          generalize ns[k] = s at hc hc' HS
          by_cases n1 : nameOk s = true
          · have N1 := Aside0.mk n1
            clear n1 hc hne
            go_wp2_with (go_at_call 44; refine (nameFine_yes s _ N1.out).mono ?_; rintro e w' ⟨rfl, rfl⟩)
            go_round
            case rel => exact ⟨k + 1, by omega, by go_num, ⟨by rw [HK.out, HS.out, N1.out, Bool.true_and]⟩⟩
            case measure => simp [intOf]; omega
          · have n1 : nameOk s = false := Bool.eq_false_iff.2 n1
            have N1 := Aside0.mk n1
            have F := Aside0.mk (show namesCode ns = 2 by unfold namesCode; rw [HK.out, HS.out, n1]; rfl)
            clear n1 hc hne
            go_wp2_with (go_at_call 44; refine (nameFine_no s _ N1.out).mono ?_; rintro e w' ⟨rfl, rfl⟩)
            go_ret
            exact ⟨ret_int F.out.symm, by rw [F'.out]; exact H.out.setFuel _, Keeps.setCell v 2 _⟩
        · have F := Aside0.mk (show namesCode ns = 0 by unfold namesCode; rw [HK.out, List.drop_eq_nil_of_le (by omega)]; rfl)
          have hlt' : decide ((k : Int) < (ns.length : Int)) = false := decide_eq_false (by omega)
          have hlt2 : decide (k < ns.length) = false := decide_eq_false hlt
          go_wp2
          go_ret
          exact ⟨ret_int F.out.symm, by rw [F'.out]; exact H.out.setFuel _, Keeps.setCell v 2 _⟩
    · have F' := Aside0.mk (show fuel' f = f by unfold fuel'; rw [if_neg p])
      have hp : decide (0 < f) = false := decide_eq_false p
      clear z
      go_enter Try.func78, Try.ntmps78
      go_wp2
      go_loop [6, 26] (fun _ v26 => ∃ k : Nat, k ≤ ns.length ∧ v26 = .int .i64 k ∧ Aside0 (ns.all nameOk = (ns.drop k).all nameOk)) (fun _ v26 => ns.length - (intOf v26).toNat)
      case atStart => exact ⟨0, Nat.zero_le _, rfl, ⟨rfl⟩⟩
      case round =>
        obtain ⟨k, hk, rfl, HK⟩ := hrel
        by_cases hlt : k < ns.length
        · obtain ⟨ad, hA, hc⟩ := names_cell HN.out k hlt
          subst hA
          have hne := HA.out ad rfl
          have hc' : w.cell? (ad.add k) = some (.string ns[k]) := hc
          have hlt' : decide ((k : Int) < (ns.length : Int)) = true := decide_eq_true (by omega)
          have hlt2 : decide (k < ns.length) = true := decide_eq_true hlt
          have HS := Aside0.mk (all_step ns k hlt)
          generalize ns[k] = s at hc hc' HS
          by_cases n1 : nameOk s = true
          · have N1 := Aside0.mk n1
            clear n1 hc hne
            go_wp2_with (go_at_call 44; refine (nameFine_yes s _ N1.out).mono ?_; rintro e w' ⟨rfl, rfl⟩)
            go_round
            case rel => exact ⟨k + 1, by omega, by go_num, ⟨by rw [HK.out, HS.out, N1.out, Bool.true_and]⟩⟩
            case measure => simp [intOf]; omega
          · have n1 : nameOk s = false := Bool.eq_false_iff.2 n1
            have N1 := Aside0.mk n1
            have F := Aside0.mk (show namesCode ns = 2 by unfold namesCode; rw [HK.out, HS.out, n1]; rfl)
            clear n1 hc hne
            go_wp2_with (go_at_call 44; refine (nameFine_no s _ N1.out).mono ?_; rintro e w' ⟨rfl, rfl⟩)
            go_ret
            exact ⟨ret_int F.out.symm, by rw [F'.out]; exact H.out, Keeps.refl _ _ _⟩
        · have F := Aside0.mk (show namesCode ns = 0 by unfold namesCode; rw [HK.out, List.drop_eq_nil_of_le (by omega)]; rfl)
          have hlt' : decide ((k : Int) < (ns.length : Int)) = false := decide_eq_false (by omega)
          have hlt2 : decide (k < ns.length) = false := decide_eq_false hlt
          go_wp2
          go_ret
          exact ⟨ret_int F.out.symm, by rw [F'.out]; exact H.out, Keeps.refl _ _ _⟩
end Go.Proofs.Ytbppijlcmeidaaa.M
end
section
/- The step sync, walked, on a directory of the call's own. Condition: the files are in order, at most 200. -/
namespace Go.Proofs.Ytbppijlcmeidaaa.M
open Go.RowKit Go.Proofs.Ytbppijlcmeidaaa.P Go.Proofs.YtbppijlcmeidaaaW.PrintWords Go.Proofs.YtbppijlcmeidaaaW.PrintLast Go.Proofs.YtbppijlcmeidaaaW.PrintMore
set_option linter.unusedVariables false

/-- A row of files of the call's own, at its element i: the cells, and what a store there makes of it. -/
theorem row_elem {W : World} {base : Nat} {v : Value} {l : List S52} (h : Kd.R k52 52 W base (fun _ => True) v l) (i : Nat) (hi : i < l.length) :
    ∃ b c, v = .slice (some ⟨b, 0, none⟩) l.length c ∧ base ≤ b ∧ W.cell? ⟨b, i * 3, none⟩ = some (.string (rd_T52 l (i : Int)).f0) ∧ W.cell? ⟨b, i * 3 + 1, none⟩ = some (.string (rd_T52 l (i : Int)).f1) ∧ W.cell? ⟨b, i * 3 + 2, none⟩ = some (.int .i64 (rd_T52 l (i : Int)).f2) ∧
      (∀ j, W.frozen? ⟨b, i * 3 + j, none⟩ = false) ∧
      (∀ u : Int, Kd.R k52 52 (W.setCell ⟨b, i * 3 + 2, none⟩ (.int .i64 u)) base (fun _ => True) v (l.set i ⟨(rd_T52 l (i : Int)).f0, (rd_T52 l (i : Int)).f1, u⟩)) ∧
      (∀ s : ByteArray, Kd.R k52 52 (W.setCell ⟨b, i * 3 + 1, none⟩ (.string s)) base (fun _ => True) v (l.set i ⟨(rd_T52 l (i : Int)).f0, s, (rd_T52 l (i : Int)).f2⟩)) ∧
      (∀ y : S52, Kd.R k52 52 (((W.setCell ⟨b, i * 3, none⟩ (.string y.f0)).setCell ⟨b, i * 3 + 1, none⟩ (.string y.f1)).setCell ⟨b, i * 3 + 2, none⟩ (.int .i64 y.f2)) base (fun _ => True) v (l.set i y)) := by
  obtain ⟨A, c, rfl, hc, hC⟩ := Kd.R_reads h
  obtain ⟨ad, hA, _⟩ := hC.2.2 (by omega)
  subst hA
  obtain ⟨b, rfl⟩ := Kd.R_head h
  have hb := Kd.R_base h b (by simp [Value.ownBlock])
  obtain ⟨cs, hcl, hM, hcc, hfz⟩ := Kd.R_elem h z52 (i : Int) (by omega) (by omega)
  have e : l.getD (i : Int).toNat z52 = rd_T52 l (i : Int) := rfl
  rw [e] at hM
  simp only [Int.toNat_natCast] at hcc hfz
  generalize rd_T52 l (i : Int) = x at *
  obtain rfl : cs = [.string x.f0, .string x.f1, .int .i64 x.f2] := by
    obtain ⟨c0, c1, rfl, h0, c2, c3, rfl, h1, h2⟩ := hM
    rw [show c0 = [Value.string x.f0] from h0, show c2 = [Value.string x.f1] from h1, show c3 = [Value.int .i64 x.f2] from h2]
    rfl
  have hseg := fun (j : Nat) (seg : List Value) (hj : j + seg.length ≤ 3) (x' : S52) (hM' : k52.M W base (fun _ => False) x' (([.string x.f0, .string x.f1, .int .i64 x.f2] : List Value).take j ++ seg ++ ([.string x.f0, .string x.f1, .int .i64 x.f2] : List Value).drop (j + seg.length))) =>
    (Kd.R_seg (okp := fun _ => False) h (i : Int) (by omega) (by omega) hcl (by simp only [Int.toNat_natCast]; exact hcc) hj hM' (fun _ hk => hk.elim)).1
  refine ⟨b, c, rfl, hb, hcc 0 _ rfl, hcc 1 _ rfl, hcc 2 _ rfl, hfz, fun u => ?_, fun s => ?_, fun y => ?_⟩
  · exact hseg 2 [.int .i64 u] (by simp) ⟨x.f0, x.f1, u⟩ (k52_mkM W base _ ⟨x.f0, x.f1, u⟩)
  · exact hseg 1 [.string s] (by simp) ⟨x.f0, s, x.f2⟩ (k52_mkM W base _ ⟨x.f0, s, x.f2⟩)
  · exact hseg 0 [.string y.f0, .string y.f1, .int .i64 y.f2] (by simp) y (k52_mkM W base _ y)

theorem names1 (w : World) (s : ByteArray) : Kd.C Kd.string (w.alloc (.cells #[.string s] 9)) (some ⟨w.heap.size, 0, none⟩) [s].length [s] :=
  ⟨rfl, by simp, fun _ => ⟨_, rfl, fun j p hj => ⟨[.string p], rfl, rfl, fun i u hu => by
    obtain rfl : j = 0 := by
      have := (List.getElem?_eq_some_iff.1 hj).1
      simpa using this
    obtain rfl : i = 0 := by
      have := (List.getElem?_eq_some_iff.1 hu).1
      simpa using this
    have e1 : s = p := by simpa using hj
    have e2 : Value.string p = u := by simpa using hu
    subst e1; subst e2
    exact (cell_of_row _ _ 0 _ _ _ (heap_alloc_new w _)).trans rfl⟩⟩⟩

theorem FsAt.put {w0 w : World} {g b n c a : Nat} {l l' : List S52} {q f : Int} {u : Value} (h : FsAt w0 w g (.slice (some ⟨b, 0, none⟩) n c) l q f) (hne : b ≠ g) (hr : Kd.R k52 52 (w.setCell ⟨b, a, none⟩ u) w0.heap.size (fun _ => True) (.slice (some ⟨b, 0, none⟩) n c) l') :
    FsAt w0 (w.setCell ⟨b, a, none⟩ u) g (.slice (some ⟨b, 0, none⟩) n c) l' q f :=
  ⟨blk_far h.blk (fun e => hne e.symm) _, hr, h.bel.setCell (Kd.R_base h.row b (by simp [Value.ownBlock])) _, h.ge⟩
theorem FsAt.drew {w0 w : World} {g : Nat} {v : Value} {l : List S52} {q f : Int} (h : FsAt w0 w g v l q f) : FsAt w0 w.drew g v l q f := h.below (below_drew (Below.refl _ _))
theorem Keeps.put (w : World) (g b n c a : Nat) (u : Value) : Keeps w (w.setCell ⟨b, a, none⟩ u) g (.slice (some ⟨b, 0, none⟩) n c) :=
  ⟨by simp [World.setCell], fun i _ _ hn => Below.heap_setCell w ⟨b, a, none⟩ u i (fun e => hn (by rw [e]; rfl))⟩
theorem Keeps.drew {w w' : World} {g : Nat} {v : Value} (h : Keeps w w' g v) : Keeps w w'.drew g v := ⟨h.size, h.block⟩

def stepCode (f : Int) (ns : List ByteArray) : Int := if f = 0 then 8 else namesCode ns
/-- What a step leaves: the code, the files, the row. -/
def Stepped (w0 w : World) (g : Nat) (v : Value) (r : List S52 × Int) (q f : Int) (e : Ending) (w' : World) : Prop :=
  ∃ v', e = .returned (.int .i64 r.2) ∧ FsAt w0 w' g v' r.1 q (fuel' f) ∧ Keeps w w' g v
def syncOp (l : List S52) (s : ByteArray) : List S52 × Int :=
  if there l s = true then (l.set (pos l s) ⟨(rd_T52 l (pos l s : Int)).f0, (rd_T52 l (pos l s : Int)).f1, ((rd_T52 l (pos l s : Int)).f1.size : Int)⟩, 0) else (l, 1)
def stepOf (f : Int) (ns : List ByteArray) (l : List S52) (op : List S52 × Int) : List S52 × Int := if stepCode f ns = 0 then op else (l, stepCode f ns)
theorem stepCode_cases (f : Int) (ns : List ByteArray) : (stepCode f ns = 0 ∧ f ≠ 0 ∧ ns.all nameOk = true) ∨ stepCode f ns = 8 ∨ stepCode f ns = 2 := by
  unfold stepCode namesCode
  by_cases z : f = 0
  · rw [if_pos z]; exact .inr (.inl rfl)
  · rw [if_neg z]
    by_cases n : ns.all nameOk = true
    · rw [if_pos n]; exact .inl ⟨rfl, z, n⟩
    · rw [if_neg n]; exact .inr (.inr rfl)

set_option maxRecDepth 100000 in
set_option maxHeartbeats 4000000 in
theorem sync_call (w0 w : World) (g : Nat) (v : Value) (l : List S52) (q f : Int) (s : ByteArray) (h : FsAt w0 w g v l q f) (hf : -1 ≤ f) (hf2 : f ≤ 9223372036854775807) (hl : l.length ≤ 200) (hs : Sorted l) :
    Calls Try.prog 60 #[.pointer (some ⟨g, 0, none⟩), .string s] w fun e w' => Stepped w0 w g v (stepOf f [s] l (syncOp l s)) q f e w' := by
  have hu29 := Try.underlying29
  have hu52 := Try.underlying52
  have hb0 : Below w.heap.size w (w.alloc (.cells #[.string s] 9)) := (Below.refl _ _).alloc (Nat.le_refl _) _
  have hg := blk_lt h.blk
  have hbc := begin_call w0 (w.alloc (.cells #[.string s] 9)) g v l q f (some ⟨w.heap.size, 0, none⟩) 1 [s] (h.below hb0) (names1 w s) hf hf2 (by simp) (fun ad e => by injection e with e; subst e; show w.heap.size ≠ g; omega)
  change Calls _ _ _ _ (fun e w' => e = .returned (.int .i64 (stepCode f [s])) ∧ _) at hbc
  have K0 := Keeps.of_below (g := g) (v := v) hb0
  rcases stepCode_cases f [s] with ⟨h0, _, _⟩ | h8 | h2
  · have hop : stepOf f [s] l (syncOp l s) = syncOp l s := by unfold stepOf; rw [if_pos h0]
    rw [hop]
    rw [h0] at hbc
    have HBC := Aside0.mk hbc
    have HK0 := Aside0.mk K0
    have HS := Aside0.mk hs
    clear hbc K0 hb0 hop h0 h hs
    unfold syncOp
    by_cases ht : there l s = true
    · rw [if_pos ht]
      have hlt := there_lt ht
      have HT := Aside0.mk ht
      clear ht
      go_enter Try.func60, Try.ntmps60
      go_wp2_with fail
      refine HBC.out.mono ?_
      rintro e w1 ⟨rfl, h1, k1⟩
      obtain ⟨A, c, rfl, hc, hC, hL⟩ := h1.lies
      have HF := Aside0.mk (find_call g A c l q _ s w1 hL hC hl HS.out)
      have H1 := Aside0.mk h1
      have K1 := Aside0.mk (HK0.out.trans k1 (.inl rfl))
      clear h1 k1 hC hL
      go_wp2_with fail
      refine HF.out.mono ?_
      rw [HT.out]
      rintro e w2 ⟨rfl, hb⟩
      have h2 := H1.out.below hb
      have K2 := Aside0.mk (K1.out.trans (Keeps.of_below hb) (.inl rfl))
      obtain ⟨b, c', hv, hbb, e0, e1, e2, ez, es2, es1, es3⟩ := row_elem h2.row (pos l s) hlt
      injection hv with hv1 hv2 hv3
      subst hv1; subst hv3
      have H2 := Aside0.mk h2
      have ES := Aside0.mk es2
      have g0 := blk_cell h2.blk 0
      have ez2 := ez 2
      have hne : b ≠ g := fun hh => by
        obtain ⟨cells, hc'⟩ := Kd.R_typed h2.row b (by simp [Value.ownBlock])
        rw [hh, h2.blk] at hc'
        injection hc' with hc'
        injection hc' with _ hc'
        exact absurd hc' (by decide)
      have HNE := Aside0.mk hne
      clear h2 es1 es2 es3 ez hb hbb hne
      generalize hp : pos l s = p at hlt e0 e1 e2 ez2 ES
      generalize hx : rd_T52 l (p : Int) = x at e0 e1 e2 ES
      have hlt1 : ((p : Nat) : Int) < (l.length : Int) := by omega
      have hp0 : 0 ≤ ((p : Nat) : Int) := by omega
      have HP := Aside0.mk hp
      have HX := Aside0.mk hx
      clear hx hp
      go_wp2_with fail
      go_region
      go_wp2
      go_ret
      refine ⟨.slice (some ⟨b, 0, none⟩) l.length c, rfl, ?_, (K2.out.trans (Keeps.put w2 g b l.length c _ _) (.inl rfl)).drew⟩
      rw [HP.out, HX.out]
      exact (H2.out.put HNE.out (ES.out _)).drew
    · rw [if_neg ht]
      have ht := Bool.eq_false_iff.2 ht
      have HT := Aside0.mk ht
      clear ht
      go_enter Try.func60, Try.ntmps60
      go_wp2_with fail
      refine HBC.out.mono ?_
      rintro e w1 ⟨rfl, h1, k1⟩
      obtain ⟨A, c, rfl, hc, hC, hL⟩ := h1.lies
      have HF := Aside0.mk (find_call g A c l q _ s w1 hL hC hl HS.out)
      have H1 := Aside0.mk h1
      have K1 := Aside0.mk (HK0.out.trans k1 (.inl rfl))
      clear h1 k1 hC hL
      go_wp2_with fail
      refine HF.out.mono ?_
      rw [HT.out]
      rintro e w2 ⟨rfl, hb⟩
      go_wp2
      go_ret
      exact ⟨_, rfl, H1.out.below hb, K1.out.trans (Keeps.of_below hb) (.inl rfl)⟩
  · have hop : stepOf f [s] l (syncOp l s) = (l, 8) := by unfold stepOf; rw [h8, if_neg (by omega)]
    rw [hop]
    rw [h8] at hbc
    have HBC := Aside0.mk hbc
    have HK0 := Aside0.mk K0
    clear hbc K0 hb0 hop h8 h hs
    go_enter Try.func60, Try.ntmps60
    go_wp2_with fail
    refine HBC.out.mono ?_
    rintro e w1 ⟨rfl, h1, k1⟩
    go_wp2
    go_ret
    exact ⟨_, rfl, h1, HK0.out.trans k1 (.inl rfl)⟩
  · have hop : stepOf f [s] l (syncOp l s) = (l, 2) := by unfold stepOf; rw [h2, if_neg (by omega)]
    rw [hop]
    rw [h2] at hbc
    have HBC := Aside0.mk hbc
    have HK0 := Aside0.mk K0
    clear hbc K0 hb0 hop h2 h hs
    go_enter Try.func60, Try.ntmps60
    go_wp2_with fail
    refine HBC.out.mono ?_
    rintro e w1 ⟨rfl, h1, k1⟩
    go_wp2
    go_ret
    exact ⟨_, rfl, h1, HK0.out.trans k1 (.inl rfl)⟩
end Go.Proofs.Ytbppijlcmeidaaa.M
end
section
/- A row of files of the call's own as one run of cells, and back. No condition. -/
namespace Go.Proofs.Ytbppijlcmeidaaa.M
open Go.RowKit Go.Proofs.Ytbppijlcmeidaaa.P Go.Proofs.YtbppijlcmeidaaaW.PrintWords Go.Proofs.YtbppijlcmeidaaaW.PrintLast Go.Proofs.YtbppijlcmeidaaaW.PrintMore
set_option linter.unusedVariables false
def cells3 (x : S52) : List Value := [.string x.f0, .string x.f1, .int .i64 x.f2]
def flat (l : List S52) : List Value := l.flatMap cells3
theorem flat_length (l : List S52) : (flat l).length = l.length * 3 := by
  induction l with
  | nil => rfl
  | cons x l ih => show (cells3 x ++ flat l).length = _; rw [List.length_append, ih]; show 3 + _ = _; simp; omega
theorem flat_append (a b : List S52) : flat (a ++ b) = flat a ++ flat b := List.flatMap_append
theorem cells3_length (x : S52) : (cells3 x).length = 3 := rfl
theorem flat_take (l : List S52) (i : Nat) : flat (l.take i) = (flat l).take (i * 3) := by
  induction l generalizing i with
  | nil => simp [flat]
  | cons x l ih =>
    cases i with
    | zero => simp [flat]
    | succ i =>
      show cells3 x ++ flat (l.take i) = (cells3 x ++ flat l).take ((i + 1) * 3)
      rw [ih, List.take_append, List.take_of_length_le (l := cells3 x) (by rw [cells3_length]; omega), cells3_length, show (i + 1) * 3 - 3 = i * 3 by omega]
theorem flat_drop (l : List S52) (i : Nat) : flat (l.drop i) = (flat l).drop (i * 3) := by
  induction l generalizing i with
  | nil => simp [flat]
  | cons x l ih =>
    cases i with
    | zero => simp
    | succ i =>
      show flat (l.drop i) = (cells3 x ++ flat l).drop ((i + 1) * 3)
      rw [ih, List.drop_append, show List.drop ((i + 1) * 3) (cells3 x) = [] from List.drop_eq_nil_of_le (by rw [cells3_length]; omega), cells3_length, show (i + 1) * 3 - 3 = i * 3 by omega, List.nil_append]
theorem reps_flat (W : World) (base : Nat) (okp : Nat → Prop) (l : List S52) : Reps (k52.M W base okp) 3 l (flat l) := by
  refine ⟨flat_length l, fun i x hx => ?_⟩
  have hi := (List.getElem?_eq_some_iff.1 hx).1
  rw [← flat_drop, drop_at l i hi]
  have e : l[i] = x := by
    have := List.getElem?_eq_getElem hi
    rw [this] at hx
    exact Option.some.inj hx
  rw [e]
  show k52.M W base okp x (List.take 3 (cells3 x ++ flat (l.drop (i + 1))))
  rw [List.take_append_of_le_length (by show 3 ≤ 3; omega), List.take_of_length_le (by show 3 ≤ 3; omega)]
  exact k52_mkM W base _ x
theorem flat_of_reps {W : World} {base : Nat} {okp : Nat → Prop} : ∀ {l : List S52} {inner : List Value}, Reps (k52.M W base okp) 3 l inner → inner = flat l := by
  intro l
  induction l with
  | nil => intro inner h; exact List.eq_nil_of_length_eq_zero (by rw [h.1]; rfl)
  | cons x l ih =>
    intro inner h
    have h0 := h.2 0 x rfl
    rw [Nat.zero_mul, List.drop_zero] at h0
    have e0 : inner.take 3 = cells3 x := by
      obtain ⟨c0, c1, e, g0, c2, c3, rfl, g1, g2⟩ := h0
      rw [e, show c0 = [Value.string x.f0] from g0, show c2 = [Value.string x.f1] from g1, show c3 = [Value.int .i64 x.f2] from g2]
      rfl
    have h1 : Reps (k52.M W base okp) 3 l (inner.drop 3) := by
      refine ⟨by rw [List.length_drop, h.1]; simp; omega, fun i y hy => ?_⟩
      have := h.2 (i + 1) y (by simpa using hy)
      rw [List.drop_drop, show 3 + i * 3 = (i + 1) * 3 by omega]
      exact this
    rw [← List.take_append_drop 3 inner, e0, ih h1]
    rfl
theorem R_flat {W : World} {base b n c : Nat} {l : List S52} (h : Kd.R k52 52 W base (fun _ => True) (.slice (some ⟨b, 0, none⟩) n c) l) :
    ∃ cur, W.heap[b]? = some (.cells cur 52 (0, 0)) ∧ cur.size = c * 3 ∧ cur.toList.take (l.length * 3) = flat l ∧ base ≤ b ∧ l.length ≤ c ∧ n = l.length ∧ c ≤ maxLen := by
  obtain ⟨hn, hnc, _⟩ := Kd.R_reads' h
  obtain ⟨hok, inner, hown, hr⟩ := h
  have e := flat_of_reps hr
  subst e
  rcases hown.2 with ⟨hv, _⟩ | ⟨g', cap', cur, hv, hb, hh, hle, hcm, hcs, htake⟩
  · cases hv
  injection hv with ha _ hc
  injection ha with ha
  injection ha with hg
  subst hg; subst hc
  exact ⟨cur, hh, hcs, htake, hb, hle, hn, hcm⟩
theorem R_of_flat {W : World} {base b c : Nat} {l : List S52} {cur : Array Value} (hh : W.heap[b]? = some (.cells cur 52 (0, 0))) (hcs : cur.size = c * 3) (ht : cur.toList.take (l.length * 3) = flat l) (hb : base ≤ b) (hc : l.length ≤ c) (hm : c ≤ maxLen) :
    Kd.R k52 52 W base (fun _ => True) (.slice (some ⟨b, 0, none⟩) l.length c) l :=
  ⟨fun _ _ => trivial, flat l, ⟨flat_length l, .inr ⟨b, c, cur, rfl, hb, hh, hc, hm, hcs, ht⟩⟩, reps_flat _ _ _ _⟩
end Go.Proofs.Ytbppijlcmeidaaa.M
end
section
/- 'copy' between rows of files: its run. Condition: the cells lie in one plain block. -/
namespace Go.Proofs.Ytbppijlcmeidaaa.M
open Go.RowKit Go.Proofs.Ytbppijlcmeidaaa.P Go.Proofs.YtbppijlcmeidaaaW.PrintWords Go.Proofs.YtbppijlcmeidaaaW.PrintLast Go.Proofs.YtbppijlcmeidaaaW.PrintMore
set_option linter.unusedVariables false
theorem info52s : ∃ i, Try.prog.info? 52 = some i ∧ i.zero = some (Value.agg #[Value.string ⟨#[]⟩, Value.string ⟨#[]⟩, Value.int .i64 0]) ∧ i.size = 3 ∧ i.bytes = 40 := by
  obtain ⟨i, hi, hz⟩ := Option.map_eq_some_iff.1 info52
  simp only [Prod.mk.injEq] at hz
  exact ⟨i, hi, hz⟩
theorem run_copy3 (w : World) (ty : TypeId) (g o dLen dCap : Nat) (a : Addr) (sLen sCap : Nat) (cur : Array Value) (cs : List Value)
    (hg : w.heap[g]? = some (.cells cur 52 (0, 0))) (hn : cs.length = Nat.min sLen dLen * 3)
    (hsrc : ∀ j v, cs[j]? = some v → w.cell? (a.add j) = some v) (hfit : o + cs.length ≤ cur.size) (h1 : ∀ v ∈ cs, v.oneCell' = true) :
    (Builtin.copy_ #[27, 27] ty #[.slice (some ⟨g, o, none⟩) dLen dCap, .slice (some a) sLen sCap]).run Try.prog w =
      .ok (goInt (Nat.min sLen dLen)) (w.setRow g (cur.toList.take o ++ cs ++ cur.toList.drop (o + cs.length)).toArray) := by
  have hl := run_loadCells_list (P := Try.prog) w a cs hsrc
  have hst := run_storeCells_at Try.prog g o 52 cs 0 cur w hg (by simpa using hfit) h1
  obtain ⟨i, hq, _, hi, _⟩ := info52s
  simp [Builtin.copy_, run_underlying Try.underlying27, Builtin.lenOf, Builtin.firstCells, sizeOf, typeInfo, hq, hi, ← hn, hl, hst]
theorem wpList_copy3 (w : World) {ops : Array Oper} {rest : List Oper} {o : Oper} {a : Act} {Q : Exit → Act → World → Prop} (hgd : o.guard = none) (d s : Operand)
    (ho : o.op = .call { callee := .builtin .copy, args := #[d, s], argTypes := #[27, 27] }) (v u : Value) (hd : a.eval d = v) (hs : a.eval s = u) {v' : Value} {w' : World}
    (hr : (Builtin.copy_ #[27, 27] o.type #[v, u]).run Try.prog w = .ok v' w') (h : wpList Try.prog ops Q rest (a.put o.dst v') w') : wpList Try.prog ops Q (o :: rest) a w := by
  refine wpList_plain hgd fun K hK => ?_
  unfold Oper.wp execOp
  simp only [ho, resolve, invoke, builtin, Sem.run_bind, Sem.run_pure, Result.andThen_ok, List.map_toArray, List.map_cons, List.map_nil, hd, hs, hr]
  exact hK _ _ h
theorem step_copy3 {ops : Array Oper} {o : Oper} {a : Act} {w : World} {K : Act → World → Prop} {Q : Exit → Act → World → Prop} {E : Prop}
    (hg : o.guard = none) (d x : Operand) (hop : o.op = Op.call { callee := Callee.builtin Builtin.copy, args := #[d, x], argTypes := #[27, 27] })
    (v u : Value) (hd : a.eval d = v) (hx : a.eval x = u) {v' : Value} {w' : World} (hr : (Builtin.copy_ #[27, 27] o.type #[v, u]).run Try.prog w = .ok v' w') (hK : K (a.put o.dst v') w') :
    if Region.wanted o (yielded ops a.tmps) = true then Oper.wp Try.prog o a w K Q else E := by
  have hw : Region.wanted o (yielded ops a.tmps) = true := by simp [Region.wanted, hg]
  rw [if_pos hw]
  unfold Oper.wp
  simp [execOp, hop, resolve, invoke, builtin, hd, hx, hr, Result.andThen]
  exact hK
theorem cells3_one (x : S52) : ∀ v ∈ cells3 x, v.oneCell' = true := by
  intro v hv
  simp only [cells3, List.mem_cons, List.not_mem_nil, or_false] at hv
  rcases hv with rfl | rfl | rfl <;> rfl
theorem flat_one (l : List S52) : ∀ v ∈ flat l, v.oneCell' = true := by
  intro v hv
  obtain ⟨x, _, hx⟩ := List.mem_flatMap.1 hv
  exact cells3_one x v hx
/-- Cells shifted up by one file, and the file put. -/
theorem shift_put (cur : List Value) (l : List S52) (p : Nat) (x : S52) (hp : p ≤ l.length) (ht : cur.take (l.length * 3) = flat l) (hs : (l.length + 1) * 3 ≤ cur.length) :
    ((((cur.take ((p + 1) * 3) ++ (flat l).drop (p * 3) ++ cur.drop ((p + 1) * 3 + ((flat l).drop (p * 3)).length)).take (p * 3) ++ cells3 x ++
      (cur.take ((p + 1) * 3) ++ (flat l).drop (p * 3) ++ cur.drop ((p + 1) * 3 + ((flat l).drop (p * 3)).length)).drop (p * 3 + (cells3 x).length)).take ((l.take p ++ x :: l.drop p).length * 3))) = flat (l.take p ++ x :: l.drop p) := by
  have e0 : (flat l).drop (p * 3) = flat (l.drop p) := (flat_drop l p).symm
  have e1 : (flat (l.drop p)).length = (l.length - p) * 3 := by rw [flat_length, List.length_drop]
  have e2 : (cur.take ((p + 1) * 3)).length = (p + 1) * 3 := by rw [List.length_take]; omega
  have e3 : (cur.take ((p + 1) * 3)).take (p * 3) = flat (l.take p) := by
    rw [List.take_take, Nat.min_eq_left (by omega), flat_take, ← ht, List.take_take, Nat.min_eq_left (by omega)]
  have e4 : (flat (l.take p)).length = p * 3 := by rw [flat_length, List.length_take, Nat.min_eq_left hp]
  rw [e0]
  generalize hD : cur.drop ((p + 1) * 3 + (flat (l.drop p)).length) = D
  have hY1 : (cur.take ((p + 1) * 3) ++ flat (l.drop p) ++ D).take (p * 3) = flat (l.take p) := by
    rw [List.append_assoc, List.take_append_of_le_length (by rw [e2]; omega), e3]
  have hY2 : (cur.take ((p + 1) * 3) ++ flat (l.drop p) ++ D).drop (p * 3 + (cells3 x).length) = flat (l.drop p) ++ D := by
    rw [List.append_assoc, List.drop_append, e2, List.drop_eq_nil_of_le (by rw [e2, cells3_length]; omega), cells3_length, show p * 3 + 3 - (p + 1) * 3 = 0 by omega, List.drop_zero, List.nil_append]
  have e5 : flat (l.take p ++ x :: l.drop p) = flat (l.take p) ++ cells3 x ++ flat (l.drop p) := by
    rw [flat_append, List.append_assoc]; rfl
  rw [hY1, hY2, ← List.append_assoc, ← e5, List.take_left']
  rw [flat_length]
end Go.Proofs.Ytbppijlcmeidaaa.M
end
section
/- slices.Insert of one file into a row that has room, ahead of its end: walked. Condition: the file stands in a block of its own. -/
namespace Go.Proofs.Ytbppijlcmeidaaa.M
open Go.RowKit Go.Proofs.Ytbppijlcmeidaaa.P Go.Proofs.YtbppijlcmeidaaaW.PrintWords Go.Proofs.YtbppijlcmeidaaaW.PrintLast Go.Proofs.YtbppijlcmeidaaaW.PrintMore
set_option linter.unusedVariables false
theorem size52 (w : World) : (Go.sizeOf 52).run Try.prog w = .ok 3 w := by
  obtain ⟨i, hi, _, h3, _⟩ := info52s
  simp [sizeOf, typeInfo, hi, h3]
theorem blk_src {w : World} {b : Nat} {cur : Array Value} {t : TypeId} (h : w.heap[b]? = some (.cells cur t (0, 0))) (o j : Nat) (v : Value) (hv : cur.toList[o + j]? = some v) : w.cell? ((⟨b, o, none⟩ : Addr).add j) = some v := by
  have e : (⟨b, o, none⟩ : Addr).add j = ⟨b, o + j, none⟩ := by simp [Addr.add]
  rw [e, cell_of_row w b (o + j) cur t (0, 0) h, ← Array.getElem?_toList]
  exact hv
set_option maxRecDepth 100000 in
set_option maxHeartbeats 4000000 in
theorem insert_room (w : World) (b c p vb : Nat) (l : List S52) (x : S52) (cur : Array Value) (hb : w.heap[b]? = some (.cells cur 52 (0, 0))) (hsz : cur.size = c * 3) (htk : cur.toList.take (l.length * 3) = flat l) (hp : p < l.length) (hc : l.length + 1 ≤ c) (hm : c ≤ maxLen) (h12 : l.length ≤ 200)
    (hne : vb ≠ b) (hv : w.heap[vb]? = some (.cells (cells3 x).toArray 52 (0, 0))) :
    Calls Try.prog 83 #[.slice (some ⟨b, 0, none⟩) l.length c, .int .i64 p, .slice (some ⟨vb, 0, none⟩) 1 1] w fun e w' => e = .returned (.slice (some ⟨b, 0, none⟩) (l.length + 1) c) ∧ ∃ r1 r2, w' = (w.drew.setRow b r1).setRow b r2 ∧ r2.size = c * 3 ∧ r2.toList.take ((l.length + 1) * 3) = flat (l.take p ++ x :: l.drop p) := by
  have hu27 := Try.underlying27
  have hu52 := Try.underlying52
  have hlen : cur.toList.length = c * 3 := by simpa using hsz
  have hmx2 : c ≤ 9223372036854775807 := by simp [maxLen] at hm; omega
  have hfl : ((flat l).drop (p * 3)).length = (l.length - p) * 3 := by rw [List.length_drop, flat_length]; omega
  have hov : ∀ lb cb, (callFunc 87 #[.slice (some ⟨vb, 0, none⟩) 1 1, .slice (some ⟨b, (p + 1) * 3, none⟩) lb cb]).run Try.prog w = .ok (.value (.bool false)) w := fun lb cb => by
    rw [run_callFunc_extern Try.func87 (by kernel_rfl) (by kernel_rfl) (by kernel_rfl) (e := Extern.SlicesOverlaps.overlaps #[27, 27] #[4]) (by kernel_rfl),
      Lib.run_overlaps_apart w 27 4 52 hu27 3 size52 ⟨vb, 0, none⟩ ⟨b, (p + 1) * 3, none⟩ 1 1 lb cb hne 52 52 3 (c * 3) (by simp [World.shape?, hv, cells3]) (by simp [World.shape?, hb, hsz]) (by omega) (blk_frozen hv _) (blk_frozen hv _)]
    rfl
  obtain ⟨r1, hr1⟩ : ∃ r1, r1 = (cur.toList.take ((p + 1) * 3) ++ (flat l).drop (p * 3) ++ cur.toList.drop ((p + 1) * 3 + ((flat l).drop (p * 3)).length)).toArray := ⟨_, rfl⟩
  have hr1s : r1.size = c * 3 := by
    rw [hr1]
    simp only [List.size_toArray, List.length_append, List.length_take, List.length_drop, hlen, flat_length]
    omega
  have hcp1 : ∀ ty dc sc, (Builtin.copy_ #[27, 27] ty #[.slice (some ⟨b, (p + 1) * 3, none⟩) (l.length + 1 - (p + 1)) dc, .slice (some ⟨b, p * 3, none⟩) (l.length + 1 - p) sc]).run Try.prog w.drew = .ok (goInt (Nat.min (l.length + 1 - p) (l.length + 1 - (p + 1)))) (w.drew.setRow b r1) := fun ty dc sc => by
    rw [hr1]
    refine run_copy3 w.drew ty b ((p + 1) * 3) _ dc ⟨b, p * 3, none⟩ _ sc cur ((flat l).drop (p * 3)) hb ?_ (fun j v hj => blk_src (w := w.drew) hb (p * 3) j v ?_) (by rw [hfl, hsz]; omega) (fun v hv => flat_one l v (List.mem_of_mem_drop hv))
    · rw [hfl]; simp only [Nat.min_def]; split <;> omega
    · rw [List.getElem?_drop, ← htk, List.getElem?_take] at hj
      split at hj
      · exact hj
      · cases hj
  obtain ⟨r2, hr2⟩ : ∃ r2, r2 = (r1.toList.take (p * 3) ++ cells3 x ++ r1.toList.drop (p * 3 + (cells3 x).length)).toArray := ⟨_, rfl⟩
  have hcp2 : ∀ W : World, W.heap = (w.drew.setRow b r1).heap → ∀ ty dc, (Builtin.copy_ #[27, 27] ty #[.slice (some ⟨b, p * 3, none⟩) (l.length + 1 - p) dc, .slice (some ⟨vb, 0, none⟩) 1 1]).run Try.prog W = .ok (goInt (Nat.min 1 (l.length + 1 - p))) (W.setRow b r2) := fun W hW ty dc => by
    have hWb : W.heap[b]? = some (.cells r1 52 (0, 0)) := by rw [hW]; exact setRow_heap w.drew b cur r1 52 (0, 0) hb
    have hWv : W.heap[vb]? = some (.cells (cells3 x).toArray 52 (0, 0)) := by rw [hW]; exact (setRow_other w.drew b vb r1 hne).trans hv
    rw [hr2]
    refine run_copy3 W ty b (p * 3) _ dc ⟨vb, 0, none⟩ 1 1 r1 (cells3 x) hWb ?_ (fun j v hj => blk_src hWv 0 j v (by rw [Nat.zero_add]; exact hj)) (by rw [cells3_length, hr1s]; omega) (cells3_one x)
    rw [cells3_length]; simp only [Nat.min_def]; split <;> omega
  have hr2s : r2.size = c * 3 := by
    rw [hr2]
    simp only [List.size_toArray, List.length_append, List.length_take, List.length_drop, Array.length_toList, hr1s, cells3_length]
    omega
  have hr2t : r2.toList.take ((l.length + 1) * 3) = flat (l.take p ++ x :: l.drop p) := by
    have := shift_put cur.toList l p x (by omega) htk (by rw [hlen]; omega)
    rw [show (l.take p ++ x :: l.drop p).length = l.length + 1 by simp; omega] at this
    rw [hr2, hr1]
    exact this
  have X := Aside0.mk (And.intro hr2s hr2t)
  have C2 := Aside0.mk hcp2
  have h1 : ((p : Nat) : Int) ≤ (l.length : Int) := by omega
  have h2 : ¬ (((p : Nat) : Int) = (l.length : Int)) := by omega
  have h3 : ¬ ((c : Int) < (l.length : Int) + 1) := by omega
  have h4 : ((l.length : Nat) : Int) + 1 ≤ (c : Int) := by omega
  have h5 : p ≤ l.length := by omega
  have h6 : ¬ c = p := by omega
  have h7 : ¬ c = p + 1 := by omega
  have h8 : p + 1 ≤ l.length + 1 := by omega
  have h9 : p ≤ l.length + 1 := by omega
  have h10 : (0 : Int) ≤ (p : Int) + 1 := by omega
  have h11 : (0 : Int) ≤ (l.length : Int) + 1 := by omega
  have h13 : decide ((c : Int) < (l.length : Int) + 1) = false := decide_eq_false h3
  have h16 : IntKind.i64.wrap ((p : Int) + 1) = (p : Int) + 1 := by rw [IntKind.wrap_i64]; omega
  have h17 : ((p : Int) + 1).toNat = p + 1 := by omega
  have h18 : (p : Int) + 1 ≤ (l.length : Int) + 1 := by omega
  have h19 : (p : Int) ≤ (l.length : Int) + 1 := by omega
  have C1 := Aside0.mk hcp1
  clear hcp1
  clear hr2s hr2t hcp2 hr1s hr1 hr2 htk hsz hlen hmx2 hfl hb hv hm
  go_enter Try.func83, Try.ntmps83
  go_wp2_with (simp only [hov])
  have hcp1 := C1.out
  go_region_law (refine step_copy3 rfl _ _ rfl (.slice (some ⟨b, (p + 1) * 3, none⟩) (l.length + 1 - (p + 1)) (c - (p + 1))) (.slice (some ⟨b, p * 3, none⟩) (l.length + 1 - p) (c - p)) (by simp [Act.eval, Act.put]) (by simp [Act.eval, Act.put]) (hcp1 _ _ _) ?_)
  clear hcp1
  have hcp2 := C2.out
  go_wp2_with (at_builtin; refine wpList_copy3 _ rfl _ _ rfl _ _ rfl rfl (hcp2 _ rfl _ _) ?_)
  go_ret
  exact ⟨rfl, r1, r2, rfl, X.out.1, X.out.2⟩
end Go.Proofs.Ytbppijlcmeidaaa.M
end
section
/- slices.Insert of one file into a row that has no room, ahead of its end: walked. Condition: the file stands in a block of its own. -/
namespace Go.Proofs.Ytbppijlcmeidaaa.M
open Go.RowKit Go.Proofs.Ytbppijlcmeidaaa.P Go.Proofs.YtbppijlcmeidaaaW.PrintWords Go.Proofs.YtbppijlcmeidaaaW.PrintLast Go.Proofs.YtbppijlcmeidaaaW.PrintMore
set_option linter.unusedVariables false
/-- A file put, then the rest behind it. -/
theorem put_rest (row : List Value) (l : List S52) (p : Nat) (x : S52) (hp : p ≤ l.length) (ht : row.take (p * 3) = flat (l.take p)) (hs : (l.length + 1) * 3 ≤ row.length) :
    (((row.take (p * 3) ++ cells3 x ++ row.drop (p * 3 + (cells3 x).length)).take ((p + 1) * 3) ++ flat (l.drop p) ++ (row.take (p * 3) ++ cells3 x ++ row.drop (p * 3 + (cells3 x).length)).drop ((p + 1) * 3 + (flat (l.drop p)).length)).take ((l.length + 1) * 3)) = flat (l.take p ++ x :: l.drop p) := by
  have e4 : (flat (l.take p)).length = p * 3 := by rw [flat_length, List.length_take, Nat.min_eq_left hp]
  have e5 : flat (l.take p ++ x :: l.drop p) = flat (l.take p) ++ cells3 x ++ flat (l.drop p) := by
    rw [flat_append, List.append_assoc]; rfl
  have h1 : (row.take (p * 3) ++ cells3 x ++ row.drop (p * 3 + (cells3 x).length)).take ((p + 1) * 3) = flat (l.take p) ++ cells3 x := by
    rw [ht, List.take_left']
    rw [List.length_append, e4, cells3_length]; omega
  rw [h1, ← e5, List.take_left']
  rw [flat_length]; simp; omega
set_option maxRecDepth 100000 in
set_option maxHeartbeats 4000000 in
theorem insert_grow (w : World) (b c p vb : Nat) (l : List S52) (x : S52) (cur : Array Value) (hb : w.heap[b]? = some (.cells cur 52 (0, 0))) (hsz : cur.size = c * 3) (htk : cur.toList.take (l.length * 3) = flat l) (hp : p < l.length) (hc0 : l.length ≤ c) (hc : c < l.length + 1) (h12 : l.length ≤ 200)
    (hv : w.heap[vb]? = some (.cells (cells3 x).toArray 52 (0, 0))) :
    Calls Try.prog 83 #[.slice (some ⟨b, 0, none⟩) l.length c, .int .i64 p, .slice (some ⟨vb, 0, none⟩) 1 1] w fun e w' => ∃ G row, e = .returned (.slice (some ⟨w.heap.size, 0, none⟩) (l.length + 1) G) ∧ w'.heap[w.heap.size]? = some (.cells row 52 (0, 0)) ∧ row.size = G * 3 ∧ row.toList.take ((l.length + 1) * 3) = flat (l.take p ++ x :: l.drop p) ∧ l.length + 1 ≤ G ∧ G ≤ maxLen ∧ Below w.heap.size w w' := by
  have hu27 := Try.underlying27
  have hu52 := Try.underlying52
  obtain ⟨i0, hi0, hz0, hzs, hzb⟩ := info52s
  have hlen : cur.toList.length = c * 3 := by simpa using hsz
  have hbw : b < w.heap.size := blk_lt hb
  have hvw : vb < w.heap.size := blk_lt hv
  have hold : (Builtin.firstCells i0.size p (.slice (some ⟨b, 0, none⟩) p c)).run Try.prog w.drew = .ok (flat (l.take p)).toArray w.drew := by
    rw [hzs]
    refine run_firstCells_some w.drew 3 p ⟨b, 0, none⟩ p c (flat (l.take p)) (by rw [flat_length, List.length_take]; congr 1; omega) (fun j v hj => blk_src (w := w.drew) hb 0 j v ?_)
    rw [flat_take, List.getElem?_take] at hj
    split at hj
    · rw [Nat.zero_add]
      rw [← htk, List.getElem?_take] at hj
      split at hj
      · exact hj
      · cases hj
    · cases hj
  obtain ⟨G, hG⟩ : ∃ G, G = grownCap w (l.length + 1) c 52 := ⟨_, rfl⟩
  have hGn : l.length + 1 ≤ G := by rw [hG]; exact grownCap_ge w _ _ _
  have hGm : G ≤ maxLen := by rw [hG]; exact grownCap_le_maxLen w _ _ _ (by simp [maxLen]; omega)
  obtain ⟨ROW, hROW⟩ : ∃ ROW : Array Value, ROW = (flat (l.take p)).toArray ++ Builtin.zeroCells (Value.agg #[Value.string ⟨#[]⟩, Value.string ⟨#[]⟩, Value.int .i64 0]).cells (l.length + 1 - p) ++ Builtin.zeroCells (Value.agg #[Value.string ⟨#[]⟩, Value.string ⟨#[]⟩, Value.int .i64 0]).cells (G - (l.length + 1)) := ⟨_, rfl⟩
  have hkk : (l.length : Int) + 1 - (p : Int) = ((l.length + 1 - p : Nat) : Int) := by omega
  have hik : p + (l.length + 1 - p) = l.length + 1 := by omega
  have hrz : ∀ ty, (Builtin.append_ #[27, 3] ty #[.slice (some ⟨b, 0, none⟩) p c, .int .i64 ((l.length : Int) + 1 - (p : Int))]).run Try.prog w =
      .ok (.slice (some ⟨w.heap.size, 0, none⟩) (l.length + 1) G) (w.drew.alloc (.cells ROW 52)) := fun ty => by
    have h := Lib.run_append_grow_zeros w 27 3 ty 52 i0 _ .i64 .i64 hu27 Try.underlying3 hi0 hz0 (some ⟨b, 0, none⟩) p c (flat (l.take p)) hold (l.length + 1 - p) (by omega) (by omega) (by omega) (by omega) (by rw [hzb]; omega) (by rw [hzb, hik]; exact growslice_fits hc (by omega))
    rw [hik, ← hG, ← hROW] at h
    rw [hkk]
    exact h
  have hRs : ROW.size = G * 3 := by
    rw [hROW]
    simp [Builtin.zeroCells, Value.cells, flat_length]
    omega
  have hRt : ROW.toList.take (p * 3) = flat (l.take p) := by
    rw [hROW]
    simp only [Array.toList_append, List.append_assoc]
    rw [List.take_left']
    rw [flat_length, List.length_take, Nat.min_eq_left (by omega)]
  obtain ⟨W1, hW1⟩ : ∃ W1, W1 = w.drew.alloc (.cells ROW 52) := ⟨_, rfl⟩
  rw [← hW1] at hrz
  have hN1 : W1.heap[w.heap.size]? = some (.cells ROW 52 (0, 0)) := by rw [hW1]; exact heap_alloc_new w.drew _
  have hB1 : Below w.heap.size w W1 := by rw [hW1]; exact (below_drew (Below.refl _ _)).alloc (Nat.le_refl _) _
  have hO1 : ∀ i, i < w.heap.size → W1.heap[i]? = w.heap[i]? := fun i hi => hB1.block i hi
  obtain ⟨rA, hrA⟩ : ∃ rA, rA = (ROW.toList.take (p * 3) ++ cells3 x ++ ROW.toList.drop (p * 3 + (cells3 x).length)).toArray := ⟨_, rfl⟩
  have hrAs : rA.size = G * 3 := by
    rw [hrA]
    simp only [List.size_toArray, List.length_append, List.length_take, List.length_drop, Array.length_toList, hRs, cells3_length]
    omega
  have hcpA : ∀ W : World, W.heap = W1.heap → ∀ ty dc, (Builtin.copy_ #[27, 27] ty #[.slice (some ⟨w.heap.size, p * 3, none⟩) (l.length + 1 - p) dc, .slice (some ⟨vb, 0, none⟩) 1 1]).run Try.prog W = .ok (goInt (Nat.min 1 (l.length + 1 - p))) (W.setRow w.heap.size rA) := fun W hW ty dc => by
    rw [hrA]
    refine run_copy3 W ty w.heap.size (p * 3) _ dc ⟨vb, 0, none⟩ 1 1 ROW (cells3 x) (by rw [hW]; exact hN1) ?_ (fun j v hj => blk_src (by rw [hW]; exact (hO1 vb hvw).trans hv) 0 j v (by rw [Nat.zero_add]; exact hj)) (by rw [cells3_length, hRs]; omega) (cells3_one x)
    rw [cells3_length]; simp only [Nat.min_def]; split <;> omega
  obtain ⟨rB, hrB⟩ : ∃ rB, rB = (rA.toList.take ((p + 1) * 3) ++ flat (l.drop p) ++ rA.toList.drop ((p + 1) * 3 + (flat (l.drop p)).length)).toArray := ⟨_, rfl⟩
  have hfl : (flat (l.drop p)).length = (l.length - p) * 3 := by rw [flat_length, List.length_drop]
  have hrBs : rB.size = G * 3 := by
    rw [hrB]
    simp only [List.size_toArray, List.length_append, List.length_take, List.length_drop, Array.length_toList, hrAs, hfl]
    omega
  have hcpB : ∀ W : World, W.heap = (W1.setRow w.heap.size rA).heap → ∀ ty dc sc, (Builtin.copy_ #[27, 27] ty #[.slice (some ⟨w.heap.size, (p + 1) * 3, none⟩) (l.length - p) dc, .slice (some ⟨b, p * 3, none⟩) (l.length - p) sc]).run Try.prog W = .ok (goInt (Nat.min (l.length - p) (l.length - p))) (W.setRow w.heap.size rB) := fun W hW ty dc sc => by
    rw [hrB]
    refine run_copy3 W ty w.heap.size ((p + 1) * 3) _ dc ⟨b, p * 3, none⟩ _ sc rA (flat (l.drop p)) (by rw [hW]; exact setRow_heap W1 _ ROW rA 52 (0, 0) hN1) ?_ (fun j v hj => blk_src (cur := cur) (by rw [hW]; exact (setRow_other W1 w.heap.size b rA (by omega)).trans ((hO1 b hbw).trans hb)) (p * 3) j v ?_) (by rw [hfl, hrAs]; omega) (flat_one _)
    · rw [hfl]; simp only [Nat.min_def]; split <;> omega
    · rw [flat_drop, List.getElem?_drop, ← htk, List.getElem?_take] at hj
      split at hj
      · exact hj
      · cases hj
  have hrBt : rB.toList.take ((l.length + 1) * 3) = flat (l.take p ++ x :: l.drop p) := by
    have := put_rest ROW.toList l p x (by omega) hRt (by have : ROW.toList.length = ROW.size := Array.length_toList; omega)
    rw [hrB, hrA]
    exact this
  have X := Aside0.mk (And.intro hrBs (And.intro hrBt (And.intro hGn (And.intro hGm (And.intro hN1 hB1)))))
  have CA := Aside0.mk hcpA
  have CB := Aside0.mk hcpB
  have h1 : ((p : Nat) : Int) ≤ (l.length : Int) := by omega
  have h2 : ¬ (((p : Nat) : Int) = (l.length : Int)) := by omega
  have h3 : (c : Int) < (l.length : Int) + 1 := by omega
  have h13 : decide ((c : Int) < (l.length : Int) + 1) = true := decide_eq_true h3
  have h5 : p ≤ l.length := by omega
  have h6 : ¬ c = p := by omega
  have h20 : p ≤ c := by omega
  have h21 : ¬ G = p := by omega
  have h22 : ¬ G = p + 1 := by omega
  have h8 : p + 1 ≤ l.length + 1 := by omega
  have h9 : p ≤ l.length + 1 := by omega
  have h10 : (0 : Int) ≤ (p : Int) + 1 := by omega
  have h16 : IntKind.i64.wrap ((p : Int) + 1) = (p : Int) + 1 := by rw [IntKind.wrap_i64]; omega
  have h17 : ((p : Int) + 1).toNat = p + 1 := by omega
  have h18 : (p : Int) + 1 ≤ (l.length : Int) + 1 := by omega
  have h19 : (p : Int) ≤ (l.length : Int) + 1 := by omega
  have HRZ := Aside0.mk hrz
  clear hG hROW hW1 hrz hrBs hrBt hGn hGm hN1 hB1 hO1 hrA hrAs hrB hfl hcpA hcpB hRs hRt hkk hik hold hi0 hz0 hzs hzb hlen hsz htk hb hv hbw hvw
  go_enter Try.func83, Try.ntmps83
  have hcpA := CA.out W1 rfl
  go_wp2_with (at_builtin; refine Lib.wpList_append_run _ rfl _ _ _ _ rfl _ _ rfl rfl _ _ (HRZ.out _) ?_)
  clear hcpA
  have hcpB := CB.out (W1.setRow w.heap.size rA).drew rfl
  go_region
  clear hcpB
  go_wp2
  go_ret
  refine ⟨G, rB, rfl, setRow_heap _ _ rA rB 52 (0, 0) (setRow_heap W1 _ ROW rA 52 (0, 0) X.out.2.2.2.2.1), X.out.1, X.out.2.1, X.out.2.2.1, X.out.2.2.2.1, ?_⟩
  exact below_setRow (below_drew (below_setRow X.out.2.2.2.2.2 (Nat.le_refl _) _)) (Nat.le_refl _) _
end Go.Proofs.Ytbppijlcmeidaaa.M
end
section
/- slices.Insert of one file into a row of the call's own, walked, whatever room there is. Condition: the file stands in a block of its own. -/
namespace Go.Proofs.Ytbppijlcmeidaaa.M
open Go.RowKit Go.Proofs.Ytbppijlcmeidaaa.P Go.Proofs.YtbppijlcmeidaaaW.PrintWords Go.Proofs.YtbppijlcmeidaaaW.PrintLast Go.Proofs.YtbppijlcmeidaaaW.PrintMore
set_option linter.unusedVariables false
theorem one52 {w : World} {vb : Nat} {x : S52} (hv : w.heap[vb]? = some (.cells (cells3 x).toArray 52 (0, 0))) : Kd.C k52 w (some ⟨vb, 0, none⟩) [x].length [x] :=
  ⟨rfl, by simp, fun _ => ⟨_, rfl, fun j p hj => by
    obtain rfl : j = 0 := by
      have := (List.getElem?_eq_some_iff.1 hj).1
      simpa using this
    obtain rfl : x = p := by simpa using hj
    exact ⟨cells3 x, rfl, k52_mk w x, fun i u hu => by
      have := blk_src hv 0 i u (by rw [Nat.zero_add]; exact hu)
      simpa using this⟩⟩⟩
set_option maxRecDepth 100000 in
set_option maxHeartbeats 4000000 in
theorem insert_end (w0 w : World) (base vb c : Nat) (A : Option Addr) (l : List S52) (x : S52) (h : Kd.R k52 52 w base (fun _ => True) (.slice A l.length c) l) (hB : Below base w0 w) (hbase : base ≤ w.heap.size) (h12 : l.length ≤ 200)
    (hv : w.heap[vb]? = some (.cells (cells3 x).toArray 52 (0, 0))) :
    Calls Try.prog 83 #[.slice A l.length c, .int .i64 l.length, .slice (some ⟨vb, 0, none⟩) 1 1] w fun e w' => ∃ v', e = .returned v' ∧ Kd.R k52 52 w' base (fun _ => True) v' (l ++ [x]) ∧ Below base w0 w' ∧ w.heap.size ≤ w'.heap.size ∧ ∀ i, i < w.heap.size → some i ≠ (Value.slice A l.length c).ownBlock → w'.heap[i]? = w.heap[i]? := by
  have hu27 := Try.underlying27
  have hu52 := Try.underlying52
  have H := Aside0.mk h
  have HB := Aside0.mk hB
  have HC := Aside0.mk (one52 hv)
  have hcl : l.length ≤ c := by
    obtain ⟨A', c', e, hc, _⟩ := Kd.R_reads h
    injection e with _ _ e
    omega
  have hh := (Kd.R_reads' h).2.2
  have hA : l.length ≤ 0 ∨ ∃ ad, A = some ad := by
    rcases Nat.eq_zero_or_pos l.length with hz | hz
    · exact .inl (by omega)
    · obtain ⟨ad, ha, _⟩ := hh.2.2 hz
      exact .inr ⟨ad, ha⟩
  have h2 : ((l.length : Nat) : Int) ≤ (c : Int) := by omega
  clear h hB hv hh hA
  go_enter Try.func83, Try.ntmps83
  go_wp2_with (at_builtin; refine Kd.R_append_rows k52 (Rr := fun x cs => k52.K w x cs) (w0 := w0) base rfl _ _ 27 52 _ 40 rfl hu27 info52 rfl (by decide) (by decide) (.slice A l.length c) l [x] (some ⟨vb, 0, none⟩) 1 1 (fun _ => True) (fun _ => False) rfl rfl H.out HC.out (fun x cs h => k_bare h) (fun _ h => h.elim) (fun _ _ => trivial) HB.out hbase (by omega) ?_; intro v1 w1 hR hB hg hat)
  all_goals
    go_ret
    exact ⟨_, rfl, hR, hB, hg.size, fun i hi hn => hg.block i hi (by cases A <;> exact hn)⟩
/-- One file put at a place of a row of the call's own. -/
theorem insert_call (w0 w : World) (base vb c p : Nat) (A : Option Addr) (l : List S52) (x : S52) (h : Kd.R k52 52 w base (fun _ => True) (.slice A l.length c) l) (hB : Below base w0 w) (hbase : base ≤ w.heap.size) (h12 : l.length ≤ 200) (hp : p ≤ l.length)
    (hv : w.heap[vb]? = some (.cells (cells3 x).toArray 52 (0, 0))) (hne : ∀ ad, A = some ad → ad.block ≠ vb) :
    Calls Try.prog 83 #[.slice A l.length c, .int .i64 p, .slice (some ⟨vb, 0, none⟩) 1 1] w fun e w' => ∃ v', e = .returned v' ∧ Kd.R k52 52 w' base (fun _ => True) v' (l.take p ++ x :: l.drop p) ∧ Below base w0 w' ∧ w.heap.size ≤ w'.heap.size ∧ ∀ i, i < w.heap.size → some i ≠ (Value.slice A l.length c).ownBlock → w'.heap[i]? = w.heap[i]? := by
  rcases Nat.lt_or_ge p l.length with hlt | hge
  · obtain ⟨b, c', e, hbb, hblt, _⟩ := Kd.R_form h (by omega)
    injection e with e1 _ e3
    subst e1; subst e3
    obtain ⟨cur, hb, hsz, htk, _, hlc, _, hm⟩ := R_flat h
    have hlen : (l.take p ++ x :: l.drop p).length = l.length + 1 := by simp; omega
    rcases Nat.lt_or_ge c (l.length + 1) with hc | hc
    · refine (insert_grow w b c p vb l x cur hb hsz htk hlt hlc hc h12 hv).mono ?_
      rintro e w' ⟨G, row, rfl, hr, hrs, hrt, hG, hGm, hbel⟩
      refine ⟨_, rfl, ?_, below_then hB hbase hbel, hbel.size, fun i hi _ => hbel.block i hi⟩
      have := R_of_flat (l := l.take p ++ x :: l.drop p) hr hrs (by rw [hlen]; exact hrt) hbase (by rw [hlen]; exact hG) hGm
      rw [hlen] at this
      exact this
    · refine (insert_room w b c p vb l x cur hb hsz htk hlt hc hm h12 (fun e => hne _ rfl e.symm) hv).mono ?_
      rintro e w' ⟨rfl, r1, r2, rfl, hrs, hrt⟩
      have h1 : (w.drew.setRow b r1).heap[b]? = some (.cells r1 52 (0, 0)) := setRow_heap w.drew b cur r1 52 (0, 0) hb
      refine ⟨_, rfl, ?_, below_setRow (below_setRow (below_drew hB) hbb _) hbb _, by simp, fun i hi hn => ?_⟩
      · have := R_of_flat (l := l.take p ++ x :: l.drop p) (setRow_heap _ b r1 r2 52 (0, 0) h1) hrs (by rw [hlen]; exact hrt) hbb (by rw [hlen]; exact hc) hm
        rw [hlen] at this
        exact this
      · have hib : i ≠ b := fun e => hn (by rw [e]; rfl)
        exact (setRow_other _ b i r2 hib).trans (setRow_other w.drew b i r1 hib)
  · obtain rfl : p = l.length := by omega
    rw [List.take_of_length_le (Nat.le_refl _), List.drop_eq_nil_of_le (Nat.le_refl _)]
    exact insert_end w0 w base vb c A l x h hB hbase h12 hv
end Go.Proofs.Ytbppijlcmeidaaa.M
end
section
/- slices.Delete of one file out of a row of the call's own, walked. Condition: the place is one of the row's. -/
namespace Go.Proofs.Ytbppijlcmeidaaa.M
open Go.RowKit Go.Proofs.Ytbppijlcmeidaaa.P Go.Proofs.YtbppijlcmeidaaaW.PrintWords Go.Proofs.YtbppijlcmeidaaaW.PrintLast Go.Proofs.YtbppijlcmeidaaaW.PrintMore
set_option linter.unusedVariables false

theorem sub_addr (b c p : Nat) : (if c = p + 1 then some (⟨b, 0, none⟩ : Addr) else some ⟨b, (p + 1) * 3, none⟩) = if c = p + 1 then some ⟨b, 0, none⟩ else Option.map (fun x : Addr => x.add ((p + 1) * k52.sz)) (some ⟨b, 0, none⟩) := by
  by_cases h : c = p + 1
  · rw [if_pos h, if_pos h]
  · rw [if_neg h, if_neg h, show k52.sz = 3 from rfl]
    simp [Addr.add]
theorem R_tail {W : World} {base b c : Nat} {l : List S52} {cur : Array Value} (hh : W.heap[b]? = some (.cells cur 52 (0, 0))) (hcs : cur.size = c * 3) (ht : cur.toList.take (l.length * 3) = flat l) (hb : base ≤ b) (hc : l.length + 1 ≤ c) (hm : c ≤ maxLen) (vs : List Value) (hv : vs.length = 3) :
    Kd.R k52 52 (W.setRow b (cur.toList.take (l.length * 3) ++ vs ++ cur.toList.drop (l.length * 3 + 3)).toArray) base (fun _ => True) (.slice (some ⟨b, 0, none⟩) l.length c) l := by
  have hlen : cur.toList.length = c * 3 := by simpa using hcs
  refine R_of_flat (setRow_heap W b cur _ 52 (0, 0) hh) ?_ ?_ hb (by omega) hm
  · simp only [List.size_toArray, List.length_append, List.length_take, List.length_drop, hv, hlen]
    omega
  · rw [List.append_assoc, List.take_left' (by rw [List.length_take, hlen]; omega)]
    exact ht
theorem zero52 (w : World) : (zeroValue 52).run Try.prog w = .ok (Value.agg #[Value.string ⟨#[]⟩, Value.string ⟨#[]⟩, Value.int .i64 0]) w := by
  have h := info52
  obtain ⟨i, hi, hz⟩ := Option.map_eq_some_iff.1 h
  injection hz with hz _
  simp [zeroValue, typeInfo, hi, hz]
theorem run_clear3 (b o c : Nat) (cur : Array Value) (W : World) (hg : W.heap[b]? = some (.cells cur 52 (0, 0))) (hf : o + 3 ≤ cur.size) (ty : TypeId) :
    (Builtin.clear_ #[27] ty #[.slice (some ⟨b, o, none⟩) 1 c]).run Try.prog W = .ok (.tuple #[]) (W.setRow b (cur.toList.take o ++ [Value.string ⟨#[]⟩, Value.string ⟨#[]⟩, Value.int .i64 0] ++ cur.toList.drop (o + 3)).toArray) := by
  have hst := run_storeCells_at Try.prog b o 52 [.string ⟨#[]⟩, .string ⟨#[]⟩, .int .i64 0] 0 cur W hg (by simpa using hf) (by simp [Value.oneCell'])
  have hz : (Builtin.zeroCells (Value.agg #[.string ⟨#[]⟩, .string ⟨#[]⟩, .int .i64 0]).cells 1).toList = [.string ⟨#[]⟩, .string ⟨#[]⟩, .int .i64 0] := by kernel_rfl
  have hzz := zero52
  simp only [Builtin.clear_]
  simp [run_underlying Try.underlying27, hzz, hz, hst]

set_option maxRecDepth 100000 in
set_option maxHeartbeats 4000000 in
theorem delete_call (w0 w : World) (base b c p : Nat) (l : List S52) (h : Kd.R k52 52 w base (fun _ => True) (.slice (some ⟨b, 0, none⟩) l.length c) l) (hp : p < l.length) (hB : Below base w0 w) (hbase : base ≤ w.heap.size) :
    Calls Try.prog 79 #[.slice (some ⟨b, 0, none⟩) l.length c, .int .i64 p, .int .i64 ((p : Int) + 1)] w fun e w' => e = .returned (.slice (some ⟨b, 0, none⟩) (l.length - 1) c) ∧ Kd.R k52 52 w' base (fun _ => True) (.slice (some ⟨b, 0, none⟩) (l.length - 1) c) (l.eraseIdx p) ∧ Below base w0 w' ∧ w.heap.size ≤ w'.heap.size ∧ ∀ i, i < w.heap.size → i ≠ b → w'.heap[i]? = w.heap[i]? := by
  have hu27 := Try.underlying27
  have hu52 := Try.underlying52
  obtain ⟨cur, hcur, hsz, htk, hbb, hlc, _, hmx⟩ := R_flat h
  have hmx2 : c ≤ 9223372036854775807 := by simp [maxLen] at hmx; omega
  have H := Aside0.mk h
  have HB := Aside0.mk hB
  have h1 : ((p : Nat) : Int) + 1 ≤ (l.length : Int) := by omega
  have h2 : ((l.length : Nat) : Int) ≤ (c : Int) := by omega
  have hpc : p ≤ c := by omega
  have hpc1 : p + 1 ≤ l.length := hp
  have hpc2 : p + 1 ≤ c := by omega
  have hpc3 : 0 ≤ ((p : Nat) : Int) + 1 := by omega
  clear h hB hcur hsz htk hbb hmx
  go_enter Try.func79, Try.ntmps79
  go_wp2_with fail
  go_region_law (refine Kd.R_delete_step k52 (w0 := w0) base rfl (.tmp 22) (.tmp 25) 27 52 rfl hu27 (by kernel_rfl) rfl rfl ?hA ?hm (Kd.R_drew H.out) hp (below_drew HB.out) hbase ?_; (case hA => exact sub_addr b c p); (case hm => rfl); intro W1 r1 r2 r3)
  obtain ⟨cur1, k1, k2, k3, q1, q2, q3, hmx⟩ := R_flat r1
  have hcl := run_clear3 b ((l.length - 1) * 3) (c - (l.length - 1)) cur1 W1 k1 (by omega)
  obtain ⟨row, hrow⟩ : ∃ row, row = (cur1.toList.take ((l.length - 1) * 3) ++ [Value.string ⟨#[]⟩, Value.string ⟨#[]⟩, Value.int .i64 0] ++ cur1.toList.drop ((l.length - 1) * 3 + 3)).toArray := ⟨_, rfl⟩
  rw [← hrow] at hcl
  have HRow := Aside0.mk hrow
  clear hrow
  have hcne : ¬ c = l.length - 1 := by omega
  have h1e : l.length - (l.length - 1) = 1 := by omega
  have hle1 : l.length - 1 ≤ l.length := by omega
  have X := Aside0.mk (And.intro k1 (And.intro k2 (And.intro k3 hmx)))
  have Y := Aside0.mk (And.intro r2 r3)
  have Z := Aside0.mk (And.intro q1 (And.intro q2 q3))
  clear k1 k2 k3 hmx r1 r2 r3 q1 q2 q3
  go_wp2
  all_goals
    go_ret
    refine ⟨rfl, ?_, ?_, ?_⟩
    · rw [HRow.out, Z.out.2.2]
      have hR := R_tail X.out.1 X.out.2.1 X.out.2.2.1 Z.out.1 (by have := Z.out.2.2; omega) X.out.2.2.2 [Value.string ⟨#[]⟩, Value.string ⟨#[]⟩, Value.int .i64 0] rfl
      first
        | exact hR
        | (rw [show p + 1 = c by omega]; exact hR)
    · exact below_setRow Y.out.1 Z.out.1 _
    · exact ⟨Nat.le_trans Y.out.2.size (by simp), fun i hi hne => (setRow_other _ _ _ _ hne).trans (Y.out.2.block i hi (fun e => hne (by injection e)))⟩
end Go.Proofs.Ytbppijlcmeidaaa.M
end
section
/- The step remove, walked, on a directory of the call's own. Condition: the files are in order, at most 200. -/
namespace Go.Proofs.Ytbppijlcmeidaaa.M
open Go.RowKit Go.Proofs.Ytbppijlcmeidaaa.P Go.Proofs.YtbppijlcmeidaaaW.PrintWords Go.Proofs.YtbppijlcmeidaaaW.PrintLast Go.Proofs.YtbppijlcmeidaaaW.PrintMore
set_option linter.unusedVariables false
def removeOp (l : List S52) (s : ByteArray) : List S52 × Int := if there l s = true then (l.eraseIdx (pos l s), 0) else (l, 1)
def removeRes (l : List S52) (f : Int) (s : ByteArray) : List S52 × Int := stepOf f [s] l (removeOp l s)
theorem FsAt.row_block {w0 w : World} {g : Nat} {v : Value} {l : List S52} {q f : Int} (h : FsAt w0 w g v l q f) (hl : 0 < l.length) : ∃ b c, v = .slice (some ⟨b, 0, none⟩) l.length c ∧ b ≠ g ∧ w0.heap.size ≤ b ∧ b < w.heap.size := by
  obtain ⟨b, c, e, hb, hlt, cells, hc⟩ := Kd.R_form h.row hl
  refine ⟨b, c, e, fun hh => ?_, hb, hlt⟩
  rw [hh, h.blk] at hc
  injection hc with hc
  injection hc with _ hc
  exact absurd hc (by decide)
/-- The directory with its files put anew. -/
theorem FsAt.files {w0 w : World} {g : Nat} {v v' : Value} {l l' : List S52} {q f : Int} (hb : w.heap[g]? = some (.cells #[v, .int .i64 q, .int .i64 f] 29 (0, 0))) (hr : Kd.R k52 52 w w0.heap.size (fun _ => True) v' l') (hB : Below w0.heap.size w0 w) (hg : w0.heap.size ≤ g) :
    FsAt w0 (w.setCell ⟨g, 0, none⟩ v') g v' l' q f :=
  ⟨blk_put hb 0 _ rfl, Kd.R_set hr hb h52 0 _, hB.setCell hg _, hg⟩

set_option maxRecDepth 100000 in
set_option maxHeartbeats 4000000 in
theorem remove_call (w0 w : World) (g : Nat) (v : Value) (l : List S52) (q f : Int) (s : ByteArray) (h : FsAt w0 w g v l q f) (hf : -1 ≤ f) (hf2 : f ≤ 9223372036854775807) (hl : l.length ≤ 200) (hs : Sorted l) :
    Calls Try.prog 57 #[.pointer (some ⟨g, 0, none⟩), .string s] w fun e w' => Stepped w0 w g v (removeRes l f s) q f e w' := by
  unfold removeRes
  have hu29 := Try.underlying29
  have hu52 := Try.underlying52
  have hb0 : Below w.heap.size w (w.alloc (.cells #[.string s] 9)) := (Below.refl _ _).alloc (Nat.le_refl _) _
  have hg := blk_lt h.blk
  have hbc := begin_call w0 (w.alloc (.cells #[.string s] 9)) g v l q f (some ⟨w.heap.size, 0, none⟩) 1 [s] (h.below hb0) (names1 w s) hf hf2 (by simp) (fun ad e => by injection e with e; subst e; show w.heap.size ≠ g; omega)
  change Calls _ _ _ _ (fun e w' => e = .returned (.int .i64 (stepCode f [s])) ∧ _) at hbc
  have K0 := Keeps.of_below (g := g) (v := v) hb0
  rcases stepCode_cases f [s] with ⟨h0, _, _⟩ | h8 | h2
  · have hop : stepOf f [s] l (removeOp l s) = removeOp l s := by unfold stepOf; rw [if_pos h0]
    rw [hop]
    rw [h0] at hbc
    have HBC := Aside0.mk hbc
    have HK0 := Aside0.mk K0
    have HS := Aside0.mk hs
    clear hbc K0 hb0 hop h0 h hs
    unfold removeOp
    by_cases ht : there l s = true
    · rw [if_pos ht]
      have hlt := there_lt ht
      have HT := Aside0.mk ht
      clear ht
      go_enter Try.func57, Try.ntmps57
      go_wp2_with fail
      refine HBC.out.mono ?_
      rintro e w1 ⟨rfl, h1, k1⟩
      obtain ⟨A, c, rfl, hc, hC, hL⟩ := h1.lies
      have HF := Aside0.mk (find_call g A c l q _ s w1 hL hC hl HS.out)
      have H1 := Aside0.mk h1
      have K1 := Aside0.mk (HK0.out.trans k1 (.inl rfl))
      clear h1 k1 hC hL
      go_wp2_with fail
      refine HF.out.mono ?_
      rw [HT.out]
      rintro e w2 ⟨rfl, hb⟩
      have h2 := H1.out.below hb
      have K2 := Aside0.mk (K1.out.trans (Keeps.of_below hb) (.inl rfl))
      obtain ⟨b, c', hv, hne, hbb, hblt⟩ := h2.row_block (by omega)
      injection hv with hv1 hv2 hv3
      subst hv1; subst hv3
      have H2 := Aside0.mk h2
      have g0 := blk_cell h2.blk 0
      have HD := Aside0.mk (delete_call w0 w2 w0.heap.size b c (pos l s) l h2.row hlt h2.bel h2.bel.size)
      have HNE := Aside0.mk hne
      clear h2 hb hne hbb hblt
      have hp0 : ((pos l s : Nat) : Int) + 1 ≤ 9223372036854775807 := by omega
      have hu27 := Try.underlying27
      go_wp2_with fail
      refine HD.out.mono ?_
      rintro e w3 ⟨rfl, hr, hB, hsz, hbl⟩
      have T := (hbl g (blk_lt H2.out.blk) (fun e => HNE.out e.symm)).trans H2.out.blk
      have j0 := blk_cell T 0
      have j1 := blk_frozen T 0
      have HT3 := Aside0.mk T
      have HR3 := Aside0.mk hr
      have HB3 := Aside0.mk hB
      have HK3 := Aside0.mk (And.intro hsz hbl)
      clear T hr hB hsz hbl
      go_wp2
      go_ret
      refine ⟨.slice (some ⟨b, 0, none⟩) (l.length - 1) c, rfl, FsAt.files (l := l) HT3.out HR3.out HB3.out H2.out.ge, ?_⟩
      refine (K2.out.trans (v1 := .slice (some ⟨b, 0, none⟩) l.length c) ⟨HK3.out.1, fun i hi hg hn => HK3.out.2 i hi (fun e => hn (by rw [e]; rfl))⟩ (.inl rfl)).trans (v1 := .slice (some ⟨b, 0, none⟩) l.length c) (Keeps.setCell _ 0 _) (.inl rfl)
    · rw [if_neg ht]
      have ht := Bool.eq_false_iff.2 ht
      have HT := Aside0.mk ht
      clear ht
      go_enter Try.func57, Try.ntmps57
      go_wp2_with fail
      refine HBC.out.mono ?_
      rintro e w1 ⟨rfl, h1, k1⟩
      obtain ⟨A, c, rfl, hc, hC, hL⟩ := h1.lies
      have HF := Aside0.mk (find_call g A c l q _ s w1 hL hC hl HS.out)
      have H1 := Aside0.mk h1
      have K1 := Aside0.mk (HK0.out.trans k1 (.inl rfl))
      clear h1 k1 hC hL
      go_wp2_with fail
      refine HF.out.mono ?_
      rw [HT.out]
      rintro e w2 ⟨rfl, hb⟩
      go_wp2
      go_ret
      exact ⟨_, rfl, H1.out.below hb, K1.out.trans (Keeps.of_below hb) (.inl rfl)⟩
  · have hop : stepOf f [s] l (removeOp l s) = (l, 8) := by unfold stepOf; rw [h8, if_neg (by omega)]
    rw [hop]
    rw [h8] at hbc
    have HBC := Aside0.mk hbc
    have HK0 := Aside0.mk K0
    clear hbc K0 hb0 hop h8 h hs
    go_enter Try.func57, Try.ntmps57
    go_wp2_with fail
    refine HBC.out.mono ?_
    rintro e w1 ⟨rfl, h1, k1⟩
    go_wp2
    go_ret
    exact ⟨_, rfl, h1, HK0.out.trans k1 (.inl rfl)⟩
  · have hop : stepOf f [s] l (removeOp l s) = (l, 2) := by unfold stepOf; rw [h2, if_neg (by omega)]
    rw [hop]
    rw [h2] at hbc
    have HBC := Aside0.mk hbc
    have HK0 := Aside0.mk K0
    clear hbc K0 hb0 hop h2 h hs
    go_enter Try.func57, Try.ntmps57
    go_wp2_with fail
    refine HBC.out.mono ?_
    rintro e w1 ⟨rfl, h1, k1⟩
    go_wp2
    go_ret
    exact ⟨_, rfl, h1, HK0.out.trans k1 (.inl rfl)⟩
end Go.Proofs.Ytbppijlcmeidaaa.M
end

/- Texts of the claim FnExactFsCrash, part 28 of 33, joined: MWalkValid, MFind, MFsFind, MClone, MBegin, MSync, MRes, MCrash, PimplFsCrash, PlawseqIntS, PlawsmarkText. No condition beyond those that stand at each. -/
import Derived.Test.YtbppijlcmeidaaaZFnExactFsCrash27
import Derived.Deep.QuietTactic
import Derived.BigQuiet
import Derived.WalkLawsBesides
import Derived.WalkSpells
import Derived.Deep.LoopGhost
import Derived.RegionTactic
import Derived.ChangeAlike
import Derived.BigRegion
import Derived.IntWalk
import Derived.Outline
import Derived.Test.YtbppijlcmeidaaaZFnExactFsCrash25
section
/- The program's ValidFS, walked: it answers validB of the directory. Condition: the sizes of the Data add up to a number of 63 bits. -/
namespace Go.Proofs.Ytbppijlcmeidaaa.M
open Go.RowKit Go.Proofs.Ytbppijlcmeidaaa.P Go.Proofs.YtbppijlcmeidaaaW.PrintWords Go.Proofs.YtbppijlcmeidaaaW.PrintLast Go.Proofs.YtbppijlcmeidaaaW.PrintMore
set_option linter.unusedVariables false

theorem dec_size (s : ByteArray) (n : Nat) : decide ((s.size : Int) ≤ (n : Int)) = decide (s.size ≤ n) := by
  by_cases c : s.size ≤ n
  · rw [decide_eq_true c, decide_eq_true (by omega)]
  · rw [decide_eq_false c, decide_eq_false (by omega)]
theorem dec_nat (m n : Nat) : decide ((m : Int) ≤ (n : Int)) = decide (m ≤ n) := by
  by_cases c : m ≤ n
  · rw [decide_eq_true c, decide_eq_true (by omega)]
  · rw [decide_eq_false c, decide_eq_false (by omega)]
theorem ret_bool {a b : Bool} (h : a = b) : Ending.returned (.bool a) = Ending.returned (.bool b) := by rw [h]
theorem nameFine_any (s : ByteArray) (w : World) : Calls Try.prog 44 #[.string s] w fun e w' => e = .returned (.bool (nameOk s)) ∧ w' = w := by
  unfold nameOk
  by_cases c1 : 1 ≤ s.size
  · rw [decide_eq_true c1, Bool.true_and]
    have h1 : decide (1 ≤ s.size) = true := decide_eq_true c1
    go_enter Try.func44, Try.ntmps44
    go_wp2
    go_ret
    exact ⟨ret_bool (dec_size s 120), rfl⟩
  · rw [decide_eq_false c1, Bool.false_and]
    have h1 : decide (1 ≤ s.size) = false := decide_eq_false c1
    go_enter Try.func44, Try.ntmps44
    go_wp2
    go_ret
    exact ⟨rfl, rfl⟩
theorem nameFine_yes (s : ByteArray) (w : World) (h : nameOk s = true) : Calls Try.prog 44 #[.string s] w fun e w' => e = .returned (.bool true) ∧ w' = w := by
  have := nameFine_any s w
  rwa [h] at this
theorem nameFine_no (s : ByteArray) (w : World) (h : nameOk s = false) : Calls Try.prog 44 #[.string s] w fun e w' => e = .returned (.bool false) ∧ w' = w := by
  have := nameFine_any s w
  rwa [h] at this

theorem rdi52 (l : List S52) (i : Int) (h0 : 0 ≤ i) (h : i < (l.length : Int)) : rd_T52 l i = l[i.toNat]'(by omega) := by
  unfold rd_T52; exact getD_at l i.toNat z52 (by omega)
theorem okStep (l : List S52) (i : Int) (h0 : 0 ≤ i) (h : i < (l.length : Int)) : okFrom (prev l i.toNat) (l.drop i.toNat) = (fileOk (rd_T52 l i) && (match prev l i.toNat with | none => true | some b => lss b (rd_T52 l i).f0) && okFrom (prev l (i + 1).toNat) (l.drop (i + 1).toNat)) := by
  rw [rdi52 l i h0 h, drop_at l i.toNat (by omega), okFrom_cons, show (i + 1).toNat = i.toNat + 1 by omega, prev_succ l i.toNat (by omega)]
  cases prev l i.toNat <;> rfl
theorem prev_zero (l : List S52) : prev l 0 = none := rfl
theorem prev_pos (l : List S52) (i : Int) (h0 : 0 < i) (h : i < (l.length : Int)) : prev l i.toNat = some (rd_T52 l (i - 1)).f0 := by
  rw [rdi52 l (i - 1) (by omega) (by omega)]
  unfold prev
  rw [if_neg (by omega), getD_at l (i.toNat - 1) z52 (by omega)]
  congr 3
  omega
theorem total_call (l : List S52) (A : Option Addr) (c : Nat) (q f : Int) (w : World) (hr : Kd.C k52 w A l.length l) (hc : l.length ≤ c) (ht : total l ≤ 9223372036854775000) (hl : l.length ≤ 200) :
    Calls Try.prog 45 #[.agg #[.slice A l.length c, .int .i64 q, .int .i64 f]] w fun e w' => e = .returned (.int .i64 (total l : Int)) ∧ Below w.heap.size w w' := by
  have h : ∀ d i : Nat, i + d = l.length → Ev (fun k => impl_total.l0 k (total (l.take i) : Int) l (l.length : Int) (i : Int)) (total l : Int) := by
    intro d
    induction d with
    | zero =>
      intro i hi
      refine Ev.step (f := fun _ => some (total (l.take i) : Int)) (fun k => ?_) ?_
      · rw [impl_total.l0, if_neg (by omega)]
      · rw [List.take_of_length_le (by omega)]; exact Ev.now _
    | succ d ih =>
      intro i hi
      have hlt : i < l.length := by omega
      have h1 := total_take_succ l i hlt
      have h2 := total_take_le l (i + 1)
      refine Ev.step (fun k => ?_) (ih (i + 1) (by omega))
      rw [impl_total.l0, if_pos (by omega), if_pos (by omega), if_pos (by omega), rd52 l i hlt, wrap_succ (by omega), wrap_ok (by omega) (by omega), h1]
      rfl
  obtain ⟨k, hk⟩ := Ev.rounds (h l.length 0 (by omega))
  exact impl_total.calls k A c l q f (total l : Int) w hr hc hk

/-- What a round of the loop needs of the world. -/
def VInv (w wr : World) (A : Option Addr) (c : Nat) (l : List S52) (q f : Int) : Prop :=
  wr.heap[w.heap.size]? = some (.cells #[.slice A l.length c, .int .i64 q, .int .i64 f] 29 (0, 0)) ∧ Below w.heap.size w wr
theorem vinv_next {w wr : World} {A : Option Addr} {c : Nat} {l : List S52} {q f : Int} (h : VInv w wr A c l q f) (o : Obj) (n : Nat) : VInv w ((wr.alloc o).drewN n) A c l q f :=
  ⟨blk_drewN (blk_alloc h.1 _) _, pw_below_drewN (h.2.alloc h.2.size _) _⟩

set_option maxHeartbeats 4000000 in
set_option maxRecDepth 100000 in
theorem valid_walk (A : Option Addr) (c : Nat) (l : List S52) (q f : Int) (w : World) (hr : Kd.C k52 w A l.length l) (hc : l.length ≤ c) (h1 : l.length ≤ 200) (h2 : 0 ≤ q) (h3 : q ≤ 1048576) (h4 : -1 ≤ f) (ht : total l ≤ 9223372036854775000) :
    Calls Try.prog 15 #[.agg #[.slice A l.length c, .int .i64 q, .int .i64 f]] w fun e w' => e = .returned (.bool (okFrom none l && decide (total l ≤ 1048576))) ∧ Below w.heap.size w w' := by
  have HR := Aside0.mk hr
  have HT := Aside0.mk ht
  clear hr ht
  have hu29 := Try.underlying29
  have hu52 := Try.underlying52
  generalize hVV : (okFrom none l && decide (total l ≤ 1048576)) = VV
  have HVV := Aside0.mk hVV
  clear hVV
  go_enter Try.func15, Try.ntmps15
  go_wp2
  go_loopw [27] (fun v wr => ∃ i : Int, 0 ≤ i ∧ i ≤ (l.length : Int) ∧ v = .int .i64 i ∧ Aside0 (VInv w wr A c l q f) ∧ Aside0 (VV = (okFrom (prev l i.toNat) (l.drop i.toNat) && decide (total l ≤ 1048576)))) (fun v _ => l.length - (intOf v).toNat)
  case atStart => exact ⟨0, by omega, by omega, rfl, ⟨heap_alloc_new _ _, (Below.refl _ _).alloc (Nat.le_refl _) _⟩, ⟨HVV.out.symm⟩⟩
  case round =>
    obtain ⟨i, hi0, hi1, rfl, HI, HV⟩ := hrel
    by_cases hlt : i < (l.length : Int)
    · obtain ⟨ad, hA, hx0, hx1, hx2⟩ := at_T52 HR.out i hi0 hlt
      have hx0 := (HI.out.2.cell (World.block_lt_of_cell? w _ hx0)).trans hx0
      have hx1 := (HI.out.2.cell (World.block_lt_of_cell? w _ hx1)).trans hx1
      have hx2 := (HI.out.2.cell (World.block_lt_of_cell? w _ hx2)).trans hx2
      subst hA
      have hb0 : wr.cell? ⟨w.heap.size, 0, none⟩ = some (.slice (some ad) l.length c) := (blk_cell HI.out.1 0).trans rfl
      have hlt' := decide_eq_true hlt
      have HS := Aside0.mk (okStep l i hi0 hlt)
      by_cases n1 : nameOk (rd_T52 l i).f0 = true
      · have N1 := Aside0.mk n1
        clear n1
        by_cases z : i = 0
        · have hz : decide (0 < i) = false := decide_eq_false (by omega)
          have HP := Aside0.mk (show prev l i.toNat = none by rw [z]; rfl)
          clear z
          by_cases s1 : (rd_T52 l i).f2 < 0
          · have hs1 := decide_eq_true s1
            have F := Aside0.mk (show VV = false by rw [HV.out, HS.out]; unfold fileOk; rw [decide_eq_false (show ¬ 0 ≤ (rd_T52 l i).f2 by omega), Bool.and_false, Bool.false_and, Bool.false_and, Bool.false_and, Bool.false_and])
            clear s1
            go_wp2
            go_quiet ((go_at_call 44; exact Calls.quiet_of_same (nameFine_yes _ _ N1.out)))
            go_wp2
            go_ret
            exact ⟨ret_bool F.out.symm, (vinv_next HI.out _ _).2⟩
          · have hs1 : decide ((rd_T52 l i).f2 < 0) = false := decide_eq_false s1
            by_cases s2 : ((rd_T52 l i).f1.size : Int) < (rd_T52 l i).f2
            · have hs2 := decide_eq_true s2
              have F := Aside0.mk (show VV = false by rw [HV.out, HS.out]; unfold fileOk; rw [decide_eq_false (show ¬ (rd_T52 l i).f2 ≤ ((rd_T52 l i).f1.size : Int) by omega), Bool.and_false, Bool.false_and, Bool.false_and, Bool.false_and])
              clear s1 s2
              go_wp2
              go_quiet ((go_at_call 44; exact Calls.quiet_of_same (nameFine_yes _ _ N1.out)))
              go_wp2
              go_ret
              exact ⟨ret_bool F.out.symm, (vinv_next HI.out _ _).2⟩
            · have hs2 : decide (((rd_T52 l i).f1.size : Int) < (rd_T52 l i).f2) = false := decide_eq_false s2
              have F := Aside0.mk (show VV = (okFrom (prev l (i + 1).toNat) (l.drop (i + 1).toNat) && decide (total l ≤ 1048576)) by rw [HV.out, HS.out, HP.out]; unfold fileOk; rw [N1.out, decide_eq_true (show 0 ≤ (rd_T52 l i).f2 by omega), decide_eq_true (show (rd_T52 l i).f2 ≤ ((rd_T52 l i).f1.size : Int) by omega)]; rfl)
              clear s1 s2
              go_wp2
              go_quiet ((go_at_call 44; exact Calls.quiet_of_same (nameFine_yes _ _ N1.out)))
              go_wp2
              go_roundw
              case rel => exact ⟨i + 1, by omega, by omega, rfl, ⟨vinv_next HI.out _ _⟩, F⟩
              case measure => simp [intOf]; omega
        · have hz : decide (0 < i) = true := decide_eq_true (by omega)
          have HP := Aside0.mk (prev_pos l i (by omega) hlt)
          have hj0 : 0 ≤ i - 1 := by omega
          have hj1 : i - 1 < (l.length : Int) := by omega
          have hj2 : 1 ≤ i := by omega
          have hw : IntKind.i64.wrap (i - 1) = i - 1 := IntWalk.i64_in _ (by omega)
          obtain ⟨ad', hA', hy0, _, _⟩ := at_T52 HR.out (i - 1) hj0 hj1
          have hy0 := (HI.out.2.cell (World.block_lt_of_cell? w _ hy0)).trans hy0
          obtain rfl := Option.some.inj hA'
          clear hA'
          rw [show (i - 1).toNat = i.toNat - 1 by omega] at hy0
          have hy0 : ∀ o, (wr.alloc o).cell? (ad.add ((i.toNat - 1) * 3)) = some (.string (rd_T52 l (i - 1)).f0) := fun o => (World.cell?_alloc_lt _ _ _ (World.block_lt_of_cell? wr _ hy0)).trans hy0
          have hb1 : ∀ o, (wr.alloc o).cell? ⟨w.heap.size, 0, none⟩ = some (.slice (some ad) l.length c) := fun o => (World.cell?_alloc_lt _ _ _ (World.block_lt_of_cell? wr _ hb0)).trans hb0
          by_cases g : lss (rd_T52 l (i - 1)).f0 (rd_T52 l i).f0 = true
          · have hg : Op.bytesLess (rd_T52 l (i - 1)).f0.toList (rd_T52 l i).f0.toList = true := g
            have G := Aside0.mk g
            clear g
            by_cases s1 : (rd_T52 l i).f2 < 0
            · have hs1 := decide_eq_true s1
              have F := Aside0.mk (show VV = false by rw [HV.out, HS.out]; unfold fileOk; rw [decide_eq_false (show ¬ 0 ≤ (rd_T52 l i).f2 by omega), Bool.and_false, Bool.false_and, Bool.false_and, Bool.false_and, Bool.false_and])
              clear s1
              go_wp2
              go_quiet ((go_at_call 44; exact Calls.quiet_of_same (nameFine_yes _ _ N1.out)))
              go_wp2
              go_ret
              exact ⟨ret_bool F.out.symm, (vinv_next HI.out _ _).2⟩
            · have hs1 : decide ((rd_T52 l i).f2 < 0) = false := decide_eq_false s1
              by_cases s2 : ((rd_T52 l i).f1.size : Int) < (rd_T52 l i).f2
              · have hs2 := decide_eq_true s2
                have F := Aside0.mk (show VV = false by rw [HV.out, HS.out]; unfold fileOk; rw [decide_eq_false (show ¬ (rd_T52 l i).f2 ≤ ((rd_T52 l i).f1.size : Int) by omega), Bool.and_false, Bool.false_and, Bool.false_and, Bool.false_and])
                clear s1 s2
                go_wp2
                go_quiet ((go_at_call 44; exact Calls.quiet_of_same (nameFine_yes _ _ N1.out)))
                go_wp2
                go_ret
                exact ⟨ret_bool F.out.symm, (vinv_next HI.out _ _).2⟩
              · have hs2 : decide (((rd_T52 l i).f1.size : Int) < (rd_T52 l i).f2) = false := decide_eq_false s2
                have F := Aside0.mk (show VV = (okFrom (prev l (i + 1).toNat) (l.drop (i + 1).toNat) && decide (total l ≤ 1048576)) by
                  rw [HV.out, HS.out, HP.out]
                  show ((fileOk _ && lss _ _ && _) && _) = _
                  unfold fileOk
                  rw [G.out, N1.out, decide_eq_true (show 0 ≤ (rd_T52 l i).f2 by omega), decide_eq_true (show (rd_T52 l i).f2 ≤ ((rd_T52 l i).f1.size : Int) by omega)]
                  rfl)
                clear s1 s2
                go_wp2
                go_quiet ((go_at_call 44; exact Calls.quiet_of_same (nameFine_yes _ _ N1.out)))
                go_wp2
                go_roundw
                case rel => exact ⟨i + 1, by omega, by omega, rfl, ⟨vinv_next HI.out _ _⟩, F⟩
                case measure => simp [intOf]; omega
          · have hg : Op.bytesLess (rd_T52 l (i - 1)).f0.toList (rd_T52 l i).f0.toList = false := Bool.eq_false_iff.2 g
            have F := Aside0.mk (show VV = false by
              rw [HV.out, HS.out, HP.out]
              show ((_ && lss _ _ && _) && _) = _
              rw [Bool.eq_false_iff.2 g, Bool.and_false, Bool.false_and, Bool.false_and])
            clear g
            go_wp2
            go_quiet ((go_at_call 44; exact Calls.quiet_of_same (nameFine_yes _ _ N1.out)))
            go_wp2
            go_ret
            exact ⟨ret_bool F.out.symm, (vinv_next HI.out _ _).2⟩
      · have n1 : nameOk (rd_T52 l i).f0 = false := Bool.eq_false_iff.2 n1
        have F := Aside0.mk (show VV = false by rw [HV.out, HS.out]; unfold fileOk; rw [n1]; simp)
        have N1 := Aside0.mk n1
        clear n1
        go_wp2
        go_quiet ((go_at_call 44; exact Calls.quiet_of_same (nameFine_no _ _ N1.out)))
        go_wp2
        go_ret
        exact ⟨ret_bool F.out.symm, (vinv_next HI.out _ _).2⟩
    · have hi : i = l.length := by omega
      have F := Aside0.mk (show VV = decide (total l ≤ 1048576) by rw [HV.out, hi, Int.toNat_natCast, List.drop_length]; cases prev l l.length <;> simp [okFrom])
      have hlt' : decide (i < (l.length : Int)) = false := decide_eq_false hlt
      have hb0 : wr.cell? ⟨w.heap.size, 0, none⟩ = some (.slice A l.length c) := (blk_cell HI.out.1 0).trans rfl
      have hb1 : wr.cell? ⟨w.heap.size, 1, none⟩ = some (.int .i64 q) := (blk_cell HI.out.1 1).trans rfl
      have hb2 : wr.cell? ⟨w.heap.size, 2, none⟩ = some (.int .i64 f) := (blk_cell HI.out.1 2).trans rfl
      have HC := Aside0.mk (total_call l A c q f wr (Kd.C_below HR.out HI.out.2) hc HT.out h1)
      clear hi
      go_wp2_with (go_at_call 45; refine HC.out.mono ?_; rintro e w' ⟨rfl, hb⟩)
      go_ret
      exact ⟨by rw [F.out]; exact ret_bool (dec_nat _ 1048576), HI.out.2.trans (hb.mono HI.out.2.size)⟩

def ValidFits (l : List S52) : Prop := l.length ≤ 200 → total l ≤ 9223372036854775000
set_option maxHeartbeats 2000000 in
set_option maxRecDepth 100000 in
theorem valid_any (A : Option Addr) (c : Nat) (l : List S52) (q f : Int) (w : World) (hr : Kd.C k52 w A l.length l) (hc : l.length ≤ c) (ht : ValidFits l) :
    Calls Try.prog 15 #[.agg #[.slice A l.length c, .int .i64 q, .int .i64 f]] w fun e w' => e = .returned (.bool (validB l q f)) ∧ Below w.heap.size w w' := by
  unfold validB
  by_cases c1 : l.length ≤ 200
  · by_cases c2 : 0 ≤ q
    · by_cases c3 : q ≤ 1048576
      · by_cases c4 : -1 ≤ f
        · rw [decide_eq_true c1, decide_eq_true c2, decide_eq_true c3, decide_eq_true c4, Bool.true_and, Bool.true_and, Bool.true_and, Bool.true_and]
          exact valid_walk A c l q f w hr hc c1 c2 c3 c4 (ht c1)
        · rw [decide_eq_false c4, Bool.and_false, Bool.false_and, Bool.false_and]
          have g1 : decide (200 < (l.length : Int)) = false := decide_eq_false (by omega)
          have g1' : decide (200 < l.length) = false := decide_eq_false (by omega)
          have g2 : decide (q < 0) = false := decide_eq_false (by omega)
          have g3 : decide (1048576 < q) = false := decide_eq_false (by omega)
          have g4 : decide (f < -1) = true := decide_eq_true (by omega)
          clear c1 c2 c3 c4 hr ht
          go_enter Try.func15, Try.ntmps15
          go_wp2
          go_ret
          exact ⟨rfl, (Below.refl _ _).alloc (Nat.le_refl _) _⟩
      · rw [decide_eq_false c3, Bool.and_false, Bool.false_and, Bool.false_and, Bool.false_and]
        have g1 : decide (200 < (l.length : Int)) = false := decide_eq_false (by omega)
        have g1' : decide (200 < l.length) = false := decide_eq_false (by omega)
        have g2 : decide (q < 0) = false := decide_eq_false (by omega)
        have g3 : decide (1048576 < q) = true := decide_eq_true (by omega)
        clear c1 c2 c3 hr ht
        go_enter Try.func15, Try.ntmps15
        go_wp2
        go_ret
        exact ⟨rfl, (Below.refl _ _).alloc (Nat.le_refl _) _⟩
    · rw [decide_eq_false c2, Bool.and_false, Bool.false_and, Bool.false_and, Bool.false_and, Bool.false_and]
      have g1 : decide (200 < (l.length : Int)) = false := decide_eq_false (by omega)
      have g1' : decide (200 < l.length) = false := decide_eq_false (by omega)
      have g2 : decide (q < 0) = true := decide_eq_true (by omega)
      clear c1 c2 hr ht
      go_enter Try.func15, Try.ntmps15
      go_wp2
      go_ret
      exact ⟨rfl, (Below.refl _ _).alloc (Nat.le_refl _) _⟩
  · rw [decide_eq_false c1, Bool.false_and, Bool.false_and, Bool.false_and, Bool.false_and, Bool.false_and]
    have g1 : decide (200 < (l.length : Int)) = true := decide_eq_true (by omega)
    have g1' : decide (200 < l.length) = true := decide_eq_true (by omega)
    clear c1 hr ht
    go_enter Try.func15, Try.ntmps15
    go_wp2
    go_ret
    exact ⟨rfl, (Below.refl _ _).alloc (Nat.le_refl _) _⟩
end Go.Proofs.Ytbppijlcmeidaaa.M
end
section
/- The search in a directory, walked: where a name stands in files that are in order, or would stand, and whether it is there. Condition: the files are in order, at most 200. -/
namespace Go.Proofs.Ytbppijlcmeidaaa.M
open Go.RowKit Go.Proofs.Ytbppijlcmeidaaa.P Go.Proofs.YtbppijlcmeidaaaW.PrintWords Go.Proofs.YtbppijlcmeidaaaW.PrintLast Go.Proofs.YtbppijlcmeidaaaW.PrintMore
set_option linter.unusedVariables false

def cmp3 (a b : ByteArray) : Int := if lss a b = true then -1 else if lss b a = true then 1 else 0
theorem ret_tuple2 {a a' b b' : Value} (h1 : a = a') (h2 : b = b') : Ending.returned (.tuple #[a, b]) = Ending.returned (.tuple #[a', b']) := by rw [h1, h2]
theorem beq_of_lss {a b : ByteArray} (h1 : lss a b = false) (h2 : lss b a = false) : (a.toList == b.toList) = true := by
  rw [lss_total h1 h2]; simp
theorem beq_of_lss' {a b : ByteArray} (h2 : lss b a = true) : (a.toList == b.toList) = false := by
  rw [beq_eq_false_iff_ne]
  intro h
  rw [toList_inj h, lss_irrefl] at h2
  cases h2

set_option maxHeartbeats 1000000 in
theorem cmp_any (x0 x1 s : ByteArray) (x2 : Int) (w : World) : Calls Try.prog 85 #[.agg #[.string x0, .string x1, .int .i64 x2], .string s] w fun e w' => e = .returned (.int .i64 (cmp3 x0 s)) ∧ Below w.heap.size w w' := by
  have hu52 := Try.underlying52
  unfold cmp3
  by_cases c1 : lss x0 s = true
  · rw [if_pos c1]
    have h1 : Op.bytesLess x0.toList s.toList = true := c1
    clear c1
    go_enter Try.func85, Try.ntmps85
    go_wp2
    go_ret
    exact ⟨rfl, (Below.refl _ _).alloc (Nat.le_refl _) _⟩
  · have c1 := Bool.eq_false_iff.2 c1
    rw [if_neg (by rw [c1]; simp)]
    have h1 : Op.bytesLess x0.toList s.toList = false := c1
    by_cases c2 : lss s x0 = true
    · rw [if_pos c2]
      have h2 := beq_of_lss' c2
      clear c1 c2
      go_enter Try.func85, Try.ntmps85
      go_wp2
      go_ret
      exact ⟨rfl, (Below.refl _ _).alloc (Nat.le_refl _) _⟩
    · have c2 := Bool.eq_false_iff.2 c2
      rw [if_neg (by rw [c2]; simp)]
      have h2 := beq_of_lss c1 c2
      clear c1 c2
      go_enter Try.func85, Try.ntmps85
      go_wp2
      go_ret
      exact ⟨rfl, (Below.refl _ _).alloc (Nat.le_refl _) _⟩

/-! ### In order -/
def Sorted (l : List S52) : Prop := ∀ i j : Nat, i < j → j < l.length → lss (rd_T52 l (i : Int)).f0 (rd_T52 l (j : Int)).f0 = true
def pos (l : List S52) (s : ByteArray) : Nat := l.countP fun x => lss x.f0 s
def there (l : List S52) (s : ByteArray) : Bool := decide (pos l s < l.length) && decide (cmp3 (rd_T52 l (pos l s : Int)).f0 s = 0)
theorem countP_boundary {α : Type} (p : α → Bool) : ∀ (l : List α) (i : Nat), i ≤ l.length → (∀ t x, l[t]? = some x → t < i → p x = true) → (∀ t x, l[t]? = some x → i ≤ t → p x = false) → l.countP p = i
  | [], i, hi, _, _ => by simp at hi; simp [hi]
  | a :: r, 0, _, _, h2 => by
    rw [List.countP_eq_zero]
    intro x hx
    obtain ⟨t, ht⟩ := List.getElem?_of_mem hx
    rw [h2 t x ht (Nat.zero_le _)]
    simp
  | a :: r, i + 1, hi, h1, h2 => by
    have ha : p a = true := h1 0 a rfl (by omega)
    rw [List.countP_cons_of_pos ha, countP_boundary p r i (by simpa using hi) (fun t x h ht => h1 (t + 1) x (by simpa using h) (by omega)) (fun t x h ht => h2 (t + 1) x (by simpa using h) (by omega))]
theorem pos_eq (l : List S52) (s : ByteArray) (i : Nat) (hi : i ≤ l.length) (h1 : ∀ t : Nat, t < i → lss (rd_T52 l (t : Int)).f0 s = true) (h2 : ∀ t : Nat, i ≤ t → t < l.length → lss (rd_T52 l (t : Int)).f0 s = false) : pos l s = i := by
  refine countP_boundary _ l i hi (fun t x h ht => ?_) (fun t x h ht => ?_)
  · obtain ⟨hlt, rfl⟩ := List.getElem?_eq_some_iff.1 h
    have := h1 t ht
    rwa [rd52 l t hlt] at this
  · obtain ⟨hlt, rfl⟩ := List.getElem?_eq_some_iff.1 h
    have := h2 t ht hlt
    rwa [rd52 l t hlt] at this

set_option maxHeartbeats 4000000 in
set_option maxRecDepth 100000 in
theorem search_walk (A : Option Addr) (c : Nat) (l : List S52) (s : ByteArray) (w : World) (hr : Kd.C k52 w A l.length l) (hl : l.length ≤ 200) (hs : Sorted l) :
    Calls Try.prog 84 #[.slice A l.length c, .string s, .func (.func 85) #[] #[]] w fun e w' => e = .returned (.tuple #[.int .i64 (pos l s : Int), .bool (there l s)]) ∧ Below w.heap.size w w' := by
  have HR := Aside0.mk hr
  have HS := Aside0.mk hs
  have hu52 := Try.underlying52
  clear hr hs
  generalize hP : pos l s = P
  generalize hT : there l s = T
  have HP := Aside0.mk hP
  have HT := Aside0.mk hT
  clear hP hT
  go_enter Try.func84, Try.ntmps84
  go_wp2
  go_loopg [9, 10] l.length (fun kx v9 v10 wr => ∃ lo hi : Nat, v9 = .int .i64 lo ∧ v10 = .int .i64 hi ∧ lo ≤ hi ∧ hi ≤ l.length ∧ hi - lo ≤ kx ∧ Aside0 (Below w.heap.size w wr) ∧
    Aside0 ((∀ t : Nat, t < lo → lss (rd_T52 l (t : Int)).f0 s = true) ∧ (∀ t : Nat, hi ≤ t → t < l.length → lss (rd_T52 l (t : Int)).f0 s = false)))
  case atStart => exact ⟨0, l.length, rfl, rfl, Nat.zero_le _, Nat.le_refl _, by omega, ⟨Below.refl _ _⟩, ⟨fun t ht => absurd ht (Nat.not_lt_zero _), fun t h1 h2 => absurd h1 (by omega)⟩⟩
  case round =>
    obtain ⟨lo, hi, rfl, rfl, hlh, hin, hg, HB, HI⟩ := hrel
    by_cases hlt : lo < hi
    · obtain ⟨ad, hA, hx0, hx1, hx2⟩ := at_T52 HR.out (((lo + hi) / 2 : Nat) : Int) (by omega) (by omega)
      have hx0 := (HB.out.cell (World.block_lt_of_cell? w _ hx0)).trans hx0
      have hx1 := (HB.out.cell (World.block_lt_of_cell? w _ hx1)).trans hx1
      have hx2 := (HB.out.cell (World.block_lt_of_cell? w _ hx2)).trans hx2
      rw [Int.toNat_natCast] at hx0 hx1 hx2
      subst hA
      generalize hy : rd_T52 l (((lo + hi) / 2 : Nat) : Int) = y at hx0 hx1 hx2
      have Y := Aside0.mk hy
      clear hy
      have hc := cmp_any y.f0 y.f1 s y.f2 wr
      by_cases hyx : lss y.f0 s = true
      · have e : cmp3 y.f0 s = -1 := by unfold cmp3; rw [if_pos hyx]
        rw [e] at hc
        have HC := Aside0.mk hc
        have HX := Aside0.mk hyx
        clear hc hyx e
        go_wp2_with (go_at_call 85; refine HC.out.mono ?_; rintro e w' ⟨rfl, hb⟩)
        go_roundg (hi - ((lo + hi) / 2 + 1))
        case measure => omega
        case rel =>
          have HB2 := below_then HB.out HB.out.size hb
          have I2 : Aside0 ((∀ t : Nat, t < (lo + hi) / 2 + 1 → lss (rd_T52 l (t : Int)).f0 s = true) ∧ (∀ t : Nat, hi ≤ t → t < l.length → lss (rd_T52 l (t : Int)).f0 s = false)) := ⟨fun t ht => by
              rcases Nat.lt_or_ge t ((lo + hi) / 2) with h | h
              · exact lss_trans (HS.out t ((lo + hi) / 2) h (by omega)) (by rw [Y.out]; exact HX.out)
              · have : t = (lo + hi) / 2 := by omega
                rw [this, Y.out]; exact HX.out, HI.out.2⟩
          exact ⟨(lo + hi) / 2 + 1, hi, by rw [show ((lo : Int) + (hi : Int)) / 2 + 1 = (((lo + hi) / 2 + 1 : Nat) : Int) by omega], rfl, by omega, hin, Nat.le_refl _, ⟨HB2⟩, I2⟩
      · have hyx := Bool.eq_false_iff.2 hyx
        have e : ¬ cmp3 y.f0 s < 0 := by unfold cmp3; rw [if_neg (by rw [hyx]; simp)]; split <;> omega
        have e2 : decide (cmp3 y.f0 s < 0) = false := decide_eq_false e
        generalize cmp3 y.f0 s = z at hc e e2
        have HC := Aside0.mk hc
        have HX := Aside0.mk hyx
        clear hc hyx e
        go_wp2_with (go_at_call 85; refine HC.out.mono ?_; rintro e w' ⟨rfl, hb⟩)
        go_roundg ((lo + hi) / 2 - lo)
        case measure => omega
        case rel =>
          have HB2 := below_then HB.out HB.out.size hb
          have I2 : Aside0 ((∀ t : Nat, t < lo → lss (rd_T52 l (t : Int)).f0 s = true) ∧ (∀ t : Nat, (lo + hi) / 2 ≤ t → t < l.length → lss (rd_T52 l (t : Int)).f0 s = false)) := ⟨HI.out.1, fun t ht h2 => by
              rcases Nat.eq_or_lt_of_le ht with h | h
              · rw [← h, Y.out]; exact HX.out
              · cases hh : lss (rd_T52 l (t : Int)).f0 s with
                | false => rfl
                | true =>
                  have := lss_trans (HS.out ((lo + hi) / 2) t h h2) hh
                  rw [Y.out, HX.out] at this
                  cases this⟩
          exact ⟨lo, (lo + hi) / 2, rfl, by rw [show ((lo : Int) + (hi : Int)) / 2 = (((lo + hi) / 2 : Nat) : Int) by omega], by omega, by omega, Nat.le_refl _, ⟨HB2⟩, I2⟩
    · obtain rfl : hi = lo := by omega
      have E := Aside0.mk (pos_eq l s hi hin HI.out.1 HI.out.2)
      have hPP : P = hi := HP.out.symm.trans E.out
      have hT : T = (decide (hi < l.length) && decide (cmp3 (rd_T52 l (hi : Int)).f0 s = 0)) := by rw [← HT.out]; unfold there; rw [E.out]
      have PP := Aside0.mk hPP
      have TT := Aside0.mk hT
      clear hPP hT
      by_cases hn : hi < l.length
      · obtain ⟨ad, hA, hx0, hx1, hx2⟩ := at_T52 HR.out (hi : Int) (by omega) (by omega)
        have hx0 := (HB.out.cell (World.block_lt_of_cell? w _ hx0)).trans hx0
        have hx1 := (HB.out.cell (World.block_lt_of_cell? w _ hx1)).trans hx1
        have hx2 := (HB.out.cell (World.block_lt_of_cell? w _ hx2)).trans hx2
        rw [Int.toNat_natCast] at hx0 hx1 hx2
        subst hA
        have hn' := decide_eq_true hn
        generalize hy : rd_T52 l (hi : Int) = y at hx0 hx1 hx2
        have Y := Aside0.mk hy
        clear hy
        have hc := cmp_any y.f0 y.f1 s y.f2 wr
        have F := Aside0.mk (show T = decide (cmp3 y.f0 s = 0) by rw [TT.out, hn', Bool.true_and, Y.out])
        generalize hz : cmp3 y.f0 s = z at hc
        have HZ := Aside0.mk hz
        have HC := Aside0.mk hc
        clear hc hz
        by_cases z0 : z = 0
        · have hz0 : (z == 0) = true := by rw [z0]; rfl
          have Z0 := Aside0.mk z0
          clear z0
          go_wp2_with (go_at_call 85; refine HC.out.mono ?_; rintro e w' ⟨rfl, hb⟩)
          go_ret2
          exact ⟨by rw [PP.out, F.out, HZ.out, decide_eq_true Z0.out]; rfl, below_then HB.out HB.out.size hb⟩
        · have hz0 : (z == 0) = false := beq_eq_false_iff_ne.2 z0
          have Z0 := Aside0.mk z0
          clear z0
          go_wp2_with (go_at_call 85; refine HC.out.mono ?_; rintro e w' ⟨rfl, hb⟩)
          go_ret2
          exact ⟨by rw [PP.out, F.out, HZ.out, decide_eq_false Z0.out]; rfl, below_then HB.out HB.out.size hb⟩
      · have F := Aside0.mk (show T = false by rw [TT.out, decide_eq_false hn, Bool.false_and])
        have hn' : decide (hi < l.length) = false := decide_eq_false hn
        go_wp2
        go_ret2
        exact ⟨by rw [PP.out, F.out]; rfl, HB.out⟩
end Go.Proofs.Ytbppijlcmeidaaa.M
end
section
/- The program's find, read and FsFind, walked. Condition: the sizes of the Data add up to a number of 63 bits. -/
namespace Go.Proofs.Ytbppijlcmeidaaa.M
open Go.RowKit Go.Proofs.Ytbppijlcmeidaaa.P Go.Proofs.YtbppijlcmeidaaaW.PrintWords Go.Proofs.YtbppijlcmeidaaaW.PrintLast Go.Proofs.YtbppijlcmeidaaaW.PrintMore
set_option linter.unusedVariables false

/-- A directory that lies at block g. -/
def Lies (w : World) (g : Nat) (A : Option Addr) (c : Nat) (l : List S52) (q f : Int) : Prop := w.heap[g]? = some (.cells #[.slice A l.length c, .int .i64 q, .int .i64 f] 29 (0, 0))
theorem lies_below {w w1 : World} {g : Nat} {A : Option Addr} {c : Nat} {l : List S52} {q f : Int} (h : Lies w g A c l q f) (hb : Below w.heap.size w w1) : Lies w1 g A c l q f := (hb.block g (blk_lt h)).trans h

set_option maxRecDepth 100000 in
set_option maxHeartbeats 1000000 in
theorem find_call (g : Nat) (A : Option Addr) (c : Nat) (l : List S52) (q f : Int) (s : ByteArray) (w : World) (hg : Lies w g A c l q f) (hr : Kd.C k52 w A l.length l) (hl : l.length ≤ 200) (hs : Sorted l) :
    Calls Try.prog 74 #[.pointer (some ⟨g, 0, none⟩), .string s] w fun e w' => e = .returned (.tuple #[.int .i64 (pos l s : Int), .bool (there l s)]) ∧ Below w.heap.size w w' := by
  have hb0 : w.cell? ⟨g, 0, none⟩ = some (.slice A l.length c) := (blk_cell hg 0).trans rfl
  have HC := Aside0.mk (search_walk A c l s w hr hl hs)
  have hu29 := Try.underlying29
  clear hr hs hg
  go_enter Try.func74, Try.ntmps74
  go_wp2_with (go_at_call 84; refine HC.out.mono ?_; rintro e w' ⟨rfl, hb⟩)
  go_ret2
  exact ⟨rfl, hb⟩

def dataAt (l : List S52) (s : ByteArray) : ByteArray := if there l s = true then (rd_T52 l (pos l s : Int)).f1 else ⟨#[]⟩
theorem there_lt {l : List S52} {s : ByteArray} (h : there l s = true) : pos l s < l.length := by
  unfold there at h
  simp only [Bool.and_eq_true, decide_eq_true_eq] at h
  exact h.1

set_option maxRecDepth 100000 in
set_option maxHeartbeats 1000000 in
theorem read_call (g : Nat) (A : Option Addr) (c : Nat) (l : List S52) (q f : Int) (s : ByteArray) (w : World) (hg : Lies w g A c l q f) (hr : Kd.C k52 w A l.length l) (hl : l.length ≤ 200) (hs : Sorted l) :
    Calls Try.prog 48 #[.pointer (some ⟨g, 0, none⟩), .string s] w fun e w' => e = .returned (.tuple #[.string (dataAt l s), .bool (there l s)]) ∧ Below w.heap.size w w' := by
  have hc := find_call g A c l q f s w hg hr hl hs
  have hu29 := Try.underlying29
  have hu52 := Try.underlying52
  have HG := Aside0.mk hg
  have HR := Aside0.mk hr
  unfold dataAt
  by_cases ht : there l s = true
  · have hlt := there_lt ht
    rw [ht] at hc
    rw [if_pos ht, ht]
    obtain ⟨ad, hA, hx0, hx1, hx2⟩ := at_T52 hr (pos l s : Int) (by omega) (by omega)
    rw [Int.toNat_natCast] at hx1
    generalize (rd_T52 l (pos l s : Int)).f1 = d at hx1
    have hlt' : ((pos l s : Nat) : Int) < (l.length : Int) := by omega
    generalize pos l s = p at hc hx1 hlt hlt'
    subst hA
    have HC := Aside0.mk hc
    have HX := Aside0.mk hx1
    clear hc hx0 hx1 hx2 hg hr hs ht
    go_enter Try.func48, Try.ntmps48
    go_wp2_with fail
    refine HC.out.mono ?_
    rintro e w' ⟨rfl, hb⟩
    have hb0 : w'.cell? ⟨g, 0, none⟩ = some (.slice (some ad) l.length c) := (blk_cell (lies_below HG.out hb) 0).trans rfl
    have hb1 := (hb.cell (World.block_lt_of_cell? w _ HX.out)).trans HX.out
    go_wp2
    go_ret2
    exact ⟨rfl, hb⟩
  · have ht := Bool.eq_false_iff.2 ht
    rw [if_neg (by rw [ht]; simp)]
    rw [ht] at hc ⊢
    have HC := Aside0.mk hc
    clear hc hg hr hs ht
    go_enter Try.func48, Try.ntmps48
    go_wp2_with fail
    refine HC.out.mono ?_
    rintro e w' ⟨rfl, hb⟩
    go_wp2
    go_ret2
    exact ⟨rfl, hb⟩

/-! ### What a valid directory says -/
theorem okFrom_step {p : Option ByteArray} {x : S52} {r : List S52} (h : okFrom p (x :: r) = true) : fileOk x = true ∧ (∀ b, p = some b → lss b x.f0 = true) ∧ okFrom (some x.f0) r = true := by
  rw [okFrom_cons] at h
  simp only [Bool.and_eq_true] at h
  refine ⟨h.1.1, fun b hb => ?_, h.2⟩
  subst hb
  exact h.1.2
theorem okFrom_all : ∀ {l : List S52} {p : Option ByteArray}, okFrom p l = true → (∀ x ∈ l, fileOk x = true) ∧ (∀ b, p = some b → ∀ x ∈ l, lss b x.f0 = true) ∧ l.Pairwise (fun x y => lss x.f0 y.f0 = true)
  | [], _, _ => ⟨fun x hx => by simp at hx, fun _ _ x hx => by simp at hx, List.Pairwise.nil⟩
  | x :: r, p, h => by
    obtain ⟨h1, h2, h3⟩ := okFrom_step h
    obtain ⟨g1, g2, g3⟩ := okFrom_all h3
    have g2 := g2 x.f0 rfl
    refine ⟨fun y hy => ?_, fun b hb y hy => ?_, List.Pairwise.cons g2 g3⟩
    · rcases List.mem_cons.1 hy with rfl | hy
      · exact h1
      · exact g1 y hy
    · rcases List.mem_cons.1 hy with rfl | hy
      · exact h2 b hb
      · exact lss_trans (h2 b hb) (g2 y hy)
theorem valid_parts {l : List S52} {q f : Int} (h : validB l q f = true) : l.length ≤ 200 ∧ 0 ≤ q ∧ q ≤ 1048576 ∧ -1 ≤ f ∧ okFrom none l = true ∧ total l ≤ 1048576 := by
  unfold validB at h
  simp only [Bool.and_eq_true, decide_eq_true_eq] at h
  obtain ⟨⟨⟨⟨⟨h1, h2⟩, h3⟩, h4⟩, h5⟩, h6⟩ := h
  exact ⟨h1, h2, h3, h4, h5, h6⟩
theorem sorted_of {l : List S52} (h : l.Pairwise (fun x y => lss x.f0 y.f0 = true)) : Sorted l := by
  intro i j hij hj
  rw [rd52 l i (by omega), rd52 l j hj]
  exact List.pairwise_iff_getElem.1 h i j (by omega) hj hij
theorem valid_sorted {l : List S52} {q f : Int} (h : validB l q f = true) : Sorted l := sorted_of (okFrom_all (valid_parts h).2.2.2.2.1).2.2

def fsFind (l : List S52) (q f : Int) (s : ByteArray) : ByteArray × Bool := if validB l q f = true then (dataAt l s, there l s) else (⟨#[]⟩, false)
set_option maxRecDepth 100000 in
set_option maxHeartbeats 1000000 in
theorem fsFind_call (A : Option Addr) (c : Nat) (l : List S52) (q f : Int) (s : ByteArray) (w : World) (hr : Kd.C k52 w A l.length l) (hc : l.length ≤ c) (ht : ValidFits l) :
    Calls Try.prog 18 #[.agg #[.slice A l.length c, .int .i64 q, .int .i64 f], .string s] w fun e w' => e = .returned (.tuple #[.string (fsFind l q f s).1, .bool (fsFind l q f s).2]) ∧ Below w.heap.size w w' := by
  have hu29 := Try.underlying29
  have HR := Aside0.mk hr
  have b0 : Below w.heap.size w (w.alloc (.cells #[.slice A l.length c, .int .i64 q, .int .i64 f] 29)) := (Below.refl _ _).alloc (Nat.le_refl _) _
  have hv := valid_any A c l q f (w.alloc (.cells #[.slice A l.length c, .int .i64 q, .int .i64 f] 29)) (Kd.C_below hr b0) hc ht
  unfold fsFind
  by_cases h : validB l q f = true
  · rw [if_pos h]
    rw [h] at hv
    have HV := Aside0.mk hv
    have HL := Aside0.mk h
    clear hv hr hc ht h
    go_enter Try.func18, Try.ntmps18
    go_wp2_with fail
    refine HV.out.mono ?_
    rintro e w' ⟨rfl, hb⟩
    have HB := Aside0.mk (b0.trans (hb.mono (by simp)))
    have HG := Aside0.mk (show Lies w' w.heap.size A c l q f from (hb.block _ (by simp)).trans (heap_alloc_new _ _))
    have HC := Aside0.mk (read_call w.heap.size A c l q f s w' HG.out (Kd.C_below HR.out HB.out) (valid_parts HL.out).1 (valid_sorted HL.out))
    clear b0
    go_wp2_with fail
    refine HC.out.mono ?_
    rintro e w2 ⟨rfl, hb2⟩
    go_wp2
    go_ret2
    exact ⟨rfl, below_then HB.out HB.out.size hb2⟩
  · have h := Bool.eq_false_iff.2 h
    rw [if_neg (by rw [h]; simp)]
    rw [h] at hv
    have HV := Aside0.mk hv
    clear hv hr hc ht h
    go_enter Try.func18, Try.ntmps18
    go_wp2_with fail
    refine HV.out.mono ?_
    rintro e w' ⟨rfl, hb⟩
    have HB := Aside0.mk (b0.trans (hb.mono (by simp)))
    clear b0
    go_wp2
    go_ret2
    exact ⟨rfl, HB.out⟩
end Go.Proofs.Ytbppijlcmeidaaa.M
end
section
/- The program's copy of a directory, walked: new memory that reads the same. No condition. -/
namespace Go.Proofs.Ytbppijlcmeidaaa.M
open Go.RowKit Go.Proofs.Ytbppijlcmeidaaa.P Go.Proofs.YtbppijlcmeidaaaW.PrintWords Go.Proofs.YtbppijlcmeidaaaW.PrintLast Go.Proofs.YtbppijlcmeidaaaW.PrintMore
set_option linter.unusedVariables false
theorem info52 : (Try.prog.info? 52).map (fun i => (i.zero, i.size, i.bytes)) = some (some (.agg #[.string ⟨#[]⟩, .string ⟨#[]⟩, .int .i64 0]), 3, 40) := by kernel_rfl
theorem R_empty (w : World) (base : Nat) (hb : base ≤ w.heap.size) : Kd.R k52 52 (w.alloc (.cells #[] 52)) base (fun _ => True) (.slice (some ⟨w.heap.size, 0, none⟩) 0 0) [] :=
  ⟨fun _ _ => trivial, [], ⟨rfl, .inr ⟨w.heap.size, 0, #[], rfl, hb, heap_alloc_new _ _, Nat.le_refl _, by simp [maxLen], rfl, rfl⟩⟩, Reps.none _ _⟩

/-- A row of files that is read, where a block was made: what is known of an element speaks of no world. -/
theorem c_alloc {w : World} {A : Option Addr} {l : List S52} (h : Kd.C k52 w A l.length l) (o : Obj) : ReadsRow (fun x cs => k52.K w x cs) k52.sz (w.alloc o) A l.length l :=
  ReadsRow.imp_ h ((Below.refl _ _).alloc (Nat.le_refl _) _) (fun _ _ hp => hp)
theorem k_bare {w w1 : World} {base : Nat} {x : S52} {cs : List Value} (h : k52.K w x cs) : k52.M w1 base (fun _ => False) x cs := h
set_option maxRecDepth 100000 in
set_option maxHeartbeats 1000000 in
theorem clone_call (A : Option Addr) (c : Nat) (l : List S52) (w : World) (hr : Kd.C k52 w A l.length l) (hl : l.length ≤ 200) :
    Calls Try.prog 75 #[.slice A l.length c] w fun e w' => ∃ v, e = .returned v ∧ Kd.R k52 52 w' w.heap.size (fun _ => True) v l ∧ Below w.heap.size w w' := by
  have hu27 := Try.underlying27
  have hu52 := Try.underlying52
  have HR := Aside0.mk hr
  clear hr
  have hne := fun (W : World) (a : Option Addr) (n c : Nat) => Lib.run_eql_slice_nil (P := Try.prog) W 27 52 a n c 0 0 hu27
  have hlen : (0 + l.length) * 40 ≤ 140737488355328 := by omega
  cases A with
  | none =>
    have hl0 : l = [] := by
      rcases Nat.eq_zero_or_pos l.length with h | h
      · exact List.eq_nil_of_length_eq_zero h
      · obtain ⟨_, h, _⟩ := HR.out.2.2 h
        cases h
    clear hlen
    subst hl0
    go_enter Try.func75, Try.ntmps75
    go_wp2
    go_ret
    exact ⟨_, rfl, Kd.R_nil _ _ _ _ _, Below.refl _ _⟩
  | some ad =>
    have HL := Aside0.mk hlen
    clear hlen
    go_enter Try.func75, Try.ntmps75
    go_wp2_with (at_builtin; refine Kd.R_append_rows k52 (Rr := fun x cs => k52.K w x cs) (w0 := w) w.heap.size rfl _ _ 27 52 _ 40 rfl hu27 info52 rfl (by decide) (by decide) (.slice (some ⟨w.heap.size, 0, none⟩) 0 0) [] l (some ad) l.length c (fun _ => True) (fun _ => False) rfl rfl (R_empty w w.heap.size (Nat.le_refl _)) (c_alloc HR.out _) (fun x cs h => k_bare h) (fun _ h => h.elim) (fun _ _ => trivial) ((Below.refl _ _).alloc (Nat.le_refl _) _) (by simp) HL.out ?_; intro v1 w1 hR hB hg hat)
    go_ret
    exact ⟨_, rfl, by simpa using hR, hB⟩

set_option maxRecDepth 100000 in
set_option maxHeartbeats 1000000 in
theorem copyFS_call (A : Option Addr) (c : Nat) (l : List S52) (q f : Int) (w : World) (hr : Kd.C k52 w A l.length l) (hl : l.length ≤ 200) :
    Calls Try.prog 49 #[.agg #[.slice A l.length c, .int .i64 q, .int .i64 f]] w fun e w' => ∃ v, e = .returned (.agg #[v, .int .i64 q, .int .i64 f]) ∧ Kd.R k52 52 w' w.heap.size (fun _ => True) v l ∧ Below w.heap.size w w' := by
  have hu29 := Try.underlying29
  have HR := Aside0.mk hr
  have b0 : Below w.heap.size w ((w.alloc (.cells #[.slice A l.length c, .int .i64 q, .int .i64 f] 29)).alloc (.cells #[.slice none 0 0, .int .i64 0, .int .i64 0] 29)) := ((Below.refl _ _).alloc (Nat.le_refl _) _).alloc (by simp) _
  have HC := Aside0.mk (clone_call A c l _ (Kd.C_below hr b0) hl)
  have HB0 := Aside0.mk b0
  clear hr b0
  go_enter Try.func49, Try.ntmps49
  go_wp2_with fail
  refine HC.out.mono ?_
  rintro e w' ⟨v, rfl, hR, hb⟩
  obtain ⟨A', c', rfl⟩ := Kd.R_slice hR
  have HB := Aside0.mk (HB0.out.trans (hb.mono (by simp; omega)))
  have B0 := Aside0.mk (show w'.heap[w.heap.size]? = some (.cells #[.slice A l.length c, .int .i64 q, .int .i64 f] 29 (0, 0)) from (hb.block _ (by simp; omega)).trans (blk_alloc (heap_alloc_new _ _) _))
  have B1 := Aside0.mk (show w'.heap[w.heap.size + 1]? = some (.cells #[.slice none 0 0, .int .i64 0, .int .i64 0] 29 (0, 0)) from by
    have := (hb.block (w.alloc (.cells #[.slice A l.length c, .int .i64 q, .int .i64 f] 29)).heap.size (by simp)).trans (heap_alloc_new _ _)
    simpa using this)
  have c00 := blk_cell B0.out 0
  have c01 := blk_cell B0.out 1
  have c02 := blk_cell B0.out 2
  have f00 := blk_frozen B0.out 0
  have f01 := blk_frozen B0.out 1
  have f02 := blk_frozen B0.out 2
  have c10 := blk_cell B1.out 0
  have c11 := blk_cell B1.out 1
  have c12 := blk_cell B1.out 2
  have f10 := blk_frozen B1.out 0
  have f11 := blk_frozen B1.out 1
  have f12 := blk_frozen B1.out 2
  have HRR := Aside0.mk hR
  clear hR hb
  go_wp2
  refine bodyPost_ret (results_single (r := .cell 2 29) rfl (.cell (w.heap.size + 1) 29 #[.slice A' l.length c', .int .i64 q, .int .i64 f] (0, 0) _ rfl ?_ hu29 rfl (by kernel_rfl) .nil)) rfl ⟨_, rfl, ?_, ?_⟩
  · exact blk_put (blk_put (blk_put (blk_far B1.out (by show w.heap.size + 1 ≠ w.heap.size; omega) _) 0 _ rfl) 1 _ rfl) 2 _ rfl
  · have h52 : ∀ q, q ∈ 52 :: k52.E → q ≠ 29 := by decide
    have s0 := Kd.R_set HRR.out B0.out h52 0 (.slice A' l.length c')
    have s1 := Kd.R_set s0 (blk_far B1.out (by show w.heap.size + 1 ≠ w.heap.size; omega) _) h52 0 (.slice A' l.length c')
    have s2 := Kd.R_set s1 (blk_set (blk_far B1.out (by show w.heap.size + 1 ≠ w.heap.size; omega) _) _ _) h52 1 (.int .i64 q)
    have s3 := Kd.R_set s2 (blk_set (blk_set (blk_far B1.out (by show w.heap.size + 1 ≠ w.heap.size; omega) _) _ _) _ _) h52 2 (.int .i64 f)
    exact Kd.R_lower s3 HB0.out.size
  · exact (((HB.out.setCell (Nat.le_refl _) _).setCell (by simp) _).setCell (by simp) _).setCell (by simp) _
end Go.Proofs.Ytbppijlcmeidaaa.M
end
section
/- The beginning of a step, walked: dead, or one step less to live; are the names good. No condition. -/
namespace Go.Proofs.Ytbppijlcmeidaaa.M
open Go.RowKit Go.Proofs.Ytbppijlcmeidaaa.P Go.Proofs.YtbppijlcmeidaaaW.PrintWords Go.Proofs.YtbppijlcmeidaaaW.PrintLast Go.Proofs.YtbppijlcmeidaaaW.PrintMore
set_option linter.unusedVariables false

def fuel' (f : Int) : Int := if f > 0 then f - 1 else f
def namesCode (ns : List ByteArray) : Int := if ns.all nameOk = true then 0 else 2
theorem ret_int {a b : Int} (h : a = b) : Ending.returned (.int .i64 a) = Ending.returned (.int .i64 b) := by rw [h]

/-- A directory of the call's own: at block g; its files' row v; w0: the world in which the call began. -/
structure FsAt (w0 w : World) (g : Nat) (v : Value) (l : List S52) (q f : Int) : Prop where
  blk : w.heap[g]? = some (.cells #[v, .int .i64 q, .int .i64 f] 29 (0, 0))
  row : Kd.R k52 52 w w0.heap.size (fun _ => True) v l
  bel : Below w0.heap.size w0 w
  ge : w0.heap.size ≤ g
/-- Nothing but the directory's block and its row has been written. -/
structure Keeps (w w' : World) (g : Nat) (v : Value) : Prop where
  size : w.heap.size ≤ w'.heap.size
  block : ∀ i, i < w.heap.size → i ≠ g → some i ≠ v.ownBlock → w'.heap[i]? = w.heap[i]?
theorem Keeps.refl (w : World) (g : Nat) (v : Value) : Keeps w w g v := ⟨Nat.le_refl _, fun _ _ _ _ => rfl⟩
theorem Keeps.of_below {w w' : World} {g : Nat} {v : Value} (h : Below w.heap.size w w') : Keeps w w' g v := ⟨h.size, fun i hi _ _ => h.block i hi⟩
theorem Keeps.trans {w w1 w2 : World} {g : Nat} {v v1 : Value} (h : Keeps w w1 g v) (k : Keeps w1 w2 g v1) (hv : v1.ownBlock = v.ownBlock ∨ ∃ b, v1.ownBlock = some b ∧ w.heap.size ≤ b) : Keeps w w2 g v :=
  ⟨Nat.le_trans h.size k.size, fun i hi hg hn => by
    refine (k.block i (Nat.lt_of_lt_of_le hi h.size) hg (fun e => ?_)).trans (h.block i hi hg hn)
    rcases hv with hv | ⟨b, hb, hle⟩
    · exact hn (e.trans hv)
    · rw [hb] at e
      injection e with e
      omega⟩
theorem h52 : ∀ q, q ∈ 52 :: k52.E → q ≠ 29 := by decide
theorem FsAt.lies {w0 w : World} {g : Nat} {v : Value} {l : List S52} {q f : Int} (h : FsAt w0 w g v l q f) : ∃ A c, v = .slice A l.length c ∧ l.length ≤ c ∧ Kd.C k52 w A l.length l ∧ Lies w g A c l q f := by
  obtain ⟨A, c, rfl, hc, hr⟩ := Kd.R_reads h.row
  exact ⟨A, c, rfl, hc, hr, h.blk⟩
theorem FsAt.below {w0 w w' : World} {g : Nat} {v : Value} {l : List S52} {q f : Int} (h : FsAt w0 w g v l q f) (hb : Below w.heap.size w w') : FsAt w0 w' g v l q f :=
  ⟨(hb.block g (blk_lt h.blk)).trans h.blk, Kd.R_below h.row hb, below_then h.bel h.bel.size hb, h.ge⟩
theorem FsAt.setFuel {w0 w : World} {g : Nat} {v : Value} {l : List S52} {q f : Int} (h : FsAt w0 w g v l q f) (f' : Int) : FsAt w0 (w.setCell ⟨g, 2, none⟩ (.int .i64 f')) g v l q f' :=
  ⟨blk_put h.blk 2 _ rfl, Kd.R_set h.row h.blk h52 2 _, h.bel.setCell h.ge _, h.ge⟩
theorem Keeps.setCell {w : World} {g : Nat} (v : Value) (j : Nat) (u : Value) : Keeps w (w.setCell ⟨g, j, none⟩ u) g v :=
  ⟨by simp [World.setCell], fun i _ hg _ => Below.heap_setCell w ⟨g, j, none⟩ u i hg⟩

theorem add_block (ad : Addr) (k : Nat) : (ad.add k).block = ad.block := by unfold Addr.add; split <;> rfl
theorem names_cell {w : World} {A : Option Addr} {ns : List ByteArray} (h : Kd.C Kd.string w A ns.length ns) (k : Nat) (hk : k < ns.length) : ∃ ad, A = some ad ∧ w.cell? (ad.add k) = some (.string ns[k]) := by
  obtain ⟨ad, c, hA, _, hK, hc⟩ := Kd.C_get h ByteArray.empty (k : Int) (by omega) (by omega)
  rw [Int.toNat_natCast, getD_at ns k _ hk] at hK
  obtain rfl : c = [.string ns[k]] := hK
  refine ⟨ad, hA, ?_⟩
  have := hc 0 _ rfl
  rw [Int.toNat_natCast] at this
  simpa [Kd.string, Kd.scalar] using this
/-- The names, looked at one by one. -/
theorem all_step (ns : List ByteArray) (i : Nat) (h : i < ns.length) : (ns.drop i).all nameOk = (nameOk ns[i] && (ns.drop (i + 1)).all nameOk) := by
  rw [drop_at ns i h]; rfl

set_option maxRecDepth 100000 in
set_option maxHeartbeats 2000000 in
theorem begin_call (w0 w : World) (g : Nat) (v : Value) (l : List S52) (q f : Int) (A : Option Addr) (c : Nat) (ns : List ByteArray) (h : FsAt w0 w g v l q f) (hn : Kd.C Kd.string w A ns.length ns) (hf : -1 ≤ f) (hf2 : f ≤ 9223372036854775807) (hlen : ns.length ≤ 2) (hA : ∀ ad, A = some ad → ad.block ≠ g) :
    Calls Try.prog 78 #[.pointer (some ⟨g, 0, none⟩), .slice A ns.length c] w fun e w' => e = .returned (.int .i64 (if f = 0 then 8 else namesCode ns)) ∧ FsAt w0 w' g v l q (fuel' f) ∧ Keeps w w' g v := by
  have hu29 := Try.underlying29
  have H := Aside0.mk h
  have HN := Aside0.mk hn
  have HA := Aside0.mk hA
  have c0 := blk_cell h.blk 0
  have c1 := blk_cell h.blk 1
  have c2 := blk_cell h.blk 2
  have f2 := blk_frozen h.blk 2
  clear h hn hA
  by_cases z : f = 0
  · have F := Aside0.mk (show fuel' f = f by unfold fuel'; rw [if_neg (by omega)])
    rw [if_pos z]
    have hz : (f == 0) = true := beq_iff_eq.2 z
    have Z := Aside0.mk z
    clear z
    go_enter Try.func78, Try.ntmps78
    go_wp2
    go_ret
    exact ⟨rfl, by rw [F.out]; exact H.out, Keeps.refl _ _ _⟩
  · rw [if_neg z]
    have hz : (f == 0) = false := beq_eq_false_iff_ne.2 z
    by_cases p : f > 0
    · have F' := Aside0.mk (show fuel' f = f - 1 by unfold fuel'; rw [if_pos p])
      have hp : decide (0 < f) = true := decide_eq_true p
      clear z
      go_enter Try.func78, Try.ntmps78
      go_wp2
      go_loop [6, 26] (fun _ v26 => ∃ k : Nat, k ≤ ns.length ∧ v26 = .int .i64 k ∧ Aside0 (ns.all nameOk = (ns.drop k).all nameOk)) (fun _ v26 => ns.length - (intOf v26).toNat)
      case atStart => exact ⟨0, Nat.zero_le _, rfl, ⟨rfl⟩⟩
      case round =>
        obtain ⟨k, hk, rfl, HK⟩ := hrel
        by_cases hlt : k < ns.length
        · obtain ⟨ad, hA, hc⟩ := names_cell HN.out k hlt
          subst hA
          have hne := HA.out ad rfl
          have hc' : (w.setCell ⟨g, 2, none⟩ (.int .i64 (f - 1))).cell? (ad.add k) = some (.string ns[k]) := (cell_far (p := ⟨g, 2, none⟩) (a := ad.add k) (by rw [add_block]; exact hne) _).trans hc
          have hlt' : decide ((k : Int) < (ns.length : Int)) = true := decide_eq_true (by omega)
          have hlt2 : decide (k < ns.length) = true := decide_eq_true hlt
          have HS := Aside0.mk (all_step ns k hlt)
          generalize ns[k] = s at hc hc' HS
          by_cases n1 : nameOk s = true
          · have N1 := Aside0.mk n1
            clear n1 hc hne
            go_wp2_with (go_at_call 44; refine (nameFine_yes s _ N1.out).mono ?_; rintro e w' ⟨rfl, rfl⟩)
            go_round
            case rel => exact ⟨k + 1, by omega, by go_num, ⟨by rw [HK.out, HS.out, N1.out, Bool.true_and]⟩⟩
            case measure => simp [intOf]; omega
          · have n1 : nameOk s = false := Bool.eq_false_iff.2 n1
            have N1 := Aside0.mk n1
            have F := Aside0.mk (show namesCode ns = 2 by unfold namesCode; rw [HK.out, HS.out, n1]; rfl)
            clear n1 hc hne
            go_wp2_with (go_at_call 44; refine (nameFine_no s _ N1.out).mono ?_; rintro e w' ⟨rfl, rfl⟩)
            go_ret
            exact ⟨ret_int F.out.symm, by rw [F'.out]; exact H.out.setFuel _, Keeps.setCell v 2 _⟩
        · have F := Aside0.mk (show namesCode ns = 0 by unfold namesCode; rw [HK.out, List.drop_eq_nil_of_le (by omega)]; rfl)
          have hlt' : decide ((k : Int) < (ns.length : Int)) = false := decide_eq_false (by omega)
          have hlt2 : decide (k < ns.length) = false := decide_eq_false hlt
          go_wp2
          go_ret
          exact ⟨ret_int F.out.symm, by rw [F'.out]; exact H.out.setFuel _, Keeps.setCell v 2 _⟩
    · have F' := Aside0.mk (show fuel' f = f by unfold fuel'; rw [if_neg p])
      have hp : decide (0 < f) = false := decide_eq_false p
      clear z
      go_enter Try.func78, Try.ntmps78
      go_wp2
      go_loop [6, 26] (fun _ v26 => ∃ k : Nat, k ≤ ns.length ∧ v26 = .int .i64 k ∧ Aside0 (ns.all nameOk = (ns.drop k).all nameOk)) (fun _ v26 => ns.length - (intOf v26).toNat)
      case atStart => exact ⟨0, Nat.zero_le _, rfl, ⟨rfl⟩⟩
      case round =>
        obtain ⟨k, hk, rfl, HK⟩ := hrel
        by_cases hlt : k < ns.length
        · obtain ⟨ad, hA, hc⟩ := names_cell HN.out k hlt
          subst hA
          have hne := HA.out ad rfl
          have hc' : w.cell? (ad.add k) = some (.string ns[k]) := hc
          have hlt' : decide ((k : Int) < (ns.length : Int)) = true := decide_eq_true (by omega)
          have hlt2 : decide (k < ns.length) = true := decide_eq_true hlt
          have HS := Aside0.mk (all_step ns k hlt)
          generalize ns[k] = s at hc hc' HS
          by_cases n1 : nameOk s = true
          · have N1 := Aside0.mk n1
            clear n1 hc hne
            go_wp2_with (go_at_call 44; refine (nameFine_yes s _ N1.out).mono ?_; rintro e w' ⟨rfl, rfl⟩)
            go_round
            case rel => exact ⟨k + 1, by omega, by go_num, ⟨by rw [HK.out, HS.out, N1.out, Bool.true_and]⟩⟩
            case measure => simp [intOf]; omega
          · have n1 : nameOk s = false := Bool.eq_false_iff.2 n1
            have N1 := Aside0.mk n1
            have F := Aside0.mk (show namesCode ns = 2 by unfold namesCode; rw [HK.out, HS.out, n1]; rfl)
            clear n1 hc hne
            go_wp2_with (go_at_call 44; refine (nameFine_no s _ N1.out).mono ?_; rintro e w' ⟨rfl, rfl⟩)
            go_ret
            exact ⟨ret_int F.out.symm, by rw [F'.out]; exact H.out, Keeps.refl _ _ _⟩
        · have F := Aside0.mk (show namesCode ns = 0 by unfold namesCode; rw [HK.out, List.drop_eq_nil_of_le (by omega)]; rfl)
          have hlt' : decide ((k : Int) < (ns.length : Int)) = false := decide_eq_false (by omega)
          have hlt2 : decide (k < ns.length) = false := decide_eq_false hlt
          go_wp2
          go_ret
          exact ⟨ret_int F.out.symm, by rw [F'.out]; exact H.out, Keeps.refl _ _ _⟩
end Go.Proofs.Ytbppijlcmeidaaa.M
end
section
/- The step sync, walked, on a directory of the call's own. Condition: the files are in order, at most 200. -/
namespace Go.Proofs.Ytbppijlcmeidaaa.M
open Go.RowKit Go.Proofs.Ytbppijlcmeidaaa.P Go.Proofs.YtbppijlcmeidaaaW.PrintWords Go.Proofs.YtbppijlcmeidaaaW.PrintLast Go.Proofs.YtbppijlcmeidaaaW.PrintMore
set_option linter.unusedVariables false

/-- A row of files of the call's own, at its element i: the cells, and what a store there makes of it. -/
theorem row_elem {W : World} {base : Nat} {v : Value} {l : List S52} (h : Kd.R k52 52 W base (fun _ => True) v l) (i : Nat) (hi : i < l.length) :
    ∃ b c, v = .slice (some ⟨b, 0, none⟩) l.length c ∧ base ≤ b ∧ W.cell? ⟨b, i * 3, none⟩ = some (.string (rd_T52 l (i : Int)).f0) ∧ W.cell? ⟨b, i * 3 + 1, none⟩ = some (.string (rd_T52 l (i : Int)).f1) ∧ W.cell? ⟨b, i * 3 + 2, none⟩ = some (.int .i64 (rd_T52 l (i : Int)).f2) ∧
      (∀ j, W.frozen? ⟨b, i * 3 + j, none⟩ = false) ∧
      (∀ u : Int, Kd.R k52 52 (W.setCell ⟨b, i * 3 + 2, none⟩ (.int .i64 u)) base (fun _ => True) v (l.set i ⟨(rd_T52 l (i : Int)).f0, (rd_T52 l (i : Int)).f1, u⟩)) ∧
      (∀ s : ByteArray, Kd.R k52 52 (W.setCell ⟨b, i * 3 + 1, none⟩ (.string s)) base (fun _ => True) v (l.set i ⟨(rd_T52 l (i : Int)).f0, s, (rd_T52 l (i : Int)).f2⟩)) ∧
      (∀ y : S52, Kd.R k52 52 (((W.setCell ⟨b, i * 3, none⟩ (.string y.f0)).setCell ⟨b, i * 3 + 1, none⟩ (.string y.f1)).setCell ⟨b, i * 3 + 2, none⟩ (.int .i64 y.f2)) base (fun _ => True) v (l.set i y)) := by
  obtain ⟨A, c, rfl, hc, hC⟩ := Kd.R_reads h
  obtain ⟨ad, hA, _⟩ := hC.2.2 (by omega)
  subst hA
  obtain ⟨b, rfl⟩ := Kd.R_head h
  have hb := Kd.R_base h b (by simp [Value.ownBlock])
  obtain ⟨cs, hcl, hM, hcc, hfz⟩ := Kd.R_elem h z52 (i : Int) (by omega) (by omega)
  have e : l.getD (i : Int).toNat z52 = rd_T52 l (i : Int) := rfl
  rw [e] at hM
  simp only [Int.toNat_natCast] at hcc hfz
  generalize rd_T52 l (i : Int) = x at *
  obtain rfl : cs = [.string x.f0, .string x.f1, .int .i64 x.f2] := by
    obtain ⟨c0, c1, rfl, h0, c2, c3, rfl, h1, h2⟩ := hM
    rw [show c0 = [Value.string x.f0] from h0, show c2 = [Value.string x.f1] from h1, show c3 = [Value.int .i64 x.f2] from h2]
    rfl
  have hseg := fun (j : Nat) (seg : List Value) (hj : j + seg.length ≤ 3) (x' : S52) (hM' : k52.M W base (fun _ => False) x' (([.string x.f0, .string x.f1, .int .i64 x.f2] : List Value).take j ++ seg ++ ([.string x.f0, .string x.f1, .int .i64 x.f2] : List Value).drop (j + seg.length))) =>
    (Kd.R_seg (okp := fun _ => False) h (i : Int) (by omega) (by omega) hcl (by simp only [Int.toNat_natCast]; exact hcc) hj hM' (fun _ hk => hk.elim)).1
  refine ⟨b, c, rfl, hb, hcc 0 _ rfl, hcc 1 _ rfl, hcc 2 _ rfl, hfz, fun u => ?_, fun s => ?_, fun y => ?_⟩
  · exact hseg 2 [.int .i64 u] (by simp) ⟨x.f0, x.f1, u⟩ (k52_mkM W base _ ⟨x.f0, x.f1, u⟩)
  · exact hseg 1 [.string s] (by simp) ⟨x.f0, s, x.f2⟩ (k52_mkM W base _ ⟨x.f0, s, x.f2⟩)
  · exact hseg 0 [.string y.f0, .string y.f1, .int .i64 y.f2] (by simp) y (k52_mkM W base _ y)

theorem names1 (w : World) (s : ByteArray) : Kd.C Kd.string (w.alloc (.cells #[.string s] 9)) (some ⟨w.heap.size, 0, none⟩) [s].length [s] :=
  ⟨rfl, by simp, fun _ => ⟨_, rfl, fun j p hj => ⟨[.string p], rfl, rfl, fun i u hu => by
    obtain rfl : j = 0 := by
      have := (List.getElem?_eq_some_iff.1 hj).1
      simpa using this
    obtain rfl : i = 0 := by
      have := (List.getElem?_eq_some_iff.1 hu).1
      simpa using this
    have e1 : s = p := by simpa using hj
    have e2 : Value.string p = u := by simpa using hu
    subst e1; subst e2
    exact (cell_of_row _ _ 0 _ _ _ (heap_alloc_new w _)).trans rfl⟩⟩⟩

theorem FsAt.put {w0 w : World} {g b n c a : Nat} {l l' : List S52} {q f : Int} {u : Value} (h : FsAt w0 w g (.slice (some ⟨b, 0, none⟩) n c) l q f) (hne : b ≠ g) (hr : Kd.R k52 52 (w.setCell ⟨b, a, none⟩ u) w0.heap.size (fun _ => True) (.slice (some ⟨b, 0, none⟩) n c) l') :
    FsAt w0 (w.setCell ⟨b, a, none⟩ u) g (.slice (some ⟨b, 0, none⟩) n c) l' q f :=
  ⟨blk_far h.blk (fun e => hne e.symm) _, hr, h.bel.setCell (Kd.R_base h.row b (by simp [Value.ownBlock])) _, h.ge⟩
theorem FsAt.drew {w0 w : World} {g : Nat} {v : Value} {l : List S52} {q f : Int} (h : FsAt w0 w g v l q f) : FsAt w0 w.drew g v l q f := h.below (below_drew (Below.refl _ _))
theorem Keeps.put (w : World) (g b n c a : Nat) (u : Value) : Keeps w (w.setCell ⟨b, a, none⟩ u) g (.slice (some ⟨b, 0, none⟩) n c) :=
  ⟨by simp [World.setCell], fun i _ _ hn => Below.heap_setCell w ⟨b, a, none⟩ u i (fun e => hn (by rw [e]; rfl))⟩
theorem Keeps.drew {w w' : World} {g : Nat} {v : Value} (h : Keeps w w' g v) : Keeps w w'.drew g v := ⟨h.size, h.block⟩

def stepCode (f : Int) (ns : List ByteArray) : Int := if f = 0 then 8 else namesCode ns
/-- What a step leaves: the code, the files, the row. -/
def Stepped (w0 w : World) (g : Nat) (v : Value) (r : List S52 × Int) (q f : Int) (e : Ending) (w' : World) : Prop :=
  ∃ v', e = .returned (.int .i64 r.2) ∧ FsAt w0 w' g v' r.1 q (fuel' f) ∧ Keeps w w' g v
def syncOp (l : List S52) (s : ByteArray) : List S52 × Int :=
  if there l s = true then (l.set (pos l s) ⟨(rd_T52 l (pos l s : Int)).f0, (rd_T52 l (pos l s : Int)).f1, ((rd_T52 l (pos l s : Int)).f1.size : Int)⟩, 0) else (l, 1)
def stepOf (f : Int) (ns : List ByteArray) (l : List S52) (op : List S52 × Int) : List S52 × Int := if stepCode f ns = 0 then op else (l, stepCode f ns)
theorem stepCode_cases (f : Int) (ns : List ByteArray) : (stepCode f ns = 0 ∧ f ≠ 0 ∧ ns.all nameOk = true) ∨ stepCode f ns = 8 ∨ stepCode f ns = 2 := by
  unfold stepCode namesCode
  by_cases z : f = 0
  · rw [if_pos z]; exact .inr (.inl rfl)
  · rw [if_neg z]
    by_cases n : ns.all nameOk = true
    · rw [if_pos n]; exact .inl ⟨rfl, z, n⟩
    · rw [if_neg n]; exact .inr (.inr rfl)

set_option maxRecDepth 100000 in
set_option maxHeartbeats 4000000 in
theorem sync_call (w0 w : World) (g : Nat) (v : Value) (l : List S52) (q f : Int) (s : ByteArray) (h : FsAt w0 w g v l q f) (hf : -1 ≤ f) (hf2 : f ≤ 9223372036854775807) (hl : l.length ≤ 200) (hs : Sorted l) :
    Calls Try.prog 60 #[.pointer (some ⟨g, 0, none⟩), .string s] w fun e w' => Stepped w0 w g v (stepOf f [s] l (syncOp l s)) q f e w' := by
  have hu29 := Try.underlying29
  have hu52 := Try.underlying52
  have hb0 : Below w.heap.size w (w.alloc (.cells #[.string s] 9)) := (Below.refl _ _).alloc (Nat.le_refl _) _
  have hg := blk_lt h.blk
  have hbc := begin_call w0 (w.alloc (.cells #[.string s] 9)) g v l q f (some ⟨w.heap.size, 0, none⟩) 1 [s] (h.below hb0) (names1 w s) hf hf2 (by simp) (fun ad e => by injection e with e; subst e; show w.heap.size ≠ g; omega)
  change Calls _ _ _ _ (fun e w' => e = .returned (.int .i64 (stepCode f [s])) ∧ _) at hbc
  have K0 := Keeps.of_below (g := g) (v := v) hb0
  rcases stepCode_cases f [s] with ⟨h0, _, _⟩ | h8 | h2
  · have hop : stepOf f [s] l (syncOp l s) = syncOp l s := by unfold stepOf; rw [if_pos h0]
    rw [hop]
    rw [h0] at hbc
    have HBC := Aside0.mk hbc
    have HK0 := Aside0.mk K0
    have HS := Aside0.mk hs
    clear hbc K0 hb0 hop h0 h hs
    unfold syncOp
    by_cases ht : there l s = true
    · rw [if_pos ht]
      have hlt := there_lt ht
      have HT := Aside0.mk ht
      clear ht
      go_enter Try.func60, Try.ntmps60
      go_wp2_with fail
      refine HBC.out.mono ?_
      rintro e w1 ⟨rfl, h1, k1⟩
      obtain ⟨A, c, rfl, hc, hC, hL⟩ := h1.lies
      have HF := Aside0.mk (find_call g A c l q _ s w1 hL hC hl HS.out)
      have H1 := Aside0.mk h1
      have K1 := Aside0.mk (HK0.out.trans k1 (.inl rfl))
      clear h1 k1 hC hL
      go_wp2_with fail
      refine HF.out.mono ?_
      rw [HT.out]
      rintro e w2 ⟨rfl, hb⟩
      have h2 := H1.out.below hb
      have K2 := Aside0.mk (K1.out.trans (Keeps.of_below hb) (.inl rfl))
      obtain ⟨b, c', hv, hbb, e0, e1, e2, ez, es2, es1, es3⟩ := row_elem h2.row (pos l s) hlt
      injection hv with hv1 hv2 hv3
      subst hv1; subst hv3
      have H2 := Aside0.mk h2
      have ES := Aside0.mk es2
      have g0 := blk_cell h2.blk 0
      have ez2 := ez 2
      have hne : b ≠ g := fun hh => by
        obtain ⟨cells, hc'⟩ := Kd.R_typed h2.row b (by simp [Value.ownBlock])
        rw [hh, h2.blk] at hc'
        injection hc' with hc'
        injection hc' with _ hc'
        exact absurd hc' (by decide)
      have HNE := Aside0.mk hne
      clear h2 es1 es2 es3 ez hb hbb hne
      generalize hp : pos l s = p at hlt e0 e1 e2 ez2 ES
      generalize hx : rd_T52 l (p : Int) = x at e0 e1 e2 ES
      have hlt1 : ((p : Nat) : Int) < (l.length : Int) := by omega
      have hp0 : 0 ≤ ((p : Nat) : Int) := by omega
      have HP := Aside0.mk hp
      have HX := Aside0.mk hx
      clear hx hp
      go_wp2_with fail
      go_region
      go_wp2
      go_ret
      refine ⟨.slice (some ⟨b, 0, none⟩) l.length c, rfl, ?_, (K2.out.trans (Keeps.put w2 g b l.length c _ _) (.inl rfl)).drew⟩
      rw [HP.out, HX.out]
      exact (H2.out.put HNE.out (ES.out _)).drew
    · rw [if_neg ht]
      have ht := Bool.eq_false_iff.2 ht
      have HT := Aside0.mk ht
      clear ht
      go_enter Try.func60, Try.ntmps60
      go_wp2_with fail
      refine HBC.out.mono ?_
      rintro e w1 ⟨rfl, h1, k1⟩
      obtain ⟨A, c, rfl, hc, hC, hL⟩ := h1.lies
      have HF := Aside0.mk (find_call g A c l q _ s w1 hL hC hl HS.out)
      have H1 := Aside0.mk h1
      have K1 := Aside0.mk (HK0.out.trans k1 (.inl rfl))
      clear h1 k1 hC hL
      go_wp2_with fail
      refine HF.out.mono ?_
      rw [HT.out]
      rintro e w2 ⟨rfl, hb⟩
      go_wp2
      go_ret
      exact ⟨_, rfl, H1.out.below hb, K1.out.trans (Keeps.of_below hb) (.inl rfl)⟩
  · have hop : stepOf f [s] l (syncOp l s) = (l, 8) := by unfold stepOf; rw [h8, if_neg (by omega)]
    rw [hop]
    rw [h8] at hbc
    have HBC := Aside0.mk hbc
    have HK0 := Aside0.mk K0
    clear hbc K0 hb0 hop h8 h hs
    go_enter Try.func60, Try.ntmps60
    go_wp2_with fail
    refine HBC.out.mono ?_
    rintro e w1 ⟨rfl, h1, k1⟩
    go_wp2
    go_ret
    exact ⟨_, rfl, h1, HK0.out.trans k1 (.inl rfl)⟩
  · have hop : stepOf f [s] l (syncOp l s) = (l, 2) := by unfold stepOf; rw [h2, if_neg (by omega)]
    rw [hop]
    rw [h2] at hbc
    have HBC := Aside0.mk hbc
    have HK0 := Aside0.mk K0
    clear hbc K0 hb0 hop h2 h hs
    go_enter Try.func60, Try.ntmps60
    go_wp2_with fail
    refine HBC.out.mono ?_
    rintro e w1 ⟨rfl, h1, k1⟩
    go_wp2
    go_ret
    exact ⟨_, rfl, h1, HK0.out.trans k1 (.inl rfl)⟩
end Go.Proofs.Ytbppijlcmeidaaa.M
end
section
/- What a step answers, in one form for all five. -/
namespace Go.Proofs.Ytbppijlcmeidaaa.M
open Go.RowKit Go.Proofs.Ytbppijlcmeidaaa.P Go.Proofs.YtbppijlcmeidaaaW.PrintWords Go.Proofs.YtbppijlcmeidaaaW.PrintLast Go.Proofs.YtbppijlcmeidaaaW.PrintMore
/-- The directory and the code behind a step whose files and code, for a valid directory, are r. -/
def fsRes (l : List S52) (q f : Int) (r : List S52 × Int) : List S52 × Int × Int × Int := if validB l q f = true then (r.1, q, fuel' f, r.2) else ([], 0, 0, 9)
def syncRes (l : List S52) (f : Int) (s : ByteArray) : List S52 × Int := stepOf f [s] l (syncOp l s)
end Go.Proofs.Ytbppijlcmeidaaa.M
end
section
/- The program's FsCrash, walked. Condition: the sizes of the Data add up to a number of 63 bits. -/
namespace Go.Proofs.Ytbppijlcmeidaaa.M
open Go.RowKit Go.Proofs.Ytbppijlcmeidaaa.P Go.Proofs.YtbppijlcmeidaaaW.PrintWords Go.Proofs.YtbppijlcmeidaaaW.PrintLast Go.Proofs.YtbppijlcmeidaaaW.PrintMore
set_option linter.unusedVariables false
attribute [local go_sem] max2_int min2_int max_two min_two
/-- How much of what was not synced is kept. -/
def keptAt (keep : List Int) (i : Nat) (x : S52) : Int := if i < keep.length then mn (mx 0 (keep.getD i 0)) ((x.f1.size : Int) - x.f2) else 0
def crashFile (keep : List Int) (i : Nat) (x : S52) : S52 := ⟨x.f0, x.f1.extract 0 (x.f2 + keptAt keep i x).toNat, x.f2 + keptAt keep i x⟩
def crash (keep : List Int) (l : List S52) : List S52 := l.mapIdx (crashFile keep)
def crashTo (keep : List Int) (l : List S52) (i : Nat) : List S52 := (crash keep l).take i ++ l.drop i
theorem crash_length (keep : List Int) (l : List S52) : (crash keep l).length = l.length := List.length_mapIdx
theorem crash_at (keep : List Int) (l : List S52) (i : Nat) (h : i < l.length) : (crash keep l)[i]'(by rw [crash_length]; exact h) = crashFile keep i l[i] := List.getElem_mapIdx ..
theorem crashTo_length (keep : List Int) (l : List S52) (i : Nat) (h : i ≤ l.length) : (crashTo keep l i).length = l.length := by
  unfold crashTo
  rw [List.length_append, List.length_take, List.length_drop, crash_length]
  omega
theorem crashTo_zero (keep : List Int) (l : List S52) : crashTo keep l 0 = l := by simp [crashTo]
theorem crashTo_end (keep : List Int) (l : List S52) : crashTo keep l l.length = crash keep l := by
  unfold crashTo
  rw [List.drop_length, List.append_nil, List.take_of_length_le (by rw [crash_length]; omega)]
theorem crashTo_split (keep : List Int) (l : List S52) (i : Nat) (h : i < l.length) : crashTo keep l i = (crash keep l).take i ++ l[i] :: l.drop (i + 1) := by
  unfold crashTo
  rw [drop_at l i h]
theorem crashTo_rd (keep : List Int) (l : List S52) (i : Nat) (h : i < l.length) : rd_T52 (crashTo keep l i) (i : Int) = rd_T52 l (i : Int) := by
  have hl : ((crash keep l).take i).length = i := by rw [List.length_take, crash_length]; omega
  rw [rd52 _ i (by rw [crashTo_length keep l i (by omega)]; exact h), rd52 l i h]
  simp only [crashTo_split keep l i h]
  rw [List.getElem_append_right (by omega)]
  simp [hl]
theorem crashTo_set (keep : List Int) (l : List S52) (i : Nat) (h : i < l.length) : (crashTo keep l i).set i (crashFile keep i (rd_T52 l (i : Int))) = crashTo keep l (i + 1) := by
  have hl : ((crash keep l).take i).length = i := by rw [List.length_take, crash_length]; omega
  rw [crashTo_split keep l i h, List.set_append_right _ _ (by omega), hl, Nat.sub_self, rd52 l i h]
  unfold crashTo
  rw [take_at (crash keep l) i (by rw [crash_length]; exact h), crash_at keep l i h, List.append_assoc]
  rfl
def crashRes (l : List S52) (q f : Int) (keep : List Int) : List S52 × Int × Int := if validB l q f = true then (crash keep l, q, -1) else ([], 0, 0)
theorem at_keep {w : World} {K : Option Addr} {keep : List Int} (h : Kd.C (Kd.int .i64) w K keep.length keep) (i : Nat) (h1 : i < keep.length) : ∃ ad, K = some ad ∧ w.cell? (ad.add i) = some (.int .i64 (keep.getD i 0)) := by
  obtain ⟨ad, c, e, _, hK, hc⟩ := Kd.C_get h 0 (i : Int) (by omega) (by omega)
  refine ⟨ad, e, ?_⟩
  rw [Int.toNat_natCast] at hK
  obtain rfl : c = [.int .i64 (keep.getD i 0)] := hK
  have := hc 0 _ rfl
  simpa [show (Kd.int .i64).sz = 1 from rfl] using this
theorem total_ge' : ∀ (l : List S52) (i : Nat) (h : i < l.length), l[i].f1.size ≤ total l
  | x :: l, 0, _ => Nat.le_add_right _ _
  | x :: l, i + 1, h => Nat.le_trans (total_ge' l i (by simpa using h)) (Nat.le_add_left _ _)
theorem file_bounds {l : List S52} {q f : Int} (h : validB l q f = true) (i : Nat) (hi : i < l.length) : 0 ≤ (rd_T52 l (i : Int)).f2 ∧ (rd_T52 l (i : Int)).f2 ≤ ((rd_T52 l (i : Int)).f1.size : Int) ∧ ((rd_T52 l (i : Int)).f1.size : Int) ≤ 1048576 := by
  have hp := valid_parts h
  have ht := total_ge' l i hi
  rw [rd52 l i hi]
  have := (okFrom_all hp.2.2.2.2.1).1 l[i] (List.getElem_mem hi)
  unfold fileOk at this
  simp only [Bool.and_eq_true, decide_eq_true_eq] at this
  have := hp.2.2.2.2.2
  omega
theorem row_two {W : World} {base b n c : Nat} {l : List S52} (h : Kd.R k52 52 W base (fun _ => True) (.slice (some ⟨b, 0, none⟩) n c) l) (i : Nat) (hi : i < l.length) (s : ByteArray) (u : Int) :
    Kd.R k52 52 ((W.setCell ⟨b, i * 3 + 1, none⟩ (.string s)).setCell ⟨b, i * 3 + 2, none⟩ (.int .i64 u)) base (fun _ => True) (.slice (some ⟨b, 0, none⟩) n c) (l.set i ⟨(rd_T52 l (i : Int)).f0, s, u⟩) := by
  obtain ⟨b1, c1, hv, _, _, _, _, _, _, es1, _⟩ := row_elem h i hi
  injection hv with hv1 hv2 hv3
  injection hv1 with hv1
  injection hv1 with hv1
  subst hv1
  have h1 := es1 s
  have hi1 : i < (l.set i (⟨(rd_T52 l (i : Int)).f0, s, (rd_T52 l (i : Int)).f2⟩ : S52)).length := by rw [List.length_set]; exact hi
  obtain ⟨b2, c2, hv, _, _, _, _, _, es2, _, _⟩ := row_elem h1 i hi1
  injection hv with hv1 hv2 hv3
  injection hv1 with hv1
  injection hv1 with hv1
  subst hv1
  have h2 := es2 u
  rw [rd52 _ i hi1, List.getElem_set_self, List.set_set] at h2
  exact h2
/-- What a round of the loop needs of the world. -/
structure CInv (w wr : World) (g : Nat) (A : Option Addr) (c : Nat) (keep : List Int) (l : List S52) (q f : Int) (i : Nat) : Prop where
  fs : FsAt w wr g (.slice A l.length c) (crashTo keep l i) q f
  res : wr.heap[w.heap.size + 1]? = some (.cells #[.slice none 0 0, .int .i64 0, .int .i64 0] 29 (0, 0))
  ne : g ≠ w.heap.size + 1
theorem CInv.next {w wr : World} {g b c : Nat} {keep : List Int} {l : List S52} {q f : Int} {i : Nat} (h : CInv w wr g (some ⟨b, 0, none⟩) c keep l q f i) (hi : i < l.length) (hne : b ≠ g) (hres : b ≠ w.heap.size + 1) {k : Int} (hk : keptAt keep i (rd_T52 l (i : Int)) = k) {S : ByteArray} {u : Int} (hS : S = (rd_T52 l (i : Int)).f1.extract 0 ((rd_T52 l (i : Int)).f2 + k).toNat) (hu : u = (rd_T52 l (i : Int)).f2 + k) :
    CInv w ((wr.setCell ⟨b, i * 3 + 1, none⟩ (.string S)).setCell ⟨b, i * 3 + 2, none⟩ (.int .i64 u)) g (some ⟨b, 0, none⟩) c keep l q f (i + 1) := by
  subst hS hu
  have hr := row_two h.fs.row i (by rw [crashTo_length keep l i (by omega)]; exact hi) ((rd_T52 l (i : Int)).f1.extract 0 ((rd_T52 l (i : Int)).f2 + k).toNat) ((rd_T52 l (i : Int)).f2 + k)
  rw [crashTo_rd keep l i hi] at hr
  have e := crashTo_set keep l i hi
  unfold crashFile at e
  rw [hk] at e
  rw [e] at hr
  have hb := Kd.R_base h.fs.row b (by simp [Value.ownBlock])
  exact ⟨⟨blk_far (blk_far h.fs.blk (fun e => hne e.symm) _) (fun e => hne e.symm) _, hr, (h.fs.bel.setCell hb _).setCell hb _, h.fs.ge⟩, blk_far (blk_far h.res (fun e => hres e.symm) _) (fun e => hres e.symm) _, h.ne⟩
theorem CInv.drew {w wr : World} {g : Nat} {A : Option Addr} {c : Nat} {keep : List Int} {l : List S52} {q f : Int} {i : Nat} (h : CInv w wr g A c keep l q f i) : CInv w wr.drew g A c keep l q f i :=
  ⟨h.fs.drew, h.res, h.ne⟩
theorem CInv.drewN {w wr : World} {g : Nat} {A : Option Addr} {c : Nat} {keep : List Int} {l : List S52} {q f : Int} {i : Nat} (h : CInv w wr g A c keep l q f i) (n : Nat) : CInv w (wr.drewN n) g A c keep l q f i :=
  ⟨h.fs.below (pw_below_drewN (Below.refl _ _) n), blk_drewN h.res n, h.ne⟩

set_option maxRecDepth 100000 in
set_option maxHeartbeats 8000000 in
theorem crash_call (A : Option Addr) (c : Nat) (l : List S52) (q f : Int) (K : Option Addr) (ck : Nat) (keep : List Int) (w : World) (hr : Kd.C k52 w A l.length l) (hc : l.length ≤ c) (hk : Kd.C (Kd.int .i64) w K keep.length keep) (hck : keep.length ≤ ck) (ht : ValidFits l) :
    Calls Try.prog 21 #[.agg #[.slice A l.length c, .int .i64 q, .int .i64 f], .slice K keep.length ck] w fun e w' => ∃ v, e = .returned (.agg #[v, .int .i64 (crashRes l q f keep).2.1, .int .i64 (crashRes l q f keep).2.2]) ∧ Kd.R k52 52 w' w.heap.size (fun _ => True) v (crashRes l q f keep).1 ∧ Below w.heap.size w w' := by
  have hu29 := Try.underlying29
  have hu52 := Try.underlying52
  have HR := Aside0.mk hr
  have HK := Aside0.mk hk
  have b0 : Below w.heap.size w ((w.alloc (.cells #[.slice A l.length c, .int .i64 q, .int .i64 f] 29)).alloc (.cells #[.slice none 0 0, .int .i64 0, .int .i64 0] 29)) := ((Below.refl _ _).alloc (Nat.le_refl _) _).alloc (by simp) _
  have hv := valid_any A c l q f _ (Kd.C_below hr b0) hc ht
  have HB0 := Aside0.mk b0
  unfold crashRes
  by_cases h : validB l q f = true
  · rw [if_pos h]
    rw [h] at hv
    have HV := Aside0.mk hv
    have HL := Aside0.mk h
    clear hv hr hc ht h b0 hk
    go_enter Try.func21, Try.ntmps21
    go_wp2_with fail
    refine HV.out.mono ?_
    rintro e w1 ⟨rfl, hb⟩
    have s1 := hb.size
    simp only [World.size_alloc] at s1
    have HB := Aside0.mk (HB0.out.trans (hb.mono (by simp; omega)))
    have B0 : w1.heap[w.heap.size]? = some (.cells #[.slice A l.length c, .int .i64 q, .int .i64 f] 29 (0, 0)) := (hb.block _ (by simp; omega)).trans (blk_alloc (heap_alloc_new _ _) _)
    have B1 : w1.heap[w.heap.size + 1]? = some (.cells #[.slice none 0 0, .int .i64 0, .int .i64 0] 29 (0, 0)) := by
      have := (hb.block (w.alloc (.cells #[.slice A l.length c, .int .i64 q, .int .i64 f] 29)).heap.size (by simp)).trans (heap_alloc_new _ _)
      simpa using this
    have c00 := blk_cell B0 0
    have c01 := blk_cell B0 1
    have c02 := blk_cell B0 2
    have HC := Aside0.mk (copyFS_call A c l q f w1 (Kd.C_below HR.out HB.out) (valid_parts HL.out).1)
    have HB1 := Aside0.mk B1
    clear B0 B1 hb
    go_wp2_with fail
    refine HC.out.mono ?_
    rintro e w2 ⟨v, rfl, hR, hb⟩
    obtain ⟨A', c', rfl⟩ := Kd.R_slice hR
    have s2 := hb.size
    have HB2 := Aside0.mk (HB.out.trans (hb.mono (by omega)))
    have HB3 := Aside0.mk (HB2.out.alloc HB2.out.size (.cells #[.slice A' l.length c', .int .i64 q, .int .i64 f] 29))
    have HB4 := Aside0.mk ((hb.block _ (blk_lt HB1.out)).trans HB1.out)
    have HF := Aside0.mk (show CInv w (w2.alloc (.cells #[.slice A' l.length c', .int .i64 q, .int .i64 f] 29)) w2.heap.size A' c' keep l q f 0 from
      ⟨by rw [crashTo_zero]; exact ⟨heap_alloc_new _ _, Kd.R_lower (Kd.R_alloc hR _) HB.out.size, HB3.out, HB2.out.size⟩, blk_alloc HB4.out _, by have := blk_lt HB4.out; omega⟩)
    clear hb hR c00 c01 c02
    have hl : l.length ≤ 200 := (valid_parts HL.out).1
    go_wp2
    go_loopw [18] (fun v wr => ∃ i : Nat, i ≤ l.length ∧ v = .int .i64 (i : Int) ∧ Aside0 (CInv w wr w2.heap.size A' c' keep l q f i)) (fun v _ => l.length - (intOf v).toNat)
    case atStart => exact ⟨0, by omega, rfl, HF⟩
    case round =>
      obtain ⟨i, hi, rfl, HI⟩ := hrel
      have b0 := blk_cell HI.out.fs.blk 0
      have b1 := blk_cell HI.out.fs.blk 1
      have b2 := blk_cell HI.out.fs.blk 2
      by_cases hlt : i < l.length
      · obtain ⟨b, c1, hv, hbb, e0, e1, e2, ez, es2, es1, es3⟩ := row_elem HI.out.fs.row i (by rw [crashTo_length keep l i hi]; exact hlt)
        injection hv with hv1 hv2 hv3
        subst hv1; subst hv3
        rw [crashTo_rd keep l i hlt] at e0 e1 e2 es1 es2
        have ES := Aside0.mk es1
        have hne : b ≠ w2.heap.size := fun hh => by
          obtain ⟨cells, hc'⟩ := Kd.R_typed HI.out.fs.row b (by simp [Value.ownBlock])
          rw [hh, HI.out.fs.blk] at hc'
          injection hc' with hc'
          injection hc' with _ hc'
          exact absurd hc' (by decide)
        have ez1 := ez 1
        have ez2 := ez 2
        have hlt1 : ((i : Nat) : Int) < (l.length : Int) := by omega
        have hf := Aside0.mk (file_bounds HL.out i hlt)
        generalize hx : rd_T52 l (i : Int) = x at e0 e1 e2 ES hf
        have x0 : 0 ≤ x.f2 := hf.out.1
        have x1 : x.f2 ≤ (x.f1.size : Int) := hf.out.2.1
        have x2 : (x.f1.size : Int) ≤ 1048576 := hf.out.2.2
        have HX := Aside0.mk hx
        have hres : b ≠ w.heap.size + 1 := fun hh => by
          obtain ⟨cells, hc'⟩ := Kd.R_typed HI.out.fs.row b (by simp [Value.ownBlock])
          rw [hh, HI.out.res] at hc'
          injection hc' with hc'
          injection hc' with _ hc'
          exact absurd hc' (by decide)
        have HNE := Aside0.mk (And.intro hne hres)
        clear hx hne hres es1 es2 es3 ez hv2 hbb
        by_cases hk : i < keep.length
        · obtain ⟨ad, hK, hkc⟩ := at_keep HK.out i hk
          subst hK
          have hkc := (HI.out.fs.bel.cell (World.block_lt_of_cell? w _ hkc)).trans hkc
          have hk1 : ((i : Nat) : Int) < (keep.length : Int) := by omega
          generalize hkv : keep.getD i 0 = kv at hkc
          have HKV := Aside0.mk hkv
          clear hkv
          by_cases p1 : 0 < kv
          · have q1 : decide (0 < kv) = true := decide_eq_true p1
            by_cases p2 : (x.f1.size : Int) - x.f2 < kv
            · have q2 : decide ((x.f1.size : Int) - x.f2 < kv) = true := decide_eq_true p2
              have hw : IntKind.i64.wrap ((x.f1.size : Int) - x.f2) = (x.f1.size : Int) - x.f2 := IntWalk.i64_in _ (by omega)
              have KE := Aside0.mk (show keptAt keep i x = ((x.f1.size : Int) - x.f2) by unfold keptAt mn mx; rw [if_pos hk, HKV.out, if_pos p1, if_pos p2])
              have hw2 : IntKind.i64.wrap (x.f2 + ((x.f1.size : Int) - x.f2)) = x.f2 + ((x.f1.size : Int) - x.f2) := IntWalk.i64_in _ (by omega)
              have k0 : 0 ≤ x.f2 + ((x.f1.size : Int) - x.f2) := by omega
              have k1 : x.f2 + ((x.f1.size : Int) - x.f2) ≤ (x.f1.size : Int) := by omega
              go_wp2
              go_quiet (fail)
              clear hw
              go_wp2_with fail
              go_region
              clear hw2
              go_wp2
              go_roundw
              case rel =>
                obtain rfl := HX.out
                have hu : max ((rd_T52 l (i : Int)).f2 + (((rd_T52 l (i : Int)).f1.size : Int) - (rd_T52 l (i : Int)).f2)) 0 = (rd_T52 l (i : Int)).f2 + (((rd_T52 l (i : Int)).f1.size : Int) - (rd_T52 l (i : Int)).f2) := by omega
                refine ⟨i + 1, by omega, by go_num, ⟨?_⟩⟩
                first
                  | exact CInv.next (HI.out.drewN _) hlt HNE.out.1 HNE.out.2 KE.out (by first | rfl | simp) (by omega)
                  | exact (CInv.next HI.out hlt HNE.out.1 HNE.out.2 KE.out (by first | rfl | simp) (by omega)).drew
              case measure => simp [intOf]; omega
            · have q2 : decide ((x.f1.size : Int) - x.f2 < kv) = false := decide_eq_false p2
              have hw : IntKind.i64.wrap ((x.f1.size : Int) - x.f2) = (x.f1.size : Int) - x.f2 := IntWalk.i64_in _ (by omega)
              have KE := Aside0.mk (show keptAt keep i x = kv by unfold keptAt mn mx; rw [if_pos hk, HKV.out, if_pos p1, if_neg p2])
              have hw2 : IntKind.i64.wrap (x.f2 + kv) = x.f2 + kv := IntWalk.i64_in _ (by omega)
              have k0 : 0 ≤ x.f2 + kv := by omega
              have k1 : x.f2 + kv ≤ (x.f1.size : Int) := by omega
              go_wp2
              go_quiet (fail)
              clear hw
              go_wp2_with fail
              go_region
              clear hw2
              go_wp2
              go_roundw
              case rel =>
                obtain rfl := HX.out
                have hu : max ((rd_T52 l (i : Int)).f2 + kv) 0 = (rd_T52 l (i : Int)).f2 + kv := by omega
                refine ⟨i + 1, by omega, by go_num, ⟨?_⟩⟩
                first
                  | exact CInv.next (HI.out.drewN _) hlt HNE.out.1 HNE.out.2 KE.out (by first | rfl | simp) (by omega)
                  | exact (CInv.next HI.out hlt HNE.out.1 HNE.out.2 KE.out (by first | rfl | simp) (by omega)).drew
              case measure => simp [intOf]; omega
          · have q1 : decide (0 < kv) = false := decide_eq_false p1
            have q2 : decide ((x.f1.size : Int) - x.f2 < 0) = false := decide_eq_false (by omega)
            have hw : IntKind.i64.wrap ((x.f1.size : Int) - x.f2) = (x.f1.size : Int) - x.f2 := IntWalk.i64_in _ (by omega)
            have KE := Aside0.mk (show keptAt keep i x = 0 by unfold keptAt mn mx; rw [if_pos hk, HKV.out, if_neg p1, if_neg (by omega)])
            have hw2 : IntKind.i64.wrap (x.f2 + 0) = x.f2 + 0 := IntWalk.i64_in _ (by omega)
            have k0 : 0 ≤ x.f2 + 0 := by omega
            have k1 : x.f2 + 0 ≤ (x.f1.size : Int) := by omega
            go_wp2
            go_quiet (fail)
            clear hw
            go_wp2_with fail
            go_region
            clear hw2
            go_wp2
            go_roundw
            case rel =>
              obtain rfl := HX.out
              have hu : max ((rd_T52 l (i : Int)).f2 + 0) 0 = (rd_T52 l (i : Int)).f2 + 0 := by omega
              refine ⟨i + 1, by omega, by go_num, ⟨?_⟩⟩
              first
                | exact CInv.next (HI.out.drewN _) hlt HNE.out.1 HNE.out.2 KE.out (by first | rfl | simp) (by omega)
                | exact (CInv.next HI.out hlt HNE.out.1 HNE.out.2 KE.out (by first | rfl | simp) (by omega)).drew
            case measure => simp [intOf]; omega
        · have hk1 : decide (((i : Nat) : Int) < (keep.length : Int)) = false := decide_eq_false (by omega)
          have KE := Aside0.mk (show keptAt keep i x = 0 by unfold keptAt mn mx; rw [if_neg hk])
          have hw2 : IntKind.i64.wrap (x.f2 + 0) = x.f2 + 0 := IntWalk.i64_in _ (by omega)
          have k0 : 0 ≤ x.f2 + 0 := by omega
          have k1 : x.f2 + 0 ≤ (x.f1.size : Int) := by omega
          go_wp2
          skip
          go_wp2_with fail
          go_region
          clear hw2
          go_wp2
          go_roundw
          case rel =>
            obtain rfl := HX.out
            have hu : max ((rd_T52 l (i : Int)).f2 + 0) 0 = (rd_T52 l (i : Int)).f2 + 0 := by omega
            refine ⟨i + 1, by omega, by go_num, ⟨?_⟩⟩
            first
              | exact CInv.next (HI.out.drewN _) hlt HNE.out.1 HNE.out.2 KE.out (by first | rfl | simp) (by omega)
              | exact (CInv.next HI.out hlt HNE.out.1 HNE.out.2 KE.out (by first | rfl | simp) (by omega)).drew
          case measure => simp [intOf]; omega
      · have hlt1 : decide (((i : Nat) : Int) < (l.length : Int)) = false := decide_eq_false (by omega)
        have r0 := blk_cell HI.out.res 0
        have r1 := blk_cell HI.out.res 1
        have r2 := blk_cell HI.out.res 2
        have f0 := blk_frozen HI.out.res 0
        have f1 := blk_frozen HI.out.res 1
        have f2 := blk_frozen HI.out.res 2
        have g2 := blk_frozen HI.out.fs.blk 2
        have HE := Aside0.mk (show i = l.length by omega)
        go_wp2
        have hrow := HI.out.fs.row
        rw [HE.out, crashTo_end] at hrow
        have T0 := blk_far (p := ⟨w2.heap.size, 2, none⟩) HI.out.res (fun e => HI.out.ne e.symm) (.int .i64 (-1))
        refine bodyPost_ret (results_single (r := .cell 4 29) rfl (.cell (w.heap.size + 1) 29 #[.slice A' l.length c', .int .i64 q, .int .i64 (-1)] (0, 0) _ rfl ?_ hu29 rfl (by kernel_rfl) .nil)) rfl ⟨_, rfl, ?_, ?_⟩
        · exact blk_put (blk_put (blk_put T0 0 _ rfl) 1 _ rfl) 2 _ rfl
        · exact Kd.R_set (Kd.R_set (Kd.R_set (Kd.R_set hrow HI.out.fs.blk h52 2 _) T0 h52 0 _) (blk_set T0 _ _) h52 1 _) (blk_set (blk_set T0 _ _) _ _) h52 2 _
        · exact (((HI.out.fs.bel.setCell HI.out.fs.ge _).setCell (by simp) _).setCell (by simp) _).setCell (by simp) _
  · rw [if_neg h]
    rw [Bool.eq_false_iff.2 h] at hv
    have HV := Aside0.mk hv
    clear hv hr hc ht h b0 hk
    go_enter Try.func21, Try.ntmps21
    go_wp2_with fail
    refine HV.out.mono ?_
    rintro e w1 ⟨rfl, hb⟩
    have s1 := hb.size
    simp only [World.size_alloc] at s1
    have HB := Aside0.mk (HB0.out.trans (hb.mono (by simp; omega)))
    have B1 : w1.heap[w.heap.size + 1]? = some (.cells #[.slice none 0 0, .int .i64 0, .int .i64 0] 29 (0, 0)) := by
      have := (hb.block (w.alloc (.cells #[.slice A l.length c, .int .i64 q, .int .i64 f] 29)).heap.size (by simp)).trans (heap_alloc_new _ _)
      simpa using this
    have e0 := blk_cell B1 0
    have e1 := blk_cell B1 1
    have e2 := blk_cell B1 2
    have k0 := blk_frozen B1 0
    have k1 := blk_frozen B1 1
    have k2 := blk_frozen B1 2
    have T4 := Aside0.mk B1
    clear B1 hb
    go_wp2
    refine bodyPost_ret (results_single (r := .cell 4 29) rfl (.cell (w.heap.size + 1) 29 #[.slice none 0 0, .int .i64 0, .int .i64 0] (0, 0) _ rfl ?_ hu29 rfl (by kernel_rfl) .nil)) rfl ⟨_, rfl, Kd.R_nil _ _ _ _ _, ?_⟩
    · exact blk_put (blk_put (blk_put T4.out 0 _ rfl) 1 _ rfl) 2 _ rfl
    · exact ((HB.out.setCell (by simp) _).setCell (by simp) _).setCell (by simp) _
end Go.Proofs.Ytbppijlcmeidaaa.M
end
section
-- Written by a changed copy of the print program, one module a function. Not trusted: Lean checks it.
namespace Go.Proofs.Ytbppijlcmeidaaa.P
open Go.RowKit Go.Proofs.YtbppijlcmeidaaaW.PrintWords Go.Proofs.YtbppijlcmeidaaaW.PrintLast Go.Proofs.YtbppijlcmeidaaaW.PrintMore
attribute [local go_sem] max2_int min2_int max_two min_two max_three min_three max_four min_four   -- for this text's walks alone
set_option linter.unusedVariables false
set_option linter.unusedSimpArgs false

/-! ### impl_FsCrash: function 21 -/
def impl_FsCrash.f (l0_0 : List (S52)) (a0_1 : Int) (a0_2 : Int) (l1 : List Int) : Option ((List (S52)) × Int × Int) := if (l0_0.length ≤ 200 → M.total l0_0 ≤ 9223372036854775000) then some (M.crashRes l0_0 a0_1 a0_2 l1) else none

theorem impl_FsCrash.calls (A0_0 : Option Addr) (c0_0 : Nat) (l0_0 : List (S52)) (a0_1 : Int) (a0_2 : Int) (A1 : Option Addr) (c1 : Nat) (l1 : List Int) (r1 : List (S52)) (r2 : Int) (r3 : Int) (w : World) (hr0_0 : Kd.C k52 w A0_0 l0_0.length l0_0) (hc0_0 : l0_0.length ≤ c0_0) (hr1 : Kd.C (Kd.int .i64) w A1 l1.length l1) (hc1 : l1.length ≤ c1) (h : impl_FsCrash.f l0_0 a0_1 a0_2 l1 = some (r1, r2, r3)) :
  Calls Try.prog 21 #[.agg #[.slice A0_0 l0_0.length c0_0, .int .i64 a0_1, .int .i64 a0_2], .slice A1 l1.length c1] w fun e w' => ∃ v0_ : Value, e = .returned (.agg #[v0_, .int .i64 r2, .int .i64 r3]) ∧ Kd.R k52 52 w' w.heap.size (fun _ => True) v0_ r1 ∧ Below w.heap.size w w' := by
 by_cases c : (l0_0.length ≤ 200 → M.total l0_0 ≤ 9223372036854775000)
 ·unfold impl_FsCrash.f at h
  rw [if_pos c] at h
  have e := Option.some.inj h
  have h1 := M.crash_call A0_0 c0_0 l0_0 a0_1 a0_2 A1 c1 l1 w hr0_0 hc0_0 hr1 hc1 c
  rw [e] at h1
  exact h1
 ·unfold impl_FsCrash.f at h
  rw [if_neg c] at h
  cases h

end Go.Proofs.Ytbppijlcmeidaaa.P
end
section
-- Written by a changed copy of the print program, one module a function. Not trusted: Lean checks it.
namespace Go.Proofs.Ytbppijlcmeidaaa.P
open Go.RowKit Go.Proofs.YtbppijlcmeidaaaW.PrintWords Go.Proofs.YtbppijlcmeidaaaW.PrintLast Go.Proofs.YtbppijlcmeidaaaW.PrintMore
attribute [local go_sem] max2_int min2_int max_two min_two max_three min_three max_four min_four   -- for this text's walks alone
set_option linter.unusedVariables false
set_option linter.unusedSimpArgs false

/-! ### laws_eqIntS: function 22 -/
def laws_eqIntS.l0 : Nat → List Int → List Int → Int → Option (Bool)
 | 0, _, _, _ => none
 | k + 1, x0, x1, x5 => if x5 < (x0.length : Int) then (if 0 ≤ x5 then (if x5 < (x1.length : Int) then (if (rd x0 x5) = (rd x1 x5) then (laws_eqIntS.l0 k x0 x1 (wrap64 (x5 + 1))) else (some false)) else (none)) else (none)) else (some true)
def laws_eqIntS.f (k : Nat) (l0 : List Int) (l1 : List Int) : Option (Bool) := if (l0.length : Int) = (l1.length : Int) then (laws_eqIntS.l0 k l0 l1 0) else (some false)
theorem laws_eqIntS.mono_l : ∀ k, (∀ y0 y1 y2, LeO (laws_eqIntS.l0 k y0 y1 y2) (laws_eqIntS.l0 (k + 1) y0 y1 y2))
 | 0 => fun _ _ _ r h => by simp [laws_eqIntS.l0] at h
 | k + 1 => by
  have ih0 := laws_eqIntS.mono_l k
  ·intro y0 y1 y2
   unfold laws_eqIntS.l0
   repeat' first
   | (with_reducible exact ih0 _ _ _)
   | (with_reducible exact LeO.refl _)
   | (with_reducible exact LeO.none _)
   | (with_reducible refine LeO.ite ?_ ?_)
   | (with_reducible refine LeO.bind ?_ (fun _ => ?_))
   | exact ih0 _ _ _
   | exact LeO.none _
   | refine LeO.ite ?_ ?_
   | refine LeO.bind ?_ (fun _ => ?_)
theorem laws_eqIntS.mono : ∀ a0 a1 k, LeO (laws_eqIntS.f k a0 a1) (laws_eqIntS.f (k + 1) a0 a1) := by
 intro a0 a1 k
 have ih0 := laws_eqIntS.mono_l k
 unfold laws_eqIntS.f
 repeat' first
   | (with_reducible exact ih0 _ _ _)
   | (with_reducible exact LeO.refl _)
   | (with_reducible exact LeO.none _)
   | (with_reducible refine LeO.ite ?_ ?_)
   | (with_reducible refine LeO.bind ?_ (fun _ => ?_))
   | exact ih0 _ _ _
   | exact LeO.none _
   | refine LeO.ite ?_ ?_
   | refine LeO.bind ?_ (fun _ => ?_)
set_option maxHeartbeats 8000000 in
set_option maxRecDepth 100000 in
theorem laws_eqIntS.calls (k : Nat) (A0 : Option Addr) (c0 : Nat) (l0 : List Int) (A1 : Option Addr) (c1 : Nat) (l1 : List Int) (r : Bool) (w : World) (hr0 : Kd.C (Kd.int .i64) w A0 l0.length l0) (hc0 : l0.length ≤ c0) (hr1 : Kd.C (Kd.int .i64) w A1 l1.length l1) (hc1 : l1.length ≤ c1) (h : laws_eqIntS.f k l0 l1 = some r) :
  Calls Try.prog 22 #[.slice A0 l0.length c0, .slice A1 l1.length c1] w fun e w' => e = .returned (.bool r) ∧ Drawn0 w w' := by
 have HR0 := Aside0.mk hr0
 have HC0 := Aside0.mk hc0
 clear hr0 hc0
 have HR1 := Aside0.mk hr1
 have HC1 := Aside0.mk hc1
 clear hr1 hc1
 have H : (if (l0.length : Int) = (l1.length : Int) then (laws_eqIntS.l0 k l0 l1 0) else (some false)) = some r := h
 clear h
 by_cases c3 : (l0.length : Int) = (l1.length : Int)
 ·rw [if_pos c3] at H
  have c3b0 : ((l0.length : Int) == (l1.length : Int)) = true := beq_iff_eq.mpr c3
  have c3b1 : ((l0.length : Int) != (l1.length : Int)) = false := bne_eq_false_iff_eq.mpr c3
  have c3b2 : (l0.length == l1.length) = true := by first | simpa using c3 | (simp at c3 ⊢; omega)
  clear c3
  have H' := Aside0.mk H
  clear H
  go_enter Try.func22, Try.ntmps22
  go_wp2
  repeat (go_quiet (fail); try go_wp2)
  go_loopg [5] k (fun kq v5 w' => ∃ (x5_1 : Int), v5 = .int .i64 x5_1 ∧ Aside0 (laws_eqIntS.l0 kq l0 l1 x5_1 = some r) ∧ Aside0 (kq ≤ k) ∧ Drawn0 w w')
  case atStart => exact ⟨(0), (by first | rfl | (simp; done) | (simp [*]; done)), H', ⟨Nat.le_refl _⟩, by repeat (first | exact Drawn0.refl _ | apply Drawn0.step)⟩
  case round =>
   clear H'
   try clear c1
   try clear c2
   try clear p2
   try clear c3
   try clear c3b0
   try clear c3b1
   try clear c3b2
   obtain ⟨x5_1, rfl, HA, HK1, ⟨m1, rfl⟩⟩ := hrel
   cases gk with
   | zero => exact absurd HA.out (by simp [laws_eqIntS.l0])
   | succ k1 =>
    have H := HA.out
    clear HA
    simp only [laws_eqIntS.l0] at H
    by_cases c4 : x5_1 < (l0.length : Int)
    ·rw [if_pos c4] at H
     have c4b0 : decide (x5_1 < (l0.length : Int)) = true := decide_eq_true c4
     clear c4
     by_cases c5 : 0 ≤ x5_1
     ·rw [if_pos c5] at H
      have c5b0 : decide (0 ≤ x5_1) = true := decide_eq_true c5
      clear c5
      by_cases c6 : x5_1 < (l1.length : Int)
      ·rw [if_pos c6] at H
       have c6b0 : decide (x5_1 < (l1.length : Int)) = true := decide_eq_true c6
       clear c6
       by_cases c7 : (rd l0 x5_1) = (rd l1 x5_1)
       ·rw [if_pos c7] at H
        have c7b0 : ((rd l0 x5_1) == (rd l1 x5_1)) = true := beq_iff_eq.mpr c7
        have c7b1 : ((rd l0 x5_1) != (rd l1 x5_1)) = false := bne_eq_false_iff_eq.mpr c7
        clear c7
        have H' := Aside0.mk H
        clear H
        have p223 : 0 ≤ (x5_1 : Int) := of_decide_eq_true (by first | (with_reducible assumption) | assumption)
        have q223 : x5_1 < (l0.length : Int) := of_decide_eq_true (by first | (with_reducible assumption) | assumption)
        obtain ⟨ad223, e223, hx223_0⟩ := Kd.at_int HR0.out x5_1 p223 q223
        cases e223
        replace p223 := eq_true p223
        replace q223 := eq_true q223
        have p224 : 0 ≤ (x5_1 : Int) := of_decide_eq_true (by first | (with_reducible assumption) | assumption)
        have q224 : x5_1 < (l1.length : Int) := of_decide_eq_true (by first | (with_reducible assumption) | assumption)
        obtain ⟨ad224, e224, hx224_0⟩ := Kd.at_int HR1.out x5_1 p224 q224
        cases e224
        replace p224 := eq_true p224
        replace q224 := eq_true q224
        go_wp2
        repeat (go_quiet (fail); try go_wp2)
        go_roundg k1
        case measure => have := HK1.out; omega
        case rel => exact ⟨(wrap64 (x5_1 + 1)), (by first | rfl | (simp; done) | (simp [*]; done)), H', ⟨by have := HK1.out; omega⟩, by repeat (first | exact Drawn0.refl _ | apply Drawn0.step)⟩
       ·rw [if_neg c7] at H
        have c7b0 : ((rd l0 x5_1) == (rd l1 x5_1)) = false := beq_eq_false_iff_ne.mpr c7
        have c7b1 : ((rd l0 x5_1) != (rd l1 x5_1)) = true := bne_iff_ne.mpr c7
        obtain rfl := Option.some.inj H
        have p223 : 0 ≤ (x5_1 : Int) := of_decide_eq_true (by first | (with_reducible assumption) | assumption)
        have q223 : x5_1 < (l0.length : Int) := of_decide_eq_true (by first | (with_reducible assumption) | assumption)
        obtain ⟨ad223, e223, hx223_0⟩ := Kd.at_int HR0.out x5_1 p223 q223
        cases e223
        replace p223 := eq_true p223
        replace q223 := eq_true q223
        have p224 : 0 ≤ (x5_1 : Int) := of_decide_eq_true (by first | (with_reducible assumption) | assumption)
        have q224 : x5_1 < (l1.length : Int) := of_decide_eq_true (by first | (with_reducible assumption) | assumption)
        obtain ⟨ad224, e224, hx224_0⟩ := Kd.at_int HR1.out x5_1 p224 q224
        cases e224
        replace p224 := eq_true p224
        replace q224 := eq_true q224
        go_wp2
        repeat (go_quiet (fail); try go_wp2)
        go_ret
        exact ⟨by first | rfl | (simp; done) | (simp [*]; done), by repeat (first | exact Drawn0.refl _ | apply Drawn0.step)⟩
      ·rw [if_neg c6] at H
       exact absurd H (by simp)
     ·rw [if_neg c5] at H
      exact absurd H (by simp)
    ·rw [if_neg c4] at H
     have c4b0 : decide (x5_1 < (l0.length : Int)) = false := decide_eq_false c4
     clear c4
     obtain rfl := Option.some.inj H
     go_wp2
     repeat (go_quiet (fail); try go_wp2)
     go_ret
     exact ⟨by first | rfl | (simp; done) | (simp [*]; done), by repeat (first | exact Drawn0.refl _ | apply Drawn0.step)⟩
 ·rw [if_neg c3] at H
  have c3b0 : ((l0.length : Int) == (l1.length : Int)) = false := beq_eq_false_iff_ne.mpr c3
  have c3b1 : ((l0.length : Int) != (l1.length : Int)) = true := bne_iff_ne.mpr c3
  have c3b2 : (l0.length == l1.length) = false := by first | simpa using c3 | (simp at c3 ⊢; omega)
  obtain rfl := Option.some.inj H
  go_enter Try.func22, Try.ntmps22
  go_wp2
  repeat (go_quiet (fail); try go_wp2)
  go_ret
  exact ⟨by first | rfl | (simp; done) | (simp [*]; done), by repeat (first | exact Drawn0.refl _ | apply Drawn0.step)⟩

end Go.Proofs.Ytbppijlcmeidaaa.P
end
section
-- Written by a changed copy of the print program, one module a function. Not trusted: Lean checks it.
namespace Go.Proofs.Ytbppijlcmeidaaa.P
open Go.RowKit Go.Proofs.YtbppijlcmeidaaaW.PrintWords Go.Proofs.YtbppijlcmeidaaaW.PrintLast Go.Proofs.YtbppijlcmeidaaaW.PrintMore
attribute [local go_sem] max2_int min2_int max_two min_two max_three min_three max_four min_four   -- for this text's walks alone
set_option linter.unusedVariables false
set_option linter.unusedSimpArgs false

/-! ### laws_markText: function 76 -/
def laws_markText.l0 : Nat → Int → ByteArray → Option (ByteArray)
 | 0, _, _ => none
 | k + 1, x0, x3 => if x0 > 0 then ((some (([(wrap64 (48 + (Int.tmod x0 10))) % 256] : List Int) : List Int)).bind fun y225 => (if (strOfNums y225).size + x3.size ≤ 9223372036854775807 then (laws_markText.l0 k (wrap64 (Int.tdiv x0 10)) ((strOfNums y225) ++ x3)) else (none))) else (if 1 + x3.size ≤ 9223372036854775807 then (some ((⟨#[109]⟩ : ByteArray) ++ x3)) else (none))
def laws_markText.f (k : Nat) (a0 : Int) : Option (ByteArray) := if a0 ≤ 0 then (some (⟨#[109, 48]⟩ : ByteArray)) else (laws_markText.l0 k a0 (⟨#[]⟩ : ByteArray))
theorem laws_markText.mono_l : ∀ k, (∀ y0 y1, LeO (laws_markText.l0 k y0 y1) (laws_markText.l0 (k + 1) y0 y1))
 | 0 => fun _ _ r h => by simp [laws_markText.l0] at h
 | k + 1 => by
  have ih0 := laws_markText.mono_l k
  ·intro y0 y1
   unfold laws_markText.l0
   repeat' first
   | (with_reducible exact ih0 _ _)
   | (with_reducible exact LeO.refl _)
   | (with_reducible exact LeO.none _)
   | (with_reducible refine LeO.ite ?_ ?_)
   | (with_reducible refine LeO.bind ?_ (fun _ => ?_))
   | exact ih0 _ _
   | exact LeO.none _
   | refine LeO.ite ?_ ?_
   | refine LeO.bind ?_ (fun _ => ?_)
theorem laws_markText.mono : ∀ a0 k, LeO (laws_markText.f k a0) (laws_markText.f (k + 1) a0) := by
 intro a0 k
 have ih0 := laws_markText.mono_l k
 unfold laws_markText.f
 repeat' first
   | (with_reducible exact ih0 _ _)
   | (with_reducible exact LeO.refl _)
   | (with_reducible exact LeO.none _)
   | (with_reducible refine LeO.ite ?_ ?_)
   | (with_reducible refine LeO.bind ?_ (fun _ => ?_))
   | exact ih0 _ _
   | exact LeO.none _
   | refine LeO.ite ?_ ?_
   | refine LeO.bind ?_ (fun _ => ?_)
set_option maxHeartbeats 8000000 in
set_option maxRecDepth 100000 in
theorem laws_markText.calls (k : Nat) (a0 : Int) (r : ByteArray) (w : World) (h : laws_markText.f k a0 = some r) :
  Calls Try.prog 76 #[.int .i64 a0] w fun e w' => e = .returned (.string r) ∧ Below w.heap.size w w' := by
 have HB := Aside0.mk (Below.refl w.heap.size w)
 have H : (if a0 ≤ 0 then (some (⟨#[109, 48]⟩ : ByteArray)) else (laws_markText.l0 k a0 (⟨#[]⟩ : ByteArray))) = some r := h
 clear h
 by_cases c2 : a0 ≤ 0
 ·rw [if_pos c2] at H
  have c2b0 : decide (a0 ≤ 0) = true := decide_eq_true c2
  clear c2
  obtain rfl := Option.some.inj H
  go_enter Try.func76, Try.ntmps76
  go_wp2
  go_ret
  exact ⟨by first | rfl | (simp [errW_none, errW_some] <;> rfl) | (simp [*, errW_none, errW_some] <;> rfl), by repeat (first | (with_reducible first | exact HB.out | apply below_alloc | apply pw_below_drewN | apply below_drew1) | exact HB.out)⟩
 ·rw [if_neg c2] at H
  have c2b0 : decide (a0 ≤ 0) = false := decide_eq_false c2
  clear c2
  have H' := Aside0.mk H
  clear H
  go_enter Try.func76, Try.ntmps76
  go_wp2
  go_loopg [0, 3] k (fun kq v0 v3 w' => ∃ (x0_1 : Int) (x3_1 : ByteArray), v0 = .int .i64 x0_1 ∧ v3 = .string x3_1 ∧ Aside0 (laws_markText.l0 kq x0_1 x3_1 = some r) ∧ Aside0 (kq ≤ k) ∧ Aside0 (Below w.heap.size w w'))
  case atStart => exact ⟨(a0), ((⟨#[]⟩ : ByteArray)), (by first | rfl | (simp; done) | (simp [*]; done)), (by first | rfl | (simp; done) | (simp [*]; done)), H', ⟨Nat.le_refl _⟩, ⟨by repeat (first | (with_reducible first | exact HB.out | apply below_alloc | apply pw_below_drewN | apply below_drew1) | exact HB.out)⟩⟩
  case round =>
   clear H'
   try clear c2
   try clear c2b0
   try clear p2
   obtain ⟨x0_1, x3_1, rfl, rfl, HA, HK1, HB⟩ := hrel
   cases gk with
   | zero => exact absurd HA.out (by simp [laws_markText.l0])
   | succ k1 =>
    have H := HA.out
    clear HA
    simp only [laws_markText.l0] at H
    by_cases c3 : x0_1 > 0
    ·rw [if_pos c3] at H
     have c3b0 : decide (0 < x0_1) = true := decide_eq_true c3
     clear c3
     obtain ⟨y225, hy225⟩ : ∃ y_ : List Int, y_ = (([(wrap64 (48 + (Int.tmod x0_1 10))) % 256] : List Int)) := ⟨_, rfl⟩
     replace H : (if (strOfNums y225).size + x3_1.size ≤ 9223372036854775807 then (laws_markText.l0 k1 (wrap64 (Int.tdiv x0_1 10)) ((strOfNums y225) ++ x3_1)) else (none)) = some r := by first | (rw [hy225]; with_reducible exact H) | (have H2_ := (Option.bind_some _ _).symm.trans H; rw [hy225]; with_reducible exact H2_) | (have H2_ := (Option.bind_some _ _).symm.trans H; with_reducible exact H2_) | with_reducible exact H | (rw [hy225]; exact H) | exact H
     have Ny225 := Aside0.mk hy225
     clear hy225
     by_cases c4 : (strOfNums y225).size + x3_1.size ≤ 9223372036854775807
     ·rw [if_pos c4] at H
      have c4b0 := eq_true c4
      have c4b1 : decide ((strOfNums y225).size + x3_1.size ≤ 9223372036854775807) = true := decide_eq_true c4
      try have c4b2 : (9223372036854775807 < (strOfNums y225).size + x3_1.size) = False := eq_false (Nat.not_lt.2 c4)
      have H' := Aside0.mk H
      clear H
      go_wp2_with (first | ((with_reducible refine gate_dst (N := 12) rfl ?_); refine Kd.R_lit (Kd.int .u8) _ 5 ?hg (N := 12) ?hd (xs := ([(wrap64 (48 + (Int.tmod x0_1 10))) % 256] : List Int)) (inner := [.int .u8 ((wrap64 (48 + (Int.tmod x0_1 10))) % 256)]) (ok := fun _ => True) (okp := fun _ => True) ?hr ?hp (fun _ hk => hk) trivial (Below.refl _ _) (Nat.le_refl _) (by simp) ?_; (case hd => rfl); (case hg => rfl); (case hr => first | (go_simp; done) | (go_simp; rfl)); (case hp => exact (Reps.one (show Kd.M (Kd.int .u8) _ _ _ ((wrap64 (48 + (Int.tmod x0_1 10))) % 256) [.int .u8 ((wrap64 (48 + (Int.tmod x0_1 10))) % 256)] from rfl) (Reps.none _ _))); intro v226 w5 ho6 hb hg_ hnew_; clear hg_ hnew_; (first | rw [← Ny225.out] at ho6 | (simp only [Int.reduceToNat] at ho6; rw [← Ny225.out] at ho6)); have n0_ := Aside0.mk (Kd.R_lower ho6 (below_size (by repeat (first | (with_reducible first | exact HB.out | apply below_alloc | apply pw_below_drewN | apply below_drew1) | exact HB.out)))); have n1_ := Aside0.mk (below_step (by repeat (first | (with_reducible first | exact HB.out | apply below_alloc | apply pw_below_drewN | apply below_drew1) | exact HB.out)) hb); clear HB; have HO227 := n0_; have HB := n1_; clear n0_ n1_; clear hb ho6; have hcv7 := own_string (P := Try.prog) Try.underlying47 Try.underlying5 Try.underlying9 (Kd.own_of_R HO227.out)))
      go_roundg k1
      case measure => have := HK1.out; omega
      case rel => exact ⟨(wrap64 (Int.tdiv x0_1 10)), ((strOfNums y225) ++ x3_1), (by first | rfl | (simp; done) | (simp [*]; done)), (by first | rfl | (simp; done) | (simp [*]; done)), H', ⟨by have := HK1.out; omega⟩, ⟨by repeat (first | (with_reducible first | exact HB.out | apply below_alloc | apply pw_below_drewN | apply below_drew1) | exact HB.out)⟩⟩
     ·rw [if_neg c4] at H
      exact absurd H (by simp)
    ·rw [if_neg c3] at H
     have c3b0 : decide (0 < x0_1) = false := decide_eq_false c3
     clear c3
     by_cases c8 : 1 + x3_1.size ≤ 9223372036854775807
     ·rw [if_pos c8] at H
      have c8b0 := eq_true c8
      have c8b1 : decide (1 + x3_1.size ≤ 9223372036854775807) = true := decide_eq_true c8
      try have c8b2 : (9223372036854775807 < 1 + x3_1.size) = False := eq_false (Nat.not_lt.2 c8)
      obtain rfl := Option.some.inj H
      go_wp2
      go_ret
      exact ⟨by first | rfl | (simp [errW_none, errW_some] <;> rfl) | (simp [*, errW_none, errW_some] <;> rfl), by repeat (first | (with_reducible first | exact HB.out | apply below_alloc | apply pw_below_drewN | apply below_drew1) | exact HB.out)⟩
     ·rw [if_neg c8] at H
      exact absurd H (by simp)

end Go.Proofs.Ytbppijlcmeidaaa.P
end

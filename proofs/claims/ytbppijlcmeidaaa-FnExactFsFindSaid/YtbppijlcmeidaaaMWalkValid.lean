/- The program's ValidFS, walked: it answers validB of the directory. Condition: the sizes of the Data add up to a number of 63 bits. -/
import Derived.Test.YtbppijlcmeidaaaMValid
import Derived.Test.YtbppijlcmeidaaaPimpltotal
import Derived.Deep.QuietTactic
import Derived.BigQuiet
import Derived.WalkLawsBesides
import Derived.WalkSpells
namespace Go.Proofs.Ytbppijlcmeidaaa.M
open Go.RowKit Go.Proofs.Ytbppijlcmeidaaa.P Go.Proofs.YtbppijlcmeidaaaW.PrintWords Go.Proofs.YtbppijlcmeidaaaW.PrintLast Go.Proofs.YtbppijlcmeidaaaW.PrintMore
set_option linter.unusedVariables false

theorem dec_size (s : ByteArray) (n : Nat) : decide ((s.size : Int) ≤ (n : Int)) = decide (s.size ≤ n) := by
  by_cases c : s.size ≤ n
  · rw [decide_eq_true c, decide_eq_true (by omega)]
  · rw [decide_eq_false c, decide_eq_false (by omega)]
theorem dec_nat (m n : Nat) : decide ((m : Int) ≤ (n : Int)) = decide (m ≤ n) := by
  by_cases c : m ≤ n
  · rw [decide_eq_true c, decide_eq_true (by omega)]
  · rw [decide_eq_false c, decide_eq_false (by omega)]
theorem ret_bool {a b : Bool} (h : a = b) : Ending.returned (.bool a) = Ending.returned (.bool b) := by rw [h]
theorem nameFine_any (s : ByteArray) (w : World) : Calls Try.prog 44 #[.string s] w fun e w' => e = .returned (.bool (nameOk s)) ∧ w' = w := by
  unfold nameOk
  by_cases c1 : 1 ≤ s.size
  · rw [decide_eq_true c1, Bool.true_and]
    have h1 : decide (1 ≤ s.size) = true := decide_eq_true c1
    go_enter Try.func44, Try.ntmps44
    go_wp2
    go_ret
    exact ⟨ret_bool (dec_size s 120), rfl⟩
  · rw [decide_eq_false c1, Bool.false_and]
    have h1 : decide (1 ≤ s.size) = false := decide_eq_false c1
    go_enter Try.func44, Try.ntmps44
    go_wp2
    go_ret
    exact ⟨rfl, rfl⟩
theorem nameFine_yes (s : ByteArray) (w : World) (h : nameOk s = true) : Calls Try.prog 44 #[.string s] w fun e w' => e = .returned (.bool true) ∧ w' = w := by
  have := nameFine_any s w
  rwa [h] at this
theorem nameFine_no (s : ByteArray) (w : World) (h : nameOk s = false) : Calls Try.prog 44 #[.string s] w fun e w' => e = .returned (.bool false) ∧ w' = w := by
  have := nameFine_any s w
  rwa [h] at this

theorem rdi52 (l : List S52) (i : Int) (h0 : 0 ≤ i) (h : i < (l.length : Int)) : rd_T52 l i = l[i.toNat]'(by omega) := by
  unfold rd_T52; exact getD_at l i.toNat z52 (by omega)
theorem okStep (l : List S52) (i : Int) (h0 : 0 ≤ i) (h : i < (l.length : Int)) : okFrom (prev l i.toNat) (l.drop i.toNat) = (fileOk (rd_T52 l i) && (match prev l i.toNat with | none => true | some b => lss b (rd_T52 l i).f0) && okFrom (prev l (i + 1).toNat) (l.drop (i + 1).toNat)) := by
  rw [rdi52 l i h0 h, drop_at l i.toNat (by omega), okFrom_cons, show (i + 1).toNat = i.toNat + 1 by omega, prev_succ l i.toNat (by omega)]
  cases prev l i.toNat <;> rfl
theorem prev_zero (l : List S52) : prev l 0 = none := rfl
theorem prev_pos (l : List S52) (i : Int) (h0 : 0 < i) (h : i < (l.length : Int)) : prev l i.toNat = some (rd_T52 l (i - 1)).f0 := by
  rw [rdi52 l (i - 1) (by omega) (by omega)]
  unfold prev
  rw [if_neg (by omega), getD_at l (i.toNat - 1) z52 (by omega)]
  congr 3
  omega
theorem total_call (l : List S52) (A : Option Addr) (c : Nat) (q f : Int) (w : World) (hr : Kd.C k52 w A l.length l) (hc : l.length ≤ c) (ht : total l ≤ 9223372036854775000) (hl : l.length ≤ 200) :
    Calls Try.prog 45 #[.agg #[.slice A l.length c, .int .i64 q, .int .i64 f]] w fun e w' => e = .returned (.int .i64 (total l : Int)) ∧ Below w.heap.size w w' := by
  have h : ∀ d i : Nat, i + d = l.length → Ev (fun k => impl_total.l0 k (total (l.take i) : Int) l (l.length : Int) (i : Int)) (total l : Int) := by
    intro d
    induction d with
    | zero =>
      intro i hi
      refine Ev.step (f := fun _ => some (total (l.take i) : Int)) (fun k => ?_) ?_
      · rw [impl_total.l0, if_neg (by omega)]
      · rw [List.take_of_length_le (by omega)]; exact Ev.now _
    | succ d ih =>
      intro i hi
      have hlt : i < l.length := by omega
      have h1 := total_take_succ l i hlt
      have h2 := total_take_le l (i + 1)
      refine Ev.step (fun k => ?_) (ih (i + 1) (by omega))
      rw [impl_total.l0, if_pos (by omega), if_pos (by omega), if_pos (by omega), rd52 l i hlt, wrap_succ (by omega), wrap_ok (by omega) (by omega), h1]
      rfl
  obtain ⟨k, hk⟩ := Ev.rounds (h l.length 0 (by omega))
  exact impl_total.calls k A c l q f (total l : Int) w hr hc hk

/-- What a round of the loop needs of the world. -/
def VInv (w wr : World) (A : Option Addr) (c : Nat) (l : List S52) (q f : Int) : Prop :=
  wr.heap[w.heap.size]? = some (.cells #[.slice A l.length c, .int .i64 q, .int .i64 f] 29 (0, 0)) ∧ Below w.heap.size w wr
theorem vinv_next {w wr : World} {A : Option Addr} {c : Nat} {l : List S52} {q f : Int} (h : VInv w wr A c l q f) (o : Obj) (n : Nat) : VInv w ((wr.alloc o).drewN n) A c l q f :=
  ⟨blk_drewN (blk_alloc h.1 _) _, pw_below_drewN (h.2.alloc h.2.size _) _⟩

set_option maxHeartbeats 4000000 in
set_option maxRecDepth 100000 in
theorem valid_walk (A : Option Addr) (c : Nat) (l : List S52) (q f : Int) (w : World) (hr : Kd.C k52 w A l.length l) (hc : l.length ≤ c) (h1 : l.length ≤ 200) (h2 : 0 ≤ q) (h3 : q ≤ 1048576) (h4 : -1 ≤ f) (ht : total l ≤ 9223372036854775000) :
    Calls Try.prog 15 #[.agg #[.slice A l.length c, .int .i64 q, .int .i64 f]] w fun e w' => e = .returned (.bool (okFrom none l && decide (total l ≤ 1048576))) ∧ Below w.heap.size w w' := by
  have HR := Aside0.mk hr
  have HT := Aside0.mk ht
  clear hr ht
  have hu29 := Try.underlying29
  have hu52 := Try.underlying52
  generalize hVV : (okFrom none l && decide (total l ≤ 1048576)) = VV
  have HVV := Aside0.mk hVV
  clear hVV
  go_enter Try.func15, Try.ntmps15
  go_wp2
  go_loopw [27] (fun v wr => ∃ i : Int, 0 ≤ i ∧ i ≤ (l.length : Int) ∧ v = .int .i64 i ∧ Aside0 (VInv w wr A c l q f) ∧ Aside0 (VV = (okFrom (prev l i.toNat) (l.drop i.toNat) && decide (total l ≤ 1048576)))) (fun v _ => l.length - (intOf v).toNat)
  case atStart => exact ⟨0, by omega, by omega, rfl, ⟨heap_alloc_new _ _, (Below.refl _ _).alloc (Nat.le_refl _) _⟩, ⟨HVV.out.symm⟩⟩
  case round =>
    obtain ⟨i, hi0, hi1, rfl, HI, HV⟩ := hrel
    by_cases hlt : i < (l.length : Int)
    · obtain ⟨ad, hA, hx0, hx1, hx2⟩ := at_T52 HR.out i hi0 hlt
      have hx0 := (HI.out.2.cell (World.block_lt_of_cell? w _ hx0)).trans hx0
      have hx1 := (HI.out.2.cell (World.block_lt_of_cell? w _ hx1)).trans hx1
      have hx2 := (HI.out.2.cell (World.block_lt_of_cell? w _ hx2)).trans hx2
      subst hA
      have hb0 : wr.cell? ⟨w.heap.size, 0, none⟩ = some (.slice (some ad) l.length c) := (blk_cell HI.out.1 0).trans rfl
      have hlt' := decide_eq_true hlt
      have HS := Aside0.mk (okStep l i hi0 hlt)
      by_cases n1 : nameOk (rd_T52 l i).f0 = true
      · have N1 := Aside0.mk n1
        clear n1
        by_cases z : i = 0
        · have hz : decide (0 < i) = false := decide_eq_false (by omega)
          have HP := Aside0.mk (show prev l i.toNat = none by rw [z]; rfl)
          clear z
          by_cases s1 : (rd_T52 l i).f2 < 0
          · have hs1 := decide_eq_true s1
            have F := Aside0.mk (show VV = false by rw [HV.out, HS.out]; unfold fileOk; rw [decide_eq_false (show ¬ 0 ≤ (rd_T52 l i).f2 by omega), Bool.and_false, Bool.false_and, Bool.false_and, Bool.false_and, Bool.false_and])
            clear s1
            go_wp2
            go_quiet ((go_at_call 44; exact Calls.quiet_of_same (nameFine_yes _ _ N1.out)))
            go_wp2
            go_ret
            exact ⟨ret_bool F.out.symm, (vinv_next HI.out _ _).2⟩
          · have hs1 : decide ((rd_T52 l i).f2 < 0) = false := decide_eq_false s1
            by_cases s2 : ((rd_T52 l i).f1.size : Int) < (rd_T52 l i).f2
            · have hs2 := decide_eq_true s2
              have F := Aside0.mk (show VV = false by rw [HV.out, HS.out]; unfold fileOk; rw [decide_eq_false (show ¬ (rd_T52 l i).f2 ≤ ((rd_T52 l i).f1.size : Int) by omega), Bool.and_false, Bool.false_and, Bool.false_and, Bool.false_and])
              clear s1 s2
              go_wp2
              go_quiet ((go_at_call 44; exact Calls.quiet_of_same (nameFine_yes _ _ N1.out)))
              go_wp2
              go_ret
              exact ⟨ret_bool F.out.symm, (vinv_next HI.out _ _).2⟩
            · have hs2 : decide (((rd_T52 l i).f1.size : Int) < (rd_T52 l i).f2) = false := decide_eq_false s2
              have F := Aside0.mk (show VV = (okFrom (prev l (i + 1).toNat) (l.drop (i + 1).toNat) && decide (total l ≤ 1048576)) by rw [HV.out, HS.out, HP.out]; unfold fileOk; rw [N1.out, decide_eq_true (show 0 ≤ (rd_T52 l i).f2 by omega), decide_eq_true (show (rd_T52 l i).f2 ≤ ((rd_T52 l i).f1.size : Int) by omega)]; rfl)
              clear s1 s2
              go_wp2
              go_quiet ((go_at_call 44; exact Calls.quiet_of_same (nameFine_yes _ _ N1.out)))
              go_wp2
              go_roundw
              case rel => exact ⟨i + 1, by omega, by omega, rfl, ⟨vinv_next HI.out _ _⟩, F⟩
              case measure => simp [intOf]; omega
        · have hz : decide (0 < i) = true := decide_eq_true (by omega)
          have HP := Aside0.mk (prev_pos l i (by omega) hlt)
          have hj0 : 0 ≤ i - 1 := by omega
          have hj1 : i - 1 < (l.length : Int) := by omega
          have hj2 : 1 ≤ i := by omega
          have hw : IntKind.i64.wrap (i - 1) = i - 1 := IntWalk.i64_in _ (by omega)
          obtain ⟨ad', hA', hy0, _, _⟩ := at_T52 HR.out (i - 1) hj0 hj1
          have hy0 := (HI.out.2.cell (World.block_lt_of_cell? w _ hy0)).trans hy0
          obtain rfl := Option.some.inj hA'
          clear hA'
          rw [show (i - 1).toNat = i.toNat - 1 by omega] at hy0
          have hy0 : ∀ o, (wr.alloc o).cell? (ad.add ((i.toNat - 1) * 3)) = some (.string (rd_T52 l (i - 1)).f0) := fun o => (World.cell?_alloc_lt _ _ _ (World.block_lt_of_cell? wr _ hy0)).trans hy0
          have hb1 : ∀ o, (wr.alloc o).cell? ⟨w.heap.size, 0, none⟩ = some (.slice (some ad) l.length c) := fun o => (World.cell?_alloc_lt _ _ _ (World.block_lt_of_cell? wr _ hb0)).trans hb0
          by_cases g : lss (rd_T52 l (i - 1)).f0 (rd_T52 l i).f0 = true
          · have hg : Op.bytesLess (rd_T52 l (i - 1)).f0.toList (rd_T52 l i).f0.toList = true := g
            have G := Aside0.mk g
            clear g
            by_cases s1 : (rd_T52 l i).f2 < 0
            · have hs1 := decide_eq_true s1
              have F := Aside0.mk (show VV = false by rw [HV.out, HS.out]; unfold fileOk; rw [decide_eq_false (show ¬ 0 ≤ (rd_T52 l i).f2 by omega), Bool.and_false, Bool.false_and, Bool.false_and, Bool.false_and, Bool.false_and])
              clear s1
              go_wp2
              go_quiet ((go_at_call 44; exact Calls.quiet_of_same (nameFine_yes _ _ N1.out)))
              go_wp2
              go_ret
              exact ⟨ret_bool F.out.symm, (vinv_next HI.out _ _).2⟩
            · have hs1 : decide ((rd_T52 l i).f2 < 0) = false := decide_eq_false s1
              by_cases s2 : ((rd_T52 l i).f1.size : Int) < (rd_T52 l i).f2
              · have hs2 := decide_eq_true s2
                have F := Aside0.mk (show VV = false by rw [HV.out, HS.out]; unfold fileOk; rw [decide_eq_false (show ¬ (rd_T52 l i).f2 ≤ ((rd_T52 l i).f1.size : Int) by omega), Bool.and_false, Bool.false_and, Bool.false_and, Bool.false_and])
                clear s1 s2
                go_wp2
                go_quiet ((go_at_call 44; exact Calls.quiet_of_same (nameFine_yes _ _ N1.out)))
                go_wp2
                go_ret
                exact ⟨ret_bool F.out.symm, (vinv_next HI.out _ _).2⟩
              · have hs2 : decide (((rd_T52 l i).f1.size : Int) < (rd_T52 l i).f2) = false := decide_eq_false s2
                have F := Aside0.mk (show VV = (okFrom (prev l (i + 1).toNat) (l.drop (i + 1).toNat) && decide (total l ≤ 1048576)) by
                  rw [HV.out, HS.out, HP.out]
                  show ((fileOk _ && lss _ _ && _) && _) = _
                  unfold fileOk
                  rw [G.out, N1.out, decide_eq_true (show 0 ≤ (rd_T52 l i).f2 by omega), decide_eq_true (show (rd_T52 l i).f2 ≤ ((rd_T52 l i).f1.size : Int) by omega)]
                  rfl)
                clear s1 s2
                go_wp2
                go_quiet ((go_at_call 44; exact Calls.quiet_of_same (nameFine_yes _ _ N1.out)))
                go_wp2
                go_roundw
                case rel => exact ⟨i + 1, by omega, by omega, rfl, ⟨vinv_next HI.out _ _⟩, F⟩
                case measure => simp [intOf]; omega
          · have hg : Op.bytesLess (rd_T52 l (i - 1)).f0.toList (rd_T52 l i).f0.toList = false := Bool.eq_false_iff.2 g
            have F := Aside0.mk (show VV = false by
              rw [HV.out, HS.out, HP.out]
              show ((_ && lss _ _ && _) && _) = _
              rw [Bool.eq_false_iff.2 g, Bool.and_false, Bool.false_and, Bool.false_and])
            clear g
            go_wp2
            go_quiet ((go_at_call 44; exact Calls.quiet_of_same (nameFine_yes _ _ N1.out)))
            go_wp2
            go_ret
            exact ⟨ret_bool F.out.symm, (vinv_next HI.out _ _).2⟩
      · have n1 : nameOk (rd_T52 l i).f0 = false := Bool.eq_false_iff.2 n1
        have F := Aside0.mk (show VV = false by rw [HV.out, HS.out]; unfold fileOk; rw [n1]; simp)
        have N1 := Aside0.mk n1
        clear n1
        go_wp2
        go_quiet ((go_at_call 44; exact Calls.quiet_of_same (nameFine_no _ _ N1.out)))
        go_wp2
        go_ret
        exact ⟨ret_bool F.out.symm, (vinv_next HI.out _ _).2⟩
    · have hi : i = l.length := by omega
      have F := Aside0.mk (show VV = decide (total l ≤ 1048576) by rw [HV.out, hi, Int.toNat_natCast, List.drop_length]; cases prev l l.length <;> simp [okFrom])
      have hlt' : decide (i < (l.length : Int)) = false := decide_eq_false hlt
      have hb0 : wr.cell? ⟨w.heap.size, 0, none⟩ = some (.slice A l.length c) := (blk_cell HI.out.1 0).trans rfl
      have hb1 : wr.cell? ⟨w.heap.size, 1, none⟩ = some (.int .i64 q) := (blk_cell HI.out.1 1).trans rfl
      have hb2 : wr.cell? ⟨w.heap.size, 2, none⟩ = some (.int .i64 f) := (blk_cell HI.out.1 2).trans rfl
      have HC := Aside0.mk (total_call l A c q f wr (Kd.C_below HR.out HI.out.2) hc HT.out h1)
      clear hi
      go_wp2_with (go_at_call 45; refine HC.out.mono ?_; rintro e w' ⟨rfl, hb⟩)
      go_ret
      exact ⟨by rw [F.out]; exact ret_bool (dec_nat _ 1048576), HI.out.2.trans (hb.mono HI.out.2.size)⟩

def ValidFits (l : List S52) : Prop := l.length ≤ 200 → total l ≤ 9223372036854775000
set_option maxHeartbeats 2000000 in
set_option maxRecDepth 100000 in
theorem valid_any (A : Option Addr) (c : Nat) (l : List S52) (q f : Int) (w : World) (hr : Kd.C k52 w A l.length l) (hc : l.length ≤ c) (ht : ValidFits l) :
    Calls Try.prog 15 #[.agg #[.slice A l.length c, .int .i64 q, .int .i64 f]] w fun e w' => e = .returned (.bool (validB l q f)) ∧ Below w.heap.size w w' := by
  unfold validB
  by_cases c1 : l.length ≤ 200
  · by_cases c2 : 0 ≤ q
    · by_cases c3 : q ≤ 1048576
      · by_cases c4 : -1 ≤ f
        · rw [decide_eq_true c1, decide_eq_true c2, decide_eq_true c3, decide_eq_true c4, Bool.true_and, Bool.true_and, Bool.true_and, Bool.true_and]
          exact valid_walk A c l q f w hr hc c1 c2 c3 c4 (ht c1)
        · rw [decide_eq_false c4, Bool.and_false, Bool.false_and, Bool.false_and]
          have g1 : decide (200 < (l.length : Int)) = false := decide_eq_false (by omega)
          have g1' : decide (200 < l.length) = false := decide_eq_false (by omega)
          have g2 : decide (q < 0) = false := decide_eq_false (by omega)
          have g3 : decide (1048576 < q) = false := decide_eq_false (by omega)
          have g4 : decide (f < -1) = true := decide_eq_true (by omega)
          clear c1 c2 c3 c4 hr ht
          go_enter Try.func15, Try.ntmps15
          go_wp2
          go_ret
          exact ⟨rfl, (Below.refl _ _).alloc (Nat.le_refl _) _⟩
      · rw [decide_eq_false c3, Bool.and_false, Bool.false_and, Bool.false_and, Bool.false_and]
        have g1 : decide (200 < (l.length : Int)) = false := decide_eq_false (by omega)
        have g1' : decide (200 < l.length) = false := decide_eq_false (by omega)
        have g2 : decide (q < 0) = false := decide_eq_false (by omega)
        have g3 : decide (1048576 < q) = true := decide_eq_true (by omega)
        clear c1 c2 c3 hr ht
        go_enter Try.func15, Try.ntmps15
        go_wp2
        go_ret
        exact ⟨rfl, (Below.refl _ _).alloc (Nat.le_refl _) _⟩
    · rw [decide_eq_false c2, Bool.and_false, Bool.false_and, Bool.false_and, Bool.false_and, Bool.false_and]
      have g1 : decide (200 < (l.length : Int)) = false := decide_eq_false (by omega)
      have g1' : decide (200 < l.length) = false := decide_eq_false (by omega)
      have g2 : decide (q < 0) = true := decide_eq_true (by omega)
      clear c1 c2 hr ht
      go_enter Try.func15, Try.ntmps15
      go_wp2
      go_ret
      exact ⟨rfl, (Below.refl _ _).alloc (Nat.le_refl _) _⟩
  · rw [decide_eq_false c1, Bool.false_and, Bool.false_and, Bool.false_and, Bool.false_and, Bool.false_and]
    have g1 : decide (200 < (l.length : Int)) = true := decide_eq_true (by omega)
    have g1' : decide (200 < l.length) = true := decide_eq_true (by omega)
    clear c1 hr ht
    go_enter Try.func15, Try.ntmps15
    go_wp2
    go_ret
    exact ⟨rfl, (Below.refl _ _).alloc (Nat.le_refl _) _⟩
end Go.Proofs.Ytbppijlcmeidaaa.M

/- Texts of the claim FnExactApplyEdit, part 34 of 47, joined: MSortPdq. No condition beyond those that stand at each. -/
import Derived.Test.YtlecpmgdoomngaaZFnExactApplyEdit25
import Derived.Test.YtlecpmgdoomngaaZFnExactApplyEdit27
import Derived.Test.YtlecpmgdoomngaaZFnExactApplyEdit29
import Derived.Test.YtlecpmgdoomngaaZFnExactApplyEdit30
import Derived.Test.YtlecpmgdoomngaaZFnExactApplyEdit31
import Derived.Test.YtlecpmgdoomngaaZFnExactApplyEdit32
import Derived.Test.YtlecpmgdoomngaaZFnExactApplyEdit33
import Derived.Shelf.SlSortFuncK.BreakPatternsK
import Derived.Shelf.SlSortFuncK.ComposeK
import Derived.Sort.Walk13
import Derived.Sort.AssemblyPlain
import Derived.Deep.Cut
section
namespace Go.Proofs.Ytlecpmgdoomngaa.M
open Go.Shelf Go.RowKit Go.Lib Go.Sort
set_option linter.unusedVariables false
set_option linter.unusedSimpArgs false
variable {α : Type} [Inhabited α] {enc : α → List Value} {k blk off : Nat} {W w0 : World} {d : Array α} {lb sb : Array Value} {lt : α → α → Bool} {size : Nat}
theorem brk_call (S0 : Srt lb sb enc k lt blk off size w0) (h : SWK enc k w0 blk off d W) (hs : d.size = size) (a b : Nat) (hab : a ≤ b) (hb : b ≤ size) :
  Calls Try.prog 58 #[.agg #[.func (.func 25) #[] lb, .func (.func 53) #[] sb], .int .i64 a, .int .i64 b] W fun e w' => e = .returned (.tuple #[]) ∧ SWK enc k W blk off (breakPatterns d a b) w' := by
 have hsw : SwapSwapsK Try.prog 53 sb enc k blk off d.size := by rw [hs]; exact S0.swap
 have hsz := S0.sz
 exact (Any.breakPatterns_func_cells_w (P := Try.prog) (ρ := Try.laysGg6_ren) { Try.laysGg6 with } enc k S0.hk (.func 25) #[] lb 53 sb blk off a b d W hsw (S0.holds h hs) (S0.blt h) hab (by omega) (by omega)).mono fun e w' hh => hh
theorem rev_call (S0 : Srt lb sb enc k lt blk off size w0) (h : SWK enc k w0 blk off d W) (hs : d.size = size) (a b : Nat) (hab : a ≤ b) (hb : b ≤ size) :
  Calls Try.prog 60 #[.agg #[.func (.func 25) #[] lb, .func (.func 53) #[] sb], .int .i64 a, .int .i64 b] W fun e w' => e = .returned (.tuple #[]) ∧ SWK enc k W blk off (reverseRange d a b) w' := by
 have hsw : SwapSwapsK Try.prog 53 sb enc k blk off d.size := by rw [hs]; exact S0.swap
 have hsz := S0.sz
 exact (Any.reverseRange_func_cells_w (P := Try.prog) (ρ := Try.laysGg6_ren) { Try.laysGg6 with } enc k S0.hk (.func 25) #[] lb 53 sb blk off a b d W hsw (S0.holds h hs) (S0.blt h) hab (by omega) (by omega)).mono fun e w' hh => hh
theorem hintI_eq (x : Hint) : hintI x = hintCode x := by cases x <;> rfl
set_option maxHeartbeats 32000000 in
set_option maxRecDepth 1000000 in
theorem pdq_call (S0 : Srt lb sb enc k lt blk off size w0) (hO : SWO lt) : ∀ (N a b limit : Nat) (d : Array α) (W : World), b - a < N → SWK enc k w0 blk off d W → d.size = size → a ≤ b → b ≤ size → limit < 4611686018427387904 → Below lt a b d →
  Calls Try.prog 42 #[.agg #[.func (.func 25) #[] lb, .func (.func 53) #[] sb], .int .i64 a, .int .i64 b, .int .i64 limit] W fun e w' => e = .returned (.tuple #[]) ∧ SWK enc k W blk off (pdq lt d a b limit true true) w' := by
 intro N
 induction N with
 | zero => intro _ _ _ _ _ h; exact absurd h (Nat.not_lt_zero _)
 | succ N ih =>
  intro a b limit d W hN h hs hab hb hlimit hBel
  have S := Asd.mk (S0.on h hs)
  have hsz := S.out.sz
  have HB := Asd.mk (Bx.start (lb := lb) (sb := sb) (S0.holds h hs) (S0.blt h))
  have IH : Asd (∀ (a b limit : Nat) (d : Array α) (W1 : World), b - a < N → SWK enc k W blk off d W1 → d.size = size → a ≤ b → b ≤ size → limit < 4611686018427387904 → Below lt a b d →
    Calls Try.prog 42 #[.agg #[.func (.func 25) #[] lb, .func (.func 53) #[] sb], .int .i64 a, .int .i64 b, .int .i64 limit] W1 fun e w' => e = .returned (.tuple #[]) ∧ SWK enc k W1 blk off (pdq lt d a b limit true true) w') :=
   ⟨fun a b limit d1 W1 x1 x2 x3 x4 x5 x6 x7 => ih a b limit d1 W1 x1 (sw_trans h x2 S0.hblk (x3.trans hs.symm)) x3 x4 x5 x6 x7⟩
  obtain ⟨RES, hR⟩ : ∃ RES, pdq lt d a b limit true true = RES := ⟨_, rfl⟩
  rw [hR]
  have HR := Asd.mk hR
  have HK := Asd.mk hs
  have HBel := Asd.mk hBel
  clear ih S0 h hR hs hBel
  go_enter Try.func42, Try.ntmps42
  go_wp2
  go_loopg [1, 2, 3, 8, 9] (b - a) (fun kx s1 s2 s3 s8 s9 wr => ∃ (a' b' lim : Nat) (wb wp : Bool) (dk : Array α), s1 = .int .i64 a' ∧ s2 = .int .i64 b' ∧ s3 = .int .i64 lim ∧ s8 = .bool wb ∧ s9 = .bool wp ∧
   a' ≤ b' ∧ b' ≤ size ∧ b' - a' ≤ kx ∧ kx ≤ b - a ∧ lim < 4611686018427387904 ∧ Asd (dk.size = size) ∧ Asd (Below lt a' b' dk) ∧ Asd (Bx lb sb enc k blk off W dk wr) ∧ Asd (pdq lt dk a' b' lim wb wp = RES))
  case atStart => exact ⟨a, b, limit, true, true, d, rfl, rfl, rfl, rfl, rfl, hab, hb, Nat.le_refl _, Nat.le_refl _, hlimit, HK, HBel, HB, HR⟩
  case round =>
   clear HK HBel HB HR
   obtain ⟨a', b', lim, wb, wp, dk, rfl, rfl, rfl, rfl, rfl, hab', hb', hkx, hkN, hlim, HK, HBel, HB, HR⟩ := hrel
   have c0 := HB.out.c0
   have c1 := HB.out.c1
   by_cases h12 : b' - a' ≤ 12
   ·have h12z : (b' : Int) - (a' : Int) ≤ 12 := by omega
    have hc := Asd.mk (ins_call S.out HB.out.sw HK.out a' b' hab' hb')
    have HE := Asd.mk ((pdq_small (lt := lt) (d := dk) (limit := lim) (wb := wb) (wp := wp) h12).symm.trans HR.out)
    clear HR
    go_wp2_with (go_at_call 56; refine hc.out.mono ?_; rintro e w1 ⟨rfl, hw1⟩)
    (try simp only [Exit.inBlock, Exit.then]); refine bodyPost_ret (results_none rfl _ _ _) rfl ?_
    refine ⟨rfl, ?_⟩
    rw [← HE.out]
    exact (HB.out.next hw1 (insertionSort_holds hO dk a' b' hab' (by rw [HK.out]; exact hb')).1.1).sw
   ·have h12z : ¬ ((b' : Int) - (a' : Int) ≤ 12) := by omega
    by_cases hl0 : lim = 0
    ·subst hl0
     have hc := Asd.mk (heap_call S.out HB.out.sw HK.out a' b' (by omega) hb')
     have HE := Asd.mk ((pdq_heap (lt := lt) (d := dk) (wb := wb) (wp := wp) h12 rfl).symm.trans HR.out)
     clear HR
     go_wp2_with (go_at_call 57; refine hc.out.mono ?_; rintro e w1 ⟨rfl, hw1⟩)
     (try simp only [Exit.inBlock, Exit.then]); refine bodyPost_ret (results_none rfl _ _ _) rfl ?_
     refine ⟨rfl, ?_⟩
     rw [← HE.out]
     exact (HB.out.next hw1 (heapSort_holds hO dk a' b' hab' (by rw [HK.out]; exact hb')).1.1).sw
    ·have hl0z : ¬ ((lim : Int) = 0) := by omega
     obtain ⟨R, hRd⟩ : ∃ R, rd lt dk a' b' lim wb wp = R := ⟨_, rfl⟩
     have HF := Asd.mk (rd_facts (lt := lt) (limit := lim) (wb := wb) (wp := wp) hO partialInsertionSort_holds reverseRange_holds (show a' < b' by omega) (show b' ≤ dk.size by rw [HK.out]; exact hb') HBel.out)
     rw [hRd] at HF
     have HRd := Asd.mk hRd
     have hlimR : R.lim < 4611686018427387904 := Nat.lt_of_le_of_lt (by rw [← hRd]; exact rd_lim_le) hlim
     have hpv := HF.out.2.2.2.2.2.1
     have hcv := HF.out.2.2.1
     have K1 := Asd.mk (HF.out.1.trans HK.out)
     have K2 := Asd.mk (HF.out.2.2.2.1.trans HK.out)
     have K3 := Asd.mk (HF.out.2.2.2.2.2.2.1.trans HK.out)
     clear hRd
     -- 'if !wasBalanced'
     go_upto_if 35 with fail
     go_cut [3] from 19 (fun s3 wc => s3 = .int .i64 R.lim ∧ Asd (Bx lb sb enc k blk off W R.d1 wc))
     case first =>
      cases wb
      ·have hc := Asd.mk (brk_call S.out HB.out.sw HK.out a' b' hab' hb')
       go_wp2_with (go_at_call 58; refine hc.out.mono ?_; rintro e w1 ⟨rfl, hw1⟩)
       go_meet
       case rel =>
        have e1 : R.lim = lim - 1 := by rw [← HRd.out]; rfl
        have e2 : R.d1 = breakPatterns dk a' b' := by rw [← HRd.out]; rfl
        refine ⟨?_, ⟨HB.out.next (by rw [e2]; exact hw1) HF.out.1⟩⟩
        rw [e1]
        exact congrArg (Value.int .i64) (by omega)
      ·have e1 : R.lim = lim := by rw [← HRd.out]; rfl
       have e2 : R.d1 = dk := by rw [← HRd.out]; rfl
       go_wp2_with fail
       go_meet
       case rel => exact ⟨by rw [e1], by rw [e2]; exact HB⟩
     case rest =>
      obtain ⟨rfl, HB1⟩ := hcut
      clear c0 c1 HB
      have c0 := HB1.out.c0
      have c1 := HB1.out.c1
      have hc17 := Asd.mk (choose_call S.out HB1.out.sw K1.out a' b' (by omega) hb' (p := R.c.1) (hint := R.c.2) (by rw [← HRd.out]; rfl))
      go_upto_if 50 with (go_at_call 59; refine hc17.out.mono ?_; rintro e w2 ⟨rfl, hw2⟩)
      have HB2 := Asd.mk (HB1.out.next hw2 rfl)
      clear c0 c1 hw2 HB1 hc17
      have c0 := HB2.out.c0
      have c1 := HB2.out.c1
      rw [hintI_eq]
      -- 'if hint == decreasingHint'
      go_cut [11, 12] from 19 (fun s11 s12 wc => s11 = .int .i64 R.pivot ∧ s12 = .int .i64 (hintCode R.hint) ∧ Asd (Bx lb sb enc k blk off W R.d2 wc))
      case first =>
       by_cases hh : R.c.2 = .decreasing
       ·have hcode : hintCode R.c.2 = 2 := by rw [hh]; rfl
        have hD := Asd.mk (rd_dec (lt := lt) (d := dk) (a := a') (b := b') (limit := lim) (wb := wb) (wp := wp) (by rw [HRd.out]; exact hh))
        rw [HRd.out] at hD
        have hc := Asd.mk (rev_call S.out HB2.out.sw K1.out a' b' hab' hb')
        go_wp2_with (go_at_call 60; refine hc.out.mono ?_; rintro e w3 ⟨rfl, hw3⟩)
        go_meet
        case rel =>
         obtain ⟨e2, epv, eht⟩ := hD.out
         refine ⟨?_, by rw [eht]; rfl, ⟨HB2.out.next (by rw [e2]; exact hw3) (by rw [K2.out, K1.out])⟩⟩
         rw [epv]
         exact congrArg (Value.int .i64) (by omega)
       ·have hcode : ¬ (hintCode R.c.2 = 2) := fun h => hh (hintCode_two h)
        have hD := Asd.mk (rd_not (lt := lt) (d := dk) (a := a') (b := b') (limit := lim) (wb := wb) (wp := wp) (by rw [HRd.out]; exact hh))
        rw [HRd.out] at hD
        go_wp2_with fail
        go_meet
        case rel =>
         obtain ⟨e2, epv, eht⟩ := hD.out
         exact ⟨by rw [epv], by rw [eht], by rw [e2]; exact HB2⟩
      case rest =>
       obtain ⟨rfl, rfl, HB3⟩ := hcut
       clear c0 c1 HB2
       have c0 := HB3.out.c0
       have c1 := HB3.out.c1
       -- the test 'wasBalanced && wasPartitioned && hint == increasingHint'
       go_upto_region 16 with fail
       go_cut [12, 68] from 19 (fun s12 s68 wx => s12 = .int .i64 (hintCode R.hint) ∧ s68 = .bool (wb && wp && decide (R.hint = .increasing)) ∧ wx = wc)
       case first =>
        clear HRd HR hlimR HF
        cases wb <;> cases wp <;> cases hh3 : R.hint <;>
         (have hcode3 := congrArg hintCode hh3
          simp only [hintCode] at hcode3
          go_wp2_with fail
          go_meet
          exact ⟨by simp [hh3, hintCode], by simp [hh3, hintCode], rfl⟩)
       case rest =>
        obtain ⟨rfl, rfl, rfl⟩ := hcut
        go_upto_if 68 with fail
        go_cut [] from 19 (fun wx => R.pi.2 = false ∧ Asd (Bx lb sb enc k blk off W R.pi.1 wx))
        case first =>
         cases h68 : (wb && wp && decide (R.hint = .increasing))
         ·have epi := Asd.mk (rd_pi_no (lt := lt) (d := dk) (a := a') (b := b') (limit := lim) (wb := wb) (wp := wp) (by rw [HRd.out]; exact h68))
          rw [HRd.out] at epi
          go_wp2_with fail
          go_meet
          case rel => exact ⟨by rw [epi.out], by rw [epi.out]; exact HB3⟩
         ·have epi := Asd.mk (rd_pi_yes (lt := lt) (d := dk) (a := a') (b := b') (limit := lim) (wb := wb) (wp := wp) (by rw [HRd.out]; exact h68))
          rw [HRd.out] at epi
          have hc := pins_call S.out HB3.out.sw K2.out a' b' (by omega) hb'
          rw [← epi.out] at hc
          have hc := Asd.mk hc
          cases hp2 : R.pi.2
          ·rw [hp2] at hc
           go_wp2_with (go_at_call 61; refine hc.out.mono ?_; rintro e w4 ⟨rfl, hw4⟩)
           go_meet
           case rel => exact ⟨hp2, ⟨HB3.out.next hw4 (by rw [K3.out, K2.out])⟩⟩
          ·rw [hp2] at hc
           have hdone := pdq_done (lt := lt) (d := dk) (a := a') (b := b') (limit := lim) (wb := wb) (wp := wp) h12 hl0 (by rw [HRd.out]; exact hp2)
           rw [HRd.out, HR.out] at hdone
           have HE := Asd.mk hdone
           clear hdone
           go_wp2_with (go_at_call 61; refine hc.out.mono ?_; rintro e w4 ⟨rfl, hw4⟩)
           (try simp only [Exit.inBlock, Exit.then]); refine bodyPost_ret (results_none rfl _ _ _) rfl ?_
           refine ⟨rfl, ?_⟩
           rw [HE.out]
           exact (HB3.out.next hw4 (by rw [K3.out, K2.out])).sw
        case rest =>
         obtain ⟨hp2, HB5⟩ := hcut
         clear c0 c1 HB3
         have c0 := HB5.out.c0
         have c1 := HB5.out.c1
         -- the test 'a > 0 && !data.Less(a-1, pivot)'
         go_upto_region 18 with fail
         go_cut [83] from 19 (fun s83 wx => s83 = .bool (decide (a' > 0) && !lt R.pi.1[a' - 1]! R.pi.1[R.pivot]!) ∧ Asd (Bx lb sb enc k blk off W R.pi.1 wx))
         case first =>
          rcases Nat.eq_zero_or_pos a' with ha0 | ha0
          ·have ha0z : decide ((a' : Int) > 0) = false := decide_eq_false (by omega)
           go_wp2_with fail
           go_meet
           case rel => exact ⟨by simp [ha0], HB5⟩
          ·have ha0z : (a' : Int) > 0 := by omega
           cases hlv : lt R.pi.1[a' - 1]! R.pi.1[R.pivot]! <;>
            (have hl := Asd.mk (HB5.out.lessI S.out K3.out (a' - 1) R.pivot (by omega) (by omega) (x := (a' : Int) - 1) (y := (R.pivot : Int)) (by omega) rfl hlv)
             go_wp2_with fail
             refine hl.out.mono ?_
             rintro e w4 ⟨rfl, hB6⟩
             go_wp2_with fail
             go_meet
             exact ⟨by simp [ha0, hlv], ⟨hB6⟩⟩)
         case rest =>
          obtain ⟨rfl, HB6⟩ := hcut
          clear c0 c1 HB5
          have c0 := HB6.out.c0
          have c1 := HB6.out.c1
          cases h87 : (decide (a' > 0) && !lt R.pi.1[a' - 1]! R.pi.1[R.pivot]!)
          ·obtain ⟨mid, ap, d4, hx⟩ : ∃ mid ap d4, partition lt R.pi.1 a' b' R.pivot = (mid, ap, d4) := ⟨_, _, _, rfl⟩
           obtain ⟨r1, r2, r3, r4, r5, r6, r7⟩ := round_part hO (partition_holds lt) hpv.1 hpv.2 (show b' ≤ R.pi.1.size by rw [K3.out]; exact hb') HF.out.2.2.2.2.2.2.2 hx
           have hc := part_call S.out HB6.out.sw K3.out a' b' R.pivot hpv.1 hpv.2 hb'
           rw [hx] at hc
           have hc := Asd.mk hc
           have X := Asd.mk hx
           have K4 := Asd.mk (r3.trans K3.out)
           clear hx
           go_upto_if 109 with (go_at_call 63; refine hc.out.mono ?_; rintro e w7 ⟨rfl, hw7⟩)
           have HB7 := Asd.mk (HB6.out.next hw7 r3)
           clear c0 c1 HB6 hw7 hc
           have c0 := HB7.out.c0
           have c1 := HB7.out.c1
           by_cases h4 : mid - a' < b' - mid
           ·have h4z : (mid : Int) - (a' : Int) < (b' : Int) - (mid : Int) := by omega
            have hih := Asd.mk (IH.out a' mid R.lim d4 w7 (by omega) HB7.out.sw K4.out (by omega) (by omega) hlimR r4)
            obtain ⟨pL, sL⟩ := pdq_sorts lt hO d4 a' mid R.lim true true (by omega) (by rw [K4.out]; omega) r4
            have hE := pdq_left (lt := lt) (d := dk) (a := a') (b := b') (limit := lim) (wb := wb) (wp := wp) h12 hl0 (by rw [HRd.out]; exact hp2) (by rw [HRd.out]; exact h87) (by rw [HRd.out, X.out]; exact ⟨r1, r2⟩) (by rw [HRd.out, X.out]; exact h4)
            rw [HRd.out, X.out, HR.out] at hE
            have HE := Asd.mk hE
            have P6 := Asd.mk (r6 _ pL sL).1
            clear hE r6 r7 sL
            go_wp2_with (go_at_call 42; refine hih.out.mono ?_; rintro e w8 ⟨rfl, hw8⟩)
            go_roundg (b' - (mid + 1))
            case measure => omega
            case rel =>
             refine ⟨mid + 1, b', R.lim, decide (mid - a' ≥ (b' - a') / 8), ap, pdq lt d4 a' mid R.lim true true, congrArg (Value.int .i64) (by omega), rfl, rfl, ?_, rfl, by omega, by omega, Nat.le_refl _, by omega, hlimR, ⟨by rw [pL.1, K4.out]⟩, P6, ⟨HB7.out.next hw8 pL.1⟩, ⟨HE.out.symm⟩⟩
             exact congrArg Value.bool (eighth (by omega) (by omega))
           ·have h4z : ¬ ((mid : Int) - (a' : Int) < (b' : Int) - (mid : Int)) := by omega
            have hih := IH.out (mid + 1) b' R.lim d4 w7 (by omega) HB7.out.sw K4.out (by omega) (by omega) hlimR r5
            rw [show ((mid + 1 : Nat) : Int) = (mid : Int) + 1 by omega] at hih
            have hih := Asd.mk hih
            obtain ⟨pL, sL⟩ := pdq_sorts lt hO d4 (mid + 1) b' R.lim true true (by omega) (by rw [K4.out]; omega) r5
            have hE := pdq_right (lt := lt) (d := dk) (a := a') (b := b') (limit := lim) (wb := wb) (wp := wp) h12 hl0 (by rw [HRd.out]; exact hp2) (by rw [HRd.out]; exact h87) (by rw [HRd.out, X.out]; exact ⟨r1, r2⟩) (by rw [HRd.out, X.out]; exact h4)
            rw [HRd.out, X.out, HR.out] at hE
            have HE := Asd.mk hE
            have P6 := Asd.mk (r7 _ pL sL).1
            clear hE r6 r7 sL
            go_wp2_with (go_at_call 42; refine hih.out.mono ?_; rintro e w8 ⟨rfl, hw8⟩)
            go_roundg (mid - a')
            case measure => omega
            case rel =>
             refine ⟨a', mid, R.lim, decide (b' - mid ≥ (b' - a') / 8), ap, pdq lt d4 (mid + 1) b' R.lim true true, rfl, rfl, rfl, ?_, rfl, by omega, by omega, Nat.le_refl _, by omega, hlimR, ⟨by rw [pL.1, K4.out]⟩, P6, ⟨HB7.out.next hw8 pL.1⟩, ⟨HE.out.symm⟩⟩
             exact congrArg Value.bool (eighth (by omega) (by omega))
          ·have h87' := h87
           simp only [Bool.and_eq_true, decide_eq_true_eq, Bool.not_eq_true'] at h87'
           obtain ⟨mid, d4, hx⟩ : ∃ mid d4, partitionEqual lt R.pi.1 a' b' R.pivot = (mid, d4) := ⟨_, _, rfl⟩
           obtain ⟨r1, r2, r3, r4, _⟩ := round_eq hO (partitionEqual_holds lt) h87'.1 hpv.1 hpv.2 (show b' ≤ R.pi.1.size by rw [K3.out]; exact hb') HF.out.2.2.2.2.2.2.2 h87'.2 hx
           have hc := partEq_call S.out HB6.out.sw K3.out a' b' R.pivot hpv.1 hpv.2 hb'
           rw [hx] at hc
           have hc := Asd.mk hc
           have hE := pdq_eq (lt := lt) (d := dk) (a := a') (b := b') (limit := lim) (wb := wb) (wp := wp) h12 hl0 (by rw [HRd.out]; exact hp2) (by rw [HRd.out]; exact h87) (by rw [HRd.out, hx]; exact ⟨r1, r2⟩)
           rw [HRd.out, hx, HR.out] at hE
           have HE := Asd.mk hE
           clear hE hx h87'
           go_wp2_with (go_at_call 62; refine hc.out.mono ?_; rintro e w7 ⟨rfl, hw7⟩)
           go_roundg (b' - mid)
           case measure => omega
           case rel =>
            exact ⟨mid, b', R.lim, wb, wp, d4, rfl, rfl, rfl, rfl, rfl, r2, hb', Nat.le_refl _, by omega, hlimR, ⟨by rw [r3, K3.out]⟩, ⟨r4⟩, ⟨HB6.out.next hw7 r3⟩, ⟨HE.out.symm⟩⟩
end Go.Proofs.Ytlecpmgdoomngaa.M
end

/- Texts of the claim FnExactApplyEdit, part 32 of 47, joined: MSortPins. No condition beyond those that stand at each. -/
import Derived.Test.YtlecpmgdoomngaaZFnExactApplyEdit24
import Derived.Sort.WalkA6
section
namespace Go.Proofs.Ytlecpmgdoomngaa.M
open Go.Shelf Go.RowKit Go.Lib Go.Sort
set_option linter.unusedVariables false
set_option linter.unusedSimpArgs false
variable {α : Type} [Inhabited α] {enc : α → List Value} {k blk off : Nat} {W w0 : World} {d : Array α} {lb sb : Array Value} {lt : α → α → Bool} {size : Nat}
set_option maxHeartbeats 32000000 in
set_option maxRecDepth 100000 in
theorem pins_call (S0 : Srt lb sb enc k lt blk off size w0) (h : SWK enc k w0 blk off d W) (hs : d.size = size) (a b : Nat) (hab : a < b) (hb : b ≤ size) :
  Calls Try.prog 61 #[.agg #[.func (.func 25) #[] lb, .func (.func 53) #[] sb], .int .i64 a, .int .i64 b] W fun e w' => e = .returned (.bool (partialInsertionSort lt d a b).2) ∧ SWK enc k W blk off (partialInsertionSort lt d a b).1 w' := by
 have S := Asd.mk (S0.on h hs)
 have hsz := S.out.sz
 have B0 := Asd.mk (Bx.start (lb := lb) (sb := sb) (S0.holds h hs) (S0.blt h))
 have HS0 := Asd.mk hs
 obtain ⟨RES, hR⟩ : ∃ RES, partialInsertionSort lt d a b = RES := ⟨_, rfl⟩
 rw [hR]
 have HR := Asd.mk (show partialIns lt a b (5 - 0) (a + 1) d = RES from hR)
 clear S0 h hs hR
 go_enter Try.func61, Try.ntmps61
 go_wp2
 go_loopw [7, 8, 9, 10] (fun vi vs _ _ wr => ∃ (i s : Nat) (dk : Array α), vi = .int .i64 (i : Int) ∧ vs = .int .i64 (s : Int) ∧ a < i ∧ i ≤ b ∧ s ≤ 5 ∧ Asd (dk.size = size) ∧ Asd (Bx lb sb enc k blk off W dk wr) ∧ Asd (partialIns lt a b (5 - s) i dk = RES)) (fun _ vs _ _ _ => 5 - (intOf vs).toNat)
 case atStart => exact ⟨a + 1, 0, d, congrArg (Value.int .i64) (by omega), rfl, by omega, by omega, by omega, HS0, B0, HR⟩
 case round =>
  clear B0 HS0 HR
  obtain ⟨i, s, dk, rfl, rfl, hai, hib, hs6, HK, HB, HR⟩ := hrel
  by_cases hs5 : s < 5
  ·go_wp2
   try rw [show decide ((s : Int) < 5) = true from decide_eq_true (by omega)]
   go_loopw [7] (fun vi w1 => ∃ t : Nat, vi = .int .i64 (t : Int) ∧ i ≤ t ∧ t ≤ b ∧ Asd (Bx lb sb enc k blk off W dk w1) ∧ Asd (scanSorted lt dk b i = scanSorted lt dk b t)) (fun vi _ => b - (intOf vi).toNat)
   case atStart => exact ⟨i, rfl, Nat.le_refl _, hib, HB, ⟨rfl⟩⟩
   case round =>
    clear HB
    obtain ⟨t, rfl, hit, htb0, HB, HSC⟩ := hrel
    by_cases hlt : t < b
    ·cases hlv : lt dk[t]! dk[t - 1]! with
     | false =>
      have HSC2 := Asd.mk (HSC.out.trans (scanSorted_go lt dk b t hlt hlv))
      have HL := Asd.mk (fun (x y : Int) (hx : x = ((t : Nat) : Int)) (hy : y = ((t - 1 : Nat) : Int)) => HB.out.lessI S.out HK.out (t) (t - 1) (by omega) (by omega) hx hy hlv)
      have c0 := HB.out.c0
      go_wp2_with fail
      refine (HL.out _ _ (by omega) (by omega)).mono ?_
      rintro e w3 ⟨rfl, hB3⟩
      clear HL c0
      clear hlv HSC HB
      have HB := Asd.mk hB3
      clear hB3
      go_wp2
      go_roundw
      case rel => first | exact ⟨t + 1, congrArg (Value.int .i64) (by omega), by omega, by omega, HB, HSC2⟩ | ((repeat apply Exists.intro); refine ⟨?_, rfl⟩; exact ⟨t + 1, congrArg (Value.int .i64) (by omega), by omega, by omega, HB, HSC2⟩)
      case measure => simp [intOf]; omega
     | true =>
      replace HSC := Asd.mk (HSC.out.trans (scanSorted_stop lt dk b t (.inr hlv)))
      have HL := Asd.mk (fun (x y : Int) (hx : x = ((t : Nat) : Int)) (hy : y = ((t - 1 : Nat) : Int)) => HB.out.lessI S.out HK.out (t) (t - 1) (by omega) (by omega) hx hy hlv)
      have c0 := HB.out.c0
      go_wp2_with fail
      refine (HL.out _ _ (by omega) (by omega)).mono ?_
      rintro e w3 ⟨rfl, hB3⟩
      clear HL c0
      clear hlv HB
      have HB := Asd.mk hB3
      clear hB3
      -- the scan has stopped at t < b: HSC; HB, HK of dk
      have htb : t ≠ b := by omega
      by_cases h50 : b - a < 50
      ·have HE := Asd.mk (show RES = (dk, false) from HR.out.symm.trans (pi_short lt a b s i dk hs5 (fun e => htb (HSC.out.symm.trans e)) h50))
       clear HR
       go_wp2
       go_ret
       refine ⟨by rw [HE.out]; rfl, ?_⟩
       rw [HE.out]
       exact HB.out.sw
      ·
       obtain ⟨w4, hrun, hB4⟩ := HB.out.swapsI S.out HK.out (t) (t - 1) (by omega) (by omega) (t : Int) ((t : Int) - 1) rfl (by omega)
       have c1 := HB.out.c1
       have B4 := Asd.mk hB4
       have HKB4 := Asd.mk ((size_swp dk (t) (t - 1)).trans HK.out)
       clear hB4
       obtain ⟨d1, h1⟩ : ∃ d1, d1 = swp dk t (t - 1) := ⟨_, rfl⟩
       rw [← h1] at B4 HKB4
       have H1 := Asd.mk h1
       clear h1 HB
       have HB := B4
       have HK0 := HK
       clear HK
       have HK := HKB4
       clear B4 HKB4
       by_cases hd2 : 2 ≤ t - a
       ·have HDD := Asd.mk (show fixDown lt a t d1 = shiftDown lt (t - 1) d1 from by unfold fixDown; rw [if_pos hd2])
        go_wp2
        try rw [show ((t : Int) == (b : Int)) = false from beq_eq_false_iff_ne.2 (by omega)]
        try rw [show decide (2 ≤ (t : Int) - (a : Int)) = true from decide_eq_true (by omega)]
        go_loopw [9] (fun vj w2 => ∃ (j : Nat) (dy : Array α), vj = .int .i64 (j : Int) ∧ j < t ∧ Asd (dy.size = size) ∧ Asd (Bx lb sb enc k blk off W dy w2) ∧ Asd (shiftDown lt j dy = shiftDown lt (t - 1) d1)) (fun vj _ => (intOf vj).toNat)
        case atStart => exact ⟨t - 1, d1, congrArg (Value.int .i64) (by omega), by omega, HK, HB, ⟨rfl⟩⟩
        case round =>
         clear HB HK
         obtain ⟨j, dy, rfl, hjt, HK, HB, HSD⟩ := hrel
         by_cases hj0 : 1 ≤ j
         ·cases hlv : lt dy[j]! dy[j - 1]! with
          | true =>
           have HSD2 := Asd.mk ((shiftDown_go lt j dy hj0 hlv).symm.trans HSD.out)
           have HL := Asd.mk (fun (x y : Int) (hx : x = ((j : Nat) : Int)) (hy : y = ((j - 1 : Nat) : Int)) => HB.out.lessI S.out HK.out (j) (j - 1) (by omega) (by omega) hx hy hlv)
           have c0 := HB.out.c0
           go_wp2_with fail
           refine (HL.out _ _ (by omega) (by omega)).mono ?_
           rintro e w3 ⟨rfl, hB3⟩
           clear HL c0
           clear hlv HSD HB
           obtain ⟨w4, hrun, hB4⟩ := hB3.swapsI S.out HK.out (j) (j - 1) (by omega) (by omega) (j : Int) ((j : Int) - 1) rfl (by omega)
           have c1 := hB3.c1
           have B4 := Asd.mk hB4
           have HKB4 := Asd.mk ((size_swp dy (j) (j - 1)).trans HK.out)
           clear hB4
           clear hB3
           go_wp2
           go_roundw
           case rel => first | exact ⟨j - 1, swp dy j (j - 1), congrArg (Value.int .i64) (by omega), by omega, HKB4, B4, HSD2⟩ | ((repeat apply Exists.intro); refine ⟨?_, rfl⟩; exact ⟨j - 1, swp dy j (j - 1), congrArg (Value.int .i64) (by omega), by omega, HKB4, B4, HSD2⟩)
           case measure => simp [intOf]; omega
          | false =>
           have HD := Asd.mk (show dy = fixDown lt a t (swp dk t (t - 1)) from (shiftDown_stop lt j dy (.inr hlv)).symm.trans (HSD.out.trans (HDD.out.symm.trans (by rw [H1.out]))))
           have HL := Asd.mk (fun (x y : Int) (hx : x = ((j : Nat) : Int)) (hy : y = ((j - 1 : Nat) : Int)) => HB.out.lessI S.out HK.out (j) (j - 1) (by omega) (by omega) hx hy hlv)
           have c0 := HB.out.c0
           go_wp2_with fail
           refine (HL.out _ _ (by omega) (by omega)).mono ?_
           rintro e w3 ⟨rfl, hB3⟩
           clear HL c0
           clear hlv HSD HB
           have HB := Asd.mk hB3
           clear hB3
           by_cases hu2 : 2 ≤ b - t
           ·have HUU := Asd.mk (show fixUp lt b t dy = shiftUp lt b (t + 1) dy from by unfold fixUp; rw [if_pos hu2])
            go_wp2
            try rw [show ((t : Int) == (b : Int)) = false from beq_eq_false_iff_ne.2 (by omega)]
            try rw [show decide (2 ≤ (b : Int) - (t : Int)) = true from decide_eq_true (by omega)]
            go_loopw [10] (fun vj w2 => ∃ (j : Nat) (dz : Array α), vj = .int .i64 (j : Int) ∧ t < j ∧ j ≤ b ∧ Asd (dz.size = size) ∧ Asd (Bx lb sb enc k blk off W dz w2) ∧ Asd (shiftUp lt b j dz = shiftUp lt b (t + 1) dy)) (fun vj _ => b - (intOf vj).toNat)
            case atStart => exact ⟨t + 1, dy, congrArg (Value.int .i64) (by omega), by omega, by omega, HK, HB, ⟨rfl⟩⟩
            case round =>
             clear HB HK
             obtain ⟨j, dz, rfl, htj, hjb, HK, HB, HSU⟩ := hrel
             by_cases hjb2 : j < b
             ·cases hlv : lt dz[j]! dz[j - 1]! with
              | true =>
               have HSU2 := Asd.mk ((shiftUp_go lt b j dz hjb2 hlv).symm.trans HSU.out)
               have HL := Asd.mk (fun (x y : Int) (hx : x = ((j : Nat) : Int)) (hy : y = ((j - 1 : Nat) : Int)) => HB.out.lessI S.out HK.out (j) (j - 1) (by omega) (by omega) hx hy hlv)
               have c0 := HB.out.c0
               go_wp2_with fail
               refine (HL.out _ _ (by omega) (by omega)).mono ?_
               rintro e w3 ⟨rfl, hB3⟩
               clear HL c0
               clear hlv HSU HB
               obtain ⟨w4, hrun, hB4⟩ := hB3.swapsI S.out HK.out (j) (j - 1) (by omega) (by omega) (j : Int) ((j : Int) - 1) rfl (by omega)
               have c1 := hB3.c1
               have B4 := Asd.mk hB4
               have HKB4 := Asd.mk ((size_swp dz (j) (j - 1)).trans HK.out)
               clear hB4
               clear hB3
               go_wp2
               go_roundw
               case rel => first | exact ⟨j + 1, swp dz j (j - 1), congrArg (Value.int .i64) (by omega), by omega, by omega, HKB4, B4, HSU2⟩ | ((repeat apply Exists.intro); refine ⟨?_, rfl⟩; exact ⟨j + 1, swp dz j (j - 1), congrArg (Value.int .i64) (by omega), by omega, by omega, HKB4, B4, HSU2⟩)
               case measure => simp [intOf]; omega
              | false =>
               have HU := Asd.mk (show dz = fixUp lt b t dy from (shiftUp_stop lt b j dz (.inr hlv)).symm.trans (HSU.out.trans HUU.out.symm))
               have HL := Asd.mk (fun (x y : Int) (hx : x = ((j : Nat) : Int)) (hy : y = ((j - 1 : Nat) : Int)) => HB.out.lessI S.out HK.out (j) (j - 1) (by omega) (by omega) hx hy hlv)
               have c0 := HB.out.c0
               go_wp2_with fail
               refine (HL.out _ _ (by omega) (by omega)).mono ?_
               rintro e w3 ⟨rfl, hB3⟩
               clear HL c0
               clear hlv HSU HB
               have HB := Asd.mk hB3
               clear hB3
               have HR2 := Asd.mk ((pi_go lt a b s i t dk hs5 HSC.out htb h50).symm.trans HR.out)
               rw [← HD.out, ← HU.out] at HR2
               go_wp2
               go_roundw
               case rel => first | exact ⟨t, s + 1, dz, congrArg (Value.int .i64) (by omega), congrArg (Value.int .i64) (by omega), by omega, by omega, by omega, HK, HB, HR2⟩ | ((repeat apply Exists.intro); refine ⟨?_, rfl⟩; exact ⟨t, s + 1, dz, congrArg (Value.int .i64) (by omega), congrArg (Value.int .i64) (by omega), by omega, by omega, by omega, HK, HB, HR2⟩)
               case measure => simp [intOf]; omega
             ·have HU := Asd.mk (show dz = fixUp lt b t dy from (shiftUp_stop lt b j dz (.inl hjb2)).symm.trans (HSU.out.trans HUU.out.symm))
              clear HSU
              have HR2 := Asd.mk ((pi_go lt a b s i t dk hs5 HSC.out htb h50).symm.trans HR.out)
              rw [← HD.out, ← HU.out] at HR2
              go_wp2
              go_roundw
              case rel => first | exact ⟨t, s + 1, dz, congrArg (Value.int .i64) (by omega), congrArg (Value.int .i64) (by omega), by omega, by omega, by omega, HK, HB, HR2⟩ | ((repeat apply Exists.intro); refine ⟨?_, rfl⟩; exact ⟨t, s + 1, dz, congrArg (Value.int .i64) (by omega), congrArg (Value.int .i64) (by omega), by omega, by omega, by omega, HK, HB, HR2⟩)
              case measure => simp [intOf]; omega
           ·obtain ⟨dz, hz⟩ : ∃ dz, dz = dy := ⟨_, rfl⟩
            have HU := Asd.mk (show dz = fixUp lt b t dy from by unfold fixUp; rw [if_neg hu2]; exact hz)
            rw [← hz] at HK HB
            clear hz
            have HR2 := Asd.mk ((pi_go lt a b s i t dk hs5 HSC.out htb h50).symm.trans HR.out)
            rw [← HD.out, ← HU.out] at HR2
            go_wp2
            go_roundw
            case rel => first | exact ⟨t, s + 1, dz, congrArg (Value.int .i64) (by omega), congrArg (Value.int .i64) (by omega), by omega, by omega, by omega, HK, HB, HR2⟩ | ((repeat apply Exists.intro); refine ⟨?_, rfl⟩; exact ⟨t, s + 1, dz, congrArg (Value.int .i64) (by omega), congrArg (Value.int .i64) (by omega), by omega, by omega, by omega, HK, HB, HR2⟩)
            case measure => simp [intOf]; omega
         ·have HD := Asd.mk (show dy = fixDown lt a t (swp dk t (t - 1)) from (shiftDown_stop lt j dy (.inl (by omega))).symm.trans (HSD.out.trans (HDD.out.symm.trans (by rw [H1.out]))))
          clear HSD
          by_cases hu2 : 2 ≤ b - t
          ·have HUU := Asd.mk (show fixUp lt b t dy = shiftUp lt b (t + 1) dy from by unfold fixUp; rw [if_pos hu2])
           go_wp2
           try rw [show ((t : Int) == (b : Int)) = false from beq_eq_false_iff_ne.2 (by omega)]
           try rw [show decide (2 ≤ (b : Int) - (t : Int)) = true from decide_eq_true (by omega)]
           go_loopw [10] (fun vj w2 => ∃ (j : Nat) (dz : Array α), vj = .int .i64 (j : Int) ∧ t < j ∧ j ≤ b ∧ Asd (dz.size = size) ∧ Asd (Bx lb sb enc k blk off W dz w2) ∧ Asd (shiftUp lt b j dz = shiftUp lt b (t + 1) dy)) (fun vj _ => b - (intOf vj).toNat)
           case atStart => exact ⟨t + 1, dy, congrArg (Value.int .i64) (by omega), by omega, by omega, HK, HB, ⟨rfl⟩⟩
           case round =>
            clear HB HK
            obtain ⟨j, dz, rfl, htj, hjb, HK, HB, HSU⟩ := hrel
            by_cases hjb2 : j < b
            ·cases hlv : lt dz[j]! dz[j - 1]! with
             | true =>
              have HSU2 := Asd.mk ((shiftUp_go lt b j dz hjb2 hlv).symm.trans HSU.out)
              have HL := Asd.mk (fun (x y : Int) (hx : x = ((j : Nat) : Int)) (hy : y = ((j - 1 : Nat) : Int)) => HB.out.lessI S.out HK.out (j) (j - 1) (by omega) (by omega) hx hy hlv)
              have c0 := HB.out.c0
              go_wp2_with fail
              refine (HL.out _ _ (by omega) (by omega)).mono ?_
              rintro e w3 ⟨rfl, hB3⟩
              clear HL c0
              clear hlv HSU HB
              obtain ⟨w4, hrun, hB4⟩ := hB3.swapsI S.out HK.out (j) (j - 1) (by omega) (by omega) (j : Int) ((j : Int) - 1) rfl (by omega)
              have c1 := hB3.c1
              have B4 := Asd.mk hB4
              have HKB4 := Asd.mk ((size_swp dz (j) (j - 1)).trans HK.out)
              clear hB4
              clear hB3
              go_wp2
              go_roundw
              case rel => first | exact ⟨j + 1, swp dz j (j - 1), congrArg (Value.int .i64) (by omega), by omega, by omega, HKB4, B4, HSU2⟩ | ((repeat apply Exists.intro); refine ⟨?_, rfl⟩; exact ⟨j + 1, swp dz j (j - 1), congrArg (Value.int .i64) (by omega), by omega, by omega, HKB4, B4, HSU2⟩)
              case measure => simp [intOf]; omega
             | false =>
              have HU := Asd.mk (show dz = fixUp lt b t dy from (shiftUp_stop lt b j dz (.inr hlv)).symm.trans (HSU.out.trans HUU.out.symm))
              have HL := Asd.mk (fun (x y : Int) (hx : x = ((j : Nat) : Int)) (hy : y = ((j - 1 : Nat) : Int)) => HB.out.lessI S.out HK.out (j) (j - 1) (by omega) (by omega) hx hy hlv)
              have c0 := HB.out.c0
              go_wp2_with fail
              refine (HL.out _ _ (by omega) (by omega)).mono ?_
              rintro e w3 ⟨rfl, hB3⟩
              clear HL c0
              clear hlv HSU HB
              have HB := Asd.mk hB3
              clear hB3
              have HR2 := Asd.mk ((pi_go lt a b s i t dk hs5 HSC.out htb h50).symm.trans HR.out)
              rw [← HD.out, ← HU.out] at HR2
              go_wp2
              go_roundw
              case rel => first | exact ⟨t, s + 1, dz, congrArg (Value.int .i64) (by omega), congrArg (Value.int .i64) (by omega), by omega, by omega, by omega, HK, HB, HR2⟩ | ((repeat apply Exists.intro); refine ⟨?_, rfl⟩; exact ⟨t, s + 1, dz, congrArg (Value.int .i64) (by omega), congrArg (Value.int .i64) (by omega), by omega, by omega, by omega, HK, HB, HR2⟩)
              case measure => simp [intOf]; omega
            ·have HU := Asd.mk (show dz = fixUp lt b t dy from (shiftUp_stop lt b j dz (.inl hjb2)).symm.trans (HSU.out.trans HUU.out.symm))
             clear HSU
             have HR2 := Asd.mk ((pi_go lt a b s i t dk hs5 HSC.out htb h50).symm.trans HR.out)
             rw [← HD.out, ← HU.out] at HR2
             go_wp2
             go_roundw
             case rel => first | exact ⟨t, s + 1, dz, congrArg (Value.int .i64) (by omega), congrArg (Value.int .i64) (by omega), by omega, by omega, by omega, HK, HB, HR2⟩ | ((repeat apply Exists.intro); refine ⟨?_, rfl⟩; exact ⟨t, s + 1, dz, congrArg (Value.int .i64) (by omega), congrArg (Value.int .i64) (by omega), by omega, by omega, by omega, HK, HB, HR2⟩)
             case measure => simp [intOf]; omega
          ·obtain ⟨dz, hz⟩ : ∃ dz, dz = dy := ⟨_, rfl⟩
           have HU := Asd.mk (show dz = fixUp lt b t dy from by unfold fixUp; rw [if_neg hu2]; exact hz)
           rw [← hz] at HK HB
           clear hz
           have HR2 := Asd.mk ((pi_go lt a b s i t dk hs5 HSC.out htb h50).symm.trans HR.out)
           rw [← HD.out, ← HU.out] at HR2
           go_wp2
           go_roundw
           case rel => first | exact ⟨t, s + 1, dz, congrArg (Value.int .i64) (by omega), congrArg (Value.int .i64) (by omega), by omega, by omega, by omega, HK, HB, HR2⟩ | ((repeat apply Exists.intro); refine ⟨?_, rfl⟩; exact ⟨t, s + 1, dz, congrArg (Value.int .i64) (by omega), congrArg (Value.int .i64) (by omega), by omega, by omega, by omega, HK, HB, HR2⟩)
           case measure => simp [intOf]; omega
       ·obtain ⟨dy, hz⟩ : ∃ dy, dy = d1 := ⟨_, rfl⟩
        have HD := Asd.mk (show dy = fixDown lt a t (swp dk t (t - 1)) from by unfold fixDown; rw [if_neg hd2, hz]; exact H1.out)
        rw [← hz] at HK HB
        clear hz
        by_cases hu2 : 2 ≤ b - t
        ·have HUU := Asd.mk (show fixUp lt b t dy = shiftUp lt b (t + 1) dy from by unfold fixUp; rw [if_pos hu2])
         go_wp2
         try rw [show ((t : Int) == (b : Int)) = false from beq_eq_false_iff_ne.2 (by omega)]
         try rw [show decide (2 ≤ (b : Int) - (t : Int)) = true from decide_eq_true (by omega)]
         go_loopw [10] (fun vj w2 => ∃ (j : Nat) (dz : Array α), vj = .int .i64 (j : Int) ∧ t < j ∧ j ≤ b ∧ Asd (dz.size = size) ∧ Asd (Bx lb sb enc k blk off W dz w2) ∧ Asd (shiftUp lt b j dz = shiftUp lt b (t + 1) dy)) (fun vj _ => b - (intOf vj).toNat)
         case atStart => exact ⟨t + 1, dy, congrArg (Value.int .i64) (by omega), by omega, by omega, HK, HB, ⟨rfl⟩⟩
         case round =>
          clear HB HK
          obtain ⟨j, dz, rfl, htj, hjb, HK, HB, HSU⟩ := hrel
          by_cases hjb2 : j < b
          ·cases hlv : lt dz[j]! dz[j - 1]! with
           | true =>
            have HSU2 := Asd.mk ((shiftUp_go lt b j dz hjb2 hlv).symm.trans HSU.out)
            have HL := Asd.mk (fun (x y : Int) (hx : x = ((j : Nat) : Int)) (hy : y = ((j - 1 : Nat) : Int)) => HB.out.lessI S.out HK.out (j) (j - 1) (by omega) (by omega) hx hy hlv)
            have c0 := HB.out.c0
            go_wp2_with fail
            refine (HL.out _ _ (by omega) (by omega)).mono ?_
            rintro e w3 ⟨rfl, hB3⟩
            clear HL c0
            clear hlv HSU HB
            obtain ⟨w4, hrun, hB4⟩ := hB3.swapsI S.out HK.out (j) (j - 1) (by omega) (by omega) (j : Int) ((j : Int) - 1) rfl (by omega)
            have c1 := hB3.c1
            have B4 := Asd.mk hB4
            have HKB4 := Asd.mk ((size_swp dz (j) (j - 1)).trans HK.out)
            clear hB4
            clear hB3
            go_wp2
            go_roundw
            case rel => first | exact ⟨j + 1, swp dz j (j - 1), congrArg (Value.int .i64) (by omega), by omega, by omega, HKB4, B4, HSU2⟩ | ((repeat apply Exists.intro); refine ⟨?_, rfl⟩; exact ⟨j + 1, swp dz j (j - 1), congrArg (Value.int .i64) (by omega), by omega, by omega, HKB4, B4, HSU2⟩)
            case measure => simp [intOf]; omega
           | false =>
            have HU := Asd.mk (show dz = fixUp lt b t dy from (shiftUp_stop lt b j dz (.inr hlv)).symm.trans (HSU.out.trans HUU.out.symm))
            have HL := Asd.mk (fun (x y : Int) (hx : x = ((j : Nat) : Int)) (hy : y = ((j - 1 : Nat) : Int)) => HB.out.lessI S.out HK.out (j) (j - 1) (by omega) (by omega) hx hy hlv)
            have c0 := HB.out.c0
            go_wp2_with fail
            refine (HL.out _ _ (by omega) (by omega)).mono ?_
            rintro e w3 ⟨rfl, hB3⟩
            clear HL c0
            clear hlv HSU HB
            have HB := Asd.mk hB3
            clear hB3
            have HR2 := Asd.mk ((pi_go lt a b s i t dk hs5 HSC.out htb h50).symm.trans HR.out)
            rw [← HD.out, ← HU.out] at HR2
            go_wp2
            go_roundw
            case rel => first | exact ⟨t, s + 1, dz, congrArg (Value.int .i64) (by omega), congrArg (Value.int .i64) (by omega), by omega, by omega, by omega, HK, HB, HR2⟩ | ((repeat apply Exists.intro); refine ⟨?_, rfl⟩; exact ⟨t, s + 1, dz, congrArg (Value.int .i64) (by omega), congrArg (Value.int .i64) (by omega), by omega, by omega, by omega, HK, HB, HR2⟩)
            case measure => simp [intOf]; omega
          ·have HU := Asd.mk (show dz = fixUp lt b t dy from (shiftUp_stop lt b j dz (.inl hjb2)).symm.trans (HSU.out.trans HUU.out.symm))
           clear HSU
           have HR2 := Asd.mk ((pi_go lt a b s i t dk hs5 HSC.out htb h50).symm.trans HR.out)
           rw [← HD.out, ← HU.out] at HR2
           go_wp2
           go_roundw
           case rel => first | exact ⟨t, s + 1, dz, congrArg (Value.int .i64) (by omega), congrArg (Value.int .i64) (by omega), by omega, by omega, by omega, HK, HB, HR2⟩ | ((repeat apply Exists.intro); refine ⟨?_, rfl⟩; exact ⟨t, s + 1, dz, congrArg (Value.int .i64) (by omega), congrArg (Value.int .i64) (by omega), by omega, by omega, by omega, HK, HB, HR2⟩)
           case measure => simp [intOf]; omega
        ·exact absurd h50 (by omega)
    ·replace HSC := Asd.mk (HSC.out.trans (scanSorted_stop lt dk b t (.inl hlt)))
     have htb : t = b := by omega
     have t0 : ((t : Int) == (b : Int)) = true := beq_iff_eq.2 (by omega)
     have HE := Asd.mk (show RES = (dk, true) from HR.out.symm.trans (pi_true lt a b s i dk hs5 (HSC.out.trans htb)))
     clear HR
     go_wp2
     go_ret
     refine ⟨by rw [HE.out]; rfl, ?_⟩
     rw [HE.out]
     exact HB.out.sw
  ·have HE := Asd.mk (show RES = (dk, false) from by
    have e := HR.out
    rw [show 5 - s = 5 - 5 by omega] at e
    exact e.symm.trans (pi_end lt a b i dk))
   clear HR
   go_wp2
   go_ret
   refine ⟨by rw [HE.out]; rfl, ?_⟩
   rw [HE.out]
   exact HB.out.sw
end Go.Proofs.Ytlecpmgdoomngaa.M
end

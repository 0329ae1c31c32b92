/- Texts of the claim FnExactApplyEdit, part 31 of 47, joined: MSortPart2. No condition beyond those that stand at each. -/
import Derived.Test.YtlecpmgdoomngaaZFnExactApplyEdit24
import Derived.Sort.WalkC4
section
namespace Go.Proofs.Ytlecpmgdoomngaa.M
open Go.Shelf Go.RowKit Go.Lib Go.Sort
set_option linter.unusedVariables false
set_option linter.unusedSimpArgs false
variable {α : Type} [Inhabited α] {enc : α → List Value} {k blk off : Nat} {W w0 : World} {d : Array α} {lb sb : Array Value} {lt : α → α → Bool} {size : Nat}
set_option maxHeartbeats 16000000 in
set_option maxRecDepth 100000 in
theorem part_call (S0 : Srt lb sb enc k lt blk off size w0) (h : SWK enc k w0 blk off d W) (hs : d.size = size) (a b pivot : Nat) (hap : a ≤ pivot) (hpb : pivot < b) (hb : b ≤ size) :
  Calls Try.prog 63 #[.agg #[.func (.func 25) #[] lb, .func (.func 53) #[] sb], .int .i64 a, .int .i64 b, .int .i64 pivot] W fun e w' => e = .returned (.tuple #[.int .i64 ((partition lt d a b pivot).1 : Int), .bool (partition lt d a b pivot).2.1]) ∧ SWK enc k W blk off (partition lt d a b pivot).2.2 w' := by
 have S := Asd.mk (S0.on h hs)
 have hsz := S.out.sz
 have B0 := Bx.start (lb := lb) (sb := sb) (S0.holds h hs) (S0.blt h)
 obtain ⟨w1, hrun, hB1⟩ := B0.swapsI S.out hs a pivot (by omega) (by omega) (a : Int) (pivot : Int) rfl rfl
 have c1 := B0.c1
 have B1 := Asd.mk hB1
 have HK1 := Asd.mk ((size_swp d a pivot).trans hs)
 obtain ⟨RES, hR⟩ : ∃ RES, partition lt d a b pivot = RES := ⟨_, rfl⟩
 rw [hR]
 have HR := Asd.mk hR
 obtain ⟨dk, hD⟩ : ∃ dk, dk = swp d a pivot := ⟨_, rfl⟩
 rw [← hD] at B1 HK1
 obtain ⟨i, HI⟩ : ∃ i, i = a + 1 := ⟨_, rfl⟩
 obtain ⟨j, HJ⟩ : ∃ j, j = b - 1 := ⟨_, rfl⟩
 have HK := HK1
 have HB := B1
 have HD := Asd.mk hD
 have hij : i ≤ j + 1 := by omega
 clear S0 h hs hR B0 hB1 hD B1 HK1
 go_enter Try.func63, Try.ntmps63
 go_wp2
 go_loopw [10] (fun vi w1 => ∃ i' : Nat, vi = .int .i64 (i' : Int) ∧ i ≤ i' ∧ i' ≤ j + 1 ∧ Asd (Bx lb sb enc k blk off W dk w1) ∧ Asd (scanUp (fun x => lt x dk[a]!) dk j i' = scanUp (fun x => lt x dk[a]!) dk j i)) (fun vi _ => j + 1 - (intOf vi).toNat)
 case atStart => exact ⟨i, congrArg (Value.int .i64) (by omega), Nat.le_refl _, hij, HB, ⟨rfl⟩⟩
 case round =>
  clear HB
  obtain ⟨i', rfl, hii, hij', HB, hsc⟩ := hrel
  by_cases hle : i' ≤ j
  ·cases hlv : lt dk[i']! dk[a]! with
   | true =>
    have HSC := Asd.mk ((scanUp_go (fun x => lt x dk[a]!) dk j i' hle (by simp [hlv])).symm.trans hsc.out)
    have HL := Asd.mk (fun (x y : Int) (hx : x = ((i' : Nat) : Int)) (hy : y = ((a : Nat) : Int)) => HB.out.lessI S.out HK.out (i') (a) (by omega) (by omega) hx hy hlv)
    have c0 := HB.out.c0
    go_wp2_with fail
    refine (HL.out _ _ (by omega) (by omega)).mono ?_
    rintro e w3 ⟨rfl, hB3⟩
    have B3 := Asd.mk hB3
    clear hB3 HB HL c0 hsc hlv
    go_wp2
    go_roundw
    case rel => first | exact ⟨i' + 1, congrArg (Value.int .i64) (by omega), by omega, by omega, B3, HSC⟩ | ((repeat apply Exists.intro); refine ⟨?_, rfl⟩; exact ⟨i' + 1, congrArg (Value.int .i64) (by omega), by omega, by omega, B3, HSC⟩)
    case measure => simp [intOf]; omega
   | false =>
    have hi2 := Asd.mk ((scanUp_end (fun x => lt x dk[a]!) dk j i' (.inr (by simp [hlv]))).symm.trans hsc.out)
    have HL := Asd.mk (fun (x y : Int) (hx : x = ((i' : Nat) : Int)) (hy : y = ((a : Nat) : Int)) => HB.out.lessI S.out HK.out (i') (a) (by omega) (by omega) hx hy hlv)
    have c0 := HB.out.c0
    go_wp2_with fail
    refine (HL.out _ _ (by omega) (by omega)).mono ?_
    rintro e w3 ⟨rfl, hB3⟩
    replace HB := Asd.mk hB3
    clear hB3 HL c0 hsc hlv
    go_wp2
    go_loopw [11] (fun vj w2 => ∃ j' : Nat, vj = .int .i64 (j' : Int) ∧ j' ≤ j ∧ i' ≤ j' + 1 ∧ Asd (Bx lb sb enc k blk off W dk w2) ∧ Asd (scanDown (fun x => !lt x dk[a]!) dk i' j' = scanDown (fun x => !lt x dk[a]!) dk i' j)) (fun vj _ => (intOf vj).toNat)
    case atStart => exact ⟨j, congrArg (Value.int .i64) (by omega), Nat.le_refl _, hij', HB, ⟨rfl⟩⟩
    case round =>
     clear HB
     obtain ⟨j', rfl, hjj, hij2, HB, hsd⟩ := hrel
     by_cases hle2 : i' ≤ j'
     ·cases hlv2 : lt dk[j']! dk[a]! with
      | false =>
       have HSD := Asd.mk ((scanDown_go (fun x => !lt x dk[a]!) dk i' j' hle2 (by omega) (by simp [hlv2])).symm.trans hsd.out)
       have HL := Asd.mk (fun (x y : Int) (hx : x = ((j' : Nat) : Int)) (hy : y = ((a : Nat) : Int)) => HB.out.lessI S.out HK.out (j') (a) (by omega) (by omega) hx hy hlv2)
       have c0 := HB.out.c0
       go_wp2_with fail
       refine (HL.out _ _ (by omega) (by omega)).mono ?_
       rintro e w3 ⟨rfl, hB3⟩
       have B3 := Asd.mk hB3
       clear hB3 HB HL c0 hsd hlv2
       go_wp2
       go_roundw
       case rel => first | exact ⟨j' - 1, congrArg (Value.int .i64) (by omega), by omega, by omega, B3, HSD⟩ | ((repeat apply Exists.intro); refine ⟨?_, rfl⟩; exact ⟨j' - 1, congrArg (Value.int .i64) (by omega), by omega, by omega, B3, HSD⟩)
       case measure => simp [intOf]; omega
      | true =>
       have hj2 := Asd.mk ((scanDown_end (fun x => !lt x dk[a]!) dk i' j' (.inr (by simp [hlv2]))).symm.trans hsd.out)
       have HL := Asd.mk (fun (x y : Int) (hx : x = ((j' : Nat) : Int)) (hy : y = ((a : Nat) : Int)) => HB.out.lessI S.out HK.out (j') (a) (by omega) (by omega) hx hy hlv2)
       have c0 := HB.out.c0
       go_wp2_with fail
       refine (HL.out _ _ (by omega) (by omega)).mono ?_
       rintro e w3 ⟨rfl, hB3⟩
       clear HB HL c0 hsd hlv2
       have hlt3 := part_scans_lt lt a i j dk (by omega) hi2.out hj2.out hle2
       have e := part_first_go lt d a b pivot HI HJ HD.out hi2.out hj2.out (by omega)
       obtain ⟨RES2, hR2⟩ : ∃ RES2, partLoop lt a (i' + 1) (j' - 1) (swp dk i' j') = RES2 := ⟨_, rfl⟩
       rw [hR2] at e
       have HR := Asd.mk (show RES = (RES2.1, false, swp RES2.2 RES2.1 a) from HR.out.symm.trans e)
       have HR2 := Asd.mk hR2
       clear e hR2 hi2 hj2
       obtain ⟨w4, hrun, hB4⟩ := hB3.swapsI S.out HK.out (i') (j') (by omega) (by omega) (i' : Int) (j' : Int) rfl rfl
       have c1 := hB3.c1
       have B4 := Asd.mk hB4
       have HK4 := Asd.mk ((size_swp dk (i') (j')).trans HK.out)
       clear hB3 hB4
       go_wp2
       try rw [show decide (j' < i') = false from decide_eq_false (by omega)]
       go_loopw [10, 11] (fun vi vj wr => ∃ (i j : Nat) (dk : Array α), vi = .int .i64 (i : Int) ∧ vj = .int .i64 (j : Int) ∧ a < i ∧ i ≤ j + 1 ∧ j < b ∧ Asd (dk.size = size) ∧ Asd (Bx lb sb enc k blk off W dk wr) ∧ Asd (partLoop lt a i j dk = RES2)) (fun vi vj _ => (intOf vj).toNat + 1 - (intOf vi).toNat)
       case atStart => exact ⟨i' + 1, j' - 1, _, congrArg (Value.int .i64) (by omega), congrArg (Value.int .i64) (by omega), by omega, by omega, by omega, HK4, B4, HR2⟩
       case round =>
        clear B4 HK4 HR2 c1 hrun HK HD
        clear hlt3 hle2 hle hii hjj hij' hij2 hij
        obtain ⟨i, j, dk, rfl, rfl, hai, hij, hjb, HK, HB, HR2⟩ := hrel
        go_wp2
        go_loopw [10] (fun vi w1 => ∃ i' : Nat, vi = .int .i64 (i' : Int) ∧ i ≤ i' ∧ i' ≤ j + 1 ∧ Asd (Bx lb sb enc k blk off W dk w1) ∧ Asd (scanUp (fun x => lt x dk[a]!) dk j i' = scanUp (fun x => lt x dk[a]!) dk j i)) (fun vi _ => j + 1 - (intOf vi).toNat)
        case atStart => exact ⟨i, congrArg (Value.int .i64) (by omega), Nat.le_refl _, hij, HB, ⟨rfl⟩⟩
        case round =>
         clear HB
         obtain ⟨i', rfl, hii, hij', HB, hsc⟩ := hrel
         by_cases hle : i' ≤ j
         ·cases hlv : lt dk[i']! dk[a]! with
          | true =>
           have HSC := Asd.mk ((scanUp_go (fun x => lt x dk[a]!) dk j i' hle (by simp [hlv])).symm.trans hsc.out)
           have HL := Asd.mk (fun (x y : Int) (hx : x = ((i' : Nat) : Int)) (hy : y = ((a : Nat) : Int)) => HB.out.lessI S.out HK.out (i') (a) (by omega) (by omega) hx hy hlv)
           have c0 := HB.out.c0
           go_wp2_with fail
           refine (HL.out _ _ (by omega) (by omega)).mono ?_
           rintro e w3 ⟨rfl, hB3⟩
           have B3 := Asd.mk hB3
           clear hB3 HB HL c0 hsc hlv
           go_wp2
           go_roundw
           case rel => first | exact ⟨i' + 1, congrArg (Value.int .i64) (by omega), by omega, by omega, B3, HSC⟩ | ((repeat apply Exists.intro); refine ⟨?_, rfl⟩; exact ⟨i' + 1, congrArg (Value.int .i64) (by omega), by omega, by omega, B3, HSC⟩)
           case measure => simp [intOf]; omega
          | false =>
           have hi2 := Asd.mk ((scanUp_end (fun x => lt x dk[a]!) dk j i' (.inr (by simp [hlv]))).symm.trans hsc.out)
           have HL := Asd.mk (fun (x y : Int) (hx : x = ((i' : Nat) : Int)) (hy : y = ((a : Nat) : Int)) => HB.out.lessI S.out HK.out (i') (a) (by omega) (by omega) hx hy hlv)
           have c0 := HB.out.c0
           go_wp2_with fail
           refine (HL.out _ _ (by omega) (by omega)).mono ?_
           rintro e w3 ⟨rfl, hB3⟩
           replace HB := Asd.mk hB3
           clear hB3 HL c0 hsc hlv
           go_wp2
           go_loopw [11] (fun vj w2 => ∃ j' : Nat, vj = .int .i64 (j' : Int) ∧ j' ≤ j ∧ i' ≤ j' + 1 ∧ Asd (Bx lb sb enc k blk off W dk w2) ∧ Asd (scanDown (fun x => !lt x dk[a]!) dk i' j' = scanDown (fun x => !lt x dk[a]!) dk i' j)) (fun vj _ => (intOf vj).toNat)
           case atStart => exact ⟨j, congrArg (Value.int .i64) (by omega), Nat.le_refl _, hij', HB, ⟨rfl⟩⟩
           case round =>
            clear HB
            obtain ⟨j', rfl, hjj, hij2, HB, hsd⟩ := hrel
            by_cases hle2 : i' ≤ j'
            ·cases hlv2 : lt dk[j']! dk[a]! with
             | false =>
              have HSD := Asd.mk ((scanDown_go (fun x => !lt x dk[a]!) dk i' j' hle2 (by omega) (by simp [hlv2])).symm.trans hsd.out)
              have HL := Asd.mk (fun (x y : Int) (hx : x = ((j' : Nat) : Int)) (hy : y = ((a : Nat) : Int)) => HB.out.lessI S.out HK.out (j') (a) (by omega) (by omega) hx hy hlv2)
              have c0 := HB.out.c0
              go_wp2_with fail
              refine (HL.out _ _ (by omega) (by omega)).mono ?_
              rintro e w3 ⟨rfl, hB3⟩
              have B3 := Asd.mk hB3
              clear hB3 HB HL c0 hsd hlv2
              go_wp2
              go_roundw
              case rel => first | exact ⟨j' - 1, congrArg (Value.int .i64) (by omega), by omega, by omega, B3, HSD⟩ | ((repeat apply Exists.intro); refine ⟨?_, rfl⟩; exact ⟨j' - 1, congrArg (Value.int .i64) (by omega), by omega, by omega, B3, HSD⟩)
              case measure => simp [intOf]; omega
             | true =>
              have hj2 := Asd.mk ((scanDown_end (fun x => !lt x dk[a]!) dk i' j' (.inr (by simp [hlv2]))).symm.trans hsd.out)
              have HL := Asd.mk (fun (x y : Int) (hx : x = ((j' : Nat) : Int)) (hy : y = ((a : Nat) : Int)) => HB.out.lessI S.out HK.out (j') (a) (by omega) (by omega) hx hy hlv2)
              have c0 := HB.out.c0
              go_wp2_with fail
              refine (HL.out _ _ (by omega) (by omega)).mono ?_
              rintro e w3 ⟨rfl, hB3⟩
              clear HB HL c0 hsd hlv2
              have hlt3 := part_scans_lt lt a i j dk (by omega) hi2.out hj2.out hle2
              have HR3 := Asd.mk ((part_go lt a i j dk hi2.out hj2.out (by omega)).symm.trans HR2.out)
              obtain ⟨w4, hrun, hB4⟩ := hB3.swapsI S.out HK.out (i') (j') (by omega) (by omega) (i' : Int) (j' : Int) rfl rfl
              have c1 := hB3.c1
              have B4 := Asd.mk hB4
              have HK4 := Asd.mk ((size_swp dk (i') (j')).trans HK.out)
              clear hB3 hB4
              clear HR2
              go_wp2
              go_roundw
              case rel => first | exact ⟨i' + 1, j' - 1, swp dk i' j', congrArg (Value.int .i64) (by omega), congrArg (Value.int .i64) (by omega), by omega, by omega, by omega, HK4, B4, HR3⟩ | ((repeat apply Exists.intro); refine ⟨?_, rfl⟩; exact ⟨i' + 1, j' - 1, swp dk i' j', congrArg (Value.int .i64) (by omega), congrArg (Value.int .i64) (by omega), by omega, by omega, by omega, HK4, B4, HR3⟩)
              case measure => simp [intOf]; omega
            ·have hj2 := Asd.mk ((scanDown_end (fun x => !lt x dk[a]!) dk i' j' (.inl hle2)).symm.trans hsd.out)
             clear hsd
             have e := part_break lt a i j dk hi2.out hj2.out (by omega)
             have HE := Asd.mk (show RES2 = (j', dk) from HR2.out.symm.trans e)
             clear e HR2 hi2 hj2
             obtain ⟨w4, hrun, hB4⟩ := HB.out.swapsI S.out HK.out (j') (a) (by omega) (by omega) (j' : Int) (a : Int) rfl rfl
             have c1 := HB.out.c1
             have B4 := Asd.mk hB4
             clear hB4 HB
             go_wp2
             go_ret2
             exact ⟨by rw [HR.out, HE.out]; rfl, by rw [HR.out, HE.out]; exact B4.out.sw⟩
         ·have hi2 := Asd.mk ((scanUp_end (fun x => lt x dk[a]!) dk j i' (.inl hle)).symm.trans hsc.out)
          clear hsc
          go_wp2
          go_loopw [11] (fun vj w2 => ∃ j' : Nat, vj = .int .i64 (j' : Int) ∧ j' ≤ j ∧ i' ≤ j' + 1 ∧ Asd (Bx lb sb enc k blk off W dk w2) ∧ Asd (scanDown (fun x => !lt x dk[a]!) dk i' j' = scanDown (fun x => !lt x dk[a]!) dk i' j)) (fun vj _ => (intOf vj).toNat)
          case atStart => exact ⟨j, congrArg (Value.int .i64) (by omega), Nat.le_refl _, hij', HB, ⟨rfl⟩⟩
          case round =>
           clear HB
           obtain ⟨j', rfl, hjj, hij2, HB, hsd⟩ := hrel
           by_cases hle2 : i' ≤ j'
           ·exact absurd hle2 (by omega)
           ·have hj2 := Asd.mk ((scanDown_end (fun x => !lt x dk[a]!) dk i' j' (.inl hle2)).symm.trans hsd.out)
            clear hsd
            have e := part_break lt a i j dk hi2.out hj2.out (by omega)
            have HE := Asd.mk (show RES2 = (j', dk) from HR2.out.symm.trans e)
            clear e HR2 hi2 hj2
            obtain ⟨w4, hrun, hB4⟩ := HB.out.swapsI S.out HK.out (j') (a) (by omega) (by omega) (j' : Int) (a : Int) rfl rfl
            have c1 := HB.out.c1
            have B4 := Asd.mk hB4
            clear hB4 HB
            go_wp2
            go_ret2
            exact ⟨by rw [HR.out, HE.out]; rfl, by rw [HR.out, HE.out]; exact B4.out.sw⟩
     ·have hj2 := Asd.mk ((scanDown_end (fun x => !lt x dk[a]!) dk i' j' (.inl hle2)).symm.trans hsd.out)
      clear hsd
      have e := part_first_break lt d a b pivot HI HJ HD.out hi2.out hj2.out (by omega)
      have HE := Asd.mk (show RES = (j', true, swp dk j' a) from HR.out.symm.trans e)
      clear e HR hi2 hj2
      obtain ⟨w4, hrun, hB4⟩ := HB.out.swapsI S.out HK.out (j') (a) (by omega) (by omega) (j' : Int) (a : Int) rfl rfl
      have c1 := HB.out.c1
      have B4 := Asd.mk hB4
      clear hB4 HB
      go_wp2
      go_ret2
      exact ⟨by rw [HE.out]; rfl, by rw [HE.out]; exact B4.out.sw⟩
  ·have hi2 := Asd.mk ((scanUp_end (fun x => lt x dk[a]!) dk j i' (.inl hle)).symm.trans hsc.out)
   clear hsc
   go_wp2
   go_loopw [11] (fun vj w2 => ∃ j' : Nat, vj = .int .i64 (j' : Int) ∧ j' ≤ j ∧ i' ≤ j' + 1 ∧ Asd (Bx lb sb enc k blk off W dk w2) ∧ Asd (scanDown (fun x => !lt x dk[a]!) dk i' j' = scanDown (fun x => !lt x dk[a]!) dk i' j)) (fun vj _ => (intOf vj).toNat)
   case atStart => exact ⟨j, congrArg (Value.int .i64) (by omega), Nat.le_refl _, hij', HB, ⟨rfl⟩⟩
   case round =>
    clear HB
    obtain ⟨j', rfl, hjj, hij2, HB, hsd⟩ := hrel
    by_cases hle2 : i' ≤ j'
    ·exact absurd hle2 (by omega)
    ·have hj2 := Asd.mk ((scanDown_end (fun x => !lt x dk[a]!) dk i' j' (.inl hle2)).symm.trans hsd.out)
     clear hsd
     have e := part_first_break lt d a b pivot HI HJ HD.out hi2.out hj2.out (by omega)
     have HE := Asd.mk (show RES = (j', true, swp dk j' a) from HR.out.symm.trans e)
     clear e HR hi2 hj2
     obtain ⟨w4, hrun, hB4⟩ := HB.out.swapsI S.out HK.out (j') (a) (by omega) (by omega) (j' : Int) (a : Int) rfl rfl
     have c1 := HB.out.c1
     have B4 := Asd.mk hB4
     clear hB4 HB
     go_wp2
     go_ret2
     exact ⟨by rw [HE.out]; rfl, by rw [HE.out]; exact B4.out.sw⟩
end Go.Proofs.Ytlecpmgdoomngaa.M
end

/- Texts of the claim FnExactApplyEdit, part 25 of 47, joined: MSortIns. No condition beyond those that stand at each. -/
import Derived.Test.YtlecpmgdoomngaaZFnExactApplyEdit24
section
namespace Go.Proofs.Ytlecpmgdoomngaa.M
open Go.Shelf Go.RowKit Go.Lib Go.Sort
set_option linter.unusedVariables false
set_option linter.unusedSimpArgs false
variable {α : Type} [Inhabited α] {enc : α → List Value} {k blk off : Nat} {W w0 : World} {d : Array α} {lb sb : Array Value} {lt : α → α → Bool} {size : Nat}
set_option maxHeartbeats 4000000 in
set_option maxRecDepth 100000 in
theorem ins_call (S0 : Srt lb sb enc k lt blk off size w0) (h : SWK enc k w0 blk off d W) (hs : d.size = size) (a b : Nat) (hab : a ≤ b) (hb : b ≤ size) :
  Calls Try.prog 56 #[.agg #[.func (.func 25) #[] lb, .func (.func 53) #[] sb], .int .i64 a, .int .i64 b] W fun e w' => e = .returned (.tuple #[]) ∧ SWK enc k W blk off (insertionSort lt d a b) w' := by
 have S := Asd.mk (S0.on h hs)
 have hsz := S.out.sz
 have B0 := Asd.mk (Bx.start (lb := lb) (sb := sb) (S0.holds h hs) (S0.blt h))
 have HS0 := Asd.mk hs
 obtain ⟨RES, hR⟩ : ∃ RES, insertionSort lt d a b = RES := ⟨_, rfl⟩
 rw [hR]
 have HR := Asd.mk hR
 clear S0 h hs hR
 go_enter Try.func56, Try.ntmps56
 go_wp2
 go_loopw [6] (fun v6 wr => ∃ (i : Nat) (dk : Array α), v6 = .int .i64 i ∧ a < i ∧ i ≤ b + 1 ∧ Asd (dk.size = size) ∧ Asd (Bx lb sb enc k blk off W dk wr) ∧ Asd (insOuter lt a b i dk = RES)) (fun v6 _ => b + 1 - (intOf v6).toNat)
 case atStart => exact ⟨a + 1, d, by go_num, by omega, by omega, HS0, B0, HR⟩
 case round =>
  clear B0 HS0 HR
  obtain ⟨i, dk, rfl, hai, hib, HK, HB, HO⟩ := hrel
  by_cases hlt : i < b
  ·have HO2 := Asd.mk ((insOuter_go lt a b i dk hlt).symm.trans HO.out)
   go_wp2
   go_loopw [7] (fun v7 wr2 => ∃ (j : Nat) (dj : Array α), v7 = .int .i64 j ∧ a ≤ j ∧ j ≤ i ∧ Asd (dj.size = size) ∧ Asd (Bx lb sb enc k blk off W dj wr2) ∧ Asd (insInner lt a j dj = insInner lt a i dk)) (fun v7 _ => (intOf v7).toNat)
   case atStart => exact ⟨i, dk, rfl, by omega, Nat.le_refl _, HK, HB, ⟨rfl⟩⟩
   case round =>
    clear HB HO HK
    obtain ⟨j, dj, rfl, haj, hji, HK, HB, HI⟩ := hrel
    by_cases hja : a < j
    ·obtain ⟨jj, rfl⟩ : ∃ jj, j = jj + 1 := ⟨j - 1, by omega⟩
     have HL := Asd.mk (HB.out.less S.out HK.out (jj + 1) jj (by omega) (by omega))
     have c0 := HB.out.c0
     cases hlv : lt dj[jj + 1]! dj[jj]! with
     | true =>
      have HI2 := Asd.mk ((insInner_go lt a (jj + 1) dj hja hlv).symm.trans HI.out)
      rw [hlv] at HL
      clear hlv HI
      go_wp2_with fail
      refine HL.out.mono ?_
      rintro e w1 ⟨rfl, hB1⟩
      have B1 := Asd.mk hB1
      obtain ⟨w2, hrun, hB2⟩ := hB1.swaps S.out HK.out (jj + 1) jj (by omega) (by omega)
      have B2 := Asd.mk hB2
      have HK2 := Asd.mk ((size_swp dj (jj + 1) jj).trans HK.out)
      rw [show (((jj + 1 : Nat)) : Int) = (jj : Int) + 1 by omega] at hrun
      have c1 := hB1.c1
      clear hB1 hB2 HB c0 HL
      go_wp2
      go_roundw
      case rel => exact ⟨jj, swp dj (jj + 1) jj, by go_num, by omega, by omega, HK2, B2, HI2⟩
      case measure => simp [intOf]
     | false =>
      have HI2 := Asd.mk ((insInner_stop lt a (jj + 1) dj (.inr hlv)).symm.trans HI.out)
      rw [hlv] at HL
      clear hlv HI
      go_wp2_with fail
      refine HL.out.mono ?_
      rintro e w1 ⟨rfl, hB1⟩
      have B1 := Asd.mk hB1
      clear hB1 HB c0 HL
      go_wp2
      go_roundw
      case rel => exact ⟨i + 1, dj, by go_num, by omega, by omega, HK, B1, ⟨by rw [HI2.out]; exact HO2.out⟩⟩
      case measure => simp [intOf]; omega
    ·have HI2 := Asd.mk ((insInner_stop lt a j dj (.inl (by omega))).symm.trans HI.out)
     go_wp2
     go_roundw
     case rel => exact ⟨i + 1, dj, by go_num, by omega, by omega, HK, HB, ⟨by rw [HI2.out]; exact HO2.out⟩⟩
     case measure => simp [intOf]; omega
  ·have HE := Asd.mk ((insOuter_stop lt a b i dk hlt).symm.trans HO.out)
   go_wp2
   go_end0
   refine ⟨rfl, ?_⟩
   rw [← HE.out]
   exact HB.out.sw
end Go.Proofs.Ytlecpmgdoomngaa.M
end

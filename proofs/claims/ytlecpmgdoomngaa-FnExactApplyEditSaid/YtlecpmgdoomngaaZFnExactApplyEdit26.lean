/- Texts of the claim FnExactApplyEdit, part 26 of 47, joined: MSortHeap. No condition beyond those that stand at each. -/
import Derived.Test.YtlecpmgdoomngaaZFnExactApplyEdit24
section
namespace Go.Proofs.Ytlecpmgdoomngaa.M
open Go.Shelf Go.RowKit Go.Lib Go.Sort
set_option linter.unusedVariables false
set_option linter.unusedSimpArgs false
variable {α : Type} [Inhabited α] {enc : α → List Value} {k blk off : Nat} {W w0 : World} {d : Array α} {lb sb : Array Value} {lt : α → α → Bool} {size : Nat}
def Child (lt : α → α → Bool) (hi first r : Nat) (d : Array α) (c : Nat) : Prop := c = if 2 * r + 1 + 1 < hi && lt d[first + (2 * r + 1)]! d[first + (2 * r + 1) + 1]! then 2 * r + 1 + 1 else 2 * r + 1
theorem sift_none (lt : α → α → Bool) (hi first r : Nat) (d : Array α) (h : 2 * r + 1 ≥ hi) : siftDown lt hi first r d = d := by rw [siftDown, dif_pos h]
theorem sift_cases (lt : α → α → Bool) (hi first r c : Nat) (d : Array α) (h : 2 * r + 1 < hi) (hc : Child lt hi first r d c) :
  siftDown lt hi first r d = if lt d[first + r]! d[first + c]! then siftDown lt hi first c (swp d (first + r) (first + c)) else d := by
 rw [siftDown, dif_neg (by omega)]
 unfold Child at hc
 cases h1 : (2 * r + 1 + 1 < hi && lt d[first + (2 * r + 1)]! d[first + (2 * r + 1) + 1]! : Bool) with
 | true =>
  rw [h1, if_pos rfl] at hc
  subst hc
  rw [if_pos rfl]
  have h2 : 2 * r + 2 < hi := by simp at h1; omega
  cases h3 : lt d[first + r]! d[first + (2 * r + 1 + 1)]! with
  | true => simp [h2]
  | false => simp
 | false =>
  rw [h1, if_neg (by decide)] at hc
  subst hc
  rw [if_neg (by decide)]
  cases h3 : lt d[first + r]! d[first + (2 * r + 1)]! <;> simp
theorem sift_down (lt : α → α → Bool) (hi first r c : Nat) (d : Array α) (h : 2 * r + 1 < hi) (hc : Child lt hi first r d c) (hl : lt d[first + r]! d[first + c]! = true) :
  siftDown lt hi first r d = siftDown lt hi first c (swp d (first + r) (first + c)) := by rw [sift_cases lt hi first r c d h hc, hl]; rfl
theorem sift_end (lt : α → α → Bool) (hi first r c : Nat) (d : Array α) (h : 2 * r + 1 < hi) (hc : Child lt hi first r d c) (hl : lt d[first + r]! d[first + c]! = false) :
  siftDown lt hi first r d = d := by rw [sift_cases lt hi first r c d h hc, hl]; rfl
set_option maxHeartbeats 8000000 in
set_option maxRecDepth 100000 in
theorem sift_call (S0 : Srt lb sb enc k lt blk off size w0) (h : SWK enc k w0 blk off d W) (hs : d.size = size) (lo hi first : Nat) (hlo : lo ≤ hi) (hf : first + hi ≤ size) :
  Calls Try.prog 64 #[.agg #[.func (.func 25) #[] lb, .func (.func 53) #[] sb], .int .i64 lo, .int .i64 hi, .int .i64 first] W fun e w' => e = .returned (.tuple #[]) ∧ SWK enc k W blk off (siftDown lt hi first lo d) w' := by
 have S := Asd.mk (S0.on h hs)
 have hsz := S.out.sz
 have B0 := Asd.mk (Bx.start (lb := lb) (sb := sb) (S0.holds h hs) (S0.blt h))
 have HS0 := Asd.mk hs
 obtain ⟨RES, hR⟩ : ∃ RES, siftDown lt hi first lo d = RES := ⟨_, rfl⟩
 rw [hR]
 have HR := Asd.mk hR
 clear S0 h hs hR
 go_enter Try.func64, Try.ntmps64
 go_wp2
 go_loopw [8, 9] (fun v8 v9 wr => ∃ (r : Nat) (dk : Array α), v8 = .int .i64 r ∧ r ≤ hi ∧ Asd (dk.size = size) ∧ Asd (Bx lb sb enc k blk off W dk wr) ∧ Asd (siftDown lt hi first r dk = RES)) (fun v8 _ _ => hi - (intOf v8).toNat)
 case atStart => exact ⟨lo, d, rfl, hlo, HS0, B0, HR⟩
 case round =>
  clear B0 HS0 HR hlo
  obtain ⟨r, dk, rfl, hrh, HK, HB, HR⟩ := hrel
  by_cases hch : 2 * r + 1 < hi
  ·by_cases hc2 : 2 * r + 1 + 1 < hi
   ·cases hl1 : lt dk[first + (2 * r + 1)]! dk[first + (2 * r + 1) + 1]! with
    | true =>
     have hcc : Child lt hi first r dk (2 * r + 1 + 1) := by unfold Child; rw [hl1]; simp [hc2]
     have HL1 := Asd.mk (fun (x y : Int) (hx : x = ((first + (2 * r + 1) : Nat) : Int)) (hy : y = ((first + (2 * r + 1) + 1 : Nat) : Int)) => HB.out.lessI S.out HK.out (first + (2 * r + 1)) (first + (2 * r + 1) + 1) (by omega) (by omega) hx hy hl1)
     have HCC := Asd.mk hcc
     have c0 := HB.out.c0
     clear hcc hl1
     go_wp2_with fail
     refine (HL1.out _ _ (by omega) (by omega)).mono ?_
     rintro e w2 ⟨rfl, hB2⟩
     replace HB := Asd.mk hB2
     have hcc := HCC.out
     clear hB2 HL1 c0 HCC
     cases hlv : lt dk[first + r]! dk[first + (2 * r + 1 + 1)]! with
     | true =>
      have HR2 := Asd.mk ((sift_down lt hi first r (2 * r + 1 + 1) dk hch hcc hlv).symm.trans HR.out)
      have HL := Asd.mk (fun (x y : Int) (hx : x = ((first + r : Nat) : Int)) (hy : y = ((first + (2 * r + 1 + 1) : Nat) : Int)) => HB.out.lessI S.out HK.out (first + r) (first + (2 * r + 1 + 1)) (by omega) (by omega) hx hy hlv)
      have c0 := HB.out.c0
      clear hlv HR hcc
      go_wp2_with fail
      refine (HL.out _ _ (by omega) (by omega)).mono ?_
      rintro e w3 ⟨rfl, hB3⟩
      have c1 := hB3.c1
      obtain ⟨w4, hrun, hB4⟩ := hB3.swapsI S.out HK.out (first + r) (first + (2 * r + 1 + 1)) (by omega) (by omega) ((first : Int) + (r : Int)) ((first : Int) + (2 * (r : Int) + 1 + 1)) (by omega) (by omega)
      have B4 := Asd.mk hB4
      have HK2 := Asd.mk ((size_swp dk (first + r) (first + (2 * r + 1 + 1))).trans HK.out)
      clear hB3 hB4 HB HL c0
      go_wp2
      go_roundw
      case rel => exact ⟨2 * r + 1 + 1, swp dk (first + r) (first + (2 * r + 1 + 1)), congrArg (Value.int .i64) (by omega), by omega, HK2, B4, HR2⟩
      case measure => simp [intOf]; omega
     | false =>
      have HR2 := Asd.mk ((sift_end lt hi first r (2 * r + 1 + 1) dk hch hcc hlv).symm.trans HR.out)
      have HL := Asd.mk (fun (x y : Int) (hx : x = ((first + r : Nat) : Int)) (hy : y = ((first + (2 * r + 1 + 1) : Nat) : Int)) => HB.out.lessI S.out HK.out (first + r) (first + (2 * r + 1 + 1)) (by omega) (by omega) hx hy hlv)
      have c0 := HB.out.c0
      clear hlv HR hcc
      go_wp2_with fail
      refine (HL.out _ _ (by omega) (by omega)).mono ?_
      rintro e w3 ⟨rfl, hB3⟩
      have B3 := Asd.mk hB3
      clear hB3 HB HL c0
      go_wp2
      (try simp only [Exit.inBlock, Exit.then])
      refine bodyPost_ret (results_none rfl _ _ _) rfl ⟨rfl, ?_⟩
      rw [← HR2.out]
      exact B3.out.sw
    | false =>
     have hcc : Child lt hi first r dk (2 * r + 1) := by unfold Child; rw [hl1]; simp
     have HL1 := Asd.mk (fun (x y : Int) (hx : x = ((first + (2 * r + 1) : Nat) : Int)) (hy : y = ((first + (2 * r + 1) + 1 : Nat) : Int)) => HB.out.lessI S.out HK.out (first + (2 * r + 1)) (first + (2 * r + 1) + 1) (by omega) (by omega) hx hy hl1)
     have HCC := Asd.mk hcc
     have c0 := HB.out.c0
     clear hcc hl1
     go_wp2_with fail
     refine (HL1.out _ _ (by omega) (by omega)).mono ?_
     rintro e w2 ⟨rfl, hB2⟩
     replace HB := Asd.mk hB2
     have hcc := HCC.out
     clear hB2 HL1 c0 HCC
     cases hlv : lt dk[first + r]! dk[first + (2 * r + 1)]! with
     | true =>
      have HR2 := Asd.mk ((sift_down lt hi first r (2 * r + 1) dk hch hcc hlv).symm.trans HR.out)
      have HL := Asd.mk (fun (x y : Int) (hx : x = ((first + r : Nat) : Int)) (hy : y = ((first + (2 * r + 1) : Nat) : Int)) => HB.out.lessI S.out HK.out (first + r) (first + (2 * r + 1)) (by omega) (by omega) hx hy hlv)
      have c0 := HB.out.c0
      clear hlv HR hcc
      go_wp2_with fail
      refine (HL.out _ _ (by omega) (by omega)).mono ?_
      rintro e w3 ⟨rfl, hB3⟩
      have c1 := hB3.c1
      obtain ⟨w4, hrun, hB4⟩ := hB3.swapsI S.out HK.out (first + r) (first + (2 * r + 1)) (by omega) (by omega) ((first : Int) + (r : Int)) ((first : Int) + (2 * (r : Int) + 1)) (by omega) (by omega)
      have B4 := Asd.mk hB4
      have HK2 := Asd.mk ((size_swp dk (first + r) (first + (2 * r + 1))).trans HK.out)
      clear hB3 hB4 HB HL c0
      go_wp2
      go_roundw
      case rel => exact ⟨2 * r + 1, swp dk (first + r) (first + (2 * r + 1)), congrArg (Value.int .i64) (by omega), by omega, HK2, B4, HR2⟩
      case measure => simp [intOf]; omega
     | false =>
      have HR2 := Asd.mk ((sift_end lt hi first r (2 * r + 1) dk hch hcc hlv).symm.trans HR.out)
      have HL := Asd.mk (fun (x y : Int) (hx : x = ((first + r : Nat) : Int)) (hy : y = ((first + (2 * r + 1) : Nat) : Int)) => HB.out.lessI S.out HK.out (first + r) (first + (2 * r + 1)) (by omega) (by omega) hx hy hlv)
      have c0 := HB.out.c0
      clear hlv HR hcc
      go_wp2_with fail
      refine (HL.out _ _ (by omega) (by omega)).mono ?_
      rintro e w3 ⟨rfl, hB3⟩
      have B3 := Asd.mk hB3
      clear hB3 HB HL c0
      go_wp2
      (try simp only [Exit.inBlock, Exit.then])
      refine bodyPost_ret (results_none rfl _ _ _) rfl ⟨rfl, ?_⟩
      rw [← HR2.out]
      exact B3.out.sw
   ·have hcc : Child lt hi first r dk (2 * r + 1) := by unfold Child; rw [decide_eq_false hc2]; rfl
    cases hlv : lt dk[first + r]! dk[first + (2 * r + 1)]! with
    | true =>
     have HR2 := Asd.mk ((sift_down lt hi first r (2 * r + 1) dk hch hcc hlv).symm.trans HR.out)
     have HL := Asd.mk (fun (x y : Int) (hx : x = ((first + r : Nat) : Int)) (hy : y = ((first + (2 * r + 1) : Nat) : Int)) => HB.out.lessI S.out HK.out (first + r) (first + (2 * r + 1)) (by omega) (by omega) hx hy hlv)
     have c0 := HB.out.c0
     clear hlv HR hcc
     go_wp2_with fail
     refine (HL.out _ _ (by omega) (by omega)).mono ?_
     rintro e w3 ⟨rfl, hB3⟩
     have c1 := hB3.c1
     obtain ⟨w4, hrun, hB4⟩ := hB3.swapsI S.out HK.out (first + r) (first + (2 * r + 1)) (by omega) (by omega) ((first : Int) + (r : Int)) ((first : Int) + (2 * (r : Int) + 1)) (by omega) (by omega)
     have B4 := Asd.mk hB4
     have HK2 := Asd.mk ((size_swp dk (first + r) (first + (2 * r + 1))).trans HK.out)
     clear hB3 hB4 HB HL c0
     go_wp2
     go_roundw
     case rel => exact ⟨2 * r + 1, swp dk (first + r) (first + (2 * r + 1)), congrArg (Value.int .i64) (by omega), by omega, HK2, B4, HR2⟩
     case measure => simp [intOf]; omega
    | false =>
     have HR2 := Asd.mk ((sift_end lt hi first r (2 * r + 1) dk hch hcc hlv).symm.trans HR.out)
     have HL := Asd.mk (fun (x y : Int) (hx : x = ((first + r : Nat) : Int)) (hy : y = ((first + (2 * r + 1) : Nat) : Int)) => HB.out.lessI S.out HK.out (first + r) (first + (2 * r + 1)) (by omega) (by omega) hx hy hlv)
     have c0 := HB.out.c0
     clear hlv HR hcc
     go_wp2_with fail
     refine (HL.out _ _ (by omega) (by omega)).mono ?_
     rintro e w3 ⟨rfl, hB3⟩
     have B3 := Asd.mk hB3
     clear hB3 HB HL c0
     go_wp2
     (try simp only [Exit.inBlock, Exit.then])
     refine bodyPost_ret (results_none rfl _ _ _) rfl ⟨rfl, ?_⟩
     rw [← HR2.out]
     exact B3.out.sw
  ·have HE := Asd.mk ((sift_none lt hi first r dk (by omega)).symm.trans HR.out)
   go_wp2
   go_end0
   refine ⟨rfl, ?_⟩
   rw [← HE.out]
   exact HB.out.sw
end Go.Proofs.Ytlecpmgdoomngaa.M
end

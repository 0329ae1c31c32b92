/- Texts of the claim FnExactApplyEdit, part 27 of 47, joined: MSortHeap2. No condition beyond those that stand at each. -/
import Derived.Test.YtlecpmgdoomngaaZFnExactApplyEdit26
section
namespace Go.Proofs.Ytlecpmgdoomngaa.M
open Go.Shelf Go.RowKit Go.Lib Go.Sort
set_option linter.unusedVariables false
set_option linter.unusedSimpArgs false
variable {α : Type} [Inhabited α] {enc : α → List Value} {k blk off : Nat} {W w0 : World} {d : Array α} {lb sb : Array Value} {lt : α → α → Bool} {size : Nat}
theorem sift_size (lt : α → α → Bool) (hi first : Nat) : ∀ (n r : Nat) (d : Array α), hi - r ≤ n → (siftDown lt hi first r d).size = d.size := by
 intro n
 induction n with
 | zero => intro r d h; rw [sift_none lt hi first r d (by omega)]
 | succ n ih =>
  intro r d h
  by_cases hc : 2 * r + 1 < hi
  ·obtain ⟨c, hcc⟩ : ∃ c, Child lt hi first r d c := ⟨_, rfl⟩
   have hge : r < c := by
    unfold Child at hcc
    split at hcc <;> omega
   rw [sift_cases lt hi first r c d hc hcc]
   split
   ·rw [ih c _ (by omega), size_swp]
   ·rfl
  ·rw [sift_none lt hi first r d (by omega)]
theorem Bx.sift {W1 : World} (h : Bx lb sb enc k blk off W d W1) (S : Srt lb sb enc k lt blk off size W) (hs : d.size = size) (lo hi first : Nat) (hlo : lo ≤ hi) (hf : first + hi ≤ size) {x y z : Int} (hx : x = (lo : Int)) (hy : y = (hi : Int)) (hz : z = (first : Int)) :
  Calls Try.prog 64 #[.agg #[.func (.func 25) #[] lb, .func (.func 53) #[] sb], .int .i64 x, .int .i64 y, .int .i64 z] W1 fun e w' => e = .returned (.tuple #[]) ∧ Bx lb sb enc k blk off W (siftDown lt hi first lo d) w' := by
 subst hx hy hz
 exact (sift_call S h.sw hs lo hi first hlo hf).mono fun e w' hh => ⟨hh.1, h.next hh.2 (sift_size lt hi first _ lo d (Nat.le_refl _))⟩
set_option maxHeartbeats 8000000 in
set_option maxRecDepth 100000 in
theorem heap_call (S0 : Srt lb sb enc k lt blk off size w0) (h : SWK enc k w0 blk off d W) (hs : d.size = size) (a b : Nat) (hab : a < b) (hb : b ≤ size) :
  Calls Try.prog 57 #[.agg #[.func (.func 25) #[] lb, .func (.func 53) #[] sb], .int .i64 a, .int .i64 b] W fun e w' => e = .returned (.tuple #[]) ∧ SWK enc k W blk off (heapSort lt d a b) w' := by
 have S := Asd.mk (S0.on h hs)
 have hsz := S.out.sz
 have B0 := Asd.mk (Bx.start (lb := lb) (sb := sb) (S0.holds h hs) (S0.blt h))
 have HS0 := Asd.mk hs
 obtain ⟨RES, hR⟩ : ∃ RES, heapSort lt d a b = RES := ⟨_, rfl⟩
 rw [hR]
 obtain ⟨MID, hM⟩ : ∃ MID, heapBuild lt (b - a) a ((b - a - 1) / 2 + 1) d = MID := ⟨_, rfl⟩
 have HM := Asd.mk hM
 have HR := Asd.mk (show heapPop lt a (b - a) MID = RES from by rw [← hM]; exact hR)
 clear S0 h hs hR hM
 go_enter Try.func57, Try.ntmps57
 go_wp2
 go_loopw [9] (fun v9 wr => ∃ (kk : Nat) (dk : Array α), v9 = .int .i64 ((kk : Int) - 1) ∧ kk ≤ b - a ∧ Asd (dk.size = size) ∧ Asd (Bx lb sb enc k blk off W dk wr) ∧ Asd (heapBuild lt (b - a) a kk dk = MID)) (fun v9 _ => (intOf v9 + 1).toNat)
 case atStart => exact ⟨(b - a - 1) / 2 + 1, d, congrArg (Value.int .i64) (by omega), by omega, HS0, B0, HM⟩
 case round =>
  clear B0 HS0 HM
  obtain ⟨kk, dk, rfl, hkk, HK, HB, HM⟩ := hrel
  have c0 := HB.out.c0
  have c1 := HB.out.c1
  cases kk with
  | zero =>
   have HE := Asd.mk (show dk = MID from HM.out)
   clear HM
   rw [show (((0 : Nat) : Int) - 1) = -1 from rfl]
   clear c0 c1
   go_wp2
   go_loopw [10] (fun v10 wr => ∃ (kk : Nat) (dk : Array α), v10 = .int .i64 ((kk : Int) - 1) ∧ kk ≤ b - a ∧ Asd (dk.size = size) ∧ Asd (Bx lb sb enc k blk off W dk wr) ∧ Asd (heapPop lt a kk dk = RES)) (fun v10 _ => (intOf v10 + 1).toNat)
   case atStart => exact ⟨b - a, dk, congrArg (Value.int .i64) (by omega), Nat.le_refl _, HK, HB, ⟨by rw [HE.out]; exact HR.out⟩⟩
   case round =>
    clear HB HK HE HR
    obtain ⟨kk, dk, rfl, hkk, HK, HB, HR⟩ := hrel
    cases kk with
    | zero =>
     have HE := Asd.mk (show dk = RES from HR.out)
     go_wp2
     go_end0
     refine ⟨rfl, ?_⟩
     rw [← HE.out]
     exact HB.out.sw
    | succ kk =>
     have c0 := HB.out.c0
     have c1 := HB.out.c1
     obtain ⟨w2, hrun, hB2⟩ := HB.out.swapsI S.out HK.out a (a + kk) (by omega) (by omega) (a : Int) ((a : Int) + (kk : Int)) rfl (by omega)
     have HK2 := Asd.mk ((size_swp dk a (a + kk)).trans HK.out)
     have d0 := hB2.c0
     have d1 := hB2.c1
     have HL := Asd.mk (fun (x y z : Int) (hx : x = ((0 : Nat) : Int)) (hy : y = (kk : Int)) (hz : z = (a : Int)) => hB2.sift S.out HK2.out 0 kk a (Nat.zero_le _) (by omega) hx hy hz)
     clear hB2 HB
     go_wp2_with fail
     refine (HL.out _ _ _ (by omega) (by omega) (by omega)).mono ?_
     rintro e w3 ⟨rfl, hB3⟩
     have B3 := Asd.mk hB3
     have HK3 := Asd.mk ((sift_size lt kk a _ 0 (swp dk a (a + kk)) (Nat.le_refl _)).trans HK2.out)
     clear hB3 HL c0 c1 d0 d1 HK HK2 hrun
     go_wp2
     go_roundw
     case rel => exact ⟨kk, _, congrArg (Value.int .i64) (by omega), by omega, HK3, B3, HR⟩
     case measure => simp [intOf]
  | succ kk =>
   have HL := Asd.mk (fun (x y z : Int) (hx : x = (kk : Int)) (hy : y = ((b - a : Nat) : Int)) (hz : z = (a : Int)) => HB.out.sift S.out HK.out kk (b - a) a (by omega) (by omega) hx hy hz)
   clear HR
   go_wp2_with fail
   refine (HL.out _ _ _ (by omega) (by omega) (by omega)).mono ?_
   rintro e w3 ⟨rfl, hB3⟩
   have B3 := Asd.mk hB3
   have HK3 := Asd.mk ((sift_size lt (b - a) a _ kk dk (Nat.le_refl _)).trans HK.out)
   clear hB3 HL c0 c1 HK HB
   go_wp2
   go_roundw
   case rel => exact ⟨kk, _, congrArg (Value.int .i64) (by omega), by omega, HK3, B3, HM⟩
   case measure => simp [intOf]
end Go.Proofs.Ytlecpmgdoomngaa.M
end

/- The varints: what the specification's and the program's PutVarint print to, in plain numbers. -/
import Derived.Test.YtjneloehdcecnaaPspecPutVarint
import Derived.Test.YtjneloehdcecnaaPimplPutVarint
namespace Go.Proofs.Ytjneloehdcecnaa.M
open Go.RowKit Go.Proofs.Ytjneloehdcecnaa.P Go.Proofs.YtjneloehdcecnaaW.PrintWords Go.Proofs.YtjneloehdcecnaaW.PrintLast
set_option linter.unusedVariables false

/-- The groups of seven bits, the lowest first. -/
def vl (n : Nat) : List Int := if n < 128 then [(n : Int)] else ((n % 128 + 128 : Nat) : Int) :: vl (n / 128)
def put (n : Int) : ByteArray := if n < 0 ∨ n > 72057594037927935 then ⟨#[]⟩ else strOfNums (vl n.toNat)

theorem strOfNums_append (xs ys : List Int) : strOfNums xs ++ strOfNums ys = strOfNums (xs ++ ys) := by
  apply ByteArray.ext
  simp [strOfNums, ByteArray.data_append]
theorem strOfNums_size (xs : List Int) : (strOfNums xs).size = xs.length := by simp [strOfNums, ByteArray.size]

theorem vl_length (m : Nat) : ∀ n, n < 128 ^ m → (vl n).length ≤ m ∨ m = 0 := by
  induction m with
  | zero => intro n h; right; rfl
  | succ m ih =>
    intro n h
    left
    rw [vl]
    split
    · simp
    · rename_i h1
      have hd : n / 128 < 128 ^ m := by rw [Nat.div_lt_iff_lt_mul (by omega)]; rwa [Nat.pow_succ] at h
      rcases ih (n / 128) hd with h2 | h2
      · simp; omega
      · subst h2
        simp at hd
        omega
theorem vl_le9 (n : Nat) (h : n ≤ 72057594037927935) : (vl n).length ≤ 8 := by
  rcases vl_length 8 n (by have : (128 : Nat) ^ 8 = 72057594037927936 := by decide
                           omega) with h1 | h1
  · exact h1
  · omega

theorem wrap_id {x : Int} (h0 : -9223372036854775808 ≤ x) (h1 : x ≤ 9223372036854775807) : wrap64 x = x := by unfold wrap64; omega

theorem put_step (n : Nat) (h0 : 128 ≤ n) (h1 : n ≤ 72057594037927935) : put (n : Int) = strOfNums [((n % 128 + 128 : Nat) : Int)] ++ put ((n / 128 : Nat) : Int) := by
  unfold put
  rw [if_neg (by omega), if_neg (by omega), strOfNums_append, Int.toNat_natCast, Int.toNat_natCast]
  conv => lhs; rw [vl, if_neg (by omega)]
  rfl
theorem put_last (n : Nat) (h0 : n < 128) : put (n : Int) = strOfNums [(n : Int)] := by
  unfold put
  rw [if_neg (by omega), Int.toNat_natCast, vl, if_pos h0]
theorem put_size (n : Int) : (put n).size ≤ 8 := by
  unfold put
  split
  · simp [ByteArray.size]
  · rw [strOfNums_size]
    exact vl_le9 _ (by omega)

theorem spec_put_bad (n : Int) (h : n < 0 ∨ n > 72057594037927935) : Ev (fun k => spec_PutVarint.f k n) (put n) := by
  have hp : put n = ⟨#[]⟩ := by unfold put; rw [if_pos h]
  rw [hp]
  refine Ev.step (f := fun k => spec_PutVarint.j0 k n true) (fun k => ?_) (Ev.step (f := fun _ => some ⟨#[]⟩) (fun k => ?_) (Ev.now _))
  · rw [spec_PutVarint.f]
    by_cases h1 : n < 0
    · rw [if_pos h1]
    · rw [if_neg h1, decide_eq_true (by omega)]
  · rw [spec_PutVarint.j0]; exact if_pos rfl

theorem spec_put_nat (m : Nat) : ∀ n : Nat, n < 128 ^ (m + 1) → n ≤ 72057594037927935 → Ev (fun k => spec_PutVarint.f k (n : Int)) (put (n : Int)) := by
  induction m with
  | zero =>
    intro n h h2
    rw [put_last n (by simpa using h)]
    refine Ev.step (f := fun k => spec_PutVarint.j0 k (n : Int) false) (fun k => ?_) (Ev.step (f := fun _ => some (strOfNums [(n : Int)])) (fun k => ?_) (Ev.now _))
    · rw [spec_PutVarint.f]; rw [if_neg (by omega), decide_eq_false (by omega)]
    · rw [spec_PutVarint.j0]; unfold spec_l2Byte.f
      rw [if_neg (by simp), if_pos (by omega)]
      simp only [Option.bind_some]
      rw [show ((n : Int)) % 256 = n by omega]
  | succ m ih =>
    intro n h h2
    by_cases hlt : n < 128
    · rw [put_last n hlt]
      refine Ev.step (f := fun k => spec_PutVarint.j0 k (n : Int) false) (fun k => ?_) (Ev.step (f := fun _ => some (strOfNums [(n : Int)])) (fun k => ?_) (Ev.now _))
      · rw [spec_PutVarint.f]; rw [if_neg (by omega), decide_eq_false (by omega)]
      · rw [spec_PutVarint.j0]; unfold spec_l2Byte.f
        rw [if_neg (by simp), if_pos (by omega)]
        simp only [Option.bind_some]
        rw [show ((n : Int)) % 256 = n by omega]
    · have hd : n / 128 < 128 ^ (m + 1) := by rw [Nat.div_lt_iff_lt_mul (by omega)]; rwa [Nat.pow_succ] at h
      have hi := ih (n / 128) hd (by omega)
      rw [put_step n (by omega) h2]
      refine Ev.step (f := fun k => spec_PutVarint.j0 k (n : Int) false) (fun k => ?_) (Ev.step (f := fun k => (spec_PutVarint.f k ((n / 128 : Nat) : Int)).bind fun t => if 1 + t.size ≤ 9223372036854775807 then some (strOfNums [((n % 128 + 128 : Nat) : Int)] ++ t) else none) (fun k => ?_) (Ev.bind hi ⟨0, fun _ _ => ?_⟩))
      · rw [spec_PutVarint.f]; rw [if_neg (by omega), decide_eq_false (by omega)]
      · rw [spec_PutVarint.j0]; unfold spec_l2Byte.f
        rw [if_neg (by simp), if_neg (by omega)]
        simp only [Option.bind_some]
        have e1 : wrap64 (Int.tdiv (n : Int) 128) = ((n / 128 : Nat) : Int) := by rw [Int.tdiv_eq_ediv_of_nonneg (by omega), wrap_id] <;> omega
        have e2 : wrap64 (Int.tmod (n : Int) 128 + 128) % 256 = ((n % 128 + 128 : Nat) : Int) := by rw [Int.tmod_eq_emod_of_nonneg (by omega), wrap_id] <;> omega
        rw [e1, e2, strOfNums_size]
        rfl
      · have := put_size ((n / 128 : Nat) : Int)
        exact if_pos (by omega)

theorem spec_put (n : Int) : Ev (fun k => spec_PutVarint.f k n) (put n) := by
  by_cases h : n < 0 ∨ n > 72057594037927935
  · exact spec_put_bad n h
  · obtain ⟨m, rfl⟩ := Int.eq_ofNat_of_zero_le (show 0 ≤ n by omega)
    refine spec_put_nat 7 m ?_ (by omega)
    have : (128 : Nat) ^ (7 + 1) = 72057594037927936 := by decide
    omega

theorem impl_put_loop (m : Nat) : ∀ (n : Nat) (xs : List Int), n < 128 ^ (m + 1) → n ≤ 72057594037927935 → xs.length + m + 2 ≤ 140737488355328 →
    Ev (fun k => impl_PutVarint.l0 k (n : Int) xs) (strOfNums (xs ++ vl n)) := by
  induction m with
  | zero =>
    intro n xs h h2 hl
    have hn : n < 128 := by simpa using h
    rw [vl, if_pos hn]
    refine Ev.step (f := fun _ => some (strOfNums (xs ++ [(n : Int)]))) (fun k => ?_) (Ev.now _)
    rw [impl_PutVarint.l0]
    rw [if_neg (by omega), if_pos (by omega), show ((n : Int)) % 256 = n by omega]
  | succ m ih =>
    intro n xs h h2 hl
    by_cases hlt : n < 128
    · rw [vl, if_pos hlt]
      refine Ev.step (f := fun _ => some (strOfNums (xs ++ [(n : Int)]))) (fun k => ?_) (Ev.now _)
      rw [impl_PutVarint.l0]
      rw [if_neg (by omega), if_pos (by omega), show ((n : Int)) % 256 = n by omega]
    · have hd : n / 128 < 128 ^ (m + 1) := by rw [Nat.div_lt_iff_lt_mul (by omega)]; rwa [Nat.pow_succ] at h
      have hi := ih (n / 128) (xs ++ [((n % 128 + 128 : Nat) : Int)]) hd (by omega) (by simp; omega)
      have e : xs ++ vl n = (xs ++ [((n % 128 + 128 : Nat) : Int)]) ++ vl (n / 128) := by
        conv => lhs; rw [vl, if_neg hlt]
        simp
      rw [e]
      refine Ev.step (fun k => ?_) hi
      rw [impl_PutVarint.l0]
      rw [if_pos (by omega), if_pos (by omega)]
      have e1 : wrap64 (Int.tdiv (n : Int) 128) = ((n / 128 : Nat) : Int) := by rw [Int.tdiv_eq_ediv_of_nonneg (by omega), wrap_id] <;> omega
      have e2 : wrap64 (Int.tmod (n : Int) 128 + 128) % 256 = ((n % 128 + 128 : Nat) : Int) := by rw [Int.tmod_eq_emod_of_nonneg (by omega), wrap_id] <;> omega
      rw [e1, e2]

theorem impl_put (n : Int) : Ev (fun k => impl_PutVarint.f k n) (put n) := by
  by_cases h : n < 0 ∨ n > 72057594037927935
  · have hp : put n = ⟨#[]⟩ := by unfold put; rw [if_pos h]
    rw [hp]
    refine Ev.congr (f := fun k => impl_PutVarint.j0 k n true) (fun k => ?_) (Ev.step (f := fun _ => some ⟨#[]⟩) (fun k => ?_) (Ev.now _))
    · rw [impl_PutVarint.f]
      by_cases h1 : n < 0
      · rw [if_pos h1]
      · rw [if_neg h1, decide_eq_true (by omega)]
    · rw [impl_PutVarint.j0]; exact if_pos rfl
  · have hp : put n = strOfNums (vl n.toNat) := by unfold put; rw [if_neg h]
    rw [hp]
    obtain ⟨m, rfl⟩ := Int.eq_ofNat_of_zero_le (show 0 ≤ n by omega)
    rw [Int.toNat_natCast]
    have hp : (128 : Nat) ^ (7 + 1) = 72057594037927936 := by decide
    refine Ev.congr (f := fun k => impl_PutVarint.j0 k (m : Int) false) (fun k => ?_) (Ev.step (fun k => ?_) (impl_put_loop 7 m [] (by omega) (by omega) (by simp)))
    · rw [impl_PutVarint.f]; rw [if_neg (by omega), decide_eq_false (by omega)]
    · rw [impl_PutVarint.j0]; rw [if_neg (by simp)]
end Go.Proofs.Ytjneloehdcecnaa.M

/- The varints read: what the specification's and the program's GetVarint print to, as one function of numbers. -/
import Derived.Test.YtjneloehdcecnaaPspecGetVarint
import Derived.Test.YtjneloehdcecnaaPimplGetVarint
import Derived.Test.YtjneloehdcecnaaMVarint
namespace Go.Proofs.Ytjneloehdcecnaa.M
open Go.RowKit Go.Proofs.Ytjneloehdcecnaa.P Go.Proofs.YtjneloehdcecnaaW.PrintWords Go.Proofs.YtjneloehdcecnaaW.PrintLast Go.Proofs.YtjneloehdcecnaaW.PrintMore
set_option linter.unusedVariables false

/-- One group of seven bits after the other: the number, the place behind it, and whether it is one. -/
def gl (s : ByteArray) (a : Nat) : Nat → Nat → Nat → Int × Int × Bool
  | 0, _, _ => (0, 0, false)
  | rem + 1, i, v =>
    if a + i < s.size then
      if bt s ((a + i : Nat) : Int) < 128 then
        (if 0 < i ∧ bt s ((a + i : Nat) : Int) = 0 then (0, 0, false) else (((v + (bt s ((a + i : Nat) : Int)).toNat * 128 ^ i : Nat) : Int), ((a + i + 1 : Nat) : Int), true))
      else gl s a rem (i + 1) (v + ((bt s ((a + i : Nat) : Int)).toNat - 128) * 128 ^ i)
    else (0, 0, false)
def get (s : ByteArray) (at_ : Int) : Int × Int × Bool := if at_ < 0 ∨ at_ ≥ s.size then (0, 0, false) else gl s at_.toNat 8 0 0

theorem or_i64 (a b : Nat) (ha : a < 2 ^ 63) (hb : b < 2 ^ 63) : Go.bits .or .i64 (a : Int) (b : Int) = ((a ||| b : Nat) : Int) := by
  have h := Nat.or_lt_two_pow ha hb
  have e : (IntKind.i64.bits) = 64 := rfl
  unfold Go.bits
  simp only [BitVec.ofInt_natCast, BitVec.toNat_or, BitVec.toNat_ofNat, e]
  rw [Nat.mod_eq_of_lt (by omega), Nat.mod_eq_of_lt (by omega)]
  exact IntWalk.i64_in _ (by omega)

theorem pow7 (i : Nat) : (128 : Nat) ^ i = 2 ^ (7 * i) := by
  rw [Nat.pow_mul]
theorem pow_le8 {i : Nat} (h : i ≤ 8) : (128 : Nat) ^ i ≤ 72057594037927936 := by
  have := Nat.pow_le_pow_right (n := 128) (by omega) h
  have e : (128 : Nat) ^ 8 = 72057594037927936 := by decide
  omega
theorem pow_le7 {i : Nat} (h : i ≤ 7) : (128 : Nat) ^ i ≤ 562949953421312 := by
  have := Nat.pow_le_pow_right (n := 128) (by omega) h
  have e : (128 : Nat) ^ 7 = 562949953421312 := by decide
  omega

theorem or_step (v d i : Nat) (hi : i ≤ 7) (hv : v < 128 ^ i) (hd : d < 128) : Go.bits .or .i64 (v : Int) (shl .i64 (d : Int) ((7 * i : Nat) : Int)) = ((v + d * 128 ^ i : Nat) : Int) := by
  have h7 := pow_le7 hi
  have hm : d * 128 ^ i ≤ 127 * 562949953421312 := Nat.mul_le_mul (by omega) h7
  have e1 : shl .i64 (d : Int) ((7 * i : Nat) : Int) = ((d * 128 ^ i : Nat) : Int) := by
    unfold shl
    have e : (IntKind.i64.bits) = 64 := rfl
    rw [e, Int.toNat_natCast, Nat.min_eq_left (by omega), show ((d : Int) * 2 ^ (7 * i)) = ((d * 128 ^ i : Nat) : Int) by rw [pow7]; simp]
    exact IntWalk.i64_in _ (by omega)
  rw [e1, or_i64 v _ (by omega) (by omega)]
  congr 1
  have := Nat.shiftLeft_add_eq_or_of_lt (i := 7 * i) (b := v) (by rw [← pow7]; exact hv) d
  rw [Nat.shiftLeft_eq, ← pow7] at this
  rw [Nat.or_comm, ← this, Nat.add_comm]

theorem bt_nat (s : ByteArray) (i : Int) : ∃ c : Nat, bt s i = (c : Int) ∧ c < 256 := by
  have := bt_range s i
  exact ⟨(bt s i).toNat, by omega, by omega⟩

theorem step_lt {v d i : Nat} (hv : v < 128 ^ i) (hd : d < 128) : v + d * 128 ^ i < 128 ^ (i + 1) := by
  rw [Nat.pow_succ]
  have : d * 128 ^ i ≤ 127 * 128 ^ i := Nat.mul_le_mul_right _ (by omega)
  omega

theorem impl_j2_last (k : Nat) (s : ByteArray) (x1 x7 x8 p q c r z : Int) (h1 : wrap64 (x1 + x8) = p) (h2 : 0 ≤ p) (h3 : p < (s.size : Int)) (h4 : wrap64 (7 * x8) = q) (h5 : 0 ≤ q) (h6 : wrap64 (bt s p) = c) (h7 : c < 128)
    (h8 : Go.bits .or .i64 x7 (shl .i64 (Int.tmod c 128) q) = r) (h9 : wrap64 (p + 1) = z) :
    impl_GetVarint.j2 (k + 1) s x1 x7 x8 true = if x8 > 0 then (if c = 0 then some (0, 0, false) else some (r, z, true)) else some (r, z, true) := by
  rw [impl_GetVarint.j2, if_pos rfl, h1, if_pos h2, if_pos h3, h4, if_pos h5, h6, if_pos h7, h8, h9]
theorem impl_j2_on (k : Nat) (s : ByteArray) (x1 x7 x8 p q c r z : Int) (h1 : wrap64 (x1 + x8) = p) (h2 : 0 ≤ p) (h3 : p < (s.size : Int)) (h4 : wrap64 (7 * x8) = q) (h5 : 0 ≤ q) (h6 : wrap64 (bt s p) = c) (h7 : ¬ c < 128)
    (h8 : Go.bits .or .i64 x7 (shl .i64 (Int.tmod c 128) q) = r) (h9 : wrap64 (x8 + 1) = z) :
    impl_GetVarint.j2 (k + 1) s x1 x7 x8 true = impl_GetVarint.l0 k s x1 r z := by
  rw [impl_GetVarint.j2, if_pos rfl, h1, if_pos h2, if_pos h3, h4, if_pos h5, h6, if_neg h7, h8, h9]
theorem impl_l0_in (k : Nat) (s : ByteArray) (x1 x7 x8 p : Int) (h0 : x8 < 8) (h1 : wrap64 (x1 + x8) = p) (h3 : p < (s.size : Int)) : impl_GetVarint.l0 (k + 1) s x1 x7 x8 = impl_GetVarint.j2 k s x1 x7 x8 true := by
  rw [impl_GetVarint.l0, if_pos h0, h1, decide_eq_true h3]
theorem impl_l0_out (k : Nat) (s : ByteArray) (x1 x7 x8 p : Int) (h0 : x8 < 8) (h1 : wrap64 (x1 + x8) = p) (h3 : ¬ p < (s.size : Int)) : impl_GetVarint.l0 (k + 1) s x1 x7 x8 = impl_GetVarint.j2 k s x1 x7 x8 false := by
  rw [impl_GetVarint.l0, if_pos h0, h1, decide_eq_false h3]
theorem spec_l0_in (k : Nat) (s : ByteArray) (x1 x7 x8 x9 p : Int) (h0 : x9 < 9) (h1 : wrap64 (x1 + x9) = p) (h3 : p < (s.size : Int)) : spec_GetVarint.l0 (k + 1) s x1 x7 x8 x9 = spec_GetVarint.j2 k s x1 x7 x8 x9 true := by
  rw [spec_GetVarint.l0, if_pos h0, h1, decide_eq_true h3]
theorem spec_l0_out (k : Nat) (s : ByteArray) (x1 x7 x8 x9 p : Int) (h0 : x9 < 9) (h1 : wrap64 (x1 + x9) = p) (h3 : ¬ p < (s.size : Int)) : spec_GetVarint.l0 (k + 1) s x1 x7 x8 x9 = spec_GetVarint.j2 k s x1 x7 x8 x9 false := by
  rw [spec_GetVarint.l0, if_pos h0, h1, decide_eq_false h3]
theorem spec_j2_last (k : Nat) (s : ByteArray) (x1 x7 x8 x9 p b m r y z : Int) (h1 : wrap64 (x1 + x9) = p) (h2 : 0 ≤ p) (h3 : p < (s.size : Int)) (h6 : bt s p = b) (h7 : b < 128) (h8 : wrap64 (wrap64 (Int.tmod b 128) * x8) = m) (h9 : wrap64 (x7 + m) = r) (h10 : wrap64 (x9 + 1) = y) (h11 : wrap64 (p + 1) = z) :
    spec_GetVarint.j2 (k + 1) s x1 x7 x8 x9 true = (spec_PutVarint.f k r).bind fun t => if (t.size : Int) = y then (if r ≤ 72057594037927935 then some (r, z, true) else some (0, 0, false)) else some (0, 0, false) := by
  rw [spec_GetVarint.j2, if_pos rfl, h1, if_pos h2, if_pos h3, h6, if_pos h7, h8, h9, h10, h11]
theorem spec_j2_on (k : Nat) (s : ByteArray) (x1 x7 x8 x9 p b m r y z : Int) (h1 : wrap64 (x1 + x9) = p) (h2 : 0 ≤ p) (h3 : p < (s.size : Int)) (h6 : bt s p = b) (h7 : ¬ b < 128) (h8 : wrap64 (wrap64 (Int.tmod b 128) * x8) = m) (h9 : wrap64 (x7 + m) = r) (h10 : wrap64 (x8 * 128) = y) (h11 : wrap64 (x9 + 1) = z) :
    spec_GetVarint.j2 (k + 1) s x1 x7 x8 x9 true = spec_GetVarint.l0 k s x1 r y z := by
  rw [spec_GetVarint.j2, if_pos rfl, h1, if_pos h2, if_pos h3, h6, if_neg h7, h8, h9, h10, h11]

theorem tmod_lo {c : Nat} (h : c < 128) : Int.tmod (c : Int) 128 = (c : Int) := by rw [Int.tmod_eq_emod_of_nonneg (by omega)]; omega
theorem tmod_hi {c : Nat} (h : ¬ c < 128) (h2 : c < 256) : Int.tmod (c : Int) 128 = ((c - 128 : Nat) : Int) := by rw [Int.tmod_eq_emod_of_nonneg (by omega)]; omega
theorem w_add {a i : Nat} (ha : a ≤ 1048576) (hi : i ≤ 9) : wrap64 ((a : Int) + (i : Int)) = ((a + i : Nat) : Int) := by rw [wrap_id] <;> omega
theorem w_succ {a : Nat} (ha : a ≤ 1048600) : wrap64 ((a : Int) + 1) = ((a + 1 : Nat) : Int) := by rw [wrap_id] <;> omega
theorem w_seven {i : Nat} (hi : i ≤ 9) : wrap64 (7 * (i : Int)) = ((7 * i : Nat) : Int) := by rw [wrap_id] <;> omega
theorem w_byte {c : Nat} (hc : c < 256) : wrap64 (c : Int) = (c : Int) := by rw [wrap_id] <;> omega
theorem ifs_last (i c : Nat) (r : Int × Int × Bool) : (if (i : Int) > 0 then (if (c : Int) = 0 then some (0, 0, false) else some r) else some r) = some (if 0 < i ∧ (c : Int) = 0 then (0, 0, false) else r) := by
  by_cases h0 : 0 < i
  · rw [if_pos (by omega)]
    by_cases h1 : (c : Int) = 0
    · rw [if_pos h1, if_pos ⟨h0, h1⟩]
    · rw [if_neg h1, if_neg (fun h => h1 h.2)]
  · rw [if_neg (by omega), if_neg (fun h => h0 h.1)]

theorem impl_get_loop (s : ByteArray) (a : Nat) (ha : a < s.size) (hs : s.size ≤ 1048576) : ∀ rem i v : Nat, i + rem = 8 → v < 128 ^ i →
    Ev (fun k => impl_GetVarint.l0 k s (a : Int) (v : Int) (i : Int)) (gl s a rem i v) := by
  intro rem
  induction rem with
  | zero =>
    intro i v hi hv
    refine Ev.step (f := fun k => impl_GetVarint.j2 k s (a : Int) (v : Int) (i : Int) false) (fun k => ?_) (Ev.step (f := fun _ => some (0, 0, false)) (fun k => ?_) (Ev.now _))
    · rw [impl_GetVarint.l0, if_neg (by omega)]
    · rw [impl_GetVarint.j2, if_neg (by simp)]
  | succ rem ih =>
    intro i v hi hv
    have h8 : (i : Int) < 8 := by omega
    by_cases hlt : a + i < s.size
    · obtain ⟨c, hc, hc2⟩ := bt_nat s ((a + i : Nat) : Int)
      have hp0 : 0 ≤ ((a + i : Nat) : Int) := by omega
      have hp1 : ((a + i : Nat) : Int) < (s.size : Int) := by omega
      have h70 : 0 ≤ ((7 * i : Nat) : Int) := by omega
      have ai : a ≤ 1048576 := by omega
      have a1 : a + i ≤ 1048600 := by omega
      have i9 : i ≤ 9 := by omega
      have i7 : i ≤ 7 := by omega
      rw [gl, if_pos hlt, hc, Int.toNat_natCast]
      by_cases hs1 : c < 128
      · have hcl : (c : Int) < 128 := by omega
        rw [if_pos hcl]
        refine Ev.step (f := fun k => impl_GetVarint.j2 k s (a : Int) (v : Int) (i : Int) true) (fun k => impl_l0_in k s _ _ _ _ h8 (w_add ai i9) hp1) (Ev.step (f := fun _ => some (if 0 < i ∧ (c : Int) = 0 then (0, 0, false) else (((v + c * 128 ^ i : Nat) : Int), ((a + i + 1 : Nat) : Int), true))) (fun k => ?_) (Ev.now _))
        rw [impl_j2_last k s _ _ _ _ _ (c : Int) ((v + c * 128 ^ i : Nat) : Int) _ (w_add ai i9) hp0 hp1 (w_seven i9) h70 (by rw [hc]; exact w_byte hc2) hcl (by rw [tmod_lo hs1]; exact or_step v c i i7 hv hs1) (w_succ a1)]
        exact ifs_last i c _
      · have hcl : ¬ (c : Int) < 128 := by omega
        rw [if_neg hcl]
        refine Ev.step (f := fun k => impl_GetVarint.j2 k s (a : Int) (v : Int) (i : Int) true) (fun k => impl_l0_in k s _ _ _ _ h8 (w_add ai i9) hp1) (Ev.step (fun k => ?_) (ih (i + 1) (v + (c - 128) * 128 ^ i) (by omega) (step_lt hv (by omega))))
        exact impl_j2_on k s _ _ _ _ _ (c : Int) _ _ (w_add ai i9) hp0 hp1 (w_seven i9) h70 (by rw [hc]; exact w_byte hc2) hcl (by rw [tmod_hi hs1 hc2]; exact or_step v (c - 128) i i7 hv (by omega)) (w_succ (by omega))
    · rw [gl, if_neg hlt]
      refine Ev.step (f := fun k => impl_GetVarint.j2 k s (a : Int) (v : Int) (i : Int) false) (fun k => impl_l0_out k s _ _ _ _ h8 (w_add (by omega) (by omega)) (by omega)) (Ev.step (f := fun _ => some (0, 0, false)) (fun k => ?_) (Ev.now _))
      rw [impl_GetVarint.j2, if_neg (by simp)]

theorem impl_get (s : ByteArray) (at_ : Int) (hs : s.size ≤ 1048576) : Ev (fun k => impl_GetVarint.f k s at_) (get s at_) := by
  by_cases h : at_ < 0 ∨ at_ ≥ s.size
  · have hg : get s at_ = (0, 0, false) := by unfold get; rw [if_pos h]
    rw [hg]
    refine Ev.congr (f := fun k => impl_GetVarint.j0 k s at_ true) (fun k => ?_) (Ev.step (f := fun _ => some (0, 0, false)) (fun k => ?_) (Ev.now _))
    · rw [impl_GetVarint.f]
      by_cases h1 : at_ < 0
      · rw [if_pos h1]
      · rw [if_neg h1, decide_eq_true (by omega)]
    · rw [impl_GetVarint.j0, if_pos rfl]
  · have hg : get s at_ = gl s at_.toNat 8 0 0 := by unfold get; rw [if_neg h]
    rw [hg]
    obtain ⟨a, rfl⟩ := Int.eq_ofNat_of_zero_le (show 0 ≤ at_ by omega)
    rw [Int.toNat_natCast]
    refine Ev.congr (f := fun k => impl_GetVarint.j0 k s (a : Int) false) (fun k => ?_) (Ev.step (fun k => ?_) (impl_get_loop s a (by omega) hs 8 0 0 rfl (by simp)))
    · rw [impl_GetVarint.f, if_neg (by omega), decide_eq_false (by omega)]
    · rw [impl_GetVarint.j0, if_neg (by simp)]; rfl

theorem vl_len_eq (i : Nat) : ∀ n, n < 128 ^ (i + 1) → (i = 0 ∨ 128 ^ i ≤ n) → (vl n).length = i + 1 := by
  induction i with
  | zero =>
    intro n h _
    rw [vl, if_pos (by simpa using h)]
    rfl
  | succ i ih =>
    intro n h h2
    have hp : 128 ≤ 128 ^ (i + 1) := by
      have := Nat.pow_le_pow_right (n := 128) (by omega) (show 1 ≤ i + 1 by omega)
      simpa using this
    have hn : 128 ^ (i + 1) ≤ n := by omega
    rw [vl, if_neg (by omega), List.length_cons, ih (n / 128) ?_ ?_]
    · rw [Nat.div_lt_iff_lt_mul (by omega)]; rwa [Nat.pow_succ] at h
    · right
      rw [Nat.le_div_iff_mul_le (by omega)]
      rwa [Nat.pow_succ] at hn

/-- At the last byte: is it as long as PutVarint would write it? -/
theorem put_fits (v c i : Nat) (hv : v < 128 ^ i) (hc : c < 128) (hi : i ≤ 7) : ((put ((v + c * 128 ^ i : Nat) : Int)).size : Int) = ((i + 1 : Nat) : Int) ↔ ¬ (0 < i ∧ c = 0) := by
  have hlt := step_lt hv hc
  have h8 := pow_le8 (show i + 1 ≤ 8 by omega)
  have e : put ((v + c * 128 ^ i : Nat) : Int) = strOfNums (vl (v + c * 128 ^ i)) := by
    unfold put
    rw [if_neg (by omega), Int.toNat_natCast]
  rw [e, strOfNums_size]
  constructor
  · rintro h ⟨h0, rfl⟩
    have := vl_length i (v + 0 * 128 ^ i) (by simpa using hv)
    omega
  · intro h
    rw [vl_len_eq i _ hlt ?_]
    by_cases h0 : i = 0
    · exact .inl h0
    · right
      have : 1 * 128 ^ i ≤ c * 128 ^ i := Nat.mul_le_mul_right _ (by omega)
      omega

theorem wrap_prod {c : Nat} {i : Nat} (hi : i ≤ 8) (hc : c < 128) : wrap64 ((c : Int) * ((128 ^ i : Nat) : Int)) = ((c * 128 ^ i : Nat) : Int) := by
  have h := pow_le8 hi
  have hm : c * 128 ^ i ≤ 127 * 72057594037927936 := Nat.mul_le_mul (by omega) h
  rw [← Int.natCast_mul, wrap_id] <;> omega

theorem spec_get_end (s : ByteArray) (x1 x7 x8 x9 : Int) : Ev (fun k => spec_GetVarint.j2 k s x1 x7 x8 x9 false) (0, 0, false) := by
  refine Ev.step (f := fun _ => some (0, 0, false)) (fun k => ?_) (Ev.now _)
  rw [spec_GetVarint.j2, if_neg (by simp)]

theorem w_sum {v m : Nat} (h : v + m ≤ 9223372036854775807) : wrap64 ((v : Int) + (m : Int)) = ((v + m : Nat) : Int) := by rw [wrap_id] <;> omega
theorem digit_prod {c i : Nat} (hi : i ≤ 8) (hc : c < 128) : wrap64 (wrap64 (c : Int) * ((128 ^ i : Nat) : Int)) = ((c * 128 ^ i : Nat) : Int) := by
  rw [w_byte (by omega)]
  exact wrap_prod hi hc
theorem sum_small {v d i : Nat} (hi : i ≤ 8) (hv : v < 128 ^ i) (hd : d < 128) : v + d * 128 ^ i ≤ 9223372036854775807 := by
  have h := pow_le8 hi
  have hm : d * 128 ^ i ≤ 127 * 72057594037927936 := Nat.mul_le_mul (by omega) h
  omega

/-- The ninth group is never taken. -/
theorem spec_get_ninth (s : ByteArray) (a v : Nat) (ha : a < s.size) (hs : s.size ≤ 1048576) (hv : v < 128 ^ 8) : Ev (fun k => spec_GetVarint.l0 k s (a : Int) (v : Int) ((128 ^ 8 : Nat) : Int) ((8 : Nat) : Int)) (0, 0, false) := by
  have h8 : (((8 : Nat) : Int)) < 9 := by omega
  have ai : a ≤ 1048576 := by omega
  by_cases hlt : a + 8 < s.size
  · obtain ⟨c, hc, hc2⟩ := bt_nat s ((a + 8 : Nat) : Int)
    have hp0 : 0 ≤ ((a + 8 : Nat) : Int) := by omega
    have hp1 : ((a + 8 : Nat) : Int) < (s.size : Int) := by omega
    have e9 : wrap64 (((8 : Nat) : Int) + 1) = ((9 : Nat) : Int) := w_succ (by omega)
    by_cases hs1 : c < 128
    · refine Ev.step (f := fun k => spec_GetVarint.j2 k s (a : Int) (v : Int) ((128 ^ 8 : Nat) : Int) ((8 : Nat) : Int) true) (fun k => spec_l0_in k s _ _ _ _ _ h8 (w_add ai (by omega)) hp1)
        (Ev.step (fun k => spec_j2_last k s _ _ _ _ _ (c : Int) _ _ _ _ (w_add ai (by omega)) hp0 hp1 hc (by omega) (by rw [tmod_lo hs1]; exact digit_prod (Nat.le_refl 8) hs1) (w_sum (sum_small (Nat.le_refl 8) hv hs1)) e9 (w_succ (by omega))) (Ev.bind (spec_put _) ⟨0, fun k _ => ?_⟩))
      generalize ((v + c * 128 ^ 8 : Nat) : Int) = z
      have hz := put_size z
      exact if_neg (by omega)
    · have hd : c - 128 < 128 := by omega
      refine Ev.step (f := fun k => spec_GetVarint.j2 k s (a : Int) (v : Int) ((128 ^ 8 : Nat) : Int) ((8 : Nat) : Int) true) (fun k => spec_l0_in k s _ _ _ _ _ h8 (w_add ai (by omega)) hp1)
        (Ev.step (fun k => spec_j2_on k s _ _ _ _ _ (c : Int) _ _ _ _ (w_add ai (by omega)) hp0 hp1 hc (by omega) (by rw [tmod_hi hs1 hc2]; exact digit_prod (Nat.le_refl 8) hd) (w_sum (sum_small (Nat.le_refl 8) hv hd)) rfl e9)
        (Ev.step (fun k => ?_) (spec_get_end s (a : Int) (((v + (c - 128) * 128 ^ 8 : Nat) : Int)) (wrap64 (((128 ^ 8 : Nat) : Int) * 128)) ((9 : Nat) : Int))))
      rw [spec_GetVarint.l0, if_neg (by omega)]
  · exact Ev.step (fun k => spec_l0_out k s _ _ _ _ _ h8 (w_add ai (by omega)) (by omega)) (spec_get_end s (a : Int) (v : Int) ((128 ^ 8 : Nat) : Int) ((8 : Nat) : Int))

theorem spec_get_loop (s : ByteArray) (a : Nat) (ha : a < s.size) (hs : s.size ≤ 1048576) : ∀ rem i v : Nat, i + rem = 8 → v < 128 ^ i →
    Ev (fun k => spec_GetVarint.l0 k s (a : Int) (v : Int) ((128 ^ i : Nat) : Int) (i : Int)) (gl s a rem i v) := by
  intro rem
  induction rem with
  | zero =>
    intro i v hi hv
    obtain rfl : i = 8 := by omega
    exact spec_get_ninth s a v ha hs hv
  | succ rem ih =>
    intro i v hi hv
    have i7 : i ≤ 7 := by omega
    have i8 : i ≤ 8 := by omega
    have i9 : i ≤ 9 := by omega
    have h9 : (i : Int) < 9 := by omega
    have ai : a ≤ 1048576 := by omega
    by_cases hlt : a + i < s.size
    · obtain ⟨c, hc, hc2⟩ := bt_nat s ((a + i : Nat) : Int)
      have hp0 : 0 ≤ ((a + i : Nat) : Int) := by omega
      have hp1 : ((a + i : Nat) : Int) < (s.size : Int) := by omega
      have e9 : wrap64 ((i : Int) + 1) = ((i + 1 : Nat) : Int) := w_succ (by omega)
      rw [gl, if_pos hlt, hc, Int.toNat_natCast]
      by_cases hs1 : c < 128
      · have hcl : (c : Int) < 128 := by omega
        rw [if_pos hcl]
        refine Ev.step (f := fun k => spec_GetVarint.j2 k s (a : Int) (v : Int) ((128 ^ i : Nat) : Int) (i : Int) true) (fun k => spec_l0_in k s _ _ _ _ _ h9 (w_add ai i9) hp1)
          (Ev.step (fun k => spec_j2_last k s _ _ _ _ _ (c : Int) _ _ _ _ (w_add ai i9) hp0 hp1 hc hcl (by rw [tmod_lo hs1]; exact digit_prod i8 hs1) (w_sum (sum_small i8 hv hs1)) e9 (w_succ (by omega))) (Ev.bind (spec_put _) ⟨0, fun k _ => ?_⟩))
        have hf := put_fits v c i hv hs1 i7
        have hlt2 := step_lt hv hs1
        have h8 := pow_le8 (show i + 1 ≤ 8 by omega)
        have hle : ((v + c * 128 ^ i : Nat) : Int) ≤ 72057594037927935 := by omega
        by_cases h0 : 0 < i ∧ c = 0
        · have h1 : 0 < i ∧ (c : Int) = 0 := ⟨h0.1, by omega⟩
          show (if _ then _ else _) = _
          rw [if_neg (by rw [hf]; exact not_not_intro h0), if_pos h1]
        · have h1 : ¬ (0 < i ∧ (c : Int) = 0) := fun h => h0 ⟨h.1, by omega⟩
          show (if _ then _ else _) = _
          rw [if_pos (hf.2 h0), if_pos hle, if_neg h1]
      · have hcl : ¬ (c : Int) < 128 := by omega
        have hd : c - 128 < 128 := by omega
        rw [if_neg hcl]
        refine Ev.step (f := fun k => spec_GetVarint.j2 k s (a : Int) (v : Int) ((128 ^ i : Nat) : Int) (i : Int) true) (fun k => spec_l0_in k s _ _ _ _ _ h9 (w_add ai i9) hp1)
          (Ev.step (fun k => ?_) (ih (i + 1) (v + (c - 128) * 128 ^ i) (by omega) (step_lt hv hd)))
        have e3 : wrap64 (((128 ^ i : Nat) : Int) * 128) = ((128 ^ (i + 1) : Nat) : Int) := by
          have h7 := pow_le7 i7
          rw [Nat.pow_succ]
          generalize 128 ^ i = z at h7
          rw [wrap_id] <;> omega
        exact spec_j2_on k s _ _ _ _ _ (c : Int) _ _ _ _ (w_add ai i9) hp0 hp1 hc hcl (by rw [tmod_hi hs1 hc2]; exact digit_prod i8 hd) (w_sum (sum_small i8 hv hd)) e3 e9
    · rw [gl, if_neg hlt]
      exact Ev.step (fun k => spec_l0_out k s _ _ _ _ _ h9 (w_add ai i9) (by omega)) (spec_get_end s (a : Int) (v : Int) ((128 ^ i : Nat) : Int) (i : Int))

theorem spec_get (s : ByteArray) (at_ : Int) (hs : s.size ≤ 1048576) : Ev (fun k => spec_GetVarint.f k s at_) (get s at_) := by
  by_cases h : at_ < 0 ∨ at_ ≥ s.size
  · have hg : get s at_ = (0, 0, false) := by unfold get; rw [if_pos h]
    rw [hg]
    refine Ev.congr (f := fun k => spec_GetVarint.j0 k s at_ true) (fun k => ?_) (Ev.step (f := fun _ => some (0, 0, false)) (fun k => ?_) (Ev.now _))
    · rw [spec_GetVarint.f]
      by_cases h1 : at_ < 0
      · rw [if_pos h1]
      · rw [if_neg h1, decide_eq_true (by omega)]
    · rw [spec_GetVarint.j0, if_pos rfl]
  · have hg : get s at_ = gl s at_.toNat 8 0 0 := by unfold get; rw [if_neg h]
    rw [hg]
    obtain ⟨a, rfl⟩ := Int.eq_ofNat_of_zero_le (show 0 ≤ at_ by omega)
    rw [Int.toNat_natCast]
    refine Ev.congr (f := fun k => spec_GetVarint.j0 k s (a : Int) false) (fun k => ?_) (Ev.step (fun k => ?_) (spec_get_loop s a (by omega) hs 8 0 0 rfl (by simp)))
    · rw [spec_GetVarint.f, if_neg (by omega), decide_eq_false (by omega)]
    · rw [spec_GetVarint.j0, if_neg (by simp)]; rfl
end Go.Proofs.Ytjneloehdcecnaa.M

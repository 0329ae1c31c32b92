/- Texts of the claim FnExactDecodeEdit, part 26 of 38, joined: MGet, Pimpltakernum, Pimpltakerbytes, Pimpltakertext, MTaker, Pimplsized, MEnc, PimplnumFine, PimplrefFine. No condition beyond those that stand at each. -/
import Derived.Test.YtjneloehdcecnaaZFnExactDecodeEdit25
import Derived.Test.YtjneloehdcecnaaZFnExactDecodeEdit22
import Derived.WalkLawsBesides
section
/- The varints read: what the specification's and the program's GetVarint print to, as one function of numbers. -/
namespace Go.Proofs.Ytjneloehdcecnaa.M
open Go.RowKit Go.Proofs.Ytjneloehdcecnaa.P Go.Proofs.YtjneloehdcecnaaW.PrintWords Go.Proofs.YtjneloehdcecnaaW.PrintLast Go.Proofs.YtjneloehdcecnaaW.PrintMore
set_option linter.unusedVariables false

/-- One group of seven bits after the other: the number, the place behind it, and whether it is one. -/
def gl (s : ByteArray) (a : Nat) : Nat → Nat → Nat → Int × Int × Bool
  | 0, _, _ => (0, 0, false)
  | rem + 1, i, v =>
    if a + i < s.size then
      if bt s ((a + i : Nat) : Int) < 128 then
        (if 0 < i ∧ bt s ((a + i : Nat) : Int) = 0 then (0, 0, false) else (((v + (bt s ((a + i : Nat) : Int)).toNat * 128 ^ i : Nat) : Int), ((a + i + 1 : Nat) : Int), true))
      else gl s a rem (i + 1) (v + ((bt s ((a + i : Nat) : Int)).toNat - 128) * 128 ^ i)
    else (0, 0, false)
def get (s : ByteArray) (at_ : Int) : Int × Int × Bool := if at_ < 0 ∨ at_ ≥ s.size then (0, 0, false) else gl s at_.toNat 8 0 0

theorem or_i64 (a b : Nat) (ha : a < 2 ^ 63) (hb : b < 2 ^ 63) : Go.bits .or .i64 (a : Int) (b : Int) = ((a ||| b : Nat) : Int) := by
  have h := Nat.or_lt_two_pow ha hb
  have e : (IntKind.i64.bits) = 64 := rfl
  unfold Go.bits
  simp only [BitVec.ofInt_natCast, BitVec.toNat_or, BitVec.toNat_ofNat, e]
  rw [Nat.mod_eq_of_lt (by omega), Nat.mod_eq_of_lt (by omega)]
  exact IntWalk.i64_in _ (by omega)

theorem pow7 (i : Nat) : (128 : Nat) ^ i = 2 ^ (7 * i) := by
  rw [Nat.pow_mul]
theorem pow_le8 {i : Nat} (h : i ≤ 8) : (128 : Nat) ^ i ≤ 72057594037927936 := by
  have := Nat.pow_le_pow_right (n := 128) (by omega) h
  have e : (128 : Nat) ^ 8 = 72057594037927936 := by decide
  omega
theorem pow_le7 {i : Nat} (h : i ≤ 7) : (128 : Nat) ^ i ≤ 562949953421312 := by
  have := Nat.pow_le_pow_right (n := 128) (by omega) h
  have e : (128 : Nat) ^ 7 = 562949953421312 := by decide
  omega

theorem or_step (v d i : Nat) (hi : i ≤ 7) (hv : v < 128 ^ i) (hd : d < 128) : Go.bits .or .i64 (v : Int) (shl .i64 (d : Int) ((7 * i : Nat) : Int)) = ((v + d * 128 ^ i : Nat) : Int) := by
  have h7 := pow_le7 hi
  have hm : d * 128 ^ i ≤ 127 * 562949953421312 := Nat.mul_le_mul (by omega) h7
  have e1 : shl .i64 (d : Int) ((7 * i : Nat) : Int) = ((d * 128 ^ i : Nat) : Int) := by
    unfold shl
    have e : (IntKind.i64.bits) = 64 := rfl
    rw [e, Int.toNat_natCast, Nat.min_eq_left (by omega), show ((d : Int) * 2 ^ (7 * i)) = ((d * 128 ^ i : Nat) : Int) by rw [pow7]; simp]
    exact IntWalk.i64_in _ (by omega)
  rw [e1, or_i64 v _ (by omega) (by omega)]
  congr 1
  have := Nat.shiftLeft_add_eq_or_of_lt (i := 7 * i) (b := v) (by rw [← pow7]; exact hv) d
  rw [Nat.shiftLeft_eq, ← pow7] at this
  rw [Nat.or_comm, ← this, Nat.add_comm]

theorem bt_nat (s : ByteArray) (i : Int) : ∃ c : Nat, bt s i = (c : Int) ∧ c < 256 := by
  have := bt_range s i
  exact ⟨(bt s i).toNat, by omega, by omega⟩

theorem step_lt {v d i : Nat} (hv : v < 128 ^ i) (hd : d < 128) : v + d * 128 ^ i < 128 ^ (i + 1) := by
  rw [Nat.pow_succ]
  have : d * 128 ^ i ≤ 127 * 128 ^ i := Nat.mul_le_mul_right _ (by omega)
  omega

theorem impl_j2_last (k : Nat) (s : ByteArray) (x1 x7 x8 p q c r z : Int) (h1 : wrap64 (x1 + x8) = p) (h2 : 0 ≤ p) (h3 : p < (s.size : Int)) (h4 : wrap64 (7 * x8) = q) (h5 : 0 ≤ q) (h6 : wrap64 (bt s p) = c) (h7 : c < 128)
    (h8 : Go.bits .or .i64 x7 (shl .i64 (Int.tmod c 128) q) = r) (h9 : wrap64 (p + 1) = z) :
    impl_GetVarint.j2 (k + 1) s x1 x7 x8 true = if x8 > 0 then (if c = 0 then some (0, 0, false) else some (r, z, true)) else some (r, z, true) := by
  rw [impl_GetVarint.j2, if_pos rfl, h1, if_pos h2, if_pos h3, h4, if_pos h5, h6, if_pos h7, h8, h9]
theorem impl_j2_on (k : Nat) (s : ByteArray) (x1 x7 x8 p q c r z : Int) (h1 : wrap64 (x1 + x8) = p) (h2 : 0 ≤ p) (h3 : p < (s.size : Int)) (h4 : wrap64 (7 * x8) = q) (h5 : 0 ≤ q) (h6 : wrap64 (bt s p) = c) (h7 : ¬ c < 128)
    (h8 : Go.bits .or .i64 x7 (shl .i64 (Int.tmod c 128) q) = r) (h9 : wrap64 (x8 + 1) = z) :
    impl_GetVarint.j2 (k + 1) s x1 x7 x8 true = impl_GetVarint.l0 k s x1 r z := by
  rw [impl_GetVarint.j2, if_pos rfl, h1, if_pos h2, if_pos h3, h4, if_pos h5, h6, if_neg h7, h8, h9]
theorem impl_l0_in (k : Nat) (s : ByteArray) (x1 x7 x8 p : Int) (h0 : x8 < 8) (h1 : wrap64 (x1 + x8) = p) (h3 : p < (s.size : Int)) : impl_GetVarint.l0 (k + 1) s x1 x7 x8 = impl_GetVarint.j2 k s x1 x7 x8 true := by
  rw [impl_GetVarint.l0, if_pos h0, h1, decide_eq_true h3]
theorem impl_l0_out (k : Nat) (s : ByteArray) (x1 x7 x8 p : Int) (h0 : x8 < 8) (h1 : wrap64 (x1 + x8) = p) (h3 : ¬ p < (s.size : Int)) : impl_GetVarint.l0 (k + 1) s x1 x7 x8 = impl_GetVarint.j2 k s x1 x7 x8 false := by
  rw [impl_GetVarint.l0, if_pos h0, h1, decide_eq_false h3]
theorem spec_l0_in (k : Nat) (s : ByteArray) (x1 x7 x8 x9 p : Int) (h0 : x9 < 9) (h1 : wrap64 (x1 + x9) = p) (h3 : p < (s.size : Int)) : spec_GetVarint.l0 (k + 1) s x1 x7 x8 x9 = spec_GetVarint.j2 k s x1 x7 x8 x9 true := by
  rw [spec_GetVarint.l0, if_pos h0, h1, decide_eq_true h3]
theorem spec_l0_out (k : Nat) (s : ByteArray) (x1 x7 x8 x9 p : Int) (h0 : x9 < 9) (h1 : wrap64 (x1 + x9) = p) (h3 : ¬ p < (s.size : Int)) : spec_GetVarint.l0 (k + 1) s x1 x7 x8 x9 = spec_GetVarint.j2 k s x1 x7 x8 x9 false := by
  rw [spec_GetVarint.l0, if_pos h0, h1, decide_eq_false h3]
theorem spec_j2_last (k : Nat) (s : ByteArray) (x1 x7 x8 x9 p b m r y z : Int) (h1 : wrap64 (x1 + x9) = p) (h2 : 0 ≤ p) (h3 : p < (s.size : Int)) (h6 : bt s p = b) (h7 : b < 128) (h8 : wrap64 (wrap64 (Int.tmod b 128) * x8) = m) (h9 : wrap64 (x7 + m) = r) (h10 : wrap64 (x9 + 1) = y) (h11 : wrap64 (p + 1) = z) :
    spec_GetVarint.j2 (k + 1) s x1 x7 x8 x9 true = (spec_PutVarint.f k r).bind fun t => if (t.size : Int) = y then (if r ≤ 72057594037927935 then some (r, z, true) else some (0, 0, false)) else some (0, 0, false) := by
  rw [spec_GetVarint.j2, if_pos rfl, h1, if_pos h2, if_pos h3, h6, if_pos h7, h8, h9, h10, h11]
theorem spec_j2_on (k : Nat) (s : ByteArray) (x1 x7 x8 x9 p b m r y z : Int) (h1 : wrap64 (x1 + x9) = p) (h2 : 0 ≤ p) (h3 : p < (s.size : Int)) (h6 : bt s p = b) (h7 : ¬ b < 128) (h8 : wrap64 (wrap64 (Int.tmod b 128) * x8) = m) (h9 : wrap64 (x7 + m) = r) (h10 : wrap64 (x8 * 128) = y) (h11 : wrap64 (x9 + 1) = z) :
    spec_GetVarint.j2 (k + 1) s x1 x7 x8 x9 true = spec_GetVarint.l0 k s x1 r y z := by
  rw [spec_GetVarint.j2, if_pos rfl, h1, if_pos h2, if_pos h3, h6, if_neg h7, h8, h9, h10, h11]

theorem tmod_lo {c : Nat} (h : c < 128) : Int.tmod (c : Int) 128 = (c : Int) := by rw [Int.tmod_eq_emod_of_nonneg (by omega)]; omega
theorem tmod_hi {c : Nat} (h : ¬ c < 128) (h2 : c < 256) : Int.tmod (c : Int) 128 = ((c - 128 : Nat) : Int) := by rw [Int.tmod_eq_emod_of_nonneg (by omega)]; omega
theorem w_add {a i : Nat} (ha : a ≤ 1048576) (hi : i ≤ 9) : wrap64 ((a : Int) + (i : Int)) = ((a + i : Nat) : Int) := by rw [wrap_id] <;> omega
theorem w_succ {a : Nat} (ha : a ≤ 1048600) : wrap64 ((a : Int) + 1) = ((a + 1 : Nat) : Int) := by rw [wrap_id] <;> omega
theorem w_seven {i : Nat} (hi : i ≤ 9) : wrap64 (7 * (i : Int)) = ((7 * i : Nat) : Int) := by rw [wrap_id] <;> omega
theorem w_byte {c : Nat} (hc : c < 256) : wrap64 (c : Int) = (c : Int) := by rw [wrap_id] <;> omega
theorem ifs_last (i c : Nat) (r : Int × Int × Bool) : (if (i : Int) > 0 then (if (c : Int) = 0 then some (0, 0, false) else some r) else some r) = some (if 0 < i ∧ (c : Int) = 0 then (0, 0, false) else r) := by
  by_cases h0 : 0 < i
  · rw [if_pos (by omega)]
    by_cases h1 : (c : Int) = 0
    · rw [if_pos h1, if_pos ⟨h0, h1⟩]
    · rw [if_neg h1, if_neg (fun h => h1 h.2)]
  · rw [if_neg (by omega), if_neg (fun h => h0 h.1)]

theorem impl_get_loop (s : ByteArray) (a : Nat) (ha : a < s.size) (hs : s.size ≤ 1048576) : ∀ rem i v : Nat, i + rem = 8 → v < 128 ^ i →
    Ev (fun k => impl_GetVarint.l0 k s (a : Int) (v : Int) (i : Int)) (gl s a rem i v) := by
  intro rem
  induction rem with
  | zero =>
    intro i v hi hv
    refine Ev.step (f := fun k => impl_GetVarint.j2 k s (a : Int) (v : Int) (i : Int) false) (fun k => ?_) (Ev.step (f := fun _ => some (0, 0, false)) (fun k => ?_) (Ev.now _))
    · rw [impl_GetVarint.l0, if_neg (by omega)]
    · rw [impl_GetVarint.j2, if_neg (by simp)]
  | succ rem ih =>
    intro i v hi hv
    have h8 : (i : Int) < 8 := by omega
    by_cases hlt : a + i < s.size
    · obtain ⟨c, hc, hc2⟩ := bt_nat s ((a + i : Nat) : Int)
      have hp0 : 0 ≤ ((a + i : Nat) : Int) := by omega
      have hp1 : ((a + i : Nat) : Int) < (s.size : Int) := by omega
      have h70 : 0 ≤ ((7 * i : Nat) : Int) := by omega
      have ai : a ≤ 1048576 := by omega
      have a1 : a + i ≤ 1048600 := by omega
      have i9 : i ≤ 9 := by omega
      have i7 : i ≤ 7 := by omega
      rw [gl, if_pos hlt, hc, Int.toNat_natCast]
      by_cases hs1 : c < 128
      · have hcl : (c : Int) < 128 := by omega
        rw [if_pos hcl]
        refine Ev.step (f := fun k => impl_GetVarint.j2 k s (a : Int) (v : Int) (i : Int) true) (fun k => impl_l0_in k s _ _ _ _ h8 (w_add ai i9) hp1) (Ev.step (f := fun _ => some (if 0 < i ∧ (c : Int) = 0 then (0, 0, false) else (((v + c * 128 ^ i : Nat) : Int), ((a + i + 1 : Nat) : Int), true))) (fun k => ?_) (Ev.now _))
        rw [impl_j2_last k s _ _ _ _ _ (c : Int) ((v + c * 128 ^ i : Nat) : Int) _ (w_add ai i9) hp0 hp1 (w_seven i9) h70 (by rw [hc]; exact w_byte hc2) hcl (by rw [tmod_lo hs1]; exact or_step v c i i7 hv hs1) (w_succ a1)]
        exact ifs_last i c _
      · have hcl : ¬ (c : Int) < 128 := by omega
        rw [if_neg hcl]
        refine Ev.step (f := fun k => impl_GetVarint.j2 k s (a : Int) (v : Int) (i : Int) true) (fun k => impl_l0_in k s _ _ _ _ h8 (w_add ai i9) hp1) (Ev.step (fun k => ?_) (ih (i + 1) (v + (c - 128) * 128 ^ i) (by omega) (step_lt hv (by omega))))
        exact impl_j2_on k s _ _ _ _ _ (c : Int) _ _ (w_add ai i9) hp0 hp1 (w_seven i9) h70 (by rw [hc]; exact w_byte hc2) hcl (by rw [tmod_hi hs1 hc2]; exact or_step v (c - 128) i i7 hv (by omega)) (w_succ (by omega))
    · rw [gl, if_neg hlt]
      refine Ev.step (f := fun k => impl_GetVarint.j2 k s (a : Int) (v : Int) (i : Int) false) (fun k => impl_l0_out k s _ _ _ _ h8 (w_add (by omega) (by omega)) (by omega)) (Ev.step (f := fun _ => some (0, 0, false)) (fun k => ?_) (Ev.now _))
      rw [impl_GetVarint.j2, if_neg (by simp)]

theorem impl_get (s : ByteArray) (at_ : Int) (hs : s.size ≤ 1048576) : Ev (fun k => impl_GetVarint.f k s at_) (get s at_) := by
  by_cases h : at_ < 0 ∨ at_ ≥ s.size
  · have hg : get s at_ = (0, 0, false) := by unfold get; rw [if_pos h]
    rw [hg]
    refine Ev.congr (f := fun k => impl_GetVarint.j0 k s at_ true) (fun k => ?_) (Ev.step (f := fun _ => some (0, 0, false)) (fun k => ?_) (Ev.now _))
    · rw [impl_GetVarint.f]
      by_cases h1 : at_ < 0
      · rw [if_pos h1]
      · rw [if_neg h1, decide_eq_true (by omega)]
    · rw [impl_GetVarint.j0, if_pos rfl]
  · have hg : get s at_ = gl s at_.toNat 8 0 0 := by unfold get; rw [if_neg h]
    rw [hg]
    obtain ⟨a, rfl⟩ := Int.eq_ofNat_of_zero_le (show 0 ≤ at_ by omega)
    rw [Int.toNat_natCast]
    refine Ev.congr (f := fun k => impl_GetVarint.j0 k s (a : Int) false) (fun k => ?_) (Ev.step (fun k => ?_) (impl_get_loop s a (by omega) hs 8 0 0 rfl (by simp)))
    · rw [impl_GetVarint.f, if_neg (by omega), decide_eq_false (by omega)]
    · rw [impl_GetVarint.j0, if_neg (by simp)]; rfl

theorem vl_len_eq (i : Nat) : ∀ n, n < 128 ^ (i + 1) → (i = 0 ∨ 128 ^ i ≤ n) → (vl n).length = i + 1 := by
  induction i with
  | zero =>
    intro n h _
    rw [vl, if_pos (by simpa using h)]
    rfl
  | succ i ih =>
    intro n h h2
    have hp : 128 ≤ 128 ^ (i + 1) := by
      have := Nat.pow_le_pow_right (n := 128) (by omega) (show 1 ≤ i + 1 by omega)
      simpa using this
    have hn : 128 ^ (i + 1) ≤ n := by omega
    rw [vl, if_neg (by omega), List.length_cons, ih (n / 128) ?_ ?_]
    · rw [Nat.div_lt_iff_lt_mul (by omega)]; rwa [Nat.pow_succ] at h
    · right
      rw [Nat.le_div_iff_mul_le (by omega)]
      rwa [Nat.pow_succ] at hn

/-- At the last byte: is it as long as PutVarint would write it? -/
theorem put_fits (v c i : Nat) (hv : v < 128 ^ i) (hc : c < 128) (hi : i ≤ 7) : ((put ((v + c * 128 ^ i : Nat) : Int)).size : Int) = ((i + 1 : Nat) : Int) ↔ ¬ (0 < i ∧ c = 0) := by
  have hlt := step_lt hv hc
  have h8 := pow_le8 (show i + 1 ≤ 8 by omega)
  have e : put ((v + c * 128 ^ i : Nat) : Int) = strOfNums (vl (v + c * 128 ^ i)) := by
    unfold put
    rw [if_neg (by omega), Int.toNat_natCast]
  rw [e, strOfNums_size]
  constructor
  · rintro h ⟨h0, rfl⟩
    have := vl_length i (v + 0 * 128 ^ i) (by simpa using hv)
    omega
  · intro h
    rw [vl_len_eq i _ hlt ?_]
    by_cases h0 : i = 0
    · exact .inl h0
    · right
      have : 1 * 128 ^ i ≤ c * 128 ^ i := Nat.mul_le_mul_right _ (by omega)
      omega

theorem wrap_prod {c : Nat} {i : Nat} (hi : i ≤ 8) (hc : c < 128) : wrap64 ((c : Int) * ((128 ^ i : Nat) : Int)) = ((c * 128 ^ i : Nat) : Int) := by
  have h := pow_le8 hi
  have hm : c * 128 ^ i ≤ 127 * 72057594037927936 := Nat.mul_le_mul (by omega) h
  rw [← Int.natCast_mul, wrap_id] <;> omega

theorem spec_get_end (s : ByteArray) (x1 x7 x8 x9 : Int) : Ev (fun k => spec_GetVarint.j2 k s x1 x7 x8 x9 false) (0, 0, false) := by
  refine Ev.step (f := fun _ => some (0, 0, false)) (fun k => ?_) (Ev.now _)
  rw [spec_GetVarint.j2, if_neg (by simp)]

theorem w_sum {v m : Nat} (h : v + m ≤ 9223372036854775807) : wrap64 ((v : Int) + (m : Int)) = ((v + m : Nat) : Int) := by rw [wrap_id] <;> omega
theorem digit_prod {c i : Nat} (hi : i ≤ 8) (hc : c < 128) : wrap64 (wrap64 (c : Int) * ((128 ^ i : Nat) : Int)) = ((c * 128 ^ i : Nat) : Int) := by
  rw [w_byte (by omega)]
  exact wrap_prod hi hc
theorem sum_small {v d i : Nat} (hi : i ≤ 8) (hv : v < 128 ^ i) (hd : d < 128) : v + d * 128 ^ i ≤ 9223372036854775807 := by
  have h := pow_le8 hi
  have hm : d * 128 ^ i ≤ 127 * 72057594037927936 := Nat.mul_le_mul (by omega) h
  omega

/-- The ninth group is never taken. -/
theorem spec_get_ninth (s : ByteArray) (a v : Nat) (ha : a < s.size) (hs : s.size ≤ 1048576) (hv : v < 128 ^ 8) : Ev (fun k => spec_GetVarint.l0 k s (a : Int) (v : Int) ((128 ^ 8 : Nat) : Int) ((8 : Nat) : Int)) (0, 0, false) := by
  have h8 : (((8 : Nat) : Int)) < 9 := by omega
  have ai : a ≤ 1048576 := by omega
  by_cases hlt : a + 8 < s.size
  · obtain ⟨c, hc, hc2⟩ := bt_nat s ((a + 8 : Nat) : Int)
    have hp0 : 0 ≤ ((a + 8 : Nat) : Int) := by omega
    have hp1 : ((a + 8 : Nat) : Int) < (s.size : Int) := by omega
    have e9 : wrap64 (((8 : Nat) : Int) + 1) = ((9 : Nat) : Int) := w_succ (by omega)
    by_cases hs1 : c < 128
    · refine Ev.step (f := fun k => spec_GetVarint.j2 k s (a : Int) (v : Int) ((128 ^ 8 : Nat) : Int) ((8 : Nat) : Int) true) (fun k => spec_l0_in k s _ _ _ _ _ h8 (w_add ai (by omega)) hp1)
        (Ev.step (fun k => spec_j2_last k s _ _ _ _ _ (c : Int) _ _ _ _ (w_add ai (by omega)) hp0 hp1 hc (by omega) (by rw [tmod_lo hs1]; exact digit_prod (Nat.le_refl 8) hs1) (w_sum (sum_small (Nat.le_refl 8) hv hs1)) e9 (w_succ (by omega))) (Ev.bind (spec_put _) ⟨0, fun k _ => ?_⟩))
      generalize ((v + c * 128 ^ 8 : Nat) : Int) = z
      have hz := put_size z
      exact if_neg (by omega)
    · have hd : c - 128 < 128 := by omega
      refine Ev.step (f := fun k => spec_GetVarint.j2 k s (a : Int) (v : Int) ((128 ^ 8 : Nat) : Int) ((8 : Nat) : Int) true) (fun k => spec_l0_in k s _ _ _ _ _ h8 (w_add ai (by omega)) hp1)
        (Ev.step (fun k => spec_j2_on k s _ _ _ _ _ (c : Int) _ _ _ _ (w_add ai (by omega)) hp0 hp1 hc (by omega) (by rw [tmod_hi hs1 hc2]; exact digit_prod (Nat.le_refl 8) hd) (w_sum (sum_small (Nat.le_refl 8) hv hd)) rfl e9)
        (Ev.step (fun k => ?_) (spec_get_end s (a : Int) (((v + (c - 128) * 128 ^ 8 : Nat) : Int)) (wrap64 (((128 ^ 8 : Nat) : Int) * 128)) ((9 : Nat) : Int))))
      rw [spec_GetVarint.l0, if_neg (by omega)]
  · exact Ev.step (fun k => spec_l0_out k s _ _ _ _ _ h8 (w_add ai (by omega)) (by omega)) (spec_get_end s (a : Int) (v : Int) ((128 ^ 8 : Nat) : Int) ((8 : Nat) : Int))

theorem spec_get_loop (s : ByteArray) (a : Nat) (ha : a < s.size) (hs : s.size ≤ 1048576) : ∀ rem i v : Nat, i + rem = 8 → v < 128 ^ i →
    Ev (fun k => spec_GetVarint.l0 k s (a : Int) (v : Int) ((128 ^ i : Nat) : Int) (i : Int)) (gl s a rem i v) := by
  intro rem
  induction rem with
  | zero =>
    intro i v hi hv
    obtain rfl : i = 8 := by omega
    exact spec_get_ninth s a v ha hs hv
  | succ rem ih =>
    intro i v hi hv
    have i7 : i ≤ 7 := by omega
    have i8 : i ≤ 8 := by omega
    have i9 : i ≤ 9 := by omega
    have h9 : (i : Int) < 9 := by omega
    have ai : a ≤ 1048576 := by omega
    by_cases hlt : a + i < s.size
    · obtain ⟨c, hc, hc2⟩ := bt_nat s ((a + i : Nat) : Int)
      have hp0 : 0 ≤ ((a + i : Nat) : Int) := by omega
      have hp1 : ((a + i : Nat) : Int) < (s.size : Int) := by omega
      have e9 : wrap64 ((i : Int) + 1) = ((i + 1 : Nat) : Int) := w_succ (by omega)
      rw [gl, if_pos hlt, hc, Int.toNat_natCast]
      by_cases hs1 : c < 128
      · have hcl : (c : Int) < 128 := by omega
        rw [if_pos hcl]
        refine Ev.step (f := fun k => spec_GetVarint.j2 k s (a : Int) (v : Int) ((128 ^ i : Nat) : Int) (i : Int) true) (fun k => spec_l0_in k s _ _ _ _ _ h9 (w_add ai i9) hp1)
          (Ev.step (fun k => spec_j2_last k s _ _ _ _ _ (c : Int) _ _ _ _ (w_add ai i9) hp0 hp1 hc hcl (by rw [tmod_lo hs1]; exact digit_prod i8 hs1) (w_sum (sum_small i8 hv hs1)) e9 (w_succ (by omega))) (Ev.bind (spec_put _) ⟨0, fun k _ => ?_⟩))
        have hf := put_fits v c i hv hs1 i7
        have hlt2 := step_lt hv hs1
        have h8 := pow_le8 (show i + 1 ≤ 8 by omega)
        have hle : ((v + c * 128 ^ i : Nat) : Int) ≤ 72057594037927935 := by omega
        by_cases h0 : 0 < i ∧ c = 0
        · have h1 : 0 < i ∧ (c : Int) = 0 := ⟨h0.1, by omega⟩
          show (if _ then _ else _) = _
          rw [if_neg (by rw [hf]; exact not_not_intro h0), if_pos h1]
        · have h1 : ¬ (0 < i ∧ (c : Int) = 0) := fun h => h0 ⟨h.1, by omega⟩
          show (if _ then _ else _) = _
          rw [if_pos (hf.2 h0), if_pos hle, if_neg h1]
      · have hcl : ¬ (c : Int) < 128 := by omega
        have hd : c - 128 < 128 := by omega
        rw [if_neg hcl]
        refine Ev.step (f := fun k => spec_GetVarint.j2 k s (a : Int) (v : Int) ((128 ^ i : Nat) : Int) (i : Int) true) (fun k => spec_l0_in k s _ _ _ _ _ h9 (w_add ai i9) hp1)
          (Ev.step (fun k => ?_) (ih (i + 1) (v + (c - 128) * 128 ^ i) (by omega) (step_lt hv hd)))
        have e3 : wrap64 (((128 ^ i : Nat) : Int) * 128) = ((128 ^ (i + 1) : Nat) : Int) := by
          have h7 := pow_le7 i7
          rw [Nat.pow_succ]
          generalize 128 ^ i = z at h7
          rw [wrap_id] <;> omega
        exact spec_j2_on k s _ _ _ _ _ (c : Int) _ _ _ _ (w_add ai i9) hp0 hp1 hc hcl (by rw [tmod_hi hs1 hc2]; exact digit_prod i8 hd) (w_sum (sum_small i8 hv hd)) e3 e9
    · rw [gl, if_neg hlt]
      exact Ev.step (fun k => spec_l0_out k s _ _ _ _ _ h9 (w_add ai i9) (by omega)) (spec_get_end s (a : Int) (v : Int) ((128 ^ i : Nat) : Int) (i : Int))

theorem spec_get (s : ByteArray) (at_ : Int) (hs : s.size ≤ 1048576) : Ev (fun k => spec_GetVarint.f k s at_) (get s at_) := by
  by_cases h : at_ < 0 ∨ at_ ≥ s.size
  · have hg : get s at_ = (0, 0, false) := by unfold get; rw [if_pos h]
    rw [hg]
    refine Ev.congr (f := fun k => spec_GetVarint.j0 k s at_ true) (fun k => ?_) (Ev.step (f := fun _ => some (0, 0, false)) (fun k => ?_) (Ev.now _))
    · rw [spec_GetVarint.f]
      by_cases h1 : at_ < 0
      · rw [if_pos h1]
      · rw [if_neg h1, decide_eq_true (by omega)]
    · rw [spec_GetVarint.j0, if_pos rfl]
  · have hg : get s at_ = gl s at_.toNat 8 0 0 := by unfold get; rw [if_neg h]
    rw [hg]
    obtain ⟨a, rfl⟩ := Int.eq_ofNat_of_zero_le (show 0 ≤ at_ by omega)
    rw [Int.toNat_natCast]
    refine Ev.congr (f := fun k => spec_GetVarint.j0 k s (a : Int) false) (fun k => ?_) (Ev.step (fun k => ?_) (spec_get_loop s a (by omega) hs 8 0 0 rfl (by simp)))
    · rw [spec_GetVarint.f, if_neg (by omega), decide_eq_false (by omega)]
    · rw [spec_GetVarint.j0, if_neg (by simp)]; rfl
end Go.Proofs.Ytjneloehdcecnaa.M
end
section
-- Written by a changed copy of the print program, one module a function. Not trusted: Lean checks it.
namespace Go.Proofs.Ytjneloehdcecnaa.P
open Go.RowKit Go.Proofs.YtjneloehdcecnaaW.PrintWords Go.Proofs.YtjneloehdcecnaaW.PrintLast Go.Proofs.YtjneloehdcecnaaW.PrintMore
attribute [local go_sem] max2_int min2_int max_two min_two max_three min_three max_four min_four   -- for this text's walks alone
set_option linter.unusedVariables false
set_option linter.unusedSimpArgs false

/-- A state of type 96 at block g of W; what its slices lead to came in by w0. -/
def IsS96 (w0 W : World) (g : Nat) (f0 : ByteArray) (f1 : Int) (f2 : Bool) : Prop := W.heap[g]? = some (.cells #[.string f0, .int .i64 f1, .bool f2] 96 (0, 0)) ∧ w0.heap.size ≤ g
theorem IsS96.grown {w0 W : World} {g : Nat} {f0 : ByteArray} {f1 : Int} {f2 : Bool} {W1 : World} {row : Option Nat} (h : IsS96 w0 W g f0 f1 f2) (hw : W.grownBy W1 row) (hne : some g ≠ row) : IsS96 w0 W1 g f0 f1 f2 := by
 obtain ⟨hb, hg⟩ := h
 exact ⟨blk_grown hb hw hne, hg⟩
theorem IsS96.kept {w0 W : World} {g : Nat} {f0 : ByteArray} {f1 : Int} {f2 : Bool} {W1 : World} {S : Nat → Prop} (h : IsS96 w0 W g f0 f1 f2) (hk : Kept W W1 S) (hne : ¬ S g) : IsS96 w0 W1 g f0 f1 f2 := by
 obtain ⟨hb, hg⟩ := h
 exact ⟨blk_kept hb hk hne, hg⟩
theorem IsS96.below {w0 W : World} {g : Nat} {f0 : ByteArray} {f1 : Int} {f2 : Bool} {W1 : World} (h : IsS96 w0 W g f0 f1 f2) (hw : Below W.heap.size W W1) : IsS96 w0 W1 g f0 f1 f2 := h.grown (grown_of_below hw none) (by simp)
theorem IsS96.alloc {w0 W : World} {g : Nat} {f0 : ByteArray} {f1 : Int} {f2 : Bool} (h : IsS96 w0 W g f0 f1 f2) (o : Obj) : IsS96 w0 (W.alloc o) g f0 f1 f2 := h.below (below_alloc (Below.refl _ _) o)
theorem IsS96.drewN {w0 W : World} {g : Nat} {f0 : ByteArray} {f1 : Int} {f2 : Bool} (h : IsS96 w0 W g f0 f1 f2) (m : Nat) : IsS96 w0 (W.drewN m) g f0 f1 f2 := h
theorem IsS96.drew {w0 W : World} {g : Nat} {f0 : ByteArray} {f1 : Int} {f2 : Bool} (h : IsS96 w0 W g f0 f1 f2) : IsS96 w0 W.drew g f0 f1 f2 := h
theorem IsS96.at_ {w0 W : World} {g : Nat} {f0 : ByteArray} {f1 : Int} {f2 : Bool} {w' : World} {m : Nat} (hq : W.drewN m = w') (h : IsS96 w0 W g f0 f1 f2) : IsS96 w0 w' g f0 f1 f2 := by subst hq; exact IsS96.drewN h m
theorem IsS96.apart {w0 W : World} {g : Nat} {f0 : ByteArray} {f1 : Int} {f2 : Bool} {α : Type} {d : Kd α} {e : Nat} {base : Nat} {ok : Nat → Prop} {v : Value} {xs : List α} (h : IsS96 w0 W g f0 f1 f2) (ho : d.R e W base ok v xs) (ht : ∀ q, q ∈ e :: d.E → q ≠ 96) : d.R e W base (fun k => ok k ∧ k ≠ g) v xs := by
 obtain ⟨hb, hg⟩ := h
 exact Kd.R_types ho hb ht
theorem IsS96.own_ne {w0 W : World} {g : Nat} {f0 : ByteArray} {f1 : Int} {f2 : Bool} {α : Type} {d : Kd α} {e : Nat} {base : Nat} {ok : Nat → Prop} {v : Value} {xs : List α} (h : IsS96 w0 W g f0 f1 f2) (ho : d.R e W base ok v xs) (ht : e ≠ 96) : some g ≠ v.ownBlock := by
 obtain ⟨hb, hg⟩ := h
 exact Kd.R_ne ho hb ht
theorem IsS96.lt {w0 W : World} {g : Nat} {f0 : ByteArray} {f1 : Int} {f2 : Bool} (h : IsS96 w0 W g f0 f1 f2) : g < W.heap.size := by
 obtain ⟨hb, hg⟩ := h
 exact blk_lt hb
theorem IsS96.ge {w0 W : World} {g : Nat} {f0 : ByteArray} {f1 : Int} {f2 : Bool} (h : IsS96 w0 W g f0 f1 f2) : w0.heap.size ≤ g := by
 obtain ⟨hb, hg⟩ := h
 exact hg
theorem IsS96.far {w0 W : World} {g : Nat} {f0 : ByteArray} {f1 : Int} {f2 : Bool} {p : Addr} (h : IsS96 w0 W g f0 f1 f2) (hne : g ≠ p.block) (u : Value) : IsS96 w0 (W.setCell p u) g f0 f1 f2 := by
 obtain ⟨hb, hg⟩ := h
 exact ⟨blk_far hb hne u, hg⟩
theorem cellS96_0 {W : World} {g : Nat} {f0 : ByteArray} {f1 : Int} {f2 : Bool} (h : W.heap[g]? = some (.cells #[.string f0, .int .i64 f1, .bool f2] 96 (0, 0))) : W.cell? ⟨g, 0, none⟩ = some (.string f0) := (blk_cell h 0).trans rfl
theorem IsS96.set_0 {w0 W : World} {g : Nat} {f0 : ByteArray} {f1 : Int} {f2 : Bool} (h : IsS96 w0 W g f0 f1 f2) (x : ByteArray) : IsS96 w0 (W.setCell ⟨g, 0, none⟩ (.string x)) g x f1 f2 := by
 obtain ⟨hb, hg⟩ := h
 exact ⟨by simpa using blk_set hb 0 (.string x), hg⟩
theorem cellS96_1 {W : World} {g : Nat} {f0 : ByteArray} {f1 : Int} {f2 : Bool} (h : W.heap[g]? = some (.cells #[.string f0, .int .i64 f1, .bool f2] 96 (0, 0))) : W.cell? ⟨g, 1, none⟩ = some (.int .i64 f1) := (blk_cell h 1).trans rfl
theorem IsS96.set_1 {w0 W : World} {g : Nat} {f0 : ByteArray} {f1 : Int} {f2 : Bool} (h : IsS96 w0 W g f0 f1 f2) (x : Int) : IsS96 w0 (W.setCell ⟨g, 1, none⟩ (.int .i64 x)) g f0 x f2 := by
 obtain ⟨hb, hg⟩ := h
 exact ⟨by simpa using blk_set hb 1 (.int .i64 x), hg⟩
theorem cellS96_2 {W : World} {g : Nat} {f0 : ByteArray} {f1 : Int} {f2 : Bool} (h : W.heap[g]? = some (.cells #[.string f0, .int .i64 f1, .bool f2] 96 (0, 0))) : W.cell? ⟨g, 2, none⟩ = some (.bool f2) := (blk_cell h 2).trans rfl
theorem IsS96.set_2 {w0 W : World} {g : Nat} {f0 : ByteArray} {f1 : Int} {f2 : Bool} (h : IsS96 w0 W g f0 f1 f2) (x : Bool) : IsS96 w0 (W.setCell ⟨g, 2, none⟩ (.bool x)) g f0 f1 x := by
 obtain ⟨hb, hg⟩ := h
 exact ⟨by simpa using blk_set hb 2 (.bool x), hg⟩
theorem IsS96.new (w0 W : World) (f0 : ByteArray) (f1 : Int) (f2 : Bool) (hB : Below w0.heap.size w0 W) : IsS96 w0 (W.alloc (.cells #[.string f0, .int .i64 f1, .bool f2] 96)) W.heap.size f0 f1 f2 := ⟨by simpa using heap_alloc_new W _, hB.size⟩

/-! ### impl_taker_num: function 60 -/
def impl_taker_num.f (k : Nat) (s0_0 : ByteArray) (s0_1 : Int) (s0_2 : Bool) : Option (Int × ByteArray × Int × Bool) := (impl_GetVarint.f k s0_0 s0_1).bind fun bt316 => (if s0_2 = true then (some (0, s0_0, s0_1, true)) else (if bt316.2.2 = true then (some (bt316.1, s0_0, bt316.2.1, s0_2)) else (some (0, s0_0, s0_1, true))))
theorem impl_taker_num.mono : ∀ a0 a1 a2 k, LeO (impl_taker_num.f k a0 a1 a2) (impl_taker_num.f (k + 1) a0 a1 a2) := by
 intro a0 a1 a2 k
 unfold impl_taker_num.f
 repeat' first
   | (with_reducible exact impl_GetVarint.mono _ _ _)
   | (with_reducible exact LeO.refl _)
   | (with_reducible exact LeO.none _)
   | (with_reducible refine LeO.ite ?_ ?_)
   | (with_reducible refine LeO.bind ?_ (fun _ => ?_))
   | exact impl_GetVarint.mono _ _ _
   | exact LeO.none _
   | refine LeO.ite ?_ ?_
   | refine LeO.bind ?_ (fun _ => ?_)
set_option maxHeartbeats 8000000 in
set_option maxRecDepth 100000 in
theorem impl_taker_num.calls (k : Nat) (g : Nat) (s0_0 : ByteArray) (s0_1 : Int) (s0_2 : Bool) (r1 : Int) (r2 : ByteArray) (r3 : Int) (r4 : Bool) (w0 w : World) (hI : IsS96 w0 w g s0_0 s0_1 s0_2) (hB : Below w0.heap.size w0 w) (h : impl_taker_num.f k s0_0 s0_1 s0_2 = some (r1, r2, r3, r4)) :
  Calls Try.prog 60 #[.pointer (some ⟨g, 0, none⟩)] w fun e w' => e = .returned (.int .i64 r1) ∧ IsS96 w0 w' g r2 r3 r4 ∧ Below w0.heap.size w0 w' ∧ KeepBut w w' g none := by
 have HI0 := Aside0.mk hI
 have HK := Aside0.mk (KeepBut.refl w g none)
 have HL := Aside0.mk hB.size
 clear hI
 have HW0 := Aside0.mk hB.size
 have HB := Aside0.mk hB
 clear hB
 have H : ((impl_GetVarint.f k s0_0 s0_1).bind fun bt316 => (if s0_2 = true then (some (0, s0_0, s0_1, true)) else (if bt316.2.2 = true then (some (bt316.1, s0_0, bt316.2.1, s0_2)) else (some (0, s0_0, s0_1, true))))) = some (r1, r2, r3, r4) := h
 clear h
 replace H := Option.bind_eq_some_iff.mp H
 obtain ⟨⟨t316, t317, t318⟩, A20, H⟩ := H
 replace H : (if s0_2 = true then (some (0, s0_0, s0_1, true)) else (if t318 = true then (some (t316, s0_0, t317, s0_2)) else (some (0, s0_0, s0_1, true)))) = some (r1, r2, r3, r4) := H
 have A2 := Aside0.mk A20
 clear A20
 by_cases c3 : s0_2 = true
 ·subst c3
  have H1 : (some (0, s0_0, s0_1, true)) = some (r1, r2, r3, r4) := by rw [if_pos rfl] at H; exact H
  clear H
  have H := H1
  clear H1
  simp only [Option.some.injEq, Prod.mk.injEq] at H
  obtain ⟨rfl, rfl, rfl, rfl⟩ := H
  obtain ⟨HGz4, hgz4⟩ := HI0.out
  have hcz4_0 := cellS96_0 HGz4
  have hcz4_1 := cellS96_1 HGz4
  have hcz4_2 := cellS96_2 HGz4
  have hfz4_0 := blk_frozen HGz4 0
  have hfz4_1 := blk_frozen HGz4 1
  have hfz4_2 := blk_frozen HGz4 2
  clear HGz4 hgz4
  go_enter Try.func60, Try.ntmps60
  go_wp2_with (first | (go_at_call 14; (with_reducible refine (impl_GetVarint.calls k s0_0 s0_1 t316 t317 t318 _ A2.out).mono ?_); rintro e w' ⟨rfl, ⟨nd, rfl⟩⟩; (try first | exact ⟨rfl, _, World.drewN_drewN _ _ _⟩ | exact ⟨rfl, _, Eq.trans (World.drewN_drewN _ _ _) (congrArg (World.drewN _) (Nat.add_assoc _ _ _))⟩)))
  repeat (go_quiet (first | (go_at_call 14; (with_reducible refine (impl_GetVarint.calls k s0_0 s0_1 t316 t317 t318 _ A2.out).mono ?_); rintro e w' ⟨rfl, ⟨nd, rfl⟩⟩; (try first | exact ⟨rfl, _, World.drewN_drewN _ _ _⟩ | exact ⟨rfl, _, Eq.trans (World.drewN_drewN _ _ _) (congrArg (World.drewN _) (Nat.add_assoc _ _ _))⟩))); try go_wp2_with (first | (go_at_call 14; (with_reducible refine (impl_GetVarint.calls k s0_0 s0_1 t316 t317 t318 _ A2.out).mono ?_); rintro e w' ⟨rfl, ⟨nd, rfl⟩⟩; (try first | exact ⟨rfl, _, World.drewN_drewN _ _ _⟩ | exact ⟨rfl, _, Eq.trans (World.drewN_drewN _ _ _) (congrArg (World.drewN _) (Nat.add_assoc _ _ _))⟩))))
  go_ret
  exact ⟨by first | rfl | (simp [errW_none, errW_some] <;> rfl) | (simp [*, errW_none, errW_some] <;> rfl), by repeat (first | (with_reducible first | exact HI0.out | apply IsS96.alloc | apply IsS96.drewN | apply IsS96.drew | apply IsS96.set_0 | apply IsS96.set_1 | apply IsS96.set_2) | exact HI0.out), by repeat (first | (with_reducible first | exact HB.out | apply below_alloc | apply pw_below_drewN | apply below_drew1 | refine below_set ?_ (IsS96.ge HI0.out)) | exact HB.out), by repeat (first | (with_reducible first | exact HK.out | apply KeepBut.set_ | apply keep_drewN | apply keep_drew | apply keep_alloc) | exact HK.out)⟩
 ·replace c3 := Bool.eq_false_iff.mpr c3
  subst c3
  have H1 : (if t318 = true then (some (t316, s0_0, t317, false)) else (some (0, s0_0, s0_1, true))) = some (r1, r2, r3, r4) := by rw [if_neg (show ¬ (false = true) by decide)] at H; exact H
  clear H
  have H := H1
  clear H1
  by_cases c5 : t318 = true
  ·subst c5
   have H1 : (some (t316, s0_0, t317, false)) = some (r1, r2, r3, r4) := by rw [if_pos rfl] at H; exact H
   clear H
   have H := H1
   clear H1
   simp only [Option.some.injEq, Prod.mk.injEq] at H
   obtain ⟨rfl, rfl, rfl, rfl⟩ := H
   obtain ⟨HGz6, hgz6⟩ := HI0.out
   have hcz6_0 := cellS96_0 HGz6
   have hcz6_1 := cellS96_1 HGz6
   have hcz6_2 := cellS96_2 HGz6
   have hfz6_0 := blk_frozen HGz6 0
   have hfz6_1 := blk_frozen HGz6 1
   have hfz6_2 := blk_frozen HGz6 2
   clear HGz6 hgz6
   go_enter Try.func60, Try.ntmps60
   go_wp2_with (first | (go_at_call 14; (with_reducible refine (impl_GetVarint.calls k s0_0 s0_1 t316 t317 true _ A2.out).mono ?_); rintro e w' ⟨rfl, ⟨nd, rfl⟩⟩; (try first | exact ⟨rfl, _, World.drewN_drewN _ _ _⟩ | exact ⟨rfl, _, Eq.trans (World.drewN_drewN _ _ _) (congrArg (World.drewN _) (Nat.add_assoc _ _ _))⟩)))
   repeat (go_quiet (first | (go_at_call 14; (with_reducible refine (impl_GetVarint.calls k s0_0 s0_1 t316 t317 true _ A2.out).mono ?_); rintro e w' ⟨rfl, ⟨nd, rfl⟩⟩; (try first | exact ⟨rfl, _, World.drewN_drewN _ _ _⟩ | exact ⟨rfl, _, Eq.trans (World.drewN_drewN _ _ _) (congrArg (World.drewN _) (Nat.add_assoc _ _ _))⟩))); try go_wp2_with (first | (go_at_call 14; (with_reducible refine (impl_GetVarint.calls k s0_0 s0_1 t316 t317 true _ A2.out).mono ?_); rintro e w' ⟨rfl, ⟨nd, rfl⟩⟩; (try first | exact ⟨rfl, _, World.drewN_drewN _ _ _⟩ | exact ⟨rfl, _, Eq.trans (World.drewN_drewN _ _ _) (congrArg (World.drewN _) (Nat.add_assoc _ _ _))⟩))))
   go_ret
   exact ⟨by first | rfl | (simp [errW_none, errW_some] <;> rfl) | (simp [*, errW_none, errW_some] <;> rfl), by repeat (first | (with_reducible first | exact HI0.out | apply IsS96.alloc | apply IsS96.drewN | apply IsS96.drew | apply IsS96.set_0 | apply IsS96.set_1 | apply IsS96.set_2) | exact HI0.out), by repeat (first | (with_reducible first | exact HB.out | apply below_alloc | apply pw_below_drewN | apply below_drew1 | refine below_set ?_ (IsS96.ge HI0.out)) | exact HB.out), by repeat (first | (with_reducible first | exact HK.out | apply KeepBut.set_ | apply keep_drewN | apply keep_drew | apply keep_alloc) | exact HK.out)⟩
  ·replace c5 := Bool.eq_false_iff.mpr c5
   subst c5
   have H1 : (some (0, s0_0, s0_1, true)) = some (r1, r2, r3, r4) := by rw [if_neg (show ¬ (false = true) by decide)] at H; exact H
   clear H
   have H := H1
   clear H1
   simp only [Option.some.injEq, Prod.mk.injEq] at H
   obtain ⟨rfl, rfl, rfl, rfl⟩ := H
   obtain ⟨HGz7, hgz7⟩ := HI0.out
   have hcz7_0 := cellS96_0 HGz7
   have hcz7_1 := cellS96_1 HGz7
   have hcz7_2 := cellS96_2 HGz7
   have hfz7_0 := blk_frozen HGz7 0
   have hfz7_1 := blk_frozen HGz7 1
   have hfz7_2 := blk_frozen HGz7 2
   clear HGz7 hgz7
   go_enter Try.func60, Try.ntmps60
   go_wp2_with (first | (go_at_call 14; (with_reducible refine (impl_GetVarint.calls k s0_0 s0_1 t316 t317 false _ A2.out).mono ?_); rintro e w' ⟨rfl, ⟨nd, rfl⟩⟩; (try first | exact ⟨rfl, _, World.drewN_drewN _ _ _⟩ | exact ⟨rfl, _, Eq.trans (World.drewN_drewN _ _ _) (congrArg (World.drewN _) (Nat.add_assoc _ _ _))⟩)))
   repeat (go_quiet (first | (go_at_call 14; (with_reducible refine (impl_GetVarint.calls k s0_0 s0_1 t316 t317 false _ A2.out).mono ?_); rintro e w' ⟨rfl, ⟨nd, rfl⟩⟩; (try first | exact ⟨rfl, _, World.drewN_drewN _ _ _⟩ | exact ⟨rfl, _, Eq.trans (World.drewN_drewN _ _ _) (congrArg (World.drewN _) (Nat.add_assoc _ _ _))⟩))); try go_wp2_with (first | (go_at_call 14; (with_reducible refine (impl_GetVarint.calls k s0_0 s0_1 t316 t317 false _ A2.out).mono ?_); rintro e w' ⟨rfl, ⟨nd, rfl⟩⟩; (try first | exact ⟨rfl, _, World.drewN_drewN _ _ _⟩ | exact ⟨rfl, _, Eq.trans (World.drewN_drewN _ _ _) (congrArg (World.drewN _) (Nat.add_assoc _ _ _))⟩))))
   go_ret
   exact ⟨by first | rfl | (simp [errW_none, errW_some] <;> rfl) | (simp [*, errW_none, errW_some] <;> rfl), by repeat (first | (with_reducible first | exact HI0.out | apply IsS96.alloc | apply IsS96.drewN | apply IsS96.drew | apply IsS96.set_0 | apply IsS96.set_1 | apply IsS96.set_2) | exact HI0.out), by repeat (first | (with_reducible first | exact HB.out | apply below_alloc | apply pw_below_drewN | apply below_drew1 | refine below_set ?_ (IsS96.ge HI0.out)) | exact HB.out), by repeat (first | (with_reducible first | exact HK.out | apply KeepBut.set_ | apply keep_drewN | apply keep_drew | apply keep_alloc) | exact HK.out)⟩

end Go.Proofs.Ytjneloehdcecnaa.P
end
section
-- Written by a changed copy of the print program, one module a function. Not trusted: Lean checks it.
namespace Go.Proofs.Ytjneloehdcecnaa.P
open Go.RowKit Go.Proofs.YtjneloehdcecnaaW.PrintWords Go.Proofs.YtjneloehdcecnaaW.PrintLast Go.Proofs.YtjneloehdcecnaaW.PrintMore
attribute [local go_sem] max2_int min2_int max_two min_two max_three min_three max_four min_four   -- for this text's walks alone
set_option linter.unusedVariables false
set_option linter.unusedSimpArgs false

/-! ### impl_taker_bytes: function 62 -/
def impl_taker_bytes.f (s0_0 : ByteArray) (s0_1 : Int) (s0_2 : Bool) (a1 : Int) : Option (ByteArray × ByteArray × Int × Bool) := if s0_2 = true then (some ((⟨#[]⟩ : ByteArray), s0_0, s0_1, true)) else (if a1 > (wrap64 ((s0_0.size : Int) - s0_1)) then (some ((⟨#[]⟩ : ByteArray), s0_0, s0_1, true)) else (if 0 ≤ (wrap64 ((wrap64 (s0_1 + a1)) - a1)) then (if (wrap64 ((wrap64 (s0_1 + a1)) - a1)) ≤ (wrap64 (s0_1 + a1)) then (if (wrap64 (s0_1 + a1)) ≤ (s0_0.size : Int) then (some (s0_0.extract ((wrap64 ((wrap64 (s0_1 + a1)) - a1)) : Int).toNat ((wrap64 (s0_1 + a1)) : Int).toNat, s0_0, wrap64 (s0_1 + a1), s0_2)) else (none)) else (none)) else (none)))
set_option maxHeartbeats 8000000 in
set_option maxRecDepth 100000 in
theorem impl_taker_bytes.calls (g : Nat) (s0_0 : ByteArray) (s0_1 : Int) (s0_2 : Bool) (a1 : Int) (r1 : ByteArray) (r2 : ByteArray) (r3 : Int) (r4 : Bool) (w0 w : World) (hI : IsS96 w0 w g s0_0 s0_1 s0_2) (hB : Below w0.heap.size w0 w) (h : impl_taker_bytes.f s0_0 s0_1 s0_2 a1 = some (r1, r2, r3, r4)) :
  Calls Try.prog 62 #[.pointer (some ⟨g, 0, none⟩), .int .i64 a1] w fun e w' => e = .returned (.string r1) ∧ IsS96 w0 w' g r2 r3 r4 ∧ Below w0.heap.size w0 w' ∧ KeepBut w w' g none := by
 have HI0 := Aside0.mk hI
 have HK := Aside0.mk (KeepBut.refl w g none)
 have HL := Aside0.mk hB.size
 clear hI
 have HW0 := Aside0.mk hB.size
 have HB := Aside0.mk hB
 clear hB
 have H : (if s0_2 = true then (some ((⟨#[]⟩ : ByteArray), s0_0, s0_1, true)) else (if a1 > (wrap64 ((s0_0.size : Int) - s0_1)) then (some ((⟨#[]⟩ : ByteArray), s0_0, s0_1, true)) else (if 0 ≤ (wrap64 ((wrap64 (s0_1 + a1)) - a1)) then (if (wrap64 ((wrap64 (s0_1 + a1)) - a1)) ≤ (wrap64 (s0_1 + a1)) then (if (wrap64 (s0_1 + a1)) ≤ (s0_0.size : Int) then (some (s0_0.extract ((wrap64 ((wrap64 (s0_1 + a1)) - a1)) : Int).toNat ((wrap64 (s0_1 + a1)) : Int).toNat, s0_0, wrap64 (s0_1 + a1), s0_2)) else (none)) else (none)) else (none)))) = some (r1, r2, r3, r4) := h
 clear h
 by_cases c3 : s0_2 = true
 ·subst c3
  have H1 : (some ((⟨#[]⟩ : ByteArray), s0_0, s0_1, true)) = some (r1, r2, r3, r4) := by rw [if_pos rfl] at H; exact H
  clear H
  have H := H1
  clear H1
  simp only [Option.some.injEq, Prod.mk.injEq] at H
  obtain ⟨rfl, rfl, rfl, rfl⟩ := H
  obtain ⟨HGz4, hgz4⟩ := HI0.out
  have hcz4_0 := cellS96_0 HGz4
  have hcz4_1 := cellS96_1 HGz4
  have hcz4_2 := cellS96_2 HGz4
  have hfz4_0 := blk_frozen HGz4 0
  have hfz4_1 := blk_frozen HGz4 1
  have hfz4_2 := blk_frozen HGz4 2
  clear HGz4 hgz4
  go_enter Try.func62, Try.ntmps62
  go_wp2
  repeat (go_quiet (fail); try go_wp2)
  go_ret
  exact ⟨by first | rfl | (simp [errW_none, errW_some] <;> rfl) | (simp [*, errW_none, errW_some] <;> rfl), by repeat (first | (with_reducible first | exact HI0.out | apply IsS96.alloc | apply IsS96.drewN | apply IsS96.drew | apply IsS96.set_0 | apply IsS96.set_1 | apply IsS96.set_2) | exact HI0.out), by repeat (first | (with_reducible first | exact HB.out | apply below_alloc | apply pw_below_drewN | apply below_drew1 | refine below_set ?_ (IsS96.ge HI0.out)) | exact HB.out), by repeat (first | (with_reducible first | exact HK.out | apply KeepBut.set_ | apply keep_drewN | apply keep_drew | apply keep_alloc) | exact HK.out)⟩
 ·replace c3 := Bool.eq_false_iff.mpr c3
  subst c3
  have H1 : (if a1 > (wrap64 ((s0_0.size : Int) - s0_1)) then (some ((⟨#[]⟩ : ByteArray), s0_0, s0_1, true)) else (if 0 ≤ (wrap64 ((wrap64 (s0_1 + a1)) - a1)) then (if (wrap64 ((wrap64 (s0_1 + a1)) - a1)) ≤ (wrap64 (s0_1 + a1)) then (if (wrap64 (s0_1 + a1)) ≤ (s0_0.size : Int) then (some (s0_0.extract ((wrap64 ((wrap64 (s0_1 + a1)) - a1)) : Int).toNat ((wrap64 (s0_1 + a1)) : Int).toNat, s0_0, wrap64 (s0_1 + a1), false)) else (none)) else (none)) else (none))) = some (r1, r2, r3, r4) := by rw [if_neg (show ¬ (false = true) by decide)] at H; exact H
  clear H
  have H := H1
  clear H1
  by_cases c5 : a1 > (wrap64 ((s0_0.size : Int) - s0_1))
  ·rw [if_pos c5] at H
   have c5b0 : decide ((wrap64 ((s0_0.size : Int) - s0_1)) < a1) = true := decide_eq_true c5
   clear c5
   simp only [Option.some.injEq, Prod.mk.injEq] at H
   obtain ⟨rfl, rfl, rfl, rfl⟩ := H
   obtain ⟨HGz6, hgz6⟩ := HI0.out
   have hcz6_0 := cellS96_0 HGz6
   have hcz6_1 := cellS96_1 HGz6
   have hcz6_2 := cellS96_2 HGz6
   have hfz6_0 := blk_frozen HGz6 0
   have hfz6_1 := blk_frozen HGz6 1
   have hfz6_2 := blk_frozen HGz6 2
   clear HGz6 hgz6
   go_enter Try.func62, Try.ntmps62
   go_wp2
   repeat (go_quiet (fail); try go_wp2)
   go_ret
   exact ⟨by first | rfl | (simp [errW_none, errW_some] <;> rfl) | (simp [*, errW_none, errW_some] <;> rfl), by repeat (first | (with_reducible first | exact HI0.out | apply IsS96.alloc | apply IsS96.drewN | apply IsS96.drew | apply IsS96.set_0 | apply IsS96.set_1 | apply IsS96.set_2) | exact HI0.out), by repeat (first | (with_reducible first | exact HB.out | apply below_alloc | apply pw_below_drewN | apply below_drew1 | refine below_set ?_ (IsS96.ge HI0.out)) | exact HB.out), by repeat (first | (with_reducible first | exact HK.out | apply KeepBut.set_ | apply keep_drewN | apply keep_drew | apply keep_alloc) | exact HK.out)⟩
  ·rw [if_neg c5] at H
   have c5b0 : decide ((wrap64 ((s0_0.size : Int) - s0_1)) < a1) = false := decide_eq_false c5
   clear c5
   obtain ⟨ji7, hji7⟩ : ∃ j_ : Int, (wrap64 ((wrap64 (s0_1 + a1)) - a1)) = j_ := ⟨_, rfl⟩
   replace H : (if 0 ≤ (ji7) then (if (ji7) ≤ (wrap64 (s0_1 + a1)) then (if (wrap64 (s0_1 + a1)) ≤ (s0_0.size : Int) then (some (s0_0.extract ((ji7) : Int).toNat ((wrap64 (s0_1 + a1)) : Int).toNat, s0_0, wrap64 (s0_1 + a1), false)) else (none)) else (none)) else (none)) = some (r1, r2, r3, r4) := by first | (rw [hji7] at H; exact H) | (simp only [hji7] at H ⊢; exact H)
   have hji7w : (IntKind.i64.wrap ((wrap64 (s0_1 + a1)) - a1)) = ji7 := (i64_w _).trans hji7
   by_cases c8 : 0 ≤ (ji7)
   ·rw [if_pos c8] at H
    have c8b0 := eq_true c8
    have c8b1 : decide (0 ≤ (ji7)) = true := decide_eq_true c8
    clear c8
    by_cases c9 : (ji7) ≤ (wrap64 (s0_1 + a1))
    ·rw [if_pos c9] at H
     have c9b0 := eq_true c9
     have c9b1 : decide ((ji7) ≤ (wrap64 (s0_1 + a1))) = true := decide_eq_true c9
     by_cases c10 : (wrap64 (s0_1 + a1)) ≤ (s0_0.size : Int)
     ·rw [if_pos c10] at H
      have c10b0 := eq_true c10
      have c10b1 : decide ((wrap64 (s0_1 + a1)) ≤ (s0_0.size : Int)) = true := decide_eq_true c10
      simp only [Option.some.injEq, Prod.mk.injEq] at H
      obtain ⟨rfl, rfl, rfl, rfl⟩ := H
      obtain ⟨HGz11, hgz11⟩ := HI0.out
      have hcz11_0 := cellS96_0 HGz11
      have hcz11_1 := cellS96_1 HGz11
      have hcz11_2 := cellS96_2 HGz11
      have hfz11_0 := blk_frozen HGz11 0
      have hfz11_1 := blk_frozen HGz11 1
      have hfz11_2 := blk_frozen HGz11 2
      clear HGz11 hgz11
      go_enter Try.func62, Try.ntmps62
      go_wp2
      repeat (go_quiet (fail); try go_wp2)
      go_ret
      exact ⟨by first | rfl | (simp [errW_none, errW_some] <;> rfl) | (simp only [← hji7]; first | rfl | (simp [errW_none, errW_some] <;> rfl)) | (simp [*, errW_none, errW_some] <;> rfl), by repeat (first | (with_reducible first | exact HI0.out | apply IsS96.alloc | apply IsS96.drewN | apply IsS96.drew | apply IsS96.set_0 | apply IsS96.set_1 | apply IsS96.set_2) | exact HI0.out), by repeat (first | (with_reducible first | exact HB.out | apply below_alloc | apply pw_below_drewN | apply below_drew1 | refine below_set ?_ (IsS96.ge HI0.out)) | exact HB.out), by repeat (first | (with_reducible first | exact HK.out | apply KeepBut.set_ | apply keep_drewN | apply keep_drew | apply keep_alloc) | exact HK.out)⟩
     ·rw [if_neg c10] at H
      exact absurd H (by simp)
    ·rw [if_neg c9] at H
     exact absurd H (by simp)
   ·rw [if_neg c8] at H
    exact absurd H (by simp)

end Go.Proofs.Ytjneloehdcecnaa.P
end
section
-- Written by a changed copy of the print program, one module a function. Not trusted: Lean checks it.
namespace Go.Proofs.Ytjneloehdcecnaa.P
open Go.RowKit Go.Proofs.YtjneloehdcecnaaW.PrintWords Go.Proofs.YtjneloehdcecnaaW.PrintLast Go.Proofs.YtjneloehdcecnaaW.PrintMore
attribute [local go_sem] max2_int min2_int max_two min_two max_three min_three max_four min_four   -- for this text's walks alone
set_option linter.unusedVariables false
set_option linter.unusedSimpArgs false

/-! ### impl_taker_text: function 61 -/
def impl_taker_text.f (k : Nat) (s0_0 : ByteArray) (s0_1 : Int) (s0_2 : Bool) : Option (ByteArray × ByteArray × Int × Bool) := (impl_taker_num.f k s0_0 s0_1 s0_2).bind fun bt319 => ((impl_taker_bytes.f bt319.2.1 bt319.2.2.1 bt319.2.2.2 bt319.1).bind fun bt323 => (some (bt323.1, bt323.2.1, bt323.2.2.1, bt323.2.2.2)))
theorem impl_taker_text.mono : ∀ a0 a1 a2 k, LeO (impl_taker_text.f k a0 a1 a2) (impl_taker_text.f (k + 1) a0 a1 a2) := by
 intro a0 a1 a2 k
 unfold impl_taker_text.f
 repeat' first
   | (with_reducible exact impl_taker_num.mono _ _ _ _)
   | (with_reducible exact LeO.refl _)
   | (with_reducible exact LeO.none _)
   | (with_reducible refine LeO.ite ?_ ?_)
   | (with_reducible refine LeO.bind ?_ (fun _ => ?_))
   | exact impl_taker_num.mono _ _ _ _
   | exact LeO.none _
   | refine LeO.ite ?_ ?_
   | refine LeO.bind ?_ (fun _ => ?_)
set_option maxHeartbeats 8000000 in
set_option maxRecDepth 100000 in
theorem impl_taker_text.calls (k : Nat) (g : Nat) (s0_0 : ByteArray) (s0_1 : Int) (s0_2 : Bool) (r1 : ByteArray) (r2 : ByteArray) (r3 : Int) (r4 : Bool) (w0 w : World) (hI : IsS96 w0 w g s0_0 s0_1 s0_2) (hB : Below w0.heap.size w0 w) (h : impl_taker_text.f k s0_0 s0_1 s0_2 = some (r1, r2, r3, r4)) :
  Calls Try.prog 61 #[.pointer (some ⟨g, 0, none⟩)] w fun e w' => e = .returned (.string r1) ∧ IsS96 w0 w' g r2 r3 r4 ∧ Below w0.heap.size w0 w' ∧ KeepBut w w' g none := by
 have HI0 := Aside0.mk hI
 have HK := Aside0.mk (KeepBut.refl w g none)
 have HL := Aside0.mk hB.size
 clear hI
 have HW0 := Aside0.mk hB.size
 have HB := Aside0.mk hB
 clear hB
 have H : ((impl_taker_num.f k s0_0 s0_1 s0_2).bind fun bt319 => ((impl_taker_bytes.f bt319.2.1 bt319.2.2.1 bt319.2.2.2 bt319.1).bind fun bt323 => (some (bt323.1, bt323.2.1, bt323.2.2.1, bt323.2.2.2)))) = some (r1, r2, r3, r4) := h
 clear h
 replace H := Option.bind_eq_some_iff.mp H
 obtain ⟨⟨t319, t320, t321, t322⟩, A20, H⟩ := H
 replace H : ((impl_taker_bytes.f t320 t321 t322 t319).bind fun bt323 => (some (bt323.1, bt323.2.1, bt323.2.2.1, bt323.2.2.2))) = some (r1, r2, r3, r4) := H
 have A2 := Aside0.mk A20
 clear A20
 replace H := Option.bind_eq_some_iff.mp H
 obtain ⟨⟨t323, t324, t325, t326⟩, A30, H⟩ := H
 replace H : (some (t323, t324, t325, t326)) = some (r1, r2, r3, r4) := H
 have A3 := Aside0.mk A30
 clear A30
 simp only [Option.some.injEq, Prod.mk.injEq] at H
 obtain ⟨rfl, rfl, rfl, rfl⟩ := H
 go_enter Try.func61, Try.ntmps61
 go_wp2_with (first | ((with_reducible refine gate_callee (f := 60) rfl ?_); refine goesL_ (some 5) rfl rfl Try.func60 (by kernel_rfl) rfl #[.pointer (some ⟨g, 0, none⟩)] rfl (by (try simp only [List.map_toArray, List.map_cons, List.map_nil]); first | done | rfl | (simp only [List.length_drop, List.length_take]; rfl)) ?_; (with_reducible refine (impl_taker_num.calls k g s0_0 s0_1 s0_2 t319 t320 t321 t322 w0 _ ?side1 ?side2 A2.out).mono ?_); (case side1 => repeat (first | (with_reducible first | exact HI0.out | apply IsS96.alloc | apply IsS96.drewN | apply IsS96.drew | apply IsS96.set_0 | apply IsS96.set_1 | apply IsS96.set_2) | exact HI0.out)); (case side2 => repeat (first | (with_reducible first | exact HB.out | apply below_alloc | apply pw_below_drewN | apply below_drew1 | refine below_set ?_ (IsS96.ge HI0.out)) | exact HB.out)); rintro e w4 ⟨rfl, hi, hb, hk⟩; refine ⟨_, rfl, ?_⟩; have n0_ := Aside0.mk (KeepBut.trans (by repeat (first | (with_reducible first | exact HK.out | apply KeepBut.set_ | apply keep_drewN | apply keep_drew | apply keep_alloc) | exact HK.out)) hk (.inl rfl)); have n1_ := Aside0.mk (hb); have n2_ := Aside0.mk (hi); clear HK; clear HB; clear HI0; have HK := n0_; have HB := n1_; have HI0 := n2_; clear n0_ n1_ n2_; (try clear hb); (try clear hb2); (try clear hk); (try clear hi)) | ((with_reducible refine gate_callee (f := 62) rfl ?_); refine goesL_ (some 6) rfl rfl Try.func62 (by kernel_rfl) rfl #[.pointer (some ⟨g, 0, none⟩), .int .i64 t319] rfl (by (try simp only [List.map_toArray, List.map_cons, List.map_nil]); first | done | rfl | (simp only [List.length_drop, List.length_take]; rfl)) ?_; (with_reducible refine (impl_taker_bytes.calls g t320 t321 t322 t319 t323 t324 t325 t326 w0 _ ?side1 ?side2 A3.out).mono ?_); (case side1 => repeat (first | (with_reducible first | exact HI0.out | apply IsS96.alloc | apply IsS96.drewN | apply IsS96.drew | apply IsS96.set_0 | apply IsS96.set_1 | apply IsS96.set_2) | exact HI0.out)); (case side2 => repeat (first | (with_reducible first | exact HB.out | apply below_alloc | apply pw_below_drewN | apply below_drew1 | refine below_set ?_ (IsS96.ge HI0.out)) | exact HB.out)); rintro e w5 ⟨rfl, hi, hb, hk⟩; refine ⟨_, rfl, ?_⟩; have n0_ := Aside0.mk (KeepBut.trans (by repeat (first | (with_reducible first | exact HK.out | apply KeepBut.set_ | apply keep_drewN | apply keep_drew | apply keep_alloc) | exact HK.out)) hk (.inl rfl)); have n1_ := Aside0.mk (hb); have n2_ := Aside0.mk (hi); clear HK; clear HB; clear HI0; have HK := n0_; have HB := n1_; have HI0 := n2_; clear n0_ n1_ n2_; (try clear hb); (try clear hb2); (try clear hk); (try clear hi)))
 go_ret
 exact ⟨by first | rfl | (simp [errW_none, errW_some] <;> rfl) | (simp [*, errW_none, errW_some] <;> rfl), by repeat (first | (with_reducible first | exact HI0.out | apply IsS96.alloc | apply IsS96.drewN | apply IsS96.drew | apply IsS96.set_0 | apply IsS96.set_1 | apply IsS96.set_2) | exact HI0.out), by repeat (first | (with_reducible first | exact HB.out | apply below_alloc | apply pw_below_drewN | apply below_drew1 | refine below_set ?_ (IsS96.ge HI0.out)) | exact HB.out), by repeat (first | (with_reducible first | exact HK.out | apply KeepBut.set_ | apply keep_drewN | apply keep_drew | apply keep_alloc) | exact HK.out)⟩

end Go.Proofs.Ytjneloehdcecnaa.P
end
section
/- The taker: what num, bytes and text take, in plain words, and their contracts. Condition: the text has at most 2 to the 20 bytes, the place lies in it. -/
namespace Go.Proofs.Ytjneloehdcecnaa.M
open Go.RowKit Go.Proofs.Ytjneloehdcecnaa.P Go.Proofs.YtjneloehdcecnaaW.PrintWords Go.Proofs.YtjneloehdcecnaaW.PrintLast
set_option linter.unusedVariables false
set_option linter.unusedSectionVars false
theorem gl_ok (s : ByteArray) (a : Nat) (ha : a ≤ s.size) : ∀ rem i v : Nat, i + rem = 8 → v < 128 ^ i → (gl s a rem i v).2.2 = true →
    0 ≤ (gl s a rem i v).1 ∧ (gl s a rem i v).1 ≤ 72057594037927935 ∧ (a : Int) < (gl s a rem i v).2.1 ∧ (gl s a rem i v).2.1 ≤ (s.size : Int) := by
  intro rem
  induction rem with
  | zero => intro i v _ _ h; simp [gl] at h
  | succ rem ih =>
    intro i v hi hv h
    unfold gl at h ⊢
    obtain ⟨c, hc, hc2⟩ := bt_nat s ((a + i : Nat) : Int)
    by_cases h1 : a + i < s.size
    · rw [if_pos h1] at h ⊢
      rw [hc] at h ⊢
      rw [Int.toNat_natCast] at h ⊢
      by_cases h2 : (c : Int) < 128
      · rw [if_pos h2] at h ⊢
        by_cases h3 : 0 < i ∧ (c : Int) = 0
        · rw [if_pos h3] at h; cases h
        · rw [if_neg h3]
          have h4 := step_lt hv (show c < 128 by omega)
          have h5 : (128 : Nat) ^ (i + 1) ≤ 72057594037927936 := pow_le8 (by omega)
          exact ⟨by show (0 : Int) ≤ ((v + c * 128 ^ i : Nat) : Int); omega, by show ((v + c * 128 ^ i : Nat) : Int) ≤ _; omega, by show (a : Int) < ((a + i + 1 : Nat) : Int); omega, by show ((a + i + 1 : Nat) : Int) ≤ _; omega⟩
      · rw [if_neg h2] at h ⊢
        exact ih (i + 1) _ (by omega) (step_lt hv (by omega)) h
    · rw [if_neg h1] at h; cases h
theorem get_ok {s : ByteArray} {a : Int} (h : (get s a).2.2 = true) : 0 ≤ a ∧ 0 ≤ (get s a).1 ∧ (get s a).1 ≤ 72057594037927935 ∧ a < (get s a).2.1 ∧ (get s a).2.1 ≤ (s.size : Int) := by
  unfold get at h ⊢
  by_cases c : a < 0 ∨ a ≥ s.size
  · rw [if_pos c] at h; cases h
  · rw [if_neg c] at h ⊢
    have := gl_ok s a.toNat (by omega) 8 0 0 rfl (by simp) h
    omega
def tnum (s : ByteArray) (a : Int) (b : Bool) : Int × Int × Bool := if b = true then (0, a, true) else if (get s a).2.2 = true then ((get s a).1, (get s a).2.1, false) else (0, a, true)
def tbytes (s : ByteArray) (a : Int) (b : Bool) (n : Int) : ByteArray × Int × Bool := if b = true then (⟨#[]⟩, a, true) else if n > (s.size : Int) - a then (⟨#[]⟩, a, true) else (s.extract a.toNat (a + n).toNat, a + n, false)
def ttext (s : ByteArray) (a : Int) (b : Bool) : ByteArray × Int × Bool := tbytes s (tnum s a b).2.1 (tnum s a b).2.2 (tnum s a b).1
theorem tnum_in {s : ByteArray} {a : Int} {b : Bool} (h : 0 ≤ a ∧ a ≤ (s.size : Int)) : 0 ≤ (tnum s a b).1 ∧ (tnum s a b).1 ≤ 72057594037927935 ∧ 0 ≤ (tnum s a b).2.1 ∧ (tnum s a b).2.1 ≤ (s.size : Int) := by
  unfold tnum
  split
  · exact ⟨by simp, by simp, h.1, h.2⟩
  · split
    · rename_i h2
      have := get_ok h2
      exact ⟨this.2.1, this.2.2.1, by show 0 ≤ (get s a).2.1; omega, this.2.2.2.2⟩
    · exact ⟨by simp, by simp, h.1, h.2⟩
theorem tbytes_in {s : ByteArray} {a n : Int} {b : Bool} (h : 0 ≤ a ∧ a ≤ (s.size : Int)) (hn : 0 ≤ n) : 0 ≤ (tbytes s a b n).2.1 ∧ (tbytes s a b n).2.1 ≤ (s.size : Int) := by
  unfold tbytes
  split
  · exact h
  · split
    · exact h
    · exact ⟨by show 0 ≤ a + n; omega, by show a + n ≤ _; omega⟩
theorem ttext_in {s : ByteArray} {a : Int} {b : Bool} (h : 0 ≤ a ∧ a ≤ (s.size : Int)) : 0 ≤ (ttext s a b).2.1 ∧ (ttext s a b).2.1 ≤ (s.size : Int) := by
  have h1 := tnum_in (b := b) h
  exact tbytes_in ⟨h1.2.2.1, h1.2.2.2⟩ h1.1
theorem num_ev (s : ByteArray) (a : Int) (b : Bool) (hs : s.size ≤ 1048576) : Ev (fun k => impl_taker_num.f k s a b) ((tnum s a b).1, s, (tnum s a b).2.1, (tnum s a b).2.2) := by
  refine Ev.bind (impl_get s a hs) ⟨0, fun k _ => ?_⟩
  unfold tnum
  by_cases hb : b = true
  · rw [if_pos hb, if_pos hb]
  · rw [if_neg hb, if_neg hb]
    by_cases h : (get s a).2.2 = true
    · rw [if_pos h, if_pos h, Bool.eq_false_iff.2 hb]
    · rw [if_neg h, if_neg h]
theorem bytes_eq (s : ByteArray) (a n : Int) (b : Bool) (hs : s.size ≤ 1048576) (h : 0 ≤ a ∧ a ≤ (s.size : Int)) (hn : 0 ≤ n) : impl_taker_bytes.f s a b n = some ((tbytes s a b n).1, s, (tbytes s a b n).2.1, (tbytes s a b n).2.2) := by
  unfold impl_taker_bytes.f tbytes
  by_cases hb : b = true
  · rw [if_pos hb, if_pos hb]
  · rw [if_neg hb, if_neg hb, wrap_ok (x := (s.size : Int) - a) (by omega) (by omega)]
    by_cases hc : n > (s.size : Int) - a
    · rw [if_pos hc, if_pos hc]
    · rw [if_neg hc, if_neg hc, wrap_ok (x := a + n) (by omega) (by omega), wrap_ok (x := a + n - n) (by omega) (by omega), if_pos (by omega), if_pos (by omega), if_pos (by omega), Bool.eq_false_iff.2 hb, show a + n - n = a by omega]
theorem text_ev (s : ByteArray) (a : Int) (b : Bool) (hs : s.size ≤ 1048576) (h : 0 ≤ a ∧ a ≤ (s.size : Int)) : Ev (fun k => impl_taker_text.f k s a b) ((ttext s a b).1, s, (ttext s a b).2.1, (ttext s a b).2.2) := by
  refine Ev.bind (num_ev s a b hs) ⟨0, fun k _ => ?_⟩
  have hi := tnum_in (b := b) h
  show ((impl_taker_bytes.f s (tnum s a b).2.1 (tnum s a b).2.2 (tnum s a b).1).bind fun bt323 => (some (bt323.1, bt323.2.1, bt323.2.2.1, bt323.2.2.2))) = _
  rw [bytes_eq s _ _ _ hs ⟨hi.2.2.1, hi.2.2.2⟩ hi.1]
  rfl
/-- The taker at block g. -/
def TkAt (W : World) (g : Nat) (s : ByteArray) (a : Int) (b : Bool) : Prop := W.heap[g]? = some (.cells #[.string s, .int .i64 a, .bool b] 96 (0, 0))
section
variable (w0 w : World) (g : Nat) (s : ByteArray) (a : Int) (b : Bool) (hs : s.size ≤ 1048576) (h : 0 ≤ a ∧ a ≤ (s.size : Int)) (ht : TkAt w g s a b) (hg : w0.heap.size ≤ g) (hB : Below w0.heap.size w0 w)
include hs h ht hg hB
theorem tnum_call : Calls Try.prog 60 #[.pointer (some ⟨g, 0, none⟩)] w fun e w' => e = .returned (.int .i64 (tnum s a b).1) ∧ TkAt w' g s (tnum s a b).2.1 (tnum s a b).2.2 ∧ Below w0.heap.size w0 w' ∧ KeepBut w w' g none := by
  obtain ⟨k, hk⟩ := Ev.rounds (num_ev s a b hs)
  exact (impl_taker_num.calls k g s a b _ _ _ _ w0 w ⟨ht, hg⟩ hB hk).mono fun e w' hh => ⟨hh.1, hh.2.1.1, hh.2.2⟩
theorem ttext_call : Calls Try.prog 61 #[.pointer (some ⟨g, 0, none⟩)] w fun e w' => e = .returned (.string (ttext s a b).1) ∧ TkAt w' g s (ttext s a b).2.1 (ttext s a b).2.2 ∧ Below w0.heap.size w0 w' ∧ KeepBut w w' g none := by
  obtain ⟨k, hk⟩ := Ev.rounds (text_ev s a b hs h)
  exact (impl_taker_text.calls k g s a b _ _ _ _ w0 w ⟨ht, hg⟩ hB hk).mono fun e w' hh => ⟨hh.1, hh.2.1.1, hh.2.2⟩
end
end Go.Proofs.Ytjneloehdcecnaa.M
end
section
-- Written by a changed copy of the print program, one module a function. Not trusted: Lean checks it.
namespace Go.Proofs.Ytjneloehdcecnaa.P
open Go.RowKit Go.Proofs.YtjneloehdcecnaaW.PrintWords Go.Proofs.YtjneloehdcecnaaW.PrintLast Go.Proofs.YtjneloehdcecnaaW.PrintMore
attribute [local go_sem] max2_int min2_int max_two min_two max_three min_three max_four min_four   -- for this text's walks alone
set_option linter.unusedVariables false
set_option linter.unusedSimpArgs false

/-! ### impl_sized: function 47 -/
def impl_sized.f (k : Nat) (a0 : ByteArray) : Option (ByteArray) := (impl_PutVarint.f k (a0.size : Int)).bind fun t158 => (if t158.size + a0.size ≤ 9223372036854775807 then (some (t158 ++ a0)) else (none))
theorem impl_sized.mono : ∀ a0 k, LeO (impl_sized.f k a0) (impl_sized.f (k + 1) a0) := by
 intro a0 k
 unfold impl_sized.f
 repeat' first
   | (with_reducible exact impl_PutVarint.mono _ _)
   | (with_reducible exact LeO.refl _)
   | (with_reducible exact LeO.none _)
   | (with_reducible refine LeO.ite ?_ ?_)
   | (with_reducible refine LeO.bind ?_ (fun _ => ?_))
   | exact impl_PutVarint.mono _ _
   | exact LeO.none _
   | refine LeO.ite ?_ ?_
   | refine LeO.bind ?_ (fun _ => ?_)
set_option maxHeartbeats 8000000 in
set_option maxRecDepth 100000 in
theorem impl_sized.calls (k : Nat) (a0 : ByteArray) (r : ByteArray) (w : World) (h : impl_sized.f k a0 = some r) :
  Calls Try.prog 47 #[.string a0] w fun e w' => e = .returned (.string r) ∧ Below w.heap.size w w' := by
 have HB := Aside0.mk (Below.refl w.heap.size w)
 have H : ((impl_PutVarint.f k (a0.size : Int)).bind fun t158 => (if t158.size + a0.size ≤ 9223372036854775807 then (some (t158 ++ a0)) else (none))) = some r := h
 clear h
 replace H := Option.bind_eq_some_iff.mp H
 obtain ⟨t158, A20, H⟩ := H
 replace H : (if t158.size + a0.size ≤ 9223372036854775807 then (some (t158 ++ a0)) else (none)) = some r := H
 have A2 := Aside0.mk A20
 clear A20
 by_cases c3 : t158.size + a0.size ≤ 9223372036854775807
 ·rw [if_pos c3] at H
  have c3b0 := eq_true c3
  have c3b1 : decide (t158.size + a0.size ≤ 9223372036854775807) = true := decide_eq_true c3
  try have c3b2 : (9223372036854775807 < t158.size + a0.size) = False := eq_false (Nat.not_lt.2 c3)
  obtain rfl := Option.some.inj H
  go_enter Try.func47, Try.ntmps47
  go_wp2_with (first | ((with_reducible refine gate_callee (f := 12) rfl ?_); refine goesL_ (some 5) rfl rfl Try.func12 (by kernel_rfl) rfl #[.int .i64 (a0.size : Int)] rfl (by (try simp only [List.map_toArray, List.map_cons, List.map_nil]); first | done | rfl | (simp only [List.length_drop, List.length_take]; rfl)) ?_; (with_reducible refine (impl_PutVarint.calls k (a0.size : Int) t158 _ A2.out).mono ?_); rintro e w4 ⟨rfl, hb⟩; refine ⟨_, rfl, ?_⟩; have n0_ := Aside0.mk (below_step (by repeat (first | (with_reducible first | exact HB.out | apply below_alloc | apply pw_below_drewN | apply below_drew1) | exact HB.out)) hb); clear HB; have HB := n0_; clear n0_; (try clear hb); (try clear hb2); (try clear hk); (try clear hi)))
  go_ret
  exact ⟨by first | rfl | (simp [errW_none, errW_some] <;> rfl) | (simp [*, errW_none, errW_some] <;> rfl), by repeat (first | (with_reducible first | exact HB.out | apply below_alloc | apply pw_below_drewN | apply below_drew1) | exact HB.out)⟩
 ·rw [if_neg c3] at H
  exact absurd H (by simp)

end Go.Proofs.Ytjneloehdcecnaa.P
end
section
/- What the program's EncodeEntries writes, in plain words, and its small callees. Condition: what is sized has at most 4000 bytes. -/
namespace Go.Proofs.Ytjneloehdcecnaa.M
open Go.RowKit Go.Proofs.Ytjneloehdcecnaa.P Go.Proofs.YtjneloehdcecnaaW.PrintWords Go.Proofs.YtjneloehdcecnaaW.PrintLast
set_option linter.unusedVariables false
def entOk (e : S71) : Bool := decide (1 ≤ e.f0.size) && decide (e.f0.size ≤ 1000) && decide (1 ≤ e.f1) && decide (e.f1 ≤ 72057594037927935) && (decide (e.f2 = 1) && decide (e.f3.size ≤ 4000) || decide (e.f2 = 0) && decide (e.f3.size = 0))
def szd (s : ByteArray) : ByteArray := put (s.size : Int) ++ s
def entB (e : S71) : ByteArray := szd e.f0 ++ put e.f1 ++ strOfNums [e.f2 % 256] ++ szd e.f3
def encL : List S71 → ByteArray
  | [] => ⟨#[]⟩
  | e :: l => entB e ++ encL l
def enc (l : List S71) : ByteArray := if l.length > 1000 then ⟨#[]⟩ else if l.all entOk = true then put (l.length : Int) ++ encL l else ⟨#[]⟩
theorem ba_append_empty (a : ByteArray) : a ++ (⟨#[]⟩ : ByteArray) = a := by
  apply ByteArray.ext
  rw [ByteArray.data_append]
  simp
theorem szd_size (s : ByteArray) : (szd s).size ≤ 8 + s.size := by
  have := put_size (s.size : Int)
  unfold szd
  rw [ByteArray.size_append]
  omega
theorem szd_ev (s : ByteArray) (hs : s.size ≤ 1048576) : Ev (fun k => impl_sized.f k s) (szd s) := by
  refine Ev.bind (impl_put (s.size : Int)) ⟨0, fun k _ => ?_⟩
  have := put_size (s.size : Int)
  exact if_pos (by omega)
theorem szd_call (s : ByteArray) (w : World) (hs : s.size ≤ 1048576) : Calls Try.prog 47 #[.string s] w fun e w' => e = .returned (.string (szd s)) ∧ Below w.heap.size w w' := by
  obtain ⟨k, hk⟩ := Ev.rounds (szd_ev s hs)
  exact impl_sized.calls k s _ w hk
theorem put_call (n : Int) (w : World) : Calls Try.prog 12 #[.int .i64 n] w fun e w' => e = .returned (.string (put n)) ∧ Below w.heap.size w w' := by
  obtain ⟨k, hk⟩ := Ev.rounds (impl_put n)
  exact impl_PutVarint.calls k n _ w hk
end Go.Proofs.Ytjneloehdcecnaa.M
end
section
-- Written by a changed copy of the print program, one module a function. Not trusted: Lean checks it.
namespace Go.Proofs.Ytjneloehdcecnaa.P
open Go.RowKit Go.Proofs.YtjneloehdcecnaaW.PrintWords Go.Proofs.YtjneloehdcecnaaW.PrintLast Go.Proofs.YtjneloehdcecnaaW.PrintMore
attribute [local go_sem] max2_int min2_int max_two min_two max_three min_three max_four min_four   -- for this text's walks alone
set_option linter.unusedVariables false
set_option linter.unusedSimpArgs false

/-! ### impl_numFine: function 80 -/
def impl_numFine.f (a0 : Int) : Option (Bool) := if a0 ≥ 1 then (some (decide (a0 ≤ 999999999))) else (some false)
set_option maxHeartbeats 8000000 in
set_option maxRecDepth 100000 in
theorem impl_numFine.calls (a0 : Int) (r : Bool) (w : World) (h : impl_numFine.f a0 = some r) :
  Calls Try.prog 80 #[.int .i64 a0] w fun e w' => e = .returned (.bool r) ∧ Drawn0 w w' := by
 have H : (if a0 ≥ 1 then (some (decide (a0 ≤ 999999999))) else (some false)) = some r := h
 clear h
 by_cases c2 : a0 ≥ 1
 ·rw [if_pos c2] at H
  have c2b0 : decide (1 ≤ a0) = true := decide_eq_true c2
  clear c2
  obtain rfl := Option.some.inj H
  go_enter Try.func80, Try.ntmps80
  go_wp2
  go_ret
  exact ⟨by first | rfl | (simp; done) | (simp [*]; done), by repeat (first | exact Drawn0.refl _ | apply Drawn0.step)⟩
 ·rw [if_neg c2] at H
  have c2b0 : decide (1 ≤ a0) = false := decide_eq_false c2
  clear c2
  obtain rfl := Option.some.inj H
  go_enter Try.func80, Try.ntmps80
  go_wp2
  go_ret
  exact ⟨by first | rfl | (simp; done) | (simp [*]; done), by repeat (first | exact Drawn0.refl _ | apply Drawn0.step)⟩

end Go.Proofs.Ytjneloehdcecnaa.P
end
section
-- Written by a changed copy of the print program, one module a function. Not trusted: Lean checks it.
namespace Go.Proofs.Ytjneloehdcecnaa.P
open Go.RowKit Go.Proofs.YtjneloehdcecnaaW.PrintWords Go.Proofs.YtjneloehdcecnaaW.PrintLast Go.Proofs.YtjneloehdcecnaaW.PrintMore
attribute [local go_sem] max2_int min2_int max_two min_two max_three min_three max_four min_four   -- for this text's walks alone
set_option linter.unusedVariables false
set_option linter.unusedSimpArgs false

/-! ### impl_refFine: function 81 -/
def impl_refFine.f (a0_0 : Int) (a0_1 : Int) (a0_2 : ByteArray) (a0_3 : ByteArray) : Option (Bool) := (impl_numFine.f a0_0).bind fun t236 => (if t236 = true then (if a0_1 ≥ 0 then (if a0_1 ≤ 3 then (if (a0_2.size : Int) ≥ 1 then (if (a0_2.size : Int) ≤ 1000 then (if (a0_3.size : Int) ≥ 1 then (if (a0_3.size : Int) ≤ 1000 then (some (!(Op.bytesLess a0_3.toList a0_2.toList))) else (some false)) else (some false)) else (some false)) else (some false)) else (some false)) else (some false)) else (some false))
set_option maxHeartbeats 8000000 in
set_option maxRecDepth 100000 in
theorem impl_refFine.calls (a0_0 : Int) (a0_1 : Int) (a0_2 : ByteArray) (a0_3 : ByteArray) (r : Bool) (w : World) (h : impl_refFine.f a0_0 a0_1 a0_2 a0_3 = some r) :
  Calls Try.prog 81 #[.agg #[.int .i64 a0_0, .int .i64 a0_1, .string a0_2, .string a0_3]] w fun e w' => e = .returned (.bool r) ∧ Below w.heap.size w w' := by
 have hu87 := Try.underlying87
 have HB := Aside0.mk (Below.refl w.heap.size w)
 have H : ((impl_numFine.f a0_0).bind fun t236 => (if t236 = true then (if a0_1 ≥ 0 then (if a0_1 ≤ 3 then (if (a0_2.size : Int) ≥ 1 then (if (a0_2.size : Int) ≤ 1000 then (if (a0_3.size : Int) ≥ 1 then (if (a0_3.size : Int) ≤ 1000 then (some (!(Op.bytesLess a0_3.toList a0_2.toList))) else (some false)) else (some false)) else (some false)) else (some false)) else (some false)) else (some false)) else (some false))) = some r := h
 clear h
 replace H := Option.bind_eq_some_iff.mp H
 obtain ⟨t236, A20, H⟩ := H
 replace H : (if t236 = true then (if a0_1 ≥ 0 then (if a0_1 ≤ 3 then (if (a0_2.size : Int) ≥ 1 then (if (a0_2.size : Int) ≤ 1000 then (if (a0_3.size : Int) ≥ 1 then (if (a0_3.size : Int) ≤ 1000 then (some (!(Op.bytesLess a0_3.toList a0_2.toList))) else (some false)) else (some false)) else (some false)) else (some false)) else (some false)) else (some false)) else (some false)) = some r := H
 have A2 := Aside0.mk A20
 clear A20
 by_cases c3 : t236 = true
 ·subst c3
  have H1 : (if a0_1 ≥ 0 then (if a0_1 ≤ 3 then (if (a0_2.size : Int) ≥ 1 then (if (a0_2.size : Int) ≤ 1000 then (if (a0_3.size : Int) ≥ 1 then (if (a0_3.size : Int) ≤ 1000 then (some (!(Op.bytesLess a0_3.toList a0_2.toList))) else (some false)) else (some false)) else (some false)) else (some false)) else (some false)) else (some false)) = some r := by rw [if_pos rfl] at H; exact H
  clear H
  have H := H1
  clear H1
  by_cases c4 : a0_1 ≥ 0
  ·rw [if_pos c4] at H
   have c4b0 : decide (0 ≤ a0_1) = true := decide_eq_true c4
   clear c4
   by_cases c5 : a0_1 ≤ 3
   ·rw [if_pos c5] at H
    have c5b0 : decide (a0_1 ≤ 3) = true := decide_eq_true c5
    clear c5
    by_cases c6 : (a0_2.size : Int) ≥ 1
    ·rw [if_pos c6] at H
     have c6b0 : decide (1 ≤ (a0_2.size : Int)) = true := decide_eq_true c6
     have c6b1 : decide (1 ≤ a0_2.size) = true := decide_eq_true (by omega)
     clear c6
     by_cases c7 : (a0_2.size : Int) ≤ 1000
     ·rw [if_pos c7] at H
      have c7b0 : decide ((a0_2.size : Int) ≤ 1000) = true := decide_eq_true c7
      have c7b1 : decide (a0_2.size ≤ 1000) = true := decide_eq_true (by omega)
      clear c7
      by_cases c8 : (a0_3.size : Int) ≥ 1
      ·rw [if_pos c8] at H
       have c8b0 : decide (1 ≤ (a0_3.size : Int)) = true := decide_eq_true c8
       have c8b1 : decide (1 ≤ a0_3.size) = true := decide_eq_true (by omega)
       clear c8
       by_cases c9 : (a0_3.size : Int) ≤ 1000
       ·rw [if_pos c9] at H
        have c9b0 : decide ((a0_3.size : Int) ≤ 1000) = true := decide_eq_true c9
        have c9b1 : decide (a0_3.size ≤ 1000) = true := decide_eq_true (by omega)
        clear c9
        obtain rfl := Option.some.inj H
        go_enter Try.func81, Try.ntmps81
        go_wp2_with (first | ((with_reducible refine gate_dst (N := 1) rfl ?_); (try (refine gate_guard (by rfl) ?_; dsimp only)); refine box_event ?hg (N := 1) ?hd (cs := #[.int .i64 a0_0, .int .i64 a0_1, .string a0_2, .string a0_3]) (t := 87) ?hr ?_; (case hd => rfl); (case hg => rfl); (case hr => first | (go_simp; done) | (go_simp; rfl)); intro gb235 hg w10 hbox hb; have n0_ := Aside0.mk (below_step (by repeat (first | (with_reducible first | exact HB.out | apply below_alloc | apply pw_below_drewN | apply below_drew1) | exact HB.out)) hb); have n1_ := Aside0.mk (hbox); have n2_ := Aside0.mk ((by rw [hg]; exact (below_size (by repeat (first | (with_reducible first | exact HB.out | apply below_alloc | apply pw_below_drewN | apply below_drew1) | exact HB.out))) : w.heap.size ≤ gb235)); have n3_ := Aside0.mk ((by rw [hg]; exact (below_size (by repeat (first | (with_reducible first | exact HB.out | apply below_alloc | apply pw_below_drewN | apply below_drew1) | exact HB.out))) : w.heap.size ≤ gb235)); clear HB; have HB := n0_; have BK235 := n1_; have GW235 := n2_; have GE235 := n3_; clear n0_ n1_ n2_ n3_; clear hb hbox hg; have hcz11_0 : w10.cell? ⟨gb235, 0, none⟩ = some (.int .i64 a0_0) := (blk_cell BK235.out 0).trans rfl; have hcz11_1 : w10.cell? ⟨gb235, 1, none⟩ = some (.int .i64 a0_1) := (blk_cell BK235.out 1).trans rfl; have hcz11_2 : w10.cell? ⟨gb235, 2, none⟩ = some (.string a0_2) := (blk_cell BK235.out 2).trans rfl; have hcz11_3 : w10.cell? ⟨gb235, 3, none⟩ = some (.string a0_3) := (blk_cell BK235.out 3).trans rfl; have hfz11_0 := blk_frozen BK235.out 0; have hfz11_1 := blk_frozen BK235.out 1; have hfz11_2 := blk_frozen BK235.out 2; have hfz11_3 := blk_frozen BK235.out 3) | ((with_reducible refine gate_callee (f := 80) rfl ?_); refine goesL_ (some 5) rfl rfl Try.func80 (by kernel_rfl) rfl #[.int .i64 a0_0] rfl (by (try simp only [List.map_toArray, List.map_cons, List.map_nil]); first | done | rfl | (simp only [List.length_drop, List.length_take]; rfl)) ?_; (with_reducible refine (impl_numFine.calls a0_0 true _ A2.out).mono ?_); rintro e w' ⟨rfl, ⟨nd, rfl⟩⟩; refine ⟨_, rfl, ?_⟩))
        go_ret
        exact ⟨by first | rfl | exact congrArg (fun b => Ending.returned (Value.bool b)) (M.le_less _ _) | (simp [errW_none, errW_some] <;> rfl) | (simp [*, errW_none, errW_some] <;> rfl), by repeat (first | (with_reducible first | exact HB.out | apply below_alloc | apply pw_below_drewN | apply below_drew1 | refine below_set ?_ GE235.out) | exact HB.out)⟩
       ·rw [if_neg c9] at H
        have c9b0 : decide ((a0_3.size : Int) ≤ 1000) = false := decide_eq_false c9
        have c9b1 : decide (a0_3.size ≤ 1000) = false := decide_eq_false (by omega)
        clear c9
        obtain rfl := Option.some.inj H
        go_enter Try.func81, Try.ntmps81
        go_wp2_with (first | ((with_reducible refine gate_dst (N := 1) rfl ?_); (try (refine gate_guard (by rfl) ?_; dsimp only)); refine box_event ?hg (N := 1) ?hd (cs := #[.int .i64 a0_0, .int .i64 a0_1, .string a0_2, .string a0_3]) (t := 87) ?hr ?_; (case hd => rfl); (case hg => rfl); (case hr => first | (go_simp; done) | (go_simp; rfl)); intro gb235 hg w12 hbox hb; have n0_ := Aside0.mk (below_step (by repeat (first | (with_reducible first | exact HB.out | apply below_alloc | apply pw_below_drewN | apply below_drew1) | exact HB.out)) hb); have n1_ := Aside0.mk (hbox); have n2_ := Aside0.mk ((by rw [hg]; exact (below_size (by repeat (first | (with_reducible first | exact HB.out | apply below_alloc | apply pw_below_drewN | apply below_drew1) | exact HB.out))) : w.heap.size ≤ gb235)); have n3_ := Aside0.mk ((by rw [hg]; exact (below_size (by repeat (first | (with_reducible first | exact HB.out | apply below_alloc | apply pw_below_drewN | apply below_drew1) | exact HB.out))) : w.heap.size ≤ gb235)); clear HB; have HB := n0_; have BK235 := n1_; have GW235 := n2_; have GE235 := n3_; clear n0_ n1_ n2_ n3_; clear hb hbox hg; have hcz13_0 : w12.cell? ⟨gb235, 0, none⟩ = some (.int .i64 a0_0) := (blk_cell BK235.out 0).trans rfl; have hcz13_1 : w12.cell? ⟨gb235, 1, none⟩ = some (.int .i64 a0_1) := (blk_cell BK235.out 1).trans rfl; have hcz13_2 : w12.cell? ⟨gb235, 2, none⟩ = some (.string a0_2) := (blk_cell BK235.out 2).trans rfl; have hcz13_3 : w12.cell? ⟨gb235, 3, none⟩ = some (.string a0_3) := (blk_cell BK235.out 3).trans rfl; have hfz13_0 := blk_frozen BK235.out 0; have hfz13_1 := blk_frozen BK235.out 1; have hfz13_2 := blk_frozen BK235.out 2; have hfz13_3 := blk_frozen BK235.out 3) | ((with_reducible refine gate_callee (f := 80) rfl ?_); refine goesL_ (some 5) rfl rfl Try.func80 (by kernel_rfl) rfl #[.int .i64 a0_0] rfl (by (try simp only [List.map_toArray, List.map_cons, List.map_nil]); first | done | rfl | (simp only [List.length_drop, List.length_take]; rfl)) ?_; (with_reducible refine (impl_numFine.calls a0_0 true _ A2.out).mono ?_); rintro e w' ⟨rfl, ⟨nd, rfl⟩⟩; refine ⟨_, rfl, ?_⟩))
        go_ret
        exact ⟨by first | rfl | exact congrArg (fun b => Ending.returned (Value.bool b)) (M.le_less _ _) | (simp [errW_none, errW_some] <;> rfl) | (simp [*, errW_none, errW_some] <;> rfl), by repeat (first | (with_reducible first | exact HB.out | apply below_alloc | apply pw_below_drewN | apply below_drew1 | refine below_set ?_ GE235.out) | exact HB.out)⟩
      ·rw [if_neg c8] at H
       have c8b0 : decide (1 ≤ (a0_3.size : Int)) = false := decide_eq_false c8
       have c8b1 : decide (1 ≤ a0_3.size) = false := decide_eq_false (by omega)
       clear c8
       obtain rfl := Option.some.inj H
       go_enter Try.func81, Try.ntmps81
       go_wp2_with (first | ((with_reducible refine gate_dst (N := 1) rfl ?_); (try (refine gate_guard (by rfl) ?_; dsimp only)); refine box_event ?hg (N := 1) ?hd (cs := #[.int .i64 a0_0, .int .i64 a0_1, .string a0_2, .string a0_3]) (t := 87) ?hr ?_; (case hd => rfl); (case hg => rfl); (case hr => first | (go_simp; done) | (go_simp; rfl)); intro gb235 hg w14 hbox hb; have n0_ := Aside0.mk (below_step (by repeat (first | (with_reducible first | exact HB.out | apply below_alloc | apply pw_below_drewN | apply below_drew1) | exact HB.out)) hb); have n1_ := Aside0.mk (hbox); have n2_ := Aside0.mk ((by rw [hg]; exact (below_size (by repeat (first | (with_reducible first | exact HB.out | apply below_alloc | apply pw_below_drewN | apply below_drew1) | exact HB.out))) : w.heap.size ≤ gb235)); have n3_ := Aside0.mk ((by rw [hg]; exact (below_size (by repeat (first | (with_reducible first | exact HB.out | apply below_alloc | apply pw_below_drewN | apply below_drew1) | exact HB.out))) : w.heap.size ≤ gb235)); clear HB; have HB := n0_; have BK235 := n1_; have GW235 := n2_; have GE235 := n3_; clear n0_ n1_ n2_ n3_; clear hb hbox hg; have hcz15_0 : w14.cell? ⟨gb235, 0, none⟩ = some (.int .i64 a0_0) := (blk_cell BK235.out 0).trans rfl; have hcz15_1 : w14.cell? ⟨gb235, 1, none⟩ = some (.int .i64 a0_1) := (blk_cell BK235.out 1).trans rfl; have hcz15_2 : w14.cell? ⟨gb235, 2, none⟩ = some (.string a0_2) := (blk_cell BK235.out 2).trans rfl; have hcz15_3 : w14.cell? ⟨gb235, 3, none⟩ = some (.string a0_3) := (blk_cell BK235.out 3).trans rfl; have hfz15_0 := blk_frozen BK235.out 0; have hfz15_1 := blk_frozen BK235.out 1; have hfz15_2 := blk_frozen BK235.out 2; have hfz15_3 := blk_frozen BK235.out 3) | ((with_reducible refine gate_callee (f := 80) rfl ?_); refine goesL_ (some 5) rfl rfl Try.func80 (by kernel_rfl) rfl #[.int .i64 a0_0] rfl (by (try simp only [List.map_toArray, List.map_cons, List.map_nil]); first | done | rfl | (simp only [List.length_drop, List.length_take]; rfl)) ?_; (with_reducible refine (impl_numFine.calls a0_0 true _ A2.out).mono ?_); rintro e w' ⟨rfl, ⟨nd, rfl⟩⟩; refine ⟨_, rfl, ?_⟩))
       go_ret
       exact ⟨by first | rfl | exact congrArg (fun b => Ending.returned (Value.bool b)) (M.le_less _ _) | (simp [errW_none, errW_some] <;> rfl) | (simp [*, errW_none, errW_some] <;> rfl), by repeat (first | (with_reducible first | exact HB.out | apply below_alloc | apply pw_below_drewN | apply below_drew1 | refine below_set ?_ GE235.out) | exact HB.out)⟩
     ·rw [if_neg c7] at H
      have c7b0 : decide ((a0_2.size : Int) ≤ 1000) = false := decide_eq_false c7
      have c7b1 : decide (a0_2.size ≤ 1000) = false := decide_eq_false (by omega)
      clear c7
      obtain rfl := Option.some.inj H
      go_enter Try.func81, Try.ntmps81
      go_wp2_with (first | ((with_reducible refine gate_dst (N := 1) rfl ?_); (try (refine gate_guard (by rfl) ?_; dsimp only)); refine box_event ?hg (N := 1) ?hd (cs := #[.int .i64 a0_0, .int .i64 a0_1, .string a0_2, .string a0_3]) (t := 87) ?hr ?_; (case hd => rfl); (case hg => rfl); (case hr => first | (go_simp; done) | (go_simp; rfl)); intro gb235 hg w16 hbox hb; have n0_ := Aside0.mk (below_step (by repeat (first | (with_reducible first | exact HB.out | apply below_alloc | apply pw_below_drewN | apply below_drew1) | exact HB.out)) hb); have n1_ := Aside0.mk (hbox); have n2_ := Aside0.mk ((by rw [hg]; exact (below_size (by repeat (first | (with_reducible first | exact HB.out | apply below_alloc | apply pw_below_drewN | apply below_drew1) | exact HB.out))) : w.heap.size ≤ gb235)); have n3_ := Aside0.mk ((by rw [hg]; exact (below_size (by repeat (first | (with_reducible first | exact HB.out | apply below_alloc | apply pw_below_drewN | apply below_drew1) | exact HB.out))) : w.heap.size ≤ gb235)); clear HB; have HB := n0_; have BK235 := n1_; have GW235 := n2_; have GE235 := n3_; clear n0_ n1_ n2_ n3_; clear hb hbox hg; have hcz17_0 : w16.cell? ⟨gb235, 0, none⟩ = some (.int .i64 a0_0) := (blk_cell BK235.out 0).trans rfl; have hcz17_1 : w16.cell? ⟨gb235, 1, none⟩ = some (.int .i64 a0_1) := (blk_cell BK235.out 1).trans rfl; have hcz17_2 : w16.cell? ⟨gb235, 2, none⟩ = some (.string a0_2) := (blk_cell BK235.out 2).trans rfl; have hcz17_3 : w16.cell? ⟨gb235, 3, none⟩ = some (.string a0_3) := (blk_cell BK235.out 3).trans rfl; have hfz17_0 := blk_frozen BK235.out 0; have hfz17_1 := blk_frozen BK235.out 1; have hfz17_2 := blk_frozen BK235.out 2; have hfz17_3 := blk_frozen BK235.out 3) | ((with_reducible refine gate_callee (f := 80) rfl ?_); refine goesL_ (some 5) rfl rfl Try.func80 (by kernel_rfl) rfl #[.int .i64 a0_0] rfl (by (try simp only [List.map_toArray, List.map_cons, List.map_nil]); first | done | rfl | (simp only [List.length_drop, List.length_take]; rfl)) ?_; (with_reducible refine (impl_numFine.calls a0_0 true _ A2.out).mono ?_); rintro e w' ⟨rfl, ⟨nd, rfl⟩⟩; refine ⟨_, rfl, ?_⟩))
      go_ret
      exact ⟨by first | rfl | exact congrArg (fun b => Ending.returned (Value.bool b)) (M.le_less _ _) | (simp [errW_none, errW_some] <;> rfl) | (simp [*, errW_none, errW_some] <;> rfl), by repeat (first | (with_reducible first | exact HB.out | apply below_alloc | apply pw_below_drewN | apply below_drew1 | refine below_set ?_ GE235.out) | exact HB.out)⟩
    ·rw [if_neg c6] at H
     have c6b0 : decide (1 ≤ (a0_2.size : Int)) = false := decide_eq_false c6
     have c6b1 : decide (1 ≤ a0_2.size) = false := decide_eq_false (by omega)
     clear c6
     obtain rfl := Option.some.inj H
     go_enter Try.func81, Try.ntmps81
     go_wp2_with (first | ((with_reducible refine gate_dst (N := 1) rfl ?_); (try (refine gate_guard (by rfl) ?_; dsimp only)); refine box_event ?hg (N := 1) ?hd (cs := #[.int .i64 a0_0, .int .i64 a0_1, .string a0_2, .string a0_3]) (t := 87) ?hr ?_; (case hd => rfl); (case hg => rfl); (case hr => first | (go_simp; done) | (go_simp; rfl)); intro gb235 hg w18 hbox hb; have n0_ := Aside0.mk (below_step (by repeat (first | (with_reducible first | exact HB.out | apply below_alloc | apply pw_below_drewN | apply below_drew1) | exact HB.out)) hb); have n1_ := Aside0.mk (hbox); have n2_ := Aside0.mk ((by rw [hg]; exact (below_size (by repeat (first | (with_reducible first | exact HB.out | apply below_alloc | apply pw_below_drewN | apply below_drew1) | exact HB.out))) : w.heap.size ≤ gb235)); have n3_ := Aside0.mk ((by rw [hg]; exact (below_size (by repeat (first | (with_reducible first | exact HB.out | apply below_alloc | apply pw_below_drewN | apply below_drew1) | exact HB.out))) : w.heap.size ≤ gb235)); clear HB; have HB := n0_; have BK235 := n1_; have GW235 := n2_; have GE235 := n3_; clear n0_ n1_ n2_ n3_; clear hb hbox hg; have hcz19_0 : w18.cell? ⟨gb235, 0, none⟩ = some (.int .i64 a0_0) := (blk_cell BK235.out 0).trans rfl; have hcz19_1 : w18.cell? ⟨gb235, 1, none⟩ = some (.int .i64 a0_1) := (blk_cell BK235.out 1).trans rfl; have hcz19_2 : w18.cell? ⟨gb235, 2, none⟩ = some (.string a0_2) := (blk_cell BK235.out 2).trans rfl; have hcz19_3 : w18.cell? ⟨gb235, 3, none⟩ = some (.string a0_3) := (blk_cell BK235.out 3).trans rfl; have hfz19_0 := blk_frozen BK235.out 0; have hfz19_1 := blk_frozen BK235.out 1; have hfz19_2 := blk_frozen BK235.out 2; have hfz19_3 := blk_frozen BK235.out 3) | ((with_reducible refine gate_callee (f := 80) rfl ?_); refine goesL_ (some 5) rfl rfl Try.func80 (by kernel_rfl) rfl #[.int .i64 a0_0] rfl (by (try simp only [List.map_toArray, List.map_cons, List.map_nil]); first | done | rfl | (simp only [List.length_drop, List.length_take]; rfl)) ?_; (with_reducible refine (impl_numFine.calls a0_0 true _ A2.out).mono ?_); rintro e w' ⟨rfl, ⟨nd, rfl⟩⟩; refine ⟨_, rfl, ?_⟩))
     go_ret
     exact ⟨by first | rfl | exact congrArg (fun b => Ending.returned (Value.bool b)) (M.le_less _ _) | (simp [errW_none, errW_some] <;> rfl) | (simp [*, errW_none, errW_some] <;> rfl), by repeat (first | (with_reducible first | exact HB.out | apply below_alloc | apply pw_below_drewN | apply below_drew1 | refine below_set ?_ GE235.out) | exact HB.out)⟩
   ·rw [if_neg c5] at H
    have c5b0 : decide (a0_1 ≤ 3) = false := decide_eq_false c5
    clear c5
    obtain rfl := Option.some.inj H
    go_enter Try.func81, Try.ntmps81
    go_wp2_with (first | ((with_reducible refine gate_dst (N := 1) rfl ?_); (try (refine gate_guard (by rfl) ?_; dsimp only)); refine box_event ?hg (N := 1) ?hd (cs := #[.int .i64 a0_0, .int .i64 a0_1, .string a0_2, .string a0_3]) (t := 87) ?hr ?_; (case hd => rfl); (case hg => rfl); (case hr => first | (go_simp; done) | (go_simp; rfl)); intro gb235 hg w20 hbox hb; have n0_ := Aside0.mk (below_step (by repeat (first | (with_reducible first | exact HB.out | apply below_alloc | apply pw_below_drewN | apply below_drew1) | exact HB.out)) hb); have n1_ := Aside0.mk (hbox); have n2_ := Aside0.mk ((by rw [hg]; exact (below_size (by repeat (first | (with_reducible first | exact HB.out | apply below_alloc | apply pw_below_drewN | apply below_drew1) | exact HB.out))) : w.heap.size ≤ gb235)); have n3_ := Aside0.mk ((by rw [hg]; exact (below_size (by repeat (first | (with_reducible first | exact HB.out | apply below_alloc | apply pw_below_drewN | apply below_drew1) | exact HB.out))) : w.heap.size ≤ gb235)); clear HB; have HB := n0_; have BK235 := n1_; have GW235 := n2_; have GE235 := n3_; clear n0_ n1_ n2_ n3_; clear hb hbox hg; have hcz21_0 : w20.cell? ⟨gb235, 0, none⟩ = some (.int .i64 a0_0) := (blk_cell BK235.out 0).trans rfl; have hcz21_1 : w20.cell? ⟨gb235, 1, none⟩ = some (.int .i64 a0_1) := (blk_cell BK235.out 1).trans rfl; have hcz21_2 : w20.cell? ⟨gb235, 2, none⟩ = some (.string a0_2) := (blk_cell BK235.out 2).trans rfl; have hcz21_3 : w20.cell? ⟨gb235, 3, none⟩ = some (.string a0_3) := (blk_cell BK235.out 3).trans rfl; have hfz21_0 := blk_frozen BK235.out 0; have hfz21_1 := blk_frozen BK235.out 1; have hfz21_2 := blk_frozen BK235.out 2; have hfz21_3 := blk_frozen BK235.out 3) | ((with_reducible refine gate_callee (f := 80) rfl ?_); refine goesL_ (some 5) rfl rfl Try.func80 (by kernel_rfl) rfl #[.int .i64 a0_0] rfl (by (try simp only [List.map_toArray, List.map_cons, List.map_nil]); first | done | rfl | (simp only [List.length_drop, List.length_take]; rfl)) ?_; (with_reducible refine (impl_numFine.calls a0_0 true _ A2.out).mono ?_); rintro e w' ⟨rfl, ⟨nd, rfl⟩⟩; refine ⟨_, rfl, ?_⟩))
    go_ret
    exact ⟨by first | rfl | exact congrArg (fun b => Ending.returned (Value.bool b)) (M.le_less _ _) | (simp [errW_none, errW_some] <;> rfl) | (simp [*, errW_none, errW_some] <;> rfl), by repeat (first | (with_reducible first | exact HB.out | apply below_alloc | apply pw_below_drewN | apply below_drew1 | refine below_set ?_ GE235.out) | exact HB.out)⟩
  ·rw [if_neg c4] at H
   have c4b0 : decide (0 ≤ a0_1) = false := decide_eq_false c4
   clear c4
   obtain rfl := Option.some.inj H
   go_enter Try.func81, Try.ntmps81
   go_wp2_with (first | ((with_reducible refine gate_dst (N := 1) rfl ?_); (try (refine gate_guard (by rfl) ?_; dsimp only)); refine box_event ?hg (N := 1) ?hd (cs := #[.int .i64 a0_0, .int .i64 a0_1, .string a0_2, .string a0_3]) (t := 87) ?hr ?_; (case hd => rfl); (case hg => rfl); (case hr => first | (go_simp; done) | (go_simp; rfl)); intro gb235 hg w22 hbox hb; have n0_ := Aside0.mk (below_step (by repeat (first | (with_reducible first | exact HB.out | apply below_alloc | apply pw_below_drewN | apply below_drew1) | exact HB.out)) hb); have n1_ := Aside0.mk (hbox); have n2_ := Aside0.mk ((by rw [hg]; exact (below_size (by repeat (first | (with_reducible first | exact HB.out | apply below_alloc | apply pw_below_drewN | apply below_drew1) | exact HB.out))) : w.heap.size ≤ gb235)); have n3_ := Aside0.mk ((by rw [hg]; exact (below_size (by repeat (first | (with_reducible first | exact HB.out | apply below_alloc | apply pw_below_drewN | apply below_drew1) | exact HB.out))) : w.heap.size ≤ gb235)); clear HB; have HB := n0_; have BK235 := n1_; have GW235 := n2_; have GE235 := n3_; clear n0_ n1_ n2_ n3_; clear hb hbox hg; have hcz23_0 : w22.cell? ⟨gb235, 0, none⟩ = some (.int .i64 a0_0) := (blk_cell BK235.out 0).trans rfl; have hcz23_1 : w22.cell? ⟨gb235, 1, none⟩ = some (.int .i64 a0_1) := (blk_cell BK235.out 1).trans rfl; have hcz23_2 : w22.cell? ⟨gb235, 2, none⟩ = some (.string a0_2) := (blk_cell BK235.out 2).trans rfl; have hcz23_3 : w22.cell? ⟨gb235, 3, none⟩ = some (.string a0_3) := (blk_cell BK235.out 3).trans rfl; have hfz23_0 := blk_frozen BK235.out 0; have hfz23_1 := blk_frozen BK235.out 1; have hfz23_2 := blk_frozen BK235.out 2; have hfz23_3 := blk_frozen BK235.out 3) | ((with_reducible refine gate_callee (f := 80) rfl ?_); refine goesL_ (some 5) rfl rfl Try.func80 (by kernel_rfl) rfl #[.int .i64 a0_0] rfl (by (try simp only [List.map_toArray, List.map_cons, List.map_nil]); first | done | rfl | (simp only [List.length_drop, List.length_take]; rfl)) ?_; (with_reducible refine (impl_numFine.calls a0_0 true _ A2.out).mono ?_); rintro e w' ⟨rfl, ⟨nd, rfl⟩⟩; refine ⟨_, rfl, ?_⟩))
   go_ret
   exact ⟨by first | rfl | exact congrArg (fun b => Ending.returned (Value.bool b)) (M.le_less _ _) | (simp [errW_none, errW_some] <;> rfl) | (simp [*, errW_none, errW_some] <;> rfl), by repeat (first | (with_reducible first | exact HB.out | apply below_alloc | apply pw_below_drewN | apply below_drew1 | refine below_set ?_ GE235.out) | exact HB.out)⟩
 ·replace c3 := Bool.eq_false_iff.mpr c3
  subst c3
  have H1 : (some false) = some r := by rw [if_neg (show ¬ (false = true) by decide)] at H; exact H
  clear H
  have H := H1
  clear H1
  obtain rfl := Option.some.inj H
  go_enter Try.func81, Try.ntmps81
  go_wp2_with (first | ((with_reducible refine gate_dst (N := 1) rfl ?_); (try (refine gate_guard (by rfl) ?_; dsimp only)); refine box_event ?hg (N := 1) ?hd (cs := #[.int .i64 a0_0, .int .i64 a0_1, .string a0_2, .string a0_3]) (t := 87) ?hr ?_; (case hd => rfl); (case hg => rfl); (case hr => first | (go_simp; done) | (go_simp; rfl)); intro gb235 hg w24 hbox hb; have n0_ := Aside0.mk (below_step (by repeat (first | (with_reducible first | exact HB.out | apply below_alloc | apply pw_below_drewN | apply below_drew1) | exact HB.out)) hb); have n1_ := Aside0.mk (hbox); have n2_ := Aside0.mk ((by rw [hg]; exact (below_size (by repeat (first | (with_reducible first | exact HB.out | apply below_alloc | apply pw_below_drewN | apply below_drew1) | exact HB.out))) : w.heap.size ≤ gb235)); have n3_ := Aside0.mk ((by rw [hg]; exact (below_size (by repeat (first | (with_reducible first | exact HB.out | apply below_alloc | apply pw_below_drewN | apply below_drew1) | exact HB.out))) : w.heap.size ≤ gb235)); clear HB; have HB := n0_; have BK235 := n1_; have GW235 := n2_; have GE235 := n3_; clear n0_ n1_ n2_ n3_; clear hb hbox hg; have hcz25_0 : w24.cell? ⟨gb235, 0, none⟩ = some (.int .i64 a0_0) := (blk_cell BK235.out 0).trans rfl; have hcz25_1 : w24.cell? ⟨gb235, 1, none⟩ = some (.int .i64 a0_1) := (blk_cell BK235.out 1).trans rfl; have hcz25_2 : w24.cell? ⟨gb235, 2, none⟩ = some (.string a0_2) := (blk_cell BK235.out 2).trans rfl; have hcz25_3 : w24.cell? ⟨gb235, 3, none⟩ = some (.string a0_3) := (blk_cell BK235.out 3).trans rfl; have hfz25_0 := blk_frozen BK235.out 0; have hfz25_1 := blk_frozen BK235.out 1; have hfz25_2 := blk_frozen BK235.out 2; have hfz25_3 := blk_frozen BK235.out 3) | ((with_reducible refine gate_callee (f := 80) rfl ?_); refine goesL_ (some 5) rfl rfl Try.func80 (by kernel_rfl) rfl #[.int .i64 a0_0] rfl (by (try simp only [List.map_toArray, List.map_cons, List.map_nil]); first | done | rfl | (simp only [List.length_drop, List.length_take]; rfl)) ?_; (with_reducible refine (impl_numFine.calls a0_0 false _ A2.out).mono ?_); rintro e w' ⟨rfl, ⟨nd, rfl⟩⟩; refine ⟨_, rfl, ?_⟩))
  go_ret
  exact ⟨by first | rfl | exact congrArg (fun b => Ending.returned (Value.bool b)) (M.le_less _ _) | (simp [errW_none, errW_some] <;> rfl) | (simp [*, errW_none, errW_some] <;> rfl), by repeat (first | (with_reducible first | exact HB.out | apply below_alloc | apply pw_below_drewN | apply below_drew1 | refine below_set ?_ GE235.out) | exact HB.out)⟩

end Go.Proofs.Ytjneloehdcecnaa.P
end

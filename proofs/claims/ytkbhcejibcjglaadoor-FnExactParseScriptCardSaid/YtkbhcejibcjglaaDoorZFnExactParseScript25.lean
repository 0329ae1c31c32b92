/- Texts of the claim FnExactParseScript, part 25 of 34, joined: MNum, Pspecl7Word, Pspecl7Item, Pimplword, MWord. No condition beyond those that stand at each. -/
import Derived.Test.YtkbhcejibcjglaaDoorZFnExactParseScript24
import Derived.Lib.CutLaws
section
/- Numbers in texts: the specification's l7Number and the program's decimal agree at every text: no condition. -/
namespace Go.Proofs.YtkbhcejibcjglaaDoor.M
open Go.RowKit Go.Proofs.YtkbhcejibcjglaaDoor.P Go.Proofs.YtkbhcejibcjglaaDoorW.PrintWords Go.Proofs.YtkbhcejibcjglaaDoorW.PrintLast Go.Proofs.YtkbhcejibcjglaaDoorW.PrintMore
set_option linter.unusedVariables false
def dig (n : Nat) : UInt8 := UInt8.ofNat (48 + n)
def shows (n : Nat) : List UInt8 := if n < 10 then [dig n] else shows (n / 10) ++ [dig (n % 10)]
termination_by n
decreasing_by omega
theorem shows_small (n : Nat) (h : n < 10) : shows n = [dig n] := by rw [shows, if_pos h]
theorem shows_big (n : Nat) (h : ¬ n < 10) : shows n = shows (n / 10) ++ [dig (n % 10)] := by rw [shows, if_neg h]
theorem tmod_neg (n : Nat) : Int.tmod (-(n : Int)) 10 = -((n % 10 : Nat) : Int) := by
  rw [Int.neg_tmod]
  rfl
theorem tdiv_neg (n : Nat) : Int.tdiv (-(n : Int)) 10 = -((n / 10 : Nat) : Int) := by
  rw [Int.neg_tdiv]
  rfl
theorem digit_at (m : Nat) (h : m < 10) : (⟨#[48, 49, 50, 51, 52, 53, 54, 55, 56, 57]⟩ : ByteArray).extract m (m + 1) = ⟨[dig m].toArray⟩ := by
  have : ∀ m : Fin 10, (⟨#[48, 49, 50, 51, 52, 53, 54, 55, 56, 57]⟩ : ByteArray).extract m.val (m.val + 1) = ⟨[dig m.val].toArray⟩ := by decide +kernel
  exact this ⟨m, h⟩
theorem showDown_eq : ∀ (n : Nat), n ≤ 1000000000 → Ev (fun k => spec_l4ShowDown.f k (-(n : Int))) ⟨(shows n).toArray⟩ := by
  intro n
  induction n using Nat.strongRecOn with
  | _ n ih =>
    intro hn
    have hm : n % 10 < 10 := Nat.mod_lt _ (by omega)
    have e1 : wrap64 (-(Int.tmod (-(n : Int)) 10)) = ((n % 10 : Nat) : Int) := by rw [tmod_neg, Int.neg_neg, wrap_ok] <;> omega
    have e2 : wrap64 (((n % 10 : Nat) : Int) + 1) = ((n % 10 + 1 : Nat) : Int) := wrap_succ (by omega)
    have c1 : ((0 : Int) ≤ ((n % 10 : Nat) : Int)) = True := eq_true (by omega)
    have c2 : (((n % 10 : Nat) : Int) ≤ ((n % 10 + 1 : Nat) : Int)) = True := eq_true (by omega)
    have c3 : (((n % 10 + 1 : Nat) : Int) ≤ 10) = True := eq_true (by omega)
    by_cases h : n < 10
    · refine Ev.step (f := fun _ => some (⟨(shows n).toArray⟩ : ByteArray)) (fun k => ?_) (Ev.now _)
      rw [spec_l4ShowDown.f, if_pos (by omega)]
      simp only [e1, e2, c1, c2, c3, if_true, Int.toNat_natCast]
      rw [digit_at _ hm, shows_small n h, Nat.mod_eq_of_lt h]
    · have h2 := ih (n / 10) (by omega) (by omega)
      have e3 : wrap64 (Int.tdiv (-(n : Int)) 10) = -((n / 10 : Nat) : Int) := by rw [tdiv_neg, wrap_ok] <;> omega
      have hl : ∀ m : Nat, (shows m).length ≤ m + 1 := by
        intro m
        induction m using Nat.strongRecOn with
        | _ m ih2 =>
          by_cases h3 : m < 10
          · rw [shows_small m h3]; simp
          · rw [shows_big m h3, List.length_append]
            have := ih2 (m / 10) (by omega)
            simp only [List.length_cons, List.length_nil]
            omega
      have hsz : ((⟨(shows (n / 10)).toArray⟩ : ByteArray).size + (⟨[dig (n % 10)].toArray⟩ : ByteArray).size ≤ 9223372036854775807) = True := eq_true (by
        have := hl (n / 10)
        show (shows (n / 10)).toArray.size + 1 ≤ _
        rw [List.size_toArray]
        omega)
      refine Ev.step (f := fun k => (spec_l4ShowDown.f k (-((n / 10 : Nat) : Int))).bind fun t => if t.size + (⟨[dig (n % 10)].toArray⟩ : ByteArray).size ≤ 9223372036854775807 then some (t ++ ⟨[dig (n % 10)].toArray⟩) else none) (fun k => ?_) (Ev.bind h2 (Ev.congr (fun k => if_pos (of_eq_true hsz)) ?_))
      · rw [spec_l4ShowDown.f, if_neg (by omega)]
        simp only [e1, e2, e3, c1, c2, c3, if_true, Int.toNat_natCast]
        rw [digit_at _ hm]
      · have e : (⟨(shows (n / 10)).toArray⟩ : ByteArray) ++ ⟨[dig (n % 10)].toArray⟩ = ⟨(shows n).toArray⟩ := by
          rw [shows_big n h]
          apply ba_eq
          simp
        rw [e]
        exact Ev.now _
theorem show_eq (n : Nat) (hn : n ≤ 1000000000) : Ev (fun k => spec_l4Show.f k (n : Int)) ⟨(shows n).toArray⟩ := by
  refine Ev.congr (fun k => if_neg (by omega)) ?_
  have h := showDown_eq n hn
  have e : wrap64 (-(n : Int)) = -(n : Int) := by rw [wrap_ok] <;> omega
  rw [e]
  exact Ev.bind h (Ev.now _)
/-- The number that digits write. -/
def val (l : List UInt8) : Nat := l.foldl (fun a b => 10 * a + (b.toNat - 48)) 0
def digs (l : List UInt8) : Prop := ∀ b ∈ l, 48 ≤ b.toNat ∧ b.toNat ≤ 57
theorem val_snoc (l : List UInt8) (b : UInt8) : val (l ++ [b]) = 10 * val l + (b.toNat - 48) := by
  unfold val
  rw [List.foldl_append]
  rfl
theorem dig_of (b : UInt8) (h : 48 ≤ b.toNat) : dig (b.toNat - 48) = b := by
  unfold dig
  rw [show 48 + (b.toNat - 48) = b.toNat by omega]
  simp
theorem val_pos (l : List UInt8) (b : UInt8) (hb : 49 ≤ b.toNat) : 1 ≤ val (b :: l) := by
  have : ∀ (l : List UInt8) (a : Nat), 1 ≤ a → 1 ≤ l.foldl (fun a b => 10 * a + (b.toNat - 48)) a := by
    intro l
    induction l with
    | nil => intro a h; exact h
    | cons c l ih => intro a h; exact ih _ (show 1 ≤ 10 * a + (c.toNat - 48) by omega)
  unfold val
  exact this l _ (show 1 ≤ 10 * 0 + (b.toNat - 48) by omega)
theorem shows_val : ∀ (n : Nat) (l : List UInt8), l.length = n + 1 → digs l → (∀ b q, l = b :: q → b.toNat ≠ 48 ∨ q = []) → shows (val l) = l := by
  intro n
  induction n with
  | zero =>
    intro l hl hd _
    match l, hl with
    | [b], _ =>
      have hb := hd b (List.mem_singleton.2 rfl)
      have e : val [b] = b.toNat - 48 := by unfold val; simp
      rw [e, shows_small _ (by omega), dig_of b hb.1]
  | succ n ih =>
    intro l hl hd h0
    obtain ⟨m, c, rfl⟩ : ∃ m c, l = m ++ [c] := ⟨l.dropLast, l.getLast (by intro h; rw [h] at hl; simp at hl), (List.dropLast_concat_getLast _).symm⟩
    have hml : m.length = n + 1 := by simpa using hl
    have hc := hd c (by simp)
    have hdm : digs m := fun b hb => hd b (List.mem_append_left _ hb)
    match m, hml with
    | b :: q, hml =>
      have hb : b.toNat ≠ 48 := by
        rcases h0 b (q ++ [c]) rfl with h | h
        · exact h
        · simp at h
      have hb2 := hdm b (List.mem_cons_self ..)
      have hv := val_pos q b (by omega)
      have h1 := ih (b :: q) hml hdm (fun b' q' e => by injection e with e1 e2; subst e1; exact .inl hb)
      rw [val_snoc, shows_big _ (by omega), show (10 * val (b :: q) + (c.toNat - 48)) / 10 = val (b :: q) by omega, show (10 * val (b :: q) + (c.toNat - 48)) % 10 = c.toNat - 48 by omega, h1, dig_of c hc.1]
theorem shows_head (n : Nat) : ∀ b q, shows n = b :: q → b.toNat ≠ 48 ∨ q = [] := by
  have hd0 : ∀ m : Fin 10, m.val ≠ 0 → (dig m.val).toNat ≠ 48 := by decide +kernel
  induction n using Nat.strongRecOn with
  | _ n ih =>
    intro b q h
    by_cases hn : n < 10
    · rw [shows_small n hn] at h
      injection h with h1 h2
      exact .inr h2.symm
    · rw [shows_big n hn] at h
      cases hs : shows (n / 10) with
      | nil =>
        exfalso
        by_cases h3 : n / 10 < 10
        · rw [shows_small _ h3] at hs; cases hs
        · rw [shows_big _ h3] at hs; simp at hs
      | cons b' q' =>
        rw [hs] at h
        injection h with h1 h2
        subst h1
        rcases ih (n / 10) (by omega) b' q' hs with h4 | h4
        · exact .inl h4
        · subst h4
          by_cases h3 : n / 10 < 10
          · rw [shows_small _ h3] at hs
            injection hs with h5 h6
            left
            rw [← h5]
            exact hd0 ⟨n / 10, h3⟩ (by show n / 10 ≠ 0; omega)
          · rw [shows_big _ h3] at hs
            cases hs2 : shows (n / 10 / 10) with
            | nil =>
              exfalso
              by_cases h7 : n / 10 / 10 < 10
              · rw [shows_small _ h7] at hs2; cases hs2
              · rw [shows_big _ h7] at hs2; simp at hs2
            | cons x y => rw [hs2] at hs; injection hs with _ h8; simp at h8
/-- The loops over the digits: the same value, or both fall at the same letter. -/
theorem byte_mod (b : UInt8) (h : 48 ≤ b.toNat) : (((b.toNat : Nat) : Int) - 48) % 256 = ((b.toNat - 48 : Nat) : Int) := by
  have := b.toNat_lt
  omega
theorem val_le (l : List UInt8) (h : digs l) : val l < 10 ^ l.length := by
  have : ∀ (m : List UInt8), digs m.reverse → val m.reverse < 10 ^ m.length := by
    intro m
    induction m with
    | nil => intro _; decide
    | cons b m ih =>
      intro hd
      rw [List.reverse_cons] at hd ⊢
      rw [val_snoc]
      have h1 := ih (fun x hx => hd x (List.mem_append_left _ hx))
      have h2 := hd b (by simp)
      rw [List.length_cons, Nat.pow_succ]
      omega
  have h1 := this l.reverse (by rw [List.reverse_reverse]; exact h)
  rw [List.reverse_reverse, List.length_reverse] at h1
  exact h1
theorem take_digs (l : List UInt8) (i : Nat) (hi : i < l.length) (h : digs (l.take i)) (hb : 48 ≤ (l[i]).toNat ∧ (l[i]).toNat ≤ 57) : digs (l.take (i + 1)) := by
  rw [take_at l i hi]
  intro b hm
  rcases List.mem_append.1 hm with h1 | h1
  · exact h b h1
  · rw [List.mem_singleton.1 h1]; exact hb
theorem val_take (l : List UInt8) (i : Nat) (hi : i < l.length) : val (l.take (i + 1)) = 10 * val (l.take i) + ((l[i]).toNat - 48) := by
  rw [take_at l i hi, val_snoc]
theorem val_small (l : List UInt8) (i : Nat) (hi : i ≤ 8) (h : digs (l.take i)) : val (l.take i) < 100000000 := by
  have h1 := val_le _ h
  have h2 : 10 ^ (l.take i).length ≤ 10 ^ 8 := Nat.pow_le_pow_right (by decide) (by rw [List.length_take]; omega)
  exact Nat.lt_of_lt_of_le h1 h2
theorem digit_step1 (V W B : Nat) (hv : V < 100000000) (hB : B ≤ 255) (h : W = 10 * V + B) : wrap64 (wrap64 (10 * (V : Int)) + (B : Int)) = (W : Int) := by
  rw [wrap_ok (x := 10 * (V : Int)) (by omega) (by omega), wrap_ok (by omega) (by omega)]
  omega
theorem digit_step2 (V W B : Nat) (hv : V < 100000000) (hB : B ≤ 255) (h : W = 10 * V + B) : wrap64 (wrap64 ((V : Int) * 10) + (B : Int)) = (W : Int) := by
  rw [wrap_ok (x := (V : Int) * 10) (by omega) (by omega), wrap_ok (by omega) (by omega)]
  omega
theorem loops (s : ByteArray) (hs : s.size ≤ 8) : ∀ d i : Nat, i + d = s.size → digs (s.data.toList.take i) →
    (digs s.data.toList ∧ Ev (fun k => impl_decimal.l0 k s (val (s.data.toList.take i) : Int) (i : Int)) ((val s.data.toList : Nat) : Int) ∧ Ev (fun k => spec_l7Number.l0 k s (val (s.data.toList.take i) : Int) (i : Int)) ((val s.data.toList : Nat), decide (shows (val s.data.toList) = s.data.toList))) ∨
    (¬ digs s.data.toList ∧ Ev (fun k => impl_decimal.l0 k s (val (s.data.toList.take i) : Int) (i : Int)) (-2) ∧ Ev (fun k => spec_l7Number.l0 k s (val (s.data.toList.take i) : Int) (i : Int)) (0, false)) := by
  intro d
  induction d with
  | zero =>
    intro i hi hd
    have e : s.data.toList.take i = s.data.toList := List.take_of_length_le (by rw [dsize]; omega)
    have hv := val_small s.data.toList i (by omega) hd
    rw [e] at hd hv ⊢
    refine .inl ⟨hd, Ev.step (f := fun _ => some ((val s.data.toList : Nat) : Int)) (fun k => by rw [impl_decimal.l0, if_neg (by omega)]) (Ev.now _), ?_⟩
    refine Ev.step (f := fun k => (spec_l4Show.f k ((val s.data.toList : Nat) : Int)).bind fun t => some (((val s.data.toList : Nat) : Int), (t.toList == s.toList))) (fun k => by rw [spec_l7Number.l0, if_neg (by omega)]) ?_
    refine Ev.bind (show_eq _ (by omega)) (Ev.pure (fun k => ?_))
    congr 2
    rw [ByteArray.toList_eq, ByteArray.toList_eq]
    by_cases h : shows (val s.data.toList) = s.data.toList
    · rw [decide_eq_true h]; simpa using h
    · rw [decide_eq_false h]; simpa using h
  | succ d ih =>
    intro i hi hd
    have hlt : i < s.data.toList.length := by rw [dsize]; omega
    have hb := bt_data s i hlt
    have hv := val_small s.data.toList i (by omega) hd
    by_cases h1 : (s.data.toList[i]).toNat < 48
    · right
      refine ⟨fun h => by have := (h _ (List.getElem_mem hlt)).1; omega, Ev.step (f := fun _ => some (-2)) (fun k => ?_) (Ev.now _), Ev.step (f := fun _ => some (0, false)) (fun k => ?_) (Ev.now _)⟩
      · rw [impl_decimal.l0, if_pos (by omega), if_pos (by omega), if_pos (by rw [hb]; omega)]
      · rw [spec_l7Number.l0, if_pos (by omega), if_pos (by omega), if_pos (by rw [hb]; omega)]
    by_cases h2 : (s.data.toList[i]).toNat > 57
    · right
      refine ⟨fun h => by have := (h _ (List.getElem_mem hlt)).2; omega, Ev.step (f := fun _ => some (-2)) (fun k => ?_) (Ev.now _), Ev.step (f := fun _ => some (0, false)) (fun k => ?_) (Ev.now _)⟩
      · rw [impl_decimal.l0, if_pos (by omega), if_pos (by omega), if_neg (by rw [hb]; omega), if_pos (by rw [hb]; omega)]
      · rw [spec_l7Number.l0, if_pos (by omega), if_pos (by omega), if_neg (by rw [hb]; omega), if_pos (by rw [hb]; omega)]
    have hm := byte_mod (s.data.toList[i]) (by omega)
    have hvt := val_take s.data.toList i hlt
    have hlt2 := (s.data.toList[i]).toNat_lt
    have p1 : (i : Int) < (s.size : Int) := by omega
    have p2 : (0 : Int) ≤ (i : Int) := by omega
    have q1 : ¬ (bt s (i : Int) < 48) := by rw [hb]; omega
    have q2 : ¬ (bt s (i : Int) > 57) := by rw [hb]; omega
    have ws : wrap64 ((i : Int) + 1) = ((i + 1 : Nat) : Int) := wrap_succ (by omega)
    obtain ⟨V, hV⟩ : ∃ V, val (s.data.toList.take i) = V := ⟨_, rfl⟩
    obtain ⟨W, hW⟩ : ∃ W, val (s.data.toList.take (i + 1)) = W := ⟨_, rfl⟩
    obtain ⟨B, hB⟩ : ∃ B, (s.data.toList[i]).toNat - 48 = B := ⟨_, rfl⟩
    have hB2 : B ≤ 255 := by omega
    have hd2 := take_digs _ i hlt hd ⟨by omega, by omega⟩
    have ih2 := ih (i + 1) (by omega) hd2
    rw [hV, hW, hB] at hvt
    rw [hV] at hv
    rw [hB] at hm
    rw [hW] at ih2
    rw [hV]
    have ea := digit_step1 V W B hv hB2 hvt
    have eb := digit_step2 V W B hv hB2 hvt
    rw [← hm, ← hb] at ea eb
    have st1 : ∀ k, impl_decimal.l0 (k + 1) s (V : Int) (i : Int) = impl_decimal.l0 k s (W : Int) ((i + 1 : Nat) : Int) := fun k => by
      rw [impl_decimal.l0, if_pos p1, if_pos p2, if_neg q1, if_neg q2, ea, ws]
    have st2 : ∀ k, spec_l7Number.l0 (k + 1) s (V : Int) (i : Int) = spec_l7Number.l0 k s (W : Int) ((i + 1 : Nat) : Int) := fun k => by
      rw [spec_l7Number.l0, if_pos p1, if_pos p2, if_neg q1, if_neg q2, eb, ws]
    rcases ih2 with ⟨g1, g2, g3⟩ | ⟨g1, g2, g3⟩
    · exact .inl ⟨g1, Ev.step st1 g2, Ev.step st2 g3⟩
    · exact .inr ⟨g1, Ev.step st1 g2, Ev.step st2 g3⟩
/-- The two readers of numbers: both give the number, or the one falls and the other answers -2. -/
theorem number_eq (s : ByteArray) : ∃ (n : Int) (ok : Bool) (d : Int), Ev (fun k => spec_l7Number.f k s) (n, ok) ∧ Ev (fun k => impl_decimal.f k s) d ∧ ((ok = true ∧ d = n ∧ -1 ≤ n ∧ n < 100000000) ∨ (ok = false ∧ d = -2)) := by
  by_cases h1 : s.toList = ([45, 49] : List UInt8)
  · exact ⟨-1, true, -1, Ev.pure (fun k => if_pos h1), Ev.pure (fun k => if_pos h1), .inl ⟨rfl, rfl, by omega, by omega⟩⟩
  have j1 : Ev (fun k => impl_decimal.j0 k s true) (-2) := Ev.step (f := fun _ => some (-2)) (fun k => by rw [impl_decimal.j0, if_pos rfl]) (Ev.now _)
  have j2 : Ev (fun k => spec_l7Number.j0 k s true) (0, false) := Ev.step (f := fun _ => some (0, false)) (fun k => by rw [spec_l7Number.j0, if_pos rfl]) (Ev.now _)
  by_cases h2 : (s.size : Int) < 1
  · exact ⟨0, false, -2, Ev.congr (fun k => (if_neg h1).trans (if_pos h2)) j2, Ev.congr (fun k => (if_neg h1).trans (if_pos h2)) j1, .inr ⟨rfl, rfl⟩⟩
  by_cases h3 : (s.size : Int) > 8
  · refine ⟨0, false, -2, Ev.congr (fun k => (if_neg h1).trans (if_neg h2)) ?_, Ev.congr (fun k => (if_neg h1).trans ((if_neg h2).trans (if_pos h3))) j1, .inr ⟨rfl, rfl⟩⟩
    rw [decide_eq_true h3]
    exact j2
  have hsz : s.size ≤ 8 := by omega
  have hL := loops s hsz s.size 0 (by omega) (by rw [List.take_zero]; intro b hb; cases hb)
  rw [List.take_zero] at hL
  have h0 : 0 < s.data.toList.length := by rw [dsize]; omega
  have hb := bt_data s 0 h0
  have sp : ∀ r, Ev (fun k => spec_l7Number.l0 k s 0 0) r → Ev (fun k => spec_l7Number.f k s) r := fun r h => by
    refine Ev.congr (fun k => (if_neg h1).trans (if_neg h2)) ?_
    rw [decide_eq_false h3]
    exact Ev.step (fun k => by rw [spec_l7Number.j0, if_neg (by decide)]) h
  by_cases h4 : bt s 0 = 48 ∧ s.size > 1
  · have im : Ev (fun k => impl_decimal.f k s) (-2) := by
      refine Ev.congr (fun k => (if_neg h1).trans ((if_neg h2).trans ((if_neg h3).trans ((if_pos (by omega)).trans (if_pos h4.1))))) ?_
      rw [decide_eq_true (show (s.size : Int) > 1 by omega)]
      exact j1
    rcases hL with ⟨g1, g2, g3⟩ | ⟨g1, g2, g3⟩
    · refine ⟨((val s.data.toList : Nat) : Int), false, -2, sp _ ?_, im, .inr ⟨rfl, rfl⟩⟩
      · have hne : decide (shows (val s.data.toList) = s.data.toList) = false := by
          refine decide_eq_false (fun he => ?_)
          cases hd : s.data.toList with
          | nil => rw [hd] at h0; exact absurd h0 (by decide)
          | cons b q =>
            have hh := shows_head (val s.data.toList) b q (by rw [he, hd])
            have hq : (s.data.toList[0]).toNat = b.toNat := by simp [hd]
            rcases hh with hh | hh
            · have h5 := h4.1
              have h6 : bt s 0 = ((s.data.toList[0]).toNat : Int) := hb
              omega
            · have : s.data.toList.length = 1 := by rw [hd, hh]; rfl
              rw [dsize] at this
              omega
        rw [hne] at g3
        exact g3
    · exact ⟨0, false, -2, sp _ g3, im, .inr ⟨rfl, rfl⟩⟩
  · have im : ∀ r, Ev (fun k => impl_decimal.l0 k s 0 0) r → Ev (fun k => impl_decimal.f k s) r := fun r h => by
      have hj : Ev (fun k => impl_decimal.j0 k s false) r := Ev.step (fun k => by rw [impl_decimal.j0, if_neg (by decide)]) h
      by_cases h5 : bt s 0 = 48
      · refine Ev.congr (fun k => (if_neg h1).trans ((if_neg h2).trans ((if_neg h3).trans ((if_pos (by omega)).trans (if_pos h5))))) ?_
        rw [decide_eq_false (show ¬ (s.size : Int) > 1 by omega)]
        exact hj
      · exact Ev.congr (fun k => (if_neg h1).trans ((if_neg h2).trans ((if_neg h3).trans ((if_pos (by omega)).trans (if_neg h5))))) hj
    rcases hL with ⟨g1, g2, g3⟩ | ⟨g1, g2, g3⟩
    · have hv := val_small s.data.toList s.size hsz (by rw [List.take_of_length_le (by rw [dsize]; exact Nat.le_refl _)]; exact g1)
      rw [List.take_of_length_le (by rw [dsize]; exact Nat.le_refl _)] at hv
      have hyes : decide (shows (val s.data.toList) = s.data.toList) = true := by
        refine decide_eq_true (shows_val (s.size - 1) _ (by rw [dsize]; omega) g1 (fun b q hbq => ?_))
        by_cases h5 : bt s 0 = 48
        · right
          have : s.data.toList.length = 1 := by rw [dsize]; omega
          rw [hbq] at this
          simpa using this
        · left
          intro hb48
          apply h5
          have hq : (s.data.toList[0]).toNat = b.toNat := by simp [hbq]
          have h6 : bt s 0 = ((s.data.toList[0]).toNat : Int) := hb
          omega
      rw [hyes] at g3
      exact ⟨_, true, _, sp _ g3, im _ g2, .inl ⟨rfl, rfl, by omega, by omega⟩⟩
    · exact ⟨0, false, -2, sp _ g3, im _ g2, .inr ⟨rfl, rfl⟩⟩
end Go.Proofs.YtkbhcejibcjglaaDoor.M
end
section
-- Written by a changed copy of the print program, one module a function. Not trusted: Lean checks it.
namespace Go.Proofs.YtkbhcejibcjglaaDoor.P
open Go.RowKit Go.Proofs.YtkbhcejibcjglaaDoorW.PrintWords Go.Proofs.YtkbhcejibcjglaaDoorW.PrintLast Go.Proofs.YtkbhcejibcjglaaDoorW.PrintMore
attribute [local go_sem] max2_int min2_int max_two min_two max_three min_three max_four min_four   -- for this text's walks alone
set_option linter.unusedVariables false
set_option linter.unusedSimpArgs false

/-! ### spec_l7Word: function 24 -/
def spec_l7Word.l0 : Nat → ByteArray → Int → Option (ByteArray × Bool)
 | 0, _, _ => none
 | k + 1, x0, x4 => if x4 < (x0.size : Int) then (if 0 ≤ x4 then (if (bt x0 x4) < 33 then (some ((⟨#[]⟩ : ByteArray), false)) else (if (bt x0 x4) > 126 then (some ((⟨#[]⟩ : ByteArray), false)) else (spec_l7Word.l0 k x0 (wrap64 (x4 + 1))))) else (none)) else (if x0.toList = ([95] : List UInt8) then (some ((⟨#[]⟩ : ByteArray), true)) else (some (x0, decide ((x0.size : Int) > 0))))
def spec_l7Word.f (k : Nat) (a0 : ByteArray) : Option (ByteArray × Bool) := spec_l7Word.l0 k a0 0
theorem spec_l7Word.mono_l : ∀ k, (∀ y0 y1, LeO (spec_l7Word.l0 k y0 y1) (spec_l7Word.l0 (k + 1) y0 y1))
 | 0 => fun _ _ r h => by simp [spec_l7Word.l0] at h
 | k + 1 => by
  have ih0 := spec_l7Word.mono_l k
  ·intro y0 y1
   unfold spec_l7Word.l0
   repeat' first
   | (with_reducible exact ih0 _ _)
   | (with_reducible exact LeO.refl _)
   | (with_reducible exact LeO.none _)
   | (with_reducible refine LeO.ite ?_ ?_)
   | (with_reducible refine LeO.bind ?_ (fun _ => ?_))
   | exact ih0 _ _
   | exact LeO.none _
   | refine LeO.ite ?_ ?_
   | refine LeO.bind ?_ (fun _ => ?_)
theorem spec_l7Word.mono : ∀ a0 k, LeO (spec_l7Word.f k a0) (spec_l7Word.f (k + 1) a0) := by
 intro a0 k
 have ih0 := spec_l7Word.mono_l k
 unfold spec_l7Word.f
 repeat' first
   | (with_reducible exact ih0 _ _)
   | (with_reducible exact LeO.refl _)
   | (with_reducible exact LeO.none _)
   | (with_reducible refine LeO.ite ?_ ?_)
   | (with_reducible refine LeO.bind ?_ (fun _ => ?_))
   | exact ih0 _ _
   | exact LeO.none _
   | refine LeO.ite ?_ ?_
   | refine LeO.bind ?_ (fun _ => ?_)
set_option maxHeartbeats 8000000 in
set_option maxRecDepth 100000 in
theorem spec_l7Word.calls (k : Nat) (a0 : ByteArray) (r1 : ByteArray) (r2 : Bool) (w : World) (h : spec_l7Word.f k a0 = some (r1, r2)) :
  Calls Tryd.prog 24 #[.string a0] w fun e w' => e = .returned (.tuple #[.string r1, .bool r2]) ∧ Drawn0 w w' := by
 have H : (spec_l7Word.l0 k a0 0) = some (r1, r2) := h
 clear h
 have H' := Aside0.mk H
 clear H
 go_enter Tryd.func24, Tryd.ntmps24
 go_wp2
 go_loopg [4] k (fun kq v4 w' => ∃ (x4_1 : Int), v4 = .int .i64 x4_1 ∧ Aside0 (spec_l7Word.l0 kq a0 x4_1 = some (r1, r2)) ∧ Aside0 (kq ≤ k) ∧ Drawn0 w w')
 case atStart => exact ⟨(0), (by first | rfl | (simp; done) | (simp [*]; done)), H', ⟨Nat.le_refl _⟩, by repeat (first | exact Drawn0.refl _ | apply Drawn0.step)⟩
 case round =>
  clear H'
  obtain ⟨x4_1, rfl, HA, HK1, ⟨m1, rfl⟩⟩ := hrel
  cases gk with
  | zero => exact absurd HA.out (by simp [spec_l7Word.l0])
  | succ k1 =>
   have H := HA.out
   clear HA
   simp only [spec_l7Word.l0] at H
   by_cases c2 : x4_1 < (a0.size : Int)
   ·rw [if_pos c2] at H
    have c2b0 : decide (x4_1 < (a0.size : Int)) = true := decide_eq_true c2
    clear c2
    by_cases c3 : 0 ≤ x4_1
    ·rw [if_pos c3] at H
     have c3b0 : decide (0 ≤ x4_1) = true := decide_eq_true c3
     clear c3
     by_cases c5 : (bt a0 x4_1) < 33
     ·rw [if_pos c5] at H
      have c5b0 : decide ((bt a0 x4_1) < 33) = true := decide_eq_true c5
      clear c5
      simp only [Option.some.injEq, Prod.mk.injEq] at H
      obtain ⟨rfl, rfl⟩ := H
      have p4 : 0 ≤ (x4_1 : Int) := of_decide_eq_true (by first | (with_reducible assumption) | assumption)
      have q4 : x4_1 < (a0.size : Int) := of_decide_eq_true (by first | (with_reducible assumption) | assumption)
      have hx4 := bt_at a0 x4_1
      replace p4 := eq_true p4
      replace q4 := eq_true q4
      go_wp2
      go_ret2
      exact ⟨by first | rfl | (simp; done) | (simp [*]; done), by repeat (first | exact Drawn0.refl _ | apply Drawn0.step)⟩
     ·rw [if_neg c5] at H
      have c5b0 : decide ((bt a0 x4_1) < 33) = false := decide_eq_false c5
      clear c5
      by_cases c7 : (bt a0 x4_1) > 126
      ·rw [if_pos c7] at H
       have c7b0 : decide (126 < (bt a0 x4_1)) = true := decide_eq_true c7
       clear c7
       simp only [Option.some.injEq, Prod.mk.injEq] at H
       obtain ⟨rfl, rfl⟩ := H
       have p4 : 0 ≤ (x4_1 : Int) := of_decide_eq_true (by first | (with_reducible assumption) | assumption)
       have q4 : x4_1 < (a0.size : Int) := of_decide_eq_true (by first | (with_reducible assumption) | assumption)
       have hx4 := bt_at a0 x4_1
       replace p4 := eq_true p4
       replace q4 := eq_true q4
       have p6 : 0 ≤ (x4_1 : Int) := of_decide_eq_true (by first | (with_reducible assumption) | assumption)
       have q6 : x4_1 < (a0.size : Int) := of_decide_eq_true (by first | (with_reducible assumption) | assumption)
       have hx6 := bt_at a0 x4_1
       replace p6 := eq_true p6
       replace q6 := eq_true q6
       go_wp2
       go_ret2
       exact ⟨by first | rfl | (simp; done) | (simp [*]; done), by repeat (first | exact Drawn0.refl _ | apply Drawn0.step)⟩
      ·rw [if_neg c7] at H
       have c7b0 : decide (126 < (bt a0 x4_1)) = false := decide_eq_false c7
       clear c7
       have H' := Aside0.mk H
       clear H
       have p4 : 0 ≤ (x4_1 : Int) := of_decide_eq_true (by first | (with_reducible assumption) | assumption)
       have q4 : x4_1 < (a0.size : Int) := of_decide_eq_true (by first | (with_reducible assumption) | assumption)
       have hx4 := bt_at a0 x4_1
       replace p4 := eq_true p4
       replace q4 := eq_true q4
       have p6 : 0 ≤ (x4_1 : Int) := of_decide_eq_true (by first | (with_reducible assumption) | assumption)
       have q6 : x4_1 < (a0.size : Int) := of_decide_eq_true (by first | (with_reducible assumption) | assumption)
       have hx6 := bt_at a0 x4_1
       replace p6 := eq_true p6
       replace q6 := eq_true q6
       go_wp2
       go_roundg k1
       case measure => have := HK1.out; omega
       case rel => exact ⟨(wrap64 (x4_1 + 1)), (by first | rfl | (simp; done) | (simp [*]; done)), H', ⟨by have := HK1.out; omega⟩, by repeat (first | exact Drawn0.refl _ | apply Drawn0.step)⟩
    ·rw [if_neg c3] at H
     exact absurd H (by simp)
   ·rw [if_neg c2] at H
    have c2b0 : decide (x4_1 < (a0.size : Int)) = false := decide_eq_false c2
    clear c2
    by_cases c8 : a0.toList = ([95] : List UInt8)
    ·rw [if_pos c8] at H
     have c8b0 : (a0.toList == ([95] : List UInt8)) = true := beq_iff_eq.mpr c8
     have c8b1 : (a0.toList != ([95] : List UInt8)) = false := bne_eq_false_iff_eq.mpr c8
     clear c8
     simp only [Option.some.injEq, Prod.mk.injEq] at H
     obtain ⟨rfl, rfl⟩ := H
     go_wp2
     go_ret2
     exact ⟨by first | rfl | (simp; done) | (simp [*]; done), by repeat (first | exact Drawn0.refl _ | apply Drawn0.step)⟩
    ·rw [if_neg c8] at H
     have c8b0 : (a0.toList == ([95] : List UInt8)) = false := beq_eq_false_iff_ne.mpr c8
     have c8b1 : (a0.toList != ([95] : List UInt8)) = true := bne_iff_ne.mpr c8
     simp only [Option.some.injEq, Prod.mk.injEq] at H
     obtain ⟨rfl, rfl⟩ := H
     go_wp2
     go_ret2
     exact ⟨by first | rfl | (simp; done) | (simp [*]; done), by repeat (first | exact Drawn0.refl _ | apply Drawn0.step)⟩

end Go.Proofs.YtkbhcejibcjglaaDoor.P
end
section
-- Written by a changed copy of the print program, one module a function. Not trusted: Lean checks it.
namespace Go.Proofs.YtkbhcejibcjglaaDoor.P
open Go.RowKit Go.Proofs.YtkbhcejibcjglaaDoorW.PrintWords Go.Proofs.YtkbhcejibcjglaaDoorW.PrintLast Go.Proofs.YtkbhcejibcjglaaDoorW.PrintMore
attribute [local go_sem] max2_int min2_int max_two min_two max_three min_three max_four min_four   -- for this text's walks alone
set_option linter.unusedVariables false
set_option linter.unusedSimpArgs false

/-! ### spec_l7Item: function 23 -/
mutual
def spec_l7Item.j0 : Nat → ByteArray → Bool → Option (ByteArray × Int × Int × ByteArray × Bool)
 | 0, _, _ => none
 | k + 1, x0, x18 => if x18 = true then (some ((⟨#[]⟩ : ByteArray), 0, 0, (⟨#[]⟩ : ByteArray), false)) else (spec_l7Item.l0 k x0 0)
def spec_l7Item.l0 : Nat → ByteArray → Int → Option (ByteArray × Int × Int × ByteArray × Bool)
 | 0, _, _ => none
 | k + 1, x0, x6 => if x6 < (x0.size : Int) then (if 0 ≤ x6 then (if (bt x0 x6) = 61 then (if x6 ≤ (x0.size : Int) then (if 0 ≤ (wrap64 (x6 + 1)) then (if (wrap64 (x6 + 1)) ≤ (x0.size : Int) then (some (x0.extract 0 (x6 : Int).toNat, 0, 1, x0.extract ((wrap64 (x6 + 1)) : Int).toNat x0.size, true)) else (none)) else (none)) else (none)) else (spec_l7Item.l0 k x0 (wrap64 (x6 + 1)))) else (none)) else (some (x0, 0, 0, (⟨#[]⟩ : ByteArray), true))
end
def spec_l7Item.f (k : Nat) (a0 : ByteArray) : Option (ByteArray × Int × Int × ByteArray × Bool) := (spec_l7Word.f k a0).bind fun bt130 => (if bt130.2 = true then (spec_l7Item.j0 k a0 ((bt130.1.size : Int) == 0)) else (spec_l7Item.j0 k a0 true))
theorem spec_l7Item.mono_l : ∀ k, (∀ y0 y1, LeO (spec_l7Item.j0 k y0 y1) (spec_l7Item.j0 (k + 1) y0 y1)) ∧ (∀ y0 y1, LeO (spec_l7Item.l0 k y0 y1) (spec_l7Item.l0 (k + 1) y0 y1))
 | 0 => ⟨fun _ _ r h => by simp [spec_l7Item.j0] at h, fun _ _ r h => by simp [spec_l7Item.l0] at h⟩
 | k + 1 => by
  obtain ⟨ih0, ih1⟩ := spec_l7Item.mono_l k
  refine ⟨?_, ?_⟩
  ·intro y0 y1
   unfold spec_l7Item.j0
   repeat' first
   | (with_reducible exact ih0 _ _)
   | (with_reducible exact ih1 _ _)
   | (with_reducible exact spec_l7Word.mono _ _)
   | (with_reducible exact LeO.refl _)
   | (with_reducible exact LeO.none _)
   | (with_reducible refine LeO.ite ?_ ?_)
   | (with_reducible refine LeO.bind ?_ (fun _ => ?_))
   | exact ih0 _ _
   | exact ih1 _ _
   | exact spec_l7Word.mono _ _
   | exact LeO.none _
   | refine LeO.ite ?_ ?_
   | refine LeO.bind ?_ (fun _ => ?_)
  ·intro y0 y1
   unfold spec_l7Item.l0
   repeat' first
   | (with_reducible exact ih0 _ _)
   | (with_reducible exact ih1 _ _)
   | (with_reducible exact spec_l7Word.mono _ _)
   | (with_reducible exact LeO.refl _)
   | (with_reducible exact LeO.none _)
   | (with_reducible refine LeO.ite ?_ ?_)
   | (with_reducible refine LeO.bind ?_ (fun _ => ?_))
   | exact ih0 _ _
   | exact ih1 _ _
   | exact spec_l7Word.mono _ _
   | exact LeO.none _
   | refine LeO.ite ?_ ?_
   | refine LeO.bind ?_ (fun _ => ?_)
theorem spec_l7Item.mono : ∀ a0 k, LeO (spec_l7Item.f k a0) (spec_l7Item.f (k + 1) a0) := by
 intro a0 k
 obtain ⟨ih0, ih1⟩ := spec_l7Item.mono_l k
 unfold spec_l7Item.f
 repeat' first
   | (with_reducible exact ih0 _ _)
   | (with_reducible exact ih1 _ _)
   | (with_reducible exact spec_l7Word.mono _ _)
   | (with_reducible exact LeO.refl _)
   | (with_reducible exact LeO.none _)
   | (with_reducible refine LeO.ite ?_ ?_)
   | (with_reducible refine LeO.bind ?_ (fun _ => ?_))
   | exact ih0 _ _
   | exact ih1 _ _
   | exact spec_l7Word.mono _ _
   | exact LeO.none _
   | refine LeO.ite ?_ ?_
   | refine LeO.bind ?_ (fun _ => ?_)
def spec_l7Item.T8 : Bool × List (List Nat × List Nat) := (true, [([], []), ([], []), ([0, 1], [0, 1]), ([], []), ([], []), ([4], [4]), ([3, 5], [3, 5]), ([2, 6], [2, 6]), ([7, 0, 1, 2, 3, 4, 5, 6, 7], [7]), ([8, 0, 1, 2, 3, 4, 5, 6, 7, 8], [])])
def spec_l7Item.B8 : List Nat := [0, 0, 3, 0, 0, 16, 56, 127, 255, 511]
theorem spec_l7Item.tab8 : rtab .any (opsOf Tryd.f23 8) = spec_l7Item.T8 := by kernel_rfl
theorem spec_l7Item.bits8 : waitsOk spec_l7Item.T8.2 spec_l7Item.B8 = true := by kernel_rfl
set_option maxHeartbeats 8000000 in
set_option maxRecDepth 100000 in
theorem spec_l7Item.calls (k : Nat) (a0 : ByteArray) (r1 : ByteArray) (r2 : Int) (r3 : Int) (r4 : ByteArray) (r5 : Bool) (w : World) (h : spec_l7Item.f k a0 = some (r1, r2, r3, r4, r5)) :
  Calls Tryd.prog 23 #[.string a0] w fun e w' => e = .returned (.tuple #[.agg #[.string r1, .int .i64 r2, .int .i64 r3, .string r4], .bool r5]) ∧ Below w.heap.size w w' := by
 have hu50 := Tryd.underlying50
 have HB := Aside0.mk (Below.refl w.heap.size w)
 have H : ((spec_l7Word.f k a0).bind fun bt130 => (if bt130.2 = true then (spec_l7Item.j0 k a0 ((bt130.1.size : Int) == 0)) else (spec_l7Item.j0 k a0 true))) = some (r1, r2, r3, r4, r5) := h
 clear h
 replace H := Option.bind_eq_some_iff.mp H
 obtain ⟨⟨t130, t131⟩, A20, H⟩ := H
 replace H : (if t131 = true then (spec_l7Item.j0 k a0 ((t130.size : Int) == 0)) else (spec_l7Item.j0 k a0 true)) = some (r1, r2, r3, r4, r5) := H
 have A2 := Aside0.mk A20
 clear A20
 have HC3 := Aside0.mk H
 clear H
 go_enter Tryd.func23, Tryd.ntmps23
 go_upto_region 2 with (first | ((with_reducible refine gate_dst (N := 2) rfl ?_); (try (refine gate_guard (by rfl) ?_; dsimp only)); refine box_event ?hg (N := 2) ?hd (cs := #[.string (⟨#[]⟩ : ByteArray), .int .i64 0, .int .i64 0, .string (⟨#[]⟩ : ByteArray)]) (t := 50) ?hr ?_; (case hd => rfl); (case hg => rfl); (case hr => first | (go_simp; done) | (go_simp; rfl)); intro gb129 hg w4 hbox hb; have n0_ := Aside0.mk (below_step (by repeat (first | (with_reducible first | exact HB.out | apply below_alloc | apply pw_below_drewN | apply below_drew1) | exact HB.out)) hb); have n1_ := Aside0.mk (hbox); have n2_ := Aside0.mk ((by rw [hg]; exact (below_size (by repeat (first | (with_reducible first | exact HB.out | apply below_alloc | apply pw_below_drewN | apply below_drew1) | exact HB.out))) : w.heap.size ≤ gb129)); have n3_ := Aside0.mk ((by rw [hg]; exact (below_size (by repeat (first | (with_reducible first | exact HB.out | apply below_alloc | apply pw_below_drewN | apply below_drew1) | exact HB.out))) : w.heap.size ≤ gb129)); clear HB; have HB := n0_; have BK129 := n1_; have GW129 := n2_; have GE129 := n3_; clear n0_ n1_ n2_ n3_; clear hb hbox hg) | ((with_reducible refine gate_callee (f := 24) rfl ?_); refine goesL_ (some 9) rfl rfl Tryd.func24 (by kernel_rfl) rfl #[.string a0] rfl (by (try simp only [List.map_toArray, List.map_cons, List.map_nil]); first | done | rfl | (simp only [List.length_drop, List.length_take]; rfl)) ?_; (with_reducible refine (spec_l7Word.calls k a0 t130 t131 _ A2.out).mono ?_); rintro e w' ⟨rfl, ⟨nd, rfl⟩⟩; refine ⟨_, rfl, ?_⟩))
 (try simp only [Act.put, List.setIfInBounds_toArray, List.set_cons_zero, List.set_cons_succ])
 go_cut [18] (fun v18 wc => ∃ (kq : Nat) (x18_2 : Bool), v18 = .bool x18_2 ∧ Aside0 (spec_l7Item.j0 kq a0 x18_2 = some (r1, r2, r3, r4, r5)) ∧ Aside0 (kq ≤ k) ∧ Aside0 (wc.heap[gb129]? = some (.cells #[.string (⟨#[]⟩ : ByteArray), .int .i64 0, .int .i64 0, .string (⟨#[]⟩ : ByteArray)] 50 (0, 0))) ∧ Aside0 (Below w.heap.size w wc))
 case first =>
  have H := HC3.out
  clear HC3
  by_cases c5 : t131 = true
  ·subst c5
   have H1 : (spec_l7Item.j0 k a0 ((t130.size : Int) == 0)) = some (r1, r2, r3, r4, r5) := by rw [if_pos rfl] at H; exact H
   clear H
   have H := H1
   clear H1
   have H' := Aside0.mk H
   clear H
   go_wp2
   go_meet
   case rel => exact ⟨_, (((t130.size : Int) == 0)), (by first | rfl | (simp; done) | (simp [*]; done)), H', ⟨by first | omega | exact Nat.le_refl _⟩, ⟨by (with_reducible repeat (first | refine blk_drewN ?_ _ | refine blk_drew ?_ | refine blk_alloc ?_ _)); exact BK129.out⟩, ⟨by repeat (first | (with_reducible first | exact HB.out | apply below_alloc | apply pw_below_drewN | apply below_drew1 | refine below_set ?_ GE129.out) | exact HB.out)⟩⟩
  ·replace c5 := Bool.eq_false_iff.mpr c5
   subst c5
   have H1 : (spec_l7Item.j0 k a0 true) = some (r1, r2, r3, r4, r5) := by rw [if_neg (show ¬ (false = true) by decide)] at H; exact H
   clear H
   have H := H1
   clear H1
   have H' := Aside0.mk H
   clear H
   go_wp2
   go_meet
   case rel => exact ⟨_, (true), (by first | rfl | (simp; done) | (simp [*]; done)), H', ⟨by first | omega | exact Nat.le_refl _⟩, ⟨by (with_reducible repeat (first | refine blk_drewN ?_ _ | refine blk_drew ?_ | refine blk_alloc ?_ _)); exact BK129.out⟩, ⟨by repeat (first | (with_reducible first | exact HB.out | apply below_alloc | apply pw_below_drewN | apply below_drew1 | refine below_set ?_ GE129.out) | exact HB.out)⟩⟩
 case rest =>
  clear HC3
  try clear c2
  try clear p2
  try clear c5
  obtain ⟨kq, x18_2, rfl, HA, HJ2, BK129, HB⟩ := hcut
  cases kq with
  | zero => exact absurd HA.out (by simp [spec_l7Item.j0])
  | succ kj2 =>
   have H := HA.out
   clear HA
   simp only [spec_l7Item.j0] at H
   by_cases c6 : x18_2 = true
   ·subst c6
    have H1 : (some ((⟨#[]⟩ : ByteArray), 0, 0, (⟨#[]⟩ : ByteArray), false)) = some (r1, r2, r3, r4, r5) := by rw [if_pos rfl] at H; exact H
    clear H
    have H := H1
    clear H1
    simp only [Option.some.injEq, Prod.mk.injEq] at H
    obtain ⟨rfl, rfl, rfl, rfl, rfl⟩ := H
    have hcz7_0 : wc.cell? ⟨gb129, 0, none⟩ = some (.string (⟨#[]⟩ : ByteArray)) := (blk_cell BK129.out 0).trans rfl
    have hcz7_1 : wc.cell? ⟨gb129, 1, none⟩ = some (.int .i64 0) := (blk_cell BK129.out 1).trans rfl
    have hcz7_2 : wc.cell? ⟨gb129, 2, none⟩ = some (.int .i64 0) := (blk_cell BK129.out 2).trans rfl
    have hcz7_3 : wc.cell? ⟨gb129, 3, none⟩ = some (.string (⟨#[]⟩ : ByteArray)) := (blk_cell BK129.out 3).trans rfl
    have hfz7_0 := blk_frozen BK129.out 0
    have hfz7_1 := blk_frozen BK129.out 1
    have hfz7_2 := blk_frozen BK129.out 2
    have hfz7_3 := blk_frozen BK129.out 3
    go_wp2
    refine bodyPost_ret (results_ct rfl _ _ gb129 50 #[.string (⟨#[]⟩ : ByteArray), .int .i64 0, .int .i64 0, .string (⟨#[]⟩ : ByteArray)] (0, 0) _ rfl (by (with_reducible repeat (first | refine blk_drewN ?_ _ | refine blk_drew ?_ | refine blk_alloc ?_ _)); refine blk_put (cs := #[.string (⟨#[]⟩ : ByteArray), .int .i64 0, .int .i64 0, .string (⟨#[]⟩ : ByteArray)]) ?_ 3 _ rfl; (with_reducible repeat (first | refine blk_drewN ?_ _ | refine blk_drew ?_ | refine blk_alloc ?_ _)); refine blk_put (cs := #[.string (⟨#[]⟩ : ByteArray), .int .i64 0, .int .i64 0, .string (⟨#[]⟩ : ByteArray)]) ?_ 2 _ rfl; (with_reducible repeat (first | refine blk_drewN ?_ _ | refine blk_drew ?_ | refine blk_alloc ?_ _)); refine blk_put (cs := #[.string (⟨#[]⟩ : ByteArray), .int .i64 0, .int .i64 0, .string (⟨#[]⟩ : ByteArray)]) ?_ 1 _ rfl; (with_reducible repeat (first | refine blk_drewN ?_ _ | refine blk_drew ?_ | refine blk_alloc ?_ _)); refine blk_put (cs := #[.string (⟨#[]⟩ : ByteArray), .int .i64 0, .int .i64 0, .string (⟨#[]⟩ : ByteArray)]) ?_ 0 _ rfl; (with_reducible repeat (first | refine blk_drewN ?_ _ | refine blk_drew ?_ | refine blk_alloc ?_ _)); exact BK129.out) Tryd.underlying50 rfl (by kernel_rfl)) rfl ?_
    exact ⟨by first | rfl | (simp [errW_none, errW_some] <;> rfl) | (simp [*, errW_none, errW_some] <;> rfl), by repeat (first | (with_reducible first | exact HB.out | apply below_alloc | apply pw_below_drewN | apply below_drew1 | refine below_set ?_ GE129.out) | exact HB.out)⟩
   ·replace c6 := Bool.eq_false_iff.mpr c6
    subst c6
    have H1 : (spec_l7Item.l0 kj2 a0 0) = some (r1, r2, r3, r4, r5) := by rw [if_neg (show ¬ (false = true) by decide)] at H; exact H
    clear H
    have H := H1
    clear H1
    have H' := Aside0.mk H
    clear H
    go_wp2
    go_loopg [6] kj2 (fun kq v6 w' => ∃ (x6_2 : Int) (x130000_2 : ByteArray) (x130001_2 : Int) (x130002_2 : Int) (x130003_2 : ByteArray), v6 = .int .i64 x6_2 ∧ Aside0 (spec_l7Item.l0 kq a0 x6_2 = some (r1, r2, r3, r4, r5)) ∧ Aside0 (kq ≤ kj2) ∧ Aside0 (w'.heap[gb129]? = some (.cells #[.string x130000_2, .int .i64 x130001_2, .int .i64 x130002_2, .string x130003_2] 50 (0, 0))) ∧ Aside0 (Below w.heap.size w w'))
    case atStart => exact ⟨(0), ((⟨#[]⟩ : ByteArray)), (0), (0), ((⟨#[]⟩ : ByteArray)), (by first | rfl | (simp; done) | (simp [*]; done)), H', ⟨Nat.le_refl _⟩, ⟨by (with_reducible repeat (first | refine blk_drewN ?_ _ | refine blk_drew ?_ | refine blk_alloc ?_ _)); exact BK129.out⟩, ⟨by repeat (first | (with_reducible first | exact HB.out | apply below_alloc | apply pw_below_drewN | apply below_drew1 | refine below_set ?_ GE129.out) | exact HB.out)⟩⟩
    case round =>
     clear H'
     try clear c2
     try clear p2
     try clear c5
     try clear c6
     try clear hcz7_0
     try clear hcz7_1
     try clear hcz7_2
     try clear hcz7_3
     try clear hfz7_0
     try clear hfz7_1
     try clear hfz7_2
     try clear hfz7_3
     try clear p2
     obtain ⟨x6_2, x130000_2, x130001_2, x130002_2, x130003_2, rfl, HA, HK2, BK129, HB⟩ := hrel
     cases gk with
     | zero => exact absurd HA.out (by simp [spec_l7Item.l0])
     | succ k2 =>
      have H := HA.out
      clear HA
      simp only [spec_l7Item.l0] at H
      by_cases c8 : x6_2 < (a0.size : Int)
      ·rw [if_pos c8] at H
       have c8b0 : decide (x6_2 < (a0.size : Int)) = true := decide_eq_true c8
       clear c8
       by_cases c9 : 0 ≤ x6_2
       ·rw [if_pos c9] at H
        have c9b0 : decide (0 ≤ x6_2) = true := decide_eq_true c9
        clear c9
        by_cases c11 : (bt a0 x6_2) = 61
        ·rw [if_pos c11] at H
         have c11b0 : ((bt a0 x6_2) == 61) = true := beq_iff_eq.mpr c11
         have c11b1 : ((bt a0 x6_2) != 61) = false := bne_eq_false_iff_eq.mpr c11
         clear c11
         have c12b0 := eq_true (of_decide_eq_true (by first | (with_reducible assumption) | assumption) : 0 ≤ x6_2)
         by_cases c13 : x6_2 ≤ (a0.size : Int)
         ·rw [if_pos c13] at H
          have c13b0 := eq_true c13
          have c13b1 : decide (x6_2 ≤ (a0.size : Int)) = true := decide_eq_true c13
          clear c13
          obtain ⟨ji14, hji14⟩ : ∃ j_ : Int, (wrap64 (x6_2 + 1)) = j_ := ⟨_, rfl⟩
          replace H : (if 0 ≤ (ji14) then (if (ji14) ≤ (a0.size : Int) then (some (a0.extract 0 (x6_2 : Int).toNat, 0, 1, a0.extract ((ji14) : Int).toNat a0.size, true)) else (none)) else (none)) = some (r1, r2, r3, r4, r5) := by first | (rw [hji14] at H; exact H) | (simp only [hji14] at H ⊢; exact H)
          have hji14w : (IntKind.i64.wrap (x6_2 + 1)) = ji14 := (i64_w _).trans hji14
          by_cases c15 : 0 ≤ (ji14)
          ·rw [if_pos c15] at H
           have c15b0 := eq_true c15
           have c15b1 : decide (0 ≤ (ji14)) = true := decide_eq_true c15
           clear c15
           by_cases c16 : (ji14) ≤ (a0.size : Int)
           ·rw [if_pos c16] at H
            have c16b0 := eq_true c16
            have c16b1 : decide ((ji14) ≤ (a0.size : Int)) = true := decide_eq_true c16
            clear c16
            simp only [Option.some.injEq, Prod.mk.injEq] at H
            obtain ⟨rfl, rfl, rfl, rfl, rfl⟩ := H
            have p10 : 0 ≤ (x6_2 : Int) := of_decide_eq_true (by first | (with_reducible assumption) | assumption)
            have q10 : x6_2 < (a0.size : Int) := of_decide_eq_true (by first | (with_reducible assumption) | assumption)
            have hx10 := bt_at a0 x6_2
            replace p10 := eq_true p10
            replace q10 := eq_true q10
            try go_wp2
            have n0_ := Aside0.mk (blk_drew BK129.out)
            have n1_ := Aside0.mk (below_drew1 HB.out)
            clear BK129
            clear HB
            have BK129 := n0_
            have HB := n1_
            clear n0_ n1_
            refine start_ (n := 10) (S := fun w' => True) (ds := []) #[false, false, false, false, false, false, false, false, false, false] (by kernel_rfl) rfl rfl trivial (fun hHeld => ?_); refine with_tabW spec_l7Item.tab8 spec_l7Item.bits8 (fun HT_ HW_ => ?_)
            generalize wr.drew = w17 at BK129 HB hHeld ⊢
            refine pure_ (i := 0) (N := some 30) (v := ?_) (a' := ?_) #[true, false, false, false, false, false, false, false, false, false] rfl rfl (any_of HT_.out (by kernel_rfl)) (fun _ _ _ h => h) (Or.inl ⟨by rfl, ?_⟩) ?_ ?_
            rotate_left
            ·intro w'
             go_simp
             with_reducible rfl
            rotate_left
            ·simp only [Act.put, List.setIfInBounds_toArray, List.set_cons_zero, List.set_cons_succ, i64_w, i32_w]
             rfl
            refine pure_ (i := 1) (N := some 31) (v := ?_) (a' := ?_) #[true, true, false, false, false, false, false, false, false, false] rfl rfl (any_of HT_.out (by kernel_rfl)) (fun _ _ _ h => h) (Or.inl ⟨by rfl, ?_⟩) ?_ ?_
            rotate_left
            ·intro w'
             go_simp
             with_reducible rfl
            rotate_left
            ·simp only [Act.put, List.setIfInBounds_toArray, List.set_cons_zero, List.set_cons_succ, i64_w, i32_w]
             rfl
            refine pure_ (i := 2) (N := some 32) (v := ?_) (a' := ?_) #[true, true, true, false, false, false, false, false, false, false] rfl rfl (any_of HT_.out (by kernel_rfl)) (fun _ _ _ h => h) (Or.inl ⟨by rfl, ?_⟩) ?_ ?_
            rotate_left
            ·intro w'
             go_simp
             with_reducible rfl
            rotate_left
            ·simp only [Act.put, List.setIfInBounds_toArray, List.set_cons_zero, List.set_cons_succ, i64_w, i32_w]
             rfl
            refine pure_ (i := 3) (N := some 33) (v := ?_) (a' := ?_) #[true, true, true, true, false, false, false, false, false, false] rfl rfl (any_of HT_.out (by kernel_rfl)) (fun _ _ _ h => h) (Or.inl ⟨by rfl, ?_⟩) ?_ ?_
            rotate_left
            ·intro w'
             go_simp
             with_reducible rfl
            rotate_left
            ·simp only [Act.put, List.setIfInBounds_toArray, List.set_cons_zero, List.set_cons_succ, i64_w, i32_w]
             rfl
            refine pure_ (i := 4) (N := some 34) (v := ?_) (a' := ?_) #[true, true, true, true, true, false, false, false, false, false] rfl rfl (any_of HT_.out (by kernel_rfl)) (fun _ _ _ h => h) (Or.inl ⟨by rfl, ?_⟩) ?_ ?_
            rotate_left
            ·intro w'
             go_simp
             with_reducible rfl
            rotate_left
            ·simp only [Act.put, List.setIfInBounds_toArray, List.set_cons_zero, List.set_cons_succ, i64_w, i32_w]
             rfl
            refine pure_ (i := 5) (N := some 35) (v := ?_) (a' := ?_) #[true, true, true, true, true, true, false, false, false, false] rfl rfl (any_of HT_.out (by kernel_rfl)) (fun _ _ _ h => h) (Or.inl ⟨by rfl, ?_⟩) ?_ ?_
            rotate_left
            ·intro w'
             go_simp
             with_reducible rfl
            rotate_left
            ·simp only [Act.put, List.setIfInBounds_toArray, List.set_cons_zero, List.set_cons_succ, i64_w, i32_w]
             rfl
            refine pure_ (i := 6) (N := some 36) (v := ?_) (a' := ?_) #[true, true, true, true, true, true, true, false, false, false] rfl rfl (any_of HT_.out (by kernel_rfl)) (fun _ _ _ h => h) (Or.inl ⟨by rfl, ?_⟩) ?_ ?_
            rotate_left
            ·intro w'
             go_simp
             with_reducible rfl
            rotate_left
            ·simp only [Act.put, List.setIfInBounds_toArray, List.set_cons_zero, List.set_cons_succ, i64_w, i32_w]
             rfl
            refine pure_ (i := 7) (N := some 37) (v := ?_) (a' := ?_) #[true, true, true, true, true, true, true, true, false, false] rfl rfl (any_of HT_.out (by kernel_rfl)) (fun _ _ _ h => h) (Or.inl ⟨by rfl, ?_⟩) ?_ ?_
            rotate_left
            ·intro w'
             go_simp
             with_reducible rfl
            rotate_left
            ·simp only [Act.put, List.setIfInBounds_toArray, List.set_cons_zero, List.set_cons_succ, i64_w, i32_w]
             rfl
            refine one_ (i := 8) (N := none) #[true, true, true, true, true, true, true, true, true, false] rfl rfl (one_of HT_.out (by kernel_rfl)) (by decide) (fun K hK => ?_)
            have hs18 : w17.cell? ⟨gb129, 0, none⟩ = some (.string x130000_2) := (blk_cell BK129.out 0).trans rfl
            have hfs18 := blk_frozen BK129.out 0
            have hs19 : w17.cell? ⟨gb129, 1, none⟩ = some (.int .i64 x130001_2) := (blk_cell BK129.out 1).trans rfl
            have hfs19 := blk_frozen BK129.out 1
            have hs20 : w17.cell? ⟨gb129, 2, none⟩ = some (.int .i64 x130002_2) := (blk_cell BK129.out 2).trans rfl
            have hfs20 := blk_frozen BK129.out 2
            have hs21 : w17.cell? ⟨gb129, 3, none⟩ = some (.string x130003_2) := (blk_cell BK129.out 3).trans rfl
            have hfs21 := blk_frozen BK129.out 3
            refine skip_ (w1 := ?_) (by rfl) rfl ?_ ?_
            rotate_left
            ·go_simp
             rfl
            refine hK.out _ _ trivial (fun hHeld => ?_)
            clear hK K
            refine pure_ (i := 9) (N := some 3) (v := ?_) (a' := ?_) #[true, true, true, true, true, true, true, true, true, true] rfl rfl (any_of HT_.out (by kernel_rfl)) (fun _ _ _ h => h) (Or.inl ⟨by rfl, ?_⟩) ?_ ?_
            rotate_left
            ·intro w'
             go_simp
             with_reducible rfl
            rotate_left
            ·simp only [Act.put, List.setIfInBounds_toArray, List.set_cons_zero, List.set_cons_succ, i64_w, i32_w]
             rfl
            refine done_ (done_of HT_.out (by kernel_rfl)) ?_
            try go_wp2
            refine bodyPost_ret (results_ct rfl _ _ gb129 50 #[.string (a0.extract 0 (x6_2 : Int).toNat), .int .i64 0, .int .i64 1, .string (a0.extract ((ji14) : Int).toNat a0.size)] (0, 0) _ rfl (by (with_reducible repeat (first | refine blk_drewN ?_ _ | refine blk_drew ?_ | refine blk_alloc ?_ _)); refine blk_put (cs := #[.string (a0.extract 0 (x6_2 : Int).toNat), .int .i64 0, .int .i64 1, .string x130003_2]) ?_ 3 _ rfl; (with_reducible repeat (first | refine blk_drewN ?_ _ | refine blk_drew ?_ | refine blk_alloc ?_ _)); refine blk_put (cs := #[.string (a0.extract 0 (x6_2 : Int).toNat), .int .i64 0, .int .i64 x130002_2, .string x130003_2]) ?_ 2 _ rfl; (with_reducible repeat (first | refine blk_drewN ?_ _ | refine blk_drew ?_ | refine blk_alloc ?_ _)); refine blk_put (cs := #[.string (a0.extract 0 (x6_2 : Int).toNat), .int .i64 x130001_2, .int .i64 x130002_2, .string x130003_2]) ?_ 1 _ rfl; (with_reducible repeat (first | refine blk_drewN ?_ _ | refine blk_drew ?_ | refine blk_alloc ?_ _)); refine blk_put (cs := #[.string x130000_2, .int .i64 x130001_2, .int .i64 x130002_2, .string x130003_2]) ?_ 0 _ rfl; (with_reducible repeat (first | refine blk_drewN ?_ _ | refine blk_drew ?_ | refine blk_alloc ?_ _)); exact BK129.out) Tryd.underlying50 rfl (by kernel_rfl)) rfl ?_
            exact ⟨by first | rfl | (simp [errW_none, errW_some] <;> rfl) | (simp only [← hji14]; first | rfl | (simp [errW_none, errW_some] <;> rfl)) | (simp [*, errW_none, errW_some] <;> rfl), by repeat (first | (with_reducible first | exact HB.out | apply below_alloc | apply pw_below_drewN | apply below_drew1 | refine below_set ?_ GE129.out) | exact HB.out)⟩
           ·rw [if_neg c16] at H
            exact absurd H (by simp)
          ·rw [if_neg c15] at H
           exact absurd H (by simp)
         ·rw [if_neg c13] at H
          exact absurd H (by simp)
        ·rw [if_neg c11] at H
         have c11b0 : ((bt a0 x6_2) == 61) = false := beq_eq_false_iff_ne.mpr c11
         have c11b1 : ((bt a0 x6_2) != 61) = true := bne_iff_ne.mpr c11
         have H' := Aside0.mk H
         clear H
         have p10 : 0 ≤ (x6_2 : Int) := of_decide_eq_true (by first | (with_reducible assumption) | assumption)
         have q10 : x6_2 < (a0.size : Int) := of_decide_eq_true (by first | (with_reducible assumption) | assumption)
         have hx10 := bt_at a0 x6_2
         replace p10 := eq_true p10
         replace q10 := eq_true q10
         go_wp2
         go_roundg k2
         case measure => have := HJ2.out; have := HK2.out; omega
         case rel => exact ⟨(wrap64 (x6_2 + 1)), (x130000_2), (x130001_2), (x130002_2), (x130003_2), (by first | rfl | (simp; done) | (simp [*]; done)), H', ⟨by have := HJ2.out; have := HK2.out; omega⟩, ⟨by (with_reducible repeat (first | refine blk_drewN ?_ _ | refine blk_drew ?_ | refine blk_alloc ?_ _)); exact BK129.out⟩, ⟨by repeat (first | (with_reducible first | exact HB.out | apply below_alloc | apply pw_below_drewN | apply below_drew1 | refine below_set ?_ GE129.out) | exact HB.out)⟩⟩
       ·rw [if_neg c9] at H
        exact absurd H (by simp)
      ·rw [if_neg c8] at H
       have c8b0 : decide (x6_2 < (a0.size : Int)) = false := decide_eq_false c8
       clear c8
       simp only [Option.some.injEq, Prod.mk.injEq] at H
       obtain ⟨rfl, rfl, rfl, rfl, rfl⟩ := H
       have hcz22_0 : wr.cell? ⟨gb129, 0, none⟩ = some (.string x130000_2) := (blk_cell BK129.out 0).trans rfl
       have hcz22_1 : wr.cell? ⟨gb129, 1, none⟩ = some (.int .i64 x130001_2) := (blk_cell BK129.out 1).trans rfl
       have hcz22_2 : wr.cell? ⟨gb129, 2, none⟩ = some (.int .i64 x130002_2) := (blk_cell BK129.out 2).trans rfl
       have hcz22_3 : wr.cell? ⟨gb129, 3, none⟩ = some (.string x130003_2) := (blk_cell BK129.out 3).trans rfl
       have hfz22_0 := blk_frozen BK129.out 0
       have hfz22_1 := blk_frozen BK129.out 1
       have hfz22_2 := blk_frozen BK129.out 2
       have hfz22_3 := blk_frozen BK129.out 3
       go_wp2
       refine bodyPost_ret (results_ct rfl _ _ gb129 50 #[.string a0, .int .i64 0, .int .i64 0, .string (⟨#[]⟩ : ByteArray)] (0, 0) _ rfl (by (with_reducible repeat (first | refine blk_drewN ?_ _ | refine blk_drew ?_ | refine blk_alloc ?_ _)); refine blk_put (cs := #[.string a0, .int .i64 0, .int .i64 0, .string x130003_2]) ?_ 3 _ rfl; (with_reducible repeat (first | refine blk_drewN ?_ _ | refine blk_drew ?_ | refine blk_alloc ?_ _)); refine blk_put (cs := #[.string a0, .int .i64 0, .int .i64 x130002_2, .string x130003_2]) ?_ 2 _ rfl; (with_reducible repeat (first | refine blk_drewN ?_ _ | refine blk_drew ?_ | refine blk_alloc ?_ _)); refine blk_put (cs := #[.string a0, .int .i64 x130001_2, .int .i64 x130002_2, .string x130003_2]) ?_ 1 _ rfl; (with_reducible repeat (first | refine blk_drewN ?_ _ | refine blk_drew ?_ | refine blk_alloc ?_ _)); refine blk_put (cs := #[.string x130000_2, .int .i64 x130001_2, .int .i64 x130002_2, .string x130003_2]) ?_ 0 _ rfl; (with_reducible repeat (first | refine blk_drewN ?_ _ | refine blk_drew ?_ | refine blk_alloc ?_ _)); exact BK129.out) Tryd.underlying50 rfl (by kernel_rfl)) rfl ?_
       exact ⟨by first | rfl | (simp [errW_none, errW_some] <;> rfl) | (simp [*, errW_none, errW_some] <;> rfl), by repeat (first | (with_reducible first | exact HB.out | apply below_alloc | apply pw_below_drewN | apply below_drew1 | refine below_set ?_ GE129.out) | exact HB.out)⟩

end Go.Proofs.YtkbhcejibcjglaaDoor.P
end
section
-- Written by a changed copy of the print program, one module a function. Not trusted: Lean checks it.
namespace Go.Proofs.YtkbhcejibcjglaaDoor.P
open Go.RowKit Go.Proofs.YtkbhcejibcjglaaDoorW.PrintWords Go.Proofs.YtkbhcejibcjglaaDoorW.PrintLast Go.Proofs.YtkbhcejibcjglaaDoorW.PrintMore
attribute [local go_sem] max2_int min2_int max_two min_two max_three min_three max_four min_four   -- for this text's walks alone
set_option linter.unusedVariables false
set_option linter.unusedSimpArgs false

/-! ### impl_word: function 27 -/
def impl_word.l0 : Nat → ByteArray → Int → Option (ByteArray × Bool)
 | 0, _, _ => none
 | k + 1, x0, x4 => if x4 < (x0.size : Int) then (if 0 ≤ x4 then (if (bt x0 x4) < 33 then (some ((⟨#[]⟩ : ByteArray), false)) else (if (bt x0 x4) > 126 then (some ((⟨#[]⟩ : ByteArray), false)) else (impl_word.l0 k x0 (wrap64 (x4 + 1))))) else (none)) else (if x0.toList = ([95] : List UInt8) then (some ((⟨#[]⟩ : ByteArray), true)) else (some (x0, true)))
def impl_word.f (k : Nat) (a0 : ByteArray) : Option (ByteArray × Bool) := if a0.toList = ([] : List UInt8) then (some ((⟨#[]⟩ : ByteArray), false)) else (impl_word.l0 k a0 0)
theorem impl_word.mono_l : ∀ k, (∀ y0 y1, LeO (impl_word.l0 k y0 y1) (impl_word.l0 (k + 1) y0 y1))
 | 0 => fun _ _ r h => by simp [impl_word.l0] at h
 | k + 1 => by
  have ih0 := impl_word.mono_l k
  ·intro y0 y1
   unfold impl_word.l0
   repeat' first
   | (with_reducible exact ih0 _ _)
   | (with_reducible exact LeO.refl _)
   | (with_reducible exact LeO.none _)
   | (with_reducible refine LeO.ite ?_ ?_)
   | (with_reducible refine LeO.bind ?_ (fun _ => ?_))
   | exact ih0 _ _
   | exact LeO.none _
   | refine LeO.ite ?_ ?_
   | refine LeO.bind ?_ (fun _ => ?_)
theorem impl_word.mono : ∀ a0 k, LeO (impl_word.f k a0) (impl_word.f (k + 1) a0) := by
 intro a0 k
 have ih0 := impl_word.mono_l k
 unfold impl_word.f
 repeat' first
   | (with_reducible exact ih0 _ _)
   | (with_reducible exact LeO.refl _)
   | (with_reducible exact LeO.none _)
   | (with_reducible refine LeO.ite ?_ ?_)
   | (with_reducible refine LeO.bind ?_ (fun _ => ?_))
   | exact ih0 _ _
   | exact LeO.none _
   | refine LeO.ite ?_ ?_
   | refine LeO.bind ?_ (fun _ => ?_)
set_option maxHeartbeats 8000000 in
set_option maxRecDepth 100000 in
theorem impl_word.calls (k : Nat) (a0 : ByteArray) (r1 : ByteArray) (r2 : Bool) (w : World) (h : impl_word.f k a0 = some (r1, r2)) :
  Calls Tryd.prog 27 #[.string a0] w fun e w' => e = .returned (.tuple #[.string r1, .bool r2]) ∧ Drawn0 w w' := by
 have H : (if a0.toList = ([] : List UInt8) then (some ((⟨#[]⟩ : ByteArray), false)) else (impl_word.l0 k a0 0)) = some (r1, r2) := h
 clear h
 by_cases c2 : a0.toList = ([] : List UInt8)
 ·rw [if_pos c2] at H
  have c2b0 : (a0.toList == ([] : List UInt8)) = true := beq_iff_eq.mpr c2
  have c2b1 : (a0.toList != ([] : List UInt8)) = false := bne_eq_false_iff_eq.mpr c2
  clear c2
  simp only [Option.some.injEq, Prod.mk.injEq] at H
  obtain ⟨rfl, rfl⟩ := H
  go_enter Tryd.func27, Tryd.ntmps27
  go_wp2
  go_ret2
  exact ⟨by first | rfl | (simp; done) | (simp [*]; done), by repeat (first | exact Drawn0.refl _ | apply Drawn0.step)⟩
 ·rw [if_neg c2] at H
  have c2b0 : (a0.toList == ([] : List UInt8)) = false := beq_eq_false_iff_ne.mpr c2
  have c2b1 : (a0.toList != ([] : List UInt8)) = true := bne_iff_ne.mpr c2
  have H' := Aside0.mk H
  clear H
  go_enter Tryd.func27, Tryd.ntmps27
  go_wp2
  go_loopg [4] k (fun kq v4 w' => ∃ (x4_1 : Int), v4 = .int .i64 x4_1 ∧ Aside0 (impl_word.l0 kq a0 x4_1 = some (r1, r2)) ∧ Aside0 (kq ≤ k) ∧ Drawn0 w w')
  case atStart => exact ⟨(0), (by first | rfl | (simp; done) | (simp [*]; done)), H', ⟨Nat.le_refl _⟩, by repeat (first | exact Drawn0.refl _ | apply Drawn0.step)⟩
  case round =>
   clear H'
   try clear c2
   try clear c2b0
   try clear c2b1
   try clear p2
   obtain ⟨x4_1, rfl, HA, HK1, ⟨m1, rfl⟩⟩ := hrel
   cases gk with
   | zero => exact absurd HA.out (by simp [impl_word.l0])
   | succ k1 =>
    have H := HA.out
    clear HA
    simp only [impl_word.l0] at H
    by_cases c3 : x4_1 < (a0.size : Int)
    ·rw [if_pos c3] at H
     have c3b0 : decide (x4_1 < (a0.size : Int)) = true := decide_eq_true c3
     clear c3
     by_cases c4 : 0 ≤ x4_1
     ·rw [if_pos c4] at H
      have c4b0 : decide (0 ≤ x4_1) = true := decide_eq_true c4
      clear c4
      by_cases c6 : (bt a0 x4_1) < 33
      ·rw [if_pos c6] at H
       have c6b0 : decide ((bt a0 x4_1) < 33) = true := decide_eq_true c6
       clear c6
       simp only [Option.some.injEq, Prod.mk.injEq] at H
       obtain ⟨rfl, rfl⟩ := H
       have p5 : 0 ≤ (x4_1 : Int) := of_decide_eq_true (by first | (with_reducible assumption) | assumption)
       have q5 : x4_1 < (a0.size : Int) := of_decide_eq_true (by first | (with_reducible assumption) | assumption)
       have hx5 := bt_at a0 x4_1
       replace p5 := eq_true p5
       replace q5 := eq_true q5
       go_wp2
       go_ret2
       exact ⟨by first | rfl | (simp; done) | (simp [*]; done), by repeat (first | exact Drawn0.refl _ | apply Drawn0.step)⟩
      ·rw [if_neg c6] at H
       have c6b0 : decide ((bt a0 x4_1) < 33) = false := decide_eq_false c6
       clear c6
       by_cases c8 : (bt a0 x4_1) > 126
       ·rw [if_pos c8] at H
        have c8b0 : decide (126 < (bt a0 x4_1)) = true := decide_eq_true c8
        clear c8
        simp only [Option.some.injEq, Prod.mk.injEq] at H
        obtain ⟨rfl, rfl⟩ := H
        have p5 : 0 ≤ (x4_1 : Int) := of_decide_eq_true (by first | (with_reducible assumption) | assumption)
        have q5 : x4_1 < (a0.size : Int) := of_decide_eq_true (by first | (with_reducible assumption) | assumption)
        have hx5 := bt_at a0 x4_1
        replace p5 := eq_true p5
        replace q5 := eq_true q5
        have p7 : 0 ≤ (x4_1 : Int) := of_decide_eq_true (by first | (with_reducible assumption) | assumption)
        have q7 : x4_1 < (a0.size : Int) := of_decide_eq_true (by first | (with_reducible assumption) | assumption)
        have hx7 := bt_at a0 x4_1
        replace p7 := eq_true p7
        replace q7 := eq_true q7
        go_wp2
        go_ret2
        exact ⟨by first | rfl | (simp; done) | (simp [*]; done), by repeat (first | exact Drawn0.refl _ | apply Drawn0.step)⟩
       ·rw [if_neg c8] at H
        have c8b0 : decide (126 < (bt a0 x4_1)) = false := decide_eq_false c8
        clear c8
        have H' := Aside0.mk H
        clear H
        have p5 : 0 ≤ (x4_1 : Int) := of_decide_eq_true (by first | (with_reducible assumption) | assumption)
        have q5 : x4_1 < (a0.size : Int) := of_decide_eq_true (by first | (with_reducible assumption) | assumption)
        have hx5 := bt_at a0 x4_1
        replace p5 := eq_true p5
        replace q5 := eq_true q5
        have p7 : 0 ≤ (x4_1 : Int) := of_decide_eq_true (by first | (with_reducible assumption) | assumption)
        have q7 : x4_1 < (a0.size : Int) := of_decide_eq_true (by first | (with_reducible assumption) | assumption)
        have hx7 := bt_at a0 x4_1
        replace p7 := eq_true p7
        replace q7 := eq_true q7
        go_wp2
        go_roundg k1
        case measure => have := HK1.out; omega
        case rel => exact ⟨(wrap64 (x4_1 + 1)), (by first | rfl | (simp; done) | (simp [*]; done)), H', ⟨by have := HK1.out; omega⟩, by repeat (first | exact Drawn0.refl _ | apply Drawn0.step)⟩
     ·rw [if_neg c4] at H
      exact absurd H (by simp)
    ·rw [if_neg c3] at H
     have c3b0 : decide (x4_1 < (a0.size : Int)) = false := decide_eq_false c3
     clear c3
     by_cases c9 : a0.toList = ([95] : List UInt8)
     ·rw [if_pos c9] at H
      have c9b0 : (a0.toList == ([95] : List UInt8)) = true := beq_iff_eq.mpr c9
      have c9b1 : (a0.toList != ([95] : List UInt8)) = false := bne_eq_false_iff_eq.mpr c9
      clear c9
      simp only [Option.some.injEq, Prod.mk.injEq] at H
      obtain ⟨rfl, rfl⟩ := H
      go_wp2
      go_ret2
      exact ⟨by first | rfl | (simp; done) | (simp [*]; done), by repeat (first | exact Drawn0.refl _ | apply Drawn0.step)⟩
     ·rw [if_neg c9] at H
      have c9b0 : (a0.toList == ([95] : List UInt8)) = false := beq_eq_false_iff_ne.mpr c9
      have c9b1 : (a0.toList != ([95] : List UInt8)) = true := bne_iff_ne.mpr c9
      simp only [Option.some.injEq, Prod.mk.injEq] at H
      obtain ⟨rfl, rfl⟩ := H
      go_wp2
      go_ret2
      exact ⟨by first | rfl | (simp; done) | (simp [*]; done), by repeat (first | exact Drawn0.refl _ | apply Drawn0.step)⟩

end Go.Proofs.YtkbhcejibcjglaaDoor.P
end
section
/- Words and items: the specification's l7Word, l7Item and the program's word, with strings.Cut, agree. Condition: at most 2 to the 20 bytes. -/
namespace Go.Proofs.YtkbhcejibcjglaaDoor.M
open Go.RowKit Go.Proofs.YtkbhcejibcjglaaDoor.P Go.Proofs.YtkbhcejibcjglaaDoorW.PrintWords Go.Proofs.YtkbhcejibcjglaaDoorW.PrintLast Go.Proofs.YtkbhcejibcjglaaDoorW.PrintMore
set_option linter.unusedVariables false
open Classical in
/-- A word: its text, and whether it is one. -/
noncomputable def wordOf (s : ByteArray) : ByteArray × Bool :=
  if ∀ b ∈ s.data.toList, 33 ≤ b.toNat ∧ b.toNat ≤ 126 then (if s.toList = ([95] : List UInt8) then (⟨#[]⟩, true) else (s, decide ((s.size : Int) > 0))) else (⟨#[]⟩, false)
theorem words (s : ByteArray) (hs : s.size ≤ 1048576) (hne : s.toList ≠ []) : ∀ d i : Nat, i + d = s.size → (∀ b ∈ s.data.toList.take i, 33 ≤ b.toNat ∧ b.toNat ≤ 126) →
    Ev (fun k => spec_l7Word.l0 k s (i : Int)) (wordOf s) ∧ Ev (fun k => impl_word.l0 k s (i : Int)) (wordOf s) := by
  have hsz : (s.size : Int) > 0 := by
    have : s.toList.length ≠ 0 := fun h => hne (List.length_eq_zero_iff.1 h)
    rw [toList_size] at this
    omega
  intro d
  induction d with
  | zero =>
    intro i hi hd
    rw [List.take_of_length_le (by rw [dsize]; omega)] at hd
    have e : wordOf s = (if s.toList = ([95] : List UInt8) then (⟨#[]⟩, true) else (s, true)) := by
      unfold wordOf
      rw [if_pos hd, decide_eq_true hsz]
    constructor
    · refine Ev.step (f := fun _ => some (wordOf s)) (fun k => ?_) (Ev.now _)
      rw [spec_l7Word.l0, if_neg (by omega), e, decide_eq_true hsz]
      split <;> rfl
    · refine Ev.step (f := fun _ => some (wordOf s)) (fun k => ?_) (Ev.now _)
      rw [impl_word.l0, if_neg (by omega), e]
      split <;> rfl
  | succ d ih =>
    intro i hi hd
    have hlt : i < s.data.toList.length := by rw [dsize]; omega
    have hb := bt_data s i hlt
    have p1 : (i : Int) < (s.size : Int) := by omega
    have p2 : (0 : Int) ≤ (i : Int) := by omega
    have ws : wrap64 ((i : Int) + 1) = ((i + 1 : Nat) : Int) := wrap_succ (by omega)
    have bad : ¬ (33 ≤ (s.data.toList[i]).toNat ∧ (s.data.toList[i]).toNat ≤ 126) → wordOf s = (⟨#[]⟩, false) := fun h => by
      unfold wordOf
      rw [if_neg (fun hx => h (hx _ (List.getElem_mem hlt)))]
    by_cases h1 : bt s (i : Int) < 33
    · rw [bad (by rw [hb] at h1; omega)]
      exact ⟨Ev.step (f := fun _ => some (⟨#[]⟩, false)) (fun k => by rw [spec_l7Word.l0, if_pos p1, if_pos p2, if_pos h1]) (Ev.now _), Ev.step (f := fun _ => some (⟨#[]⟩, false)) (fun k => by rw [impl_word.l0, if_pos p1, if_pos p2, if_pos h1]) (Ev.now _)⟩
    by_cases h2 : bt s (i : Int) > 126
    · rw [bad (by rw [hb] at h2; omega)]
      exact ⟨Ev.step (f := fun _ => some (⟨#[]⟩, false)) (fun k => by rw [spec_l7Word.l0, if_pos p1, if_pos p2, if_neg h1, if_pos h2]) (Ev.now _), Ev.step (f := fun _ => some (⟨#[]⟩, false)) (fun k => by rw [impl_word.l0, if_pos p1, if_pos p2, if_neg h1, if_pos h2]) (Ev.now _)⟩
    have hd2 : ∀ b ∈ s.data.toList.take (i + 1), 33 ≤ b.toNat ∧ b.toNat ≤ 126 := by
      rw [take_at _ i hlt]
      intro b hm
      rcases List.mem_append.1 hm with h | h
      · exact hd b h
      · rw [List.mem_singleton.1 h]; rw [hb] at h1 h2; omega
    obtain ⟨g1, g2⟩ := ih (i + 1) (by omega) hd2
    exact ⟨Ev.step (fun k => by rw [spec_l7Word.l0, if_pos p1, if_pos p2, if_neg h1, if_neg h2, ws]) g1, Ev.step (fun k => by rw [impl_word.l0, if_pos p1, if_pos p2, if_neg h1, if_neg h2, ws]) g2⟩
theorem word_empty (s : ByteArray) (h : s.toList = []) : s = ⟨#[]⟩ := toList_inj (by rw [h, ByteArray.toList_eq])
theorem word_eq (s : ByteArray) (hs : s.size ≤ 1048576) : Ev (fun k => spec_l7Word.f k s) (wordOf s) ∧ Ev (fun k => impl_word.f k s) (wordOf s) := by
  by_cases h : s.toList = []
  · obtain rfl := word_empty s h
    have e : wordOf (⟨#[]⟩ : ByteArray) = (⟨#[]⟩, false) := by
      unfold wordOf
      rw [if_pos (by intro b hb; cases hb), if_neg (by rw [h]; decide)]
      rfl
    rw [e]
    refine ⟨Ev.step (f := fun _ => some (⟨#[]⟩, false)) (fun k => ?_) (Ev.now _), Ev.pure (fun k => if_pos h)⟩
    show spec_l7Word.l0 (k + 1) _ 0 = _
    rw [spec_l7Word.l0, if_neg (by decide), if_neg (by rw [h]; decide)]
    rfl
  · obtain ⟨g1, g2⟩ := words s hs h s.size 0 (by omega) (by intro b hb; simp at hb)
    exact ⟨g1, Ev.congr (fun k => if_neg h) g2⟩
/-- A word that is one and not empty is the text itself. -/
theorem word_self (s : ByteArray) (h : (wordOf s).2 = true) (hn : (wordOf s).1.size ≠ 0) : (wordOf s).1 = s := by
  unfold wordOf at h hn ⊢
  split at hn
  · next h1 =>
    rw [if_pos h1] at h ⊢
    split at hn
    · exact absurd rfl hn
    · next h2 => rw [if_neg h2]
  · exact absurd rfl hn
theorem index_first (c : UInt8) : ∀ (l : List UInt8) (i : Nat) (h : i < l.length), l[i] = c → (∀ b ∈ l.take i, b ≠ c) → Lib.index l [c] = i := by
  intro l
  induction l with
  | nil => intro i h; exact absurd h (by simp)
  | cons b l ih =>
    intro i h hc hn
    cases i with
    | zero =>
      obtain rfl : b = c := hc
      exact index_one_hit b l
    | succ i =>
      have h1 := ih i (by simpa using h) (by simpa using hc) (fun x hx => hn x (by rw [List.take_succ_cons]; exact List.mem_cons_of_mem _ hx))
      rw [index_one_miss c b l (hn b (by rw [List.take_succ_cons]; exact List.mem_cons_self ..)), h1, if_neg (by simp)]
      rfl
theorem index_none (c : UInt8) : ∀ (l : List UInt8), (∀ b ∈ l, b ≠ c) → Lib.index l [c] = -1 := by
  intro l
  induction l with
  | nil => intro _; rfl
  | cons b l ih =>
    intro h
    rw [index_one_miss c b l (h b (List.mem_cons_self ..)), ih (fun x hx => h x (List.mem_cons_of_mem _ hx))]
    rfl
/-- An item's entry: cut at the first '='. -/
def entryOf (s : ByteArray) : S50 := ⟨⟨(Lib.cut s.data.toList [61]).1.toArray⟩, 0, if (Lib.cut s.data.toList [61]).2.2 = true then 1 else 0, ⟨(Lib.cut s.data.toList [61]).2.1.toArray⟩⟩
theorem item_loop (s : ByteArray) (hs : s.size ≤ 1048576) : ∀ d i : Nat, i + d = s.size → (∀ b ∈ s.data.toList.take i, b ≠ 61) →
    Ev (fun k => spec_l7Item.l0 k s (i : Int)) ((entryOf s).f0, (entryOf s).f1, (entryOf s).f2, (entryOf s).f3, true) := by
  intro d
  induction d with
  | zero =>
    intro i hi hd
    rw [List.take_of_length_le (by rw [dsize]; omega)] at hd
    obtain ⟨e1, e2, e3⟩ := Lib.cutB_miss s ⟨#[61]⟩ (index_none 61 _ hd)
    have e : ((entryOf s).f0, (entryOf s).f1, (entryOf s).f2, (entryOf s).f3, true) = (s, (0 : Int), (0 : Int), (⟨#[]⟩ : ByteArray), true) := by
      unfold entryOf
      have e1' : (⟨(Lib.cut s.data.toList [61]).1.toArray⟩ : ByteArray) = s := e1
      have e2' : (⟨(Lib.cut s.data.toList [61]).2.1.toArray⟩ : ByteArray) = ByteArray.empty := e2
      have e3' : (Lib.cut s.data.toList [61]).2.2 = false := e3
      simp only [e1', e2', e3']
      rfl
    rw [e]
    exact Ev.step (f := fun _ => some (s, (0 : Int), (0 : Int), (⟨#[]⟩ : ByteArray), true)) (fun k => by rw [spec_l7Item.l0, if_neg (by omega)]) (Ev.now _)
  | succ d ih =>
    intro i hi hd
    have hlt : i < s.data.toList.length := by rw [dsize]; omega
    have hb := bt_data s i hlt
    have p1 : (i : Int) < (s.size : Int) := by omega
    have p2 : (0 : Int) ≤ (i : Int) := by omega
    have ws : wrap64 ((i : Int) + 1) = ((i + 1 : Nat) : Int) := wrap_succ (by omega)
    by_cases h1 : bt s (i : Int) = 61
    · have hc : s.data.toList[i] = 61 := UInt8.toNat_inj.1 (by rw [hb] at h1; show _ = 61; omega)
      obtain ⟨e1, e2, e3⟩ := Lib.cutB_hit s ⟨#[61]⟩ i (index_first 61 _ i hlt hc hd)
      have e : ((entryOf s).f0, (entryOf s).f1, (entryOf s).f2, (entryOf s).f3, true) = (s.extract 0 i, (0 : Int), (1 : Int), s.extract (i + 1) s.size, true) := by
        unfold entryOf
        have e1' : (⟨(Lib.cut s.data.toList [61]).1.toArray⟩ : ByteArray) = s.extract 0 i := e1
        have e2' : (⟨(Lib.cut s.data.toList [61]).2.1.toArray⟩ : ByteArray) = s.extract (i + 1) s.size := e2
        have e3' : (Lib.cut s.data.toList [61]).2.2 = true := e3
        simp only [e1', e2', e3']
        rfl
      rw [e]
      refine Ev.step (f := fun _ => some (s.extract 0 i, (0 : Int), (1 : Int), s.extract (i + 1) s.size, true)) (fun k => ?_) (Ev.now _)
      rw [spec_l7Item.l0, if_pos p1, if_pos p2, if_pos h1, ws, if_pos (by omega), if_pos (by omega), if_pos (by omega), Int.toNat_natCast, Int.toNat_natCast]
    · have hd2 : ∀ b ∈ s.data.toList.take (i + 1), b ≠ 61 := by
        rw [take_at _ i hlt]
        intro b hm
        rcases List.mem_append.1 hm with h | h
        · exact hd b h
        · rw [List.mem_singleton.1 h]
          intro he
          apply h1
          rw [hb, he]
          rfl
      exact Ev.step (fun k => by rw [spec_l7Item.l0, if_pos p1, if_pos p2, if_neg h1, ws]) (ih (i + 1) (by omega) hd2)
/-- An item: falls where its text is no word or an empty one. -/
theorem item_eq (s : ByteArray) (hs : s.size ≤ 1048576) : Ev (fun k => spec_l7Item.f k s) (if (wordOf s).2 = true ∧ (wordOf s).1.size ≠ 0 then ((entryOf s).f0, (entryOf s).f1, (entryOf s).f2, (entryOf s).f3, true) else ((⟨#[]⟩ : ByteArray), 0, 0, (⟨#[]⟩ : ByteArray), false)) := by
  have bad : Ev (fun k => spec_l7Item.j0 k s true) ((⟨#[]⟩ : ByteArray), 0, 0, (⟨#[]⟩ : ByteArray), false) := Ev.step (f := fun _ => some ((⟨#[]⟩ : ByteArray), 0, 0, (⟨#[]⟩ : ByteArray), false)) (fun k => by rw [spec_l7Item.j0, if_pos rfl]) (Ev.now _)
  refine Ev.bind (word_eq s hs).1 ?_
  by_cases h1 : (wordOf s).2 = true
  · refine Ev.congr (fun k => if_pos h1) ?_
    by_cases h2 : (wordOf s).1.size = 0
    · rw [if_neg (fun h => h.2 h2), show (((wordOf s).1.size : Int) == 0) = true by rw [h2]; rfl]
      exact bad
    · rw [if_pos ⟨h1, h2⟩, show (((wordOf s).1.size : Int) == 0) = false from beq_eq_false_iff_ne.2 (by omega)]
      have hl := item_loop s hs s.size 0 (by omega) (by intro b hb; simp at hb)
      exact Ev.step (fun k => by rw [spec_l7Item.j0, if_neg (by decide)]; rfl) hl
  · rw [if_neg (fun h => h1 h.1)]
    exact Ev.congr (fun k => if_neg h1) bad
end Go.Proofs.YtkbhcejibcjglaaDoor.M
end

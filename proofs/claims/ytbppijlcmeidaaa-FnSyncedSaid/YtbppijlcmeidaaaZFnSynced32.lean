/- Texts of the claim FnSynced, part 32 of 34, joined: MSpoil, Pspecl1AnyFS, Pspecl1SomeName, PspecDrawFsAppend, MDrawAppend, MValidBig, MSpecStep. No condition beyond those that stand at each. -/
import Derived.Test.YtbppijlcmeidaaaZFnSynced30
import Derived.Test.YtbppijlcmeidaaaZFnSynced31
import Derived.Test.YtbppijlcmeidaaaZFnSynced24
import Derived.Test.YtbppijlcmeidaaaZFnSynced26
import Derived.Test.YtbppijlcmeidaaaZFnSynced29
section
/- The specification's l1SpoilFS answers, within bounds. Condition: the code's bytes are bytes, at most 2 to the 20 of them; few and small files come in. -/
namespace Go.Proofs.Ytbppijlcmeidaaa.M
open Go.RowKit Go.Proofs.Ytbppijlcmeidaaa.P Go.Proofs.YtbppijlcmeidaaaW.PrintWords Go.Proofs.YtbppijlcmeidaaaW.PrintLast Go.Proofs.YtbppijlcmeidaaaW.PrintMore
set_option linter.unusedVariables false
set_option linter.unusedSectionVars false
theorem dig_size (t : Int) (h0 : 0 ≤ t) (h1 : t < 10) : ((⟨#[48, 49, 50, 51, 52, 53, 54, 55, 56, 57]⟩ : ByteArray).extract t.toNat (t + 1).toNat).size = 1 := by
  rw [ByteArray.size_extract]
  show min (t + 1).toNat 10 - t.toNat = 1
  omega
theorem pad_ev (i : Int) (h0 : 0 ≤ i) (h1 : i ≤ 1000) : ∃ s, spec_l1Pad.f i = some s ∧ s.size ≤ 3 := by
  have d1 : 0 ≤ Int.tdiv i 100 ∧ Int.tdiv i 100 ≤ 1000 := by rw [Int.tdiv_eq_ediv_of_nonneg h0]; omega
  have d2 : 0 ≤ Int.tdiv i 10 ∧ Int.tdiv i 10 ≤ 1000 := by rw [Int.tdiv_eq_ediv_of_nonneg h0]; omega
  have m1 := tmod_in (n := 10) d1.1 (by omega)
  have m2 := tmod_in (n := 10) d2.1 (by omega)
  have m3 := tmod_in (n := 10) h0 (by omega)
  unfold spec_l1Pad.f
  rw [wrap_ok (x := Int.tdiv i 100) (by omega) (by omega), wrap_ok (x := Int.tdiv i 10) (by omega) (by omega)]
  generalize Int.tmod (Int.tdiv i 100) 10 = A at m1 ⊢
  generalize Int.tmod (Int.tdiv i 10) 10 = B at m2 ⊢
  generalize Int.tmod i 10 = C at m3 ⊢
  rw [wrap_ok (x := A + 1) (by omega) (by omega), wrap_ok (x := B + 1) (by omega) (by omega), wrap_ok (x := C + 1) (by omega) (by omega)]
  have s1 := dig_size A m1.1 m1.2
  have s2 := dig_size B m2.1 m2.2
  have s3 := dig_size C m3.1 m3.2
  rw [if_pos m1.1, if_pos (by omega), if_pos (by omega), if_pos m2.1, if_pos (by omega), if_pos (by omega), if_pos (by omega), if_pos m3.1, if_pos (by omega), if_pos (by omega), if_pos (by rw [ByteArray.size_append]; omega)]
  exact ⟨_, rfl, by rw [ByteArray.size_append, ByteArray.size_append]; omega⟩
abbrev Ans (g : Nat → Option (List S52 × Int × Int)) : Prop := ∃ F q f, Ev g (F, q, f) ∧ FSOk F q f 201 121 1048577
theorem Ans.step {g h : Nat → Option (List S52 × Int × Int)} (e : ∀ k, g (k + 1) = h k) (a : Ans h) : Ans g := by
  obtain ⟨F, q, f, hv, ok⟩ := a
  exact ⟨F, q, f, Ev.step e hv, ok⟩
theorem Ans.bind {α : Type} {g : Nat → Option α} {r : α} {h : Nat → α → Option (List S52 × Int × Int)} (e : Ev g r) (a : Ans (fun k => h k r)) : Ans (fun k => (g k).bind (h k)) := by
  obtain ⟨F, q, f, hv, ok⟩ := a
  exact ⟨F, q, f, Ev.bind e hv, ok⟩
theorem Ans.congr {g h : Nat → Option (List S52 × Int × Int)} (e : ∀ k, g k = h k) (a : Ans h) : Ans g := by
  obtain ⟨F, q, f, hv, ok⟩ := a
  exact ⟨F, q, f, Ev.congr e hv, ok⟩
theorem Ans.now {F : List S52} {q f : Int} (ok : FSOk F q f 201 121 1048577) : Ans (fun _ => some (F, q, f)) := ⟨F, q, f, Ev.now _, ok⟩
section
variable (a x : Int) (ha : 0 ≤ a ∧ a < 11) (hx : 0 ≤ x ∧ x < 2) (G0 : List S52) (q f : Int) (hq : -1 ≤ q ∧ q ≤ 1048577) (hf : -2 ≤ f ∧ f ≤ 5)
include ha hx hq hf
theorem spoil_last (F : List S52) (hl : F.length ≤ 201) (hs : Small 121 1048577 F) :
    Ans (fun k => if a = 10 then ((spec_l1Long.f (wrap64 (1048566 + (wrap64 (x * 11)))) (⟨#[98]⟩ : ByteArray)).bind fun t640 => (some ((([(⟨(⟨#[98, 105, 103]⟩ : ByteArray), t640, 0⟩ : S52)] : List (S52))), (1048576 : Int), f))) else (some (F, q, f))) := by
  by_cases c : a = 10
  · refine Ans.congr (fun k => if_pos c) ?_
    rw [wrap_ok (x := x * 11) (by omega) (by omega), wrap_ok (x := 1048566 + x * 11) (by omega) (by omega)]
    refine Ans.bind (Ev.pure (fun _ => long_ev (1048566 + x * 11) _ rfl (by omega) (by omega))) (Ans.now ⟨by simp, ?_, by omega, by omega, hf.1, hf.2⟩)
    intro y hy
    rw [List.mem_singleton] at hy
    subst hy
    exact ⟨by show 3 ≤ 121; omega, by show (rep _ (1048566 + x * 11).toNat).size ≤ 1048577; rw [rep_size rfl]; omega⟩
  · exact Ans.congr (fun k => if_neg c) (Ans.now ⟨hl, hs, hq.1, hq.2, hf.1, hf.2⟩)
theorem spoil_loop (M : Nat) (hM : M ≤ 201) (hMe : wrap64 (200 + (wrap64 (x * (wrap64 (9 - a))))) = (M : Int)) : ∀ d i : Nat, i + d = M → ∀ F : List S52, F.length = i → Small 121 1048577 F → Ans (fun k => spec_l1SpoilFS.l0 k a x F (i : Int) G0 q f) := by
  intro d
  induction d with
  | zero =>
    intro i hi F hl hs
    exact Ans.step (fun k => by rw [spec_l1SpoilFS.l0, hMe, if_neg (by omega)]) (spoil_last a x ha hx q f hq hf F (by omega) hs)
  | succ d ih =>
    intro i hi F hl hs
    obtain ⟨s, hp, hps⟩ := pad_ev (i : Int) (by omega) (by omega)
    refine Ans.step (fun k => by rw [spec_l1SpoilFS.l0, hMe, if_pos (by omega)]) (Ans.bind (Ev.pure (fun _ => hp)) (Ans.congr (fun k => if_pos (show 1 + s.size ≤ 9223372036854775807 by omega)) (Ans.congr (fun k => if_pos (show F.length < 3518437208883 by omega)) ?_)))
    show Ans (fun k => spec_l1SpoilFS.l0 k a x (F ++ [(⟨(⟨#[102]⟩ : ByteArray) ++ s, (⟨#[]⟩ : ByteArray), 0⟩ : S52)]) (wrap64 ((i : Int) + 1)) G0 q f)
    rw [wrap_succ (by omega)]
    refine ih (i + 1) (by omega) _ (by rw [List.length_append, hl]; rfl) ?_
    intro y hy
    rcases List.mem_append.1 hy with h | h
    · exact hs y h
    · rw [List.mem_singleton] at h
      subst h
      exact ⟨by show ((⟨#[102]⟩ : ByteArray) ++ s).size ≤ 121; rw [ByteArray.size_append]; show 1 + s.size ≤ 121; omega, Nat.zero_le _⟩
theorem spoil_j10 (b : Bool) (hb : b = true → a = 8 ∨ a = 9) (F : List S52) (hl : F.length ≤ 201) (hs : Small 121 1048577 F) : Ans (fun k => spec_l1SpoilFS.j10 k a x F b G0 q f) := by
  cases b with
  | true =>
    have h89 := hb rfl
    refine Ans.step (fun k => by rw [spec_l1SpoilFS.j10, if_pos rfl]) ?_
    have e1 : wrap64 (9 - a) = 9 - a := wrap_ok (by omega) (by omega)
    have e2 : ∃ M : Nat, M ≤ 201 ∧ wrap64 (200 + wrap64 (x * (9 - a))) = (M : Int) := by
      rcases h89 with h | h
      · subst h
        refine ⟨(200 + x).toNat, by omega, ?_⟩
        rw [show x * (9 - 8 : Int) = x by omega, wrap_ok (x := x) (by omega) (by omega), wrap_ok (by omega) (by omega)]
        omega
      · subst h
        refine ⟨200, by omega, ?_⟩
        rw [show x * (9 - 9 : Int) = 0 by omega, wrap_ok (x := 0) (by omega) (by omega), wrap_ok (by omega) (by omega)]
        rfl
    obtain ⟨M, hM, hMe⟩ := e2
    exact spoil_loop a x ha hx G0 q f hq hf M hM (by rw [e1]; exact hMe) M 0 (by omega) [] rfl (fun y hy => by cases hy)
  | false =>
    exact Ans.step (fun k => by rw [spec_l1SpoilFS.j10, if_neg (by simp)]) (spoil_last a x ha hx q f hq hf F hl hs)
theorem spoil_j9 (F : List S52) (hl : F.length ≤ 201) (hs : Small 121 1048577 F) : Ans (fun k => spec_l1SpoilFS.j9 k a x F G0 q f) := by
  by_cases c : a = 8
  · exact Ans.step (fun k => by rw [spec_l1SpoilFS.j9, if_pos c]) (spoil_j10 a x ha hx G0 q f hq hf true (fun _ => Or.inl c) F hl hs)
  · exact Ans.step (fun k => by rw [spec_l1SpoilFS.j9, if_neg c]) (spoil_j10 a x ha hx G0 q f hq hf (a == 9) (fun h => Or.inr (by simpa using h)) F hl hs)
theorem spoil_j8 (F : List S52) (hl : F.length ≤ 19) (hs : Small 121 1048577 F) : Ans (fun k => spec_l1SpoilFS.j8 k a x F G0 q f) := by
  by_cases c : a = 7
  · refine Ans.step (fun k => by rw [spec_l1SpoilFS.j8, if_pos c, wrap_ok (x := 119 + x) (by omega) (by omega)]) (Ans.bind (Ev.pure (fun _ => long_ev (119 + x) _ rfl (by omega) (by omega))) ?_)
    have hz : (rep (⟨#[122]⟩ : ByteArray) (119 + x).toNat).size = (119 + x).toNat := rep_size rfl _
    refine Ans.congr (fun k => if_pos (show 1 + (rep (⟨#[122]⟩ : ByteArray) (119 + x).toNat).size ≤ 9223372036854775807 by omega)) (Ans.congr (fun k => if_pos (show F.length < 3518437208883 by omega)) (spoil_j9 a x ha hx G0 q f hq hf _ (by rw [List.length_append]; simp; omega) ?_))
    intro y hy
    rcases List.mem_append.1 hy with h | h
    · exact hs y h
    · rw [List.mem_singleton] at h
      subst h
      exact ⟨by show ((⟨#[122]⟩ : ByteArray) ++ rep _ _).size ≤ 121; rw [ByteArray.size_append, hz]; show 1 + (119 + x).toNat ≤ 121; omega, Nat.zero_le _⟩
  · exact Ans.step (fun k => by rw [spec_l1SpoilFS.j8, if_neg c]) (spoil_j9 a x ha hx G0 q f hq hf F (by omega) hs)
theorem spoil_j7 (F : List S52) (hl : F.length ≤ 18) (hs : Small 121 1048577 F) : Ans (fun k => spec_l1SpoilFS.j7 k a x F G0 q f) := by
  by_cases c : a = 6
  · refine Ans.step (h := fun k => spec_l1SpoilFS.j8 k a x ([(⟨(⟨#[]⟩ : ByteArray), (⟨#[]⟩ : ByteArray), 0⟩ : S52)] ++ F) G0 q f) (fun k => by rw [spec_l1SpoilFS.j7, if_pos c, Option.bind_some, if_pos (by show 1 + F.length < 3518437208883; omega)]) (spoil_j8 a x ha hx G0 q f hq hf _ (by show F.length + 1 ≤ 19; omega) ?_)
    intro y hy
    rcases List.mem_append.1 hy with h | h
    · rw [List.mem_singleton] at h
      subst h
      exact ⟨Nat.zero_le _, Nat.zero_le _⟩
    · exact hs y h
  · exact Ans.step (fun k => by rw [spec_l1SpoilFS.j7, if_neg c]) (spoil_j8 a x ha hx G0 q f hq hf F (by omega) hs)
theorem small_set {F : List S52} (hs : Small 121 1048577 F) (h : 0 < F.length) (n : Int) : Small 121 1048577 (F.set (0 : Int).toNat (⟨(rd_T52 F 0).f0, (rd_T52 F 0).f1, n⟩ : S52)) := by
  intro y hy
  have hr : rd_T52 F 0 = F[0] := rd52 F 0 h
  rcases List.mem_or_eq_of_mem_set hy with h1 | h1
  · exact hs y h1
  · subst h1
    rw [hr]
    exact hs F[0] (List.getElem_mem h)
theorem spoil_j6 (b : Bool) (F : List S52) (hb : b = true → 0 < F.length) (hl : F.length ≤ 18) (hs : Small 121 1048577 F) : Ans (fun k => spec_l1SpoilFS.j6 k a x F b G0 q f) := by
  cases b with
  | true => exact Ans.step (fun k => by rw [spec_l1SpoilFS.j6, if_pos rfl, if_pos (by have := hb rfl; omega)]) (spoil_j7 a x ha hx G0 q f hq hf _ (by rw [List.length_set]; exact hl) (small_set a x ha hx q f hq hf hs (hb rfl) _))
  | false => exact Ans.step (fun k => by rw [spec_l1SpoilFS.j6, if_neg (by simp)]) (spoil_j7 a x ha hx G0 q f hq hf F hl hs)
theorem spoil_j5 (F : List S52) (hl : F.length ≤ 18) (hs : Small 121 1048577 F) : Ans (fun k => spec_l1SpoilFS.j5 k a x F G0 q f) := by
  by_cases c : a = 5
  · exact Ans.step (fun k => by rw [spec_l1SpoilFS.j5, if_pos c]) (spoil_j6 a x ha hx G0 q f hq hf (decide ((F.length : Int) > 0)) F (fun h => by have := of_decide_eq_true h; omega) hl hs)
  · exact Ans.step (fun k => by rw [spec_l1SpoilFS.j5, if_neg c]) (spoil_j6 a x ha hx G0 q f hq hf false F (fun h => by cases h) hl hs)
theorem spoil_j4 (b : Bool) (F : List S52) (hb : b = true → 0 < F.length) (hl : F.length ≤ 18) (hs : Small 121 1048577 F) : Ans (fun k => spec_l1SpoilFS.j4 k a x F b G0 q f) := by
  cases b with
  | true => exact Ans.step (fun k => by rw [spec_l1SpoilFS.j4, if_pos rfl, if_pos (by have := hb rfl; omega)]) (spoil_j5 a x ha hx G0 q f hq hf _ (by rw [List.length_set]; exact hl) (small_set a x ha hx q f hq hf hs (hb rfl) _))
  | false => exact Ans.step (fun k => by rw [spec_l1SpoilFS.j4, if_neg (by simp)]) (spoil_j5 a x ha hx G0 q f hq hf F hl hs)
theorem spoil_j3 (F : List S52) (hl : F.length ≤ 18) (hs : Small 121 1048577 F) : Ans (fun k => spec_l1SpoilFS.j3 k a x F G0 q f) := by
  by_cases c : a = 4
  · exact Ans.step (fun k => by rw [spec_l1SpoilFS.j3, if_pos c]) (spoil_j4 a x ha hx G0 q f hq hf (decide ((F.length : Int) > 0)) F (fun h => by have := of_decide_eq_true h; omega) hl hs)
  · exact Ans.step (fun k => by rw [spec_l1SpoilFS.j3, if_neg c]) (spoil_j4 a x ha hx G0 q f hq hf false F (fun h => by cases h) hl hs)
theorem spoil_j2 (F : List S52) (hl : F.length ≤ 17) (hs : Small 121 1048577 F) : Ans (fun k => spec_l1SpoilFS.j2 k a x F G0 q f) := by
  by_cases c : a = 3
  · refine Ans.step (fun k => by rw [spec_l1SpoilFS.j2, if_pos c, if_pos (by omega)]) (spoil_j3 a x ha hx G0 q f hq hf _ (by rw [List.length_append]; simp; omega) ?_)
    intro y hy
    rcases List.mem_append.1 hy with h | h
    · exact hs y h
    · rw [List.mem_singleton] at h
      subst h
      exact ⟨by show 1 ≤ 121; omega, Nat.zero_le _⟩
  · exact Ans.step (fun k => by rw [spec_l1SpoilFS.j2, if_neg c]) (spoil_j3 a x ha hx G0 q f hq hf F (by omega) hs)
end
theorem spoil_ev (l : List Int) (hl : ∀ x ∈ l, 0 ≤ x ∧ x ≤ 255) (hlen : l.length ≤ 1048576) (p : Int) (hp : 0 ≤ p ∧ p ≤ 1048000) (F : List S52) (q f : Int) (ok : FSOk F q f 7 7 19) : Ans (fun k => spec_l1SpoilFS.f k l p F q f) := by
  obtain ⟨a, ha, a0, _, a1⟩ := take_ev l hl hlen p 11 (by omega) (by omega)
  obtain ⟨x, hx, x0, _, x1⟩ := take_ev l hl hlen (p + 1) 2 (by omega) (by omega)
  have a1 := a1 (by omega)
  have x1 := x1 (by omega)
  have hF := ok.len
  have hw := without_eq F ⟨#[]⟩ (by omega)
  have hbl := but_length F ⟨#[]⟩
  have hsm : Small 121 1048577 (but F ⟨#[]⟩) := fun y hy => by have := ok.small y (List.mem_filter.1 hy).1; exact ⟨by omega, by omega⟩
  generalize but F ⟨#[]⟩ = G at hw hbl hsm
  have j1 : ∀ q : Int, -1 ≤ q → q ≤ 1048577 → Ans (fun k => spec_l1SpoilFS.j1 k a x G F q f) := by
    intro q h0 h1
    by_cases c : a = 2
    · exact Ans.step (fun k => by rw [spec_l1SpoilFS.j1, if_pos c]) (spoil_j2 a x ⟨a0, a1⟩ ⟨x0, x1⟩ F q (-2) ⟨h0, h1⟩ (by omega) G (by omega) hsm)
    · exact Ans.step (fun k => by rw [spec_l1SpoilFS.j1, if_neg c]) (spoil_j2 a x ⟨a0, a1⟩ ⟨x0, x1⟩ F q f ⟨h0, h1⟩ ⟨ok.f0, ok.f1⟩ G (by omega) hsm)
  have j0 : ∀ q : Int, -1 ≤ q → q ≤ 1048577 → Ans (fun k => spec_l1SpoilFS.j0 k a x G F q f) := by
    intro q h0 h1
    by_cases c : a = 1
    · exact Ans.step (fun k => by rw [spec_l1SpoilFS.j0, if_pos c, wrap_ok (x := 1048576 + x) (by omega) (by omega)]) (j1 (1048576 + x) (by omega) (by omega))
    · exact Ans.step (fun k => by rw [spec_l1SpoilFS.j0, if_neg c]) (j1 q h0 h1)
  refine Ans.bind ha (Ans.bind hx (Ans.bind hw ?_))
  by_cases c : a = 0
  · exact Ans.congr (fun k => if_pos c) (j0 (-1) (by omega) (by omega))
  · exact Ans.congr (fun k => if_neg c) (j0 q ok.q0 ok.q1)
end Go.Proofs.Ytbppijlcmeidaaa.M
end
section
-- Written by a changed copy of the print program, one module a function. Not trusted: Lean checks it.
namespace Go.Proofs.Ytbppijlcmeidaaa.P
open Go.RowKit Go.Proofs.YtbppijlcmeidaaaW.PrintWords Go.Proofs.YtbppijlcmeidaaaW.PrintLast Go.Proofs.YtbppijlcmeidaaaW.PrintMore
attribute [local go_sem] max2_int min2_int max_two min_two max_three min_three max_four min_four   -- for this text's walks alone
set_option linter.unusedVariables false
set_option linter.unusedSimpArgs false

/-! ### spec_l1AnyFS: function 63 -/
def spec_l1AnyFS.f (k : Nat) (l0 : List Int) (a1 : Int) : Option ((List (S52)) × Int × Int × Int) := (spec_l1Take.f k l0 a1 10).bind fun bt645 => ((spec_l1DrawFS.f k l0 bt645.2).bind fun bt647 => (if bt645.1 ≥ 8 then ((spec_l1SpoilFS.f k l0 bt647.2.2.2 bt647.1 bt647.2.1 bt647.2.2.1).bind fun bt654 => (some (bt654.1, bt654.2.1, bt654.2.2, wrap64 (bt647.2.2.2 + 2)))) else (some (bt647.1, bt647.2.1, bt647.2.2.1, bt647.2.2.2))))
theorem spec_l1AnyFS.mono : ∀ a0 a1 k, LeO (spec_l1AnyFS.f k a0 a1) (spec_l1AnyFS.f (k + 1) a0 a1) := by
 intro a0 a1 k
 unfold spec_l1AnyFS.f
 repeat' first
   | (with_reducible exact spec_l1DrawFS.mono _ _ _)
   | (with_reducible exact spec_l1SpoilFS.mono _ _ _ _ _ _)
   | (with_reducible exact spec_l1Take.mono _ _ _ _)
   | (with_reducible exact LeO.refl _)
   | (with_reducible exact LeO.none _)
   | (with_reducible refine LeO.ite ?_ ?_)
   | (with_reducible refine LeO.bind ?_ (fun _ => ?_))
   | exact spec_l1DrawFS.mono _ _ _
   | exact spec_l1SpoilFS.mono _ _ _ _ _ _
   | exact spec_l1Take.mono _ _ _ _
   | exact LeO.none _
   | refine LeO.ite ?_ ?_
   | refine LeO.bind ?_ (fun _ => ?_)
set_option maxHeartbeats 8000000 in
set_option maxRecDepth 100000 in
theorem spec_l1AnyFS.calls (k : Nat) (A0 : Option Addr) (c0 : Nat) (l0 : List Int) (a1 : Int) (r1 : List (S52)) (r2 : Int) (r3 : Int) (r4 : Int) (w : World) (hr0 : Kd.C (Kd.int .u8) w A0 l0.length l0) (hc0 : l0.length ≤ c0) (h : spec_l1AnyFS.f k l0 a1 = some (r1, r2, r3, r4)) :
  Calls Try.prog 63 #[.slice A0 l0.length c0, .int .i64 a1] w fun e w' => ∃ v0_ : Value, e = .returned (.tuple #[.agg #[v0_, .int .i64 r2, .int .i64 r3], .int .i64 r4]) ∧ Kd.R k52 52 w' w.heap.size (fun _ => True) v0_ r1 ∧ Below w.heap.size w w' := by
 have hu29 := Try.underlying29
 have HR0 := Aside0.mk hr0
 have HC0 := Aside0.mk hc0
 clear hr0 hc0
 have HB := Aside0.mk (Below.refl w.heap.size w)
 have H : ((spec_l1Take.f k l0 a1 10).bind fun bt645 => ((spec_l1DrawFS.f k l0 bt645.2).bind fun bt647 => (if bt645.1 ≥ 8 then ((spec_l1SpoilFS.f k l0 bt647.2.2.2 bt647.1 bt647.2.1 bt647.2.2.1).bind fun bt654 => (some (bt654.1, bt654.2.1, bt654.2.2, wrap64 (bt647.2.2.2 + 2)))) else (some (bt647.1, bt647.2.1, bt647.2.2.1, bt647.2.2.2))))) = some (r1, r2, r3, r4) := h
 clear h
 replace H := Option.bind_eq_some_iff.mp H
 obtain ⟨⟨t645, t646⟩, A30, H⟩ := H
 replace H : ((spec_l1DrawFS.f k l0 t646).bind fun bt647 => (if t645 ≥ 8 then ((spec_l1SpoilFS.f k l0 bt647.2.2.2 bt647.1 bt647.2.1 bt647.2.2.1).bind fun bt654 => (some (bt654.1, bt654.2.1, bt654.2.2, wrap64 (bt647.2.2.2 + 2)))) else (some (bt647.1, bt647.2.1, bt647.2.2.1, bt647.2.2.2)))) = some (r1, r2, r3, r4) := H
 have A3 := Aside0.mk A30
 clear A30
 replace H := Option.bind_eq_some_iff.mp H
 obtain ⟨⟨t647, t650, t651, t652⟩, A40, H⟩ := H
 replace H : (if t645 ≥ 8 then ((spec_l1SpoilFS.f k l0 t652 t647 t650 t651).bind fun bt654 => (some (bt654.1, bt654.2.1, bt654.2.2, wrap64 (t652 + 2)))) else (some (t647, t650, t651, t652))) = some (r1, r2, r3, r4) := H
 have A4 := Aside0.mk A40
 clear A40
 by_cases c5 : t645 ≥ 8
 ·rw [if_pos c5] at H
  have c5b0 : decide (8 ≤ t645) = true := decide_eq_true c5
  clear c5
  replace H := Option.bind_eq_some_iff.mp H
  obtain ⟨⟨t654, t657, t658⟩, A60, H⟩ := H
  replace H : (some (t654, t657, t658, wrap64 (t652 + 2))) = some (r1, r2, r3, r4) := H
  have A6 := Aside0.mk A60
  clear A60
  simp only [Option.some.injEq, Prod.mk.injEq] at H
  obtain ⟨rfl, rfl, rfl, rfl⟩ := H
  go_enter Try.func63, Try.ntmps63
  go_wp2_with (first | ((with_reducible refine gate_dst (N := 4) rfl ?_); refine box_event ?hg (N := 4) ?hd (cs := #[.slice none 0 0, .int .i64 0, .int .i64 0]) (t := 29) ?hr ?_; (case hd => rfl); (case hg => rfl); (case hr => first | (go_simp; done) | (go_simp; rfl)); intro gb644 hg w7 hbox hb; have n0_ := Aside0.mk (below_step (by repeat (first | (with_reducible first | exact HB.out | apply below_alloc | apply pw_below_drewN | apply below_drew1) | exact HB.out)) hb); have n1_ := Aside0.mk (hbox); have n2_ := Aside0.mk ((by rw [hg]; exact (below_size (by repeat (first | (with_reducible first | exact HB.out | apply below_alloc | apply pw_below_drewN | apply below_drew1) | exact HB.out))) : w.heap.size ≤ gb644)); have n3_ := Aside0.mk ((by rw [hg]; exact (below_size (by repeat (first | (with_reducible first | exact HB.out | apply below_alloc | apply pw_below_drewN | apply below_drew1) | exact HB.out))) : w.heap.size ≤ gb644)); clear HB; have HB := n0_; have BK644 := n1_; have GW644 := n2_; have GE644 := n3_; clear n0_ n1_ n2_ n3_; clear hb hbox hg) | ((with_reducible refine gate_callee (f := 65) rfl ?_); refine goesL_ (some 12) rfl rfl Try.func65 (by kernel_rfl) rfl #[.slice A0 l0.length c0, .int .i64 a1, .int .i64 10] rfl (by (try simp only [List.map_toArray, List.map_cons, List.map_nil]); first | done | rfl | (simp only [List.length_drop, List.length_take]; rfl)) ?_; (with_reducible refine (spec_l1Take.calls k _ _ l0 a1 10 t645 t646 _ ?side1 ?side2 A3.out).mono ?_); (case side1 => repeat (first | exact (Kd.C_below HR0.out HB.out) | (with_reducible refine Kd.C_alloc ?_ _) | (with_reducible refine Kd.C_drewN ?_ _) | (with_reducible refine Kd.C_drew ?_))); (case side2 => exact HC0.out); rintro e w' ⟨rfl, ⟨nd, rfl⟩⟩; refine ⟨_, rfl, ?_⟩; (try (rw [drewN_self w7]; generalize hq_ : World.drewN w7 _ = w7; have n0_ : Aside0 (w7.heap[gb644]? = some (.cells #[.slice none 0 0, .int .i64 0, .int .i64 0] 29 (0, 0))) := ⟨by rw [← hq_]; exact (by (with_reducible repeat (first | refine blk_drewN ?_ _ | refine blk_drew ?_ | refine blk_alloc ?_ _)); exact BK644.out)⟩; have n1_ : Aside0 (Below w.heap.size w w7) := ⟨by rw [← hq_]; exact (by repeat (first | (with_reducible first | exact HB.out | apply below_alloc | apply pw_below_drewN | apply below_drew1 | refine below_set ?_ GE644.out) | exact HB.out))⟩; clear BK644 HB hq_; have BK644 := n0_; have HB := n1_; clear n0_ n1_))) | ((with_reducible refine gate_callee (f := 80) rfl ?_); refine goesL_ (some 18) rfl rfl Try.func80 (by kernel_rfl) rfl #[.slice A0 l0.length c0, .int .i64 t646] rfl (by (try simp only [List.map_toArray, List.map_cons, List.map_nil]); first | done | rfl | (simp only [List.length_drop, List.length_take]; rfl)) ?_; (with_reducible refine (spec_l1DrawFS.calls k _ _ l0 t646 t647 t650 t651 t652 _ ?side1 ?side2 A4.out).mono ?_); (case side1 => repeat (first | exact (Kd.C_below HR0.out HB.out) | (with_reducible refine Kd.C_alloc ?_ _) | (with_reducible refine Kd.C_drewN ?_ _) | (with_reducible refine Kd.C_drew ?_))); (case side2 => exact HC0.out); rintro e w8 ⟨v648, rfl, ho0, hb⟩; refine ⟨_, rfl, ?_⟩; have n0_ := Aside0.mk (Kd.R_lower ho0 (below_size (by repeat (first | (with_reducible first | exact HB.out | apply below_alloc | apply pw_below_drewN | apply below_drew1 | refine below_set ?_ GE644.out) | exact HB.out)))); have n1_ := Aside0.mk (blk_below (g := gb644) (o := .cells #[.slice none 0 0, .int .i64 0, .int .i64 0] 29 (0, 0)) (by (with_reducible repeat (first | refine blk_drewN ?_ _ | refine blk_drew ?_ | refine blk_alloc ?_ _)); exact BK644.out) hb); have n2_ := Aside0.mk (below_step (by repeat (first | (with_reducible first | exact HB.out | apply below_alloc | apply pw_below_drewN | apply below_drew1 | refine below_set ?_ GE644.out) | exact HB.out)) hb); clear BK644; clear HB; have HO649 := n0_; have BK644 := n1_; have HB := n2_; clear n0_ n1_ n2_; (try clear hb); (try clear hb2); (try clear hk); (try clear hi); (try clear ho0)) | ((with_reducible refine gate_dst (N := 7) rfl ?_); refine box_event ?hg (N := 7) ?hd (cs := #[.slice none 0 0, .int .i64 0, .int .i64 0]) (t := 29) ?hr ?_; (case hd => rfl); (case hg => rfl); (case hr => first | (go_simp; done) | (go_simp; rfl)); intro gb653 hg w9 hbox hb; have n0_ := Aside0.mk (Kd.R_below (by (with_reducible repeat (first | apply Kd.R_alloc | apply Kd.R_drewN | apply Kd.R_drew)); exact HO649.out) hb); have n1_ := Aside0.mk (blk_below (g := gb644) (o := .cells #[.slice none 0 0, .int .i64 0, .int .i64 0] 29 (0, 0)) (by (with_reducible repeat (first | refine blk_drewN ?_ _ | refine blk_drew ?_ | refine blk_alloc ?_ _)); exact BK644.out) hb); have n2_ := Aside0.mk (below_step (by repeat (first | (with_reducible first | exact HB.out | apply below_alloc | apply pw_below_drewN | apply below_drew1 | refine below_set ?_ GE644.out) | exact HB.out)) hb); have n3_ := Aside0.mk (hbox); have n4_ := Aside0.mk ((by rw [hg]; exact (below_size (by repeat (first | (with_reducible first | exact HB.out | apply below_alloc | apply pw_below_drewN | apply below_drew1 | refine below_set ?_ GE644.out) | exact HB.out))) : w.heap.size ≤ gb653)); have n5_ := Aside0.mk ((by rw [hg]; exact (below_size (by repeat (first | (with_reducible first | exact HB.out | apply below_alloc | apply pw_below_drewN | apply below_drew1 | refine below_set ?_ GE644.out) | exact HB.out))) : w.heap.size ≤ gb653)); have n6_ := Aside0.mk ((by rw [hg]; exact Nat.ne_of_lt (blk_lt (g := gb644) (o := .cells #[.slice none 0 0, .int .i64 0, .int .i64 0] 29 (0, 0)) (by (with_reducible repeat (first | refine blk_drewN ?_ _ | refine blk_drew ?_ | refine blk_alloc ?_ _)); exact BK644.out)) : gb644 ≠ gb653)); have n7_ := Aside0.mk ((by rw [hg]; exact Nat.ne_of_gt (blk_lt (g := gb644) (o := .cells #[.slice none 0 0, .int .i64 0, .int .i64 0] 29 (0, 0)) (by (with_reducible repeat (first | refine blk_drewN ?_ _ | refine blk_drew ?_ | refine blk_alloc ?_ _)); exact BK644.out)) : gb653 ≠ gb644)); clear HO649; clear BK644; clear HB; have HO649 := n0_; have BK644 := n1_; have HB := n2_; have BK653 := n3_; have GW653 := n4_; have GE653 := n5_; have NB644_653 := n6_; have NB653_644 := n7_; clear n0_ n1_ n2_ n3_ n4_ n5_ n6_ n7_; clear hb hbox hg; obtain ⟨Ao10, co10, eo10⟩ := Kd.R_slice HO649.out; subst eo10; have hnb11 := NB653_644.out; have hnc11 := NB644_653.out; have hcz12_0 : w9.cell? ⟨gb653, 0, none⟩ = some (.slice none 0 0) := (blk_cell BK653.out 0).trans rfl; have hcz12_1 : w9.cell? ⟨gb653, 1, none⟩ = some (.int .i64 0) := (blk_cell BK653.out 1).trans rfl; have hcz12_2 : w9.cell? ⟨gb653, 2, none⟩ = some (.int .i64 0) := (blk_cell BK653.out 2).trans rfl; have hfz12_0 := blk_frozen BK653.out 0; have hfz12_1 := blk_frozen BK653.out 1; have hfz12_2 := blk_frozen BK653.out 2) | ((with_reducible refine gate_callee (f := 81) rfl ?_); refine goesL_ (some 26) rfl rfl Try.func81 (by kernel_rfl) rfl #[.slice A0 l0.length c0, .int .i64 t652, .agg #[.slice Ao10 t647.length co10, .int .i64 t650, .int .i64 t651]] rfl (by (try simp only [List.map_toArray, List.map_cons, List.map_nil]); first | done | rfl | (simp only [List.length_drop, List.length_take]; rfl)) ?_; (with_reducible refine (spec_l1SpoilFS.calls k _ _ l0 t652 _ _ t647 t650 t651 t654 t657 t658 _ ?side1 ?side2 ?side3 ?side4 A6.out).mono ?_); (case side1 => exact Kd.C_below HR0.out (by repeat (first | (with_reducible first | exact HB.out | apply below_alloc | apply pw_below_drewN | apply below_drew1 | refine below_set ?_ GE644.out | refine below_set ?_ GE653.out) | exact HB.out))); (case side2 => exact HC0.out); (case side3 => refine (Kd.R_reads' (e := 52) (base := w.heap.size) (ok := fun k_ => True) (n := t647.length) (c := co10) ?_).2.2; exact (by (with_reducible repeat (first | apply Kd.R_alloc | apply Kd.R_drewN | apply Kd.R_drew)); exact (Kd.R_mono (Kd.R_far (p := ⟨gb653, 2, none⟩) (Kd.R_far (p := ⟨gb653, 1, none⟩) (Kd.R_far (p := ⟨gb653, 0, none⟩) (Kd.R_types HO649.out BK653.out (by decide)) (fun _ hk => hk.2) (.slice Ao10 t647.length co10)) (fun _ hk => hk.2) (.int .i64 t650)) (fun _ hk => hk.2) (.int .i64 t651)) (fun _ h_ => h_.1)))); (case side4 => exact (Kd.R_reads' HO649.out).2.1); rintro e w13 ⟨v655, rfl, ho0, hb⟩; refine ⟨_, rfl, ?_⟩; have n0_ := Aside0.mk (Kd.R_elder' (by (with_reducible repeat (first | apply Kd.R_alloc | apply Kd.R_drewN | apply Kd.R_drew)); exact (Kd.R_mono (Kd.R_far (p := ⟨gb653, 2, none⟩) (Kd.R_far (p := ⟨gb653, 1, none⟩) (Kd.R_far (p := ⟨gb653, 0, none⟩) (Kd.R_types HO649.out BK653.out (by decide)) (fun _ hk => hk.2) (.slice Ao10 t647.length co10)) (fun _ hk => hk.2) (.int .i64 t650)) (fun _ hk => hk.2) (.int .i64 t651)) (fun _ h_ => h_.1))) (Kd.R_base ho0) hb); have n1_ := Aside0.mk (Kd.R_lower (Kd.R_new' ho0 (Kd.R_lt (by (with_reducible repeat (first | apply Kd.R_alloc | apply Kd.R_drewN | apply Kd.R_drew)); exact (Kd.R_mono (Kd.R_far (p := ⟨gb653, 2, none⟩) (Kd.R_far (p := ⟨gb653, 1, none⟩) (Kd.R_far (p := ⟨gb653, 0, none⟩) (Kd.R_types HO649.out BK653.out (by decide)) (fun _ hk => hk.2) (.slice Ao10 t647.length co10)) (fun _ hk => hk.2) (.int .i64 t650)) (fun _ hk => hk.2) (.int .i64 t651)) (fun _ h_ => h_.1))))) (below_size (by repeat (first | (with_reducible first | exact HB.out | apply below_alloc | apply pw_below_drewN | apply below_drew1 | refine below_set ?_ GE644.out | refine below_set ?_ GE653.out) | exact HB.out)))); have n2_ := Aside0.mk (blk_below (g := gb644) (o := .cells #[.slice none 0 0, .int .i64 0, .int .i64 0] 29 (0, 0)) (by (with_reducible repeat (first | refine blk_drewN ?_ _ | refine blk_drew ?_ | refine blk_alloc ?_ _)); refine blk_far ?_ NB644_653.out _; (with_reducible repeat (first | refine blk_drewN ?_ _ | refine blk_drew ?_ | refine blk_alloc ?_ _)); refine blk_far ?_ NB644_653.out _; (with_reducible repeat (first | refine blk_drewN ?_ _ | refine blk_drew ?_ | refine blk_alloc ?_ _)); refine blk_far ?_ NB644_653.out _; (with_reducible repeat (first | refine blk_drewN ?_ _ | refine blk_drew ?_ | refine blk_alloc ?_ _)); exact BK644.out) hb); have n3_ := Aside0.mk (blk_below (g := gb653) (o := .cells #[.slice Ao10 t647.length co10, .int .i64 t650, .int .i64 t651] 29 (0, 0)) (by (with_reducible repeat (first | refine blk_drewN ?_ _ | refine blk_drew ?_ | refine blk_alloc ?_ _)); refine blk_put (cs := #[.slice Ao10 t647.length co10, .int .i64 t650, .int .i64 0]) ?_ 2 _ rfl; (with_reducible repeat (first | refine blk_drewN ?_ _ | refine blk_drew ?_ | refine blk_alloc ?_ _)); refine blk_put (cs := #[.slice Ao10 t647.length co10, .int .i64 0, .int .i64 0]) ?_ 1 _ rfl; (with_reducible repeat (first | refine blk_drewN ?_ _ | refine blk_drew ?_ | refine blk_alloc ?_ _)); refine blk_put (cs := #[.slice none 0 0, .int .i64 0, .int .i64 0]) ?_ 0 _ rfl; (with_reducible repeat (first | refine blk_drewN ?_ _ | refine blk_drew ?_ | refine blk_alloc ?_ _)); exact BK653.out) hb); have n4_ := Aside0.mk (below_step (by repeat (first | (with_reducible first | exact HB.out | apply below_alloc | apply pw_below_drewN | apply below_drew1 | refine below_set ?_ GE644.out | refine below_set ?_ GE653.out) | exact HB.out)) hb); clear HO649; clear BK644; clear BK653; clear HB; have HO649 := n0_; have HO656 := n1_; have BK644 := n2_; have BK653 := n3_; have HB := n4_; clear n0_ n1_ n2_ n3_ n4_; (try clear hb); (try clear hb2); (try clear hk); (try clear hi); (try clear ho0); obtain ⟨Ao14, co14, eo14⟩ := Kd.R_slice HO656.out; subst eo14; have hcz15_0 : w13.cell? ⟨gb644, 0, none⟩ = some (.slice none 0 0) := (blk_cell BK644.out 0).trans rfl; have hcz15_1 : w13.cell? ⟨gb644, 1, none⟩ = some (.int .i64 0) := (blk_cell BK644.out 1).trans rfl; have hcz15_2 : w13.cell? ⟨gb644, 2, none⟩ = some (.int .i64 0) := (blk_cell BK644.out 2).trans rfl; have hfz15_0 := blk_frozen BK644.out 0; have hfz15_1 := blk_frozen BK644.out 1; have hfz15_2 := blk_frozen BK644.out 2))
  refine bodyPost_ret (results_ct rfl _ _ gb644 29 #[.slice Ao14 t654.length co14, .int .i64 t657, .int .i64 t658] (0, 0) _ rfl (by (with_reducible repeat (first | refine blk_drewN ?_ _ | refine blk_drew ?_ | refine blk_alloc ?_ _)); refine blk_put (cs := #[.slice Ao14 t654.length co14, .int .i64 t657, .int .i64 0]) ?_ 2 _ rfl; (with_reducible repeat (first | refine blk_drewN ?_ _ | refine blk_drew ?_ | refine blk_alloc ?_ _)); refine blk_put (cs := #[.slice Ao14 t654.length co14, .int .i64 0, .int .i64 0]) ?_ 1 _ rfl; (with_reducible repeat (first | refine blk_drewN ?_ _ | refine blk_drew ?_ | refine blk_alloc ?_ _)); refine blk_put (cs := #[.slice none 0 0, .int .i64 0, .int .i64 0]) ?_ 0 _ rfl; (with_reducible repeat (first | refine blk_drewN ?_ _ | refine blk_drew ?_ | refine blk_alloc ?_ _)); exact BK644.out) Try.underlying29 rfl (by kernel_rfl)) rfl ?_
  exact ⟨_, by first | rfl | (simp [errW_none, errW_some] <;> rfl) | (simp [*, errW_none, errW_some] <;> rfl), by (with_reducible repeat (first | apply Kd.R_alloc | apply Kd.R_drewN | apply Kd.R_drew)); exact Kd.R_mono (Kd.R_far (p := ⟨gb644, 2, none⟩) (Kd.R_far (p := ⟨gb644, 1, none⟩) (Kd.R_far (p := ⟨gb644, 0, none⟩) (Kd.R_types HO656.out BK644.out (by decide)) (fun _ hk => hk.2) (.slice Ao14 t654.length co14)) (fun _ hk => hk.2) (.int .i64 t657)) (fun _ hk => hk.2) (.int .i64 t658)) (fun _ hk => trivial), by repeat (first | (with_reducible first | exact HB.out | apply below_alloc | apply pw_below_drewN | apply below_drew1 | refine below_set ?_ GE644.out | refine below_set ?_ GE653.out) | exact HB.out)⟩
 ·rw [if_neg c5] at H
  have c5b0 : decide (8 ≤ t645) = false := decide_eq_false c5
  clear c5
  simp only [Option.some.injEq, Prod.mk.injEq] at H
  obtain ⟨rfl, rfl, rfl, rfl⟩ := H
  go_enter Try.func63, Try.ntmps63
  go_wp2_with (first | ((with_reducible refine gate_dst (N := 4) rfl ?_); refine box_event ?hg (N := 4) ?hd (cs := #[.slice none 0 0, .int .i64 0, .int .i64 0]) (t := 29) ?hr ?_; (case hd => rfl); (case hg => rfl); (case hr => first | (go_simp; done) | (go_simp; rfl)); intro gb644 hg w16 hbox hb; have n0_ := Aside0.mk (below_step (by repeat (first | (with_reducible first | exact HB.out | apply below_alloc | apply pw_below_drewN | apply below_drew1) | exact HB.out)) hb); have n1_ := Aside0.mk (hbox); have n2_ := Aside0.mk ((by rw [hg]; exact (below_size (by repeat (first | (with_reducible first | exact HB.out | apply below_alloc | apply pw_below_drewN | apply below_drew1) | exact HB.out))) : w.heap.size ≤ gb644)); have n3_ := Aside0.mk ((by rw [hg]; exact (below_size (by repeat (first | (with_reducible first | exact HB.out | apply below_alloc | apply pw_below_drewN | apply below_drew1) | exact HB.out))) : w.heap.size ≤ gb644)); clear HB; have HB := n0_; have BK644 := n1_; have GW644 := n2_; have GE644 := n3_; clear n0_ n1_ n2_ n3_; clear hb hbox hg) | ((with_reducible refine gate_callee (f := 65) rfl ?_); refine goesL_ (some 12) rfl rfl Try.func65 (by kernel_rfl) rfl #[.slice A0 l0.length c0, .int .i64 a1, .int .i64 10] rfl (by (try simp only [List.map_toArray, List.map_cons, List.map_nil]); first | done | rfl | (simp only [List.length_drop, List.length_take]; rfl)) ?_; (with_reducible refine (spec_l1Take.calls k _ _ l0 a1 10 t645 t646 _ ?side1 ?side2 A3.out).mono ?_); (case side1 => repeat (first | exact (Kd.C_below HR0.out HB.out) | (with_reducible refine Kd.C_alloc ?_ _) | (with_reducible refine Kd.C_drewN ?_ _) | (with_reducible refine Kd.C_drew ?_))); (case side2 => exact HC0.out); rintro e w' ⟨rfl, ⟨nd, rfl⟩⟩; refine ⟨_, rfl, ?_⟩; (try (rw [drewN_self w16]; generalize hq_ : World.drewN w16 _ = w16; have n0_ : Aside0 (w16.heap[gb644]? = some (.cells #[.slice none 0 0, .int .i64 0, .int .i64 0] 29 (0, 0))) := ⟨by rw [← hq_]; exact (by (with_reducible repeat (first | refine blk_drewN ?_ _ | refine blk_drew ?_ | refine blk_alloc ?_ _)); exact BK644.out)⟩; have n1_ : Aside0 (Below w.heap.size w w16) := ⟨by rw [← hq_]; exact (by repeat (first | (with_reducible first | exact HB.out | apply below_alloc | apply pw_below_drewN | apply below_drew1 | refine below_set ?_ GE644.out) | exact HB.out))⟩; clear BK644 HB hq_; have BK644 := n0_; have HB := n1_; clear n0_ n1_))) | ((with_reducible refine gate_callee (f := 80) rfl ?_); refine goesL_ (some 18) rfl rfl Try.func80 (by kernel_rfl) rfl #[.slice A0 l0.length c0, .int .i64 t646] rfl (by (try simp only [List.map_toArray, List.map_cons, List.map_nil]); first | done | rfl | (simp only [List.length_drop, List.length_take]; rfl)) ?_; (with_reducible refine (spec_l1DrawFS.calls k _ _ l0 t646 t647 t650 t651 t652 _ ?side1 ?side2 A4.out).mono ?_); (case side1 => repeat (first | exact (Kd.C_below HR0.out HB.out) | (with_reducible refine Kd.C_alloc ?_ _) | (with_reducible refine Kd.C_drewN ?_ _) | (with_reducible refine Kd.C_drew ?_))); (case side2 => exact HC0.out); rintro e w17 ⟨v648, rfl, ho0, hb⟩; refine ⟨_, rfl, ?_⟩; have n0_ := Aside0.mk (Kd.R_lower ho0 (below_size (by repeat (first | (with_reducible first | exact HB.out | apply below_alloc | apply pw_below_drewN | apply below_drew1 | refine below_set ?_ GE644.out) | exact HB.out)))); have n1_ := Aside0.mk (blk_below (g := gb644) (o := .cells #[.slice none 0 0, .int .i64 0, .int .i64 0] 29 (0, 0)) (by (with_reducible repeat (first | refine blk_drewN ?_ _ | refine blk_drew ?_ | refine blk_alloc ?_ _)); exact BK644.out) hb); have n2_ := Aside0.mk (below_step (by repeat (first | (with_reducible first | exact HB.out | apply below_alloc | apply pw_below_drewN | apply below_drew1 | refine below_set ?_ GE644.out) | exact HB.out)) hb); clear BK644; clear HB; have HO649 := n0_; have BK644 := n1_; have HB := n2_; clear n0_ n1_ n2_; (try clear hb); (try clear hb2); (try clear hk); (try clear hi); (try clear ho0)) | ((with_reducible refine gate_dst (N := 7) rfl ?_); refine box_event ?hg (N := 7) ?hd (cs := #[.slice none 0 0, .int .i64 0, .int .i64 0]) (t := 29) ?hr ?_; (case hd => rfl); (case hg => rfl); (case hr => first | (go_simp; done) | (go_simp; rfl)); intro gb653 hg w18 hbox hb; have n0_ := Aside0.mk (Kd.R_below (by (with_reducible repeat (first | apply Kd.R_alloc | apply Kd.R_drewN | apply Kd.R_drew)); exact HO649.out) hb); have n1_ := Aside0.mk (blk_below (g := gb644) (o := .cells #[.slice none 0 0, .int .i64 0, .int .i64 0] 29 (0, 0)) (by (with_reducible repeat (first | refine blk_drewN ?_ _ | refine blk_drew ?_ | refine blk_alloc ?_ _)); exact BK644.out) hb); have n2_ := Aside0.mk (below_step (by repeat (first | (with_reducible first | exact HB.out | apply below_alloc | apply pw_below_drewN | apply below_drew1 | refine below_set ?_ GE644.out) | exact HB.out)) hb); have n3_ := Aside0.mk (hbox); have n4_ := Aside0.mk ((by rw [hg]; exact (below_size (by repeat (first | (with_reducible first | exact HB.out | apply below_alloc | apply pw_below_drewN | apply below_drew1 | refine below_set ?_ GE644.out) | exact HB.out))) : w.heap.size ≤ gb653)); have n5_ := Aside0.mk ((by rw [hg]; exact (below_size (by repeat (first | (with_reducible first | exact HB.out | apply below_alloc | apply pw_below_drewN | apply below_drew1 | refine below_set ?_ GE644.out) | exact HB.out))) : w.heap.size ≤ gb653)); have n6_ := Aside0.mk ((by rw [hg]; exact Nat.ne_of_lt (blk_lt (g := gb644) (o := .cells #[.slice none 0 0, .int .i64 0, .int .i64 0] 29 (0, 0)) (by (with_reducible repeat (first | refine blk_drewN ?_ _ | refine blk_drew ?_ | refine blk_alloc ?_ _)); exact BK644.out)) : gb644 ≠ gb653)); have n7_ := Aside0.mk ((by rw [hg]; exact Nat.ne_of_gt (blk_lt (g := gb644) (o := .cells #[.slice none 0 0, .int .i64 0, .int .i64 0] 29 (0, 0)) (by (with_reducible repeat (first | refine blk_drewN ?_ _ | refine blk_drew ?_ | refine blk_alloc ?_ _)); exact BK644.out)) : gb653 ≠ gb644)); clear HO649; clear BK644; clear HB; have HO649 := n0_; have BK644 := n1_; have HB := n2_; have BK653 := n3_; have GW653 := n4_; have GE653 := n5_; have NB644_653 := n6_; have NB653_644 := n7_; clear n0_ n1_ n2_ n3_ n4_ n5_ n6_ n7_; clear hb hbox hg; obtain ⟨Ao19, co19, eo19⟩ := Kd.R_slice HO649.out; subst eo19; have hnb20 := NB653_644.out; have hnc20 := NB644_653.out; have hcz21_0 : w18.cell? ⟨gb653, 0, none⟩ = some (.slice none 0 0) := (blk_cell BK653.out 0).trans rfl; have hcz21_1 : w18.cell? ⟨gb653, 1, none⟩ = some (.int .i64 0) := (blk_cell BK653.out 1).trans rfl; have hcz21_2 : w18.cell? ⟨gb653, 2, none⟩ = some (.int .i64 0) := (blk_cell BK653.out 2).trans rfl; have hfz21_0 := blk_frozen BK653.out 0; have hfz21_1 := blk_frozen BK653.out 1; have hfz21_2 := blk_frozen BK653.out 2; have hcz22_0 : w18.cell? ⟨gb644, 0, none⟩ = some (.slice none 0 0) := (blk_cell BK644.out 0).trans rfl; have hcz22_1 : w18.cell? ⟨gb644, 1, none⟩ = some (.int .i64 0) := (blk_cell BK644.out 1).trans rfl; have hcz22_2 : w18.cell? ⟨gb644, 2, none⟩ = some (.int .i64 0) := (blk_cell BK644.out 2).trans rfl; have hfz22_0 := blk_frozen BK644.out 0; have hfz22_1 := blk_frozen BK644.out 1; have hfz22_2 := blk_frozen BK644.out 2))
  refine bodyPost_ret (results_ct rfl _ _ gb644 29 #[.slice Ao19 t647.length co19, .int .i64 t650, .int .i64 t651] (0, 0) _ rfl (by (with_reducible repeat (first | refine blk_drewN ?_ _ | refine blk_drew ?_ | refine blk_alloc ?_ _)); refine blk_put (cs := #[.slice Ao19 t647.length co19, .int .i64 t650, .int .i64 0]) ?_ 2 _ rfl; (with_reducible repeat (first | refine blk_drewN ?_ _ | refine blk_drew ?_ | refine blk_alloc ?_ _)); refine blk_put (cs := #[.slice Ao19 t647.length co19, .int .i64 0, .int .i64 0]) ?_ 1 _ rfl; (with_reducible repeat (first | refine blk_drewN ?_ _ | refine blk_drew ?_ | refine blk_alloc ?_ _)); refine blk_put (cs := #[.slice none 0 0, .int .i64 0, .int .i64 0]) ?_ 0 _ rfl; (with_reducible repeat (first | refine blk_drewN ?_ _ | refine blk_drew ?_ | refine blk_alloc ?_ _)); refine blk_far ?_ NB644_653.out _; (with_reducible repeat (first | refine blk_drewN ?_ _ | refine blk_drew ?_ | refine blk_alloc ?_ _)); refine blk_far ?_ NB644_653.out _; (with_reducible repeat (first | refine blk_drewN ?_ _ | refine blk_drew ?_ | refine blk_alloc ?_ _)); refine blk_far ?_ NB644_653.out _; (with_reducible repeat (first | refine blk_drewN ?_ _ | refine blk_drew ?_ | refine blk_alloc ?_ _)); exact BK644.out) Try.underlying29 rfl (by kernel_rfl)) rfl ?_
  exact ⟨_, by first | rfl | (simp [errW_none, errW_some] <;> rfl) | (simp [*, errW_none, errW_some] <;> rfl), by (with_reducible repeat (first | apply Kd.R_alloc | apply Kd.R_drewN | apply Kd.R_drew)); exact Kd.R_mono (Kd.R_far (p := ⟨gb644, 2, none⟩) (Kd.R_far (p := ⟨gb644, 1, none⟩) (Kd.R_far (p := ⟨gb644, 0, none⟩) (Kd.R_far (p := ⟨gb653, 2, none⟩) (Kd.R_far (p := ⟨gb653, 1, none⟩) (Kd.R_far (p := ⟨gb653, 0, none⟩) (Kd.R_types (Kd.R_types HO649.out BK653.out (by decide)) BK644.out (by decide)) (fun _ hk => hk.1.2) (.slice Ao19 t647.length co19)) (fun _ hk => hk.1.2) (.int .i64 t650)) (fun _ hk => hk.1.2) (.int .i64 t651)) (fun _ hk => hk.2) (.slice Ao19 t647.length co19)) (fun _ hk => hk.2) (.int .i64 t650)) (fun _ hk => hk.2) (.int .i64 t651)) (fun _ hk => trivial), by repeat (first | (with_reducible first | exact HB.out | apply below_alloc | apply pw_below_drewN | apply below_drew1 | refine below_set ?_ GE644.out | refine below_set ?_ GE653.out) | exact HB.out)⟩

end Go.Proofs.Ytbppijlcmeidaaa.P
end
section
-- Written by a changed copy of the print program, one module a function. Not trusted: Lean checks it.
namespace Go.Proofs.Ytbppijlcmeidaaa.P
open Go.RowKit Go.Proofs.YtbppijlcmeidaaaW.PrintWords Go.Proofs.YtbppijlcmeidaaaW.PrintLast Go.Proofs.YtbppijlcmeidaaaW.PrintMore
attribute [local go_sem] max2_int min2_int max_two min_two max_three min_three max_four min_four   -- for this text's walks alone
set_option linter.unusedVariables false
set_option linter.unusedSimpArgs false

/-! ### spec_l1SomeName: function 64 -/
def spec_l1SomeName.j0 : Nat → List Int → Int → Int → Int → Bool → List (S52) → Int → Int → Option (ByteArray × Int)
 | 0, _, _, _, _, _, _, _, _ => none
 | k + 1, x0, x1, x8, x9, x32, x660000, x660001, x660002 => if x32 = true then (if 0 ≤ x9 then (if x9 < (x660000.length : Int) then (some ((rd_T52 x660000 x9).f0, x1)) else (none)) else (none)) else (if x8 = 7 then (some ((⟨#[]⟩ : ByteArray), x1)) else (if x8 = 8 then ((spec_l1Long.f (wrap64 (120 + (Int.tmod x9 2))) (⟨#[113]⟩ : ByteArray)).bind fun t665 => (some (t665, x1))) else ((spec_l1DrawName.f k x0 x1).bind fun bt666 => (some (bt666.1, bt666.2)))))
def spec_l1SomeName.f (k : Nat) (l0 : List Int) (a1 : Int) (l2_0 : List (S52)) (a2_1 : Int) (a2_2 : Int) : Option (ByteArray × Int) := (spec_l1Take.f k l0 a1 10).bind fun bt660 => ((spec_l1Take.f k l0 bt660.2 (l2_0.length : Int)).bind fun bt662 => (if bt660.1 < 7 then (spec_l1SomeName.j0 k l0 bt662.2 bt660.1 bt662.1 (decide ((l2_0.length : Int) > 0)) l2_0 a2_1 a2_2) else (spec_l1SomeName.j0 k l0 bt662.2 bt660.1 bt662.1 false l2_0 a2_1 a2_2)))
theorem spec_l1SomeName.mono_l : ∀ k, (∀ y0 y1 y2 y3 y4 y5 y6 y7, LeO (spec_l1SomeName.j0 k y0 y1 y2 y3 y4 y5 y6 y7) (spec_l1SomeName.j0 (k + 1) y0 y1 y2 y3 y4 y5 y6 y7))
 | 0 => fun _ _ _ _ _ _ _ _ r h => by simp [spec_l1SomeName.j0] at h
 | k + 1 => by
  have ih0 := spec_l1SomeName.mono_l k
  ·intro y0 y1 y2 y3 y4 y5 y6 y7
   unfold spec_l1SomeName.j0
   repeat' first
   | (with_reducible exact ih0 _ _ _ _ _ _ _ _)
   | (with_reducible exact spec_l1DrawName.mono _ _ _)
   | (with_reducible exact spec_l1Take.mono _ _ _ _)
   | (with_reducible exact LeO.refl _)
   | (with_reducible exact LeO.none _)
   | (with_reducible refine LeO.ite ?_ ?_)
   | (with_reducible refine LeO.bind ?_ (fun _ => ?_))
   | exact ih0 _ _ _ _ _ _ _ _
   | exact spec_l1DrawName.mono _ _ _
   | exact spec_l1Take.mono _ _ _ _
   | exact LeO.none _
   | refine LeO.ite ?_ ?_
   | refine LeO.bind ?_ (fun _ => ?_)
theorem spec_l1SomeName.mono : ∀ a0 a1 a2 a3 a4 k, LeO (spec_l1SomeName.f k a0 a1 a2 a3 a4) (spec_l1SomeName.f (k + 1) a0 a1 a2 a3 a4) := by
 intro a0 a1 a2 a3 a4 k
 have ih0 := spec_l1SomeName.mono_l k
 unfold spec_l1SomeName.f
 repeat' first
   | (with_reducible exact ih0 _ _ _ _ _ _ _ _)
   | (with_reducible exact spec_l1DrawName.mono _ _ _)
   | (with_reducible exact spec_l1Take.mono _ _ _ _)
   | (with_reducible exact LeO.refl _)
   | (with_reducible exact LeO.none _)
   | (with_reducible refine LeO.ite ?_ ?_)
   | (with_reducible refine LeO.bind ?_ (fun _ => ?_))
   | exact ih0 _ _ _ _ _ _ _ _
   | exact spec_l1DrawName.mono _ _ _
   | exact spec_l1Take.mono _ _ _ _
   | exact LeO.none _
   | refine LeO.ite ?_ ?_
   | refine LeO.bind ?_ (fun _ => ?_)
set_option maxHeartbeats 8000000 in
set_option maxRecDepth 100000 in
theorem spec_l1SomeName.calls (k : Nat) (A0 : Option Addr) (c0 : Nat) (l0 : List Int) (a1 : Int) (A2_0 : Option Addr) (c2_0 : Nat) (l2_0 : List (S52)) (a2_1 : Int) (a2_2 : Int) (r1 : ByteArray) (r2 : Int) (w : World) (hr0 : Kd.C (Kd.int .u8) w A0 l0.length l0) (hc0 : l0.length ≤ c0) (hr2_0 : Kd.C k52 w A2_0 l2_0.length l2_0) (hc2_0 : l2_0.length ≤ c2_0) (h : spec_l1SomeName.f k l0 a1 l2_0 a2_1 a2_2 = some (r1, r2)) :
  Calls Try.prog 64 #[.slice A0 l0.length c0, .int .i64 a1, .agg #[.slice A2_0 l2_0.length c2_0, .int .i64 a2_1, .int .i64 a2_2]] w fun e w' => e = .returned (.tuple #[.string r1, .int .i64 r2]) ∧ Below w.heap.size w w' := by
 have hu29 := Try.underlying29
 have HR0 := Aside0.mk hr0
 have HC0 := Aside0.mk hc0
 clear hr0 hc0
 have HR2_0 := Aside0.mk hr2_0
 have HC2_0 := Aside0.mk hc2_0
 clear hr2_0 hc2_0
 have HB := Aside0.mk (Below.refl w.heap.size w)
 have H : ((spec_l1Take.f k l0 a1 10).bind fun bt660 => ((spec_l1Take.f k l0 bt660.2 (l2_0.length : Int)).bind fun bt662 => (if bt660.1 < 7 then (spec_l1SomeName.j0 k l0 bt662.2 bt660.1 bt662.1 (decide ((l2_0.length : Int) > 0)) l2_0 a2_1 a2_2) else (spec_l1SomeName.j0 k l0 bt662.2 bt660.1 bt662.1 false l2_0 a2_1 a2_2)))) = some (r1, r2) := h
 clear h
 replace H := Option.bind_eq_some_iff.mp H
 obtain ⟨⟨t660, t661⟩, A40, H⟩ := H
 replace H : ((spec_l1Take.f k l0 t661 (l2_0.length : Int)).bind fun bt662 => (if t660 < 7 then (spec_l1SomeName.j0 k l0 bt662.2 t660 bt662.1 (decide ((l2_0.length : Int) > 0)) l2_0 a2_1 a2_2) else (spec_l1SomeName.j0 k l0 bt662.2 t660 bt662.1 false l2_0 a2_1 a2_2))) = some (r1, r2) := H
 have A4 := Aside0.mk A40
 clear A40
 replace H := Option.bind_eq_some_iff.mp H
 obtain ⟨⟨t662, t663⟩, A50, H⟩ := H
 replace H : (if t660 < 7 then (spec_l1SomeName.j0 k l0 t663 t660 t662 (decide ((l2_0.length : Int) > 0)) l2_0 a2_1 a2_2) else (spec_l1SomeName.j0 k l0 t663 t660 t662 false l2_0 a2_1 a2_2)) = some (r1, r2) := H
 have A5 := Aside0.mk A50
 clear A50
 have HC6 := Aside0.mk H
 clear H
 go_enter Try.func64, Try.ntmps64
 go_upto_region 4 with (first | ((with_reducible refine gate_dst (N := 5) rfl ?_); (try (refine gate_guard (by rfl) ?_; dsimp only)); refine box_event ?hg (N := 5) ?hd (cs := #[.slice A2_0 l2_0.length c2_0, .int .i64 a2_1, .int .i64 a2_2]) (t := 29) ?hr ?_; (case hd => rfl); (case hg => rfl); (case hr => first | (go_simp; done) | (go_simp; rfl)); intro gb659 hg w7 hbox hb; have n0_ := Aside0.mk (below_step (by repeat (first | (with_reducible first | exact HB.out | apply below_alloc | apply pw_below_drewN | apply below_drew1) | exact HB.out)) hb); have n1_ := Aside0.mk (hbox); have n2_ := Aside0.mk ((by rw [hg]; exact (below_size (by repeat (first | (with_reducible first | exact HB.out | apply below_alloc | apply pw_below_drewN | apply below_drew1) | exact HB.out))) : w.heap.size ≤ gb659)); have n3_ := Aside0.mk ((by rw [hg]; exact (below_size (by repeat (first | (with_reducible first | exact HB.out | apply below_alloc | apply pw_below_drewN | apply below_drew1) | exact HB.out))) : w.heap.size ≤ gb659)); clear HB; have HB := n0_; have BK659 := n1_; have GW659 := n2_; have GE659 := n3_; clear n0_ n1_ n2_ n3_; clear hb hbox hg) | ((with_reducible refine gate_callee (f := 65) rfl ?_); refine goesL_ (some 13) rfl rfl Try.func65 (by kernel_rfl) rfl #[.slice A0 l0.length c0, .int .i64 a1, .int .i64 10] rfl (by (try simp only [List.map_toArray, List.map_cons, List.map_nil]); first | done | rfl | (simp only [List.length_drop, List.length_take]; rfl)) ?_; (with_reducible refine (spec_l1Take.calls k _ _ l0 a1 10 t660 t661 _ ?side1 ?side2 A4.out).mono ?_); (case side1 => repeat (first | exact (Kd.C_below HR0.out HB.out) | (with_reducible refine Kd.C_alloc ?_ _) | (with_reducible refine Kd.C_drewN ?_ _) | (with_reducible refine Kd.C_drew ?_))); (case side2 => exact HC0.out); rintro e w' ⟨rfl, ⟨nd, rfl⟩⟩; refine ⟨_, rfl, ?_⟩; have hcz8_0 : w7.cell? ⟨gb659, 0, none⟩ = some (.slice A2_0 l2_0.length c2_0) := (blk_cell BK659.out 0).trans rfl; have hcz8_1 : w7.cell? ⟨gb659, 1, none⟩ = some (.int .i64 a2_1) := (blk_cell BK659.out 1).trans rfl; have hcz8_2 : w7.cell? ⟨gb659, 2, none⟩ = some (.int .i64 a2_2) := (blk_cell BK659.out 2).trans rfl; have hfz8_0 := blk_frozen BK659.out 0; have hfz8_1 := blk_frozen BK659.out 1; have hfz8_2 := blk_frozen BK659.out 2) | ((with_reducible refine gate_callee (f := 65) rfl ?_); refine goesL_ (some 22) rfl rfl Try.func65 (by kernel_rfl) rfl #[.slice A0 l0.length c0, .int .i64 t661, .int .i64 (l2_0.length : Int)] rfl (by (try simp only [List.map_toArray, List.map_cons, List.map_nil]); first | done | rfl | (simp only [List.length_drop, List.length_take]; rfl)) ?_; (with_reducible refine (spec_l1Take.calls k _ _ l0 t661 (l2_0.length : Int) t662 t663 _ ?side1 ?side2 A5.out).mono ?_); (case side1 => repeat (first | exact (Kd.C_below HR0.out (by repeat (first | (with_reducible first | exact HB.out | apply below_alloc | apply pw_below_drewN | apply below_drew1 | refine below_set ?_ GE659.out) | exact HB.out))) | (with_reducible refine Kd.C_alloc ?_ _) | (with_reducible refine Kd.C_drewN ?_ _) | (with_reducible refine Kd.C_drew ?_))); (case side2 => exact HC0.out); rintro e w' ⟨rfl, ⟨nd, rfl⟩⟩; refine ⟨_, rfl, ?_⟩))
 (try simp only [Act.put, List.setIfInBounds_toArray, List.set_cons_zero, List.set_cons_succ])
 go_cut [32] (fun v32 wc => ∃ (kq : Nat) (x32_5 : Bool), v32 = .bool x32_5 ∧ Aside0 (spec_l1SomeName.j0 kq l0 t663 t660 t662 x32_5 l2_0 a2_1 a2_2 = some (r1, r2)) ∧ Aside0 (kq ≤ k) ∧ Aside0 (wc.heap[gb659]? = some (.cells #[(.slice A2_0 l2_0.length c2_0), .int .i64 a2_1, .int .i64 a2_2] 29 (0, 0))) ∧ Aside0 (Below w.heap.size w wc))
 case first =>
  have H := HC6.out
  clear HC6
  by_cases c9 : t660 < 7
  ·rw [if_pos c9] at H
   have c9b0 : decide (t660 < 7) = true := decide_eq_true c9
   clear c9
   (first | rw [c9b0] | (simp only [i64_w, i32_w]; rw [c9b0]) | skip)
   have H' := Aside0.mk H
   clear H
   have hcz10_0 : w7.cell? ⟨gb659, 0, none⟩ = some (.slice A2_0 l2_0.length c2_0) := (blk_cell BK659.out 0).trans rfl
   have hcz10_1 : w7.cell? ⟨gb659, 1, none⟩ = some (.int .i64 a2_1) := (blk_cell BK659.out 1).trans rfl
   have hcz10_2 : w7.cell? ⟨gb659, 2, none⟩ = some (.int .i64 a2_2) := (blk_cell BK659.out 2).trans rfl
   have hfz10_0 := blk_frozen BK659.out 0
   have hfz10_1 := blk_frozen BK659.out 1
   have hfz10_2 := blk_frozen BK659.out 2
   go_wp2
   go_meet
   case rel => exact ⟨_, (decide ((l2_0.length : Int) > 0)), (by first | rfl | (simp; done) | (simp [*]; done)), H', ⟨by first | omega | exact Nat.le_refl _⟩, ⟨by (with_reducible repeat (first | refine blk_drewN ?_ _ | refine blk_drew ?_ | refine blk_alloc ?_ _)); exact BK659.out⟩, ⟨by repeat (first | (with_reducible first | exact HB.out | apply below_alloc | apply pw_below_drewN | apply below_drew1 | refine below_set ?_ GE659.out) | exact HB.out)⟩⟩
  ·rw [if_neg c9] at H
   have c9b0 : decide (t660 < 7) = false := decide_eq_false c9
   clear c9
   (first | rw [c9b0] | (simp only [i64_w, i32_w]; rw [c9b0]) | skip)
   have H' := Aside0.mk H
   clear H
   go_wp2
   go_meet
   case rel => exact ⟨_, (false), (by first | rfl | (simp; done) | (simp [*]; done)), H', ⟨by first | omega | exact Nat.le_refl _⟩, ⟨by (with_reducible repeat (first | refine blk_drewN ?_ _ | refine blk_drew ?_ | refine blk_alloc ?_ _)); exact BK659.out⟩, ⟨by repeat (first | (with_reducible first | exact HB.out | apply below_alloc | apply pw_below_drewN | apply below_drew1 | refine below_set ?_ GE659.out) | exact HB.out)⟩⟩
 case rest =>
  clear HC6
  try clear c2
  try clear p2
  try clear c6
  try clear c9
  try clear c9b0
  try clear hcz10_0
  try clear hcz10_1
  try clear hcz10_2
  try clear hcz8_0
  try clear hcz8_1
  try clear hcz8_2
  try clear hfz10_0
  try clear hfz10_1
  try clear hfz10_2
  try clear hfz8_0
  try clear hfz8_1
  try clear hfz8_2
  obtain ⟨kq, x32_5, rfl, HA, HJ5, BK659, HB⟩ := hcut
  cases kq with
  | zero => exact absurd HA.out (by simp [spec_l1SomeName.j0])
  | succ kj5 =>
   have H := HA.out
   clear HA
   simp only [spec_l1SomeName.j0] at H
   by_cases c11 : x32_5 = true
   ·subst c11
    have H1 : (if 0 ≤ t662 then (if t662 < (l2_0.length : Int) then (some ((rd_T52 l2_0 t662).f0, t663)) else (none)) else (none)) = some (r1, r2) := by rw [if_pos rfl] at H; exact H
    clear H
    have H := H1
    clear H1
    by_cases c12 : 0 ≤ t662
    ·rw [if_pos c12] at H
     have c12b0 : decide (0 ≤ t662) = true := decide_eq_true c12
     clear c12
     by_cases c13 : t662 < (l2_0.length : Int)
     ·rw [if_pos c13] at H
      have c13b0 : decide (t662 < (l2_0.length : Int)) = true := decide_eq_true c13
      clear c13
      simp only [Option.some.injEq, Prod.mk.injEq] at H
      obtain ⟨rfl, rfl⟩ := H
      have hcz14_0 : wc.cell? ⟨gb659, 0, none⟩ = some (.slice A2_0 l2_0.length c2_0) := (blk_cell BK659.out 0).trans rfl
      have hcz14_1 : wc.cell? ⟨gb659, 1, none⟩ = some (.int .i64 a2_1) := (blk_cell BK659.out 1).trans rfl
      have hcz14_2 : wc.cell? ⟨gb659, 2, none⟩ = some (.int .i64 a2_2) := (blk_cell BK659.out 2).trans rfl
      have hfz14_0 := blk_frozen BK659.out 0
      have hfz14_1 := blk_frozen BK659.out 1
      have hfz14_2 := blk_frozen BK659.out 2
      have p664 : 0 ≤ (t662 : Int) := of_decide_eq_true (by first | (with_reducible assumption) | assumption)
      have q664 : t662 < (l2_0.length : Int) := of_decide_eq_true (by first | (with_reducible assumption) | assumption)
      obtain ⟨ad664, e664, hx664_0, hx664_1, hx664_2⟩ := at_T52 HR2_0.out t662 p664 q664
      cases e664
      replace hx664_0 := (HB.out.cell (World.block_lt_of_cell? w _ hx664_0)).trans hx664_0
      replace hx664_1 := (HB.out.cell (World.block_lt_of_cell? w _ hx664_1)).trans hx664_1
      replace hx664_2 := (HB.out.cell (World.block_lt_of_cell? w _ hx664_2)).trans hx664_2
      replace p664 := eq_true p664
      replace q664 := eq_true q664
      go_wp2
      go_ret2
      exact ⟨by first | rfl | (simp [errW_none, errW_some] <;> rfl) | (simp [*, errW_none, errW_some] <;> rfl), by repeat (first | (with_reducible first | exact HB.out | apply below_alloc | apply pw_below_drewN | apply below_drew1 | refine below_set ?_ GE659.out) | exact HB.out)⟩
     ·rw [if_neg c13] at H
      exact absurd H (by simp)
    ·rw [if_neg c12] at H
     exact absurd H (by simp)
   ·replace c11 := Bool.eq_false_iff.mpr c11
    subst c11
    have H1 : (if t660 = 7 then (some ((⟨#[]⟩ : ByteArray), t663)) else (if t660 = 8 then ((spec_l1Long.f (wrap64 (120 + (Int.tmod t662 2))) (⟨#[113]⟩ : ByteArray)).bind fun t665 => (some (t665, t663))) else ((spec_l1DrawName.f kj5 l0 t663).bind fun bt666 => (some (bt666.1, bt666.2))))) = some (r1, r2) := by rw [if_neg (show ¬ (false = true) by decide)] at H; exact H
    clear H
    have H := H1
    clear H1
    by_cases c15 : t660 = 7
    ·rw [if_pos c15] at H
     have c15b0 : (t660 == 7) = true := beq_iff_eq.mpr c15
     have c15b1 : (t660 != 7) = false := bne_eq_false_iff_eq.mpr c15
     clear c15
     simp only [Option.some.injEq, Prod.mk.injEq] at H
     obtain ⟨rfl, rfl⟩ := H
     go_wp2
     go_ret2
     exact ⟨by first | rfl | (simp [errW_none, errW_some] <;> rfl) | (simp [*, errW_none, errW_some] <;> rfl), by repeat (first | (with_reducible first | exact HB.out | apply below_alloc | apply pw_below_drewN | apply below_drew1 | refine below_set ?_ GE659.out) | exact HB.out)⟩
    ·rw [if_neg c15] at H
     have c15b0 : (t660 == 7) = false := beq_eq_false_iff_ne.mpr c15
     have c15b1 : (t660 != 7) = true := bne_iff_ne.mpr c15
     by_cases c16 : t660 = 8
     ·rw [if_pos c16] at H
      have c16b0 : (t660 == 8) = true := beq_iff_eq.mpr c16
      have c16b1 : (t660 != 8) = false := bne_eq_false_iff_eq.mpr c16
      clear c16
      replace H := Option.bind_eq_some_iff.mp H
      obtain ⟨t665, A170, H⟩ := H
      replace H : (some (t665, t663)) = some (r1, r2) := H
      have A17 := Aside0.mk A170
      clear A170
      simp only [Option.some.injEq, Prod.mk.injEq] at H
      obtain ⟨rfl, rfl⟩ := H
      go_wp2_with (first | ((with_reducible refine gate_callee (f := 66) rfl ?_); refine goesL_ (some 48) rfl rfl Try.func66 (by kernel_rfl) rfl #[.int .i64 (wrap64 (120 + (Int.tmod t662 2))), .string (⟨#[113]⟩ : ByteArray)] rfl (by (try simp only [List.map_toArray, List.map_cons, List.map_nil]); first | done | rfl | (simp only [List.length_drop, List.length_take]; rfl)) ?_; (with_reducible refine (spec_l1Long.calls (wrap64 (120 + (Int.tmod t662 2))) (⟨#[113]⟩ : ByteArray) t665 _ A17.out).mono ?_); rintro e w' ⟨rfl, ⟨nd, rfl⟩⟩; refine ⟨_, rfl, ?_⟩))
      go_ret2
      exact ⟨by first | rfl | (simp [errW_none, errW_some] <;> rfl) | (simp [*, errW_none, errW_some] <;> rfl), by repeat (first | (with_reducible first | exact HB.out | apply below_alloc | apply pw_below_drewN | apply below_drew1 | refine below_set ?_ GE659.out) | exact HB.out)⟩
     ·rw [if_neg c16] at H
      have c16b0 : (t660 == 8) = false := beq_eq_false_iff_ne.mpr c16
      have c16b1 : (t660 != 8) = true := bne_iff_ne.mpr c16
      replace H := Option.bind_eq_some_iff.mp H
      obtain ⟨⟨t666, t667⟩, A180, H⟩ := H
      replace H : (some (t666, t667)) = some (r1, r2) := H
      have A18 := Aside0.mk A180
      clear A180
      simp only [Option.some.injEq, Prod.mk.injEq] at H
      obtain ⟨rfl, rfl⟩ := H
      go_wp2_with (first | ((with_reducible refine gate_callee (f := 82) rfl ?_); refine goesL_ (some 52) rfl rfl Try.func82 (by kernel_rfl) rfl #[.slice A0 l0.length c0, .int .i64 t663] rfl (by (try simp only [List.map_toArray, List.map_cons, List.map_nil]); first | done | rfl | (simp only [List.length_drop, List.length_take]; rfl)) ?_; (with_reducible refine (spec_l1DrawName.calls kj5 _ _ l0 t663 t666 t667 _ ?side1 ?side2 A18.out).mono ?_); (case side1 => repeat (first | exact (Kd.C_below HR0.out HB.out) | (with_reducible refine Kd.C_alloc ?_ _) | (with_reducible refine Kd.C_drewN ?_ _) | (with_reducible refine Kd.C_drew ?_))); (case side2 => exact HC0.out); rintro e w' ⟨rfl, ⟨nd, rfl⟩⟩; refine ⟨_, rfl, ?_⟩))
      go_ret2
      exact ⟨by first | rfl | (simp [errW_none, errW_some] <;> rfl) | (simp [*, errW_none, errW_some] <;> rfl), by repeat (first | (with_reducible first | exact HB.out | apply below_alloc | apply pw_below_drewN | apply below_drew1 | refine below_set ?_ GE659.out) | exact HB.out)⟩

end Go.Proofs.Ytbppijlcmeidaaa.P
end
section
-- Written by a changed copy of the print program, one module a function. Not trusted: Lean checks it.
namespace Go.Proofs.Ytbppijlcmeidaaa.P
open Go.RowKit Go.Proofs.YtbppijlcmeidaaaW.PrintWords Go.Proofs.YtbppijlcmeidaaaW.PrintLast Go.Proofs.YtbppijlcmeidaaaW.PrintMore
attribute [local go_sem] max2_int min2_int max_two min_two max_three min_three max_four min_four   -- for this text's walks alone
set_option linter.unusedVariables false
set_option linter.unusedSimpArgs false

/-! ### spec_DrawFsAppend: function 32 -/
def spec_DrawFsAppend.f (k : Nat) (l0 : List Int) : Option ((List (S52)) × Int × Int × ByteArray × ByteArray) := (spec_l1AnyFS.f k l0 0).bind fun bt669 => ((spec_l1SomeName.f k l0 bt669.2.2.2 bt669.1 bt669.2.1 bt669.2.2.1).bind fun bt676 => ((spec_l1Take.f k l0 bt676.2 16).bind fun bt678 => ((spec_l1Long.f bt678.1 (⟨#[119]⟩ : ByteArray)).bind fun t680 => (some (bt669.1, bt669.2.1, bt669.2.2.1, bt676.1, t680)))))
theorem spec_DrawFsAppend.mono : ∀ a0 k, LeO (spec_DrawFsAppend.f k a0) (spec_DrawFsAppend.f (k + 1) a0) := by
 intro a0 k
 unfold spec_DrawFsAppend.f
 repeat' first
   | (with_reducible exact spec_l1AnyFS.mono _ _ _)
   | (with_reducible exact spec_l1SomeName.mono _ _ _ _ _ _)
   | (with_reducible exact spec_l1Take.mono _ _ _ _)
   | (with_reducible exact LeO.refl _)
   | (with_reducible exact LeO.none _)
   | (with_reducible refine LeO.ite ?_ ?_)
   | (with_reducible refine LeO.bind ?_ (fun _ => ?_))
   | exact spec_l1AnyFS.mono _ _ _
   | exact spec_l1SomeName.mono _ _ _ _ _ _
   | exact spec_l1Take.mono _ _ _ _
   | exact LeO.none _
   | refine LeO.ite ?_ ?_
   | refine LeO.bind ?_ (fun _ => ?_)
set_option maxHeartbeats 8000000 in
set_option maxRecDepth 100000 in
theorem spec_DrawFsAppend.calls (k : Nat) (A0 : Option Addr) (c0 : Nat) (l0 : List Int) (r1 : List (S52)) (r2 : Int) (r3 : Int) (r4 : ByteArray) (r5 : ByteArray) (w : World) (hr0 : Kd.C (Kd.int .u8) w A0 l0.length l0) (hc0 : l0.length ≤ c0) (h : spec_DrawFsAppend.f k l0 = some (r1, r2, r3, r4, r5)) :
  Calls Try.prog 32 #[.slice A0 l0.length c0] w fun e w' => ∃ v0_ : Value, e = .returned (.tuple #[.agg #[v0_, .int .i64 r2, .int .i64 r3], .string r4, .string r5]) ∧ Kd.R k52 52 w' w.heap.size (fun _ => True) v0_ r1 ∧ Below w.heap.size w w' := by
 have hu29 := Try.underlying29
 have HR0 := Aside0.mk hr0
 have HC0 := Aside0.mk hc0
 clear hr0 hc0
 have HB := Aside0.mk (Below.refl w.heap.size w)
 have H : ((spec_l1AnyFS.f k l0 0).bind fun bt669 => ((spec_l1SomeName.f k l0 bt669.2.2.2 bt669.1 bt669.2.1 bt669.2.2.1).bind fun bt676 => ((spec_l1Take.f k l0 bt676.2 16).bind fun bt678 => ((spec_l1Long.f bt678.1 (⟨#[119]⟩ : ByteArray)).bind fun t680 => (some (bt669.1, bt669.2.1, bt669.2.2.1, bt676.1, t680)))))) = some (r1, r2, r3, r4, r5) := h
 clear h
 replace H := Option.bind_eq_some_iff.mp H
 obtain ⟨⟨t669, t672, t673, t674⟩, A20, H⟩ := H
 replace H : ((spec_l1SomeName.f k l0 t674 t669 t672 t673).bind fun bt676 => ((spec_l1Take.f k l0 bt676.2 16).bind fun bt678 => ((spec_l1Long.f bt678.1 (⟨#[119]⟩ : ByteArray)).bind fun t680 => (some (t669, t672, t673, bt676.1, t680))))) = some (r1, r2, r3, r4, r5) := H
 have A2 := Aside0.mk A20
 clear A20
 replace H := Option.bind_eq_some_iff.mp H
 obtain ⟨⟨t676, t677⟩, A30, H⟩ := H
 replace H : ((spec_l1Take.f k l0 t677 16).bind fun bt678 => ((spec_l1Long.f bt678.1 (⟨#[119]⟩ : ByteArray)).bind fun t680 => (some (t669, t672, t673, t676, t680)))) = some (r1, r2, r3, r4, r5) := H
 have A3 := Aside0.mk A30
 clear A30
 replace H := Option.bind_eq_some_iff.mp H
 obtain ⟨⟨t678, t679⟩, A40, H⟩ := H
 replace H : ((spec_l1Long.f t678 (⟨#[119]⟩ : ByteArray)).bind fun t680 => (some (t669, t672, t673, t676, t680))) = some (r1, r2, r3, r4, r5) := H
 have A4 := Aside0.mk A40
 clear A40
 replace H := Option.bind_eq_some_iff.mp H
 obtain ⟨t680, A50, H⟩ := H
 replace H : (some (t669, t672, t673, t676, t680)) = some (r1, r2, r3, r4, r5) := H
 have A5 := Aside0.mk A50
 clear A50
 simp only [Option.some.injEq, Prod.mk.injEq] at H
 obtain ⟨rfl, rfl, rfl, rfl, rfl⟩ := H
 go_enter Try.func32, Try.ntmps32
 try go_wp2_with (first | ((with_reducible refine gate_dst (N := 2) rfl ?_); refine box_event ?hg (N := 2) ?hd (cs := #[.slice none 0 0, .int .i64 0, .int .i64 0]) (t := 29) ?hr ?_; (case hd => rfl); (case hg => rfl); (case hr => first | (go_simp; done) | (go_simp; rfl)); intro gb668 hg w6 hbox hb; have n0_ := Aside0.mk (below_step (by repeat (first | (with_reducible first | exact HB.out | apply below_alloc | apply pw_below_drewN | apply below_drew1) | exact HB.out)) hb); have n1_ := Aside0.mk (hbox); have n2_ := Aside0.mk ((by rw [hg]; exact (below_size (by repeat (first | (with_reducible first | exact HB.out | apply below_alloc | apply pw_below_drewN | apply below_drew1) | exact HB.out))) : w.heap.size ≤ gb668)); have n3_ := Aside0.mk ((by rw [hg]; exact (below_size (by repeat (first | (with_reducible first | exact HB.out | apply below_alloc | apply pw_below_drewN | apply below_drew1) | exact HB.out))) : w.heap.size ≤ gb668)); clear HB; have HB := n0_; have BK668 := n1_; have GW668 := n2_; have GE668 := n3_; clear n0_ n1_ n2_ n3_; clear hb hbox hg) | ((with_reducible refine gate_callee (f := 63) rfl ?_); refine goesL_ (some 13) rfl rfl Try.func63 (by kernel_rfl) rfl #[.slice A0 l0.length c0, .int .i64 0] rfl (by (try simp only [List.map_toArray, List.map_cons, List.map_nil]); first | done | rfl | (simp only [List.length_drop, List.length_take]; rfl)) ?_; (with_reducible refine (spec_l1AnyFS.calls k _ _ l0 0 t669 t672 t673 t674 _ ?side1 ?side2 A2.out).mono ?_); (case side1 => repeat (first | exact (Kd.C_below HR0.out HB.out) | (with_reducible refine Kd.C_alloc ?_ _) | (with_reducible refine Kd.C_drewN ?_ _) | (with_reducible refine Kd.C_drew ?_))); (case side2 => exact HC0.out); rintro e w7 ⟨v670, rfl, ho0, hb⟩; refine ⟨_, rfl, ?_⟩; have n0_ := Aside0.mk (Kd.R_lower ho0 (below_size (by repeat (first | (with_reducible first | exact HB.out | apply below_alloc | apply pw_below_drewN | apply below_drew1 | refine below_set ?_ GE668.out) | exact HB.out)))); have n1_ := Aside0.mk (blk_below (g := gb668) (o := .cells #[.slice none 0 0, .int .i64 0, .int .i64 0] 29 (0, 0)) (by (with_reducible repeat (first | refine blk_drewN ?_ _ | refine blk_drew ?_ | refine blk_alloc ?_ _)); exact BK668.out) hb); have n2_ := Aside0.mk (below_step (by repeat (first | (with_reducible first | exact HB.out | apply below_alloc | apply pw_below_drewN | apply below_drew1 | refine below_set ?_ GE668.out) | exact HB.out)) hb); clear BK668; clear HB; have HO671 := n0_; have BK668 := n1_; have HB := n2_; clear n0_ n1_ n2_; (try clear hb); (try clear hb2); (try clear hk); (try clear hi); (try clear ho0)) | ((with_reducible refine gate_dst (N := 5) rfl ?_); refine box_event ?hg (N := 5) ?hd (cs := #[.slice none 0 0, .int .i64 0, .int .i64 0]) (t := 29) ?hr ?_; (case hd => rfl); (case hg => rfl); (case hr => first | (go_simp; done) | (go_simp; rfl)); intro gb675 hg w8 hbox hb; have n0_ := Aside0.mk (Kd.R_below (by (with_reducible repeat (first | apply Kd.R_alloc | apply Kd.R_drewN | apply Kd.R_drew)); exact HO671.out) hb); have n1_ := Aside0.mk (blk_below (g := gb668) (o := .cells #[.slice none 0 0, .int .i64 0, .int .i64 0] 29 (0, 0)) (by (with_reducible repeat (first | refine blk_drewN ?_ _ | refine blk_drew ?_ | refine blk_alloc ?_ _)); exact BK668.out) hb); have n2_ := Aside0.mk (below_step (by repeat (first | (with_reducible first | exact HB.out | apply below_alloc | apply pw_below_drewN | apply below_drew1 | refine below_set ?_ GE668.out) | exact HB.out)) hb); have n3_ := Aside0.mk (hbox); have n4_ := Aside0.mk ((by rw [hg]; exact (below_size (by repeat (first | (with_reducible first | exact HB.out | apply below_alloc | apply pw_below_drewN | apply below_drew1 | refine below_set ?_ GE668.out) | exact HB.out))) : w.heap.size ≤ gb675)); have n5_ := Aside0.mk ((by rw [hg]; exact (below_size (by repeat (first | (with_reducible first | exact HB.out | apply below_alloc | apply pw_below_drewN | apply below_drew1 | refine below_set ?_ GE668.out) | exact HB.out))) : w.heap.size ≤ gb675)); have n6_ := Aside0.mk ((by rw [hg]; exact Nat.ne_of_lt (blk_lt (g := gb668) (o := .cells #[.slice none 0 0, .int .i64 0, .int .i64 0] 29 (0, 0)) (by (with_reducible repeat (first | refine blk_drewN ?_ _ | refine blk_drew ?_ | refine blk_alloc ?_ _)); exact BK668.out)) : gb668 ≠ gb675)); have n7_ := Aside0.mk ((by rw [hg]; exact Nat.ne_of_gt (blk_lt (g := gb668) (o := .cells #[.slice none 0 0, .int .i64 0, .int .i64 0] 29 (0, 0)) (by (with_reducible repeat (first | refine blk_drewN ?_ _ | refine blk_drew ?_ | refine blk_alloc ?_ _)); exact BK668.out)) : gb675 ≠ gb668)); clear HO671; clear BK668; clear HB; have HO671 := n0_; have BK668 := n1_; have HB := n2_; have BK675 := n3_; have GW675 := n4_; have GE675 := n5_; have NB668_675 := n6_; have NB675_668 := n7_; clear n0_ n1_ n2_ n3_ n4_ n5_ n6_ n7_; clear hb hbox hg; obtain ⟨Ao9, co9, eo9⟩ := Kd.R_slice HO671.out; subst eo9; have hnb10 := NB675_668.out; have hnc10 := NB668_675.out; have hcz11_0 : w8.cell? ⟨gb675, 0, none⟩ = some (.slice none 0 0) := (blk_cell BK675.out 0).trans rfl; have hcz11_1 : w8.cell? ⟨gb675, 1, none⟩ = some (.int .i64 0) := (blk_cell BK675.out 1).trans rfl; have hcz11_2 : w8.cell? ⟨gb675, 2, none⟩ = some (.int .i64 0) := (blk_cell BK675.out 2).trans rfl; have hfz11_0 := blk_frozen BK675.out 0; have hfz11_1 := blk_frozen BK675.out 1; have hfz11_2 := blk_frozen BK675.out 2) | ((with_reducible refine gate_callee (f := 64) rfl ?_); refine goesL_ (some 20) rfl rfl Try.func64 (by kernel_rfl) rfl #[.slice A0 l0.length c0, .int .i64 t674, .agg #[.slice Ao9 t669.length co9, .int .i64 t672, .int .i64 t673]] rfl (by (try simp only [List.map_toArray, List.map_cons, List.map_nil]); first | done | rfl | (simp only [List.length_drop, List.length_take]; rfl)) ?_; (with_reducible refine (spec_l1SomeName.calls k _ _ l0 t674 _ _ t669 t672 t673 t676 t677 _ ?side1 ?side2 ?side3 ?side4 A3.out).mono ?_); (case side1 => exact Kd.C_below HR0.out (by repeat (first | (with_reducible first | exact HB.out | apply below_alloc | apply pw_below_drewN | apply below_drew1 | refine below_set ?_ GE668.out | refine below_set ?_ GE675.out) | exact HB.out))); (case side2 => exact HC0.out); (case side3 => refine (Kd.R_reads' (e := 52) (base := w.heap.size) (ok := fun k_ => True) (n := t669.length) (c := co9) ?_).2.2; exact (by (with_reducible repeat (first | apply Kd.R_alloc | apply Kd.R_drewN | apply Kd.R_drew)); exact (Kd.R_mono (Kd.R_far (p := ⟨gb675, 2, none⟩) (Kd.R_far (p := ⟨gb675, 1, none⟩) (Kd.R_far (p := ⟨gb675, 0, none⟩) (Kd.R_types HO671.out BK675.out (by decide)) (fun _ hk => hk.2) (.slice Ao9 t669.length co9)) (fun _ hk => hk.2) (.int .i64 t672)) (fun _ hk => hk.2) (.int .i64 t673)) (fun _ h_ => h_.1)))); (case side4 => exact (Kd.R_reads' HO671.out).2.1); rintro e w12 ⟨rfl, hb⟩; refine ⟨_, rfl, ?_⟩; have n0_ := Aside0.mk (Kd.R_below (by (with_reducible repeat (first | apply Kd.R_alloc | apply Kd.R_drewN | apply Kd.R_drew)); exact (Kd.R_mono (Kd.R_far (p := ⟨gb675, 2, none⟩) (Kd.R_far (p := ⟨gb675, 1, none⟩) (Kd.R_far (p := ⟨gb675, 0, none⟩) (Kd.R_types HO671.out BK675.out (by decide)) (fun _ hk => hk.2) (.slice Ao9 t669.length co9)) (fun _ hk => hk.2) (.int .i64 t672)) (fun _ hk => hk.2) (.int .i64 t673)) (fun _ h_ => h_.1))) hb); have n1_ := Aside0.mk (blk_below (g := gb668) (o := .cells #[.slice none 0 0, .int .i64 0, .int .i64 0] 29 (0, 0)) (by (with_reducible repeat (first | refine blk_drewN ?_ _ | refine blk_drew ?_ | refine blk_alloc ?_ _)); refine blk_far ?_ NB668_675.out _; (with_reducible repeat (first | refine blk_drewN ?_ _ | refine blk_drew ?_ | refine blk_alloc ?_ _)); refine blk_far ?_ NB668_675.out _; (with_reducible repeat (first | refine blk_drewN ?_ _ | refine blk_drew ?_ | refine blk_alloc ?_ _)); refine blk_far ?_ NB668_675.out _; (with_reducible repeat (first | refine blk_drewN ?_ _ | refine blk_drew ?_ | refine blk_alloc ?_ _)); exact BK668.out) hb); have n2_ := Aside0.mk (blk_below (g := gb675) (o := .cells #[.slice Ao9 t669.length co9, .int .i64 t672, .int .i64 t673] 29 (0, 0)) (by (with_reducible repeat (first | refine blk_drewN ?_ _ | refine blk_drew ?_ | refine blk_alloc ?_ _)); refine blk_put (cs := #[.slice Ao9 t669.length co9, .int .i64 t672, .int .i64 0]) ?_ 2 _ rfl; (with_reducible repeat (first | refine blk_drewN ?_ _ | refine blk_drew ?_ | refine blk_alloc ?_ _)); refine blk_put (cs := #[.slice Ao9 t669.length co9, .int .i64 0, .int .i64 0]) ?_ 1 _ rfl; (with_reducible repeat (first | refine blk_drewN ?_ _ | refine blk_drew ?_ | refine blk_alloc ?_ _)); refine blk_put (cs := #[.slice none 0 0, .int .i64 0, .int .i64 0]) ?_ 0 _ rfl; (with_reducible repeat (first | refine blk_drewN ?_ _ | refine blk_drew ?_ | refine blk_alloc ?_ _)); exact BK675.out) hb); have n3_ := Aside0.mk (below_step (by repeat (first | (with_reducible first | exact HB.out | apply below_alloc | apply pw_below_drewN | apply below_drew1 | refine below_set ?_ GE668.out | refine below_set ?_ GE675.out) | exact HB.out)) hb); clear HO671; clear BK668; clear BK675; clear HB; have HO671 := n0_; have BK668 := n1_; have BK675 := n2_; have HB := n3_; clear n0_ n1_ n2_ n3_; (try clear hb); (try clear hb2); (try clear hk); (try clear hi)) | ((with_reducible refine gate_callee (f := 65) rfl ?_); refine goesL_ (some 26) rfl rfl Try.func65 (by kernel_rfl) rfl #[.slice A0 l0.length c0, .int .i64 t677, .int .i64 16] rfl (by (try simp only [List.map_toArray, List.map_cons, List.map_nil]); first | done | rfl | (simp only [List.length_drop, List.length_take]; rfl)) ?_; (with_reducible refine (spec_l1Take.calls k _ _ l0 t677 16 t678 t679 _ ?side1 ?side2 A4.out).mono ?_); (case side1 => repeat (first | exact (Kd.C_below HR0.out HB.out) | (with_reducible refine Kd.C_alloc ?_ _) | (with_reducible refine Kd.C_drewN ?_ _) | (with_reducible refine Kd.C_drew ?_))); (case side2 => exact HC0.out); rintro e w' ⟨rfl, ⟨nd, rfl⟩⟩; refine ⟨_, rfl, ?_⟩; (try (rw [drewN_self w12]; generalize hq_ : World.drewN w12 _ = w12; have n0_ : Aside0 (Kd.R k52 52 w12 w.heap.size (fun _ => True) (.slice Ao9 t669.length co9) t669) := ⟨by rw [← hq_]; exact (by (with_reducible repeat (first | apply Kd.R_alloc | apply Kd.R_drewN | apply Kd.R_drew)); exact HO671.out)⟩; have n1_ : Aside0 (w12.heap[gb668]? = some (.cells #[.slice none 0 0, .int .i64 0, .int .i64 0] 29 (0, 0))) := ⟨by rw [← hq_]; exact (by (with_reducible repeat (first | refine blk_drewN ?_ _ | refine blk_drew ?_ | refine blk_alloc ?_ _)); exact BK668.out)⟩; have n2_ : Aside0 (w12.heap[gb675]? = some (.cells #[.slice Ao9 t669.length co9, .int .i64 t672, .int .i64 t673] 29 (0, 0))) := ⟨by rw [← hq_]; exact (by (with_reducible repeat (first | refine blk_drewN ?_ _ | refine blk_drew ?_ | refine blk_alloc ?_ _)); exact BK675.out)⟩; have n3_ : Aside0 (Below w.heap.size w w12) := ⟨by rw [← hq_]; exact (by repeat (first | (with_reducible first | exact HB.out | apply below_alloc | apply pw_below_drewN | apply below_drew1 | refine below_set ?_ GE668.out | refine below_set ?_ GE675.out) | exact HB.out))⟩; clear HO671 BK668 BK675 HB hq_; have HO671 := n0_; have BK668 := n1_; have BK675 := n2_; have HB := n3_; clear n0_ n1_ n2_ n3_))))
 have n0_ := Aside0.mk (Kd.R_drew HO671.out)
 have n1_ := Aside0.mk (blk_drew BK668.out)
 have n2_ := Aside0.mk (blk_drew BK675.out)
 have n3_ := Aside0.mk (below_drew1 HB.out)
 clear HO671
 clear BK668
 clear BK675
 clear HB
 have HO671 := n0_
 have BK668 := n1_
 have BK675 := n2_
 have HB := n3_
 clear n0_ n1_ n2_ n3_
 refine start_ (n := 7) (S := fun w' => w'.cell? ⟨gb675, 0, none⟩ = some (.slice Ao9 t669.length co9) ∧ w'.cell? ⟨gb675, 1, none⟩ = some (.int .i64 t672) ∧ w'.cell? ⟨gb675, 2, none⟩ = some (.int .i64 t673)) (ds := []) #[false, false, false, false, false, false, false] (by kernel_rfl) rfl rfl ⟨(blk_cell BK675.out 0).trans rfl, (blk_cell BK675.out 1).trans rfl, (blk_cell BK675.out 2).trans rfl⟩ (fun hHeld => ?_)
 generalize w12.drew = w13 at HO671 BK668 BK675 HB hHeld ⊢
 refine pure_ (i := 1) (N := some 30) (v := ?_) (a' := ?_) #[false, true, false, false, false, false, false] rfl rfl (by kernel_rfl) (fun _ _ _ h => h) (Or.inl ⟨by rfl, ?_⟩) ?_ ?_
 rotate_left
 ·intro w'
  go_simp
  with_reducible rfl
 rotate_left
 ·simp only [Act.put, List.setIfInBounds_toArray, List.set_cons_zero, List.set_cons_succ, i64_w, i32_w]
  rfl
 refine pure_ (i := 2) (N := some 31) (v := ?_) (a' := ?_) #[false, true, true, false, false, false, false] rfl rfl (by kernel_rfl) (fun _ _ _ h => h) (Or.inl ⟨by rfl, ?_⟩) ?_ ?_
 rotate_left
 ·intro w'
  go_simp
  with_reducible rfl
 rotate_left
 ·simp only [Act.put, List.setIfInBounds_toArray, List.set_cons_zero, List.set_cons_succ, i64_w, i32_w]
  rfl
 refine take_ (i := 0) (N := some 29) (v := ?_) (a' := ?_) #[true, true, true, false, false, false, false] rfl rfl (by kernel_rfl) (fun _ _ _ h => h) (Or.inl ⟨by rfl, ?_⟩) hHeld ?_ ?_
 rotate_left
 ·rintro w' ⟨s0, s1, s2⟩
  go_simp
  with_reducible rfl
 rotate_left
 ·simp only [Act.put, List.setIfInBounds_toArray, List.set_cons_zero, List.set_cons_succ, i64_w, i32_w]
  rfl
 refine one_ (i := 3) (N := some 32) #[true, true, true, true, false, false, false] rfl rfl (by kernel_rfl) (by decide) (fun K hK => ?_)
 refine goes_ Try.func66 (by kernel_rfl) rfl #[.int .i64 t678, .string (⟨#[119]⟩ : ByteArray)] (by rfl) rfl rfl (by (try simp only [List.map_toArray, List.map_cons, List.map_nil]); first | done | rfl | (simp only [List.length_drop, List.length_take]; rfl)) ?_
 with_reducible refine (spec_l1Long.calls t678 (⟨#[119]⟩ : ByteArray) t680 _ A5.out).mono ?_
 rintro e w' ⟨rfl, ⟨nd, rfl⟩⟩
 refine ⟨_, rfl, ?_⟩
 refine hK.out _ _ ⟨(blk_cell BK675.out 0).trans rfl, (blk_cell BK675.out 1).trans rfl, (blk_cell BK675.out 2).trans rfl⟩ (fun hHeld => ?_)
 clear hK K
 refine norm_ (a' := ?_) ?_ ?_
 rotate_left
 ·show Act.put _ (some 32) _ = _
  simp only [Act.put, List.setIfInBounds_toArray, List.set_cons_zero, List.set_cons_succ, i64_w, i32_w]
  rfl
 refine one_ (i := 4) (N := none) #[true, true, true, true, true, false, false] rfl rfl (by kernel_rfl) (by decide) (fun K hK => ?_)
 have hs14 : w13.cell? ⟨gb668, 0, none⟩ = some (.slice none 0 0) := (blk_cell BK668.out 0).trans rfl
 have hfs14 := blk_frozen BK668.out 0
 have hns14_1 := NB675_668.out
 have hms14_1 := NB668_675.out
 have hs15 : w13.cell? ⟨gb668, 1, none⟩ = some (.int .i64 0) := (blk_cell BK668.out 1).trans rfl
 have hfs15 := blk_frozen BK668.out 1
 have hns15_1 := NB675_668.out
 have hms15_1 := NB668_675.out
 have hs16 : w13.cell? ⟨gb668, 2, none⟩ = some (.int .i64 0) := (blk_cell BK668.out 2).trans rfl
 have hfs16 := blk_frozen BK668.out 2
 have hns16_1 := NB675_668.out
 have hms16_1 := NB668_675.out
 refine skip_ (w1 := ?_) (by rfl) rfl ?_ ?_
 rotate_left
 ·go_simp
  rfl
 refine hK.out _ _ ⟨((cell_far (p := ⟨gb668, _, none⟩) NB675_668.out _).trans (((cell_far (p := ⟨gb668, _, none⟩) NB675_668.out _).trans (((cell_far (p := ⟨gb668, _, none⟩) NB675_668.out _).trans (hHeld.1)))))), ((cell_far (p := ⟨gb668, _, none⟩) NB675_668.out _).trans (((cell_far (p := ⟨gb668, _, none⟩) NB675_668.out _).trans (((cell_far (p := ⟨gb668, _, none⟩) NB675_668.out _).trans (hHeld.2.1)))))), ((cell_far (p := ⟨gb668, _, none⟩) NB675_668.out _).trans (((cell_far (p := ⟨gb668, _, none⟩) NB675_668.out _).trans (((cell_far (p := ⟨gb668, _, none⟩) NB675_668.out _).trans (hHeld.2.2))))))⟩ (fun hHeld => ?_)
 clear hK K
 refine pure_ (i := 5) (N := some 3) (v := ?_) (a' := ?_) #[true, true, true, true, true, true, false] rfl rfl (by kernel_rfl) (fun _ _ _ h => h) (Or.inl ⟨by rfl, ?_⟩) ?_ ?_
 rotate_left
 ·intro w'
  go_simp
  with_reducible rfl
 rotate_left
 ·simp only [Act.put, List.setIfInBounds_toArray, List.set_cons_zero, List.set_cons_succ, i64_w, i32_w]
  rfl
 refine pure_ (i := 6) (N := some 4) (v := ?_) (a' := ?_) #[true, true, true, true, true, true, true] rfl rfl (by kernel_rfl) (fun _ _ _ h => h) (Or.inl ⟨by rfl, ?_⟩) ?_ ?_
 rotate_left
 ·intro w'
  go_simp
  with_reducible rfl
 rotate_left
 ·simp only [Act.put, List.setIfInBounds_toArray, List.set_cons_zero, List.set_cons_succ, i64_w, i32_w]
  rfl
 refine done_ (by kernel_rfl) ?_
 try go_wp2
 refine bodyPost_ret (results_ctt rfl _ _ gb668 29 #[.slice Ao9 t669.length co9, .int .i64 t672, .int .i64 t673] (0, 0) _ rfl (by (with_reducible repeat (first | refine blk_drewN ?_ _ | refine blk_drew ?_ | refine blk_alloc ?_ _)); refine blk_put (cs := #[.slice Ao9 t669.length co9, .int .i64 t672, .int .i64 0]) ?_ 2 _ rfl; (with_reducible repeat (first | refine blk_drewN ?_ _ | refine blk_drew ?_ | refine blk_alloc ?_ _)); refine blk_put (cs := #[.slice Ao9 t669.length co9, .int .i64 0, .int .i64 0]) ?_ 1 _ rfl; (with_reducible repeat (first | refine blk_drewN ?_ _ | refine blk_drew ?_ | refine blk_alloc ?_ _)); refine blk_put (cs := #[.slice none 0 0, .int .i64 0, .int .i64 0]) ?_ 0 _ rfl; (with_reducible repeat (first | refine blk_drewN ?_ _ | refine blk_drew ?_ | refine blk_alloc ?_ _)); exact BK668.out) Try.underlying29 rfl (by kernel_rfl)) rfl ?_
 exact ⟨_, by first | rfl | (simp [errW_none, errW_some] <;> rfl) | (simp [*, errW_none, errW_some] <;> rfl), by (with_reducible repeat (first | apply Kd.R_alloc | apply Kd.R_drewN | apply Kd.R_drew)); exact Kd.R_mono (Kd.R_far (p := ⟨gb668, 2, none⟩) (Kd.R_far (p := ⟨gb668, 1, none⟩) (Kd.R_far (p := ⟨gb668, 0, none⟩) (Kd.R_types HO671.out BK668.out (by decide)) (fun _ hk => hk.2) (.slice Ao9 t669.length co9)) (fun _ hk => hk.2) (.int .i64 t672)) (fun _ hk => hk.2) (.int .i64 t673)) (fun _ hk => trivial), by repeat (first | (with_reducible first | exact HB.out | apply below_alloc | apply pw_below_drewN | apply below_drew1 | refine below_set ?_ GE668.out | refine below_set ?_ GE675.out) | exact HB.out)⟩

end Go.Proofs.Ytbppijlcmeidaaa.P
end
section
/- The specification's DrawFsAppend answers, within bounds. Condition: the code's bytes are bytes, at most 2 to the 20 of them. -/
namespace Go.Proofs.Ytbppijlcmeidaaa.M
open Go.RowKit Go.Proofs.Ytbppijlcmeidaaa.P Go.Proofs.YtbppijlcmeidaaaW.PrintWords Go.Proofs.YtbppijlcmeidaaaW.PrintLast Go.Proofs.YtbppijlcmeidaaaW.PrintMore
set_option linter.unusedVariables false
theorem anyFS_ev (l : List Int) (hl : ∀ x ∈ l, 0 ≤ x ∧ x ≤ 255) (hlen : l.length ≤ 1048576) :
    ∃ F q f p, Ev (fun k => spec_l1AnyFS.f k l 0) (F, q, f, p) ∧ FSOk F q f 201 121 1048577 ∧ 0 ≤ p ∧ p ≤ 100 := by
  obtain ⟨a, ha, a0, _, a1⟩ := take_ev l hl hlen 0 10 (by omega) (by omega)
  obtain ⟨F, q, f, p, hF, ok, p0, p1⟩ := drawFS_ev l hl hlen (0 + 1) (by omega)
  by_cases c : a ≥ 8
  · obtain ⟨F', q', f', h, ok'⟩ := spoil_ev l hl hlen p (by omega) F q f ok
    refine ⟨F', q', f', p + 2, Ev.bind ha (Ev.bind hF (Ev.congr (fun k => if_pos c) (Ev.bind h (Ev.pure (fun k => ?_))))), ok', by omega, by omega⟩
    show some (F', q', f', wrap64 (p + 2)) = _
    rw [wrap_ok (by omega) (by omega)]
  · exact ⟨F, q, f, p, Ev.bind ha (Ev.bind hF (Ev.pure (fun k => if_neg c))), ⟨by have := ok.len; omega, fun y hy => by have := ok.small y hy; exact ⟨by omega, by omega⟩, ok.q0, ok.q1, ok.f0, ok.f1⟩, p0, by omega⟩
theorem someName_ev (l : List Int) (hl : ∀ x ∈ l, 0 ≤ x ∧ x ≤ 255) (hlen : l.length ≤ 1048576) (p : Int) (hp : 0 ≤ p ∧ p ≤ 100) (F : List S52) (q f : Int) (ok : FSOk F q f 201 121 1048577) :
    ∃ s p', Ev (fun k => spec_l1SomeName.f k l p F q f) (s, p') ∧ s.size ≤ 121 ∧ 0 ≤ p' ∧ p' ≤ 200 := by
  obtain ⟨a, ha, a0, _, a1⟩ := take_ev l hl hlen p 10 (by omega) (by omega)
  have hF := ok.len
  obtain ⟨b, hb, b0, b2, b1⟩ := take_ev l hl hlen (p + 1) (F.length : Int) (by omega) (by omega)
  have rest : ¬ a < 7 ∨ F.length = 0 → ∃ s p', Ev (fun k => spec_l1SomeName.j0 k l (p + 1 + 1) a b false F q f) (s, p') ∧ s.size ≤ 121 ∧ 0 ≤ p' ∧ p' ≤ 200 := by
    intro _
    by_cases c7 : a = 7
    · exact ⟨_, p + 1 + 1, Ev.step (f := fun _ => some ((⟨#[]⟩ : ByteArray), p + 1 + 1)) (fun k => by rw [spec_l1SomeName.j0, if_neg (by simp), if_pos c7]) (Ev.now _), Nat.zero_le _, by omega, by omega⟩
    · by_cases c8 : a = 8
      · have hm := tmod_in (a := b) (n := 2) b0 (by omega)
        refine ⟨rep (⟨#[113]⟩ : ByteArray) (120 + Int.tmod b 2).toNat, p + 1 + 1, Ev.step (fun k => by rw [spec_l1SomeName.j0, if_neg (by simp), if_neg c7, if_pos c8, wrap_ok (x := 120 + Int.tmod b 2) (by omega) (by omega)]) (Ev.bind (Ev.pure (fun _ => long_ev (120 + Int.tmod b 2) _ rfl (by omega) (by omega))) (Ev.now _)), ?_, by omega, by omega⟩
        rw [rep_size rfl]
        omega
      · obtain ⟨s, hs, hz⟩ := drawName_ev l hl hlen (p + 1 + 1) (by omega)
        exact ⟨s, p + 1 + 1 + 1, Ev.step (fun k => by rw [spec_l1SomeName.j0, if_neg (by simp), if_neg c7, if_neg c8]) (Ev.bind hs (Ev.now _)), by omega, by omega, by omega⟩
  by_cases c : a < 7
  · by_cases h0 : F.length = 0
    · obtain ⟨s, p', h, hz⟩ := rest (Or.inr h0)
      refine ⟨s, p', Ev.bind ha (Ev.bind hb (Ev.congr (fun k => if_pos c) ?_)), hz⟩
      rw [decide_eq_false (show ¬ (F.length : Int) > 0 by omega)]
      exact h
    · have b1 := b1 (by omega)
      obtain ⟨n, rfl⟩ : ∃ n : Nat, b = (n : Int) := ⟨b.toNat, by omega⟩
      refine ⟨(rd_T52 F (n : Int)).f0, p + 1 + 1, Ev.bind ha (Ev.bind hb (Ev.congr (fun k => if_pos c) ?_)), ?_, by omega, by omega⟩
      · rw [decide_eq_true (show (F.length : Int) > 0 by omega)]
        exact Ev.step (f := fun _ => some ((rd_T52 F (n : Int)).f0, p + 1 + 1)) (fun k => by rw [spec_l1SomeName.j0, if_pos rfl, if_pos (by omega), if_pos (by omega)]) (Ev.now _)
      · rw [rd52 F n (by omega)]
        exact (ok.small _ (List.getElem_mem (by omega))).1
  · obtain ⟨s, p', h, hz⟩ := rest (Or.inl c)
    exact ⟨s, p', Ev.bind ha (Ev.bind hb (Ev.congr (fun k => if_neg c) h)), hz⟩
theorem drawAppend_ev (l : List Int) (hl : ∀ x ∈ l, 0 ≤ x ∧ x ≤ 255) (hlen : l.length ≤ 1048576) :
    ∃ F q f s d, Ev (fun k => spec_DrawFsAppend.f k l) (F, q, f, s, d) ∧ FSOk F q f 201 121 1048577 ∧ s.size ≤ 121 ∧ d.size ≤ 15 := by
  obtain ⟨F, q, f, p, hF, ok, p0, p1⟩ := anyFS_ev l hl hlen
  obtain ⟨s, p', hs, hz, q0, q1⟩ := someName_ev l hl hlen p ⟨p0, p1⟩ F q f ok
  obtain ⟨n, hn, n0, _, n1⟩ := take_ev l hl hlen p' 16 (by omega) (by omega)
  have n1 := n1 (by omega)
  exact ⟨F, q, f, s, rep (⟨#[119]⟩ : ByteArray) n.toNat, Ev.bind hF (Ev.bind hs (Ev.bind hn (Ev.bind (Ev.pure (fun _ => long_ev n _ rfl n0 (by omega))) (Ev.now _)))), ok, hz, by rw [rep_size rfl]; omega⟩
end Go.Proofs.Ytbppijlcmeidaaa.M
end
section
/- The specification's ValidFS at larger directories (MValid's proofs, the bound alone changed). Condition: at most 2 to the 40 bytes of data, 2 to the 20 files. -/
namespace Go.Proofs.Ytbppijlcmeidaaa.M
open Go.RowKit Go.Proofs.Ytbppijlcmeidaaa.P Go.Proofs.YtbppijlcmeidaaaW.PrintWords Go.Proofs.YtbppijlcmeidaaaW.PrintLast Go.Proofs.YtbppijlcmeidaaaW.PrintMore
set_option linter.unusedVariables false
theorem specTotal_loopB (l : List S52) (q f : Int) (ht : total l ≤ 1099511627776) (hl : l.length ≤ 1048576) : ∀ d i : Nat, i + d = l.length → Ev (fun k => spec_l1Total.l0 k (total (l.take i) : Int) (i : Int) l q f) (total l : Int) := by
  intro d
  induction d with
  | zero =>
    intro i hi
    refine Ev.step (f := fun _ => some (total (l.take i) : Int)) (fun k => ?_) ?_
    · rw [spec_l1Total.l0, if_neg (by omega)]
    · rw [List.take_of_length_le (by omega)]; exact Ev.now _
  | succ d ih =>
    intro i hi
    have hlt : i < l.length := by omega
    have h1 := total_take_succ l i hlt
    have h2 := total_take_le l (i + 1)
    refine Ev.step (fun k => ?_) (ih (i + 1) (by omega))
    rw [spec_l1Total.l0, if_pos (by omega), if_pos (by omega), rd52 l i hlt, wrap_succ (by omega), wrap_ok (by omega) (by omega), h1]
    rfl
theorem specTotal_eqB (l : List S52) (q f : Int) (ht : total l ≤ 1099511627776) (hl : l.length ≤ 1048576) : Ev (fun k => spec_l1Total.f k l q f) (total l : Int) :=
  specTotal_loopB l q f ht hl l.length 0 (by omega)

theorem specValid_loopB (l : List S52) (q f : Int) (ht : total l ≤ 1099511627776) (hl : l.length ≤ 1048576) (hn : ∀ x ∈ l, x.f0.size ≤ 1048576) : ∀ d i : Nat, i + d = l.length →
    Ev (fun k => spec_ValidFS.l0 k (i : Int) l q f) (okFrom (prev l i) (l.drop i) && decide (total l ≤ 1048576)) := by
  intro d
  induction d with
  | zero =>
    intro i hi
    rw [List.drop_eq_nil_of_le (by omega)]
    refine Ev.step (f := fun k => (spec_l1Total.f k l q f).bind fun t => some (decide (t ≤ 1048576))) (fun k => ?_) (Ev.bind (specTotal_eqB l q f ht hl) ⟨0, fun _ _ => ?_⟩)
    · rw [spec_ValidFS.l0, if_neg (by omega)]
    · by_cases hc : total l ≤ 1048576
      · rw [decide_eq_true (show ((total l : Nat) : Int) ≤ 1048576 by omega), decide_eq_true hc]; rfl
      · rw [decide_eq_false (show ¬ ((total l : Nat) : Int) ≤ 1048576 by omega), decide_eq_false hc]; rfl
  | succ d ih =>
    intro i hi
    have hlt : i < l.length := by omega
    have ih := ih (i + 1) (by omega)
    rw [prev_succ l i hlt] at ih
    rw [drop_at l i hlt, okFrom_cons]
    have hx : ∀ k, spec_ValidFS.l0 (k + 1) (i : Int) l q f = if nameOk l[i].f0 = true then (if l[i].f2 < 0 then spec_ValidFS.j2 k (i : Int) true l q f l[i].f0 l[i].f1 l[i].f2 else spec_ValidFS.j2 k (i : Int) (decide (l[i].f2 > (l[i].f1.size : Int))) l q f l[i].f0 l[i].f1 l[i].f2) else spec_ValidFS.j2 k (i : Int) true l q f l[i].f0 l[i].f1 l[i].f2 := by
      intro k
      rw [spec_ValidFS.l0, if_pos (by omega), if_pos (by omega), rd52 l i hlt, nameOk_spec]
      rfl
    by_cases c1 : nameOk l[i].f0 = true
    · by_cases c2 : l[i].f2 < 0
      · have e : fileOk l[i] = false := by unfold fileOk; rw [decide_eq_false (show ¬ 0 ≤ l[i].f2 by omega)]; simp
        rw [e, Bool.false_and, Bool.false_and, Bool.false_and]
        exact Ev.step (fun k => by rw [hx, if_pos c1, if_pos c2]) (specValid_end l q f (i : Int) _ _ _)
      · by_cases c3 : l[i].f2 > (l[i].f1.size : Int)
        · have e : fileOk l[i] = false := by unfold fileOk; rw [decide_eq_false (show ¬ l[i].f2 ≤ (l[i].f1.size : Int) by omega)]; simp
          rw [e, Bool.false_and, Bool.false_and, Bool.false_and]
          exact Ev.step (fun k => by rw [hx, if_pos c1, if_neg c2, decide_eq_true c3]) (specValid_end l q f (i : Int) _ _ _)
        · have e : fileOk l[i] = true := by unfold fileOk; rw [c1, decide_eq_true (show 0 ≤ l[i].f2 by omega), decide_eq_true (show l[i].f2 ≤ (l[i].f1.size : Int) by omega)]; rfl
          rw [e, Bool.true_and]
          refine Ev.step (f := fun k => spec_ValidFS.j2 k (i : Int) false l q f l[i].f0 l[i].f1 l[i].f2) (fun k => by rw [hx, if_pos c1, if_neg c2, decide_eq_false c3]) ?_
          by_cases c0 : i = 0
          · subst c0
            have e0 : prev l 0 = none := rfl
            rw [e0]
            refine Ev.step (fun k => ?_) ih
            rw [spec_ValidFS.j2, if_neg (by simp), if_neg (by omega), wrap_succ (by omega)]
          · have hpl : i - 1 < l.length := by omega
            have ep : prev l i = some (l[i - 1]).f0 := by unfold prev; rw [if_neg c0, getD_at l (i - 1) z52 hpl]
            rw [ep]
            have ew : wrap64 ((i : Int) - 1) = ((i - 1 : Nat) : Int) := by rw [wrap_ok] <;> omega
            have hle := less_eq (l[i - 1]).f0 l[i].f0 (by have := hn _ (List.getElem_mem hpl); omega)
            refine Ev.step (f := fun k => (spec_l1Less.f k (l[i - 1]).f0 l[i].f0).bind fun t => if t = true then spec_ValidFS.l0 k ((i + 1 : Nat) : Int) l q f else some false) (fun k => ?_) (Ev.bind hle ?_)
            · rw [spec_ValidFS.j2, if_neg (by simp), if_pos (by omega), ew, if_pos (by omega), if_pos (by omega), rd52 l (i - 1) hpl, wrap_succ (by omega)]
            · by_cases cl : lss (l[i - 1]).f0 l[i].f0 = true
              · refine Ev.congr (fun k => by rw [if_pos cl]) ?_
                have e9 : ((match some (l[i - 1]).f0 with | none => true | some b => lss b l[i].f0) && okFrom (some l[i].f0) (l.drop (i + 1))) = okFrom (some l[i].f0) (l.drop (i + 1)) := by
                  show (lss _ _ && _) = _
                  rw [cl, Bool.true_and]
                rw [e9]; exact ih
              · refine Ev.congr (fun k => by rw [if_neg cl]) ?_
                have e9 : ((match some (l[i - 1]).f0 with | none => true | some b => lss b l[i].f0) && okFrom (some l[i].f0) (l.drop (i + 1)) && decide (total l ≤ 1048576)) = false := by
                  show (lss _ _ && _ && _) = _
                  rw [Bool.eq_false_iff.2 cl]; rfl
                rw [e9]; exact Ev.now _
    · have e : fileOk l[i] = false := by unfold fileOk; rw [Bool.eq_false_iff.2 c1]; rfl
      rw [e, Bool.false_and, Bool.false_and, Bool.false_and]
      exact Ev.step (fun k => by rw [hx, if_neg c1]) (specValid_end l q f (i : Int) _ _ _)

theorem specValid_eqB (l : List S52) (q f : Int) (ht : total l ≤ 1099511627776) (hl : l.length ≤ 1048576) (hn : ∀ x ∈ l, x.f0.size ≤ 1048576) : Ev (fun k => spec_ValidFS.f k l q f) (validB l q f) := by
  have hend : Ev (fun k => spec_ValidFS.j0 k true l q f) false := by
    refine Ev.step (f := fun _ => some false) (fun k => ?_) (Ev.now _)
    rw [spec_ValidFS.j0, if_pos rfl]
  unfold validB
  by_cases c1 : l.length ≤ 200
  · by_cases c2 : 0 ≤ q
    · by_cases c3 : q ≤ 1048576
      · by_cases c4 : -1 ≤ f
        · rw [decide_eq_true c1, decide_eq_true c2, decide_eq_true c3, decide_eq_true c4, Bool.true_and, Bool.true_and, Bool.true_and, Bool.true_and]
          have hL := specValid_loopB l q f ht hl hn l.length 0 (by omega)
          refine Ev.congr (f := fun k => spec_ValidFS.j0 k false l q f) (fun k => ?_) (Ev.step (fun k => ?_) hL)
          · unfold spec_ValidFS.f
            rw [if_neg (by omega), if_neg (by omega), if_neg (by omega), decide_eq_false (by omega)]
          · rw [spec_ValidFS.j0, if_neg (by simp)]; rfl
        · rw [decide_eq_false c4, Bool.and_false, Bool.false_and, Bool.false_and]
          refine Ev.congr (fun k => ?_) hend
          unfold spec_ValidFS.f
          rw [if_neg (by omega), if_neg (by omega), if_neg (by omega), decide_eq_true (by omega)]
      · rw [decide_eq_false c3, Bool.and_false, Bool.false_and, Bool.false_and, Bool.false_and]
        refine Ev.congr (fun k => ?_) hend
        unfold spec_ValidFS.f
        rw [if_neg (by omega), if_neg (by omega), if_pos (by omega)]
    · rw [decide_eq_false c2, Bool.and_false, Bool.false_and, Bool.false_and, Bool.false_and, Bool.false_and]
      refine Ev.congr (fun k => ?_) hend
      unfold spec_ValidFS.f
      rw [if_neg (by omega), if_pos (by omega)]
  · rw [decide_eq_false c1, Bool.false_and, Bool.false_and, Bool.false_and, Bool.false_and, Bool.false_and]
    refine Ev.congr (fun k => ?_) hend
    unfold spec_ValidFS.f
    rw [if_pos (by omega)]
end Go.Proofs.Ytbppijlcmeidaaa.M
end
section
/- The specification's steps answer what the program's do. Condition: the directory is within the law's bounds. -/
namespace Go.Proofs.Ytbppijlcmeidaaa.M
open Go.RowKit Go.Proofs.Ytbppijlcmeidaaa.P Go.Proofs.YtbppijlcmeidaaaW.PrintWords Go.Proofs.YtbppijlcmeidaaaW.PrintLast Go.Proofs.YtbppijlcmeidaaaW.PrintMore
set_option linter.unusedVariables false
theorem step1_code (f : Int) (s : ByteArray) : stepCode f [s] = if f = 0 then 8 else if nameOk s = true then 0 else 2 := by
  unfold stepCode namesCode
  by_cases z : f = 0
  · rw [if_pos z, if_pos z]
  · rw [if_neg z, if_neg z]
    by_cases n : nameOk s = true
    · rw [if_pos n, if_pos (by simp [n])]
    · rw [if_neg n, if_neg (by simp [n])]
theorem nameOk_size {s : ByteArray} (h : nameOk s = true) : s.size ≤ 1048576 := by
  unfold nameOk at h
  simp only [Bool.and_eq_true, decide_eq_true_eq] at h
  omega
abbrev T4 := List S52 × Int × Int × Int
/-- A step of one name: what is left to show of it. -/
theorem step1_ev {G : Nat → Option T4} {H : Nat → T4 → Option T4} {l : List S52} {q f : Int} {s : ByteArray} {op : List S52 × Int} (ht : total l ≤ 1048576) (hl : l.length ≤ 1048576) (hn : ∀ x ∈ l, x.f0.size ≤ 1048576) (hf : f ≤ 9223372036854775807)
    (hG : ∀ k, G k = (spec_l1Begin.f k l q f).bind fun bt => (if bt.2.2.2 = 0 then ((spec_l1NameOk.f s).bind fun t => (if t = true then H k bt else (some (bt.1, bt.2.1, bt.2.2.1, 2)))) else (some (bt.1, bt.2.1, bt.2.2.1, bt.2.2.2))))
    (hH : validB l q f = true → nameOk s = true → Ev (fun k => H k (l, q, fuel' f, 0)) (op.1, q, fuel' f, op.2)) : Ev G (fsRes l q f (stepOf f [s] l op)) := by
  refine Ev.congr hG (Ev.bind (specBegin_eq l q f ht hl hn hf) ?_)
  unfold fsRes stepOf
  rw [step1_code]
  by_cases c : validB l q f = true
  · rw [if_pos c, if_pos c]
    by_cases z : f = 0
    · rw [if_pos z, if_pos z, if_neg (by decide)]
      exact Ev.pure (fun k => if_neg (show ¬ (8 : Int) = 0 by decide))
    · rw [if_neg z, if_neg z]
      refine Ev.congr (fun k => if_pos rfl) ?_
      rw [nameOk_spec]
      by_cases n : nameOk s = true
      · rw [n, if_pos rfl, if_pos rfl]
        exact Ev.congr (f := fun k => H k (l, q, fuel' f, 0)) (fun k => rfl) (hH c n)
      · rw [Bool.eq_false_iff.2 n, if_neg (by decide), if_neg (by decide)]
        exact Ev.pure (fun k => rfl)
  · rw [if_neg c, if_neg c]
    exact Ev.pure (fun k => if_neg (show ¬ (9 : Int) = 0 by decide))
end Go.Proofs.Ytbppijlcmeidaaa.M
end

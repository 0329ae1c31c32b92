/- The specification's search by name in files that are in order: what it prints to. Condition: the files are in order. -/
import Derived.Test.YtbppijlcmeidaaaMFsFind
import Derived.Test.YtbppijlcmeidaaaPspecFsFind
namespace Go.Proofs.Ytbppijlcmeidaaa.M
open Go.RowKit Go.Proofs.Ytbppijlcmeidaaa.P Go.Proofs.YtbppijlcmeidaaaW.PrintWords Go.Proofs.YtbppijlcmeidaaaW.PrintLast Go.Proofs.YtbppijlcmeidaaaW.PrintMore
set_option linter.unusedVariables false

theorem Ev.pure {α : Type} {g : Nat → Option α} {r : α} (h : ∀ k, g k = some r) : Ev g r := ⟨0, fun k _ => h k⟩
/-- What the weight says of the directory. -/
theorem weight_says (l : List S80) (h : weight l ≤ 1048576) : l.length ≤ 1048576 ∧ total (l.map conv) ≤ 1048576 ∧ ∀ x ∈ l.map conv, x.f0.size ≤ 1048576 ∧ x.f1.size ≤ 1048576 := by
  have hsum : ∀ l : List S80, total (l.map conv) ≤ (l.map fun x => x.f0.size + x.f1.size).sum ∧ ∀ x ∈ l, x.f0.size + x.f1.size ≤ (l.map fun x => x.f0.size + x.f1.size).sum := by
    intro l
    induction l with
    | nil => exact ⟨by simp [total], by simp⟩
    | cons x l ih =>
      refine ⟨?_, fun y hy => ?_⟩
      · have := ih.1
        show x.f1.size + total (l.map conv) ≤ x.f0.size + x.f1.size + (l.map fun x => x.f0.size + x.f1.size).sum
        omega
      · show y.f0.size + y.f1.size ≤ x.f0.size + x.f1.size + (l.map fun x => x.f0.size + x.f1.size).sum
        rcases List.mem_cons.1 hy with rfl | hy
        · omega
        · have := ih.2 y hy
          omega
  obtain ⟨h1, h2⟩ := hsum l
  unfold weight at h
  refine ⟨by omega, by omega, fun x hx => ?_⟩
  obtain ⟨y, hy, rfl⟩ := List.mem_map.1 hx
  have := h2 y hy
  exact ⟨by show y.f0.size ≤ _; omega, by show y.f1.size ≤ _; omega⟩
theorem countP_mono {α : Type} (p : α → Bool) : ∀ (l : List α), l.Pairwise (fun a b => p b = true → p a = true) → ∀ t x, l[t]? = some x → (p x = true ↔ t < l.countP p)
  | [], _, t, x, h => by simp at h
  | a :: r, hp, t, x, h => by
    have h1 := (List.pairwise_cons.1 hp).1
    have h2 := (List.pairwise_cons.1 hp).2
    by_cases ha : p a = true
    · rw [List.countP_cons_of_pos ha]
      cases t with
      | zero =>
        have : a = x := by simpa using h
        subst this
        simp [ha]
      | succ t =>
        have := countP_mono p r h2 t x (by simpa using h)
        rw [this]; omega
    · have hz : (a :: r).countP p = 0 := by
        rw [List.countP_eq_zero]
        intro y hy
        rcases List.mem_cons.1 hy with rfl | hy
        · exact ha
        · exact fun h => ha (h1 y hy h)
      rw [hz]
      constructor
      · intro hx
        exfalso
        cases t with
        | zero =>
          have : a = x := by simpa using h
          subst this
          exact ha hx
        | succ t => exact ha (h1 x (List.mem_of_getElem? (i := t) (by simpa using h)) hx)
      · intro h; omega
theorem sorted_pairwise {l : List S52} (h : Sorted l) : l.Pairwise (fun x y => lss x.f0 y.f0 = true) := by
  rw [List.pairwise_iff_getElem]
  intro i j hi hj hij
  have := h i j hij hj
  rwa [rd52 l i hi, rd52 l j hj] at this
theorem pos_iff {l : List S52} (hs : Sorted l) (s : ByteArray) (t : Nat) (ht : t < l.length) : lss (rd_T52 l (t : Int)).f0 s = true ↔ t < pos l s := by
  rw [rd52 l t ht]
  exact countP_mono (fun x => lss x.f0 s) l ((sorted_pairwise hs).imp (fun hab hb => lss_trans hab hb)) t l[t] (List.getElem?_eq_getElem ht)
theorem pos_le (l : List S52) (s : ByteArray) : pos l s ≤ l.length := List.countP_le_length
theorem cmp3_zero {a b : ByteArray} (h : cmp3 a b = 0) : a = b := by
  unfold cmp3 at h
  by_cases c1 : lss a b = true
  · rw [if_pos c1] at h; omega
  · rw [if_neg c1] at h
    by_cases c2 : lss b a = true
    · rw [if_pos c2] at h; omega
    · exact lss_total (Bool.eq_false_iff.2 c1) (Bool.eq_false_iff.2 c2)
theorem cmp3_self (a : ByteArray) : cmp3 a a = 0 := by
  unfold cmp3
  rw [lss_irrefl]
  simp
/-- A name is there just where some file has it. -/
theorem there_name {l : List S52} {s : ByteArray} (h : there l s = true) : (rd_T52 l (pos l s : Int)).f0 = s := by
  unfold there at h
  simp only [Bool.and_eq_true, decide_eq_true_eq] at h
  exact cmp3_zero h.2
theorem there_of {l : List S52} (hs : Sorted l) {s : ByteArray} {t : Nat} (ht : t < l.length) (he : (rd_T52 l (t : Int)).f0 = s) : pos l s = t ∧ there l s = true := by
  have h1 : ¬ t < pos l s := by
    rw [← pos_iff hs s t ht, he, lss_irrefl]
    simp
  have h2 : ¬ pos l s < t := by
    intro hlt
    have h3 := hs (pos l s) t hlt ht
    rw [he] at h3
    have := (pos_iff hs s (pos l s) (by omega)).1 h3
    omega
  have e : pos l s = t := by omega
  refine ⟨e, ?_⟩
  unfold there
  rw [e, he, cmp3_self, decide_eq_true ht]
  rfl

def atOf (l : List S52) (s : ByteArray) : Int := if there l s = true then (pos l s : Int) else -1
theorem specAt_loop (l : List S52) (q f : Int) (s : ByteArray) (hs : Sorted l) (hl : l.length ≤ 1048576) : ∀ d i : Nat, i + d = l.length → (there l s = true → i ≤ pos l s) →
    Ev (fun k => spec_l1At.l0 k s (i : Int) l q f) (atOf l s) := by
  intro d
  induction d with
  | zero =>
    intro i hi hp
    have hn : ¬ there l s = true := fun h => by have := there_lt h; have := hp h; omega
    refine Ev.step (f := fun _ => some (-1)) (fun k => ?_) ?_
    · rw [spec_l1At.l0, if_neg (by omega)]
    · unfold atOf; rw [if_neg hn]; exact Ev.now _
  | succ d ih =>
    intro i hi hp
    have hlt : i < l.length := by omega
    by_cases c : (rd_T52 l (i : Int)).f0 = s
    · obtain ⟨e, ht⟩ := there_of hs hlt c
      refine Ev.step (f := fun _ => some (i : Int)) (fun k => ?_) ?_
      · rw [spec_l1At.l0, if_pos (by omega), if_pos (by omega), if_pos (by rw [c])]
      · unfold atOf; rw [if_pos ht, e]; exact Ev.now _
    · refine Ev.step (fun k => ?_) (ih (i + 1) (by omega) (fun h => ?_))
      · rw [spec_l1At.l0, if_pos (by omega), if_pos (by omega), if_neg (fun h => c (toList_inj h)), wrap_succ (by omega)]
      · have h1 := hp h
        have h2 := there_name h
        rcases Nat.eq_or_lt_of_le h1 with h3 | h3
        · rw [← h3] at h2; exact absurd h2 c
        · omega
theorem specAt_eq (l : List S52) (q f : Int) (s : ByteArray) (hs : Sorted l) (hl : l.length ≤ 1048576) : Ev (fun k => spec_l1At.f k l q f s) (atOf l s) :=
  Ev.congr (fun _ => rfl) (specAt_loop l q f s hs hl l.length 0 (by omega) (fun _ => Nat.zero_le _))
theorem specData_eq (l : List S52) (q f : Int) (s : ByteArray) (hs : Sorted l) (hl : l.length ≤ 1048576) : Ev (fun k => spec_l1Data.f k l q f s) (dataAt l s, there l s) := by
  refine Ev.bind (specAt_eq l q f s hs hl) (Ev.pure (fun k => ?_))
  unfold atOf dataAt
  by_cases c : there l s = true
  · have := there_lt c
    rw [if_pos c, if_pos c, if_neg (by omega), if_pos (by omega), if_pos (by omega), c]
  · rw [if_neg c, if_neg c, if_pos (by omega), Bool.eq_false_iff.2 c]
theorem specFind_eq (l : List S52) (q f : Int) (s : ByteArray) (ht : total l ≤ 1048576) (hl : l.length ≤ 1048576) (hn : ∀ x ∈ l, x.f0.size ≤ 1048576) : Ev (fun k => spec_FsFind.f k l q f s) (fsFind l q f s) := by
  refine Ev.bind (specValid_eq l q f ht hl hn) ?_
  unfold fsFind
  by_cases c : validB l q f = true
  · rw [if_pos c]
    refine Ev.congr (fun k => if_pos c) (Ev.bind (specData_eq l q f s (valid_sorted c) hl) (Ev.pure (fun _ => rfl)))
  · rw [if_neg c]
    exact Ev.pure (fun k => if_neg c)
end Go.Proofs.Ytbppijlcmeidaaa.M

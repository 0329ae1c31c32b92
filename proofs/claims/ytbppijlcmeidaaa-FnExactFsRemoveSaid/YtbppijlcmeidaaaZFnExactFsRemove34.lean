/- Texts of the claim FnExactFsRemove, part 34 of 34, joined: MPut, MSpecStep, MSpecRemove, MMark, PureFnExactFsRemove, RowFnExactFsRemove. No condition beyond those that stand at each. -/
import Derived.Test.YtbppijlcmeidaaaZFnExactFsRemove33
import Derived.Test.YtbppijlcmeidaaaZFnExactFsRemove28
import Derived.Test.YtbppijlcmeidaaaZFnExactFsRemove31
import Derived.Test.YtbppijlcmeidaaaZFnExactFsRemove29
import Derived.Test.YtbppijlcmeidaaaZFnExactFsRemove32
import Derived.Test.YtbppijlcmeidaaaRows
import Derived.Test.YtbppijlcmeidaaaZFnExactFsRemove27
import Derived.WalkKit
import Derived.ProofKit
import Derived.OpenShut
import Derived.ShutString
import Derived.ChangeOld
import Derived.Below
import Derived.SizedLaws
section
/- The specification's files without one and with one, for files in order: what they print to. Condition: the files are in order and not too many. -/
namespace Go.Proofs.Ytbppijlcmeidaaa.M
open Go.RowKit Go.Proofs.Ytbppijlcmeidaaa.P Go.Proofs.YtbppijlcmeidaaaW.PrintWords Go.Proofs.YtbppijlcmeidaaaW.PrintLast Go.Proofs.YtbppijlcmeidaaaW.PrintMore
set_option linter.unusedVariables false
/-- The files but those of a name. -/
def but (l : List S52) (s : ByteArray) : List S52 := l.filter fun x => decide (x.f0 ≠ s)
theorem but_snoc (l : List S52) (x : S52) (s : ByteArray) : but (l ++ [x]) s = but l s ++ (if x.f0 = s then [] else [x]) := by
  unfold but
  rw [List.filter_append]
  congr 1
  by_cases h : x.f0 = s
  · rw [if_pos h]; simp [h]
  · rw [if_neg h]; simp [h]
theorem but_length (l : List S52) (s : ByteArray) : (but l s).length ≤ l.length := List.length_filter_le _ _
theorem without_loop (l : List S52) (s : ByteArray) (hl : l.length ≤ 1048576) : ∀ d i : Nat, i + d = l.length → Ev (fun k => spec_l1Without.l0 k l s (but (l.take i) s) (i : Int)) (but l s) := by
  intro d
  induction d with
  | zero =>
    intro i hi
    refine Ev.step (f := fun _ => some (but l s)) (fun k => ?_) (Ev.now _)
    rw [spec_l1Without.l0, if_neg (by omega), List.take_of_length_le (by omega)]
  | succ d ih =>
    intro i hi
    have hlt : i < l.length := by omega
    have h2 := ih (i + 1) (by omega)
    have hb := but_length (l.take i) s
    rw [List.length_take] at hb
    rw [take_at l i hlt, but_snoc] at h2
    by_cases c : l[i].f0 = s
    · rw [if_pos c, List.append_nil] at h2
      refine Ev.step (fun k => ?_) h2
      rw [spec_l1Without.l0, if_pos (by omega), if_pos (by omega), rd52 l i hlt, if_pos (by rw [c]), wrap_succ (by omega)]
    · rw [if_neg c] at h2
      refine Ev.step (fun k => ?_) h2
      rw [spec_l1Without.l0, if_pos (by omega), if_pos (by omega), rd52 l i hlt, if_neg (fun h => c (toList_inj h)), if_pos (by omega), wrap_succ (by omega)]
theorem without_eq (l : List S52) (s : ByteArray) (hl : l.length ≤ 1048576) : Ev (fun k => spec_l1Without.f k l s) (but l s) := without_loop l s hl l.length 0 (by omega)

/-- One put ahead of the first that is behind it. -/
def putIn (x : S52) : List S52 → List S52
  | [] => [x]
  | y :: l => if lss x.f0 y.f0 = true then x :: y :: l else y :: putIn x l
theorem putIn_at (x : S52) (A C : List S52) (hA : ∀ a ∈ A, lss x.f0 a.f0 = false) (hC : ∀ c ∈ C.head?, lss x.f0 c.f0 = true) : putIn x (A ++ C) = A ++ x :: C := by
  induction A with
  | nil =>
    cases C with
    | nil => rfl
    | cons c C => show (if _ then _ else _) = _; rw [if_pos (hC c rfl)]; rfl
  | cons a A ih =>
    show (if lss x.f0 a.f0 = true then x :: a :: (A ++ C) else a :: putIn x (A ++ C)) = a :: (A ++ x :: C)
    rw [if_neg (by rw [hA a (by simp)]; simp), ih (fun b hb => hA b (by simp [hb]))]
theorem with_done (m : List S52) (x : S52) (hm : m.length ≤ 1048576) : ∀ d i : Nat, i + d = m.length → ∀ acc : List S52, acc.length + m.length ≤ 4194304 + i →
    Ev (fun k => spec_l1With.l0 k m acc true (i : Int) x.f0 x.f1 x.f2) (acc ++ m.drop i) := by
  intro d
  induction d with
  | zero =>
    intro i hi acc ha
    refine Ev.step (f := fun _ => some (acc ++ m.drop i)) (fun k => ?_) (Ev.now _)
    rw [spec_l1With.l0, if_neg (by omega), if_pos rfl, List.drop_eq_nil_of_le (by omega), List.append_nil]
  | succ d ih =>
    intro i hi acc ha
    have hlt : i < m.length := by omega
    have h2 := ih (i + 1) (by omega) (acc ++ [m[i]]) (by simp; omega)
    rw [List.append_assoc, List.singleton_append, ← drop_at m i hlt] at h2
    refine Ev.step (fun k => ?_) h2
    rw [spec_l1With.l0, if_pos (by omega), if_pos rfl, if_pos (by omega), rd52 m i hlt, if_pos (by omega), wrap_succ (by omega)]
theorem with_loop (m : List S52) (x : S52) (hm : m.length ≤ 1048576) (hx : x.f0.size ≤ 1048576) : ∀ d i : Nat, i + d = m.length →
    Ev (fun k => spec_l1With.l0 k m (m.take i) false (i : Int) x.f0 x.f1 x.f2) (m.take i ++ putIn x (m.drop i)) := by
  intro d
  induction d with
  | zero =>
    intro i hi
    refine Ev.step (f := fun _ => some (m.take i ++ [x])) (fun k => ?_) ?_
    · rw [spec_l1With.l0, if_neg (by omega), if_neg (by simp), if_pos (by rw [List.length_take]; omega)]
    · rw [List.drop_eq_nil_of_le (by omega)]; exact Ev.now _
  | succ d ih =>
    intro i hi
    have hlt : i < m.length := by omega
    have ht : (m.take i).length = i := by rw [List.length_take]; omega
    have hs := less_eq x.f0 m[i].f0 (by omega)
    rw [drop_at m i hlt]
    have e4 : wrap64 ((i : Int) + 1) = ((i + 1 : Nat) : Int) := wrap_succ (by omega)
    by_cases c : lss x.f0 m[i].f0 = true
    · rw [c] at hs
      have h2 := with_done m x hm d (i + 1) (by omega) (m.take i ++ [x] ++ [m[i]]) (by simp; omega)
      have e : m.take i ++ putIn x (m[i] :: m.drop (i + 1)) = m.take i ++ [x] ++ [m[i]] ++ m.drop (i + 1) := by
        show m.take i ++ (if _ then _ else _) = _
        rw [if_pos c]; simp
      rw [e]
      refine Ev.step (f := fun k => (spec_l1Less.f k x.f0 m[i].f0).bind fun t => (if t = true then (spec_l1With.l0 k m (m.take i ++ [x] ++ [m[i]]) true ((i + 1 : Nat) : Int) x.f0 x.f1 x.f2) else (spec_l1With.l0 k m (m.take i ++ [m[i]]) false ((i + 1 : Nat) : Int) x.f0 x.f1 x.f2))) (fun k => ?_) (Ev.bind hs (Ev.congr (fun k => if_pos rfl) h2))
      rw [spec_l1With.l0, if_pos (by omega), if_neg (by simp), if_pos (by omega), rd52 m i hlt, e4, if_pos (by omega), Option.bind_some, if_pos (by rw [List.length_append, ht]; simp; omega)]
      simp only [if_pos (show (m.take i).length < 3518437208883 by omega)]
    · rw [Bool.eq_false_iff.2 c] at hs
      have h2 := ih (i + 1) (by omega)
      rw [take_at m i hlt] at h2
      have e : m.take i ++ putIn x (m[i] :: m.drop (i + 1)) = m.take i ++ [m[i]] ++ putIn x (m.drop (i + 1)) := by
        show m.take i ++ (if lss x.f0 m[i].f0 = true then x :: m[i] :: m.drop (i + 1) else m[i] :: putIn x (m.drop (i + 1))) = _
        rw [if_neg c, List.append_assoc]; rfl
      rw [e]
      refine Ev.step (f := fun k => (spec_l1Less.f k x.f0 m[i].f0).bind fun t => (if t = true then (spec_l1With.l0 k m (m.take i ++ [x] ++ [m[i]]) true ((i + 1 : Nat) : Int) x.f0 x.f1 x.f2) else (spec_l1With.l0 k m (m.take i ++ [m[i]]) false ((i + 1 : Nat) : Int) x.f0 x.f1 x.f2))) (fun k => ?_) (Ev.bind hs (Ev.congr (fun k => if_neg (by simp)) h2))
      rw [spec_l1With.l0, if_pos (by omega), if_neg (by simp), if_pos (by omega), rd52 m i hlt, e4, if_pos (by omega), Option.bind_some, if_pos (by rw [List.length_append, ht]; simp; omega)]
      simp only [if_pos (show (m.take i).length < 3518437208883 by omega)]
theorem with_eq (l : List S52) (n d : ByteArray) (y : Int) (hl : l.length ≤ 1048576) (hn : n.size ≤ 1048576) : Ev (fun k => spec_l1With.f k l n d y) (putIn ⟨n, d, y⟩ (but l n)) :=
  Ev.bind (without_eq l n hl) (with_loop (but l n) ⟨n, d, y⟩ (Nat.le_trans (but_length l n) hl) hn (but l n).length 0 (by omega))

/-- Files in order fall into those ahead of a name, one of the name or none, those behind it. -/
theorem split_at {l : List S52} (h : Sorted l) (s : ByteArray) : ∃ A m C, l = A ++ m ++ C ∧ A.length = pos l s ∧ (∀ a ∈ A, lss a.f0 s = true) ∧ (∀ c ∈ C, lss s c.f0 = true) ∧ ((there l s = true ∧ ∃ y, m = [y] ∧ y.f0 = s) ∨ (there l s = false ∧ m = [])) := by
  have hp := pos_le l s
  have hA : ∀ a ∈ l.take (pos l s), lss a.f0 s = true := by
    intro a ha
    obtain ⟨t, ht, rfl⟩ := List.mem_iff_getElem.1 ha
    rw [List.length_take] at ht
    have := (pos_iff h s t (by omega)).2 (by omega)
    rw [rd52 l t (by omega)] at this
    rw [List.getElem_take]; exact this
  have hC : ∀ t (ht : t < l.length), pos l s ≤ t → lss l[t].f0 s = false := by
    intro t ht hpt
    rw [Bool.eq_false_iff]
    intro hh
    have := (pos_iff h s t ht).1 (by rw [rd52 l t ht]; exact hh)
    omega
  have hgt : ∀ t (ht : t < l.length), pos l s ≤ t → l[t].f0 ≠ s → lss s l[t].f0 = true := by
    intro t ht hpt hne
    cases e : lss s l[t].f0 with
    | true => rfl
    | false => exact absurd (lss_total (hC t ht hpt) e) hne
  by_cases ht : there l s = true
  · have hlt := there_lt ht
    have hname := there_name ht
    rw [rd52 l _ hlt] at hname
    refine ⟨l.take (pos l s), [l[pos l s]], l.drop (pos l s + 1), ?_, by rw [List.length_take]; omega, hA, fun c hc => ?_, .inl ⟨ht, _, rfl, hname⟩⟩
    · rw [List.append_assoc, List.singleton_append, ← drop_at l _ hlt, List.take_append_drop]
    · obtain ⟨t, ht', rfl⟩ := List.mem_iff_getElem.1 hc
      have hl' : pos l s + 1 + t < l.length := by rw [List.length_drop] at ht'; omega
      rw [List.getElem_drop]
      refine hgt _ hl' (by omega) (fun he => ?_)
      have h3 := (there_of h hl' (by rw [rd52 l _ hl', he])).1
      have h4 : pos l s = pos l s + 1 + t := h3
      omega
  · refine ⟨l.take (pos l s), [], l.drop (pos l s), ?_, by rw [List.length_take]; omega, hA, fun c hc => ?_, .inr ⟨Bool.eq_false_iff.2 ht, rfl⟩⟩
    · rw [List.append_nil, List.take_append_drop]
    · obtain ⟨t, ht', rfl⟩ := List.mem_iff_getElem.1 hc
      have hl' : pos l s + t < l.length := by rw [List.length_drop] at ht'; omega
      rw [List.getElem_drop]
      refine hgt _ hl' (by omega) (fun he => ?_)
      exact ht (there_of h hl' (by rw [rd52 l _ hl']; exact he)).2
theorem lss_ne {a b : ByteArray} (h : lss a b = true) : a ≠ b := fun e => by rw [e, lss_irrefl] at h; cases h
theorem but_split {A m C : List S52} {s : ByteArray} (hA : ∀ a ∈ A, lss a.f0 s = true) (hC : ∀ c ∈ C, lss s c.f0 = true) (hm : ∀ y ∈ m, y.f0 = s) : but (A ++ m ++ C) s = A ++ C := by
  have h1 : A.filter (fun x => decide (x.f0 ≠ s)) = A := List.filter_eq_self.2 (fun a ha => by simpa using lss_ne (hA a ha))
  have h2 : C.filter (fun x => decide (x.f0 ≠ s)) = C := List.filter_eq_self.2 (fun c hc => by simpa using fun e : c.f0 = s => lss_ne (hC c hc) e.symm)
  have h3 : m.filter (fun x => decide (x.f0 ≠ s)) = [] := List.filter_eq_nil_iff.2 (fun y hy => by simp [hm y hy])
  unfold but
  rw [List.filter_append, List.filter_append, h1, h2, h3, List.append_nil]
theorem put_split {A C : List S52} {x : S52} (hA : ∀ a ∈ A, lss a.f0 x.f0 = true) (hC : ∀ c ∈ C, lss x.f0 c.f0 = true) : putIn x (A ++ C) = A ++ x :: C :=
  putIn_at x A C (fun a ha => lss_asymm (hA a ha)) (fun c hc => hC c (List.mem_of_mem_head? hc))
theorem but_gone {l : List S52} (h : Sorted l) {s : ByteArray} (ht : there l s = true) : but l s = l.eraseIdx (pos l s) := by
  obtain ⟨A, m, C, rfl, hp, hA, hC, ⟨_, y, rfl, hy⟩ | ⟨hf, _⟩⟩ := split_at h s
  · rw [but_split hA hC (by simpa using hy), ← hp, List.append_assoc, List.eraseIdx_append_of_length_le (Nat.le_refl _), Nat.sub_self]
    rfl
  · rw [hf] at ht; cases ht
theorem put_over {l : List S52} (h : Sorted l) {x : S52} (ht : there l x.f0 = true) : putIn x (but l x.f0) = l.set (pos l x.f0) x := by
  obtain ⟨A, m, C, e, hp, hA, hC, ⟨_, y, rfl, hy⟩ | ⟨hf, _⟩⟩ := split_at h x.f0
  · rw [← hp, e, but_split hA hC (by simpa using hy), put_split hA hC, List.append_assoc, List.set_append_right _ _ (Nat.le_refl _), Nat.sub_self]
    rfl
  · rw [hf] at ht; cases ht
theorem but_none {l : List S52} (h : Sorted l) {s : ByteArray} (ht : there l s = false) : but l s = l := by
  obtain ⟨A, m, C, e, hp, hA, hC, ⟨ht', _⟩ | ⟨_, rfl⟩⟩ := split_at h s
  · rw [ht] at ht'; cases ht'
  · rw [e, but_split hA hC (by simp), List.append_nil]
theorem put_new {l : List S52} (h : Sorted l) {x : S52} (ht : there l x.f0 = false) : putIn x (but l x.f0) = l.take (pos l x.f0) ++ x :: l.drop (pos l x.f0) := by
  obtain ⟨A, m, C, e, hp, hA, hC, ⟨ht', _⟩ | ⟨_, rfl⟩⟩ := split_at h x.f0
  · rw [ht] at ht'; cases ht'
  · rw [← hp, e, but_split hA hC (by simp), put_split hA hC, List.append_nil, List.take_left', List.drop_left'] <;> rfl
theorem but_empty {l : List S52} (h : okFrom none l = true) : but l ⟨#[]⟩ = l := by
  unfold but
  rw [List.filter_eq_self]
  intro x hx
  have := (okFrom_all h).1 x hx
  unfold fileOk nameOk at this
  simp only [Bool.and_eq_true, decide_eq_true_eq] at this
  have h1 := this.1.1.1
  simp only [decide_eq_true_eq]
  intro e
  rw [e] at h1
  exact absurd h1 (by decide)
/-- The specification's beginning of a step. -/
theorem specBegin_eq (l : List S52) (q f : Int) (ht : total l ≤ 1048576) (hl : l.length ≤ 1048576) (hn : ∀ x ∈ l, x.f0.size ≤ 1048576) (hf : f ≤ 9223372036854775807) :
    Ev (fun k => spec_l1Begin.f k l q f) (if validB l q f = true then (l, q, fuel' f, if f = 0 then 8 else 0) else ([], 0, 0, 9)) := by
  refine Ev.bind (specValid_eq l q f ht hl hn) ?_
  by_cases c : validB l q f = true
  · rw [c]
    have hb := but_empty (valid_parts c).2.2.2.2.1
    have hf0 := (valid_parts c).2.2.2.1
    refine Ev.congr (fun k => if_pos rfl) ?_
    by_cases z : f = 0
    · subst z
      refine Ev.congr (fun k => if_pos rfl) (Ev.bind (a := (l, q, 0)) (Ev.bind (without_eq l ⟨#[]⟩ hl) ?_) ?_)
      · rw [hb]; exact Ev.now _
      · exact Ev.now _
    · refine Ev.congr (fun k => if_neg z) (Ev.bind (a := (l, q, fuel' f)) (Ev.bind (without_eq l ⟨#[]⟩ hl) ?_) ?_)
      · rw [hb]
        refine Ev.pure (fun k => ?_)
        show (if true = true then (if f > 0 then some (l, q, wrap64 (f - 1)) else some (l, q, f)) else some (l, q, f)) = some (l, q, fuel' f)
        unfold fuel'
        by_cases p : f > 0
        · rw [if_pos rfl, if_pos p, if_pos p, wrap_ok (by omega) (by omega)]
        · rw [if_pos rfl, if_neg p, if_neg p]
      · rw [if_neg z]; exact Ev.now _
  · have c' := Bool.eq_false_iff.2 c
    rw [c']
    exact Ev.congr (fun k => if_neg (by simp)) (Ev.now _)
end Go.Proofs.Ytbppijlcmeidaaa.M
end
section
/- The specification's steps answer what the program's do. Condition: the directory is within the law's bounds. -/
namespace Go.Proofs.Ytbppijlcmeidaaa.M
open Go.RowKit Go.Proofs.Ytbppijlcmeidaaa.P Go.Proofs.YtbppijlcmeidaaaW.PrintWords Go.Proofs.YtbppijlcmeidaaaW.PrintLast Go.Proofs.YtbppijlcmeidaaaW.PrintMore
set_option linter.unusedVariables false
theorem step1_code (f : Int) (s : ByteArray) : stepCode f [s] = if f = 0 then 8 else if nameOk s = true then 0 else 2 := by
  unfold stepCode namesCode
  by_cases z : f = 0
  · rw [if_pos z, if_pos z]
  · rw [if_neg z, if_neg z]
    by_cases n : nameOk s = true
    · rw [if_pos n, if_pos (by simp [n])]
    · rw [if_neg n, if_neg (by simp [n])]
theorem nameOk_size {s : ByteArray} (h : nameOk s = true) : s.size ≤ 1048576 := by
  unfold nameOk at h
  simp only [Bool.and_eq_true, decide_eq_true_eq] at h
  omega
abbrev T4 := List S52 × Int × Int × Int
/-- A step of one name: what is left to show of it. -/
theorem step1_ev {G : Nat → Option T4} {H : Nat → T4 → Option T4} {l : List S52} {q f : Int} {s : ByteArray} {op : List S52 × Int} (ht : total l ≤ 1048576) (hl : l.length ≤ 1048576) (hn : ∀ x ∈ l, x.f0.size ≤ 1048576) (hf : f ≤ 9223372036854775807)
    (hG : ∀ k, G k = (spec_l1Begin.f k l q f).bind fun bt => (if bt.2.2.2 = 0 then ((spec_l1NameOk.f s).bind fun t => (if t = true then H k bt else (some (bt.1, bt.2.1, bt.2.2.1, 2)))) else (some (bt.1, bt.2.1, bt.2.2.1, bt.2.2.2))))
    (hH : validB l q f = true → nameOk s = true → Ev (fun k => H k (l, q, fuel' f, 0)) (op.1, q, fuel' f, op.2)) : Ev G (fsRes l q f (stepOf f [s] l op)) := by
  refine Ev.congr hG (Ev.bind (specBegin_eq l q f ht hl hn hf) ?_)
  unfold fsRes stepOf
  rw [step1_code]
  by_cases c : validB l q f = true
  · rw [if_pos c, if_pos c]
    by_cases z : f = 0
    · rw [if_pos z, if_pos z, if_neg (by decide)]
      exact Ev.pure (fun k => if_neg (show ¬ (8 : Int) = 0 by decide))
    · rw [if_neg z, if_neg z]
      refine Ev.congr (fun k => if_pos rfl) ?_
      rw [nameOk_spec]
      by_cases n : nameOk s = true
      · rw [n, if_pos rfl, if_pos rfl]
        exact Ev.congr (f := fun k => H k (l, q, fuel' f, 0)) (fun k => rfl) (hH c n)
      · rw [Bool.eq_false_iff.2 n, if_neg (by decide), if_neg (by decide)]
        exact Ev.pure (fun k => rfl)
  · rw [if_neg c, if_neg c]
    exact Ev.pure (fun k => if_neg (show ¬ (9 : Int) = 0 by decide))
theorem fsRes_length {l : List S52} {q f : Int} {ns : List ByteArray} {op : List S52 × Int} (hl : l.length ≤ 1048576) (hop : op.1.length ≤ 1048576) : (fsRes l q f (stepOf f ns l op)).1.length ≤ 1048576 := by
  unfold fsRes stepOf
  split
  · split
    · exact hop
    · exact hl
  · exact Nat.zero_le _
end Go.Proofs.Ytbppijlcmeidaaa.M
end
section
/- The specification's FsRemove answers what the program's does. Condition: the directory is within the law's bounds. -/
namespace Go.Proofs.Ytbppijlcmeidaaa.M
open Go.RowKit Go.Proofs.Ytbppijlcmeidaaa.P Go.Proofs.YtbppijlcmeidaaaW.PrintWords Go.Proofs.YtbppijlcmeidaaaW.PrintLast Go.Proofs.YtbppijlcmeidaaaW.PrintMore
set_option linter.unusedVariables false
section
variable (l : List S52) (q f : Int) (s : ByteArray) (ht : total l ≤ 1048576) (hl : l.length ≤ 1048576) (hn : ∀ x ∈ l, x.f0.size ≤ 1048576) (hf : f ≤ 9223372036854775807)
include ht hl hn hf
theorem specRemove_eq : Ev (fun k => spec_FsRemove.f k l q f s) (fsRes l q f (removeRes l f s)) := by
  refine step1_ev ht hl hn hf (fun k => rfl) (fun c n => ?_)
  have hs := valid_sorted c
  refine Ev.bind (specAt_eq l q f s hs hl) ?_
  unfold atOf removeOp
  by_cases e : there l s = true
  · rw [if_pos e, if_pos e, ← but_gone hs e]
    exact Ev.congr (fun k => if_neg (by omega)) (Ev.bind (without_eq l s hl) (Ev.now _))
  · rw [if_neg e, if_neg e]
    exact Ev.pure (fun k => if_pos (by decide))
end
theorem fsRemove_length (l : List S52) (q f : Int) (s : ByteArray) (hl : l.length ≤ 1048576) : (fsRes l q f (removeRes l f s)).1.length ≤ 1048576 := by
  refine fsRes_length hl ?_
  unfold removeOp
  split
  · exact Nat.le_trans (List.length_eraseIdx_le _ _) hl
  · exact hl
end Go.Proofs.Ytbppijlcmeidaaa.M
end
section
/- The laws' marks: what markFS writes heldFS finds. Condition: the row and the count are far from the end of the numbers. -/
namespace Go.Proofs.Ytbppijlcmeidaaa.M
open Go.RowKit Go.Proofs.Ytbppijlcmeidaaa.P Go.Proofs.YtbppijlcmeidaaaW.PrintWords Go.Proofs.YtbppijlcmeidaaaW.PrintLast Go.Proofs.YtbppijlcmeidaaaW.PrintMore
set_option linter.unusedVariables false
theorem size_strOfNums (a : Int) : (strOfNums [a]).size = 1 := rfl
theorem markText_ends : ∀ (n : Nat) (k : Nat) (acc : ByteArray), k ≤ n → acc.size + k ≤ 4611686018427387904 → ∃ t, Ev (fun j => laws_markText.l0 j (k : Int) acc) t := by
  intro n
  induction n with
  | zero =>
    intro k acc hk hs
    refine ⟨(⟨#[109]⟩ : ByteArray) ++ acc, Ev.step (f := fun _ => some ((⟨#[109]⟩ : ByteArray) ++ acc)) (fun j => ?_) (Ev.now _)⟩
    rw [laws_markText.l0, if_neg (by omega), if_pos (by omega)]
  | succ n ih =>
    intro k acc hk hs
    by_cases c : k = 0
    · refine ⟨(⟨#[109]⟩ : ByteArray) ++ acc, Ev.step (f := fun _ => some ((⟨#[109]⟩ : ByteArray) ++ acc)) (fun j => ?_) (Ev.now _)⟩
      rw [laws_markText.l0, if_neg (by omega), if_pos (by omega)]
    · have ht : Int.tdiv (k : Int) 10 = ((k / 10 : Nat) : Int) := by
        rw [Int.tdiv_eq_ediv_of_nonneg (by omega)]; omega
      have hsz := size_strOfNums ((wrap64 (48 + (Int.tmod (k : Int) 10))) % 256)
      obtain ⟨t, h⟩ := ih (k / 10) (strOfNums [(wrap64 (48 + (Int.tmod (k : Int) 10))) % 256] ++ acc) (by omega) (by rw [ByteArray.size_append, hsz]; omega)
      refine ⟨t, Ev.step (fun j => ?_) h⟩
      rw [laws_markText.l0, if_pos (by omega), Option.bind_some, if_pos (by rw [hsz]; omega), ht, wrap_ok (by omega) (by omega)]
theorem markText_all (k : Nat) (hk : k ≤ 4611686018427387904) : ∃ t, Ev (fun j => laws_markText.f j (k : Int)) t := by
  by_cases c : k = 0
  · exact ⟨_, Ev.pure (fun j => if_pos (by omega))⟩
  · obtain ⟨t, h⟩ := markText_ends k k ⟨#[]⟩ (Nat.le_refl _) (by show 0 + k ≤ _; omega)
    exact ⟨t, Ev.congr (fun j => if_neg (by omega)) h⟩
open Classical in
noncomputable def mt (k : Nat) : ByteArray := if h : ∃ t, Ev (fun j => laws_markText.f j (k : Int)) t then Classical.choose h else ⟨#[]⟩
theorem mt_eq (k : Nat) (hk : k ≤ 4611686018427387904) : Ev (fun j => laws_markText.f j (k : Int)) (mt k) := by
  unfold mt
  rw [dif_pos (markText_all k hk)]
  exact Classical.choose_spec (markText_all k hk)
noncomputable def marked : Nat → List S52 → List S52
  | _, [] => []
  | k, _ :: l => ⟨mt k, mt (k + 1), ((k + 2 : Nat) : Int)⟩ :: marked (k + 3) l
theorem marked_length (l : List S52) : ∀ k, (marked k l).length = l.length := by
  induction l with
  | nil => intro k; rfl
  | cons x l ih => intro k; show (marked (k + 3) l).length + 1 = l.length + 1; rw [ih]
theorem marked_append (a b : List S52) : ∀ k, marked k (a ++ b) = marked k a ++ marked (k + 3 * a.length) b := by
  induction a with
  | nil => intro k; rfl
  | cons x a ih =>
    intro k
    show _ :: marked (k + 3) (a ++ b) = _ :: (marked (k + 3) a ++ _)
    rw [ih, show k + 3 + 3 * a.length = k + 3 * (x :: a).length by simp; omega]
theorem set_here {α : Type} (a b : List α) (x y : α) (i : Nat) (h : a.length = i) : (a ++ x :: b).set i y = a ++ y :: b := by
  subst h
  rw [List.set_append_right _ _ (Nat.le_refl _), Nat.sub_self]
  rfl
theorem rd_here (a b : List S52) (x : S52) (i : Nat) (h : a.length = i) : rd_T52 (a ++ x :: b) (i : Int) = x := by
  subst h
  rw [rd52 _ _ (by simp)]
  simp
theorem markFileS_loop (l : List S52) (hl : l.length ≤ 1048577) : ∀ d i : Nat, i + d = l.length →
    Ev (fun j => laws_markFileS.l0 j (marked 1 (l.take i) ++ l.drop i) ((1 + 3 * i : Nat) : Int) (i : Int)) (((1 + 3 * l.length : Nat) : Int), marked 1 l) := by
  intro d
  induction d with
  | zero =>
    intro i hi
    refine Ev.step (f := fun _ => some (((1 + 3 * l.length : Nat) : Int), marked 1 l)) (fun j => ?_) (Ev.now _)
    have e : marked 1 (l.take i) ++ l.drop i = marked 1 l := by rw [List.drop_eq_nil_of_le (by omega), List.append_nil, List.take_of_length_le (by omega)]
    rw [e, laws_markFileS.l0, if_neg (by rw [marked_length]; omega), show i = l.length by omega]
  | succ d ih =>
    intro i hi
    have hlt : i < l.length := by omega
    have hm : (marked 1 (l.take i)).length = i := by rw [marked_length, List.length_take]; omega
    have hlen : (marked 1 (l.take i) ++ l.drop i).length = l.length := by rw [List.length_append, hm, List.length_drop]; omega
    rw [drop_at l i hlt] at hlen ⊢
    generalize hA : marked 1 (l.take i) = A at hm hlen ⊢
    have e1 : wrap64 (((1 + 3 * i : Nat) : Int) + 1) = ((1 + 3 * i + 1 : Nat) : Int) := by rw [wrap_ok] <;> omega
    have e2 : wrap64 (((1 + 3 * i + 1 : Nat) : Int) + 1) = ((1 + 3 * i + 2 : Nat) : Int) := by rw [wrap_ok] <;> omega
    have e3 : wrap64 (((1 + 3 * i + 2 : Nat) : Int) + 1) = ((1 + 3 * (i + 1) : Nat) : Int) := by rw [wrap_ok] <;> omega
    have e4 : wrap64 ((i : Int) + 1) = ((i + 1 : Nat) : Int) := wrap_succ (by omega)
    have h2 := ih (i + 1) (by omega)
    have e5 : marked 1 (l.take (i + 1)) ++ l.drop (i + 1) = A ++ ⟨mt (1 + 3 * i), mt (1 + 3 * i + 1), ((1 + 3 * i + 2 : Nat) : Int)⟩ :: l.drop (i + 1) := by
      rw [take_at l i hlt, marked_append, hA, List.length_take, Nat.min_eq_left (by omega), List.append_assoc]
      rfl
    rw [e5] at h2
    refine Ev.step (f := fun j => ((laws_markText.f j ((1 + 3 * i : Nat) : Int)).bind fun t231 => ((laws_markText.f j ((1 + 3 * i + 1 : Nat) : Int)).bind fun t233 => (laws_markFileS.l0 j (A ++ (⟨t231, t233, ((1 + 3 * i + 2 : Nat) : Int)⟩ : S52) :: l.drop (i + 1)) ((1 + 3 * (i + 1) : Nat) : Int) ((i + 1 : Nat) : Int))))) (fun j => ?_) (Ev.bind (mt_eq _ (by omega)) (Ev.bind (mt_eq _ (by omega)) h2))
    rw [laws_markFileS.l0, if_pos (by rw [hlen]; omega)]
    have e6 : ((0 : Int) ≤ (i : Int)) = True := eq_true (by omega)
    simp only [Option.bind_some, Int.toNat_natCast, e1, e2, e3, e4, e6, if_true, rd_here A _ _ i hm, set_here A _ _ _ i hm]
theorem markFS_eq (l : List S52) (q f : Int) (hl : l.length ≤ 1048577) : Ev (fun j => laws_markFS.f j l q f 1) (((1 + 3 * l.length : Nat) : Int), marked 1 l) := by
  refine Ev.bind (a := (((1 + 3 * l.length : Nat) : Int), marked 1 l)) ?_ (Ev.now _)
  have := markFileS_loop l hl l.length 0 (by omega)
  exact this
theorem heldFileS_loop (l : List S52) (hl : l.length ≤ 1048577) : ∀ d i : Nat, i + d = l.length →
    Ev (fun j => laws_heldFileS.l0 j (marked 1 l) ((1 + 3 * i : Nat) : Int) (i : Int)) ((1 + 3 * l.length : Nat) : Int) := by
  intro d
  induction d with
  | zero =>
    intro i hi
    refine Ev.step (f := fun _ => some ((1 + 3 * l.length : Nat) : Int)) (fun j => ?_) (Ev.now _)
    rw [laws_heldFileS.l0, if_neg (by rw [marked_length]; omega), show i = l.length by omega]
  | succ d ih =>
    intro i hi
    have hlt : i < l.length := by omega
    have hm : (marked 1 (l.take i)).length = i := by rw [marked_length, List.length_take]; omega
    have hlen := marked_length l 1
    have e0 : marked 1 l = marked 1 (l.take i) ++ ⟨mt (1 + 3 * i), mt (1 + 3 * i + 1), ((1 + 3 * i + 2 : Nat) : Int)⟩ :: marked (1 + 3 * i + 3) (l.drop (i + 1)) := by
      have : l = l.take i ++ l[i] :: l.drop (i + 1) := by rw [← drop_at l i hlt, List.take_append_drop]
      conv => lhs; rw [this, marked_append, List.length_take, Nat.min_eq_left (by omega)]
      rfl
    have e1 : wrap64 (((1 + 3 * i : Nat) : Int) + 1) = ((1 + 3 * i + 1 : Nat) : Int) := by rw [wrap_ok] <;> omega
    have e2 : wrap64 (((1 + 3 * i + 1 : Nat) : Int) + 1) = ((1 + 3 * i + 2 : Nat) : Int) := by rw [wrap_ok] <;> omega
    have e3 : wrap64 (((1 + 3 * i + 2 : Nat) : Int) + 1) = ((1 + 3 * (i + 1) : Nat) : Int) := by rw [wrap_ok] <;> omega
    have e4 : wrap64 ((i : Int) + 1) = ((i + 1 : Nat) : Int) := wrap_succ (by omega)
    have er : rd_T52 (marked 1 l) (i : Int) = ⟨mt (1 + 3 * i), mt (1 + 3 * i + 1), ((1 + 3 * i + 2 : Nat) : Int)⟩ := by rw [e0]; exact rd_here _ _ _ i hm
    have h2 := ih (i + 1) (by omega)
    refine Ev.step (f := fun j => ((laws_markText.f j ((1 + 3 * i : Nat) : Int)).bind fun t241 => (if (mt (1 + 3 * i)).toList = t241.toList then ((laws_markText.f j ((1 + 3 * i + 1 : Nat) : Int)).bind fun t243 => (if (mt (1 + 3 * i + 1)).toList = t243.toList then (laws_heldFileS.l0 j (marked 1 l) ((1 + 3 * (i + 1) : Nat) : Int) ((i + 1 : Nat) : Int)) else (some (-1)))) else (some (-1))))) (fun j => ?_) (Ev.bind (mt_eq _ (by omega)) (Ev.congr (fun j => if_pos rfl) (Ev.bind (mt_eq _ (by omega)) (Ev.congr (fun j => if_pos rfl) h2))))
    rw [laws_heldFileS.l0, if_pos (by rw [hlen]; omega)]
    have e6 : ((0 : Int) ≤ (i : Int)) = True := eq_true (by omega)
    simp only [e1, e2, e3, e4, er, e6, if_true]
theorem heldFS_eq (l : List S52) (q f : Int) (hl : l.length ≤ 1048577) : Ev (fun j => laws_heldFS.f j (marked 1 l) q f 1) ((1 + 3 * l.length : Nat) : Int) := by
  refine Ev.bind (a := ((1 + 3 * l.length : Nat) : Int)) ?_ (Ev.pure (fun k => if_neg (by omega)))
  have := heldFileS_loop l hl l.length 0 (by omega)
  exact this
end Go.Proofs.Ytbppijlcmeidaaa.M
end
section
/- The program's FsRemove answers as the specification's at every directory and leaves what came in as it was: no condition beyond the law's own bounds of 2 to the 20. -/
namespace Go.Proofs.Ytbppijlcmeidaaa.Pure
open Go.RowKit Go.Proofs.Ytbppijlcmeidaaa.P Go.Proofs.YtbppijlcmeidaaaW.PrintWords Go.Proofs.YtbppijlcmeidaaaW.PrintLast Go.Proofs.Ytbppijlcmeidaaa.M
set_option linter.unusedVariables false
theorem Ev.shift {α : Type} {g : Nat → Option α} {r : α} (h : Ev (fun k => g (k + 1)) r) : Ev g r := Ev.step (fun _ => rfl) h
theorem FnExactFsRemove (l : List S80) (q f : Int) (s : ByteArray) (ok : Ok24 (l, q, f)) (_ : s.size ≤ 140737488351232) : ∃ k, laws_FnExactFsRemove.f k l q f s = some true := by
  refine Ev.rounds (r := true) ?_
  by_cases cs : (s.size : Int) > 1048576
  · exact M.Ev.pure (fun k => if_pos cs)
  refine Ev.congr (fun k => if_neg cs) (Ev.bind (szFS_eq l q f ok.1) ?_)
  by_cases c : weight l ≤ 1048576
  rotate_left
  · rw [if_neg c]
    exact M.Ev.pure (fun k => if_pos (by omega))
  obtain ⟨hl0, ht, hn⟩ := weight_says l c
  have hf := (wf_bounds ok.2.2).2
  have hto := toFS_eq l q f hl0
  rw [if_pos c]
  refine Ev.congr (fun k => if_neg (by omega)) ?_
  have hl : (l.map conv).length ≤ 1048576 := by simpa using hl0
  generalize l.map conv = l' at hto ht hn hl
  have hsp := specRemove_eq l' q f s ht hl (fun x hx => (hn x hx).1) hf
  have him : ∀ k : Nat, impl_FsRemove.f l' q f s = some (fsRes l' q f (removeRes l' f s)) := fun _ => by
    unfold impl_FsRemove.f
    exact if_pos ⟨fun _ => Nat.le_trans ht (by omega), hf⟩
  have hr : (fsRes l' q f (removeRes l' f s)).1.length ≤ 1048576 := fsRemove_length l' q f s hl
  generalize fsRes l' q f (removeRes l' f s) = r at hsp him hr
  have he := eqFS_self r.1 r.2.1 r.2.2.1 hr
  have he' := eqFS_self l' q f hl
  have hm := markFS_eq r.1 r.2.1 r.2.2.1 (by omega)
  have hm' := markFS_eq l' q f (by omega)
  have hh := heldFS_eq r.1 r.2.1 r.2.2.1 (by omega)
  refine Ev.bind hto (Ev.bind hsp (Ev.bind hto (Ev.bind (M.Ev.pure him) (Ev.bind he (Ev.congr (fun k => if_pos rfl) ?_)))))
  refine Pure.Ev.shift ?_
  simp only [laws_FnExactFsRemove.j0]
  refine Ev.congr (fun k => if_neg (by simp)) (Ev.bind hto (Ev.bind he' (Ev.congr (fun k => if_pos rfl) (Ev.bind hm' (Ev.congr (fun k => if_neg (by omega)) (Ev.bind he (Ev.congr (fun k => if_pos rfl) ?_)))))))
  refine Pure.Ev.shift ?_
  simp only [laws_FnExactFsRemove.j1]
  refine Ev.congr (fun k => if_neg (by simp)) (Ev.bind hm (Ev.bind hh (Ev.congr (fun k => if_neg (by omega)) (Ev.congr (fun k => if_pos rfl) (Ev.bind hto (Ev.bind (M.Ev.pure him) (Ev.bind he (Ev.congr (fun k => if_pos rfl) (M.Ev.pure (fun k => if_pos rfl))))))))))
end Go.Proofs.Ytbppijlcmeidaaa.Pure
end
section
/- The law FnExactFsRemove answers true at every argument that its row lets in. No condition beyond the row's own. -/
namespace Go.Proofs.Ytbppijlcmeidaaa.fnExactFsRemove
open Go.ChangeShapes Go.WideShapes Go.ChangeAt Go.RowKit Go.Proofs.Ytbppijlcmeidaaa.P Go.Proofs.Ytbppijlcmeidaaa.M
open Go.ChangeMaps (open_string shut_string)
set_option linter.unusedVariables false
theorem own : ownKnob Try.prog.godebug = none := by kernel_rfl
theorem laidOut : laidOutB Try.prog = true := by kernel_rfl
set_option maxRecDepth 100000 in
theorem lifted (os : Os) (started : os.Started) (H : Type) (enc : TypeId × Value → H) :
    ReturnsInHanded {} Try.checked os 6 .any (Rows.fnExactFsRemoveSpec.pre6 enc Try.prog Try.f6 Rows.fnExactFsRemoveRow.domain false) (Rows.fnExactFsRemoveSpec.post enc Try.prog Try.f6 false true false false) := by
  refine returnsInHanded_of_change_sized (C := Try.checked) own started (by kernel_rfl) Try.func6
    (ChangeSpec.witness6 (enc := enc) (C := Try.checked) false ⟨#[], #[.agg #[.slice none 0 0, .int .i64 0, .int .i64 0], .string ByteArray.empty], []⟩ 8 (by kernel_rfl) (by kernel_rfl) (by kernel_rfl) (by kernel_rfl)) ?_
  intro W base args ds gs before hval0 hW hcnd hsz0 _
  have hsz : (DataW.weightsEach Try.prog (Try.f6.params.toList ++ Rows.fnExactFsRemoveSpec.plain.varTypes Try.prog) (ds ++ gs)).all (· ≤ reachBytes) = true := hsz0
  have hval : ∀ (j : Nat) t v, Try.f6.params[j]? = some t → args[j]? = some v → Value.okWide Try.prog W .any base t v := hval0
  have hW' := hW
  obtain ⟨p, q, hA0, hV, rfl, hfz, hnd⟩ := hW
  have hA : DataW.TrodAll enc Try.prog W 0 (fun _ => true) true Try.f6.params.toList args.toList ds p := hA0
  rw [Try.params6] at hA hval hsz
  obtain ⟨v0, vs0, d0, ds0, p0, q0, hargs, rfl, rfl, h0, r0⟩ := trodAll_cons hA
  obtain ⟨v1, vs1, d1, ds1, p1, q1, rfl, rfl, rfl, h1, r1⟩ := trodAll_cons r0
  obtain ⟨rfl, rfl, rfl⟩ := trodAll_nil r1
  obtain rfl : args = #[v0, v1] := by cases args; simp_all
  obtain ⟨rfl, rfl⟩ := trodVars_none hV
  have k0 := h0
  have lt0 : ∀ x ∈ p0, x.block < W.heap.size := by obtain ⟨m, hm⟩ := k0; exact DataW.trod_lt m _ _ _ hm
  obtain ⟨cs0, rfl, _⟩ := okWide_struct Try.underlying24 (hval 0 24 v0 rfl rfl)
  obtain ⟨⟨l0_0, a0_1, a0_2⟩, K0, ok0⟩ := open_arg o24 hsz (j := 0) rfl rfl h0
  obtain ⟨_, _, e0, ⟨A0_0, c0_0, rfl, hc0_0, hr0_0⟩, ⟨_, _, rfl, rfl, rfl⟩⟩ := K0
  obtain rfl : cs0 = #[.slice A0_0 l0_0.length c0_0, .int .i64 a0_1, .int .i64 a0_2] := by apply Array.ext'; simpa [Value.cells] using e0
  obtain ⟨a1, rfl, rfl, rfl, y1⟩ := open_string Try.underlying9 (hval 1 9 v1 rfl rfl) h1
  have w1 : a1.size ≤ 140737488351232 := by
    have z := sized_string hsz (j := 1) (t := 9) rfl rfl
    rw [Array.length_toList] at z
    exact z
  clear hA0 hval0 hsz0 hsz
  obtain ⟨k, hp⟩ := Pure.FnExactFsRemove l0_0 a0_1 a0_2 a1 ok0 w1
  refine (laws_FnExactFsRemove.calls k A0_0 c0_0 l0_0 a0_1 a0_2 a1 true W hr0_0 hc0_0 hp).mono fun e W' ⟨he, bel⟩ => ?_
  subst he
  exact ⟨_, rfl, _, _, _, [], _, [], hW', trodAll_mk1 (shut_bool Try.underlying4 _), (trodAll_cons_mk (Below.trod laidOut (by kernel_rfl) (of_decide_eq_true (by kernel_rfl)) k0 bel lt0) (trodAll_cons_mk (shut_string Try.underlying9 y1) trodAll_mk0)), rfl, bel.frame _, fun h => by cases h⟩
theorem over : Rows.fnExactFsRemoveRow.holds Try.pinned (OpenSpec.ofChange Rows.fnExactFsRemoveSpec) :=
  OpenClaim.holds_of_wide 6 Try.f6 rfl rfl rfl rfl rfl rfl rfl ⟨rfl, rfl, rfl, rfl, rfl⟩ rfl rfl rfl rfl rfl (by kernel_rfl) Try.func6 (by kernel_rfl)
    (of_decide_eq_true (by kernel_rfl)) (by unfold Func.isWrapper; first | (rw [if_pos (by decide +kernel)]; kernel_rfl) | (rw [if_neg (by decide +kernel)]; exact ⟨rfl, rfl⟩))
    (fun os started H enc _ => lifted os started H enc)
theorem proved : Rows.FnExactFsRemoveSaid := over
#print axioms proved
end Go.Proofs.Ytbppijlcmeidaaa.fnExactFsRemove
namespace Go.Proofs.Ytbppijlcmeidaaa
/-- The row, under a short name, for the claim. -/
theorem fnExactFsRemove_holds : Rows.FnExactFsRemoveSaid := fnExactFsRemove.proved
end Go.Proofs.Ytbppijlcmeidaaa
end

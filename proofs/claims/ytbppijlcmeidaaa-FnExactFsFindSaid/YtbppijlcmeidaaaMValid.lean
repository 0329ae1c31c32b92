/- What the specification's parts of ValidFS, and the laws' copying, weighing and comparing of directories, print to: plain functions of lists. -/
import Derived.Test.YtbppijlcmeidaaaMBase
import Derived.Test.YtbppijlcmeidaaaPlawsszFS
import Derived.Test.YtbppijlcmeidaaaPlawstoFS
import Derived.Test.YtbppijlcmeidaaaPlawseqFS
import Derived.Test.YtbppijlcmeidaaaPspecValidFS
import Derived.Test.YtbppijlcmeidaaaMKinds
namespace Go.Proofs.Ytbppijlcmeidaaa.M
open Go.RowKit Go.Proofs.Ytbppijlcmeidaaa.P Go.Proofs.YtbppijlcmeidaaaW.PrintWords Go.Proofs.YtbppijlcmeidaaaW.PrintLast Go.Proofs.YtbppijlcmeidaaaW.PrintMore
set_option linter.unusedVariables false

/-! ### The words -/
def nameOk (s : ByteArray) : Bool := decide (1 ≤ s.size) && decide (s.size ≤ 120)
def fileOk (x : S52) : Bool := nameOk x.f0 && decide (0 ≤ x.f2) && decide (x.f2 ≤ (x.f1.size : Int))
def total (l : List S52) : Nat := (l.map fun x => x.f1.size).sum
def okFrom : Option ByteArray → List S52 → Bool
  | _, [] => true
  | p, x :: r => fileOk x && (match p with | none => true | some b => lss b x.f0) && okFrom (some x.f0) r
def validB (l : List S52) (q f : Int) : Bool := decide (l.length ≤ 200) && decide (0 ≤ q) && decide (q ≤ 1048576) && decide (-1 ≤ f) && okFrom none l && decide (total l ≤ 1048576)
def prev (l : List S52) (i : Nat) : Option ByteArray := if i = 0 then none else some (l.getD (i - 1) z52).f0
def conv (x : S80) : S52 := ⟨x.f0, x.f1, x.f2⟩
def weight (l : List S80) : Nat := (l.map fun x => x.f0.size + x.f1.size).sum + l.length

theorem rd80 (l : List S80) (i : Nat) (h : i < l.length) : rd_T80 l (i : Int) = l[i] := by
  unfold rd_T80; rw [Int.toNat_natCast]; exact getD_at l i z80 h
theorem rd52 (l : List S52) (i : Nat) (h : i < l.length) : rd_T52 l (i : Int) = l[i] := by
  unfold rd_T52; rw [Int.toNat_natCast]; exact getD_at l i z52 h
theorem total_take_succ (l : List S52) (i : Nat) (h : i < l.length) : total (l.take (i + 1)) = total (l.take i) + l[i].f1.size := by
  rw [take_at l i h]
  unfold total
  rw [List.map_append, List.sum_append]
  show _ + (l[i].f1.size + 0) = _
  omega
theorem total_take_le (l : List S52) (i : Nat) : total (l.take i) ≤ total l := by
  conv => rhs; rw [← List.take_append_drop i l]
  simp only [total, List.map_append, List.sum_append]
  omega

/-! ### szFS -/
theorem szFile_eq (x : S80) (a : Int) (ha : 0 ≤ a) (ha2 : a ≤ 1048576) (h0 : x.f0.size ≤ 140737488351232) (h1 : x.f1.size ≤ 140737488351232) :
    laws_szFile.f x.f0 x.f1 x.f2 a = some (if (x.f0.size + x.f1.size : Int) ≤ a then a - (x.f0.size + x.f1.size : Int) else -1) := by
  unfold laws_szFile.f
  rw [wrap_ok (x := a - (x.f0.size : Int)) (by omega) (by omega), wrap_ok (x := a - (x.f0.size : Int) - (x.f1.size : Int)) (by omega) (by omega)]
  by_cases c1 : a - (x.f0.size : Int) < 0
  · rw [if_pos c1, if_neg (by omega)]
  · rw [if_neg c1]
    by_cases c2 : a - (x.f0.size : Int) - (x.f1.size : Int) < 0
    · rw [if_pos c2, if_neg (by omega)]
    · rw [if_neg c2, if_pos (by omega), show a - (x.f0.size : Int) - (x.f1.size : Int) = a - ((x.f0.size : Int) + (x.f1.size : Int)) by omega]
def names80 (l : List S80) : Nat := (l.map fun x => x.f0.size + x.f1.size).sum
theorem names_drop (l : List S80) (i : Nat) (h : i < l.length) : names80 (l.drop i) = (l[i].f0.size + l[i].f1.size) + names80 (l.drop (i + 1)) := by
  rw [drop_at l i h]
  rfl
theorem szFileS_loop (l : List S80) (ok : Ok80s l) (hl : l.length ≤ 1048576) : ∀ d i : Nat, i + d = l.length → ∀ a : Int, 0 ≤ a → a ≤ 1048576 →
    Ev (fun k => laws_szFileS.l0 k l a (i : Int)) (if (names80 (l.drop i) : Int) ≤ a then a - names80 (l.drop i) else -1) := by
  intro d
  induction d with
  | zero =>
    intro i hi a ha ha2
    rw [List.drop_eq_nil_of_le (by omega)]
    refine Ev.step (f := fun _ => some a) (fun k => ?_) ?_
    · rw [laws_szFileS.l0, if_neg (by omega)]
    · have : (if ((names80 [] : Nat) : Int) ≤ a then a - ((names80 [] : Nat) : Int) else -1) = a := by simp [names80]; omega
      rw [this]; exact Ev.now a
  | succ d ih =>
    intro i hi a ha ha2
    have hlt : i < l.length := by omega
    have hk := ok.2 l[i] (List.getElem_mem hlt)
    rw [names_drop l i hlt]
    have hs := szFile_eq l[i] a ha ha2 hk.1 hk.2.1
    by_cases c : (l[i].f0.size + l[i].f1.size : Int) ≤ a
    · rw [if_pos c] at hs
      have hi' := ih (i + 1) (by omega) (a - (l[i].f0.size + l[i].f1.size : Int)) (by omega) (by omega)
      refine Ev.step (f := fun k => laws_szFileS.l0 k l (a - (l[i].f0.size + l[i].f1.size : Int)) ((i + 1 : Nat) : Int)) (fun k => ?_) ?_
      · rw [laws_szFileS.l0, if_pos (by omega), if_pos (by omega), rd80 l i hlt, hs]
        simp only [Option.bind_some]
        rw [if_neg (by omega), wrap_succ (by omega)]
      · generalize names80 (l.drop (i + 1)) = n at hi' ⊢
        have e : (if (n : Int) ≤ a - (l[i].f0.size + l[i].f1.size : Int) then a - (l[i].f0.size + l[i].f1.size : Int) - (n : Int) else -1) = (if ((l[i].f0.size + l[i].f1.size + n : Nat) : Int) ≤ a then a - ((l[i].f0.size + l[i].f1.size + n : Nat) : Int) else -1) := by
          by_cases c3 : (n : Int) ≤ a - (l[i].f0.size + l[i].f1.size : Int)
          · rw [if_pos c3, if_pos (by omega)]; omega
          · rw [if_neg c3, if_neg (by omega)]
        rw [← e]; exact hi'
    · rw [if_neg c] at hs
      rw [if_neg (by omega)]
      refine Ev.step (f := fun _ => some (-1)) (fun k => ?_) (Ev.now _)
      rw [laws_szFileS.l0, if_pos (by omega), if_pos (by omega), rd80 l i hlt, hs]
      simp only [Option.bind_some]
      rw [if_pos (by omega)]
/-- What is left of 2 to the 20, or -1. -/
theorem szFS_eq (l : List S80) (q f : Int) (ok : Ok80s l) : Ev (fun k => laws_szFS.f k l q f 1048576) (if weight l ≤ 1048576 then (1048576 - weight l : Int) else -1) := by
  have h40 := ok.1
  have hw : weight l = names80 l + l.length := rfl
  by_cases hl : l.length ≤ 1048576
  · have h := szFileS_loop l ok hl l.length 0 (by omega) (1048576 - (l.length : Int)) (by omega) (by omega)
    rw [List.drop_zero] at h
    have h2 : Ev (fun k => laws_szFileS.f k l 1048576) (if (names80 l : Int) ≤ 1048576 - (l.length : Int) then 1048576 - (l.length : Int) - names80 l else -1) := by
      refine Ev.congr (fun k => ?_) h
      show (if _ then _ else _) = _
      rw [wrap_ok (x := 1048576 - (l.length : Int)) (by omega) (by omega), if_neg (by omega)]
      rfl
    refine Ev.bind h2 ⟨0, fun k _ => ?_⟩
    by_cases c : (names80 l : Int) ≤ 1048576 - (l.length : Int)
    · rw [if_pos c, if_neg (by omega), if_pos (by omega), show (1048576 : Int) - (l.length : Int) - (names80 l : Int) = 1048576 - (weight l : Int) by omega]
    · rw [if_neg c, if_pos (by omega), if_neg (by omega)]
  · have h2 : Ev (fun k => laws_szFileS.f k l 1048576) (-1) := by
      refine ⟨0, fun k _ => ?_⟩
      show (if _ then _ else _) = _
      rw [wrap_ok (x := 1048576 - (l.length : Int)) (by omega) (by omega), if_pos (by omega)]
    refine Ev.bind h2 ⟨0, fun k _ => ?_⟩
    rw [if_pos (by omega), if_neg (by omega)]

/-! ### toFS -/
theorem toFileS_loop (l : List S80) (hl : l.length ≤ 1048576) : ∀ d i : Nat, i + d = l.length → ∀ xs : List S52, xs.length = l.length → xs.take i = (l.take i).map conv →
    Ev (fun k => laws_toFileS.l0 k l xs (i : Int)) (l.map conv) := by
  intro d
  induction d with
  | zero =>
    intro i hi xs hx ht
    have e : xs = l.map conv := by rw [List.take_of_length_le (by omega), List.take_of_length_le (by omega)] at ht; exact ht
    refine Ev.step (f := fun _ => some xs) (fun k => ?_) (e ▸ Ev.now _)
    rw [laws_toFileS.l0, if_neg (by omega)]
  | succ d ih =>
    intro i hi xs hx ht
    have hlt : i < l.length := by omega
    refine Ev.step (fun k => ?_) (ih (i + 1) (by omega) (xs.set i (conv l[i])) (by rw [List.length_set]; exact hx) ?_)
    · rw [laws_toFileS.l0, if_pos (by omega), if_pos (by omega), rd80 l i hlt]
      show (if _ then _ else _) = _
      rw [if_pos (by omega), wrap_succ (by omega), Int.toNat_natCast]
      rfl
    · rw [take_at _ i (by rw [List.length_set]; omega), List.take_set_of_le (Nat.le_refl i), ht, List.getElem_set_self, take_at l i hlt, List.map_append]
      rfl
theorem toFileS_eq (l : List S80) (hl : l.length ≤ 1048576) : Ev (fun k => laws_toFileS.f k l) (l.map conv) := by
  refine Ev.congr (fun k => ?_) (toFileS_loop l hl l.length 0 (by omega) (List.replicate l.length z52) (by simp) (by simp))
  unfold laws_toFileS.f
  rw [if_pos (by omega), Int.toNat_natCast, if_pos (by omega)]
  rfl
theorem toFS_eq (l : List S80) (q f : Int) (hl : l.length ≤ 1048576) : Ev (fun k => laws_toFS.f k l q f) (l.map conv, q, f) :=
  Ev.bind (toFileS_eq l hl) ⟨0, fun _ _ => rfl⟩

/-! ### eqFS: of a thing and itself -/
theorem eqFile_self (x : S52) : laws_eqFile.f x.f0 x.f1 x.f2 x.f0 x.f1 x.f2 = some true := by
  unfold laws_eqFile.f
  rw [if_pos rfl, if_pos rfl, if_pos rfl]
theorem eqFileS_loop (l : List S52) (hl : l.length ≤ 1048576) : ∀ d i : Nat, i + d = l.length → Ev (fun k => laws_eqFileS.l0 k l l (i : Int)) true := by
  intro d
  induction d with
  | zero =>
    intro i hi
    refine Ev.step (f := fun _ => some true) (fun k => ?_) (Ev.now _)
    rw [laws_eqFileS.l0, if_neg (by omega)]
  | succ d ih =>
    intro i hi
    have hlt : i < l.length := by omega
    refine Ev.step (fun k => ?_) (ih (i + 1) (by omega))
    rw [laws_eqFileS.l0, if_pos (by omega), if_pos (by omega), if_pos (by omega), rd52 l i hlt, eqFile_self]
    simp only [Option.bind_some]
    rw [if_pos trivial, wrap_succ (by omega)]
theorem eqFS_self (l : List S52) (q f : Int) (hl : l.length ≤ 1048576) : Ev (fun k => laws_eqFS.f k l q f l q f) true := by
  have h : Ev (fun k => laws_eqFileS.f k l l) true := by
    refine Ev.congr (fun k => ?_) (eqFileS_loop l hl l.length 0 (by omega))
    unfold laws_eqFileS.f
    rw [if_pos rfl]; rfl
  refine Ev.bind h ⟨0, fun k _ => ?_⟩
  rw [if_pos rfl, if_pos rfl, if_pos rfl]

/-! ### The specification's ValidFS -/
theorem nameOk_spec (s : ByteArray) : spec_l1NameOk.f s = some (nameOk s) := by
  unfold spec_l1NameOk.f nameOk
  by_cases c : (s.size : Int) ≥ 1
  · rw [if_pos c, decide_eq_true (show 1 ≤ s.size by omega), Bool.true_and]
    congr 1
    by_cases c2 : s.size ≤ 120
    · rw [decide_eq_true c2, decide_eq_true (by omega)]
    · rw [decide_eq_false c2, decide_eq_false (by omega)]
  · rw [if_neg c, decide_eq_false (show ¬ 1 ≤ s.size by omega), Bool.false_and]

theorem less_loop (a b : ByteArray) (ha : a.size ≤ 9223372036854775000) : ∀ d i : Nat, i + d = a.size → i ≤ b.size → Ev (fun k => spec_l1Less.l0 k a b (i : Int)) (Op.bytesLess (a.toList.drop i) (b.toList.drop i)) := by
  have la := toList_size a
  have lb := toList_size b
  intro d
  induction d with
  | zero =>
    intro i hi hb
    refine Ev.step (f := fun k => spec_l1Less.j1 k a b (i : Int) false) (fun k => ?_) (Ev.step (f := fun _ => some (decide ((a.size : Int) < (b.size : Int)))) (fun k => ?_) ?_)
    · rw [spec_l1Less.l0, if_neg (by omega)]
    · rw [spec_l1Less.j1, if_neg (by simp)]
    · rw [List.drop_eq_nil_of_le (by omega)]
      by_cases c : i < b.size
      · rw [drop_at b.toList i (by omega), decide_eq_true (by omega)]; exact Ev.now _
      · rw [List.drop_eq_nil_of_le (show b.toList.length ≤ i by omega), decide_eq_false (by omega)]; exact Ev.now _
  | succ d ih =>
    intro i hi hb
    by_cases c : i < b.size
    · have ga := bt_toList a i (by omega)
      have gb := bt_toList b i (by omega)
      rw [drop_at a.toList i (by omega), drop_at b.toList i (by omega)]
      have e0 : ∀ k, spec_l1Less.l0 (k + 1) a b (i : Int) = spec_l1Less.j1 k a b (i : Int) true := fun k => by rw [spec_l1Less.l0, if_pos (by omega), decide_eq_true (by omega)]
      have er : ∀ (p q : UInt8) (X Y : List UInt8), Op.bytesLess (p :: X) (q :: Y) = (decide (p < q) || (p == q && Op.bytesLess X Y)) := fun _ _ _ _ => rfl
      rw [er]
      generalize a.toList[i] = p at ga
      generalize b.toList[i] = q at gb
      by_cases ce : p = q
      · subst ce
        refine Ev.step e0 (Ev.step (f := fun k => spec_l1Less.l0 k a b ((i + 1 : Nat) : Int)) (fun k => ?_) ?_)
        · rw [spec_l1Less.j1, if_pos rfl, if_pos (by omega), if_pos (by omega), if_pos (by omega), if_pos (by rw [ga, gb]), wrap_succ (by omega)]
        · have := ih (i + 1) (by omega) (by omega)
          have e : (decide (p < p) || (p == p && Op.bytesLess (a.toList.drop (i + 1)) (b.toList.drop (i + 1)))) = Op.bytesLess (a.toList.drop (i + 1)) (b.toList.drop (i + 1)) := by simp
          rw [e]; exact this
      · refine Ev.step e0 (Ev.step (f := fun _ => some (decide ((p.toNat : Int) < (q.toNat : Int)))) (fun k => ?_) ?_)
        · have hn : ¬ ((p.toNat : Int) = (q.toNat : Int)) := fun h => ce (UInt8.toNat_inj.1 (by omega))
          rw [spec_l1Less.j1, if_pos rfl, if_pos (by omega), if_pos (by omega), if_pos (by omega), ga, gb, if_neg hn]
        · have e : (decide (p < q) || (p == q && Op.bytesLess (a.toList.drop (i + 1)) (b.toList.drop (i + 1)))) = decide ((p.toNat : Int) < (q.toNat : Int)) := by
            rw [beq_eq_false_iff_ne.2 ce, Bool.false_and, Bool.or_false]
            by_cases c3 : p < q
            · rw [decide_eq_true c3, decide_eq_true (by have := UInt8.lt_iff_toNat_lt.1 c3; omega)]
            · rw [decide_eq_false c3, decide_eq_false (fun h => c3 (UInt8.lt_iff_toNat_lt.2 (by omega)))]
          rw [e]; exact Ev.now _
    · have hib : i = b.size := by omega
      refine Ev.step (f := fun k => spec_l1Less.j1 k a b (i : Int) false) (fun k => ?_) (Ev.step (f := fun _ => some (decide ((a.size : Int) < (b.size : Int)))) (fun k => ?_) ?_)
      · rw [spec_l1Less.l0, if_pos (by omega), decide_eq_false (by omega)]
      · rw [spec_l1Less.j1, if_neg (by simp)]
      · rw [List.drop_eq_nil_of_le (show b.toList.length ≤ i by omega), decide_eq_false (by omega)]
        have : Op.bytesLess (a.toList.drop i) [] = false := by cases a.toList.drop i <;> rfl
        rw [this]; exact Ev.now _
theorem less_eq (a b : ByteArray) (ha : a.size ≤ 9223372036854775000) : Ev (fun k => spec_l1Less.f k a b) (lss a b) := by
  have := less_loop a b ha a.size 0 (by omega) (by omega)
  rw [List.drop_zero, List.drop_zero] at this
  exact Ev.congr (fun _ => rfl) this

theorem specTotal_loop (l : List S52) (q f : Int) (ht : total l ≤ 1048576) (hl : l.length ≤ 1048576) : ∀ d i : Nat, i + d = l.length → Ev (fun k => spec_l1Total.l0 k (total (l.take i) : Int) (i : Int) l q f) (total l : Int) := by
  intro d
  induction d with
  | zero =>
    intro i hi
    refine Ev.step (f := fun _ => some (total (l.take i) : Int)) (fun k => ?_) ?_
    · rw [spec_l1Total.l0, if_neg (by omega)]
    · rw [List.take_of_length_le (by omega)]; exact Ev.now _
  | succ d ih =>
    intro i hi
    have hlt : i < l.length := by omega
    have h1 := total_take_succ l i hlt
    have h2 := total_take_le l (i + 1)
    refine Ev.step (fun k => ?_) (ih (i + 1) (by omega))
    rw [spec_l1Total.l0, if_pos (by omega), if_pos (by omega), rd52 l i hlt, wrap_succ (by omega), wrap_ok (by omega) (by omega), h1]
    rfl
theorem specTotal_eq (l : List S52) (q f : Int) (ht : total l ≤ 1048576) (hl : l.length ≤ 1048576) : Ev (fun k => spec_l1Total.f k l q f) (total l : Int) :=
  specTotal_loop l q f ht hl l.length 0 (by omega)

theorem specValid_end (l : List S52) (q f x n0 : Int) (n1 n2 : ByteArray) : Ev (fun k => spec_ValidFS.j2 k x true l q f n1 n2 n0) false := by
  refine Ev.step (f := fun _ => some false) (fun k => ?_) (Ev.now _)
  rw [spec_ValidFS.j2, if_pos rfl]
theorem okFrom_cons (p : Option ByteArray) (x : S52) (r : List S52) : okFrom p (x :: r) = (fileOk x && (match p with | none => true | some b => lss b x.f0) && okFrom (some x.f0) r) := by
  cases p <;> rfl
theorem prev_succ (l : List S52) (i : Nat) (h : i < l.length) : prev l (i + 1) = some l[i].f0 := by
  unfold prev
  rw [if_neg (by omega), Nat.add_sub_cancel, getD_at l i z52 h]

theorem specValid_loop (l : List S52) (q f : Int) (ht : total l ≤ 1048576) (hl : l.length ≤ 1048576) (hn : ∀ x ∈ l, x.f0.size ≤ 1048576) : ∀ d i : Nat, i + d = l.length →
    Ev (fun k => spec_ValidFS.l0 k (i : Int) l q f) (okFrom (prev l i) (l.drop i) && decide (total l ≤ 1048576)) := by
  intro d
  induction d with
  | zero =>
    intro i hi
    rw [List.drop_eq_nil_of_le (by omega)]
    refine Ev.step (f := fun k => (spec_l1Total.f k l q f).bind fun t => some (decide (t ≤ 1048576))) (fun k => ?_) (Ev.bind (specTotal_eq l q f ht hl) ⟨0, fun _ _ => ?_⟩)
    · rw [spec_ValidFS.l0, if_neg (by omega)]
    · rw [decide_eq_true (show ((total l : Nat) : Int) ≤ 1048576 by omega), decide_eq_true ht]; rfl
  | succ d ih =>
    intro i hi
    have hlt : i < l.length := by omega
    have ih := ih (i + 1) (by omega)
    rw [prev_succ l i hlt] at ih
    rw [drop_at l i hlt, okFrom_cons]
    have hx : ∀ k, spec_ValidFS.l0 (k + 1) (i : Int) l q f = if nameOk l[i].f0 = true then (if l[i].f2 < 0 then spec_ValidFS.j2 k (i : Int) true l q f l[i].f0 l[i].f1 l[i].f2 else spec_ValidFS.j2 k (i : Int) (decide (l[i].f2 > (l[i].f1.size : Int))) l q f l[i].f0 l[i].f1 l[i].f2) else spec_ValidFS.j2 k (i : Int) true l q f l[i].f0 l[i].f1 l[i].f2 := by
      intro k
      rw [spec_ValidFS.l0, if_pos (by omega), if_pos (by omega), rd52 l i hlt, nameOk_spec]
      rfl
    by_cases c1 : nameOk l[i].f0 = true
    · by_cases c2 : l[i].f2 < 0
      · have e : fileOk l[i] = false := by unfold fileOk; rw [decide_eq_false (show ¬ 0 ≤ l[i].f2 by omega)]; simp
        rw [e, Bool.false_and, Bool.false_and, Bool.false_and]
        exact Ev.step (fun k => by rw [hx, if_pos c1, if_pos c2]) (specValid_end l q f (i : Int) _ _ _)
      · by_cases c3 : l[i].f2 > (l[i].f1.size : Int)
        · have e : fileOk l[i] = false := by unfold fileOk; rw [decide_eq_false (show ¬ l[i].f2 ≤ (l[i].f1.size : Int) by omega)]; simp
          rw [e, Bool.false_and, Bool.false_and, Bool.false_and]
          exact Ev.step (fun k => by rw [hx, if_pos c1, if_neg c2, decide_eq_true c3]) (specValid_end l q f (i : Int) _ _ _)
        · have e : fileOk l[i] = true := by unfold fileOk; rw [c1, decide_eq_true (show 0 ≤ l[i].f2 by omega), decide_eq_true (show l[i].f2 ≤ (l[i].f1.size : Int) by omega)]; rfl
          rw [e, Bool.true_and]
          refine Ev.step (f := fun k => spec_ValidFS.j2 k (i : Int) false l q f l[i].f0 l[i].f1 l[i].f2) (fun k => by rw [hx, if_pos c1, if_neg c2, decide_eq_false c3]) ?_
          by_cases c0 : i = 0
          · subst c0
            have e0 : prev l 0 = none := rfl
            rw [e0]
            refine Ev.step (fun k => ?_) ih
            rw [spec_ValidFS.j2, if_neg (by simp), if_neg (by omega), wrap_succ (by omega)]
          · have hpl : i - 1 < l.length := by omega
            have ep : prev l i = some (l[i - 1]).f0 := by unfold prev; rw [if_neg c0, getD_at l (i - 1) z52 hpl]
            rw [ep]
            have ew : wrap64 ((i : Int) - 1) = ((i - 1 : Nat) : Int) := by rw [wrap_ok] <;> omega
            have hle := less_eq (l[i - 1]).f0 l[i].f0 (by have := hn _ (List.getElem_mem hpl); omega)
            refine Ev.step (f := fun k => (spec_l1Less.f k (l[i - 1]).f0 l[i].f0).bind fun t => if t = true then spec_ValidFS.l0 k ((i + 1 : Nat) : Int) l q f else some false) (fun k => ?_) (Ev.bind hle ?_)
            · rw [spec_ValidFS.j2, if_neg (by simp), if_pos (by omega), ew, if_pos (by omega), if_pos (by omega), rd52 l (i - 1) hpl, wrap_succ (by omega)]
            · by_cases cl : lss (l[i - 1]).f0 l[i].f0 = true
              · refine Ev.congr (fun k => by rw [if_pos cl]) ?_
                have e9 : ((match some (l[i - 1]).f0 with | none => true | some b => lss b l[i].f0) && okFrom (some l[i].f0) (l.drop (i + 1))) = okFrom (some l[i].f0) (l.drop (i + 1)) := by
                  show (lss _ _ && _) = _
                  rw [cl, Bool.true_and]
                rw [e9]; exact ih
              · refine Ev.congr (fun k => by rw [if_neg cl]) ?_
                have e9 : ((match some (l[i - 1]).f0 with | none => true | some b => lss b l[i].f0) && okFrom (some l[i].f0) (l.drop (i + 1)) && decide (total l ≤ 1048576)) = false := by
                  show (lss _ _ && _ && _) = _
                  rw [Bool.eq_false_iff.2 cl]; rfl
                rw [e9]; exact Ev.now _
    · have e : fileOk l[i] = false := by unfold fileOk; rw [Bool.eq_false_iff.2 c1]; rfl
      rw [e, Bool.false_and, Bool.false_and, Bool.false_and]
      exact Ev.step (fun k => by rw [hx, if_neg c1]) (specValid_end l q f (i : Int) _ _ _)

theorem specValid_eq (l : List S52) (q f : Int) (ht : total l ≤ 1048576) (hl : l.length ≤ 1048576) (hn : ∀ x ∈ l, x.f0.size ≤ 1048576) : Ev (fun k => spec_ValidFS.f k l q f) (validB l q f) := by
  have hend : Ev (fun k => spec_ValidFS.j0 k true l q f) false := by
    refine Ev.step (f := fun _ => some false) (fun k => ?_) (Ev.now _)
    rw [spec_ValidFS.j0, if_pos rfl]
  unfold validB
  by_cases c1 : l.length ≤ 200
  · by_cases c2 : 0 ≤ q
    · by_cases c3 : q ≤ 1048576
      · by_cases c4 : -1 ≤ f
        · rw [decide_eq_true c1, decide_eq_true c2, decide_eq_true c3, decide_eq_true c4, Bool.true_and, Bool.true_and, Bool.true_and, Bool.true_and]
          have hL := specValid_loop l q f ht hl hn l.length 0 (by omega)
          refine Ev.congr (f := fun k => spec_ValidFS.j0 k false l q f) (fun k => ?_) (Ev.step (fun k => ?_) hL)
          · unfold spec_ValidFS.f
            rw [if_neg (by omega), if_neg (by omega), if_neg (by omega), decide_eq_false (by omega)]
          · rw [spec_ValidFS.j0, if_neg (by simp)]; rfl
        · rw [decide_eq_false c4, Bool.and_false, Bool.false_and, Bool.false_and]
          refine Ev.congr (fun k => ?_) hend
          unfold spec_ValidFS.f
          rw [if_neg (by omega), if_neg (by omega), if_neg (by omega), decide_eq_true (by omega)]
      · rw [decide_eq_false c3, Bool.and_false, Bool.false_and, Bool.false_and, Bool.false_and]
        refine Ev.congr (fun k => ?_) hend
        unfold spec_ValidFS.f
        rw [if_neg (by omega), if_neg (by omega), if_pos (by omega)]
    · rw [decide_eq_false c2, Bool.and_false, Bool.false_and, Bool.false_and, Bool.false_and, Bool.false_and]
      refine Ev.congr (fun k => ?_) hend
      unfold spec_ValidFS.f
      rw [if_neg (by omega), if_pos (by omega)]
  · rw [decide_eq_false c1, Bool.false_and, Bool.false_and, Bool.false_and, Bool.false_and, Bool.false_and]
    refine Ev.congr (fun k => ?_) hend
    unfold spec_ValidFS.f
    rw [if_pos (by omega)]
end Go.Proofs.Ytbppijlcmeidaaa.M

/- Texts of the claim FnExactApplyEdit, part 47 of 47, joined: MLawEdit, MApplyPure, MKinds, PureFnExactApplyEdit, RowFnExactApplyEdit. No condition beyond those that stand at each. -/
import Derived.Test.YtlecpmgdoomngaaZFnExactApplyEdit22
import Derived.Test.YtlecpmgdoomngaaZFnExactApplyEdit38
import Derived.Test.YtlecpmgdoomngaaZFnExactApplyEdit43
import Derived.Test.YtlecpmgdoomngaaZFnExactApplyEdit42
import Derived.Test.YtlecpmgdoomngaaZFnExactApplyEdit40
import Derived.Test.YtlecpmgdoomngaaZFnExactApplyEdit41
import Derived.Test.YtlecpmgdoomngaaZFnExactApplyEdit37
import Derived.Test.YtlecpmgdoomngaaZFnExactApplyEdit45
import Derived.Test.YtlecpmgdoomngaaZFnExactApplyEdit36
import Derived.Test.YtlecpmgdoomngaaZFnExactApplyEdit46
import Derived.Test.YtlecpmgdoomngaaRows
import Derived.WalkKit
import Derived.ProofKit
import Derived.OpenShut
import Derived.ShutString
import Derived.ChangeOld
import Derived.Below
import Derived.SizedLaws
section
namespace Go.Proofs.Ytlecpmgdoomngaa.M
open Go.RowKit Go.Proofs.Ytlecpmgdoomngaa.P Go.Proofs.YtlecpmgdoomngaaW.PrintWords Go.Proofs.YtlecpmgdoomngaaW.PrintLast Go.Proofs.YtlecpmgdoomngaaW.PrintMore
set_option linter.unusedVariables false
set_option linter.unusedSimpArgs false
theorem Ev.pure {α : Type} {g : Nat → Option α} {r : α} (h : ∀ k, g k = some r) : Ev g r := ⟨0, fun k _ => h k⟩
def numOk (n : Int) : Bool := decide (1 ≤ n) && decide (n ≤ 999999999)
def refOk (t : S48) : Bool := numOk t.f0 && decide (0 ≤ t.f1) && decide (t.f1 ≤ 3) && decide (1 ≤ t.f2.size) && decide (t.f2.size ≤ 1000) && decide (1 ≤ t.f3.size) && decide (t.f3.size ≤ 1000) && !(lss t.f3 t.f2)
def editOk (adds : List S48) (dels : List Int) (log next last : Int) : Bool :=
 decide (adds.length ≤ 1000) && decide (dels.length ≤ 1000) && numOk log && numOk next && decide (0 ≤ last) && decide (last ≤ 72057594037927935) && adds.all refOk && dels.all numOk
theorem editOk_parts {adds : List S48} {dels : List Int} {log next last : Int} (h : editOk adds dels log next last = true) : adds.length ≤ 1000 ∧ dels.length ≤ 1000 ∧ adds.all refOk = true ∧ dels.all numOk = true ∧ numOk log = true ∧ numOk next = true ∧ 0 ≤ last ∧ last ≤ 72057594037927935 := by
 unfold editOk at h
 simp only [Bool.and_eq_true, decide_eq_true_eq] at h
 exact ⟨h.1.1.1.1.1.1.1, h.1.1.1.1.1.1.2, h.1.2, h.2, h.1.1.1.1.1.2, h.1.1.1.1.2, h.1.1.1.2, h.1.1.2⟩
theorem numFine_eq (n : Int) : impl_numFine.f n = some (numOk n) := by
 unfold impl_numFine.f numOk
 by_cases h : n ≥ 1
 ·rw [if_pos h, decide_eq_true (show 1 ≤ n by omega)]; rfl
 ·rw [if_neg h, decide_eq_false (show ¬ 1 ≤ n by omega)]; rfl
theorem refFine_eq (t : S48) : impl_refFine.f t.f0 t.f1 t.f2 t.f3 = some (refOk t) := by
 unfold impl_refFine.f refOk
 rw [numFine_eq, Option.bind_some]
 by_cases h0 : numOk t.f0 = true
 ·rw [if_pos h0, h0]
  by_cases h1 : t.f1 ≥ 0
  ·rw [if_pos h1, decide_eq_true (show 0 ≤ t.f1 by omega)]
   by_cases h2 : t.f1 ≤ 3
   ·rw [if_pos h2, decide_eq_true h2]
    by_cases h3 : (t.f2.size : Int) ≥ 1
    ·rw [if_pos h3, decide_eq_true (show 1 ≤ t.f2.size by omega)]
     by_cases h4 : (t.f2.size : Int) ≤ 1000
     ·rw [if_pos h4, decide_eq_true (show t.f2.size ≤ 1000 by omega)]
      by_cases h5 : (t.f3.size : Int) ≥ 1
      ·rw [if_pos h5, decide_eq_true (show 1 ≤ t.f3.size by omega)]
       by_cases h6 : (t.f3.size : Int) ≤ 1000
       ·rw [if_pos h6, decide_eq_true (show t.f3.size ≤ 1000 by omega)]
        rfl
       ·rw [if_neg h6, decide_eq_false (show ¬ t.f3.size ≤ 1000 by omega)]; simp
      ·rw [if_neg h5, decide_eq_false (show ¬ 1 ≤ t.f3.size by omega)]; simp
     ·rw [if_neg h4, decide_eq_false (show ¬ t.f2.size ≤ 1000 by omega)]; simp
    ·rw [if_neg h3, decide_eq_false (show ¬ 1 ≤ t.f2.size by omega)]; simp
   ·rw [if_neg h2, decide_eq_false h2]; simp
  ·rw [if_neg h1, decide_eq_false (show ¬ 0 ≤ t.f1 by omega)]; simp
 ·rw [if_neg h0, Bool.eq_false_iff.2 h0]; simp
theorem rd48 (l : List S48) (i : Nat) (h : i < l.length) : rd_T48 l (i : Int) = l[i] := by
 unfold rd_T48
 rw [Int.toNat_natCast, getD_at l i _ h]
theorem rdI (l : List Int) (i : Nat) (h : i < l.length) : rd l (i : Int) = l[i] := by
 unfold rd
 rw [Int.toNat_natCast, getD_at l i 0 h]
theorem fine_l1 (dels : List Int) (hd : dels.length ≤ 1000) : ∀ d i : Nat, i + d = dels.length → Ev (fun k => impl_editFine.l1 k dels (dels.length : Int) (i : Int)) ((dels.drop i).all numOk) := by
 intro d
 induction d with
 | zero =>
  intro i hi
  refine Ev.step (f := fun _ => some true) (fun k => ?_) ?_
  ·rw [impl_editFine.l1, if_neg (by omega)]
  ·rw [List.drop_eq_nil_of_le (by omega)]; exact Ev.now _
 | succ d ih =>
  intro i hi
  have hlt : i < dels.length := by omega
  rw [drop_at dels i hlt, List.all_cons]
  by_cases h : numOk dels[i] = true
  ·rw [h, Bool.true_and]
   refine Ev.step (fun k => ?_) (ih (i + 1) (by omega))
   rw [impl_editFine.l1, if_pos (by omega), if_pos (by omega), if_pos (by omega), rdI dels i hlt, numFine_eq, Option.bind_some, if_pos h, wrap_succ (by omega)]
  ·rw [Bool.eq_false_iff.2 h, Bool.false_and]
   refine Ev.step (f := fun _ => some false) (fun k => ?_) (Ev.now _)
   rw [impl_editFine.l1, if_pos (by omega), if_pos (by omega), if_pos (by omega), rdI dels i hlt, numFine_eq, Option.bind_some, if_neg h]
theorem fine_l0 (adds : List S48) (dels : List Int) (log next last : Int) (ha : adds.length ≤ 1000) (hd : dels.length ≤ 1000) : ∀ d i : Nat, i + d = adds.length → Ev (fun k => impl_editFine.l0 k adds (adds.length : Int) (i : Int) adds dels log next last) ((adds.drop i).all refOk && dels.all numOk) := by
 intro d
 induction d with
 | zero =>
  intro i hi
  rw [List.drop_eq_nil_of_le (by omega), List.all_nil, Bool.true_and]
  have h := fine_l1 dels hd dels.length 0 (by omega)
  rw [List.drop_zero] at h
  refine Ev.step (fun k => ?_) h
  rw [impl_editFine.l0, if_neg (by omega)]
  rfl
 | succ d ih =>
  intro i hi
  have hlt : i < adds.length := by omega
  rw [drop_at adds i hlt, List.all_cons]
  by_cases h : refOk adds[i] = true
  ·rw [h, Bool.true_and]
   refine Ev.step (fun k => ?_) (ih (i + 1) (by omega))
   rw [impl_editFine.l0, if_pos (by omega), if_pos (by omega), if_pos (by omega), rd48 adds i hlt, refFine_eq, Option.bind_some, if_pos h, wrap_succ (by omega)]
  ·rw [Bool.eq_false_iff.2 h, Bool.false_and, Bool.false_and]
   refine Ev.step (f := fun _ => some false) (fun k => ?_) (Ev.now _)
   rw [impl_editFine.l0, if_pos (by omega), if_pos (by omega), if_pos (by omega), rd48 adds i hlt, refFine_eq, Option.bind_some, if_neg h]
theorem fine_end (adds : List S48) (dels : List Int) (log next last : Int) : Ev (fun k => impl_editFine.j0 k true adds dels log next last) false :=
 Ev.step (f := fun _ => some false) (fun k => by rw [impl_editFine.j0, if_pos rfl]) (Ev.now _)
theorem editFine_ev (adds : List S48) (dels : List Int) (log next last : Int) : Ev (fun k => impl_editFine.f k adds dels log next last) (editOk adds dels log next last) := by
 unfold editOk
 by_cases h0 : (adds.length : Int) > 1000
 ·rw [decide_eq_false (show ¬ adds.length ≤ 1000 by omega)]
  refine Ev.congr (fun k => if_pos h0) ?_
  simpa using fine_end adds dels log next last
 rw [decide_eq_true (show adds.length ≤ 1000 by omega), Bool.true_and]
 refine Ev.congr (fun k => if_neg h0) ?_
 by_cases h1 : (dels.length : Int) > 1000
 ·rw [decide_eq_false (show ¬ dels.length ≤ 1000 by omega)]
  refine Ev.congr (fun k => if_pos h1) ?_
  simpa using fine_end adds dels log next last
 rw [decide_eq_true (show dels.length ≤ 1000 by omega), Bool.true_and]
 refine Ev.congr (fun k => if_neg h1) ?_
 simp only [numFine_eq, Option.bind_some]
 by_cases h2 : numOk log = true
 rotate_left
 ·rw [Bool.eq_false_iff.2 h2]
  refine Ev.congr (fun k => if_neg (by simp)) ?_
  simpa using fine_end adds dels log next last
 rw [h2, Bool.true_and]
 refine Ev.congr (fun k => if_pos rfl) ?_
 by_cases h3 : numOk next = true
 rotate_left
 ·rw [Bool.eq_false_iff.2 h3]
  refine Ev.congr (fun k => if_neg (by simp)) ?_
  simpa using fine_end adds dels log next last
 rw [h3, Bool.true_and]
 refine Ev.congr (fun k => if_pos rfl) ?_
 by_cases h4 : last < 0
 ·rw [decide_eq_false (show ¬ 0 ≤ last by omega)]
  refine Ev.congr (fun k => if_pos h4) ?_
  simpa using fine_end adds dels log next last
 rw [decide_eq_true (show 0 ≤ last by omega), Bool.true_and]
 refine Ev.congr (fun k => if_neg h4) ?_
 by_cases h5 : last > 72057594037927935
 ·rw [decide_eq_false (show ¬ last ≤ 72057594037927935 by omega), decide_eq_true h5]
  simpa using fine_end adds dels log next last
 rw [decide_eq_true (show last ≤ 72057594037927935 by omega), decide_eq_false h5, Bool.true_and]
 have h := fine_l0 adds dels log next last (by omega) (by omega) adds.length 0 (by omega)
 rw [List.drop_zero] at h
 refine Ev.step (fun k => ?_) h
 rw [impl_editFine.j0, if_neg (by simp)]
 rfl
theorem less_loop (a b : ByteArray) (ha : a.size ≤ 9223372036854775000) : ∀ d i : Nat, i + d = a.size → i ≤ b.size → Ev (fun k => spec_l1Less.l0 k a b (i : Int)) (Op.bytesLess (a.toList.drop i) (b.toList.drop i)) := by
 have la := toList_size a
 have lb := toList_size b
 intro d
 induction d with
 | zero =>
  intro i hi hb
  refine Ev.step (f := fun k => spec_l1Less.j1 k a b (i : Int) false) (fun k => ?_) (Ev.step (f := fun _ => some (decide ((a.size : Int) < (b.size : Int)))) (fun k => ?_) ?_)
  ·rw [spec_l1Less.l0, if_neg (by omega)]
  ·rw [spec_l1Less.j1, if_neg (by simp)]
  ·rw [List.drop_eq_nil_of_le (by omega)]
   by_cases c : i < b.size
   ·rw [drop_at b.toList i (by omega), decide_eq_true (by omega)]; exact Ev.now _
   ·rw [List.drop_eq_nil_of_le (show b.toList.length ≤ i by omega), decide_eq_false (by omega)]; exact Ev.now _
 | succ d ih =>
  intro i hi hb
  by_cases c : i < b.size
  ·have ga := bt_toList a i (by omega)
   have gb := bt_toList b i (by omega)
   rw [drop_at a.toList i (by omega), drop_at b.toList i (by omega)]
   have e0 : ∀ k, spec_l1Less.l0 (k + 1) a b (i : Int) = spec_l1Less.j1 k a b (i : Int) true := fun k => by rw [spec_l1Less.l0, if_pos (by omega), decide_eq_true (by omega)]
   have er : ∀ (p q : UInt8) (X Y : List UInt8), Op.bytesLess (p :: X) (q :: Y) = (decide (p < q) || (p == q && Op.bytesLess X Y)) := fun _ _ _ _ => rfl
   rw [er]
   generalize a.toList[i] = p at ga
   generalize b.toList[i] = q at gb
   by_cases ce : p = q
   ·subst ce
    refine Ev.step e0 (Ev.step (f := fun k => spec_l1Less.l0 k a b ((i + 1 : Nat) : Int)) (fun k => ?_) ?_)
    ·rw [spec_l1Less.j1, if_pos rfl, if_pos (by omega), if_pos (by omega), if_pos (by omega), if_pos (by rw [ga, gb]), wrap_succ (by omega)]
    ·have := ih (i + 1) (by omega) (by omega)
     have e : (decide (p < p) || (p == p && Op.bytesLess (a.toList.drop (i + 1)) (b.toList.drop (i + 1)))) = Op.bytesLess (a.toList.drop (i + 1)) (b.toList.drop (i + 1)) := by simp
     rw [e]; exact this
   ·refine Ev.step e0 (Ev.step (f := fun _ => some (decide ((p.toNat : Int) < (q.toNat : Int)))) (fun k => ?_) ?_)
    ·have hn : ¬ ((p.toNat : Int) = (q.toNat : Int)) := fun h => ce (UInt8.toNat_inj.1 (by omega))
     rw [spec_l1Less.j1, if_pos rfl, if_pos (by omega), if_pos (by omega), if_pos (by omega), ga, gb, if_neg hn]
    ·have e : (decide (p < q) || (p == q && Op.bytesLess (a.toList.drop (i + 1)) (b.toList.drop (i + 1)))) = decide ((p.toNat : Int) < (q.toNat : Int)) := by
      rw [beq_eq_false_iff_ne.2 ce, Bool.false_and, Bool.or_false]
      by_cases c3 : p < q
      ·rw [decide_eq_true c3, decide_eq_true (by have := UInt8.lt_iff_toNat_lt.1 c3; omega)]
      ·rw [decide_eq_false c3, decide_eq_false (fun h => c3 (UInt8.lt_iff_toNat_lt.2 (by omega)))]
     rw [e]; exact Ev.now _
  ·have hib : i = b.size := by omega
   refine Ev.step (f := fun k => spec_l1Less.j1 k a b (i : Int) false) (fun k => ?_) (Ev.step (f := fun _ => some (decide ((a.size : Int) < (b.size : Int)))) (fun k => ?_) ?_)
   ·rw [spec_l1Less.l0, if_pos (by omega), decide_eq_false (by omega)]
   ·rw [spec_l1Less.j1, if_neg (by simp)]
   ·rw [List.drop_eq_nil_of_le (show b.toList.length ≤ i by omega), decide_eq_false (by omega)]
    have : Op.bytesLess (a.toList.drop i) [] = false := by cases a.toList.drop i <;> rfl
    rw [this]; exact Ev.now _
theorem less_eq (a b : ByteArray) (ha : a.size ≤ 9223372036854775000) : Ev (fun k => spec_l1Less.f k a b) (lss a b) := by
 have := less_loop a b ha a.size 0 (by omega) (by omega)
 rw [List.drop_zero, List.drop_zero] at this
 exact Ev.congr (fun _ => rfl) this
theorem snum_eq (n : Int) : spec_l4NumOk.f n = some (numOk n) := by
 unfold spec_l4NumOk.f numOk
 by_cases h : n ≥ 1
 ·rw [if_pos h, decide_eq_true (show 1 ≤ n by omega)]; rfl
 ·rw [if_neg h, decide_eq_false (show ¬ 1 ≤ n by omega)]; rfl
theorem sref_end (t : S48) : Ev (fun k => spec_l4RefOk.j0 k true t.f0 t.f1 t.f2 t.f3) false :=
 Ev.step (f := fun _ => some false) (fun k => by rw [spec_l4RefOk.j0, if_pos rfl]) (Ev.now _)
theorem sref_eq (t : S48) : Ev (fun k => spec_l4RefOk.f k t.f0 t.f1 t.f2 t.f3) (refOk t) := by
 unfold refOk
 refine Ev.bind (Ev.pure (fun k => snum_eq t.f0)) ?_
 by_cases h0 : numOk t.f0 = true
 rotate_left
 ·rw [Bool.eq_false_iff.2 h0]
  refine Ev.congr (fun k => if_neg (by simp)) ?_
  simpa using sref_end t
 rw [h0, Bool.true_and]
 refine Ev.congr (fun k => if_pos rfl) ?_
 by_cases h1 : t.f1 < 0
 ·rw [decide_eq_false (show ¬ 0 ≤ t.f1 by omega)]
  refine Ev.congr (fun k => if_pos h1) ?_
  simpa using sref_end t
 rw [decide_eq_true (show 0 ≤ t.f1 by omega), Bool.true_and]
 refine Ev.congr (fun k => if_neg h1) ?_
 by_cases h2 : t.f1 > 3
 ·rw [decide_eq_false (show ¬ t.f1 ≤ 3 by omega), decide_eq_true h2]
  simpa using sref_end t
 rw [decide_eq_true (show t.f1 ≤ 3 by omega), decide_eq_false h2, Bool.true_and]
 refine Ev.step (f := fun k => if (t.f2.size : Int) < 1 then (some false) else (if (t.f2.size : Int) > 1000 then (some false) else (if (t.f3.size : Int) < 1 then (some false) else (if (t.f3.size : Int) > 1000 then (some false) else ((spec_l1Less.f k t.f3 t.f2).bind fun t185 => (some (!t185))))))) (fun k => by rw [spec_l4RefOk.j0, if_neg (by simp)]) ?_
 by_cases h3 : (t.f2.size : Int) < 1
 ·rw [decide_eq_false (show ¬ 1 ≤ t.f2.size by omega)]
  exact Ev.congr (fun k => if_pos h3) (by simpa using Ev.now false)
 rw [decide_eq_true (show 1 ≤ t.f2.size by omega), Bool.true_and]
 refine Ev.congr (fun k => if_neg h3) ?_
 by_cases h4 : (t.f2.size : Int) > 1000
 ·rw [decide_eq_false (show ¬ t.f2.size ≤ 1000 by omega)]
  exact Ev.congr (fun k => if_pos h4) (by simpa using Ev.now false)
 rw [decide_eq_true (show t.f2.size ≤ 1000 by omega), Bool.true_and]
 refine Ev.congr (fun k => if_neg h4) ?_
 by_cases h5 : (t.f3.size : Int) < 1
 ·rw [decide_eq_false (show ¬ 1 ≤ t.f3.size by omega)]
  exact Ev.congr (fun k => if_pos h5) (by simpa using Ev.now false)
 rw [decide_eq_true (show 1 ≤ t.f3.size by omega), Bool.true_and]
 refine Ev.congr (fun k => if_neg h5) ?_
 by_cases h6 : (t.f3.size : Int) > 1000
 ·rw [decide_eq_false (show ¬ t.f3.size ≤ 1000 by omega)]
  exact Ev.congr (fun k => if_pos h6) (by simpa using Ev.now false)
 rw [decide_eq_true (show t.f3.size ≤ 1000 by omega), Bool.true_and]
 exact Ev.congr (fun k => if_neg h6) (Ev.bind (less_eq t.f3 t.f2 (by omega)) (Ev.now _))
section
variable (adds : List S48) (dels : List Int) (log next last : Int)
theorem sedit_end : Ev (fun k => spec_l4EditOk.j0 k true adds dels log next last) false :=
 Ev.step (f := fun _ => some false) (fun k => by rw [spec_l4EditOk.j0, if_pos rfl]) (Ev.now _)
theorem sedit_l1 (ha : adds.length ≤ 1000) (hd : dels.length ≤ 1000) : ∀ d i : Nat, i + d = dels.length → Ev (fun k => spec_l4EditOk.l1 k (i : Int) adds dels log next last) ((dels.drop i).all numOk && (decide (0 ≤ last) && decide (last ≤ 72057594037927935))) := by
 intro d
 induction d with
 | zero =>
  intro i hi
  rw [List.drop_eq_nil_of_le (by omega), List.all_nil, Bool.true_and]
  refine Ev.step (f := fun _ => if last ≥ 0 then (some (decide (last ≤ 72057594037927935))) else (some false)) (fun k => ?_) ?_
  ·rw [spec_l4EditOk.l1, if_neg (by omega)]
  ·by_cases c : last ≥ 0
   ·rw [decide_eq_true (show 0 ≤ last by omega), Bool.true_and]
    exact Ev.pure (fun k => if_pos c)
   ·rw [decide_eq_false (show ¬ 0 ≤ last by omega), Bool.false_and]
    exact Ev.pure (fun k => if_neg c)
 | succ d ih =>
  intro i hi
  have hlt : i < dels.length := by omega
  rw [drop_at dels i hlt, List.all_cons]
  by_cases h : numOk dels[i] = true
  ·rw [h, Bool.true_and]
   refine Ev.step (fun k => ?_) (ih (i + 1) (by omega))
   rw [spec_l4EditOk.l1, if_pos (by omega), if_pos (by omega), rdI dels i hlt, snum_eq, Option.bind_some, if_pos h, wrap_succ (by omega)]
  ·rw [Bool.eq_false_iff.2 h, Bool.false_and, Bool.false_and]
   refine Ev.step (f := fun _ => some false) (fun k => ?_) (Ev.now _)
   rw [spec_l4EditOk.l1, if_pos (by omega), if_pos (by omega), rdI dels i hlt, snum_eq, Option.bind_some, if_neg h]
theorem sedit_l0 (ha : adds.length ≤ 1000) (hd : dels.length ≤ 1000) : ∀ d i : Nat, i + d = adds.length → Ev (fun k => spec_l4EditOk.l0 k (i : Int) adds dels log next last) ((adds.drop i).all refOk && (dels.all numOk && (decide (0 ≤ last) && decide (last ≤ 72057594037927935)))) := by
 intro d
 induction d with
 | zero =>
  intro i hi
  rw [List.drop_eq_nil_of_le (by omega), List.all_nil, Bool.true_and]
  have h := sedit_l1 adds dels log next last ha hd dels.length 0 (by omega)
  rw [List.drop_zero] at h
  refine Ev.step (fun k => ?_) h
  rw [spec_l4EditOk.l0, if_neg (by omega)]
  rfl
 | succ d ih =>
  intro i hi
  have hlt : i < adds.length := by omega
  rw [drop_at adds i hlt, List.all_cons]
  refine Ev.step (f := fun k => (spec_l4RefOk.f k adds[i].f0 adds[i].f1 adds[i].f2 adds[i].f3).bind fun t190 => (if t190 = true then (spec_l4EditOk.l0 k ((i + 1 : Nat) : Int) adds dels log next last) else (some false))) (fun k => ?_) (Ev.bind (sref_eq adds[i]) ?_)
  ·rw [spec_l4EditOk.l0, if_pos (by omega), if_pos (by omega), rd48 adds i hlt, wrap_succ (by omega)]
  ·by_cases h : refOk adds[i] = true
   ·rw [h, Bool.true_and]
    exact Ev.congr (fun k => if_pos rfl) (ih (i + 1) (by omega))
   ·rw [Bool.eq_false_iff.2 h, Bool.false_and, Bool.false_and]
    exact Ev.pure (fun k => if_neg (by simp))
theorem sedit_eq : Ev (fun k => spec_l4EditOk.f k adds dels log next last) (editOk adds dels log next last) := by
 unfold editOk
 by_cases h0 : (adds.length : Int) > 1000
 ·rw [decide_eq_false (show ¬ adds.length ≤ 1000 by omega)]
  refine Ev.congr (fun k => if_pos h0) ?_
  simpa using sedit_end adds dels log next last
 rw [decide_eq_true (show adds.length ≤ 1000 by omega), Bool.true_and]
 refine Ev.congr (fun k => if_neg h0) ?_
 by_cases h1 : (dels.length : Int) > 1000
 ·rw [decide_eq_false (show ¬ dels.length ≤ 1000 by omega)]
  refine Ev.congr (fun k => if_pos h1) ?_
  simpa using sedit_end adds dels log next last
 rw [decide_eq_true (show dels.length ≤ 1000 by omega), Bool.true_and]
 refine Ev.congr (fun k => if_neg h1) ?_
 simp only [snum_eq, Option.bind_some]
 by_cases h2 : numOk log = true
 rotate_left
 ·rw [Bool.eq_false_iff.2 h2]
  refine Ev.congr (fun k => if_neg (by simp)) ?_
  simpa using sedit_end adds dels log next last
 rw [h2, Bool.true_and]
 refine Ev.congr (fun k => if_pos rfl) ?_
 by_cases h3 : numOk next = true
 rotate_left
 ·rw [Bool.eq_false_iff.2 h3]
  simpa using sedit_end adds dels log next last
 rw [h3, Bool.true_and]
 have h := sedit_l0 adds dels log next last (by omega) (by omega) adds.length 0 (by omega)
 rw [List.drop_zero] at h
 have e : (decide (0 ≤ last) && decide (last ≤ 72057594037927935) && adds.all refOk && dels.all numOk) = (adds.all refOk && (dels.all numOk && (decide (0 ≤ last) && decide (last ≤ 72057594037927935)))) := by
  cases decide (0 ≤ last) <;> cases decide (last ≤ 72057594037927935) <;> cases adds.all refOk <;> cases dels.all numOk <;> rfl
 rw [e]
 refine Ev.step (fun k => ?_) h
 rw [spec_l4EditOk.j0, if_neg (by simp)]
 rfl
end
def Ok61 (x : S61) : Prop := (Lit.int .i64 x.f0).wf = true ∧ x.f2.size ≤ 140737488351232 ∧ x.f3.size ≤ 140737488351232
def Ok61s (l : List S61) : Prop := l.length * 48 ≤ 140737488351232 ∧ ∀ a ∈ l, Ok61 a
def OkIs (l : List Int) : Prop := l.length * 8 ≤ 140737488351232 ∧ ∀ x ∈ l, (Lit.int .i64 x).wf = true
def convR (x : S61) : S48 := ⟨x.f0, x.f1, x.f2, x.f3⟩
theorem rd61 (l : List S61) (i : Nat) (h : i < l.length) : rd_T61 l (i : Int) = l[i] := by
 unfold rd_T61
 rw [Int.toNat_natCast, getD_at l i _ h]
theorem szTableRef_eq (x : S61) (a : Int) (ha : 0 ≤ a) (ha2 : a ≤ 1048576) (h0 : x.f2.size ≤ 140737488351232) (h1 : x.f3.size ≤ 140737488351232) :
  laws_szTableRef.f x.f0 x.f1 x.f2 x.f3 a = some (if (x.f2.size + x.f3.size : Int) ≤ a then a - (x.f2.size + x.f3.size : Int) else -1) := by
 unfold laws_szTableRef.f
 rw [wrap_ok (x := a - (x.f2.size : Int)) (by omega) (by omega), wrap_ok (x := a - (x.f2.size : Int) - (x.f3.size : Int)) (by omega) (by omega)]
 by_cases c1 : a - (x.f2.size : Int) < 0
 ·rw [if_pos c1, if_neg (by omega)]
 ·rw [if_neg c1]
  by_cases c2 : a - (x.f2.size : Int) - (x.f3.size : Int) < 0
  ·rw [if_pos c2, if_neg (by omega)]
  ·rw [if_neg c2, if_pos (by omega), show a - (x.f2.size : Int) - (x.f3.size : Int) = a - ((x.f2.size : Int) + (x.f3.size : Int)) by omega]
def texts61 (l : List S61) : Nat := (l.map fun x => x.f2.size + x.f3.size).sum
def weight61 (l : List S61) : Nat := texts61 l + l.length
theorem texts61_drop (l : List S61) (i : Nat) (h : i < l.length) : texts61 (l.drop i) = (l[i].f2.size + l[i].f3.size) + texts61 (l.drop (i + 1)) := by
 rw [drop_at l i h]
 rfl
theorem szTableRefS_loop (l : List S61) (ok : Ok61s l) (hl : l.length ≤ 1048576) : ∀ d i : Nat, i + d = l.length → ∀ a : Int, 0 ≤ a → a ≤ 1048576 →
  Ev (fun k => laws_szTableRefS.l0 k l a (i : Int)) (if (texts61 (l.drop i) : Int) ≤ a then a - texts61 (l.drop i) else -1) := by
 intro d
 induction d with
 | zero =>
  intro i hi a ha ha2
  rw [List.drop_eq_nil_of_le (by omega)]
  refine Ev.step (f := fun _ => some a) (fun k => ?_) ?_
  ·rw [laws_szTableRefS.l0, if_neg (by omega)]
  ·have : (if ((texts61 [] : Nat) : Int) ≤ a then a - ((texts61 [] : Nat) : Int) else -1) = a := by simp [texts61]; omega
   rw [this]; exact Ev.now a
 | succ d ih =>
  intro i hi a ha ha2
  have hlt : i < l.length := by omega
  have hk := ok.2 l[i] (List.getElem_mem hlt)
  rw [texts61_drop l i hlt]
  have hs := szTableRef_eq l[i] a ha ha2 hk.2.1 hk.2.2
  by_cases c : (l[i].f2.size + l[i].f3.size : Int) ≤ a
  ·rw [if_pos c] at hs
   have hi' := ih (i + 1) (by omega) (a - (l[i].f2.size + l[i].f3.size : Int)) (by omega) (by omega)
   refine Ev.step (f := fun k => laws_szTableRefS.l0 k l (a - (l[i].f2.size + l[i].f3.size : Int)) ((i + 1 : Nat) : Int)) (fun k => ?_) ?_
   ·rw [laws_szTableRefS.l0, if_pos (by omega), if_pos (by omega), rd61 l i hlt, hs]
    simp only [Option.bind_some]
    rw [if_neg (by omega), wrap_succ (by omega)]
   ·generalize texts61 (l.drop (i + 1)) = n at hi' ⊢
    have e : (if (n : Int) ≤ a - (l[i].f2.size + l[i].f3.size : Int) then a - (l[i].f2.size + l[i].f3.size : Int) - (n : Int) else -1) = (if ((l[i].f2.size + l[i].f3.size + n : Nat) : Int) ≤ a then a - ((l[i].f2.size + l[i].f3.size + n : Nat) : Int) else -1) := by
     by_cases c3 : (n : Int) ≤ a - (l[i].f2.size + l[i].f3.size : Int)
     ·rw [if_pos c3, if_pos (by omega)]; omega
     ·rw [if_neg c3, if_neg (by omega)]
    rw [← e]; exact hi'
  ·rw [if_neg c] at hs
   rw [if_neg (by omega)]
   refine Ev.step (f := fun _ => some (-1)) (fun k => ?_) (Ev.now _)
   rw [laws_szTableRefS.l0, if_pos (by omega), if_pos (by omega), rd61 l i hlt, hs]
   simp only [Option.bind_some]
   rw [if_pos (by omega)]
theorem szTableRefS_eq (l : List S61) (a : Int) (ha : 0 ≤ a) (ha2 : a ≤ 1048576) (ok : Ok61s l) : Ev (fun k => laws_szTableRefS.f k l a) (if (weight61 l : Int) ≤ a then (a - weight61 l : Int) else -1) := by
 have h40 := ok.1
 have hw : weight61 l = texts61 l + l.length := rfl
 by_cases hl : (l.length : Int) ≤ a
 ·have h := szTableRefS_loop l ok (by omega) l.length 0 (by omega) (a - (l.length : Int)) (by omega) (by omega)
  rw [List.drop_zero] at h
  have e : (if (texts61 l : Int) ≤ a - (l.length : Int) then a - (l.length : Int) - texts61 l else -1) = (if (weight61 l : Int) ≤ a then (a - weight61 l : Int) else -1) := by
   by_cases c : (texts61 l : Int) ≤ a - (l.length : Int)
   ·rw [if_pos c, if_pos (by omega)]; omega
   ·rw [if_neg c, if_neg (by omega)]
  rw [← e]
  refine Ev.congr (fun k => ?_) h
  show (if _ then _ else _) = _
  rw [wrap_ok (x := a - (l.length : Int)) (by omega) (by omega), if_neg (by omega)]
  rfl
 ·rw [if_neg (by omega)]
  refine Ev.pure (fun k => ?_)
  show (if _ then _ else _) = _
  rw [wrap_ok (x := a - (l.length : Int)) (by omega) (by omega), if_pos (by omega)]
theorem toTableRefS_loop (l : List S61) (hl : l.length ≤ 1048576) : ∀ d i : Nat, i + d = l.length → ∀ xs : List S48, xs.length = l.length → xs.take i = (l.take i).map convR →
  Ev (fun k => laws_toTableRefS.l0 k l xs (i : Int)) (l.map convR) := by
 intro d
 induction d with
 | zero =>
  intro i hi xs hx ht
  have e : xs = l.map convR := by rw [List.take_of_length_le (by omega), List.take_of_length_le (by omega)] at ht; exact ht
  refine Ev.step (f := fun _ => some xs) (fun k => ?_) (e ▸ Ev.now _)
  rw [laws_toTableRefS.l0, if_neg (by omega)]
 | succ d ih =>
  intro i hi xs hx ht
  have hlt : i < l.length := by omega
  refine Ev.step (fun k => ?_) (ih (i + 1) (by omega) (xs.set i (convR l[i])) (by rw [List.length_set]; exact hx) ?_)
  ·rw [laws_toTableRefS.l0, if_pos (by omega), if_pos (by omega), rd61 l i hlt]
   show (if _ then _ else _) = _
   rw [if_pos (by omega), wrap_succ (by omega), Int.toNat_natCast]
   rfl
  ·rw [take_at _ i (by rw [List.length_set]; omega), List.take_set_of_le (Nat.le_refl i), ht, List.getElem_set_self, take_at l i hlt, List.map_append]
   rfl
theorem toTableRefS_eq (l : List S61) (hl : l.length ≤ 1048576) : Ev (fun k => laws_toTableRefS.f k l) (l.map convR) := by
 refine Ev.congr (fun k => ?_) (toTableRefS_loop l hl l.length 0 (by omega) (List.replicate l.length z48) (by simp) (by simp))
 unfold laws_toTableRefS.f
 rw [if_pos (by omega), Int.toNat_natCast, if_pos (by omega)]
 rfl
theorem eqTableRef_self (x : S48) : laws_eqTableRef.f x.f0 x.f1 x.f2 x.f3 x.f0 x.f1 x.f2 x.f3 = some true := by
 unfold laws_eqTableRef.f
 rw [if_pos rfl, if_pos rfl, if_pos rfl, if_pos rfl]
theorem eqTableRefS_loop (l : List S48) (hl : l.length ≤ 1048576) : ∀ d i : Nat, i + d = l.length → Ev (fun k => laws_eqTableRefS.l0 k l l (i : Int)) true := by
 intro d
 induction d with
 | zero =>
  intro i hi
  refine Ev.step (f := fun _ => some true) (fun k => ?_) (Ev.now _)
  rw [laws_eqTableRefS.l0, if_neg (by omega)]
 | succ d ih =>
  intro i hi
  have hlt : i < l.length := by omega
  refine Ev.step (fun k => ?_) (ih (i + 1) (by omega))
  rw [laws_eqTableRefS.l0, if_pos (by omega), if_pos (by omega), if_pos (by omega), rd48 l i hlt, eqTableRef_self]
  simp only [Option.bind_some]
  rw [if_pos trivial, wrap_succ (by omega)]
theorem eqTableRefS_self (l : List S48) (hl : l.length ≤ 1048576) : Ev (fun k => laws_eqTableRefS.f k l l) true := by
 refine Ev.congr (fun k => ?_) (eqTableRefS_loop l hl l.length 0 (by omega))
 unfold laws_eqTableRefS.f
 rw [if_pos rfl]
 rfl
theorem toIntS_loop (l : List Int) (hl : l.length ≤ 1048576) : ∀ d i : Nat, i + d = l.length → ∀ xs : List Int, xs.length = l.length → xs.take i = l.take i →
  Ev (fun k => laws_toIntS.l0 k l xs (i : Int)) l := by
 intro d
 induction d with
 | zero =>
  intro i hi xs hx ht
  have e : xs = l := by rw [List.take_of_length_le (by omega), List.take_of_length_le (by omega)] at ht; exact ht
  refine Ev.step (f := fun _ => some xs) (fun k => ?_) (e ▸ Ev.now _)
  rw [laws_toIntS.l0, if_neg (by omega)]
 | succ d ih =>
  intro i hi xs hx ht
  have hlt : i < l.length := by omega
  refine Ev.step (fun k => ?_) (ih (i + 1) (by omega) (xs.set i l[i]) (by rw [List.length_set]; exact hx) ?_)
  ·rw [laws_toIntS.l0, if_pos (by omega), if_pos (by omega), if_pos (by omega), rdI l i hlt, wrap_succ (by omega), Int.toNat_natCast]
  ·rw [take_at _ i (by rw [List.length_set]; omega), List.take_set_of_le (Nat.le_refl i), ht, List.getElem_set_self, take_at l i hlt]
theorem toIntS_eq (l : List Int) (hl : l.length ≤ 1048576) : Ev (fun k => laws_toIntS.f k l) l := by
 refine Ev.congr (fun k => ?_) (toIntS_loop l hl l.length 0 (by omega) (List.replicate l.length 0) (by simp) (by simp))
 unfold laws_toIntS.f
 rw [if_pos (by omega), Int.toNat_natCast, if_pos (by omega)]
 rfl
theorem eqIntS_loop (l : List Int) (hl : l.length ≤ 1048576) : ∀ d i : Nat, i + d = l.length → Ev (fun k => laws_eqIntS.l0 k l l (i : Int)) true := by
 intro d
 induction d with
 | zero =>
  intro i hi
  refine Ev.step (f := fun _ => some true) (fun k => ?_) (Ev.now _)
  rw [laws_eqIntS.l0, if_neg (by omega)]
 | succ d ih =>
  intro i hi
  have hlt : i < l.length := by omega
  refine Ev.step (fun k => ?_) (ih (i + 1) (by omega))
  rw [laws_eqIntS.l0, if_pos (by omega), if_pos (by omega), if_pos (by omega), if_pos rfl, wrap_succ (by omega)]
theorem eqIntS_self (l : List Int) (hl : l.length ≤ 1048576) : Ev (fun k => laws_eqIntS.f k l l) true := by
 refine Ev.congr (fun k => ?_) (eqIntS_loop l hl l.length 0 (by omega))
 unfold laws_eqIntS.f
 rw [if_pos rfl]
 rfl
theorem szIntS_eq (l : List Int) (a : Int) (ha : 0 ≤ a) (ha2 : a ≤ 1048576) (hl : l.length * 8 ≤ 140737488351232) : laws_szIntS.f l a = some (if (l.length : Int) ≤ a then a - (l.length : Int) else -1) := by
 unfold laws_szIntS.f
 rw [wrap_ok (x := a - (l.length : Int)) (by omega) (by omega)]
 by_cases c : (l.length : Int) ≤ a
 ·rw [if_neg (by omega), if_pos c]
 ·rw [if_pos (by omega), if_neg c]
def weightE (adds : List S61) (dels : List Int) : Nat := weight61 adds + dels.length
theorem szEdit_eq (adds : List S61) (dels : List Int) (log next last : Int) (a : Int) (ha : 0 ≤ a) (ha2 : a ≤ 1048576) (ok : Ok61s adds) (okd : dels.length * 8 ≤ 140737488351232) :
  Ev (fun k => laws_szEdit.f k adds dels log next last a) (if (weightE adds dels : Int) ≤ a then a - (weightE adds dels : Int) else -1) := by
 refine Ev.bind (szTableRefS_eq adds a ha ha2 ok) ?_
 have hw : weightE adds dels = weight61 adds + dels.length := rfl
 by_cases c : (weight61 adds : Int) ≤ a
 ·rw [if_pos c]
  refine Ev.congr (fun k => if_neg (by omega)) ?_
  rw [szIntS_eq dels _ (by omega) (by omega) okd]
  by_cases d : (dels.length : Int) ≤ a - (weight61 adds : Int)
  ·rw [if_pos d, if_pos (by omega)]
   refine Ev.pure (fun k => ?_)
   show (if _ then _ else _) = _
   rw [if_neg (by omega)]
   congr 1
   omega
  ·rw [if_neg d, if_neg (by omega)]
   exact Ev.pure (fun k => rfl)
 ·have e : (if (weightE adds dels : Int) ≤ a then a - (weightE adds dels : Int) else -1) = -1 := if_neg (by omega)
  rw [if_neg c, e]
  exact Ev.pure (fun k => if_pos (by omega))
theorem toEdit_eq (adds : List S61) (dels : List Int) (log next last : Int) (ha : adds.length ≤ 1048576) (hd : dels.length ≤ 1048576) : Ev (fun k => laws_toEdit.f k adds dels log next last) (adds.map convR, dels, log, next, last) :=
 Ev.bind (toTableRefS_eq adds ha) (Ev.bind (toIntS_eq dels hd) (Ev.now _))
theorem eqEdit_self (adds : List S48) (dels : List Int) (log next last : Int) (ha : adds.length ≤ 1048576) (hd : dels.length ≤ 1048576) : Ev (fun k => laws_eqEdit.f k adds dels log next last adds dels log next last) true := by
 refine Ev.bind (eqTableRefS_self adds ha) (Ev.congr (fun k => if_pos rfl) (Ev.bind (eqIntS_self dels hd) (Ev.congr (fun k => if_pos rfl) (Ev.pure (fun k => ?_)))))
 rw [if_pos rfl, if_pos rfl, if_pos rfl]
theorem size_strOfNums (a : Int) : (strOfNums [a]).size = 1 := rfl
theorem markText_ends : ∀ (n : Nat) (k : Nat) (acc : ByteArray), k ≤ n → acc.size + k ≤ 4611686018427387904 → ∃ t, Ev (fun j => laws_markText.l0 j (k : Int) acc) t := by
 intro n
 induction n with
 | zero =>
  intro k acc hk hs
  refine ⟨(⟨#[109]⟩ : ByteArray) ++ acc, Ev.step (f := fun _ => some ((⟨#[109]⟩ : ByteArray) ++ acc)) (fun j => ?_) (Ev.now _)⟩
  rw [laws_markText.l0, if_neg (by omega), if_pos (by omega)]
 | succ n ih =>
  intro k acc hk hs
  by_cases c : k = 0
  ·refine ⟨(⟨#[109]⟩ : ByteArray) ++ acc, Ev.step (f := fun _ => some ((⟨#[109]⟩ : ByteArray) ++ acc)) (fun j => ?_) (Ev.now _)⟩
   rw [laws_markText.l0, if_neg (by omega), if_pos (by omega)]
  ·have ht : Int.tdiv (k : Int) 10 = ((k / 10 : Nat) : Int) := by
    rw [Int.tdiv_eq_ediv_of_nonneg (by omega)]; omega
   have hsz := size_strOfNums ((wrap64 (48 + (Int.tmod (k : Int) 10))) % 256)
   obtain ⟨t, h⟩ := ih (k / 10) (strOfNums [(wrap64 (48 + (Int.tmod (k : Int) 10))) % 256] ++ acc) (by omega) (by rw [ByteArray.size_append, hsz]; omega)
   refine ⟨t, Ev.step (fun j => ?_) h⟩
   rw [laws_markText.l0, if_pos (by omega), Option.bind_some, if_pos (by rw [hsz]; omega), ht, wrap_ok (by omega) (by omega)]
theorem markText_all (k : Nat) (hk : k ≤ 4611686018427387904) : ∃ t, Ev (fun j => laws_markText.f j (k : Int)) t := by
 by_cases c : k = 0
 ·exact ⟨_, Ev.pure (fun j => if_pos (by omega))⟩
 ·obtain ⟨t, h⟩ := markText_ends k k ⟨#[]⟩ (Nat.le_refl _) (by show 0 + k ≤ _; omega)
  exact ⟨t, Ev.congr (fun j => if_neg (by omega)) h⟩
open Classical in
noncomputable def mt (k : Nat) : ByteArray := if h : ∃ t, Ev (fun j => laws_markText.f j (k : Int)) t then Classical.choose h else ⟨#[]⟩
theorem mt_eq (k : Nat) (hk : k ≤ 4611686018427387904) : Ev (fun j => laws_markText.f j (k : Int)) (mt k) := by
 unfold mt
 rw [dif_pos (markText_all k hk)]
 exact Classical.choose_spec (markText_all k hk)
theorem set_here {α : Type} (a b : List α) (x y : α) (i : Nat) (h : a.length = i) : (a ++ x :: b).set i y = a ++ y :: b := by
 subst h
 rw [List.set_append_right _ _ (Nat.le_refl _), Nat.sub_self]
 rfl
noncomputable def mark1E (k : Nat) : S48 := ⟨((k : Nat) : Int), ((k + 1 : Nat) : Int), mt (k + 2), mt (k + 3)⟩
noncomputable def markedE : Nat → List S48 → List S48
 | _, [] => []
 | k, _ :: l => mark1E k :: markedE (k + 4) l
theorem markedE_length (l : List S48) : ∀ k, (markedE k l).length = l.length := by
 induction l with
 | nil => intro k; rfl
 | cons x l ih => intro k; show (markedE (k + 4) l).length + 1 = l.length + 1; rw [ih]
theorem markedE_append (a b : List S48) : ∀ k, markedE k (a ++ b) = markedE k a ++ markedE (k + 4 * a.length) b := by
 induction a with
 | nil => intro k; rfl
 | cons x a ih =>
  intro k
  show _ :: markedE (k + 4) (a ++ b) = _ :: (markedE (k + 4) a ++ _)
  rw [ih, show k + 4 + 4 * a.length = k + 4 * (x :: a).length by simp; omega]
theorem rd_hereE (a b : List S48) (x : S48) (i : Nat) (h : a.length = i) : rd_T48 (a ++ x :: b) (i : Int) = x := by
 subst h
 rw [rd48 _ _ (by simp)]
 simp
theorem markTableRefS_loop (s : Nat) (hs : s ≤ 1048576000) (l : List S48) (hl : l.length ≤ 1048577) : ∀ d i : Nat, i + d = l.length →
  Ev (fun j => laws_markTableRefS.l0 j (markedE s (l.take i) ++ l.drop i) ((s + 4 * i : Nat) : Int) (i : Int)) (((s + 4 * l.length : Nat) : Int), markedE s l) := by
 intro d
 induction d with
 | zero =>
  intro i hi
  refine Ev.step (f := fun _ => some (((s + 4 * l.length : Nat) : Int), markedE s l)) (fun j => ?_) (Ev.now _)
  have e : markedE s (l.take i) ++ l.drop i = markedE s l := by rw [List.drop_eq_nil_of_le (by omega), List.append_nil, List.take_of_length_le (by omega)]
  rw [e, laws_markTableRefS.l0, if_neg (by rw [markedE_length]; omega), show i = l.length by omega]
 | succ d ih =>
  intro i hi
  have hlt : i < l.length := by omega
  have hiL : i ≤ l.length := Nat.le_of_lt hlt
  have hi1 : i + 1 + d = l.length := by omega
  have hb2 : s + 4 * i + 2 ≤ 4611686018427387904 := by omega
  have hb3 : s + 4 * i + 3 ≤ 4611686018427387904 := by omega
  have hltI : (i : Int) < (l.length : Int) := by omega
  have h0I : (0 : Int) ≤ (i : Int) := by omega
  have hm : (markedE s (l.take i)).length = i := by rw [markedE_length, List.length_take]; omega
  have hlen : (markedE s (l.take i) ++ l.drop i).length = l.length := by rw [List.length_append, hm, List.length_drop]; omega
  rw [drop_at l i hlt] at hlen ⊢
  generalize hA : markedE s (l.take i) = A at hm hlen ⊢
  have e1 : wrap64 (((s + 4 * i : Nat) : Int) + 1) = ((s + 4 * i + 1 : Nat) : Int) := by rw [wrap_ok] <;> omega
  have e2 : wrap64 (((s + 4 * i + 1 : Nat) : Int) + 1) = ((s + 4 * i + 2 : Nat) : Int) := by rw [wrap_ok] <;> omega
  have e3 : wrap64 (((s + 4 * i + 2 : Nat) : Int) + 1) = ((s + 4 * i + 3 : Nat) : Int) := by rw [wrap_ok] <;> omega
  have e3' : wrap64 (((s + 4 * i + 3 : Nat) : Int) + 1) = ((s + 4 * (i + 1) : Nat) : Int) := by rw [wrap_ok] <;> omega
  have e4 : wrap64 ((i : Int) + 1) = ((i + 1 : Nat) : Int) := wrap_succ (by omega)
  have h2 := ih (i + 1) hi1
  have e5 : markedE s (l.take (i + 1)) ++ l.drop (i + 1) = A ++ mark1E (s + 4 * i) :: l.drop (i + 1) := by
   rw [take_at l i hlt, markedE_append, hA, List.length_take, Nat.min_eq_left hiL, List.append_assoc]
   rfl
  rw [e5] at h2
  refine Ev.step (f := fun j => ((laws_markText.f j ((s + 4 * i + 2 : Nat) : Int)).bind fun t231 => ((laws_markText.f j ((s + 4 * i + 3 : Nat) : Int)).bind fun t233 => (laws_markTableRefS.l0 j (A ++ (⟨((s + 4 * i : Nat) : Int), ((s + 4 * i + 1 : Nat) : Int), t231, t233⟩ : S48) :: l.drop (i + 1)) ((s + 4 * (i + 1) : Nat) : Int) ((i + 1 : Nat) : Int))))) (fun j => ?_) (Ev.bind (mt_eq _ hb2) (Ev.bind (mt_eq _ hb3) h2))
  rw [laws_markTableRefS.l0, if_pos (by rw [hlen]; exact hltI)]
  have e6 : ((0 : Int) ≤ (i : Int)) = True := eq_true h0I
  simp only [Option.bind_some, Int.toNat_natCast, e1, e2, e3, e3', e4, e6, if_true, rd_hereE A _ _ i hm, set_here A _ _ _ i hm]
theorem markTableRefS_eq (s : Nat) (hs : s ≤ 1048576000) (l : List S48) (hl : l.length ≤ 1048577) : Ev (fun j => laws_markTableRefS.f j l (s : Int)) (((s + 4 * l.length : Nat) : Int), markedE s l) := by
 have := markTableRefS_loop s hs l hl l.length 0 (by omega)
 exact this
theorem heldTableRefS_loop (s : Nat) (hs : s ≤ 1048576000) (l : List S48) (hl : l.length ≤ 1048577) : ∀ d i : Nat, i + d = l.length →
  Ev (fun j => laws_heldTableRefS.l0 j (markedE s l) ((s + 4 * i : Nat) : Int) (i : Int)) ((s + 4 * l.length : Nat) : Int) := by
 intro d
 induction d with
 | zero =>
  intro i hi
  refine Ev.step (f := fun _ => some ((s + 4 * l.length : Nat) : Int)) (fun j => ?_) (Ev.now _)
  rw [laws_heldTableRefS.l0, if_neg (by rw [markedE_length]; omega), show i = l.length by omega]
 | succ d ih =>
  intro i hi
  have hlt : i < l.length := by omega
  have hiL : i ≤ l.length := Nat.le_of_lt hlt
  have hi1 : i + 1 + d = l.length := by omega
  have hb2 : s + 4 * i + 2 ≤ 4611686018427387904 := by omega
  have hb3 : s + 4 * i + 3 ≤ 4611686018427387904 := by omega
  have hltI : (i : Int) < (l.length : Int) := by omega
  have h0I : (0 : Int) ≤ (i : Int) := by omega
  have hm : (markedE s (l.take i)).length = i := by rw [markedE_length, List.length_take]; omega
  have hlen := markedE_length l s
  have e0 : markedE s l = markedE s (l.take i) ++ mark1E (s + 4 * i) :: markedE (s + 4 * i + 4) (l.drop (i + 1)) := by
   have : l = l.take i ++ l[i] :: l.drop (i + 1) := by rw [← drop_at l i hlt, List.take_append_drop]
   conv => lhs; rw [this, markedE_append, List.length_take, Nat.min_eq_left hiL]
   rfl
  have e1 : wrap64 (((s + 4 * i : Nat) : Int) + 1) = ((s + 4 * i + 1 : Nat) : Int) := by rw [wrap_ok] <;> omega
  have e2 : wrap64 (((s + 4 * i + 1 : Nat) : Int) + 1) = ((s + 4 * i + 2 : Nat) : Int) := by rw [wrap_ok] <;> omega
  have e3 : wrap64 (((s + 4 * i + 2 : Nat) : Int) + 1) = ((s + 4 * i + 3 : Nat) : Int) := by rw [wrap_ok] <;> omega
  have e3' : wrap64 (((s + 4 * i + 3 : Nat) : Int) + 1) = ((s + 4 * (i + 1) : Nat) : Int) := by rw [wrap_ok] <;> omega
  have e4 : wrap64 ((i : Int) + 1) = ((i + 1 : Nat) : Int) := wrap_succ (by omega)
  have er : rd_T48 (markedE s l) (i : Int) = ⟨((s + 4 * i : Nat) : Int), ((s + 4 * i + 1 : Nat) : Int), mt (s + 4 * i + 2), mt (s + 4 * i + 3)⟩ := by rw [e0]; exact rd_hereE _ _ _ i hm
  have h2 := ih (i + 1) hi1
  refine Ev.step (f := fun j => ((laws_markText.f j ((s + 4 * i + 2 : Nat) : Int)).bind fun t241 => (if (mt (s + 4 * i + 2)).toList = t241.toList then ((laws_markText.f j ((s + 4 * i + 3 : Nat) : Int)).bind fun t243 => (if (mt (s + 4 * i + 3)).toList = t243.toList then (laws_heldTableRefS.l0 j (markedE s l) ((s + 4 * (i + 1) : Nat) : Int) ((i + 1 : Nat) : Int)) else (some (-1)))) else (some (-1))))) (fun j => ?_) (Ev.bind (mt_eq _ hb2) (Ev.congr (fun j => if_pos rfl) (Ev.bind (mt_eq _ hb3) (Ev.congr (fun j => if_pos rfl) h2))))
  rw [laws_heldTableRefS.l0, if_pos (by rw [hlen]; exact hltI)]
  have e6 : ((0 : Int) ≤ (i : Int)) = True := eq_true h0I
  simp only [e1, e2, e3, e3', e4, er, e6, if_true]
theorem heldTableRefS_eq (s : Nat) (hs : s ≤ 1048576000) (l : List S48) (hl : l.length ≤ 1048577) : Ev (fun j => laws_heldTableRefS.f j (markedE s l) (s : Int)) ((s + 4 * l.length : Nat) : Int) := by
 have := heldTableRefS_loop s hs l hl l.length 0 (by omega)
 exact this
def countI (m : Nat) : Nat → List Int
 | 0 => []
 | n + 1 => countI m n ++ [((m + n : Nat) : Int)]
theorem countI_length (m : Nat) : ∀ n, (countI m n).length = n := by
 intro n
 induction n with
 | zero => rfl
 | succ n ih => show (countI m n ++ [_]).length = n + 1; rw [List.length_append, ih]; rfl
theorem markIntS_loop (l : List Int) (m : Nat) (hl : l.length ≤ 1048577) (hm : m ≤ 1048576000) : ∀ d i : Nat, i + d = l.length →
  Ev (fun j => laws_markIntS.l0 j (countI m i ++ l.drop i) ((m + i : Nat) : Int) (i : Int)) (((m + l.length : Nat) : Int), countI m l.length) := by
 intro d
 induction d with
 | zero =>
  intro i hi
  refine Ev.step (f := fun _ => some (((m + l.length : Nat) : Int), countI m l.length)) (fun j => ?_) (Ev.now _)
  rw [List.drop_eq_nil_of_le (by omega), List.append_nil, laws_markIntS.l0, if_neg (by rw [countI_length]; omega), show i = l.length by omega]
 | succ d ih =>
  intro i hi
  have hlt : i < l.length := by omega
  have hm1 := countI_length m i
  have hlen : (countI m i ++ l.drop i).length = l.length := by rw [List.length_append, hm1, List.length_drop]; omega
  rw [drop_at l i hlt] at hlen ⊢
  have h2 := ih (i + 1) (by omega)
  have e : countI m (i + 1) ++ l.drop (i + 1) = countI m i ++ ((m + i : Nat) : Int) :: l.drop (i + 1) := by
   show countI m i ++ [_] ++ _ = _
   rw [List.append_assoc]
   rfl
  rw [e] at h2
  refine Ev.step (fun j => ?_) h2
  rw [laws_markIntS.l0, if_pos (by rw [hlen]; omega), if_pos (by omega), Int.toNat_natCast, set_here _ _ _ _ i hm1, wrap_succ (by omega), wrap_succ (by omega)]
  rfl
theorem markIntS_eq (l : List Int) (m : Nat) (hl : l.length ≤ 1048577) (hm : m ≤ 1048576000) : Ev (fun j => laws_markIntS.f j l (m : Int)) (((m + l.length : Nat) : Int), countI m l.length) := by
 have := markIntS_loop l m hl hm l.length 0 (by omega)
 exact this
end Go.Proofs.Ytlecpmgdoomngaa.M
end
section
namespace Go.Proofs.Ytlecpmgdoomngaa.M
open Go.RowKit Go.Proofs.Ytlecpmgdoomngaa.P Go.Proofs.YtlecpmgdoomngaaW.PrintWords Go.Proofs.YtlecpmgdoomngaaW.PrintLast Go.Proofs.YtlecpmgdoomngaaW.PrintMore
set_option linter.unusedVariables false
set_option linter.unusedSimpArgs false
theorem dist_without (x : Int) : ∀ b : List Int, x ∈ b → dist (b.filter (fun y => decide (y ≠ x))) + 1 = dist b
 | [], h => by cases h
 | y :: ys, h => by
  by_cases hy : y = x
  ·subst hy
   rw [List.filter_cons_of_neg (by simp), dist_cons]
   by_cases hm : y ∈ ys
   ·rw [if_pos hm]
    exact dist_without y ys hm
   ·rw [if_neg hm, List.filter_eq_self.2 (fun a ha => by
     apply decide_eq_true
     rintro rfl
     exact hm ha)]
  ·have hx : x ∈ ys := by
    rcases List.mem_cons.1 h with e | h
    ·exact absurd e.symm hy
    ·exact h
   rw [List.filter_cons_of_pos (by simpa using hy), dist_cons, dist_cons]
   have ih := dist_without x ys hx
   by_cases hm : y ∈ ys
   ·rw [if_pos hm, if_pos (List.mem_filter.2 ⟨hm, by simpa using hy⟩)]
    exact ih
   ·rw [if_neg hm, if_neg (fun e => hm (List.mem_filter.1 e).1)]
    omega
theorem dist_sub : ∀ a b : List Int, (∀ x ∈ a, x ∈ b) → dist a ≤ dist b
 | [], b, _ => Nat.zero_le _
 | x :: xs, b, h => by
  rw [dist_cons]
  by_cases hm : x ∈ xs
  ·rw [if_pos hm]
   exact dist_sub xs b (fun y hy => h y (List.mem_cons_of_mem _ hy))
  ·rw [if_neg hm]
   have h1 := dist_without x b (h x List.mem_cons_self)
   have h2 := dist_sub xs (b.filter (fun y => decide (y ≠ x))) (fun y hy => List.mem_filter.2 ⟨h y (List.mem_cons_of_mem _ hy), by
    apply decide_eq_true
    rintro rfl
    exact hm hy⟩)
   omega
theorem dist_eq {a b : List Int} (h : ∀ x ∈ a, x ∈ b) : dist a = dist b ↔ ∀ x ∈ b, x ∈ a := by
 constructor
 ·intro he x hx
  apply Classical.byContradiction
  intro hn
  have h1 := dist_without x b hx
  have h2 := dist_sub a (b.filter (fun y => decide (y ≠ x))) (fun y hy => List.mem_filter.2 ⟨h y hy, by
   apply decide_eq_true
   rintro rfl
   exact hn hy⟩)
  omega
 ·intro h'
  have h1 := dist_sub a b h
  have h2 := dist_sub b a h'
  omega
theorem mem_hits {ds : List Int} {x : Int} : ∀ ts : List S48, x ∈ hitsOf ds ts ↔ x ∈ ds ∧ x ∈ ts.map (·.f0)
 | [] => by simp [hitsOf]
 | t :: ts => by
  unfold hitsOf
  have ih := mem_hits (x := x) (ds := ds) ts
  split
  ·rename_i hm
   rw [List.mem_cons, ih, List.map_cons, List.mem_cons]
   constructor
   ·rintro (rfl | ⟨h1, h2⟩)
    ·exact ⟨hm, .inl rfl⟩
    ·exact ⟨h1, .inr h2⟩
   ·rintro ⟨h1, rfl | h2⟩
    ·exact .inl rfl
    ·exact .inr ⟨h1, h2⟩
  ·rename_i hm
   rw [ih, List.map_cons, List.mem_cons]
   constructor
   ·rintro ⟨h1, h2⟩
    exact ⟨h1, .inr h2⟩
   ·rintro ⟨h1, rfl | h2⟩
    ·exact absurd h1 hm
    ·exact ⟨h1, h2⟩
theorem keptOf_rev (ds : List Int) : ∀ ts : List S48, keptOf ds.reverse ts = keptOf ds ts
 | [] => rfl
 | t :: ts => by simp only [keptOf, List.mem_reverse, keptOf_rev ds ts]
theorem gone_iff (ds : List Int) (ts : List S48) : dist (hitsOf ds.reverse ts).reverse = dist ds.reverse ↔ ∀ d ∈ ds, d ∈ ts.map (·.f0) := by
 rw [dist_eq (fun x hx => ((mem_hits ts).1 (List.mem_reverse.1 hx)).1)]
 constructor
 ·intro h d hd
  exact ((mem_hits ts).1 (List.mem_reverse.1 (h d (List.mem_reverse.2 hd)))).2
 ·intro h d hd
  exact List.mem_reverse.2 ((mem_hits ts).2 ⟨hd, h d (List.mem_reverse.1 hd)⟩)
theorem clash_comm (t u : S48) : clash t u = clash u t := by
 unfold clash
 by_cases h : t.f1 = u.f1
 ·rw [h]
  simp only [BEq.rfl, Bool.true_and]
  rw [Bool.and_assoc, Bool.and_assoc, Bool.and_comm (!Op.bytesLess t.f3.toList u.f2.toList)]
 ·rw [beq_eq_false_iff_ne.2 h, beq_eq_false_iff_ne.2 (fun e => h e.symm)]
  rfl
def Fit (a b : S48) : Prop := a.f0 ≠ b.f0 ∧ clash a b = false
theorem Fit.symm {a b : S48} (h : Fit a b) : Fit b a := ⟨fun e => h.1 e.symm, by rw [clash_comm]; exact h.2⟩
theorem okAt_iff {before : List S48} {x3 : Int} {t : S48} : okAt before x3 t = true ↔ t.f0 < x3 ∧ ∀ u ∈ before, Fit t u := by
 unfold okAt Fit
 simp only [Bool.and_eq_true, Bool.not_eq_true', decide_eq_false_iff_not, decide_eq_true_eq, List.all_eq_true, List.mem_map, not_exists, not_and]
 constructor
 ·rintro ⟨⟨h1, h2⟩, h3⟩
  exact ⟨h2, fun u hu => ⟨fun e => h1 u hu e.symm, h3 u hu⟩⟩
 ·rintro ⟨h1, h2⟩
  exact ⟨⟨fun u hu e => (h2 u hu).1 e.symm, h1⟩, fun u hu => (h2 u hu).2⟩
theorem checks_iff {x3 : Int} : ∀ (l before : List S48), checks x3 before l = true ↔ (∀ t ∈ l, t.f0 < x3) ∧ l.Pairwise Fit ∧ ∀ t ∈ l, ∀ u ∈ before, Fit t u
 | [], before => by simp [checks]
 | t :: ts, before => by
  unfold checks
  rw [Bool.and_eq_true, okAt_iff, checks_iff ts (before ++ [t]), List.pairwise_cons]
  constructor
  ·rintro ⟨⟨h1, h2⟩, h3, h4, h5⟩
   refine ⟨fun x hx => ?_, ⟨fun x hx => ?_, h4⟩, fun x hx u hu => ?_⟩
   ·rcases List.mem_cons.1 hx with rfl | hx
    ·exact h1
    ·exact h3 x hx
   ·exact (h5 x hx t (by simp)).symm
   ·rcases List.mem_cons.1 hx with rfl | hx
    ·exact h2 u hu
    ·exact h5 x hx u (List.mem_append_left _ hu)
  ·rintro ⟨h1, ⟨h2, h3⟩, h4⟩
   refine ⟨⟨h1 t List.mem_cons_self, h4 t List.mem_cons_self⟩, fun x hx => h1 x (List.mem_cons_of_mem _ hx), h3, fun x hx u hu => ?_⟩
   rcases List.mem_append.1 hu with hu | hu
   ·exact h4 x (List.mem_cons_of_mem _ hx) u hu
   ·rcases List.mem_singleton.1 hu with rfl
    exact (h2 x hx).symm
theorem checks_perm {x3 : Int} {a b : List S48} (h : a.Perm b) : checks x3 [] a = checks x3 [] b := by
 rw [Bool.eq_iff_iff, checks_iff, checks_iff]
 constructor
 ·rintro ⟨h1, h2, _⟩
  exact ⟨fun t ht => h1 t (h.mem_iff.2 ht), h2.perm h (fun h => h.symm), fun _ _ _ hu => by cases hu⟩
 ·rintro ⟨h1, h2, _⟩
  exact ⟨fun t ht => h1 t (h.mem_iff.1 ht), h2.perm h.symm (fun h => h.symm), fun _ _ _ hu => by cases hu⟩
theorem isort_snoc (l : List S48) (x : S48) : isort (l ++ [x]) = insT x (isort l) := by
 unfold isort
 rw [List.foldl_append]
 rfl
theorem isort_length (l : List S48) : (isort l).length = l.length := (isort_perm l).length_eq
theorem hasNum_loop (xs : List Int) (a : Int) (hl : xs.length ≤ 1048577) : ∀ d i : Nat, i + d = xs.length → Ev (fun k => spec_l4HasNum.l0 k xs a (i : Int)) (decide (a ∈ xs.drop i)) := by
 intro d
 induction d with
 | zero =>
  intro i hi
  rw [List.drop_eq_nil_of_le (by omega)]
  refine Ev.step (f := fun _ => some false) (fun k => ?_) ?_
  ·rw [spec_l4HasNum.l0, if_neg (by omega)]
  ·exact Ev.now _
 | succ d ih =>
  intro i hi
  have hlt : i < xs.length := by omega
  rw [drop_at xs i hlt]
  by_cases h : xs[i] = a
  ·have e : decide (a ∈ xs[i] :: xs.drop (i + 1)) = true := decide_eq_true (by rw [h]; exact List.mem_cons_self)
   rw [e]
   refine Ev.step (f := fun _ => some true) (fun k => ?_) (Ev.now _)
   rw [spec_l4HasNum.l0, if_pos (by omega), if_pos (by omega), rdI xs i hlt, if_pos h]
  ·have e : decide (a ∈ xs[i] :: xs.drop (i + 1)) = decide (a ∈ xs.drop (i + 1)) := decide_eq_decide.2 (by
    rw [List.mem_cons]
    exact ⟨fun x => x.resolve_left (fun e => h e.symm), .inr⟩)
   rw [e]
   refine Ev.step (fun k => ?_) (ih (i + 1) (by omega))
   rw [spec_l4HasNum.l0, if_pos (by omega), if_pos (by omega), rdI xs i hlt, if_neg h, wrap_succ (by omega)]
theorem hasNum_eq (xs : List Int) (a : Int) (hl : xs.length ≤ 1048577) : Ev (fun k => spec_l4HasNum.f k xs a) (decide (a ∈ xs)) := hasNum_loop xs a hl xs.length 0 (by omega)
theorem put_rest (l : List S48) (x : S48) (hl : l.length ≤ 1048577) : ∀ d i : Nat, i + d = l.length → ∀ acc : List S48, acc.length = i + 1 → Ev (fun k => spec_l4Put.l0 k l acc true (i : Int) x.f0 x.f1 x.f2 x.f3) (acc ++ l.drop i) := by
 intro d
 induction d with
 | zero =>
  intro i hi acc ha
  rw [List.drop_eq_nil_of_le (by omega), List.append_nil]
  refine Ev.step (f := fun _ => some acc) (fun k => ?_) (Ev.now _)
  rw [spec_l4Put.l0, if_neg (by omega), if_pos rfl]
 | succ d ih =>
  intro i hi acc ha
  have hlt : i < l.length := by omega
  have h2 := ih (i + 1) (by omega) (acc ++ [l[i]]) (by rw [List.length_append]; simp; omega)
  rw [List.append_assoc] at h2
  rw [drop_at l i hlt]
  refine Ev.step (fun k => ?_) h2
  rw [spec_l4Put.l0, if_pos (by omega), if_pos rfl, if_pos (by omega), if_pos (by omega), rd48 l i hlt, wrap_succ (by omega)]
theorem before_eq (x y : S48) : spec_l4RefBefore.f x.f0 x.f1 x.f2 x.f3 y.f0 y.f1 y.f2 y.f3 = some (decide (x.f1 < y.f1 ∨ x.f1 = y.f1 ∧ x.f0 < y.f0)) := by
 unfold spec_l4RefBefore.f
 by_cases h : x.f1 = y.f1
 ·rw [if_pos h]
  exact congrArg some (decide_eq_decide.2 (by omega))
 ·rw [if_neg h]
  exact congrArg some (decide_eq_decide.2 (by omega))
theorem put_loop (l : List S48) (x : S48) (hl : l.length ≤ 1048577) : ∀ d i : Nat, i + d = l.length → ∀ acc : List S48, acc.length = i → Ev (fun k => spec_l4Put.l0 k l acc false (i : Int) x.f0 x.f1 x.f2 x.f3) (acc ++ insT x (l.drop i)) := by
 intro d
 induction d with
 | zero =>
  intro i hi acc ha
  rw [List.drop_eq_nil_of_le (by omega)]
  refine Ev.step (f := fun _ => some (acc ++ [x])) (fun k => ?_) (Ev.now _)
  rw [spec_l4Put.l0, if_neg (by omega), if_neg (by decide), if_pos (by omega)]
 | succ d ih =>
  intro i hi acc ha
  have hlt : i < l.length := by omega
  rw [drop_at l i hlt]
  by_cases h : x.f1 < l[i].f1 ∨ x.f1 = l[i].f1 ∧ x.f0 < l[i].f0
  ·have e : insT x (l[i] :: l.drop (i + 1)) = x :: l[i] :: l.drop (i + 1) := by unfold insT; rw [if_pos h]
   have h2 := put_rest l x hl d (i + 1) (by omega) (acc ++ [x] ++ [l[i]]) (by simp; omega)
   rw [e]
   rw [List.append_assoc, List.append_assoc] at h2
   refine Ev.step (fun k => ?_) h2
   have hb := before_eq x l[i]
   rw [decide_eq_true h] at hb
   have hlen : (acc ++ [x]).length < 2932031007402 := by simp; omega
   rw [spec_l4Put.l0, if_pos (by omega), if_neg (by decide), if_pos (by omega), rd48 l i hlt, hb, Option.bind_some, if_pos rfl, if_pos (by omega), Option.bind_some, if_pos hlen, wrap_succ (by omega), List.append_assoc]
  ·have e : insT x (l[i] :: l.drop (i + 1)) = l[i] :: insT x (l.drop (i + 1)) := by
    show (if _ then _ else _) = _
    rw [if_neg h]
   have h2 := ih (i + 1) (by omega) (acc ++ [l[i]]) (by simp; omega)
   rw [e]
   rw [List.append_assoc] at h2
   refine Ev.step (fun k => ?_) h2
   have hb := before_eq x l[i]
   rw [decide_eq_false h] at hb
   rw [spec_l4Put.l0, if_pos (by omega), if_neg (by decide), if_pos (by omega), rd48 l i hlt, hb, Option.bind_some, if_neg (by decide), if_pos (by omega), wrap_succ (by omega)]
theorem put_eq (l : List S48) (x : S48) (hl : l.length ≤ 1048577) : Ev (fun k => spec_l4Put.f k l x.f0 x.f1 x.f2 x.f3) (insT x l) := put_loop l x hl l.length 0 (by omega) [] rfl
section
variable (ts adds : List S48) (ds : List Int) (a1 a2 a3 x2 x3 x4 : Int)
def Fair (l : List S48) : Prop := ∀ t ∈ l, t.f3.size ≤ 140737488351232
theorem l4_loop (S : List S48) (hS : S.length ≤ 1048577) (hF : Fair S) (i : Nat) (hi : i < S.length) (r : Out) (hr : Ev (fun k => spec_ApplyEdit.l3 k S ((i + 1 : Nat) : Int) adds ds x2 x3 x4) r) : ∀ d j : Nat, j + d = i →
  Ev (fun k => spec_ApplyEdit.l4 k S (i : Int) (j : Int) adds ds x2 x3 x4) (if ((S.take i).drop j).all (fun u => !decide (S[i].f0 = u.f0) && !clash S[i] u) = true then r else failed) := by
 intro d
 induction d with
 | zero =>
  intro j hj
  rw [List.drop_eq_nil_of_le (by rw [List.length_take]; omega), List.all_nil, if_pos rfl]
  refine Ev.step (fun k => ?_) hr
  rw [spec_ApplyEdit.l4, if_neg (by omega), wrap_succ (by omega)]
 | succ d ih =>
  intro j hj
  have hjS : j < S.length := by omega
  have hdr : (S.take i).drop j = S[j] :: (S.take i).drop (j + 1) := by
   rw [drop_at (S.take i) j (by rw [List.length_take]; omega), List.getElem_take]
  rw [hdr, List.all_cons]
  have ih' := ih (j + 1) (by omega)
  have hsi := hF S[i] (List.getElem_mem hi)
  have hsj := hF S[j] (List.getElem_mem hjS)
  have e4 : wrap64 ((j : Int) + 1) = ((j + 1 : Nat) : Int) := wrap_succ (by omega)
  have hl1 := less_eq S[i].f3 S[j].f2 (by omega)
  have hl2 := less_eq S[j].f3 S[i].f2 (by omega)
  have hji : (j : Int) < (i : Int) := by omega
  have h0i : (0 : Int) ≤ (i : Int) := by omega
  have h0j : (0 : Int) ≤ (j : Int) := by omega
  have hiS : (i : Int) < (S.length : Int) := by omega
  have hjSI : (j : Int) < (S.length : Int) := by omega
  have hopen : ∀ k, spec_ApplyEdit.l4 (k + 1) S (i : Int) (j : Int) adds ds x2 x3 x4 = (if S[i].f0 = S[j].f0 then some failed else ((spec_l1Less.f k S[i].f3 S[j].f2).bind fun t177 => (if t177 = true then (if S[i].f1 = S[j].f1 then (if S[i].f1 > 0 then (spec_ApplyEdit.l4 k S (i : Int) ((j + 1 : Nat) : Int) adds ds x2 x3 x4) else (spec_ApplyEdit.l4 k S (i : Int) ((j + 1 : Nat) : Int) adds ds x2 x3 x4)) else (spec_ApplyEdit.l4 k S (i : Int) ((j + 1 : Nat) : Int) adds ds x2 x3 x4)) else ((spec_l1Less.f k S[j].f3 S[i].f2).bind fun t183 => (if S[i].f1 = S[j].f1 then (if S[i].f1 > 0 then (if t183 = true then (spec_ApplyEdit.l4 k S (i : Int) ((j + 1 : Nat) : Int) adds ds x2 x3 x4) else some failed) else (spec_ApplyEdit.l4 k S (i : Int) ((j + 1 : Nat) : Int) adds ds x2 x3 x4)) else (spec_ApplyEdit.l4 k S (i : Int) ((j + 1 : Nat) : Int) adds ds x2 x3 x4)))))) := by
   intro k
   rw [spec_ApplyEdit.l4, if_pos hji, if_pos h0i, if_pos hiS, if_pos h0j, if_pos hjSI, rd48 S i hi, rd48 S j hjS, e4]
   rfl
  refine Ev.step hopen ?_
  generalize hC : ((S.take i).drop (j + 1)).all (fun u => !decide (S[i].f0 = u.f0) && !clash S[i] u) = C at ih' ⊢
  by_cases hn : S[i].f0 = S[j].f0
  ·rw [decide_eq_true hn]
   exact Ev.congr (fun k => if_pos hn) (Ev.now _)
  ·rw [decide_eq_false hn]
   refine Ev.congr (fun k => if_neg hn) (Ev.bind hl1 ?_)
   have hcl : clash S[i] S[j] = ((S[i].f1 == S[j].f1) && decide (0 < S[i].f1) && !lss S[i].f3 S[j].f2 && !lss S[j].f3 S[i].f2) := rfl
   cases h1 : lss S[i].f3 S[j].f2 with
   | true =>
    rw [hcl, h1]
    simp only [Bool.not_true, Bool.and_false, Bool.false_and, Bool.not_false, Bool.true_and]
    refine Ev.congr (fun k => ?_) ih'
    rw [if_pos trivial]
    split
    ·split <;> rfl
    ·rfl
   | false =>
    refine Ev.congr (fun k => if_neg (by decide)) (Ev.bind hl2 ?_)
    rw [hcl, h1]
    by_cases h2 : S[i].f1 = S[j].f1
    ·refine Ev.congr (fun k => if_pos h2) ?_
     by_cases h3 : S[i].f1 > 0
     ·refine Ev.congr (fun k => if_pos h3) ?_
      rw [beq_iff_eq.2 h2, decide_eq_true (show 0 < S[i].f1 from h3)]
      cases h4 : lss S[j].f3 S[i].f2 with
      | true => exact Ev.congr (fun k => if_pos rfl) ih'
      | false => exact Ev.congr (fun k => if_neg (by decide)) (Ev.now _)
     ·refine Ev.congr (fun k => if_neg h3) ?_
      rw [decide_eq_false (show ¬ 0 < S[i].f1 from h3)]
      simp only [Bool.and_false, Bool.false_and, Bool.not_false, Bool.true_and]
      exact ih'
    ·refine Ev.congr (fun k => if_neg h2) ?_
     rw [beq_eq_false_iff_ne.2 h2]
     exact ih'
theorem okAt_form (before : List S48) (t : S48) : okAt before x3 t = (decide (t.f0 < x3) && before.all (fun u => !decide (t.f0 = u.f0) && !clash t u)) := by
 rw [Bool.eq_iff_iff, okAt_iff]
 unfold Fit
 simp only [Bool.and_eq_true, decide_eq_true_eq, List.all_eq_true, Bool.not_eq_true', decide_eq_false_iff_not, ne_eq]
theorem l3_loop (S : List S48) (hS : S.length ≤ 1048577) (hF : Fair S) : ∀ d i : Nat, i + d = S.length →
  Ev (fun k => spec_ApplyEdit.l3 k S (i : Int) adds ds x2 x3 x4) (if checks x3 (S.take i) (S.drop i) = true then (S, x2, x3, x4, true) else failed) := by
 intro d
 induction d with
 | zero =>
  intro i hi
  rw [List.drop_eq_nil_of_le (by omega)]
  refine Ev.step (f := fun _ => some (S, x2, x3, x4, true)) (fun k => ?_) ?_
  ·rw [spec_ApplyEdit.l3, if_neg (by omega)]
  ·unfold checks
   rw [if_pos rfl]
   exact Ev.now _
 | succ d ih =>
  intro i hi
  have hlt : i < S.length := by omega
  have ih' := ih (i + 1) (by omega)
  have hl4 := l4_loop adds ds x2 x3 x4 S hS hF i hlt _ ih' i 0 (by omega)
  rw [List.drop_zero] at hl4
  have e : checks x3 (S.take i) (S.drop i) = (okAt (S.take i) x3 S[i] && checks x3 (S.take (i + 1)) (S.drop (i + 1))) := by
   rw [drop_at S i hlt, take_at S i hlt]
   rfl
  rw [e, okAt_form]
  by_cases c : S[i].f0 ≥ x3
  ·rw [decide_eq_false (show ¬ S[i].f0 < x3 by omega)]
   refine Ev.step (f := fun _ => some failed) (fun k => ?_) (Ev.now _)
   rw [spec_ApplyEdit.l3, if_pos (by omega), if_pos (by omega), rd48 S i hlt, if_pos c]
   rfl
  ·rw [decide_eq_true (show S[i].f0 < x3 by omega)]
   have e2 : (if (true && (S.take i).all (fun u => !decide (S[i].f0 = u.f0) && !clash S[i] u) && checks x3 (S.take (i + 1)) (S.drop (i + 1))) = true then (S, x2, x3, x4, true) else failed)
     = (if (S.take i).all (fun u => !decide (S[i].f0 = u.f0) && !clash S[i] u) = true then (if checks x3 (S.take (i + 1)) (S.drop (i + 1)) = true then (S, x2, x3, x4, true) else failed) else failed) := by
    cases (S.take i).all (fun u => !decide (S[i].f0 = u.f0) && !clash S[i] u) <;> simp
   rw [e2]
   refine Ev.step (fun k => ?_) hl4
   rw [spec_ApplyEdit.l3, if_pos (by omega), if_pos (by omega), rd48 S i hlt, if_neg c]
   rfl
def finS (S : List S48) (x2 x3 x4 : Int) : Out := if x2 ≥ x3 then failed else if 1000 < S.length then failed else if checks x3 [] S = true then (S, x2, x3, x4, true) else failed
theorem j4_true (S : List S48) : Ev (fun k => spec_ApplyEdit.j4 k S true adds ds x2 x3 x4) failed := Ev.step (f := fun _ => some failed) (fun k => by rw [spec_ApplyEdit.j4, if_pos rfl]; rfl) (Ev.now _)
theorem j4_false (S : List S48) {r : Out} (h : Ev (fun k => spec_ApplyEdit.l3 k S ((0 : Nat) : Int) adds ds x2 x3 x4) r) : Ev (fun k => spec_ApplyEdit.j4 k S false adds ds x2 x3 x4) r :=
 Ev.step (fun k => by rw [spec_ApplyEdit.j4, if_neg (by decide)]; rfl) h
theorem l2_end (S : List S48) (hS : S.length ≤ 1048577) (hF : Fair S) (i : Nat) (hi : i = adds.length) : Ev (fun k => spec_ApplyEdit.l2 k S (i : Int) adds ds x2 x3 x4) (finS S x2 x3 x4) := by
 unfold finS
 by_cases c : x2 ≥ x3
 ·rw [if_pos c]
  refine Ev.step (fun k => ?_) (j4_true adds ds x2 x3 x4 S)
  rw [spec_ApplyEdit.l2, if_neg (by omega), if_pos c]
 ·rw [if_neg c]
  by_cases c2 : 1000 < S.length
  ·rw [if_pos c2]
   refine Ev.step (fun k => ?_) (j4_true adds ds x2 x3 x4 S)
   rw [spec_ApplyEdit.l2, if_neg (by omega), if_neg c, decide_eq_true (by omega)]
  ·rw [if_neg c2]
   refine Ev.step (fun k => ?_) (j4_false adds ds x2 x3 x4 S (l3_loop adds ds x2 x3 x4 S hS hF S.length 0 (by omega)))
   rw [spec_ApplyEdit.l2, if_neg (by omega), if_neg c, decide_eq_false (by omega)]
theorem fair_isort {l : List S48} (h : Fair l) : Fair (isort l) := fun t ht => h t ((isort_perm l).mem_iff.1 ht)
theorem l2_loop (K : List S48) (hK : K.length + adds.length ≤ 1048577) (hF : Fair (K ++ adds)) : ∀ d i : Nat, i + d = adds.length →
  Ev (fun k => spec_ApplyEdit.l2 k (isort (K ++ adds.take i)) (i : Int) adds ds x2 x3 x4) (finS (isort (K ++ adds)) x2 x3 x4) := by
 intro d
 induction d with
 | zero =>
  intro i hi
  rw [List.take_of_length_le (by omega)]
  exact l2_end adds ds x2 x3 x4 _ (by rw [isort_length, List.length_append]; omega) (fair_isort hF) i (by omega)
 | succ d ih =>
  intro i hi
  have hlt : i < adds.length := by omega
  have ih' := ih (i + 1) (by omega)
  rw [take_at adds i hlt, ← List.append_assoc, isort_snoc] at ih'
  have hp := put_eq (isort (K ++ adds.take i)) adds[i] (by rw [isort_length, List.length_append, List.length_take]; omega)
  generalize isort (K ++ adds.take i) = S at *
  refine Ev.step (f := fun k => (spec_l4Put.f k S adds[i].f0 adds[i].f1 adds[i].f2 adds[i].f3).bind fun t169 => (spec_ApplyEdit.l2 k t169 ((i + 1 : Nat) : Int) adds ds x2 x3 x4)) (fun k => ?_) (Ev.bind hp ih')
  rw [spec_ApplyEdit.l2, if_pos (by omega), if_pos (by omega), rd48 adds i hlt, wrap_succ (by omega)]
theorem l1_loop (nums : List Int) (S : List S48) (hn : nums.length ≤ 1048577) (hd : ds.length ≤ 1048577) (r : Out) (hr : Ev (fun k => spec_ApplyEdit.l2 k S ((0 : Nat) : Int) adds ds x2 x3 x4) r) : ∀ d i : Nat, i + d = ds.length →
  Ev (fun k => spec_ApplyEdit.l1 k nums S (i : Int) adds ds x2 x3 x4) (if (ds.drop i).all (fun d => decide (d ∈ nums)) = true then r else failed) := by
 intro d
 induction d with
 | zero =>
  intro i hi
  rw [List.drop_eq_nil_of_le (by omega), List.all_nil, if_pos rfl]
  refine Ev.step (fun k => ?_) hr
  rw [spec_ApplyEdit.l1, if_neg (by omega)]
  rfl
 | succ d ih =>
  intro i hi
  have hlt : i < ds.length := by omega
  have ih' := ih (i + 1) (by omega)
  have hh := hasNum_eq nums ds[i] hn
  rw [drop_at ds i hlt, List.all_cons]
  refine Ev.step (f := fun k => (spec_l4HasNum.f k nums ds[i]).bind fun t167 => (if t167 = true then (spec_ApplyEdit.l1 k nums S ((i + 1 : Nat) : Int) adds ds x2 x3 x4) else (some failed))) (fun k => ?_) (Ev.bind hh ?_)
  ·rw [spec_ApplyEdit.l1, if_pos (by omega), if_pos (by omega), rdI ds i hlt, wrap_succ (by omega)]
   rfl
  ·by_cases c : ds[i] ∈ nums
   ·rw [decide_eq_true c, Bool.true_and]
    exact Ev.congr (fun k => if_pos rfl) ih'
   ·rw [decide_eq_false c]
    exact Ev.congr (fun k => if_neg (by decide)) (Ev.now _)
theorem l0_loop (hts : ts.length ≤ 1048577) (hd : ds.length ≤ 1048577) (r : Out) (hr : Ev (fun k => spec_ApplyEdit.l1 k (ts.map (·.f0)) (isort (keptOf ds ts)) ((0 : Nat) : Int) adds ds x2 x3 x4) r) : ∀ d i : Nat, i + d = ts.length →
  Ev (fun k => spec_ApplyEdit.l0 k ((ts.take i).map (·.f0)) (isort (keptOf ds (ts.take i))) (i : Int) ts a1 a2 a3 adds ds x2 x3 x4) r := by
 intro d
 induction d with
 | zero =>
  intro i hi
  rw [List.take_of_length_le (by omega)]
  refine Ev.step (fun k => ?_) hr
  rw [spec_ApplyEdit.l0, if_neg (by omega)]
  rfl
 | succ d ih =>
  intro i hi
  have hlt : i < ts.length := by omega
  have ih' := ih (i + 1) (by omega)
  rw [take_at ts i hlt, List.map_append, keptOf_append] at ih'
  have hh := hasNum_eq ds ts[i].f0 hd
  have hlen : ((ts.take i).map (·.f0)).length < 17592186044416 := by rw [List.length_map, List.length_take]; omega
  have hk := keptOf_le ds (ts.take i)
  have hp := put_eq (isort (keptOf ds (ts.take i))) ts[i] (by rw [isort_length]; rw [List.length_take] at hk; omega)
  generalize (ts.take i).map (·.f0) = nums at *
  generalize keptOf ds (ts.take i) = K at *
  refine Ev.step (f := fun k => (spec_l4HasNum.f k ds ts[i].f0).bind fun t161 => (if t161 = true then (spec_ApplyEdit.l0 k (nums ++ [ts[i].f0]) (isort K) ((i + 1 : Nat) : Int) ts a1 a2 a3 adds ds x2 x3 x4) else ((spec_l4Put.f k (isort K) ts[i].f0 ts[i].f1 ts[i].f2 ts[i].f3).bind fun t163 => (spec_ApplyEdit.l0 k (nums ++ [ts[i].f0]) t163 ((i + 1 : Nat) : Int) ts a1 a2 a3 adds ds x2 x3 x4)))) (fun k => ?_) (Ev.bind hh ?_)
  ·rw [spec_ApplyEdit.l0, if_pos (by omega), if_pos (by omega), if_pos hlen, rd48 ts i hlt, wrap_succ (by omega)]
   rfl
  ·by_cases c : ts[i].f0 ∈ ds
   ·have e : keptOf ds [ts[i]] = [] := by simp only [keptOf, if_pos c]
    rw [e, List.append_nil] at ih'
    rw [decide_eq_true c]
    exact Ev.congr (fun k => if_pos rfl) ih'
   ·have e : keptOf ds [ts[i]] = [ts[i]] := by simp only [keptOf, if_neg c]
    rw [e, isort_snoc] at ih'
    rw [decide_eq_false c]
    exact Ev.congr (fun k => if_neg (by decide)) (Ev.bind hp ih')
theorem fin_same (S : List S48) : finS (isort S) x2 x3 x4 = fin2 S x2 x3 x4 := by
 unfold finS fin2 fin3
 rw [isort_length, checks_perm (isort_perm S)]
 by_cases c : x2 ≥ x3
 ·rw [if_pos c, if_pos c]
  split <;> rfl
 ·rw [if_neg c, if_neg c]
theorem specApply_eq (hts : ts.length ≤ 1048576) (ha : adds.length ≤ 1048576) (hd : ds.length ≤ 1048576) (hF : Fair ts) (hG : Fair adds) :
  Ev (fun k => spec_ApplyEdit.f k ts a1 a2 a3 adds ds x2 x3 x4) (applyI (editOk adds ds x2 x3 x4) ts adds ds x2 x3 x4) := by
 have hj : Ev (fun k => spec_ApplyEdit.j0 k true ts a1 a2 a3 adds ds x2 x3 x4) failed := Ev.step (f := fun _ => some failed) (fun k => by rw [spec_ApplyEdit.j0, if_pos rfl]; rfl) (Ev.now _)
 refine Ev.bind (sedit_eq adds ds x2 x3 x4) ?_
 unfold applyI
 cases ho : editOk adds ds x2 x3 x4 with
 | false => exact Ev.congr (fun k => if_neg (by decide)) hj
 | true =>
  refine Ev.congr (fun k => if_pos rfl) ?_
  rw [if_neg (by decide)]
  by_cases c : 1000 < ts.length
  ·rw [if_pos c, decide_eq_true (show (ts.length : Int) > 1000 by omega)]
   exact hj
  ·rw [if_neg c, decide_eq_false (show ¬ (ts.length : Int) > 1000 by omega)]
   have hp := editOk_parts ho
   have hk := keptOf_le ds ts
   have h2 := l2_loop adds ds x2 x3 x4 (keptOf ds ts) (by omega) (fun t ht => (List.mem_append.1 ht).elim (fun h => hF t (keptOf_mem h)) (fun h => hG t h)) adds.length 0 (by omega)
   rw [List.take_zero, List.append_nil, fin_same] at h2
   have h1 := l1_loop adds ds x2 x3 x4 (ts.map (·.f0)) (isort (keptOf ds ts)) (by rw [List.length_map]; omega) (by omega) _ h2 ds.length 0 (by omega)
   have h0 := l0_loop ts adds ds a1 a2 a3 x2 x3 x4 (by omega) (by omega) _ h1 ts.length 0 (by omega)
   rw [List.take_zero] at h0
   have e : (if (ds.drop 0).all (fun d => decide (d ∈ ts.map (·.f0))) = true then fin2 (keptOf ds ts ++ adds) x2 x3 x4 else failed) = fin1 ds.reverse (keptOf ds.reverse ts) (hitsOf ds.reverse ts).reverse adds x2 x3 x4 := by
    unfold fin1
    rw [List.drop_zero, keptOf_rev]
    by_cases g : ∀ d ∈ ds, d ∈ ts.map (·.f0)
    ·rw [if_pos ((gone_iff ds ts).2 g), if_pos (List.all_eq_true.2 (fun d hd => decide_eq_true (g d hd)))]
    ·rw [if_neg (fun h => g ((gone_iff ds ts).1 h)), if_neg (fun h => g (fun d hd => of_decide_eq_true (List.all_eq_true.1 h d hd)))]
   rw [e] at h0
   refine Ev.step (fun k => ?_) h0
   rw [spec_ApplyEdit.j0, if_neg (by decide)]
   rfl
end
end Go.Proofs.Ytlecpmgdoomngaa.M
end
section
namespace Go.Proofs.Ytlecpmgdoomngaa.M
open Go.RowKit Go.Proofs.Ytlecpmgdoomngaa.P Go.Proofs.YtlecpmgdoomngaaW.PrintWords Go.ChangeShapes Go.WideShapes
set_option linter.unusedVariables false
def Ok24 (x : List S61 × Int × Int × Int) : Prop := Ok61s x.1 ∧ (Lit.int .i64 x.2.1).wf = true ∧ (Lit.int .i64 x.2.2.1).wf = true ∧ (Lit.int .i64 x.2.2.2).wf = true
def Ok27 (x : List S61 × List Int × Int × Int × Int) : Prop := Ok61s x.1 ∧ OkIs x.2.1 ∧ (Lit.int .i64 x.2.2.1).wf = true ∧ (Lit.int .i64 x.2.2.2.1).wf = true ∧ (Lit.int .i64 x.2.2.2.2).wf = true
theorem o3 : Opens Try.prog 3 (Kd.int .i64) (fun n => (Lit.int .i64 n).wf = true) := opens_int Try.underlying3 (by kernel_rfl)
theorem o9 : Opens Try.prog 9 Kd.string (fun s => s.size ≤ 140737488351232) := opens_string Try.underlying9 (by kernel_rfl)
theorem o61 : Opens Try.prog 61 k61 Ok61 :=
 opens_weaken (opens_iso (f := fun x : S61 => (x.f0, x.f1, x.f2, x.f3)) (fun a => ⟨a.1, a.2.1, a.2.2.1, a.2.2.2⟩) (fun _ => rfl) (opens_struct4 Try.underlying61 o3 o3 o9 o9 rfl rfl rfl rfl (by kernel_rfl))) (fun _ h => ⟨h.1, h.2.2.1, h.2.2.2⟩)
theorem oIs : Opens Try.prog 25 (Kd.slice 3 (Kd.int .i64)) OkIs := opens_slice Try.underlying25 (by kernel_rfl) o3 (by kernel_rfl)
theorem oRs : Opens Try.prog 22 (Kd.slice 61 k61) Ok61s := opens_slice Try.underlying22 (by kernel_rfl) o61 (by kernel_rfl)
theorem o24 : Opens Try.prog 24 (Kd.pair (Kd.slice 61 k61) (Kd.pair (Kd.int .i64) (Kd.pair (Kd.int .i64) (Kd.int .i64)))) Ok24 :=
 opens_struct4 Try.underlying24 oRs o3 o3 o3 rfl rfl rfl rfl (by kernel_rfl)
theorem o27 : Opens Try.prog 27 (Kd.pair (Kd.slice 61 k61) (Kd.pair (Kd.slice 3 (Kd.int .i64)) (Kd.pair (Kd.int .i64) (Kd.pair (Kd.int .i64) (Kd.int .i64))))) Ok27 :=
 opens_struct5 Try.underlying27 oRs oIs o3 o3 o3 rfl rfl rfl rfl rfl (by kernel_rfl)
end Go.Proofs.Ytlecpmgdoomngaa.M
end
section
namespace Go.Proofs.Ytlecpmgdoomngaa.M
open Go.RowKit Go.Proofs.Ytlecpmgdoomngaa.P Go.Proofs.YtlecpmgdoomngaaW.PrintWords Go.Proofs.YtlecpmgdoomngaaW.PrintLast
set_option linter.unusedVariables false
theorem szVersion_eq (ts : List S61) (b1 b2 b3 : Int) (ok : Ok61s ts) : Ev (fun k => laws_szVersion.f k ts b1 b2 b3 1048576) (if (weight61 ts : Int) ≤ 1048576 then (1048576 - weight61 ts : Int) else -1) := by
  refine Ev.bind (szTableRefS_eq ts 1048576 (by omega) (by omega) ok) ?_
  by_cases c : (weight61 ts : Int) ≤ 1048576
  · rw [if_pos c]
    exact Ev.pure (fun k => if_neg (by omega))
  · rw [if_neg c]
    exact Ev.pure (fun k => if_pos (by omega))
theorem toVersion_eq (ts : List S61) (b1 b2 b3 : Int) (h : ts.length ≤ 1048576) : Ev (fun k => laws_toVersion.f k ts b1 b2 b3) (ts.map convR, b1, b2, b3) := Ev.bind (toTableRefS_eq ts h) (Ev.pure (fun k => rfl))
theorem eqVersion_self (l : List S48) (b1 b2 b3 : Int) (h : l.length ≤ 1048576) : Ev (fun k => laws_eqVersion.f k l b1 b2 b3 l b1 b2 b3) true := by
  refine Ev.bind (eqTableRefS_self l h) (Ev.pure (fun k => ?_))
  rw [if_pos rfl, if_pos rfl, if_pos rfl, if_pos rfl]
theorem markVersion_eq (l : List S48) (b1 b2 b3 : Int) (h : l.length ≤ 1048577) : Ev (fun k => laws_markVersion.f k l b1 b2 b3 1) (((1 + 4 * l.length : Nat) : Int), markedE 1 l) :=
  Ev.bind (markTableRefS_eq 1 (by omega) l h) (Ev.pure (fun k => rfl))
theorem heldVersion_eq (l : List S48) (b1 b2 b3 : Int) (h : l.length ≤ 1048577) : Ev (fun k => laws_heldVersion.f k (markedE 1 l) b1 b2 b3 1) ((1 + 4 * l.length : Nat) : Int) :=
  Ev.bind (heldTableRefS_eq 1 (by omega) l h) (Ev.pure (fun k => if_neg (by omega)))
theorem markEdit_eq (s : Nat) (hs : s ≤ 8388608) (l : List S48) (ds : List Int) (b1 b2 b3 : Int) (h : l.length ≤ 1048577) (hd : ds.length ≤ 1048577) :
    Ev (fun k => laws_markEdit.f k l ds b1 b2 b3 (s : Int)) (((s + 4 * l.length + ds.length : Nat) : Int), markedE s l, countI (s + 4 * l.length) ds.length) :=
  Ev.bind (markTableRefS_eq s (by omega) l h) (Ev.bind (markIntS_eq ds (s + 4 * l.length) hd (by omega)) (Ev.pure (fun k => rfl)))
theorem fin2_length (L : List S48) (x2 x3 x4 : Int) : (fin2 L x2 x3 x4).1.length ≤ 1000 := by
  unfold fin2 fin3 failed
  split
  · simp
  · split
    · simp
    · split
      · show (isort L).length ≤ 1000
        rw [isort_length]
        omega
      · simp
theorem applyI_length (fine : Bool) (ts adds : List S48) (ds : List Int) (x2 x3 x4 : Int) : (applyI fine ts adds ds x2 x3 x4).1.length ≤ 1000 := by
  unfold applyI fin1
  split
  · simp [failed]
  · split
    · simp [failed]
    · split
      · exact fin2_length _ _ _ _
      · simp [failed]
theorem implApply_eq (ts adds : List S48) (ds : List Int) (a1 a2 a3 x2 x3 x4 : Int) (h0 : ∀ t ∈ ts, (Lit.int .i64 t.f0).wf = true) (h1 : ∀ t ∈ adds, (Lit.int .i64 t.f0).wf = true) (h2 : ∀ d ∈ ds, (Lit.int .i64 d).wf = true) :
    Ev (fun k => impl_ApplyEdit.f k ts a1 a2 a3 adds ds x2 x3 x4) (applyI (editOk adds ds x2 x3 x4) ts adds ds x2 x3 x4) :=
  Ev.congr (fun k => if_pos ⟨h0, h1, h2⟩) (Ev.bind (editFine_ev adds ds x2 x3 x4) (Ev.pure (fun k => rfl)))
end Go.Proofs.Ytlecpmgdoomngaa.M
namespace Go.Proofs.Ytlecpmgdoomngaa.Pure
open Go.RowKit Go.Proofs.Ytlecpmgdoomngaa.P Go.Proofs.YtlecpmgdoomngaaW.PrintWords Go.Proofs.YtlecpmgdoomngaaW.PrintLast Go.Proofs.Ytlecpmgdoomngaa.M
set_option linter.unusedVariables false
theorem wf_conv {l : List S61} (h : Ok61s l) : ∀ t ∈ l.map convR, (Lit.int .i64 t.f0).wf = true := by
  intro t ht
  obtain ⟨x, hx, rfl⟩ := List.mem_map.1 ht
  exact (h.2 x hx).1
theorem fair_conv {l : List S61} (h : Ok61s l) : M.Fair (l.map convR) := by
  intro t ht
  obtain ⟨x, hx, rfl⟩ := List.mem_map.1 ht
  exact (h.2 x hx).2.2
theorem law (ts : List S61) (b1 b2 b3 : Int) (adds : List S61) (dels : List Int) (log next last : Int) (okT : Ok61s ts) (okA : Ok61s adds) (okD : OkIs dels) :
    ∃ k, laws_FnExactApplyEdit.f k ts b1 b2 b3 adds dels log next last = some true := by
  refine Ev.rounds (r := true) ?_
  refine Ev.bind (szVersion_eq ts b1 b2 b3 okT) ?_
  by_cases c : (weight61 ts : Int) ≤ 1048576
  rotate_left
  · rw [if_neg c]
    exact M.Ev.pure (fun k => if_pos (by omega))
  rw [if_pos c]
  refine Ev.congr (fun k => if_neg (by omega)) ?_
  refine Ev.bind (szEdit_eq adds dels log next last (1048576 - weight61 ts) (by omega) (by omega) okA okD.1) ?_
  by_cases c2 : (weightE adds dels : Int) ≤ (1048576 - weight61 ts)
  rotate_left
  · rw [if_neg c2]
    exact M.Ev.pure (fun k => if_pos (by omega))
  rw [if_pos c2]
  refine Ev.congr (fun k => if_neg (by omega)) ?_
  have ht : ts.length ≤ 1048576 := by unfold weight61 at c; omega
  have hl : adds.length ≤ 1048576 := by unfold weightE weight61 at c2; omega
  have hd : dels.length ≤ 1048576 := by unfold weightE weight61 at c2; omega
  have htv := toVersion_eq ts b1 b2 b3 ht; have hte := toEdit_eq adds dels log next last hl hd
  have hVl : (ts.map convR).length ≤ 1048576 := by rw [List.length_map]; exact ht
  have hAl : (adds.map convR).length ≤ 1048576 := by rw [List.length_map]; exact hl
  have hsp := specApply_eq (ts.map convR) (adds.map convR) dels b1 b2 b3 log next last hVl hAl hd (fair_conv okT) (fair_conv okA); have him := implApply_eq (ts.map convR) (adds.map convR) dels b1 b2 b3 log next last (wf_conv okT) (wf_conv okA) okD.2; have hlen := applyI_length (editOk (adds.map convR) dels log next last) (ts.map convR) (adds.map convR) dels log next last
  generalize applyI (editOk (adds.map convR) dels log next last) (ts.map convR) (adds.map convR) dels log next last = R at hsp him hlen
  generalize ts.map convR = V at *
  generalize adds.map convR = A at *
  obtain ⟨R1, R2, R3, R4, R5⟩ := R; have hlen : R1.length ≤ 1000 := hlen; have heR := eqVersion_self R1 R2 R3 R4 (by omega); have heV := eqVersion_self V b1 b2 b3 hVl; have heE := eqEdit_self A dels log next last hAl hd; have hmV := markVersion_eq V b1 b2 b3 (by omega); have hmE := markEdit_eq (1 + 4 * V.length) (by omega) A dels log next last (by omega) (by omega); have hmR := markVersion_eq R1 R2 R3 R4 (by omega); have hhR := heldVersion_eq R1 R2 R3 R4 (by omega)
  have hne : (R5 != R5) = false := by cases R5 <;> rfl
  have h1 : Ev (fun k => laws_FnExactApplyEdit.j1 k R5 (R5 != R5) ts b1 b2 b3 adds dels log next last R1 R2 R3 R4 R1 R2 R3 R4) true := by
    rw [hne]
    refine Ev.step (fun k => by rw [laws_FnExactApplyEdit.j1, if_neg (by decide)]) ?_
    refine Ev.bind hmR (Ev.bind hhR (Ev.congr (fun k => if_neg (by omega)) (Ev.congr (fun k => if_pos rfl) (Ev.bind htv (Ev.bind hte (Ev.bind him (Ev.bind heR (Ev.congr (fun k => if_pos rfl) (M.Ev.pure (fun k => ?_))))))))))
    show (if (R5 != R5) = true then some false else some true) = some true
    rw [hne]
    rfl
  have h0 : Ev (fun k => laws_FnExactApplyEdit.j0 k R5 R5 (R5 != R5) ts b1 b2 b3 adds dels log next last R1 R2 R3 R4 V b1 b2 b3 A dels log next last R1 R2 R3 R4) true := by
    have e : (fun k => laws_FnExactApplyEdit.j0 k R5 R5 (R5 != R5) ts b1 b2 b3 adds dels log next last R1 R2 R3 R4 V b1 b2 b3 A dels log next last R1 R2 R3 R4) = (fun k => laws_FnExactApplyEdit.j0 k R5 R5 false ts b1 b2 b3 adds dels log next last R1 R2 R3 R4 V b1 b2 b3 A dels log next last R1 R2 R3 R4) := by rw [hne]
    rw [e]
    refine Ev.step (fun k => by rw [laws_FnExactApplyEdit.j0, if_neg (by decide)]) ?_
    refine Ev.bind htv (Ev.bind heV (Ev.congr (fun k => if_pos rfl) (Ev.bind hte (Ev.bind heE (Ev.congr (fun k => if_pos rfl) (Ev.bind hmV (Ev.bind hmE (Ev.congr (fun k => if_neg ?_) (Ev.bind heR (Ev.congr (fun k => if_pos rfl) h1))))))))))
    show ¬ (((1 + 4 * V.length + 4 * A.length + dels.length : Nat) : Int) < 0)
    omega
  exact Ev.bind htv (Ev.bind hte (Ev.bind hsp (Ev.bind htv (Ev.bind hte (Ev.bind him (Ev.bind heR (Ev.congr (fun k => if_pos rfl) h0)))))))
theorem FnExactApplyEdit (ts : List S61) (b1 b2 b3 : Int) (adds : List S61) (dels : List Int) (log next last : Int) (okV : Ok24 (ts, b1, b2, b3)) (okE : Ok27 (adds, dels, log, next, last)) :
    ∃ k, laws_FnExactApplyEdit.f k ts b1 b2 b3 adds dels log next last = some true := law ts b1 b2 b3 adds dels log next last okV.1 okE.1 okE.2.1
end Go.Proofs.Ytlecpmgdoomngaa.Pure
end
section
namespace Go.Proofs.Ytlecpmgdoomngaa.fnExactApplyEdit
open Go.ChangeShapes Go.WideShapes Go.ChangeAt Go.RowKit Go.Proofs.Ytlecpmgdoomngaa.P Go.Proofs.Ytlecpmgdoomngaa.M
open Go.ChangeMaps (open_string shut_string)
set_option linter.unusedVariables false
theorem own : ownKnob Try.prog.godebug = none := by kernel_rfl
theorem laidOut : laidOutB Try.prog = true := by kernel_rfl
set_option maxRecDepth 100000 in
theorem lifted (os : Os) (started : os.Started) (H : Type) (enc : TypeId × Value → H) :
    ReturnsInHanded {} Try.checked os 3 .any (Rows.fnExactApplyEditSpec.pre6 enc Try.prog Try.f3 Rows.fnExactApplyEditRow.domain false) (Rows.fnExactApplyEditSpec.post enc Try.prog Try.f3 false true false false) := by
  refine returnsInHanded_of_change_sized (C := Try.checked) own started (by kernel_rfl) Try.func3
    (ChangeSpec.witness6 (enc := enc) (C := Try.checked) false ⟨#[], #[.agg #[.slice none 0 0, .int .i64 0, .int .i64 0, .int .i64 0], .agg #[.slice none 0 0, .slice none 0 0, .int .i64 0, .int .i64 0, .int .i64 0]], []⟩ 8 (by kernel_rfl) (by kernel_rfl) (by kernel_rfl) (by kernel_rfl)) ?_
  intro W base args ds gs before hval0 hW hcnd hsz0 _
  have hsz : (DataW.weightsEach Try.prog (Try.f3.params.toList ++ Rows.fnExactApplyEditSpec.plain.varTypes Try.prog) (ds ++ gs)).all (· ≤ reachBytes) = true := hsz0
  have hval : ∀ (j : Nat) t v, Try.f3.params[j]? = some t → args[j]? = some v → Value.okWide Try.prog W .any base t v := hval0
  have hW' := hW
  obtain ⟨p, q, hA0, hV, rfl, hfz, hnd⟩ := hW
  have hA : DataW.TrodAll enc Try.prog W 0 (fun _ => true) true Try.f3.params.toList args.toList ds p := hA0
  rw [Try.params3] at hA hval hsz
  obtain ⟨v0, vs0, d0, ds0, p0, q0, hargs, rfl, rfl, h0, r0⟩ := trodAll_cons hA
  obtain ⟨v1, vs1, d1, ds1, p1, q1, rfl, rfl, rfl, h1, r1⟩ := trodAll_cons r0
  obtain ⟨rfl, rfl, rfl⟩ := trodAll_nil r1
  obtain rfl : args = #[v0, v1] := by cases args; simp_all
  obtain ⟨rfl, rfl⟩ := trodVars_none hV
  have k0 := h0
  have lt0 : ∀ x ∈ p0, x.block < W.heap.size := by obtain ⟨m, hm⟩ := k0; exact DataW.trod_lt m _ _ _ hm
  obtain ⟨cs0, rfl, _⟩ := okWide_struct Try.underlying24 (hval 0 24 v0 rfl rfl)
  obtain ⟨⟨l0_0, a0_1, a0_2, a0_3⟩, K0, ok0⟩ := open_arg o24 hsz (j := 0) rfl rfl h0
  obtain ⟨_, _, e0, ⟨A0_0, c0_0, rfl, hc0_0, hr0_0⟩, ⟨_, _, rfl, rfl, ⟨_, _, rfl, rfl, rfl⟩⟩⟩ := K0
  obtain rfl : cs0 = #[.slice A0_0 l0_0.length c0_0, .int .i64 a0_1, .int .i64 a0_2, .int .i64 a0_3] := by apply Array.ext'; simpa [Value.cells] using e0
  have k1 := h1
  have lt1 : ∀ x ∈ p1, x.block < W.heap.size := by obtain ⟨m, hm⟩ := k1; exact DataW.trod_lt m _ _ _ hm
  obtain ⟨cs1, rfl, _⟩ := okWide_struct Try.underlying27 (hval 1 27 v1 rfl rfl)
  obtain ⟨⟨l1_0, l1_1, a1_2, a1_3, a1_4⟩, K1, ok1⟩ := open_arg o27 hsz (j := 1) rfl rfl h1
  obtain ⟨_, _, e1, ⟨A1_0, c1_0, rfl, hc1_0, hr1_0⟩, ⟨_, _, rfl, ⟨A1_1, c1_1, rfl, hc1_1, hr1_1⟩, ⟨_, _, rfl, rfl, ⟨_, _, rfl, rfl, rfl⟩⟩⟩⟩ := K1
  obtain rfl : cs1 = #[.slice A1_0 l1_0.length c1_0, .slice A1_1 l1_1.length c1_1, .int .i64 a1_2, .int .i64 a1_3, .int .i64 a1_4] := by apply Array.ext'; simpa [Value.cells] using e1
  clear hA0 hval0 hsz0 hsz
  obtain ⟨k, hp⟩ := Pure.FnExactApplyEdit l0_0 a0_1 a0_2 a0_3 l1_0 l1_1 a1_2 a1_3 a1_4 ok0 ok1
  refine (laws_FnExactApplyEdit.calls k A0_0 c0_0 l0_0 a0_1 a0_2 a0_3 A1_0 c1_0 l1_0 A1_1 c1_1 l1_1 a1_2 a1_3 a1_4 W hr0_0 hc0_0 hr1_0 hc1_0 hr1_1 hc1_1 hp).mono fun e W' ⟨he, bel⟩ => ?_
  subst he
  exact ⟨_, rfl, _, _, _, [], _, [], hW', trodAll_mk1 (shut_bool Try.underlying4 _), (trodAll_cons_mk (Below.trod laidOut (by kernel_rfl) (of_decide_eq_true (by kernel_rfl)) k0 bel lt0) (trodAll_cons_mk (Below.trod laidOut (by kernel_rfl) (of_decide_eq_true (by kernel_rfl)) k1 bel lt1) trodAll_mk0)), rfl, bel.frame _, fun h => by cases h⟩
theorem over : Rows.fnExactApplyEditRow.holds Try.pinned (OpenSpec.ofChange Rows.fnExactApplyEditSpec) :=
  OpenClaim.holds_of_wide 3 Try.f3 rfl rfl rfl rfl rfl rfl rfl ⟨rfl, rfl, rfl, rfl, rfl⟩ rfl rfl rfl rfl rfl (by kernel_rfl) Try.func3 (by kernel_rfl)
    (of_decide_eq_true (by kernel_rfl)) (by unfold Func.isWrapper; first | (rw [if_pos (by decide +kernel)]; kernel_rfl) | (rw [if_neg (by decide +kernel)]; exact ⟨rfl, rfl⟩))
    (fun os started H enc _ => lifted os started H enc)
theorem proved : Rows.FnExactApplyEditSaid := over
#print axioms proved
end Go.Proofs.Ytlecpmgdoomngaa.fnExactApplyEdit
namespace Go.Proofs.Ytlecpmgdoomngaa
theorem fnExactApplyEdit_holds : Rows.FnExactApplyEditSaid := fnExactApplyEdit.proved
end Go.Proofs.Ytlecpmgdoomngaa
end

/- Texts of the claim FnExactDecodeEdit, part 38 of 38, joined: MSpecEdit, MSpecDecEd, MMark, MMarkEd, PureFnExactDecodeEdit, RowFnExactDecodeEdit. No condition beyond those that stand at each. -/
import Derived.Test.YtjneloehdcecnaaZFnExactDecodeEdit37
import Derived.Test.YtjneloehdcecnaaZFnExactDecodeEdit34
import Derived.Test.YtjneloehdcecnaaZFnExactDecodeEdit28
import Derived.Test.YtjneloehdcecnaaZFnExactDecodeEdit27
import Derived.Test.YtjneloehdcecnaaZFnExactDecodeEdit36
import Derived.Test.YtjneloehdcecnaaZFnExactDecodeEdit25
import Derived.Test.YtjneloehdcecnaaZFnExactDecodeEdit30
import Derived.Test.YtjneloehdcecnaaZFnExactDecodeEdit32
import Derived.Test.YtjneloehdcecnaaZFnExactDecodeEdit31
import Derived.Test.YtjneloehdcecnaaRows
import Derived.WalkKit
import Derived.ProofKit
import Derived.OpenShut
import Derived.ShutString
import Derived.ChangeOld
import Derived.Below
import Derived.SizedLaws
section
/- The specification's EncodeEdit answers what the program's does. No condition. -/
namespace Go.Proofs.Ytjneloehdcecnaa.M
open Go.RowKit Go.Proofs.Ytjneloehdcecnaa.P Go.Proofs.YtjneloehdcecnaaW.PrintWords Go.Proofs.YtjneloehdcecnaaW.PrintLast
set_option linter.unusedVariables false
/-! ### the order of texts -/
theorem less_loop (a b : ByteArray) (ha : a.size ≤ 9223372036854775000) : ∀ d i : Nat, i + d = a.size → i ≤ b.size → Ev (fun k => spec_l1Less.l0 k a b (i : Int)) (Op.bytesLess (a.toList.drop i) (b.toList.drop i)) := by
  have la := toList_size a
  have lb := toList_size b
  intro d
  induction d with
  | zero =>
    intro i hi hb
    refine Ev.step (f := fun k => spec_l1Less.j1 k a b (i : Int) false) (fun k => ?_) (Ev.step (f := fun _ => some (decide ((a.size : Int) < (b.size : Int)))) (fun k => ?_) ?_)
    · rw [spec_l1Less.l0, if_neg (by omega)]
    · rw [spec_l1Less.j1, if_neg (by simp)]
    · rw [List.drop_eq_nil_of_le (by omega)]
      by_cases c : i < b.size
      · rw [drop_at b.toList i (by omega), decide_eq_true (by omega)]; exact Ev.now _
      · rw [List.drop_eq_nil_of_le (show b.toList.length ≤ i by omega), decide_eq_false (by omega)]; exact Ev.now _
  | succ d ih =>
    intro i hi hb
    by_cases c : i < b.size
    · have ga := bt_toList a i (by omega)
      have gb := bt_toList b i (by omega)
      rw [drop_at a.toList i (by omega), drop_at b.toList i (by omega)]
      have e0 : ∀ k, spec_l1Less.l0 (k + 1) a b (i : Int) = spec_l1Less.j1 k a b (i : Int) true := fun k => by rw [spec_l1Less.l0, if_pos (by omega), decide_eq_true (by omega)]
      have er : ∀ (p q : UInt8) (X Y : List UInt8), Op.bytesLess (p :: X) (q :: Y) = (decide (p < q) || (p == q && Op.bytesLess X Y)) := fun _ _ _ _ => rfl
      rw [er]
      generalize a.toList[i] = p at ga
      generalize b.toList[i] = q at gb
      by_cases ce : p = q
      · subst ce
        refine Ev.step e0 (Ev.step (f := fun k => spec_l1Less.l0 k a b ((i + 1 : Nat) : Int)) (fun k => ?_) ?_)
        · rw [spec_l1Less.j1, if_pos rfl, if_pos (by omega), if_pos (by omega), if_pos (by omega), if_pos (by rw [ga, gb]), wrap_succ (by omega)]
        · have := ih (i + 1) (by omega) (by omega)
          have e : (decide (p < p) || (p == p && Op.bytesLess (a.toList.drop (i + 1)) (b.toList.drop (i + 1)))) = Op.bytesLess (a.toList.drop (i + 1)) (b.toList.drop (i + 1)) := by simp
          rw [e]; exact this
      · refine Ev.step e0 (Ev.step (f := fun _ => some (decide ((p.toNat : Int) < (q.toNat : Int)))) (fun k => ?_) ?_)
        · have hn : ¬ ((p.toNat : Int) = (q.toNat : Int)) := fun h => ce (UInt8.toNat_inj.1 (by omega))
          rw [spec_l1Less.j1, if_pos rfl, if_pos (by omega), if_pos (by omega), if_pos (by omega), ga, gb, if_neg hn]
        · have e : (decide (p < q) || (p == q && Op.bytesLess (a.toList.drop (i + 1)) (b.toList.drop (i + 1)))) = decide ((p.toNat : Int) < (q.toNat : Int)) := by
            rw [beq_eq_false_iff_ne.2 ce, Bool.false_and, Bool.or_false]
            by_cases c3 : p < q
            · rw [decide_eq_true c3, decide_eq_true (by have := UInt8.lt_iff_toNat_lt.1 c3; omega)]
            · rw [decide_eq_false c3, decide_eq_false (fun h => c3 (UInt8.lt_iff_toNat_lt.2 (by omega)))]
          rw [e]; exact Ev.now _
    · have hib : i = b.size := by omega
      refine Ev.step (f := fun k => spec_l1Less.j1 k a b (i : Int) false) (fun k => ?_) (Ev.step (f := fun _ => some (decide ((a.size : Int) < (b.size : Int)))) (fun k => ?_) ?_)
      · rw [spec_l1Less.l0, if_pos (by omega), decide_eq_false (by omega)]
      · rw [spec_l1Less.j1, if_neg (by simp)]
      · rw [List.drop_eq_nil_of_le (show b.toList.length ≤ i by omega), decide_eq_false (by omega)]
        have : Op.bytesLess (a.toList.drop i) [] = false := by cases a.toList.drop i <;> rfl
        rw [this]; exact Ev.now _
theorem less_eq (a b : ByteArray) (ha : a.size ≤ 9223372036854775000) : Ev (fun k => spec_l1Less.f k a b) (lss a b) := by
  have := less_loop a b ha a.size 0 (by omega) (by omega)
  rw [List.drop_zero, List.drop_zero] at this
  exact Ev.congr (fun _ => rfl) this
/-! ### is an edit good -/
theorem snum_eq (n : Int) : spec_l4NumOk.f n = some (numOk n) := by
  unfold spec_l4NumOk.f numOk
  by_cases h : n ≥ 1
  · rw [if_pos h, decide_eq_true (show 1 ≤ n by omega)]; rfl
  · rw [if_neg h, decide_eq_false (show ¬ 1 ≤ n by omega)]; rfl
theorem sref_end (t : S87) : Ev (fun k => spec_l4RefOk.j0 k true t.f0 t.f1 t.f2 t.f3) false :=
  Ev.step (f := fun _ => some false) (fun k => by rw [spec_l4RefOk.j0, if_pos rfl]) (Ev.now _)
theorem sref_eq (t : S87) : Ev (fun k => spec_l4RefOk.f k t.f0 t.f1 t.f2 t.f3) (refOk t) := by
  unfold refOk
  refine Ev.bind (Ev.pure (fun k => snum_eq t.f0)) ?_
  by_cases h0 : numOk t.f0 = true
  rotate_left
  · rw [Bool.eq_false_iff.2 h0]
    refine Ev.congr (fun k => if_neg (by simp)) ?_
    simpa using sref_end t
  rw [h0, Bool.true_and]
  refine Ev.congr (fun k => if_pos rfl) ?_
  by_cases h1 : t.f1 < 0
  · rw [decide_eq_false (show ¬ 0 ≤ t.f1 by omega)]
    refine Ev.congr (fun k => if_pos h1) ?_
    simpa using sref_end t
  rw [decide_eq_true (show 0 ≤ t.f1 by omega), Bool.true_and]
  refine Ev.congr (fun k => if_neg h1) ?_
  by_cases h2 : t.f1 > 3
  · rw [decide_eq_false (show ¬ t.f1 ≤ 3 by omega), decide_eq_true h2]
    simpa using sref_end t
  rw [decide_eq_true (show t.f1 ≤ 3 by omega), decide_eq_false h2, Bool.true_and]
  refine Ev.step (f := fun k => if (t.f2.size : Int) < 1 then (some false) else (if (t.f2.size : Int) > 1000 then (some false) else (if (t.f3.size : Int) < 1 then (some false) else (if (t.f3.size : Int) > 1000 then (some false) else ((spec_l1Less.f k t.f3 t.f2).bind fun t185 => (some (!t185))))))) (fun k => by rw [spec_l4RefOk.j0, if_neg (by simp)]) ?_
  by_cases h3 : (t.f2.size : Int) < 1
  · rw [decide_eq_false (show ¬ 1 ≤ t.f2.size by omega)]
    exact Ev.congr (fun k => if_pos h3) (by simpa using Ev.now false)
  rw [decide_eq_true (show 1 ≤ t.f2.size by omega), Bool.true_and]
  refine Ev.congr (fun k => if_neg h3) ?_
  by_cases h4 : (t.f2.size : Int) > 1000
  · rw [decide_eq_false (show ¬ t.f2.size ≤ 1000 by omega)]
    exact Ev.congr (fun k => if_pos h4) (by simpa using Ev.now false)
  rw [decide_eq_true (show t.f2.size ≤ 1000 by omega), Bool.true_and]
  refine Ev.congr (fun k => if_neg h4) ?_
  by_cases h5 : (t.f3.size : Int) < 1
  · rw [decide_eq_false (show ¬ 1 ≤ t.f3.size by omega)]
    exact Ev.congr (fun k => if_pos h5) (by simpa using Ev.now false)
  rw [decide_eq_true (show 1 ≤ t.f3.size by omega), Bool.true_and]
  refine Ev.congr (fun k => if_neg h5) ?_
  by_cases h6 : (t.f3.size : Int) > 1000
  · rw [decide_eq_false (show ¬ t.f3.size ≤ 1000 by omega)]
    exact Ev.congr (fun k => if_pos h6) (by simpa using Ev.now false)
  rw [decide_eq_true (show t.f3.size ≤ 1000 by omega), Bool.true_and]
  exact Ev.congr (fun k => if_neg h6) (Ev.bind (less_eq t.f3 t.f2 (by omega)) (Ev.now _))
section
variable (adds : List S87) (dels : List Int) (log next last : Int)
theorem sedit_end : Ev (fun k => spec_l4EditOk.j0 k true adds dels log next last) false :=
  Ev.step (f := fun _ => some false) (fun k => by rw [spec_l4EditOk.j0, if_pos rfl]) (Ev.now _)
theorem sedit_l1 (ha : adds.length ≤ 1000) (hd : dels.length ≤ 1000) : ∀ d i : Nat, i + d = dels.length → Ev (fun k => spec_l4EditOk.l1 k (i : Int) adds dels log next last) ((dels.drop i).all numOk && (decide (0 ≤ last) && decide (last ≤ 72057594037927935))) := by
  intro d
  induction d with
  | zero =>
    intro i hi
    rw [List.drop_eq_nil_of_le (by omega), List.all_nil, Bool.true_and]
    refine Ev.step (f := fun _ => if last ≥ 0 then (some (decide (last ≤ 72057594037927935))) else (some false)) (fun k => ?_) ?_
    · rw [spec_l4EditOk.l1, if_neg (by omega)]
    · by_cases c : last ≥ 0
      · rw [decide_eq_true (show 0 ≤ last by omega), Bool.true_and]
        exact Ev.pure (fun k => if_pos c)
      · rw [decide_eq_false (show ¬ 0 ≤ last by omega), Bool.false_and]
        exact Ev.pure (fun k => if_neg c)
  | succ d ih =>
    intro i hi
    have hlt : i < dels.length := by omega
    rw [drop_at dels i hlt, List.all_cons]
    by_cases h : numOk dels[i] = true
    · rw [h, Bool.true_and]
      refine Ev.step (fun k => ?_) (ih (i + 1) (by omega))
      rw [spec_l4EditOk.l1, if_pos (by omega), if_pos (by omega), rdI dels i hlt, snum_eq, Option.bind_some, if_pos h, wrap_succ (by omega)]
    · rw [Bool.eq_false_iff.2 h, Bool.false_and, Bool.false_and]
      refine Ev.step (f := fun _ => some false) (fun k => ?_) (Ev.now _)
      rw [spec_l4EditOk.l1, if_pos (by omega), if_pos (by omega), rdI dels i hlt, snum_eq, Option.bind_some, if_neg h]
theorem sedit_l0 (ha : adds.length ≤ 1000) (hd : dels.length ≤ 1000) : ∀ d i : Nat, i + d = adds.length → Ev (fun k => spec_l4EditOk.l0 k (i : Int) adds dels log next last) ((adds.drop i).all refOk && (dels.all numOk && (decide (0 ≤ last) && decide (last ≤ 72057594037927935)))) := by
  intro d
  induction d with
  | zero =>
    intro i hi
    rw [List.drop_eq_nil_of_le (by omega), List.all_nil, Bool.true_and]
    have h := sedit_l1 adds dels log next last ha hd dels.length 0 (by omega)
    rw [List.drop_zero] at h
    refine Ev.step (fun k => ?_) h
    rw [spec_l4EditOk.l0, if_neg (by omega)]
    rfl
  | succ d ih =>
    intro i hi
    have hlt : i < adds.length := by omega
    rw [drop_at adds i hlt, List.all_cons]
    refine Ev.step (f := fun k => (spec_l4RefOk.f k adds[i].f0 adds[i].f1 adds[i].f2 adds[i].f3).bind fun t190 => (if t190 = true then (spec_l4EditOk.l0 k ((i + 1 : Nat) : Int) adds dels log next last) else (some false))) (fun k => ?_) (Ev.bind (sref_eq adds[i]) ?_)
    · rw [spec_l4EditOk.l0, if_pos (by omega), if_pos (by omega), rd87 adds i hlt, wrap_succ (by omega)]
    · by_cases h : refOk adds[i] = true
      · rw [h, Bool.true_and]
        exact Ev.congr (fun k => if_pos rfl) (ih (i + 1) (by omega))
      · rw [Bool.eq_false_iff.2 h, Bool.false_and, Bool.false_and]
        exact Ev.pure (fun k => if_neg (by simp))
theorem sedit_eq : Ev (fun k => spec_l4EditOk.f k adds dels log next last) (editOk adds dels log next last) := by
  unfold editOk
  by_cases h0 : (adds.length : Int) > 1000
  · rw [decide_eq_false (show ¬ adds.length ≤ 1000 by omega)]
    refine Ev.congr (fun k => if_pos h0) ?_
    simpa using sedit_end adds dels log next last
  rw [decide_eq_true (show adds.length ≤ 1000 by omega), Bool.true_and]
  refine Ev.congr (fun k => if_neg h0) ?_
  by_cases h1 : (dels.length : Int) > 1000
  · rw [decide_eq_false (show ¬ dels.length ≤ 1000 by omega)]
    refine Ev.congr (fun k => if_pos h1) ?_
    simpa using sedit_end adds dels log next last
  rw [decide_eq_true (show dels.length ≤ 1000 by omega), Bool.true_and]
  refine Ev.congr (fun k => if_neg h1) ?_
  simp only [snum_eq, Option.bind_some]
  by_cases h2 : numOk log = true
  rotate_left
  · rw [Bool.eq_false_iff.2 h2]
    refine Ev.congr (fun k => if_neg (by simp)) ?_
    simpa using sedit_end adds dels log next last
  rw [h2, Bool.true_and]
  refine Ev.congr (fun k => if_pos rfl) ?_
  by_cases h3 : numOk next = true
  rotate_left
  · rw [Bool.eq_false_iff.2 h3]
    simpa using sedit_end adds dels log next last
  rw [h3, Bool.true_and]
  have h := sedit_l0 adds dels log next last (by omega) (by omega) adds.length 0 (by omega)
  rw [List.drop_zero] at h
  have e : (decide (0 ≤ last) && decide (last ≤ 72057594037927935) && adds.all refOk && dels.all numOk) = (adds.all refOk && (dels.all numOk && (decide (0 ≤ last) && decide (last ≤ 72057594037927935)))) := by
    cases decide (0 ≤ last) <;> cases decide (last ≤ 72057594037927935) <;> cases adds.all refOk <;> cases dels.all numOk <;> rfl
  rw [e]
  refine Ev.step (fun k => ?_) h
  rw [spec_l4EditOk.j0, if_neg (by simp)]
  rfl
/-! ### what is written -/
theorem keyed_ev (s : ByteArray) (hs : s.size ≤ 1048576) : Ev (fun k => spec_l3Keyed.f k s) (szd s) := by
  refine Ev.bind (spec_put (s.size : Int)) (Ev.pure (fun k => ?_))
  have := put_size (s.size : Int)
  exact if_pos (by omega)
theorem sE_l1 (hd : dels.length ≤ 1000) (P : ByteArray) (hP : P.size ≤ 2100000) : ∀ d i : Nat, i + d = dels.length → Ev (fun k => spec_EncodeEdit.l1 k (P ++ numsL (dels.take i)) (i : Int) adds dels log next last) (P ++ numsL dels ++ (put log ++ put next ++ put last)) := by
  intro d
  induction d with
  | zero =>
    intro i hi
    have e0 := numsL_size dels
    have p0 := put_size log
    have p1 := put_size next
    have p2 := put_size last
    rw [List.take_of_length_le (by omega)]
    have ep : P ++ numsL dels ++ (put log ++ put next ++ put last) = P ++ numsL dels ++ put log ++ put next ++ put last := by simp only [ByteArray.append_assoc]
    rw [ep]
    refine Ev.step (f := fun k => (spec_PutVarint.f k log).bind fun t206 => (if (P ++ numsL dels).size + t206.size ≤ 9223372036854775807 then ((spec_PutVarint.f k next).bind fun t207 => (if ((P ++ numsL dels) ++ t206).size + t207.size ≤ 9223372036854775807 then ((spec_PutVarint.f k last).bind fun t208 => (if (((P ++ numsL dels) ++ t206) ++ t207).size + t208.size ≤ 9223372036854775807 then (some ((((P ++ numsL dels) ++ t206) ++ t207) ++ t208)) else (none))) else (none))) else (none))) (fun k => ?_) ?_
    · rw [spec_EncodeEdit.l1, if_neg (by omega)]
    · refine Ev.bind (spec_put _) (Ev.congr (fun k => if_pos (by rw [ByteArray.size_append]; omega)) (Ev.bind (spec_put _) (Ev.congr (fun k => if_pos (by rw [ByteArray.size_append, ByteArray.size_append]; omega)) (Ev.bind (spec_put _) (Ev.pure (fun k => if_pos (by rw [ByteArray.size_append, ByteArray.size_append, ByteArray.size_append]; omega)))))))
  | succ d ih =>
    intro i hi
    have hlt : i < dels.length := by omega
    have e0 := numsL_size (dels.take i)
    have e1 : (dels.take i).length = i := by rw [List.length_take]; omega
    have p0 := put_size dels[i]
    have h2 := ih (i + 1) (by omega)
    rw [take_at dels i hlt, numsL_snoc, ← ByteArray.append_assoc] at h2
    refine Ev.step (f := fun k => (spec_PutVarint.f k dels[i]).bind fun t205 => (if (P ++ numsL (dels.take i)).size + t205.size ≤ 9223372036854775807 then (spec_EncodeEdit.l1 k ((P ++ numsL (dels.take i)) ++ t205) ((i + 1 : Nat) : Int) adds dels log next last) else (none))) (fun k => ?_) (Ev.bind (spec_put _) (Ev.congr (fun k => if_pos (by rw [ByteArray.size_append]; omega)) h2))
    rw [spec_EncodeEdit.l1, if_pos (by omega), if_pos (by omega), rdI dels i hlt, wrap_succ (by omega)]
theorem sE_l0 (ha : adds.length ≤ 1000) (hd : dels.length ≤ 1000) (hr : adds.all refOk = true) : ∀ d i : Nat, i + d = adds.length → Ev (fun k => spec_EncodeEdit.l0 k (ed0 adds ++ refsL (adds.take i)) (i : Int) adds dels log next last) (edAll adds dels log next last) := by
  intro d
  induction d with
  | zero =>
    intro i hi
    have e0 := refsL_size adds hr
    have p0 := put_size (dels.length : Int)
    have p1 := put_size (adds.length : Int)
    rw [List.take_of_length_le (by omega)]
    have h := sE_l1 adds dels log next last hd (ed1 adds dels) (by unfold ed1 ed0; rw [ByteArray.size_append, ByteArray.size_append]; omega) dels.length 0 (by omega)
    have e2 : ed1 adds dels ++ numsL (dels.take 0) = ed0 adds ++ refsL adds ++ put (dels.length : Int) := by
      show ed1 adds dels ++ (⟨#[]⟩ : ByteArray) = _
      rw [ba_append_empty]
      rfl
    rw [e2] at h
    refine Ev.step (f := fun k => (spec_PutVarint.f k (dels.length : Int)).bind fun t203 => (if (ed0 adds ++ refsL adds).size + t203.size ≤ 9223372036854775807 then (spec_EncodeEdit.l1 k ((ed0 adds ++ refsL adds) ++ t203) 0 adds dels log next last) else (none))) (fun k => ?_) (Ev.bind (spec_put _) (Ev.congr (fun k => if_pos (by unfold ed0; rw [ByteArray.size_append]; omega)) h))
    rw [spec_EncodeEdit.l0, if_neg (by omega)]
  | succ d ih =>
    intro i hi
    have hlt : i < adds.length := by omega
    have e0 := refsL_size (adds.take i) (all_take hr i)
    have e1 : (adds.take i).length = i := by rw [List.length_take]; omega
    have hok : refOk adds[i] = true := List.all_eq_true.1 hr _ (List.getElem_mem hlt)
    obtain ⟨k2, k3⟩ := refOk_sizes hok
    have p := put_size (adds.length : Int)
    have p0 := put_size adds[i].f0
    have p1 := put_size adds[i].f1
    have p2 := szd_size adds[i].f2
    have p3 := szd_size adds[i].f3
    have h2 := ih (i + 1) (by omega)
    have e2 : ed0 adds ++ refsL (adds.take (i + 1)) = ed0 adds ++ refsL (adds.take i) ++ put adds[i].f0 ++ put adds[i].f1 ++ szd adds[i].f2 ++ szd adds[i].f3 := by
      rw [take_at adds i hlt, refsL_snoc]
      unfold refB
      simp only [ByteArray.append_assoc]
    rw [e2] at h2
    generalize hG : ed0 adds ++ refsL (adds.take i) = G at h2 ⊢
    have hGs : G.size ≤ 2100000 := by rw [← hG]; unfold ed0; rw [ByteArray.size_append]; omega
    refine Ev.step (f := fun k => (spec_PutVarint.f k adds[i].f0).bind fun t199 => (if G.size + t199.size ≤ 9223372036854775807 then ((spec_PutVarint.f k adds[i].f1).bind fun t200 => (if (G ++ t199).size + t200.size ≤ 9223372036854775807 then ((spec_l3Keyed.f k adds[i].f2).bind fun t201 => (if ((G ++ t199) ++ t200).size + t201.size ≤ 9223372036854775807 then ((spec_l3Keyed.f k adds[i].f3).bind fun t202 => (if (((G ++ t199) ++ t200) ++ t201).size + t202.size ≤ 9223372036854775807 then (spec_EncodeEdit.l0 k ((((G ++ t199) ++ t200) ++ t201) ++ t202) ((i + 1 : Nat) : Int) adds dels log next last) else (none))) else (none))) else (none))) else (none))) (fun k => ?_) ?_
    · rw [spec_EncodeEdit.l0, if_pos (by omega), if_pos (by omega), rd87 adds i hlt, wrap_succ (by omega)]
    · refine Ev.bind (spec_put _) (Ev.congr (fun k => if_pos (by omega)) (Ev.bind (spec_put _) (Ev.congr (fun k => if_pos (by rw [ByteArray.size_append]; omega)) (Ev.bind (keyed_ev _ (by omega)) (Ev.congr (fun k => if_pos (by rw [ByteArray.size_append, ByteArray.size_append]; omega)) (Ev.bind (keyed_ev _ (by omega)) (Ev.congr (fun k => if_pos (by rw [ByteArray.size_append, ByteArray.size_append, ByteArray.size_append]; omega)) h2)))))))
theorem specEncEdit_eq : Ev (fun k => spec_EncodeEdit.f k adds dels log next last) (encEd adds dels log next last) := by
  unfold encEd
  refine Ev.bind (sedit_eq adds dels log next last) ?_
  by_cases h : editOk adds dels log next last = true
  · obtain ⟨ha, hd, hra, _⟩ := editOk_parts h
    rw [h, if_pos rfl]
    have hl := sE_l0 adds dels log next last ha hd hra adds.length 0 (by omega)
    have e : ed0 adds ++ refsL (adds.take 0) = put (adds.length : Int) := by
      show put (adds.length : Int) ++ (⟨#[]⟩ : ByteArray) = _
      rw [ba_append_empty]
    rw [e] at hl
    exact Ev.congr (fun k => if_pos rfl) (Ev.bind (spec_put _) hl)
  · rw [Bool.eq_false_iff.2 h, if_neg (by simp)]
    exact Ev.pure (fun k => if_neg (by simp))
end
end Go.Proofs.Ytjneloehdcecnaa.M
end
section
/- The specification's DecodeEdit answers what the program's does. Condition: the text has at most 2 to the 20 bytes. -/
namespace Go.Proofs.Ytjneloehdcecnaa.M
open Go.RowKit Go.Proofs.Ytjneloehdcecnaa.P Go.Proofs.YtjneloehdcecnaaW.PrintWords Go.Proofs.YtjneloehdcecnaaW.PrintLast
set_option linter.unusedVariables false
def sa (a : Int) (b : Bool) : Int := if b = true then -1 else a
theorem ttext_bad1 {s : ByteArray} {a : Int} {b : Bool} (h : (ttext s a b).2.2 = true) : (ttext s a b).1 = ⟨#[]⟩ := by
  unfold ttext at h ⊢
  unfold tbytes at h ⊢
  split
  · rfl
  · rename_i h1
    rw [if_neg h1] at h
    split
    · rfl
    · rename_i h2
      rw [if_neg h2] at h
      cases h
theorem l4num_ev (s : ByteArray) (a : Int) (b : Bool) (hs : s.size ≤ 1048576) (ha : 0 ≤ a ∧ a ≤ (s.size : Int)) {T : Int × Int × Bool} (hT : tnum s a b = T) : Ev (fun k => spec_l4Number.f k s (sa a b)) (T.1, s, sa T.2.1 T.2.2) := by
  subst hT
  cases b with
  | true => exact Ev.pure (fun k => if_pos (show (-1 : Int) < 0 by omega))
  | false =>
    refine Ev.congr (fun k => if_neg (show ¬ (sa a false) < 0 by show ¬ a < 0; omega)) (Ev.bind (spec_get s a hs) (Ev.pure (fun k => ?_)))
    by_cases h : (get s a).2.2 = true
    · rw [if_pos h, tnum_good h]
      rfl
    · rw [if_neg h, tnum_fail h]
      rfl
theorem l4key_ev (s : ByteArray) (a : Int) (b : Bool) (hs : s.size ≤ 1048576) (ha : 0 ≤ a ∧ a ≤ (s.size : Int)) {T : ByteArray × Int × Bool} (hT : ttext s a b = T) : Ev (fun k => spec_l4Key.f k s (sa a b)) (T.1, s, sa T.2.1 T.2.2) := by
  subst hT
  cases b with
  | true => exact Ev.pure (fun k => if_pos (show (-1 : Int) < 0 by omega))
  | false =>
    refine Ev.congr (fun k => if_neg (show ¬ (sa a false) < 0 by show ¬ a < 0; omega)) (Ev.bind (piece_ev s a hs) (Ev.pure (fun k => ?_)))
    unfold pc
    by_cases h : (ttext s a false).2.2 = true
    · rw [if_pos h, ttext_bad1 h, h]
      rfl
    · rw [if_neg h, Bool.eq_false_iff.2 h]
      rfl
theorem eround_in {s : ByteArray} {a : Int} {b : Bool} (h : 0 ≤ a ∧ a ≤ (s.size : Int)) : 0 ≤ (eround s a b).2.1 ∧ (eround s a b).2.1 ≤ (s.size : Int) := by
  have h1 := (tnum_in (b := b) h).2.2
  have h2 := (tnum_in (b := (tnum s a b).2.2) h1).2.2
  have h3 := ttext_in (b := (tnum s (tnum s a b).2.1 (tnum s a b).2.2).2.2) h2
  exact ttext_in h3
theorem aloop_in {s : ByteArray} : ∀ (n : Nat) {a : Int} {b : Bool} {out : List S87}, 0 ≤ a ∧ a ≤ (s.size : Int) → 0 ≤ (aloop s n a b out).2.1 ∧ (aloop s n a b out).2.1 ≤ (s.size : Int) := by
  intro n
  induction n with
  | zero => intro a b out h; exact h
  | succ n ih =>
    intro a b out h
    unfold aloop
    by_cases hb : b = true
    · rw [if_pos hb]; exact h
    · rw [if_neg hb]; exact ih (eround_in h)
theorem nloop_in {s : ByteArray} : ∀ (n : Nat) {a : Int} {b : Bool} {out : List Int}, 0 ≤ a ∧ a ≤ (s.size : Int) → 0 ≤ (nloop s n a b out).2.1 ∧ (nloop s n a b out).2.1 ≤ (s.size : Int) := by
  intro n
  induction n with
  | zero => intro a b out h; exact h
  | succ n ih =>
    intro a b out h
    unfold nloop
    by_cases hb : b = true
    · rw [if_pos hb]; exact h
    · rw [if_neg hb]; exact ih (tnum_in h).2.2
theorem aloop_bad (s : ByteArray) (n : Nat) (a : Int) (out : List S87) : aloop s n a true out = (out, a, true) := by
  cases n with
  | zero => rfl
  | succ n => unfold aloop; rw [if_pos rfl]
theorem nloop_bad (s : ByteArray) (n : Nat) (a : Int) (out : List Int) : nloop s n a true out = (out, a, true) := by
  cases n with
  | zero => rfl
  | succ n => unfold nloop; rw [if_pos rfl]
theorem aloop_succ (s : ByteArray) (n : Nat) (a : Int) (out : List S87) : aloop s (n + 1) a false out = aloop s n (eround s a false).2.1 (eround s a false).2.2 (out ++ [(eround s a false).1]) := if_neg (by simp)
theorem nloop_succ (s : ByteArray) (n : Nat) (a : Int) (out : List Int) : nloop s (n + 1) a false out = nloop s n (tnum s a false).2.1 (tnum s a false).2.2 (out ++ [(tnum s a false).1]) := if_neg (by simp)
theorem aloop_add (s : ByteArray) (j : Nat) : ∀ (n : Nat) (a : Int) (b : Bool) (out : List S87), aloop s (n + j) a b out = aloop s j (aloop s n a b out).2.1 (aloop s n a b out).2.2 (aloop s n a b out).1 := by
  intro n
  induction n with
  | zero => intro a b out; rw [Nat.zero_add]; rfl
  | succ n ih =>
    intro a b out
    cases b with
    | true => rw [aloop_bad, aloop_bad, aloop_bad]
    | false =>
      rw [show n + 1 + j = (n + j) + 1 by omega, aloop_succ, aloop_succ, ih]
theorem nloop_add (s : ByteArray) (j : Nat) : ∀ (n : Nat) (a : Int) (b : Bool) (out : List Int), nloop s (n + j) a b out = nloop s j (nloop s n a b out).2.1 (nloop s n a b out).2.2 (nloop s n a b out).1 := by
  intro n
  induction n with
  | zero => intro a b out; rw [Nat.zero_add]; rfl
  | succ n ih =>
    intro a b out
    cases b with
    | true => rw [nloop_bad, nloop_bad, nloop_bad]
    | false =>
      rw [show n + 1 + j = (n + j) + 1 by omega, nloop_succ, nloop_succ, ih]
theorem aloop_ge (s : ByteArray) : ∀ (n : Nat) (a : Int) (b : Bool) (out : List S87), out.length ≤ (aloop s n a b out).1.length ∧ ((aloop s n a b out).2.2 = false → (aloop s n a b out).1.length = out.length + n) := by
  intro n
  induction n with
  | zero => intro a b out; exact ⟨Nat.le_refl _, fun _ => rfl⟩
  | succ n ih =>
    intro a b out
    cases b with
    | true => rw [aloop_bad]; exact ⟨Nat.le_refl _, fun h => by cases h⟩
    | false =>
      unfold aloop
      rw [if_neg (by simp)]
      have := ih (eround s a false).2.1 (eround s a false).2.2 (out ++ [(eround s a false).1])
      rw [List.length_append, List.length_singleton] at this
      exact ⟨by omega, fun h => by have := this.2 h; omega⟩
theorem nloop_ge (s : ByteArray) : ∀ (n : Nat) (a : Int) (b : Bool) (out : List Int), out.length ≤ (nloop s n a b out).1.length ∧ ((nloop s n a b out).2.2 = false → (nloop s n a b out).1.length = out.length + n) := by
  intro n
  induction n with
  | zero => intro a b out; exact ⟨Nat.le_refl _, fun _ => rfl⟩
  | succ n ih =>
    intro a b out
    cases b with
    | true => rw [nloop_bad]; exact ⟨Nat.le_refl _, fun h => by cases h⟩
    | false =>
      unfold nloop
      rw [if_neg (by simp)]
      have := ih (tnum s a false).2.1 (tnum s a false).2.2 (out ++ [(tnum s a false).1])
      rw [List.length_append, List.length_singleton] at this
      exact ⟨by omega, fun h => by have := this.2 h; omega⟩
def NONE : Res := ([], [], 0, 0, 0, false)
theorem finE_long {s : ByteArray} {adds : List S87} {dels : List Int} {l x z : Int} {b : Bool} (h : 1000 < adds.length ∨ 1000 < dels.length) : finE s adds dels l x z b = NONE := by
  unfold finE
  split
  · rfl
  · split
    · rfl
    · rename_i h2
      have e : encEd adds dels l x z = ⟨#[]⟩ := by
        unfold encEd
        rw [if_neg]
        intro hh
        unfold editOk at hh
        simp only [Bool.and_eq_true, decide_eq_true_eq] at hh
        omega
      rw [e, if_neg (by rintro rfl; exact h2 rfl)]
      rfl
theorem de3_long {s : ByteArray} {adds : List S87} {D : List Int × Int × Bool} (h : 1000 < D.1.length) : de3 s adds D = NONE := finE_long (Or.inr h)
theorem de1_long {s : ByteArray} {A : List S87 × Int × Bool} (h : 1000 < A.1.length) : de1 s A = NONE := finE_long (Or.inl h)
theorem capD (s : ByteArray) (adds : List S87) (M : Nat) (a : Int) (b : Bool) : de3 s adds (nloop s (min M 1001) a b []) = de3 s adds (nloop s M a b []) := by
  by_cases h : M ≤ 1001
  · rw [Nat.min_eq_left h]
  · rw [Nat.min_eq_right (by omega)]
    obtain ⟨j, rfl⟩ : ∃ j, M = 1001 + j := ⟨M - 1001, by omega⟩
    rw [nloop_add]
    have hg := nloop_ge s 1001 a b []
    generalize nloop s 1001 a b [] = A at hg ⊢
    obtain ⟨d, a1, b1⟩ := A
    cases b1 with
    | true => rw [nloop_bad]
    | false =>
      have h1 : d.length = 0 + 1001 := hg.2 rfl
      have h2 := (nloop_ge s j a1 false d).1
      rw [de3_long (show 1000 < d.length by omega), de3_long (show 1000 < (nloop s j a1 false d).1.length by omega)]
theorem capA (s : ByteArray) (N : Nat) (a : Int) (b : Bool) : de1 s (aloop s (min N 1001) a b []) = de1 s (aloop s N a b []) := by
  by_cases h : N ≤ 1001
  · rw [Nat.min_eq_left h]
  · rw [Nat.min_eq_right (by omega)]
    obtain ⟨j, rfl⟩ : ∃ j, N = 1001 + j := ⟨N - 1001, by omega⟩
    rw [aloop_add]
    have hg := aloop_ge s 1001 a b []
    generalize aloop s 1001 a b [] = A at hg ⊢
    obtain ⟨d, a1, b1⟩ := A
    cases b1 with
    | true => rw [aloop_bad]
    | false =>
      have h1 : d.length = 0 + 1001 := hg.2 rfl
      have h2 := (aloop_ge s j a1 false d).1
      rw [de1_long (show 1000 < d.length by omega), de1_long (show 1000 < (aloop s j a1 false d).1.length by omega)]
theorem spec_l0 (s : ByteArray) (hs : s.size ≤ 1048576) (N : Nat) (R : Res) : ∀ d i : Nat, i + d = min N 1001 → ∀ (a : Int) (b : Bool) (adds : List S87), 0 ≤ a ∧ a ≤ (s.size : Int) → adds.length = i →
    (∀ A, aloop s d a b adds = A → Ev (fun k => (spec_l4Number.f k s (sa A.2.1 A.2.2)).bind fun bt390 => (spec_DecodeEdit.l1 k s bt390.1 0 bt390.2.1 bt390.2.2 A.1 ([] : List Int) 0 0 0)) R) →
    Ev (fun k => spec_DecodeEdit.l0 k s (N : Int) (i : Int) s (sa a b) adds 0 0 0) R := by
  intro d
  induction d with
  | zero =>
    intro i hi a b adds ha hl hA
    have h := hA _ rfl
    have hj : Ev (fun k => spec_DecodeEdit.j1 k s (N : Int) (i : Int) false s (sa a b) adds 0 0 0) R :=
      Ev.step (fun k => by rw [spec_DecodeEdit.j1, if_neg (by simp)]; rfl) h
    refine Ev.step (fun k => ?_) hj
    rw [spec_DecodeEdit.l0]
    by_cases c : (i : Int) < (N : Int)
    · rw [if_pos c, if_neg (by omega)]
    · rw [if_neg c]
  | succ d ih =>
    intro i hi a b adds ha hl hA
    cases b with
    | true =>
      rw [aloop_bad] at hA
      have h := hA _ rfl
      have hj : Ev (fun k => spec_DecodeEdit.j1 k s (N : Int) (i : Int) (decide (sa a true ≥ 0)) s (sa a true) adds 0 0 0) R :=
        Ev.step (fun k => by rw [spec_DecodeEdit.j1, if_neg (by rw [decide_eq_false (show ¬ sa a true ≥ 0 by show ¬ (-1 : Int) ≥ 0; omega)]; simp)]) h
      refine Ev.step (fun k => ?_) hj
      rw [spec_DecodeEdit.l0, if_pos (by omega), if_pos (by omega)]
    | false =>
      obtain ⟨T1, hT1⟩ : ∃ T, tnum s a false = T := ⟨_, rfl⟩
      obtain ⟨T2, hT2⟩ : ∃ T, tnum s T1.2.1 T1.2.2 = T := ⟨_, rfl⟩
      obtain ⟨T3, hT3⟩ : ∃ T, ttext s T2.2.1 T2.2.2 = T := ⟨_, rfl⟩
      obtain ⟨T4, hT4⟩ : ∃ T, ttext s T3.2.1 T3.2.2 = T := ⟨_, rfl⟩
      have HRD : eround s a false = (⟨T1.1, T2.1, T3.1, T4.1⟩, T4.2) := by
        unfold eround er; rw [hT1, hT2]; unfold er0; rw [hT3]; unfold er1; rw [hT4]; rfl
      have A1 : 0 ≤ T1.2.1 ∧ T1.2.1 ≤ (s.size : Int) := hT1 ▸ (tnum_in ha).2.2
      have A2 : 0 ≤ T2.2.1 ∧ T2.2.1 ≤ (s.size : Int) := hT2 ▸ (tnum_in A1).2.2
      have A3 : 0 ≤ T3.2.1 ∧ T3.2.1 ≤ (s.size : Int) := hT3 ▸ ttext_in A2
      have A4 : 0 ≤ T4.2.1 ∧ T4.2.1 ≤ (s.size : Int) := hT4 ▸ ttext_in A3
      have h2 := ih (i + 1) (by omega) T4.2.1 T4.2.2 (adds ++ [(⟨T1.1, T2.1, T3.1, T4.1⟩ : S87)]) A4 (by rw [List.length_append, hl]; rfl) (fun A hh => hA A (by unfold aloop; rw [if_neg (by simp), HRD]; exact hh))
      have hj : Ev (fun k => spec_DecodeEdit.j1 k s (N : Int) (i : Int) (decide (sa a false ≥ 0)) s (sa a false) adds 0 0 0) R := by
        refine Ev.step (fun k => by rw [spec_DecodeEdit.j1, if_pos (decide_eq_true (show sa a false ≥ 0 from ha.1))]) ?_
        refine Ev.bind (l4num_ev s a false hs ha hT1) (Ev.bind (l4num_ev s _ _ hs A1 hT2) (Ev.bind (l4key_ev s _ _ hs A2 hT3) (Ev.bind (l4key_ev s _ _ hs A3 hT4) ?_)))
        refine Ev.congr (fun k => if_pos (show adds.length < 2932031007402 by omega)) ?_
        rw [wrap_succ (show i < 9223372036854775807 by omega)]
        exact h2
      refine Ev.step (fun k => ?_) hj
      rw [spec_DecodeEdit.l0, if_pos (by omega), if_pos (by omega)]
theorem spec_l1 (s : ByteArray) (hs : s.size ≤ 1048576) (M : Nat) (adds : List S87) (R : Res) : ∀ d i : Nat, i + d = min M 1001 → ∀ (a : Int) (b : Bool) (dels : List Int), 0 ≤ a ∧ a ≤ (s.size : Int) → dels.length = i →
    (∀ D, nloop s d a b dels = D → Ev (fun k => spec_DecodeEdit.j3 k s s (sa D.2.1 D.2.2) adds D.1 0 0 0) R) →
    Ev (fun k => spec_DecodeEdit.l1 k s (M : Int) (i : Int) s (sa a b) adds dels 0 0 0) R := by
  intro d
  induction d with
  | zero =>
    intro i hi a b dels ha hl hA
    refine Ev.step (fun k => ?_) (hA _ rfl)
    rw [spec_DecodeEdit.l1]
    by_cases c : (i : Int) < (M : Int)
    · rw [if_pos c, if_neg (by omega)]; rfl
    · rw [if_neg c]; rfl
  | succ d ih =>
    intro i hi a b dels ha hl hA
    cases b with
    | true =>
      rw [nloop_bad] at hA
      refine Ev.step (fun k => ?_) (hA _ rfl)
      rw [spec_DecodeEdit.l1, if_pos (by omega), if_pos (by omega), if_neg (show ¬ sa a true ≥ 0 by show ¬ (-1 : Int) ≥ 0; omega)]
    | false =>
      obtain ⟨T1, hT1⟩ : ∃ T, tnum s a false = T := ⟨_, rfl⟩
      have A1 : 0 ≤ T1.2.1 ∧ T1.2.1 ≤ (s.size : Int) := hT1 ▸ (tnum_in ha).2.2
      have h2 := ih (i + 1) (by omega) T1.2.1 T1.2.2 (dels ++ [T1.1]) A1 (by rw [List.length_append, hl]; rfl) (fun D hh => hA D (by unfold nloop; rw [if_neg (by simp), hT1]; exact hh))
      refine Ev.step (fun k => by rw [spec_DecodeEdit.l1, if_pos (by omega), if_pos (by omega), if_pos (show sa a false ≥ 0 from ha.1)]) ?_
      refine Ev.bind (l4num_ev s a false hs ha hT1) ?_
      refine Ev.congr (fun k => if_pos (show dels.length < 17592186044416 by omega)) ?_
      rw [wrap_succ (show i < 9223372036854775807 by omega)]
      exact h2
theorem spec_j3 (s : ByteArray) (hs : s.size ≤ 1048576) (adds : List S87) (D : List Int × Int × Bool) (ha : 0 ≤ D.2.1 ∧ D.2.1 ≤ (s.size : Int)) : Ev (fun k => spec_DecodeEdit.j3 k s s (sa D.2.1 D.2.2) adds D.1 0 0 0) (de3 s adds D) := by
  obtain ⟨T1, hT1⟩ : ∃ T, tnum s D.2.1 D.2.2 = T := ⟨_, rfl⟩
  obtain ⟨T2, hT2⟩ : ∃ T, tnum s T1.2.1 T1.2.2 = T := ⟨_, rfl⟩
  obtain ⟨T3, hT3⟩ : ∃ T, tnum s T2.2.1 T2.2.2 = T := ⟨_, rfl⟩
  have A1 : 0 ≤ T1.2.1 ∧ T1.2.1 ≤ (s.size : Int) := hT1 ▸ (tnum_in ha).2.2
  have A2 : 0 ≤ T2.2.1 ∧ T2.2.1 ≤ (s.size : Int) := hT2 ▸ (tnum_in A1).2.2
  have A3 : 0 ≤ T3.2.1 ∧ T3.2.1 ≤ (s.size : Int) := hT3 ▸ (tnum_in A2).2.2
  have hd : de3 s adds D = finE s adds D.1 T1.1 T2.1 T3.1 T3.2.2 := by
    unfold de3
    rw [hT1]
    unfold de4
    rw [hT2]
    unfold de5
    rw [hT3]
    rfl
  rw [hd]
  refine Ev.step (fun k => by rw [spec_DecodeEdit.j3]) (Ev.bind (l4num_ev s _ _ hs ha hT1) (Ev.bind (l4num_ev s _ _ hs A1 hT2) (Ev.bind (l4num_ev s _ _ hs A2 hT3) ?_)))
  unfold finE
  by_cases hb : T3.2.2 = true
  · rw [if_pos hb, hb]
    exact Ev.pure (fun k => if_pos (show (-1 : Int) < 0 by omega))
  · rw [if_neg hb, Bool.eq_false_iff.2 hb]
    refine Ev.congr (fun k => if_neg (show ¬ T3.2.1 < 0 by omega)) ?_
    by_cases h0 : s.size = 0
    · rw [if_pos h0]
      exact Ev.pure (fun k => if_pos (by omega))
    · rw [if_neg h0]
      refine Ev.congr (fun k => if_neg (by omega)) (Ev.bind (specEncEdit_eq adds D.1 T1.1 T2.1 T3.1) (Ev.pure (fun k => ?_)))
      by_cases h : encEd adds D.1 T1.1 T2.1 T3.1 = s
      · rw [if_pos h]
        exact if_pos ((list_eq_iff _ _).2 h)
      · rw [if_neg h]
        exact if_neg (fun x => h ((list_eq_iff _ _).1 x))
theorem specDecEd_eq (s : ByteArray) (hs : s.size ≤ 1048576) : Ev (fun k => spec_DecodeEdit.f k s) (dece s) := by
  obtain ⟨T0, hT0⟩ : ∃ T, tnum s 0 false = T := ⟨_, rfl⟩
  have hin := tnum_in (s := s) (a := 0) (b := false) (by omega)
  rw [hT0] at hin
  refine Ev.bind (l4num_ev s 0 false hs (by omega) hT0) ?_
  have hd : dece s = de1 s (aloop s (min T0.1.toNat 1001) T0.2.1 T0.2.2 []) := by
    rw [capA]
    unfold dece
    rw [hT0]
    rfl
  rw [hd]
  obtain ⟨n0, a0, b0⟩ := T0
  obtain ⟨N, rfl⟩ : ∃ N : Nat, n0 = (N : Int) := ⟨n0.toNat, by have := hin.1; simp only at this; omega⟩
  refine spec_l0 s hs N _ (min N 1001) 0 (by omega) a0 b0 [] hin.2.2 rfl (fun A hA => ?_)
  have hAin := aloop_in (s := s) (min N 1001) (b := b0) (out := []) hin.2.2
  show Ev _ (de1 s (aloop s (min ((N : Int).toNat) 1001) a0 b0 []))
  rw [Int.toNat_natCast, hA]
  rw [hA] at hAin
  clear hA hd hin hT0
  obtain ⟨T1, hT1⟩ : ∃ T, tnum s A.2.1 A.2.2 = T := ⟨_, rfl⟩
  have hin := tnum_in (b := A.2.2) hAin
  rw [hT1] at hin
  refine Ev.bind (l4num_ev s _ _ hs hAin hT1) ?_
  have hd : de1 s A = de3 s A.1 (nloop s (min T1.1.toNat 1001) T1.2.1 T1.2.2 []) := by
    rw [capD]
    unfold de1
    rw [hT1]
    rfl
  rw [hd]
  obtain ⟨n1, a1, b1⟩ := T1
  obtain ⟨M, rfl⟩ : ∃ M : Nat, n1 = (M : Int) := ⟨n1.toNat, by have := hin.1; simp only at this; omega⟩
  refine spec_l1 s hs M _ _ (min M 1001) 0 (by omega) a1 b1 [] hin.2.2 rfl (fun D hD => ?_)
  have hDin := nloop_in (s := s) (min M 1001) (b := b1) (out := []) hin.2.2
  show Ev _ (de3 s A.1 (nloop s (min ((M : Int).toNat) 1001) a1 b1 []))
  rw [Int.toNat_natCast, hD]
  rw [hD] at hDin
  exact spec_j3 s hs A.1 D hDin
theorem finE_length (s : ByteArray) (adds : List S87) (dels : List Int) (l x z : Int) (b : Bool) : (finE s adds dels l x z b).1.length ≤ 1000 ∧ (finE s adds dels l x z b).2.1.length ≤ 1000 := by
  by_cases h : 1000 < adds.length ∨ 1000 < dels.length
  · rw [finE_long h]
    exact ⟨Nat.zero_le _, Nat.zero_le _⟩
  · unfold finE
    split
    · exact ⟨Nat.zero_le _, Nat.zero_le _⟩
    · split
      · exact ⟨Nat.zero_le _, Nat.zero_le _⟩
      · split
        · exact ⟨by show adds.length ≤ 1000; omega, by show dels.length ≤ 1000; omega⟩
        · exact ⟨Nat.zero_le _, Nat.zero_le _⟩
theorem dece_length (s : ByteArray) : (dece s).1.length ≤ 1000 ∧ (dece s).2.1.length ≤ 1000 := finE_length _ _ _ _ _ _ _
end Go.Proofs.Ytjneloehdcecnaa.M
end
section
/- The laws' marks: what markEntryS writes heldEntryS finds. Condition: the row and the count are far from the end of the numbers. -/
namespace Go.Proofs.Ytjneloehdcecnaa.M
open Go.RowKit Go.Proofs.Ytjneloehdcecnaa.P Go.Proofs.YtjneloehdcecnaaW.PrintWords Go.Proofs.YtjneloehdcecnaaW.PrintLast Go.Proofs.YtjneloehdcecnaaW.PrintMore
set_option linter.unusedVariables false
theorem size_strOfNums (a : Int) : (strOfNums [a]).size = 1 := rfl
theorem markText_ends : ∀ (n : Nat) (k : Nat) (acc : ByteArray), k ≤ n → acc.size + k ≤ 4611686018427387904 → ∃ t, Ev (fun j => laws_markText.l0 j (k : Int) acc) t := by
  intro n
  induction n with
  | zero =>
    intro k acc hk hs
    refine ⟨(⟨#[109]⟩ : ByteArray) ++ acc, Ev.step (f := fun _ => some ((⟨#[109]⟩ : ByteArray) ++ acc)) (fun j => ?_) (Ev.now _)⟩
    rw [laws_markText.l0, if_neg (by omega), if_pos (by omega)]
  | succ n ih =>
    intro k acc hk hs
    by_cases c : k = 0
    · refine ⟨(⟨#[109]⟩ : ByteArray) ++ acc, Ev.step (f := fun _ => some ((⟨#[109]⟩ : ByteArray) ++ acc)) (fun j => ?_) (Ev.now _)⟩
      rw [laws_markText.l0, if_neg (by omega), if_pos (by omega)]
    · have ht : Int.tdiv (k : Int) 10 = ((k / 10 : Nat) : Int) := by
        rw [Int.tdiv_eq_ediv_of_nonneg (by omega)]; omega
      have hsz := size_strOfNums ((wrap64 (48 + (Int.tmod (k : Int) 10))) % 256)
      obtain ⟨t, h⟩ := ih (k / 10) (strOfNums [(wrap64 (48 + (Int.tmod (k : Int) 10))) % 256] ++ acc) (by omega) (by rw [ByteArray.size_append, hsz]; omega)
      refine ⟨t, Ev.step (fun j => ?_) h⟩
      rw [laws_markText.l0, if_pos (by omega), Option.bind_some, if_pos (by rw [hsz]; omega), ht, wrap_ok (by omega) (by omega)]
theorem markText_all (k : Nat) (hk : k ≤ 4611686018427387904) : ∃ t, Ev (fun j => laws_markText.f j (k : Int)) t := by
  by_cases c : k = 0
  · exact ⟨_, Ev.pure (fun j => if_pos (by omega))⟩
  · obtain ⟨t, h⟩ := markText_ends k k ⟨#[]⟩ (Nat.le_refl _) (by show 0 + k ≤ _; omega)
    exact ⟨t, Ev.congr (fun j => if_neg (by omega)) h⟩
open Classical in
noncomputable def mt (k : Nat) : ByteArray := if h : ∃ t, Ev (fun j => laws_markText.f j (k : Int)) t then Classical.choose h else ⟨#[]⟩
theorem mt_eq (k : Nat) (hk : k ≤ 4611686018427387904) : Ev (fun j => laws_markText.f j (k : Int)) (mt k) := by
  unfold mt
  rw [dif_pos (markText_all k hk)]
  exact Classical.choose_spec (markText_all k hk)
theorem set_here {α : Type} (a b : List α) (x y : α) (i : Nat) (h : a.length = i) : (a ++ x :: b).set i y = a ++ y :: b := by
  subst h
  rw [List.set_append_right _ _ (Nat.le_refl _), Nat.sub_self]
  rfl
end Go.Proofs.Ytjneloehdcecnaa.M
end
section
/- The laws' marks of an edit: what markEdit writes heldEdit finds. Condition: its rows are far from the end of the numbers. -/
namespace Go.Proofs.Ytjneloehdcecnaa.M
open Go.RowKit Go.Proofs.Ytjneloehdcecnaa.P Go.Proofs.YtjneloehdcecnaaW.PrintWords Go.Proofs.YtjneloehdcecnaaW.PrintLast Go.Proofs.YtjneloehdcecnaaW.PrintMore
set_option linter.unusedVariables false
noncomputable def mark1E (k : Nat) : S87 := ⟨((k : Nat) : Int), ((k + 1 : Nat) : Int), mt (k + 2), mt (k + 3)⟩
noncomputable def markedE : Nat → List S87 → List S87
  | _, [] => []
  | k, _ :: l => mark1E k :: markedE (k + 4) l
theorem markedE_length (l : List S87) : ∀ k, (markedE k l).length = l.length := by
  induction l with
  | nil => intro k; rfl
  | cons x l ih => intro k; show (markedE (k + 4) l).length + 1 = l.length + 1; rw [ih]
theorem markedE_append (a b : List S87) : ∀ k, markedE k (a ++ b) = markedE k a ++ markedE (k + 4 * a.length) b := by
  induction a with
  | nil => intro k; rfl
  | cons x a ih =>
    intro k
    show _ :: markedE (k + 4) (a ++ b) = _ :: (markedE (k + 4) a ++ _)
    rw [ih, show k + 4 + 4 * a.length = k + 4 * (x :: a).length by simp; omega]
theorem rd_hereE (a b : List S87) (x : S87) (i : Nat) (h : a.length = i) : rd_T87 (a ++ x :: b) (i : Int) = x := by
  subst h
  rw [rd87 _ _ (by simp)]
  simp
theorem markTableRefS_loop (l : List S87) (hl : l.length ≤ 1048577) : ∀ d i : Nat, i + d = l.length →
    Ev (fun j => laws_markTableRefS.l0 j (markedE 1 (l.take i) ++ l.drop i) ((1 + 4 * i : Nat) : Int) (i : Int)) (((1 + 4 * l.length : Nat) : Int), markedE 1 l) := by
  intro d
  induction d with
  | zero =>
    intro i hi
    refine Ev.step (f := fun _ => some (((1 + 4 * l.length : Nat) : Int), markedE 1 l)) (fun j => ?_) (Ev.now _)
    have e : markedE 1 (l.take i) ++ l.drop i = markedE 1 l := by rw [List.drop_eq_nil_of_le (by omega), List.append_nil, List.take_of_length_le (by omega)]
    rw [e, laws_markTableRefS.l0, if_neg (by rw [markedE_length]; omega), show i = l.length by omega]
  | succ d ih =>
    intro i hi
    have hlt : i < l.length := by omega
    have hm : (markedE 1 (l.take i)).length = i := by rw [markedE_length, List.length_take]; omega
    have hlen : (markedE 1 (l.take i) ++ l.drop i).length = l.length := by rw [List.length_append, hm, List.length_drop]; omega
    rw [drop_at l i hlt] at hlen ⊢
    generalize hA : markedE 1 (l.take i) = A at hm hlen ⊢
    have e1 : wrap64 (((1 + 4 * i : Nat) : Int) + 1) = ((1 + 4 * i + 1 : Nat) : Int) := by rw [wrap_ok] <;> omega
    have e2 : wrap64 (((1 + 4 * i + 1 : Nat) : Int) + 1) = ((1 + 4 * i + 2 : Nat) : Int) := by rw [wrap_ok] <;> omega
    have e3 : wrap64 (((1 + 4 * i + 2 : Nat) : Int) + 1) = ((1 + 4 * i + 3 : Nat) : Int) := by rw [wrap_ok] <;> omega
    have e3' : wrap64 (((1 + 4 * i + 3 : Nat) : Int) + 1) = ((1 + 4 * (i + 1) : Nat) : Int) := by rw [wrap_ok] <;> omega
    have e4 : wrap64 ((i : Int) + 1) = ((i + 1 : Nat) : Int) := wrap_succ (by omega)
    have h2 := ih (i + 1) (by omega)
    have e5 : markedE 1 (l.take (i + 1)) ++ l.drop (i + 1) = A ++ mark1E (1 + 4 * i) :: l.drop (i + 1) := by
      rw [take_at l i hlt, markedE_append, hA, List.length_take, Nat.min_eq_left (by omega), List.append_assoc]
      rfl
    rw [e5] at h2
    refine Ev.step (f := fun j => ((laws_markText.f j ((1 + 4 * i + 2 : Nat) : Int)).bind fun t231 => ((laws_markText.f j ((1 + 4 * i + 3 : Nat) : Int)).bind fun t233 => (laws_markTableRefS.l0 j (A ++ (⟨((1 + 4 * i : Nat) : Int), ((1 + 4 * i + 1 : Nat) : Int), t231, t233⟩ : S87) :: l.drop (i + 1)) ((1 + 4 * (i + 1) : Nat) : Int) ((i + 1 : Nat) : Int))))) (fun j => ?_) (Ev.bind (mt_eq _ (by omega)) (Ev.bind (mt_eq _ (by omega)) h2))
    rw [laws_markTableRefS.l0, if_pos (by rw [hlen]; omega)]
    have e6 : ((0 : Int) ≤ (i : Int)) = True := eq_true (by omega)
    simp only [Option.bind_some, Int.toNat_natCast, e1, e2, e3, e3', e4, e6, if_true, rd_hereE A _ _ i hm, set_here A _ _ _ i hm]
theorem markTableRefS_eq (l : List S87) (hl : l.length ≤ 1048577) : Ev (fun j => laws_markTableRefS.f j l 1) (((1 + 4 * l.length : Nat) : Int), markedE 1 l) := by
  have := markTableRefS_loop l hl l.length 0 (by omega)
  exact this
theorem heldTableRefS_loop (l : List S87) (hl : l.length ≤ 1048577) : ∀ d i : Nat, i + d = l.length →
    Ev (fun j => laws_heldTableRefS.l0 j (markedE 1 l) ((1 + 4 * i : Nat) : Int) (i : Int)) ((1 + 4 * l.length : Nat) : Int) := by
  intro d
  induction d with
  | zero =>
    intro i hi
    refine Ev.step (f := fun _ => some ((1 + 4 * l.length : Nat) : Int)) (fun j => ?_) (Ev.now _)
    rw [laws_heldTableRefS.l0, if_neg (by rw [markedE_length]; omega), show i = l.length by omega]
  | succ d ih =>
    intro i hi
    have hlt : i < l.length := by omega
    have hm : (markedE 1 (l.take i)).length = i := by rw [markedE_length, List.length_take]; omega
    have hlen := markedE_length l 1
    have e0 : markedE 1 l = markedE 1 (l.take i) ++ mark1E (1 + 4 * i) :: markedE (1 + 4 * i + 4) (l.drop (i + 1)) := by
      have : l = l.take i ++ l[i] :: l.drop (i + 1) := by rw [← drop_at l i hlt, List.take_append_drop]
      conv => lhs; rw [this, markedE_append, List.length_take, Nat.min_eq_left (by omega)]
      rfl
    have e1 : wrap64 (((1 + 4 * i : Nat) : Int) + 1) = ((1 + 4 * i + 1 : Nat) : Int) := by rw [wrap_ok] <;> omega
    have e2 : wrap64 (((1 + 4 * i + 1 : Nat) : Int) + 1) = ((1 + 4 * i + 2 : Nat) : Int) := by rw [wrap_ok] <;> omega
    have e3 : wrap64 (((1 + 4 * i + 2 : Nat) : Int) + 1) = ((1 + 4 * i + 3 : Nat) : Int) := by rw [wrap_ok] <;> omega
    have e3' : wrap64 (((1 + 4 * i + 3 : Nat) : Int) + 1) = ((1 + 4 * (i + 1) : Nat) : Int) := by rw [wrap_ok] <;> omega
    have e4 : wrap64 ((i : Int) + 1) = ((i + 1 : Nat) : Int) := wrap_succ (by omega)
    have er : rd_T87 (markedE 1 l) (i : Int) = ⟨((1 + 4 * i : Nat) : Int), ((1 + 4 * i + 1 : Nat) : Int), mt (1 + 4 * i + 2), mt (1 + 4 * i + 3)⟩ := by rw [e0]; exact rd_hereE _ _ _ i hm
    have h2 := ih (i + 1) (by omega)
    refine Ev.step (f := fun j => ((laws_markText.f j ((1 + 4 * i + 2 : Nat) : Int)).bind fun t241 => (if (mt (1 + 4 * i + 2)).toList = t241.toList then ((laws_markText.f j ((1 + 4 * i + 3 : Nat) : Int)).bind fun t243 => (if (mt (1 + 4 * i + 3)).toList = t243.toList then (laws_heldTableRefS.l0 j (markedE 1 l) ((1 + 4 * (i + 1) : Nat) : Int) ((i + 1 : Nat) : Int)) else (some (-1)))) else (some (-1))))) (fun j => ?_) (Ev.bind (mt_eq _ (by omega)) (Ev.congr (fun j => if_pos rfl) (Ev.bind (mt_eq _ (by omega)) (Ev.congr (fun j => if_pos rfl) h2))))
    rw [laws_heldTableRefS.l0, if_pos (by rw [hlen]; omega)]
    have e6 : ((0 : Int) ≤ (i : Int)) = True := eq_true (by omega)
    simp only [e1, e2, e3, e3', e4, er, e6, if_true]
theorem heldTableRefS_eq (l : List S87) (hl : l.length ≤ 1048577) : Ev (fun j => laws_heldTableRefS.f j (markedE 1 l) 1) ((1 + 4 * l.length : Nat) : Int) := by
  have := heldTableRefS_loop l hl l.length 0 (by omega)
  exact this
def countI (m : Nat) : Nat → List Int
  | 0 => []
  | n + 1 => countI m n ++ [((m + n : Nat) : Int)]
theorem countI_length (m : Nat) : ∀ n, (countI m n).length = n := by
  intro n
  induction n with
  | zero => rfl
  | succ n ih => show (countI m n ++ [_]).length = n + 1; rw [List.length_append, ih]; rfl
theorem rd_hereI (a b : List Int) (x : Int) (i : Nat) (h : a.length = i) : rd (a ++ x :: b) (i : Int) = x := by
  subst h
  unfold rd
  rw [Int.toNat_natCast]
  simp
theorem countI_split (m i : Nat) : ∀ d, ∃ b, countI m (i + 1 + d) = countI m i ++ ((m + i : Nat) : Int) :: b := by
  intro d
  induction d with
  | zero => exact ⟨[], rfl⟩
  | succ d ih =>
    obtain ⟨b, hb⟩ := ih
    refine ⟨b ++ [((m + (i + 1 + d) : Nat) : Int)], ?_⟩
    show countI m (i + 1 + d) ++ [_] = _
    rw [hb, List.append_assoc]
    rfl
theorem markIntS_loop (l : List Int) (m : Nat) (hl : l.length ≤ 1048577) (hm : m ≤ 1048576000) : ∀ d i : Nat, i + d = l.length →
    Ev (fun j => laws_markIntS.l0 j (countI m i ++ l.drop i) ((m + i : Nat) : Int) (i : Int)) (((m + l.length : Nat) : Int), countI m l.length) := by
  intro d
  induction d with
  | zero =>
    intro i hi
    refine Ev.step (f := fun _ => some (((m + l.length : Nat) : Int), countI m l.length)) (fun j => ?_) (Ev.now _)
    rw [List.drop_eq_nil_of_le (by omega), List.append_nil, laws_markIntS.l0, if_neg (by rw [countI_length]; omega), show i = l.length by omega]
  | succ d ih =>
    intro i hi
    have hlt : i < l.length := by omega
    have hm1 := countI_length m i
    have hlen : (countI m i ++ l.drop i).length = l.length := by rw [List.length_append, hm1, List.length_drop]; omega
    rw [drop_at l i hlt] at hlen ⊢
    have h2 := ih (i + 1) (by omega)
    have e : countI m (i + 1) ++ l.drop (i + 1) = countI m i ++ ((m + i : Nat) : Int) :: l.drop (i + 1) := by
      show countI m i ++ [_] ++ _ = _
      rw [List.append_assoc]
      rfl
    rw [e] at h2
    refine Ev.step (fun j => ?_) h2
    rw [laws_markIntS.l0, if_pos (by rw [hlen]; omega), if_pos (by omega), Int.toNat_natCast, set_here _ _ _ _ i hm1, wrap_succ (by omega), wrap_succ (by omega)]
    rfl
theorem markIntS_eq (l : List Int) (m : Nat) (hl : l.length ≤ 1048577) (hm : m ≤ 1048576000) : Ev (fun j => laws_markIntS.f j l (m : Int)) (((m + l.length : Nat) : Int), countI m l.length) := by
  have := markIntS_loop l m hl hm l.length 0 (by omega)
  exact this
theorem heldIntS_loop (n m : Nat) (hl : n ≤ 1048577) (hm : m ≤ 1048576000) : ∀ d i : Nat, i + d = n →
    Ev (fun j => laws_heldIntS.l0 j (countI m n) ((m + i : Nat) : Int) (i : Int)) ((m + n : Nat) : Int) := by
  intro d
  induction d with
  | zero =>
    intro i hi
    refine Ev.step (f := fun _ => some ((m + n : Nat) : Int)) (fun j => ?_) (Ev.now _)
    rw [laws_heldIntS.l0, if_neg (by rw [countI_length]; omega), show i = n by omega]
  | succ d ih =>
    intro i hi
    obtain ⟨b, hb⟩ := countI_split m i d
    rw [show i + 1 + d = n by omega] at hb
    have er : rd (countI m n) (i : Int) = ((m + i : Nat) : Int) := by rw [hb]; exact rd_hereI _ _ _ i (countI_length m i)
    refine Ev.step (fun j => ?_) (ih (i + 1) (by omega))
    rw [laws_heldIntS.l0, if_pos (by rw [countI_length]; omega), if_pos (by omega), er, if_pos rfl, wrap_succ (by omega), wrap_succ (by omega)]
    rfl
theorem heldIntS_eq (n m : Nat) (hl : n ≤ 1048577) (hm : m ≤ 1048576000) : Ev (fun j => laws_heldIntS.f j (countI m n) (m : Int)) ((m + n : Nat) : Int) := by
  have := heldIntS_loop n m hl hm n 0 (by omega)
  exact this
theorem markEdit_eq (adds : List S87) (dels : List Int) (l x z : Int) (ha : adds.length ≤ 1048577) (hd : dels.length ≤ 1048577) :
    Ev (fun j => laws_markEdit.f j adds dels l x z 1) (((1 + 4 * adds.length + dels.length : Nat) : Int), markedE 1 adds, countI (1 + 4 * adds.length) dels.length) :=
  Ev.bind (markTableRefS_eq adds ha) (Ev.bind (markIntS_eq dels _ hd (by omega)) (Ev.now _))
theorem heldEdit_eq (adds : List S87) (dels : List Int) (l x z : Int) (ha : adds.length ≤ 1048577) (hd : dels.length ≤ 1048577) :
    Ev (fun j => laws_heldEdit.f j (markedE 1 adds) (countI (1 + 4 * adds.length) dels.length) l x z 1) ((1 + 4 * adds.length + dels.length : Nat) : Int) :=
  Ev.bind (heldTableRefS_eq adds ha) (Ev.congr (fun k => if_neg (by omega)) (Ev.bind (heldIntS_eq dels.length _ hd (by omega)) (Ev.congr (fun k => if_neg (by omega)) (Ev.now _))))
end Go.Proofs.Ytjneloehdcecnaa.M
end
section
/- The program's DecodeEdit answers as the specification's at every text of at most 2 to the 20 bytes, and its answer owns its memory. -/
namespace Go.Proofs.Ytjneloehdcecnaa.Pure
open Go.RowKit Go.Proofs.Ytjneloehdcecnaa.P Go.Proofs.YtjneloehdcecnaaW.PrintWords Go.Proofs.YtjneloehdcecnaaW.PrintLast Go.Proofs.Ytjneloehdcecnaa.M
set_option linter.unusedVariables false
theorem FnExactDecodeEdit : laws_FnExactDecodeEdit.Pure := by
  intro s _
  refine Ev.rounds (r := true) ?_
  by_cases hs : (s.size : Int) > 1048576
  · exact M.Ev.pure (fun k => if_pos hs)
  have hsp := specDecEd_eq s (by omega)
  have him : ∀ k : Nat, impl_DecodeEdit.f s = some (dece s) := fun _ => if_pos (by omega)
  have hl := dece_length s
  generalize dece s = r at hsp him hl
  obtain ⟨adds, dels, l, x, z, b⟩ := r
  have hl1 : adds.length ≤ 1000 := hl.1
  have hl2 : dels.length ≤ 1000 := hl.2
  have he := eqEdit_self adds dels l x z (by omega) (by omega)
  have hm := markEdit_eq adds dels l x z (by omega) (by omega)
  have hh := heldEdit_eq adds dels l x z (by omega) (by omega)
  refine Ev.congr (fun k => if_neg hs) (Ev.bind hsp (Ev.bind (M.Ev.pure him) (Ev.bind he (Ev.congr (fun k => if_pos rfl) ?_))))
  refine Ev.step (f := fun k => ((laws_markEdit.f k adds dels l x z 1).bind fun bt454 => ((laws_heldEdit.f k bt454.2.1 bt454.2.2 l x z 1).bind fun t457 => (if t457 < 0 then (some false) else (if t457 = bt454.1 then ((impl_DecodeEdit.f s).bind fun bt458 => ((laws_eqEdit.f k bt458.1 bt458.2.1 bt458.2.2.1 bt458.2.2.2.1 bt458.2.2.2.2.1 adds dels l x z).bind fun t469 => (if t469 = true then (if (bt458.2.2.2.2.2 != b) = true then (some false) else (some true)) else (some false)))) else (some false)))))) (fun k => by rw [laws_FnExactDecodeEdit.j0, if_neg (by simp)]) ?_
  refine Ev.bind hm (Ev.bind hh (Ev.congr (fun k => if_neg (by omega)) (Ev.congr (fun k => if_pos rfl) (Ev.bind (M.Ev.pure him) (Ev.bind he (Ev.congr (fun k => if_pos rfl) (M.Ev.pure (fun k => if_neg (by simp)))))))))
end Go.Proofs.Ytjneloehdcecnaa.Pure
end
section
-- PRINTED by print.py: the row of the law laws_FnExactDecodeEdit, out of its Pure (the session's) and the printed walk. Not trusted: Lean checks it.
namespace Go.Proofs.Ytjneloehdcecnaa.fnExactDecodeEdit
open Go.ChangeShapes Go.WideShapes Go.ChangeAt Go.RowKit
open Go.ChangeMaps (open_string shut_string)
set_option linter.unusedVariables false
theorem own : ownKnob Try.prog.godebug = none := by kernel_rfl
set_option maxRecDepth 100000 in
theorem lifted (os : Os) (started : os.Started) (H : Type) (enc : TypeId × Value → H) :
    ReturnsInHanded {} Try.checked os 9 .any (Rows.fnExactDecodeEditSpec.pre6 enc Try.prog Try.f9 Rows.fnExactDecodeEditRow.domain false) (Rows.fnExactDecodeEditSpec.post enc Try.prog Try.f9 false true false false) := by
  refine returnsInHanded_of_change_sized (C := Try.checked) own started (by kernel_rfl) Try.func9
    (ChangeSpec.witness6 (enc := enc) (C := Try.checked) false ⟨#[], #[.string ByteArray.empty], []⟩ 8 (by kernel_rfl) (by kernel_rfl) (by kernel_rfl) (by kernel_rfl)) ?_
  intro W base args ds gs before hval0 hW hcnd hsz0 _
  have hsz : (DataW.weightsEach Try.prog (Try.f9.params.toList ++ Rows.fnExactDecodeEditSpec.plain.varTypes Try.prog) (ds ++ gs)).all (· ≤ reachBytes) = true := hsz0
  have hval : ∀ (j : Nat) t v, Try.f9.params[j]? = some t → args[j]? = some v → Value.okWide Try.prog W .any base t v := hval0
  have hW' := hW
  obtain ⟨p, q, hA0, hV, rfl, hfz, hnd⟩ := hW
  have hA : DataW.TrodAll enc Try.prog W 0 (fun _ => true) true Try.f9.params.toList args.toList ds p := hA0
  rw [Try.params9] at hA hval hsz
  obtain ⟨v0, vs0, d0, ds0, p0, q0, hargs, rfl, rfl, h0, r0⟩ := trodAll_cons hA
  obtain ⟨rfl, rfl, rfl⟩ := trodAll_nil r0
  obtain rfl : args = #[v0] := by cases args; simp_all
  obtain ⟨rfl, rfl⟩ := trodVars_none hV
  obtain ⟨a0, rfl, rfl, rfl, y0⟩ := open_string Try.underlying9 (hval 0 9 v0 rfl rfl) h0
  have w0 : a0.size ≤ 140737488351232 := by
    have z := sized_string hsz (j := 0) (t := 9) rfl rfl
    rw [Array.length_toList] at z
    exact z
  clear hA0 hval0 hsz0 hsz
  refine (P.laws_FnExactDecodeEdit.walk Pure.FnExactDecodeEdit a0 W w0).mono fun e W' ⟨he, bel⟩ => ?_
  subst he
  exact ⟨_, rfl, _, _, _, [], _, [], hW', trodAll_mk1 (shut_bool Try.underlying4 _), (trodAll_cons_mk (shut_string Try.underlying9 y0) trodAll_mk0), rfl, bel.frame _, fun h => by cases h⟩
theorem over : Rows.fnExactDecodeEditRow.holds Try.pinned (OpenSpec.ofChange Rows.fnExactDecodeEditSpec) :=
  OpenClaim.holds_of_wide 9 Try.f9 rfl rfl rfl rfl rfl rfl rfl ⟨rfl, rfl, rfl, rfl, rfl⟩ rfl rfl rfl rfl rfl (by kernel_rfl) Try.func9 (by kernel_rfl)
    (of_decide_eq_true (by kernel_rfl)) (by unfold Func.isWrapper; first | (rw [if_pos (by decide +kernel)]; kernel_rfl) | (rw [if_neg (by decide +kernel)]; exact ⟨rfl, rfl⟩))
    (fun os started H enc _ => lifted os started H enc)
theorem proved : Rows.FnExactDecodeEditSaid := over
end Go.Proofs.Ytjneloehdcecnaa.fnExactDecodeEdit
namespace Go.Proofs.Ytjneloehdcecnaa
/-- The row, under a short name, for the claim. -/
theorem fnExactDecodeEdit_holds : Rows.FnExactDecodeEditSaid := fnExactDecodeEdit.proved
end Go.Proofs.Ytjneloehdcecnaa
end

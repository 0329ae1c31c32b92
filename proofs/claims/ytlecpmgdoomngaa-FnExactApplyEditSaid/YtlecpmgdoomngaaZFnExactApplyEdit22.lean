/- Texts of the claim FnExactApplyEdit, part 22 of 47, joined: MBase. No condition beyond those that stand at each. -/
import Derived.Test.YtlecpmgdoomngaaZFnExactApplyEdit21
import Derived.Laws.Strings
section
namespace Go.Proofs.Ytlecpmgdoomngaa.M
open Go.RowKit Go.Proofs.YtlecpmgdoomngaaW.PrintWords Go.Proofs.YtlecpmgdoomngaaW.PrintLast Go.Proofs.YtlecpmgdoomngaaW.PrintMore
set_option linter.unusedVariables false
theorem wrap_ok {x : Int} (h0 : -9223372036854775808 ≤ x) (h1 : x ≤ 9223372036854775807) : wrap64 x = x := by unfold wrap64; omega
theorem wrap_succ {i : Nat} (h : i < 9223372036854775807) : wrap64 ((i : Int) + 1) = ((i + 1 : Nat) : Int) := by rw [wrap_ok] <;> omega
theorem getD_at {α : Type} (l : List α) (i : Nat) (d : α) (h : i < l.length) : l.getD i d = l[i] := by
 rw [List.getD_eq_getElem?_getD, List.getElem?_eq_getElem h]
 rfl
theorem drop_at {α : Type} (l : List α) (i : Nat) (h : i < l.length) : l.drop i = l[i] :: l.drop (i + 1) := List.drop_eq_getElem_cons h
theorem take_at {α : Type} (l : List α) (i : Nat) (h : i < l.length) : l.take (i + 1) = l.take i ++ [l[i]] := List.take_succ_eq_append_getElem h
def lss (a b : ByteArray) : Bool := Op.bytesLess a.toList b.toList
theorem toList_size (a : ByteArray) : a.toList.length = a.size := by rw [ByteArray.toList_eq]; simp
theorem bt_toList (a : ByteArray) (i : Nat) (h : i < a.toList.length) : bt a (i : Int) = ((a.toList[i]).toNat : Int) := by
 have hs : i < a.size := by rw [← toList_size]; exact h
 unfold bt
 rw [dif_pos (by simpa using hs)]
 simp only [Int.toNat_natCast, ByteArray.toList_eq]
 rfl
theorem toList_inj {a b : ByteArray} (h : a.toList = b.toList) : a = b := by
 rw [ByteArray.toList_eq, ByteArray.toList_eq] at h
 apply ByteArray.ext
 exact Array.toList_inj.1 h
theorem less_lex (x : List UInt8) : ∀ y, Op.bytesLess x y = decide (x < y) := by
 induction x with
 | nil => intro y; cases y <;> simp [Op.bytesLess]
 | cons a x ih =>
  intro y
  cases y with
  | nil => simp [Op.bytesLess]
  | cons b y =>
   have e : Op.bytesLess (a :: x) (b :: y) = (decide (a < b) || (a == b && Op.bytesLess x y)) := rfl
   rw [e, ih y]
   simp only [List.cons_lt_cons_iff]
   by_cases h1 : a < b <;> by_cases h2 : a = b <;> by_cases h3 : x < y <;> simp [h1, h2, h3]
theorem lss_lt (a b : ByteArray) : lss a b = decide (a.toList < b.toList) := less_lex _ _
theorem lss_irrefl (a : ByteArray) : lss a a = false := by rw [lss_lt]; exact decide_eq_false (List.lt_irrefl _)
theorem lss_trans {a b c : ByteArray} (h1 : lss a b = true) (h2 : lss b c = true) : lss a c = true := by
 rw [lss_lt] at *
 exact decide_eq_true (List.lt_trans (of_decide_eq_true h1) (of_decide_eq_true h2))
theorem lss_asymm {a b : ByteArray} (h1 : lss a b = true) : lss b a = false := by
 cases h : lss b a with
 | false => rfl
 | true => have := lss_trans h1 h; rw [lss_irrefl] at this; cases this
theorem lss_total {a b : ByteArray} (h1 : lss a b = false) (h2 : lss b a = false) : a = b := by
 rw [lss_lt] at *
 have h1 := of_decide_eq_false h1
 have h2 := of_decide_eq_false h2
 exact toList_inj (List.le_antisymm (List.not_lt.1 h2) (List.not_lt.1 h1))
theorem le_less (a b : ByteArray) : (Op.bytesLess a.toList b.toList || a.toList == b.toList) = !Op.bytesLess b.toList a.toList := by
 have h1 : Op.bytesLess a.toList b.toList = lss a b := rfl
 have h2 : Op.bytesLess b.toList a.toList = lss b a := rfl
 rw [h1, h2]
 by_cases e : a.toList = b.toList
 ·have := toList_inj e
  subst this
  rw [lss_irrefl]
  simp
 ·have hne : (a.toList == b.toList) = false := beq_eq_false_iff_ne.2 e
  rw [hne, Bool.or_false]
  cases c : lss a b with
  | true => rw [lss_asymm c]; rfl
  | false =>
   cases d : lss b a with
   | true => rfl
   | false => exact absurd (congrArg ByteArray.toList (lss_total c d)) e
end Go.Proofs.Ytlecpmgdoomngaa.M
end

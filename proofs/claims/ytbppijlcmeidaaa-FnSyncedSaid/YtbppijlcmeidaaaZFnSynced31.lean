/- Texts of the claim FnSynced, part 31 of 34, joined: Pspecl1SpoilFS. No condition beyond those that stand at each. -/
import Derived.Test.YtbppijlcmeidaaaZFnSynced24
import Derived.Test.YtbppijlcmeidaaaZFnSynced29
import Derived.Test.YtbppijlcmeidaaaZFnSynced30
import Derived.Test.YtbppijlcmeidaaaZFnSynced26
import Derived.Test.YtbppijlcmeidaaaZFnSynced27
section
-- Written by a changed copy of the print program, one module a function. Not trusted: Lean checks it.
namespace Go.Proofs.Ytbppijlcmeidaaa.P
open Go.RowKit Go.Proofs.YtbppijlcmeidaaaW.PrintWords Go.Proofs.YtbppijlcmeidaaaW.PrintLast Go.Proofs.YtbppijlcmeidaaaW.PrintMore
attribute [local go_sem] max2_int min2_int max_two min_two max_three min_three max_four min_four   -- for this text's walks alone
set_option linter.unusedVariables false
set_option linter.unusedSimpArgs false

/-! ### spec_l1SpoilFS: function 81 -/
mutual
def spec_l1SpoilFS.j0 : Nat → Int → Int → List (S52) → List (S52) → Int → Int → Option ((List (S52)) × Int × Int)
 | 0, _, _, _, _, _, _ => none
 | k + 1, x7, x8, x9, x601000, x601001, x601002 => if x7 = 1 then (spec_l1SpoilFS.j1 k x7 x8 x9 x601000 (wrap64 (1048576 + x8)) x601002) else (spec_l1SpoilFS.j1 k x7 x8 x9 x601000 x601001 x601002)
def spec_l1SpoilFS.j1 : Nat → Int → Int → List (S52) → List (S52) → Int → Int → Option ((List (S52)) × Int × Int)
 | 0, _, _, _, _, _, _ => none
 | k + 1, x7, x8, x9, x601000, x601001, x601002 => if x7 = 2 then (spec_l1SpoilFS.j2 k x7 x8 x9 x601000 x601001 (-2)) else (spec_l1SpoilFS.j2 k x7 x8 x9 x601000 x601001 x601002)
def spec_l1SpoilFS.j2 : Nat → Int → Int → List (S52) → List (S52) → Int → Int → Option ((List (S52)) × Int × Int)
 | 0, _, _, _, _, _, _ => none
 | k + 1, x7, x8, x9, x601000, x601001, x601002 => if x7 = 3 then (if x9.length < 3518437208883 then (spec_l1SpoilFS.j3 k x7 x8 (x9 ++ [(⟨(⟨#[97]⟩ : ByteArray), (⟨#[]⟩ : ByteArray), 0⟩ : S52)]) x601000 x601001 x601002) else (none)) else (spec_l1SpoilFS.j3 k x7 x8 x9 x601000 x601001 x601002)
def spec_l1SpoilFS.j3 : Nat → Int → Int → List (S52) → List (S52) → Int → Int → Option ((List (S52)) × Int × Int)
 | 0, _, _, _, _, _, _ => none
 | k + 1, x7, x8, x9, x601000, x601001, x601002 => if x7 = 4 then (spec_l1SpoilFS.j4 k x7 x8 x9 (decide ((x9.length : Int) > 0)) x601000 x601001 x601002) else (spec_l1SpoilFS.j4 k x7 x8 x9 false x601000 x601001 x601002)
def spec_l1SpoilFS.j4 : Nat → Int → Int → List (S52) → Bool → List (S52) → Int → Int → Option ((List (S52)) × Int × Int)
 | 0, _, _, _, _, _, _, _ => none
 | k + 1, x7, x8, x9, x49, x601000, x601001, x601002 => if x49 = true then (if 0 < (x9.length : Int) then (spec_l1SpoilFS.j5 k x7 x8 (x9.set (0 : Int).toNat (⟨(rd_T52 x9 0).f0, (rd_T52 x9 0).f1, wrap64 ((((rd_T52 x9 0).f1).size : Int) + x8)⟩ : S52)) x601000 x601001 x601002) else (none)) else (spec_l1SpoilFS.j5 k x7 x8 x9 x601000 x601001 x601002)
def spec_l1SpoilFS.j5 : Nat → Int → Int → List (S52) → List (S52) → Int → Int → Option ((List (S52)) × Int × Int)
 | 0, _, _, _, _, _, _ => none
 | k + 1, x7, x8, x9, x601000, x601001, x601002 => if x7 = 5 then (spec_l1SpoilFS.j6 k x7 x8 x9 (decide ((x9.length : Int) > 0)) x601000 x601001 x601002) else (spec_l1SpoilFS.j6 k x7 x8 x9 false x601000 x601001 x601002)
def spec_l1SpoilFS.j6 : Nat → Int → Int → List (S52) → Bool → List (S52) → Int → Int → Option ((List (S52)) × Int × Int)
 | 0, _, _, _, _, _, _, _ => none
 | k + 1, x7, x8, x9, x74, x601000, x601001, x601002 => if x74 = true then (if 0 < (x9.length : Int) then (spec_l1SpoilFS.j7 k x7 x8 (x9.set (0 : Int).toNat (⟨(rd_T52 x9 0).f0, (rd_T52 x9 0).f1, (-1)⟩ : S52)) x601000 x601001 x601002) else (none)) else (spec_l1SpoilFS.j7 k x7 x8 x9 x601000 x601001 x601002)
def spec_l1SpoilFS.j7 : Nat → Int → Int → List (S52) → List (S52) → Int → Int → Option ((List (S52)) × Int × Int)
 | 0, _, _, _, _, _, _ => none
 | k + 1, x7, x8, x9, x601000, x601001, x601002 => if x7 = 6 then ((some (([(⟨(⟨#[]⟩ : ByteArray), (⟨#[]⟩ : ByteArray), 0⟩ : S52)] : List (S52)) : List (S52))).bind fun y619 => (if y619.length + x9.length < 3518437208883 then (spec_l1SpoilFS.j8 k x7 x8 (y619 ++ x9) x601000 x601001 x601002) else (none))) else (spec_l1SpoilFS.j8 k x7 x8 x9 x601000 x601001 x601002)
def spec_l1SpoilFS.j8 : Nat → Int → Int → List (S52) → List (S52) → Int → Int → Option ((List (S52)) × Int × Int)
 | 0, _, _, _, _, _, _ => none
 | k + 1, x7, x8, x9, x601000, x601001, x601002 => if x7 = 7 then ((spec_l1Long.f (wrap64 (119 + x8)) (⟨#[122]⟩ : ByteArray)).bind fun t625 => (if 1 + t625.size ≤ 9223372036854775807 then (if x9.length < 3518437208883 then (spec_l1SpoilFS.j9 k x7 x8 (x9 ++ [(⟨(⟨#[122]⟩ : ByteArray) ++ t625, (⟨#[]⟩ : ByteArray), 0⟩ : S52)]) x601000 x601001 x601002) else (none)) else (none))) else (spec_l1SpoilFS.j9 k x7 x8 x9 x601000 x601001 x601002)
def spec_l1SpoilFS.j9 : Nat → Int → Int → List (S52) → List (S52) → Int → Int → Option ((List (S52)) × Int × Int)
 | 0, _, _, _, _, _, _ => none
 | k + 1, x7, x8, x9, x601000, x601001, x601002 => if x7 = 8 then (spec_l1SpoilFS.j10 k x7 x8 x9 true x601000 x601001 x601002) else (spec_l1SpoilFS.j10 k x7 x8 x9 (x7 == 9) x601000 x601001 x601002)
def spec_l1SpoilFS.j10 : Nat → Int → Int → List (S52) → Bool → List (S52) → Int → Int → Option ((List (S52)) × Int × Int)
 | 0, _, _, _, _, _, _, _ => none
 | k + 1, x7, x8, x9, x107, x601000, x601001, x601002 => if x107 = true then (spec_l1SpoilFS.l0 k x7 x8 (([] : List (S52))) 0 x601000 x601001 x601002) else (if x7 = 10 then ((spec_l1Long.f (wrap64 (1048566 + (wrap64 (x8 * 11)))) (⟨#[98]⟩ : ByteArray)).bind fun t640 => (some ((([(⟨(⟨#[98, 105, 103]⟩ : ByteArray), t640, 0⟩ : S52)] : List (S52))), 1048576, x601002))) else (some (x9, x601001, x601002)))
def spec_l1SpoilFS.l0 : Nat → Int → Int → List (S52) → Int → List (S52) → Int → Int → Option ((List (S52)) × Int × Int)
 | 0, _, _, _, _, _, _, _ => none
 | k + 1, x7, x8, x9, x10, x601000, x601001, x601002 => if x10 < (wrap64 (200 + (wrap64 (x8 * (wrap64 (9 - x7)))))) then ((spec_l1Pad.f x10).bind fun t632 => (if 1 + t632.size ≤ 9223372036854775807 then (if x9.length < 3518437208883 then (spec_l1SpoilFS.l0 k x7 x8 (x9 ++ [(⟨(⟨#[102]⟩ : ByteArray) ++ t632, (⟨#[]⟩ : ByteArray), 0⟩ : S52)]) (wrap64 (x10 + 1)) x601000 x601001 x601002) else (none)) else (none))) else (if x7 = 10 then ((spec_l1Long.f (wrap64 (1048566 + (wrap64 (x8 * 11)))) (⟨#[98]⟩ : ByteArray)).bind fun t636 => (some ((([(⟨(⟨#[98, 105, 103]⟩ : ByteArray), t636, 0⟩ : S52)] : List (S52))), 1048576, x601002))) else (some (x9, x601001, x601002)))
end
def spec_l1SpoilFS.f (k : Nat) (l0 : List Int) (a1 : Int) (l2_0 : List (S52)) (a2_1 : Int) (a2_2 : Int) : Option ((List (S52)) × Int × Int) := (spec_l1Take.f k l0 a1 11).bind fun bt602 => ((spec_l1Take.f k l0 bt602.2 2).bind fun bt604 => ((spec_l1Without.f k l2_0 (⟨#[]⟩ : ByteArray)).bind fun t606 => (if bt602.1 = 0 then (spec_l1SpoilFS.j0 k bt602.1 bt604.1 t606 l2_0 (-1) a2_2) else (spec_l1SpoilFS.j0 k bt602.1 bt604.1 t606 l2_0 a2_1 a2_2))))
theorem spec_l1SpoilFS.mono_l : ∀ k, (∀ y0 y1 y2 y3 y4 y5, LeO (spec_l1SpoilFS.j0 k y0 y1 y2 y3 y4 y5) (spec_l1SpoilFS.j0 (k + 1) y0 y1 y2 y3 y4 y5)) ∧ (∀ y0 y1 y2 y3 y4 y5, LeO (spec_l1SpoilFS.j1 k y0 y1 y2 y3 y4 y5) (spec_l1SpoilFS.j1 (k + 1) y0 y1 y2 y3 y4 y5)) ∧ (∀ y0 y1 y2 y3 y4 y5, LeO (spec_l1SpoilFS.j2 k y0 y1 y2 y3 y4 y5) (spec_l1SpoilFS.j2 (k + 1) y0 y1 y2 y3 y4 y5)) ∧ (∀ y0 y1 y2 y3 y4 y5, LeO (spec_l1SpoilFS.j3 k y0 y1 y2 y3 y4 y5) (spec_l1SpoilFS.j3 (k + 1) y0 y1 y2 y3 y4 y5)) ∧ (∀ y0 y1 y2 y3 y4 y5 y6, LeO (spec_l1SpoilFS.j4 k y0 y1 y2 y3 y4 y5 y6) (spec_l1SpoilFS.j4 (k + 1) y0 y1 y2 y3 y4 y5 y6)) ∧ (∀ y0 y1 y2 y3 y4 y5, LeO (spec_l1SpoilFS.j5 k y0 y1 y2 y3 y4 y5) (spec_l1SpoilFS.j5 (k + 1) y0 y1 y2 y3 y4 y5)) ∧ (∀ y0 y1 y2 y3 y4 y5 y6, LeO (spec_l1SpoilFS.j6 k y0 y1 y2 y3 y4 y5 y6) (spec_l1SpoilFS.j6 (k + 1) y0 y1 y2 y3 y4 y5 y6)) ∧ (∀ y0 y1 y2 y3 y4 y5, LeO (spec_l1SpoilFS.j7 k y0 y1 y2 y3 y4 y5) (spec_l1SpoilFS.j7 (k + 1) y0 y1 y2 y3 y4 y5)) ∧ (∀ y0 y1 y2 y3 y4 y5, LeO (spec_l1SpoilFS.j8 k y0 y1 y2 y3 y4 y5) (spec_l1SpoilFS.j8 (k + 1) y0 y1 y2 y3 y4 y5)) ∧ (∀ y0 y1 y2 y3 y4 y5, LeO (spec_l1SpoilFS.j9 k y0 y1 y2 y3 y4 y5) (spec_l1SpoilFS.j9 (k + 1) y0 y1 y2 y3 y4 y5)) ∧ (∀ y0 y1 y2 y3 y4 y5 y6, LeO (spec_l1SpoilFS.j10 k y0 y1 y2 y3 y4 y5 y6) (spec_l1SpoilFS.j10 (k + 1) y0 y1 y2 y3 y4 y5 y6)) ∧ (∀ y0 y1 y2 y3 y4 y5 y6, LeO (spec_l1SpoilFS.l0 k y0 y1 y2 y3 y4 y5 y6) (spec_l1SpoilFS.l0 (k + 1) y0 y1 y2 y3 y4 y5 y6))
 | 0 => ⟨fun _ _ _ _ _ _ r h => by simp [spec_l1SpoilFS.j0] at h, fun _ _ _ _ _ _ r h => by simp [spec_l1SpoilFS.j1] at h, fun _ _ _ _ _ _ r h => by simp [spec_l1SpoilFS.j2] at h, fun _ _ _ _ _ _ r h => by simp [spec_l1SpoilFS.j3] at h, fun _ _ _ _ _ _ _ r h => by simp [spec_l1SpoilFS.j4] at h, fun _ _ _ _ _ _ r h => by simp [spec_l1SpoilFS.j5] at h, fun _ _ _ _ _ _ _ r h => by simp [spec_l1SpoilFS.j6] at h, fun _ _ _ _ _ _ r h => by simp [spec_l1SpoilFS.j7] at h, fun _ _ _ _ _ _ r h => by simp [spec_l1SpoilFS.j8] at h, fun _ _ _ _ _ _ r h => by simp [spec_l1SpoilFS.j9] at h, fun _ _ _ _ _ _ _ r h => by simp [spec_l1SpoilFS.j10] at h, fun _ _ _ _ _ _ _ r h => by simp [spec_l1SpoilFS.l0] at h⟩
 | k + 1 => by
  obtain ⟨ih0, ih1, ih2, ih3, ih4, ih5, ih6, ih7, ih8, ih9, ih10, ih11⟩ := spec_l1SpoilFS.mono_l k
  refine ⟨?_, ?_, ?_, ?_, ?_, ?_, ?_, ?_, ?_, ?_, ?_, ?_⟩
  ·intro y0 y1 y2 y3 y4 y5
   unfold spec_l1SpoilFS.j0
   repeat' first
   | (with_reducible exact ih0 _ _ _ _ _ _)
   | (with_reducible exact ih1 _ _ _ _ _ _)
   | (with_reducible exact ih2 _ _ _ _ _ _)
   | (with_reducible exact ih3 _ _ _ _ _ _)
   | (with_reducible exact ih4 _ _ _ _ _ _ _)
   | (with_reducible exact ih5 _ _ _ _ _ _)
   | (with_reducible exact ih6 _ _ _ _ _ _ _)
   | (with_reducible exact ih7 _ _ _ _ _ _)
   | (with_reducible exact ih8 _ _ _ _ _ _)
   | (with_reducible exact ih9 _ _ _ _ _ _)
   | (with_reducible exact ih10 _ _ _ _ _ _ _)
   | (with_reducible exact ih11 _ _ _ _ _ _ _)
   | (with_reducible exact spec_l1Take.mono _ _ _ _)
   | (with_reducible exact spec_l1Without.mono _ _ _)
   | (with_reducible exact LeO.refl _)
   | (with_reducible exact LeO.none _)
   | (with_reducible refine LeO.ite ?_ ?_)
   | (with_reducible refine LeO.bind ?_ (fun _ => ?_))
   | exact ih0 _ _ _ _ _ _
   | exact ih1 _ _ _ _ _ _
   | exact ih2 _ _ _ _ _ _
   | exact ih3 _ _ _ _ _ _
   | exact ih4 _ _ _ _ _ _ _
   | exact ih5 _ _ _ _ _ _
   | exact ih6 _ _ _ _ _ _ _
   | exact ih7 _ _ _ _ _ _
   | exact ih8 _ _ _ _ _ _
   | exact ih9 _ _ _ _ _ _
   | exact ih10 _ _ _ _ _ _ _
   | exact ih11 _ _ _ _ _ _ _
   | exact spec_l1Take.mono _ _ _ _
   | exact spec_l1Without.mono _ _ _
   | exact LeO.none _
   | refine LeO.ite ?_ ?_
   | refine LeO.bind ?_ (fun _ => ?_)
  ·intro y0 y1 y2 y3 y4 y5
   unfold spec_l1SpoilFS.j1
   repeat' first
   | (with_reducible exact ih0 _ _ _ _ _ _)
   | (with_reducible exact ih1 _ _ _ _ _ _)
   | (with_reducible exact ih2 _ _ _ _ _ _)
   | (with_reducible exact ih3 _ _ _ _ _ _)
   | (with_reducible exact ih4 _ _ _ _ _ _ _)
   | (with_reducible exact ih5 _ _ _ _ _ _)
   | (with_reducible exact ih6 _ _ _ _ _ _ _)
   | (with_reducible exact ih7 _ _ _ _ _ _)
   | (with_reducible exact ih8 _ _ _ _ _ _)
   | (with_reducible exact ih9 _ _ _ _ _ _)
   | (with_reducible exact ih10 _ _ _ _ _ _ _)
   | (with_reducible exact ih11 _ _ _ _ _ _ _)
   | (with_reducible exact spec_l1Take.mono _ _ _ _)
   | (with_reducible exact spec_l1Without.mono _ _ _)
   | (with_reducible exact LeO.refl _)
   | (with_reducible exact LeO.none _)
   | (with_reducible refine LeO.ite ?_ ?_)
   | (with_reducible refine LeO.bind ?_ (fun _ => ?_))
   | exact ih0 _ _ _ _ _ _
   | exact ih1 _ _ _ _ _ _
   | exact ih2 _ _ _ _ _ _
   | exact ih3 _ _ _ _ _ _
   | exact ih4 _ _ _ _ _ _ _
   | exact ih5 _ _ _ _ _ _
   | exact ih6 _ _ _ _ _ _ _
   | exact ih7 _ _ _ _ _ _
   | exact ih8 _ _ _ _ _ _
   | exact ih9 _ _ _ _ _ _
   | exact ih10 _ _ _ _ _ _ _
   | exact ih11 _ _ _ _ _ _ _
   | exact spec_l1Take.mono _ _ _ _
   | exact spec_l1Without.mono _ _ _
   | exact LeO.none _
   | refine LeO.ite ?_ ?_
   | refine LeO.bind ?_ (fun _ => ?_)
  ·intro y0 y1 y2 y3 y4 y5
   unfold spec_l1SpoilFS.j2
   repeat' first
   | (with_reducible exact ih0 _ _ _ _ _ _)
   | (with_reducible exact ih1 _ _ _ _ _ _)
   | (with_reducible exact ih2 _ _ _ _ _ _)
   | (with_reducible exact ih3 _ _ _ _ _ _)
   | (with_reducible exact ih4 _ _ _ _ _ _ _)
   | (with_reducible exact ih5 _ _ _ _ _ _)
   | (with_reducible exact ih6 _ _ _ _ _ _ _)
   | (with_reducible exact ih7 _ _ _ _ _ _)
   | (with_reducible exact ih8 _ _ _ _ _ _)
   | (with_reducible exact ih9 _ _ _ _ _ _)
   | (with_reducible exact ih10 _ _ _ _ _ _ _)
   | (with_reducible exact ih11 _ _ _ _ _ _ _)
   | (with_reducible exact spec_l1Take.mono _ _ _ _)
   | (with_reducible exact spec_l1Without.mono _ _ _)
   | (with_reducible exact LeO.refl _)
   | (with_reducible exact LeO.none _)
   | (with_reducible refine LeO.ite ?_ ?_)
   | (with_reducible refine LeO.bind ?_ (fun _ => ?_))
   | exact ih0 _ _ _ _ _ _
   | exact ih1 _ _ _ _ _ _
   | exact ih2 _ _ _ _ _ _
   | exact ih3 _ _ _ _ _ _
   | exact ih4 _ _ _ _ _ _ _
   | exact ih5 _ _ _ _ _ _
   | exact ih6 _ _ _ _ _ _ _
   | exact ih7 _ _ _ _ _ _
   | exact ih8 _ _ _ _ _ _
   | exact ih9 _ _ _ _ _ _
   | exact ih10 _ _ _ _ _ _ _
   | exact ih11 _ _ _ _ _ _ _
   | exact spec_l1Take.mono _ _ _ _
   | exact spec_l1Without.mono _ _ _
   | exact LeO.none _
   | refine LeO.ite ?_ ?_
   | refine LeO.bind ?_ (fun _ => ?_)
  ·intro y0 y1 y2 y3 y4 y5
   unfold spec_l1SpoilFS.j3
   repeat' first
   | (with_reducible exact ih0 _ _ _ _ _ _)
   | (with_reducible exact ih1 _ _ _ _ _ _)
   | (with_reducible exact ih2 _ _ _ _ _ _)
   | (with_reducible exact ih3 _ _ _ _ _ _)
   | (with_reducible exact ih4 _ _ _ _ _ _ _)
   | (with_reducible exact ih5 _ _ _ _ _ _)
   | (with_reducible exact ih6 _ _ _ _ _ _ _)
   | (with_reducible exact ih7 _ _ _ _ _ _)
   | (with_reducible exact ih8 _ _ _ _ _ _)
   | (with_reducible exact ih9 _ _ _ _ _ _)
   | (with_reducible exact ih10 _ _ _ _ _ _ _)
   | (with_reducible exact ih11 _ _ _ _ _ _ _)
   | (with_reducible exact spec_l1Take.mono _ _ _ _)
   | (with_reducible exact spec_l1Without.mono _ _ _)
   | (with_reducible exact LeO.refl _)
   | (with_reducible exact LeO.none _)
   | (with_reducible refine LeO.ite ?_ ?_)
   | (with_reducible refine LeO.bind ?_ (fun _ => ?_))
   | exact ih0 _ _ _ _ _ _
   | exact ih1 _ _ _ _ _ _
   | exact ih2 _ _ _ _ _ _
   | exact ih3 _ _ _ _ _ _
   | exact ih4 _ _ _ _ _ _ _
   | exact ih5 _ _ _ _ _ _
   | exact ih6 _ _ _ _ _ _ _
   | exact ih7 _ _ _ _ _ _
   | exact ih8 _ _ _ _ _ _
   | exact ih9 _ _ _ _ _ _
   | exact ih10 _ _ _ _ _ _ _
   | exact ih11 _ _ _ _ _ _ _
   | exact spec_l1Take.mono _ _ _ _
   | exact spec_l1Without.mono _ _ _
   | exact LeO.none _
   | refine LeO.ite ?_ ?_
   | refine LeO.bind ?_ (fun _ => ?_)
  ·intro y0 y1 y2 y3 y4 y5 y6
   unfold spec_l1SpoilFS.j4
   repeat' first
   | (with_reducible exact ih0 _ _ _ _ _ _)
   | (with_reducible exact ih1 _ _ _ _ _ _)
   | (with_reducible exact ih2 _ _ _ _ _ _)
   | (with_reducible exact ih3 _ _ _ _ _ _)
   | (with_reducible exact ih4 _ _ _ _ _ _ _)
   | (with_reducible exact ih5 _ _ _ _ _ _)
   | (with_reducible exact ih6 _ _ _ _ _ _ _)
   | (with_reducible exact ih7 _ _ _ _ _ _)
   | (with_reducible exact ih8 _ _ _ _ _ _)
   | (with_reducible exact ih9 _ _ _ _ _ _)
   | (with_reducible exact ih10 _ _ _ _ _ _ _)
   | (with_reducible exact ih11 _ _ _ _ _ _ _)
   | (with_reducible exact spec_l1Take.mono _ _ _ _)
   | (with_reducible exact spec_l1Without.mono _ _ _)
   | (with_reducible exact LeO.refl _)
   | (with_reducible exact LeO.none _)
   | (with_reducible refine LeO.ite ?_ ?_)
   | (with_reducible refine LeO.bind ?_ (fun _ => ?_))
   | exact ih0 _ _ _ _ _ _
   | exact ih1 _ _ _ _ _ _
   | exact ih2 _ _ _ _ _ _
   | exact ih3 _ _ _ _ _ _
   | exact ih4 _ _ _ _ _ _ _
   | exact ih5 _ _ _ _ _ _
   | exact ih6 _ _ _ _ _ _ _
   | exact ih7 _ _ _ _ _ _
   | exact ih8 _ _ _ _ _ _
   | exact ih9 _ _ _ _ _ _
   | exact ih10 _ _ _ _ _ _ _
   | exact ih11 _ _ _ _ _ _ _
   | exact spec_l1Take.mono _ _ _ _
   | exact spec_l1Without.mono _ _ _
   | exact LeO.none _
   | refine LeO.ite ?_ ?_
   | refine LeO.bind ?_ (fun _ => ?_)
  ·intro y0 y1 y2 y3 y4 y5
   unfold spec_l1SpoilFS.j5
   repeat' first
   | (with_reducible exact ih0 _ _ _ _ _ _)
   | (with_reducible exact ih1 _ _ _ _ _ _)
   | (with_reducible exact ih2 _ _ _ _ _ _)
   | (with_reducible exact ih3 _ _ _ _ _ _)
   | (with_reducible exact ih4 _ _ _ _ _ _ _)
   | (with_reducible exact ih5 _ _ _ _ _ _)
   | (with_reducible exact ih6 _ _ _ _ _ _ _)
   | (with_reducible exact ih7 _ _ _ _ _ _)
   | (with_reducible exact ih8 _ _ _ _ _ _)
   | (with_reducible exact ih9 _ _ _ _ _ _)
   | (with_reducible exact ih10 _ _ _ _ _ _ _)
   | (with_reducible exact ih11 _ _ _ _ _ _ _)
   | (with_reducible exact spec_l1Take.mono _ _ _ _)
   | (with_reducible exact spec_l1Without.mono _ _ _)
   | (with_reducible exact LeO.refl _)
   | (with_reducible exact LeO.none _)
   | (with_reducible refine LeO.ite ?_ ?_)
   | (with_reducible refine LeO.bind ?_ (fun _ => ?_))
   | exact ih0 _ _ _ _ _ _
   | exact ih1 _ _ _ _ _ _
   | exact ih2 _ _ _ _ _ _
   | exact ih3 _ _ _ _ _ _
   | exact ih4 _ _ _ _ _ _ _
   | exact ih5 _ _ _ _ _ _
   | exact ih6 _ _ _ _ _ _ _
   | exact ih7 _ _ _ _ _ _
   | exact ih8 _ _ _ _ _ _
   | exact ih9 _ _ _ _ _ _
   | exact ih10 _ _ _ _ _ _ _
   | exact ih11 _ _ _ _ _ _ _
   | exact spec_l1Take.mono _ _ _ _
   | exact spec_l1Without.mono _ _ _
   | exact LeO.none _
   | refine LeO.ite ?_ ?_
   | refine LeO.bind ?_ (fun _ => ?_)
  ·intro y0 y1 y2 y3 y4 y5 y6
   unfold spec_l1SpoilFS.j6
   repeat' first
   | (with_reducible exact ih0 _ _ _ _ _ _)
   | (with_reducible exact ih1 _ _ _ _ _ _)
   | (with_reducible exact ih2 _ _ _ _ _ _)
   | (with_reducible exact ih3 _ _ _ _ _ _)
   | (with_reducible exact ih4 _ _ _ _ _ _ _)
   | (with_reducible exact ih5 _ _ _ _ _ _)
   | (with_reducible exact ih6 _ _ _ _ _ _ _)
   | (with_reducible exact ih7 _ _ _ _ _ _)
   | (with_reducible exact ih8 _ _ _ _ _ _)
   | (with_reducible exact ih9 _ _ _ _ _ _)
   | (with_reducible exact ih10 _ _ _ _ _ _ _)
   | (with_reducible exact ih11 _ _ _ _ _ _ _)
   | (with_reducible exact spec_l1Take.mono _ _ _ _)
   | (with_reducible exact spec_l1Without.mono _ _ _)
   | (with_reducible exact LeO.refl _)
   | (with_reducible exact LeO.none _)
   | (with_reducible refine LeO.ite ?_ ?_)
   | (with_reducible refine LeO.bind ?_ (fun _ => ?_))
   | exact ih0 _ _ _ _ _ _
   | exact ih1 _ _ _ _ _ _
   | exact ih2 _ _ _ _ _ _
   | exact ih3 _ _ _ _ _ _
   | exact ih4 _ _ _ _ _ _ _
   | exact ih5 _ _ _ _ _ _
   | exact ih6 _ _ _ _ _ _ _
   | exact ih7 _ _ _ _ _ _
   | exact ih8 _ _ _ _ _ _
   | exact ih9 _ _ _ _ _ _
   | exact ih10 _ _ _ _ _ _ _
   | exact ih11 _ _ _ _ _ _ _
   | exact spec_l1Take.mono _ _ _ _
   | exact spec_l1Without.mono _ _ _
   | exact LeO.none _
   | refine LeO.ite ?_ ?_
   | refine LeO.bind ?_ (fun _ => ?_)
  ·intro y0 y1 y2 y3 y4 y5
   unfold spec_l1SpoilFS.j7
   repeat' first
   | (with_reducible exact ih0 _ _ _ _ _ _)
   | (with_reducible exact ih1 _ _ _ _ _ _)
   | (with_reducible exact ih2 _ _ _ _ _ _)
   | (with_reducible exact ih3 _ _ _ _ _ _)
   | (with_reducible exact ih4 _ _ _ _ _ _ _)
   | (with_reducible exact ih5 _ _ _ _ _ _)
   | (with_reducible exact ih6 _ _ _ _ _ _ _)
   | (with_reducible exact ih7 _ _ _ _ _ _)
   | (with_reducible exact ih8 _ _ _ _ _ _)
   | (with_reducible exact ih9 _ _ _ _ _ _)
   | (with_reducible exact ih10 _ _ _ _ _ _ _)
   | (with_reducible exact ih11 _ _ _ _ _ _ _)
   | (with_reducible exact spec_l1Take.mono _ _ _ _)
   | (with_reducible exact spec_l1Without.mono _ _ _)
   | (with_reducible exact LeO.refl _)
   | (with_reducible exact LeO.none _)
   | (with_reducible refine LeO.ite ?_ ?_)
   | (with_reducible refine LeO.bind ?_ (fun _ => ?_))
   | exact ih0 _ _ _ _ _ _
   | exact ih1 _ _ _ _ _ _
   | exact ih2 _ _ _ _ _ _
   | exact ih3 _ _ _ _ _ _
   | exact ih4 _ _ _ _ _ _ _
   | exact ih5 _ _ _ _ _ _
   | exact ih6 _ _ _ _ _ _ _
   | exact ih7 _ _ _ _ _ _
   | exact ih8 _ _ _ _ _ _
   | exact ih9 _ _ _ _ _ _
   | exact ih10 _ _ _ _ _ _ _
   | exact ih11 _ _ _ _ _ _ _
   | exact spec_l1Take.mono _ _ _ _
   | exact spec_l1Without.mono _ _ _
   | exact LeO.none _
   | refine LeO.ite ?_ ?_
   | refine LeO.bind ?_ (fun _ => ?_)
  ·intro y0 y1 y2 y3 y4 y5
   unfold spec_l1SpoilFS.j8
   repeat' first
   | (with_reducible exact ih0 _ _ _ _ _ _)
   | (with_reducible exact ih1 _ _ _ _ _ _)
   | (with_reducible exact ih2 _ _ _ _ _ _)
   | (with_reducible exact ih3 _ _ _ _ _ _)
   | (with_reducible exact ih4 _ _ _ _ _ _ _)
   | (with_reducible exact ih5 _ _ _ _ _ _)
   | (with_reducible exact ih6 _ _ _ _ _ _ _)
   | (with_reducible exact ih7 _ _ _ _ _ _)
   | (with_reducible exact ih8 _ _ _ _ _ _)
   | (with_reducible exact ih9 _ _ _ _ _ _)
   | (with_reducible exact ih10 _ _ _ _ _ _ _)
   | (with_reducible exact ih11 _ _ _ _ _ _ _)
   | (with_reducible exact spec_l1Take.mono _ _ _ _)
   | (with_reducible exact spec_l1Without.mono _ _ _)
   | (with_reducible exact LeO.refl _)
   | (with_reducible exact LeO.none _)
   | (with_reducible refine LeO.ite ?_ ?_)
   | (with_reducible refine LeO.bind ?_ (fun _ => ?_))
   | exact ih0 _ _ _ _ _ _
   | exact ih1 _ _ _ _ _ _
   | exact ih2 _ _ _ _ _ _
   | exact ih3 _ _ _ _ _ _
   | exact ih4 _ _ _ _ _ _ _
   | exact ih5 _ _ _ _ _ _
   | exact ih6 _ _ _ _ _ _ _
   | exact ih7 _ _ _ _ _ _
   | exact ih8 _ _ _ _ _ _
   | exact ih9 _ _ _ _ _ _
   | exact ih10 _ _ _ _ _ _ _
   | exact ih11 _ _ _ _ _ _ _
   | exact spec_l1Take.mono _ _ _ _
   | exact spec_l1Without.mono _ _ _
   | exact LeO.none _
   | refine LeO.ite ?_ ?_
   | refine LeO.bind ?_ (fun _ => ?_)
  ·intro y0 y1 y2 y3 y4 y5
   unfold spec_l1SpoilFS.j9
   repeat' first
   | (with_reducible exact ih0 _ _ _ _ _ _)
   | (with_reducible exact ih1 _ _ _ _ _ _)
   | (with_reducible exact ih2 _ _ _ _ _ _)
   | (with_reducible exact ih3 _ _ _ _ _ _)
   | (with_reducible exact ih4 _ _ _ _ _ _ _)
   | (with_reducible exact ih5 _ _ _ _ _ _)
   | (with_reducible exact ih6 _ _ _ _ _ _ _)
   | (with_reducible exact ih7 _ _ _ _ _ _)
   | (with_reducible exact ih8 _ _ _ _ _ _)
   | (with_reducible exact ih9 _ _ _ _ _ _)
   | (with_reducible exact ih10 _ _ _ _ _ _ _)
   | (with_reducible exact ih11 _ _ _ _ _ _ _)
   | (with_reducible exact spec_l1Take.mono _ _ _ _)
   | (with_reducible exact spec_l1Without.mono _ _ _)
   | (with_reducible exact LeO.refl _)
   | (with_reducible exact LeO.none _)
   | (with_reducible refine LeO.ite ?_ ?_)
   | (with_reducible refine LeO.bind ?_ (fun _ => ?_))
   | exact ih0 _ _ _ _ _ _
   | exact ih1 _ _ _ _ _ _
   | exact ih2 _ _ _ _ _ _
   | exact ih3 _ _ _ _ _ _
   | exact ih4 _ _ _ _ _ _ _
   | exact ih5 _ _ _ _ _ _
   | exact ih6 _ _ _ _ _ _ _
   | exact ih7 _ _ _ _ _ _
   | exact ih8 _ _ _ _ _ _
   | exact ih9 _ _ _ _ _ _
   | exact ih10 _ _ _ _ _ _ _
   | exact ih11 _ _ _ _ _ _ _
   | exact spec_l1Take.mono _ _ _ _
   | exact spec_l1Without.mono _ _ _
   | exact LeO.none _
   | refine LeO.ite ?_ ?_
   | refine LeO.bind ?_ (fun _ => ?_)
  ·intro y0 y1 y2 y3 y4 y5 y6
   unfold spec_l1SpoilFS.j10
   repeat' first
   | (with_reducible exact ih0 _ _ _ _ _ _)
   | (with_reducible exact ih1 _ _ _ _ _ _)
   | (with_reducible exact ih2 _ _ _ _ _ _)
   | (with_reducible exact ih3 _ _ _ _ _ _)
   | (with_reducible exact ih4 _ _ _ _ _ _ _)
   | (with_reducible exact ih5 _ _ _ _ _ _)
   | (with_reducible exact ih6 _ _ _ _ _ _ _)
   | (with_reducible exact ih7 _ _ _ _ _ _)
   | (with_reducible exact ih8 _ _ _ _ _ _)
   | (with_reducible exact ih9 _ _ _ _ _ _)
   | (with_reducible exact ih10 _ _ _ _ _ _ _)
   | (with_reducible exact ih11 _ _ _ _ _ _ _)
   | (with_reducible exact spec_l1Take.mono _ _ _ _)
   | (with_reducible exact spec_l1Without.mono _ _ _)
   | (with_reducible exact LeO.refl _)
   | (with_reducible exact LeO.none _)
   | (with_reducible refine LeO.ite ?_ ?_)
   | (with_reducible refine LeO.bind ?_ (fun _ => ?_))
   | exact ih0 _ _ _ _ _ _
   | exact ih1 _ _ _ _ _ _
   | exact ih2 _ _ _ _ _ _
   | exact ih3 _ _ _ _ _ _
   | exact ih4 _ _ _ _ _ _ _
   | exact ih5 _ _ _ _ _ _
   | exact ih6 _ _ _ _ _ _ _
   | exact ih7 _ _ _ _ _ _
   | exact ih8 _ _ _ _ _ _
   | exact ih9 _ _ _ _ _ _
   | exact ih10 _ _ _ _ _ _ _
   | exact ih11 _ _ _ _ _ _ _
   | exact spec_l1Take.mono _ _ _ _
   | exact spec_l1Without.mono _ _ _
   | exact LeO.none _
   | refine LeO.ite ?_ ?_
   | refine LeO.bind ?_ (fun _ => ?_)
  ·intro y0 y1 y2 y3 y4 y5 y6
   unfold spec_l1SpoilFS.l0
   repeat' first
   | (with_reducible exact ih0 _ _ _ _ _ _)
   | (with_reducible exact ih1 _ _ _ _ _ _)
   | (with_reducible exact ih2 _ _ _ _ _ _)
   | (with_reducible exact ih3 _ _ _ _ _ _)
   | (with_reducible exact ih4 _ _ _ _ _ _ _)
   | (with_reducible exact ih5 _ _ _ _ _ _)
   | (with_reducible exact ih6 _ _ _ _ _ _ _)
   | (with_reducible exact ih7 _ _ _ _ _ _)
   | (with_reducible exact ih8 _ _ _ _ _ _)
   | (with_reducible exact ih9 _ _ _ _ _ _)
   | (with_reducible exact ih10 _ _ _ _ _ _ _)
   | (with_reducible exact ih11 _ _ _ _ _ _ _)
   | (with_reducible exact spec_l1Take.mono _ _ _ _)
   | (with_reducible exact spec_l1Without.mono _ _ _)
   | (with_reducible exact LeO.refl _)
   | (with_reducible exact LeO.none _)
   | (with_reducible refine LeO.ite ?_ ?_)
   | (with_reducible refine LeO.bind ?_ (fun _ => ?_))
   | exact ih0 _ _ _ _ _ _
   | exact ih1 _ _ _ _ _ _
   | exact ih2 _ _ _ _ _ _
   | exact ih3 _ _ _ _ _ _
   | exact ih4 _ _ _ _ _ _ _
   | exact ih5 _ _ _ _ _ _
   | exact ih6 _ _ _ _ _ _ _
   | exact ih7 _ _ _ _ _ _
   | exact ih8 _ _ _ _ _ _
   | exact ih9 _ _ _ _ _ _
   | exact ih10 _ _ _ _ _ _ _
   | exact ih11 _ _ _ _ _ _ _
   | exact spec_l1Take.mono _ _ _ _
   | exact spec_l1Without.mono _ _ _
   | exact LeO.none _
   | refine LeO.ite ?_ ?_
   | refine LeO.bind ?_ (fun _ => ?_)
theorem spec_l1SpoilFS.mono : ∀ a0 a1 a2 a3 a4 k, LeO (spec_l1SpoilFS.f k a0 a1 a2 a3 a4) (spec_l1SpoilFS.f (k + 1) a0 a1 a2 a3 a4) := by
 intro a0 a1 a2 a3 a4 k
 obtain ⟨ih0, ih1, ih2, ih3, ih4, ih5, ih6, ih7, ih8, ih9, ih10, ih11⟩ := spec_l1SpoilFS.mono_l k
 unfold spec_l1SpoilFS.f
 repeat' first
   | (with_reducible exact ih0 _ _ _ _ _ _)
   | (with_reducible exact ih1 _ _ _ _ _ _)
   | (with_reducible exact ih2 _ _ _ _ _ _)
   | (with_reducible exact ih3 _ _ _ _ _ _)
   | (with_reducible exact ih4 _ _ _ _ _ _ _)
   | (with_reducible exact ih5 _ _ _ _ _ _)
   | (with_reducible exact ih6 _ _ _ _ _ _ _)
   | (with_reducible exact ih7 _ _ _ _ _ _)
   | (with_reducible exact ih8 _ _ _ _ _ _)
   | (with_reducible exact ih9 _ _ _ _ _ _)
   | (with_reducible exact ih10 _ _ _ _ _ _ _)
   | (with_reducible exact ih11 _ _ _ _ _ _ _)
   | (with_reducible exact spec_l1Take.mono _ _ _ _)
   | (with_reducible exact spec_l1Without.mono _ _ _)
   | (with_reducible exact LeO.refl _)
   | (with_reducible exact LeO.none _)
   | (with_reducible refine LeO.ite ?_ ?_)
   | (with_reducible refine LeO.bind ?_ (fun _ => ?_))
   | exact ih0 _ _ _ _ _ _
   | exact ih1 _ _ _ _ _ _
   | exact ih2 _ _ _ _ _ _
   | exact ih3 _ _ _ _ _ _
   | exact ih4 _ _ _ _ _ _ _
   | exact ih5 _ _ _ _ _ _
   | exact ih6 _ _ _ _ _ _ _
   | exact ih7 _ _ _ _ _ _
   | exact ih8 _ _ _ _ _ _
   | exact ih9 _ _ _ _ _ _
   | exact ih10 _ _ _ _ _ _ _
   | exact ih11 _ _ _ _ _ _ _
   | exact spec_l1Take.mono _ _ _ _
   | exact spec_l1Without.mono _ _ _
   | exact LeO.none _
   | refine LeO.ite ?_ ?_
   | refine LeO.bind ?_ (fun _ => ?_)
def spec_l1SpoilFS.T14 : Bool × List (List Nat × List Nat) := (true, [([], []), ([], []), ([1], [1]), ([2], [2]), ([3], [3]), ([], []), ([5], [5]), ([6], [6]), ([7], [7]), ([], []), ([9], [9]), ([10], [10]), ([11], [11]), ([12], [12]), ([], []), ([13, 14], [13, 14]), ([4, 8, 15], [4, 8, 15]), ([0, 0, 1, 2, 3, 4, 5, 6, 7, 8, 9, 10, 11, 12, 13, 14, 15, 16], [0]), ([17, 16, 0, 1, 2, 3, 4, 5, 6, 7, 8, 9, 10, 11, 12, 13, 14, 15, 16], [16, 17])])
def spec_l1SpoilFS.B14 : List Nat := [0, 0, 2, 6, 14, 0, 32, 96, 224, 0, 512, 1536, 3584, 7680, 0, 32256, 65534, 131071, 262143]
theorem spec_l1SpoilFS.tab14 : rtab .any (opsOf Try.f81 14) = spec_l1SpoilFS.T14 := by kernel_rfl
theorem spec_l1SpoilFS.bits14 : waitsOk spec_l1SpoilFS.T14.2 spec_l1SpoilFS.B14 = true := by kernel_rfl
def spec_l1SpoilFS.T16 : Bool × List (List Nat × List Nat) := (true, [([], []), ([], []), ([1], [1]), ([2], [2]), ([3], [3]), ([], []), ([5], [5]), ([6], [6]), ([7], [7]), ([4, 8], [4, 8]), ([0, 0, 1, 2, 3, 4, 5, 6, 7, 8, 9], [0]), ([10, 9, 0, 1, 2, 3, 4, 5, 6, 7, 8, 9], [9, 10])])
def spec_l1SpoilFS.B16 : List Nat := [0, 0, 2, 6, 14, 0, 32, 96, 224, 510, 1023, 2047]
theorem spec_l1SpoilFS.tab16 : rtab .any (opsOf Try.f81 16) = spec_l1SpoilFS.T16 := by kernel_rfl
theorem spec_l1SpoilFS.bits16 : waitsOk spec_l1SpoilFS.T16.2 spec_l1SpoilFS.B16 = true := by kernel_rfl
set_option maxHeartbeats 8000000 in
set_option maxRecDepth 100000 in
theorem spec_l1SpoilFS.calls (k : Nat) (A0 : Option Addr) (c0 : Nat) (l0 : List Int) (a1 : Int) (A2_0 : Option Addr) (c2_0 : Nat) (l2_0 : List (S52)) (a2_1 : Int) (a2_2 : Int) (r1 : List (S52)) (r2 : Int) (r3 : Int) (w : World) (hr0 : Kd.C (Kd.int .u8) w A0 l0.length l0) (hc0 : l0.length ≤ c0) (hr2_0 : Kd.C k52 w A2_0 l2_0.length l2_0) (hc2_0 : l2_0.length ≤ c2_0) (h : spec_l1SpoilFS.f k l0 a1 l2_0 a2_1 a2_2 = some (r1, r2, r3)) :
  Calls Try.prog 81 #[.slice A0 l0.length c0, .int .i64 a1, .agg #[.slice A2_0 l2_0.length c2_0, .int .i64 a2_1, .int .i64 a2_2]] w fun e w' => ∃ v0_ : Value, e = .returned (.agg #[v0_, .int .i64 r2, .int .i64 r3]) ∧ Kd.R k52 52 w' w.heap.size (fun _ => True) v0_ r1 ∧ Below w.heap.size w w' := by
 have hu29 := Try.underlying29
 have hu52 := Try.underlying52
 have HR0 := Aside0.mk hr0
 have HC0 := Aside0.mk hc0
 clear hr0 hc0
 have HR2_0 := Aside0.mk hr2_0
 have HC2_0 := Aside0.mk hc2_0
 clear hr2_0 hc2_0
 have HB := Aside0.mk (Below.refl w.heap.size w)
 have H : ((spec_l1Take.f k l0 a1 11).bind fun bt602 => ((spec_l1Take.f k l0 bt602.2 2).bind fun bt604 => ((spec_l1Without.f k l2_0 (⟨#[]⟩ : ByteArray)).bind fun t606 => (if bt602.1 = 0 then (spec_l1SpoilFS.j0 k bt602.1 bt604.1 t606 l2_0 (-1) a2_2) else (spec_l1SpoilFS.j0 k bt602.1 bt604.1 t606 l2_0 a2_1 a2_2))))) = some (r1, r2, r3) := h
 clear h
 replace H := Option.bind_eq_some_iff.mp H
 obtain ⟨⟨t602, t603⟩, A40, H⟩ := H
 replace H : ((spec_l1Take.f k l0 t603 2).bind fun bt604 => ((spec_l1Without.f k l2_0 (⟨#[]⟩ : ByteArray)).bind fun t606 => (if t602 = 0 then (spec_l1SpoilFS.j0 k t602 bt604.1 t606 l2_0 (-1) a2_2) else (spec_l1SpoilFS.j0 k t602 bt604.1 t606 l2_0 a2_1 a2_2)))) = some (r1, r2, r3) := H
 have A4 := Aside0.mk A40
 clear A40
 replace H := Option.bind_eq_some_iff.mp H
 obtain ⟨⟨t604, t605⟩, A50, H⟩ := H
 replace H : ((spec_l1Without.f k l2_0 (⟨#[]⟩ : ByteArray)).bind fun t606 => (if t602 = 0 then (spec_l1SpoilFS.j0 k t602 t604 t606 l2_0 (-1) a2_2) else (spec_l1SpoilFS.j0 k t602 t604 t606 l2_0 a2_1 a2_2))) = some (r1, r2, r3) := H
 have A5 := Aside0.mk A50
 clear A50
 replace H := Option.bind_eq_some_iff.mp H
 obtain ⟨t606, A60, H⟩ := H
 replace H : (if t602 = 0 then (spec_l1SpoilFS.j0 k t602 t604 t606 l2_0 (-1) a2_2) else (spec_l1SpoilFS.j0 k t602 t604 t606 l2_0 a2_1 a2_2)) = some (r1, r2, r3) := H
 have A6 := Aside0.mk A60
 clear A60
 have HC7 := Aside0.mk H
 clear H
 go_enter Try.func81, Try.ntmps81
 go_upto_if 27 with (first | ((with_reducible refine gate_dst (N := 5) rfl ?_); (try (refine gate_guard (by rfl) ?_; dsimp only)); refine box_event ?hg (N := 5) ?hd (cs := #[.slice A2_0 l2_0.length c2_0, .int .i64 a2_1, .int .i64 a2_2]) (t := 29) ?hr ?_; (case hd => rfl); (case hg => rfl); (case hr => first | (go_simp; done) | (go_simp; rfl)); intro gb600 hg w8 hbox hb; have n0_ := Aside0.mk (below_step (by repeat (first | (with_reducible first | exact HB.out | apply below_alloc | apply pw_below_drewN | apply below_drew1) | exact HB.out)) hb); have n1_ := Aside0.mk (hbox); have n2_ := Aside0.mk ((by rw [hg]; exact (below_size (by repeat (first | (with_reducible first | exact HB.out | apply below_alloc | apply pw_below_drewN | apply below_drew1) | exact HB.out))) : w.heap.size ≤ gb600)); have n3_ := Aside0.mk ((by rw [hg]; exact (below_size (by repeat (first | (with_reducible first | exact HB.out | apply below_alloc | apply pw_below_drewN | apply below_drew1) | exact HB.out))) : w.heap.size ≤ gb600)); clear HB; have HB := n0_; have BK600 := n1_; have GW600 := n2_; have GE600 := n3_; clear n0_ n1_ n2_ n3_; clear hb hbox hg) | ((with_reducible refine gate_dst (N := 6) rfl ?_); (try (refine gate_guard (by rfl) ?_; dsimp only)); refine box_event ?hg (N := 6) ?hd (cs := #[.slice none 0 0, .int .i64 0, .int .i64 0]) (t := 29) ?hr ?_; (case hd => rfl); (case hg => rfl); (case hr => first | (go_simp; done) | (go_simp; rfl)); intro gb601 hg w9 hbox hb; have n0_ := Aside0.mk (blk_below (g := gb600) (o := .cells #[.slice A2_0 l2_0.length c2_0, .int .i64 a2_1, .int .i64 a2_2] 29 (0, 0)) (by (with_reducible repeat (first | refine blk_drewN ?_ _ | refine blk_drew ?_ | refine blk_alloc ?_ _)); exact BK600.out) hb); have n1_ := Aside0.mk (below_step (by repeat (first | (with_reducible first | exact HB.out | apply below_alloc | apply pw_below_drewN | apply below_drew1 | refine below_set ?_ GE600.out) | exact HB.out)) hb); have n2_ := Aside0.mk (hbox); have n3_ := Aside0.mk ((by rw [hg]; exact (below_size (by repeat (first | (with_reducible first | exact HB.out | apply below_alloc | apply pw_below_drewN | apply below_drew1 | refine below_set ?_ GE600.out) | exact HB.out))) : w.heap.size ≤ gb601)); have n4_ := Aside0.mk ((by rw [hg]; exact (below_size (by repeat (first | (with_reducible first | exact HB.out | apply below_alloc | apply pw_below_drewN | apply below_drew1 | refine below_set ?_ GE600.out) | exact HB.out))) : w.heap.size ≤ gb601)); have n5_ := Aside0.mk ((by rw [hg]; exact Nat.ne_of_lt (blk_lt (g := gb600) (o := .cells #[.slice A2_0 l2_0.length c2_0, .int .i64 a2_1, .int .i64 a2_2] 29 (0, 0)) (by (with_reducible repeat (first | refine blk_drewN ?_ _ | refine blk_drew ?_ | refine blk_alloc ?_ _)); exact BK600.out)) : gb600 ≠ gb601)); have n6_ := Aside0.mk ((by rw [hg]; exact Nat.ne_of_gt (blk_lt (g := gb600) (o := .cells #[.slice A2_0 l2_0.length c2_0, .int .i64 a2_1, .int .i64 a2_2] 29 (0, 0)) (by (with_reducible repeat (first | refine blk_drewN ?_ _ | refine blk_drew ?_ | refine blk_alloc ?_ _)); exact BK600.out)) : gb601 ≠ gb600)); clear BK600; clear HB; have BK600 := n0_; have HB := n1_; have BK601 := n2_; have GW601 := n3_; have GE601 := n4_; have NB600_601 := n5_; have NB601_600 := n6_; clear n0_ n1_ n2_ n3_ n4_ n5_ n6_; clear hb hbox hg) | ((with_reducible refine gate_callee (f := 65) rfl ?_); refine goesL_ (some 14) rfl rfl Try.func65 (by kernel_rfl) rfl #[.slice A0 l0.length c0, .int .i64 a1, .int .i64 11] rfl (by (try simp only [List.map_toArray, List.map_cons, List.map_nil]); first | done | rfl | (simp only [List.length_drop, List.length_take]; rfl)) ?_; (with_reducible refine (spec_l1Take.calls k _ _ l0 a1 11 t602 t603 _ ?side1 ?side2 A4.out).mono ?_); (case side1 => repeat (first | exact (Kd.C_below HR0.out HB.out) | (with_reducible refine Kd.C_alloc ?_ _) | (with_reducible refine Kd.C_drewN ?_ _) | (with_reducible refine Kd.C_drew ?_))); (case side2 => exact HC0.out); rintro e w' ⟨rfl, ⟨nd, rfl⟩⟩; refine ⟨_, rfl, ?_⟩) | ((with_reducible refine gate_callee (f := 65) rfl ?_); refine goesL_ (some 20) rfl rfl Try.func65 (by kernel_rfl) rfl #[.slice A0 l0.length c0, .int .i64 t603, .int .i64 2] rfl (by (try simp only [List.map_toArray, List.map_cons, List.map_nil]); first | done | rfl | (simp only [List.length_drop, List.length_take]; rfl)) ?_; (with_reducible refine (spec_l1Take.calls k _ _ l0 t603 2 t604 t605 _ ?side1 ?side2 A5.out).mono ?_); (case side1 => repeat (first | exact (Kd.C_below HR0.out (by repeat (first | (with_reducible first | exact HB.out | apply below_alloc | apply pw_below_drewN | apply below_drew1 | refine below_set ?_ GE600.out | refine below_set ?_ GE601.out) | exact HB.out))) | (with_reducible refine Kd.C_alloc ?_ _) | (with_reducible refine Kd.C_drewN ?_ _) | (with_reducible refine Kd.C_drew ?_))); (case side2 => exact HC0.out); rintro e w' ⟨rfl, ⟨nd, rfl⟩⟩; refine ⟨_, rfl, ?_⟩; have hnb10 := NB600_601.out; have hnc10 := NB601_600.out; have hcz11_0 : w9.cell? ⟨gb600, 0, none⟩ = some (.slice A2_0 l2_0.length c2_0) := (blk_cell BK600.out 0).trans rfl; have hcz11_1 : w9.cell? ⟨gb600, 1, none⟩ = some (.int .i64 a2_1) := (blk_cell BK600.out 1).trans rfl; have hcz11_2 : w9.cell? ⟨gb600, 2, none⟩ = some (.int .i64 a2_2) := (blk_cell BK600.out 2).trans rfl; have hfz11_0 := blk_frozen BK600.out 0; have hfz11_1 := blk_frozen BK600.out 1; have hfz11_2 := blk_frozen BK600.out 2) | ((with_reducible refine gate_callee (f := 54) rfl ?_); refine goesL_ (some 25) rfl rfl Try.func54 (by kernel_rfl) rfl #[.slice A2_0 l2_0.length c2_0, .string (⟨#[]⟩ : ByteArray)] rfl (by (try simp only [List.map_toArray, List.map_cons, List.map_nil]); first | done | rfl | (simp only [List.length_drop, List.length_take]; rfl)) ?_; (with_reducible refine (spec_l1Without.calls k _ _ l2_0 (⟨#[]⟩ : ByteArray) t606 _ ?side1 ?side2 A6.out).mono ?_); (case side1 => repeat (first | exact (Kd.C_below HR2_0.out (by repeat (first | (with_reducible first | exact HB.out | apply below_alloc | apply pw_below_drewN | apply below_drew1 | refine below_set ?_ GE600.out | refine below_set ?_ GE601.out) | exact HB.out))) | (with_reducible refine Kd.C_alloc ?_ _) | (with_reducible refine Kd.C_drewN ?_ _) | (with_reducible refine Kd.C_drew ?_))); (case side2 => exact HC2_0.out); rintro e w12 ⟨v607, rfl, ho0, hb⟩; refine ⟨_, rfl, ?_⟩; have n0_ := Aside0.mk (Kd.R_lower ho0 (below_size (by repeat (first | (with_reducible first | exact HB.out | apply below_alloc | apply pw_below_drewN | apply below_drew1 | refine below_set ?_ GE600.out | refine below_set ?_ GE601.out) | exact HB.out)))); have n1_ := Aside0.mk (blk_below (g := gb600) (o := .cells #[.slice A2_0 l2_0.length c2_0, .int .i64 a2_1, .int .i64 a2_2] 29 (0, 0)) (by (with_reducible repeat (first | refine blk_drewN ?_ _ | refine blk_drew ?_ | refine blk_alloc ?_ _)); exact BK600.out) hb); have n2_ := Aside0.mk (blk_below (g := gb601) (o := .cells #[.slice none 0 0, .int .i64 0, .int .i64 0] 29 (0, 0)) (by (with_reducible repeat (first | refine blk_drewN ?_ _ | refine blk_drew ?_ | refine blk_alloc ?_ _)); exact BK601.out) hb); have n3_ := Aside0.mk (below_step (by repeat (first | (with_reducible first | exact HB.out | apply below_alloc | apply pw_below_drewN | apply below_drew1 | refine below_set ?_ GE600.out | refine below_set ?_ GE601.out) | exact HB.out)) hb); clear BK600; clear BK601; clear HB; have HO608 := n0_; have BK600 := n1_; have BK601 := n2_; have HB := n3_; clear n0_ n1_ n2_ n3_; (try clear hb); (try clear hb2); (try clear hk); (try clear hi); (try clear ho0)))
 (try simp only [Act.put, List.setIfInBounds_toArray, List.set_cons_zero, List.set_cons_succ])
 go_cut [] (fun wc => ∃ (kq : Nat) (x601001_6 : Int), Aside0 (spec_l1SpoilFS.j0 kq t602 t604 t606 l2_0 x601001_6 a2_2 = some (r1, r2, r3)) ∧ Aside0 (kq ≤ k) ∧ Aside0 (Kd.R k52 52 wc w.heap.size (fun _ => True) v607 t606) ∧ Aside0 (wc.heap[gb600]? = some (.cells #[(.slice A2_0 l2_0.length c2_0), .int .i64 x601001_6, .int .i64 a2_2] 29 (0, 0))) ∧ Aside0 (wc.heap[gb601]? = some (.cells #[(.slice none 0 0), .int .i64 0, .int .i64 0] 29 (0, 0))) ∧ Aside0 (Below w.heap.size w wc))
 case first =>
  have H := HC7.out
  clear HC7
  by_cases c13 : t602 = 0
  ·rw [if_pos c13] at H
   have c13b0 : (t602 == 0) = true := beq_iff_eq.mpr c13
   have c13b1 : (t602 != 0) = false := bne_eq_false_iff_eq.mpr c13
   clear c13
   (first | rw [c13b0] | (simp only [i64_w, i32_w]; rw [c13b0]) | skip)
   have H' := Aside0.mk H
   clear H
   have hnb14 := NB600_601.out
   have hnc14 := NB601_600.out
   have hcz15_0 : w12.cell? ⟨gb600, 0, none⟩ = some (.slice A2_0 l2_0.length c2_0) := (blk_cell BK600.out 0).trans rfl
   have hcz15_1 : w12.cell? ⟨gb600, 1, none⟩ = some (.int .i64 a2_1) := (blk_cell BK600.out 1).trans rfl
   have hcz15_2 : w12.cell? ⟨gb600, 2, none⟩ = some (.int .i64 a2_2) := (blk_cell BK600.out 2).trans rfl
   have hfz15_0 := blk_frozen BK600.out 0
   have hfz15_1 := blk_frozen BK600.out 1
   have hfz15_2 := blk_frozen BK600.out 2
   go_wp2
   go_meet
   case rel => exact ⟨_, ((-1)), H', ⟨by first | omega | exact Nat.le_refl _⟩, ⟨by (with_reducible repeat (first | apply Kd.R_alloc | apply Kd.R_drewN | apply Kd.R_drew)); exact Kd.R_mono (Kd.R_far (p := ⟨gb600, 1, none⟩) (Kd.R_types HO608.out BK600.out (by decide)) (fun _ hk => hk.2) (.int .i64 (-1))) (fun _ hk => trivial)⟩, ⟨by (with_reducible repeat (first | refine blk_drewN ?_ _ | refine blk_drew ?_ | refine blk_alloc ?_ _)); refine blk_put (cs := #[.slice A2_0 l2_0.length c2_0, .int .i64 a2_1, .int .i64 a2_2]) ?_ 1 _ rfl; (with_reducible repeat (first | refine blk_drewN ?_ _ | refine blk_drew ?_ | refine blk_alloc ?_ _)); exact BK600.out⟩, ⟨by (with_reducible repeat (first | refine blk_drewN ?_ _ | refine blk_drew ?_ | refine blk_alloc ?_ _)); refine blk_far ?_ NB601_600.out _; (with_reducible repeat (first | refine blk_drewN ?_ _ | refine blk_drew ?_ | refine blk_alloc ?_ _)); exact BK601.out⟩, ⟨by repeat (first | (with_reducible first | exact HB.out | apply below_alloc | apply pw_below_drewN | apply below_drew1 | refine below_set ?_ GE600.out | refine below_set ?_ GE601.out) | exact HB.out)⟩⟩
  ·rw [if_neg c13] at H
   have c13b0 : (t602 == 0) = false := beq_eq_false_iff_ne.mpr c13
   have c13b1 : (t602 != 0) = true := bne_iff_ne.mpr c13
   (first | rw [c13b0] | (simp only [i64_w, i32_w]; rw [c13b0]) | skip)
   have H' := Aside0.mk H
   clear H
   go_wp2
   go_meet
   case rel => exact ⟨_, (a2_1), H', ⟨by first | omega | exact Nat.le_refl _⟩, ⟨by (with_reducible repeat (first | apply Kd.R_alloc | apply Kd.R_drewN | apply Kd.R_drew)); exact HO608.out⟩, ⟨by (with_reducible repeat (first | refine blk_drewN ?_ _ | refine blk_drew ?_ | refine blk_alloc ?_ _)); exact BK600.out⟩, ⟨by (with_reducible repeat (first | refine blk_drewN ?_ _ | refine blk_drew ?_ | refine blk_alloc ?_ _)); exact BK601.out⟩, ⟨by repeat (first | (with_reducible first | exact HB.out | apply below_alloc | apply pw_below_drewN | apply below_drew1 | refine below_set ?_ GE600.out | refine below_set ?_ GE601.out) | exact HB.out)⟩⟩
 case rest =>
  clear HC7
  try clear c1
  try clear c2
  try clear p2
  try clear c5
  try clear c6
  try clear c8
  try clear c10
  try clear c13
  try clear c13b0
  try clear c13b1
  try clear c14
  try clear hcz11_0
  try clear hcz11_1
  try clear hcz11_2
  try clear hcz15_0
  try clear hcz15_1
  try clear hcz15_2
  try clear hfz11_0
  try clear hfz11_1
  try clear hfz11_2
  try clear hfz15_0
  try clear hfz15_1
  try clear hfz15_2
  obtain ⟨kq, x601001_6, HA, HJ6, HO_9, BK600, BK601, HB⟩ := hcut
  cases kq with
  | zero => exact absurd HA.out (by simp [spec_l1SpoilFS.j0])
  | succ kj6 =>
   have H := HA.out
   clear HA
   simp only [spec_l1SpoilFS.j0] at H
   have HC16 := Aside0.mk H
   clear H
   go_upto_if 30 with (fail)
   go_cut [] (fun wc => ∃ (kq : Nat) (x601001_15 : Int), Aside0 (spec_l1SpoilFS.j1 kq t602 t604 t606 l2_0 x601001_15 a2_2 = some (r1, r2, r3)) ∧ Aside0 (kq ≤ kj6) ∧ Aside0 (Kd.R k52 52 wc w.heap.size (fun _ => True) v607 t606) ∧ Aside0 (wc.heap[gb600]? = some (.cells #[(.slice A2_0 l2_0.length c2_0), .int .i64 x601001_15, .int .i64 a2_2] 29 (0, 0))) ∧ Aside0 (wc.heap[gb601]? = some (.cells #[(.slice none 0 0), .int .i64 0, .int .i64 0] 29 (0, 0))) ∧ Aside0 (Below w.heap.size w wc))
   case first =>
    have H := HC16.out
    clear HC16
    by_cases c17 : t602 = 1
    ·rw [if_pos c17] at H
     have c17b0 : (t602 == 1) = true := beq_iff_eq.mpr c17
     have c17b1 : (t602 != 1) = false := bne_eq_false_iff_eq.mpr c17
     clear c17
     (first | rw [c17b0] | (simp only [i64_w, i32_w]; rw [c17b0]) | skip)
     have H' := Aside0.mk H
     clear H
     have hnb18 := NB600_601.out
     have hnc18 := NB601_600.out
     have hcz19_0 : wc.cell? ⟨gb600, 0, none⟩ = some (.slice A2_0 l2_0.length c2_0) := (blk_cell BK600.out 0).trans rfl
     have hcz19_1 : wc.cell? ⟨gb600, 1, none⟩ = some (.int .i64 x601001_6) := (blk_cell BK600.out 1).trans rfl
     have hcz19_2 : wc.cell? ⟨gb600, 2, none⟩ = some (.int .i64 a2_2) := (blk_cell BK600.out 2).trans rfl
     have hfz19_0 := blk_frozen BK600.out 0
     have hfz19_1 := blk_frozen BK600.out 1
     have hfz19_2 := blk_frozen BK600.out 2
     go_wp2
     go_meet
     case rel => exact ⟨_, (wrap64 (1048576 + t604)), H', ⟨by have := HJ6.out; first | omega | exact Nat.le_refl _⟩, ⟨by (with_reducible repeat (first | apply Kd.R_alloc | apply Kd.R_drewN | apply Kd.R_drew)); exact Kd.R_mono (Kd.R_far (p := ⟨gb600, 1, none⟩) (Kd.R_types HO_9.out BK600.out (by decide)) (fun _ hk => hk.2) (.int .i64 (wrap64 (1048576 + t604)))) (fun _ hk => trivial)⟩, ⟨by (with_reducible repeat (first | refine blk_drewN ?_ _ | refine blk_drew ?_ | refine blk_alloc ?_ _)); refine blk_put (cs := #[.slice A2_0 l2_0.length c2_0, .int .i64 x601001_6, .int .i64 a2_2]) ?_ 1 _ rfl; (with_reducible repeat (first | refine blk_drewN ?_ _ | refine blk_drew ?_ | refine blk_alloc ?_ _)); exact BK600.out⟩, ⟨by (with_reducible repeat (first | refine blk_drewN ?_ _ | refine blk_drew ?_ | refine blk_alloc ?_ _)); refine blk_far ?_ NB601_600.out _; (with_reducible repeat (first | refine blk_drewN ?_ _ | refine blk_drew ?_ | refine blk_alloc ?_ _)); exact BK601.out⟩, ⟨by repeat (first | (with_reducible first | exact HB.out | apply below_alloc | apply pw_below_drewN | apply below_drew1 | refine below_set ?_ GE600.out | refine below_set ?_ GE601.out) | exact HB.out)⟩⟩
    ·rw [if_neg c17] at H
     have c17b0 : (t602 == 1) = false := beq_eq_false_iff_ne.mpr c17
     have c17b1 : (t602 != 1) = true := bne_iff_ne.mpr c17
     (first | rw [c17b0] | (simp only [i64_w, i32_w]; rw [c17b0]) | skip)
     have H' := Aside0.mk H
     clear H
     go_wp2
     go_meet
     case rel => exact ⟨_, (x601001_6), H', ⟨by have := HJ6.out; first | omega | exact Nat.le_refl _⟩, ⟨by (with_reducible repeat (first | apply Kd.R_alloc | apply Kd.R_drewN | apply Kd.R_drew)); exact HO_9.out⟩, ⟨by (with_reducible repeat (first | refine blk_drewN ?_ _ | refine blk_drew ?_ | refine blk_alloc ?_ _)); exact BK600.out⟩, ⟨by (with_reducible repeat (first | refine blk_drewN ?_ _ | refine blk_drew ?_ | refine blk_alloc ?_ _)); exact BK601.out⟩, ⟨by repeat (first | (with_reducible first | exact HB.out | apply below_alloc | apply pw_below_drewN | apply below_drew1 | refine below_set ?_ GE600.out | refine below_set ?_ GE601.out) | exact HB.out)⟩⟩
   case rest =>
    clear HC16
    try clear c1
    try clear c2
    try clear p2
    try clear c5
    try clear c6
    try clear p6
    try clear c8
    try clear c10
    try clear c13
    try clear c13b0
    try clear c13b1
    try clear c14
    try clear c17
    try clear c17b0
    try clear c17b1
    try clear c18
    try clear hcz11_0
    try clear hcz11_1
    try clear hcz11_2
    try clear hcz15_0
    try clear hcz15_1
    try clear hcz15_2
    try clear hcz19_0
    try clear hcz19_1
    try clear hcz19_2
    try clear hfz11_0
    try clear hfz11_1
    try clear hfz11_2
    try clear hfz15_0
    try clear hfz15_1
    try clear hfz15_2
    try clear hfz19_0
    try clear hfz19_1
    try clear hfz19_2
    try clear p2
    obtain ⟨kq, x601001_15, HA, HJ15, HO_9, BK600, BK601, HB⟩ := hcut
    cases kq with
    | zero => exact absurd HA.out (by simp [spec_l1SpoilFS.j1])
    | succ kj15 =>
     have H := HA.out
     clear HA
     simp only [spec_l1SpoilFS.j1] at H
     have HC20 := Aside0.mk H
     clear H
     go_upto_if 35 with (fail)
     go_cut [] (fun wc => ∃ (kq : Nat) (x601002_19 : Int), Aside0 (spec_l1SpoilFS.j2 kq t602 t604 t606 l2_0 x601001_15 x601002_19 = some (r1, r2, r3)) ∧ Aside0 (kq ≤ kj15) ∧ Aside0 (Kd.R k52 52 wc w.heap.size (fun _ => True) v607 t606) ∧ Aside0 (wc.heap[gb600]? = some (.cells #[(.slice A2_0 l2_0.length c2_0), .int .i64 x601001_15, .int .i64 x601002_19] 29 (0, 0))) ∧ Aside0 (wc.heap[gb601]? = some (.cells #[(.slice none 0 0), .int .i64 0, .int .i64 0] 29 (0, 0))) ∧ Aside0 (Below w.heap.size w wc))
     case first =>
      have H := HC20.out
      clear HC20
      by_cases c21 : t602 = 2
      ·rw [if_pos c21] at H
       have c21b0 : (t602 == 2) = true := beq_iff_eq.mpr c21
       have c21b1 : (t602 != 2) = false := bne_eq_false_iff_eq.mpr c21
       clear c21
       (first | rw [c21b0] | (simp only [i64_w, i32_w]; rw [c21b0]) | skip)
       have H' := Aside0.mk H
       clear H
       have hnb22 := NB600_601.out
       have hnc22 := NB601_600.out
       have hcz23_0 : wc.cell? ⟨gb600, 0, none⟩ = some (.slice A2_0 l2_0.length c2_0) := (blk_cell BK600.out 0).trans rfl
       have hcz23_1 : wc.cell? ⟨gb600, 1, none⟩ = some (.int .i64 x601001_15) := (blk_cell BK600.out 1).trans rfl
       have hcz23_2 : wc.cell? ⟨gb600, 2, none⟩ = some (.int .i64 a2_2) := (blk_cell BK600.out 2).trans rfl
       have hfz23_0 := blk_frozen BK600.out 0
       have hfz23_1 := blk_frozen BK600.out 1
       have hfz23_2 := blk_frozen BK600.out 2
       go_wp2
       go_meet
       case rel => exact ⟨_, ((-2)), H', ⟨by have := HJ6.out; have := HJ15.out; first | omega | exact Nat.le_refl _⟩, ⟨by (with_reducible repeat (first | apply Kd.R_alloc | apply Kd.R_drewN | apply Kd.R_drew)); exact Kd.R_mono (Kd.R_far (p := ⟨gb600, 2, none⟩) (Kd.R_types HO_9.out BK600.out (by decide)) (fun _ hk => hk.2) (.int .i64 (-2))) (fun _ hk => trivial)⟩, ⟨by (with_reducible repeat (first | refine blk_drewN ?_ _ | refine blk_drew ?_ | refine blk_alloc ?_ _)); refine blk_put (cs := #[.slice A2_0 l2_0.length c2_0, .int .i64 x601001_15, .int .i64 a2_2]) ?_ 2 _ rfl; (with_reducible repeat (first | refine blk_drewN ?_ _ | refine blk_drew ?_ | refine blk_alloc ?_ _)); exact BK600.out⟩, ⟨by (with_reducible repeat (first | refine blk_drewN ?_ _ | refine blk_drew ?_ | refine blk_alloc ?_ _)); refine blk_far ?_ NB601_600.out _; (with_reducible repeat (first | refine blk_drewN ?_ _ | refine blk_drew ?_ | refine blk_alloc ?_ _)); exact BK601.out⟩, ⟨by repeat (first | (with_reducible first | exact HB.out | apply below_alloc | apply pw_below_drewN | apply below_drew1 | refine below_set ?_ GE600.out | refine below_set ?_ GE601.out) | exact HB.out)⟩⟩
      ·rw [if_neg c21] at H
       have c21b0 : (t602 == 2) = false := beq_eq_false_iff_ne.mpr c21
       have c21b1 : (t602 != 2) = true := bne_iff_ne.mpr c21
       (first | rw [c21b0] | (simp only [i64_w, i32_w]; rw [c21b0]) | skip)
       have H' := Aside0.mk H
       clear H
       go_wp2
       go_meet
       case rel => exact ⟨_, (a2_2), H', ⟨by have := HJ6.out; have := HJ15.out; first | omega | exact Nat.le_refl _⟩, ⟨by (with_reducible repeat (first | apply Kd.R_alloc | apply Kd.R_drewN | apply Kd.R_drew)); exact HO_9.out⟩, ⟨by (with_reducible repeat (first | refine blk_drewN ?_ _ | refine blk_drew ?_ | refine blk_alloc ?_ _)); exact BK600.out⟩, ⟨by (with_reducible repeat (first | refine blk_drewN ?_ _ | refine blk_drew ?_ | refine blk_alloc ?_ _)); exact BK601.out⟩, ⟨by repeat (first | (with_reducible first | exact HB.out | apply below_alloc | apply pw_below_drewN | apply below_drew1 | refine below_set ?_ GE600.out | refine below_set ?_ GE601.out) | exact HB.out)⟩⟩
     case rest =>
      clear HC20
      try clear c1
      try clear c2
      try clear p2
      try clear c5
      try clear c6
      try clear p6
      try clear c8
      try clear c10
      try clear c13
      try clear c13b0
      try clear c13b1
      try clear c14
      try clear c17
      try clear c17b0
      try clear c17b1
      try clear c18
      try clear c21
      try clear c21b0
      try clear c21b1
      try clear c22
      try clear hcz11_0
      try clear hcz11_1
      try clear hcz11_2
      try clear hcz15_0
      try clear hcz15_1
      try clear hcz15_2
      try clear hcz19_0
      try clear hcz19_1
      try clear hcz19_2
      try clear hcz23_0
      try clear hcz23_1
      try clear hcz23_2
      try clear hfz11_0
      try clear hfz11_1
      try clear hfz11_2
      try clear hfz15_0
      try clear hfz15_1
      try clear hfz15_2
      try clear hfz19_0
      try clear hfz19_1
      try clear hfz19_2
      try clear hfz23_0
      try clear hfz23_1
      try clear hfz23_2
      try clear p2
      try clear p6
      obtain ⟨kq, x601002_19, HA, HJ19, HO_9, BK600, BK601, HB⟩ := hcut
      cases kq with
      | zero => exact absurd HA.out (by simp [spec_l1SpoilFS.j2])
      | succ kj19 =>
       have H := HA.out
       clear HA
       simp only [spec_l1SpoilFS.j2] at H
       have HC24 := Aside0.mk H
       clear H
       go_upto_if 38 with (fail)
       go_cut [9] (fun v9 wc => ∃ (kq : Nat) (x9_23 : List (S52)), Aside0 (spec_l1SpoilFS.j3 kq t602 t604 x9_23 l2_0 x601001_15 x601002_19 = some (r1, r2, r3)) ∧ Aside0 (kq ≤ kj19) ∧ Aside0 (Kd.R k52 52 wc w.heap.size (fun _ => True) v9 x9_23) ∧ Aside0 (wc.heap[gb600]? = some (.cells #[(.slice A2_0 l2_0.length c2_0), .int .i64 x601001_15, .int .i64 x601002_19] 29 (0, 0))) ∧ Aside0 (wc.heap[gb601]? = some (.cells #[(.slice none 0 0), .int .i64 0, .int .i64 0] 29 (0, 0))) ∧ Aside0 (Below w.heap.size w wc))
       case first =>
        have H := HC24.out
        clear HC24
        by_cases c25 : t602 = 3
        ·rw [if_pos c25] at H
         have c25b0 : (t602 == 3) = true := beq_iff_eq.mpr c25
         have c25b1 : (t602 != 3) = false := bne_eq_false_iff_eq.mpr c25
         clear c25
         (first | rw [c25b0] | (simp only [i64_w, i32_w]; rw [c25b0]) | skip)
         by_cases c26 : t606.length < 3518437208883
         ·rw [if_pos c26] at H
          have LMc26 := Aside0.mk c26
          clear c26
          obtain ⟨y609, hy609⟩ : ∃ y_ : List (S52), y_ = (t606 ++ [(⟨(⟨#[97]⟩ : ByteArray), (⟨#[]⟩ : ByteArray), 0⟩ : S52)]) := ⟨_, rfl⟩
          replace H : (spec_l1SpoilFS.j3 kj19 t602 t604 y609 l2_0 x601001_15 x601002_19) = some (r1, r2, r3) := by first | (rw [hy609]; with_reducible exact H) | (have H2_ := (Option.bind_some _ _).symm.trans H; rw [hy609]; with_reducible exact H2_) | (have H2_ := (Option.bind_some _ _).symm.trans H; with_reducible exact H2_) | with_reducible exact H | (rw [hy609]; exact H) | exact H
          have Ny609 := Aside0.mk hy609
          clear hy609
          have H' := Aside0.mk H
          clear H
          go_wp2_with (first | ((with_reducible refine gate_builtin (b := .append) (xs := #[.tmp 39, .tmp 41]) rfl ?_); (try (refine gate_guard (by rfl) ?_; dsimp only)); at_builtin; refine Kd.R_append k52 (w0 := w) w.heap.size rfl (.tmp 39) (.tmp 41) 27 52 (.agg #[(.string ⟨#[]⟩), (.string ⟨#[]⟩), (.int .i64 0)]) 40 rfl Try.underlying27 info52 rfl (by decide) (by omega) v607 t606 (⟨(⟨#[97]⟩ : ByteArray), (⟨#[]⟩ : ByteArray), 0⟩ : S52) [.string (⟨#[97]⟩ : ByteArray), .string (⟨#[]⟩ : ByteArray), .int .i64 0] (fun _ => True) (fun _ => False) rfl rfl ?aP (fun _ hk => hk.elim) ?aF ?aO ?aB ?aS ?aL ?_; (case aP => exact k52_mkM _ _ _ (⟨(⟨#[97]⟩ : ByteArray), (⟨#[]⟩ : ByteArray), 0⟩ : S52)); (case aB => exact (by repeat (first | (with_reducible first | exact HB.out | apply below_alloc | apply pw_below_drewN | apply below_drew1 | refine below_set ?_ GE600.out | refine below_set ?_ GE601.out) | exact HB.out))); (case aF => exact (fun _ _ => trivial)); (case aO => exact (by (with_reducible repeat (first | apply Kd.R_alloc | apply Kd.R_drewN | apply Kd.R_drew)); exact HO_9.out)); (case aS => exact (below_size (by repeat (first | (with_reducible first | exact HB.out | apply below_alloc | apply pw_below_drewN | apply below_drew1 | refine below_set ?_ GE600.out | refine below_set ?_ GE601.out) | exact HB.out)))); (case aL => have := LMc26.out; omega); intro v610 w27 ho hb hg hat; rw [← Ny609.out] at ho; have n0_ := Aside0.mk (blk_grown (g := gb600) (o := .cells #[.slice A2_0 l2_0.length c2_0, .int .i64 x601001_15, .int .i64 x601002_19] 29 (0, 0)) (by (with_reducible repeat (first | refine blk_drewN ?_ _ | refine blk_drew ?_ | refine blk_alloc ?_ _)); exact BK600.out) hg (Kd.R_ne HO_9.out BK600.out (by decide))); have n1_ := Aside0.mk (blk_grown (g := gb601) (o := .cells #[.slice none 0 0, .int .i64 0, .int .i64 0] 29 (0, 0)) (by (with_reducible repeat (first | refine blk_drewN ?_ _ | refine blk_drew ?_ | refine blk_alloc ?_ _)); exact BK601.out) hg (Kd.R_ne HO_9.out BK601.out (by decide))); have n2_ := Aside0.mk (hb); have n3_ := Aside0.mk (ho); clear BK600; clear BK601; clear HB; clear HO_9; have BK600 := n0_; have BK601 := n1_; have HB := n2_; have HO611 := n3_; clear n0_ n1_ n2_ n3_; clear ho hb hg hat))
          go_meet
          case rel => exact ⟨_, (y609), H', ⟨by have := HJ6.out; have := HJ15.out; have := HJ19.out; first | omega | exact Nat.le_refl _⟩, ⟨by (with_reducible repeat (first | apply Kd.R_alloc | apply Kd.R_drewN | apply Kd.R_drew)); exact HO611.out⟩, ⟨by (with_reducible repeat (first | refine blk_drewN ?_ _ | refine blk_drew ?_ | refine blk_alloc ?_ _)); exact BK600.out⟩, ⟨by (with_reducible repeat (first | refine blk_drewN ?_ _ | refine blk_drew ?_ | refine blk_alloc ?_ _)); exact BK601.out⟩, ⟨by repeat (first | (with_reducible first | exact HB.out | apply below_alloc | apply pw_below_drewN | apply below_drew1 | refine below_set ?_ GE600.out | refine below_set ?_ GE601.out) | exact HB.out)⟩⟩
         ·rw [if_neg c26] at H
          exact absurd H (by simp)
        ·rw [if_neg c25] at H
         have c25b0 : (t602 == 3) = false := beq_eq_false_iff_ne.mpr c25
         have c25b1 : (t602 != 3) = true := bne_iff_ne.mpr c25
         (first | rw [c25b0] | (simp only [i64_w, i32_w]; rw [c25b0]) | skip)
         have H' := Aside0.mk H
         clear H
         go_wp2
         go_meet
         case rel => exact ⟨_, (t606), H', ⟨by have := HJ6.out; have := HJ15.out; have := HJ19.out; first | omega | exact Nat.le_refl _⟩, ⟨by (with_reducible repeat (first | apply Kd.R_alloc | apply Kd.R_drewN | apply Kd.R_drew)); exact HO_9.out⟩, ⟨by (with_reducible repeat (first | refine blk_drewN ?_ _ | refine blk_drew ?_ | refine blk_alloc ?_ _)); exact BK600.out⟩, ⟨by (with_reducible repeat (first | refine blk_drewN ?_ _ | refine blk_drew ?_ | refine blk_alloc ?_ _)); exact BK601.out⟩, ⟨by repeat (first | (with_reducible first | exact HB.out | apply below_alloc | apply pw_below_drewN | apply below_drew1 | refine below_set ?_ GE600.out | refine below_set ?_ GE601.out) | exact HB.out)⟩⟩
       case rest =>
        clear HC24
        try clear c1
        try clear c2
        try clear p2
        try clear c5
        try clear c6
        try clear p6
        try clear c8
        try clear c10
        try clear c13
        try clear c13b0
        try clear c13b1
        try clear c14
        try clear c17
        try clear c17b0
        try clear c17b1
        try clear c18
        try clear c21
        try clear c21b0
        try clear c21b1
        try clear c22
        try clear c25
        try clear c25b0
        try clear c25b1
        try clear c26
        try clear hcz11_0
        try clear hcz11_1
        try clear hcz11_2
        try clear hcz15_0
        try clear hcz15_1
        try clear hcz15_2
        try clear hcz19_0
        try clear hcz19_1
        try clear hcz19_2
        try clear hcz23_0
        try clear hcz23_1
        try clear hcz23_2
        try clear hfz11_0
        try clear hfz11_1
        try clear hfz11_2
        try clear hfz15_0
        try clear hfz15_1
        try clear hfz15_2
        try clear hfz19_0
        try clear hfz19_1
        try clear hfz19_2
        try clear hfz23_0
        try clear hfz23_1
        try clear hfz23_2
        try clear p2
        try clear p6
        obtain ⟨kq, x9_23, HA, HJ23, HO_9, BK600, BK601, HB⟩ := hcut
        cases kq with
        | zero => exact absurd HA.out (by simp [spec_l1SpoilFS.j3])
        | succ kj23 =>
         have H := HA.out
         clear HA
         simp only [spec_l1SpoilFS.j3] at H
         have HC28 := Aside0.mk H
         clear H
         go_upto_region 13 with (fail)
         go_cut [49] (fun v49 wc => ∃ (kq : Nat) (x49_27 : Bool), v49 = .bool x49_27 ∧ Aside0 (spec_l1SpoilFS.j4 kq t602 t604 x9_23 x49_27 l2_0 x601001_15 x601002_19 = some (r1, r2, r3)) ∧ Aside0 (kq ≤ kj23) ∧ Aside0 (Kd.R k52 52 wc w.heap.size (fun _ => True) u9 x9_23) ∧ Aside0 (wc.heap[gb600]? = some (.cells #[(.slice A2_0 l2_0.length c2_0), .int .i64 x601001_15, .int .i64 x601002_19] 29 (0, 0))) ∧ Aside0 (wc.heap[gb601]? = some (.cells #[(.slice none 0 0), .int .i64 0, .int .i64 0] 29 (0, 0))) ∧ Aside0 (Below w.heap.size w wc))
         case first =>
          have H := HC28.out
          clear HC28
          by_cases c29 : t602 = 4
          ·rw [if_pos c29] at H
           have c29b0 : (t602 == 4) = true := beq_iff_eq.mpr c29
           have c29b1 : (t602 != 4) = false := bne_eq_false_iff_eq.mpr c29
           clear c29
           (first | rw [c29b0] | (simp only [i64_w, i32_w]; rw [c29b0]) | skip)
           have H' := Aside0.mk H
           clear H
           obtain ⟨Ao30, co30, eo30⟩ := Kd.R_slice HO_9.out
           subst eo30
           go_wp2
           go_meet
           case rel => exact ⟨_, (decide ((x9_23.length : Int) > 0)), (by first | rfl | (simp; done) | (simp [*]; done)), H', ⟨by have := HJ6.out; have := HJ15.out; have := HJ19.out; have := HJ23.out; first | omega | exact Nat.le_refl _⟩, ⟨by (with_reducible repeat (first | apply Kd.R_alloc | apply Kd.R_drewN | apply Kd.R_drew)); exact HO_9.out⟩, ⟨by (with_reducible repeat (first | refine blk_drewN ?_ _ | refine blk_drew ?_ | refine blk_alloc ?_ _)); exact BK600.out⟩, ⟨by (with_reducible repeat (first | refine blk_drewN ?_ _ | refine blk_drew ?_ | refine blk_alloc ?_ _)); exact BK601.out⟩, ⟨by repeat (first | (with_reducible first | exact HB.out | apply below_alloc | apply pw_below_drewN | apply below_drew1 | refine below_set ?_ GE600.out | refine below_set ?_ GE601.out) | exact HB.out)⟩⟩
          ·rw [if_neg c29] at H
           have c29b0 : (t602 == 4) = false := beq_eq_false_iff_ne.mpr c29
           have c29b1 : (t602 != 4) = true := bne_iff_ne.mpr c29
           (first | rw [c29b0] | (simp only [i64_w, i32_w]; rw [c29b0]) | skip)
           have H' := Aside0.mk H
           clear H
           go_wp2
           go_meet
           case rel => exact ⟨_, (false), (by first | rfl | (simp; done) | (simp [*]; done)), H', ⟨by have := HJ6.out; have := HJ15.out; have := HJ19.out; have := HJ23.out; first | omega | exact Nat.le_refl _⟩, ⟨by (with_reducible repeat (first | apply Kd.R_alloc | apply Kd.R_drewN | apply Kd.R_drew)); exact HO_9.out⟩, ⟨by (with_reducible repeat (first | refine blk_drewN ?_ _ | refine blk_drew ?_ | refine blk_alloc ?_ _)); exact BK600.out⟩, ⟨by (with_reducible repeat (first | refine blk_drewN ?_ _ | refine blk_drew ?_ | refine blk_alloc ?_ _)); exact BK601.out⟩, ⟨by repeat (first | (with_reducible first | exact HB.out | apply below_alloc | apply pw_below_drewN | apply below_drew1 | refine below_set ?_ GE600.out | refine below_set ?_ GE601.out) | exact HB.out)⟩⟩
         case rest =>
          clear HC28
          try clear c1
          try clear c2
          try clear p2
          try clear c5
          try clear c6
          try clear p6
          try clear c8
          try clear c10
          try clear c13
          try clear c13b0
          try clear c13b1
          try clear c14
          try clear c17
          try clear c17b0
          try clear c17b1
          try clear c18
          try clear c21
          try clear c21b0
          try clear c21b1
          try clear c22
          try clear c25
          try clear c25b0
          try clear c25b1
          try clear c26
          try clear c29
          try clear c29b0
          try clear c29b1
          try clear hcz11_0
          try clear hcz11_1
          try clear hcz11_2
          try clear hcz15_0
          try clear hcz15_1
          try clear hcz15_2
          try clear hcz19_0
          try clear hcz19_1
          try clear hcz19_2
          try clear hcz23_0
          try clear hcz23_1
          try clear hcz23_2
          try clear hfz11_0
          try clear hfz11_1
          try clear hfz11_2
          try clear hfz15_0
          try clear hfz15_1
          try clear hfz15_2
          try clear hfz19_0
          try clear hfz19_1
          try clear hfz19_2
          try clear hfz23_0
          try clear hfz23_1
          try clear hfz23_2
          try clear p2
          try clear p6
          obtain ⟨kq, x49_27, rfl, HA, HJ27, HO_9, BK600, BK601, HB⟩ := hcut
          cases kq with
          | zero => exact absurd HA.out (by simp [spec_l1SpoilFS.j4])
          | succ kj27 =>
           have H := HA.out
           clear HA
           simp only [spec_l1SpoilFS.j4] at H
           have HC31 := Aside0.mk H
           clear H
           go_upto_if 49 with (fail)
           go_cut [] (fun wc => ∃ (kq : Nat) (x9_30 : List (S52)), Aside0 (spec_l1SpoilFS.j5 kq t602 t604 x9_30 l2_0 x601001_15 x601002_19 = some (r1, r2, r3)) ∧ Aside0 (kq ≤ kj27) ∧ Aside0 (Kd.R k52 52 wc w.heap.size (fun _ => True) u9 x9_30) ∧ Aside0 (wc.heap[gb600]? = some (.cells #[(.slice A2_0 l2_0.length c2_0), .int .i64 x601001_15, .int .i64 x601002_19] 29 (0, 0))) ∧ Aside0 (wc.heap[gb601]? = some (.cells #[(.slice none 0 0), .int .i64 0, .int .i64 0] 29 (0, 0))) ∧ Aside0 (Below w.heap.size w wc))
           case first =>
            have H := HC31.out
            clear HC31
            by_cases c32 : x49_27 = true
            ·subst c32
             have H1 : (if 0 < (x9_23.length : Int) then (spec_l1SpoilFS.j5 kj27 t602 t604 (x9_23.set (0 : Int).toNat (⟨(rd_T52 x9_23 0).f0, (rd_T52 x9_23 0).f1, wrap64 ((((rd_T52 x9_23 0).f1).size : Int) + t604)⟩ : S52)) l2_0 x601001_15 x601002_19) else (none)) = some (r1, r2, r3) := by rw [if_pos rfl] at H; exact H
             clear H
             have H := H1
             clear H1
             by_cases c33 : 0 < (x9_23.length : Int)
             ·rw [if_pos c33] at H
              have c33b0 : decide (0 < (x9_23.length : Int)) = true := decide_eq_true c33
              have c33b1 : decide (0 < x9_23.length) = true := decide_eq_true (by omega)
              clear c33
              (first | rw [c33b0] | (simp only [i64_w, i32_w]; rw [c33b0]) | skip)
              obtain ⟨y615, hy615⟩ : ∃ y_ : List (S52), y_ = (x9_23.set (0 : Int).toNat (⟨(rd_T52 x9_23 0).f0, (rd_T52 x9_23 0).f1, wrap64 ((((rd_T52 x9_23 0).f1).size : Int) + t604)⟩ : S52)) := ⟨_, rfl⟩
              replace H : (spec_l1SpoilFS.j5 kj27 t602 t604 y615 l2_0 x601001_15 x601002_19) = some (r1, r2, r3) := by first | (rw [hy615]; with_reducible exact H) | (have H2_ := (Option.bind_some _ _).symm.trans H; rw [hy615]; with_reducible exact H2_) | (have H2_ := (Option.bind_some _ _).symm.trans H; with_reducible exact H2_) | with_reducible exact H | (rw [hy615]; exact H) | exact H
              have Ny615 := Aside0.mk hy615
              clear hy615
              have H' := Aside0.mk H
              clear H
              try go_wp2
              have n0_ := Aside0.mk (Kd.R_drew HO_9.out)
              have n1_ := Aside0.mk (blk_drew BK600.out)
              have n2_ := Aside0.mk (blk_drew BK601.out)
              have n3_ := Aside0.mk (below_drew1 HB.out)
              clear HO_9
              clear BK600
              clear BK601
              clear HB
              have HO_9 := n0_
              have BK600 := n1_
              have BK601 := n2_
              have HB := n3_
              clear n0_ n1_ n2_ n3_
              obtain ⟨Ao36, co36, eo36⟩ := Kd.R_slice HO_9.out
              (first | subst eo36 | (injection eo36 with f1_ f2_ f3_; have f4_ := f1_.symm; have f5_ := f3_.symm; clear f1_ f2_ f3_; subst f4_; subst f5_))
              have p612 : 0 ≤ (0 : Int) := (by omega)
              have q612 : 0 < (x9_23.length : Int) := of_decide_eq_true (by first | (with_reducible assumption) | assumption)
              obtain ⟨ad612, e612, hx612_0, hx612_1, hx612_2⟩ := at_T52 (Kd.R_reads' HO_9.out).2.2 0 p612 q612
              cases e612
              have qi612 : (0 < x9_23.length) = True := eq_true (by omega)
              (try rw [show ((0 : Int)).toNat = 0 from rfl] at hx612_0)
              (try rw [show 0 * 3 = 0 from rfl] at hx612_0)
              (try rw [Addr.add_zero'] at hx612_0)
              (try rw [show ((0 : Int)).toNat = 0 from rfl] at hx612_1)
              (try rw [show 0 * 3 = 0 from rfl] at hx612_1)
              (try rw [Addr.add_zero'] at hx612_1)
              (try rw [show ((0 : Int)).toNat = 0 from rfl] at hx612_2)
              (try rw [show 0 * 3 = 0 from rfl] at hx612_2)
              (try rw [Addr.add_zero'] at hx612_2)
              replace p612 := eq_true p612
              replace q612 := eq_true q612
              have p613 : 0 ≤ (0 : Int) := (by omega)
              have q613 : 0 < (x9_23.length : Int) := of_decide_eq_true (by first | (with_reducible assumption) | assumption)
              obtain ⟨ad613, e613, hx613_0, hx613_1, hx613_2⟩ := at_T52 (Kd.R_reads' HO_9.out).2.2 0 p613 q613
              obtain rfl : ad612 = ad613 := (by injection e613)
              have qi613 : (0 < x9_23.length) = True := eq_true (by omega)
              (try rw [show ((0 : Int)).toNat = 0 from rfl] at hx613_0)
              (try rw [show 0 * 3 = 0 from rfl] at hx613_0)
              (try rw [Addr.add_zero'] at hx613_0)
              (try rw [show ((0 : Int)).toNat = 0 from rfl] at hx613_1)
              (try rw [show 0 * 3 = 0 from rfl] at hx613_1)
              (try rw [Addr.add_zero'] at hx613_1)
              (try rw [show ((0 : Int)).toNat = 0 from rfl] at hx613_2)
              (try rw [show 0 * 3 = 0 from rfl] at hx613_2)
              (try rw [Addr.add_zero'] at hx613_2)
              replace p613 := eq_true p613
              replace q613 := eq_true q613
              have p614 : 0 ≤ (0 : Int) := (by omega)
              have q614 : 0 < (x9_23.length : Int) := of_decide_eq_true (by first | (with_reducible assumption) | assumption)
              obtain ⟨ad614, e614, hx614_0, hx614_1, hx614_2⟩ := at_T52 (Kd.R_reads' HO_9.out).2.2 0 p614 q614
              obtain rfl : ad612 = ad614 := (by injection e614)
              have qi614 : (0 < x9_23.length) = True := eq_true (by omega)
              (try rw [show ((0 : Int)).toNat = 0 from rfl] at hx614_0)
              (try rw [show 0 * 3 = 0 from rfl] at hx614_0)
              (try rw [Addr.add_zero'] at hx614_0)
              (try rw [show ((0 : Int)).toNat = 0 from rfl] at hx614_1)
              (try rw [show 0 * 3 = 0 from rfl] at hx614_1)
              (try rw [Addr.add_zero'] at hx614_1)
              (try rw [show ((0 : Int)).toNat = 0 from rfl] at hx614_2)
              (try rw [show 0 * 3 = 0 from rfl] at hx614_2)
              (try rw [Addr.add_zero'] at hx614_2)
              replace p614 := eq_true p614
              replace q614 := eq_true q614
              have p34 : 0 ≤ (0 : Int) := (by omega)
              have q34 : (0 : Int) < ((x9_23.length : Int) : Int) := of_decide_eq_true (by first | (with_reducible assumption) | assumption)
              have qi34 : (0 < x9_23.length) = True := eq_true (by omega)
              obtain ⟨go34, co34, eo34, gb34, gl34, cl34, HG34⟩ := Kd.R_form HO_9.out (by omega)
              (first | cases eo34 | (injection eo34 with ea_ en_ ec_; (first | subst ea_ | (injection ea_ with ea_; subst ea_)); subst ec_; clear en_))
              have GB34 := Aside0.mk gb34
              have GG34 := Aside0.mk HG34
              clear gb34 gl34 HG34
              (first | simp only [add_plain] at hx612_0 | skip)
              (first | simp only [add_plain] at hx612_1 | skip)
              (first | simp only [add_plain] at hx612_2 | skip)
              (first | simp only [add_plain] at hx613_0 | skip)
              (first | simp only [add_plain] at hx613_1 | skip)
              (first | simp only [add_plain] at hx613_2 | skip)
              (first | simp only [add_plain] at hx614_0 | skip)
              (first | simp only [add_plain] at hx614_1 | skip)
              (first | simp only [add_plain] at hx614_2 | skip)
              obtain ⟨ce34, hcl34, hM34, hcc34, hfr34⟩ := Kd.R_elem HO_9.out z52 (0 : Int) p34 q34
              obtain rfl := k52_openM hM34
              have hx34_0 : World.cell? _ ⟨go34, (0 : Int).toNat * 3, none⟩ = some (.string ((rd_T52 x9_23 0).f0)) := hcc34 0 _ rfl
              have hx34_1 : World.cell? _ ⟨go34, (0 : Int).toNat * 3 + 1, none⟩ = some (.string ((rd_T52 x9_23 0).f1)) := hcc34 1 _ rfl
              have hx34_2 : World.cell? _ ⟨go34, (0 : Int).toNat * 3 + 2, none⟩ = some (.int .i64 ((rd_T52 x9_23 0).f2)) := hcc34 2 _ rfl
              have hf34_0 : World.frozen? _ ⟨go34, (0 : Int).toNat * 3, none⟩ = false := hfr34 0
              have hf34_1 : World.frozen? _ ⟨go34, (0 : Int).toNat * 3 + 1, none⟩ = false := hfr34 1
              have hf34_2 : World.frozen? _ ⟨go34, (0 : Int).toNat * 3 + 2, none⟩ = false := hfr34 2
              clear hcl34 hcc34 hfr34 hM34
              (try rw [show ((0 : Int)).toNat = 0 from rfl] at hx34_0)
              (try simp only [Nat.reduceMul, Nat.zero_mul, Nat.zero_add, Nat.reduceAdd] at hx34_0)
              (try rw [show ((0 : Int)).toNat = 0 from rfl] at hf34_0)
              (try simp only [Nat.reduceMul, Nat.zero_mul, Nat.zero_add, Nat.reduceAdd] at hf34_0)
              (try rw [show ((0 : Int)).toNat = 0 from rfl] at hx34_1)
              (try simp only [Nat.reduceMul, Nat.zero_mul, Nat.zero_add, Nat.reduceAdd] at hx34_1)
              (try rw [show ((0 : Int)).toNat = 0 from rfl] at hf34_1)
              (try simp only [Nat.reduceMul, Nat.zero_mul, Nat.zero_add, Nat.reduceAdd] at hf34_1)
              (try rw [show ((0 : Int)).toNat = 0 from rfl] at hx34_2)
              (try simp only [Nat.reduceMul, Nat.zero_mul, Nat.zero_add, Nat.reduceAdd] at hx34_2)
              (try rw [show ((0 : Int)).toNat = 0 from rfl] at hf34_2)
              (try simp only [Nat.reduceMul, Nat.zero_mul, Nat.zero_add, Nat.reduceAdd] at hf34_2)
              replace p34 := eq_true p34
              replace q34 := eq_true q34
              obtain ⟨ce37, hcl37, hM37, hcc37, hfr37⟩ := Kd.R_elem HO_9.out z52 (0 : Int) (by omega) (by have h_ : (0 : Int) < ((x9_23.length : Int) : Int) := of_decide_eq_true (by first | (with_reducible assumption) | assumption); first | exact h_ | (have e_ := (Kd.R_reads' HO_9.out).1; omega) | simpa using h_)
              obtain rfl := k52_openM hM37
              have HP37 := (Kd.R_seg HO_9.out (0 : Int) (by omega) (by have h_ : (0 : Int) < ((x9_23.length : Int) : Int) := of_decide_eq_true (by first | (with_reducible assumption) | assumption); first | exact h_ | (have e_ := (Kd.R_reads' HO_9.out).1; omega) | simpa using h_) (seg := [.string ((rd_T52 x9_23 0).f0), .string ((rd_T52 x9_23 0).f1), .int .i64 (wrap64 ((((rd_T52 x9_23 0).f1).size : Int) + t604))]) (j := 0) hcl37 hcc37 (show 3 ≤ 3 from by decide) (x' := (⟨(rd_T52 x9_23 0).f0, (rd_T52 x9_23 0).f1, wrap64 ((((rd_T52 x9_23 0).f1).size : Int) + t604)⟩ : S52)) (k52_mkM _ _ _ (⟨(rd_T52 x9_23 0).f0, (rd_T52 x9_23 0).f1, wrap64 ((((rd_T52 x9_23 0).f1).size : Int) + t604)⟩ : S52) ) (fun _ hk => hk)).1
              rw [← Ny615.out] at HP37
              have HQ37 := Aside0.mk HP37
              clear hcl37 hcc37 hfr37 hM37 HP37
              refine start_ (n := 19) (S := fun w' => w'.cell? ⟨go34, 0, none⟩ = some (.string ((rd_T52 x9_23 0).f0)) ∧ w'.cell? ⟨go34, 1, none⟩ = some (.string ((rd_T52 x9_23 0).f1)) ∧ w'.cell? ⟨go34, 2, none⟩ = some (.int .i64 ((rd_T52 x9_23 0).f2)) ∧ w'.cell? ⟨go34, 0, none⟩ = some (.string ((rd_T52 x9_23 0).f0)) ∧ w'.cell? ⟨go34, 1, none⟩ = some (.string ((rd_T52 x9_23 0).f1)) ∧ w'.cell? ⟨go34, 2, none⟩ = some (.int .i64 ((rd_T52 x9_23 0).f2)) ∧ w'.cell? ⟨go34, 0, none⟩ = some (.string ((rd_T52 x9_23 0).f0)) ∧ w'.cell? ⟨go34, 1, none⟩ = some (.string ((rd_T52 x9_23 0).f1)) ∧ w'.cell? ⟨go34, 2, none⟩ = some (.int .i64 ((rd_T52 x9_23 0).f2))) (ds := [18]) #[false, false, false, false, false, false, false, false, false, false, false, false, false, false, false, false, false, false, false] (by kernel_rfl) rfl rfl ⟨hx612_0, hx612_1, hx612_2, hx613_0, hx613_1, hx613_2, hx614_0, hx614_1, hx614_2⟩ (fun hHeld => ?_); refine with_tabW spec_l1SpoilFS.tab14 spec_l1SpoilFS.bits14 (fun HT_ HW_ => ?_)
              generalize wc.drew = w35 at HO_9 BK600 BK601 HB GG34 HQ37 hf34_0 hf34_1 hf34_2 hx34_0 hx34_1 hx34_2 hx612_0 hx612_1 hx612_2 hx613_0 hx613_1 hx613_2 hx614_0 hx614_1 hx614_2 hHeld ⊢
              refine pure_ (i := 0) (N := some 50) (v := ?_) (a' := ?_) #[true, false, false, false, false, false, false, false, false, false, false, false, false, false, false, false, false, false, false] rfl rfl (any_of HT_.out (by kernel_rfl)) (fun _ _ _ h => h) (Or.inl ⟨by rfl, ?_⟩) ?_ ?_
              rotate_left
              ·intro w'
               go_simp
               with_reducible rfl
              rotate_left
              ·simp only [Act.put, List.setIfInBounds_toArray, List.set_cons_zero, List.set_cons_succ, i64_w, i32_w]
               rfl
              refine pure_ (i := 1) (N := some 51) (v := ?_) (a' := ?_) #[true, true, false, false, false, false, false, false, false, false, false, false, false, false, false, false, false, false, false] rfl rfl (any_of HT_.out (by kernel_rfl)) (fun _ _ _ h => h) (Or.inl ⟨by rfl, ?_⟩) ?_ ?_
              rotate_left
              ·intro w'
               go_simp
               with_reducible rfl
              rotate_left
              ·simp only [Act.put, List.setIfInBounds_toArray, List.set_cons_zero, List.set_cons_succ, i64_w, i32_w]
               rfl
              refine pure_ (i := 2) (N := some 52) (v := ?_) (a' := ?_) #[true, true, true, false, false, false, false, false, false, false, false, false, false, false, false, false, false, false, false] rfl rfl (any_of HT_.out (by kernel_rfl)) (fun _ _ _ h => h) (Or.inl ⟨by rfl, ?_⟩) ?_ ?_
              rotate_left
              ·intro w'
               go_simp
               with_reducible rfl
              rotate_left
              ·simp only [Act.put, List.setIfInBounds_toArray, List.set_cons_zero, List.set_cons_succ, i64_w, i32_w]
               rfl
              refine pure_ (i := 3) (N := some 53) (v := ?_) (a' := ?_) #[true, true, true, true, false, false, false, false, false, false, false, false, false, false, false, false, false, false, false] rfl rfl (any_of HT_.out (by kernel_rfl)) (fun _ _ _ h => h) (Or.inl ⟨by rfl, ?_⟩) ?_ ?_
              rotate_left
              ·intro w'
               go_simp
               with_reducible rfl
              rotate_left
              ·simp only [Act.put, List.setIfInBounds_toArray, List.set_cons_zero, List.set_cons_succ, i64_w, i32_w]
               rfl
              refine pure_ (i := 5) (N := some 55) (v := ?_) (a' := ?_) #[true, true, true, true, false, true, false, false, false, false, false, false, false, false, false, false, false, false, false] rfl rfl (any_of HT_.out (by kernel_rfl)) (fun _ _ _ h => h) (Or.inl ⟨by rfl, ?_⟩) ?_ ?_
              rotate_left
              ·intro w'
               go_simp
               with_reducible rfl
              rotate_left
              ·simp only [Act.put, List.setIfInBounds_toArray, List.set_cons_zero, List.set_cons_succ, i64_w, i32_w]
               rfl
              refine pure_ (i := 6) (N := some 56) (v := ?_) (a' := ?_) #[true, true, true, true, false, true, true, false, false, false, false, false, false, false, false, false, false, false, false] rfl rfl (any_of HT_.out (by kernel_rfl)) (fun _ _ _ h => h) (Or.inl ⟨by rfl, ?_⟩) ?_ ?_
              rotate_left
              ·intro w'
               go_simp
               with_reducible rfl
              rotate_left
              ·simp only [Act.put, List.setIfInBounds_toArray, List.set_cons_zero, List.set_cons_succ, i64_w, i32_w]
               rfl
              refine pure_ (i := 7) (N := some 57) (v := ?_) (a' := ?_) #[true, true, true, true, false, true, true, true, false, false, false, false, false, false, false, false, false, false, false] rfl rfl (any_of HT_.out (by kernel_rfl)) (fun _ _ _ h => h) (Or.inl ⟨by rfl, ?_⟩) ?_ ?_
              rotate_left
              ·intro w'
               go_simp
               with_reducible rfl
              rotate_left
              ·simp only [Act.put, List.setIfInBounds_toArray, List.set_cons_zero, List.set_cons_succ, i64_w, i32_w]
               rfl
              refine pure_ (i := 9) (N := some 59) (v := ?_) (a' := ?_) #[true, true, true, true, false, true, true, true, false, true, false, false, false, false, false, false, false, false, false] rfl rfl (any_of HT_.out (by kernel_rfl)) (fun _ _ _ h => h) (Or.inl ⟨by rfl, ?_⟩) ?_ ?_
              rotate_left
              ·intro w'
               go_simp
               with_reducible rfl
              rotate_left
              ·simp only [Act.put, List.setIfInBounds_toArray, List.set_cons_zero, List.set_cons_succ, i64_w, i32_w]
               rfl
              refine pure_ (i := 10) (N := some 60) (v := ?_) (a' := ?_) #[true, true, true, true, false, true, true, true, false, true, true, false, false, false, false, false, false, false, false] rfl rfl (any_of HT_.out (by kernel_rfl)) (fun _ _ _ h => h) (Or.inl ⟨by rfl, ?_⟩) ?_ ?_
              rotate_left
              ·intro w'
               go_simp
               with_reducible rfl
              rotate_left
              ·simp only [Act.put, List.setIfInBounds_toArray, List.set_cons_zero, List.set_cons_succ, i64_w, i32_w]
               rfl
              refine pure_ (i := 11) (N := some 61) (v := ?_) (a' := ?_) #[true, true, true, true, false, true, true, true, false, true, true, true, false, false, false, false, false, false, false] rfl rfl (any_of HT_.out (by kernel_rfl)) (fun _ _ _ h => h) (Or.inl ⟨by rfl, ?_⟩) ?_ ?_
              rotate_left
              ·intro w'
               go_simp
               with_reducible rfl
              rotate_left
              ·simp only [Act.put, List.setIfInBounds_toArray, List.set_cons_zero, List.set_cons_succ, i64_w, i32_w]
               rfl
              refine pure_ (i := 14) (N := some 64) (v := ?_) (a' := ?_) #[true, true, true, true, false, true, true, true, false, true, true, true, false, false, true, false, false, false, false] rfl rfl (any_of HT_.out (by kernel_rfl)) (fun _ _ _ h => h) (Or.inl ⟨by rfl, ?_⟩) ?_ ?_
              rotate_left
              ·intro w'
               go_simp
               with_reducible rfl
              rotate_left
              ·simp only [Act.put, List.setIfInBounds_toArray, List.set_cons_zero, List.set_cons_succ, i64_w, i32_w]
               rfl
              refine take_ (i := 4) (N := some 54) (v := ?_) (a' := ?_) #[true, true, true, true, true, true, true, true, false, true, true, true, false, false, true, false, false, false, false] rfl rfl (take_ofW HT_.out HW_.out (by kernel_rfl)) (fun _ _ _ h => h) (Or.inl ⟨by rfl, ?_⟩) hHeld ?_ ?_
              rotate_left
              ·rintro w' ⟨s0, s1, s2, s3, s4, s5, s6, s7, s8⟩
               go_simp
               with_reducible rfl
              rotate_left
              ·simp only [Act.put, List.setIfInBounds_toArray, List.set_cons_zero, List.set_cons_succ, i64_w, i32_w]
               rfl
              refine take_ (i := 8) (N := some 58) (v := ?_) (a' := ?_) #[true, true, true, true, true, true, true, true, true, true, true, true, false, false, true, false, false, false, false] rfl rfl (take_ofW HT_.out HW_.out (by kernel_rfl)) (fun _ _ _ h => h) (Or.inl ⟨by rfl, ?_⟩) hHeld ?_ ?_
              rotate_left
              ·rintro w' ⟨s0, s1, s2, s3, s4, s5, s6, s7, s8⟩
               go_simp
               with_reducible rfl
              rotate_left
              ·simp only [Act.put, List.setIfInBounds_toArray, List.set_cons_zero, List.set_cons_succ, i64_w, i32_w]
               rfl
              refine take_ (i := 12) (N := some 62) (v := ?_) (a' := ?_) #[true, true, true, true, true, true, true, true, true, true, true, true, true, false, true, false, false, false, false] rfl rfl (take_ofW HT_.out HW_.out (by kernel_rfl)) (fun _ _ _ h => h) (Or.inl ⟨by rfl, ?_⟩) hHeld ?_ ?_
              rotate_left
              ·rintro w' ⟨s0, s1, s2, s3, s4, s5, s6, s7, s8⟩
               go_simp
               with_reducible rfl
              rotate_left
              ·simp only [Act.put, List.setIfInBounds_toArray, List.set_cons_zero, List.set_cons_succ, i64_w, i32_w]
               rfl
              refine pure_ (i := 13) (N := some 63) (v := ?_) (a' := ?_) #[true, true, true, true, true, true, true, true, true, true, true, true, true, true, true, false, false, false, false] rfl rfl (any_of HT_.out (by kernel_rfl)) (fun _ _ _ h => h) (Or.inl ⟨by rfl, ?_⟩) ?_ ?_
              rotate_left
              ·intro w'
               go_simp
               with_reducible rfl
              rotate_left
              ·simp only [Act.put, List.setIfInBounds_toArray, List.set_cons_zero, List.set_cons_succ, i64_w, i32_w]
               rfl
              refine pure_ (i := 15) (N := some 65) (v := ?_) (a' := ?_) #[true, true, true, true, true, true, true, true, true, true, true, true, true, true, true, true, false, false, false] rfl rfl (any_of HT_.out (by kernel_rfl)) (fun _ _ _ h => h) (Or.inl ⟨by rfl, ?_⟩) ?_ ?_
              rotate_left
              ·intro w'
               go_simp
               with_reducible rfl
              rotate_left
              ·simp only [Act.put, List.setIfInBounds_toArray, List.set_cons_zero, List.set_cons_succ, i64_w, i32_w]
               rfl
              refine pure_ (i := 16) (N := some 66) (v := ?_) (a' := ?_) #[true, true, true, true, true, true, true, true, true, true, true, true, true, true, true, true, true, false, false] rfl rfl (any_of HT_.out (by kernel_rfl)) (fun _ _ _ h => h) (Or.inl ⟨by rfl, ?_⟩) ?_ ?_
              rotate_left
              ·intro w'
               go_simp
               with_reducible rfl
              rotate_left
              ·simp only [Act.put, List.setIfInBounds_toArray, List.set_cons_zero, List.set_cons_succ, i64_w, i32_w]
               rfl
              refine pure_ (i := 17) (N := some 67) (v := ?_) (a' := ?_) #[true, true, true, true, true, true, true, true, true, true, true, true, true, true, true, true, true, true, false] rfl rfl (any_of HT_.out (by kernel_rfl)) (fun _ _ _ h => h) (Or.inl ⟨by rfl, ?_⟩) ?_ ?_
              rotate_left
              ·intro w'
               go_simp
               with_reducible rfl
              rotate_left
              ·simp only [Act.put, List.setIfInBounds_toArray, List.set_cons_zero, List.set_cons_succ, i64_w, i32_w]
               rfl
              refine last_ (i := 18) (N := none) #[true, true, true, true, true, true, true, true, true, true, true, true, true, true, true, true, true, true, true] rfl rfl (one_of HT_.out (by kernel_rfl)) (by decide) (fun K hK => ?_)
              refine skip_ (w1 := ?_) (by rfl) rfl ?_ ?_
              rotate_left
              ·go_simp
               rfl
              refine hK.out _ _ ?_
              clear hK K
              refine done_ (done_of HT_.out (by kernel_rfl)) ?_
              try go_wp2
              go_meet
              case rel => exact ⟨_, (y615), H', ⟨by have := HJ6.out; have := HJ15.out; have := HJ19.out; have := HJ23.out; have := HJ27.out; first | omega | exact Nat.le_refl _⟩, ⟨by (with_reducible repeat (first | apply Kd.R_alloc | apply Kd.R_drewN | apply Kd.R_drew)); exact HQ37.out⟩, ⟨by (with_reducible repeat (first | refine blk_drewN ?_ _ | refine blk_drew ?_ | refine blk_alloc ?_ _)); refine blk_far ?_ (by have h_ := Kd.R_ne HO_9.out BK600.out (by decide); intro e_; exact h_ (by rw [e_]; rfl)) _; (with_reducible repeat (first | refine blk_drewN ?_ _ | refine blk_drew ?_ | refine blk_alloc ?_ _)); refine blk_far ?_ (by have h_ := Kd.R_ne HO_9.out BK600.out (by decide); intro e_; exact h_ (by rw [e_]; rfl)) _; (with_reducible repeat (first | refine blk_drewN ?_ _ | refine blk_drew ?_ | refine blk_alloc ?_ _)); refine blk_far ?_ (by have h_ := Kd.R_ne HO_9.out BK600.out (by decide); intro e_; exact h_ (by rw [e_]; rfl)) _; (with_reducible repeat (first | refine blk_drewN ?_ _ | refine blk_drew ?_ | refine blk_alloc ?_ _)); exact BK600.out⟩, ⟨by (with_reducible repeat (first | refine blk_drewN ?_ _ | refine blk_drew ?_ | refine blk_alloc ?_ _)); refine blk_far ?_ (by have h_ := Kd.R_ne HO_9.out BK601.out (by decide); intro e_; exact h_ (by rw [e_]; rfl)) _; (with_reducible repeat (first | refine blk_drewN ?_ _ | refine blk_drew ?_ | refine blk_alloc ?_ _)); refine blk_far ?_ (by have h_ := Kd.R_ne HO_9.out BK601.out (by decide); intro e_; exact h_ (by rw [e_]; rfl)) _; (with_reducible repeat (first | refine blk_drewN ?_ _ | refine blk_drew ?_ | refine blk_alloc ?_ _)); refine blk_far ?_ (by have h_ := Kd.R_ne HO_9.out BK601.out (by decide); intro e_; exact h_ (by rw [e_]; rfl)) _; (with_reducible repeat (first | refine blk_drewN ?_ _ | refine blk_drew ?_ | refine blk_alloc ?_ _)); exact BK601.out⟩, ⟨by repeat (first | (with_reducible first | exact HB.out | apply below_alloc | apply pw_below_drewN | apply below_drew1 | refine below_set ?_ GB34.out | refine below_set ?_ GB34.out | refine below_set ?_ GB34.out | refine below_set ?_ GE600.out | refine below_set ?_ GE601.out) | exact HB.out)⟩⟩
             ·rw [if_neg c33] at H
              exact absurd H (by simp)
            ·replace c32 := Bool.eq_false_iff.mpr c32
             subst c32
             have H1 : (spec_l1SpoilFS.j5 kj27 t602 t604 x9_23 l2_0 x601001_15 x601002_19) = some (r1, r2, r3) := by rw [if_neg (show ¬ (false = true) by decide)] at H; exact H
             clear H
             have H := H1
             clear H1
             have H' := Aside0.mk H
             clear H
             go_wp2
             go_meet
             case rel => exact ⟨_, (x9_23), H', ⟨by have := HJ6.out; have := HJ15.out; have := HJ19.out; have := HJ23.out; have := HJ27.out; first | omega | exact Nat.le_refl _⟩, ⟨by (with_reducible repeat (first | apply Kd.R_alloc | apply Kd.R_drewN | apply Kd.R_drew)); exact HO_9.out⟩, ⟨by (with_reducible repeat (first | refine blk_drewN ?_ _ | refine blk_drew ?_ | refine blk_alloc ?_ _)); exact BK600.out⟩, ⟨by (with_reducible repeat (first | refine blk_drewN ?_ _ | refine blk_drew ?_ | refine blk_alloc ?_ _)); exact BK601.out⟩, ⟨by repeat (first | (with_reducible first | exact HB.out | apply below_alloc | apply pw_below_drewN | apply below_drew1 | refine below_set ?_ GE600.out | refine below_set ?_ GE601.out) | exact HB.out)⟩⟩
           case rest =>
            clear HC31
            try clear c1
            try clear c2
            try clear p2
            try clear c3
            try clear p3
            try clear q3
            try clear hx3
            try clear qi3
            try clear hf3
            try clear c5
            try clear c6
            try clear p6
            try clear q6
            try clear hx6
            try clear qi6
            try clear c8
            try clear c10
            try clear c13
            try clear c13b0
            try clear c13b1
            try clear c14
            try clear c17
            try clear c17b0
            try clear c17b1
            try clear c18
            try clear c21
            try clear c21b0
            try clear c21b1
            try clear c22
            try clear c25
            try clear c25b0
            try clear c25b1
            try clear c26
            try clear c29
            try clear c29b0
            try clear c29b1
            try clear c32
            try clear c33
            try clear c33b0
            try clear c33b1
            try clear c34
            try clear p34
            try clear q34
            try clear hx34
            try clear qi34
            try clear hf34
            try clear c37
            try clear hcz11_0
            try clear hcz11_1
            try clear hcz11_2
            try clear hcz15_0
            try clear hcz15_1
            try clear hcz15_2
            try clear hcz19_0
            try clear hcz19_1
            try clear hcz19_2
            try clear hcz23_0
            try clear hcz23_1
            try clear hcz23_2
            try clear hfz11_0
            try clear hfz11_1
            try clear hfz11_2
            try clear hfz15_0
            try clear hfz15_1
            try clear hfz15_2
            try clear hfz19_0
            try clear hfz19_1
            try clear hfz19_2
            try clear hfz23_0
            try clear hfz23_1
            try clear hfz23_2
            try clear hx34_0
            try clear hx34_1
            try clear hx34_2
            try clear hx612_0
            try clear hx612_1
            try clear hx612_2
            try clear hx613_0
            try clear hx613_1
            try clear hx613_2
            try clear hx614_0
            try clear hx614_1
            try clear hx614_2
            try clear p2
            try clear p34
            try clear p6
            try clear p612
            try clear p613
            try clear p614
            try clear q34
            try clear q612
            try clear q613
            try clear q614
            obtain ⟨kq, x9_30, HA, HJ30, HO_9, BK600, BK601, HB⟩ := hcut
            cases kq with
            | zero => exact absurd HA.out (by simp [spec_l1SpoilFS.j5])
            | succ kj30 =>
             have H := HA.out
             clear HA
             simp only [spec_l1SpoilFS.j5] at H
             have HC38 := Aside0.mk H
             clear H
             go_upto_region 15 with (fail)
             go_cut [74] (fun v74 wc => ∃ (kq : Nat) (x74_37 : Bool), v74 = .bool x74_37 ∧ Aside0 (spec_l1SpoilFS.j6 kq t602 t604 x9_30 x74_37 l2_0 x601001_15 x601002_19 = some (r1, r2, r3)) ∧ Aside0 (kq ≤ kj30) ∧ Aside0 (Kd.R k52 52 wc w.heap.size (fun _ => True) u9 x9_30) ∧ Aside0 (wc.heap[gb600]? = some (.cells #[(.slice A2_0 l2_0.length c2_0), .int .i64 x601001_15, .int .i64 x601002_19] 29 (0, 0))) ∧ Aside0 (wc.heap[gb601]? = some (.cells #[(.slice none 0 0), .int .i64 0, .int .i64 0] 29 (0, 0))) ∧ Aside0 (Below w.heap.size w wc))
             case first =>
              have H := HC38.out
              clear HC38
              by_cases c39 : t602 = 5
              ·rw [if_pos c39] at H
               have c39b0 : (t602 == 5) = true := beq_iff_eq.mpr c39
               have c39b1 : (t602 != 5) = false := bne_eq_false_iff_eq.mpr c39
               clear c39
               (first | rw [c39b0] | (simp only [i64_w, i32_w]; rw [c39b0]) | skip)
               have H' := Aside0.mk H
               clear H
               obtain ⟨Ao40, co40, eo40⟩ := Kd.R_slice HO_9.out
               subst eo40
               go_wp2
               go_meet
               case rel => exact ⟨_, (decide ((x9_30.length : Int) > 0)), (by first | rfl | (simp; done) | (simp [*]; done)), H', ⟨by have := HJ6.out; have := HJ15.out; have := HJ19.out; have := HJ23.out; have := HJ27.out; have := HJ30.out; first | omega | exact Nat.le_refl _⟩, ⟨by (with_reducible repeat (first | apply Kd.R_alloc | apply Kd.R_drewN | apply Kd.R_drew)); exact HO_9.out⟩, ⟨by (with_reducible repeat (first | refine blk_drewN ?_ _ | refine blk_drew ?_ | refine blk_alloc ?_ _)); exact BK600.out⟩, ⟨by (with_reducible repeat (first | refine blk_drewN ?_ _ | refine blk_drew ?_ | refine blk_alloc ?_ _)); exact BK601.out⟩, ⟨by repeat (first | (with_reducible first | exact HB.out | apply below_alloc | apply pw_below_drewN | apply below_drew1 | refine below_set ?_ GE600.out | refine below_set ?_ GE601.out) | exact HB.out)⟩⟩
              ·rw [if_neg c39] at H
               have c39b0 : (t602 == 5) = false := beq_eq_false_iff_ne.mpr c39
               have c39b1 : (t602 != 5) = true := bne_iff_ne.mpr c39
               (first | rw [c39b0] | (simp only [i64_w, i32_w]; rw [c39b0]) | skip)
               have H' := Aside0.mk H
               clear H
               go_wp2
               go_meet
               case rel => exact ⟨_, (false), (by first | rfl | (simp; done) | (simp [*]; done)), H', ⟨by have := HJ6.out; have := HJ15.out; have := HJ19.out; have := HJ23.out; have := HJ27.out; have := HJ30.out; first | omega | exact Nat.le_refl _⟩, ⟨by (with_reducible repeat (first | apply Kd.R_alloc | apply Kd.R_drewN | apply Kd.R_drew)); exact HO_9.out⟩, ⟨by (with_reducible repeat (first | refine blk_drewN ?_ _ | refine blk_drew ?_ | refine blk_alloc ?_ _)); exact BK600.out⟩, ⟨by (with_reducible repeat (first | refine blk_drewN ?_ _ | refine blk_drew ?_ | refine blk_alloc ?_ _)); exact BK601.out⟩, ⟨by repeat (first | (with_reducible first | exact HB.out | apply below_alloc | apply pw_below_drewN | apply below_drew1 | refine below_set ?_ GE600.out | refine below_set ?_ GE601.out) | exact HB.out)⟩⟩
             case rest =>
              clear HC38
              try clear c1
              try clear c2
              try clear p2
              try clear c3
              try clear p3
              try clear q3
              try clear hx3
              try clear qi3
              try clear hf3
              try clear c5
              try clear c6
              try clear p6
              try clear q6
              try clear hx6
              try clear qi6
              try clear c8
              try clear c10
              try clear c13
              try clear c13b0
              try clear c13b1
              try clear c14
              try clear c17
              try clear c17b0
              try clear c17b1
              try clear c18
              try clear c21
              try clear c21b0
              try clear c21b1
              try clear c22
              try clear c25
              try clear c25b0
              try clear c25b1
              try clear c26
              try clear c29
              try clear c29b0
              try clear c29b1
              try clear c32
              try clear c33
              try clear c33b0
              try clear c33b1
              try clear c34
              try clear p34
              try clear q34
              try clear hx34
              try clear qi34
              try clear hf34
              try clear c37
              try clear c39
              try clear c39b0
              try clear c39b1
              try clear hcz11_0
              try clear hcz11_1
              try clear hcz11_2
              try clear hcz15_0
              try clear hcz15_1
              try clear hcz15_2
              try clear hcz19_0
              try clear hcz19_1
              try clear hcz19_2
              try clear hcz23_0
              try clear hcz23_1
              try clear hcz23_2
              try clear hfz11_0
              try clear hfz11_1
              try clear hfz11_2
              try clear hfz15_0
              try clear hfz15_1
              try clear hfz15_2
              try clear hfz19_0
              try clear hfz19_1
              try clear hfz19_2
              try clear hfz23_0
              try clear hfz23_1
              try clear hfz23_2
              try clear hx34_0
              try clear hx34_1
              try clear hx34_2
              try clear hx612_0
              try clear hx612_1
              try clear hx612_2
              try clear hx613_0
              try clear hx613_1
              try clear hx613_2
              try clear hx614_0
              try clear hx614_1
              try clear hx614_2
              try clear p2
              try clear p3
              try clear p34
              try clear p6
              try clear p612
              try clear p613
              try clear p614
              try clear q3
              try clear q34
              try clear q6
              try clear q612
              try clear q613
              try clear q614
              obtain ⟨kq, x74_37, rfl, HA, HJ37, HO_9, BK600, BK601, HB⟩ := hcut
              cases kq with
              | zero => exact absurd HA.out (by simp [spec_l1SpoilFS.j6])
              | succ kj37 =>
               have H := HA.out
               clear HA
               simp only [spec_l1SpoilFS.j6] at H
               have HC41 := Aside0.mk H
               clear H
               go_upto_if 74 with (fail)
               go_cut [] (fun wc => ∃ (kq : Nat) (x9_40 : List (S52)), Aside0 (spec_l1SpoilFS.j7 kq t602 t604 x9_40 l2_0 x601001_15 x601002_19 = some (r1, r2, r3)) ∧ Aside0 (kq ≤ kj37) ∧ Aside0 (Kd.R k52 52 wc w.heap.size (fun _ => True) u9 x9_40) ∧ Aside0 (wc.heap[gb600]? = some (.cells #[(.slice A2_0 l2_0.length c2_0), .int .i64 x601001_15, .int .i64 x601002_19] 29 (0, 0))) ∧ Aside0 (wc.heap[gb601]? = some (.cells #[(.slice none 0 0), .int .i64 0, .int .i64 0] 29 (0, 0))) ∧ Aside0 (Below w.heap.size w wc))
               case first =>
                have H := HC41.out
                clear HC41
                by_cases c42 : x74_37 = true
                ·subst c42
                 have H1 : (if 0 < (x9_30.length : Int) then (spec_l1SpoilFS.j7 kj37 t602 t604 (x9_30.set (0 : Int).toNat (⟨(rd_T52 x9_30 0).f0, (rd_T52 x9_30 0).f1, (-1)⟩ : S52)) l2_0 x601001_15 x601002_19) else (none)) = some (r1, r2, r3) := by rw [if_pos rfl] at H; exact H
                 clear H
                 have H := H1
                 clear H1
                 by_cases c43 : 0 < (x9_30.length : Int)
                 ·rw [if_pos c43] at H
                  have c43b0 : decide (0 < (x9_30.length : Int)) = true := decide_eq_true c43
                  have c43b1 : decide (0 < x9_30.length) = true := decide_eq_true (by omega)
                  clear c43
                  (first | rw [c43b0] | (simp only [i64_w, i32_w]; rw [c43b0]) | skip)
                  obtain ⟨y618, hy618⟩ : ∃ y_ : List (S52), y_ = (x9_30.set (0 : Int).toNat (⟨(rd_T52 x9_30 0).f0, (rd_T52 x9_30 0).f1, (-1)⟩ : S52)) := ⟨_, rfl⟩
                  replace H : (spec_l1SpoilFS.j7 kj37 t602 t604 y618 l2_0 x601001_15 x601002_19) = some (r1, r2, r3) := by first | (rw [hy618]; with_reducible exact H) | (have H2_ := (Option.bind_some _ _).symm.trans H; rw [hy618]; with_reducible exact H2_) | (have H2_ := (Option.bind_some _ _).symm.trans H; with_reducible exact H2_) | with_reducible exact H | (rw [hy618]; exact H) | exact H
                  have Ny618 := Aside0.mk hy618
                  clear hy618
                  have H' := Aside0.mk H
                  clear H
                  try go_wp2
                  have n0_ := Aside0.mk (Kd.R_drew HO_9.out)
                  have n1_ := Aside0.mk (blk_drew BK600.out)
                  have n2_ := Aside0.mk (blk_drew BK601.out)
                  have n3_ := Aside0.mk (below_drew1 HB.out)
                  clear HO_9
                  clear BK600
                  clear BK601
                  clear HB
                  have HO_9 := n0_
                  have BK600 := n1_
                  have BK601 := n2_
                  have HB := n3_
                  clear n0_ n1_ n2_ n3_
                  obtain ⟨Ao46, co46, eo46⟩ := Kd.R_slice HO_9.out
                  (first | subst eo46 | (injection eo46 with f1_ f2_ f3_; have f4_ := f1_.symm; have f5_ := f3_.symm; clear f1_ f2_ f3_; subst f4_; subst f5_))
                  have p616 : 0 ≤ (0 : Int) := (by omega)
                  have q616 : 0 < (x9_30.length : Int) := of_decide_eq_true (by first | (with_reducible assumption) | assumption)
                  obtain ⟨ad616, e616, hx616_0, hx616_1, hx616_2⟩ := at_T52 (Kd.R_reads' HO_9.out).2.2 0 p616 q616
                  cases e616
                  have qi616 : (0 < x9_30.length) = True := eq_true (by omega)
                  (try rw [show ((0 : Int)).toNat = 0 from rfl] at hx616_0)
                  (try rw [show 0 * 3 = 0 from rfl] at hx616_0)
                  (try rw [Addr.add_zero'] at hx616_0)
                  (try rw [show ((0 : Int)).toNat = 0 from rfl] at hx616_1)
                  (try rw [show 0 * 3 = 0 from rfl] at hx616_1)
                  (try rw [Addr.add_zero'] at hx616_1)
                  (try rw [show ((0 : Int)).toNat = 0 from rfl] at hx616_2)
                  (try rw [show 0 * 3 = 0 from rfl] at hx616_2)
                  (try rw [Addr.add_zero'] at hx616_2)
                  replace p616 := eq_true p616
                  replace q616 := eq_true q616
                  have p617 : 0 ≤ (0 : Int) := (by omega)
                  have q617 : 0 < (x9_30.length : Int) := of_decide_eq_true (by first | (with_reducible assumption) | assumption)
                  obtain ⟨ad617, e617, hx617_0, hx617_1, hx617_2⟩ := at_T52 (Kd.R_reads' HO_9.out).2.2 0 p617 q617
                  obtain rfl : ad616 = ad617 := (by injection e617)
                  have qi617 : (0 < x9_30.length) = True := eq_true (by omega)
                  (try rw [show ((0 : Int)).toNat = 0 from rfl] at hx617_0)
                  (try rw [show 0 * 3 = 0 from rfl] at hx617_0)
                  (try rw [Addr.add_zero'] at hx617_0)
                  (try rw [show ((0 : Int)).toNat = 0 from rfl] at hx617_1)
                  (try rw [show 0 * 3 = 0 from rfl] at hx617_1)
                  (try rw [Addr.add_zero'] at hx617_1)
                  (try rw [show ((0 : Int)).toNat = 0 from rfl] at hx617_2)
                  (try rw [show 0 * 3 = 0 from rfl] at hx617_2)
                  (try rw [Addr.add_zero'] at hx617_2)
                  replace p617 := eq_true p617
                  replace q617 := eq_true q617
                  have p44 : 0 ≤ (0 : Int) := (by omega)
                  have q44 : (0 : Int) < ((x9_30.length : Int) : Int) := of_decide_eq_true (by first | (with_reducible assumption) | assumption)
                  have qi44 : (0 < x9_30.length) = True := eq_true (by omega)
                  obtain ⟨go44, co44, eo44, gb44, gl44, cl44, HG44⟩ := Kd.R_form HO_9.out (by omega)
                  (first | cases eo44 | (injection eo44 with ea_ en_ ec_; (first | subst ea_ | (injection ea_ with ea_; subst ea_)); subst ec_; clear en_))
                  have GB44 := Aside0.mk gb44
                  have GG44 := Aside0.mk HG44
                  clear gb44 gl44 HG44
                  (first | simp only [add_plain] at hx616_0 | skip)
                  (first | simp only [add_plain] at hx616_1 | skip)
                  (first | simp only [add_plain] at hx616_2 | skip)
                  (first | simp only [add_plain] at hx617_0 | skip)
                  (first | simp only [add_plain] at hx617_1 | skip)
                  (first | simp only [add_plain] at hx617_2 | skip)
                  obtain ⟨ce44, hcl44, hM44, hcc44, hfr44⟩ := Kd.R_elem HO_9.out z52 (0 : Int) p44 q44
                  obtain rfl := k52_openM hM44
                  have hx44_0 : World.cell? _ ⟨go44, (0 : Int).toNat * 3, none⟩ = some (.string ((rd_T52 x9_30 0).f0)) := hcc44 0 _ rfl
                  have hx44_1 : World.cell? _ ⟨go44, (0 : Int).toNat * 3 + 1, none⟩ = some (.string ((rd_T52 x9_30 0).f1)) := hcc44 1 _ rfl
                  have hx44_2 : World.cell? _ ⟨go44, (0 : Int).toNat * 3 + 2, none⟩ = some (.int .i64 ((rd_T52 x9_30 0).f2)) := hcc44 2 _ rfl
                  have hf44_0 : World.frozen? _ ⟨go44, (0 : Int).toNat * 3, none⟩ = false := hfr44 0
                  have hf44_1 : World.frozen? _ ⟨go44, (0 : Int).toNat * 3 + 1, none⟩ = false := hfr44 1
                  have hf44_2 : World.frozen? _ ⟨go44, (0 : Int).toNat * 3 + 2, none⟩ = false := hfr44 2
                  clear hcl44 hcc44 hfr44 hM44
                  (try rw [show ((0 : Int)).toNat = 0 from rfl] at hx44_0)
                  (try simp only [Nat.reduceMul, Nat.zero_mul, Nat.zero_add, Nat.reduceAdd] at hx44_0)
                  (try rw [show ((0 : Int)).toNat = 0 from rfl] at hf44_0)
                  (try simp only [Nat.reduceMul, Nat.zero_mul, Nat.zero_add, Nat.reduceAdd] at hf44_0)
                  (try rw [show ((0 : Int)).toNat = 0 from rfl] at hx44_1)
                  (try simp only [Nat.reduceMul, Nat.zero_mul, Nat.zero_add, Nat.reduceAdd] at hx44_1)
                  (try rw [show ((0 : Int)).toNat = 0 from rfl] at hf44_1)
                  (try simp only [Nat.reduceMul, Nat.zero_mul, Nat.zero_add, Nat.reduceAdd] at hf44_1)
                  (try rw [show ((0 : Int)).toNat = 0 from rfl] at hx44_2)
                  (try simp only [Nat.reduceMul, Nat.zero_mul, Nat.zero_add, Nat.reduceAdd] at hx44_2)
                  (try rw [show ((0 : Int)).toNat = 0 from rfl] at hf44_2)
                  (try simp only [Nat.reduceMul, Nat.zero_mul, Nat.zero_add, Nat.reduceAdd] at hf44_2)
                  replace p44 := eq_true p44
                  replace q44 := eq_true q44
                  obtain ⟨ce47, hcl47, hM47, hcc47, hfr47⟩ := Kd.R_elem HO_9.out z52 (0 : Int) (by omega) (by have h_ : (0 : Int) < ((x9_30.length : Int) : Int) := of_decide_eq_true (by first | (with_reducible assumption) | assumption); first | exact h_ | (have e_ := (Kd.R_reads' HO_9.out).1; omega) | simpa using h_)
                  obtain rfl := k52_openM hM47
                  have HP47 := (Kd.R_seg HO_9.out (0 : Int) (by omega) (by have h_ : (0 : Int) < ((x9_30.length : Int) : Int) := of_decide_eq_true (by first | (with_reducible assumption) | assumption); first | exact h_ | (have e_ := (Kd.R_reads' HO_9.out).1; omega) | simpa using h_) (seg := [.string ((rd_T52 x9_30 0).f0), .string ((rd_T52 x9_30 0).f1), .int .i64 (-1)]) (j := 0) hcl47 hcc47 (show 3 ≤ 3 from by decide) (x' := (⟨(rd_T52 x9_30 0).f0, (rd_T52 x9_30 0).f1, (-1)⟩ : S52)) (k52_mkM _ _ _ (⟨(rd_T52 x9_30 0).f0, (rd_T52 x9_30 0).f1, (-1)⟩ : S52) ) (fun _ hk => hk)).1
                  rw [← Ny618.out] at HP47
                  have HQ47 := Aside0.mk HP47
                  clear hcl47 hcc47 hfr47 hM47 HP47
                  refine start_ (n := 12) (S := fun w' => w'.cell? ⟨go44, 0, none⟩ = some (.string ((rd_T52 x9_30 0).f0)) ∧ w'.cell? ⟨go44, 1, none⟩ = some (.string ((rd_T52 x9_30 0).f1)) ∧ w'.cell? ⟨go44, 2, none⟩ = some (.int .i64 ((rd_T52 x9_30 0).f2)) ∧ w'.cell? ⟨go44, 0, none⟩ = some (.string ((rd_T52 x9_30 0).f0)) ∧ w'.cell? ⟨go44, 1, none⟩ = some (.string ((rd_T52 x9_30 0).f1)) ∧ w'.cell? ⟨go44, 2, none⟩ = some (.int .i64 ((rd_T52 x9_30 0).f2))) (ds := [11]) #[false, false, false, false, false, false, false, false, false, false, false, false] (by kernel_rfl) rfl rfl ⟨hx616_0, hx616_1, hx616_2, hx617_0, hx617_1, hx617_2⟩ (fun hHeld => ?_); refine with_tabW spec_l1SpoilFS.tab16 spec_l1SpoilFS.bits16 (fun HT_ HW_ => ?_)
                  generalize wc.drew = w45 at HO_9 BK600 BK601 HB GG44 HQ47 hf44_0 hf44_1 hf44_2 hx44_0 hx44_1 hx44_2 hx616_0 hx616_1 hx616_2 hx617_0 hx617_1 hx617_2 hHeld ⊢
                  refine pure_ (i := 0) (N := some 75) (v := ?_) (a' := ?_) #[true, false, false, false, false, false, false, false, false, false, false, false] rfl rfl (any_of HT_.out (by kernel_rfl)) (fun _ _ _ h => h) (Or.inl ⟨by rfl, ?_⟩) ?_ ?_
                  rotate_left
                  ·intro w'
                   go_simp
                   with_reducible rfl
                  rotate_left
                  ·simp only [Act.put, List.setIfInBounds_toArray, List.set_cons_zero, List.set_cons_succ, i64_w, i32_w]
                   rfl
                  refine pure_ (i := 1) (N := some 76) (v := ?_) (a' := ?_) #[true, true, false, false, false, false, false, false, false, false, false, false] rfl rfl (any_of HT_.out (by kernel_rfl)) (fun _ _ _ h => h) (Or.inl ⟨by rfl, ?_⟩) ?_ ?_
                  rotate_left
                  ·intro w'
                   go_simp
                   with_reducible rfl
                  rotate_left
                  ·simp only [Act.put, List.setIfInBounds_toArray, List.set_cons_zero, List.set_cons_succ, i64_w, i32_w]
                   rfl
                  refine pure_ (i := 2) (N := some 77) (v := ?_) (a' := ?_) #[true, true, true, false, false, false, false, false, false, false, false, false] rfl rfl (any_of HT_.out (by kernel_rfl)) (fun _ _ _ h => h) (Or.inl ⟨by rfl, ?_⟩) ?_ ?_
                  rotate_left
                  ·intro w'
                   go_simp
                   with_reducible rfl
                  rotate_left
                  ·simp only [Act.put, List.setIfInBounds_toArray, List.set_cons_zero, List.set_cons_succ, i64_w, i32_w]
                   rfl
                  refine pure_ (i := 3) (N := some 78) (v := ?_) (a' := ?_) #[true, true, true, true, false, false, false, false, false, false, false, false] rfl rfl (any_of HT_.out (by kernel_rfl)) (fun _ _ _ h => h) (Or.inl ⟨by rfl, ?_⟩) ?_ ?_
                  rotate_left
                  ·intro w'
                   go_simp
                   with_reducible rfl
                  rotate_left
                  ·simp only [Act.put, List.setIfInBounds_toArray, List.set_cons_zero, List.set_cons_succ, i64_w, i32_w]
                   rfl
                  refine pure_ (i := 5) (N := some 80) (v := ?_) (a' := ?_) #[true, true, true, true, false, true, false, false, false, false, false, false] rfl rfl (any_of HT_.out (by kernel_rfl)) (fun _ _ _ h => h) (Or.inl ⟨by rfl, ?_⟩) ?_ ?_
                  rotate_left
                  ·intro w'
                   go_simp
                   with_reducible rfl
                  rotate_left
                  ·simp only [Act.put, List.setIfInBounds_toArray, List.set_cons_zero, List.set_cons_succ, i64_w, i32_w]
                   rfl
                  refine pure_ (i := 6) (N := some 81) (v := ?_) (a' := ?_) #[true, true, true, true, false, true, true, false, false, false, false, false] rfl rfl (any_of HT_.out (by kernel_rfl)) (fun _ _ _ h => h) (Or.inl ⟨by rfl, ?_⟩) ?_ ?_
                  rotate_left
                  ·intro w'
                   go_simp
                   with_reducible rfl
                  rotate_left
                  ·simp only [Act.put, List.setIfInBounds_toArray, List.set_cons_zero, List.set_cons_succ, i64_w, i32_w]
                   rfl
                  refine pure_ (i := 7) (N := some 82) (v := ?_) (a' := ?_) #[true, true, true, true, false, true, true, true, false, false, false, false] rfl rfl (any_of HT_.out (by kernel_rfl)) (fun _ _ _ h => h) (Or.inl ⟨by rfl, ?_⟩) ?_ ?_
                  rotate_left
                  ·intro w'
                   go_simp
                   with_reducible rfl
                  rotate_left
                  ·simp only [Act.put, List.setIfInBounds_toArray, List.set_cons_zero, List.set_cons_succ, i64_w, i32_w]
                   rfl
                  refine take_ (i := 4) (N := some 79) (v := ?_) (a' := ?_) #[true, true, true, true, true, true, true, true, false, false, false, false] rfl rfl (take_ofW HT_.out HW_.out (by kernel_rfl)) (fun _ _ _ h => h) (Or.inl ⟨by rfl, ?_⟩) hHeld ?_ ?_
                  rotate_left
                  ·rintro w' ⟨s0, s1, s2, s3, s4, s5⟩
                   go_simp
                   with_reducible rfl
                  rotate_left
                  ·simp only [Act.put, List.setIfInBounds_toArray, List.set_cons_zero, List.set_cons_succ, i64_w, i32_w]
                   rfl
                  refine take_ (i := 8) (N := some 83) (v := ?_) (a' := ?_) #[true, true, true, true, true, true, true, true, true, false, false, false] rfl rfl (take_ofW HT_.out HW_.out (by kernel_rfl)) (fun _ _ _ h => h) (Or.inl ⟨by rfl, ?_⟩) hHeld ?_ ?_
                  rotate_left
                  ·rintro w' ⟨s0, s1, s2, s3, s4, s5⟩
                   go_simp
                   with_reducible rfl
                  rotate_left
                  ·simp only [Act.put, List.setIfInBounds_toArray, List.set_cons_zero, List.set_cons_succ, i64_w, i32_w]
                   rfl
                  refine pure_ (i := 9) (N := some 84) (v := ?_) (a' := ?_) #[true, true, true, true, true, true, true, true, true, true, false, false] rfl rfl (any_of HT_.out (by kernel_rfl)) (fun _ _ _ h => h) (Or.inl ⟨by rfl, ?_⟩) ?_ ?_
                  rotate_left
                  ·intro w'
                   go_simp
                   with_reducible rfl
                  rotate_left
                  ·simp only [Act.put, List.setIfInBounds_toArray, List.set_cons_zero, List.set_cons_succ, i64_w, i32_w]
                   rfl
                  refine pure_ (i := 10) (N := some 85) (v := ?_) (a' := ?_) #[true, true, true, true, true, true, true, true, true, true, true, false] rfl rfl (any_of HT_.out (by kernel_rfl)) (fun _ _ _ h => h) (Or.inl ⟨by rfl, ?_⟩) ?_ ?_
                  rotate_left
                  ·intro w'
                   go_simp
                   with_reducible rfl
                  rotate_left
                  ·simp only [Act.put, List.setIfInBounds_toArray, List.set_cons_zero, List.set_cons_succ, i64_w, i32_w]
                   rfl
                  refine last_ (i := 11) (N := none) #[true, true, true, true, true, true, true, true, true, true, true, true] rfl rfl (one_of HT_.out (by kernel_rfl)) (by decide) (fun K hK => ?_)
                  refine skip_ (w1 := ?_) (by rfl) rfl ?_ ?_
                  rotate_left
                  ·go_simp
                   rfl
                  refine hK.out _ _ ?_
                  clear hK K
                  refine done_ (done_of HT_.out (by kernel_rfl)) ?_
                  try go_wp2
                  go_meet
                  case rel => exact ⟨_, (y618), H', ⟨by have := HJ6.out; have := HJ15.out; have := HJ19.out; have := HJ23.out; have := HJ27.out; have := HJ30.out; have := HJ37.out; first | omega | exact Nat.le_refl _⟩, ⟨by (with_reducible repeat (first | apply Kd.R_alloc | apply Kd.R_drewN | apply Kd.R_drew)); exact HQ47.out⟩, ⟨by (with_reducible repeat (first | refine blk_drewN ?_ _ | refine blk_drew ?_ | refine blk_alloc ?_ _)); refine blk_far ?_ (by have h_ := Kd.R_ne HO_9.out BK600.out (by decide); intro e_; exact h_ (by rw [e_]; rfl)) _; (with_reducible repeat (first | refine blk_drewN ?_ _ | refine blk_drew ?_ | refine blk_alloc ?_ _)); refine blk_far ?_ (by have h_ := Kd.R_ne HO_9.out BK600.out (by decide); intro e_; exact h_ (by rw [e_]; rfl)) _; (with_reducible repeat (first | refine blk_drewN ?_ _ | refine blk_drew ?_ | refine blk_alloc ?_ _)); refine blk_far ?_ (by have h_ := Kd.R_ne HO_9.out BK600.out (by decide); intro e_; exact h_ (by rw [e_]; rfl)) _; (with_reducible repeat (first | refine blk_drewN ?_ _ | refine blk_drew ?_ | refine blk_alloc ?_ _)); exact BK600.out⟩, ⟨by (with_reducible repeat (first | refine blk_drewN ?_ _ | refine blk_drew ?_ | refine blk_alloc ?_ _)); refine blk_far ?_ (by have h_ := Kd.R_ne HO_9.out BK601.out (by decide); intro e_; exact h_ (by rw [e_]; rfl)) _; (with_reducible repeat (first | refine blk_drewN ?_ _ | refine blk_drew ?_ | refine blk_alloc ?_ _)); refine blk_far ?_ (by have h_ := Kd.R_ne HO_9.out BK601.out (by decide); intro e_; exact h_ (by rw [e_]; rfl)) _; (with_reducible repeat (first | refine blk_drewN ?_ _ | refine blk_drew ?_ | refine blk_alloc ?_ _)); refine blk_far ?_ (by have h_ := Kd.R_ne HO_9.out BK601.out (by decide); intro e_; exact h_ (by rw [e_]; rfl)) _; (with_reducible repeat (first | refine blk_drewN ?_ _ | refine blk_drew ?_ | refine blk_alloc ?_ _)); exact BK601.out⟩, ⟨by repeat (first | (with_reducible first | exact HB.out | apply below_alloc | apply pw_below_drewN | apply below_drew1 | refine below_set ?_ GB44.out | refine below_set ?_ GB44.out | refine below_set ?_ GB44.out | refine below_set ?_ GE600.out | refine below_set ?_ GE601.out) | exact HB.out)⟩⟩
                 ·rw [if_neg c43] at H
                  exact absurd H (by simp)
                ·replace c42 := Bool.eq_false_iff.mpr c42
                 subst c42
                 have H1 : (spec_l1SpoilFS.j7 kj37 t602 t604 x9_30 l2_0 x601001_15 x601002_19) = some (r1, r2, r3) := by rw [if_neg (show ¬ (false = true) by decide)] at H; exact H
                 clear H
                 have H := H1
                 clear H1
                 have H' := Aside0.mk H
                 clear H
                 go_wp2
                 go_meet
                 case rel => exact ⟨_, (x9_30), H', ⟨by have := HJ6.out; have := HJ15.out; have := HJ19.out; have := HJ23.out; have := HJ27.out; have := HJ30.out; have := HJ37.out; first | omega | exact Nat.le_refl _⟩, ⟨by (with_reducible repeat (first | apply Kd.R_alloc | apply Kd.R_drewN | apply Kd.R_drew)); exact HO_9.out⟩, ⟨by (with_reducible repeat (first | refine blk_drewN ?_ _ | refine blk_drew ?_ | refine blk_alloc ?_ _)); exact BK600.out⟩, ⟨by (with_reducible repeat (first | refine blk_drewN ?_ _ | refine blk_drew ?_ | refine blk_alloc ?_ _)); exact BK601.out⟩, ⟨by repeat (first | (with_reducible first | exact HB.out | apply below_alloc | apply pw_below_drewN | apply below_drew1 | refine below_set ?_ GE600.out | refine below_set ?_ GE601.out) | exact HB.out)⟩⟩
               case rest =>
                clear HC41
                try clear c1
                try clear c2
                try clear p2
                try clear c3
                try clear p3
                try clear q3
                try clear hx3
                try clear qi3
                try clear hf3
                try clear c4
                try clear p4
                try clear q4
                try clear hx4
                try clear qi4
                try clear hf4
                try clear c5
                try clear c6
                try clear p6
                try clear q6
                try clear hx6
                try clear qi6
                try clear c8
                try clear c10
                try clear c13
                try clear c13b0
                try clear c13b1
                try clear c14
                try clear c17
                try clear c17b0
                try clear c17b1
                try clear c18
                try clear c21
                try clear c21b0
                try clear c21b1
                try clear c22
                try clear c25
                try clear c25b0
                try clear c25b1
                try clear c26
                try clear c29
                try clear c29b0
                try clear c29b1
                try clear c32
                try clear c33
                try clear c33b0
                try clear c33b1
                try clear c34
                try clear p34
                try clear q34
                try clear hx34
                try clear qi34
                try clear hf34
                try clear c37
                try clear c39
                try clear c39b0
                try clear c39b1
                try clear c42
                try clear c43
                try clear c43b0
                try clear c43b1
                try clear c44
                try clear p44
                try clear q44
                try clear hx44
                try clear qi44
                try clear hf44
                try clear c47
                try clear hcz11_0
                try clear hcz11_1
                try clear hcz11_2
                try clear hcz15_0
                try clear hcz15_1
                try clear hcz15_2
                try clear hcz19_0
                try clear hcz19_1
                try clear hcz19_2
                try clear hcz23_0
                try clear hcz23_1
                try clear hcz23_2
                try clear hfz11_0
                try clear hfz11_1
                try clear hfz11_2
                try clear hfz15_0
                try clear hfz15_1
                try clear hfz15_2
                try clear hfz19_0
                try clear hfz19_1
                try clear hfz19_2
                try clear hfz23_0
                try clear hfz23_1
                try clear hfz23_2
                try clear hx34_0
                try clear hx34_1
                try clear hx34_2
                try clear hx44_0
                try clear hx44_1
                try clear hx44_2
                try clear hx612_0
                try clear hx612_1
                try clear hx612_2
                try clear hx613_0
                try clear hx613_1
                try clear hx613_2
                try clear hx614_0
                try clear hx614_1
                try clear hx614_2
                try clear hx616_0
                try clear hx616_1
                try clear hx616_2
                try clear hx617_0
                try clear hx617_1
                try clear hx617_2
                try clear p2
                try clear p3
                try clear p34
                try clear p44
                try clear p6
                try clear p612
                try clear p613
                try clear p614
                try clear p616
                try clear p617
                try clear q3
                try clear q34
                try clear q44
                try clear q6
                try clear q612
                try clear q613
                try clear q614
                try clear q616
                try clear q617
                obtain ⟨kq, x9_40, HA, HJ40, HO_9, BK600, BK601, HB⟩ := hcut
                cases kq with
                | zero => exact absurd HA.out (by simp [spec_l1SpoilFS.j7])
                | succ kj40 =>
                 have H := HA.out
                 clear HA
                 simp only [spec_l1SpoilFS.j7] at H
                 have HC48 := Aside0.mk H
                 clear H
                 go_upto_if 87 with (fail)
                 go_cut [9] (fun v9 wc => ∃ (kq : Nat) (x9_47 : List (S52)), Aside0 (spec_l1SpoilFS.j8 kq t602 t604 x9_47 l2_0 x601001_15 x601002_19 = some (r1, r2, r3)) ∧ Aside0 (kq ≤ kj40) ∧ Aside0 (Kd.R k52 52 wc w.heap.size (fun _ => True) v9 x9_47) ∧ Aside0 (wc.heap[gb600]? = some (.cells #[(.slice A2_0 l2_0.length c2_0), .int .i64 x601001_15, .int .i64 x601002_19] 29 (0, 0))) ∧ Aside0 (wc.heap[gb601]? = some (.cells #[(.slice none 0 0), .int .i64 0, .int .i64 0] 29 (0, 0))) ∧ Aside0 (Below w.heap.size w wc))
                 case first =>
                  have H := HC48.out
                  clear HC48
                  by_cases c49 : t602 = 6
                  ·rw [if_pos c49] at H
                   have c49b0 : (t602 == 6) = true := beq_iff_eq.mpr c49
                   have c49b1 : (t602 != 6) = false := bne_eq_false_iff_eq.mpr c49
                   clear c49
                   (first | rw [c49b0] | (simp only [i64_w, i32_w]; rw [c49b0]) | skip)
                   obtain ⟨y619, hy619⟩ : ∃ y_ : List (S52), y_ = (([(⟨(⟨#[]⟩ : ByteArray), (⟨#[]⟩ : ByteArray), 0⟩ : S52)] : List (S52))) := ⟨_, rfl⟩
                   replace H : (if y619.length + x9_40.length < 3518437208883 then (spec_l1SpoilFS.j8 kj40 t602 t604 (y619 ++ x9_40) l2_0 x601001_15 x601002_19) else (none)) = some (r1, r2, r3) := by first | (rw [hy619]; with_reducible exact H) | (have H2_ := (Option.bind_some _ _).symm.trans H; rw [hy619]; with_reducible exact H2_) | (have H2_ := (Option.bind_some _ _).symm.trans H; with_reducible exact H2_) | with_reducible exact H | (rw [hy619]; exact H) | exact H
                   have Ny619 := Aside0.mk hy619
                   clear hy619
                   by_cases c50 : y619.length + x9_40.length < 3518437208883
                   ·rw [if_pos c50] at H
                    have LMc50 := Aside0.mk c50
                    clear c50
                    obtain ⟨y622, hy622⟩ : ∃ y_ : List (S52), y_ = (y619 ++ x9_40) := ⟨_, rfl⟩
                    replace H : (spec_l1SpoilFS.j8 kj40 t602 t604 y622 l2_0 x601001_15 x601002_19) = some (r1, r2, r3) := by first | (rw [hy622]; with_reducible exact H) | (have H2_ := (Option.bind_some _ _).symm.trans H; rw [hy622]; with_reducible exact H2_) | (have H2_ := (Option.bind_some _ _).symm.trans H; with_reducible exact H2_) | with_reducible exact H | (rw [hy622]; exact H) | exact H
                    have Ny622 := Aside0.mk hy622
                    clear hy622
                    have H' := Aside0.mk H
                    clear H
                    go_wp2_with (first | ((with_reducible refine gate_dst (N := 89) rfl ?_); (try (refine gate_guard (by rfl) ?_; dsimp only)); refine Kd.R_lit k52 _ 52 ?hg (N := 89) ?hd (xs := ([(⟨(⟨#[]⟩ : ByteArray), (⟨#[]⟩ : ByteArray), 0⟩ : S52)] : List (S52))) (inner := [.string (⟨#[]⟩ : ByteArray), .string (⟨#[]⟩ : ByteArray), .int .i64 0]) (ok := fun _ => True) (okp := fun _ => True) ?hr ?hp (fun _ hk => hk) trivial (Below.refl _ _) (Nat.le_refl _) (by simp) ?_; (case hd => rfl); (case hg => rfl); (case hr => first | (go_simp; done) | (go_simp; rfl)); (case hp => exact (Reps.c3 (show Kd.M k52 _ _ _ (⟨(⟨#[]⟩ : ByteArray), (⟨#[]⟩ : ByteArray), 0⟩ : S52) [.string (⟨#[]⟩ : ByteArray), .string (⟨#[]⟩ : ByteArray), .int .i64 0] from (k52_mkM _ _ _ (⟨(⟨#[]⟩ : ByteArray), (⟨#[]⟩ : ByteArray), 0⟩ : S52) )) (Reps.none _ _))); intro v620 w51 ho52 hb hg_ hnew_; clear hg_ hnew_; (first | rw [← Ny619.out] at ho52 | (simp only [Int.reduceToNat] at ho52; rw [← Ny619.out] at ho52)); have n0_ := Aside0.mk (Kd.R_elder' (by (with_reducible repeat (first | apply Kd.R_alloc | apply Kd.R_drewN | apply Kd.R_drew)); exact HO_9.out) (Kd.R_base ho52) hb); have n1_ := Aside0.mk (Kd.R_lower (Kd.R_new' ho52 (Kd.R_lt (by (with_reducible repeat (first | apply Kd.R_alloc | apply Kd.R_drewN | apply Kd.R_drew)); exact HO_9.out))) (below_size (by repeat (first | (with_reducible first | exact HB.out | apply below_alloc | apply pw_below_drewN | apply below_drew1 | refine below_set ?_ GE600.out | refine below_set ?_ GE601.out) | exact HB.out)))); have n2_ := Aside0.mk (blk_below (g := gb600) (o := .cells #[.slice A2_0 l2_0.length c2_0, .int .i64 x601001_15, .int .i64 x601002_19] 29 (0, 0)) (by (with_reducible repeat (first | refine blk_drewN ?_ _ | refine blk_drew ?_ | refine blk_alloc ?_ _)); exact BK600.out) hb); have n3_ := Aside0.mk (blk_below (g := gb601) (o := .cells #[.slice none 0 0, .int .i64 0, .int .i64 0] 29 (0, 0)) (by (with_reducible repeat (first | refine blk_drewN ?_ _ | refine blk_drew ?_ | refine blk_alloc ?_ _)); exact BK601.out) hb); have n4_ := Aside0.mk (below_step (by repeat (first | (with_reducible first | exact HB.out | apply below_alloc | apply pw_below_drewN | apply below_drew1 | refine below_set ?_ GE600.out | refine below_set ?_ GE601.out) | exact HB.out)) hb); clear HO_9; clear BK600; clear BK601; clear HB; have HO_9 := n0_; have HO621 := n1_; have BK600 := n2_; have BK601 := n3_; have HB := n4_; clear n0_ n1_ n2_ n3_ n4_; clear hb ho52; obtain ⟨Ao54, co54, eo54⟩ := Kd.R_slice HO_9.out; subst eo54) | ((with_reducible refine gate_builtin (b := .append) (xs := #[.tmp 89, .tmp 90]) rfl ?_); (try (refine gate_guard (by rfl) ?_; dsimp only)); at_builtin; refine Kd.R_append_rows k52 (w0 := w) w.heap.size rfl (.tmp 89) (.tmp 90) 27 52 (.agg #[(.string ⟨#[]⟩), (.string ⟨#[]⟩), (.int .i64 0)]) 40 rfl Try.underlying27 info52 rfl (by decide) (by omega) v620 y619 x9_40 _ _ _ (fun k_ => some k_ ≠ (.slice Ao54 x9_40.length co54 : Value).ownBlock) (fun _ => False) rfl rfl ?aO ?aR (fun _ _ h => h) (fun _ h => h.elim) ?aF ?aB ?aS ?aL ?_; (case aR => repeat (first | exact (Kd.R_reads' HO_9.out).2.2 | (with_reducible refine Kd.C_alloc ?_ _) | (with_reducible refine Kd.C_drewN ?_ _) | (with_reducible refine Kd.C_drew ?_))); (case aB => exact (by repeat (first | (with_reducible first | exact HB.out | apply below_alloc | apply pw_below_drewN | apply below_drew1 | refine below_set ?_ GE600.out | refine below_set ?_ GE601.out) | exact HB.out))); (case aF => exact (fun k_ hk => Kd.fresh' (Kd.R_lt (by (with_reducible repeat (first | apply Kd.R_alloc | apply Kd.R_drewN | apply Kd.R_drew)); exact HO_9.out)) k_ hk)); (case aO => exact (by (with_reducible repeat (first | apply Kd.R_alloc | apply Kd.R_drewN | apply Kd.R_drew)); exact Kd.R_mono HO621.out (fun _ hk => hk.2))); (case aS => exact (below_size (by repeat (first | (with_reducible first | exact HB.out | apply below_alloc | apply pw_below_drewN | apply below_drew1 | refine below_set ?_ GE600.out | refine below_set ?_ GE601.out) | exact HB.out)))); (case aL => have := LMc50.out; omega); intro v623 w53 ho hb hg hat; rw [← Ny622.out] at ho; have n0_ := Aside0.mk (Kd.R_after (ok := (fun _ => True)) (by (with_reducible repeat (first | apply Kd.R_alloc | apply Kd.R_drewN | apply Kd.R_drew)); exact HO_9.out) hg hat); have n1_ := Aside0.mk (blk_grown (g := gb600) (o := .cells #[.slice A2_0 l2_0.length c2_0, .int .i64 x601001_15, .int .i64 x601002_19] 29 (0, 0)) (by (with_reducible repeat (first | refine blk_drewN ?_ _ | refine blk_drew ?_ | refine blk_alloc ?_ _)); exact BK600.out) hg (Kd.R_ne HO621.out BK600.out (by decide))); have n2_ := Aside0.mk (blk_grown (g := gb601) (o := .cells #[.slice none 0 0, .int .i64 0, .int .i64 0] 29 (0, 0)) (by (with_reducible repeat (first | refine blk_drewN ?_ _ | refine blk_drew ?_ | refine blk_alloc ?_ _)); exact BK601.out) hg (Kd.R_ne HO621.out BK601.out (by decide))); have n3_ := Aside0.mk (hb); have n4_ := Aside0.mk (ho); clear HO_9; clear BK600; clear BK601; clear HB; clear HO621; have HO_9 := n0_; have BK600 := n1_; have BK601 := n2_; have HB := n3_; have HO624 := n4_; clear n0_ n1_ n2_ n3_ n4_; clear ho hb hg hat))
                    go_meet
                    case rel => exact ⟨_, (y622), H', ⟨by have := HJ6.out; have := HJ15.out; have := HJ19.out; have := HJ23.out; have := HJ27.out; have := HJ30.out; have := HJ37.out; have := HJ40.out; first | omega | exact Nat.le_refl _⟩, ⟨by (with_reducible repeat (first | apply Kd.R_alloc | apply Kd.R_drewN | apply Kd.R_drew)); exact Kd.R_mono HO624.out (fun _ hk => trivial)⟩, ⟨by (with_reducible repeat (first | refine blk_drewN ?_ _ | refine blk_drew ?_ | refine blk_alloc ?_ _)); exact BK600.out⟩, ⟨by (with_reducible repeat (first | refine blk_drewN ?_ _ | refine blk_drew ?_ | refine blk_alloc ?_ _)); exact BK601.out⟩, ⟨by repeat (first | (with_reducible first | exact HB.out | apply below_alloc | apply pw_below_drewN | apply below_drew1 | refine below_set ?_ GE600.out | refine below_set ?_ GE601.out) | exact HB.out)⟩⟩
                   ·rw [if_neg c50] at H
                    exact absurd H (by simp)
                  ·rw [if_neg c49] at H
                   have c49b0 : (t602 == 6) = false := beq_eq_false_iff_ne.mpr c49
                   have c49b1 : (t602 != 6) = true := bne_iff_ne.mpr c49
                   (first | rw [c49b0] | (simp only [i64_w, i32_w]; rw [c49b0]) | skip)
                   have H' := Aside0.mk H
                   clear H
                   go_wp2
                   go_meet
                   case rel => exact ⟨_, (x9_40), H', ⟨by have := HJ6.out; have := HJ15.out; have := HJ19.out; have := HJ23.out; have := HJ27.out; have := HJ30.out; have := HJ37.out; have := HJ40.out; first | omega | exact Nat.le_refl _⟩, ⟨by (with_reducible repeat (first | apply Kd.R_alloc | apply Kd.R_drewN | apply Kd.R_drew)); exact HO_9.out⟩, ⟨by (with_reducible repeat (first | refine blk_drewN ?_ _ | refine blk_drew ?_ | refine blk_alloc ?_ _)); exact BK600.out⟩, ⟨by (with_reducible repeat (first | refine blk_drewN ?_ _ | refine blk_drew ?_ | refine blk_alloc ?_ _)); exact BK601.out⟩, ⟨by repeat (first | (with_reducible first | exact HB.out | apply below_alloc | apply pw_below_drewN | apply below_drew1 | refine below_set ?_ GE600.out | refine below_set ?_ GE601.out) | exact HB.out)⟩⟩
                 case rest =>
                  clear HC48
                  try clear c1
                  try clear c2
                  try clear p2
                  try clear c3
                  try clear p3
                  try clear q3
                  try clear hx3
                  try clear qi3
                  try clear hf3
                  try clear c4
                  try clear p4
                  try clear q4
                  try clear hx4
                  try clear qi4
                  try clear hf4
                  try clear c5
                  try clear c6
                  try clear p6
                  try clear q6
                  try clear hx6
                  try clear qi6
                  try clear c8
                  try clear c10
                  try clear c13
                  try clear c13b0
                  try clear c13b1
                  try clear c14
                  try clear c17
                  try clear c17b0
                  try clear c17b1
                  try clear c18
                  try clear c21
                  try clear c21b0
                  try clear c21b1
                  try clear c22
                  try clear c25
                  try clear c25b0
                  try clear c25b1
                  try clear c26
                  try clear c29
                  try clear c29b0
                  try clear c29b1
                  try clear c32
                  try clear c33
                  try clear c33b0
                  try clear c33b1
                  try clear c34
                  try clear p34
                  try clear q34
                  try clear hx34
                  try clear qi34
                  try clear hf34
                  try clear c37
                  try clear c39
                  try clear c39b0
                  try clear c39b1
                  try clear c42
                  try clear c43
                  try clear c43b0
                  try clear c43b1
                  try clear c44
                  try clear p44
                  try clear q44
                  try clear hx44
                  try clear qi44
                  try clear hf44
                  try clear c47
                  try clear c49
                  try clear c49b0
                  try clear c49b1
                  try clear c50
                  try clear hcz11_0
                  try clear hcz11_1
                  try clear hcz11_2
                  try clear hcz15_0
                  try clear hcz15_1
                  try clear hcz15_2
                  try clear hcz19_0
                  try clear hcz19_1
                  try clear hcz19_2
                  try clear hcz23_0
                  try clear hcz23_1
                  try clear hcz23_2
                  try clear hfz11_0
                  try clear hfz11_1
                  try clear hfz11_2
                  try clear hfz15_0
                  try clear hfz15_1
                  try clear hfz15_2
                  try clear hfz19_0
                  try clear hfz19_1
                  try clear hfz19_2
                  try clear hfz23_0
                  try clear hfz23_1
                  try clear hfz23_2
                  try clear hx34_0
                  try clear hx34_1
                  try clear hx34_2
                  try clear hx44_0
                  try clear hx44_1
                  try clear hx44_2
                  try clear hx612_0
                  try clear hx612_1
                  try clear hx612_2
                  try clear hx613_0
                  try clear hx613_1
                  try clear hx613_2
                  try clear hx614_0
                  try clear hx614_1
                  try clear hx614_2
                  try clear hx616_0
                  try clear hx616_1
                  try clear hx616_2
                  try clear hx617_0
                  try clear hx617_1
                  try clear hx617_2
                  try clear p2
                  try clear p3
                  try clear p34
                  try clear p4
                  try clear p44
                  try clear p6
                  try clear p612
                  try clear p613
                  try clear p614
                  try clear p616
                  try clear p617
                  try clear q3
                  try clear q34
                  try clear q4
                  try clear q44
                  try clear q6
                  try clear q612
                  try clear q613
                  try clear q614
                  try clear q616
                  try clear q617
                  obtain ⟨kq, x9_47, HA, HJ47, HO_9, BK600, BK601, HB⟩ := hcut
                  cases kq with
                  | zero => exact absurd HA.out (by simp [spec_l1SpoilFS.j8])
                  | succ kj47 =>
                   have H := HA.out
                   clear HA
                   simp only [spec_l1SpoilFS.j8] at H
                   have HC55 := Aside0.mk H
                   clear H
                   go_upto_if 93 with (fail)
                   go_cut [9] (fun v9 wc => ∃ (kq : Nat) (x9_54 : List (S52)), Aside0 (spec_l1SpoilFS.j9 kq t602 t604 x9_54 l2_0 x601001_15 x601002_19 = some (r1, r2, r3)) ∧ Aside0 (kq ≤ kj47) ∧ Aside0 (Kd.R k52 52 wc w.heap.size (fun _ => True) v9 x9_54) ∧ Aside0 (wc.heap[gb600]? = some (.cells #[(.slice A2_0 l2_0.length c2_0), .int .i64 x601001_15, .int .i64 x601002_19] 29 (0, 0))) ∧ Aside0 (wc.heap[gb601]? = some (.cells #[(.slice none 0 0), .int .i64 0, .int .i64 0] 29 (0, 0))) ∧ Aside0 (Below w.heap.size w wc))
                   case first =>
                    have H := HC55.out
                    clear HC55
                    by_cases c56 : t602 = 7
                    ·rw [if_pos c56] at H
                     have c56b0 : (t602 == 7) = true := beq_iff_eq.mpr c56
                     have c56b1 : (t602 != 7) = false := bne_eq_false_iff_eq.mpr c56
                     clear c56
                     (first | rw [c56b0] | (simp only [i64_w, i32_w]; rw [c56b0]) | skip)
                     replace H := Option.bind_eq_some_iff.mp H
                     obtain ⟨t625, A570, H⟩ := H
                     replace H : (if 1 + t625.size ≤ 9223372036854775807 then (if x9_47.length < 3518437208883 then (spec_l1SpoilFS.j9 kj47 t602 t604 (x9_47 ++ [(⟨(⟨#[122]⟩ : ByteArray) ++ t625, (⟨#[]⟩ : ByteArray), 0⟩ : S52)]) l2_0 x601001_15 x601002_19) else (none)) else (none)) = some (r1, r2, r3) := H
                     have A57 := Aside0.mk A570
                     clear A570
                     by_cases c58 : 1 + t625.size ≤ 9223372036854775807
                     ·rw [if_pos c58] at H
                      have c58b0 := eq_true c58
                      have c58b1 : decide (1 + t625.size ≤ 9223372036854775807) = true := decide_eq_true c58
                      try have c58b2 : (9223372036854775807 < 1 + t625.size) = False := eq_false (Nat.not_lt.2 c58)
                      by_cases c59 : x9_47.length < 3518437208883
                      ·rw [if_pos c59] at H
                       have LMc59 := Aside0.mk c59
                       clear c59
                       obtain ⟨y626, hy626⟩ : ∃ y_ : List (S52), y_ = (x9_47 ++ [(⟨(⟨#[122]⟩ : ByteArray) ++ t625, (⟨#[]⟩ : ByteArray), 0⟩ : S52)]) := ⟨_, rfl⟩
                       replace H : (spec_l1SpoilFS.j9 kj47 t602 t604 y626 l2_0 x601001_15 x601002_19) = some (r1, r2, r3) := by first | (rw [hy626]; with_reducible exact H) | (have H2_ := (Option.bind_some _ _).symm.trans H; rw [hy626]; with_reducible exact H2_) | (have H2_ := (Option.bind_some _ _).symm.trans H; with_reducible exact H2_) | with_reducible exact H | (rw [hy626]; exact H) | exact H
                       have Ny626 := Aside0.mk hy626
                       clear hy626
                       have H' := Aside0.mk H
                       clear H
                       go_wp2_with (first | ((with_reducible refine gate_callee (f := 66) rfl ?_); refine goesL_ (some 97) rfl rfl Try.func66 (by kernel_rfl) rfl #[.int .i64 (wrap64 (119 + t604)), .string (⟨#[122]⟩ : ByteArray)] rfl (by (try simp only [List.map_toArray, List.map_cons, List.map_nil]); first | done | rfl | (simp only [List.length_drop, List.length_take]; rfl)) ?_; (with_reducible refine (spec_l1Long.calls (wrap64 (119 + t604)) (⟨#[122]⟩ : ByteArray) t625 _ A57.out).mono ?_); rintro e w' ⟨rfl, ⟨nd, rfl⟩⟩; refine ⟨_, rfl, ?_⟩) | ((with_reducible refine gate_builtin (b := .append) (xs := #[.tmp 94, .tmp 100]) rfl ?_); (try (refine gate_guard (by rfl) ?_; dsimp only)); at_builtin; refine Kd.R_append k52 (w0 := w) w.heap.size rfl (.tmp 94) (.tmp 100) 27 52 (.agg #[(.string ⟨#[]⟩), (.string ⟨#[]⟩), (.int .i64 0)]) 40 rfl Try.underlying27 info52 rfl (by decide) (by omega) u9 x9_47 (⟨(⟨#[122]⟩ : ByteArray) ++ t625, (⟨#[]⟩ : ByteArray), 0⟩ : S52) [.string ((⟨#[122]⟩ : ByteArray) ++ t625), .string (⟨#[]⟩ : ByteArray), .int .i64 0] (fun _ => True) (fun _ => False) rfl rfl ?aP (fun _ hk => hk.elim) ?aF ?aO ?aB ?aS ?aL ?_; (case aP => exact k52_mkM _ _ _ (⟨(⟨#[122]⟩ : ByteArray) ++ t625, (⟨#[]⟩ : ByteArray), 0⟩ : S52)); (case aB => exact (by repeat (first | (with_reducible first | exact HB.out | apply below_alloc | apply pw_below_drewN | apply below_drew1 | refine below_set ?_ GE600.out | refine below_set ?_ GE601.out) | exact HB.out))); (case aF => exact (fun _ _ => trivial)); (case aO => exact (by (with_reducible repeat (first | apply Kd.R_alloc | apply Kd.R_drewN | apply Kd.R_drew)); exact HO_9.out)); (case aS => exact (below_size (by repeat (first | (with_reducible first | exact HB.out | apply below_alloc | apply pw_below_drewN | apply below_drew1 | refine below_set ?_ GE600.out | refine below_set ?_ GE601.out) | exact HB.out)))); (case aL => have := LMc59.out; omega); intro v627 w60 ho hb hg hat; rw [← Ny626.out] at ho; have n0_ := Aside0.mk (blk_grown (g := gb600) (o := .cells #[.slice A2_0 l2_0.length c2_0, .int .i64 x601001_15, .int .i64 x601002_19] 29 (0, 0)) (by (with_reducible repeat (first | refine blk_drewN ?_ _ | refine blk_drew ?_ | refine blk_alloc ?_ _)); exact BK600.out) hg (Kd.R_ne HO_9.out BK600.out (by decide))); have n1_ := Aside0.mk (blk_grown (g := gb601) (o := .cells #[.slice none 0 0, .int .i64 0, .int .i64 0] 29 (0, 0)) (by (with_reducible repeat (first | refine blk_drewN ?_ _ | refine blk_drew ?_ | refine blk_alloc ?_ _)); exact BK601.out) hg (Kd.R_ne HO_9.out BK601.out (by decide))); have n2_ := Aside0.mk (hb); have n3_ := Aside0.mk (ho); clear BK600; clear BK601; clear HB; clear HO_9; have BK600 := n0_; have BK601 := n1_; have HB := n2_; have HO628 := n3_; clear n0_ n1_ n2_ n3_; clear ho hb hg hat))
                       go_meet
                       case rel => exact ⟨_, (y626), H', ⟨by have := HJ6.out; have := HJ15.out; have := HJ19.out; have := HJ23.out; have := HJ27.out; have := HJ30.out; have := HJ37.out; have := HJ40.out; have := HJ47.out; first | omega | exact Nat.le_refl _⟩, ⟨by (with_reducible repeat (first | apply Kd.R_alloc | apply Kd.R_drewN | apply Kd.R_drew)); exact HO628.out⟩, ⟨by (with_reducible repeat (first | refine blk_drewN ?_ _ | refine blk_drew ?_ | refine blk_alloc ?_ _)); exact BK600.out⟩, ⟨by (with_reducible repeat (first | refine blk_drewN ?_ _ | refine blk_drew ?_ | refine blk_alloc ?_ _)); exact BK601.out⟩, ⟨by repeat (first | (with_reducible first | exact HB.out | apply below_alloc | apply pw_below_drewN | apply below_drew1 | refine below_set ?_ GE600.out | refine below_set ?_ GE601.out) | exact HB.out)⟩⟩
                      ·rw [if_neg c59] at H
                       exact absurd H (by simp)
                     ·rw [if_neg c58] at H
                      exact absurd H (by simp)
                    ·rw [if_neg c56] at H
                     have c56b0 : (t602 == 7) = false := beq_eq_false_iff_ne.mpr c56
                     have c56b1 : (t602 != 7) = true := bne_iff_ne.mpr c56
                     (first | rw [c56b0] | (simp only [i64_w, i32_w]; rw [c56b0]) | skip)
                     have H' := Aside0.mk H
                     clear H
                     go_wp2
                     go_meet
                     case rel => exact ⟨_, (x9_47), H', ⟨by have := HJ6.out; have := HJ15.out; have := HJ19.out; have := HJ23.out; have := HJ27.out; have := HJ30.out; have := HJ37.out; have := HJ40.out; have := HJ47.out; first | omega | exact Nat.le_refl _⟩, ⟨by (with_reducible repeat (first | apply Kd.R_alloc | apply Kd.R_drewN | apply Kd.R_drew)); exact HO_9.out⟩, ⟨by (with_reducible repeat (first | refine blk_drewN ?_ _ | refine blk_drew ?_ | refine blk_alloc ?_ _)); exact BK600.out⟩, ⟨by (with_reducible repeat (first | refine blk_drewN ?_ _ | refine blk_drew ?_ | refine blk_alloc ?_ _)); exact BK601.out⟩, ⟨by repeat (first | (with_reducible first | exact HB.out | apply below_alloc | apply pw_below_drewN | apply below_drew1 | refine below_set ?_ GE600.out | refine below_set ?_ GE601.out) | exact HB.out)⟩⟩
                   case rest =>
                    clear HC55
                    try clear c1
                    try clear c2
                    try clear p2
                    try clear c3
                    try clear p3
                    try clear q3
                    try clear hx3
                    try clear qi3
                    try clear hf3
                    try clear c4
                    try clear p4
                    try clear q4
                    try clear hx4
                    try clear qi4
                    try clear hf4
                    try clear c5
                    try clear c6
                    try clear p6
                    try clear q6
                    try clear hx6
                    try clear qi6
                    try clear c8
                    try clear c10
                    try clear c13
                    try clear c13b0
                    try clear c13b1
                    try clear c14
                    try clear c17
                    try clear c17b0
                    try clear c17b1
                    try clear c18
                    try clear c21
                    try clear c21b0
                    try clear c21b1
                    try clear c22
                    try clear c25
                    try clear c25b0
                    try clear c25b1
                    try clear c26
                    try clear c29
                    try clear c29b0
                    try clear c29b1
                    try clear c32
                    try clear c33
                    try clear c33b0
                    try clear c33b1
                    try clear c34
                    try clear p34
                    try clear q34
                    try clear hx34
                    try clear qi34
                    try clear hf34
                    try clear c37
                    try clear c39
                    try clear c39b0
                    try clear c39b1
                    try clear c42
                    try clear c43
                    try clear c43b0
                    try clear c43b1
                    try clear c44
                    try clear p44
                    try clear q44
                    try clear hx44
                    try clear qi44
                    try clear hf44
                    try clear c47
                    try clear c49
                    try clear c49b0
                    try clear c49b1
                    try clear c50
                    try clear c56
                    try clear c56b0
                    try clear c56b1
                    try clear c58
                    try clear c58b0
                    try clear c58b1
                    try clear c58b2
                    try clear c59
                    try clear hcz11_0
                    try clear hcz11_1
                    try clear hcz11_2
                    try clear hcz15_0
                    try clear hcz15_1
                    try clear hcz15_2
                    try clear hcz19_0
                    try clear hcz19_1
                    try clear hcz19_2
                    try clear hcz23_0
                    try clear hcz23_1
                    try clear hcz23_2
                    try clear hfz11_0
                    try clear hfz11_1
                    try clear hfz11_2
                    try clear hfz15_0
                    try clear hfz15_1
                    try clear hfz15_2
                    try clear hfz19_0
                    try clear hfz19_1
                    try clear hfz19_2
                    try clear hfz23_0
                    try clear hfz23_1
                    try clear hfz23_2
                    try clear hx34_0
                    try clear hx34_1
                    try clear hx34_2
                    try clear hx44_0
                    try clear hx44_1
                    try clear hx44_2
                    try clear hx612_0
                    try clear hx612_1
                    try clear hx612_2
                    try clear hx613_0
                    try clear hx613_1
                    try clear hx613_2
                    try clear hx614_0
                    try clear hx614_1
                    try clear hx614_2
                    try clear hx616_0
                    try clear hx616_1
                    try clear hx616_2
                    try clear hx617_0
                    try clear hx617_1
                    try clear hx617_2
                    try clear p2
                    try clear p3
                    try clear p34
                    try clear p4
                    try clear p44
                    try clear p6
                    try clear p612
                    try clear p613
                    try clear p614
                    try clear p616
                    try clear p617
                    try clear q3
                    try clear q34
                    try clear q4
                    try clear q44
                    try clear q6
                    try clear q612
                    try clear q613
                    try clear q614
                    try clear q616
                    try clear q617
                    obtain ⟨kq, x9_54, HA, HJ54, HO_9, BK600, BK601, HB⟩ := hcut
                    cases kq with
                    | zero => exact absurd HA.out (by simp [spec_l1SpoilFS.j9])
                    | succ kj54 =>
                     have H := HA.out
                     clear HA
                     simp only [spec_l1SpoilFS.j9] at H
                     have HC61 := Aside0.mk H
                     clear H
                     go_upto_region 21 with (fail)
                     go_cut [107] (fun v107 wc => ∃ (kq : Nat) (x107_60 : Bool), v107 = .bool x107_60 ∧ Aside0 (spec_l1SpoilFS.j10 kq t602 t604 x9_54 x107_60 l2_0 x601001_15 x601002_19 = some (r1, r2, r3)) ∧ Aside0 (kq ≤ kj54) ∧ Aside0 (Kd.R k52 52 wc w.heap.size (fun _ => True) u9 x9_54) ∧ Aside0 (wc.heap[gb600]? = some (.cells #[(.slice A2_0 l2_0.length c2_0), .int .i64 x601001_15, .int .i64 x601002_19] 29 (0, 0))) ∧ Aside0 (wc.heap[gb601]? = some (.cells #[(.slice none 0 0), .int .i64 0, .int .i64 0] 29 (0, 0))) ∧ Aside0 (Below w.heap.size w wc))
                     case first =>
                      have H := HC61.out
                      clear HC61
                      by_cases c62 : t602 = 8
                      ·rw [if_pos c62] at H
                       have c62b0 : (t602 == 8) = true := beq_iff_eq.mpr c62
                       have c62b1 : (t602 != 8) = false := bne_eq_false_iff_eq.mpr c62
                       clear c62
                       (first | rw [c62b0] | (simp only [i64_w, i32_w]; rw [c62b0]) | skip)
                       have H' := Aside0.mk H
                       clear H
                       go_wp2
                       go_meet
                       case rel => exact ⟨_, (true), (by first | rfl | (simp; done) | (simp [*]; done)), H', ⟨by have := HJ6.out; have := HJ15.out; have := HJ19.out; have := HJ23.out; have := HJ27.out; have := HJ30.out; have := HJ37.out; have := HJ40.out; have := HJ47.out; have := HJ54.out; first | omega | exact Nat.le_refl _⟩, ⟨by (with_reducible repeat (first | apply Kd.R_alloc | apply Kd.R_drewN | apply Kd.R_drew)); exact HO_9.out⟩, ⟨by (with_reducible repeat (first | refine blk_drewN ?_ _ | refine blk_drew ?_ | refine blk_alloc ?_ _)); exact BK600.out⟩, ⟨by (with_reducible repeat (first | refine blk_drewN ?_ _ | refine blk_drew ?_ | refine blk_alloc ?_ _)); exact BK601.out⟩, ⟨by repeat (first | (with_reducible first | exact HB.out | apply below_alloc | apply pw_below_drewN | apply below_drew1 | refine below_set ?_ GE600.out | refine below_set ?_ GE601.out) | exact HB.out)⟩⟩
                      ·rw [if_neg c62] at H
                       have c62b0 : (t602 == 8) = false := beq_eq_false_iff_ne.mpr c62
                       have c62b1 : (t602 != 8) = true := bne_iff_ne.mpr c62
                       (first | rw [c62b0] | (simp only [i64_w, i32_w]; rw [c62b0]) | skip)
                       have H' := Aside0.mk H
                       clear H
                       go_wp2
                       go_meet
                       case rel => exact ⟨_, ((t602 == 9)), (by first | rfl | (simp; done) | (simp [*]; done)), H', ⟨by have := HJ6.out; have := HJ15.out; have := HJ19.out; have := HJ23.out; have := HJ27.out; have := HJ30.out; have := HJ37.out; have := HJ40.out; have := HJ47.out; have := HJ54.out; first | omega | exact Nat.le_refl _⟩, ⟨by (with_reducible repeat (first | apply Kd.R_alloc | apply Kd.R_drewN | apply Kd.R_drew)); exact HO_9.out⟩, ⟨by (with_reducible repeat (first | refine blk_drewN ?_ _ | refine blk_drew ?_ | refine blk_alloc ?_ _)); exact BK600.out⟩, ⟨by (with_reducible repeat (first | refine blk_drewN ?_ _ | refine blk_drew ?_ | refine blk_alloc ?_ _)); exact BK601.out⟩, ⟨by repeat (first | (with_reducible first | exact HB.out | apply below_alloc | apply pw_below_drewN | apply below_drew1 | refine below_set ?_ GE600.out | refine below_set ?_ GE601.out) | exact HB.out)⟩⟩
                     case rest =>
                      clear HC61
                      try clear c1
                      try clear c2
                      try clear p2
                      try clear c3
                      try clear p3
                      try clear q3
                      try clear hx3
                      try clear qi3
                      try clear hf3
                      try clear c4
                      try clear p4
                      try clear q4
                      try clear hx4
                      try clear qi4
                      try clear hf4
                      try clear c5
                      try clear c6
                      try clear p6
                      try clear q6
                      try clear hx6
                      try clear qi6
                      try clear c8
                      try clear c10
                      try clear c13
                      try clear c13b0
                      try clear c13b1
                      try clear c14
                      try clear c17
                      try clear c17b0
                      try clear c17b1
                      try clear c18
                      try clear c21
                      try clear c21b0
                      try clear c21b1
                      try clear c22
                      try clear c25
                      try clear c25b0
                      try clear c25b1
                      try clear c26
                      try clear c29
                      try clear c29b0
                      try clear c29b1
                      try clear c32
                      try clear c33
                      try clear c33b0
                      try clear c33b1
                      try clear c34
                      try clear p34
                      try clear q34
                      try clear hx34
                      try clear qi34
                      try clear hf34
                      try clear c37
                      try clear c39
                      try clear c39b0
                      try clear c39b1
                      try clear c42
                      try clear c43
                      try clear c43b0
                      try clear c43b1
                      try clear c44
                      try clear p44
                      try clear q44
                      try clear hx44
                      try clear qi44
                      try clear hf44
                      try clear c47
                      try clear c49
                      try clear c49b0
                      try clear c49b1
                      try clear c50
                      try clear c56
                      try clear c56b0
                      try clear c56b1
                      try clear c58
                      try clear c58b0
                      try clear c58b1
                      try clear c58b2
                      try clear c59
                      try clear p61
                      try clear q61
                      try clear hx61
                      try clear c62
                      try clear c62b0
                      try clear c62b1
                      try clear hcz11_0
                      try clear hcz11_1
                      try clear hcz11_2
                      try clear hcz15_0
                      try clear hcz15_1
                      try clear hcz15_2
                      try clear hcz19_0
                      try clear hcz19_1
                      try clear hcz19_2
                      try clear hcz23_0
                      try clear hcz23_1
                      try clear hcz23_2
                      try clear hfz11_0
                      try clear hfz11_1
                      try clear hfz11_2
                      try clear hfz15_0
                      try clear hfz15_1
                      try clear hfz15_2
                      try clear hfz19_0
                      try clear hfz19_1
                      try clear hfz19_2
                      try clear hfz23_0
                      try clear hfz23_1
                      try clear hfz23_2
                      try clear hx34_0
                      try clear hx34_1
                      try clear hx34_2
                      try clear hx44_0
                      try clear hx44_1
                      try clear hx44_2
                      try clear hx612_0
                      try clear hx612_1
                      try clear hx612_2
                      try clear hx613_0
                      try clear hx613_1
                      try clear hx613_2
                      try clear hx614_0
                      try clear hx614_1
                      try clear hx614_2
                      try clear hx616_0
                      try clear hx616_1
                      try clear hx616_2
                      try clear hx617_0
                      try clear hx617_1
                      try clear hx617_2
                      try clear p2
                      try clear p3
                      try clear p34
                      try clear p4
                      try clear p44
                      try clear p6
                      try clear p612
                      try clear p613
                      try clear p614
                      try clear p616
                      try clear p617
                      try clear q3
                      try clear q34
                      try clear q4
                      try clear q44
                      try clear q6
                      try clear q612
                      try clear q613
                      try clear q614
                      try clear q616
                      try clear q617
                      obtain ⟨kq, x107_60, rfl, HA, HJ60, HO_9, BK600, BK601, HB⟩ := hcut
                      cases kq with
                      | zero => exact absurd HA.out (by simp [spec_l1SpoilFS.j10])
                      | succ kj60 =>
                       have H := HA.out
                       clear HA
                       simp only [spec_l1SpoilFS.j10] at H
                       by_cases c63 : x107_60 = true
                       ·subst c63
                        have H1 : (spec_l1SpoilFS.l0 kj60 t602 t604 (([] : List (S52))) 0 l2_0 x601001_15 x601002_19) = some (r1, r2, r3) := by rw [if_pos rfl] at H; exact H
                        clear H
                        have H := H1
                        clear H1
                        obtain ⟨y629, hy629⟩ : ∃ y_ : List (S52), y_ = (([] : List (S52))) := ⟨_, rfl⟩
                        replace H : (spec_l1SpoilFS.l0 kj60 t602 t604 y629 0 l2_0 x601001_15 x601002_19) = some (r1, r2, r3) := by first | (rw [hy629]; with_reducible exact H) | (have H2_ := (Option.bind_some _ _).symm.trans H; rw [hy629]; with_reducible exact H2_) | (have H2_ := (Option.bind_some _ _).symm.trans H; with_reducible exact H2_) | with_reducible exact H | (rw [hy629]; exact H) | exact H
                        have Ny629 := Aside0.mk hy629
                        clear hy629
                        have H' := Aside0.mk H
                        clear H
                        go_wp2_with (first | ((with_reducible refine gate_dst (N := 108) rfl ?_); (try (refine gate_guard (by rfl) ?_; dsimp only)); refine Kd.R_lit k52 _ 52 ?hg (N := 108) ?hd (xs := ([] : List (S52))) (inner := []) (ok := fun _ => True) (okp := fun _ => True) ?hr ?hp (fun _ hk => hk) trivial (Below.refl _ _) (Nat.le_refl _) (by simp) ?_; (case hd => rfl); (case hg => rfl); (case hr => first | (go_simp; done) | (go_simp; rfl)); (case hp => exact (Reps.none _ _)); intro v630 w64 ho65 hb hg_ hnew_; clear hg_ hnew_; (first | rw [← Ny629.out] at ho65 | (simp only [Int.reduceToNat] at ho65; rw [← Ny629.out] at ho65)); have n0_ := Aside0.mk (Kd.R_elder' (by (with_reducible repeat (first | apply Kd.R_alloc | apply Kd.R_drewN | apply Kd.R_drew)); exact HO_9.out) (Kd.R_base ho65) hb); have n1_ := Aside0.mk (Kd.R_lower (Kd.R_new' ho65 (Kd.R_lt (by (with_reducible repeat (first | apply Kd.R_alloc | apply Kd.R_drewN | apply Kd.R_drew)); exact HO_9.out))) (below_size (by repeat (first | (with_reducible first | exact HB.out | apply below_alloc | apply pw_below_drewN | apply below_drew1 | refine below_set ?_ GE600.out | refine below_set ?_ GE601.out) | exact HB.out)))); have n2_ := Aside0.mk (blk_below (g := gb600) (o := .cells #[.slice A2_0 l2_0.length c2_0, .int .i64 x601001_15, .int .i64 x601002_19] 29 (0, 0)) (by (with_reducible repeat (first | refine blk_drewN ?_ _ | refine blk_drew ?_ | refine blk_alloc ?_ _)); exact BK600.out) hb); have n3_ := Aside0.mk (blk_below (g := gb601) (o := .cells #[.slice none 0 0, .int .i64 0, .int .i64 0] 29 (0, 0)) (by (with_reducible repeat (first | refine blk_drewN ?_ _ | refine blk_drew ?_ | refine blk_alloc ?_ _)); exact BK601.out) hb); have n4_ := Aside0.mk (below_step (by repeat (first | (with_reducible first | exact HB.out | apply below_alloc | apply pw_below_drewN | apply below_drew1 | refine below_set ?_ GE600.out | refine below_set ?_ GE601.out) | exact HB.out)) hb); clear HO_9; clear BK600; clear BK601; clear HB; have HO_9 := n0_; have HO631 := n1_; have BK600 := n2_; have BK601 := n3_; have HB := n4_; clear n0_ n1_ n2_ n3_ n4_; clear hb ho65))
                        go_loopg [9, 10] kj60 (fun kq v9 v10 w' => ∃ (x9_12 : List (S52)) (x10_12 : Int), v10 = .int .i64 x10_12 ∧ Aside0 (spec_l1SpoilFS.l0 kq t602 t604 x9_12 x10_12 l2_0 x601001_15 x601002_19 = some (r1, r2, r3)) ∧ Aside0 (kq ≤ kj60) ∧ Aside0 (Kd.R k52 52 w' w.heap.size (fun _ => True) v9 x9_12) ∧ Aside0 (w'.heap[gb600]? = some (.cells #[(.slice A2_0 l2_0.length c2_0), .int .i64 x601001_15, .int .i64 x601002_19] 29 (0, 0))) ∧ Aside0 (w'.heap[gb601]? = some (.cells #[(.slice none 0 0), .int .i64 0, .int .i64 0] 29 (0, 0))) ∧ Aside0 (Below w.heap.size w w'))
                        case atStart => exact ⟨(y629), (0), (by first | rfl | (simp; done) | (simp [*]; done)), H', ⟨Nat.le_refl _⟩, ⟨by (with_reducible repeat (first | apply Kd.R_alloc | apply Kd.R_drewN | apply Kd.R_drew)); exact Kd.R_mono HO631.out (fun _ hk => trivial)⟩, ⟨by (with_reducible repeat (first | refine blk_drewN ?_ _ | refine blk_drew ?_ | refine blk_alloc ?_ _)); exact BK600.out⟩, ⟨by (with_reducible repeat (first | refine blk_drewN ?_ _ | refine blk_drew ?_ | refine blk_alloc ?_ _)); exact BK601.out⟩, ⟨by repeat (first | (with_reducible first | exact HB.out | apply below_alloc | apply pw_below_drewN | apply below_drew1 | refine below_set ?_ GE600.out | refine below_set ?_ GE601.out) | exact HB.out)⟩⟩
                        case round =>
                         clear H'
                         try clear c1
                         try clear c2
                         try clear p2
                         try clear c3
                         try clear p3
                         try clear q3
                         try clear hx3
                         try clear qi3
                         try clear hf3
                         try clear c4
                         try clear p4
                         try clear q4
                         try clear hx4
                         try clear qi4
                         try clear hf4
                         try clear c5
                         try clear c6
                         try clear p6
                         try clear q6
                         try clear hx6
                         try clear qi6
                         try clear c8
                         try clear c10
                         try clear c13
                         try clear c13b0
                         try clear c13b1
                         try clear c14
                         try clear c17
                         try clear c17b0
                         try clear c17b1
                         try clear c18
                         try clear c21
                         try clear c21b0
                         try clear c21b1
                         try clear c22
                         try clear c25
                         try clear c25b0
                         try clear c25b1
                         try clear c26
                         try clear c29
                         try clear c29b0
                         try clear c29b1
                         try clear c32
                         try clear c33
                         try clear c33b0
                         try clear c33b1
                         try clear c34
                         try clear p34
                         try clear q34
                         try clear hx34
                         try clear qi34
                         try clear hf34
                         try clear c37
                         try clear c39
                         try clear c39b0
                         try clear c39b1
                         try clear c42
                         try clear c43
                         try clear c43b0
                         try clear c43b1
                         try clear c44
                         try clear p44
                         try clear q44
                         try clear hx44
                         try clear qi44
                         try clear hf44
                         try clear c47
                         try clear c49
                         try clear c49b0
                         try clear c49b1
                         try clear c50
                         try clear c56
                         try clear c56b0
                         try clear c56b1
                         try clear c58
                         try clear c58b0
                         try clear c58b1
                         try clear c58b2
                         try clear c59
                         try clear p61
                         try clear q61
                         try clear hx61
                         try clear c62
                         try clear c62b0
                         try clear c62b1
                         try clear c63
                         try clear p64
                         try clear hcz11_0
                         try clear hcz11_1
                         try clear hcz11_2
                         try clear hcz15_0
                         try clear hcz15_1
                         try clear hcz15_2
                         try clear hcz19_0
                         try clear hcz19_1
                         try clear hcz19_2
                         try clear hcz23_0
                         try clear hcz23_1
                         try clear hcz23_2
                         try clear hfz11_0
                         try clear hfz11_1
                         try clear hfz11_2
                         try clear hfz15_0
                         try clear hfz15_1
                         try clear hfz15_2
                         try clear hfz19_0
                         try clear hfz19_1
                         try clear hfz19_2
                         try clear hfz23_0
                         try clear hfz23_1
                         try clear hfz23_2
                         try clear hx34_0
                         try clear hx34_1
                         try clear hx34_2
                         try clear hx44_0
                         try clear hx44_1
                         try clear hx44_2
                         try clear hx612_0
                         try clear hx612_1
                         try clear hx612_2
                         try clear hx613_0
                         try clear hx613_1
                         try clear hx613_2
                         try clear hx614_0
                         try clear hx614_1
                         try clear hx614_2
                         try clear hx616_0
                         try clear hx616_1
                         try clear hx616_2
                         try clear hx617_0
                         try clear hx617_1
                         try clear hx617_2
                         try clear p2
                         try clear p3
                         try clear p34
                         try clear p4
                         try clear p44
                         try clear p6
                         try clear p61
                         try clear p612
                         try clear p613
                         try clear p614
                         try clear p616
                         try clear p617
                         try clear q3
                         try clear q34
                         try clear q4
                         try clear q44
                         try clear q6
                         try clear q61
                         try clear q612
                         try clear q613
                         try clear q614
                         try clear q616
                         try clear q617
                         obtain ⟨x9_12, x10_12, rfl, HA, HK12, HO_9, BK600, BK601, HB⟩ := hrel
                         cases gk with
                         | zero => exact absurd HA.out (by simp [spec_l1SpoilFS.l0])
                         | succ k12 =>
                          have H := HA.out
                          clear HA
                          simp only [spec_l1SpoilFS.l0] at H
                          by_cases c66 : x10_12 < (wrap64 (200 + (wrap64 (t604 * (wrap64 (9 - t602))))))
                          ·rw [if_pos c66] at H
                           have c66b0 : decide (x10_12 < (wrap64 (200 + (wrap64 (t604 * (wrap64 (9 - t602))))))) = true := decide_eq_true c66
                           clear c66
                           replace H := Option.bind_eq_some_iff.mp H
                           obtain ⟨t632, A670, H⟩ := H
                           replace H : (if 1 + t632.size ≤ 9223372036854775807 then (if x9_12.length < 3518437208883 then (spec_l1SpoilFS.l0 k12 t602 t604 (x9_12 ++ [(⟨(⟨#[102]⟩ : ByteArray) ++ t632, (⟨#[]⟩ : ByteArray), 0⟩ : S52)]) (wrap64 (x10_12 + 1)) l2_0 x601001_15 x601002_19) else (none)) else (none)) = some (r1, r2, r3) := H
                           have A67 := Aside0.mk A670
                           clear A670
                           by_cases c68 : 1 + t632.size ≤ 9223372036854775807
                           ·rw [if_pos c68] at H
                            have c68b0 := eq_true c68
                            have c68b1 : decide (1 + t632.size ≤ 9223372036854775807) = true := decide_eq_true c68
                            try have c68b2 : (9223372036854775807 < 1 + t632.size) = False := eq_false (Nat.not_lt.2 c68)
                            by_cases c69 : x9_12.length < 3518437208883
                            ·rw [if_pos c69] at H
                             have LMc69 := Aside0.mk c69
                             clear c69
                             obtain ⟨y633, hy633⟩ : ∃ y_ : List (S52), y_ = (x9_12 ++ [(⟨(⟨#[102]⟩ : ByteArray) ++ t632, (⟨#[]⟩ : ByteArray), 0⟩ : S52)]) := ⟨_, rfl⟩
                             replace H : (spec_l1SpoilFS.l0 k12 t602 t604 y633 (wrap64 (x10_12 + 1)) l2_0 x601001_15 x601002_19) = some (r1, r2, r3) := by first | (rw [hy633]; with_reducible exact H) | (have H2_ := (Option.bind_some _ _).symm.trans H; rw [hy633]; with_reducible exact H2_) | (have H2_ := (Option.bind_some _ _).symm.trans H; with_reducible exact H2_) | with_reducible exact H | (rw [hy633]; exact H) | exact H
                             have Ny633 := Aside0.mk hy633
                             clear hy633
                             have H' := Aside0.mk H
                             clear H
                             go_wp2_with (first | ((with_reducible refine gate_callee (f := 86) rfl ?_); refine goesL_ (some 120) rfl rfl Try.func86 (by kernel_rfl) rfl #[.int .i64 x10_12] rfl (by (try simp only [List.map_toArray, List.map_cons, List.map_nil]); first | done | rfl | (simp only [List.length_drop, List.length_take]; rfl)) ?_; (with_reducible refine (spec_l1Pad.calls x10_12 t632 _ A67.out).mono ?_); rintro e w' ⟨rfl, ⟨nd, rfl⟩⟩; refine ⟨_, rfl, ?_⟩) | ((with_reducible refine gate_builtin (b := .append) (xs := #[.tmp 118, .tmp 123]) rfl ?_); (try (refine gate_guard (by rfl) ?_; dsimp only)); at_builtin; refine Kd.R_append k52 (w0 := w) w.heap.size rfl (.tmp 118) (.tmp 123) 27 52 (.agg #[(.string ⟨#[]⟩), (.string ⟨#[]⟩), (.int .i64 0)]) 40 rfl Try.underlying27 info52 rfl (by decide) (by omega) u9 x9_12 (⟨(⟨#[102]⟩ : ByteArray) ++ t632, (⟨#[]⟩ : ByteArray), 0⟩ : S52) [.string ((⟨#[102]⟩ : ByteArray) ++ t632), .string (⟨#[]⟩ : ByteArray), .int .i64 0] (fun _ => True) (fun _ => False) rfl rfl ?aP (fun _ hk => hk.elim) ?aF ?aO ?aB ?aS ?aL ?_; (case aP => exact k52_mkM _ _ _ (⟨(⟨#[102]⟩ : ByteArray) ++ t632, (⟨#[]⟩ : ByteArray), 0⟩ : S52)); (case aB => exact (by repeat (first | (with_reducible first | exact HB.out | apply below_alloc | apply pw_below_drewN | apply below_drew1 | refine below_set ?_ GE600.out | refine below_set ?_ GE601.out) | exact HB.out))); (case aF => exact (fun _ _ => trivial)); (case aO => exact (by (with_reducible repeat (first | apply Kd.R_alloc | apply Kd.R_drewN | apply Kd.R_drew)); exact HO_9.out)); (case aS => exact (below_size (by repeat (first | (with_reducible first | exact HB.out | apply below_alloc | apply pw_below_drewN | apply below_drew1 | refine below_set ?_ GE600.out | refine below_set ?_ GE601.out) | exact HB.out)))); (case aL => have := LMc69.out; omega); intro v634 w70 ho hb hg hat; rw [← Ny633.out] at ho; have n0_ := Aside0.mk (blk_grown (g := gb600) (o := .cells #[.slice A2_0 l2_0.length c2_0, .int .i64 x601001_15, .int .i64 x601002_19] 29 (0, 0)) (by (with_reducible repeat (first | refine blk_drewN ?_ _ | refine blk_drew ?_ | refine blk_alloc ?_ _)); exact BK600.out) hg (Kd.R_ne HO_9.out BK600.out (by decide))); have n1_ := Aside0.mk (blk_grown (g := gb601) (o := .cells #[.slice none 0 0, .int .i64 0, .int .i64 0] 29 (0, 0)) (by (with_reducible repeat (first | refine blk_drewN ?_ _ | refine blk_drew ?_ | refine blk_alloc ?_ _)); exact BK601.out) hg (Kd.R_ne HO_9.out BK601.out (by decide))); have n2_ := Aside0.mk (hb); have n3_ := Aside0.mk (ho); clear BK600; clear BK601; clear HB; clear HO_9; have BK600 := n0_; have BK601 := n1_; have HB := n2_; have HO635 := n3_; clear n0_ n1_ n2_ n3_; clear ho hb hg hat))
                             go_roundg k12
                             case measure => have := HJ6.out; have := HJ15.out; have := HJ19.out; have := HJ23.out; have := HJ27.out; have := HJ30.out; have := HJ37.out; have := HJ40.out; have := HJ47.out; have := HJ54.out; have := HJ60.out; have := HK12.out; omega
                             case rel => exact ⟨(y633), (wrap64 (x10_12 + 1)), (by first | rfl | (simp; done) | (simp [*]; done)), H', ⟨by have := HJ6.out; have := HJ15.out; have := HJ19.out; have := HJ23.out; have := HJ27.out; have := HJ30.out; have := HJ37.out; have := HJ40.out; have := HJ47.out; have := HJ54.out; have := HJ60.out; have := HK12.out; omega⟩, ⟨by (with_reducible repeat (first | apply Kd.R_alloc | apply Kd.R_drewN | apply Kd.R_drew)); exact HO635.out⟩, ⟨by (with_reducible repeat (first | refine blk_drewN ?_ _ | refine blk_drew ?_ | refine blk_alloc ?_ _)); exact BK600.out⟩, ⟨by (with_reducible repeat (first | refine blk_drewN ?_ _ | refine blk_drew ?_ | refine blk_alloc ?_ _)); exact BK601.out⟩, ⟨by repeat (first | (with_reducible first | exact HB.out | apply below_alloc | apply pw_below_drewN | apply below_drew1 | refine below_set ?_ GE600.out | refine below_set ?_ GE601.out) | exact HB.out)⟩⟩
                            ·rw [if_neg c69] at H
                             exact absurd H (by simp)
                           ·rw [if_neg c68] at H
                            exact absurd H (by simp)
                          ·rw [if_neg c66] at H
                           have c66b0 : decide (x10_12 < (wrap64 (200 + (wrap64 (t604 * (wrap64 (9 - t602))))))) = false := decide_eq_false c66
                           clear c66
                           by_cases c71 : t602 = 10
                           ·rw [if_pos c71] at H
                            have c71b0 : (t602 == 10) = true := beq_iff_eq.mpr c71
                            have c71b1 : (t602 != 10) = false := bne_eq_false_iff_eq.mpr c71
                            clear c71
                            replace H := Option.bind_eq_some_iff.mp H
                            obtain ⟨t636, A720, H⟩ := H
                            replace H : (some ((([(⟨(⟨#[98, 105, 103]⟩ : ByteArray), t636, 0⟩ : S52)] : List (S52))), 1048576, x601002_19)) = some (r1, r2, r3) := H
                            have A72 := Aside0.mk A720
                            clear A720
                            obtain ⟨y637, hy637⟩ : ∃ y_ : List (S52), y_ = (([(⟨(⟨#[98, 105, 103]⟩ : ByteArray), t636, 0⟩ : S52)] : List (S52))) := ⟨_, rfl⟩
                            replace H : (some (y637, 1048576, x601002_19)) = some (r1, r2, r3) := by first | (rw [hy637]; with_reducible exact H) | (have H2_ := (Option.bind_some _ _).symm.trans H; rw [hy637]; with_reducible exact H2_) | (have H2_ := (Option.bind_some _ _).symm.trans H; with_reducible exact H2_) | with_reducible exact H | (rw [hy637]; exact H) | exact H
                            have Ny637 := Aside0.mk hy637
                            clear hy637
                            simp only [Option.some.injEq, Prod.mk.injEq] at H
                            obtain ⟨rfl, rfl, rfl⟩ := H
                            go_wp2_with (first | ((with_reducible refine gate_callee (f := 66) rfl ?_); refine goesL_ (some 130) rfl rfl Try.func66 (by kernel_rfl) rfl #[.int .i64 (wrap64 (1048566 + (wrap64 (t604 * 11)))), .string (⟨#[98]⟩ : ByteArray)] rfl (by (try simp only [List.map_toArray, List.map_cons, List.map_nil]); first | done | rfl | (simp only [List.length_drop, List.length_take]; rfl)) ?_; (with_reducible refine (spec_l1Long.calls (wrap64 (1048566 + (wrap64 (t604 * 11)))) (⟨#[98]⟩ : ByteArray) t636 _ A72.out).mono ?_); rintro e w' ⟨rfl, ⟨nd, rfl⟩⟩; refine ⟨_, rfl, ?_⟩; (try (rw [drewN_self wr]; generalize hq_ : World.drewN wr _ = wr; have n0_ : Aside0 (Kd.R k52 52 wr w.heap.size (fun _ => True) u9 x9_12) := ⟨by rw [← hq_]; exact (by (with_reducible repeat (first | apply Kd.R_alloc | apply Kd.R_drewN | apply Kd.R_drew)); exact HO_9.out)⟩; have n1_ : Aside0 (wr.heap[gb600]? = some (.cells #[.slice A2_0 l2_0.length c2_0, .int .i64 x601001_15, .int .i64 x601002_19] 29 (0, 0))) := ⟨by rw [← hq_]; exact (by (with_reducible repeat (first | refine blk_drewN ?_ _ | refine blk_drew ?_ | refine blk_alloc ?_ _)); exact BK600.out)⟩; have n2_ : Aside0 (wr.heap[gb601]? = some (.cells #[.slice none 0 0, .int .i64 0, .int .i64 0] 29 (0, 0))) := ⟨by rw [← hq_]; exact (by (with_reducible repeat (first | refine blk_drewN ?_ _ | refine blk_drew ?_ | refine blk_alloc ?_ _)); exact BK601.out)⟩; have n3_ : Aside0 (Below w.heap.size w wr) := ⟨by rw [← hq_]; exact (by repeat (first | (with_reducible first | exact HB.out | apply below_alloc | apply pw_below_drewN | apply below_drew1 | refine below_set ?_ GE600.out | refine below_set ?_ GE601.out) | exact HB.out))⟩; clear HO_9 BK600 BK601 HB hq_; have HO_9 := n0_; have BK600 := n1_; have BK601 := n2_; have HB := n3_; clear n0_ n1_ n2_ n3_))) | ((with_reducible refine gate_dst (N := 132) rfl ?_); (try (refine gate_guard (by rfl) ?_; dsimp only)); refine Kd.R_lit k52 _ 52 ?hg (N := 132) ?hd (xs := ([(⟨(⟨#[98, 105, 103]⟩ : ByteArray), t636, 0⟩ : S52)] : List (S52))) (inner := [.string (⟨#[98, 105, 103]⟩ : ByteArray), .string t636, .int .i64 0]) (ok := fun _ => True) (okp := fun _ => True) ?hr ?hp (fun _ hk => hk) trivial (Below.refl _ _) (Nat.le_refl _) (by simp) ?_; (case hd => rfl); (case hg => rfl); (case hr => first | (go_simp; done) | (go_simp; rfl)); (case hp => exact (Reps.c3 (show Kd.M k52 _ _ _ (⟨(⟨#[98, 105, 103]⟩ : ByteArray), t636, 0⟩ : S52) [.string (⟨#[98, 105, 103]⟩ : ByteArray), .string t636, .int .i64 0] from (k52_mkM _ _ _ (⟨(⟨#[98, 105, 103]⟩ : ByteArray), t636, 0⟩ : S52) )) (Reps.none _ _))); intro v638 w73 ho74 hb hg_ hnew_; clear hg_ hnew_; (first | rw [← Ny637.out] at ho74 | (simp only [Int.reduceToNat] at ho74; rw [← Ny637.out] at ho74)); have n0_ := Aside0.mk (Kd.R_elder' (by (with_reducible repeat (first | apply Kd.R_alloc | apply Kd.R_drewN | apply Kd.R_drew)); exact HO_9.out) (Kd.R_base ho74) hb); have n1_ := Aside0.mk (Kd.R_lower (Kd.R_new' ho74 (Kd.R_lt (by (with_reducible repeat (first | apply Kd.R_alloc | apply Kd.R_drewN | apply Kd.R_drew)); exact HO_9.out))) (below_size (by repeat (first | (with_reducible first | exact HB.out | apply below_alloc | apply pw_below_drewN | apply below_drew1 | refine below_set ?_ GE600.out | refine below_set ?_ GE601.out) | exact HB.out)))); have n2_ := Aside0.mk (blk_below (g := gb600) (o := .cells #[.slice A2_0 l2_0.length c2_0, .int .i64 x601001_15, .int .i64 x601002_19] 29 (0, 0)) (by (with_reducible repeat (first | refine blk_drewN ?_ _ | refine blk_drew ?_ | refine blk_alloc ?_ _)); exact BK600.out) hb); have n3_ := Aside0.mk (blk_below (g := gb601) (o := .cells #[.slice none 0 0, .int .i64 0, .int .i64 0] 29 (0, 0)) (by (with_reducible repeat (first | refine blk_drewN ?_ _ | refine blk_drew ?_ | refine blk_alloc ?_ _)); exact BK601.out) hb); have n4_ := Aside0.mk (below_step (by repeat (first | (with_reducible first | exact HB.out | apply below_alloc | apply pw_below_drewN | apply below_drew1 | refine below_set ?_ GE600.out | refine below_set ?_ GE601.out) | exact HB.out)) hb); clear HO_9; clear BK600; clear BK601; clear HB; have HO_9 := n0_; have HO639 := n1_; have BK600 := n2_; have BK601 := n3_; have HB := n4_; clear n0_ n1_ n2_ n3_ n4_; clear hb ho74; have hnb75 := NB600_601.out; have hnc75 := NB601_600.out; have hcz76_0 : w73.cell? ⟨gb600, 0, none⟩ = some (.slice A2_0 l2_0.length c2_0) := (blk_cell BK600.out 0).trans rfl; have hcz76_1 : w73.cell? ⟨gb600, 1, none⟩ = some (.int .i64 x601001_15) := (blk_cell BK600.out 1).trans rfl; have hcz76_2 : w73.cell? ⟨gb600, 2, none⟩ = some (.int .i64 x601002_19) := (blk_cell BK600.out 2).trans rfl; have hfz76_0 := blk_frozen BK600.out 0; have hfz76_1 := blk_frozen BK600.out 1; have hfz76_2 := blk_frozen BK600.out 2; obtain ⟨Ao77, co77, eo77⟩ := Kd.R_slice HO639.out; subst eo77; have hcz78_0 : w73.cell? ⟨gb601, 0, none⟩ = some (.slice none 0 0) := (blk_cell BK601.out 0).trans rfl; have hcz78_1 : w73.cell? ⟨gb601, 1, none⟩ = some (.int .i64 0) := (blk_cell BK601.out 1).trans rfl; have hcz78_2 : w73.cell? ⟨gb601, 2, none⟩ = some (.int .i64 0) := (blk_cell BK601.out 2).trans rfl; have hfz78_0 := blk_frozen BK601.out 0; have hfz78_1 := blk_frozen BK601.out 1; have hfz78_2 := blk_frozen BK601.out 2))
                            refine bodyPost_ret (results_cell_row rfl _ _ gb601 29 #[.slice Ao77 y637.length co77, .int .i64 1048576, .int .i64 x601002_19] (0, 0) _ rfl (by (with_reducible repeat (first | refine blk_drewN ?_ _ | refine blk_drew ?_ | refine blk_alloc ?_ _)); refine blk_put (cs := #[.slice Ao77 y637.length co77, .int .i64 1048576, .int .i64 0]) ?_ 2 _ rfl; (with_reducible repeat (first | refine blk_drewN ?_ _ | refine blk_drew ?_ | refine blk_alloc ?_ _)); refine blk_put (cs := #[.slice Ao77 y637.length co77, .int .i64 0, .int .i64 0]) ?_ 1 _ rfl; (with_reducible repeat (first | refine blk_drewN ?_ _ | refine blk_drew ?_ | refine blk_alloc ?_ _)); refine blk_put (cs := #[.slice none 0 0, .int .i64 0, .int .i64 0]) ?_ 0 _ rfl; (with_reducible repeat (first | refine blk_drewN ?_ _ | refine blk_drew ?_ | refine blk_alloc ?_ _)); refine blk_far ?_ NB601_600.out _; (with_reducible repeat (first | refine blk_drewN ?_ _ | refine blk_drew ?_ | refine blk_alloc ?_ _)); refine blk_far ?_ NB601_600.out _; (with_reducible repeat (first | refine blk_drewN ?_ _ | refine blk_drew ?_ | refine blk_alloc ?_ _)); exact BK601.out) Try.underlying29 rfl (by kernel_rfl)) rfl ?_
                            exact ⟨_, by first | rfl | (simp [errW_none, errW_some] <;> rfl) | (simp [*, errW_none, errW_some] <;> rfl), by (with_reducible repeat (first | apply Kd.R_alloc | apply Kd.R_drewN | apply Kd.R_drew)); exact Kd.R_mono (Kd.R_far (p := ⟨gb601, 2, none⟩) (Kd.R_far (p := ⟨gb601, 1, none⟩) (Kd.R_far (p := ⟨gb601, 0, none⟩) (Kd.R_far (p := ⟨gb600, 0, none⟩) (Kd.R_far (p := ⟨gb600, 1, none⟩) (Kd.R_types (Kd.R_types HO639.out BK600.out (by decide)) BK601.out (by decide)) (fun _ hk => hk.1.2) (.int .i64 1048576)) (fun _ hk => hk.1.2) (.slice Ao77 y637.length co77)) (fun _ hk => hk.2) (.slice Ao77 y637.length co77)) (fun _ hk => hk.2) (.int .i64 1048576)) (fun _ hk => hk.2) (.int .i64 x601002_19)) (fun _ hk => trivial), by repeat (first | (with_reducible first | exact HB.out | apply below_alloc | apply pw_below_drewN | apply below_drew1 | refine below_set ?_ GE600.out | refine below_set ?_ GE601.out) | exact HB.out)⟩
                           ·rw [if_neg c71] at H
                            have c71b0 : (t602 == 10) = false := beq_eq_false_iff_ne.mpr c71
                            have c71b1 : (t602 != 10) = true := bne_iff_ne.mpr c71
                            simp only [Option.some.injEq, Prod.mk.injEq] at H
                            obtain ⟨rfl, rfl, rfl⟩ := H
                            obtain ⟨Ao79, co79, eo79⟩ := Kd.R_slice HO_9.out
                            subst eo79
                            have hnb80 := NB600_601.out
                            have hnc80 := NB601_600.out
                            have hcz81_0 : wr.cell? ⟨gb600, 0, none⟩ = some (.slice A2_0 l2_0.length c2_0) := (blk_cell BK600.out 0).trans rfl
                            have hcz81_1 : wr.cell? ⟨gb600, 1, none⟩ = some (.int .i64 x601001_15) := (blk_cell BK600.out 1).trans rfl
                            have hcz81_2 : wr.cell? ⟨gb600, 2, none⟩ = some (.int .i64 x601002_19) := (blk_cell BK600.out 2).trans rfl
                            have hfz81_0 := blk_frozen BK600.out 0
                            have hfz81_1 := blk_frozen BK600.out 1
                            have hfz81_2 := blk_frozen BK600.out 2
                            have hcz82_0 : wr.cell? ⟨gb601, 0, none⟩ = some (.slice none 0 0) := (blk_cell BK601.out 0).trans rfl
                            have hcz82_1 : wr.cell? ⟨gb601, 1, none⟩ = some (.int .i64 0) := (blk_cell BK601.out 1).trans rfl
                            have hcz82_2 : wr.cell? ⟨gb601, 2, none⟩ = some (.int .i64 0) := (blk_cell BK601.out 2).trans rfl
                            have hfz82_0 := blk_frozen BK601.out 0
                            have hfz82_1 := blk_frozen BK601.out 1
                            have hfz82_2 := blk_frozen BK601.out 2
                            go_wp2
                            refine bodyPost_ret (results_cell_row rfl _ _ gb601 29 #[.slice Ao79 x9_12.length co79, .int .i64 x601001_15, .int .i64 x601002_19] (0, 0) _ rfl (by (with_reducible repeat (first | refine blk_drewN ?_ _ | refine blk_drew ?_ | refine blk_alloc ?_ _)); refine blk_put (cs := #[.slice Ao79 x9_12.length co79, .int .i64 x601001_15, .int .i64 0]) ?_ 2 _ rfl; (with_reducible repeat (first | refine blk_drewN ?_ _ | refine blk_drew ?_ | refine blk_alloc ?_ _)); refine blk_put (cs := #[.slice Ao79 x9_12.length co79, .int .i64 0, .int .i64 0]) ?_ 1 _ rfl; (with_reducible repeat (first | refine blk_drewN ?_ _ | refine blk_drew ?_ | refine blk_alloc ?_ _)); refine blk_put (cs := #[.slice none 0 0, .int .i64 0, .int .i64 0]) ?_ 0 _ rfl; (with_reducible repeat (first | refine blk_drewN ?_ _ | refine blk_drew ?_ | refine blk_alloc ?_ _)); refine blk_far ?_ NB601_600.out _; (with_reducible repeat (first | refine blk_drewN ?_ _ | refine blk_drew ?_ | refine blk_alloc ?_ _)); exact BK601.out) Try.underlying29 rfl (by kernel_rfl)) rfl ?_
                            exact ⟨_, by first | rfl | (simp [errW_none, errW_some] <;> rfl) | (simp [*, errW_none, errW_some] <;> rfl), by (with_reducible repeat (first | apply Kd.R_alloc | apply Kd.R_drewN | apply Kd.R_drew)); exact Kd.R_mono (Kd.R_far (p := ⟨gb601, 2, none⟩) (Kd.R_far (p := ⟨gb601, 1, none⟩) (Kd.R_far (p := ⟨gb601, 0, none⟩) (Kd.R_far (p := ⟨gb600, 0, none⟩) (Kd.R_types (Kd.R_types HO_9.out BK600.out (by decide)) BK601.out (by decide)) (fun _ hk => hk.1.2) (.slice Ao79 x9_12.length co79)) (fun _ hk => hk.2) (.slice Ao79 x9_12.length co79)) (fun _ hk => hk.2) (.int .i64 x601001_15)) (fun _ hk => hk.2) (.int .i64 x601002_19)) (fun _ hk => trivial), by repeat (first | (with_reducible first | exact HB.out | apply below_alloc | apply pw_below_drewN | apply below_drew1 | refine below_set ?_ GE600.out | refine below_set ?_ GE601.out) | exact HB.out)⟩
                       ·replace c63 := Bool.eq_false_iff.mpr c63
                        subst c63
                        have H1 : (if t602 = 10 then ((spec_l1Long.f (wrap64 (1048566 + (wrap64 (t604 * 11)))) (⟨#[98]⟩ : ByteArray)).bind fun t640 => (some ((([(⟨(⟨#[98, 105, 103]⟩ : ByteArray), t640, 0⟩ : S52)] : List (S52))), 1048576, x601002_19))) else (some (x9_54, x601001_15, x601002_19))) = some (r1, r2, r3) := by rw [if_neg (show ¬ (false = true) by decide)] at H; exact H
                        clear H
                        have H := H1
                        clear H1
                        by_cases c83 : t602 = 10
                        ·rw [if_pos c83] at H
                         have c83b0 : (t602 == 10) = true := beq_iff_eq.mpr c83
                         have c83b1 : (t602 != 10) = false := bne_eq_false_iff_eq.mpr c83
                         clear c83
                         replace H := Option.bind_eq_some_iff.mp H
                         obtain ⟨t640, A840, H⟩ := H
                         replace H : (some ((([(⟨(⟨#[98, 105, 103]⟩ : ByteArray), t640, 0⟩ : S52)] : List (S52))), 1048576, x601002_19)) = some (r1, r2, r3) := H
                         have A84 := Aside0.mk A840
                         clear A840
                         obtain ⟨y641, hy641⟩ : ∃ y_ : List (S52), y_ = (([(⟨(⟨#[98, 105, 103]⟩ : ByteArray), t640, 0⟩ : S52)] : List (S52))) := ⟨_, rfl⟩
                         replace H : (some (y641, 1048576, x601002_19)) = some (r1, r2, r3) := by first | (rw [hy641]; with_reducible exact H) | (have H2_ := (Option.bind_some _ _).symm.trans H; rw [hy641]; with_reducible exact H2_) | (have H2_ := (Option.bind_some _ _).symm.trans H; with_reducible exact H2_) | with_reducible exact H | (rw [hy641]; exact H) | exact H
                         have Ny641 := Aside0.mk hy641
                         clear hy641
                         simp only [Option.some.injEq, Prod.mk.injEq] at H
                         obtain ⟨rfl, rfl, rfl⟩ := H
                         go_wp2_with (first | ((with_reducible refine gate_callee (f := 66) rfl ?_); refine goesL_ (some 130) rfl rfl Try.func66 (by kernel_rfl) rfl #[.int .i64 (wrap64 (1048566 + (wrap64 (t604 * 11)))), .string (⟨#[98]⟩ : ByteArray)] rfl (by (try simp only [List.map_toArray, List.map_cons, List.map_nil]); first | done | rfl | (simp only [List.length_drop, List.length_take]; rfl)) ?_; (with_reducible refine (spec_l1Long.calls (wrap64 (1048566 + (wrap64 (t604 * 11)))) (⟨#[98]⟩ : ByteArray) t640 _ A84.out).mono ?_); rintro e w' ⟨rfl, ⟨nd, rfl⟩⟩; refine ⟨_, rfl, ?_⟩; (try (rw [drewN_self wc]; generalize hq_ : World.drewN wc _ = wc; have n0_ : Aside0 (Kd.R k52 52 wc w.heap.size (fun _ => True) u9 x9_54) := ⟨by rw [← hq_]; exact (by (with_reducible repeat (first | apply Kd.R_alloc | apply Kd.R_drewN | apply Kd.R_drew)); exact HO_9.out)⟩; have n1_ : Aside0 (wc.heap[gb600]? = some (.cells #[.slice A2_0 l2_0.length c2_0, .int .i64 x601001_15, .int .i64 x601002_19] 29 (0, 0))) := ⟨by rw [← hq_]; exact (by (with_reducible repeat (first | refine blk_drewN ?_ _ | refine blk_drew ?_ | refine blk_alloc ?_ _)); exact BK600.out)⟩; have n2_ : Aside0 (wc.heap[gb601]? = some (.cells #[.slice none 0 0, .int .i64 0, .int .i64 0] 29 (0, 0))) := ⟨by rw [← hq_]; exact (by (with_reducible repeat (first | refine blk_drewN ?_ _ | refine blk_drew ?_ | refine blk_alloc ?_ _)); exact BK601.out)⟩; have n3_ : Aside0 (Below w.heap.size w wc) := ⟨by rw [← hq_]; exact (by repeat (first | (with_reducible first | exact HB.out | apply below_alloc | apply pw_below_drewN | apply below_drew1 | refine below_set ?_ GE600.out | refine below_set ?_ GE601.out) | exact HB.out))⟩; clear HO_9 BK600 BK601 HB hq_; have HO_9 := n0_; have BK600 := n1_; have BK601 := n2_; have HB := n3_; clear n0_ n1_ n2_ n3_))) | ((with_reducible refine gate_dst (N := 132) rfl ?_); (try (refine gate_guard (by rfl) ?_; dsimp only)); refine Kd.R_lit k52 _ 52 ?hg (N := 132) ?hd (xs := ([(⟨(⟨#[98, 105, 103]⟩ : ByteArray), t640, 0⟩ : S52)] : List (S52))) (inner := [.string (⟨#[98, 105, 103]⟩ : ByteArray), .string t640, .int .i64 0]) (ok := fun _ => True) (okp := fun _ => True) ?hr ?hp (fun _ hk => hk) trivial (Below.refl _ _) (Nat.le_refl _) (by simp) ?_; (case hd => rfl); (case hg => rfl); (case hr => first | (go_simp; done) | (go_simp; rfl)); (case hp => exact (Reps.c3 (show Kd.M k52 _ _ _ (⟨(⟨#[98, 105, 103]⟩ : ByteArray), t640, 0⟩ : S52) [.string (⟨#[98, 105, 103]⟩ : ByteArray), .string t640, .int .i64 0] from (k52_mkM _ _ _ (⟨(⟨#[98, 105, 103]⟩ : ByteArray), t640, 0⟩ : S52) )) (Reps.none _ _))); intro v642 w85 ho86 hb hg_ hnew_; clear hg_ hnew_; (first | rw [← Ny641.out] at ho86 | (simp only [Int.reduceToNat] at ho86; rw [← Ny641.out] at ho86)); have n0_ := Aside0.mk (Kd.R_elder' (by (with_reducible repeat (first | apply Kd.R_alloc | apply Kd.R_drewN | apply Kd.R_drew)); exact HO_9.out) (Kd.R_base ho86) hb); have n1_ := Aside0.mk (Kd.R_lower (Kd.R_new' ho86 (Kd.R_lt (by (with_reducible repeat (first | apply Kd.R_alloc | apply Kd.R_drewN | apply Kd.R_drew)); exact HO_9.out))) (below_size (by repeat (first | (with_reducible first | exact HB.out | apply below_alloc | apply pw_below_drewN | apply below_drew1 | refine below_set ?_ GE600.out | refine below_set ?_ GE601.out) | exact HB.out)))); have n2_ := Aside0.mk (blk_below (g := gb600) (o := .cells #[.slice A2_0 l2_0.length c2_0, .int .i64 x601001_15, .int .i64 x601002_19] 29 (0, 0)) (by (with_reducible repeat (first | refine blk_drewN ?_ _ | refine blk_drew ?_ | refine blk_alloc ?_ _)); exact BK600.out) hb); have n3_ := Aside0.mk (blk_below (g := gb601) (o := .cells #[.slice none 0 0, .int .i64 0, .int .i64 0] 29 (0, 0)) (by (with_reducible repeat (first | refine blk_drewN ?_ _ | refine blk_drew ?_ | refine blk_alloc ?_ _)); exact BK601.out) hb); have n4_ := Aside0.mk (below_step (by repeat (first | (with_reducible first | exact HB.out | apply below_alloc | apply pw_below_drewN | apply below_drew1 | refine below_set ?_ GE600.out | refine below_set ?_ GE601.out) | exact HB.out)) hb); clear HO_9; clear BK600; clear BK601; clear HB; have HO_9 := n0_; have HO643 := n1_; have BK600 := n2_; have BK601 := n3_; have HB := n4_; clear n0_ n1_ n2_ n3_ n4_; clear hb ho86; have hnb87 := NB600_601.out; have hnc87 := NB601_600.out; have hcz88_0 : w85.cell? ⟨gb600, 0, none⟩ = some (.slice A2_0 l2_0.length c2_0) := (blk_cell BK600.out 0).trans rfl; have hcz88_1 : w85.cell? ⟨gb600, 1, none⟩ = some (.int .i64 x601001_15) := (blk_cell BK600.out 1).trans rfl; have hcz88_2 : w85.cell? ⟨gb600, 2, none⟩ = some (.int .i64 x601002_19) := (blk_cell BK600.out 2).trans rfl; have hfz88_0 := blk_frozen BK600.out 0; have hfz88_1 := blk_frozen BK600.out 1; have hfz88_2 := blk_frozen BK600.out 2; obtain ⟨Ao89, co89, eo89⟩ := Kd.R_slice HO643.out; subst eo89; have hcz90_0 : w85.cell? ⟨gb601, 0, none⟩ = some (.slice none 0 0) := (blk_cell BK601.out 0).trans rfl; have hcz90_1 : w85.cell? ⟨gb601, 1, none⟩ = some (.int .i64 0) := (blk_cell BK601.out 1).trans rfl; have hcz90_2 : w85.cell? ⟨gb601, 2, none⟩ = some (.int .i64 0) := (blk_cell BK601.out 2).trans rfl; have hfz90_0 := blk_frozen BK601.out 0; have hfz90_1 := blk_frozen BK601.out 1; have hfz90_2 := blk_frozen BK601.out 2))
                         refine bodyPost_ret (results_cell_row rfl _ _ gb601 29 #[.slice Ao89 y641.length co89, .int .i64 1048576, .int .i64 x601002_19] (0, 0) _ rfl (by (with_reducible repeat (first | refine blk_drewN ?_ _ | refine blk_drew ?_ | refine blk_alloc ?_ _)); refine blk_put (cs := #[.slice Ao89 y641.length co89, .int .i64 1048576, .int .i64 0]) ?_ 2 _ rfl; (with_reducible repeat (first | refine blk_drewN ?_ _ | refine blk_drew ?_ | refine blk_alloc ?_ _)); refine blk_put (cs := #[.slice Ao89 y641.length co89, .int .i64 0, .int .i64 0]) ?_ 1 _ rfl; (with_reducible repeat (first | refine blk_drewN ?_ _ | refine blk_drew ?_ | refine blk_alloc ?_ _)); refine blk_put (cs := #[.slice none 0 0, .int .i64 0, .int .i64 0]) ?_ 0 _ rfl; (with_reducible repeat (first | refine blk_drewN ?_ _ | refine blk_drew ?_ | refine blk_alloc ?_ _)); refine blk_far ?_ NB601_600.out _; (with_reducible repeat (first | refine blk_drewN ?_ _ | refine blk_drew ?_ | refine blk_alloc ?_ _)); refine blk_far ?_ NB601_600.out _; (with_reducible repeat (first | refine blk_drewN ?_ _ | refine blk_drew ?_ | refine blk_alloc ?_ _)); exact BK601.out) Try.underlying29 rfl (by kernel_rfl)) rfl ?_
                         exact ⟨_, by first | rfl | (simp [errW_none, errW_some] <;> rfl) | (simp [*, errW_none, errW_some] <;> rfl), by (with_reducible repeat (first | apply Kd.R_alloc | apply Kd.R_drewN | apply Kd.R_drew)); exact Kd.R_mono (Kd.R_far (p := ⟨gb601, 2, none⟩) (Kd.R_far (p := ⟨gb601, 1, none⟩) (Kd.R_far (p := ⟨gb601, 0, none⟩) (Kd.R_far (p := ⟨gb600, 0, none⟩) (Kd.R_far (p := ⟨gb600, 1, none⟩) (Kd.R_types (Kd.R_types HO643.out BK600.out (by decide)) BK601.out (by decide)) (fun _ hk => hk.1.2) (.int .i64 1048576)) (fun _ hk => hk.1.2) (.slice Ao89 y641.length co89)) (fun _ hk => hk.2) (.slice Ao89 y641.length co89)) (fun _ hk => hk.2) (.int .i64 1048576)) (fun _ hk => hk.2) (.int .i64 x601002_19)) (fun _ hk => trivial), by repeat (first | (with_reducible first | exact HB.out | apply below_alloc | apply pw_below_drewN | apply below_drew1 | refine below_set ?_ GE600.out | refine below_set ?_ GE601.out) | exact HB.out)⟩
                        ·rw [if_neg c83] at H
                         have c83b0 : (t602 == 10) = false := beq_eq_false_iff_ne.mpr c83
                         have c83b1 : (t602 != 10) = true := bne_iff_ne.mpr c83
                         simp only [Option.some.injEq, Prod.mk.injEq] at H
                         obtain ⟨rfl, rfl, rfl⟩ := H
                         obtain ⟨Ao91, co91, eo91⟩ := Kd.R_slice HO_9.out
                         subst eo91
                         have hnb92 := NB600_601.out
                         have hnc92 := NB601_600.out
                         have hcz93_0 : wc.cell? ⟨gb600, 0, none⟩ = some (.slice A2_0 l2_0.length c2_0) := (blk_cell BK600.out 0).trans rfl
                         have hcz93_1 : wc.cell? ⟨gb600, 1, none⟩ = some (.int .i64 x601001_15) := (blk_cell BK600.out 1).trans rfl
                         have hcz93_2 : wc.cell? ⟨gb600, 2, none⟩ = some (.int .i64 x601002_19) := (blk_cell BK600.out 2).trans rfl
                         have hfz93_0 := blk_frozen BK600.out 0
                         have hfz93_1 := blk_frozen BK600.out 1
                         have hfz93_2 := blk_frozen BK600.out 2
                         have hcz94_0 : wc.cell? ⟨gb601, 0, none⟩ = some (.slice none 0 0) := (blk_cell BK601.out 0).trans rfl
                         have hcz94_1 : wc.cell? ⟨gb601, 1, none⟩ = some (.int .i64 0) := (blk_cell BK601.out 1).trans rfl
                         have hcz94_2 : wc.cell? ⟨gb601, 2, none⟩ = some (.int .i64 0) := (blk_cell BK601.out 2).trans rfl
                         have hfz94_0 := blk_frozen BK601.out 0
                         have hfz94_1 := blk_frozen BK601.out 1
                         have hfz94_2 := blk_frozen BK601.out 2
                         go_wp2
                         refine bodyPost_ret (results_cell_row rfl _ _ gb601 29 #[.slice Ao91 x9_54.length co91, .int .i64 x601001_15, .int .i64 x601002_19] (0, 0) _ rfl (by (with_reducible repeat (first | refine blk_drewN ?_ _ | refine blk_drew ?_ | refine blk_alloc ?_ _)); refine blk_put (cs := #[.slice Ao91 x9_54.length co91, .int .i64 x601001_15, .int .i64 0]) ?_ 2 _ rfl; (with_reducible repeat (first | refine blk_drewN ?_ _ | refine blk_drew ?_ | refine blk_alloc ?_ _)); refine blk_put (cs := #[.slice Ao91 x9_54.length co91, .int .i64 0, .int .i64 0]) ?_ 1 _ rfl; (with_reducible repeat (first | refine blk_drewN ?_ _ | refine blk_drew ?_ | refine blk_alloc ?_ _)); refine blk_put (cs := #[.slice none 0 0, .int .i64 0, .int .i64 0]) ?_ 0 _ rfl; (with_reducible repeat (first | refine blk_drewN ?_ _ | refine blk_drew ?_ | refine blk_alloc ?_ _)); refine blk_far ?_ NB601_600.out _; (with_reducible repeat (first | refine blk_drewN ?_ _ | refine blk_drew ?_ | refine blk_alloc ?_ _)); exact BK601.out) Try.underlying29 rfl (by kernel_rfl)) rfl ?_
                         exact ⟨_, by first | rfl | (simp [errW_none, errW_some] <;> rfl) | (simp [*, errW_none, errW_some] <;> rfl), by (with_reducible repeat (first | apply Kd.R_alloc | apply Kd.R_drewN | apply Kd.R_drew)); exact Kd.R_mono (Kd.R_far (p := ⟨gb601, 2, none⟩) (Kd.R_far (p := ⟨gb601, 1, none⟩) (Kd.R_far (p := ⟨gb601, 0, none⟩) (Kd.R_far (p := ⟨gb600, 0, none⟩) (Kd.R_types (Kd.R_types HO_9.out BK600.out (by decide)) BK601.out (by decide)) (fun _ hk => hk.1.2) (.slice Ao91 x9_54.length co91)) (fun _ hk => hk.2) (.slice Ao91 x9_54.length co91)) (fun _ hk => hk.2) (.int .i64 x601001_15)) (fun _ hk => hk.2) (.int .i64 x601002_19)) (fun _ hk => trivial), by repeat (first | (with_reducible first | exact HB.out | apply below_alloc | apply pw_below_drewN | apply below_drew1 | refine below_set ?_ GE600.out | refine below_set ?_ GE601.out) | exact HB.out)⟩

end Go.Proofs.Ytbppijlcmeidaaa.P
end

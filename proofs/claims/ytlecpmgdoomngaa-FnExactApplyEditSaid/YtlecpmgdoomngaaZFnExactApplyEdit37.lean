/- Texts of the claim FnExactApplyEdit, part 37 of 47, joined: P0, MShort, MApply0, MLess, MSortAll, MApplySort, PimplnumFine, PimplrefFine. No condition beyond those that stand at each. -/
import Derived.Test.YtlecpmgdoomngaaProg
import Derived.Below
import Derived.Deep.Draws
import Derived.Deep.AppendLies
import Derived.Maps.AppendAt
import Derived.OwnWalk
import Derived.Laws.BytesArg
import Derived.Laws.MakeOwn
import Derived.Laws.OwnMore
import Derived.Deep.OwnRows
import Derived.Tactics
import Derived.Lib.ConvBytes
import Derived.Laws.Slices
import Derived.WalkKit
import Derived.KernelRfl
import Derived.RowKit3
import Derived.Deep.LoopGhost
import Derived.Deep.QuietTactic
import Derived.BigQuiet
import Derived.WideLaws
import Derived.Deep.DeepCutAuto
import Derived.Deep.CutBlock
import Derived.Deep.RegionHeld3
import Derived.Laws.Rows
import Derived.Lib.AppendStr
import Derived.ArgAppend
import Derived.Laws.IdiomCopy
import Derived.OrdersHeld
import Derived.Laws.BitsLemmas
import Derived.RowKit
import Derived.Test.YtlecpmgdoomngaaZFnExactApplyEdit1
import Derived.Test.YtlecpmgdoomngaaZFnExactApplyEdit2
import Derived.Test.YtlecpmgdoomngaaZFnExactApplyEdit3
import Derived.Test.YtlecpmgdoomngaaZFnExactApplyEdit4
import Derived.Test.YtlecpmgdoomngaaZFnExactApplyEdit5
import Derived.Test.YtlecpmgdoomngaaZFnExactApplyEdit6
import Derived.Test.YtlecpmgdoomngaaZFnExactApplyEdit7
import Derived.Test.YtlecpmgdoomngaaZFnExactApplyEdit8
import Derived.Test.YtlecpmgdoomngaaZFnExactApplyEdit9
import Derived.Test.YtlecpmgdoomngaaZFnExactApplyEdit10
import Derived.Test.YtlecpmgdoomngaaZFnExactApplyEdit11
import Derived.Test.YtlecpmgdoomngaaZFnExactApplyEdit12
import Derived.Test.YtlecpmgdoomngaaZFnExactApplyEdit13
import Derived.Test.YtlecpmgdoomngaaZFnExactApplyEdit14
import Derived.Test.YtlecpmgdoomngaaZFnExactApplyEdit15
import Derived.Test.YtlecpmgdoomngaaZFnExactApplyEdit16
import Derived.Test.YtlecpmgdoomngaaZFnExactApplyEdit17
import Derived.Test.YtlecpmgdoomngaaZFnExactApplyEdit18
import Derived.Test.YtlecpmgdoomngaaZFnExactApplyEdit19
import Derived.Test.YtlecpmgdoomngaaZFnExactApplyEdit20
import Derived.Test.YtlecpmgdoomngaaZFnExactApplyEdit21
import Derived.Test.YtlecpmgdoomngaaZFnExactApplyEdit23
import Derived.Test.YtlecpmgdoomngaaZFnExactApplyEdit24
import Derived.Test.YtlecpmgdoomngaaZFnExactApplyEdit34
import Derived.WalkLawsBesides
import Derived.Test.YtlecpmgdoomngaaZFnExactApplyEdit22
section
-- Written by a changed copy of the print program, one module a function. Not trusted: Lean checks it.
namespace Go.Proofs.Ytlecpmgdoomngaa.P
open Go.RowKit Go.Proofs.YtlecpmgdoomngaaW.PrintWords Go.Proofs.YtlecpmgdoomngaaW.PrintLast Go.Proofs.YtlecpmgdoomngaaW.PrintMore
attribute [local go_sem] max2_int min2_int max_two min_two max_three min_three max_four min_four   -- for this text's walks alone
set_option linter.unusedVariables false
set_option linter.unusedSimpArgs false
def errW : Option Int → Value
 | none => .nilIface
 | some c => .iface 0 (.int .i64 c)
theorem errW_none : errW none = .nilIface := rfl
theorem errW_some (c : Int) : errW (some c) = .iface 0 (.int .i64 c) := rfl
theorem info3 : (Try.prog.info? 3).map (fun i => (i.zero, i.size, i.bytes)) = some (some (.int .i64 0), 1, 8) := by kernel_rfl
theorem info5 : (Try.prog.info? 5).map (fun i => (i.zero, i.size, i.bytes)) = some (some (.int .u8 0), 1, 1) := by kernel_rfl
theorem info48 : (Try.prog.info? 48).map (fun i => (i.zero, i.size, i.bytes)) = some (some (.agg #[(.int .i64 0), (.int .i64 0), (.string ⟨#[]⟩), (.string ⟨#[]⟩)]), 4, 48) := by kernel_rfl
-- the values' own types
structure S61 where
 f0 : Int
 f1 : Int
 f2 : ByteArray
 f3 : ByteArray
def z61 : S61 := ⟨(0 : Int), (0 : Int), (⟨#[]⟩ : ByteArray), (⟨#[]⟩ : ByteArray)⟩
def k61 : Kd S61 := Kd.iso (Kd.pair (Kd.int .i64) (Kd.pair (Kd.int .i64) (Kd.pair Kd.string Kd.string))) (fun x : S61 => (x.f0, x.f1, x.f2, x.f3))
theorem k61_open {w : World} {x : S61} {cs : List Value} (h : k61.K w x cs) : cs = [.int .i64 x.f0, .int .i64 x.f1, .string x.f2, .string x.f3] := by
 obtain ⟨_, _, rfl, rfl, ⟨_, _, rfl, rfl, ⟨_, _, rfl, rfl, rfl⟩⟩⟩ := h
 exact rfl
theorem k61_openM {w : World} {base : Nat} {ok : Nat → Prop} {x : S61} {cs : List Value} (h : k61.M w base ok x cs) : cs = [.int .i64 x.f0, .int .i64 x.f1, .string x.f2, .string x.f3] := by
 obtain ⟨_, _, rfl, rfl, ⟨_, _, rfl, rfl, ⟨_, _, rfl, rfl, rfl⟩⟩⟩ := h
 exact rfl
theorem k61_mk (w : World) (x : S61)  : k61.K w x [.int .i64 x.f0, .int .i64 x.f1, .string x.f2, .string x.f3] := ⟨[.int .i64 x.f0], [.int .i64 x.f1, .string x.f2, .string x.f3], rfl, rfl, ⟨[.int .i64 x.f1], [.string x.f2, .string x.f3], rfl, rfl, ⟨[.string x.f2], [.string x.f3], rfl, rfl, rfl⟩⟩⟩
theorem k61_mkM (w : World) (base : Nat) (ok : Nat → Prop) (x : S61)  : k61.M w base ok x [.int .i64 x.f0, .int .i64 x.f1, .string x.f2, .string x.f3] := ⟨[.int .i64 x.f0], [.int .i64 x.f1, .string x.f2, .string x.f3], rfl, rfl, ⟨[.int .i64 x.f1], [.string x.f2, .string x.f3], rfl, rfl, ⟨[.string x.f2], [.string x.f3], rfl, rfl, rfl⟩⟩⟩
def rd_T61 (xs : List S61) (i : Int) : S61 := xs.getD i.toNat z61
theorem at_T61 {w : World} {A : Option Addr} {n : Nat} {xs : List S61} (h : Kd.C k61 w A n xs) (i : Int) (h0 : 0 ≤ i) (h1 : i < n) : ∃ ad , A = some ad ∧ w.cell? (ad.add (i.toNat * 4)) = some (.int .i64 (rd_T61 xs i).f0) ∧ w.cell? ⟨(ad.add (i.toNat * 4)).block, (ad.add (i.toNat * 4)).off + 1, none⟩ = some (.int .i64 (rd_T61 xs i).f1) ∧ w.cell? ⟨(ad.add (i.toNat * 4)).block, (ad.add (i.toNat * 4)).off + 2, none⟩ = some (.string (rd_T61 xs i).f2) ∧ w.cell? ⟨(ad.add (i.toNat * 4)).block, (ad.add (i.toNat * 4)).off + 3, none⟩ = some (.string (rd_T61 xs i).f3) := by
 obtain ⟨ad, c, e, _, hK, hc0⟩ := Kd.C_get h z61 i h0 h1
 have hc : ∀ j u, c[j]? = some u → w.cell? (ad.add (i.toNat * 4 + j)) = some u := hc0
 obtain rfl := k61_open hK
 exact ⟨ad, e, hc 0 _ rfl, by rw [← add_field _ _ 1 (by omega)]; exact hc 1 _ rfl, by rw [← add_field _ _ 2 (by omega)]; exact hc 2 _ rfl, by rw [← add_field _ _ 3 (by omega)]; exact hc 3 _ rfl⟩
structure S48 where
 f0 : Int
 f1 : Int
 f2 : ByteArray
 f3 : ByteArray
def z48 : S48 := ⟨(0 : Int), (0 : Int), (⟨#[]⟩ : ByteArray), (⟨#[]⟩ : ByteArray)⟩
def k48 : Kd S48 := Kd.iso (Kd.pair (Kd.int .i64) (Kd.pair (Kd.int .i64) (Kd.pair Kd.string Kd.string))) (fun x : S48 => (x.f0, x.f1, x.f2, x.f3))
theorem k48_open {w : World} {x : S48} {cs : List Value} (h : k48.K w x cs) : cs = [.int .i64 x.f0, .int .i64 x.f1, .string x.f2, .string x.f3] := by
 obtain ⟨_, _, rfl, rfl, ⟨_, _, rfl, rfl, ⟨_, _, rfl, rfl, rfl⟩⟩⟩ := h
 exact rfl
theorem k48_openM {w : World} {base : Nat} {ok : Nat → Prop} {x : S48} {cs : List Value} (h : k48.M w base ok x cs) : cs = [.int .i64 x.f0, .int .i64 x.f1, .string x.f2, .string x.f3] := by
 obtain ⟨_, _, rfl, rfl, ⟨_, _, rfl, rfl, ⟨_, _, rfl, rfl, rfl⟩⟩⟩ := h
 exact rfl
theorem k48_mk (w : World) (x : S48)  : k48.K w x [.int .i64 x.f0, .int .i64 x.f1, .string x.f2, .string x.f3] := ⟨[.int .i64 x.f0], [.int .i64 x.f1, .string x.f2, .string x.f3], rfl, rfl, ⟨[.int .i64 x.f1], [.string x.f2, .string x.f3], rfl, rfl, ⟨[.string x.f2], [.string x.f3], rfl, rfl, rfl⟩⟩⟩
theorem k48_mkM (w : World) (base : Nat) (ok : Nat → Prop) (x : S48)  : k48.M w base ok x [.int .i64 x.f0, .int .i64 x.f1, .string x.f2, .string x.f3] := ⟨[.int .i64 x.f0], [.int .i64 x.f1, .string x.f2, .string x.f3], rfl, rfl, ⟨[.int .i64 x.f1], [.string x.f2, .string x.f3], rfl, rfl, ⟨[.string x.f2], [.string x.f3], rfl, rfl, rfl⟩⟩⟩
def rd_T48 (xs : List S48) (i : Int) : S48 := xs.getD i.toNat z48
theorem at_T48 {w : World} {A : Option Addr} {n : Nat} {xs : List S48} (h : Kd.C k48 w A n xs) (i : Int) (h0 : 0 ≤ i) (h1 : i < n) : ∃ ad , A = some ad ∧ w.cell? (ad.add (i.toNat * 4)) = some (.int .i64 (rd_T48 xs i).f0) ∧ w.cell? ⟨(ad.add (i.toNat * 4)).block, (ad.add (i.toNat * 4)).off + 1, none⟩ = some (.int .i64 (rd_T48 xs i).f1) ∧ w.cell? ⟨(ad.add (i.toNat * 4)).block, (ad.add (i.toNat * 4)).off + 2, none⟩ = some (.string (rd_T48 xs i).f2) ∧ w.cell? ⟨(ad.add (i.toNat * 4)).block, (ad.add (i.toNat * 4)).off + 3, none⟩ = some (.string (rd_T48 xs i).f3) := by
 obtain ⟨ad, c, e, _, hK, hc0⟩ := Kd.C_get h z48 i h0 h1
 have hc : ∀ j u, c[j]? = some u → w.cell? (ad.add (i.toNat * 4 + j)) = some u := hc0
 obtain rfl := k48_open hK
 exact ⟨ad, e, hc 0 _ rfl, by rw [← add_field _ _ 1 (by omega)]; exact hc 1 _ rfl, by rw [← add_field _ _ 2 (by omega)]; exact hc 2 _ rfl, by rw [← add_field _ _ 3 (by omega)]; exact hc 3 _ rfl⟩
end Go.Proofs.Ytlecpmgdoomngaa.P
end
section
namespace Go.Proofs.Ytlecpmgdoomngaa.P
open Go.RowKit Go.Proofs.YtlecpmgdoomngaaW.PrintWords Go.Proofs.YtlecpmgdoomngaaW.PrintLast Go.Proofs.YtlecpmgdoomngaaW.PrintMore
set_option linter.unusedVariables false
theorem xb {w0 w : World} {g : Nat} {o : Obj} (B : Aside0 (w0.heap[g]? = some o)) (h : w.heap[g]? = some o := by (with_reducible repeat (first | refine blk_drewN ?_ _ | refine blk_drew ?_ | refine blk_alloc ?_ _ | refine blk_far ?_ (Aside0.out (by assumption)) _)); exact Aside0.out (by assumption)) : w.heap[g]? = some o := h
theorem xbb {w0 w w1 : World} {g : Nat} {o : Obj} (B : Aside0 (w0.heap[g]? = some o)) (hb : Below w.heap.size w w1) (h : w.heap[g]? = some o := by (with_reducible repeat (first | refine blk_drewN ?_ _ | refine blk_drew ?_ | refine blk_alloc ?_ _ | refine blk_far ?_ (Aside0.out (by assumption)) _)); exact Aside0.out (by assumption)) : w1.heap[g]? = some o := blk_below h hb
theorem xh {w w0 W : World} (HB : Aside0 (Below w.heap.size w w0)) (h : Below w.heap.size w W := by repeat (first | (with_reducible first | exact Aside0.out (by assumption) | apply below_alloc | apply pw_below_drewN | apply below_drew1 | refine below_set ?_ (Aside0.out (by assumption))) | exact Aside0.out (by assumption))) : Below w.heap.size w W := h
theorem xr {α : Type} {d : Kd α} {e base : Nat} {ok : Nat → Prop} {v : Value} {xs : List α} {w0 w : World} (H : Aside0 (d.R e w0 base ok v xs)) (h : d.R e w base ok v xs := by (with_reducible repeat (first | apply Kd.R_alloc | apply Kd.R_drewN | apply Kd.R_drew)); exact Aside0.out (by assumption)) : d.R e w base ok v xs := h
section
variable {α : Type} {d : Kd α} {e base g : Nat} {ok : Nat → Prop} {v : Value} {xs : List α} {w : World} {t : TypeId} {cs : Array Value}
theorem xs4 (H : Aside0 (d.R e w base ok v xs)) (B : Aside0 (w.heap[g]? = some (.cells cs t (0, 0)))) (u0 u1 u2 u3 : Value) (ht : ∀ q, q ∈ e :: d.E → q ≠ t := by decide) :
  d.R e ((((w.setCell ⟨g, 0, none⟩ u0).setCell ⟨g, 1, none⟩ u1).setCell ⟨g, 2, none⟩ u2).setCell ⟨g, 3, none⟩ u3) base ok v xs :=
 Kd.R_mono (Kd.R_far (p := ⟨g, 3, none⟩) (Kd.R_far (p := ⟨g, 2, none⟩) (Kd.R_far (p := ⟨g, 1, none⟩) (Kd.R_far (p := ⟨g, 0, none⟩) (Kd.R_types H.out B.out ht) (fun _ hk => hk.2) u0) (fun _ hk => hk.2) u1) (fun _ hk => hk.2) u2) (fun _ hk => hk.2) u3) (fun _ h_ => h_.1)
theorem xs5 (H : Aside0 (d.R e w base ok v xs)) (B : Aside0 (w.heap[g]? = some (.cells cs t (0, 0)))) (u0 u1 u2 u3 u4 : Value) (ht : ∀ q, q ∈ e :: d.E → q ≠ t := by decide) :
  d.R e (((((w.setCell ⟨g, 0, none⟩ u0).setCell ⟨g, 1, none⟩ u1).setCell ⟨g, 2, none⟩ u2).setCell ⟨g, 3, none⟩ u3).setCell ⟨g, 4, none⟩ u4) base ok v xs :=
 Kd.R_mono (Kd.R_far (p := ⟨g, 4, none⟩) (Kd.R_far (p := ⟨g, 3, none⟩) (Kd.R_far (p := ⟨g, 2, none⟩) (Kd.R_far (p := ⟨g, 1, none⟩) (Kd.R_far (p := ⟨g, 0, none⟩) (Kd.R_types H.out B.out ht) (fun _ hk => hk.2) u0) (fun _ hk => hk.2) u1) (fun _ hk => hk.2) u2) (fun _ hk => hk.2) u3) (fun _ hk => hk.2) u4) (fun _ h_ => h_.1)
end
theorem xn1 {w0 w : World} {g gb : Nat} {o : Obj} (hg : gb = w.heap.size) (B : Aside0 (w0.heap[g]? = some o)) (h : w.heap[g]? = some o := by (with_reducible repeat (first | refine blk_drewN ?_ _ | refine blk_drew ?_ | refine blk_alloc ?_ _ | refine blk_far ?_ (Aside0.out (by assumption)) _)); exact Aside0.out (by assumption)) : g ≠ gb := by
 rw [hg]; exact Nat.ne_of_lt (blk_lt h)
theorem xn2 {w0 w : World} {g gb : Nat} {o : Obj} (hg : gb = w.heap.size) (B : Aside0 (w0.heap[g]? = some o)) (h : w.heap[g]? = some o := by (with_reducible repeat (first | refine blk_drewN ?_ _ | refine blk_drew ?_ | refine blk_alloc ?_ _ | refine blk_far ?_ (Aside0.out (by assumption)) _)); exact Aside0.out (by assumption)) : gb ≠ g := by
 rw [hg]; exact Nat.ne_of_gt (blk_lt h)
theorem xk {w : World} {g1 g2 t1 t2 : Nat} {a0 a1 a2 a3 b0 b1 b2 b3 b4 : Value} (A : Aside0 (w.heap[g1]? = some (.cells #[a0, a1, a2, a3] t1 (0, 0)))) (B : Aside0 (w.heap[g2]? = some (.cells #[b0, b1, b2, b3, b4] t2 (0, 0)))) :
  w.cell? ⟨g1, 0, none⟩ = some a0 ∧ w.cell? ⟨g1, 1, none⟩ = some a1 ∧ w.cell? ⟨g1, 2, none⟩ = some a2 ∧ w.cell? ⟨g1, 3, none⟩ = some a3 ∧ w.cell? ⟨g2, 0, none⟩ = some b0 ∧ w.cell? ⟨g2, 1, none⟩ = some b1 ∧ w.cell? ⟨g2, 2, none⟩ = some b2 ∧ w.cell? ⟨g2, 3, none⟩ = some b3 ∧ w.cell? ⟨g2, 4, none⟩ = some b4 :=
 ⟨(blk_cell A.out 0).trans rfl, (blk_cell A.out 1).trans rfl, (blk_cell A.out 2).trans rfl, (blk_cell A.out 3).trans rfl, (blk_cell B.out 0).trans rfl, (blk_cell B.out 1).trans rfl, (blk_cell B.out 2).trans rfl, (blk_cell B.out 3).trans rfl, (blk_cell B.out 4).trans rfl⟩
theorem xc {α : Type} {d : Kd α} {w0 w : World} {A : Option Addr} {n : Nat} {xs : List α} (h : d.C w0 A n xs) (hb : Below w0.heap.size w0 w := by repeat (first | (with_reducible first | exact Below.refl _ _ | apply below_alloc | apply pw_below_drewN | apply below_drew1) | exact Below.refl _ _)) : d.C w A n xs := Kd.C_below h hb
end Go.Proofs.Ytlecpmgdoomngaa.P
end
section
namespace Go.Proofs.Ytlecpmgdoomngaa.M
open Go.RowKit Go.Proofs.Ytlecpmgdoomngaa.P Go.Proofs.YtlecpmgdoomngaaW.PrintWords Go.Proofs.YtlecpmgdoomngaaW.PrintLast Go.Proofs.YtlecpmgdoomngaaW.PrintMore
set_option linter.unusedVariables false
set_option linter.unusedSimpArgs false
def keptOf (ds : List Int) : List S48 → List S48
 | [] => []
 | t :: ts => if t.f0 ∈ ds then keptOf ds ts else t :: keptOf ds ts
def hitsOf (ds : List Int) : List S48 → List Int
 | [] => []
 | t :: ts => if t.f0 ∈ ds then t.f0 :: hitsOf ds ts else hitsOf ds ts
theorem keptOf_append (ds : List Int) (xs ys : List S48) : keptOf ds (xs ++ ys) = keptOf ds xs ++ keptOf ds ys := by
 induction xs with
 | nil => rfl
 | cons x xs ih => simp only [List.cons_append, keptOf]; split <;> simp [ih]
theorem hitsOf_append (ds : List Int) (xs ys : List S48) : hitsOf ds (xs ++ ys) = hitsOf ds xs ++ hitsOf ds ys := by
 induction xs with
 | nil => rfl
 | cons x xs ih => simp only [List.cons_append, hitsOf]; split <;> simp [ih]
theorem keptOf_le (ds : List Int) (xs : List S48) : (keptOf ds xs).length ≤ xs.length := by
 induction xs with
 | nil => exact Nat.le_refl _
 | cons x xs ih => simp only [keptOf]; split <;> simp <;> omega
def clash (t u : S48) : Bool := (t.f1 == u.f1) && decide (0 < t.f1) && !Op.bytesLess t.f3.toList u.f2.toList && !Op.bytesLess u.f3.toList t.f2.toList
def okAt (before : List S48) (x3 : Int) (t : S48) : Bool := !decide (t.f0 ∈ before.map (·.f0)) && decide (t.f0 < x3) && before.all (fun u => !clash t u)
def checks (x3 : Int) : List S48 → List S48 → Bool
 | _, [] => true
 | before, t :: ts => okAt before x3 t && checks x3 (before ++ [t]) ts
abbrev Out := List S48 × Int × Int × Int × Bool
def failed : Out := ([], 0, 0, 0, false)
def insT (x : S48) : List S48 → List S48
 | [] => [x]
 | y :: ys => if x.f1 < y.f1 ∨ x.f1 = y.f1 ∧ x.f0 < y.f0 then x :: y :: ys else y :: insT x ys
def isort (l : List S48) : List S48 := l.foldl (fun acc x => insT x acc) []
def fin3 (l : List S48) (x2 x3 x4 : Int) : Out := if checks x3 [] l = true then (isort l, x2, x3, x4, true) else failed
def fin2 (l : List S48) (x2 x3 x4 : Int) : Out := if 1000 < l.length then failed else if x2 ≥ x3 then failed else fin3 l x2 x3 x4
def fin1 (ds : List Int) (l : List S48) (hits : List Int) (adds : List S48) (x2 x3 x4 : Int) : Out := if dist hits = dist ds then fin2 (l ++ adds) x2 x3 x4 else failed
def applyI (fine : Bool) (ts adds : List S48) (ds : List Int) (x2 x3 x4 : Int) : Out :=
 if fine = false then failed else if 1000 < ts.length then failed else fin1 ds.reverse (keptOf ds.reverse ts) (hitsOf ds.reverse ts).reverse adds x2 x3 x4
theorem keptOf_mem {ds : List Int} {t : S48} : ∀ {xs : List S48}, t ∈ keptOf ds xs → t ∈ xs
 | [], h => h
 | x :: xs, h => by
  unfold keptOf at h
  split at h
  ·exact List.mem_cons_of_mem _ (keptOf_mem h)
  ·rcases List.mem_cons.1 h with rfl | h
   ·exact List.mem_cons_self
   ·exact List.mem_cons_of_mem _ (keptOf_mem h)
theorem fin3_fail {L : List S48} {x2 x3 x4 : Int} {R : Out} (h : fin3 L x2 x3 x4 = R) (hc : checks x3 [] L = false) : R = failed := by
 rw [← h]
 unfold fin3
 rw [hc]
 rfl
theorem R48_move {wr W : World} {base : Nat} {v : Value} {l : List S48} (h : Kd.R k48 48 wr base (fun _ => True) v l) (hk : ∀ (k : Nat) (cells : Array Value), wr.heap[k]? = some (Obj.cells cells 48 (0, 0)) → W.heap[k]? = wr.heap[k]?) :
  Kd.R k48 48 W base (fun _ => True) v l := by
 refine Kd.R_mono (Kd.R_move (Kd.R_bound h) (fun k hk' => ?_)) (fun _ _ => trivial)
 obtain ⟨_, _, _, q, hq, cells, hc⟩ := hk'
 have : q = 48 := by
  have e : (48 : Nat) :: k48.E = [48] := rfl
  rw [e] at hq
  exact List.mem_singleton.1 hq
 subst this
 exact hk k cells hc
theorem SetAt.ne {wr : World} {b n g t : Nat} {xs : List Int} {cells : Array Value} (h : SetAt wr b n xs) (hb : wr.heap[g]? = some (.cells cells t (0, 0))) : g ≠ b := by
 rintro rfl
 obtain ⟨D, ⟨es, clock, h0, h1⟩, h2⟩ := h
 rw [h0] at hb
 cases hb
structure S0 (w wr : World) (vb eb rb : Nat) (VC EC : Array Value) : Prop where
 bel : Below w.heap.size w wr
 g1 : w.heap.size ≤ vb
 g2 : w.heap.size ≤ eb
 g3 : w.heap.size ≤ rb
 n1 : vb ≠ eb
 n2 : vb ≠ rb
 n3 : eb ≠ rb
 v : wr.heap[vb]? = some (.cells VC 32 (0, 0))
 e : wr.heap[eb]? = some (.cells EC 37 (0, 0))
 r : wr.heap[rb]? = some (.cells #[.slice none 0 0, .int .i64 0, .int .i64 0, .int .i64 0] 32 (0, 0))
section
variable {w wr W : World} {vb eb rb : Nat} {VC EC : Array Value}
theorem S0.below (h : S0 w wr vb eb rb VC EC) (hb : Below wr.heap.size wr W) : S0 w W vb eb rb VC EC :=
 ⟨below_step h.bel hb, h.g1, h.g2, h.g3, h.n1, h.n2, h.n3, blk_below h.v hb, blk_below h.e hb, blk_below h.r hb⟩
theorem S0.moved (h : S0 w wr vb eb rb VC EC) (hb : Below w.heap.size w W) (hv : W.heap[vb]? = wr.heap[vb]?) (he : W.heap[eb]? = wr.heap[eb]?) (hr : W.heap[rb]? = wr.heap[rb]?) : S0 w W vb eb rb VC EC :=
 ⟨hb, h.g1, h.g2, h.g3, h.n1, h.n2, h.n3, hv.trans h.v, he.trans h.e, hr.trans h.r⟩
theorem below_grown {row : Option Nat} (hb : Below w.heap.size w wr) (hg : wr.grownBy W row) (hr : ∀ k, row = some k → w.heap.size ≤ k) : Below w.heap.size w W :=
 ⟨hg.os.trans hb.os, hg.tape.trans hb.tape, hg.output.trans hb.output, Nat.le_trans hb.size hg.size, fun k hk => (hg.block k (Nat.lt_of_lt_of_le hk hb.size) (fun e => absurd (hr k e.symm) (by omega))).trans (hb.block k hk)⟩
structure S1 (w wr : World) (vb eb rb : Nat) (VC EC : Array Value) (gb n : Nat) (xs : List Int) : Prop extends S0 w wr vb eb rb VC EC where
 gg : w.heap.size ≤ gb
 g : SetAt wr gb n xs
theorem S1.below {gb n : Nat} {xs : List Int} (h : S1 w wr vb eb rb VC EC gb n xs) (hb : Below wr.heap.size wr W) : S1 w W vb eb rb VC EC gb n xs := ⟨h.toS0.below hb, h.gg, h.g.below hb⟩
theorem S1.put {gb n : Nat} {xs : List Int} (h : S1 w wr vb eb rb VC EC gb n xs) {m : Nat} {ys : List Int} (hs : SetAt W gb m ys) (hg : wr.grownBy W (some gb)) : S1 w W vb eb rb VC EC gb m ys :=
 have f : ∀ {g t : Nat} {cells : Array Value}, wr.heap[g]? = some (.cells cells t (0, 0)) → W.heap[g]? = wr.heap[g]? := fun hb => hg.block _ (blk_lt hb) (fun e => h.g.ne hb (Option.some.inj e))
 ⟨h.toS0.moved (below_grown h.bel hg (fun k e => Option.some.inj e ▸ h.gg)) (f h.v) (f h.e) (f h.r), h.gg, hs⟩
structure S2 (w wr : World) (vb eb rb : Nat) (VC EC : Array Value) (gb n : Nat) (xs : List Int) (ob : Nat) (vO : Value) (y2 y3 y4 : Int) (l : List S48) (mb m : Nat) (ys : List Int) : Prop extends S1 w wr vb eb rb VC EC gb n xs where
 og : w.heap.size ≤ ob
 mg : w.heap.size ≤ mb
 n4 : ob ≠ vb
 n5 : ob ≠ eb
 n6 : ob ≠ rb
 n7 : gb ≠ mb
 o : wr.heap[ob]? = some (.cells #[vO, .int .i64 y2, .int .i64 y3, .int .i64 y4] 32 (0, 0))
 rO : Kd.R k48 48 wr w.heap.size (fun _ => True) vO l
 m : SetAt wr mb m ys
variable {gb n ob mb m : Nat} {xs ys : List Int} {vO : Value} {y2 y3 y4 : Int} {l : List S48}
theorem S2.below (h : S2 w wr vb eb rb VC EC gb n xs ob vO y2 y3 y4 l mb m ys) (hb : Below wr.heap.size wr W) : S2 w W vb eb rb VC EC gb n xs ob vO y2 y3 y4 l mb m ys :=
 ⟨h.toS1.below hb, h.og, h.mg, h.n4, h.n5, h.n6, h.n7, blk_below h.o hb, Kd.R_below h.rO hb, h.m.below hb⟩
theorem S2.put (h : S2 w wr vb eb rb VC EC gb n xs ob vO y2 y3 y4 l mb m ys) {m' : Nat} {zs : List Int} (hs : SetAt W mb m' zs) (hg : wr.grownBy W (some mb)) : S2 w W vb eb rb VC EC gb n xs ob vO y2 y3 y4 l mb m' zs :=
 have f : ∀ {g t : Nat} {cells : Array Value}, wr.heap[g]? = some (.cells cells t (0, 0)) → W.heap[g]? = wr.heap[g]? := fun hb => hg.block _ (blk_lt hb) (fun e => h.m.ne hb (Option.some.inj e))
 ⟨⟨h.toS0.moved (below_grown h.bel hg (fun k e => Option.some.inj e ▸ h.mg)) (f h.v) (f h.e) (f h.r), h.gg, h.g.kept hg (fun e => h.n7 (Option.some.inj e))⟩, h.og, h.mg, h.n4, h.n5, h.n6, h.n7, (f h.o).trans h.o, R48_move h.rO (fun k cells hc => f hc), hs⟩
theorem S2.outcell (h : S2 w wr vb eb rb VC EC gb n xs ob vO y2 y3 y4 l mb m ys) (hg : wr.grownBy W vO.ownBlock) : W.cell? ⟨ob, 0, none⟩ = some vO ∧ W.frozen? ⟨ob, 0, none⟩ = false := by
 have o := blk_grown h.o hg (fun e => by
  obtain ⟨cs, hc⟩ := Kd.R_typed h.rO _ e.symm
  have := h.o
  rw [hc] at this
  cases this)
 exact ⟨(blk_cell o 0).trans rfl, blk_frozen o 0⟩
theorem S2.grew (h : S2 w wr vb eb rb VC EC gb n xs ob vO y2 y3 y4 l mb m ys) {v1 : Value} {l1 : List S48} (ho : Kd.R k48 48 W w.heap.size (fun _ => True) v1 l1) (hb : Below w.heap.size w W) (hg : wr.grownBy W vO.ownBlock) :
  S2 w (W.setCell ⟨ob, 0, none⟩ v1) vb eb rb VC EC gb n xs ob v1 y2 y3 y4 l1 mb m ys := by
 have f : ∀ {g t : Nat} {cells : Array Value}, wr.heap[g]? = some (.cells cells t (0, 0)) → t ≠ 48 → W.heap[g]? = wr.heap[g]? := fun hb ht => hg.block _ (blk_lt hb) (fun e => by
  obtain ⟨cs, hc⟩ := Kd.R_typed h.rO _ e.symm
  rw [hc] at hb
  injection hb with hb
  injection hb with h1 h2 h3
  exact ht h2.symm)
 have fs : ∀ {b k : Nat} {zs : List Int}, SetAt wr b k zs → SetAt W b k zs := fun hs => hs.kept hg (fun e => by
  obtain ⟨cs, hc⟩ := Kd.R_typed h.rO _ e.symm
  exact hs.ne hc rfl)
 have o := (f h.o (by decide)).trans h.o
 have gs : ∀ {b k : Nat} {zs : List Int}, SetAt W b k zs → SetAt (W.setCell ⟨ob, 0, none⟩ v1) b k zs := fun hs => hs.block (Below.heap_setCell W ⟨ob, 0, none⟩ v1 _ (hs.ne o).symm)
 have q := h.toS0.moved hb (f h.v (by decide)) (f h.e (by decide)) (f h.r (by decide))
 exact ⟨⟨q.moved (below_set hb h.og) (Below.heap_setCell W ⟨ob, 0, none⟩ v1 _ h.n4.symm) (Below.heap_setCell W ⟨ob, 0, none⟩ v1 _ h.n5.symm) (Below.heap_setCell W ⟨ob, 0, none⟩ v1 _ h.n6.symm), h.gg, gs (fs h.g)⟩, h.og, h.mg, h.n4, h.n5, h.n6, h.n7,
  blk_put o 0 v1 rfl, Kd.R_set ho o (by decide) 0 v1, gs (fs h.m)⟩
end
end Go.Proofs.Ytlecpmgdoomngaa.M
end
section
namespace Go.Proofs.Ytlecpmgdoomngaa.M
open Go.Shelf Go.RowKit Go.Lib Go.Sort Go.Proofs.Ytlecpmgdoomngaa.P Go.Proofs.YtlecpmgdoomngaaW.PrintWords Go.Proofs.YtlecpmgdoomngaaW.PrintLast Go.Proofs.YtlecpmgdoomngaaW.PrintMore
set_option linter.unusedVariables false
set_option linter.unusedSimpArgs false
instance : Inhabited S48 := ⟨z48⟩
def encT (p : S48) : List Value := [.int .i64 p.f0, .int .i64 p.f1, .string p.f2, .string p.f3]
def ltT (a b : S48) : Bool := decide (a.f1 < b.f1) || ((a.f1 == b.f1) && decide (a.f0 < b.f0))
theorem ltT_iff (a b : S48) : ltT a b = true ↔ a.f1 < b.f1 ∨ a.f1 = b.f1 ∧ a.f0 < b.f0 := by unfold ltT; simp
theorem ltT_not (a b : S48) : ltT a b = false ↔ ¬ (a.f1 < b.f1 ∨ a.f1 = b.f1 ∧ a.f0 < b.f0) := by rw [← ltT_iff]; simp
theorem swo_ltT : SWO ltT where
 irrefl := fun x => by rw [ltT_not]; omega
 trans := fun x y z h1 h2 => by rw [ltT_iff] at *; omega
 ntrans := fun x y z h1 h2 => by rw [ltT_not] at *; omega
section
variable {α : Type} [Inhabited α] {enc : α → List Value} {k blk off : Nat} {W W1 : World} {d : Array α}
theorem modify_behind {β : Type} (A B : Array β) (g : Nat) (f : β → β) (h : A.size ≤ g) : (A ++ B).modify g f = A ++ B.modify (g - A.size) f := by
 apply Array.ext_getElem?
 intro i
 rw [Array.getElem?_modify]
 by_cases hi : i < A.size
 ·rw [if_neg (by omega), Array.getElem?_append_left hi, Array.getElem?_append_left hi]
 ·rw [Array.getElem?_append_right (by omega), Array.getElem?_append_right (by omega), Array.getElem?_modify]
  by_cases hg : g = i
  ·rw [if_pos hg, if_pos (by omega)]
  ·rw [if_neg hg, if_neg (by omega)]
theorem sw_setRow (h : SWK enc k W blk off d W1) (g : Nat) (cs : Array Value) (hg : W.heap.size ≤ g) : SWK enc k W blk off d (W1.setRow g cs) := by
 obtain ⟨n, os, rfl⟩ := h
 refine ⟨n, os.modify (g - W.heap.size) (fun | .cells _ elem frozen => .cells cs elem frozen | o => o), ?_⟩
 unfold sortWorldK World.setRow grow
 have := modify_behind (putRowK enc k (Sort.ahead W n) blk off d).heap os g (fun | .cells _ elem frozen => .cells cs elem frozen | o => o) (by rw [size_putRowK]; exact hg)
 rw [size_putRowK] at this
 exact congrArg (fun h => ({ putRowK enc k (Sort.ahead W n) blk off d with heap := h } : World)) this
end
structure Lk (w : World) (Bs blk off c size : Nat) (i j : Nat) (p q : S48) : Prop where
 s : w.cell? ⟨Bs, 0, none⟩ = some (.slice (some ⟨blk, off, none⟩) size c)
 p0 : w.cell? ⟨blk, off + i * 4, none⟩ = some (.int .i64 p.f0)
 p1 : w.cell? ⟨blk, off + i * 4 + 1, none⟩ = some (.int .i64 p.f1)
 p2 : w.cell? ⟨blk, off + i * 4 + 2, none⟩ = some (.string p.f2)
 p3 : w.cell? ⟨blk, off + i * 4 + 3, none⟩ = some (.string p.f3)
 q0 : w.cell? ⟨blk, off + j * 4, none⟩ = some (.int .i64 q.f0)
 q1 : w.cell? ⟨blk, off + j * 4 + 1, none⟩ = some (.int .i64 q.f1)
 q2 : w.cell? ⟨blk, off + j * 4 + 2, none⟩ = some (.string q.f2)
 q3 : w.cell? ⟨blk, off + j * 4 + 3, none⟩ = some (.string q.f3)
 l1 : Bs < w.heap.size
 l2 : blk < w.heap.size
theorem Lk.alloc {w : World} {Bs blk off c size i j : Nat} {p q : S48} (h : Lk w Bs blk off c size i j p q) (o : Obj) : Lk (w.alloc o) Bs blk off c size i j p q := by
 have e1 : ∀ x, (w.alloc o).cell? ⟨blk, x, none⟩ = w.cell? ⟨blk, x, none⟩ := fun x => World.cell?_alloc_lt _ _ _ h.l2
 exact ⟨(World.cell?_alloc_lt _ _ _ h.l1).trans h.s, (e1 _).trans h.p0, (e1 _).trans h.p1, (e1 _).trans h.p2, (e1 _).trans h.p3, (e1 _).trans h.q0, (e1 _).trans h.q1, (e1 _).trans h.q2, (e1 _).trans h.q3, by rw [World.size_alloc]; have := h.l1; omega, by rw [World.size_alloc]; have := h.l2; omega⟩
theorem Lk.drew {w : World} {Bs blk off c size i j : Nat} {p q : S48} (h : Lk w Bs blk off c size i j p q) : Lk w.drew Bs blk off c size i j p q := ⟨h.s, h.p0, h.p1, h.p2, h.p3, h.q0, h.q1, h.q2, h.q3, h.l1, h.l2⟩
theorem Lk.setRow {w : World} {Bs blk off c size i j : Nat} {p q : S48} (h : Lk w Bs blk off c size i j p q) (g : Nat) (cs : Array Value) (h1 : Bs ≠ g) (h2 : blk ≠ g) : Lk (w.setRow g cs) Bs blk off c size i j p q := by
 have e1 : ∀ x, (w.setRow g cs).cell? ⟨blk, x, none⟩ = w.cell? ⟨blk, x, none⟩ := fun x => cell_setRow_other _ _ _ _ h2
 exact ⟨(cell_setRow_other _ _ _ _ h1).trans h.s, (e1 _).trans h.p0, (e1 _).trans h.p1, (e1 _).trans h.p2, (e1 _).trans h.p3, (e1 _).trans h.q0, (e1 _).trans h.q1, (e1 _).trans h.q2, (e1 _).trans h.q3, by rw [setRow_size]; exact h.l1, by rw [setRow_size]; exact h.l2⟩
abbrev Z48c : Array Value := #[.int .i64 0, .int .i64 0, .string ⟨#[]⟩, .string ⟨#[]⟩]
structure Two (W : World) (blk off : Nat) (dk : Array S48) (Bs c size i j : Nat) (p q : S48) (g : Nat × Nat) (w : World) : Prop where
 sw : SWK encT 4 W blk off dk w
 lk : Lk w Bs blk off c size i j p q
 a : w.heap[g.1]? = some (.cells Z48c 48 (0, 0))
 b : w.heap[g.2]? = some (.cells Z48c 48 (0, 0))
 ne : g.1 ≠ g.2
 na : W.heap.size ≤ g.1
 nb : W.heap.size ≤ g.2
theorem two_ab {W wd : World} {blk off : Nat} {dk : Array S48} {Bs c size i j : Nat} {p q : S48} (h : SWK encT 4 W blk off dk wd) (l : Lk wd Bs blk off c size i j p q) : Two W blk off dk Bs c size i j p q (wd.heap.size, wd.heap.size + 1) ((wd.alloc (.cells Z48c 48)).alloc (.cells Z48c 48)) :=
 ⟨(h.alloc _).alloc _, (l.alloc _).alloc _, by rw [alloc_eq_grow (wd.alloc _), heap_grow_old _ _ (by rw [World.size_alloc]; omega)]; exact heap_alloc_new _ _, by rw [← World.size_alloc wd (.cells Z48c 48)]; exact heap_alloc_new _ _, by simp, h.le, Nat.le_succ_of_le h.le⟩
theorem two_ba {W wd : World} {blk off : Nat} {dk : Array S48} {Bs c size i j : Nat} {p q : S48} (h : SWK encT 4 W blk off dk wd) (l : Lk wd Bs blk off c size i j p q) : Two W blk off dk Bs c size i j p q (wd.heap.size + 1, wd.heap.size) ((wd.alloc (.cells Z48c 48)).alloc (.cells Z48c 48)) :=
 let t := two_ab h l
 ⟨t.sw, t.lk, t.b, t.a, fun e => t.ne e.symm, t.nb, t.na⟩
theorem exec_store {P : Program} {ev : Operand → Value} {o : Oper} {w : World} (ty : TypeId) (x y : Operand) (ho : o.op = .store ty x y) (g : Nat) (cells : Array Value) (hx : ev x = .pointer (some ⟨g, 0, none⟩)) (hy : ev y = .agg cells)
  (t : TypeId) (old : Array Value) (hg : w.heap[g]? = some (.cells old t (0, 0))) (hi : (P.info? ty).map (·.size) = some cells.size) (hold : old.size = cells.size) (h1 : cells.all (·.oneCell') = true) :
  (execOp ev o).run P w = .ok .skip (w.setRow g cells) := by
 unfold execOp
 simp only [ho, hx, hy, Instr.storeAt, Instr.sureAddr, Sem.run_bind, Sem.run_pure, Result.andThen_ok, run_storeVar_row w g t ty old cells hg hi hold h1]
set_option maxHeartbeats 16000000 in
set_option maxRecDepth 100000 in
theorem less_call (W : World) (Bs blk off c size i j : Nat) (p q : S48) (dk : Array S48) (h : HoldsK encT 4 W blk off dk) (hl : Lk W Bs blk off c size i j p q) (hi : i < size) (hj : j < size) (hsz : size < 4611686018427387904) :
  Calls Try.prog 25 #[.int .i64 i, .int .i64 j, .pointer (some ⟨Bs, 0, none⟩)] W fun e w' => e = .returned (.bool (ltT p q)) ∧ SWK encT 4 W blk off dk w' := by
 have LKd := Asd.mk hl.drew
 have SWd := Asd.mk (show SWK encT 4 W blk off dk W.drew from (SWK.start h).drewN 1)
 have hb1 := hl.l1
 have hb2 := hl.l2
 clear h hl
 go_enter Try.func25, Try.ntmps25
 go_upto_region 1 with fail
 refine start_ (n := 14) (S := fun w' => w'.cell? ⟨Bs, 0, none⟩ = some (.slice (some ⟨blk, off, none⟩) size c) ∧ w'.cell? ⟨blk, off + i * 4, none⟩ = some (.int .i64 p.f0) ∧ w'.cell? ⟨blk, off + i * 4 + 1, none⟩ = some (.int .i64 p.f1) ∧ w'.cell? ⟨blk, off + i * 4 + 2, none⟩ = some (.string p.f2) ∧ w'.cell? ⟨blk, off + i * 4 + 3, none⟩ = some (.string p.f3) ∧ w'.cell? ⟨blk, off + j * 4, none⟩ = some (.int .i64 q.f0) ∧ w'.cell? ⟨blk, off + j * 4 + 1, none⟩ = some (.int .i64 q.f1) ∧ w'.cell? ⟨blk, off + j * 4 + 2, none⟩ = some (.string q.f2) ∧ w'.cell? ⟨blk, off + j * 4 + 3, none⟩ = some (.string q.f3)) (ds := [13]) #[false, false, false, false, false, false, false, false, false, false, false, false, false, false] (by kernel_rfl) rfl rfl ⟨LKd.out.s, LKd.out.p0, LKd.out.p1, LKd.out.p2, LKd.out.p3, LKd.out.q0, LKd.out.q1, LKd.out.q2, LKd.out.q3⟩ (fun hHeld => ?_)
 generalize W.drew = wd at LKd SWd hHeld ⊢
 refine pure_ (i := 0) (N := some 8) (v := ?_) (a' := ?_) #[true, false, false, false, false, false, false, false, false, false, false, false, false, false] rfl rfl (by kernel_rfl) (fun _ _ _ h => h) (Or.inl ⟨by rfl, ?_⟩) ?_ ?_
 rotate_left
 ·intro w'
  go_simp
  with_reducible rfl
 rotate_left
 ·simp only [Act.put, List.setIfInBounds_toArray, List.set_cons_zero, List.set_cons_succ, i64_w, i32_w]
  rfl
 refine pure_ (i := 2) (N := some 10) (v := ?_) (a' := ?_) #[true, false, true, false, false, false, false, false, false, false, false, false, false, false] rfl rfl (by kernel_rfl) (fun _ _ _ h => h) (Or.inl ⟨by rfl, ?_⟩) ?_ ?_
 rotate_left
 ·intro w'
  go_simp
  with_reducible rfl
 rotate_left
 ·simp only [Act.put, List.setIfInBounds_toArray, List.set_cons_zero, List.set_cons_succ, i64_w, i32_w]
  rfl
 refine pure_ (i := 5) (N := some 13) (v := ?_) (a' := ?_) #[true, false, true, false, false, true, false, false, false, false, false, false, false, false] rfl rfl (by kernel_rfl) (fun _ _ _ h => h) (Or.inl ⟨by rfl, ?_⟩) ?_ ?_
 rotate_left
 ·intro w'
  go_simp
  with_reducible rfl
 rotate_left
 ·simp only [Act.put, List.setIfInBounds_toArray, List.set_cons_zero, List.set_cons_succ, i64_w, i32_w]
  rfl
 refine pure_ (i := 7) (N := some 15) (v := ?_) (a' := ?_) #[true, false, true, false, false, true, false, true, false, false, false, false, false, false] rfl rfl (by kernel_rfl) (fun _ _ _ h => h) (Or.inl ⟨by rfl, ?_⟩) ?_ ?_
 rotate_left
 ·intro w'
  go_simp
  with_reducible rfl
 rotate_left
 ·simp only [Act.put, List.setIfInBounds_toArray, List.set_cons_zero, List.set_cons_succ, i64_w, i32_w]
  rfl
 refine take_ (i := 1) (N := some 9) (v := ?_) (a' := ?_) #[true, true, true, false, false, true, false, true, false, false, false, false, false, false] rfl rfl (by kernel_rfl) (fun _ _ _ h => h) (Or.inl ⟨by rfl, ?_⟩) hHeld ?_ ?_
 rotate_left
 ·rintro w' ⟨s0, s1, s2, s3, s4, s5, s6, s7, s8⟩
  go_simp
  with_reducible rfl
 rotate_left
 ·simp only [Act.put, List.setIfInBounds_toArray, List.set_cons_zero, List.set_cons_succ, i64_w, i32_w]
  rfl
 refine pure_ (i := 3) (N := some 11) (v := ?_) (a' := ?_) #[true, true, true, true, false, true, false, true, false, false, false, false, false, false] rfl rfl (by kernel_rfl) (fun _ _ _ h => h) (Or.inl ⟨by rfl, ?_⟩) ?_ ?_
 rotate_left
 ·intro w'
  go_simp
  with_reducible rfl
 rotate_left
 ·simp only [Act.put, List.setIfInBounds_toArray, List.set_cons_zero, List.set_cons_succ, i64_w, i32_w]
  rfl
 refine take_ (i := 4) (N := some 12) (v := ?_) (a' := ?_) #[true, true, true, true, true, true, false, true, false, false, false, false, false, false] rfl rfl (by kernel_rfl) (fun _ _ _ h => h) (Or.inl ⟨by rfl, ?_⟩) hHeld ?_ ?_
 rotate_left
 ·rintro w' ⟨s0, s1, s2, s3, s4, s5, s6, s7, s8⟩
  go_simp
  with_reducible rfl
 rotate_left
 ·simp only [Act.put, List.setIfInBounds_toArray, List.set_cons_zero, List.set_cons_succ, i64_w, i32_w]
  rfl
 refine take_ (i := 6) (N := some 14) (v := ?_) (a' := ?_) #[true, true, true, true, true, true, true, true, false, false, false, false, false, false] rfl rfl (by kernel_rfl) (fun _ _ _ h => h) (Or.inl ⟨by rfl, ?_⟩) hHeld ?_ ?_
 rotate_left
 ·rintro w' ⟨s0, s1, s2, s3, s4, s5, s6, s7, s8⟩
  go_simp
  with_reducible rfl
 rotate_left
 ·simp only [Act.put, List.setIfInBounds_toArray, List.set_cons_zero, List.set_cons_succ, i64_w, i32_w]
  rfl
 refine pure_ (i := 8) (N := some 16) (v := ?_) (a' := ?_) #[true, true, true, true, true, true, true, true, true, false, false, false, false, false] rfl rfl (by kernel_rfl) (fun _ _ _ h => h) (Or.inl ⟨by rfl, ?_⟩) ?_ ?_
 rotate_left
 ·intro w'
  go_simp
  with_reducible rfl
 rotate_left
 ·simp only [Act.put, List.setIfInBounds_toArray, List.set_cons_zero, List.set_cons_succ, i64_w, i32_w]
  rfl
 refine take_ (i := 9) (N := some 17) (v := ?_) (a' := ?_) #[true, true, true, true, true, true, true, true, true, true, false, false, false, false] rfl rfl (by kernel_rfl) (fun _ _ _ h => h) (Or.inl ⟨by rfl, ?_⟩) hHeld ?_ ?_
 rotate_left
 ·rintro w' ⟨s0, s1, s2, s3, s4, s5, s6, s7, s8⟩
  go_simp
  with_reducible rfl
 rotate_left
 ·simp only [Act.put, List.setIfInBounds_toArray, List.set_cons_zero, List.set_cons_succ, i64_w, i32_w]
  rfl
 refine join_ (σ := Nat × Nat) 2 #[true, true, true, true, true, true, true, true, true, true, true, true, false, false] (fun g_ => [(6, .pointer (some ⟨g_.1, 0, none⟩)), (7, .pointer (some ⟨g_.2, 0, none⟩))]) (fun g_ w' => Two W blk off dk Bs c size i j p q g_ w') ?_ ?_
 rotate_left
 ·intro hCont
  refine two_ (i := 10) (j := 11) (Ni := some 6) (Nj := some 7) #[true, true, true, true, true, true, true, true, true, true, true, false, false, false] #[true, true, true, true, true, true, true, true, true, true, false, true, false, false] rfl rfl rfl rfl (by kernel_rfl) (by decide) (by decide) (fun K hK => ?_) (fun K hK => ?_)
  ·skip
   refine value_ (w1 := ?_) (v := ?_) (by rfl) rfl ?_ ?_
   rotate_left 2
   ·go_simp
    constructor
    ·rfl
    ·rfl
   refine hK.out _ _ ⟨(LKd.out.alloc (.cells Z48c 48)).s, (LKd.out.alloc (.cells Z48c 48)).p0, (LKd.out.alloc (.cells Z48c 48)).p1, (LKd.out.alloc (.cells Z48c 48)).p2, (LKd.out.alloc (.cells Z48c 48)).p3, (LKd.out.alloc (.cells Z48c 48)).q0, (LKd.out.alloc (.cells Z48c 48)).q1, (LKd.out.alloc (.cells Z48c 48)).q2, (LKd.out.alloc (.cells Z48c 48)).q3⟩ (fun hHeld => ?_)
   clear hK K
   refine norm_ (a' := ?_) ?_ ?_
   rotate_left
   ·show Act.put _ (some 6) _ = _
    simp only [Act.put, List.setIfInBounds_toArray, List.set_cons_zero, List.set_cons_succ, i64_w, i32_w]
    rfl
   refine one_ (i := 11) (N := some 7) #[true, true, true, true, true, true, true, true, true, true, true, true, false, false] rfl rfl (by kernel_rfl) (by decide) (fun K hK => ?_)
   refine value_ (w1 := ?_) (v := ?_) (by rfl) rfl ?_ ?_
   rotate_left 2
   ·go_simp
    constructor
    ·rfl
    ·rfl
   refine hK.out _ _ ⟨((LKd.out.alloc (.cells Z48c 48)).alloc (.cells Z48c 48)).s, ((LKd.out.alloc (.cells Z48c 48)).alloc (.cells Z48c 48)).p0, ((LKd.out.alloc (.cells Z48c 48)).alloc (.cells Z48c 48)).p1, ((LKd.out.alloc (.cells Z48c 48)).alloc (.cells Z48c 48)).p2, ((LKd.out.alloc (.cells Z48c 48)).alloc (.cells Z48c 48)).p3, ((LKd.out.alloc (.cells Z48c 48)).alloc (.cells Z48c 48)).q0, ((LKd.out.alloc (.cells Z48c 48)).alloc (.cells Z48c 48)).q1, ((LKd.out.alloc (.cells Z48c 48)).alloc (.cells Z48c 48)).q2, ((LKd.out.alloc (.cells Z48c 48)).alloc (.cells Z48c 48)).q3⟩ (fun hHeld => ?_)
   clear hK K
   refine norm_ (a' := ?_) ?_ ?_
   rotate_left
   ·show Act.put _ (some 7) _ = _
    simp only [Act.put, List.setIfInBounds_toArray, List.set_cons_zero, List.set_cons_succ, i64_w, i32_w]
    rfl
   exact norm_ (by simp only [putAll, Act.put, List.setIfInBounds_toArray, List.set_cons_zero, List.set_cons_succ]) (hCont (wd.heap.size, wd.heap.size + 1) _ (two_ab SWd.out LKd.out))
  ·skip
   refine value_ (w1 := ?_) (v := ?_) (by rfl) rfl ?_ ?_
   rotate_left 2
   ·go_simp
    constructor
    ·rfl
    ·rfl
   refine hK.out _ _ ⟨(LKd.out.alloc (.cells Z48c 48)).s, (LKd.out.alloc (.cells Z48c 48)).p0, (LKd.out.alloc (.cells Z48c 48)).p1, (LKd.out.alloc (.cells Z48c 48)).p2, (LKd.out.alloc (.cells Z48c 48)).p3, (LKd.out.alloc (.cells Z48c 48)).q0, (LKd.out.alloc (.cells Z48c 48)).q1, (LKd.out.alloc (.cells Z48c 48)).q2, (LKd.out.alloc (.cells Z48c 48)).q3⟩ (fun hHeld => ?_)
   clear hK K
   refine norm_ (a' := ?_) ?_ ?_
   rotate_left
   ·show Act.put _ (some 7) _ = _
    simp only [Act.put, List.setIfInBounds_toArray, List.set_cons_zero, List.set_cons_succ, i64_w, i32_w]
    rfl
   refine one_ (i := 10) (N := some 6) #[true, true, true, true, true, true, true, true, true, true, true, true, false, false] rfl rfl (by kernel_rfl) (by decide) (fun K hK => ?_)
   refine value_ (w1 := ?_) (v := ?_) (by rfl) rfl ?_ ?_
   rotate_left 2
   ·go_simp
    constructor
    ·rfl
    ·rfl
   refine hK.out _ _ ⟨((LKd.out.alloc (.cells Z48c 48)).alloc (.cells Z48c 48)).s, ((LKd.out.alloc (.cells Z48c 48)).alloc (.cells Z48c 48)).p0, ((LKd.out.alloc (.cells Z48c 48)).alloc (.cells Z48c 48)).p1, ((LKd.out.alloc (.cells Z48c 48)).alloc (.cells Z48c 48)).p2, ((LKd.out.alloc (.cells Z48c 48)).alloc (.cells Z48c 48)).p3, ((LKd.out.alloc (.cells Z48c 48)).alloc (.cells Z48c 48)).q0, ((LKd.out.alloc (.cells Z48c 48)).alloc (.cells Z48c 48)).q1, ((LKd.out.alloc (.cells Z48c 48)).alloc (.cells Z48c 48)).q2, ((LKd.out.alloc (.cells Z48c 48)).alloc (.cells Z48c 48)).q3⟩ (fun hHeld => ?_)
   clear hK K
   refine norm_ (a' := ?_) ?_ ?_
   rotate_left
   ·show Act.put _ (some 6) _ = _
    simp only [Act.put, List.setIfInBounds_toArray, List.set_cons_zero, List.set_cons_succ, i64_w, i32_w]
    rfl
   exact norm_ (by simp only [putAll, Act.put, List.setIfInBounds_toArray, List.set_cons_zero, List.set_cons_succ]) (hCont (wd.heap.size + 1, wd.heap.size) _ (two_ba SWd.out LKd.out))
 rintro ⟨x, y⟩ w4 h4
 have H4 := Asd.mk h4
 have hHeld : w4.cell? ⟨Bs, 0, none⟩ = some (.slice (some ⟨blk, off, none⟩) size c) ∧ w4.cell? ⟨blk, off + i * 4, none⟩ = some (.int .i64 p.f0) ∧ w4.cell? ⟨blk, off + i * 4 + 1, none⟩ = some (.int .i64 p.f1) ∧ w4.cell? ⟨blk, off + i * 4 + 2, none⟩ = some (.string p.f2) ∧ w4.cell? ⟨blk, off + i * 4 + 3, none⟩ = some (.string p.f3) ∧ w4.cell? ⟨blk, off + j * 4, none⟩ = some (.int .i64 q.f0) ∧ w4.cell? ⟨blk, off + j * 4 + 1, none⟩ = some (.int .i64 q.f1) ∧ w4.cell? ⟨blk, off + j * 4 + 2, none⟩ = some (.string q.f2) ∧ w4.cell? ⟨blk, off + j * 4 + 3, none⟩ = some (.string q.f3) := ⟨h4.lk.s, h4.lk.p0, h4.lk.p1, h4.lk.p2, h4.lk.p3, h4.lk.q0, h4.lk.q1, h4.lk.q2, h4.lk.q3⟩
 have hx9 := h4.na
 clear h4
 try simp only []
 refine norm_ (a' := ?_) ?_ ?_
 rotate_left
 ·simp only [putAll, Act.put, List.setIfInBounds_toArray, List.set_cons_zero, List.set_cons_succ]
  rfl
 refine one_ (i := 12) (N := none) #[true, true, true, true, true, true, true, true, true, true, true, true, true, false] rfl rfl (by kernel_rfl) (by decide) (fun K hK => ?_)
 refine skip_ (by rfl) rfl (exec_store 48 (.tmp 6) (.tmp 12) rfl x #[.int .i64 p.f0, .int .i64 p.f1, .string p.f2, .string p.f3] rfl rfl 48 Z48c H4.out.a (by kernel_rfl) rfl (by simp [Value.oneCell'])) ?_
 refine hK.out _ _ ⟨(H4.out.lk.setRow x #[.int .i64 p.f0, .int .i64 p.f1, .string p.f2, .string p.f3] (by omega) (by omega)).s, (H4.out.lk.setRow x #[.int .i64 p.f0, .int .i64 p.f1, .string p.f2, .string p.f3] (by omega) (by omega)).p0, (H4.out.lk.setRow x #[.int .i64 p.f0, .int .i64 p.f1, .string p.f2, .string p.f3] (by omega) (by omega)).p1, (H4.out.lk.setRow x #[.int .i64 p.f0, .int .i64 p.f1, .string p.f2, .string p.f3] (by omega) (by omega)).p2, (H4.out.lk.setRow x #[.int .i64 p.f0, .int .i64 p.f1, .string p.f2, .string p.f3] (by omega) (by omega)).p3, (H4.out.lk.setRow x #[.int .i64 p.f0, .int .i64 p.f1, .string p.f2, .string p.f3] (by omega) (by omega)).q0, (H4.out.lk.setRow x #[.int .i64 p.f0, .int .i64 p.f1, .string p.f2, .string p.f3] (by omega) (by omega)).q1, (H4.out.lk.setRow x #[.int .i64 p.f0, .int .i64 p.f1, .string p.f2, .string p.f3] (by omega) (by omega)).q2, (H4.out.lk.setRow x #[.int .i64 p.f0, .int .i64 p.f1, .string p.f2, .string p.f3] (by omega) (by omega)).q3⟩ (fun hHeld => ?_)
 clear hK K
 refine last_ (i := 13) (N := none) #[true, true, true, true, true, true, true, true, true, true, true, true, true, true] rfl rfl (by kernel_rfl) (by decide) (fun K hK => ?_)
 refine skip_ (by rfl) rfl (exec_store 48 (.tmp 7) (.tmp 17) rfl y #[.int .i64 q.f0, .int .i64 q.f1, .string q.f2, .string q.f3] rfl rfl 48 Z48c ((setRow_other _ _ _ _ (fun e => H4.out.ne e.symm)).trans H4.out.b) (by kernel_rfl) rfl (by simp [Value.oneCell'])) ?_
 refine hK.out _ _ ?_
 clear hK K
 refine done_ (by kernel_rfl) ?_
 have W5 := Asd.mk (sw_setRow (sw_setRow H4.out.sw x #[.int .i64 p.f0, .int .i64 p.f1, .string p.f2, .string p.f3] H4.out.na) y #[.int .i64 q.f0, .int .i64 q.f1, .string q.f2, .string q.f3] H4.out.nb)
 have A5 := Asd.mk ((setRow_other (w4.setRow x #[.int .i64 p.f0, .int .i64 p.f1, .string p.f2, .string p.f3]) y x #[.int .i64 q.f0, .int .i64 q.f1, .string q.f2, .string q.f3] H4.out.ne).trans (setRow_heap w4 x _ #[.int .i64 p.f0, .int .i64 p.f1, .string p.f2, .string p.f3] 48 (0, 0) H4.out.a))
 have B5 := Asd.mk (setRow_heap (w4.setRow x #[.int .i64 p.f0, .int .i64 p.f1, .string p.f2, .string p.f3]) y _ #[.int .i64 q.f0, .int .i64 q.f1, .string q.f2, .string q.f3] 48 (0, 0) ((setRow_other w4 x y _ (fun e => H4.out.ne e.symm)).trans H4.out.b))
 clear H4 hHeld
 generalize (w4.setRow x _).setRow y _ = w5 at *
 have x0 : w5.cell? ⟨x, 0, none⟩ = some (.int .i64 p.f0) := by simp [World.cell?, A5.out]
 have x1 : w5.cell? ⟨x, 1, none⟩ = some (.int .i64 p.f1) := by simp [World.cell?, A5.out]
 have y0 : w5.cell? ⟨y, 0, none⟩ = some (.int .i64 q.f0) := by simp [World.cell?, B5.out]
 have y1 : w5.cell? ⟨y, 1, none⟩ = some (.int .i64 q.f1) := by simp [World.cell?, B5.out]
 by_cases h1 : p.f1 < q.f1
 ·go_wp2
  go_ret
  exact ⟨by simp [ltT, h1], W5.out⟩
 ·by_cases h2 : p.f1 = q.f1
  ·have h2b : (p.f1 == q.f1) = true := beq_iff_eq.2 h2
   go_wp2
   go_ret
   exact ⟨by simp [ltT, h1, h2], W5.out⟩
  ·have h2b : (p.f1 == q.f1) = false := beq_eq_false_iff_ne.2 h2
   go_wp2
   go_ret
   exact ⟨by simp [ltT, h1, h2], W5.out⟩
end Go.Proofs.Ytlecpmgdoomngaa.M
end
section
namespace Go.Proofs.Ytlecpmgdoomngaa.M
open Go.Shelf Go.RowKit Go.Lib Go.Sort Go.Proofs.Ytlecpmgdoomngaa.P
set_option linter.unusedVariables false
set_option linter.unusedSimpArgs false
noncomputable def svT : TypeInfo := (Try.prog.info? 30).get (by kernel_rfl)
noncomputable def svE : TypeInfo := (Try.prog.info? 48).get (by kernel_rfl)
theorem svK (n : Nat) (h2 : 2 ≤ n) : Lib.swapperK n svE 25 = 9 := by
 have a : svE.hasPointers = true := by kernel_rfl
 have b : svE.bytes = 48 := by kernel_rfl
 have c : (n == 0) = false := by simp; omega
 have d : (n == 1) = false := by simp; omega
 simp [Lib.swapperK, a, b, c, d]
theorem lk_of {w0 W : World} {blk Bs c : Nat} {dk : Array S48} {size : Nat} (h : SWK encT 4 w0 blk 0 dk W) (hs : dk.size = size) (hH : HoldsK encT 4 W blk 0 dk) (hblk : blk < w0.heap.size)
  (hBs : w0.cell? ⟨Bs, 0, none⟩ = some (.slice (some ⟨blk, 0, none⟩) size c)) (hB1 : Bs < w0.heap.size) (hB2 : Bs ≠ blk) (i j : Nat) (hi : i < size) (hj : j < size) : Lk W Bs blk 0 c size i j dk[i]! dk[j]! := by
 have e : ∀ (t x : Nat) (ht : t < size) (hx : x < 4), W.cell? ⟨blk, 0 + t * 4 + x, none⟩ = (encT dk[t]!)[x]? := by
  intro t x ht hx
  have hlen : x < (encT dk[t]!).length := hx
  have h1 := (hH.cell (i := t) (c := x) (by omega) hx).1
  rw [h1, List.getElem?_eq_getElem hlen]
  simp [List.getD_eq_getElem?_getD, List.getElem?_eq_getElem hlen]
 exact ⟨(sw_cell h hB2 hB1 0).trans hBs, e i 0 hi (by omega), e i 1 hi (by omega), e i 2 hi (by omega), e i 3 hi (by omega), e j 0 hj (by omega), e j 1 hj (by omega), e j 2 hj (by omega), e j 3 hj (by omega), Nat.lt_of_lt_of_le hB1 h.le, h.lt hblk⟩
theorem hx53 : ∀ args W, (callFunc 53 args).run Try.prog W = ((Extern.ReflectliteSwapper.swap false args).run Try.prog W).andThen fun v w' => .ok (.value v) w' :=
 fun args W => run_callFunc_extern Try.func53 (by kernel_rfl) (by kernel_rfl) (by kernel_rfl) (e := Extern.ReflectliteSwapper.swap false) (by kernel_rfl) args W
theorem sort_refs (blk c Bs : Nat) (d : Array S48) (h2 : 2 ≤ d.size) (hsz : d.size < 4611686018427387904) (w : World) (hH : HoldsK encT 4 w blk 0 d) (hblk : blk < w.heap.size)
  (hBs : w.cell? ⟨Bs, 0, none⟩ = some (.slice (some ⟨blk, 0, none⟩) d.size c)) (hB1 : Bs < w.heap.size) (hB2 : Bs ≠ blk) :
  Calls Try.prog 24 #[.iface 30 (.slice (some ⟨blk, 0, none⟩) d.size c), .func (.func 25) #[] #[.pointer (some ⟨Bs, 0, none⟩)]] w fun e w' =>
   e = .returned (.tuple #[]) ∧ ∃ d', PermIn 0 d.size d d' ∧ SortedIn ltT 0 d.size d' ∧ SWK encT 4 w blk 0 d' w' := by
 refine Any.sort_Slice_of_pdq Try.laysGg6 30 48 svT svE (by kernel_rfl) (by kernel_rfl) (by kernel_rfl) (by kernel_rfl) 25 (fun _ => by kernel_rfl) _ d.size c hsz 53 (by rw [svK _ h2]; kernel_rfl) (.func 25) #[] _ w _ ?_
 have hB : sliceBound Try.prog 48 svE 25 (some ⟨blk, 0, none⟩) d.size c = #[.slice (some ⟨blk, 0, none⟩) d.size c, typeHandle Try.prog 48] := by
  unfold sliceBound; rw [if_neg (swapperK_gt _ _ _ h2)]
 rw [hB]
 have hW : SWK encT 4 w blk 0 d (sliceWorld Try.prog Try.laysGg6_ren 30 (some ⟨blk, 0, none⟩) d.size c w) := ((SWK.start hH).alloc _).alloc _
 have hcell : (sliceWorld Try.prog Try.laysGg6_ren 30 (some ⟨blk, 0, none⟩) d.size c w).cell? ⟨Bs, 0, none⟩ = some (.slice (some ⟨blk, 0, none⟩) d.size c) := (sw_cell hW hB2 hB1 0).trans hBs
 have hBl : Bs < (sliceWorld Try.prog Try.laysGg6_ren 30 (some ⟨blk, 0, none⟩) d.size c w).heap.size := Nat.lt_of_lt_of_le hB1 hW.le
 have hHs := hW.holds hblk hH rfl
 have hbs := hW.lt hblk
 generalize sliceWorld Try.prog Try.laysGg6_ren 30 (some ⟨blk, 0, none⟩) d.size c w = w0 at *
 have S : Srt #[.pointer (some ⟨Bs, 0, none⟩)] #[.slice (some ⟨blk, 0, none⟩) d.size c, typeHandle Try.prog 48] encT 4 ltT blk 0 d.size w0 := by
  refine ⟨fun _ => rfl, ?_, ?_, hbs, ⟨d, hHs, rfl⟩, hsz⟩
  ·intro W dk hs hz i j hi hj
   have hHk := hs.holds hbs hHs hz
   exact less_call W Bs blk 0 c d.size i j dk[i]! dk[j]! dk hHk (lk_of hs hz hHk hbs hcell hBl hB2 i j hi hj) hi hj hsz
  ·exact swapSwapsK_of_literal false 53 hx53 48 svE (by kernel_rfl) encT 4 (fun _ => rfl) (by kernel_rfl) (fun _ => by kernel_rfl) (fun x v hv => by simp [encT] at hv; rcases hv with rfl | rfl | rfl | rfl <;> rfl) blk 0 d.size c
 have hlim : Lib.bitLen d.size < 4611686018427387904 := Nat.lt_of_le_of_lt (Lib.bitLen_le d.size 62 (by omega) (by omega)) (by omega)
 refine (pdq_call S swo_ltT (d.size + 1) 0 d.size (Lib.bitLen d.size) d w0 (by omega) (SWK.start hHs) rfl (Nat.zero_le _) (Nat.le_refl _) hlim (Or.inl rfl)).mono ?_
 rintro e w' ⟨rfl, h9⟩
 obtain ⟨pL, sL⟩ := pdq_sorts ltT swo_ltT d 0 d.size (Lib.bitLen d.size) true true (Nat.zero_le _) (Nat.le_refl _) (Or.inl rfl)
 exact ⟨rfl, _, pL, sL, sw_trans hW h9 hblk pL.1⟩
theorem sort_tiny (p : Option Addr) (n c Bs : Nat) (h1 : n ≤ 1) (w : World) :
  Calls Try.prog 24 #[.iface 30 (.slice p n c), .func (.func 25) #[] #[.pointer (some ⟨Bs, 0, none⟩)]] w fun e w' => e = .returned (.tuple #[]) ∧ ∃ os, w' = grow w os := by
 have h : n = 0 ∨ n = 1 := by omega
 have a : svE.hasPointers = true := by kernel_rfl
 have b : svE.bytes = 48 := by kernel_rfl
 rcases h with rfl | rfl
 ·exact Any.sort_Slice_tiny Try.laysGg6 30 48 svT svE (by kernel_rfl) (by kernel_rfl) (by kernel_rfl) (by kernel_rfl) 25 (fun _ => by kernel_rfl) p 0 c (by omega) 45 (by simp [Lib.swapperK]; kernel_rfl) _ _ _ w
 ·exact Any.sort_Slice_tiny Try.laysGg6 30 48 svT svE (by kernel_rfl) (by kernel_rfl) (by kernel_rfl) (by kernel_rfl) 25 (fun _ => by kernel_rfl) p 1 c (by omega) 46 (by simp [Lib.swapperK]; kernel_rfl) _ _ _ w
end Go.Proofs.Ytlecpmgdoomngaa.M
end
section
namespace Go.Proofs.Ytlecpmgdoomngaa.M
open Go.Shelf Go.RowKit Go.Lib Go.Sort Go.Proofs.Ytlecpmgdoomngaa.P Go.Proofs.YtlecpmgdoomngaaW.PrintWords Go.Proofs.YtlecpmgdoomngaaW.PrintLast Go.Proofs.YtlecpmgdoomngaaW.PrintMore
set_option linter.unusedVariables false
set_option linter.unusedSimpArgs false
theorem reps_flat {R : S48 → List Value → Prop} (hR : ∀ x cs, R x cs → cs = encT x) {xs : List S48} {inner : List Value} (h : Reps R 4 xs inner) : inner = (flatK encT 4 xs.toArray).toList := by
 apply List.ext_getElem?
 intro t
 have hl := h.1
 by_cases ht : t < xs.length * 4
 ·have hj : t / 4 < xs.length := by omega
  have h1 := h.2 (t / 4) xs[t / 4] (List.getElem?_eq_getElem hj)
  have h2 := hR _ _ h1
  have h3 : ((inner.drop (t / 4 * 4)).take 4)[t % 4]? = inner[t]? := by
   rw [List.getElem?_take_of_lt (by omega), List.getElem?_drop, show t / 4 * 4 + t % 4 = t by omega]
  rw [← h3, h2, show (flatK encT 4 xs.toArray).toList[t]? = (flatK encT 4 xs.toArray)[t]? from Array.getElem?_toList ..]
  have h4 := get_flatK encT 4 xs.toArray t (by simpa using ht)
  rw [show (flatK encT 4 xs.toArray)[t]? = some ((flatK encT 4 xs.toArray)[t]'(by simpa using ht)) from Array.getElem?_eq_getElem _]
  rw [getElem!_pos (flatK encT 4 xs.toArray) t (by simpa using ht)] at h4
  rw [h4]
  have h5 : xs.toArray[t / 4]! = xs[t / 4] := by rw [getElem!_pos _ _ (by simpa using hj)]; simp
  rw [h5, getElem!_pos (encT xs[t / 4]) (t % 4) (by show t % 4 < 4; omega), List.getElem?_eq_getElem (by show t % 4 < 4; omega)]
 ·rw [List.getElem?_eq_none (by omega), List.getElem?_eq_none (by simp; omega)]
theorem flat_reps {R : S48 → List Value → Prop} (hR : ∀ x, R x (encT x)) (xs : List S48) : Reps R 4 xs (flatK encT 4 xs.toArray).toList := by
 refine ⟨by simp, fun j p hj => ?_⟩
 have hlt : j < xs.length := (List.getElem?_eq_some_iff.1 hj).1
 have e : (((flatK encT 4 xs.toArray).toList.drop (j * 4)).take 4) = encT p := by
  apply List.ext_getElem?
  intro c
  by_cases hc : c < 4
  ·rw [List.getElem?_take_of_lt hc, List.getElem?_drop, Array.getElem?_toList]
   have h4 := get_flatK encT 4 xs.toArray (j * 4 + c) (by simp; omega)
   rw [getElem!_pos (flatK encT 4 xs.toArray) (j * 4 + c) (by simp; omega)] at h4
   rw [Array.getElem?_eq_getElem (by simp; omega), h4, show (j * 4 + c) / 4 = j by omega, show (j * 4 + c) % 4 = c by omega]
   have h5 : xs.toArray[j]! = p := by
    rw [getElem!_pos _ _ (by simpa using hlt)]
    simpa using (List.getElem?_eq_some_iff.1 hj).2
   rw [h5, getElem!_pos _ _ (by show c < 4; omega), List.getElem?_eq_getElem (by show c < 4; omega)]
  ·rw [List.getElem?_eq_none (by rw [List.length_take]; omega), List.getElem?_eq_none (by show 4 ≤ c; omega)]
 rw [e]
 exact hR p
theorem holds_of_row {w : World} {g : Nat} {cur : Array Value} {e : TypeId} {F : Array Value} (hb : w.heap[g]? = some (.cells cur e (0, 0))) (ht : cur.toList.take F.size = F.toList) : Holds id w g 0 F := by
 intro j hj
 refine ⟨?_, by simp [World.frozen?, hb]⟩
 have h1 : (cur.toList.take F.size)[j]? = F.toList[j]? := by rw [ht]
 rw [List.getElem?_take_of_lt hj] at h1
 simp only [World.cell?, hb, Nat.zero_add]
 simp only [Option.isSome_none, Bool.false_eq_true, if_false]
 rw [← Array.getElem?_toList, h1]
 simp [hj]
theorem heap_row {w : World} {g n : Nat} {os : Array Obj} {cur : Array Value} {e : TypeId} {fr : Nat × Nat} (F : Array Value) (hb : w.heap[g]? = some (.cells cur e fr)) :
  (grow (putRow id (Sort.ahead w n) g 0 F) os).heap[g]? = some (.cells (putCells id 0 F cur) e fr) := by
 have hg : g < w.heap.size := (Array.getElem?_eq_some_iff.1 hb).1
 rw [heap_grow_old _ _ (by simpa using hg)]
 simp [putRow, mapBlock, Sort.ahead, Array.getElem?_modify, hb, onCells]
theorem heap_row_other {w : World} {g n k : Nat} {os : Array Obj} (F : Array Value) (hk : k < w.heap.size) (hne : g ≠ k) : (grow (putRow id (Sort.ahead w n) g 0 F) os).heap[k]? = w.heap[k]? := by
 rw [heap_grow_old _ _ (by simpa using hk)]
 simp [putRow, mapBlock, Sort.ahead, Array.getElem?_modify, hne]
theorem take_row (cur F : Array Value) (h : F.size ≤ cur.size) : (putCells id 0 F cur).toList.take F.size = F.toList := by
 apply List.ext_getElem?
 intro j
 by_cases hj : j < F.size
 ·rw [List.getElem?_take_of_lt hj, Array.getElem?_toList]
  simp [putCells, hj, show j < cur.size by omega]
 ·rw [List.getElem?_take_eq_none (by omega), List.getElem?_eq_none (by simp; omega)]
theorem sorted_pair {d : Array S48} (h : SortedIn ltT 0 d.size d) : d.toList.Pairwise fun a b => ltT b a = false := by
 rw [List.pairwise_iff_getElem]
 intro i j hi hj hij
 have hj' : j < d.size := by simpa using hj
 have := h i j (Nat.zero_le _) hij hj'
 rw [getElem!_pos _ i (by omega), getElem!_pos _ j (by omega)] at this
 simpa using this
theorem grow_below {w : World} {os : Array Obj} : Below w.heap.size w (grow w os) := ⟨rfl, rfl, rfl, by simp, fun k hk => heap_grow_old _ _ hk⟩
theorem sort_call (w0 w : World) (base : Nat) (ok : Nat → Prop) (v : Value) (xs : List S48) (Bs : Nat) (u1 u2 u3 : Value) (hR : Kd.R k48 48 w base ok v xs) (hB : Below base w0 w) (hbase : base ≤ w.heap.size) (hBs : w.heap[Bs]? = some (.cells #[v, u1, u2, u3] 32 (0, 0))) (hlen : xs.length ≤ 4611686018427387) :
  Calls Try.prog 24 #[.iface 30 v, .func (.func 25) #[] #[.pointer (some ⟨Bs, 0, none⟩)]] w fun e w' =>
   e = .returned (.tuple #[]) ∧ ∃ ys : List S48, ys.Perm xs ∧ (ys.Pairwise fun a b => ltT b a = false) ∧ Kd.R k48 48 w' base ok v ys ∧ Below base w0 w' ∧ ∀ (k t : Nat) (cells : Array Value), w.heap[k]? = some (.cells cells t (0, 0)) → t ≠ 48 → w'.heap[k]? = w.heap[k]? := by
 have hBlt : Bs < w.heap.size := (Array.getElem?_eq_some_iff.1 hBs).1
 by_cases h1 : xs.length ≤ 1
 ·obtain ⟨A, c, rfl⟩ := Kd.R_slice hR
  refine (sort_tiny A xs.length c Bs h1 w).mono ?_
  rintro e w' ⟨rfl, os, rfl⟩
  refine ⟨rfl, xs, List.Perm.refl _, ?_, Kd.R_below hR grow_below, hB.trans (grow_below.mono hbase), fun k t cells hk ht => heap_grow_old _ _ (blk_lt hk)⟩
  match xs, h1 with
  | [], _ => exact List.Pairwise.nil
  | [x], _ => exact List.pairwise_singleton _ _
  | x :: y :: r, h1 => simp at h1
 ·obtain ⟨hok, inner, hown, hrep⟩ := hR
  obtain ⟨hil, hown⟩ := hown
  rcases hown with ⟨rfl, h0⟩ | ⟨g, cap, cur, rfl, hg, hb, hc1, hc2, hc3, hc4⟩
  ·exact absurd h0 (by omega)
  have hin := reps_flat (fun x cs hx => k48_openM hx) hrep
  have hne : g ≠ Bs := by
   intro e
   subst e
   rw [hb] at hBs
   cases hBs
  have hglt : g < w.heap.size := (Array.getElem?_eq_some_iff.1 hb).1
  have hF : (flatK encT 4 xs.toArray).size = xs.length * 4 := by simp
  have hH : HoldsK encT 4 w g 0 xs.toArray := holds_of_row hb (by rw [hF]; exact hc4.trans hin)
  have hcell : w.cell? ⟨Bs, 0, none⟩ = some (.slice (some ⟨g, 0, none⟩) xs.toArray.size cap) := by simp [World.cell?, hBs]
  have hs := sort_refs g cap Bs xs.toArray (by simp; omega) (by simp; omega) w hH hglt hcell hBlt (fun e => hne e.symm)
  rw [List.size_toArray] at hs
  refine hs.mono ?_
  rintro e w' ⟨rfl, d', hp, hsd, n, os, rfl⟩
  have hsz : d'.size = xs.length := hp.1
  have hperm : d'.toList.Perm xs := by
   have h := hp.2.2
   have e1 : d'.extract 0 xs.length = d' := by rw [← hsz]; simp
   have e2 : xs.toArray.extract 0 xs.length = xs.toArray := by simp
   rw [e1, e2] at h
   simpa using h
  have hl' : d'.toList.length = xs.length := by simpa using hsz
  have hF' : (flatK encT 4 d').size = xs.length * 4 := by simp [hsz]
  refine ⟨rfl, d'.toList, hperm, sorted_pair (by rw [hsz]; exact hsd), ⟨hok, (flatK encT 4 d').toList, ⟨by rw [hl']; show _ = xs.length * 4; simpa using hF', .inr ⟨g, cap, _, by rw [hl'], hg, heap_row _ hb, by rw [hl']; exact hc1, hc2, by simpa [putCells] using hc3, ?_⟩⟩, ?_⟩, ?_, ?_⟩
  ·rw [hl']
   show List.take (xs.length * 4) _ = _
   rw [← hF']
   exact take_row _ _ (by rw [hF', hc3]; exact Nat.mul_le_mul_right 4 hc1)
  ·have h := flat_reps (R := k48.M (grow (putRowK encT 4 (Sort.ahead w n) g 0 d') os) base (fun k => ok k ∧ some k ≠ Value.ownBlock (.slice (some ⟨g, 0, none⟩) xs.length cap))) (fun x => k48_mkM _ _ _ x) d'.toList
   rw [Array.toArray_toList] at h
   exact h
  ·refine hB.trans ⟨rfl, rfl, rfl, SWK.le ⟨n, os, rfl⟩, fun k hk => ?_⟩
   exact heap_row_other _ (by omega) (by omega)
  ·intro k t cells hk ht
   exact heap_row_other _ (blk_lt hk) (fun e => by
    subst e
    rw [hb] at hk
    injection hk with hk
    injection hk with h1 h2 h3
    exact ht h2.symm)
theorem insT_perm (x : S48) : ∀ l : List S48, (insT x l).Perm (x :: l)
 | [] => List.Perm.refl _
 | y :: ys => by
  unfold insT
  split
  ·exact List.Perm.refl _
  ·exact ((insT_perm x ys).cons y).trans (List.Perm.swap x y ys)
theorem foldIns_perm : ∀ (l acc : List S48), (l.foldl (fun acc x => insT x acc) acc).Perm (acc ++ l)
 | [], acc => by simp
 | x :: xs, acc => by
  refine (foldIns_perm xs (insT x acc)).trans ?_
  exact ((insT_perm x acc).append_right xs).trans (List.perm_middle.symm)
theorem isort_perm (l : List S48) : (isort l).Perm l := by
 have := foldIns_perm l []
 simpa [isort] using this
theorem ltT_of_not {a b : S48} (hn : a.f0 ≠ b.f0) (h : ltT b a = false) : ltT a b = true := by
 rw [ltT_not] at h
 rw [ltT_iff]
 omega
theorem insT_sorted (x : S48) : ∀ l : List S48, (l.Pairwise fun a b => ltT b a = false) → (insT x l).Pairwise fun a b => ltT b a = false
 | [], _ => List.pairwise_singleton _ _
 | y :: ys, h => by
  have h1 := List.pairwise_cons.1 h
  unfold insT
  split
  ·rename_i hlt
   refine List.pairwise_cons.2 ⟨fun z hz => ?_, h⟩
   have hxy : ltT x y = true := (ltT_iff x y).2 hlt
   rcases List.mem_cons.1 hz with rfl | hz
   ·cases e : ltT z x with
    | false => rfl
    | true => have := swo_ltT.trans _ _ _ e hxy; rw [swo_ltT.irrefl] at this; cases this
   ·cases e : ltT z x with
    | false => rfl
    | true => have := swo_ltT.trans _ _ _ e hxy; rw [h1.1 z hz] at this; cases this
  ·rename_i hlt
   have hxy : ltT x y = false := (ltT_not x y).2 hlt
   refine List.pairwise_cons.2 ⟨fun z hz => ?_, insT_sorted x ys h1.2⟩
   rcases List.mem_cons.1 ((insT_perm x ys).mem_iff.1 hz) with rfl | hz
   ·exact hxy
   ·exact h1.1 z hz
theorem foldIns_sorted : ∀ (l acc : List S48), (acc.Pairwise fun a b => ltT b a = false) → (l.foldl (fun acc x => insT x acc) acc).Pairwise fun a b => ltT b a = false
 | [], acc, h => h
 | x :: xs, acc, h => foldIns_sorted xs _ (insT_sorted x acc h)
theorem isort_sorted (l : List S48) : (isort l).Pairwise fun a b => ltT b a = false := foldIns_sorted l [] List.Pairwise.nil
theorem unique_sorted : ∀ (a b : List S48), a.Perm b → (a.Pairwise fun x y => ltT x y = true) → (b.Pairwise fun x y => ltT x y = true) → a = b
 | [], b, hp, _, _ => (List.nil_perm.1 hp).symm
 | x :: xs, [], hp, _, _ => absurd hp.length_eq (by simp)
 | x :: xs, y :: ys, hp, ha, hb => by
  have ha1 := List.pairwise_cons.1 ha
  have hb1 := List.pairwise_cons.1 hb
  have hxy : x = y := by
   rcases List.mem_cons.1 (hp.mem_iff.1 List.mem_cons_self) with h | h
   ·exact h
   ·rcases List.mem_cons.1 (hp.mem_iff.2 List.mem_cons_self) with h' | h'
    ·exact h'.symm
    ·have := swo_ltT.trans _ _ _ (ha1.1 y h') (hb1.1 x h)
     rw [swo_ltT.irrefl] at this
     cases this
  subst hxy
  rw [unique_sorted xs ys (List.Perm.cons_inv hp) ha1.2 hb1.2]
theorem strict_of {l : List S48} (h : l.Pairwise fun a b => ltT b a = false) (hn : (l.map (·.f0)).Nodup) : l.Pairwise fun a b => ltT a b = true := by
 have hn' : l.Pairwise fun a b => a.f0 ≠ b.f0 := by
  unfold List.Nodup at hn
  exact List.pairwise_map.1 hn
 exact (h.and hn').imp fun hab => ltT_of_not hab.2 hab.1
theorem checks_nodup {x3 : Int} : ∀ (l before : List S48), (before.map (·.f0)).Nodup → checks x3 before l = true → ((before ++ l).map (·.f0)).Nodup
 | [], before, hb, _ => by simpa using hb
 | t :: ts, before, hb, h => by
  unfold checks at h
  rw [Bool.and_eq_true] at h
  have h0 : t.f0 ∉ before.map (·.f0) := by
   have := h.1
   unfold okAt at this
   rw [Bool.and_eq_true, Bool.and_eq_true] at this
   simpa using this.1.1
  have := checks_nodup ts (before ++ [t]) (by
   rw [List.map_append, List.nodup_append]
   refine ⟨hb, by simp, ?_⟩
   intro a ha b hb' e
   subst e
   simp at hb'
   exact h0 (hb' ▸ ha)) h.2
  simpa using this
theorem sorted_is {x3 : Int} {l ys : List S48} (hc : checks x3 [] l = true) (hp : ys.Perm l) (hs : ys.Pairwise fun a b => ltT b a = false) : ys = isort l := by
 have hn : (l.map (·.f0)).Nodup := by simpa using checks_nodup l [] (by simp) hc
 refine unique_sorted _ _ (hp.trans (isort_perm l).symm) (strict_of hs ((hp.map _).nodup_iff.2 hn)) (strict_of (isort_sorted l) (((isort_perm l).map _).nodup_iff.2 hn))
end Go.Proofs.Ytlecpmgdoomngaa.M
end
section
-- Written by a changed copy of the print program, one module a function. Not trusted: Lean checks it.
namespace Go.Proofs.Ytlecpmgdoomngaa.P
open Go.RowKit Go.Proofs.YtlecpmgdoomngaaW.PrintWords Go.Proofs.YtlecpmgdoomngaaW.PrintLast Go.Proofs.YtlecpmgdoomngaaW.PrintMore
attribute [local go_sem] max2_int min2_int max_two min_two max_three min_three max_four min_four   -- for this text's walks alone
set_option linter.unusedVariables false
set_option linter.unusedSimpArgs false
def impl_numFine.f (a0 : Int) : Option (Bool) := if a0 ≥ 1 then (some (decide (a0 ≤ 999999999))) else (some false)
set_option maxHeartbeats 8000000 in
set_option maxRecDepth 100000 in
theorem impl_numFine.calls (a0 : Int) (r : Bool) (w : World) (h : impl_numFine.f a0 = some r) :
  Calls Try.prog 36 #[.int .i64 a0] w fun e w' => e = .returned (.bool r) ∧ Drawn0 w w' := by
 have H : (if a0 ≥ 1 then (some (decide (a0 ≤ 999999999))) else (some false)) = some r := h; clear h
 by_cases c2 : a0 ≥ 1
 ·rw [if_pos c2] at H
  have c2b0 : decide (1 ≤ a0) = true := decide_eq_true c2; clear c2; obtain rfl := Option.some.inj H
  go_enter Try.func36, Try.ntmps36
  go_wp2
  go_ret
  exact ⟨by first | rfl | (simp; done) | (simp [*]; done), by repeat (first | exact Drawn0.refl _ | apply Drawn0.step)⟩
 ·rw [if_neg c2] at H
  have c2b0 : decide (1 ≤ a0) = false := decide_eq_false c2; clear c2; obtain rfl := Option.some.inj H
  go_enter Try.func36, Try.ntmps36
  go_wp2
  go_ret
  exact ⟨by first | rfl | (simp; done) | (simp [*]; done), by repeat (first | exact Drawn0.refl _ | apply Drawn0.step)⟩
end Go.Proofs.Ytlecpmgdoomngaa.P
end
section
-- Written by a changed copy of the print program, one module a function. Not trusted: Lean checks it.
namespace Go.Proofs.Ytlecpmgdoomngaa.P
open Go.RowKit Go.Proofs.YtlecpmgdoomngaaW.PrintWords Go.Proofs.YtlecpmgdoomngaaW.PrintLast Go.Proofs.YtlecpmgdoomngaaW.PrintMore
attribute [local go_sem] max2_int min2_int max_two min_two max_three min_three max_four min_four   -- for this text's walks alone
set_option linter.unusedVariables false
set_option linter.unusedSimpArgs false
def impl_refFine.f (a0_0 : Int) (a0_1 : Int) (a0_2 : ByteArray) (a0_3 : ByteArray) : Option (Bool) := (impl_numFine.f a0_0).bind fun t220 => (if t220 = true then (if a0_1 ≥ 0 then (if a0_1 ≤ 3 then (if (a0_2.size : Int) ≥ 1 then (if (a0_2.size : Int) ≤ 1000 then (if (a0_3.size : Int) ≥ 1 then (if (a0_3.size : Int) ≤ 1000 then (some (!(Op.bytesLess a0_3.toList a0_2.toList))) else (some false)) else (some false)) else (some false)) else (some false)) else (some false)) else (some false)) else (some false))
set_option maxHeartbeats 8000000 in
set_option maxRecDepth 100000 in
theorem impl_refFine.calls (a0_0 : Int) (a0_1 : Int) (a0_2 : ByteArray) (a0_3 : ByteArray) (r : Bool) (w : World) (h : impl_refFine.f a0_0 a0_1 a0_2 a0_3 = some r) :
  Calls Try.prog 37 #[.agg #[.int .i64 a0_0, .int .i64 a0_1, .string a0_2, .string a0_3]] w fun e w' => e = .returned (.bool r) ∧ Below w.heap.size w w' := by
 have hu48 := Try.underlying48; have HB := Aside0.mk (Below.refl w.heap.size w); have H : ((impl_numFine.f a0_0).bind fun t220 => (if t220 = true then (if a0_1 ≥ 0 then (if a0_1 ≤ 3 then (if (a0_2.size : Int) ≥ 1 then (if (a0_2.size : Int) ≤ 1000 then (if (a0_3.size : Int) ≥ 1 then (if (a0_3.size : Int) ≤ 1000 then (some (!(Op.bytesLess a0_3.toList a0_2.toList))) else (some false)) else (some false)) else (some false)) else (some false)) else (some false)) else (some false)) else (some false))) = some r := h; clear h; replace H := Option.bind_eq_some_iff.mp H; obtain ⟨t220, A20, H⟩ := H; replace H : (if t220 = true then (if a0_1 ≥ 0 then (if a0_1 ≤ 3 then (if (a0_2.size : Int) ≥ 1 then (if (a0_2.size : Int) ≤ 1000 then (if (a0_3.size : Int) ≥ 1 then (if (a0_3.size : Int) ≤ 1000 then (some (!(Op.bytesLess a0_3.toList a0_2.toList))) else (some false)) else (some false)) else (some false)) else (some false)) else (some false)) else (some false)) else (some false)) = some r := H; have A2 := Aside0.mk A20; clear A20
 by_cases c3 : t220 = true
 ·subst c3
  have H1 : (if a0_1 ≥ 0 then (if a0_1 ≤ 3 then (if (a0_2.size : Int) ≥ 1 then (if (a0_2.size : Int) ≤ 1000 then (if (a0_3.size : Int) ≥ 1 then (if (a0_3.size : Int) ≤ 1000 then (some (!(Op.bytesLess a0_3.toList a0_2.toList))) else (some false)) else (some false)) else (some false)) else (some false)) else (some false)) else (some false)) = some r := by rw [if_pos rfl] at H; exact H
  clear H; have H := H1; clear H1
  by_cases c4 : a0_1 ≥ 0
  ·rw [if_pos c4] at H
   have c4b0 : decide (0 ≤ a0_1) = true := decide_eq_true c4; clear c4
   by_cases c5 : a0_1 ≤ 3
   ·rw [if_pos c5] at H
    have c5b0 : decide (a0_1 ≤ 3) = true := decide_eq_true c5; clear c5
    by_cases c6 : (a0_2.size : Int) ≥ 1
    ·rw [if_pos c6] at H
     have c6b0 : decide (1 ≤ (a0_2.size : Int)) = true := decide_eq_true c6; have c6b1 : decide (1 ≤ a0_2.size) = true := decide_eq_true (by omega); clear c6
     by_cases c7 : (a0_2.size : Int) ≤ 1000
     ·rw [if_pos c7] at H
      have c7b0 : decide ((a0_2.size : Int) ≤ 1000) = true := decide_eq_true c7; have c7b1 : decide (a0_2.size ≤ 1000) = true := decide_eq_true (by omega); clear c7
      by_cases c8 : (a0_3.size : Int) ≥ 1
      ·rw [if_pos c8] at H
       have c8b0 : decide (1 ≤ (a0_3.size : Int)) = true := decide_eq_true c8; have c8b1 : decide (1 ≤ a0_3.size) = true := decide_eq_true (by omega); clear c8
       by_cases c9 : (a0_3.size : Int) ≤ 1000
       ·rw [if_pos c9] at H
        have c9b0 : decide ((a0_3.size : Int) ≤ 1000) = true := decide_eq_true c9; have c9b1 : decide (a0_3.size ≤ 1000) = true := decide_eq_true (by omega); clear c9; obtain rfl := Option.some.inj H
        go_enter Try.func37, Try.ntmps37
        go_wp2_with (first | ((with_reducible refine gate_dst (N := 1) rfl ?_); (try (refine gate_guard (by rfl) ?_; dsimp only)); refine box_event ?hg (N := 1) ?hd (cs := #[.int .i64 a0_0, .int .i64 a0_1, .string a0_2, .string a0_3]) (t := 48) ?hr ?_; (case hd => rfl); (case hg => rfl); (case hr => first | (go_simp; done) | (go_simp; rfl)); intro gb219 hg w10 hbox hb; have BK219 := Aside0.mk (hbox); have GW219 := Aside0.mk ((by rw [hg]; exact (below_size (xh HB)) : w.heap.size ≤ gb219)); have GE219 := Aside0.mk ((by rw [hg]; exact (below_size (xh HB)) : w.heap.size ≤ gb219)); replace HB := Aside0.mk (below_step (xh HB) hb); clear hb hbox hg; have hcz11_0 : w10.cell? ⟨gb219, 0, none⟩ = some (.int .i64 a0_0) := (blk_cell BK219.out 0).trans rfl; have hcz11_1 : w10.cell? ⟨gb219, 1, none⟩ = some (.int .i64 a0_1) := (blk_cell BK219.out 1).trans rfl; have hcz11_2 : w10.cell? ⟨gb219, 2, none⟩ = some (.string a0_2) := (blk_cell BK219.out 2).trans rfl; have hcz11_3 : w10.cell? ⟨gb219, 3, none⟩ = some (.string a0_3) := (blk_cell BK219.out 3).trans rfl; have hfz11_0 := blk_frozen BK219.out 0; have hfz11_1 := blk_frozen BK219.out 1; have hfz11_2 := blk_frozen BK219.out 2; have hfz11_3 := blk_frozen BK219.out 3) | ((with_reducible refine gate_callee (f := 36) rfl ?_); refine goesL_ (some 5) rfl rfl Try.func36 (by kernel_rfl) rfl #[.int .i64 a0_0] rfl (by (try simp only [List.map_toArray, List.map_cons, List.map_nil]); first | done | rfl | (simp only [List.length_drop, List.length_take]; rfl)) ?_; (with_reducible refine (impl_numFine.calls a0_0 true _ A2.out).mono ?_); rintro e w' ⟨rfl, ⟨nd, rfl⟩⟩; refine ⟨_, rfl, ?_⟩))
        go_ret
        exact ⟨by first | rfl | exact congrArg (fun b => Ending.returned (Value.bool b)) (M.le_less _ _) | (simp [errW_none, errW_some] <;> rfl) | (simp [errW_none, errW_some] <;> exact M.le_less _ _) | (simp [*, errW_none, errW_some] <;> rfl), by repeat (first | (with_reducible first | exact HB.out | apply below_alloc | apply pw_below_drewN | apply below_drew1 | refine below_set ?_ GE219.out) | exact HB.out)⟩
       ·rw [if_neg c9] at H
        have c9b0 : decide ((a0_3.size : Int) ≤ 1000) = false := decide_eq_false c9; have c9b1 : decide (a0_3.size ≤ 1000) = false := decide_eq_false (by omega); clear c9; obtain rfl := Option.some.inj H
        go_enter Try.func37, Try.ntmps37
        go_wp2_with (first | ((with_reducible refine gate_dst (N := 1) rfl ?_); (try (refine gate_guard (by rfl) ?_; dsimp only)); refine box_event ?hg (N := 1) ?hd (cs := #[.int .i64 a0_0, .int .i64 a0_1, .string a0_2, .string a0_3]) (t := 48) ?hr ?_; (case hd => rfl); (case hg => rfl); (case hr => first | (go_simp; done) | (go_simp; rfl)); intro gb219 hg w12 hbox hb; have BK219 := Aside0.mk (hbox); have GW219 := Aside0.mk ((by rw [hg]; exact (below_size (xh HB)) : w.heap.size ≤ gb219)); have GE219 := Aside0.mk ((by rw [hg]; exact (below_size (xh HB)) : w.heap.size ≤ gb219)); replace HB := Aside0.mk (below_step (xh HB) hb); clear hb hbox hg; have hcz13_0 : w12.cell? ⟨gb219, 0, none⟩ = some (.int .i64 a0_0) := (blk_cell BK219.out 0).trans rfl; have hcz13_1 : w12.cell? ⟨gb219, 1, none⟩ = some (.int .i64 a0_1) := (blk_cell BK219.out 1).trans rfl; have hcz13_2 : w12.cell? ⟨gb219, 2, none⟩ = some (.string a0_2) := (blk_cell BK219.out 2).trans rfl; have hcz13_3 : w12.cell? ⟨gb219, 3, none⟩ = some (.string a0_3) := (blk_cell BK219.out 3).trans rfl; have hfz13_0 := blk_frozen BK219.out 0; have hfz13_1 := blk_frozen BK219.out 1; have hfz13_2 := blk_frozen BK219.out 2; have hfz13_3 := blk_frozen BK219.out 3) | ((with_reducible refine gate_callee (f := 36) rfl ?_); refine goesL_ (some 5) rfl rfl Try.func36 (by kernel_rfl) rfl #[.int .i64 a0_0] rfl (by (try simp only [List.map_toArray, List.map_cons, List.map_nil]); first | done | rfl | (simp only [List.length_drop, List.length_take]; rfl)) ?_; (with_reducible refine (impl_numFine.calls a0_0 true _ A2.out).mono ?_); rintro e w' ⟨rfl, ⟨nd, rfl⟩⟩; refine ⟨_, rfl, ?_⟩))
        go_ret
        exact ⟨by first | rfl | exact congrArg (fun b => Ending.returned (Value.bool b)) (M.le_less _ _) | (simp [errW_none, errW_some] <;> rfl) | (simp [errW_none, errW_some] <;> exact M.le_less _ _) | (simp [*, errW_none, errW_some] <;> rfl), by repeat (first | (with_reducible first | exact HB.out | apply below_alloc | apply pw_below_drewN | apply below_drew1 | refine below_set ?_ GE219.out) | exact HB.out)⟩
      ·rw [if_neg c8] at H
       have c8b0 : decide (1 ≤ (a0_3.size : Int)) = false := decide_eq_false c8; have c8b1 : decide (1 ≤ a0_3.size) = false := decide_eq_false (by omega); clear c8; obtain rfl := Option.some.inj H
       go_enter Try.func37, Try.ntmps37
       go_wp2_with (first | ((with_reducible refine gate_dst (N := 1) rfl ?_); (try (refine gate_guard (by rfl) ?_; dsimp only)); refine box_event ?hg (N := 1) ?hd (cs := #[.int .i64 a0_0, .int .i64 a0_1, .string a0_2, .string a0_3]) (t := 48) ?hr ?_; (case hd => rfl); (case hg => rfl); (case hr => first | (go_simp; done) | (go_simp; rfl)); intro gb219 hg w14 hbox hb; have BK219 := Aside0.mk (hbox); have GW219 := Aside0.mk ((by rw [hg]; exact (below_size (xh HB)) : w.heap.size ≤ gb219)); have GE219 := Aside0.mk ((by rw [hg]; exact (below_size (xh HB)) : w.heap.size ≤ gb219)); replace HB := Aside0.mk (below_step (xh HB) hb); clear hb hbox hg; have hcz15_0 : w14.cell? ⟨gb219, 0, none⟩ = some (.int .i64 a0_0) := (blk_cell BK219.out 0).trans rfl; have hcz15_1 : w14.cell? ⟨gb219, 1, none⟩ = some (.int .i64 a0_1) := (blk_cell BK219.out 1).trans rfl; have hcz15_2 : w14.cell? ⟨gb219, 2, none⟩ = some (.string a0_2) := (blk_cell BK219.out 2).trans rfl; have hcz15_3 : w14.cell? ⟨gb219, 3, none⟩ = some (.string a0_3) := (blk_cell BK219.out 3).trans rfl; have hfz15_0 := blk_frozen BK219.out 0; have hfz15_1 := blk_frozen BK219.out 1; have hfz15_2 := blk_frozen BK219.out 2; have hfz15_3 := blk_frozen BK219.out 3) | ((with_reducible refine gate_callee (f := 36) rfl ?_); refine goesL_ (some 5) rfl rfl Try.func36 (by kernel_rfl) rfl #[.int .i64 a0_0] rfl (by (try simp only [List.map_toArray, List.map_cons, List.map_nil]); first | done | rfl | (simp only [List.length_drop, List.length_take]; rfl)) ?_; (with_reducible refine (impl_numFine.calls a0_0 true _ A2.out).mono ?_); rintro e w' ⟨rfl, ⟨nd, rfl⟩⟩; refine ⟨_, rfl, ?_⟩))
       go_ret
       exact ⟨by first | rfl | exact congrArg (fun b => Ending.returned (Value.bool b)) (M.le_less _ _) | (simp [errW_none, errW_some] <;> rfl) | (simp [errW_none, errW_some] <;> exact M.le_less _ _) | (simp [*, errW_none, errW_some] <;> rfl), by repeat (first | (with_reducible first | exact HB.out | apply below_alloc | apply pw_below_drewN | apply below_drew1 | refine below_set ?_ GE219.out) | exact HB.out)⟩
     ·rw [if_neg c7] at H
      have c7b0 : decide ((a0_2.size : Int) ≤ 1000) = false := decide_eq_false c7; have c7b1 : decide (a0_2.size ≤ 1000) = false := decide_eq_false (by omega); clear c7; obtain rfl := Option.some.inj H
      go_enter Try.func37, Try.ntmps37
      go_wp2_with (first | ((with_reducible refine gate_dst (N := 1) rfl ?_); (try (refine gate_guard (by rfl) ?_; dsimp only)); refine box_event ?hg (N := 1) ?hd (cs := #[.int .i64 a0_0, .int .i64 a0_1, .string a0_2, .string a0_3]) (t := 48) ?hr ?_; (case hd => rfl); (case hg => rfl); (case hr => first | (go_simp; done) | (go_simp; rfl)); intro gb219 hg w16 hbox hb; have BK219 := Aside0.mk (hbox); have GW219 := Aside0.mk ((by rw [hg]; exact (below_size (xh HB)) : w.heap.size ≤ gb219)); have GE219 := Aside0.mk ((by rw [hg]; exact (below_size (xh HB)) : w.heap.size ≤ gb219)); replace HB := Aside0.mk (below_step (xh HB) hb); clear hb hbox hg; have hcz17_0 : w16.cell? ⟨gb219, 0, none⟩ = some (.int .i64 a0_0) := (blk_cell BK219.out 0).trans rfl; have hcz17_1 : w16.cell? ⟨gb219, 1, none⟩ = some (.int .i64 a0_1) := (blk_cell BK219.out 1).trans rfl; have hcz17_2 : w16.cell? ⟨gb219, 2, none⟩ = some (.string a0_2) := (blk_cell BK219.out 2).trans rfl; have hcz17_3 : w16.cell? ⟨gb219, 3, none⟩ = some (.string a0_3) := (blk_cell BK219.out 3).trans rfl; have hfz17_0 := blk_frozen BK219.out 0; have hfz17_1 := blk_frozen BK219.out 1; have hfz17_2 := blk_frozen BK219.out 2; have hfz17_3 := blk_frozen BK219.out 3) | ((with_reducible refine gate_callee (f := 36) rfl ?_); refine goesL_ (some 5) rfl rfl Try.func36 (by kernel_rfl) rfl #[.int .i64 a0_0] rfl (by (try simp only [List.map_toArray, List.map_cons, List.map_nil]); first | done | rfl | (simp only [List.length_drop, List.length_take]; rfl)) ?_; (with_reducible refine (impl_numFine.calls a0_0 true _ A2.out).mono ?_); rintro e w' ⟨rfl, ⟨nd, rfl⟩⟩; refine ⟨_, rfl, ?_⟩))
      go_ret
      exact ⟨by first | rfl | exact congrArg (fun b => Ending.returned (Value.bool b)) (M.le_less _ _) | (simp [errW_none, errW_some] <;> rfl) | (simp [errW_none, errW_some] <;> exact M.le_less _ _) | (simp [*, errW_none, errW_some] <;> rfl), by repeat (first | (with_reducible first | exact HB.out | apply below_alloc | apply pw_below_drewN | apply below_drew1 | refine below_set ?_ GE219.out) | exact HB.out)⟩
    ·rw [if_neg c6] at H
     have c6b0 : decide (1 ≤ (a0_2.size : Int)) = false := decide_eq_false c6; have c6b1 : decide (1 ≤ a0_2.size) = false := decide_eq_false (by omega); clear c6; obtain rfl := Option.some.inj H
     go_enter Try.func37, Try.ntmps37
     go_wp2_with (first | ((with_reducible refine gate_dst (N := 1) rfl ?_); (try (refine gate_guard (by rfl) ?_; dsimp only)); refine box_event ?hg (N := 1) ?hd (cs := #[.int .i64 a0_0, .int .i64 a0_1, .string a0_2, .string a0_3]) (t := 48) ?hr ?_; (case hd => rfl); (case hg => rfl); (case hr => first | (go_simp; done) | (go_simp; rfl)); intro gb219 hg w18 hbox hb; have BK219 := Aside0.mk (hbox); have GW219 := Aside0.mk ((by rw [hg]; exact (below_size (xh HB)) : w.heap.size ≤ gb219)); have GE219 := Aside0.mk ((by rw [hg]; exact (below_size (xh HB)) : w.heap.size ≤ gb219)); replace HB := Aside0.mk (below_step (xh HB) hb); clear hb hbox hg; have hcz19_0 : w18.cell? ⟨gb219, 0, none⟩ = some (.int .i64 a0_0) := (blk_cell BK219.out 0).trans rfl; have hcz19_1 : w18.cell? ⟨gb219, 1, none⟩ = some (.int .i64 a0_1) := (blk_cell BK219.out 1).trans rfl; have hcz19_2 : w18.cell? ⟨gb219, 2, none⟩ = some (.string a0_2) := (blk_cell BK219.out 2).trans rfl; have hcz19_3 : w18.cell? ⟨gb219, 3, none⟩ = some (.string a0_3) := (blk_cell BK219.out 3).trans rfl; have hfz19_0 := blk_frozen BK219.out 0; have hfz19_1 := blk_frozen BK219.out 1; have hfz19_2 := blk_frozen BK219.out 2; have hfz19_3 := blk_frozen BK219.out 3) | ((with_reducible refine gate_callee (f := 36) rfl ?_); refine goesL_ (some 5) rfl rfl Try.func36 (by kernel_rfl) rfl #[.int .i64 a0_0] rfl (by (try simp only [List.map_toArray, List.map_cons, List.map_nil]); first | done | rfl | (simp only [List.length_drop, List.length_take]; rfl)) ?_; (with_reducible refine (impl_numFine.calls a0_0 true _ A2.out).mono ?_); rintro e w' ⟨rfl, ⟨nd, rfl⟩⟩; refine ⟨_, rfl, ?_⟩))
     go_ret
     exact ⟨by first | rfl | exact congrArg (fun b => Ending.returned (Value.bool b)) (M.le_less _ _) | (simp [errW_none, errW_some] <;> rfl) | (simp [errW_none, errW_some] <;> exact M.le_less _ _) | (simp [*, errW_none, errW_some] <;> rfl), by repeat (first | (with_reducible first | exact HB.out | apply below_alloc | apply pw_below_drewN | apply below_drew1 | refine below_set ?_ GE219.out) | exact HB.out)⟩
   ·rw [if_neg c5] at H
    have c5b0 : decide (a0_1 ≤ 3) = false := decide_eq_false c5; clear c5; obtain rfl := Option.some.inj H
    go_enter Try.func37, Try.ntmps37
    go_wp2_with (first | ((with_reducible refine gate_dst (N := 1) rfl ?_); (try (refine gate_guard (by rfl) ?_; dsimp only)); refine box_event ?hg (N := 1) ?hd (cs := #[.int .i64 a0_0, .int .i64 a0_1, .string a0_2, .string a0_3]) (t := 48) ?hr ?_; (case hd => rfl); (case hg => rfl); (case hr => first | (go_simp; done) | (go_simp; rfl)); intro gb219 hg w20 hbox hb; have BK219 := Aside0.mk (hbox); have GW219 := Aside0.mk ((by rw [hg]; exact (below_size (xh HB)) : w.heap.size ≤ gb219)); have GE219 := Aside0.mk ((by rw [hg]; exact (below_size (xh HB)) : w.heap.size ≤ gb219)); replace HB := Aside0.mk (below_step (xh HB) hb); clear hb hbox hg; have hcz21_0 : w20.cell? ⟨gb219, 0, none⟩ = some (.int .i64 a0_0) := (blk_cell BK219.out 0).trans rfl; have hcz21_1 : w20.cell? ⟨gb219, 1, none⟩ = some (.int .i64 a0_1) := (blk_cell BK219.out 1).trans rfl; have hcz21_2 : w20.cell? ⟨gb219, 2, none⟩ = some (.string a0_2) := (blk_cell BK219.out 2).trans rfl; have hcz21_3 : w20.cell? ⟨gb219, 3, none⟩ = some (.string a0_3) := (blk_cell BK219.out 3).trans rfl; have hfz21_0 := blk_frozen BK219.out 0; have hfz21_1 := blk_frozen BK219.out 1; have hfz21_2 := blk_frozen BK219.out 2; have hfz21_3 := blk_frozen BK219.out 3) | ((with_reducible refine gate_callee (f := 36) rfl ?_); refine goesL_ (some 5) rfl rfl Try.func36 (by kernel_rfl) rfl #[.int .i64 a0_0] rfl (by (try simp only [List.map_toArray, List.map_cons, List.map_nil]); first | done | rfl | (simp only [List.length_drop, List.length_take]; rfl)) ?_; (with_reducible refine (impl_numFine.calls a0_0 true _ A2.out).mono ?_); rintro e w' ⟨rfl, ⟨nd, rfl⟩⟩; refine ⟨_, rfl, ?_⟩))
    go_ret
    exact ⟨by first | rfl | exact congrArg (fun b => Ending.returned (Value.bool b)) (M.le_less _ _) | (simp [errW_none, errW_some] <;> rfl) | (simp [errW_none, errW_some] <;> exact M.le_less _ _) | (simp [*, errW_none, errW_some] <;> rfl), by repeat (first | (with_reducible first | exact HB.out | apply below_alloc | apply pw_below_drewN | apply below_drew1 | refine below_set ?_ GE219.out) | exact HB.out)⟩
  ·rw [if_neg c4] at H
   have c4b0 : decide (0 ≤ a0_1) = false := decide_eq_false c4; clear c4; obtain rfl := Option.some.inj H
   go_enter Try.func37, Try.ntmps37
   go_wp2_with (first | ((with_reducible refine gate_dst (N := 1) rfl ?_); (try (refine gate_guard (by rfl) ?_; dsimp only)); refine box_event ?hg (N := 1) ?hd (cs := #[.int .i64 a0_0, .int .i64 a0_1, .string a0_2, .string a0_3]) (t := 48) ?hr ?_; (case hd => rfl); (case hg => rfl); (case hr => first | (go_simp; done) | (go_simp; rfl)); intro gb219 hg w22 hbox hb; have BK219 := Aside0.mk (hbox); have GW219 := Aside0.mk ((by rw [hg]; exact (below_size (xh HB)) : w.heap.size ≤ gb219)); have GE219 := Aside0.mk ((by rw [hg]; exact (below_size (xh HB)) : w.heap.size ≤ gb219)); replace HB := Aside0.mk (below_step (xh HB) hb); clear hb hbox hg; have hcz23_0 : w22.cell? ⟨gb219, 0, none⟩ = some (.int .i64 a0_0) := (blk_cell BK219.out 0).trans rfl; have hcz23_1 : w22.cell? ⟨gb219, 1, none⟩ = some (.int .i64 a0_1) := (blk_cell BK219.out 1).trans rfl; have hcz23_2 : w22.cell? ⟨gb219, 2, none⟩ = some (.string a0_2) := (blk_cell BK219.out 2).trans rfl; have hcz23_3 : w22.cell? ⟨gb219, 3, none⟩ = some (.string a0_3) := (blk_cell BK219.out 3).trans rfl; have hfz23_0 := blk_frozen BK219.out 0; have hfz23_1 := blk_frozen BK219.out 1; have hfz23_2 := blk_frozen BK219.out 2; have hfz23_3 := blk_frozen BK219.out 3) | ((with_reducible refine gate_callee (f := 36) rfl ?_); refine goesL_ (some 5) rfl rfl Try.func36 (by kernel_rfl) rfl #[.int .i64 a0_0] rfl (by (try simp only [List.map_toArray, List.map_cons, List.map_nil]); first | done | rfl | (simp only [List.length_drop, List.length_take]; rfl)) ?_; (with_reducible refine (impl_numFine.calls a0_0 true _ A2.out).mono ?_); rintro e w' ⟨rfl, ⟨nd, rfl⟩⟩; refine ⟨_, rfl, ?_⟩))
   go_ret
   exact ⟨by first | rfl | exact congrArg (fun b => Ending.returned (Value.bool b)) (M.le_less _ _) | (simp [errW_none, errW_some] <;> rfl) | (simp [errW_none, errW_some] <;> exact M.le_less _ _) | (simp [*, errW_none, errW_some] <;> rfl), by repeat (first | (with_reducible first | exact HB.out | apply below_alloc | apply pw_below_drewN | apply below_drew1 | refine below_set ?_ GE219.out) | exact HB.out)⟩
 ·replace c3 := Bool.eq_false_iff.mpr c3
  subst c3
  have H1 : (some false) = some r := by rw [if_neg (show ¬ (false = true) by decide)] at H; exact H
  clear H; have H := H1; clear H1; obtain rfl := Option.some.inj H
  go_enter Try.func37, Try.ntmps37
  go_wp2_with (first | ((with_reducible refine gate_dst (N := 1) rfl ?_); (try (refine gate_guard (by rfl) ?_; dsimp only)); refine box_event ?hg (N := 1) ?hd (cs := #[.int .i64 a0_0, .int .i64 a0_1, .string a0_2, .string a0_3]) (t := 48) ?hr ?_; (case hd => rfl); (case hg => rfl); (case hr => first | (go_simp; done) | (go_simp; rfl)); intro gb219 hg w24 hbox hb; have BK219 := Aside0.mk (hbox); have GW219 := Aside0.mk ((by rw [hg]; exact (below_size (xh HB)) : w.heap.size ≤ gb219)); have GE219 := Aside0.mk ((by rw [hg]; exact (below_size (xh HB)) : w.heap.size ≤ gb219)); replace HB := Aside0.mk (below_step (xh HB) hb); clear hb hbox hg; have hcz25_0 : w24.cell? ⟨gb219, 0, none⟩ = some (.int .i64 a0_0) := (blk_cell BK219.out 0).trans rfl; have hcz25_1 : w24.cell? ⟨gb219, 1, none⟩ = some (.int .i64 a0_1) := (blk_cell BK219.out 1).trans rfl; have hcz25_2 : w24.cell? ⟨gb219, 2, none⟩ = some (.string a0_2) := (blk_cell BK219.out 2).trans rfl; have hcz25_3 : w24.cell? ⟨gb219, 3, none⟩ = some (.string a0_3) := (blk_cell BK219.out 3).trans rfl; have hfz25_0 := blk_frozen BK219.out 0; have hfz25_1 := blk_frozen BK219.out 1; have hfz25_2 := blk_frozen BK219.out 2; have hfz25_3 := blk_frozen BK219.out 3) | ((with_reducible refine gate_callee (f := 36) rfl ?_); refine goesL_ (some 5) rfl rfl Try.func36 (by kernel_rfl) rfl #[.int .i64 a0_0] rfl (by (try simp only [List.map_toArray, List.map_cons, List.map_nil]); first | done | rfl | (simp only [List.length_drop, List.length_take]; rfl)) ?_; (with_reducible refine (impl_numFine.calls a0_0 false _ A2.out).mono ?_); rintro e w' ⟨rfl, ⟨nd, rfl⟩⟩; refine ⟨_, rfl, ?_⟩))
  go_ret
  exact ⟨by first | rfl | exact congrArg (fun b => Ending.returned (Value.bool b)) (M.le_less _ _) | (simp [errW_none, errW_some] <;> rfl) | (simp [errW_none, errW_some] <;> exact M.le_less _ _) | (simp [*, errW_none, errW_some] <;> rfl), by repeat (first | (with_reducible first | exact HB.out | apply below_alloc | apply pw_below_drewN | apply below_drew1 | refine below_set ?_ GE219.out) | exact HB.out)⟩
end Go.Proofs.Ytlecpmgdoomngaa.P
end

/- Texts of the claim FnExactNewest, part 26 of 31, joined: P0, MNewest, Pspecl1Less, Pspecl3Before. No condition beyond those that stand at each. -/
import Derived.Test.YtkbhcejibcjglaaProg
import Derived.Below
import Derived.Deep.Draws
import Derived.Deep.AppendLies
import Derived.Maps.AppendAt
import Derived.OwnWalk
import Derived.Laws.BytesArg
import Derived.Laws.MakeOwn
import Derived.Laws.OwnMore
import Derived.Deep.OwnRows
import Derived.Tactics
import Derived.Lib.ConvBytes
import Derived.Laws.Slices
import Derived.WalkKit
import Derived.KernelRfl
import Derived.RowKit3
import Derived.Deep.LoopGhost
import Derived.Deep.QuietTactic
import Derived.BigQuiet
import Derived.WideLaws
import Derived.Deep.DeepCutAuto
import Derived.Deep.CutBlock
import Derived.Deep.RegionHeld3
import Derived.Laws.Rows
import Derived.Lib.AppendStr
import Derived.ArgAppend
import Derived.Laws.IdiomCopy
import Derived.OrdersHeld
import Derived.Laws.BitsLemmas
import Derived.RowKit
import Derived.Test.YtkbhcejibcjglaaZFnExactNewest1
import Derived.Test.YtkbhcejibcjglaaZFnExactNewest2
import Derived.Test.YtkbhcejibcjglaaZFnExactNewest14
import Derived.Test.YtkbhcejibcjglaaZFnExactNewest15
import Derived.Test.YtkbhcejibcjglaaZFnExactNewest3
import Derived.Test.YtkbhcejibcjglaaZFnExactNewest4
import Derived.Test.YtkbhcejibcjglaaZFnExactNewest5
import Derived.Test.YtkbhcejibcjglaaZFnExactNewest6
import Derived.Test.YtkbhcejibcjglaaZFnExactNewest7
import Derived.Test.YtkbhcejibcjglaaZFnExactNewest8
import Derived.Test.YtkbhcejibcjglaaZFnExactNewest9
import Derived.Test.YtkbhcejibcjglaaZFnExactNewest10
import Derived.Test.YtkbhcejibcjglaaZFnExactNewest16
import Derived.Test.YtkbhcejibcjglaaZFnExactNewest17
import Derived.Test.YtkbhcejibcjglaaZFnExactNewest18
import Derived.Test.YtkbhcejibcjglaaZFnExactNewest19
import Derived.Test.YtkbhcejibcjglaaZFnExactNewest20
import Derived.Test.YtkbhcejibcjglaaZFnExactNewest21
import Derived.Test.YtkbhcejibcjglaaZFnExactNewest22
import Derived.Test.YtkbhcejibcjglaaZFnExactNewest11
import Derived.Test.YtkbhcejibcjglaaZFnExactNewest12
import Derived.Test.YtkbhcejibcjglaaZFnExactNewest13
section
-- Written by a changed copy of the print program, one module a function. Not trusted: Lean checks it.
namespace Go.Proofs.Ytkbhcejibcjglaa.P
open Go.RowKit Go.Proofs.YtkbhcejibcjglaaW.PrintWords Go.Proofs.YtkbhcejibcjglaaW.PrintLast Go.Proofs.YtkbhcejibcjglaaW.PrintMore
attribute [local go_sem] max2_int min2_int max_two min_two max_three min_three max_four min_four   -- for this text's walks alone
set_option linter.unusedVariables false
set_option linter.unusedSimpArgs false



def errW : Option Int → Value
 | none => .nilIface
 | some c => .iface 0 (.int .i64 c)
theorem errW_none : errW none = .nilIface := rfl
theorem errW_some (c : Int) : errW (some c) = .iface 0 (.int .i64 c) := rfl

theorem info5 : (Try.prog.info? 5).map (fun i => (i.zero, i.size, i.bytes)) = some (some (.int .u8 0), 1, 1) := by kernel_rfl
theorem info25 : (Try.prog.info? 25).map (fun i => (i.zero, i.size, i.bytes)) = some (some (.slice none 0 0), 1, 24) := by kernel_rfl
theorem info42 : (Try.prog.info? 42).map (fun i => (i.zero, i.size, i.bytes)) = some (some (.agg #[(.string ⟨#[]⟩), (.int .i64 0), (.int .i64 0), (.string ⟨#[]⟩)]), 4, 48) := by kernel_rfl
-- the values' own types
/-! #### struct type 42 -/
structure S42 where
 f0 : ByteArray
 f1 : Int
 f2 : Int
 f3 : ByteArray
def z42 : S42 := ⟨(⟨#[]⟩ : ByteArray), (0 : Int), (0 : Int), (⟨#[]⟩ : ByteArray)⟩
def k42 : Kd S42 := Kd.iso (Kd.pair Kd.string (Kd.pair (Kd.int .i64) (Kd.pair (Kd.int .i64) Kd.string))) (fun x : S42 => (x.f0, x.f1, x.f2, x.f3))
theorem k42_open {w : World} {x : S42} {cs : List Value} (h : k42.K w x cs) : cs = [.string x.f0, .int .i64 x.f1, .int .i64 x.f2, .string x.f3] := by
 obtain ⟨_, _, rfl, rfl, ⟨_, _, rfl, rfl, ⟨_, _, rfl, rfl, rfl⟩⟩⟩ := h
 exact rfl
theorem k42_openM {w : World} {base : Nat} {ok : Nat → Prop} {x : S42} {cs : List Value} (h : k42.M w base ok x cs) : cs = [.string x.f0, .int .i64 x.f1, .int .i64 x.f2, .string x.f3] := by
 obtain ⟨_, _, rfl, rfl, ⟨_, _, rfl, rfl, ⟨_, _, rfl, rfl, rfl⟩⟩⟩ := h
 exact rfl
theorem k42_mk (w : World) (x : S42)  : k42.K w x [.string x.f0, .int .i64 x.f1, .int .i64 x.f2, .string x.f3] := ⟨[.string x.f0], [.int .i64 x.f1, .int .i64 x.f2, .string x.f3], rfl, rfl, ⟨[.int .i64 x.f1], [.int .i64 x.f2, .string x.f3], rfl, rfl, ⟨[.int .i64 x.f2], [.string x.f3], rfl, rfl, rfl⟩⟩⟩
theorem k42_mkM (w : World) (base : Nat) (ok : Nat → Prop) (x : S42)  : k42.M w base ok x [.string x.f0, .int .i64 x.f1, .int .i64 x.f2, .string x.f3] := ⟨[.string x.f0], [.int .i64 x.f1, .int .i64 x.f2, .string x.f3], rfl, rfl, ⟨[.int .i64 x.f1], [.int .i64 x.f2, .string x.f3], rfl, rfl, ⟨[.int .i64 x.f2], [.string x.f3], rfl, rfl, rfl⟩⟩⟩
theorem k42_mkF (W : World) (ok : Nat → Prop) (x : S42) : Kd.FK k42 W ok x [.string x.f0, .int .i64 x.f1, .int .i64 x.f2, .string x.f3] := fun W2 _ => k42_mk W2 x
def rd_T42 (xs : List S42) (i : Int) : S42 := xs.getD i.toNat z42
theorem at_T42 {w : World} {A : Option Addr} {n : Nat} {xs : List S42} (h : Kd.C k42 w A n xs) (i : Int) (h0 : 0 ≤ i) (h1 : i < n) : ∃ ad , A = some ad ∧ w.cell? (ad.add (i.toNat * 4)) = some (.string (rd_T42 xs i).f0) ∧ w.cell? ⟨(ad.add (i.toNat * 4)).block, (ad.add (i.toNat * 4)).off + 1, none⟩ = some (.int .i64 (rd_T42 xs i).f1) ∧ w.cell? ⟨(ad.add (i.toNat * 4)).block, (ad.add (i.toNat * 4)).off + 2, none⟩ = some (.int .i64 (rd_T42 xs i).f2) ∧ w.cell? ⟨(ad.add (i.toNat * 4)).block, (ad.add (i.toNat * 4)).off + 3, none⟩ = some (.string (rd_T42 xs i).f3) := by
 obtain ⟨ad, c, e, _, hK, hc0⟩ := Kd.C_get h z42 i h0 h1
 have hc : ∀ j u, c[j]? = some u → w.cell? (ad.add (i.toNat * 4 + j)) = some u := hc0
 obtain rfl := k42_open hK
 exact ⟨ad, e, hc 0 _ rfl, by rw [← add_field _ _ 1 (by omega)]; exact hc 1 _ rfl, by rw [← add_field _ _ 2 (by omega)]; exact hc 2 _ rfl, by rw [← add_field _ _ 3 (by omega)]; exact hc 3 _ rfl⟩

/-! #### struct type 70 -/
structure S70 where
 f0 : ByteArray
 f1 : Int
 f2 : Int
 f3 : ByteArray
def z70 : S70 := ⟨(⟨#[]⟩ : ByteArray), (0 : Int), (0 : Int), (⟨#[]⟩ : ByteArray)⟩
def k70 : Kd S70 := Kd.iso (Kd.pair Kd.string (Kd.pair (Kd.int .i64) (Kd.pair (Kd.int .i64) Kd.string))) (fun x : S70 => (x.f0, x.f1, x.f2, x.f3))
theorem k70_open {w : World} {x : S70} {cs : List Value} (h : k70.K w x cs) : cs = [.string x.f0, .int .i64 x.f1, .int .i64 x.f2, .string x.f3] := by
 obtain ⟨_, _, rfl, rfl, ⟨_, _, rfl, rfl, ⟨_, _, rfl, rfl, rfl⟩⟩⟩ := h
 exact rfl
theorem k70_openM {w : World} {base : Nat} {ok : Nat → Prop} {x : S70} {cs : List Value} (h : k70.M w base ok x cs) : cs = [.string x.f0, .int .i64 x.f1, .int .i64 x.f2, .string x.f3] := by
 obtain ⟨_, _, rfl, rfl, ⟨_, _, rfl, rfl, ⟨_, _, rfl, rfl, rfl⟩⟩⟩ := h
 exact rfl
theorem k70_mk (w : World) (x : S70)  : k70.K w x [.string x.f0, .int .i64 x.f1, .int .i64 x.f2, .string x.f3] := ⟨[.string x.f0], [.int .i64 x.f1, .int .i64 x.f2, .string x.f3], rfl, rfl, ⟨[.int .i64 x.f1], [.int .i64 x.f2, .string x.f3], rfl, rfl, ⟨[.int .i64 x.f2], [.string x.f3], rfl, rfl, rfl⟩⟩⟩
theorem k70_mkM (w : World) (base : Nat) (ok : Nat → Prop) (x : S70)  : k70.M w base ok x [.string x.f0, .int .i64 x.f1, .int .i64 x.f2, .string x.f3] := ⟨[.string x.f0], [.int .i64 x.f1, .int .i64 x.f2, .string x.f3], rfl, rfl, ⟨[.int .i64 x.f1], [.int .i64 x.f2, .string x.f3], rfl, rfl, ⟨[.int .i64 x.f2], [.string x.f3], rfl, rfl, rfl⟩⟩⟩
theorem k70_mkF (W : World) (ok : Nat → Prop) (x : S70) : Kd.FK k70 W ok x [.string x.f0, .int .i64 x.f1, .int .i64 x.f2, .string x.f3] := fun W2 _ => k70_mk W2 x
def rd_T70 (xs : List S70) (i : Int) : S70 := xs.getD i.toNat z70
theorem at_T70 {w : World} {A : Option Addr} {n : Nat} {xs : List S70} (h : Kd.C k70 w A n xs) (i : Int) (h0 : 0 ≤ i) (h1 : i < n) : ∃ ad , A = some ad ∧ w.cell? (ad.add (i.toNat * 4)) = some (.string (rd_T70 xs i).f0) ∧ w.cell? ⟨(ad.add (i.toNat * 4)).block, (ad.add (i.toNat * 4)).off + 1, none⟩ = some (.int .i64 (rd_T70 xs i).f1) ∧ w.cell? ⟨(ad.add (i.toNat * 4)).block, (ad.add (i.toNat * 4)).off + 2, none⟩ = some (.int .i64 (rd_T70 xs i).f2) ∧ w.cell? ⟨(ad.add (i.toNat * 4)).block, (ad.add (i.toNat * 4)).off + 3, none⟩ = some (.string (rd_T70 xs i).f3) := by
 obtain ⟨ad, c, e, _, hK, hc0⟩ := Kd.C_get h z70 i h0 h1
 have hc : ∀ j u, c[j]? = some u → w.cell? (ad.add (i.toNat * 4 + j)) = some u := hc0
 obtain rfl := k70_open hK
 exact ⟨ad, e, hc 0 _ rfl, by rw [← add_field _ _ 1 (by omega)]; exact hc 1 _ rfl, by rw [← add_field _ _ 2 (by omega)]; exact hc 2 _ rfl, by rw [← add_field _ _ 3 (by omega)]; exact hc 3 _ rfl⟩

def rd_L4 (xs : List (List S70)) (i : Int) : (List S70) := xs.getD i.toNat ([] : List S70)
theorem at_L4 {w : World} {A : Option Addr} {n : Nat} {xs : List (List S70)} (h : Kd.C (Kd.slice 70 k70) w A n xs) (i : Int) (h0 : 0 ≤ i) (h1 : i < n) : ∃ ad A0 c0, A = some ad ∧ w.cell? (ad.add i.toNat) = some (.slice A0 (rd_L4 xs i).length c0) ∧ (rd_L4 xs i).length ≤ c0 ∧ k70.C w A0 (rd_L4 xs i).length (rd_L4 xs i) := by
 obtain ⟨ad, c, e, _, hK, hc0⟩ := Kd.C_get h ([] : List S70) i h0 h1
 have hc : ∀ j u, c[j]? = some u → w.cell? (ad.add (i.toNat * 1 + j)) = some u := hc0
 obtain ⟨A0, c0, rfl, l0, g0⟩ := hK
 exact ⟨ad, A0, c0, e, by have hq := hc 0 _ rfl; rwa [Nat.mul_one, Nat.add_zero] at hq, l0, g0⟩

def rd_L5 (xs : List (List S42)) (i : Int) : (List S42) := xs.getD i.toNat ([] : List S42)
theorem at_L5 {w : World} {A : Option Addr} {n : Nat} {xs : List (List S42)} (h : Kd.C (Kd.slice 42 k42) w A n xs) (i : Int) (h0 : 0 ≤ i) (h1 : i < n) : ∃ ad A0 c0, A = some ad ∧ w.cell? (ad.add i.toNat) = some (.slice A0 (rd_L5 xs i).length c0) ∧ (rd_L5 xs i).length ≤ c0 ∧ k42.C w A0 (rd_L5 xs i).length (rd_L5 xs i) := by
 obtain ⟨ad, c, e, _, hK, hc0⟩ := Kd.C_get h ([] : List S42) i h0 h1
 have hc : ∀ j u, c[j]? = some u → w.cell? (ad.add (i.toNat * 1 + j)) = some u := hc0
 obtain ⟨A0, c0, rfl, l0, g0⟩ := hK
 exact ⟨ad, A0, c0, e, by have hq := hc 0 _ rfl; rwa [Nat.mul_one, Nat.add_zero] at hq, l0, g0⟩

end Go.Proofs.Ytkbhcejibcjglaa.P
end
section
/- Newest, in plain words: of each key the entry with the greatest Seq, the first of those; in order. No condition. -/
namespace Go.Proofs.Ytkbhcejibcjglaa.M
open Go.RowKit Go.Proofs.Ytkbhcejibcjglaa.P
set_option linter.unusedVariables false
/-- One entry more of a key: the later one only where its Seq is greater. -/
def pick (o : Option S42) (e : S42) : Option S42 :=
  match o with
  | none => some e
  | some x => if x.f1 < e.f1 then some e else some x
open Classical in
noncomputable def ofKey (k : ByteArray) (l : List S42) : List S42 := l.filter fun e => decide (e.f0 = k)
/-- Of a key the entry with the greatest Seq, the first of those. -/
noncomputable def best (all : List S42) (k : ByteArray) : Option S42 := (ofKey k all).foldl pick none
theorem best_snoc (all : List S42) (e : S42) (k : ByteArray) : best (all ++ [e]) k = if e.f0 = k then pick (best all k) e else best all k := by
  unfold best ofKey
  rw [List.filter_append, List.foldl_append]
  by_cases c : e.f0 = k
  · rw [if_pos c]
    simp [c]
  · rw [if_neg c]
    simp [c]
theorem best_nil (k : ByteArray) : best [] k = none := rfl
theorem mem_ofKey {k : ByteArray} {l : List S42} {e : S42} : e ∈ ofKey k l ↔ e ∈ l ∧ e.f0 = k := by
  unfold ofKey
  simp
/-- l3Before. -/
def bef (a b : S42) : Bool := if a.f0 = b.f0 then decide (b.f1 < a.f1) else lss a.f0 b.f0
theorem bef_same {a b : S42} (h : a.f0 = b.f0) : bef a b = decide (b.f1 < a.f1) := if_pos h
theorem bef_other {a b : S42} (h : ¬ a.f0 = b.f0) : bef a b = lss a.f0 b.f0 := if_neg h
theorem bef_irrefl (a : S42) : bef a a = false := by rw [bef_same rfl]; simp
/-- 'a need not stand behind b' is transitive. -/
theorem nbef_trans {a b c : S42} (h1 : bef b a = false) (h2 : bef c b = false) : bef c a = false := by
  by_cases hab : b.f0 = a.f0
  · by_cases hbc : c.f0 = b.f0
    · rw [bef_same hab] at h1
      rw [bef_same hbc] at h2
      rw [bef_same (hbc.trans hab)]
      simp at *
      omega
    · rw [bef_other hbc] at h2
      rw [bef_other (by rw [← hab]; exact hbc), ← hab]
      exact h2
  · rw [bef_other hab] at h1
    by_cases hbc : c.f0 = b.f0
    · rw [bef_other (by rw [hbc]; exact hab), hbc]
      exact h1
    · rw [bef_other hbc] at h2
      have e1 : lss a.f0 b.f0 = true := by
        cases h : lss a.f0 b.f0 with
        | true => rfl
        | false => exact absurd (lss_total h1 h) hab
      have e2 : lss b.f0 c.f0 = true := by
        cases h : lss b.f0 c.f0 with
        | true => rfl
        | false => exact absurd (lss_total h2 h) hbc
      have e3 := lss_trans e1 e2
      have hne : ¬ c.f0 = a.f0 := by
        intro h
        rw [h, lss_irrefl] at e3
        cases e3
      rw [bef_other hne]
      exact lss_asymm e3
theorem nbef_of_bef {a b : S42} (h : bef a b = true) : bef b a = false := by
  by_cases c : a.f0 = b.f0
  · rw [bef_same c] at h
    rw [bef_same c.symm]
    simp at *
    omega
  · rw [bef_other c] at h
    rw [bef_other (fun e => c e.symm)]
    exact lss_asymm h
/-- l3Half. -/
def half : List S42 → List S42 → List S42
  | [], b => b
  | x :: a, [] => x :: a
  | x :: a, y :: b => if bef y x = false then x :: half a (y :: b) else y :: half (x :: a) b
termination_by a b => a.length + b.length
theorem half_nil_left (b : List S42) : half [] b = b := by unfold half; rfl
theorem half_nil_right (a : List S42) : half a [] = a := by cases a <;> (unfold half; rfl)
theorem half_left {x y : S42} (a b : List S42) (h : bef y x = false) : half (x :: a) (y :: b) = x :: half a (y :: b) := by
  rw [half, if_pos h]
theorem half_right {x y : S42} (a b : List S42) (h : bef y x = true) : half (x :: a) (y :: b) = y :: half (x :: a) b := by
  rw [half, if_neg (by rw [h]; simp)]
theorem half_mem (a b : List S42) : ∀ z, z ∈ half a b ↔ z ∈ a ∨ z ∈ b := by
  induction a, b using half.induct with
  | case1 b => intro z; rw [half_nil_left]; simp
  | case2 x a => intro z; rw [half_nil_right]; simp
  | case3 x a y b h ih => intro z; rw [half_left a b h, List.mem_cons, ih]; simp [or_assoc]
  | case4 x a y b h ih =>
    intro z
    rw [half_right a b (by simpa using h), List.mem_cons, ih]
    simp only [List.mem_cons]
    constructor
    · rintro (h | (h | h) | h) <;> simp [h]
    · rintro ((h | h) | (h | h)) <;> simp [h]
def InOrder (l : List S42) : Prop := l.Pairwise fun x y => bef y x = false
theorem half_order (a b : List S42) : InOrder a → InOrder b → InOrder (half a b) := by
  induction a, b using half.induct with
  | case1 b => intro _ hb; rw [half_nil_left]; exact hb
  | case2 x a => intro ha _; rw [half_nil_right]; exact ha
  | case3 x a y b h ih =>
    intro ha hb
    rw [half_left a b h]
    have ha' := List.pairwise_cons.1 ha
    refine List.pairwise_cons.2 ⟨fun z hz => ?_, ih ha'.2 hb⟩
    rcases (half_mem a (y :: b) z).1 hz with hz | hz
    · exact ha'.1 z hz
    · rcases List.mem_cons.1 hz with rfl | hz
      · exact h
      · exact nbef_trans h ((List.pairwise_cons.1 hb).1 z hz)
  | case4 x a y b h ih =>
    intro ha hb
    have h' : bef y x = true := by simpa using h
    rw [half_right a b h']
    have hb' := List.pairwise_cons.1 hb
    refine List.pairwise_cons.2 ⟨fun z hz => ?_, ih ha hb'.2⟩
    rcases (half_mem (x :: a) b z).1 hz with hz | hz
    · rcases List.mem_cons.1 hz with rfl | hz
      · exact nbef_of_bef h'
      · exact nbef_trans (nbef_of_bef h') ((List.pairwise_cons.1 ha).1 z hz)
    · exact hb'.1 z hz
open Classical in
/-- The entries of one key and one Seq, as they stand. -/
noncomputable def ofBoth (k : ByteArray) (s : Int) (l : List S42) : List S42 := l.filter fun e => decide (e.f0 = k ∧ e.f1 = s)
theorem ofBoth_append (k : ByteArray) (s : Int) (a b : List S42) : ofBoth k s (a ++ b) = ofBoth k s a ++ ofBoth k s b := List.filter_append ..
theorem ofBoth_cons (k : ByteArray) (s : Int) (x : S42) (a : List S42) : ofBoth k s (x :: a) = ofBoth k s [x] ++ ofBoth k s a := by
  rw [← ofBoth_append]; rfl
theorem mem_ofBoth {k : ByteArray} {s : Int} {l : List S42} {e : S42} : e ∈ ofBoth k s l ↔ e ∈ l ∧ e.f0 = k ∧ e.f1 = s := by
  unfold ofBoth
  simp
theorem half_both (k : ByteArray) (s : Int) (a b : List S42) : InOrder a → InOrder b → ofBoth k s (half a b) = ofBoth k s a ++ ofBoth k s b := by
  induction a, b using half.induct with
  | case1 b => intro _ hb; rw [half_nil_left]; rfl
  | case2 x a => intro ha _; rw [half_nil_right]; exact (List.append_nil _).symm
  | case3 x a y b h ih =>
    intro ha hb
    rw [half_left a b h, ofBoth_cons, ih (List.pairwise_cons.1 ha).2 hb, ofBoth_cons k s x a, List.append_assoc]
  | case4 x a y b h ih =>
    intro ha hb
    have h' : bef y x = true := by simpa using h
    rw [half_right a b h', ofBoth_cons, ih ha (List.pairwise_cons.1 hb).2, ofBoth_cons k s y b]
    by_cases c : y.f0 = k ∧ y.f1 = s
    · have e : ofBoth k s (x :: a) = [] := by
        rw [List.eq_nil_iff_forall_not_mem]
        intro z hz
        have hz := mem_ofBoth.1 hz
        have h1 : bef z x = true := by
          have : bef z x = bef y x := by unfold bef; rw [hz.2.1, hz.2.2, c.1, c.2]
          rw [this]; exact h'
        rcases List.mem_cons.1 hz.1 with rfl | hm
        · rw [bef_irrefl] at h1; cases h1
        · rw [(List.pairwise_cons.1 ha).1 z hm] at h1; cases h1
      rw [e]
      simp
    · have e : ofBoth k s [y] = [] := by
        rw [List.eq_nil_iff_forall_not_mem]
        intro z hz
        have hz := mem_ofBoth.1 hz
        rcases List.mem_cons.1 hz.1 with rfl | hm
        · exact c hz.2
        · cases hm
      rw [e]
      simp
/-- l3Order. -/
def order (l : List S42) : List S42 :=
  if h : l.length < 2 then l else half (order (l.take (l.length / 2))) (order (l.drop (l.length / 2)))
termination_by l.length
decreasing_by
  · rw [List.length_take]; omega
  · rw [List.length_drop]; omega
theorem order_small {l : List S42} (h : l.length < 2) : order l = l := by rw [order, dif_pos h]
theorem order_big {l : List S42} (h : ¬ l.length < 2) : order l = half (order (l.take (l.length / 2))) (order (l.drop (l.length / 2))) := by rw [order, dif_neg h]
theorem order_in (l : List S42) : InOrder (order l) := by
  induction l using order.induct with
  | case1 l h =>
    rw [order_small h]
    match l, h with
    | [], _ => exact List.Pairwise.nil
    | [x], _ => exact List.pairwise_singleton _ _
    | x :: y :: r, h => simp at h; omega
  | case2 l h ih1 ih2 => rw [order_big h]; exact half_order _ _ ih1 ih2
theorem order_both (k : ByteArray) (s : Int) (l : List S42) : ofBoth k s (order l) = ofBoth k s l := by
  induction l using order.induct with
  | case1 l h => rw [order_small h]
  | case2 l h ih1 ih2 =>
    rw [order_big h, half_both k s _ _ (order_in _) (order_in _), ih1, ih2, ← ofBoth_append, List.take_append_drop]
theorem order_mem (l : List S42) (z : S42) : z ∈ order l ↔ z ∈ l := by
  have h : ∀ l' : List S42, z ∈ l' ↔ z ∈ ofBoth z.f0 z.f1 l' := fun l' => ⟨fun h => mem_ofBoth.2 ⟨h, rfl, rfl⟩, fun h => (mem_ofBoth.1 h).1⟩
  rw [h, order_both, ← h]
theorem half_length (a b : List S42) : (half a b).length = a.length + b.length := by
  induction a, b using half.induct with
  | case1 b => rw [half_nil_left]; simp
  | case2 x a => rw [half_nil_right]; simp
  | case3 x a y b h ih => rw [half_left a b h]; simp only [List.length_cons] at *; omega
  | case4 x a y b h ih => rw [half_right a b (by simpa using h)]; simp only [List.length_cons] at *; omega
theorem order_length (l : List S42) : (order l).length = l.length := by
  induction l using order.induct with
  | case1 l h => rw [order_small h]
  | case2 l h ih1 ih2 => rw [order_big h, half_length, ih1, ih2, List.length_take, List.length_drop]; omega
/-- Of each key the first. -/
def firsts : Option ByteArray → List S42 → List S42
  | _, [] => []
  | p, x :: l => if p = some x.f0 then firsts (some x.f0) l else x :: firsts (some x.f0) l
theorem firsts_same {x : S42} (l : List S42) : firsts (some x.f0) (x :: l) = firsts (some x.f0) l := by rw [firsts, if_pos rfl]
theorem firsts_other {p : Option ByteArray} {x : S42} (l : List S42) (h : ¬ p = some x.f0) : firsts p (x :: l) = x :: firsts (some x.f0) l := by rw [firsts, if_neg h]
/-- The first entry of a key. -/
noncomputable def first (k : ByteArray) (l : List S42) : Option S42 := (ofKey k l).head?
theorem first_cons_same (x : S42) (l : List S42) : first x.f0 (x :: l) = some x := by unfold first ofKey; simp
theorem first_cons_other {k : ByteArray} {x : S42} (l : List S42) (h : ¬ x.f0 = k) : first k (x :: l) = first k l := by unfold first ofKey; simp [h]
theorem first_mem {k : ByteArray} {l : List S42} {x : S42} (h : first k l = some x) : x ∈ l ∧ x.f0 = k := by
  unfold first at h
  exact mem_ofKey.1 (List.mem_of_head? h)
theorem order_key {x y : S42} (h : bef y x = false) (hne : ¬ x.f0 = y.f0) : lss x.f0 y.f0 = true := by
  rw [bef_other (fun e => hne e.symm)] at h
  cases c : lss x.f0 y.f0 with
  | true => rfl
  | false => exact absurd (lss_total c h) hne
theorem firsts_mem : ∀ (l : List S42) (p : Option ByteArray), InOrder l → (∀ k, p = some k → ∀ z ∈ l, lss z.f0 k = false) → ∀ x, x ∈ firsts p l ↔ ¬ p = some x.f0 ∧ first x.f0 l = some x := by
  intro l
  induction l with
  | nil => intro p _ _ x; simp [firsts, first, ofKey]
  | cons y l ih =>
    intro p ho hp x
    have ho' := List.pairwise_cons.1 ho
    have hy : ∀ k, some y.f0 = some k → ∀ z ∈ l, lss z.f0 k = false := by
      intro k hk z hz
      obtain rfl := Option.some.inj hk
      by_cases c : y.f0 = z.f0
      · rw [c, lss_irrefl]
      · exact lss_asymm (order_key (ho'.1 z hz) c)
    have ih' := ih (some y.f0) ho'.2 hy x
    by_cases c : p = some y.f0
    · subst c
      rw [firsts_same, ih']
      constructor
      · rintro ⟨h1, h2⟩
        exact ⟨h1, by rw [first_cons_other l (fun e => h1 (by rw [e]))]; exact h2⟩
      · rintro ⟨h1, h2⟩
        exact ⟨h1, by rw [first_cons_other l (fun e => h1 (by rw [e]))] at h2; exact h2⟩
    · rw [firsts_other l c, List.mem_cons, ih']
      constructor
      · rintro (rfl | ⟨h1, h2⟩)
        · exact ⟨c, first_cons_same _ _⟩
        · have hne : ¬ y.f0 = x.f0 := fun e => h1 (by rw [e])
          refine ⟨fun e => ?_, by rw [first_cons_other l hne]; exact h2⟩
          have h3 := hp x.f0 e y List.mem_cons_self
          have h4 := order_key (ho'.1 x (first_mem h2).1) hne
          rw [h4] at h3
          cases h3
      · rintro ⟨h1, h2⟩
        by_cases e : y.f0 = x.f0
        · rw [← e, first_cons_same] at h2
          exact .inl (Option.some.inj h2).symm
        · exact .inr ⟨fun h => e (Option.some.inj h), by rw [first_cons_other l e] at h2; exact h2⟩
theorem firsts_order : ∀ (l : List S42) (p : Option ByteArray), InOrder l → (∀ k, p = some k → ∀ z ∈ l, lss z.f0 k = false) → (firsts p l).Pairwise fun x y => lss x.f0 y.f0 = true := by
  intro l
  induction l with
  | nil => intro p _ _; exact List.Pairwise.nil
  | cons y l ih =>
    intro p ho hp
    have ho' := List.pairwise_cons.1 ho
    have hy : ∀ k, some y.f0 = some k → ∀ z ∈ l, lss z.f0 k = false := by
      intro k hk z hz
      obtain rfl := Option.some.inj hk
      by_cases c : y.f0 = z.f0
      · rw [c, lss_irrefl]
      · exact lss_asymm (order_key (ho'.1 z hz) c)
    have ih' := ih (some y.f0) ho'.2 hy
    by_cases c : p = some y.f0
    · subst c
      rw [firsts_same]
      exact ih'
    · rw [firsts_other l c]
      refine List.pairwise_cons.2 ⟨fun z hz => ?_, ih'⟩
      have hz := (firsts_mem l (some y.f0) ho'.2 hy z).1 hz
      exact order_key (ho'.1 z (first_mem hz.2).1) (fun e => hz.1 (by rw [e]))
open Classical in
theorem best_told : ∀ n : Nat, ∀ l : List S42, l.length = n → l ≠ [] → ∃ x, l.foldl pick none = some x ∧ (∀ y ∈ l, y.f1 ≤ x.f1) ∧ (l.filter fun e => decide (e.f1 = x.f1)).head? = some x := by
  intro n
  induction n with
  | zero => intro l hl hne; exact absurd (List.length_eq_zero_iff.1 hl) hne
  | succ n ih =>
    intro l hl hne
    obtain ⟨l', e, rfl⟩ : ∃ l' e, l = l' ++ [e] := ⟨l.dropLast, l.getLast hne, (List.dropLast_concat_getLast hne).symm⟩
    rw [List.foldl_append]
    by_cases c : l' = []
    · subst c
      exact ⟨e, rfl, fun y hy => by simp at hy; rw [hy]; exact Int.le_refl _, by simp⟩
    · obtain ⟨x, h1, h2, h3⟩ := ih l' (by simp at hl; exact hl) c
      rw [h1]
      show ∃ z, pick (some x) e = some z ∧ _
      unfold pick
      by_cases d : x.f1 < e.f1
      · refine ⟨e, if_pos d, fun y hy => ?_, ?_⟩
        · rcases List.mem_append.1 hy with hy | hy
          · have := h2 y hy; omega
          · simp at hy; rw [hy]; exact Int.le_refl _
        · rw [List.filter_append]
          have : l'.filter (fun z => decide (z.f1 = e.f1)) = [] := by
            rw [List.eq_nil_iff_forall_not_mem]
            intro z hz
            simp at hz
            have := h2 z hz.1
            omega
          rw [this]
          simp
      · refine ⟨x, if_neg d, fun y hy => ?_, ?_⟩
        · rcases List.mem_append.1 hy with hy | hy
          · exact h2 y hy
          · simp at hy; rw [hy]; omega
        · rw [List.filter_append, List.head?_append, h3]
          rfl
open Classical in
theorem best_iff (l : List S42) (k : ByteArray) : best l k = first k (order l) := by
  by_cases c : ofKey k l = []
  · have e : ofKey k (order l) = [] := by
      rw [List.eq_nil_iff_forall_not_mem] at c ⊢
      intro z hz
      have hz := mem_ofKey.1 hz
      exact c z (mem_ofKey.2 ⟨(order_mem l z).1 hz.1, hz.2⟩)
    unfold best first
    rw [c, e]
    rfl
  · obtain ⟨x, h1, h2, h3⟩ := best_told _ (ofKey k l) rfl c
    unfold best
    rw [h1]
    have hx := mem_ofKey.1 (List.mem_filter.1 (List.mem_of_head? h3)).1
    -- the first of the key in order
    have hs : (ofKey k (order l)).Pairwise fun a b => b.f1 ≤ a.f1 := by
      have h := (order_in l).filter (fun e => decide (e.f0 = k))
      refine List.Pairwise.imp_of_mem ?_ h
      intro a b ha hb hab
      have ha := (mem_ofKey.1 ha).2
      have hb := (mem_ofKey.1 hb).2
      rw [bef_same (hb.trans ha.symm)] at hab
      simpa using hab
    cases hM : ofKey k (order l) with
    | nil =>
      have : x ∈ ofKey k (order l) := mem_ofKey.2 ⟨(order_mem l x).2 hx.1, hx.2⟩
      rw [hM] at this
      cases this
    | cons z r =>
      unfold first
      rw [hM]
      show some x = some z
      have hz := mem_ofKey.1 (show z ∈ ofKey k (order l) by rw [hM]; exact List.mem_cons_self)
      have hzl : z ∈ ofKey k l := mem_ofKey.2 ⟨(order_mem l z).1 hz.1, hz.2⟩
      have h4 := h2 z hzl
      have h5 : x.f1 ≤ z.f1 := by
        have hxm : x ∈ ofKey k (order l) := mem_ofKey.2 ⟨(order_mem l x).2 hx.1, hx.2⟩
        rw [hM] at hxm hs
        rcases List.mem_cons.1 hxm with h | h
        · rw [h]; exact Int.le_refl _
        · exact (List.pairwise_cons.1 hs).1 x h
      have e1 : z.f1 = x.f1 := by omega
      have e2 : ∀ l' : List S42, ofBoth k x.f1 l' = (ofKey k l').filter fun e => decide (e.f1 = x.f1) := by
        intro l'
        unfold ofBoth ofKey
        rw [List.filter_filter]
        refine List.filter_congr fun a _ => ?_
        by_cases c1 : a.f0 = k <;> by_cases c2 : a.f1 = x.f1 <;> simp [c1, c2]
      have e3 := order_both k x.f1 l
      rw [e2, e2, hM] at e3
      have e4 : ((z :: r).filter fun e => decide (e.f1 = x.f1)).head? = some z := by simp [e1]
      rw [e3, h3] at e4
      exact e4
/-- spec.Newest. -/
def newest (l : List S42) : List S42 := firsts none (order l)
theorem newest_mem (l : List S42) (x : S42) : x ∈ newest l ↔ best l x.f0 = some x := by
  unfold newest
  rw [firsts_mem _ _ (order_in l) (fun k h => by cases h), best_iff]
  simp
theorem newest_sorted (l : List S42) : (newest l).Pairwise fun x y => lss x.f0 y.f0 = true := firsts_order _ _ (order_in l) (fun k h => by cases h)
theorem sorted_same : ∀ (a b : List S42), a.Pairwise (fun x y => lss x.f0 y.f0 = true) → b.Pairwise (fun x y => lss x.f0 y.f0 = true) → (∀ x, x ∈ a ↔ x ∈ b) → a = b := by
  intro a
  induction a with
  | nil =>
    intro b _ _ h
    cases b with
    | nil => rfl
    | cons y b => exact absurd ((h y).2 List.mem_cons_self) (by simp)
  | cons x a ih =>
    intro b ha hb h
    cases b with
    | nil => exact absurd ((h x).1 List.mem_cons_self) (by simp)
    | cons y b =>
      have ha' := List.pairwise_cons.1 ha
      have hb' := List.pairwise_cons.1 hb
      have hxy : x = y := by
        rcases List.mem_cons.1 ((h x).1 List.mem_cons_self) with e | e
        · exact e
        · rcases List.mem_cons.1 ((h y).2 List.mem_cons_self) with e' | e'
          · exact e'.symm
          · have := lss_trans (ha'.1 y e') (hb'.1 x e)
            rw [lss_irrefl] at this
            cases this
      subst hxy
      refine congrArg (x :: ·) (ih b ha'.2 hb'.2 fun z => ?_)
      have hz := h z
      constructor
      · intro hm
        rcases List.mem_cons.1 (hz.1 (List.mem_cons_of_mem _ hm)) with e | e
        · subst e
          have := ha'.1 z hm
          rw [lss_irrefl] at this
          cases this
        · exact e
      · intro hm
        rcases List.mem_cons.1 (hz.2 (List.mem_cons_of_mem _ hm)) with e | e
        · subst e
          have := hb'.1 z hm
          rw [lss_irrefl] at this
          cases this
        · exact e
/-- What a map of the best holds, sorted by key, is what Newest tells. -/
theorem newest_of (l xs : List S42) (hs : xs.Pairwise fun x y => lss x.f0 y.f0 = true) (hm : ∀ x, x ∈ xs ↔ best l x.f0 = some x) : xs = newest l :=
  sorted_same _ _ hs (newest_sorted l) fun x => (hm x).trans (newest_mem l x).symm
theorem best_key {l : List S42} {k : ByteArray} {x : S42} (h : best l k = some x) : x ∈ l ∧ x.f0 = k := by
  rw [best_iff] at h
  have := first_mem h
  exact ⟨(order_mem l x).1 this.1, this.2⟩
end Go.Proofs.Ytkbhcejibcjglaa.M
end
section
-- Written by a changed copy of the print program, one module a function. Not trusted: Lean checks it.
namespace Go.Proofs.Ytkbhcejibcjglaa.P
open Go.RowKit Go.Proofs.YtkbhcejibcjglaaW.PrintWords Go.Proofs.YtkbhcejibcjglaaW.PrintLast Go.Proofs.YtkbhcejibcjglaaW.PrintMore
attribute [local go_sem] max2_int min2_int max_two min_two max_three min_three max_four min_four   -- for this text's walks alone
set_option linter.unusedVariables false
set_option linter.unusedSimpArgs false

/-! ### spec_l1Less: function 58 -/
mutual
def spec_l1Less.l0 : Nat → ByteArray → ByteArray → Int → Option (Bool)
 | 0, _, _, _ => none
 | k + 1, x0, x1, x5 => if x5 < (x0.size : Int) then (spec_l1Less.j1 k x0 x1 x5 (decide (x5 < (x1.size : Int)))) else (spec_l1Less.j1 k x0 x1 x5 false)
def spec_l1Less.j1 : Nat → ByteArray → ByteArray → Int → Bool → Option (Bool)
 | 0, _, _, _, _ => none
 | k + 1, x0, x1, x5, x15 => if x15 = true then (if 0 ≤ x5 then (if x5 < (x0.size : Int) then (if x5 < (x1.size : Int) then (if (bt x0 x5) = (bt x1 x5) then (spec_l1Less.l0 k x0 x1 (wrap64 (x5 + 1))) else (some (decide ((bt x0 x5) < (bt x1 x5))))) else (none)) else (none)) else (none)) else (some (decide ((x0.size : Int) < (x1.size : Int))))
end
def spec_l1Less.f (k : Nat) (a0 : ByteArray) (a1 : ByteArray) : Option (Bool) := spec_l1Less.l0 k a0 a1 0
theorem spec_l1Less.mono_l : ∀ k, (∀ y0 y1 y2, LeO (spec_l1Less.l0 k y0 y1 y2) (spec_l1Less.l0 (k + 1) y0 y1 y2)) ∧ (∀ y0 y1 y2 y3, LeO (spec_l1Less.j1 k y0 y1 y2 y3) (spec_l1Less.j1 (k + 1) y0 y1 y2 y3))
 | 0 => ⟨fun _ _ _ r h => by simp [spec_l1Less.l0] at h, fun _ _ _ _ r h => by simp [spec_l1Less.j1] at h⟩
 | k + 1 => by
  obtain ⟨ih0, ih1⟩ := spec_l1Less.mono_l k
  refine ⟨?_, ?_⟩
  ·intro y0 y1 y2
   unfold spec_l1Less.l0
   repeat' first
   | (with_reducible exact ih0 _ _ _)
   | (with_reducible exact ih1 _ _ _ _)
   | (with_reducible exact LeO.refl _)
   | (with_reducible exact LeO.none _)
   | (with_reducible refine LeO.ite ?_ ?_)
   | (with_reducible refine LeO.bind ?_ (fun _ => ?_))
   | exact ih0 _ _ _
   | exact ih1 _ _ _ _
   | exact LeO.none _
   | refine LeO.ite ?_ ?_
   | refine LeO.bind ?_ (fun _ => ?_)
  ·intro y0 y1 y2 y3
   unfold spec_l1Less.j1
   repeat' first
   | (with_reducible exact ih0 _ _ _)
   | (with_reducible exact ih1 _ _ _ _)
   | (with_reducible exact LeO.refl _)
   | (with_reducible exact LeO.none _)
   | (with_reducible refine LeO.ite ?_ ?_)
   | (with_reducible refine LeO.bind ?_ (fun _ => ?_))
   | exact ih0 _ _ _
   | exact ih1 _ _ _ _
   | exact LeO.none _
   | refine LeO.ite ?_ ?_
   | refine LeO.bind ?_ (fun _ => ?_)
theorem spec_l1Less.mono : ∀ a0 a1 k, LeO (spec_l1Less.f k a0 a1) (spec_l1Less.f (k + 1) a0 a1) := by
 intro a0 a1 k
 obtain ⟨ih0, ih1⟩ := spec_l1Less.mono_l k
 unfold spec_l1Less.f
 repeat' first
   | (with_reducible exact ih0 _ _ _)
   | (with_reducible exact ih1 _ _ _ _)
   | (with_reducible exact LeO.refl _)
   | (with_reducible exact LeO.none _)
   | (with_reducible refine LeO.ite ?_ ?_)
   | (with_reducible refine LeO.bind ?_ (fun _ => ?_))
   | exact ih0 _ _ _
   | exact ih1 _ _ _ _
   | exact LeO.none _
   | refine LeO.ite ?_ ?_
   | refine LeO.bind ?_ (fun _ => ?_)
set_option maxHeartbeats 8000000 in
set_option maxRecDepth 100000 in
theorem spec_l1Less.calls (k : Nat) (a0 : ByteArray) (a1 : ByteArray) (r : Bool) (w : World) (h : spec_l1Less.f k a0 a1 = some r) :
  Calls Try.prog 58 #[.string a0, .string a1] w fun e w' => e = .returned (.bool r) ∧ Drawn0 w w' := by
 have H : (spec_l1Less.l0 k a0 a1 0) = some r := h
 clear h
 have H' := Aside0.mk H
 clear H
 go_enter Try.func58, Try.ntmps58
 go_wp2
 repeat (go_quiet (fail); try go_wp2)
 go_loopg [5] k (fun kq v5 w' => ∃ (x5_1 : Int), v5 = .int .i64 x5_1 ∧ Aside0 (spec_l1Less.l0 kq a0 a1 x5_1 = some r) ∧ Aside0 (kq ≤ k) ∧ Drawn0 w w')
 case atStart => exact ⟨(0), (by first | rfl | (simp; done) | (simp [*]; done)), H', ⟨Nat.le_refl _⟩, by repeat (first | exact Drawn0.refl _ | apply Drawn0.step)⟩
 case round =>
  clear H'
  try clear p2
  obtain ⟨x5_1, rfl, HA, HK1, ⟨m1, rfl⟩⟩ := hrel
  cases gk with
  | zero => exact absurd HA.out (by simp [spec_l1Less.l0])
  | succ k1 =>
   have H := HA.out
   clear HA
   simp only [spec_l1Less.l0] at H
   have HC3 := Aside0.mk H
   clear H
   go_upto_region 2 with (fail)
   repeat (go_quiet (fail); go_upto_region 2 with (fail))
   go_cut [15] (fun v15 wc => ∃ (kq : Nat) (x15_2 : Bool), v15 = .bool x15_2 ∧ Aside0 (spec_l1Less.j1 kq a0 a1 x5_1 x15_2 = some r) ∧ Aside0 (kq ≤ k1) ∧ Drawn0 w wc)
   case first =>
    have H := HC3.out
    clear HC3
    by_cases c4 : x5_1 < (a0.size : Int)
    ·rw [if_pos c4] at H
     have c4b0 : decide (x5_1 < (a0.size : Int)) = true := decide_eq_true c4
     clear c4
     (first | rw [c4b0] | (simp only [i64_w, i32_w]; rw [c4b0]) | skip)
     have H' := Aside0.mk H
     clear H
     go_wp2
     repeat (go_quiet (fail); try go_wp2)
     go_meet
     case rel => exact ⟨_, (decide (x5_1 < (a1.size : Int))), (by first | rfl | (simp; done) | (simp [*]; done)), H', ⟨by have := HK1.out; first | omega | exact Nat.le_refl _⟩, by repeat (first | exact Drawn0.refl _ | apply Drawn0.step)⟩
    ·rw [if_neg c4] at H
     have c4b0 : decide (x5_1 < (a0.size : Int)) = false := decide_eq_false c4
     clear c4
     (first | rw [c4b0] | (simp only [i64_w, i32_w]; rw [c4b0]) | skip)
     have H' := Aside0.mk H
     clear H
     go_wp2
     repeat (go_quiet (fail); try go_wp2)
     go_meet
     case rel => exact ⟨_, (false), (by first | rfl | (simp; done) | (simp [*]; done)), H', ⟨by have := HK1.out; first | omega | exact Nat.le_refl _⟩, by repeat (first | exact Drawn0.refl _ | apply Drawn0.step)⟩
   case rest =>
    clear HC3
    try clear p2
    try clear c4
    try clear c4b0
    try clear p2
    obtain ⟨kq, x15_2, rfl, HA, HJ2, ⟨mc2, rfl⟩⟩ := hcut
    cases kq with
    | zero => exact absurd HA.out (by simp [spec_l1Less.j1])
    | succ kj2 =>
     have H := HA.out
     clear HA
     simp only [spec_l1Less.j1] at H
     by_cases c5 : x15_2 = true
     ·subst c5
      have H1 : (if 0 ≤ x5_1 then (if x5_1 < (a0.size : Int) then (if x5_1 < (a1.size : Int) then (if (bt a0 x5_1) = (bt a1 x5_1) then (spec_l1Less.l0 kj2 a0 a1 (wrap64 (x5_1 + 1))) else (some (decide ((bt a0 x5_1) < (bt a1 x5_1))))) else (none)) else (none)) else (none)) = some r := by rw [if_pos rfl] at H; exact H
      clear H
      have H := H1
      clear H1
      by_cases c6 : 0 ≤ x5_1
      ·rw [if_pos c6] at H
       have c6b0 : decide (0 ≤ x5_1) = true := decide_eq_true c6
       clear c6
       by_cases c7 : x5_1 < (a0.size : Int)
       ·rw [if_pos c7] at H
        have c7b0 : decide (x5_1 < (a0.size : Int)) = true := decide_eq_true c7
        clear c7
        by_cases c9 : x5_1 < (a1.size : Int)
        ·rw [if_pos c9] at H
         have c9b0 : decide (x5_1 < (a1.size : Int)) = true := decide_eq_true c9
         clear c9
         by_cases c11 : (bt a0 x5_1) = (bt a1 x5_1)
         ·rw [if_pos c11] at H
          have c11b0 : ((bt a0 x5_1) == (bt a1 x5_1)) = true := beq_iff_eq.mpr c11
          have c11b1 : ((bt a0 x5_1) != (bt a1 x5_1)) = false := bne_eq_false_iff_eq.mpr c11
          clear c11
          have H' := Aside0.mk H
          clear H
          have p8 : 0 ≤ (x5_1 : Int) := of_decide_eq_true (by first | (with_reducible assumption) | assumption)
          have q8 : x5_1 < (a0.size : Int) := of_decide_eq_true (by first | (with_reducible assumption) | assumption)
          have hx8 := bt_at a0 x5_1
          replace p8 := eq_true p8
          replace q8 := eq_true q8
          have p10 : 0 ≤ (x5_1 : Int) := of_decide_eq_true (by first | (with_reducible assumption) | assumption)
          have q10 : x5_1 < (a1.size : Int) := of_decide_eq_true (by first | (with_reducible assumption) | assumption)
          have hx10 := bt_at a1 x5_1
          replace p10 := eq_true p10
          replace q10 := eq_true q10
          go_wp2
          repeat (go_quiet (fail); try go_wp2)
          go_roundg kj2
          case measure => have := HK1.out; have := HJ2.out; omega
          case rel => exact ⟨(wrap64 (x5_1 + 1)), (by first | rfl | (simp; done) | (simp [*]; done)), H', ⟨by have := HK1.out; have := HJ2.out; omega⟩, by repeat (first | exact Drawn0.refl _ | apply Drawn0.step)⟩
         ·rw [if_neg c11] at H
          have c11b0 : ((bt a0 x5_1) == (bt a1 x5_1)) = false := beq_eq_false_iff_ne.mpr c11
          have c11b1 : ((bt a0 x5_1) != (bt a1 x5_1)) = true := bne_iff_ne.mpr c11
          obtain rfl := Option.some.inj H
          have p8 : 0 ≤ (x5_1 : Int) := of_decide_eq_true (by first | (with_reducible assumption) | assumption)
          have q8 : x5_1 < (a0.size : Int) := of_decide_eq_true (by first | (with_reducible assumption) | assumption)
          have hx8 := bt_at a0 x5_1
          replace p8 := eq_true p8
          replace q8 := eq_true q8
          have p10 : 0 ≤ (x5_1 : Int) := of_decide_eq_true (by first | (with_reducible assumption) | assumption)
          have q10 : x5_1 < (a1.size : Int) := of_decide_eq_true (by first | (with_reducible assumption) | assumption)
          have hx10 := bt_at a1 x5_1
          replace p10 := eq_true p10
          replace q10 := eq_true q10
          have p12 : 0 ≤ (x5_1 : Int) := of_decide_eq_true (by first | (with_reducible assumption) | assumption)
          have q12 : x5_1 < (a0.size : Int) := of_decide_eq_true (by first | (with_reducible assumption) | assumption)
          have hx12 := bt_at a0 x5_1
          replace p12 := eq_true p12
          replace q12 := eq_true q12
          have p13 : 0 ≤ (x5_1 : Int) := of_decide_eq_true (by first | (with_reducible assumption) | assumption)
          have q13 : x5_1 < (a1.size : Int) := of_decide_eq_true (by first | (with_reducible assumption) | assumption)
          have hx13 := bt_at a1 x5_1
          replace p13 := eq_true p13
          replace q13 := eq_true q13
          go_wp2
          repeat (go_quiet (fail); try go_wp2)
          go_ret
          exact ⟨by first | rfl | (simp; done) | (simp [*]; done), by repeat (first | exact Drawn0.refl _ | apply Drawn0.step)⟩
        ·rw [if_neg c9] at H
         exact absurd H (by simp)
       ·rw [if_neg c7] at H
        exact absurd H (by simp)
      ·rw [if_neg c6] at H
       exact absurd H (by simp)
     ·replace c5 := Bool.eq_false_iff.mpr c5
      subst c5
      have H1 : (some (decide ((a0.size : Int) < (a1.size : Int)))) = some r := by rw [if_neg (show ¬ (false = true) by decide)] at H; exact H
      clear H
      have H := H1
      clear H1
      obtain rfl := Option.some.inj H
      go_wp2
      repeat (go_quiet (fail); try go_wp2)
      go_ret
      exact ⟨by first | rfl | (simp; done) | (simp [*]; done), by repeat (first | exact Drawn0.refl _ | apply Drawn0.step)⟩

end Go.Proofs.Ytkbhcejibcjglaa.P
end
section
-- Written by a changed copy of the print program, one module a function. Not trusted: Lean checks it.
namespace Go.Proofs.Ytkbhcejibcjglaa.P
open Go.RowKit Go.Proofs.YtkbhcejibcjglaaW.PrintWords Go.Proofs.YtkbhcejibcjglaaW.PrintLast Go.Proofs.YtkbhcejibcjglaaW.PrintMore
attribute [local go_sem] max2_int min2_int max_two min_two max_three min_three max_four min_four   -- for this text's walks alone
set_option linter.unusedVariables false
set_option linter.unusedSimpArgs false

/-! ### spec_l3Before: function 38 -/
def spec_l3Before.f (k : Nat) (a0_0 : ByteArray) (a0_1 : Int) (a0_2 : Int) (a0_3 : ByteArray) (a1_0 : ByteArray) (a1_1 : Int) (a1_2 : Int) (a1_3 : ByteArray) : Option (Bool) := if a0_0.toList = a1_0.toList then (some (decide (a0_1 > a1_1))) else ((spec_l1Less.f k a0_0 a1_0).bind fun t103 => (some t103))
theorem spec_l3Before.mono : ∀ a0 a1 a2 a3 a4 a5 a6 a7 k, LeO (spec_l3Before.f k a0 a1 a2 a3 a4 a5 a6 a7) (spec_l3Before.f (k + 1) a0 a1 a2 a3 a4 a5 a6 a7) := by
 intro a0 a1 a2 a3 a4 a5 a6 a7 k
 unfold spec_l3Before.f
 repeat' first
   | (with_reducible exact spec_l1Less.mono _ _ _)
   | (with_reducible exact LeO.refl _)
   | (with_reducible exact LeO.none _)
   | (with_reducible refine LeO.ite ?_ ?_)
   | (with_reducible refine LeO.bind ?_ (fun _ => ?_))
   | exact spec_l1Less.mono _ _ _
   | exact LeO.none _
   | refine LeO.ite ?_ ?_
   | refine LeO.bind ?_ (fun _ => ?_)
set_option maxHeartbeats 8000000 in
set_option maxRecDepth 100000 in
theorem spec_l3Before.calls (k : Nat) (a0_0 : ByteArray) (a0_1 : Int) (a0_2 : Int) (a0_3 : ByteArray) (a1_0 : ByteArray) (a1_1 : Int) (a1_2 : Int) (a1_3 : ByteArray) (r : Bool) (w : World) (h : spec_l3Before.f k a0_0 a0_1 a0_2 a0_3 a1_0 a1_1 a1_2 a1_3 = some r) :
  Calls Try.prog 38 #[.agg #[.string a0_0, .int .i64 a0_1, .int .i64 a0_2, .string a0_3], .agg #[.string a1_0, .int .i64 a1_1, .int .i64 a1_2, .string a1_3]] w fun e w' => e = .returned (.bool r) ∧ Below w.heap.size w w' := by
 have hu42 := Try.underlying42
 have HB := Aside0.mk (Below.refl w.heap.size w)
 have H : (if a0_0.toList = a1_0.toList then (some (decide (a0_1 > a1_1))) else ((spec_l1Less.f k a0_0 a1_0).bind fun t103 => (some t103))) = some r := h
 clear h
 by_cases c3 : a0_0.toList = a1_0.toList
 ·rw [if_pos c3] at H
  have c3b0 : (a0_0.toList == a1_0.toList) = true := beq_iff_eq.mpr c3
  have c3b1 : (a0_0.toList != a1_0.toList) = false := bne_eq_false_iff_eq.mpr c3
  clear c3
  obtain rfl := Option.some.inj H
  go_enter Try.func38, Try.ntmps38
  go_wp2_with (first | ((with_reducible refine gate_dst (N := 2) rfl ?_); refine box_event ?hg (N := 2) ?hd (cs := #[.string a0_0, .int .i64 a0_1, .int .i64 a0_2, .string a0_3]) (t := 42) ?hr ?_; (case hd => rfl); (case hg => rfl); (case hr => first | (go_simp; done) | (go_simp; rfl)); intro gb101 hg w4 hbox hb; have n0_ := Aside0.mk (below_step (by repeat (first | (with_reducible first | exact HB.out | apply below_alloc | apply pw_below_drewN | apply below_drew1) | exact HB.out)) hb); have n1_ := Aside0.mk (hbox); have n2_ := Aside0.mk ((by rw [hg]; exact (below_size (by repeat (first | (with_reducible first | exact HB.out | apply below_alloc | apply pw_below_drewN | apply below_drew1) | exact HB.out))) : w.heap.size ≤ gb101)); have n3_ := Aside0.mk ((by rw [hg]; exact (below_size (by repeat (first | (with_reducible first | exact HB.out | apply below_alloc | apply pw_below_drewN | apply below_drew1) | exact HB.out))) : w.heap.size ≤ gb101)); clear HB; have HB := n0_; have BK101 := n1_; have GW101 := n2_; have GE101 := n3_; clear n0_ n1_ n2_ n3_; clear hb hbox hg) | ((with_reducible refine gate_dst (N := 3) rfl ?_); refine box_event ?hg (N := 3) ?hd (cs := #[.string a1_0, .int .i64 a1_1, .int .i64 a1_2, .string a1_3]) (t := 42) ?hr ?_; (case hd => rfl); (case hg => rfl); (case hr => first | (go_simp; done) | (go_simp; rfl)); intro gb102 hg w5 hbox hb; have n0_ := Aside0.mk (blk_below (g := gb101) (o := .cells #[.string a0_0, .int .i64 a0_1, .int .i64 a0_2, .string a0_3] 42 (0, 0)) (by (with_reducible repeat (first | refine blk_drewN ?_ _ | refine blk_drew ?_ | refine blk_alloc ?_ _)); exact BK101.out) hb); have n1_ := Aside0.mk (below_step (by repeat (first | (with_reducible first | exact HB.out | apply below_alloc | apply pw_below_drewN | apply below_drew1 | refine below_set ?_ GE101.out) | exact HB.out)) hb); have n2_ := Aside0.mk (hbox); have n3_ := Aside0.mk ((by rw [hg]; exact (below_size (by repeat (first | (with_reducible first | exact HB.out | apply below_alloc | apply pw_below_drewN | apply below_drew1 | refine below_set ?_ GE101.out) | exact HB.out))) : w.heap.size ≤ gb102)); have n4_ := Aside0.mk ((by rw [hg]; exact (below_size (by repeat (first | (with_reducible first | exact HB.out | apply below_alloc | apply pw_below_drewN | apply below_drew1 | refine below_set ?_ GE101.out) | exact HB.out))) : w.heap.size ≤ gb102)); have n5_ := Aside0.mk ((by rw [hg]; exact Nat.ne_of_lt (blk_lt (g := gb101) (o := .cells #[.string a0_0, .int .i64 a0_1, .int .i64 a0_2, .string a0_3] 42 (0, 0)) (by (with_reducible repeat (first | refine blk_drewN ?_ _ | refine blk_drew ?_ | refine blk_alloc ?_ _)); exact BK101.out)) : gb101 ≠ gb102)); have n6_ := Aside0.mk ((by rw [hg]; exact Nat.ne_of_gt (blk_lt (g := gb101) (o := .cells #[.string a0_0, .int .i64 a0_1, .int .i64 a0_2, .string a0_3] 42 (0, 0)) (by (with_reducible repeat (first | refine blk_drewN ?_ _ | refine blk_drew ?_ | refine blk_alloc ?_ _)); exact BK101.out)) : gb102 ≠ gb101)); clear BK101; clear HB; have BK101 := n0_; have HB := n1_; have BK102 := n2_; have GW102 := n3_; have GE102 := n4_; have NB101_102 := n5_; have NB102_101 := n6_; clear n0_ n1_ n2_ n3_ n4_ n5_ n6_; clear hb hbox hg; have hnb6 := NB101_102.out; have hnc6 := NB102_101.out; have hcz7_0 : w5.cell? ⟨gb101, 0, none⟩ = some (.string a0_0) := (blk_cell BK101.out 0).trans rfl; have hcz7_1 : w5.cell? ⟨gb101, 1, none⟩ = some (.int .i64 a0_1) := (blk_cell BK101.out 1).trans rfl; have hcz7_2 : w5.cell? ⟨gb101, 2, none⟩ = some (.int .i64 a0_2) := (blk_cell BK101.out 2).trans rfl; have hcz7_3 : w5.cell? ⟨gb101, 3, none⟩ = some (.string a0_3) := (blk_cell BK101.out 3).trans rfl; have hfz7_0 := blk_frozen BK101.out 0; have hfz7_1 := blk_frozen BK101.out 1; have hfz7_2 := blk_frozen BK101.out 2; have hfz7_3 := blk_frozen BK101.out 3; have hcz8_0 : w5.cell? ⟨gb102, 0, none⟩ = some (.string a1_0) := (blk_cell BK102.out 0).trans rfl; have hcz8_1 : w5.cell? ⟨gb102, 1, none⟩ = some (.int .i64 a1_1) := (blk_cell BK102.out 1).trans rfl; have hcz8_2 : w5.cell? ⟨gb102, 2, none⟩ = some (.int .i64 a1_2) := (blk_cell BK102.out 2).trans rfl; have hcz8_3 : w5.cell? ⟨gb102, 3, none⟩ = some (.string a1_3) := (blk_cell BK102.out 3).trans rfl; have hfz8_0 := blk_frozen BK102.out 0; have hfz8_1 := blk_frozen BK102.out 1; have hfz8_2 := blk_frozen BK102.out 2; have hfz8_3 := blk_frozen BK102.out 3))
  go_ret
  exact ⟨by first | rfl | (simp [errW_none, errW_some] <;> rfl) | (simp [*, errW_none, errW_some] <;> rfl), by repeat (first | (with_reducible first | exact HB.out | apply below_alloc | apply pw_below_drewN | apply below_drew1 | refine below_set ?_ GE101.out | refine below_set ?_ GE102.out) | exact HB.out)⟩
 ·rw [if_neg c3] at H
  have c3b0 : (a0_0.toList == a1_0.toList) = false := beq_eq_false_iff_ne.mpr c3
  have c3b1 : (a0_0.toList != a1_0.toList) = true := bne_iff_ne.mpr c3
  replace H := Option.bind_eq_some_iff.mp H
  obtain ⟨t103, A90, H⟩ := H
  replace H : (some t103) = some r := H
  have A9 := Aside0.mk A90
  clear A90
  obtain rfl := Option.some.inj H
  go_enter Try.func38, Try.ntmps38
  go_wp2_with (first | ((with_reducible refine gate_dst (N := 2) rfl ?_); refine box_event ?hg (N := 2) ?hd (cs := #[.string a0_0, .int .i64 a0_1, .int .i64 a0_2, .string a0_3]) (t := 42) ?hr ?_; (case hd => rfl); (case hg => rfl); (case hr => first | (go_simp; done) | (go_simp; rfl)); intro gb101 hg w10 hbox hb; have n0_ := Aside0.mk (below_step (by repeat (first | (with_reducible first | exact HB.out | apply below_alloc | apply pw_below_drewN | apply below_drew1) | exact HB.out)) hb); have n1_ := Aside0.mk (hbox); have n2_ := Aside0.mk ((by rw [hg]; exact (below_size (by repeat (first | (with_reducible first | exact HB.out | apply below_alloc | apply pw_below_drewN | apply below_drew1) | exact HB.out))) : w.heap.size ≤ gb101)); have n3_ := Aside0.mk ((by rw [hg]; exact (below_size (by repeat (first | (with_reducible first | exact HB.out | apply below_alloc | apply pw_below_drewN | apply below_drew1) | exact HB.out))) : w.heap.size ≤ gb101)); clear HB; have HB := n0_; have BK101 := n1_; have GW101 := n2_; have GE101 := n3_; clear n0_ n1_ n2_ n3_; clear hb hbox hg) | ((with_reducible refine gate_dst (N := 3) rfl ?_); refine box_event ?hg (N := 3) ?hd (cs := #[.string a1_0, .int .i64 a1_1, .int .i64 a1_2, .string a1_3]) (t := 42) ?hr ?_; (case hd => rfl); (case hg => rfl); (case hr => first | (go_simp; done) | (go_simp; rfl)); intro gb102 hg w11 hbox hb; have n0_ := Aside0.mk (blk_below (g := gb101) (o := .cells #[.string a0_0, .int .i64 a0_1, .int .i64 a0_2, .string a0_3] 42 (0, 0)) (by (with_reducible repeat (first | refine blk_drewN ?_ _ | refine blk_drew ?_ | refine blk_alloc ?_ _)); exact BK101.out) hb); have n1_ := Aside0.mk (below_step (by repeat (first | (with_reducible first | exact HB.out | apply below_alloc | apply pw_below_drewN | apply below_drew1 | refine below_set ?_ GE101.out) | exact HB.out)) hb); have n2_ := Aside0.mk (hbox); have n3_ := Aside0.mk ((by rw [hg]; exact (below_size (by repeat (first | (with_reducible first | exact HB.out | apply below_alloc | apply pw_below_drewN | apply below_drew1 | refine below_set ?_ GE101.out) | exact HB.out))) : w.heap.size ≤ gb102)); have n4_ := Aside0.mk ((by rw [hg]; exact (below_size (by repeat (first | (with_reducible first | exact HB.out | apply below_alloc | apply pw_below_drewN | apply below_drew1 | refine below_set ?_ GE101.out) | exact HB.out))) : w.heap.size ≤ gb102)); have n5_ := Aside0.mk ((by rw [hg]; exact Nat.ne_of_lt (blk_lt (g := gb101) (o := .cells #[.string a0_0, .int .i64 a0_1, .int .i64 a0_2, .string a0_3] 42 (0, 0)) (by (with_reducible repeat (first | refine blk_drewN ?_ _ | refine blk_drew ?_ | refine blk_alloc ?_ _)); exact BK101.out)) : gb101 ≠ gb102)); have n6_ := Aside0.mk ((by rw [hg]; exact Nat.ne_of_gt (blk_lt (g := gb101) (o := .cells #[.string a0_0, .int .i64 a0_1, .int .i64 a0_2, .string a0_3] 42 (0, 0)) (by (with_reducible repeat (first | refine blk_drewN ?_ _ | refine blk_drew ?_ | refine blk_alloc ?_ _)); exact BK101.out)) : gb102 ≠ gb101)); clear BK101; clear HB; have BK101 := n0_; have HB := n1_; have BK102 := n2_; have GW102 := n3_; have GE102 := n4_; have NB101_102 := n5_; have NB102_101 := n6_; clear n0_ n1_ n2_ n3_ n4_ n5_ n6_; clear hb hbox hg; have hnb12 := NB101_102.out; have hnc12 := NB102_101.out; have hcz13_0 : w11.cell? ⟨gb101, 0, none⟩ = some (.string a0_0) := (blk_cell BK101.out 0).trans rfl; have hcz13_1 : w11.cell? ⟨gb101, 1, none⟩ = some (.int .i64 a0_1) := (blk_cell BK101.out 1).trans rfl; have hcz13_2 : w11.cell? ⟨gb101, 2, none⟩ = some (.int .i64 a0_2) := (blk_cell BK101.out 2).trans rfl; have hcz13_3 : w11.cell? ⟨gb101, 3, none⟩ = some (.string a0_3) := (blk_cell BK101.out 3).trans rfl; have hfz13_0 := blk_frozen BK101.out 0; have hfz13_1 := blk_frozen BK101.out 1; have hfz13_2 := blk_frozen BK101.out 2; have hfz13_3 := blk_frozen BK101.out 3; have hcz14_0 : w11.cell? ⟨gb102, 0, none⟩ = some (.string a1_0) := (blk_cell BK102.out 0).trans rfl; have hcz14_1 : w11.cell? ⟨gb102, 1, none⟩ = some (.int .i64 a1_1) := (blk_cell BK102.out 1).trans rfl; have hcz14_2 : w11.cell? ⟨gb102, 2, none⟩ = some (.int .i64 a1_2) := (blk_cell BK102.out 2).trans rfl; have hcz14_3 : w11.cell? ⟨gb102, 3, none⟩ = some (.string a1_3) := (blk_cell BK102.out 3).trans rfl; have hfz14_0 := blk_frozen BK102.out 0; have hfz14_1 := blk_frozen BK102.out 1; have hfz14_2 := blk_frozen BK102.out 2; have hfz14_3 := blk_frozen BK102.out 3) | ((with_reducible refine gate_callee (f := 58) rfl ?_); refine goesL_ (some 14) rfl rfl Try.func58 (by kernel_rfl) rfl #[.string a0_0, .string a1_0] rfl (by (try simp only [List.map_toArray, List.map_cons, List.map_nil]); first | done | rfl | (simp only [List.length_drop, List.length_take]; rfl)) ?_; (with_reducible refine (spec_l1Less.calls k a0_0 a1_0 t103 _ A9.out).mono ?_); rintro e w' ⟨rfl, ⟨nd, rfl⟩⟩; refine ⟨_, rfl, ?_⟩))
  go_ret
  exact ⟨by first | rfl | (simp [errW_none, errW_some] <;> rfl) | (simp [*, errW_none, errW_some] <;> rfl), by repeat (first | (with_reducible first | exact HB.out | apply below_alloc | apply pw_below_drewN | apply below_drew1 | refine below_set ?_ GE101.out | refine below_set ?_ GE102.out) | exact HB.out)⟩

end Go.Proofs.Ytkbhcejibcjglaa.P
end

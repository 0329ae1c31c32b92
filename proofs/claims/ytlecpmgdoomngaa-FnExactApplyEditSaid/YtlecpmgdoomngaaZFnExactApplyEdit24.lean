/- Texts of the claim FnExactApplyEdit, part 24 of 47, joined: MSort0. No condition beyond those that stand at each. -/
import Derived.Shelf.SlSortFuncK.WholeK
import Derived.Shelf.GgSortFunc.Tiny
import Derived.Sort.WalkA
import Derived.WalkKit
import Derived.Deep.LoopGhost
import Derived.Deep.QuietTactic
import Derived.Test.YtlecpmgdoomngaaProg
section
namespace Go.Proofs.Ytlecpmgdoomngaa.M
open Go.Shelf Go.RowKit Go.Lib Go.Sort
set_option linter.unusedVariables false
structure Asd (p : Prop) : Prop where mk :: (out : p)
section
variable {α : Type} [Inhabited α] {enc : α → List Value} {k blk off : Nat} {W W1 W2 : World} {d d1 d2 : Array α}
theorem sw_trans (h : SWK enc k W blk off d1 W1) (h2 : SWK enc k W1 blk off d2 W2) (hb : blk < W.heap.size) (hs : d2.size = d1.size) : SWK enc k W blk off d2 W2 := by
 obtain ⟨n, os, rfl⟩ := h2
 exact h.on hb n d2 os hs
theorem sw_block (h : SWK enc k W blk off d W1) {b : Nat} (hb : b ≠ blk) (hl : b < W.heap.size) : W1.heap[b]? = W.heap[b]? := by
 obtain ⟨n, os, rfl⟩ := h
 unfold sortWorldK
 rw [heap_grow_old _ _ (by rw [size_putRowK]; exact hl)]
 unfold putRowK putRow mapBlock
 show (Array.modify _ _ _)[b]? = _
 rw [Array.getElem?_modify, if_neg (fun e => hb e.symm)]
 rfl
theorem sw_cell (h : SWK enc k W blk off d W1) {b : Nat} (hb : b ≠ blk) (hl : b < W.heap.size) (o : Nat) : W1.cell? ⟨b, o, none⟩ = W.cell? ⟨b, o, none⟩ := by
 simp only [World.cell?, sw_block h hb hl]
theorem sw_alloc (h : HoldsK enc k W blk off d) (o : Obj) : SWK enc k W blk off d (W.alloc o) := (SWK.start h).alloc o
structure Srt (lb sb : Array Value) (enc : α → List Value) (k : Nat) (lt : α → α → Bool) (blk off size : Nat) (w0 : World) : Prop where
 hk : ∀ x, (enc x).length = k
 less : ∀ (W : World) (dk : Array α), SWK enc k w0 blk off dk W → dk.size = size → ∀ i j : Nat, i < size → j < size →
  Calls Try.prog 25 (#[.int .i64 i, .int .i64 j] ++ lb) W fun e w' => e = .returned (.bool (lt dk[i]! dk[j]!)) ∧ SWK enc k W blk off dk w'
 swap : SwapSwapsK Try.prog 53 sb enc k blk off size
 hblk : blk < w0.heap.size
 d0 : ∃ d0 : Array α, HoldsK enc k w0 blk off d0 ∧ d0.size = size
 sz : size < 4611686018427387904
variable {lb sb : Array Value} {lt : α → α → Bool} {size : Nat} {w0 : World}
theorem Srt.holds (S : Srt lb sb enc k lt blk off size w0) (h : SWK enc k w0 blk off d W) (hs : d.size = size) : HoldsK enc k W blk off d := by
 obtain ⟨d0, h0, h1⟩ := S.d0
 exact h.holds S.hblk h0 (hs.trans h1.symm)
theorem Srt.blt (S : Srt lb sb enc k lt blk off size w0) (h : SWK enc k w0 blk off d W) : blk < W.heap.size := h.lt S.hblk
theorem Srt.on (S : Srt lb sb enc k lt blk off size w0) (h : SWK enc k w0 blk off d W) (hs : d.size = size) : Srt lb sb enc k lt blk off size W :=
 ⟨S.hk, fun W1 dk h1 hz i j hi hj => S.less W1 dk (sw_trans h h1 S.hblk (hz.trans hs.symm)) hz i j hi hj, S.swap, S.blt h, ⟨d, S.holds h hs, hs⟩, S.sz⟩
theorem Srt.swaps (S : Srt lb sb enc k lt blk off size w0) (h : SWK enc k w0 blk off d W) (hs : d.size = size) (i j : Nat) (hi : i < size) (hj : j < size) :
  ∃ W1, (callFunc 53 (#[.int .i64 i, .int .i64 j] ++ sb)).run Try.prog W = .ok (.value (.tuple #[])) W1 ∧ SWK enc k w0 blk off (swp d i j) W1 :=
 ⟨_, S.swap W d (S.holds h hs) hs i j hi hj, h.swap S.hk S.hblk i j (by omega) (by omega)⟩
theorem Srt.step (S : Srt lb sb enc k lt blk off size w0) (h : SWK enc k w0 blk off d W) (hs : d.size = size) (i j : Nat) (hi : i < size) (hj : j < size) :
  ∃ W1, (callFunc 53 (#[.int .i64 i, .int .i64 j] ++ sb)).run Try.prog W = .ok (.value (.tuple #[])) W1 ∧ SWK enc k W blk off (swp d i j) W1 :=
 (S.on h hs).swaps (SWK.start (S.holds h hs)) hs i j hi hj
structure Bx (lb sb : Array Value) (enc : α → List Value) (k blk off : Nat) (W : World) (d : Array α) (wr : World) : Prop where
 sw : SWK enc k W blk off d wr
 lt : blk < W.heap.size
 box : wr.heap[W.heap.size]? = some (.cells #[.func (.func 25) #[] lb, .func (.func 53) #[] sb] 78 (0, 0))
theorem Bx.start (h : HoldsK enc k W blk off d) (hb : blk < W.heap.size) : Bx lb sb enc k blk off W d (W.alloc (.cells #[.func (.func 25) #[] lb, .func (.func 53) #[] sb] 78)) :=
 ⟨sw_alloc h _, hb, heap_alloc_new _ _⟩
theorem Bx.next (h : Bx lb sb enc k blk off W d W1) (h2 : SWK enc k W1 blk off d2 W2) (hs : d2.size = d.size) : Bx lb sb enc k blk off W d2 W2 :=
 ⟨sw_trans h.sw h2 h.lt hs, h.lt, (sw_block h2 (Nat.ne_of_gt h.lt) (Array.getElem?_eq_some_iff.1 h.box).1).trans h.box⟩
theorem Bx.c0 (h : Bx lb sb enc k blk off W d W1) : W1.cell? ⟨W.heap.size, 0, none⟩ = some (.func (.func 25) #[] lb) := by simp [World.cell?, h.box]
theorem Bx.c1 (h : Bx lb sb enc k blk off W d W1) : W1.cell? ⟨W.heap.size, 1, none⟩ = some (.func (.func 53) #[] sb) := by simp [World.cell?, h.box]
theorem Bx.less (h : Bx lb sb enc k blk off W d W1) (S : Srt lb sb enc k lt blk off size W) (hs : d.size = size) (i j : Nat) (hi : i < size) (hj : j < size) :
  Calls Try.prog 25 (#[.int .i64 i, .int .i64 j] ++ lb) W1 fun e w' => e = .returned (.bool (lt d[i]! d[j]!)) ∧ Bx lb sb enc k blk off W d w' :=
 (S.less W1 d h.sw hs i j hi hj).mono fun e w' hh => ⟨hh.1, h.next hh.2 rfl⟩
theorem Bx.swaps (h : Bx lb sb enc k blk off W d W1) (S : Srt lb sb enc k lt blk off size W) (hs : d.size = size) (i j : Nat) (hi : i < size) (hj : j < size) :
  ∃ W2, (callFunc 53 (#[.int .i64 i, .int .i64 j] ++ sb)).run Try.prog W1 = .ok (.value (.tuple #[])) W2 ∧ Bx lb sb enc k blk off W (swp d i j) W2 := by
 obtain ⟨W2, h1, h2⟩ := S.step h.sw hs i j hi hj
 exact ⟨W2, h1, h.next h2 (size_swp _ _ _)⟩
theorem Bx.lessI (h : Bx lb sb enc k blk off W d W1) (S : Srt lb sb enc k lt blk off size W) (hs : d.size = size) (i j : Nat) (hi : i < size) (hj : j < size) {x y : Int} (hx : x = (i : Int)) (hy : y = (j : Int)) {r : Bool} (hr : lt d[i]! d[j]! = r) :
  Calls Try.prog 25 (#[.int .i64 x, .int .i64 y] ++ lb) W1 fun e w' => e = .returned (.bool r) ∧ Bx lb sb enc k blk off W d w' := by
 subst hx hy hr
 exact h.less S hs i j hi hj
theorem Bx.swapsI (h : Bx lb sb enc k blk off W d W1) (S : Srt lb sb enc k lt blk off size W) (hs : d.size = size) (i j : Nat) (hi : i < size) (hj : j < size) (x y : Int) (hx : x = (i : Int)) (hy : y = (j : Int)) :
  ∃ W2, (callFunc 53 (#[.int .i64 x, .int .i64 y] ++ sb)).run Try.prog W1 = .ok (.value (.tuple #[])) W2 ∧ Bx lb sb enc k blk off W (swp d i j) W2 := by
 subst hx hy
 exact h.swaps S hs i j hi hj
end
end Go.Proofs.Ytlecpmgdoomngaa.M
end

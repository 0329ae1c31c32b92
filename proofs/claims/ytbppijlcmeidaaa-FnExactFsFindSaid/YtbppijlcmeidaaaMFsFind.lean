/- The program's find, read and FsFind, walked. Condition: the sizes of the Data add up to a number of 63 bits. -/
import Derived.Test.YtbppijlcmeidaaaMFind
namespace Go.Proofs.Ytbppijlcmeidaaa.M
open Go.RowKit Go.Proofs.Ytbppijlcmeidaaa.P Go.Proofs.YtbppijlcmeidaaaW.PrintWords Go.Proofs.YtbppijlcmeidaaaW.PrintLast Go.Proofs.YtbppijlcmeidaaaW.PrintMore
set_option linter.unusedVariables false

/-- A directory that lies at block g. -/
def Lies (w : World) (g : Nat) (A : Option Addr) (c : Nat) (l : List S52) (q f : Int) : Prop := w.heap[g]? = some (.cells #[.slice A l.length c, .int .i64 q, .int .i64 f] 29 (0, 0))
theorem lies_below {w w1 : World} {g : Nat} {A : Option Addr} {c : Nat} {l : List S52} {q f : Int} (h : Lies w g A c l q f) (hb : Below w.heap.size w w1) : Lies w1 g A c l q f := (hb.block g (blk_lt h)).trans h

set_option maxRecDepth 100000 in
set_option maxHeartbeats 1000000 in
theorem find_call (g : Nat) (A : Option Addr) (c : Nat) (l : List S52) (q f : Int) (s : ByteArray) (w : World) (hg : Lies w g A c l q f) (hr : Kd.C k52 w A l.length l) (hl : l.length ≤ 200) (hs : Sorted l) :
    Calls Try.prog 74 #[.pointer (some ⟨g, 0, none⟩), .string s] w fun e w' => e = .returned (.tuple #[.int .i64 (pos l s : Int), .bool (there l s)]) ∧ Below w.heap.size w w' := by
  have hb0 : w.cell? ⟨g, 0, none⟩ = some (.slice A l.length c) := (blk_cell hg 0).trans rfl
  have HC := Aside0.mk (search_walk A c l s w hr hl hs)
  have hu29 := Try.underlying29
  clear hr hs hg
  go_enter Try.func74, Try.ntmps74
  go_wp2_with (go_at_call 84; refine HC.out.mono ?_; rintro e w' ⟨rfl, hb⟩)
  go_ret2
  exact ⟨rfl, hb⟩

def dataAt (l : List S52) (s : ByteArray) : ByteArray := if there l s = true then (rd_T52 l (pos l s : Int)).f1 else ⟨#[]⟩
theorem there_lt {l : List S52} {s : ByteArray} (h : there l s = true) : pos l s < l.length := by
  unfold there at h
  simp only [Bool.and_eq_true, decide_eq_true_eq] at h
  exact h.1

set_option maxRecDepth 100000 in
set_option maxHeartbeats 1000000 in
theorem read_call (g : Nat) (A : Option Addr) (c : Nat) (l : List S52) (q f : Int) (s : ByteArray) (w : World) (hg : Lies w g A c l q f) (hr : Kd.C k52 w A l.length l) (hl : l.length ≤ 200) (hs : Sorted l) :
    Calls Try.prog 48 #[.pointer (some ⟨g, 0, none⟩), .string s] w fun e w' => e = .returned (.tuple #[.string (dataAt l s), .bool (there l s)]) ∧ Below w.heap.size w w' := by
  have hc := find_call g A c l q f s w hg hr hl hs
  have hu29 := Try.underlying29
  have hu52 := Try.underlying52
  have HG := Aside0.mk hg
  have HR := Aside0.mk hr
  unfold dataAt
  by_cases ht : there l s = true
  · have hlt := there_lt ht
    rw [ht] at hc
    rw [if_pos ht, ht]
    obtain ⟨ad, hA, hx0, hx1, hx2⟩ := at_T52 hr (pos l s : Int) (by omega) (by omega)
    rw [Int.toNat_natCast] at hx1
    generalize (rd_T52 l (pos l s : Int)).f1 = d at hx1
    have hlt' : ((pos l s : Nat) : Int) < (l.length : Int) := by omega
    generalize pos l s = p at hc hx1 hlt hlt'
    subst hA
    have HC := Aside0.mk hc
    have HX := Aside0.mk hx1
    clear hc hx0 hx1 hx2 hg hr hs ht
    go_enter Try.func48, Try.ntmps48
    go_wp2_with fail
    refine HC.out.mono ?_
    rintro e w' ⟨rfl, hb⟩
    have hb0 : w'.cell? ⟨g, 0, none⟩ = some (.slice (some ad) l.length c) := (blk_cell (lies_below HG.out hb) 0).trans rfl
    have hb1 := (hb.cell (World.block_lt_of_cell? w _ HX.out)).trans HX.out
    go_wp2
    go_ret2
    exact ⟨rfl, hb⟩
  · have ht := Bool.eq_false_iff.2 ht
    rw [if_neg (by rw [ht]; simp)]
    rw [ht] at hc ⊢
    have HC := Aside0.mk hc
    clear hc hg hr hs ht
    go_enter Try.func48, Try.ntmps48
    go_wp2_with fail
    refine HC.out.mono ?_
    rintro e w' ⟨rfl, hb⟩
    go_wp2
    go_ret2
    exact ⟨rfl, hb⟩

/-! ### What a valid directory says -/
theorem okFrom_step {p : Option ByteArray} {x : S52} {r : List S52} (h : okFrom p (x :: r) = true) : fileOk x = true ∧ (∀ b, p = some b → lss b x.f0 = true) ∧ okFrom (some x.f0) r = true := by
  rw [okFrom_cons] at h
  simp only [Bool.and_eq_true] at h
  refine ⟨h.1.1, fun b hb => ?_, h.2⟩
  subst hb
  exact h.1.2
theorem okFrom_all : ∀ {l : List S52} {p : Option ByteArray}, okFrom p l = true → (∀ x ∈ l, fileOk x = true) ∧ (∀ b, p = some b → ∀ x ∈ l, lss b x.f0 = true) ∧ l.Pairwise (fun x y => lss x.f0 y.f0 = true)
  | [], _, _ => ⟨fun x hx => by simp at hx, fun _ _ x hx => by simp at hx, List.Pairwise.nil⟩
  | x :: r, p, h => by
    obtain ⟨h1, h2, h3⟩ := okFrom_step h
    obtain ⟨g1, g2, g3⟩ := okFrom_all h3
    have g2 := g2 x.f0 rfl
    refine ⟨fun y hy => ?_, fun b hb y hy => ?_, List.Pairwise.cons g2 g3⟩
    · rcases List.mem_cons.1 hy with rfl | hy
      · exact h1
      · exact g1 y hy
    · rcases List.mem_cons.1 hy with rfl | hy
      · exact h2 b hb
      · exact lss_trans (h2 b hb) (g2 y hy)
theorem valid_parts {l : List S52} {q f : Int} (h : validB l q f = true) : l.length ≤ 200 ∧ 0 ≤ q ∧ q ≤ 1048576 ∧ -1 ≤ f ∧ okFrom none l = true ∧ total l ≤ 1048576 := by
  unfold validB at h
  simp only [Bool.and_eq_true, decide_eq_true_eq] at h
  obtain ⟨⟨⟨⟨⟨h1, h2⟩, h3⟩, h4⟩, h5⟩, h6⟩ := h
  exact ⟨h1, h2, h3, h4, h5, h6⟩
theorem sorted_of {l : List S52} (h : l.Pairwise (fun x y => lss x.f0 y.f0 = true)) : Sorted l := by
  intro i j hij hj
  rw [rd52 l i (by omega), rd52 l j hj]
  exact List.pairwise_iff_getElem.1 h i j (by omega) hj hij
theorem valid_sorted {l : List S52} {q f : Int} (h : validB l q f = true) : Sorted l := sorted_of (okFrom_all (valid_parts h).2.2.2.2.1).2.2

def fsFind (l : List S52) (q f : Int) (s : ByteArray) : ByteArray × Bool := if validB l q f = true then (dataAt l s, there l s) else (⟨#[]⟩, false)
set_option maxRecDepth 100000 in
set_option maxHeartbeats 1000000 in
theorem fsFind_call (A : Option Addr) (c : Nat) (l : List S52) (q f : Int) (s : ByteArray) (w : World) (hr : Kd.C k52 w A l.length l) (hc : l.length ≤ c) (ht : ValidFits l) :
    Calls Try.prog 18 #[.agg #[.slice A l.length c, .int .i64 q, .int .i64 f], .string s] w fun e w' => e = .returned (.tuple #[.string (fsFind l q f s).1, .bool (fsFind l q f s).2]) ∧ Below w.heap.size w w' := by
  have hu29 := Try.underlying29
  have HR := Aside0.mk hr
  have b0 : Below w.heap.size w (w.alloc (.cells #[.slice A l.length c, .int .i64 q, .int .i64 f] 29)) := (Below.refl _ _).alloc (Nat.le_refl _) _
  have hv := valid_any A c l q f (w.alloc (.cells #[.slice A l.length c, .int .i64 q, .int .i64 f] 29)) (Kd.C_below hr b0) hc ht
  unfold fsFind
  by_cases h : validB l q f = true
  · rw [if_pos h]
    rw [h] at hv
    have HV := Aside0.mk hv
    have HL := Aside0.mk h
    clear hv hr hc ht h
    go_enter Try.func18, Try.ntmps18
    go_wp2_with fail
    refine HV.out.mono ?_
    rintro e w' ⟨rfl, hb⟩
    have HB := Aside0.mk (b0.trans (hb.mono (by simp)))
    have HG := Aside0.mk (show Lies w' w.heap.size A c l q f from (hb.block _ (by simp)).trans (heap_alloc_new _ _))
    have HC := Aside0.mk (read_call w.heap.size A c l q f s w' HG.out (Kd.C_below HR.out HB.out) (valid_parts HL.out).1 (valid_sorted HL.out))
    clear b0
    go_wp2_with fail
    refine HC.out.mono ?_
    rintro e w2 ⟨rfl, hb2⟩
    go_wp2
    go_ret2
    exact ⟨rfl, below_then HB.out HB.out.size hb2⟩
  · have h := Bool.eq_false_iff.2 h
    rw [if_neg (by rw [h]; simp)]
    rw [h] at hv
    have HV := Aside0.mk hv
    clear hv hr hc ht h
    go_enter Try.func18, Try.ntmps18
    go_wp2_with fail
    refine HV.out.mono ?_
    rintro e w' ⟨rfl, hb⟩
    have HB := Aside0.mk (b0.trans (hb.mono (by simp)))
    clear b0
    go_wp2
    go_ret2
    exact ⟨rfl, HB.out⟩
end Go.Proofs.Ytbppijlcmeidaaa.M

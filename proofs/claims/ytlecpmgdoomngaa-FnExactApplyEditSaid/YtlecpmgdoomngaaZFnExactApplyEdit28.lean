/- Texts of the claim FnExactApplyEdit, part 28 of 47, joined: MSortPiv. No condition beyond those that stand at each. -/
import Derived.Test.YtlecpmgdoomngaaZFnExactApplyEdit24
import Derived.Outline
section
namespace Go.Proofs.Ytlecpmgdoomngaa.M
open Go.Shelf Go.RowKit Go.Lib Go.Sort
set_option linter.unusedVariables false
set_option linter.unusedSimpArgs false
section
variable {α : Type} [Inhabited α] {enc : α → List Value} {k blk off : Nat} {W W1 W2 w0 wr : World} {d : Array α} {lb sb : Array Value} {lt : α → α → Bool} {size cb s : Nat}
structure Cx (enc : α → List Value) (k blk off : Nat) (W : World) (cb s : Nat) (d : Array α) (wr : World) : Prop where
 sw : SWK enc k W blk off d wr
 lt : blk < W.heap.size
 cge : W.heap.size ≤ cb
 ctr : wr.heap[cb]? = some (.cells #[.int .i64 (s : Int)] 3 (0, 0))
def Kp (blk cb : Nat) (wr w' : World) : Prop := wr.heap.size ≤ w'.heap.size ∧ ∀ b, b < wr.heap.size → b ≠ blk → b ≠ cb → w'.heap[b]? = wr.heap[b]?
theorem Kp.refl (blk cb : Nat) (w : World) : Kp blk cb w w := ⟨Nat.le_refl _, fun _ _ _ _ => rfl⟩
theorem Kp.trans {w1 w2 w3 : World} (h : Kp blk cb w1 w2) (h2 : Kp blk cb w2 w3) : Kp blk cb w1 w3 := ⟨Nat.le_trans h.1 h2.1, fun b hb h3 h4 => (h2.2 b (Nat.lt_of_lt_of_le hb h.1) h3 h4).trans (h.2 b hb h3 h4)⟩
theorem Kp.of_sw (h : SWK enc k W1 blk off d W2) (cb : Nat) : Kp blk cb W1 W2 := ⟨h.le, fun b hb h1 _ => sw_block h h1 hb⟩
theorem Kp.alloc (w : World) (o : Obj) : Kp blk cb w (w.alloc o) := ⟨by rw [World.size_alloc]; omega, fun b hb _ _ => by rw [alloc_eq_grow]; exact heap_grow_old _ _ hb⟩
theorem Kp.set (w : World) (u : Value) : Kp blk cb w (w.setCell ⟨cb, 0, none⟩ u) := ⟨Nat.le_of_eq (by simp), fun b hb _ h => Below.heap_setCell w ⟨cb, 0, none⟩ u b h⟩
theorem Cx.next (h : Cx enc k blk off W cb s d W1) (h2 : SWK enc k W1 blk off d W2) : Cx enc k blk off W cb s d W2 :=
 ⟨sw_trans h.sw h2 h.lt rfl, h.lt, h.cge, (sw_block h2 (by have := h.lt; have := h.cge; omega) (Array.getElem?_eq_some_iff.1 h.ctr).1).trans h.ctr⟩
theorem Cx.alloc (h : Cx enc k blk off W cb s d W1) (o : Obj) : Cx enc k blk off W cb s d (W1.alloc o) :=
 ⟨h.sw.alloc o, h.lt, h.cge, by rw [alloc_eq_grow, heap_grow_old _ _ (Array.getElem?_eq_some_iff.1 h.ctr).1]; exact h.ctr⟩
theorem Cx.set (h : Cx enc k blk off W cb s d W1) (n : Nat) : Cx enc k blk off W cb n d (W1.setCell ⟨cb, 0, none⟩ (.int .i64 (n : Int))) :=
 ⟨h.sw.setCell_new cb 0 _ h.cge, h.lt, h.cge, by
  have := h.ctr
  rw [setCell_eq]
  unfold mapBlock
  show (Array.modify _ _ _)[cb]? = _
  rw [Array.getElem?_modify, if_pos rfl, this]
  rfl⟩
theorem Cx.cell (h : Cx enc k blk off W cb s d W1) : W1.cell? ⟨cb, 0, none⟩ = some (.int .i64 (s : Int)) ∧ W1.frozen? ⟨cb, 0, none⟩ = false := by
 constructor
 ·simp [World.cell?, h.ctr]
 ·simp [World.frozen?, h.ctr]
theorem order2_bd (lt : α → α → Bool) (d : Array α) (a b s n : Nat) (ha : a < n) (hb : b < n) : (order2 lt d a b s).1 < n ∧ (order2 lt d a b s).2.1 < n ∧ (order2 lt d a b s).2.2 ≤ s + 1 := by
 unfold order2
 split
 ·exact ⟨hb, ha, Nat.le_refl _⟩
 ·exact ⟨ha, hb, Nat.le_succ _⟩
set_option maxHeartbeats 4000000 in
set_option maxRecDepth 100000 in
theorem order2_call (S : Srt lb sb enc k lt blk off size W) (C : Cx enc k blk off W cb s d wr) (hs : d.size = size) (a b : Nat) (ha : a < size) (hb : b < size) (hc : s ≤ 1000) {x y : Int} (hx : x = (a : Int)) (hy : y = (b : Int)) {p1 p2 p3 : Nat} (hr : order2 lt d a b s = (p1, p2, p3)) :
  Calls Try.prog 69 #[.agg #[.func (.func 25) #[] lb, .func (.func 53) #[] sb], .int .i64 x, .int .i64 y, .pointer (some ⟨cb, 0, none⟩)] wr fun e w' => e = .returned (.tuple #[.int .i64 (p1 : Int), .int .i64 (p2 : Int)]) ∧ Cx enc k blk off W cb p3 d w' ∧ Kp blk cb wr w' := by
 subst hx hy
 have C1 := C.alloc (.cells #[.func (.func 25) #[] lb, .func (.func 53) #[] sb] 78)
 have K1 := Asd.mk (Kp.alloc (blk := blk) (cb := cb) wr (.cells #[.func (.func 25) #[] lb, .func (.func 53) #[] sb] 78))
 have HL := Asd.mk (S.less _ d C1.sw hs b a hb ha)
 have HC1 := Asd.mk C1
 clear C1 C S
 unfold order2 at hr
 cases hlv : lt d[b]! d[a]! with
 | true =>
  rw [hlv] at hr HL
  rw [if_pos rfl] at hr
  injection hr with h1 h2
  injection h2 with h2 h3
  subst h1 h2 h3
  clear hlv
  go_enter Try.func69, Try.ntmps69
  go_wp2_with fail
  refine HL.out.mono ?_
  rintro e w1 ⟨rfl, h1⟩
  have C2 := HC1.out.next h1
  have K2 := Asd.mk (K1.out.trans (Kp.of_sw h1 cb))
  obtain ⟨z0, z1⟩ := C2.cell
  have HC2 := Asd.mk C2
  clear C2 h1 HL HC1 K1
  go_wp2
  go_ret2
  exact ⟨rfl, HC2.out.set (s + 1), K2.out.trans (Kp.set _ _)⟩
 | false =>
  rw [hlv] at hr HL
  rw [if_neg (by decide)] at hr
  injection hr with h1 h2
  injection h2 with h2 h3
  subst h1 h2 h3
  clear hlv
  go_enter Try.func69, Try.ntmps69
  go_wp2_with fail
  refine HL.out.mono ?_
  rintro e w1 ⟨rfl, h1⟩
  have HC2 := Asd.mk (HC1.out.next h1)
  have K2 := Asd.mk (K1.out.trans (Kp.of_sw h1 cb))
  clear h1 HL HC1 K1
  go_wp2
  go_ret2
  exact ⟨rfl, HC2.out, K2.out⟩
theorem Cx.clt (h : Cx enc k blk off W cb s d W1) : cb < W1.heap.size := (Array.getElem?_eq_some_iff.1 h.ctr).1
structure Own (lb sb : Array Value) (b : Nat) (w : World) : Prop where
 box : w.heap[b]? = some (.cells #[.func (.func 25) #[] lb, .func (.func 53) #[] sb] 78 (0, 0))
theorem Own.start (lb sb : Array Value) (w : World) : Own lb sb w.heap.size (w.alloc (.cells #[.func (.func 25) #[] lb, .func (.func 53) #[] sb] 78)) := ⟨heap_alloc_new _ _⟩
theorem Own.keep {b : Nat} (h : Own lb sb b W1) (hk : Kp blk cb W1 W2) (h1 : b ≠ blk) (h2 : b ≠ cb) : Own lb sb b W2 := ⟨(hk.2 b (Array.getElem?_eq_some_iff.1 h.box).1 h1 h2).trans h.box⟩
theorem Own.cells {b : Nat} (h : Own lb sb b W1) : W1.cell? ⟨b, 0, none⟩ = some (.func (.func 25) #[] lb) ∧ W1.cell? ⟨b, 1, none⟩ = some (.func (.func 53) #[] sb) := by
 constructor <;> simp [World.cell?, h.box]
theorem median_bd (lt : α → α → Bool) (d : Array α) (a b c s n : Nat) (ha : a < n) (hb : b < n) (hc : c < n) : (median lt d a b c s).1 < n ∧ (median lt d a b c s).2 ≤ s + 3 := by
 have h1 := order2_bd lt d a b s n ha hb
 have h2 := order2_bd lt d (order2 lt d a b s).2.1 c (order2 lt d a b s).2.2 n h1.2.1 hc
 have h3 := order2_bd lt d (order2 lt d a b s).1 (order2 lt d (order2 lt d a b s).2.1 c (order2 lt d a b s).2.2).1 (order2 lt d (order2 lt d a b s).2.1 c (order2 lt d a b s).2.2).2.2 n h1.1 h2.1
 exact ⟨h3.2.1, by show (order2 lt d _ _ _).2.2 ≤ _; omega⟩
set_option maxHeartbeats 4000000 in
set_option maxRecDepth 100000 in
theorem median_call (S : Srt lb sb enc k lt blk off size W) (C : Cx enc k blk off W cb s d wr) (hs : d.size = size) (a b c : Nat) (ha : a < size) (hb : b < size) (hc : c < size) (hn : s ≤ 900) {x y z : Int} (hx : x = (a : Int)) (hy : y = (b : Int)) (hz : z = (c : Int)) {p1 p2 : Nat} (hr : median lt d a b c s = (p1, p2)) :
  Calls Try.prog 68 #[.agg #[.func (.func 25) #[] lb, .func (.func 53) #[] sb], .int .i64 x, .int .i64 y, .int .i64 z, .pointer (some ⟨cb, 0, none⟩)] wr fun e w' => e = .returned (.int .i64 (p1 : Int)) ∧ Cx enc k blk off W cb p2 d w' ∧ Kp blk cb wr w' := by
 subst hx hy hz
 have hu78 := Try.underlying78
 obtain ⟨a1, b1, s1, h1⟩ : ∃ a1 b1 s1, order2 lt d a b s = (a1, b1, s1) := ⟨_, _, _, rfl⟩
 have g1 := order2_bd lt d a b s size ha hb
 rw [h1] at g1
 replace g1 : a1 < size ∧ b1 < size ∧ s1 ≤ s + 1 := g1
 obtain ⟨b2, c2, s2, h2⟩ : ∃ b2 c2 s2, order2 lt d b1 c s1 = (b2, c2, s2) := ⟨_, _, _, rfl⟩
 have g2 := order2_bd lt d b1 c s1 size g1.2.1 hc
 rw [h2] at g2
 replace g2 : b2 < size ∧ c2 < size ∧ s2 ≤ s1 + 1 := g2
 obtain ⟨a3, b3, s3, h3⟩ : ∃ a3 b3 s3, order2 lt d a1 b2 s2 = (a3, b3, s3) := ⟨_, _, _, rfl⟩
 have he : b3 = p1 ∧ s3 = p2 := by
  unfold median at hr
  simp only [h1, h2, h3] at hr
  injection hr with e1 e2
  exact ⟨e1, e2⟩
 obtain ⟨rfl, rfl⟩ := he
 have C1 := Asd.mk (C.alloc (.cells #[.func (.func 25) #[] lb, .func (.func 53) #[] sb] 78))
 have K1 := Asd.mk (Kp.alloc (blk := blk) (cb := cb) wr (.cells #[.func (.func 25) #[] lb, .func (.func 53) #[] sb] 78))
 have O1 := Asd.mk (Own.start lb sb wr)
 have N1 := Asd.mk (show wr.heap.size ≠ blk ∧ wr.heap.size ≠ cb from by have := C.clt; have := C.cge; have := C.lt; omega)
 have H1 := Asd.mk (fun (w : World) (x y : Int) (hx : x = (a : Int)) (hy : y = (b : Int)) (hC : Cx enc k blk off W cb s d w) => order2_call S hC hs a b ha hb (by omega) hx hy h1)
 have H2 := Asd.mk (fun (w : World) (x y : Int) (hx : x = (b1 : Int)) (hy : y = (c : Int)) (hC : Cx enc k blk off W cb s1 d w) => order2_call S hC hs b1 c g1.2.1 hc (by omega) hx hy h2)
 have H3 := Asd.mk (fun (w : World) (x y : Int) (hx : x = (a1 : Int)) (hy : y = (b2 : Int)) (hC : Cx enc k blk off W cb s2 d w) => order2_call S hC hs a1 b2 g1.1 g2.1 (by omega) hx hy h3)
 obtain ⟨c0, c1⟩ := O1.out.cells
 clear C S hs hr h1 h2 h3 g1 g2
 go_enter Try.func68, Try.ntmps68
 go_wp2_with fail
 refine (H1.out _ _ _ rfl rfl C1.out).mono ?_
 rintro e w2 ⟨rfl, hC, hK⟩
 have C2 := Asd.mk hC
 have K2 := Asd.mk (K1.out.trans hK)
 have O2 := Asd.mk (O1.out.keep hK N1.out.1 N1.out.2)
 clear hC hK C1 K1 O1 c0 c1 H1
 obtain ⟨c0, c1⟩ := O2.out.cells
 go_wp2_with fail
 refine (H2.out _ _ _ rfl rfl C2.out).mono ?_
 rintro e w3 ⟨rfl, hC, hK⟩
 have C3 := Asd.mk hC
 have K3 := Asd.mk (K2.out.trans hK)
 have O3 := Asd.mk (O2.out.keep hK N1.out.1 N1.out.2)
 clear hC hK C2 K2 O2 c0 c1 H2
 obtain ⟨c0, c1⟩ := O3.out.cells
 go_wp2_with fail
 refine (H3.out _ _ _ rfl rfl C3.out).mono ?_
 rintro e w4 ⟨rfl, hC, hK⟩
 have C4 := Asd.mk hC
 have K4 := Asd.mk (K3.out.trans hK)
 clear hC hK C3 K3 O3 c0 c1 H3
 go_wp2
 go_ret
 exact ⟨rfl, C4.out, K4.out⟩
set_option maxHeartbeats 4000000 in
set_option maxRecDepth 100000 in
theorem medAdj_call (S : Srt lb sb enc k lt blk off size W) (C : Cx enc k blk off W cb s d wr) (hs : d.size = size) (a : Nat) (ha1 : 1 ≤ a) (ha : a + 1 < size) (hn : s ≤ 900) {x : Int} (hx : x = (a : Int)) {p1 p2 : Nat} (hr : medianAdjacent lt d a s = (p1, p2)) :
  Calls Try.prog 67 #[.agg #[.func (.func 25) #[] lb, .func (.func 53) #[] sb], .int .i64 x, .pointer (some ⟨cb, 0, none⟩)] wr fun e w' => e = .returned (.int .i64 (p1 : Int)) ∧ Cx enc k blk off W cb p2 d w' ∧ Kp blk cb wr w' := by
 subst hx
 have hu78 := Try.underlying78
 have hsz := S.sz
 have C1 := Asd.mk (C.alloc (.cells #[.func (.func 25) #[] lb, .func (.func 53) #[] sb] 78))
 have K1 := Asd.mk (Kp.alloc (blk := blk) (cb := cb) wr (.cells #[.func (.func 25) #[] lb, .func (.func 53) #[] sb] 78))
 have H1 := Asd.mk (fun (w : World) (x y z : Int) (hx : x = ((a - 1 : Nat) : Int)) (hy : y = (a : Int)) (hz : z = ((a + 1 : Nat) : Int)) (hC : Cx enc k blk off W cb s d w) => median_call S hC hs (a - 1) a (a + 1) (by omega) (by omega) ha hn hx hy hz hr)
 clear C S hs hr
 go_enter Try.func67, Try.ntmps67
 go_wp2_with fail
 refine (H1.out _ _ _ _ (by omega) rfl (by omega) C1.out).mono ?_
 rintro e w2 ⟨rfl, hC, hK⟩
 have C2 := Asd.mk hC
 have K2 := Asd.mk (K1.out.trans hK)
 clear hC hK C1 K1 H1
 go_wp2
 go_ret
 exact ⟨rfl, C2.out, K2.out⟩
end
end Go.Proofs.Ytlecpmgdoomngaa.M
end

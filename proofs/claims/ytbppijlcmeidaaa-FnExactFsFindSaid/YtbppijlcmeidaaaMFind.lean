/- The search in a directory, walked: where a name stands in files that are in order, or would stand, and whether it is there. Condition: the files are in order, at most 200. -/
import Derived.Test.YtbppijlcmeidaaaMWalkValid
import Derived.Deep.LoopGhost
namespace Go.Proofs.Ytbppijlcmeidaaa.M
open Go.RowKit Go.Proofs.Ytbppijlcmeidaaa.P Go.Proofs.YtbppijlcmeidaaaW.PrintWords Go.Proofs.YtbppijlcmeidaaaW.PrintLast Go.Proofs.YtbppijlcmeidaaaW.PrintMore
set_option linter.unusedVariables false

def cmp3 (a b : ByteArray) : Int := if lss a b = true then -1 else if lss b a = true then 1 else 0
theorem ret_tuple2 {a a' b b' : Value} (h1 : a = a') (h2 : b = b') : Ending.returned (.tuple #[a, b]) = Ending.returned (.tuple #[a', b']) := by rw [h1, h2]
theorem beq_of_lss {a b : ByteArray} (h1 : lss a b = false) (h2 : lss b a = false) : (a.toList == b.toList) = true := by
  rw [lss_total h1 h2]; simp
theorem beq_of_lss' {a b : ByteArray} (h2 : lss b a = true) : (a.toList == b.toList) = false := by
  rw [beq_eq_false_iff_ne]
  intro h
  rw [toList_inj h, lss_irrefl] at h2
  cases h2

set_option maxHeartbeats 1000000 in
theorem cmp_any (x0 x1 s : ByteArray) (x2 : Int) (w : World) : Calls Try.prog 85 #[.agg #[.string x0, .string x1, .int .i64 x2], .string s] w fun e w' => e = .returned (.int .i64 (cmp3 x0 s)) ∧ Below w.heap.size w w' := by
  have hu52 := Try.underlying52
  unfold cmp3
  by_cases c1 : lss x0 s = true
  · rw [if_pos c1]
    have h1 : Op.bytesLess x0.toList s.toList = true := c1
    clear c1
    go_enter Try.func85, Try.ntmps85
    go_wp2
    go_ret
    exact ⟨rfl, (Below.refl _ _).alloc (Nat.le_refl _) _⟩
  · have c1 := Bool.eq_false_iff.2 c1
    rw [if_neg (by rw [c1]; simp)]
    have h1 : Op.bytesLess x0.toList s.toList = false := c1
    by_cases c2 : lss s x0 = true
    · rw [if_pos c2]
      have h2 := beq_of_lss' c2
      clear c1 c2
      go_enter Try.func85, Try.ntmps85
      go_wp2
      go_ret
      exact ⟨rfl, (Below.refl _ _).alloc (Nat.le_refl _) _⟩
    · have c2 := Bool.eq_false_iff.2 c2
      rw [if_neg (by rw [c2]; simp)]
      have h2 := beq_of_lss c1 c2
      clear c1 c2
      go_enter Try.func85, Try.ntmps85
      go_wp2
      go_ret
      exact ⟨rfl, (Below.refl _ _).alloc (Nat.le_refl _) _⟩

/-! ### In order -/
def Sorted (l : List S52) : Prop := ∀ i j : Nat, i < j → j < l.length → lss (rd_T52 l (i : Int)).f0 (rd_T52 l (j : Int)).f0 = true
def pos (l : List S52) (s : ByteArray) : Nat := l.countP fun x => lss x.f0 s
def there (l : List S52) (s : ByteArray) : Bool := decide (pos l s < l.length) && decide (cmp3 (rd_T52 l (pos l s : Int)).f0 s = 0)
theorem countP_boundary {α : Type} (p : α → Bool) : ∀ (l : List α) (i : Nat), i ≤ l.length → (∀ t x, l[t]? = some x → t < i → p x = true) → (∀ t x, l[t]? = some x → i ≤ t → p x = false) → l.countP p = i
  | [], i, hi, _, _ => by simp at hi; simp [hi]
  | a :: r, 0, _, _, h2 => by
    rw [List.countP_eq_zero]
    intro x hx
    obtain ⟨t, ht⟩ := List.getElem?_of_mem hx
    rw [h2 t x ht (Nat.zero_le _)]
    simp
  | a :: r, i + 1, hi, h1, h2 => by
    have ha : p a = true := h1 0 a rfl (by omega)
    rw [List.countP_cons_of_pos ha, countP_boundary p r i (by simpa using hi) (fun t x h ht => h1 (t + 1) x (by simpa using h) (by omega)) (fun t x h ht => h2 (t + 1) x (by simpa using h) (by omega))]
theorem pos_eq (l : List S52) (s : ByteArray) (i : Nat) (hi : i ≤ l.length) (h1 : ∀ t : Nat, t < i → lss (rd_T52 l (t : Int)).f0 s = true) (h2 : ∀ t : Nat, i ≤ t → t < l.length → lss (rd_T52 l (t : Int)).f0 s = false) : pos l s = i := by
  refine countP_boundary _ l i hi (fun t x h ht => ?_) (fun t x h ht => ?_)
  · obtain ⟨hlt, rfl⟩ := List.getElem?_eq_some_iff.1 h
    have := h1 t ht
    rwa [rd52 l t hlt] at this
  · obtain ⟨hlt, rfl⟩ := List.getElem?_eq_some_iff.1 h
    have := h2 t ht hlt
    rwa [rd52 l t hlt] at this

set_option maxHeartbeats 4000000 in
set_option maxRecDepth 100000 in
theorem search_walk (A : Option Addr) (c : Nat) (l : List S52) (s : ByteArray) (w : World) (hr : Kd.C k52 w A l.length l) (hl : l.length ≤ 200) (hs : Sorted l) :
    Calls Try.prog 84 #[.slice A l.length c, .string s, .func (.func 85) #[] #[]] w fun e w' => e = .returned (.tuple #[.int .i64 (pos l s : Int), .bool (there l s)]) ∧ Below w.heap.size w w' := by
  have HR := Aside0.mk hr
  have HS := Aside0.mk hs
  have hu52 := Try.underlying52
  clear hr hs
  generalize hP : pos l s = P
  generalize hT : there l s = T
  have HP := Aside0.mk hP
  have HT := Aside0.mk hT
  clear hP hT
  go_enter Try.func84, Try.ntmps84
  go_wp2
  go_loopg [9, 10] l.length (fun kx v9 v10 wr => ∃ lo hi : Nat, v9 = .int .i64 lo ∧ v10 = .int .i64 hi ∧ lo ≤ hi ∧ hi ≤ l.length ∧ hi - lo ≤ kx ∧ Aside0 (Below w.heap.size w wr) ∧
    Aside0 ((∀ t : Nat, t < lo → lss (rd_T52 l (t : Int)).f0 s = true) ∧ (∀ t : Nat, hi ≤ t → t < l.length → lss (rd_T52 l (t : Int)).f0 s = false)))
  case atStart => exact ⟨0, l.length, rfl, rfl, Nat.zero_le _, Nat.le_refl _, by omega, ⟨Below.refl _ _⟩, ⟨fun t ht => absurd ht (Nat.not_lt_zero _), fun t h1 h2 => absurd h1 (by omega)⟩⟩
  case round =>
    obtain ⟨lo, hi, rfl, rfl, hlh, hin, hg, HB, HI⟩ := hrel
    by_cases hlt : lo < hi
    · obtain ⟨ad, hA, hx0, hx1, hx2⟩ := at_T52 HR.out (((lo + hi) / 2 : Nat) : Int) (by omega) (by omega)
      have hx0 := (HB.out.cell (World.block_lt_of_cell? w _ hx0)).trans hx0
      have hx1 := (HB.out.cell (World.block_lt_of_cell? w _ hx1)).trans hx1
      have hx2 := (HB.out.cell (World.block_lt_of_cell? w _ hx2)).trans hx2
      rw [Int.toNat_natCast] at hx0 hx1 hx2
      subst hA
      generalize hy : rd_T52 l (((lo + hi) / 2 : Nat) : Int) = y at hx0 hx1 hx2
      have Y := Aside0.mk hy
      clear hy
      have hc := cmp_any y.f0 y.f1 s y.f2 wr
      by_cases hyx : lss y.f0 s = true
      · have e : cmp3 y.f0 s = -1 := by unfold cmp3; rw [if_pos hyx]
        rw [e] at hc
        have HC := Aside0.mk hc
        have HX := Aside0.mk hyx
        clear hc hyx e
        go_wp2_with (go_at_call 85; refine HC.out.mono ?_; rintro e w' ⟨rfl, hb⟩)
        go_roundg (hi - ((lo + hi) / 2 + 1))
        case measure => omega
        case rel =>
          have HB2 := below_then HB.out HB.out.size hb
          have I2 : Aside0 ((∀ t : Nat, t < (lo + hi) / 2 + 1 → lss (rd_T52 l (t : Int)).f0 s = true) ∧ (∀ t : Nat, hi ≤ t → t < l.length → lss (rd_T52 l (t : Int)).f0 s = false)) := ⟨fun t ht => by
              rcases Nat.lt_or_ge t ((lo + hi) / 2) with h | h
              · exact lss_trans (HS.out t ((lo + hi) / 2) h (by omega)) (by rw [Y.out]; exact HX.out)
              · have : t = (lo + hi) / 2 := by omega
                rw [this, Y.out]; exact HX.out, HI.out.2⟩
          exact ⟨(lo + hi) / 2 + 1, hi, by rw [show ((lo : Int) + (hi : Int)) / 2 + 1 = (((lo + hi) / 2 + 1 : Nat) : Int) by omega], rfl, by omega, hin, Nat.le_refl _, ⟨HB2⟩, I2⟩
      · have hyx := Bool.eq_false_iff.2 hyx
        have e : ¬ cmp3 y.f0 s < 0 := by unfold cmp3; rw [if_neg (by rw [hyx]; simp)]; split <;> omega
        have e2 : decide (cmp3 y.f0 s < 0) = false := decide_eq_false e
        generalize cmp3 y.f0 s = z at hc e e2
        have HC := Aside0.mk hc
        have HX := Aside0.mk hyx
        clear hc hyx e
        go_wp2_with (go_at_call 85; refine HC.out.mono ?_; rintro e w' ⟨rfl, hb⟩)
        go_roundg ((lo + hi) / 2 - lo)
        case measure => omega
        case rel =>
          have HB2 := below_then HB.out HB.out.size hb
          have I2 : Aside0 ((∀ t : Nat, t < lo → lss (rd_T52 l (t : Int)).f0 s = true) ∧ (∀ t : Nat, (lo + hi) / 2 ≤ t → t < l.length → lss (rd_T52 l (t : Int)).f0 s = false)) := ⟨HI.out.1, fun t ht h2 => by
              rcases Nat.eq_or_lt_of_le ht with h | h
              · rw [← h, Y.out]; exact HX.out
              · cases hh : lss (rd_T52 l (t : Int)).f0 s with
                | false => rfl
                | true =>
                  have := lss_trans (HS.out ((lo + hi) / 2) t h h2) hh
                  rw [Y.out, HX.out] at this
                  cases this⟩
          exact ⟨lo, (lo + hi) / 2, rfl, by rw [show ((lo : Int) + (hi : Int)) / 2 = (((lo + hi) / 2 : Nat) : Int) by omega], by omega, by omega, Nat.le_refl _, ⟨HB2⟩, I2⟩
    · obtain rfl : hi = lo := by omega
      have E := Aside0.mk (pos_eq l s hi hin HI.out.1 HI.out.2)
      have hPP : P = hi := HP.out.symm.trans E.out
      have hT : T = (decide (hi < l.length) && decide (cmp3 (rd_T52 l (hi : Int)).f0 s = 0)) := by rw [← HT.out]; unfold there; rw [E.out]
      have PP := Aside0.mk hPP
      have TT := Aside0.mk hT
      clear hPP hT
      by_cases hn : hi < l.length
      · obtain ⟨ad, hA, hx0, hx1, hx2⟩ := at_T52 HR.out (hi : Int) (by omega) (by omega)
        have hx0 := (HB.out.cell (World.block_lt_of_cell? w _ hx0)).trans hx0
        have hx1 := (HB.out.cell (World.block_lt_of_cell? w _ hx1)).trans hx1
        have hx2 := (HB.out.cell (World.block_lt_of_cell? w _ hx2)).trans hx2
        rw [Int.toNat_natCast] at hx0 hx1 hx2
        subst hA
        have hn' := decide_eq_true hn
        generalize hy : rd_T52 l (hi : Int) = y at hx0 hx1 hx2
        have Y := Aside0.mk hy
        clear hy
        have hc := cmp_any y.f0 y.f1 s y.f2 wr
        have F := Aside0.mk (show T = decide (cmp3 y.f0 s = 0) by rw [TT.out, hn', Bool.true_and, Y.out])
        generalize hz : cmp3 y.f0 s = z at hc
        have HZ := Aside0.mk hz
        have HC := Aside0.mk hc
        clear hc hz
        by_cases z0 : z = 0
        · have hz0 : (z == 0) = true := by rw [z0]; rfl
          have Z0 := Aside0.mk z0
          clear z0
          go_wp2_with (go_at_call 85; refine HC.out.mono ?_; rintro e w' ⟨rfl, hb⟩)
          go_ret2
          exact ⟨by rw [PP.out, F.out, HZ.out, decide_eq_true Z0.out]; rfl, below_then HB.out HB.out.size hb⟩
        · have hz0 : (z == 0) = false := beq_eq_false_iff_ne.2 z0
          have Z0 := Aside0.mk z0
          clear z0
          go_wp2_with (go_at_call 85; refine HC.out.mono ?_; rintro e w' ⟨rfl, hb⟩)
          go_ret2
          exact ⟨by rw [PP.out, F.out, HZ.out, decide_eq_false Z0.out]; rfl, below_then HB.out HB.out.size hb⟩
      · have F := Aside0.mk (show T = false by rw [TT.out, decide_eq_false hn, Bool.false_and])
        have hn' : decide (hi < l.length) = false := decide_eq_false hn
        go_wp2
        go_ret2
        exact ⟨by rw [PP.out, F.out]; rfl, HB.out⟩
end Go.Proofs.Ytbppijlcmeidaaa.M

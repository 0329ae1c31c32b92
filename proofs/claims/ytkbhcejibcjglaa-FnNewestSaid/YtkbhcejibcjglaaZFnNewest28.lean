/- Texts of the claim FnNewest, part 28 of 29, joined: MDrawNewest, PlawswSameEntries, MNewestTwo, MMap, MSort, MSortR, MNewestWalk, MOrder. No condition beyond those that stand at each. -/
import Derived.Test.YtkbhcejibcjglaaZFnNewest26
import Derived.Test.YtkbhcejibcjglaaZFnNewest27
import Derived.Test.YtkbhcejibcjglaaZFnNewest25
import Derived.StringKeys
import Derived.Maps.OwnSet
import Derived.Maps.RangeWalk
import Derived.Test.YtkbhcejibcjglaaZFnNewest23
import Derived.Deep.QuietTactic
import Derived.Deep.RegionWith
section
/- The specification's draws of lists of entries: that they answer, and within which bounds. Condition: the code's bytes are bytes, at most 2 to the 20 of them. -/
namespace Go.Proofs.Ytkbhcejibcjglaa.M
open Go.RowKit Go.Proofs.Ytkbhcejibcjglaa.P Go.Proofs.YtkbhcejibcjglaaW.PrintWords Go.Proofs.YtkbhcejibcjglaaW.PrintLast Go.Proofs.YtkbhcejibcjglaaW.PrintMore
set_option linter.unusedVariables false
theorem xor_i64 (a b : Nat) (ha : a < 2 ^ 63) (hb : b < 2 ^ 63) : Go.bits .xor .i64 (a : Int) (b : Int) = ((a ^^^ b : Nat) : Int) := by
  have h := Nat.xor_lt_two_pow ha hb
  have e : (IntKind.i64.bits) = 64 := rfl
  unfold Go.bits
  simp only [BitVec.ofInt_natCast, BitVec.toNat_xor, BitVec.toNat_ofNat, e]
  rw [Nat.mod_eq_of_lt (by omega), Nat.mod_eq_of_lt (by omega)]
  exact IntWalk.i64_in _ (by omega)
theorem take_big (A B p q : Int) (hA : 0 ≤ A ∧ A ≤ 255) (hB : 0 ≤ B ∧ B ≤ 255) (hp : 0 ≤ p ∧ p ≤ 1048576) (hq : 0 ≤ q ∧ q ≤ 1048576) :
    0 ≤ Go.bits .xor .i64 (wrap64 ((wrap64 ((wrap64 ((wrap64 ((wrap64 A) * 131)) + (wrap64 ((wrap64 B) * 1117)))) + (wrap64 (p * 29)))) + (wrap64 ((wrap64 q) * 53)))) (wrap64 (Int.tdiv (wrap64 ((wrap64 ((wrap64 ((wrap64 ((wrap64 A) * 131)) + (wrap64 ((wrap64 B) * 1117)))) + (wrap64 (p * 29)))) + (wrap64 ((wrap64 q) * 53)))) 64)) := by
  rw [wrap_ok (x := A) (by omega) (by omega), wrap_ok (x := B) (by omega) (by omega), wrap_ok (x := q) (by omega) (by omega), wrap_ok (x := A * 131) (by omega) (by omega), wrap_ok (x := B * 1117) (by omega) (by omega), wrap_ok (x := p * 29) (by omega) (by omega), wrap_ok (x := q * 53) (by omega) (by omega)]
  rw [wrap_ok (x := A * 131 + B * 1117) (by omega) (by omega)]
  rw [wrap_ok (x := A * 131 + B * 1117 + p * 29) (by omega) (by omega)]
  rw [wrap_ok (x := A * 131 + B * 1117 + p * 29 + q * 53) (by omega) (by omega)]
  obtain ⟨n, hn⟩ : ∃ n : Nat, A * 131 + B * 1117 + p * 29 + q * 53 = (n : Int) := ⟨(A * 131 + B * 1117 + p * 29 + q * 53).toNat, by omega⟩
  have hb : n ≤ 1000000000 := by omega
  rw [hn, Int.tdiv_eq_ediv_of_nonneg (by omega), show (n : Int) / 64 = ((n / 64 : Nat) : Int) by omega, wrap_ok (x := ((n / 64 : Nat) : Int)) (by omega) (by omega), xor_i64 _ _ (by omega) (by omega)]
  omega
theorem rd_in {l : List Int} (hl : ∀ x ∈ l, 0 ≤ x ∧ x ≤ 255) (i : Int) : 0 ≤ rd l i ∧ rd l i ≤ 255 := by
  unfold rd
  rw [List.getD_eq_getElem?_getD]
  cases h : l[i.toNat]? with
  | none => exact ⟨by decide, by decide⟩
  | some x => exact hl x (List.mem_of_getElem? h)
theorem tmod_in {a n : Int} (ha : 0 ≤ a) (hn : 1 ≤ n) : 0 ≤ Int.tmod a n ∧ Int.tmod a n < n := by
  rw [Int.tmod_eq_emod_of_nonneg ha]
  exact ⟨Int.emod_nonneg _ (by omega), Int.emod_lt_of_pos _ (by omega)⟩
theorem take_ev (l : List Int) (hl : ∀ x ∈ l, 0 ≤ x ∧ x ≤ 255) (hlen : l.length ≤ 1048576) (p n : Int) (hp : 0 ≤ p ∧ p ≤ 1048576) (hn : n ≤ 1048576) :
    ∃ v, Ev (fun k => spec_l1Take.f k l p n) (v, p + 1) ∧ 0 ≤ v ∧ v ≤ 1048576 ∧ (1 ≤ n → v < n) := by
  have hw : wrap64 (p + 1) = p + 1 := wrap_ok (by omega) (by omega)
  by_cases h1 : n < 1
  · refine ⟨0, Ev.congr (fun k => if_pos h1) (Ev.step (f := fun _ => some (0, p + 1)) (fun k => by rw [spec_l1Take.j0, if_pos rfl, hw]) (Ev.now _)), by omega, by omega, fun h => by omega⟩
  · by_cases h2 : l.length = 0
    · refine ⟨0, Ev.congr (fun k => if_neg h1) (Ev.step (f := fun _ => some (0, p + 1)) (fun k => by rw [spec_l1Take.j0, if_pos (by rw [h2]; rfl), hw]) (Ev.now _)), by omega, by omega, fun h => by omega⟩
    · have hf : ((l.length : Int) == 0) = false := by simp; intro h; exact h2 (by rw [h]; rfl)
      have key : ∀ v, (∀ k, spec_l1Take.j0 (k + 1) l p n false = some (v, p + 1)) → 0 ≤ v → v < n → ∃ v, Ev (fun k => spec_l1Take.f k l p n) (v, p + 1) ∧ 0 ≤ v ∧ v ≤ 1048576 ∧ (1 ≤ n → v < n) := fun v hv h3 h4 =>
        ⟨v, Ev.congr (fun k => (if_neg h1).trans (by rw [hf])) (Ev.step (f := fun _ => some (v, p + 1)) hv (Ev.now _)), h3, by omega, fun _ => h4⟩
      have m1 := tmod_in (a := p) (n := (l.length : Int)) hp.1 (by omega)
      have m2 := tmod_in (a := p * 7 + 3) (n := (l.length : Int)) (by omega) (by omega)
      have hd : 0 ≤ Int.tdiv p (l.length : Int) ∧ Int.tdiv p (l.length : Int) ≤ 1048576 := by
        rw [Int.tdiv_eq_ediv_of_nonneg hp.1]
        exact ⟨Int.ediv_nonneg hp.1 (by omega), Int.le_trans (Int.ediv_le_self _ hp.1) hp.2⟩
      have e7 : wrap64 (p * 7) = p * 7 := wrap_ok (by omega) (by omega)
      have e73 : wrap64 (p * 7 + 3) = p * 7 + 3 := wrap_ok (by omega) (by omega)
      have hbig := take_big (rd l (Int.tmod p (l.length : Int))) (rd l (Int.tmod (p * 7 + 3) (l.length : Int))) p (Int.tdiv p (l.length : Int)) (rd_in hl _) (rd_in hl _) hp hd
      have hbm := tmod_in hbig (n := n) (by omega)
      by_cases h3 : p < (l.length : Int)
      · by_cases h4 : n ≤ 256
        · have hr := rd_in hl p
          have hm := tmod_in (a := wrap64 (rd l p)) (n := n) (by rw [wrap_ok (by omega) (by omega)]; exact hr.1) (by omega)
          exact key _ (fun k => by rw [spec_l1Take.j0, if_neg (by simp), if_pos h3, if_pos h4, if_pos hp.1, if_neg (by omega), hw]) hm.1 hm.2
        · exact key _ (fun k => by rw [spec_l1Take.j0, if_neg (by simp), if_pos h3, if_neg h4, if_neg (by omega), if_pos m1.1, if_pos m1.2, e7, e73, if_pos m2.1, if_pos m2.2, if_neg (by omega), hw]) hbm.1 hbm.2
      · exact key _ (fun k => by rw [spec_l1Take.j0, if_neg (by simp), if_neg h3, if_neg (by omega), if_pos m1.1, if_pos m1.2, e7, e73, if_pos m2.1, if_pos m2.2, if_neg (by omega), hw]) hbm.1 hbm.2
theorem dig_size (t : Int) (h0 : 0 ≤ t) (h1 : t < 10) : ((⟨#[48, 49, 50, 51, 52, 53, 54, 55, 56, 57]⟩ : ByteArray).extract t.toNat (t + 1).toNat).size = 1 := by
  rw [ByteArray.size_extract]
  show min (t + 1).toNat 10 - t.toNat = 1
  omega
theorem pad_ev (i : Int) (h0 : 0 ≤ i) (h1 : i ≤ 1000) : ∃ s, spec_l1Pad.f i = some s ∧ s.size ≤ 3 := by
  have d1 : 0 ≤ Int.tdiv i 100 ∧ Int.tdiv i 100 ≤ 1000 := by rw [Int.tdiv_eq_ediv_of_nonneg h0]; omega
  have d2 : 0 ≤ Int.tdiv i 10 ∧ Int.tdiv i 10 ≤ 1000 := by rw [Int.tdiv_eq_ediv_of_nonneg h0]; omega
  have m1 := tmod_in (n := 10) d1.1 (by omega)
  have m2 := tmod_in (n := 10) d2.1 (by omega)
  have m3 := tmod_in (n := 10) h0 (by omega)
  unfold spec_l1Pad.f
  rw [wrap_ok (x := Int.tdiv i 100) (by omega) (by omega), wrap_ok (x := Int.tdiv i 10) (by omega) (by omega)]
  generalize Int.tmod (Int.tdiv i 100) 10 = A at m1 ⊢
  generalize Int.tmod (Int.tdiv i 10) 10 = B at m2 ⊢
  generalize Int.tmod i 10 = C at m3 ⊢
  rw [wrap_ok (x := A + 1) (by omega) (by omega), wrap_ok (x := B + 1) (by omega) (by omega), wrap_ok (x := C + 1) (by omega) (by omega)]
  have s1 := dig_size A m1.1 m1.2
  have s2 := dig_size B m2.1 m2.2
  have s3 := dig_size C m3.1 m3.2
  rw [if_pos m1.1, if_pos (by omega), if_pos (by omega), if_pos m2.1, if_pos (by omega), if_pos (by omega), if_pos (by omega), if_pos m3.1, if_pos (by omega), if_pos (by omega), if_pos (by rw [ByteArray.size_append]; omega)]
  exact ⟨_, rfl, by rw [ByteArray.size_append, ByteArray.size_append]; omega⟩
theorem long_ev (n : Int) (b : ByteArray) (hb : b.size = 1) (h0 : 0 ≤ n) (h1 : n ≤ 10000000) : spec_l1Long.f n b = some (rep b n.toNat) := if_pos ⟨hb, h0, h1⟩
section
variable (l : List Int) (hl : ∀ x ∈ l, 0 ≤ x ∧ x ≤ 255) (hlen : l.length ≤ 1048576)
include hl hlen
theorem drawKey_ev (p : Int) (hp : 0 ≤ p ∧ p ≤ 1048576) : ∃ s, Ev (fun k => spec_l2DrawKey.f k l p) (s, p + 1) ∧ s.size ≤ 70 := by
  obtain ⟨v, hv, h0, _, h1⟩ := take_ev l hl hlen p 24 hp (by omega)
  have h1 := h1 (by omega)
  by_cases c : v < 20
  · refine ⟨(⟨#[97, 98, 99, 100, 101, 102, 103, 104, 105, 106, 107, 108, 109, 110, 111, 112, 113, 114, 115, 116]⟩ : ByteArray).extract v.toNat (v + 1).toNat, Ev.bind hv (ev_pure (fun k => ?_)), ?_⟩
    · rw [if_pos c, if_pos h0, wrap_ok (x := v + 1) (by omega) (by omega), if_pos (by omega), if_pos (by omega)]
    · rw [ByteArray.size_extract]
      omega
  · by_cases c8 : v = 20
    · exact ⟨_, Ev.bind hv (ev_pure (fun k => (if_neg c).trans (if_pos c8))), by decide⟩
    · by_cases c9 : v = 21
      · exact ⟨_, Ev.bind hv (ev_pure (fun k => (if_neg c).trans ((if_neg c8).trans (if_pos c9)))), by decide⟩
      · by_cases c10 : v = 22
        · have hL := long_ev 70 ⟨#[107]⟩ rfl (by omega) (by omega)
          exact ⟨_, Ev.bind hv (ev_pure (fun k => (if_neg c).trans ((if_neg c8).trans ((if_neg c9).trans ((if_pos c10).trans (by rw [hL]; rfl)))))), by rw [rep_size rfl]; decide⟩
        · exact ⟨_, Ev.bind hv (ev_pure (fun k => (if_neg c).trans ((if_neg c8).trans ((if_neg c9).trans (if_neg c10))))), by decide⟩
theorem drawVal_ev (p : Int) (hp : 0 ≤ p ∧ p ≤ 1048500) : ∃ s, Ev (fun k => spec_l2DrawVal.f k l p) (s, p + 2) := by
  obtain ⟨v, hv, h0, _, h1⟩ := take_ev l hl hlen p 16 (by omega) (by omega)
  obtain ⟨u, hu, g0, _, g1⟩ := take_ev l hl hlen (p + 1) 100 (by omega) (by omega)
  have h1 := h1 (by omega)
  have g1 := g1 (by omega)
  rw [show p + 1 + 1 = p + 2 by omega] at hu
  have go : ∀ {s : ByteArray} {F : Nat → Option (ByteArray × Int)}, (∀ k, F k = some (s, p + 2)) → Ev (fun k => F k) (s, p + 2) := fun h => ev_pure h
  by_cases c : v < 2
  · exact ⟨_, Ev.bind hv (Ev.bind hu (ev_pure (fun k => if_pos c)))⟩
  · by_cases c14 : v = 14
    · have hL := long_ev (wrap64 (u * 3)) ⟨#[118]⟩ rfl (by rw [wrap_ok (by omega) (by omega)]; omega) (by rw [wrap_ok (by omega) (by omega)]; omega)
      exact ⟨_, Ev.bind hv (Ev.bind hu (ev_pure (fun k => (if_neg c).trans ((if_pos c14).trans (by rw [hL]; rfl)))))⟩
    · by_cases c15 : v = 15
      · have hL := long_ev u ⟨#[0]⟩ rfl (by omega) (by omega)
        have hM := long_ev 20 ⟨#[0]⟩ rfl (by omega) (by omega)
        have s1 : (rep (⟨#[0]⟩ : ByteArray) u.toNat).size ≤ 1000 := by rw [rep_size rfl]; omega
        have s2 : (rep (⟨#[0]⟩ : ByteArray) (20 : Int).toNat).size ≤ 1000 := by rw [rep_size rfl]; decide
        refine ⟨(rep (⟨#[0]⟩ : ByteArray) u.toNat ++ (⟨#[87, 99]⟩ : ByteArray)) ++ rep (⟨#[0]⟩ : ByteArray) (20 : Int).toNat, Ev.bind hv (Ev.bind hu (ev_pure (fun k => (if_neg c).trans ((if_neg c14).trans ((if_pos c15).trans ?_)))))⟩
        rw [hL]
        show (if _ then _ else _) = _
        rw [if_pos (by omega), hM]
        show (if _ then _ else _) = _
        rw [if_pos (by rw [ByteArray.size_append, show (⟨#[87, 99]⟩ : ByteArray).size = 2 from rfl]; omega)]
      · obtain ⟨t, ht, hs⟩ := pad_ev u g0 (by omega)
        refine ⟨(⟨#[118]⟩ : ByteArray) ++ t, Ev.bind hv (Ev.bind hu (ev_pure (fun k => (if_neg c).trans ((if_neg c14).trans ((if_neg c15).trans ?_)))))⟩
        rw [ht]
        show (if _ then _ else _) = _
        rw [if_pos (by omega)]
set_option maxHeartbeats 1000000 in
theorem drawEntries_loop (n s : Int) (hn : n ≤ 9) (hs : 0 ≤ s ∧ s ≤ 12) : ∀ d i : Nat, (i : Int) + d = n → ∀ (p : Int) (out : List S42), 0 ≤ p ∧ p + 4 * (d : Int) ≤ 1048400 → out.length = i → (∀ x ∈ out, x.f0.size ≤ 70) →
    ∃ r q, Ev (fun k => spec_l2DrawEntries.l0 k l p n s out (i : Int)) (r, q) ∧ r.length ≤ 9 ∧ (∀ x ∈ r, x.f0.size ≤ 70) ∧ q = p + 4 * (d : Int) := by
  intro d
  induction d with
  | zero =>
    intro i hi p out hp ho hk
    refine ⟨out, p, Ev.step (f := fun _ => some (out, p)) (fun k => ?_) (Ev.now _), by omega, hk, by omega⟩
    rw [spec_l2DrawEntries.l0, if_neg (by omega)]
  | succ d ih =>
    intro i hi p out hp ho hk
    obtain ⟨key, hkey, hks⟩ := drawKey_ev l hl hlen p (by omega)
    obtain ⟨val, hval⟩ := drawVal_ev l hl hlen (p + 1) (by omega)
    obtain ⟨a, ha, _⟩ := take_ev l hl hlen (p + 1 + 2) 4 (by omega) (by omega)
    rw [show p + 1 + 2 + 1 = p + 4 by omega] at ha
    have hw : wrap64 ((i : Int) + 1) = ((i + 1 : Nat) : Int) := wrap_succ (by omega)
    have hlt : out.length < 2932031007402 := Nat.lt_of_le_of_lt (show out.length ≤ 10 by omega) (by decide)
    obtain ⟨e, hke, hgo⟩ : ∃ e : S42, e.f0.size ≤ 70 ∧ ∀ k, (if a = 0 then spec_l2DrawEntries.l0 k l (p + 4) n s (out ++ [(⟨key, wrap64 (s + (i : Int)), 0, (⟨#[]⟩ : ByteArray)⟩ : S42)]) ((i + 1 : Nat) : Int) else spec_l2DrawEntries.l0 k l (p + 4) n s (out ++ [(⟨key, wrap64 (s + (i : Int)), 1, val⟩ : S42)]) ((i + 1 : Nat) : Int)) = spec_l2DrawEntries.l0 k l (p + 4) n s (out ++ [e]) ((i + 1 : Nat) : Int) := by
      by_cases c : a = 0
      · exact ⟨_, hks, fun k => if_pos c⟩
      · exact ⟨_, hks, fun k => if_neg c⟩
    obtain ⟨r, q, hr, hl9, hrk, hq⟩ := ih (i + 1) (by omega) (p + 4) (out ++ [e]) (by omega) (by rw [List.length_append, ho]; rfl) (fun x hx => by
      rcases List.mem_append.1 hx with h | h
      · exact hk x h
      · simp at h; rw [h]; exact hke)
    refine ⟨r, q, Ev.step (f := fun k => (spec_l2DrawKey.f k l p).bind fun b1 => (spec_l2DrawVal.f k l b1.2).bind fun b2 => (spec_l1Take.f k l b2.2 4).bind fun b3 => (if b3.1 = 0 then spec_l2DrawEntries.l0 k l b3.2 n s (out ++ [(⟨b1.1, wrap64 (s + (i : Int)), 0, (⟨#[]⟩ : ByteArray)⟩ : S42)]) ((i + 1 : Nat) : Int) else spec_l2DrawEntries.l0 k l b3.2 n s (out ++ [(⟨b1.1, wrap64 (s + (i : Int)), 1, b2.1⟩ : S42)]) ((i + 1 : Nat) : Int))) (fun k => ?_) (Ev.bind hkey (Ev.bind hval (Ev.bind ha (Ev.congr hgo hr)))), hl9, hrk, by omega⟩
    rw [spec_l2DrawEntries.l0, if_pos (by omega)]
    simp only [if_pos hlt, hw]
theorem drawEntries_ev (p n s : Int) (hp : 0 ≤ p ∧ p ≤ 1048300) (hn : 0 ≤ n ∧ n ≤ 9) (hs : 0 ≤ s ∧ s ≤ 12) :
    ∃ r q, Ev (fun k => spec_l2DrawEntries.f k l p n s) (r, q) ∧ r.length ≤ 9 ∧ (∀ x ∈ r, x.f0.size ≤ 70) ∧ p ≤ q ∧ q ≤ p + 36 := by
  obtain ⟨r, q, h1, h2, h3, h4⟩ := drawEntries_loop l hl hlen n s hn.2 hs n.toNat 0 (by omega) p [] (by omega) rfl (by simp)
  exact ⟨r, q, h1, h2, h3, by omega, by omega⟩
set_option maxHeartbeats 1000000 in
theorem drawNewest_loop (n : Int) (hn : n ≤ 5) : ∀ d i : Nat, (i : Int) + d = n → ∀ (p : Int) (out : List (List S42)), 0 ≤ p ∧ p + 40 * (d : Int) ≤ 1048300 → out.length = i → (∀ r ∈ out, r.length ≤ 9 ∧ ∀ x ∈ r, x.f0.size ≤ 70) →
    ∃ r, Ev (fun k => spec_DrawNewest.l0 k l n p out (i : Int)) r ∧ r.length ≤ 5 ∧ (∀ q ∈ r, q.length ≤ 9 ∧ ∀ x ∈ q, x.f0.size ≤ 70) := by
  intro d
  induction d with
  | zero =>
    intro i hi p out hp ho hk
    refine ⟨out, Ev.step (f := fun _ => some out) (fun k => ?_) (Ev.now _), by omega, hk⟩
    rw [spec_DrawNewest.l0, if_neg (by omega)]
  | succ d ih =>
    intro i hi p out hp ho hk
    have h10 : out.length ≤ 10 := by clear hp hk ih; omega
    have h10' : i ≤ 10 := by rw [← ho]; exact h10
    obtain ⟨m, hm, m0, _, m1⟩ := take_ev l hl hlen p 9 (by omega) (by omega)
    obtain ⟨s, hs, s0, _, s1⟩ := take_ev l hl hlen (p + 1) 12 (by omega) (by omega)
    have m1 := m1 (by omega)
    have s1 := s1 (by omega)
    obtain ⟨es, q, he, he9, hek, hq0, hq1⟩ := drawEntries_ev l hl hlen (p + 1 + 1) m s (by omega) (by omega) (by omega)
    have hw : wrap64 ((i : Int) + 1) = ((i + 1 : Nat) : Int) := wrap_succ (Nat.lt_of_le_of_lt h10' (by decide))
    have hlt : out.length < 5864062014805 := Nat.lt_of_le_of_lt h10 (by decide)
    obtain ⟨r, hr, hr5, hrk⟩ := ih (i + 1) (by omega) q (out ++ [es]) (by omega) (by rw [List.length_append, ho]; rfl) (fun x hx => by
      rcases List.mem_append.1 hx with h | h
      · exact hk x h
      · simp at h; rw [h]; exact ⟨he9, hek⟩)
    refine ⟨r, Ev.step (f := fun k => (spec_l1Take.f k l p 9).bind fun b1 => (spec_l1Take.f k l b1.2 12).bind fun b2 => (spec_l2DrawEntries.f k l b2.2 b1.1 b2.1).bind fun b3 => spec_DrawNewest.l0 k l n b3.2 (out ++ [b3.1]) ((i + 1 : Nat) : Int)) (fun k => ?_) (Ev.bind hm (Ev.bind hs (Ev.bind he hr))), hr5, hrk⟩
    rw [spec_DrawNewest.l0, if_pos (by omega)]
    simp only [if_pos hlt, hw]
theorem drawNewest_ev : ∃ r, Ev (fun k => spec_DrawNewest.f k l) r ∧ r.length ≤ 5 ∧ (∀ q ∈ r, q.length ≤ 9 ∧ ∀ x ∈ q, x.f0.size ≤ 70) := by
  obtain ⟨n, hn, n0, _, n1⟩ := take_ev l hl hlen 0 5 (by omega) (by omega)
  have n1 := n1 (by omega)
  obtain ⟨r, hr, h5, hk⟩ := drawNewest_loop l hl hlen n (by omega) n.toNat 0 (by omega) (0 + 1) [] (by omega) rfl (by simp)
  exact ⟨r, Ev.bind hn hr, h5, hk⟩
end
theorem flat_few : ∀ (r : List (List S42)), (∀ q ∈ r, q.length ≤ 9) → r.flatten.length ≤ 9 * r.length := by
  intro r
  induction r with
  | nil => intro _; exact Nat.le_refl _
  | cons q r ih =>
    intro h
    have h1 := ih (fun x hx => h x (List.mem_cons_of_mem _ hx))
    have h2 := h q List.mem_cons_self
    rw [List.flatten_cons, List.length_append, List.length_cons]
    omega
theorem flat_keys {r : List (List S42)} (h : ∀ q ∈ r, ∀ x ∈ q, x.f0.size ≤ 70) : ∀ x ∈ r.flatten, x.f0.size ≤ 9223372036854775000 := by
  intro x hx
  obtain ⟨q, hq, hm⟩ := List.mem_flatten.1 hx
  have := h q hq x hm
  omega
end Go.Proofs.Ytkbhcejibcjglaa.M
end
section
-- Written by a changed copy of the print program, one module a function. Not trusted: Lean checks it.
namespace Go.Proofs.Ytkbhcejibcjglaa.P
open Go.RowKit Go.Proofs.YtkbhcejibcjglaaW.PrintWords Go.Proofs.YtkbhcejibcjglaaW.PrintLast Go.Proofs.YtkbhcejibcjglaaW.PrintMore
attribute [local go_sem] max2_int min2_int max_two min_two max_three min_three max_four min_four   -- for this text's walks alone
set_option linter.unusedVariables false
set_option linter.unusedSimpArgs false

/-! ### laws_wSameEntries: function 7 -/
def laws_wSameEntries.l0 : Nat → List (S42) → List (S42) → Int → Option (Bool)
 | 0, _, _, _ => none
 | k + 1, x0, x1, x5 => if x5 < (x0.length : Int) then (if 0 ≤ x5 then (if x5 < (x1.length : Int) then (if ((rd_T42 x0 x5).f0).toList = ((rd_T42 x1 x5).f0).toList then (if ((rd_T42 x0 x5).f1) = ((rd_T42 x1 x5).f1) then (if ((rd_T42 x0 x5).f2) = ((rd_T42 x1 x5).f2) then (if ((rd_T42 x0 x5).f3).toList = ((rd_T42 x1 x5).f3).toList then (laws_wSameEntries.l0 k x0 x1 (wrap64 (x5 + 1))) else (some false)) else (some false)) else (some false)) else (some false)) else (none)) else (none)) else (some true)
def laws_wSameEntries.f (k : Nat) (l0 : List (S42)) (l1 : List (S42)) : Option (Bool) := if (l0.length : Int) = (l1.length : Int) then (laws_wSameEntries.l0 k l0 l1 0) else (some false)
theorem laws_wSameEntries.mono_l : ∀ k, (∀ y0 y1 y2, LeO (laws_wSameEntries.l0 k y0 y1 y2) (laws_wSameEntries.l0 (k + 1) y0 y1 y2))
 | 0 => fun _ _ _ r h => by simp [laws_wSameEntries.l0] at h
 | k + 1 => by
  have ih0 := laws_wSameEntries.mono_l k
  ·intro y0 y1 y2
   unfold laws_wSameEntries.l0
   repeat' first
   | (with_reducible exact ih0 _ _ _)
   | (with_reducible exact LeO.refl _)
   | (with_reducible exact LeO.none _)
   | (with_reducible refine LeO.ite ?_ ?_)
   | (with_reducible refine LeO.bind ?_ (fun _ => ?_))
   | exact ih0 _ _ _
   | exact LeO.none _
   | refine LeO.ite ?_ ?_
   | refine LeO.bind ?_ (fun _ => ?_)
theorem laws_wSameEntries.mono : ∀ a0 a1 k, LeO (laws_wSameEntries.f k a0 a1) (laws_wSameEntries.f (k + 1) a0 a1) := by
 intro a0 a1 k
 have ih0 := laws_wSameEntries.mono_l k
 unfold laws_wSameEntries.f
 repeat' first
   | (with_reducible exact ih0 _ _ _)
   | (with_reducible exact LeO.refl _)
   | (with_reducible exact LeO.none _)
   | (with_reducible refine LeO.ite ?_ ?_)
   | (with_reducible refine LeO.bind ?_ (fun _ => ?_))
   | exact ih0 _ _ _
   | exact LeO.none _
   | refine LeO.ite ?_ ?_
   | refine LeO.bind ?_ (fun _ => ?_)
set_option maxHeartbeats 8000000 in
set_option maxRecDepth 100000 in
theorem laws_wSameEntries.calls (k : Nat) (A0 : Option Addr) (c0 : Nat) (l0 : List (S42)) (A1 : Option Addr) (c1 : Nat) (l1 : List (S42)) (r : Bool) (w : World) (hr0 : Kd.C k42 w A0 l0.length l0) (hc0 : l0.length ≤ c0) (hr1 : Kd.C k42 w A1 l1.length l1) (hc1 : l1.length ≤ c1) (h : laws_wSameEntries.f k l0 l1 = some r) :
  Calls Try.prog 7 #[.slice A0 l0.length c0, .slice A1 l1.length c1] w fun e w' => e = .returned (.bool r) ∧ Drawn0 w w' := by
 have HR0 := Aside0.mk hr0
 have HC0 := Aside0.mk hc0
 clear hr0 hc0
 have HR1 := Aside0.mk hr1
 have HC1 := Aside0.mk hc1
 clear hr1 hc1
 have H : (if (l0.length : Int) = (l1.length : Int) then (laws_wSameEntries.l0 k l0 l1 0) else (some false)) = some r := h
 clear h
 by_cases c3 : (l0.length : Int) = (l1.length : Int)
 ·rw [if_pos c3] at H
  have c3b0 : ((l0.length : Int) == (l1.length : Int)) = true := beq_iff_eq.mpr c3
  have c3b1 : ((l0.length : Int) != (l1.length : Int)) = false := bne_eq_false_iff_eq.mpr c3
  have c3b2 : (l0.length == l1.length) = true := by first | simpa using c3 | (simp at c3 ⊢; omega)
  clear c3
  have H' := Aside0.mk H
  clear H
  go_enter Try.func7, Try.ntmps7
  go_wp2
  repeat (go_quiet (fail); try go_wp2)
  go_loopg [5] k (fun kq v5 w' => ∃ (x5_1 : Int), v5 = .int .i64 x5_1 ∧ Aside0 (laws_wSameEntries.l0 kq l0 l1 x5_1 = some r) ∧ Aside0 (kq ≤ k) ∧ Drawn0 w w')
  case atStart => exact ⟨(0), (by first | rfl | (simp; done) | (simp [*]; done)), H', ⟨Nat.le_refl _⟩, by repeat (first | exact Drawn0.refl _ | apply Drawn0.step)⟩
  case round =>
   clear H'
   try clear c1
   try clear p2
   try clear c3
   try clear c3b0
   try clear c3b1
   try clear c3b2
   obtain ⟨x5_1, rfl, HA, HK1, ⟨m1, rfl⟩⟩ := hrel
   cases gk with
   | zero => exact absurd HA.out (by simp [laws_wSameEntries.l0])
   | succ k1 =>
    have H := HA.out
    clear HA
    simp only [laws_wSameEntries.l0] at H
    by_cases c4 : x5_1 < (l0.length : Int)
    ·rw [if_pos c4] at H
     have c4b0 : decide (x5_1 < (l0.length : Int)) = true := decide_eq_true c4
     clear c4
     by_cases c5 : 0 ≤ x5_1
     ·rw [if_pos c5] at H
      have c5b0 : decide (0 ≤ x5_1) = true := decide_eq_true c5
      clear c5
      by_cases c6 : x5_1 < (l1.length : Int)
      ·rw [if_pos c6] at H
       have c6b0 : decide (x5_1 < (l1.length : Int)) = true := decide_eq_true c6
       clear c6
       by_cases c7 : ((rd_T42 l0 x5_1).f0).toList = ((rd_T42 l1 x5_1).f0).toList
       ·rw [if_pos c7] at H
        have c7b0 : (((rd_T42 l0 x5_1).f0).toList == ((rd_T42 l1 x5_1).f0).toList) = true := beq_iff_eq.mpr c7
        have c7b1 : (((rd_T42 l0 x5_1).f0).toList != ((rd_T42 l1 x5_1).f0).toList) = false := bne_eq_false_iff_eq.mpr c7
        clear c7
        by_cases c8 : ((rd_T42 l0 x5_1).f1) = ((rd_T42 l1 x5_1).f1)
        ·rw [if_pos c8] at H
         have c8b0 : (((rd_T42 l0 x5_1).f1) == ((rd_T42 l1 x5_1).f1)) = true := beq_iff_eq.mpr c8
         have c8b1 : (((rd_T42 l0 x5_1).f1) != ((rd_T42 l1 x5_1).f1)) = false := bne_eq_false_iff_eq.mpr c8
         clear c8
         by_cases c9 : ((rd_T42 l0 x5_1).f2) = ((rd_T42 l1 x5_1).f2)
         ·rw [if_pos c9] at H
          have c9b0 : (((rd_T42 l0 x5_1).f2) == ((rd_T42 l1 x5_1).f2)) = true := beq_iff_eq.mpr c9
          have c9b1 : (((rd_T42 l0 x5_1).f2) != ((rd_T42 l1 x5_1).f2)) = false := bne_eq_false_iff_eq.mpr c9
          clear c9
          by_cases c10 : ((rd_T42 l0 x5_1).f3).toList = ((rd_T42 l1 x5_1).f3).toList
          ·rw [if_pos c10] at H
           have c10b0 : (((rd_T42 l0 x5_1).f3).toList == ((rd_T42 l1 x5_1).f3).toList) = true := beq_iff_eq.mpr c10
           have c10b1 : (((rd_T42 l0 x5_1).f3).toList != ((rd_T42 l1 x5_1).f3).toList) = false := bne_eq_false_iff_eq.mpr c10
           clear c10
           have H' := Aside0.mk H
           clear H
           have p247 : 0 ≤ (x5_1 : Int) := of_decide_eq_true (by first | (with_reducible assumption) | assumption)
           have q247 : x5_1 < (l0.length : Int) := of_decide_eq_true (by first | (with_reducible assumption) | assumption)
           obtain ⟨ad247, e247, hx247_0, hx247_1, hx247_2, hx247_3⟩ := at_T42 HR0.out x5_1 p247 q247
           cases e247
           replace p247 := eq_true p247
           replace q247 := eq_true q247
           have p248 : 0 ≤ (x5_1 : Int) := of_decide_eq_true (by first | (with_reducible assumption) | assumption)
           have q248 : x5_1 < (l1.length : Int) := of_decide_eq_true (by first | (with_reducible assumption) | assumption)
           obtain ⟨ad248, e248, hx248_0, hx248_1, hx248_2, hx248_3⟩ := at_T42 HR1.out x5_1 p248 q248
           cases e248
           replace p248 := eq_true p248
           replace q248 := eq_true q248
           have p249 : 0 ≤ (x5_1 : Int) := of_decide_eq_true (by first | (with_reducible assumption) | assumption)
           have q249 : x5_1 < (l0.length : Int) := of_decide_eq_true (by first | (with_reducible assumption) | assumption)
           obtain ⟨ad249, e249, hx249_0, hx249_1, hx249_2, hx249_3⟩ := at_T42 HR0.out x5_1 p249 q249
           obtain rfl : ad247 = ad249 := (by injection e249)
           replace p249 := eq_true p249
           replace q249 := eq_true q249
           have p250 : 0 ≤ (x5_1 : Int) := of_decide_eq_true (by first | (with_reducible assumption) | assumption)
           have q250 : x5_1 < (l1.length : Int) := of_decide_eq_true (by first | (with_reducible assumption) | assumption)
           obtain ⟨ad250, e250, hx250_0, hx250_1, hx250_2, hx250_3⟩ := at_T42 HR1.out x5_1 p250 q250
           obtain rfl : ad248 = ad250 := (by injection e250)
           replace p250 := eq_true p250
           replace q250 := eq_true q250
           have p251 : 0 ≤ (x5_1 : Int) := of_decide_eq_true (by first | (with_reducible assumption) | assumption)
           have q251 : x5_1 < (l0.length : Int) := of_decide_eq_true (by first | (with_reducible assumption) | assumption)
           obtain ⟨ad251, e251, hx251_0, hx251_1, hx251_2, hx251_3⟩ := at_T42 HR0.out x5_1 p251 q251
           obtain rfl : ad247 = ad251 := (by injection e251)
           replace p251 := eq_true p251
           replace q251 := eq_true q251
           have p252 : 0 ≤ (x5_1 : Int) := of_decide_eq_true (by first | (with_reducible assumption) | assumption)
           have q252 : x5_1 < (l1.length : Int) := of_decide_eq_true (by first | (with_reducible assumption) | assumption)
           obtain ⟨ad252, e252, hx252_0, hx252_1, hx252_2, hx252_3⟩ := at_T42 HR1.out x5_1 p252 q252
           obtain rfl : ad248 = ad252 := (by injection e252)
           replace p252 := eq_true p252
           replace q252 := eq_true q252
           have p253 : 0 ≤ (x5_1 : Int) := of_decide_eq_true (by first | (with_reducible assumption) | assumption)
           have q253 : x5_1 < (l0.length : Int) := of_decide_eq_true (by first | (with_reducible assumption) | assumption)
           obtain ⟨ad253, e253, hx253_0, hx253_1, hx253_2, hx253_3⟩ := at_T42 HR0.out x5_1 p253 q253
           obtain rfl : ad247 = ad253 := (by injection e253)
           replace p253 := eq_true p253
           replace q253 := eq_true q253
           have p254 : 0 ≤ (x5_1 : Int) := of_decide_eq_true (by first | (with_reducible assumption) | assumption)
           have q254 : x5_1 < (l1.length : Int) := of_decide_eq_true (by first | (with_reducible assumption) | assumption)
           obtain ⟨ad254, e254, hx254_0, hx254_1, hx254_2, hx254_3⟩ := at_T42 HR1.out x5_1 p254 q254
           obtain rfl : ad248 = ad254 := (by injection e254)
           replace p254 := eq_true p254
           replace q254 := eq_true q254
           go_wp2
           repeat (go_quiet (fail); try go_wp2)
           go_roundg k1
           case measure => have := HK1.out; omega
           case rel => exact ⟨(wrap64 (x5_1 + 1)), (by first | rfl | (simp; done) | (simp [*]; done)), H', ⟨by have := HK1.out; omega⟩, by repeat (first | exact Drawn0.refl _ | apply Drawn0.step)⟩
          ·rw [if_neg c10] at H
           have c10b0 : (((rd_T42 l0 x5_1).f3).toList == ((rd_T42 l1 x5_1).f3).toList) = false := beq_eq_false_iff_ne.mpr c10
           have c10b1 : (((rd_T42 l0 x5_1).f3).toList != ((rd_T42 l1 x5_1).f3).toList) = true := bne_iff_ne.mpr c10
           obtain rfl := Option.some.inj H
           have p247 : 0 ≤ (x5_1 : Int) := of_decide_eq_true (by first | (with_reducible assumption) | assumption)
           have q247 : x5_1 < (l0.length : Int) := of_decide_eq_true (by first | (with_reducible assumption) | assumption)
           obtain ⟨ad247, e247, hx247_0, hx247_1, hx247_2, hx247_3⟩ := at_T42 HR0.out x5_1 p247 q247
           cases e247
           replace p247 := eq_true p247
           replace q247 := eq_true q247
           have p248 : 0 ≤ (x5_1 : Int) := of_decide_eq_true (by first | (with_reducible assumption) | assumption)
           have q248 : x5_1 < (l1.length : Int) := of_decide_eq_true (by first | (with_reducible assumption) | assumption)
           obtain ⟨ad248, e248, hx248_0, hx248_1, hx248_2, hx248_3⟩ := at_T42 HR1.out x5_1 p248 q248
           cases e248
           replace p248 := eq_true p248
           replace q248 := eq_true q248
           have p249 : 0 ≤ (x5_1 : Int) := of_decide_eq_true (by first | (with_reducible assumption) | assumption)
           have q249 : x5_1 < (l0.length : Int) := of_decide_eq_true (by first | (with_reducible assumption) | assumption)
           obtain ⟨ad249, e249, hx249_0, hx249_1, hx249_2, hx249_3⟩ := at_T42 HR0.out x5_1 p249 q249
           obtain rfl : ad247 = ad249 := (by injection e249)
           replace p249 := eq_true p249
           replace q249 := eq_true q249
           have p250 : 0 ≤ (x5_1 : Int) := of_decide_eq_true (by first | (with_reducible assumption) | assumption)
           have q250 : x5_1 < (l1.length : Int) := of_decide_eq_true (by first | (with_reducible assumption) | assumption)
           obtain ⟨ad250, e250, hx250_0, hx250_1, hx250_2, hx250_3⟩ := at_T42 HR1.out x5_1 p250 q250
           obtain rfl : ad248 = ad250 := (by injection e250)
           replace p250 := eq_true p250
           replace q250 := eq_true q250
           have p251 : 0 ≤ (x5_1 : Int) := of_decide_eq_true (by first | (with_reducible assumption) | assumption)
           have q251 : x5_1 < (l0.length : Int) := of_decide_eq_true (by first | (with_reducible assumption) | assumption)
           obtain ⟨ad251, e251, hx251_0, hx251_1, hx251_2, hx251_3⟩ := at_T42 HR0.out x5_1 p251 q251
           obtain rfl : ad247 = ad251 := (by injection e251)
           replace p251 := eq_true p251
           replace q251 := eq_true q251
           have p252 : 0 ≤ (x5_1 : Int) := of_decide_eq_true (by first | (with_reducible assumption) | assumption)
           have q252 : x5_1 < (l1.length : Int) := of_decide_eq_true (by first | (with_reducible assumption) | assumption)
           obtain ⟨ad252, e252, hx252_0, hx252_1, hx252_2, hx252_3⟩ := at_T42 HR1.out x5_1 p252 q252
           obtain rfl : ad248 = ad252 := (by injection e252)
           replace p252 := eq_true p252
           replace q252 := eq_true q252
           have p253 : 0 ≤ (x5_1 : Int) := of_decide_eq_true (by first | (with_reducible assumption) | assumption)
           have q253 : x5_1 < (l0.length : Int) := of_decide_eq_true (by first | (with_reducible assumption) | assumption)
           obtain ⟨ad253, e253, hx253_0, hx253_1, hx253_2, hx253_3⟩ := at_T42 HR0.out x5_1 p253 q253
           obtain rfl : ad247 = ad253 := (by injection e253)
           replace p253 := eq_true p253
           replace q253 := eq_true q253
           have p254 : 0 ≤ (x5_1 : Int) := of_decide_eq_true (by first | (with_reducible assumption) | assumption)
           have q254 : x5_1 < (l1.length : Int) := of_decide_eq_true (by first | (with_reducible assumption) | assumption)
           obtain ⟨ad254, e254, hx254_0, hx254_1, hx254_2, hx254_3⟩ := at_T42 HR1.out x5_1 p254 q254
           obtain rfl : ad248 = ad254 := (by injection e254)
           replace p254 := eq_true p254
           replace q254 := eq_true q254
           go_wp2
           repeat (go_quiet (fail); try go_wp2)
           go_ret
           exact ⟨by first | rfl | (simp; done) | (simp [*]; done), by repeat (first | exact Drawn0.refl _ | apply Drawn0.step)⟩
         ·rw [if_neg c9] at H
          have c9b0 : (((rd_T42 l0 x5_1).f2) == ((rd_T42 l1 x5_1).f2)) = false := beq_eq_false_iff_ne.mpr c9
          have c9b1 : (((rd_T42 l0 x5_1).f2) != ((rd_T42 l1 x5_1).f2)) = true := bne_iff_ne.mpr c9
          obtain rfl := Option.some.inj H
          have p247 : 0 ≤ (x5_1 : Int) := of_decide_eq_true (by first | (with_reducible assumption) | assumption)
          have q247 : x5_1 < (l0.length : Int) := of_decide_eq_true (by first | (with_reducible assumption) | assumption)
          obtain ⟨ad247, e247, hx247_0, hx247_1, hx247_2, hx247_3⟩ := at_T42 HR0.out x5_1 p247 q247
          cases e247
          replace p247 := eq_true p247
          replace q247 := eq_true q247
          have p248 : 0 ≤ (x5_1 : Int) := of_decide_eq_true (by first | (with_reducible assumption) | assumption)
          have q248 : x5_1 < (l1.length : Int) := of_decide_eq_true (by first | (with_reducible assumption) | assumption)
          obtain ⟨ad248, e248, hx248_0, hx248_1, hx248_2, hx248_3⟩ := at_T42 HR1.out x5_1 p248 q248
          cases e248
          replace p248 := eq_true p248
          replace q248 := eq_true q248
          have p249 : 0 ≤ (x5_1 : Int) := of_decide_eq_true (by first | (with_reducible assumption) | assumption)
          have q249 : x5_1 < (l0.length : Int) := of_decide_eq_true (by first | (with_reducible assumption) | assumption)
          obtain ⟨ad249, e249, hx249_0, hx249_1, hx249_2, hx249_3⟩ := at_T42 HR0.out x5_1 p249 q249
          obtain rfl : ad247 = ad249 := (by injection e249)
          replace p249 := eq_true p249
          replace q249 := eq_true q249
          have p250 : 0 ≤ (x5_1 : Int) := of_decide_eq_true (by first | (with_reducible assumption) | assumption)
          have q250 : x5_1 < (l1.length : Int) := of_decide_eq_true (by first | (with_reducible assumption) | assumption)
          obtain ⟨ad250, e250, hx250_0, hx250_1, hx250_2, hx250_3⟩ := at_T42 HR1.out x5_1 p250 q250
          obtain rfl : ad248 = ad250 := (by injection e250)
          replace p250 := eq_true p250
          replace q250 := eq_true q250
          have p251 : 0 ≤ (x5_1 : Int) := of_decide_eq_true (by first | (with_reducible assumption) | assumption)
          have q251 : x5_1 < (l0.length : Int) := of_decide_eq_true (by first | (with_reducible assumption) | assumption)
          obtain ⟨ad251, e251, hx251_0, hx251_1, hx251_2, hx251_3⟩ := at_T42 HR0.out x5_1 p251 q251
          obtain rfl : ad247 = ad251 := (by injection e251)
          replace p251 := eq_true p251
          replace q251 := eq_true q251
          have p252 : 0 ≤ (x5_1 : Int) := of_decide_eq_true (by first | (with_reducible assumption) | assumption)
          have q252 : x5_1 < (l1.length : Int) := of_decide_eq_true (by first | (with_reducible assumption) | assumption)
          obtain ⟨ad252, e252, hx252_0, hx252_1, hx252_2, hx252_3⟩ := at_T42 HR1.out x5_1 p252 q252
          obtain rfl : ad248 = ad252 := (by injection e252)
          replace p252 := eq_true p252
          replace q252 := eq_true q252
          go_wp2
          repeat (go_quiet (fail); try go_wp2)
          go_ret
          exact ⟨by first | rfl | (simp; done) | (simp [*]; done), by repeat (first | exact Drawn0.refl _ | apply Drawn0.step)⟩
        ·rw [if_neg c8] at H
         have c8b0 : (((rd_T42 l0 x5_1).f1) == ((rd_T42 l1 x5_1).f1)) = false := beq_eq_false_iff_ne.mpr c8
         have c8b1 : (((rd_T42 l0 x5_1).f1) != ((rd_T42 l1 x5_1).f1)) = true := bne_iff_ne.mpr c8
         obtain rfl := Option.some.inj H
         have p247 : 0 ≤ (x5_1 : Int) := of_decide_eq_true (by first | (with_reducible assumption) | assumption)
         have q247 : x5_1 < (l0.length : Int) := of_decide_eq_true (by first | (with_reducible assumption) | assumption)
         obtain ⟨ad247, e247, hx247_0, hx247_1, hx247_2, hx247_3⟩ := at_T42 HR0.out x5_1 p247 q247
         cases e247
         replace p247 := eq_true p247
         replace q247 := eq_true q247
         have p248 : 0 ≤ (x5_1 : Int) := of_decide_eq_true (by first | (with_reducible assumption) | assumption)
         have q248 : x5_1 < (l1.length : Int) := of_decide_eq_true (by first | (with_reducible assumption) | assumption)
         obtain ⟨ad248, e248, hx248_0, hx248_1, hx248_2, hx248_3⟩ := at_T42 HR1.out x5_1 p248 q248
         cases e248
         replace p248 := eq_true p248
         replace q248 := eq_true q248
         have p249 : 0 ≤ (x5_1 : Int) := of_decide_eq_true (by first | (with_reducible assumption) | assumption)
         have q249 : x5_1 < (l0.length : Int) := of_decide_eq_true (by first | (with_reducible assumption) | assumption)
         obtain ⟨ad249, e249, hx249_0, hx249_1, hx249_2, hx249_3⟩ := at_T42 HR0.out x5_1 p249 q249
         obtain rfl : ad247 = ad249 := (by injection e249)
         replace p249 := eq_true p249
         replace q249 := eq_true q249
         have p250 : 0 ≤ (x5_1 : Int) := of_decide_eq_true (by first | (with_reducible assumption) | assumption)
         have q250 : x5_1 < (l1.length : Int) := of_decide_eq_true (by first | (with_reducible assumption) | assumption)
         obtain ⟨ad250, e250, hx250_0, hx250_1, hx250_2, hx250_3⟩ := at_T42 HR1.out x5_1 p250 q250
         obtain rfl : ad248 = ad250 := (by injection e250)
         replace p250 := eq_true p250
         replace q250 := eq_true q250
         go_wp2
         repeat (go_quiet (fail); try go_wp2)
         go_ret
         exact ⟨by first | rfl | (simp; done) | (simp [*]; done), by repeat (first | exact Drawn0.refl _ | apply Drawn0.step)⟩
       ·rw [if_neg c7] at H
        have c7b0 : (((rd_T42 l0 x5_1).f0).toList == ((rd_T42 l1 x5_1).f0).toList) = false := beq_eq_false_iff_ne.mpr c7
        have c7b1 : (((rd_T42 l0 x5_1).f0).toList != ((rd_T42 l1 x5_1).f0).toList) = true := bne_iff_ne.mpr c7
        obtain rfl := Option.some.inj H
        have p247 : 0 ≤ (x5_1 : Int) := of_decide_eq_true (by first | (with_reducible assumption) | assumption)
        have q247 : x5_1 < (l0.length : Int) := of_decide_eq_true (by first | (with_reducible assumption) | assumption)
        obtain ⟨ad247, e247, hx247_0, hx247_1, hx247_2, hx247_3⟩ := at_T42 HR0.out x5_1 p247 q247
        cases e247
        replace p247 := eq_true p247
        replace q247 := eq_true q247
        have p248 : 0 ≤ (x5_1 : Int) := of_decide_eq_true (by first | (with_reducible assumption) | assumption)
        have q248 : x5_1 < (l1.length : Int) := of_decide_eq_true (by first | (with_reducible assumption) | assumption)
        obtain ⟨ad248, e248, hx248_0, hx248_1, hx248_2, hx248_3⟩ := at_T42 HR1.out x5_1 p248 q248
        cases e248
        replace p248 := eq_true p248
        replace q248 := eq_true q248
        go_wp2
        repeat (go_quiet (fail); try go_wp2)
        go_ret
        exact ⟨by first | rfl | (simp; done) | (simp [*]; done), by repeat (first | exact Drawn0.refl _ | apply Drawn0.step)⟩
      ·rw [if_neg c6] at H
       exact absurd H (by simp)
     ·rw [if_neg c5] at H
      exact absurd H (by simp)
    ·rw [if_neg c4] at H
     have c4b0 : decide (x5_1 < (l0.length : Int)) = false := decide_eq_false c4
     clear c4
     obtain rfl := Option.some.inj H
     go_wp2
     repeat (go_quiet (fail); try go_wp2)
     go_ret
     exact ⟨by first | rfl | (simp; done) | (simp [*]; done), by repeat (first | exact Drawn0.refl _ | apply Drawn0.step)⟩
 ·rw [if_neg c3] at H
  have c3b0 : ((l0.length : Int) == (l1.length : Int)) = false := beq_eq_false_iff_ne.mpr c3
  have c3b1 : ((l0.length : Int) != (l1.length : Int)) = true := bne_iff_ne.mpr c3
  have c3b2 : (l0.length == l1.length) = false := by first | simpa using c3 | (simp at c3 ⊢; omega)
  obtain rfl := Option.some.inj H
  go_enter Try.func7, Try.ntmps7
  go_wp2
  repeat (go_quiet (fail); try go_wp2)
  go_ret
  exact ⟨by first | rfl | (simp; done) | (simp [*]; done), by repeat (first | exact Drawn0.refl _ | apply Drawn0.step)⟩

end Go.Proofs.Ytkbhcejibcjglaa.P
end
section
/- Newest can be taken in two parts; the laws' comparison of a list with itself answers true. Condition: the list is not too long. -/
namespace Go.Proofs.Ytkbhcejibcjglaa.M
open Go.RowKit Go.Proofs.Ytkbhcejibcjglaa.P Go.Proofs.YtkbhcejibcjglaaW.PrintWords Go.Proofs.YtkbhcejibcjglaaW.PrintLast Go.Proofs.YtkbhcejibcjglaaW.PrintMore
set_option linter.unusedVariables false
def joinO (o p : Option S42) : Option S42 := match p with | none => o | some y => pick o y
theorem join_pick (o : Option S42) (e : S42) (z : Option S42) : joinO (pick o e) z = joinO o (joinO (some e) z) := by
  cases z with
  | none => rfl
  | some y =>
    cases o with
    | none =>
      show pick (some e) y = joinO none (pick (some e) y)
      unfold pick
      by_cases c : e.f1 < y.f1
      · simp only [c, if_true]; rfl
      · simp only [c, if_false]; rfl
    | some x =>
      show pick (pick (some x) e) y = joinO (some x) (pick (some e) y)
      by_cases c : x.f1 < e.f1
      · have e1 : pick (some x) e = some e := if_pos c
        rw [e1]
        by_cases d : e.f1 < y.f1
        · have e2 : pick (some e) y = some y := if_pos d
          rw [e2]
          exact (if_pos (show x.f1 < y.f1 by omega)).symm
        · have e2 : pick (some e) y = some e := if_neg d
          rw [e2]
          exact (if_pos c).symm
      · have e1 : pick (some x) e = some x := if_neg c
        rw [e1]
        by_cases d : e.f1 < y.f1
        · have e2 : pick (some e) y = some y := if_pos d
          rw [e2]
          rfl
        · have e2 : pick (some e) y = some e := if_neg d
          rw [e2]
          have e3 : pick (some x) y = some x := if_neg (by omega)
          rw [e3]
          exact (if_neg c).symm
theorem fold_pick : ∀ (B : List S42) (o : Option S42), B.foldl pick o = joinO o (B.foldl pick none) := by
  intro B
  induction B with
  | nil => intro o; rfl
  | cons e B ih =>
    intro o
    rw [List.foldl_cons, List.foldl_cons, ih (pick o e), ih (pick none e), join_pick]
    rfl
theorem best_append (A B : List S42) (k : ByteArray) : best (A ++ B) k = joinO (best A k) (best B k) := by
  unfold best ofKey
  rw [List.filter_append, List.foldl_append, fold_pick]
theorem one_of : ∀ (L : List S42) (x : S42), L.Pairwise (fun a b => lss a.f0 b.f0 = true) → (∀ y ∈ L, y = x) → x ∈ L → L = [x] := by
  intro L x hp ha hx
  cases L with
  | nil => cases hx
  | cons a L =>
    have h1 := ha a List.mem_cons_self
    subst h1
    cases L with
    | nil => rfl
    | cons b L =>
      have h2 := ha b (List.mem_cons_of_mem _ List.mem_cons_self)
      subst h2
      have := (List.pairwise_cons.1 hp).1 b List.mem_cons_self
      rw [lss_irrefl] at this
      cases this
theorem best_newest (X : List S42) (k : ByteArray) : best (newest X) k = best X k := by
  cases h : best X k with
  | none =>
    have e : ofKey k (newest X) = [] := by
      rw [List.eq_nil_iff_forall_not_mem]
      intro y hy
      have hy := mem_ofKey.1 hy
      have h1 := (newest_mem X y).1 hy.1
      rw [hy.2, h] at h1
      cases h1
    unfold best
    rw [e]
    rfl
  | some x =>
    have hk := (best_key h).2
    have hx : x ∈ newest X := (newest_mem X x).2 (by rw [hk]; exact h)
    have e : ofKey k (newest X) = [x] := by
      refine one_of _ x ?_ (fun y hy => ?_) (mem_ofKey.2 ⟨hx, hk⟩)
      · unfold ofKey
        exact (newest_sorted X).filter _
      · have hy := mem_ofKey.1 hy
        have h1 := (newest_mem X y).1 hy.1
        rw [hy.2, h] at h1
        exact (Option.some.inj h1).symm
    unfold best
    rw [e]
    rfl
theorem newest_same {A B : List S42} (h : ∀ k, best A k = best B k) : newest A = newest B :=
  sorted_same _ _ (newest_sorted A) (newest_sorted B) fun x => by rw [newest_mem, newest_mem, h]
theorem newest_two (l : List (List S42)) (n : Nat) : newest [newest (l.take n).flatten, newest (l.drop n).flatten].flatten = newest l.flatten := by
  apply newest_same
  intro k
  have e1 : [newest (l.take n).flatten, newest (l.drop n).flatten].flatten = newest (l.take n).flatten ++ newest (l.drop n).flatten := by simp
  have e2 : l.flatten = (l.take n).flatten ++ (l.drop n).flatten := by rw [← List.flatten_append, List.take_append_drop]
  rw [e1, e2, best_append, best_append, best_newest, best_newest]
theorem newest_sub {X : List S42} {x : S42} (h : x ∈ newest X) : x ∈ X := (best_key ((newest_mem X x).1 h)).1
theorem newest_length (X : List S42) : (newest X).length ≤ X.length := by
  unfold newest
  have h : ∀ (l : List S42) (p : Option ByteArray), (firsts p l).length ≤ l.length := by
    intro l
    induction l with
    | nil => intro p; exact Nat.le_refl _
    | cons y l ih =>
      intro p
      by_cases c : p = some y.f0
      · subst c; rw [firsts_same]; exact Nat.le_succ_of_le (ih _)
      · rw [firsts_other _ c]; exact Nat.succ_le_succ (ih _)
  exact Nat.le_trans (h _ _) (Nat.le_of_eq (order_length X))
theorem same_loop (a : List S42) (ha : a.length ≤ 4194304) : ∀ d i : Nat, i + d = a.length → Ev (fun k => laws_wSameEntries.l0 k a a (i : Int)) true := by
  intro d
  induction d with
  | zero =>
    intro i hi
    refine Ev.step (f := fun _ => some true) (fun k => ?_) (Ev.now _)
    rw [laws_wSameEntries.l0, if_neg (by omega)]
  | succ d ih =>
    intro i hi
    refine Ev.step (f := fun k => laws_wSameEntries.l0 k a a ((i + 1 : Nat) : Int)) (fun k => ?_) (ih (i + 1) (by omega))
    rw [laws_wSameEntries.l0, if_pos (by omega), if_pos (by omega), if_pos (by omega), if_pos rfl, if_pos rfl, if_pos rfl, if_pos rfl, wrap_succ (by omega)]
theorem same_ev (a : List S42) (ha : a.length ≤ 4194304) : Ev (fun k => laws_wSameEntries.f k a a) true :=
  Ev.congr (fun k => if_pos rfl) (same_loop a ha a.length 0 (by omega))
end Go.Proofs.Ytkbhcejibcjglaa.M
end
section
/- The map of entries that Newest makes: what it reads as, and its operations at the walk. Condition: a key is no longer than a text may be. -/
namespace Go.Proofs.Ytkbhcejibcjglaa.M
open Go.RowKit Go.Maps Go.WideShapes Go.ChangeMaps Go.Proofs.Ytkbhcejibcjglaa.P
set_option linter.unusedVariables false
/-- An entry as one value; as a datum. -/
def valE (x : S42) : Value := .agg #[.string x.f0, .int .i64 x.f1, .int .i64 x.f2, .string x.f3]
def datE (x : S42) : DataW Unit := .agg [.lit (.string x.f0.data.toList), .lit (.int .i64 x.f1), .lit (.int .i64 x.f2), .lit (.string x.f3.data.toList)]
/-- A key as a literal. -/
def kl (k : ByteArray) : Lit := .string k.data.toList
theorem kl_inj {a b : ByteArray} (h : kl a = kl b) : a = b := by
  unfold kl at h
  injection h with h
  exact ByteArray.ext (Array.toList_inj.1 h)
theorem kl_key (k : ByteArray) : WideAt.IsKeyLit (kl k) := trivial
theorem kl_same (k : ByteArray) : (kl k).sameKey (kl k) = true := by simp [kl, Lit.sameKey]
theorem datE_inj {a b : S42} (h : datE a = datE b) : a = b := by
  unfold datE at h
  injection h with h
  injection h with h0 h
  injection h with h1 h
  injection h with h2 h
  injection h with h3 h
  injection h0 with h0
  injection h1 with h1
  injection h2 with h2
  injection h3 with h3
  injection h1 with _ h1
  injection h2 with _ h2
  have e0 := kl_inj (a := a.f0) (b := b.f0) h0
  have e3 := kl_inj (a := a.f3) (b := b.f3) h3
  cases a
  cases b
  simp at *
  exact ⟨e0, h1, h2, e3⟩
/-- How an element reads. -/
noncomputable def entR (v : Value) : Option (DataW Unit × List MemPlace) := open Classical in if h : ∃ x, v = valE x then some (datE (Classical.choose h), []) else none
theorem valE_inj {a b : S42} (h : valE a = valE b) : a = b := by
  unfold valE at h
  injection h with h
  have h := congrArg Array.toList h
  simp at h
  cases a
  cases b
  simp at *
  exact h
theorem entR_mk (x : S42) : entR (valE x) = some (datE x, []) := by
  have h : ∃ y, valE x = valE y := ⟨x, rfl⟩
  unfold entR
  rw [dif_pos h, ← valE_inj (Classical.choose_spec h)]
theorem entR_inv {v : Value} {y : DataW Unit × List MemPlace} (h : entR v = some y) : ∃ x, v = valE x ∧ y = (datE x, []) := by
  unfold entR at h
  split at h
  · rename_i hv
    exact ⟨_, Classical.choose_spec hv, (Option.some.inj h).symm⟩
  · cases h
theorem keyed : Keyed Try.prog 9 := string_keyed Try.underlying9
theorem key_of {s : ByteArray} (hs : s.size ≤ maxLen) : keyOf Try.prog 9 (.string s) = some (kl s) := Go.WideMaps.keyOf_string_mk Try.underlying9 hs
theorem key_inv {v : Value} {k : Lit} (h : keyOf Try.prog 9 v = some k) : ∃ s, v = .string s ∧ k = kl s := by
  have hk := Try.underlying9
  cases v <;> simp [keyOf, hk, mapKey] at h
  exact ⟨_, rfl, h.2.symm⟩
theorem zero42 (w : World) : (zeroValue 42).run Try.prog w = .ok (valE z42) w := by kernel_rfl
/-- What the map tells: of each key the best so far. -/
structure Tells (D : DataW Unit) (all : List S42) : Prop where
  some_ : ∀ k e, best all k = some e → has D (kl k) = true ∧ ∀ z, D.atKey (kl k) z = datE e
  none_ : ∀ k, best all k = none → has D (kl k) = false
theorem tells_nil : Tells (.map []) [] := ⟨fun k e h => (by rw [best_nil] at h; cases h), fun k _ => rfl⟩
theorem tells_put {D : DataW Unit} {all : List S42} {e : S42} (h : Tells D all) (hm : IsMap D) (hb : best (all ++ [e]) e.f0 = some e) : Tells (D.put (kl e.f0) (datE e)) (all ++ [e]) := by
  refine ⟨fun k x hx => ?_, fun k hx => ?_⟩
  · by_cases c : e.f0 = k
    · subst c
      rw [hb] at hx
      obtain rfl := Option.some.inj hx
      exact ⟨has_put_same hm (kl_key _) _, fun z => atKey_put_same hm (kl_key _) _ z⟩
    · rw [best_snoc, if_neg c] at hx
      have hne : kl k ≠ kl e.f0 := fun h => c (kl_inj h).symm
      have := h.some_ k x hx
      exact ⟨by rw [has_put_other hne]; exact this.1, fun z => by rw [atKey_put_other hne]; exact this.2 z⟩
  · by_cases c : e.f0 = k
    · subst c
      rw [hb] at hx
      cases hx
    · rw [best_snoc, if_neg c] at hx
      have hne : kl k ≠ kl e.f0 := fun h => c (kl_inj h).symm
      rw [has_put_other hne]
      exact h.none_ k hx
theorem tells_keep {D : DataW Unit} {all : List S42} {e : S42} (h : Tells D all) (hb : best (all ++ [e]) e.f0 = best all e.f0) : Tells D (all ++ [e]) := by
  have he : ∀ k, best (all ++ [e]) k = best all k := by
    intro k
    by_cases c : e.f0 = k
    · subst c; exact hb
    · rw [best_snoc, if_neg c]
  exact ⟨fun k x hx => h.some_ k x (by rw [← he]; exact hx), fun k hx => h.none_ k (by rw [← he]; exact hx)⟩
section
variable {w : World} {ops : Array Oper} {rest : List Oper} {o : Oper} {a : Act} {Q : Exit → Act → World → Prop}
/-- 'old, had := at[key]'. -/
theorem wp_lookup (hg : o.guard = none) (m x : Operand) (hop : o.op = Op.lookup 44 m x true) (b n : Nat) (D : DataW Unit) (all : List S42) (hm : a.eval m = .map (some b)) (hown : w.ownsMap Try.prog 9 entR b n D) (hT : Tells D all)
    (s : ByteArray) (hx : a.eval x = .string s) (hs : s.size ≤ maxLen) (hK : wpList Try.prog ops Q rest (a.put o.dst (.tuple #[valE ((best all s).getD z42), .bool (best all s).isSome])) w) : wpList Try.prog ops Q (o :: rest) a w := by
  refine wpList_lookup_own_ok w hg m x 44 hop 9 42 keyed Try.underlying44 entR (zero42 w) (datE z42) [] (entR_mk z42) b n D hm hown _ _ hx (key_of hs) ?_
  intro v ps hv
  obtain ⟨y, rfl, hy⟩ := entR_inv hv
  have hy : D.atKey (kl s) (datE z42) = datE y := congrArg Prod.fst hy
  cases hbst : best all s with
  | none =>
    have h1 := hT.none_ s hbst
    rw [atKey_of_not_has h1] at hy
    rw [hbst] at hK
    obtain rfl := datE_inj hy
    rw [h1]
    exact hK
  | some e =>
    have h1 := hT.some_ s e hbst
    rw [h1.2] at hy
    rw [hbst] at hK
    obtain rfl := datE_inj hy
    rw [h1.1]
    exact hK
/-- 'at[e.Key] = e'. -/
theorem wp_update (hg : o.guard = none) (m x v : Operand) (hop : o.op = Op.mapUpdate 44 m x v) (b n : Nat) (D : DataW Unit) (all : List S42) (hm : a.eval m = .map (some b)) (hown : w.ownsMap Try.prog 9 entR b n D) (hT : Tells D all) (hn : n < maxLen)
    (e : S42) (hx : a.eval x = .string e.f0) (hv : a.eval v = valE e) (hs : e.f0.size ≤ maxLen) (hb : best (all ++ [e]) e.f0 = some e)
    (hK : ∀ w' D', w'.ownsMap Try.prog 9 entR b (n + 1) D' → Tells D' (all ++ [e]) → w.grownBy w' (some b) → wpList Try.prog ops Q rest (a.put o.dst undef) w') : wpList Try.prog ops Q (o :: rest) a w := by
  refine wpList_mapUpdate_own w hg m x v 44 hop 9 42 keyed Try.underlying44 entR b n D hm hown hn _ _ (kl e.f0) hx hv (key_of hs) (datE e) [] (entR_mk e) ?_
  intro w' h1 h2
  exact hK w' _ h1 (tells_put hT (World.ownsMap.isMap hown) hb) h2
/-- What has been collected: the best of the keys that are no longer to come. -/
structure Got (all : List S42) (left : Lit → Bool) (xs : List S42) : Prop where
  mem : ∀ e, e ∈ xs ↔ best all e.f0 = some e ∧ left (kl e.f0) = false
  apart : xs.Pairwise fun x y => x.f0 ≠ y.f0
theorem got_start {D : DataW Unit} {all : List S42} (hT : Tells D all) : Got all (has D) [] :=
  ⟨fun e => ⟨fun h => absurd h (by simp), fun h => by have := (hT.some_ _ _ h.1).1; rw [h.2] at this; cases this⟩, List.Pairwise.nil⟩
theorem got_step {all : List S42} {left : Lit → Bool} {xs : List S42} (h : Got all left xs) {e : S42} (hl : left (kl e.f0) = true) (hb : best all e.f0 = some e) : Got all (fun z => left z && !z.sameKey (kl e.f0)) (xs ++ [e]) := by
  refine ⟨fun x => ?_, ?_⟩
  · rw [List.mem_append, h.mem]
    by_cases c : x.f0 = e.f0
    · rw [c, kl_same, hl, hb]
      simp
      constructor
      · rintro rfl; rfl
      · intro h; exact h.symm
    · have hne : (kl x.f0).sameKey (kl e.f0) = false := sameKey_ne (fun h => c (kl_inj h))
      have hx : ¬ x = e := fun h => c (by rw [h])
      simp [hne, hx]
  · rw [List.pairwise_append]
    refine ⟨h.apart, List.pairwise_singleton _ _, fun x hx y hy => ?_⟩
    simp at hy
    subst hy
    intro c
    have := ((h.mem x).1 hx).2
    rw [c, hl] at this
    cases this
theorem got_end {all : List S42} {left : Lit → Bool} {xs : List S42} (h : Got all left xs) (hl : ∀ k, left k = false) : ∀ e, e ∈ xs ↔ best all e.f0 = some e := fun e => (h.mem e).trans ⟨fun h => h.1, fun h => ⟨h, hl _⟩⟩
/-- 'for _, e := range at': the step. -/
theorem wp_next (hg : o.guard = none) (it : Operand) (hop : o.op = Op.next it false) (b r n : Nat) (D : DataW Unit) (all : List S42) (left : Lit → Bool) (cnt : Nat) (hit : a.eval it = .pointer (some ⟨r, 0, none⟩)) (h : w.ranges Try.prog 9 entR b r n D left cnt) (hT : Tells D all)
    (hDone : (∀ k, left k = false) → wpList Try.prog ops Q rest (a.put o.dst (.tuple #[.bool false])) w)
    (hMore : ∀ (e : S42) (w' : World) (cnt' : Nat), left (kl e.f0) = true → best all e.f0 = some e → w'.ranges Try.prog 9 entR b r n D (fun z => left z && !z.sameKey (kl e.f0)) cnt' → cnt' < cnt →
      w.grownBy w' (some r) → w'.heap.size = w.heap.size → (Instr.entry (.pointer (some ⟨r, 0, none⟩))).run Try.prog w' = .ok (.tuple #[.string e.f0, .agg #[.string e.f0, .int .i64 e.f1, .int .i64 e.f2, .string e.f3]]) w' → wpList Try.prog ops Q rest (a.put o.dst (.tuple #[.bool true, .string e.f0, .agg #[.string e.f0, .int .i64 e.f1, .int .i64 e.f2, .string e.f3]])) w') : wpList Try.prog ops Q (o :: rest) a w := by
  refine wpList_next_ranges w hg it hop 9 keyed entR Value.string valE (fun v k hk => ?_) (fun v y hy => ?_) b r n D left cnt hit h (fun _ hl => hDone hl) ?_
  · obtain ⟨s, rfl, _⟩ := key_inv hk
    exact ⟨s, rfl⟩
  · obtain ⟨x, rfl, _⟩ := entR_inv hy
    exact ⟨x, rfl⟩
  · intro s e k y w' cnt' hk hl hy hat hr hlt hgr hsz hen
    obtain ⟨s', es, rfl⟩ := key_inv hk
    injection es with es
    subst es
    rw [entR_mk] at hy
    obtain rfl := Option.some.inj hy
    have hbst : best all s = some e := by
      cases hb : best all s with
      | none =>
        have h1 := hT.none_ s hb
        have h2 := hat (datE z42)
        have h3 := hat (.map [])
        rw [atKey_of_not_has h1] at h3
        cases h3
      | some e' =>
        have h1 := (hT.some_ s e' hb).2 (.map [])
        rw [hat] at h1
        rw [datE_inj h1]
    have hks := (best_key hbst).2
    subst hks
    exact hMore e w' cnt' hl hbst hr hlt hgr hsz hen
end
end Go.Proofs.Ytkbhcejibcjglaa.M
end
section
/- sort.Slice as Newest calls it, at two entries or more: the row holds a permutation of what it held, in order of the keys. Condition: the row holds the entries, the box holds the slice. -/
namespace Go.Proofs.Ytkbhcejibcjglaa.M
open Go.Shelf Go.RowKit Go.Lib Go.Sort Go.Proofs.Ytkbhcejibcjglaa.P
set_option linter.unusedVariables false
instance : Inhabited S42 := ⟨z42⟩
noncomputable def svT : TypeInfo := (Try.prog.info? 25).get (by kernel_rfl)
noncomputable def svE : TypeInfo := (Try.prog.info? 42).get (by kernel_rfl)
theorem svK (n : Nat) (h2 : 2 ≤ n) : Lib.swapperK n svE 25 = 9 := by
  have a : svE.hasPointers = true := by kernel_rfl
  have b : svE.bytes = 48 := by kernel_rfl
  have c : (n == 0) = false := by simp; omega
  have d : (n == 1) = false := by simp; omega
  simp [Lib.swapperK, a, b, c, d]
/-- An entry: its four cells. -/
def encE (p : S42) : List Value := [.string p.f0, .int .i64 p.f1, .int .i64 p.f2, .string p.f3]
/-- 'less': by key. -/
def ltE (a b : S42) : Bool := lss a.f0 b.f0
theorem swo_ltE : SWO ltE where
  irrefl := fun x => lss_irrefl _
  trans := fun x y z h1 h2 => lss_trans h1 h2
  ntrans := fun x y z h1 h2 => by
    unfold ltE at *
    cases h : lss x.f0 z.f0 with
    | false => rfl
    | true =>
      cases h3 : lss y.f0 x.f0 with
      | true => rw [lss_trans h3 h] at h2; cases h2
      | false => rw [← lss_total h1 h3, h] at h2; cases h2
set_option maxHeartbeats 2000000 in
/-- Newest's own closure, bound to a pointer to the boxed slice. -/
theorem less_entries (blk off c Bs size : Nat) (W : World) (G : Nat → ByteArray) (hs : W.cell? ⟨Bs, 0, none⟩ = some (.slice (some ⟨blk, off, none⟩) size c))
    (hc : ∀ t, t < size → W.cell? ⟨blk, off + t * 4, none⟩ = some (.string (G t))) (i j : Nat) (hi : i < size) (hj : j < size) (_hsz : size < 4611686018427387904) :
    Calls Try.prog 21 #[.int .i64 i, .int .i64 j, .pointer (some ⟨Bs, 0, none⟩)] W fun e w' => e = .returned (.bool (lss (G i) (G j))) ∧ ∃ q, w' = W.drewN q := by
  have ci := hc i hi
  have cj := hc j hj
  clear hc
  go_enter Try.func21, Try.ntmps21
  go_wp2
  go_quiet (fail)
  go_wp2
  go_ret
  exact ⟨rfl, nq, rfl⟩
set_option maxHeartbeats 2000000 in
theorem sort_entries (blk c Bs : Nat) (d : Array S42) (h2 : 2 ≤ d.size) (hsz : d.size < 4611686018427387904) (w : World) (hH : HoldsK encE 4 w blk 0 d) (hblk : blk < w.heap.size)
    (hBs : w.cell? ⟨Bs, 0, none⟩ = some (.slice (some ⟨blk, 0, none⟩) d.size c)) (hB1 : Bs < w.heap.size) (hB2 : Bs ≠ blk) :
    Calls Try.prog 20 #[.iface 25 (.slice (some ⟨blk, 0, none⟩) d.size c), .func (.func 21) #[] #[.pointer (some ⟨Bs, 0, none⟩)]] w fun e w' =>
      e = .returned (.tuple #[]) ∧ ∃ d' n os, PermIn 0 d.size d d' ∧ SortedIn ltE 0 d.size d' ∧ w' = grow (putRowK encE 4 (Sort.ahead w n) blk 0 d') os := by
  have hless : LessReadsK Try.prog 21 #[.pointer (some ⟨Bs, 0, none⟩)] encE 4 ltE blk 0 d.size w := by
    intro m os dk hs i j hi hj
    have e : sortWorldK encE 4 w blk 0 m dk os = putRowK encE 4 (grow (Sort.ahead w m) os) blk 0 dk := by
      unfold sortWorldK; rw [putRowK_grow _ _ (Sort.ahead w m) _ blk 0 _ hblk]
    have hHg : HoldsK encE 4 (grow (Sort.ahead w m) os) blk 0 d := holdsK_grow _ _ _ _ blk 0 d hblk (holdsK_ahead _ _ _ _ _ _ _ hH)
    refine less_entries blk 0 c Bs d.size _ (fun t => dk[t]!.f0) ?_ (fun t ht => ?_) i j hi hj (by omega)
    · rw [e, cell?_putRowK_other _ _ _ blk 0 dk _ (by exact hB2), cell?_grow _ _ _ (by exact hB1)]; exact hBs
    · rw [e]; exact ((holdsK_putRowK _ _ _ blk 0 d dk hHg hs).cell (i := t) (c := 0) (by omega) (by omega)).1
  exact Any.sort_Slice_cells_sorted Try.laysGg6 25 42 svT svE (by kernel_rfl) (by kernel_rfl) (by kernel_rfl) (by kernel_rfl) 25 (fun _ => by kernel_rfl) encE 4 (fun _ => rfl) (by kernel_rfl) (fun _ => by kernel_rfl)
    (fun x v hv => by simp [encE] at hv; rcases hv with rfl | rfl | rfl | rfl <;> rfl) ltE swo_ltE 21 _
    (enters_of Try.func21 (by kernel_rfl) rfl) blk 0 c d h2 hsz 47 (by rw [svK _ h2]; kernel_rfl) false
    (fun args W => run_callFunc_extern Try.func47 (by kernel_rfl) (by kernel_rfl) (by kernel_rfl) (e := Extern.ReflectliteSwapper.swap false) (by kernel_rfl) args W) w hless hH hblk
theorem sort_tiny (p : Option Addr) (n c Bs : Nat) (h1 : n ≤ 1) (w : World) :
    Calls Try.prog 20 #[.iface 25 (.slice p n c), .func (.func 21) #[] #[.pointer (some ⟨Bs, 0, none⟩)]] w fun e w' => e = .returned (.tuple #[]) ∧ ∃ os, w' = grow w os := by
  have h : n = 0 ∨ n = 1 := by omega
  have a : svE.hasPointers = true := by kernel_rfl
  have b : svE.bytes = 48 := by kernel_rfl
  rcases h with rfl | rfl
  · exact Any.sort_Slice_tiny Try.laysGg6 25 42 svT svE (by kernel_rfl) (by kernel_rfl) (by kernel_rfl) (by kernel_rfl) 25 (fun _ => by kernel_rfl) p 0 c (by omega) 39 (by simp [Lib.swapperK]; kernel_rfl) _ _ _ w
  · exact Any.sort_Slice_tiny Try.laysGg6 25 42 svT svE (by kernel_rfl) (by kernel_rfl) (by kernel_rfl) (by kernel_rfl) 25 (fun _ => by kernel_rfl) p 1 c (by omega) 40 (by simp [Lib.swapperK]; kernel_rfl) _ _ _ w
#print axioms sort_entries
#print axioms sort_tiny
end Go.Proofs.Ytkbhcejibcjglaa.M
end
section
/- sort.Slice over a row of entries that the call has built: the same slice owns them in order. Condition: the box holds the slice; the row is the call's own. -/
namespace Go.Proofs.Ytkbhcejibcjglaa.M
open Go.Shelf Go.RowKit Go.Lib Go.Sort Go.Proofs.Ytkbhcejibcjglaa.P Go.Proofs.YtkbhcejibcjglaaW.PrintWords Go.Proofs.YtkbhcejibcjglaaW.PrintLast Go.Proofs.YtkbhcejibcjglaaW.PrintMore
set_option linter.unusedVariables false
theorem reps_flat {R : S42 → List Value → Prop} (hR : ∀ x cs, R x cs → cs = encE x) {xs : List S42} {inner : List Value} (h : Reps R 4 xs inner) : inner = (flatK encE 4 xs.toArray).toList := by
  apply List.ext_getElem?
  intro t
  have hl := h.1
  by_cases ht : t < xs.length * 4
  · have hj : t / 4 < xs.length := by omega
    have h1 := h.2 (t / 4) xs[t / 4] (List.getElem?_eq_getElem hj)
    have h2 := hR _ _ h1
    have h3 : ((inner.drop (t / 4 * 4)).take 4)[t % 4]? = inner[t]? := by
      rw [List.getElem?_take_of_lt (by omega), List.getElem?_drop, show t / 4 * 4 + t % 4 = t by omega]
    rw [← h3, h2, show (flatK encE 4 xs.toArray).toList[t]? = (flatK encE 4 xs.toArray)[t]? from Array.getElem?_toList ..]
    have h4 := get_flatK encE 4 xs.toArray t (by simpa using ht)
    rw [show (flatK encE 4 xs.toArray)[t]? = some ((flatK encE 4 xs.toArray)[t]'(by simpa using ht)) from Array.getElem?_eq_getElem _]
    rw [getElem!_pos (flatK encE 4 xs.toArray) t (by simpa using ht)] at h4
    rw [h4]
    have h5 : xs.toArray[t / 4]! = xs[t / 4] := by rw [getElem!_pos _ _ (by simpa using hj)]; simp
    rw [h5, getElem!_pos (encE xs[t / 4]) (t % 4) (by show t % 4 < 4; omega), List.getElem?_eq_getElem (by show t % 4 < 4; omega)]
  · rw [List.getElem?_eq_none (by omega), List.getElem?_eq_none (by simp; omega)]
theorem flat_reps {R : S42 → List Value → Prop} (hR : ∀ x, R x (encE x)) (xs : List S42) : Reps R 4 xs (flatK encE 4 xs.toArray).toList := by
  refine ⟨by simp, fun j p hj => ?_⟩
  have hlt : j < xs.length := (List.getElem?_eq_some_iff.1 hj).1
  have e : (((flatK encE 4 xs.toArray).toList.drop (j * 4)).take 4) = encE p := by
    apply List.ext_getElem?
    intro c
    by_cases hc : c < 4
    · rw [List.getElem?_take_of_lt hc, List.getElem?_drop, Array.getElem?_toList]
      have h4 := get_flatK encE 4 xs.toArray (j * 4 + c) (by simp; omega)
      rw [getElem!_pos (flatK encE 4 xs.toArray) (j * 4 + c) (by simp; omega)] at h4
      rw [Array.getElem?_eq_getElem (by simp; omega), h4, show (j * 4 + c) / 4 = j by omega, show (j * 4 + c) % 4 = c by omega]
      have h5 : xs.toArray[j]! = p := by
        rw [getElem!_pos _ _ (by simpa using hlt)]
        simpa using (List.getElem?_eq_some_iff.1 hj).2
      rw [h5, getElem!_pos _ _ (by show c < 4; omega), List.getElem?_eq_getElem (by show c < 4; omega)]
    · rw [List.getElem?_eq_none (by rw [List.length_take]; omega), List.getElem?_eq_none (by show 4 ≤ c; omega)]
  rw [e]
  exact hR p
theorem holds_of_row {w : World} {g : Nat} {cur : Array Value} {e : TypeId} {F : Array Value} (hb : w.heap[g]? = some (.cells cur e (0, 0))) (ht : cur.toList.take F.size = F.toList) : Holds id w g 0 F := by
  intro j hj
  refine ⟨?_, by simp [World.frozen?, hb]⟩
  have h1 : (cur.toList.take F.size)[j]? = F.toList[j]? := by rw [ht]
  rw [List.getElem?_take_of_lt hj] at h1
  simp only [World.cell?, hb, Nat.zero_add]
  simp only [Option.isSome_none, Bool.false_eq_true, if_false]
  rw [← Array.getElem?_toList, h1]
  simp [hj]
theorem heap_row {w : World} {g n : Nat} {os : Array Obj} {cur : Array Value} {e : TypeId} {fr : Nat × Nat} (F : Array Value) (hb : w.heap[g]? = some (.cells cur e fr)) :
    (grow (putRow id (Sort.ahead w n) g 0 F) os).heap[g]? = some (.cells (putCells id 0 F cur) e fr) := by
  have hg : g < w.heap.size := (Array.getElem?_eq_some_iff.1 hb).1
  rw [heap_grow_old _ _ (by simpa using hg)]
  simp [putRow, mapBlock, Sort.ahead, Array.getElem?_modify, hb, onCells]
theorem heap_row_other {w : World} {g n k : Nat} {os : Array Obj} (F : Array Value) (hk : k < w.heap.size) (hne : g ≠ k) : (grow (putRow id (Sort.ahead w n) g 0 F) os).heap[k]? = w.heap[k]? := by
  rw [heap_grow_old _ _ (by simpa using hk)]
  simp [putRow, mapBlock, Sort.ahead, Array.getElem?_modify, hne]
theorem take_row (cur F : Array Value) (h : F.size ≤ cur.size) : (putCells id 0 F cur).toList.take F.size = F.toList := by
  apply List.ext_getElem?
  intro j
  by_cases hj : j < F.size
  · rw [List.getElem?_take_of_lt hj, Array.getElem?_toList]
    simp [putCells, hj, show j < cur.size by omega]
  · rw [List.getElem?_take_eq_none (by omega), List.getElem?_eq_none (by simp; omega)]
theorem sorted_pair {d : Array S42} (h : SortedIn ltE 0 d.size d) : d.toList.Pairwise fun a b => lss b.f0 a.f0 = false := by
  rw [List.pairwise_iff_getElem]
  intro i j hi hj hij
  have hj' : j < d.size := by simpa using hj
  have := h i j (Nat.zero_le _) hij hj'
  rw [getElem!_pos _ i (by omega), getElem!_pos _ j (by omega)] at this
  simpa [ltE] using this
theorem grow_below {w : World} {os : Array Obj} : Below w.heap.size w (grow w os) := ⟨rfl, rfl, rfl, by simp, fun k hk => heap_grow_old _ _ hk⟩
theorem sort_call (w0 w : World) (base : Nat) (ok : Nat → Prop) (v : Value) (xs : List S42) (Bs : Nat) (hR : Kd.R k42 42 w base ok v xs) (hB : Below base w0 w) (hbase : base ≤ w.heap.size) (hBs : w.heap[Bs]? = some (.cells #[v] 25 (0, 0))) (hlen : xs.length ≤ 4611686018427387) :
    Calls Try.prog 20 #[.iface 25 v, .func (.func 21) #[] #[.pointer (some ⟨Bs, 0, none⟩)]] w fun e w' =>
      e = .returned (.tuple #[]) ∧ ∃ ys : List S42, ys.Perm xs ∧ (ys.Pairwise fun a b => lss b.f0 a.f0 = false) ∧ Kd.R k42 42 w' base ok v ys ∧ Below base w0 w' ∧ w'.heap[Bs]? = w.heap[Bs]? := by
  have hBlt : Bs < w.heap.size := (Array.getElem?_eq_some_iff.1 hBs).1
  by_cases h1 : xs.length ≤ 1
  · obtain ⟨A, c, rfl⟩ := Kd.R_slice hR
    refine (sort_tiny A xs.length c Bs h1 w).mono ?_
    rintro e w' ⟨rfl, os, rfl⟩
    refine ⟨rfl, xs, List.Perm.refl _, ?_, Kd.R_below hR grow_below, hB.trans (grow_below.mono hbase), heap_grow_old _ _ hBlt⟩
    match xs, h1 with
    | [], _ => exact List.Pairwise.nil
    | [x], _ => exact List.pairwise_singleton _ _
    | x :: y :: r, h1 => simp at h1
  · obtain ⟨hok, inner, hown, hrep⟩ := hR
    obtain ⟨hil, hown⟩ := hown
    rcases hown with ⟨rfl, h0⟩ | ⟨g, cap, cur, rfl, hg, hb, hc1, hc2, hc3, hc4⟩
    · exact absurd h0 (by omega)
    have hin := reps_flat (fun x cs hx => k42_openM hx) hrep
    have hne : g ≠ Bs := by
      intro e
      subst e
      rw [hb] at hBs
      cases hBs
    have hglt : g < w.heap.size := (Array.getElem?_eq_some_iff.1 hb).1
    have hF : (flatK encE 4 xs.toArray).size = xs.length * 4 := by simp
    have hH : HoldsK encE 4 w g 0 xs.toArray := holds_of_row hb (by rw [hF]; exact hc4.trans hin)
    have hcell : w.cell? ⟨Bs, 0, none⟩ = some (.slice (some ⟨g, 0, none⟩) xs.toArray.size cap) := by simp [World.cell?, hBs]
    have hs := sort_entries g cap Bs xs.toArray (by simp; omega) (by simp; omega) w hH hglt hcell hBlt (fun e => hne e.symm)
    rw [List.size_toArray] at hs
    refine hs.mono ?_
    rintro e w' ⟨rfl, d', n, os, hp, hsd, rfl⟩
    have hsz : d'.size = xs.length := hp.1
    have hperm : d'.toList.Perm xs := by
      have h := hp.2.2
      have e1 : d'.extract 0 xs.length = d' := by rw [← hsz]; simp
      have e2 : xs.toArray.extract 0 xs.length = xs.toArray := by simp
      rw [e1, e2] at h
      simpa using h
    have hl' : d'.toList.length = xs.length := by simpa using hsz
    have hF' : (flatK encE 4 d').size = xs.length * 4 := by simp [hsz]
    refine ⟨rfl, d'.toList, hperm, sorted_pair (by rw [hsz]; exact hsd), ⟨hok, (flatK encE 4 d').toList, ⟨by rw [hl']; show _ = xs.length * 4; simpa using hF', .inr ⟨g, cap, _, by rw [hl'], hg, heap_row _ hb, by rw [hl']; exact hc1, hc2, by simpa [putCells] using hc3, ?_⟩⟩, ?_⟩, ?_, ?_⟩
    · rw [hl']
      show List.take (xs.length * 4) _ = _
      rw [← hF']
      exact take_row _ _ (by rw [hF', hc3]; exact Nat.mul_le_mul_right 4 hc1)
    · have h := flat_reps (R := k42.M (grow (putRowK encE 4 (Sort.ahead w n) g 0 d') os) base (fun k => ok k ∧ some k ≠ Value.ownBlock (.slice (some ⟨g, 0, none⟩) xs.length cap))) (fun x => k42_mkM _ _ _ x) d'.toList
      rw [Array.toArray_toList] at h
      exact h
    · refine hB.trans ⟨rfl, rfl, rfl, by simp [putRowK], fun k hk => ?_⟩
      exact heap_row_other _ (by omega) (by omega)
    · exact heap_row_other _ hBlt hne
end Go.Proofs.Ytkbhcejibcjglaa.M
end
section
/- The program's Newest, walked: it hands back a slice of its own that holds what Newest tells. Condition: the entries are not too many, their keys not too long. -/
namespace Go.Proofs.Ytkbhcejibcjglaa.M
open Go.RowKit Go.Maps Go.Proofs.Ytkbhcejibcjglaa.P Go.Proofs.YtkbhcejibcjglaaW.PrintWords Go.Proofs.YtkbhcejibcjglaaW.PrintLast Go.Proofs.YtkbhcejibcjglaaW.PrintMore
set_option linter.unusedVariables false
set_option linter.unusedSimpArgs false
theorem rd42 (l : List S42) (i : Nat) (h : i < l.length) : rd_T42 l (i : Int) = l[i] := by
  unfold rd_T42
  rw [Int.toNat_natCast, List.getD_eq_getElem?_getD, List.getElem?_eq_getElem h]
  rfl
def rdLL (xs : List (List S42)) (i : Int) : List S42 := xs.getD i.toNat ([] : List S42)
theorem atLL {w : World} {A : Option Addr} {n : Nat} {xs : List (List S42)} (h : Kd.C (Kd.slice 42 k42) w A n xs) (i : Int) (h0 : 0 ≤ i) (h1 : i < n) : ∃ ad A0 c0, A = some ad ∧ w.cell? (ad.add i.toNat) = some (.slice A0 (rdLL xs i).length c0) ∧ (rdLL xs i).length ≤ c0 ∧ k42.C w A0 (rdLL xs i).length (rdLL xs i) := by
  obtain ⟨ad, c, e, _, hK, hc0⟩ := Kd.C_get h ([] : List S42) i h0 h1
  have hc : ∀ j u, c[j]? = some u → w.cell? (ad.add (i.toNat * 1 + j)) = some u := hc0
  obtain ⟨A0, c0, rfl, l0, g0⟩ := hK
  exact ⟨ad, A0, c0, e, by have hq := hc 0 _ rfl; rwa [Nat.mul_one, Nat.add_zero] at hq, l0, g0⟩
theorem rdL (l : List (List S42)) (i : Nat) (h : i < l.length) : rdLL l (i : Int) = l[i] := by
  unfold rdLL
  rw [Int.toNat_natCast, List.getD_eq_getElem?_getD, List.getElem?_eq_getElem h]
  rfl
theorem meas_lt (L i : Nat) (hi : i < L) : L - (intOf (.int .i64 ((i : Int) + 1))).toNat < L - (intOf (.int .i64 (i : Int))).toNat := by
  simp [intOf]
  omega
/-- The map under way: it tells of all entries so far. -/
structure MapAt (w wr : World) (all : List S42) : Prop where
  bel : Below w.heap.size w wr
  map : ∃ D n, n ≤ all.length ∧ wr.ownsMap Try.prog 9 entR w.heap.size n D ∧ Tells D all
theorem take_flat (l : List (List S42)) (i : Nat) (h : i < l.length) : (l.take (i + 1)).flatten = (l.take i).flatten ++ l[i] := by
  rw [List.take_succ_eq_append_getElem h, List.flatten_append]
  simp
theorem mem_flat (l : List (List S42)) (i : Nat) (h : i < l.length) {x : S42} (hx : x ∈ l[i]) : x ∈ l.flatten := List.mem_flatten.2 ⟨_, List.getElem_mem h, hx⟩
theorem len_flat (l : List (List S42)) (i : Nat) (h : i < l.length) (j : Nat) : ((l.take i).flatten ++ l[i].take j).length ≤ l.flatten.length := by
  have e : l.flatten = (l.take (i + 1)).flatten ++ (l.drop (i + 1)).flatten := by rw [← List.flatten_append, List.take_append_drop]
  rw [e, take_flat l i h]
  simp only [List.length_append, List.length_take]
  omega
theorem cell_below {w wr : World} (h : Below w.heap.size w wr) {p : Addr} {v : Value} (hc : w.cell? p = some v) : wr.cell? p = some v := by
  have hlt : p.block < w.heap.size := by
    rcases Nat.lt_or_ge p.block w.heap.size with h1 | h1
    · exact h1
    · simp [World.cell?, Array.getElem?_eq_none h1] at hc
  exact (h.cell hlt).trans hc
theorem grown_set {w : World} {g : Nat} (u : Value) : w.grownBy (w.setCell ⟨g, 0, none⟩ u) (some g) :=
  ⟨rfl, rfl, rfl, by simp [World.setCell], fun i _ hne => Below.heap_setCell _ _ _ _ (fun e => hne (by rw [e]))⟩
theorem sorted_strict {ys xs : List S42} (hp : ys.Perm xs) (ha : xs.Pairwise fun x y => x.f0 ≠ y.f0) (hs : ys.Pairwise fun a b => lss b.f0 a.f0 = false) : ys.Pairwise fun x y => lss x.f0 y.f0 = true := by
  have h1 : ys.Pairwise fun x y => x.f0 ≠ y.f0 := (hp.pairwise_iff (fun h => fun e => h e.symm)).2 ha
  refine (h1.and hs).imp ?_
  rintro a b ⟨h1, h2⟩
  cases h : lss a.f0 b.f0 with
  | true => rfl
  | false => exact absurd (lss_total h h2) h1
/-- The range over the map under way. -/
structure RangeAt (w wq : World) (g base n : Nat) (D : DataW Unit) (all : List S42) (left : Lit → Bool) (cnt : Nat) (v : Value) (xs : List S42) : Prop where
  rng : wq.ranges Try.prog 9 entR w.heap.size (g + 1) n D left cnt
  got : Got all left xs
  box : wq.heap[g]? = some (.cells #[v] 25 (0, 0))
  row : Kd.R k42 42 wq base (fun k => base ≤ k) v xs
  bel : Below w.heap.size w wq
  few : xs.length + cnt ≤ 4194304
  size : base ≤ wq.heap.size
section
variable {w : World} {ops : Array Oper} {rest : List Oper} {o : Oper} {a : Act} {Q : Exit → Act → World → Prop}
theorem wp_lookup_none (hg : o.guard = none) (m x : Operand) (hop : o.op = Op.lookup 44 m x true) (b n : Nat) (D : DataW Unit) (all : List S42) (hm : a.eval m = .map (some b)) (hown : w.ownsMap Try.prog 9 entR b n D) (hT : Tells D all)
    (s : ByteArray) (hx : a.eval x = .string s) (hs : s.size ≤ maxLen) (hb : best all s = none) (hK : wpList Try.prog ops Q rest (a.put o.dst (.tuple #[.agg #[.string ⟨#[]⟩, .int .i64 0, .int .i64 0, .string ⟨#[]⟩], .bool false])) w) : wpList Try.prog ops Q (o :: rest) a w :=
  wp_lookup hg m x hop b n D all hm hown hT s hx hs (by rw [hb]; exact hK)
theorem wp_lookup_some (hg : o.guard = none) (m x : Operand) (hop : o.op = Op.lookup 44 m x true) (b n : Nat) (D : DataW Unit) (all : List S42) (hm : a.eval m = .map (some b)) (hown : w.ownsMap Try.prog 9 entR b n D) (hT : Tells D all)
    (s : ByteArray) (hx : a.eval x = .string s) (hs : s.size ≤ maxLen) (p : S42) (hb : best all s = some p) (hK : wpList Try.prog ops Q rest (a.put o.dst (.tuple #[.agg #[.string p.f0, .int .i64 p.f1, .int .i64 p.f2, .string p.f3], .bool true])) w) : wpList Try.prog ops Q (o :: rest) a w :=
  wp_lookup hg m x hop b n D all hm hown hT s hx hs (by rw [hb]; exact hK)
end
set_option maxHeartbeats 4000000 in
set_option maxRecDepth 100000 in
theorem newest_call (A : Option Addr) (c : Nat) (l : List (List S42)) (w : World) (hr : Kd.C (Kd.slice 42 k42) w A l.length l) (hc : l.length ≤ c) (hn : l.flatten.length ≤ 4194304) (hk : ∀ x ∈ l.flatten, x.f0.size ≤ maxLen) :
    Calls Try.prog 8 #[.slice A l.length c] w fun e w' => ∃ v, e = .returned v ∧ Kd.R k42 42 w' w.heap.size (fun _ => True) v (newest l.flatten) ∧ Below w.heap.size w w' := by
  have hu42 := Try.underlying42
  have HR := Aside0.mk hr
  have HN := Aside0.mk hn
  have HK := Aside0.mk hk
  clear hr hn hk
  have hmm := @run_makeMap Try.prog
  go_enter Try.func8, Try.ntmps8
  go_wp2
  go_loopw [16] (fun v16 wr => ∃ i : Nat, v16 = .int .i64 (i : Int) ∧ Aside0 (i ≤ l.length) ∧ Aside0 (MapAt w wr (l.take i).flatten)) (fun v16 _ => l.length - (intOf v16).toNat)
  case atStart => exact ⟨0, rfl, ⟨Nat.zero_le _⟩, ⟨⟨(Below.refl _ _).alloc (Nat.le_refl _) _, _, 0, Nat.le_refl _, World.ownsMap_made _ _ _ _, tells_nil⟩⟩⟩
  case round =>
    obtain ⟨i, rfl, HI, HM⟩ := hrel
    clear hmm
    by_cases hi : i < l.length
    · obtain ⟨ad, A0, c0, hA, hx0, hl0, hC0⟩ := atLL HR.out (i : Int) (by omega) (by omega)
      subst hA
      rw [rdL l i hi] at hx0 hl0 hC0
      rw [Int.toNat_natCast] at hx0
      have hx := cell_below HM.out.bel hx0
      have HC := Aside0.mk hC0
      clear hC0 hx0
      go_wp2
      obtain ⟨wo, hwo⟩ : ∃ wo, wo = wr := ⟨_, rfl⟩
      subst hwo
      go_loopw [22] (fun v22 wq => ∃ j : Nat, v22 = .int .i64 (j : Int) ∧ Aside0 (j ≤ l[i].length) ∧ Aside0 (MapAt w wq ((l.take i).flatten ++ l[i].take j))) (fun v22 _ => l[i].length - (intOf v22).toNat)
      case atStart => exact ⟨0, rfl, ⟨Nat.zero_le _⟩, ⟨by rw [List.take_zero, List.append_nil]; exact HM.out⟩⟩
      case round =>
        obtain ⟨j, rfl, HJ, HQ⟩ := hrel
        clear hx HM
        by_cases hj : j < l[i].length
        · obtain ⟨ad1, hA, hx0, hx1, hx2, hx3⟩ := at_T42 HC.out (j : Int) (by omega) (by omega)
          subst hA
          rw [rd42 l[i] j hj, Int.toNat_natCast] at hx0 hx1 hx2 hx3
          replace hx0 := cell_below HQ.out.bel hx0
          replace hx1 := cell_below HQ.out.bel hx1
          replace hx2 := cell_below HQ.out.bel hx2
          replace hx3 := cell_below HQ.out.bel hx3
          have HE := Aside0.mk (HK.out _ (mem_flat l i hi (List.getElem_mem hj)))
          obtain ⟨all, hall⟩ : ∃ all, (l.take i).flatten ++ l[i].take j = all := ⟨_, rfl⟩
          obtain ⟨e, he⟩ : ∃ e, l[i][j] = e := ⟨_, rfl⟩
          have HALL := Aside0.mk hall
          have HEE := Aside0.mk he
          have HLN := Aside0.mk (len_flat l i hi j)
          rw [he] at hx0 hx1 hx2 hx3 HE
          rw [hall] at HQ HLN
          clear hall he
          obtain ⟨bel, D, n, hnl, hown, hT⟩ := HQ.out
          have HO := Aside0.mk hown
          have HT := Aside0.mk hT
          have HBL := Aside0.mk bel
          clear hown hT bel HQ
          have hnx : all ++ [e] = (l.take i).flatten ++ l[i].take (j + 1) := by
            rw [List.take_succ_eq_append_getElem hj, HEE.out, ← HALL.out, List.append_assoc]
          have HNX := Aside0.mk hnx
          clear hnx
          have HWR := Aside0.mk (show wrap64 ((j : Int) + 1) = (j : Int) + 1 from wrap_ok (by omega) (by
            have h1 := HN.out
            have h2 := len_flat l i hi l[i].length
            rw [List.take_length] at h2
            simp only [List.length_append] at h2
            omega))
          have HNM := Aside0.mk (show n < maxLen by have h1 := HLN.out; have h2 := HN.out; unfold maxLen; omega)
          cases hb : best all e.f0 with
          | none =>
            have HB1 := Aside0.mk hb
            have HB2 := Aside0.mk (show best (all ++ [e]) e.f0 = some e by rw [best_snoc, if_pos rfl, hb]; rfl)
            clear hb
            go_wp2_with (first | (at_lookup; refine wp_lookup_none rfl _ _ rfl w.heap.size n D all rfl (HO.out.alloc _) HT.out e.f0 rfl HE.out HB1.out ?_) | (at_mapUpdate; refine wp_update rfl _ _ _ rfl w.heap.size n D all rfl ((HO.out.alloc _).alloc _) HT.out HNM.out e rfl rfl HE.out HB2.out ?_; intro w1 D1 hown1 hT1 hg1; have HO1 := Aside0.mk hown1; have HT1 := Aside0.mk hT1; have HG1 := Aside0.mk hg1; clear hown1 hT1 hg1))
            go_roundw
            case rel => exact ⟨j + 1, by rw [HWR.out]; rfl, ⟨hj⟩, ⟨by rw [← HNX.out]; exact ⟨((HBL.out.alloc HBL.out.size _).alloc (Nat.le_trans HBL.out.size (by simp)) _).grown HG1.out (Nat.le_trans HBL.out.size (by simp; omega)) (fun k hk => by cases hk; exact Nat.le_refl _), D1, n + 1, by rw [List.length_append]; show n + 1 ≤ all.length + 1; omega, HO1.out, HT1.out⟩⟩⟩
            case measure => rw [HWR.out]; exact meas_lt _ _ hj
          | some p =>
            have HB1 := Aside0.mk hb
            by_cases hlt : p.f1 < e.f1
            · have HB2 := Aside0.mk (show best (all ++ [e]) e.f0 = some e by rw [best_snoc, if_pos rfl, hb]; exact if_pos hlt)
              have dt : decide (p.f1 < e.f1) = true := decide_eq_true hlt
              clear hb
              go_wp2_with (first | (at_lookup; refine wp_lookup_some rfl _ _ rfl w.heap.size n D all rfl (HO.out.alloc _) HT.out e.f0 rfl HE.out p HB1.out ?_) | (at_mapUpdate; refine wp_update rfl _ _ _ rfl w.heap.size n D all rfl ((HO.out.alloc _).alloc _) HT.out HNM.out e rfl rfl HE.out HB2.out ?_; intro w1 D1 hown1 hT1 hg1; have HO1 := Aside0.mk hown1; have HT1 := Aside0.mk hT1; have HG1 := Aside0.mk hg1; clear hown1 hT1 hg1))
              go_roundw
              case rel => exact ⟨j + 1, by rw [HWR.out]; rfl, ⟨hj⟩, ⟨by rw [← HNX.out]; exact ⟨((HBL.out.alloc HBL.out.size _).alloc (Nat.le_trans HBL.out.size (by simp)) _).grown HG1.out (Nat.le_trans HBL.out.size (by simp; omega)) (fun k hk => by cases hk; exact Nat.le_refl _), D1, n + 1, by rw [List.length_append]; show n + 1 ≤ all.length + 1; omega, HO1.out, HT1.out⟩⟩⟩
              case measure => rw [HWR.out]; exact meas_lt _ _ hj
            · have HB2 := Aside0.mk (show best (all ++ [e]) e.f0 = best all e.f0 by rw [best_snoc, if_pos rfl, hb]; exact if_neg hlt)
              have dt : decide (p.f1 < e.f1) = false := decide_eq_false hlt
              clear hb
              go_wp2_with (at_lookup; refine wp_lookup_some rfl _ _ rfl w.heap.size n D all rfl (HO.out.alloc _) HT.out e.f0 rfl HE.out p HB1.out ?_)
              go_roundw
              case rel => exact ⟨j + 1, by rw [HWR.out]; rfl, ⟨hj⟩, ⟨by rw [← HNX.out]; exact ⟨(HBL.out.alloc HBL.out.size _).alloc (Nat.le_trans HBL.out.size (by simp)) _, D, n, by rw [List.length_append]; omega, (HO.out.alloc _).alloc _, tells_keep HT.out HB2.out⟩⟩⟩
              case measure => rw [HWR.out]; exact meas_lt _ _ hj
        · have hje : j = l[i].length := by have := HJ.out; omega
          subst hje
          rw [List.take_length, ← take_flat l i hi] at HQ
          have HWR := Aside0.mk (show wrap64 ((i : Int) + 1) = (i : Int) + 1 from wrap_ok (by omega) (by have := HR.out.2.1; omega))
          go_wp2
          go_roundw
          case rel => exact ⟨i + 1, by rw [HWR.out]; rfl, ⟨hi⟩, HQ⟩
          case measure => rw [HWR.out]; exact meas_lt _ _ hi
    · have hie : i = l.length := by have := HI.out; omega
      subst hie
      rw [List.take_length] at HM
      obtain ⟨bel, D, n, hnl, hown, hT⟩ := HM.out
      have HO := Aside0.mk hown
      have HT := Aside0.mk hT
      have HBL := Aside0.mk bel
      clear hown hT bel HM
      go_wp2_with (at_range; refine wpList_range_own _ rfl _ 44 rfl 9 42 keyed Try.underlying44 entR w.heap.size n D rfl (HO.out.alloc _) ?_; intro w0 hrg0 hg0 hs0; have HRG := Aside0.mk hrg0; have HG0 := Aside0.mk hg0; have HS0 := Aside0.mk hs0; clear hrg0 hg0 hs0)
      go_frame
      obtain ⟨g, hgd⟩ : ∃ g, g = wr.heap.size := ⟨_, rfl⟩
      have hsz : (wr.alloc (.cells #[.slice none 0 0] 25)).heap.size = wr.heap.size + 1 := by simp
      have HRG1 := Aside0.mk (show w0.ranges Try.prog 9 entR w.heap.size (g + 1) n D (has D) (size D) from by have h := HRG.out; rw [hsz, ← hgd] at h; exact h)
      have HZ := Aside0.mk (show w0.heap.size = g + 2 from by have h := HS0.out; rw [hsz, ← hgd] at h; exact h)
      have HBX := Aside0.mk (show w0.heap[g]? = some (.cells #[.slice none 0 0] 25 (0, 0)) from by rw [hgd]; exact (HG0.out.block _ (by simp) (by simp)).trans (heap_alloc_new wr _))
      have HB0 := Aside0.mk (show Below w.heap.size w w0 from (HBL.out.alloc HBL.out.size _).grown HG0.out (Nat.le_trans HBL.out.size (by simp)) (fun k hk => by cases hk))
      have HGW := Aside0.mk (show w.heap.size < g from by have := HO.out.lt; omega)
      rw [hsz, ← hgd]
      clear hsz HRG HS0 HG0 HBL HO hgd
      have HTA := Aside0.mk (show l.flatten.length ≤ 4194304 from HN.out)
      go_loopw [12] (fun _ wq => ∃ (left : Lit → Bool) (cnt : Nat) (v : Value) (xs : List S42), Aside0 (RangeAt w wq g w0.heap.size n D l.flatten left cnt v xs)) (fun _ wq => wq.rangeLeft w.heap.size (g + 1))
      case atStart => exact ⟨_, _, _, [], ⟨HRG1.out, got_start HT.out, HBX.out, Kd.R_nil _ _ _ _ _, HB0.out, by have := HRG1.out.owns.size_le; have := HN.out; show 0 + size D ≤ _; omega, Nat.le_refl _⟩⟩
      case round =>
        obtain ⟨left, cnt, v, xs, HW⟩ := hrel
        clear HRG1 HBX HB0
        have y0 : wr.cell? ⟨g, 0, none⟩ = some v := blk_cell HW.out.box 0
        go_wp2_with (at_next; refine wp_next rfl _ rfl w.heap.size (g + 1) n D l.flatten left cnt rfl HW.out.rng HT.out ?_ ?_)
        · intro hl0
          have HL0 := Aside0.mk (got_end HW.out.got hl0)
          clear hl0
          go_wp2_with fail
          refine (sort_call wr wr w0.heap.size (fun k => w0.heap.size ≤ k) v xs g HW.out.row (Below.refl _ _) HW.out.size HW.out.box (by have := HW.out.few; omega)).mono ?_
          rintro e w1 ⟨rfl, ys, hp, hsd, hR', hB', hbx⟩
          have y1 : w1.cell? ⟨g, 0, none⟩ = some v := blk_cell (hbx.trans HW.out.box) 0
          have hys : ys = newest l.flatten := newest_of _ _ (sorted_strict hp HW.out.got.apart hsd) (fun x => (hp.mem_iff).trans (HL0.out x))
          have hle : w.heap.size ≤ w0.heap.size := by have := HGW.out; have := HZ.out; omega
          have HF := Aside0.mk (show Kd.R k42 42 w1 w.heap.size (fun _ => True) v (newest l.flatten) ∧ Below w.heap.size w w1 from ⟨by rw [← hys]; exact Kd.R_lower (Kd.R_mono hR' (fun _ _ => trivial)) hle, HW.out.bel.trans (hB'.mono hle)⟩)
          clear hp hsd hR' hB' hbx hys HW y0 HL0
          go_wp2
          go_ret
          exact ⟨v, rfl, HF.out.1, HF.out.2⟩
        · intro e w1 cnt1 hl1 hb1 hr1 hlt1 hg1 hs1 hen
          have hgl : g < w0.heap.size := by have := HZ.out; omega
          have HW1 := Aside0.mk (show RangeAt w w1 g w0.heap.size n D l.flatten (fun z => left z && !z.sameKey (kl e.f0)) cnt1 v (xs ++ [e]) → True from fun _ => trivial)
          have HR1 := Aside0.mk hr1
          have HGT := Aside0.mk (got_step HW.out.got hl1 hb1)
          have HBX1 := Aside0.mk (show w1.heap[g]? = some (.cells #[v] 25 (0, 0)) from blk_grown HW.out.box hg1 (by intro h; injection h with h; omega))
          have HRW := Aside0.mk (Kd.R_grown HW.out.row hg1 (fun k hk h => by injection h with h; have := HZ.out; omega))
          have HB1 := Aside0.mk (HW.out.bel.grown hg1 HW.out.bel.size (fun k h => by injection h with h; have := HGW.out; omega))
          have HS1 := Aside0.mk (show w0.heap.size ≤ w1.heap.size by have := HW.out.size; omega)
          have HFW := Aside0.mk (show xs.length + 1 + cnt1 ≤ 4194304 by have := HW.out.few; omega)
          have HLF := Aside0.mk (show cnt1 < wr.rangeLeft w.heap.size (g + 1) by rw [HW.out.rng.left_eq]; exact hlt1)
          clear hl1 hb1 hr1 hlt1 hg1 hs1 HW1 y0
          have y1 : w1.cell? ⟨g, 0, none⟩ = some v := blk_cell HBX1.out 0
          go_upto_region 17 with (fail)
          obtain ⟨W, hW⟩ : ∃ W, w1.alloc (.cells #[.string e.f0, .int .i64 e.f1, .int .i64 e.f2, .string e.f3] 42) = W := ⟨_, rfl⟩
          have GE := Aside0.mk (show W.heap[w1.heap.size]? = some (.cells #[.string e.f0, .int .i64 e.f1, .int .i64 e.f2, .string e.f3] 42 (0, 0)) from by rw [← hW]; exact heap_alloc_new w1 _)
          have HBX2 := Aside0.mk (show W.heap[g]? = some (.cells #[v] 25 (0, 0)) from by rw [← hW]; exact (Below.heap_alloc _ _ _ (blk_lt HBX1.out)).trans HBX1.out)
          have HR2 := Aside0.mk (show W.ranges Try.prog 9 entR w.heap.size (g + 1) n D (fun z => left z && !z.sameKey (kl e.f0)) cnt1 from by rw [← hW]; exact HR1.out.alloc _)
          have HRW2 := Aside0.mk (show Kd.R k42 42 W w0.heap.size (fun k => w0.heap.size ≤ k) v xs from by rw [← hW]; exact Kd.R_alloc HRW.out _)
          have HB2 := Aside0.mk (show Below w.heap.size w W from by rw [← hW]; exact HB1.out.alloc HB1.out.size _)
          have HS2 := Aside0.mk (show w0.heap.size ≤ W.heap.size from by rw [← hW]; exact Nat.le_trans HS1.out (by simp))
          rw [hW]
          clear hW HBX1 HR1 HRW HB1 HS1 y1 hen
          generalize w1.heap.size = ge at *
          have y1 : W.cell? ⟨g, 0, none⟩ = some v := blk_cell HBX2.out 0
          have e0 := blk_cell GE.out 0
          have e1 := blk_cell GE.out 1
          have e2 := blk_cell GE.out 2
          have e3 := blk_cell GE.out 3
          go_wp2_with ((with_reducible refine gate_builtin (b := .append) (xs := #[.tmp 54, .tmp 56]) rfl ?_); (try (refine gate_guard (by rfl) ?_; dsimp only)); at_builtin; refine Kd.R_append k42 (w0 := W) w0.heap.size rfl (.tmp 54) (.tmp 56) 25 42 (.agg #[(.string ⟨#[]⟩), (.int .i64 0), (.int .i64 0), (.string ⟨#[]⟩)]) 48 rfl Try.underlying25 info42 rfl (by decide) (by omega) v xs e [.string e.f0, .int .i64 e.f1, .int .i64 e.f2, .string e.f3] (fun k => w0.heap.size ≤ k) (fun _ => False) rfl rfl ?aP (fun _ hk => hk.elim) ?aF ?aO ?aB ?aS ?aL ?_; (case aP => exact k42_mkM _ _ _ e); (case aF => exact (fun k hk => Nat.le_trans HS2.out hk)); (case aO => exact HRW2.out); (case aB => exact Below.refl _ _); (case aS => exact HS2.out); (case aL => have := HFW.out; omega); intro v1 w2 ho hb hg hat; obtain ⟨A1, c1, rfl⟩ := Kd.R_slice ho; have HO3 := Aside0.mk ho; have HB3 := Aside0.mk hb; have HG3 := Aside0.mk hg; clear ho hb hg hat; have HBX3 := Aside0.mk (show w2.heap[g]? = some (.cells #[v] 25 (0, 0)) from (HB3.out.block g hgl).trans HBX2.out); have y2 : w2.cell? ⟨g, 0, none⟩ = some v := blk_cell HBX3.out 0; have f2 := blk_frozen HBX3.out 0; clear y1 e0 e1 e2 e3)
          have hl1 : (xs ++ [e]).length = xs.length + 1 := by simp
          have hro := HO3.out
          rw [hl1] at hro
          have hbn : some w.heap.size ≠ v.ownBlock := fun h => by have := HRW2.out.1 _ h.symm; have := HGW.out; have := HZ.out; omega
          have hrn : some (g + 1) ≠ v.ownBlock := fun h => by have := HRW2.out.1 _ h.symm; have := HZ.out; omega
          have hr3 := (HR2.out.kept HG3.out hbn hrn).kept (grown_set (g := g) (.slice A1 (xs.length + 1) c1)) (fun h => by injection h with h; have := HGW.out; omega) (fun h => by injection h with h; omega)
          refine ⟨⟨_, cnt1, .slice A1 (xs.length + 1) c1, xs ++ [e], ⟨hr3, HGT.out, blk_set HBX3.out 0 _, Kd.R_far hro (fun k hk => fun h => by have hk : w0.heap.size ≤ k := hk; have h : k = g := h; omega) _, ?_, by rw [hl1]; exact HFW.out, ?_⟩⟩, by rw [hr3.left_eq]; exact HLF.out⟩
          · have hle : w.heap.size ≤ w0.heap.size := by have := HGW.out; have := HZ.out; omega
            exact (HB2.out.trans (HB3.out.mono hle)).setCell (Nat.le_of_lt HGW.out) _
          · show w0.heap.size ≤ _
            have := HB3.out.size
            have := HS2.out
            simp [World.setCell]
            omega
end Go.Proofs.Ytkbhcejibcjglaa.M
end
section
/- The specification's l3Order, walked. Condition: the entries are not too many, their keys not too long. -/
namespace Go.Proofs.Ytkbhcejibcjglaa.M
open Go.RowKit Go.Proofs.Ytkbhcejibcjglaa.P Go.Proofs.YtkbhcejibcjglaaW.PrintWords Go.Proofs.YtkbhcejibcjglaaW.PrintLast Go.Proofs.YtkbhcejibcjglaaW.PrintMore
set_option linter.unusedVariables false
set_option linter.unusedSimpArgs false
def OrderPost (l : List S42) (w : World) (e : Ending) (w' : World) : Prop := ∃ A' c', e = .returned (.slice A' (order l).length c') ∧ (order l).length ≤ c' ∧ Kd.C k42 w' A' (order l).length (order l) ∧ Below w.heap.size w w'
theorem below_over {a W w1 : World} (h : Below a.heap.size a W) (h1 : Below W.heap.size W w1) : Below a.heap.size a w1 := h.trans (h1.mono h.size)
theorem keys_order {l : List S42} (h : KeysOk l) : KeysOk (order l) := fun x hx => h x ((order_mem l x).1 hx)
set_option maxHeartbeats 4000000 in
theorem order_call : ∀ N : Nat, ∀ l : List S42, l.length ≤ N → ∀ (A : Option Addr) (c : Nat) (w : World), Kd.C k42 w A l.length l → l.length ≤ c → KeysOk l → l.length ≤ 4194304 →
    Calls Try.prog 19 #[.slice A l.length c] w (OrderPost l w) := by
  intro N
  induction N with
  | zero =>
    intro l hN A c w hr hc hk hl
    have HR := Aside0.mk hr
    have HP := Aside0.mk (show OrderPost l w (.returned (.slice A l.length c)) w from by unfold OrderPost; rw [order_small (by omega)]; exact ⟨A, c, rfl, hc, hr, Below.refl _ _⟩)
    have h2 : l.length < 2 := by omega
    have d2 : decide ((l.length : Int) < 2) = true := decide_eq_true (by omega)
    clear hr hk
    go_enter Try.func19, Try.ntmps19
    go_wp2
    all_goals (go_ret; exact HP.out)
  | succ N ih =>
    intro l hN A c w hr hc hk hl
    have HR := Aside0.mk hr
    have HK := Aside0.mk hk
    have IH := Aside0.mk ih
    clear hr hk ih
    by_cases h2 : l.length < 2
    · have HP := Aside0.mk (show OrderPost l w (.returned (.slice A l.length c)) w from by unfold OrderPost; rw [order_small (by omega)]; exact ⟨A, c, rfl, hc, HR.out, Below.refl _ _⟩)
      have d2 : decide ((l.length : Int) < 2) = true := decide_eq_true (by omega)
      go_enter Try.func19, Try.ntmps19
      go_wp2
      all_goals (go_ret; exact HP.out)
    · have d2 : decide ((l.length : Int) < 2) = false := decide_eq_false (by omega)
      go_enter Try.func19, Try.ntmps19
      go_upto_region 4 with (fail)
      obtain ⟨ad, hA, _⟩ := HR.out.2.2 (by omega)
      subst hA
      obtain ⟨m, hm⟩ : ∃ m : Nat, (l.length : Int) / 2 = (m : Int) := ⟨l.length / 2, by omega⟩
      have HM := Aside0.mk (show m = l.length / 2 by omega)
      rw [hm]
      have hm1 : m < l.length := by omega
      have hm2 : m ≤ l.length := by omega
      have hcm : ¬ c = m := by omega
      have h1 : ∀ W, Below w.heap.size w W → Calls Try.prog 19 #[.slice (some ad) m c] W (OrderPost (l.take m) W) := fun W hb => by
        have h := IH.out (l.take m) (by rw [List.length_take]; omega) (some ad) c W (Kd.C_below (Kd.C_take HR.out hm2) hb) (by rw [List.length_take]; omega) (fun x hx => HK.out x (List.mem_of_mem_take hx)) (by rw [List.length_take]; omega)
        rw [List.length_take, Nat.min_eq_left hm2] at h
        exact h
      have h2' : ∀ W, Below w.heap.size w W → Calls Try.prog 19 #[.slice (some (ad.add (m * 4))) (l.length - m) (c - m)] W (OrderPost (l.drop m) W) := fun W hb => by
        have h := IH.out (l.drop m) (by rw [List.length_drop]; omega) (some (ad.add (m * 4))) (c - m) W (Kd.C_below (by have h := Kd.C_drop HR.out hm2 hc; rw [if_neg hcm] at h; exact h) hb) (by rw [List.length_drop]; omega) (fun x hx => HK.out x (List.mem_of_mem_drop hx)) (by rw [List.length_drop]; omega)
        rw [List.length_drop] at h
        exact h
      obtain ⟨kh, hkh⟩ := Ev.rounds (half_eq (order (l.take m)) (order (l.drop m)) (keys_order (fun x hx => HK.out x (List.mem_of_mem_drop hx))) (by rw [order_length, order_length, List.length_take, List.length_drop]; omega))
      have ho : half (order (l.take m)) (order (l.drop m)) = order l := by rw [order_big h2, HM.out]
      rw [ho] at hkh
      have HH := Aside0.mk hkh
      have H1 := Aside0.mk h1
      have H2 := Aside0.mk h2'
      clear h1 h2' hm hkh ho
      go_region_with (first
        | (go_at_call_of 19 (Value.slice (some ad) m c); refine (H1.out _ ?_).mono ?_; (first | exact HB2.out | exact (Below.refl _ _).drew | exact Below.refl _ _); rintro e w1 ⟨A1, c1, rfl, hc1, hC1, hB1⟩; have HB1 := Aside0.mk (show Below w.heap.size w w1 from below_over (by first | exact HB2.out | exact (Below.refl _ _).drew | exact Below.refl _ _) hB1); have HC1 := Aside0.mk hC1; (try replace HC2 := Aside0.mk (Kd.C_below HC2.out hB1)); clear hC1 hB1)
        | (go_at_call_of 19 (Value.slice (some (ad.add (m * 4))) (l.length - m) (c - m)); refine (H2.out _ ?_).mono ?_; (first | exact HB1.out | exact (Below.refl _ _).drew | exact Below.refl _ _); rintro e w2 ⟨A2, c2, rfl, hc2, hC2, hB2⟩; have HB2 := Aside0.mk (show Below w.heap.size w w2 from below_over (by first | exact HB1.out | exact (Below.refl _ _).drew | exact Below.refl _ _) hB2); have HC2 := Aside0.mk hC2; (try replace HC1 := Aside0.mk (Kd.C_below HC1.out hB2)); clear hC2 hB2)
        | (go_at_call 28; refine (spec_l3Half.calls kh _ _ _ _ _ _ _ _ HC1.out hc1 HC2.out hc2 HH.out).mono ?_; rintro e w3 ⟨v, rfl, hR, hB⟩; have HF := Aside0.mk (show OrderPost l w (.returned v) w3 from by obtain ⟨A', c', rfl, h3, h4⟩ := Kd.R_reads hR; exact ⟨A', c', rfl, h3, h4, below_over (by first | exact HB2.out | exact HB1.out) hB⟩); clear hR hB))
      all_goals (go_wp2; go_ret; exact HF.out)
end Go.Proofs.Ytkbhcejibcjglaa.M
end

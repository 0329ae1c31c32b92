/- Texts of the claim FnExactNewest, part 28 of 31, joined: MMap, MSort, MSortR, MNewestWalk, MOrder, MSpecNewest, MKinds, PlawsszEntry, PlawsszEntryS, PlawstoEntry. No condition beyond those that stand at each. -/
import Derived.Test.YtkbhcejibcjglaaZFnExactNewest26
import Derived.StringKeys
import Derived.Maps.OwnSet
import Derived.Maps.RangeWalk
import Derived.Test.YtkbhcejibcjglaaZFnExactNewest23
import Derived.Deep.QuietTactic
import Derived.Test.YtkbhcejibcjglaaZFnExactNewest27
import Derived.Deep.RegionWith
import Derived.BigQuiet
import Derived.Test.YtkbhcejibcjglaaZFnExactNewest25
section
/- The map of entries that Newest makes: what it reads as, and its operations at the walk. Condition: a key is no longer than a text may be. -/
namespace Go.Proofs.Ytkbhcejibcjglaa.M
open Go.RowKit Go.Maps Go.WideShapes Go.ChangeMaps Go.Proofs.Ytkbhcejibcjglaa.P
set_option linter.unusedVariables false
/-- An entry as one value; as a datum. -/
def valE (x : S42) : Value := .agg #[.string x.f0, .int .i64 x.f1, .int .i64 x.f2, .string x.f3]
def datE (x : S42) : DataW Unit := .agg [.lit (.string x.f0.data.toList), .lit (.int .i64 x.f1), .lit (.int .i64 x.f2), .lit (.string x.f3.data.toList)]
/-- A key as a literal. -/
def kl (k : ByteArray) : Lit := .string k.data.toList
theorem kl_inj {a b : ByteArray} (h : kl a = kl b) : a = b := by
  unfold kl at h
  injection h with h
  exact ByteArray.ext (Array.toList_inj.1 h)
theorem kl_key (k : ByteArray) : WideAt.IsKeyLit (kl k) := trivial
theorem kl_same (k : ByteArray) : (kl k).sameKey (kl k) = true := by simp [kl, Lit.sameKey]
theorem datE_inj {a b : S42} (h : datE a = datE b) : a = b := by
  unfold datE at h
  injection h with h
  injection h with h0 h
  injection h with h1 h
  injection h with h2 h
  injection h with h3 h
  injection h0 with h0
  injection h1 with h1
  injection h2 with h2
  injection h3 with h3
  injection h1 with _ h1
  injection h2 with _ h2
  have e0 := kl_inj (a := a.f0) (b := b.f0) h0
  have e3 := kl_inj (a := a.f3) (b := b.f3) h3
  cases a
  cases b
  simp at *
  exact ⟨e0, h1, h2, e3⟩
/-- How an element reads. -/
noncomputable def entR (v : Value) : Option (DataW Unit × List MemPlace) := open Classical in if h : ∃ x, v = valE x then some (datE (Classical.choose h), []) else none
theorem valE_inj {a b : S42} (h : valE a = valE b) : a = b := by
  unfold valE at h
  injection h with h
  have h := congrArg Array.toList h
  simp at h
  cases a
  cases b
  simp at *
  exact h
theorem entR_mk (x : S42) : entR (valE x) = some (datE x, []) := by
  have h : ∃ y, valE x = valE y := ⟨x, rfl⟩
  unfold entR
  rw [dif_pos h, ← valE_inj (Classical.choose_spec h)]
theorem entR_inv {v : Value} {y : DataW Unit × List MemPlace} (h : entR v = some y) : ∃ x, v = valE x ∧ y = (datE x, []) := by
  unfold entR at h
  split at h
  · rename_i hv
    exact ⟨_, Classical.choose_spec hv, (Option.some.inj h).symm⟩
  · cases h
theorem keyed : Keyed Try.prog 9 := string_keyed Try.underlying9
theorem key_of {s : ByteArray} (hs : s.size ≤ maxLen) : keyOf Try.prog 9 (.string s) = some (kl s) := Go.WideMaps.keyOf_string_mk Try.underlying9 hs
theorem key_inv {v : Value} {k : Lit} (h : keyOf Try.prog 9 v = some k) : ∃ s, v = .string s ∧ k = kl s := by
  have hk := Try.underlying9
  cases v <;> simp [keyOf, hk, mapKey] at h
  exact ⟨_, rfl, h.2.symm⟩
theorem zero42 (w : World) : (zeroValue 42).run Try.prog w = .ok (valE z42) w := by kernel_rfl
/-- What the map tells: of each key the best so far. -/
structure Tells (D : DataW Unit) (all : List S42) : Prop where
  some_ : ∀ k e, best all k = some e → has D (kl k) = true ∧ ∀ z, D.atKey (kl k) z = datE e
  none_ : ∀ k, best all k = none → has D (kl k) = false
theorem tells_nil : Tells (.map []) [] := ⟨fun k e h => (by rw [best_nil] at h; cases h), fun k _ => rfl⟩
theorem tells_put {D : DataW Unit} {all : List S42} {e : S42} (h : Tells D all) (hm : IsMap D) (hb : best (all ++ [e]) e.f0 = some e) : Tells (D.put (kl e.f0) (datE e)) (all ++ [e]) := by
  refine ⟨fun k x hx => ?_, fun k hx => ?_⟩
  · by_cases c : e.f0 = k
    · subst c
      rw [hb] at hx
      obtain rfl := Option.some.inj hx
      exact ⟨has_put_same hm (kl_key _) _, fun z => atKey_put_same hm (kl_key _) _ z⟩
    · rw [best_snoc, if_neg c] at hx
      have hne : kl k ≠ kl e.f0 := fun h => c (kl_inj h).symm
      have := h.some_ k x hx
      exact ⟨by rw [has_put_other hne]; exact this.1, fun z => by rw [atKey_put_other hne]; exact this.2 z⟩
  · by_cases c : e.f0 = k
    · subst c
      rw [hb] at hx
      cases hx
    · rw [best_snoc, if_neg c] at hx
      have hne : kl k ≠ kl e.f0 := fun h => c (kl_inj h).symm
      rw [has_put_other hne]
      exact h.none_ k hx
theorem tells_keep {D : DataW Unit} {all : List S42} {e : S42} (h : Tells D all) (hb : best (all ++ [e]) e.f0 = best all e.f0) : Tells D (all ++ [e]) := by
  have he : ∀ k, best (all ++ [e]) k = best all k := by
    intro k
    by_cases c : e.f0 = k
    · subst c; exact hb
    · rw [best_snoc, if_neg c]
  exact ⟨fun k x hx => h.some_ k x (by rw [← he]; exact hx), fun k hx => h.none_ k (by rw [← he]; exact hx)⟩
section
variable {w : World} {ops : Array Oper} {rest : List Oper} {o : Oper} {a : Act} {Q : Exit → Act → World → Prop}
/-- 'old, had := at[key]'. -/
theorem wp_lookup (hg : o.guard = none) (m x : Operand) (hop : o.op = Op.lookup 44 m x true) (b n : Nat) (D : DataW Unit) (all : List S42) (hm : a.eval m = .map (some b)) (hown : w.ownsMap Try.prog 9 entR b n D) (hT : Tells D all)
    (s : ByteArray) (hx : a.eval x = .string s) (hs : s.size ≤ maxLen) (hK : wpList Try.prog ops Q rest (a.put o.dst (.tuple #[valE ((best all s).getD z42), .bool (best all s).isSome])) w) : wpList Try.prog ops Q (o :: rest) a w := by
  refine wpList_lookup_own_ok w hg m x 44 hop 9 42 keyed Try.underlying44 entR (zero42 w) (datE z42) [] (entR_mk z42) b n D hm hown _ _ hx (key_of hs) ?_
  intro v ps hv
  obtain ⟨y, rfl, hy⟩ := entR_inv hv
  have hy : D.atKey (kl s) (datE z42) = datE y := congrArg Prod.fst hy
  cases hbst : best all s with
  | none =>
    have h1 := hT.none_ s hbst
    rw [atKey_of_not_has h1] at hy
    rw [hbst] at hK
    obtain rfl := datE_inj hy
    rw [h1]
    exact hK
  | some e =>
    have h1 := hT.some_ s e hbst
    rw [h1.2] at hy
    rw [hbst] at hK
    obtain rfl := datE_inj hy
    rw [h1.1]
    exact hK
/-- 'at[e.Key] = e'. -/
theorem wp_update (hg : o.guard = none) (m x v : Operand) (hop : o.op = Op.mapUpdate 44 m x v) (b n : Nat) (D : DataW Unit) (all : List S42) (hm : a.eval m = .map (some b)) (hown : w.ownsMap Try.prog 9 entR b n D) (hT : Tells D all) (hn : n < maxLen)
    (e : S42) (hx : a.eval x = .string e.f0) (hv : a.eval v = valE e) (hs : e.f0.size ≤ maxLen) (hb : best (all ++ [e]) e.f0 = some e)
    (hK : ∀ w' D', w'.ownsMap Try.prog 9 entR b (n + 1) D' → Tells D' (all ++ [e]) → w.grownBy w' (some b) → wpList Try.prog ops Q rest (a.put o.dst undef) w') : wpList Try.prog ops Q (o :: rest) a w := by
  refine wpList_mapUpdate_own w hg m x v 44 hop 9 42 keyed Try.underlying44 entR b n D hm hown hn _ _ (kl e.f0) hx hv (key_of hs) (datE e) [] (entR_mk e) ?_
  intro w' h1 h2
  exact hK w' _ h1 (tells_put hT (World.ownsMap.isMap hown) hb) h2
/-- What has been collected: the best of the keys that are no longer to come. -/
structure Got (all : List S42) (left : Lit → Bool) (xs : List S42) : Prop where
  mem : ∀ e, e ∈ xs ↔ best all e.f0 = some e ∧ left (kl e.f0) = false
  apart : xs.Pairwise fun x y => x.f0 ≠ y.f0
theorem got_start {D : DataW Unit} {all : List S42} (hT : Tells D all) : Got all (has D) [] :=
  ⟨fun e => ⟨fun h => absurd h (by simp), fun h => by have := (hT.some_ _ _ h.1).1; rw [h.2] at this; cases this⟩, List.Pairwise.nil⟩
theorem got_step {all : List S42} {left : Lit → Bool} {xs : List S42} (h : Got all left xs) {e : S42} (hl : left (kl e.f0) = true) (hb : best all e.f0 = some e) : Got all (fun z => left z && !z.sameKey (kl e.f0)) (xs ++ [e]) := by
  refine ⟨fun x => ?_, ?_⟩
  · rw [List.mem_append, h.mem]
    by_cases c : x.f0 = e.f0
    · rw [c, kl_same, hl, hb]
      simp
      constructor
      · rintro rfl; rfl
      · intro h; exact h.symm
    · have hne : (kl x.f0).sameKey (kl e.f0) = false := sameKey_ne (fun h => c (kl_inj h))
      have hx : ¬ x = e := fun h => c (by rw [h])
      simp [hne, hx]
  · rw [List.pairwise_append]
    refine ⟨h.apart, List.pairwise_singleton _ _, fun x hx y hy => ?_⟩
    simp at hy
    subst hy
    intro c
    have := ((h.mem x).1 hx).2
    rw [c, hl] at this
    cases this
theorem got_end {all : List S42} {left : Lit → Bool} {xs : List S42} (h : Got all left xs) (hl : ∀ k, left k = false) : ∀ e, e ∈ xs ↔ best all e.f0 = some e := fun e => (h.mem e).trans ⟨fun h => h.1, fun h => ⟨h, hl _⟩⟩
/-- 'for _, e := range at': the step. -/
theorem wp_next (hg : o.guard = none) (it : Operand) (hop : o.op = Op.next it false) (b r n : Nat) (D : DataW Unit) (all : List S42) (left : Lit → Bool) (cnt : Nat) (hit : a.eval it = .pointer (some ⟨r, 0, none⟩)) (h : w.ranges Try.prog 9 entR b r n D left cnt) (hT : Tells D all)
    (hDone : (∀ k, left k = false) → wpList Try.prog ops Q rest (a.put o.dst (.tuple #[.bool false])) w)
    (hMore : ∀ (e : S42) (w' : World) (cnt' : Nat), left (kl e.f0) = true → best all e.f0 = some e → w'.ranges Try.prog 9 entR b r n D (fun z => left z && !z.sameKey (kl e.f0)) cnt' → cnt' < cnt →
      w.grownBy w' (some r) → w'.heap.size = w.heap.size → (Instr.entry (.pointer (some ⟨r, 0, none⟩))).run Try.prog w' = .ok (.tuple #[.string e.f0, .agg #[.string e.f0, .int .i64 e.f1, .int .i64 e.f2, .string e.f3]]) w' → wpList Try.prog ops Q rest (a.put o.dst (.tuple #[.bool true, .string e.f0, .agg #[.string e.f0, .int .i64 e.f1, .int .i64 e.f2, .string e.f3]])) w') : wpList Try.prog ops Q (o :: rest) a w := by
  refine wpList_next_ranges w hg it hop 9 keyed entR Value.string valE (fun v k hk => ?_) (fun v y hy => ?_) b r n D left cnt hit h (fun _ hl => hDone hl) ?_
  · obtain ⟨s, rfl, _⟩ := key_inv hk
    exact ⟨s, rfl⟩
  · obtain ⟨x, rfl, _⟩ := entR_inv hy
    exact ⟨x, rfl⟩
  · intro s e k y w' cnt' hk hl hy hat hr hlt hgr hsz hen
    obtain ⟨s', es, rfl⟩ := key_inv hk
    injection es with es
    subst es
    rw [entR_mk] at hy
    obtain rfl := Option.some.inj hy
    have hbst : best all s = some e := by
      cases hb : best all s with
      | none =>
        have h1 := hT.none_ s hb
        have h2 := hat (datE z42)
        have h3 := hat (.map [])
        rw [atKey_of_not_has h1] at h3
        cases h3
      | some e' =>
        have h1 := (hT.some_ s e' hb).2 (.map [])
        rw [hat] at h1
        rw [datE_inj h1]
    have hks := (best_key hbst).2
    subst hks
    exact hMore e w' cnt' hl hbst hr hlt hgr hsz hen
end
end Go.Proofs.Ytkbhcejibcjglaa.M
end
section
/- sort.Slice as Newest calls it, at two entries or more: the row holds a permutation of what it held, in order of the keys. Condition: the row holds the entries, the box holds the slice. -/
namespace Go.Proofs.Ytkbhcejibcjglaa.M
open Go.Shelf Go.RowKit Go.Lib Go.Sort Go.Proofs.Ytkbhcejibcjglaa.P
set_option linter.unusedVariables false
instance : Inhabited S42 := ⟨z42⟩
noncomputable def svT : TypeInfo := (Try.prog.info? 25).get (by kernel_rfl)
noncomputable def svE : TypeInfo := (Try.prog.info? 42).get (by kernel_rfl)
theorem svK (n : Nat) (h2 : 2 ≤ n) : Lib.swapperK n svE 25 = 9 := by
  have a : svE.hasPointers = true := by kernel_rfl
  have b : svE.bytes = 48 := by kernel_rfl
  have c : (n == 0) = false := by simp; omega
  have d : (n == 1) = false := by simp; omega
  simp [Lib.swapperK, a, b, c, d]
/-- An entry: its four cells. -/
def encE (p : S42) : List Value := [.string p.f0, .int .i64 p.f1, .int .i64 p.f2, .string p.f3]
/-- 'less': by key. -/
def ltE (a b : S42) : Bool := lss a.f0 b.f0
theorem swo_ltE : SWO ltE where
  irrefl := fun x => lss_irrefl _
  trans := fun x y z h1 h2 => lss_trans h1 h2
  ntrans := fun x y z h1 h2 => by
    unfold ltE at *
    cases h : lss x.f0 z.f0 with
    | false => rfl
    | true =>
      cases h3 : lss y.f0 x.f0 with
      | true => rw [lss_trans h3 h] at h2; cases h2
      | false => rw [← lss_total h1 h3, h] at h2; cases h2
set_option maxHeartbeats 2000000 in
/-- Newest's own closure, bound to a pointer to the boxed slice. -/
theorem less_entries (blk off c Bs size : Nat) (W : World) (G : Nat → ByteArray) (hs : W.cell? ⟨Bs, 0, none⟩ = some (.slice (some ⟨blk, off, none⟩) size c))
    (hc : ∀ t, t < size → W.cell? ⟨blk, off + t * 4, none⟩ = some (.string (G t))) (i j : Nat) (hi : i < size) (hj : j < size) (_hsz : size < 4611686018427387904) :
    Calls Try.prog 21 #[.int .i64 i, .int .i64 j, .pointer (some ⟨Bs, 0, none⟩)] W fun e w' => e = .returned (.bool (lss (G i) (G j))) ∧ ∃ q, w' = W.drewN q := by
  have ci := hc i hi
  have cj := hc j hj
  clear hc
  go_enter Try.func21, Try.ntmps21
  go_wp2
  go_quiet (fail)
  go_wp2
  go_ret
  exact ⟨rfl, nq, rfl⟩
set_option maxHeartbeats 2000000 in
theorem sort_entries (blk c Bs : Nat) (d : Array S42) (h2 : 2 ≤ d.size) (hsz : d.size < 4611686018427387904) (w : World) (hH : HoldsK encE 4 w blk 0 d) (hblk : blk < w.heap.size)
    (hBs : w.cell? ⟨Bs, 0, none⟩ = some (.slice (some ⟨blk, 0, none⟩) d.size c)) (hB1 : Bs < w.heap.size) (hB2 : Bs ≠ blk) :
    Calls Try.prog 20 #[.iface 25 (.slice (some ⟨blk, 0, none⟩) d.size c), .func (.func 21) #[] #[.pointer (some ⟨Bs, 0, none⟩)]] w fun e w' =>
      e = .returned (.tuple #[]) ∧ ∃ d' n os, PermIn 0 d.size d d' ∧ SortedIn ltE 0 d.size d' ∧ w' = grow (putRowK encE 4 (Sort.ahead w n) blk 0 d') os := by
  have hless : LessReadsK Try.prog 21 #[.pointer (some ⟨Bs, 0, none⟩)] encE 4 ltE blk 0 d.size w := by
    intro m os dk hs i j hi hj
    have e : sortWorldK encE 4 w blk 0 m dk os = putRowK encE 4 (grow (Sort.ahead w m) os) blk 0 dk := by
      unfold sortWorldK; rw [putRowK_grow _ _ (Sort.ahead w m) _ blk 0 _ hblk]
    have hHg : HoldsK encE 4 (grow (Sort.ahead w m) os) blk 0 d := holdsK_grow _ _ _ _ blk 0 d hblk (holdsK_ahead _ _ _ _ _ _ _ hH)
    refine less_entries blk 0 c Bs d.size _ (fun t => dk[t]!.f0) ?_ (fun t ht => ?_) i j hi hj (by omega)
    · rw [e, cell?_putRowK_other _ _ _ blk 0 dk _ (by exact hB2), cell?_grow _ _ _ (by exact hB1)]; exact hBs
    · rw [e]; exact ((holdsK_putRowK _ _ _ blk 0 d dk hHg hs).cell (i := t) (c := 0) (by omega) (by omega)).1
  exact Any.sort_Slice_cells_sorted Try.laysGg6 25 42 svT svE (by kernel_rfl) (by kernel_rfl) (by kernel_rfl) (by kernel_rfl) 25 (fun _ => by kernel_rfl) encE 4 (fun _ => rfl) (by kernel_rfl) (fun _ => by kernel_rfl)
    (fun x v hv => by simp [encE] at hv; rcases hv with rfl | rfl | rfl | rfl <;> rfl) ltE swo_ltE 21 _
    (enters_of Try.func21 (by kernel_rfl) rfl) blk 0 c d h2 hsz 47 (by rw [svK _ h2]; kernel_rfl) false
    (fun args W => run_callFunc_extern Try.func47 (by kernel_rfl) (by kernel_rfl) (by kernel_rfl) (e := Extern.ReflectliteSwapper.swap false) (by kernel_rfl) args W) w hless hH hblk
theorem sort_tiny (p : Option Addr) (n c Bs : Nat) (h1 : n ≤ 1) (w : World) :
    Calls Try.prog 20 #[.iface 25 (.slice p n c), .func (.func 21) #[] #[.pointer (some ⟨Bs, 0, none⟩)]] w fun e w' => e = .returned (.tuple #[]) ∧ ∃ os, w' = grow w os := by
  have h : n = 0 ∨ n = 1 := by omega
  have a : svE.hasPointers = true := by kernel_rfl
  have b : svE.bytes = 48 := by kernel_rfl
  rcases h with rfl | rfl
  · exact Any.sort_Slice_tiny Try.laysGg6 25 42 svT svE (by kernel_rfl) (by kernel_rfl) (by kernel_rfl) (by kernel_rfl) 25 (fun _ => by kernel_rfl) p 0 c (by omega) 39 (by simp [Lib.swapperK]; kernel_rfl) _ _ _ w
  · exact Any.sort_Slice_tiny Try.laysGg6 25 42 svT svE (by kernel_rfl) (by kernel_rfl) (by kernel_rfl) (by kernel_rfl) 25 (fun _ => by kernel_rfl) p 1 c (by omega) 40 (by simp [Lib.swapperK]; kernel_rfl) _ _ _ w
#print axioms sort_entries
#print axioms sort_tiny
end Go.Proofs.Ytkbhcejibcjglaa.M
end
section
/- sort.Slice over a row of entries that the call has built: the same slice owns them in order. Condition: the box holds the slice; the row is the call's own. -/
namespace Go.Proofs.Ytkbhcejibcjglaa.M
open Go.Shelf Go.RowKit Go.Lib Go.Sort Go.Proofs.Ytkbhcejibcjglaa.P Go.Proofs.YtkbhcejibcjglaaW.PrintWords Go.Proofs.YtkbhcejibcjglaaW.PrintLast Go.Proofs.YtkbhcejibcjglaaW.PrintMore
set_option linter.unusedVariables false
theorem reps_flat {R : S42 → List Value → Prop} (hR : ∀ x cs, R x cs → cs = encE x) {xs : List S42} {inner : List Value} (h : Reps R 4 xs inner) : inner = (flatK encE 4 xs.toArray).toList := by
  apply List.ext_getElem?
  intro t
  have hl := h.1
  by_cases ht : t < xs.length * 4
  · have hj : t / 4 < xs.length := by omega
    have h1 := h.2 (t / 4) xs[t / 4] (List.getElem?_eq_getElem hj)
    have h2 := hR _ _ h1
    have h3 : ((inner.drop (t / 4 * 4)).take 4)[t % 4]? = inner[t]? := by
      rw [List.getElem?_take_of_lt (by omega), List.getElem?_drop, show t / 4 * 4 + t % 4 = t by omega]
    rw [← h3, h2, show (flatK encE 4 xs.toArray).toList[t]? = (flatK encE 4 xs.toArray)[t]? from Array.getElem?_toList ..]
    have h4 := get_flatK encE 4 xs.toArray t (by simpa using ht)
    rw [show (flatK encE 4 xs.toArray)[t]? = some ((flatK encE 4 xs.toArray)[t]'(by simpa using ht)) from Array.getElem?_eq_getElem _]
    rw [getElem!_pos (flatK encE 4 xs.toArray) t (by simpa using ht)] at h4
    rw [h4]
    have h5 : xs.toArray[t / 4]! = xs[t / 4] := by rw [getElem!_pos _ _ (by simpa using hj)]; simp
    rw [h5, getElem!_pos (encE xs[t / 4]) (t % 4) (by show t % 4 < 4; omega), List.getElem?_eq_getElem (by show t % 4 < 4; omega)]
  · rw [List.getElem?_eq_none (by omega), List.getElem?_eq_none (by simp; omega)]
theorem flat_reps {R : S42 → List Value → Prop} (hR : ∀ x, R x (encE x)) (xs : List S42) : Reps R 4 xs (flatK encE 4 xs.toArray).toList := by
  refine ⟨by simp, fun j p hj => ?_⟩
  have hlt : j < xs.length := (List.getElem?_eq_some_iff.1 hj).1
  have e : (((flatK encE 4 xs.toArray).toList.drop (j * 4)).take 4) = encE p := by
    apply List.ext_getElem?
    intro c
    by_cases hc : c < 4
    · rw [List.getElem?_take_of_lt hc, List.getElem?_drop, Array.getElem?_toList]
      have h4 := get_flatK encE 4 xs.toArray (j * 4 + c) (by simp; omega)
      rw [getElem!_pos (flatK encE 4 xs.toArray) (j * 4 + c) (by simp; omega)] at h4
      rw [Array.getElem?_eq_getElem (by simp; omega), h4, show (j * 4 + c) / 4 = j by omega, show (j * 4 + c) % 4 = c by omega]
      have h5 : xs.toArray[j]! = p := by
        rw [getElem!_pos _ _ (by simpa using hlt)]
        simpa using (List.getElem?_eq_some_iff.1 hj).2
      rw [h5, getElem!_pos _ _ (by show c < 4; omega), List.getElem?_eq_getElem (by show c < 4; omega)]
    · rw [List.getElem?_eq_none (by rw [List.length_take]; omega), List.getElem?_eq_none (by show 4 ≤ c; omega)]
  rw [e]
  exact hR p
theorem holds_of_row {w : World} {g : Nat} {cur : Array Value} {e : TypeId} {F : Array Value} (hb : w.heap[g]? = some (.cells cur e (0, 0))) (ht : cur.toList.take F.size = F.toList) : Holds id w g 0 F := by
  intro j hj
  refine ⟨?_, by simp [World.frozen?, hb]⟩
  have h1 : (cur.toList.take F.size)[j]? = F.toList[j]? := by rw [ht]
  rw [List.getElem?_take_of_lt hj] at h1
  simp only [World.cell?, hb, Nat.zero_add]
  simp only [Option.isSome_none, Bool.false_eq_true, if_false]
  rw [← Array.getElem?_toList, h1]
  simp [hj]
theorem heap_row {w : World} {g n : Nat} {os : Array Obj} {cur : Array Value} {e : TypeId} {fr : Nat × Nat} (F : Array Value) (hb : w.heap[g]? = some (.cells cur e fr)) :
    (grow (putRow id (Sort.ahead w n) g 0 F) os).heap[g]? = some (.cells (putCells id 0 F cur) e fr) := by
  have hg : g < w.heap.size := (Array.getElem?_eq_some_iff.1 hb).1
  rw [heap_grow_old _ _ (by simpa using hg)]
  simp [putRow, mapBlock, Sort.ahead, Array.getElem?_modify, hb, onCells]
theorem heap_row_other {w : World} {g n k : Nat} {os : Array Obj} (F : Array Value) (hk : k < w.heap.size) (hne : g ≠ k) : (grow (putRow id (Sort.ahead w n) g 0 F) os).heap[k]? = w.heap[k]? := by
  rw [heap_grow_old _ _ (by simpa using hk)]
  simp [putRow, mapBlock, Sort.ahead, Array.getElem?_modify, hne]
theorem take_row (cur F : Array Value) (h : F.size ≤ cur.size) : (putCells id 0 F cur).toList.take F.size = F.toList := by
  apply List.ext_getElem?
  intro j
  by_cases hj : j < F.size
  · rw [List.getElem?_take_of_lt hj, Array.getElem?_toList]
    simp [putCells, hj, show j < cur.size by omega]
  · rw [List.getElem?_take_eq_none (by omega), List.getElem?_eq_none (by simp; omega)]
theorem sorted_pair {d : Array S42} (h : SortedIn ltE 0 d.size d) : d.toList.Pairwise fun a b => lss b.f0 a.f0 = false := by
  rw [List.pairwise_iff_getElem]
  intro i j hi hj hij
  have hj' : j < d.size := by simpa using hj
  have := h i j (Nat.zero_le _) hij hj'
  rw [getElem!_pos _ i (by omega), getElem!_pos _ j (by omega)] at this
  simpa [ltE] using this
theorem grow_below {w : World} {os : Array Obj} : Below w.heap.size w (grow w os) := ⟨rfl, rfl, rfl, by simp, fun k hk => heap_grow_old _ _ hk⟩
theorem sort_call (w0 w : World) (base : Nat) (ok : Nat → Prop) (v : Value) (xs : List S42) (Bs : Nat) (hR : Kd.R k42 42 w base ok v xs) (hB : Below base w0 w) (hbase : base ≤ w.heap.size) (hBs : w.heap[Bs]? = some (.cells #[v] 25 (0, 0))) (hlen : xs.length ≤ 4611686018427387) :
    Calls Try.prog 20 #[.iface 25 v, .func (.func 21) #[] #[.pointer (some ⟨Bs, 0, none⟩)]] w fun e w' =>
      e = .returned (.tuple #[]) ∧ ∃ ys : List S42, ys.Perm xs ∧ (ys.Pairwise fun a b => lss b.f0 a.f0 = false) ∧ Kd.R k42 42 w' base ok v ys ∧ Below base w0 w' ∧ w'.heap[Bs]? = w.heap[Bs]? := by
  have hBlt : Bs < w.heap.size := (Array.getElem?_eq_some_iff.1 hBs).1
  by_cases h1 : xs.length ≤ 1
  · obtain ⟨A, c, rfl⟩ := Kd.R_slice hR
    refine (sort_tiny A xs.length c Bs h1 w).mono ?_
    rintro e w' ⟨rfl, os, rfl⟩
    refine ⟨rfl, xs, List.Perm.refl _, ?_, Kd.R_below hR grow_below, hB.trans (grow_below.mono hbase), heap_grow_old _ _ hBlt⟩
    match xs, h1 with
    | [], _ => exact List.Pairwise.nil
    | [x], _ => exact List.pairwise_singleton _ _
    | x :: y :: r, h1 => simp at h1
  · obtain ⟨hok, inner, hown, hrep⟩ := hR
    obtain ⟨hil, hown⟩ := hown
    rcases hown with ⟨rfl, h0⟩ | ⟨g, cap, cur, rfl, hg, hb, hc1, hc2, hc3, hc4⟩
    · exact absurd h0 (by omega)
    have hin := reps_flat (fun x cs hx => k42_openM hx) hrep
    have hne : g ≠ Bs := by
      intro e
      subst e
      rw [hb] at hBs
      cases hBs
    have hglt : g < w.heap.size := (Array.getElem?_eq_some_iff.1 hb).1
    have hF : (flatK encE 4 xs.toArray).size = xs.length * 4 := by simp
    have hH : HoldsK encE 4 w g 0 xs.toArray := holds_of_row hb (by rw [hF]; exact hc4.trans hin)
    have hcell : w.cell? ⟨Bs, 0, none⟩ = some (.slice (some ⟨g, 0, none⟩) xs.toArray.size cap) := by simp [World.cell?, hBs]
    have hs := sort_entries g cap Bs xs.toArray (by simp; omega) (by simp; omega) w hH hglt hcell hBlt (fun e => hne e.symm)
    rw [List.size_toArray] at hs
    refine hs.mono ?_
    rintro e w' ⟨rfl, d', n, os, hp, hsd, rfl⟩
    have hsz : d'.size = xs.length := hp.1
    have hperm : d'.toList.Perm xs := by
      have h := hp.2.2
      have e1 : d'.extract 0 xs.length = d' := by rw [← hsz]; simp
      have e2 : xs.toArray.extract 0 xs.length = xs.toArray := by simp
      rw [e1, e2] at h
      simpa using h
    have hl' : d'.toList.length = xs.length := by simpa using hsz
    have hF' : (flatK encE 4 d').size = xs.length * 4 := by simp [hsz]
    refine ⟨rfl, d'.toList, hperm, sorted_pair (by rw [hsz]; exact hsd), ⟨hok, (flatK encE 4 d').toList, ⟨by rw [hl']; show _ = xs.length * 4; simpa using hF', .inr ⟨g, cap, _, by rw [hl'], hg, heap_row _ hb, by rw [hl']; exact hc1, hc2, by simpa [putCells] using hc3, ?_⟩⟩, ?_⟩, ?_, ?_⟩
    · rw [hl']
      show List.take (xs.length * 4) _ = _
      rw [← hF']
      exact take_row _ _ (by rw [hF', hc3]; exact Nat.mul_le_mul_right 4 hc1)
    · have h := flat_reps (R := k42.M (grow (putRowK encE 4 (Sort.ahead w n) g 0 d') os) base (fun k => ok k ∧ some k ≠ Value.ownBlock (.slice (some ⟨g, 0, none⟩) xs.length cap))) (fun x => k42_mkM _ _ _ x) d'.toList
      rw [Array.toArray_toList] at h
      exact h
    · refine hB.trans ⟨rfl, rfl, rfl, by simp [putRowK], fun k hk => ?_⟩
      exact heap_row_other _ (by omega) (by omega)
    · exact heap_row_other _ hBlt hne
end Go.Proofs.Ytkbhcejibcjglaa.M
end
section
/- The program's Newest, walked: it hands back a slice of its own that holds what Newest tells. Condition: the entries are not too many, their keys not too long. -/
namespace Go.Proofs.Ytkbhcejibcjglaa.M
open Go.RowKit Go.Maps Go.Proofs.Ytkbhcejibcjglaa.P Go.Proofs.YtkbhcejibcjglaaW.PrintWords Go.Proofs.YtkbhcejibcjglaaW.PrintLast Go.Proofs.YtkbhcejibcjglaaW.PrintMore
set_option linter.unusedVariables false
set_option linter.unusedSimpArgs false
theorem rd42 (l : List S42) (i : Nat) (h : i < l.length) : rd_T42 l (i : Int) = l[i] := by
  unfold rd_T42
  rw [Int.toNat_natCast, List.getD_eq_getElem?_getD, List.getElem?_eq_getElem h]
  rfl
def rdLL (xs : List (List S42)) (i : Int) : List S42 := xs.getD i.toNat ([] : List S42)
theorem atLL {w : World} {A : Option Addr} {n : Nat} {xs : List (List S42)} (h : Kd.C (Kd.slice 42 k42) w A n xs) (i : Int) (h0 : 0 ≤ i) (h1 : i < n) : ∃ ad A0 c0, A = some ad ∧ w.cell? (ad.add i.toNat) = some (.slice A0 (rdLL xs i).length c0) ∧ (rdLL xs i).length ≤ c0 ∧ k42.C w A0 (rdLL xs i).length (rdLL xs i) := by
  obtain ⟨ad, c, e, _, hK, hc0⟩ := Kd.C_get h ([] : List S42) i h0 h1
  have hc : ∀ j u, c[j]? = some u → w.cell? (ad.add (i.toNat * 1 + j)) = some u := hc0
  obtain ⟨A0, c0, rfl, l0, g0⟩ := hK
  exact ⟨ad, A0, c0, e, by have hq := hc 0 _ rfl; rwa [Nat.mul_one, Nat.add_zero] at hq, l0, g0⟩
theorem rdL (l : List (List S42)) (i : Nat) (h : i < l.length) : rdLL l (i : Int) = l[i] := by
  unfold rdLL
  rw [Int.toNat_natCast, List.getD_eq_getElem?_getD, List.getElem?_eq_getElem h]
  rfl
theorem meas_lt (L i : Nat) (hi : i < L) : L - (intOf (.int .i64 ((i : Int) + 1))).toNat < L - (intOf (.int .i64 (i : Int))).toNat := by
  simp [intOf]
  omega
/-- The map under way: it tells of all entries so far. -/
structure MapAt (w wr : World) (all : List S42) : Prop where
  bel : Below w.heap.size w wr
  map : ∃ D n, n ≤ all.length ∧ wr.ownsMap Try.prog 9 entR w.heap.size n D ∧ Tells D all
theorem take_flat (l : List (List S42)) (i : Nat) (h : i < l.length) : (l.take (i + 1)).flatten = (l.take i).flatten ++ l[i] := by
  rw [List.take_succ_eq_append_getElem h, List.flatten_append]
  simp
theorem mem_flat (l : List (List S42)) (i : Nat) (h : i < l.length) {x : S42} (hx : x ∈ l[i]) : x ∈ l.flatten := List.mem_flatten.2 ⟨_, List.getElem_mem h, hx⟩
theorem len_flat (l : List (List S42)) (i : Nat) (h : i < l.length) (j : Nat) : ((l.take i).flatten ++ l[i].take j).length ≤ l.flatten.length := by
  have e : l.flatten = (l.take (i + 1)).flatten ++ (l.drop (i + 1)).flatten := by rw [← List.flatten_append, List.take_append_drop]
  rw [e, take_flat l i h]
  simp only [List.length_append, List.length_take]
  omega
theorem cell_below {w wr : World} (h : Below w.heap.size w wr) {p : Addr} {v : Value} (hc : w.cell? p = some v) : wr.cell? p = some v := by
  have hlt : p.block < w.heap.size := by
    rcases Nat.lt_or_ge p.block w.heap.size with h1 | h1
    · exact h1
    · simp [World.cell?, Array.getElem?_eq_none h1] at hc
  exact (h.cell hlt).trans hc
theorem grown_set {w : World} {g : Nat} (u : Value) : w.grownBy (w.setCell ⟨g, 0, none⟩ u) (some g) :=
  ⟨rfl, rfl, rfl, by simp [World.setCell], fun i _ hne => Below.heap_setCell _ _ _ _ (fun e => hne (by rw [e]))⟩
theorem sorted_strict {ys xs : List S42} (hp : ys.Perm xs) (ha : xs.Pairwise fun x y => x.f0 ≠ y.f0) (hs : ys.Pairwise fun a b => lss b.f0 a.f0 = false) : ys.Pairwise fun x y => lss x.f0 y.f0 = true := by
  have h1 : ys.Pairwise fun x y => x.f0 ≠ y.f0 := (hp.pairwise_iff (fun h => fun e => h e.symm)).2 ha
  refine (h1.and hs).imp ?_
  rintro a b ⟨h1, h2⟩
  cases h : lss a.f0 b.f0 with
  | true => rfl
  | false => exact absurd (lss_total h h2) h1
/-- The range over the map under way. -/
structure RangeAt (w wq : World) (g base n : Nat) (D : DataW Unit) (all : List S42) (left : Lit → Bool) (cnt : Nat) (v : Value) (xs : List S42) : Prop where
  rng : wq.ranges Try.prog 9 entR w.heap.size (g + 1) n D left cnt
  got : Got all left xs
  box : wq.heap[g]? = some (.cells #[v] 25 (0, 0))
  row : Kd.R k42 42 wq base (fun k => base ≤ k) v xs
  bel : Below w.heap.size w wq
  few : xs.length + cnt ≤ 4194304
  size : base ≤ wq.heap.size
section
variable {w : World} {ops : Array Oper} {rest : List Oper} {o : Oper} {a : Act} {Q : Exit → Act → World → Prop}
theorem wp_lookup_none (hg : o.guard = none) (m x : Operand) (hop : o.op = Op.lookup 44 m x true) (b n : Nat) (D : DataW Unit) (all : List S42) (hm : a.eval m = .map (some b)) (hown : w.ownsMap Try.prog 9 entR b n D) (hT : Tells D all)
    (s : ByteArray) (hx : a.eval x = .string s) (hs : s.size ≤ maxLen) (hb : best all s = none) (hK : wpList Try.prog ops Q rest (a.put o.dst (.tuple #[.agg #[.string ⟨#[]⟩, .int .i64 0, .int .i64 0, .string ⟨#[]⟩], .bool false])) w) : wpList Try.prog ops Q (o :: rest) a w :=
  wp_lookup hg m x hop b n D all hm hown hT s hx hs (by rw [hb]; exact hK)
theorem wp_lookup_some (hg : o.guard = none) (m x : Operand) (hop : o.op = Op.lookup 44 m x true) (b n : Nat) (D : DataW Unit) (all : List S42) (hm : a.eval m = .map (some b)) (hown : w.ownsMap Try.prog 9 entR b n D) (hT : Tells D all)
    (s : ByteArray) (hx : a.eval x = .string s) (hs : s.size ≤ maxLen) (p : S42) (hb : best all s = some p) (hK : wpList Try.prog ops Q rest (a.put o.dst (.tuple #[.agg #[.string p.f0, .int .i64 p.f1, .int .i64 p.f2, .string p.f3], .bool true])) w) : wpList Try.prog ops Q (o :: rest) a w :=
  wp_lookup hg m x hop b n D all hm hown hT s hx hs (by rw [hb]; exact hK)
end
set_option maxHeartbeats 4000000 in
set_option maxRecDepth 100000 in
theorem newest_call (A : Option Addr) (c : Nat) (l : List (List S42)) (w : World) (hr : Kd.C (Kd.slice 42 k42) w A l.length l) (hc : l.length ≤ c) (hn : l.flatten.length ≤ 4194304) (hk : ∀ x ∈ l.flatten, x.f0.size ≤ maxLen) :
    Calls Try.prog 8 #[.slice A l.length c] w fun e w' => ∃ v, e = .returned v ∧ Kd.R k42 42 w' w.heap.size (fun _ => True) v (newest l.flatten) ∧ Below w.heap.size w w' := by
  have hu42 := Try.underlying42
  have HR := Aside0.mk hr
  have HN := Aside0.mk hn
  have HK := Aside0.mk hk
  clear hr hn hk
  have hmm := @run_makeMap Try.prog
  go_enter Try.func8, Try.ntmps8
  go_wp2
  go_loopw [16] (fun v16 wr => ∃ i : Nat, v16 = .int .i64 (i : Int) ∧ Aside0 (i ≤ l.length) ∧ Aside0 (MapAt w wr (l.take i).flatten)) (fun v16 _ => l.length - (intOf v16).toNat)
  case atStart => exact ⟨0, rfl, ⟨Nat.zero_le _⟩, ⟨⟨(Below.refl _ _).alloc (Nat.le_refl _) _, _, 0, Nat.le_refl _, World.ownsMap_made _ _ _ _, tells_nil⟩⟩⟩
  case round =>
    obtain ⟨i, rfl, HI, HM⟩ := hrel
    clear hmm
    by_cases hi : i < l.length
    · obtain ⟨ad, A0, c0, hA, hx0, hl0, hC0⟩ := atLL HR.out (i : Int) (by omega) (by omega)
      subst hA
      rw [rdL l i hi] at hx0 hl0 hC0
      rw [Int.toNat_natCast] at hx0
      have hx := cell_below HM.out.bel hx0
      have HC := Aside0.mk hC0
      clear hC0 hx0
      go_wp2
      obtain ⟨wo, hwo⟩ : ∃ wo, wo = wr := ⟨_, rfl⟩
      subst hwo
      go_loopw [22] (fun v22 wq => ∃ j : Nat, v22 = .int .i64 (j : Int) ∧ Aside0 (j ≤ l[i].length) ∧ Aside0 (MapAt w wq ((l.take i).flatten ++ l[i].take j))) (fun v22 _ => l[i].length - (intOf v22).toNat)
      case atStart => exact ⟨0, rfl, ⟨Nat.zero_le _⟩, ⟨by rw [List.take_zero, List.append_nil]; exact HM.out⟩⟩
      case round =>
        obtain ⟨j, rfl, HJ, HQ⟩ := hrel
        clear hx HM
        by_cases hj : j < l[i].length
        · obtain ⟨ad1, hA, hx0, hx1, hx2, hx3⟩ := at_T42 HC.out (j : Int) (by omega) (by omega)
          subst hA
          rw [rd42 l[i] j hj, Int.toNat_natCast] at hx0 hx1 hx2 hx3
          replace hx0 := cell_below HQ.out.bel hx0
          replace hx1 := cell_below HQ.out.bel hx1
          replace hx2 := cell_below HQ.out.bel hx2
          replace hx3 := cell_below HQ.out.bel hx3
          have HE := Aside0.mk (HK.out _ (mem_flat l i hi (List.getElem_mem hj)))
          obtain ⟨all, hall⟩ : ∃ all, (l.take i).flatten ++ l[i].take j = all := ⟨_, rfl⟩
          obtain ⟨e, he⟩ : ∃ e, l[i][j] = e := ⟨_, rfl⟩
          have HALL := Aside0.mk hall
          have HEE := Aside0.mk he
          have HLN := Aside0.mk (len_flat l i hi j)
          rw [he] at hx0 hx1 hx2 hx3 HE
          rw [hall] at HQ HLN
          clear hall he
          obtain ⟨bel, D, n, hnl, hown, hT⟩ := HQ.out
          have HO := Aside0.mk hown
          have HT := Aside0.mk hT
          have HBL := Aside0.mk bel
          clear hown hT bel HQ
          have hnx : all ++ [e] = (l.take i).flatten ++ l[i].take (j + 1) := by
            rw [List.take_succ_eq_append_getElem hj, HEE.out, ← HALL.out, List.append_assoc]
          have HNX := Aside0.mk hnx
          clear hnx
          have HWR := Aside0.mk (show wrap64 ((j : Int) + 1) = (j : Int) + 1 from wrap_ok (by omega) (by
            have h1 := HN.out
            have h2 := len_flat l i hi l[i].length
            rw [List.take_length] at h2
            simp only [List.length_append] at h2
            omega))
          have HNM := Aside0.mk (show n < maxLen by have h1 := HLN.out; have h2 := HN.out; unfold maxLen; omega)
          cases hb : best all e.f0 with
          | none =>
            have HB1 := Aside0.mk hb
            have HB2 := Aside0.mk (show best (all ++ [e]) e.f0 = some e by rw [best_snoc, if_pos rfl, hb]; rfl)
            clear hb
            go_wp2_with (first | (at_lookup; refine wp_lookup_none rfl _ _ rfl w.heap.size n D all rfl (HO.out.alloc _) HT.out e.f0 rfl HE.out HB1.out ?_) | (at_mapUpdate; refine wp_update rfl _ _ _ rfl w.heap.size n D all rfl ((HO.out.alloc _).alloc _) HT.out HNM.out e rfl rfl HE.out HB2.out ?_; intro w1 D1 hown1 hT1 hg1; have HO1 := Aside0.mk hown1; have HT1 := Aside0.mk hT1; have HG1 := Aside0.mk hg1; clear hown1 hT1 hg1))
            go_roundw
            case rel => exact ⟨j + 1, by rw [HWR.out]; rfl, ⟨hj⟩, ⟨by rw [← HNX.out]; exact ⟨((HBL.out.alloc HBL.out.size _).alloc (Nat.le_trans HBL.out.size (by simp)) _).grown HG1.out (Nat.le_trans HBL.out.size (by simp; omega)) (fun k hk => by cases hk; exact Nat.le_refl _), D1, n + 1, by rw [List.length_append]; show n + 1 ≤ all.length + 1; omega, HO1.out, HT1.out⟩⟩⟩
            case measure => rw [HWR.out]; exact meas_lt _ _ hj
          | some p =>
            have HB1 := Aside0.mk hb
            by_cases hlt : p.f1 < e.f1
            · have HB2 := Aside0.mk (show best (all ++ [e]) e.f0 = some e by rw [best_snoc, if_pos rfl, hb]; exact if_pos hlt)
              have dt : decide (p.f1 < e.f1) = true := decide_eq_true hlt
              clear hb
              go_wp2_with (first | (at_lookup; refine wp_lookup_some rfl _ _ rfl w.heap.size n D all rfl (HO.out.alloc _) HT.out e.f0 rfl HE.out p HB1.out ?_) | (at_mapUpdate; refine wp_update rfl _ _ _ rfl w.heap.size n D all rfl ((HO.out.alloc _).alloc _) HT.out HNM.out e rfl rfl HE.out HB2.out ?_; intro w1 D1 hown1 hT1 hg1; have HO1 := Aside0.mk hown1; have HT1 := Aside0.mk hT1; have HG1 := Aside0.mk hg1; clear hown1 hT1 hg1))
              go_roundw
              case rel => exact ⟨j + 1, by rw [HWR.out]; rfl, ⟨hj⟩, ⟨by rw [← HNX.out]; exact ⟨((HBL.out.alloc HBL.out.size _).alloc (Nat.le_trans HBL.out.size (by simp)) _).grown HG1.out (Nat.le_trans HBL.out.size (by simp; omega)) (fun k hk => by cases hk; exact Nat.le_refl _), D1, n + 1, by rw [List.length_append]; show n + 1 ≤ all.length + 1; omega, HO1.out, HT1.out⟩⟩⟩
              case measure => rw [HWR.out]; exact meas_lt _ _ hj
            · have HB2 := Aside0.mk (show best (all ++ [e]) e.f0 = best all e.f0 by rw [best_snoc, if_pos rfl, hb]; exact if_neg hlt)
              have dt : decide (p.f1 < e.f1) = false := decide_eq_false hlt
              clear hb
              go_wp2_with (at_lookup; refine wp_lookup_some rfl _ _ rfl w.heap.size n D all rfl (HO.out.alloc _) HT.out e.f0 rfl HE.out p HB1.out ?_)
              go_roundw
              case rel => exact ⟨j + 1, by rw [HWR.out]; rfl, ⟨hj⟩, ⟨by rw [← HNX.out]; exact ⟨(HBL.out.alloc HBL.out.size _).alloc (Nat.le_trans HBL.out.size (by simp)) _, D, n, by rw [List.length_append]; omega, (HO.out.alloc _).alloc _, tells_keep HT.out HB2.out⟩⟩⟩
              case measure => rw [HWR.out]; exact meas_lt _ _ hj
        · have hje : j = l[i].length := by have := HJ.out; omega
          subst hje
          rw [List.take_length, ← take_flat l i hi] at HQ
          have HWR := Aside0.mk (show wrap64 ((i : Int) + 1) = (i : Int) + 1 from wrap_ok (by omega) (by have := HR.out.2.1; omega))
          go_wp2
          go_roundw
          case rel => exact ⟨i + 1, by rw [HWR.out]; rfl, ⟨hi⟩, HQ⟩
          case measure => rw [HWR.out]; exact meas_lt _ _ hi
    · have hie : i = l.length := by have := HI.out; omega
      subst hie
      rw [List.take_length] at HM
      obtain ⟨bel, D, n, hnl, hown, hT⟩ := HM.out
      have HO := Aside0.mk hown
      have HT := Aside0.mk hT
      have HBL := Aside0.mk bel
      clear hown hT bel HM
      go_wp2_with (at_range; refine wpList_range_own _ rfl _ 44 rfl 9 42 keyed Try.underlying44 entR w.heap.size n D rfl (HO.out.alloc _) ?_; intro w0 hrg0 hg0 hs0; have HRG := Aside0.mk hrg0; have HG0 := Aside0.mk hg0; have HS0 := Aside0.mk hs0; clear hrg0 hg0 hs0)
      go_frame
      obtain ⟨g, hgd⟩ : ∃ g, g = wr.heap.size := ⟨_, rfl⟩
      have hsz : (wr.alloc (.cells #[.slice none 0 0] 25)).heap.size = wr.heap.size + 1 := by simp
      have HRG1 := Aside0.mk (show w0.ranges Try.prog 9 entR w.heap.size (g + 1) n D (has D) (size D) from by have h := HRG.out; rw [hsz, ← hgd] at h; exact h)
      have HZ := Aside0.mk (show w0.heap.size = g + 2 from by have h := HS0.out; rw [hsz, ← hgd] at h; exact h)
      have HBX := Aside0.mk (show w0.heap[g]? = some (.cells #[.slice none 0 0] 25 (0, 0)) from by rw [hgd]; exact (HG0.out.block _ (by simp) (by simp)).trans (heap_alloc_new wr _))
      have HB0 := Aside0.mk (show Below w.heap.size w w0 from (HBL.out.alloc HBL.out.size _).grown HG0.out (Nat.le_trans HBL.out.size (by simp)) (fun k hk => by cases hk))
      have HGW := Aside0.mk (show w.heap.size < g from by have := HO.out.lt; omega)
      rw [hsz, ← hgd]
      clear hsz HRG HS0 HG0 HBL HO hgd
      have HTA := Aside0.mk (show l.flatten.length ≤ 4194304 from HN.out)
      go_loopw [12] (fun _ wq => ∃ (left : Lit → Bool) (cnt : Nat) (v : Value) (xs : List S42), Aside0 (RangeAt w wq g w0.heap.size n D l.flatten left cnt v xs)) (fun _ wq => wq.rangeLeft w.heap.size (g + 1))
      case atStart => exact ⟨_, _, _, [], ⟨HRG1.out, got_start HT.out, HBX.out, Kd.R_nil _ _ _ _ _, HB0.out, by have := HRG1.out.owns.size_le; have := HN.out; show 0 + size D ≤ _; omega, Nat.le_refl _⟩⟩
      case round =>
        obtain ⟨left, cnt, v, xs, HW⟩ := hrel
        clear HRG1 HBX HB0
        have y0 : wr.cell? ⟨g, 0, none⟩ = some v := blk_cell HW.out.box 0
        go_wp2_with (at_next; refine wp_next rfl _ rfl w.heap.size (g + 1) n D l.flatten left cnt rfl HW.out.rng HT.out ?_ ?_)
        · intro hl0
          have HL0 := Aside0.mk (got_end HW.out.got hl0)
          clear hl0
          go_wp2_with fail
          refine (sort_call wr wr w0.heap.size (fun k => w0.heap.size ≤ k) v xs g HW.out.row (Below.refl _ _) HW.out.size HW.out.box (by have := HW.out.few; omega)).mono ?_
          rintro e w1 ⟨rfl, ys, hp, hsd, hR', hB', hbx⟩
          have y1 : w1.cell? ⟨g, 0, none⟩ = some v := blk_cell (hbx.trans HW.out.box) 0
          have hys : ys = newest l.flatten := newest_of _ _ (sorted_strict hp HW.out.got.apart hsd) (fun x => (hp.mem_iff).trans (HL0.out x))
          have hle : w.heap.size ≤ w0.heap.size := by have := HGW.out; have := HZ.out; omega
          have HF := Aside0.mk (show Kd.R k42 42 w1 w.heap.size (fun _ => True) v (newest l.flatten) ∧ Below w.heap.size w w1 from ⟨by rw [← hys]; exact Kd.R_lower (Kd.R_mono hR' (fun _ _ => trivial)) hle, HW.out.bel.trans (hB'.mono hle)⟩)
          clear hp hsd hR' hB' hbx hys HW y0 HL0
          go_wp2
          go_ret
          exact ⟨v, rfl, HF.out.1, HF.out.2⟩
        · intro e w1 cnt1 hl1 hb1 hr1 hlt1 hg1 hs1 hen
          have hgl : g < w0.heap.size := by have := HZ.out; omega
          have HW1 := Aside0.mk (show RangeAt w w1 g w0.heap.size n D l.flatten (fun z => left z && !z.sameKey (kl e.f0)) cnt1 v (xs ++ [e]) → True from fun _ => trivial)
          have HR1 := Aside0.mk hr1
          have HGT := Aside0.mk (got_step HW.out.got hl1 hb1)
          have HBX1 := Aside0.mk (show w1.heap[g]? = some (.cells #[v] 25 (0, 0)) from blk_grown HW.out.box hg1 (by intro h; injection h with h; omega))
          have HRW := Aside0.mk (Kd.R_grown HW.out.row hg1 (fun k hk h => by injection h with h; have := HZ.out; omega))
          have HB1 := Aside0.mk (HW.out.bel.grown hg1 HW.out.bel.size (fun k h => by injection h with h; have := HGW.out; omega))
          have HS1 := Aside0.mk (show w0.heap.size ≤ w1.heap.size by have := HW.out.size; omega)
          have HFW := Aside0.mk (show xs.length + 1 + cnt1 ≤ 4194304 by have := HW.out.few; omega)
          have HLF := Aside0.mk (show cnt1 < wr.rangeLeft w.heap.size (g + 1) by rw [HW.out.rng.left_eq]; exact hlt1)
          clear hl1 hb1 hr1 hlt1 hg1 hs1 HW1 y0
          have y1 : w1.cell? ⟨g, 0, none⟩ = some v := blk_cell HBX1.out 0
          go_upto_region 17 with (fail)
          obtain ⟨W, hW⟩ : ∃ W, w1.alloc (.cells #[.string e.f0, .int .i64 e.f1, .int .i64 e.f2, .string e.f3] 42) = W := ⟨_, rfl⟩
          have GE := Aside0.mk (show W.heap[w1.heap.size]? = some (.cells #[.string e.f0, .int .i64 e.f1, .int .i64 e.f2, .string e.f3] 42 (0, 0)) from by rw [← hW]; exact heap_alloc_new w1 _)
          have HBX2 := Aside0.mk (show W.heap[g]? = some (.cells #[v] 25 (0, 0)) from by rw [← hW]; exact (Below.heap_alloc _ _ _ (blk_lt HBX1.out)).trans HBX1.out)
          have HR2 := Aside0.mk (show W.ranges Try.prog 9 entR w.heap.size (g + 1) n D (fun z => left z && !z.sameKey (kl e.f0)) cnt1 from by rw [← hW]; exact HR1.out.alloc _)
          have HRW2 := Aside0.mk (show Kd.R k42 42 W w0.heap.size (fun k => w0.heap.size ≤ k) v xs from by rw [← hW]; exact Kd.R_alloc HRW.out _)
          have HB2 := Aside0.mk (show Below w.heap.size w W from by rw [← hW]; exact HB1.out.alloc HB1.out.size _)
          have HS2 := Aside0.mk (show w0.heap.size ≤ W.heap.size from by rw [← hW]; exact Nat.le_trans HS1.out (by simp))
          rw [hW]
          clear hW HBX1 HR1 HRW HB1 HS1 y1 hen
          generalize w1.heap.size = ge at *
          have y1 : W.cell? ⟨g, 0, none⟩ = some v := blk_cell HBX2.out 0
          have e0 := blk_cell GE.out 0
          have e1 := blk_cell GE.out 1
          have e2 := blk_cell GE.out 2
          have e3 := blk_cell GE.out 3
          go_wp2_with ((with_reducible refine gate_builtin (b := .append) (xs := #[.tmp 54, .tmp 56]) rfl ?_); (try (refine gate_guard (by rfl) ?_; dsimp only)); at_builtin; refine Kd.R_append k42 (w0 := W) w0.heap.size rfl (.tmp 54) (.tmp 56) 25 42 (.agg #[(.string ⟨#[]⟩), (.int .i64 0), (.int .i64 0), (.string ⟨#[]⟩)]) 48 rfl Try.underlying25 info42 rfl (by decide) (by omega) v xs e [.string e.f0, .int .i64 e.f1, .int .i64 e.f2, .string e.f3] (fun k => w0.heap.size ≤ k) (fun _ => False) rfl rfl ?aP (fun _ hk => hk.elim) ?aF ?aO ?aB ?aS ?aL ?_; (case aP => exact k42_mkM _ _ _ e); (case aF => exact (fun k hk => Nat.le_trans HS2.out hk)); (case aO => exact HRW2.out); (case aB => exact Below.refl _ _); (case aS => exact HS2.out); (case aL => have := HFW.out; omega); intro v1 w2 ho hb hg hat; obtain ⟨A1, c1, rfl⟩ := Kd.R_slice ho; have HO3 := Aside0.mk ho; have HB3 := Aside0.mk hb; have HG3 := Aside0.mk hg; clear ho hb hg hat; have HBX3 := Aside0.mk (show w2.heap[g]? = some (.cells #[v] 25 (0, 0)) from (HB3.out.block g hgl).trans HBX2.out); have y2 : w2.cell? ⟨g, 0, none⟩ = some v := blk_cell HBX3.out 0; have f2 := blk_frozen HBX3.out 0; clear y1 e0 e1 e2 e3)
          have hl1 : (xs ++ [e]).length = xs.length + 1 := by simp
          have hro := HO3.out
          rw [hl1] at hro
          have hbn : some w.heap.size ≠ v.ownBlock := fun h => by have := HRW2.out.1 _ h.symm; have := HGW.out; have := HZ.out; omega
          have hrn : some (g + 1) ≠ v.ownBlock := fun h => by have := HRW2.out.1 _ h.symm; have := HZ.out; omega
          have hr3 := (HR2.out.kept HG3.out hbn hrn).kept (grown_set (g := g) (.slice A1 (xs.length + 1) c1)) (fun h => by injection h with h; have := HGW.out; omega) (fun h => by injection h with h; omega)
          refine ⟨⟨_, cnt1, .slice A1 (xs.length + 1) c1, xs ++ [e], ⟨hr3, HGT.out, blk_set HBX3.out 0 _, Kd.R_far hro (fun k hk => fun h => by have hk : w0.heap.size ≤ k := hk; have h : k = g := h; omega) _, ?_, by rw [hl1]; exact HFW.out, ?_⟩⟩, by rw [hr3.left_eq]; exact HLF.out⟩
          · have hle : w.heap.size ≤ w0.heap.size := by have := HGW.out; have := HZ.out; omega
            exact (HB2.out.trans (HB3.out.mono hle)).setCell (Nat.le_of_lt HGW.out) _
          · show w0.heap.size ≤ _
            have := HB3.out.size
            have := HS2.out
            simp [World.setCell]
            omega
end Go.Proofs.Ytkbhcejibcjglaa.M
end
section
/- The specification's l3Order, walked. Condition: the entries are not too many, their keys not too long. -/
namespace Go.Proofs.Ytkbhcejibcjglaa.M
open Go.RowKit Go.Proofs.Ytkbhcejibcjglaa.P Go.Proofs.YtkbhcejibcjglaaW.PrintWords Go.Proofs.YtkbhcejibcjglaaW.PrintLast Go.Proofs.YtkbhcejibcjglaaW.PrintMore
set_option linter.unusedVariables false
set_option linter.unusedSimpArgs false
def OrderPost (l : List S42) (w : World) (e : Ending) (w' : World) : Prop := ∃ A' c', e = .returned (.slice A' (order l).length c') ∧ (order l).length ≤ c' ∧ Kd.C k42 w' A' (order l).length (order l) ∧ Below w.heap.size w w'
theorem below_over {a W w1 : World} (h : Below a.heap.size a W) (h1 : Below W.heap.size W w1) : Below a.heap.size a w1 := h.trans (h1.mono h.size)
theorem keys_order {l : List S42} (h : KeysOk l) : KeysOk (order l) := fun x hx => h x ((order_mem l x).1 hx)
set_option maxHeartbeats 4000000 in
theorem order_call : ∀ N : Nat, ∀ l : List S42, l.length ≤ N → ∀ (A : Option Addr) (c : Nat) (w : World), Kd.C k42 w A l.length l → l.length ≤ c → KeysOk l → l.length ≤ 4194304 →
    Calls Try.prog 19 #[.slice A l.length c] w (OrderPost l w) := by
  intro N
  induction N with
  | zero =>
    intro l hN A c w hr hc hk hl
    have HR := Aside0.mk hr
    have HP := Aside0.mk (show OrderPost l w (.returned (.slice A l.length c)) w from by unfold OrderPost; rw [order_small (by omega)]; exact ⟨A, c, rfl, hc, hr, Below.refl _ _⟩)
    have h2 : l.length < 2 := by omega
    have d2 : decide ((l.length : Int) < 2) = true := decide_eq_true (by omega)
    clear hr hk
    go_enter Try.func19, Try.ntmps19
    go_wp2
    all_goals (go_ret; exact HP.out)
  | succ N ih =>
    intro l hN A c w hr hc hk hl
    have HR := Aside0.mk hr
    have HK := Aside0.mk hk
    have IH := Aside0.mk ih
    clear hr hk ih
    by_cases h2 : l.length < 2
    · have HP := Aside0.mk (show OrderPost l w (.returned (.slice A l.length c)) w from by unfold OrderPost; rw [order_small (by omega)]; exact ⟨A, c, rfl, hc, HR.out, Below.refl _ _⟩)
      have d2 : decide ((l.length : Int) < 2) = true := decide_eq_true (by omega)
      go_enter Try.func19, Try.ntmps19
      go_wp2
      all_goals (go_ret; exact HP.out)
    · have d2 : decide ((l.length : Int) < 2) = false := decide_eq_false (by omega)
      go_enter Try.func19, Try.ntmps19
      go_upto_region 4 with (fail)
      obtain ⟨ad, hA, _⟩ := HR.out.2.2 (by omega)
      subst hA
      obtain ⟨m, hm⟩ : ∃ m : Nat, (l.length : Int) / 2 = (m : Int) := ⟨l.length / 2, by omega⟩
      have HM := Aside0.mk (show m = l.length / 2 by omega)
      rw [hm]
      have hm1 : m < l.length := by omega
      have hm2 : m ≤ l.length := by omega
      have hcm : ¬ c = m := by omega
      have h1 : ∀ W, Below w.heap.size w W → Calls Try.prog 19 #[.slice (some ad) m c] W (OrderPost (l.take m) W) := fun W hb => by
        have h := IH.out (l.take m) (by rw [List.length_take]; omega) (some ad) c W (Kd.C_below (Kd.C_take HR.out hm2) hb) (by rw [List.length_take]; omega) (fun x hx => HK.out x (List.mem_of_mem_take hx)) (by rw [List.length_take]; omega)
        rw [List.length_take, Nat.min_eq_left hm2] at h
        exact h
      have h2' : ∀ W, Below w.heap.size w W → Calls Try.prog 19 #[.slice (some (ad.add (m * 4))) (l.length - m) (c - m)] W (OrderPost (l.drop m) W) := fun W hb => by
        have h := IH.out (l.drop m) (by rw [List.length_drop]; omega) (some (ad.add (m * 4))) (c - m) W (Kd.C_below (by have h := Kd.C_drop HR.out hm2 hc; rw [if_neg hcm] at h; exact h) hb) (by rw [List.length_drop]; omega) (fun x hx => HK.out x (List.mem_of_mem_drop hx)) (by rw [List.length_drop]; omega)
        rw [List.length_drop] at h
        exact h
      obtain ⟨kh, hkh⟩ := Ev.rounds (half_eq (order (l.take m)) (order (l.drop m)) (keys_order (fun x hx => HK.out x (List.mem_of_mem_drop hx))) (by rw [order_length, order_length, List.length_take, List.length_drop]; omega))
      have ho : half (order (l.take m)) (order (l.drop m)) = order l := by rw [order_big h2, HM.out]
      rw [ho] at hkh
      have HH := Aside0.mk hkh
      have H1 := Aside0.mk h1
      have H2 := Aside0.mk h2'
      clear h1 h2' hm hkh ho
      go_region_with (first
        | (go_at_call_of 19 (Value.slice (some ad) m c); refine (H1.out _ ?_).mono ?_; (first | exact HB2.out | exact (Below.refl _ _).drew | exact Below.refl _ _); rintro e w1 ⟨A1, c1, rfl, hc1, hC1, hB1⟩; have HB1 := Aside0.mk (show Below w.heap.size w w1 from below_over (by first | exact HB2.out | exact (Below.refl _ _).drew | exact Below.refl _ _) hB1); have HC1 := Aside0.mk hC1; (try replace HC2 := Aside0.mk (Kd.C_below HC2.out hB1)); clear hC1 hB1)
        | (go_at_call_of 19 (Value.slice (some (ad.add (m * 4))) (l.length - m) (c - m)); refine (H2.out _ ?_).mono ?_; (first | exact HB1.out | exact (Below.refl _ _).drew | exact Below.refl _ _); rintro e w2 ⟨A2, c2, rfl, hc2, hC2, hB2⟩; have HB2 := Aside0.mk (show Below w.heap.size w w2 from below_over (by first | exact HB1.out | exact (Below.refl _ _).drew | exact Below.refl _ _) hB2); have HC2 := Aside0.mk hC2; (try replace HC1 := Aside0.mk (Kd.C_below HC1.out hB2)); clear hC2 hB2)
        | (go_at_call 28; refine (spec_l3Half.calls kh _ _ _ _ _ _ _ _ HC1.out hc1 HC2.out hc2 HH.out).mono ?_; rintro e w3 ⟨v, rfl, hR, hB⟩; have HF := Aside0.mk (show OrderPost l w (.returned v) w3 from by obtain ⟨A', c', rfl, h3, h4⟩ := Kd.R_reads hR; exact ⟨A', c', rfl, h3, h4, below_over (by first | exact HB2.out | exact HB1.out) hB⟩); clear hR hB))
      all_goals (go_wp2; go_ret; exact HF.out)
end Go.Proofs.Ytkbhcejibcjglaa.M
end
section
/- The specification's Newest, walked: it hands back a slice of its own that holds what Newest tells. Condition: the entries are not too many, their keys not too long. -/
namespace Go.Proofs.Ytkbhcejibcjglaa.M
open Go.RowKit Go.Proofs.Ytkbhcejibcjglaa.P Go.Proofs.YtkbhcejibcjglaaW.PrintWords Go.Proofs.YtkbhcejibcjglaaW.PrintLast Go.Proofs.YtkbhcejibcjglaaW.PrintMore
set_option linter.unusedVariables false
set_option linter.unusedSimpArgs false
def lastKey (p : Option ByteArray) (l : List S42) : Option ByteArray := match l.getLast? with | none => p | some x => some x.f0
theorem firsts_snoc : ∀ (l : List S42) (p : Option ByteArray) (x : S42), firsts p (l ++ [x]) = if lastKey p l = some x.f0 then firsts p l else firsts p l ++ [x] := by
  intro l
  induction l with
  | nil =>
    intro p x
    show firsts p [x] = _
    by_cases c : p = some x.f0
    · subst c
      rw [firsts_same]
      exact (if_pos rfl).symm
    · rw [firsts_other _ c]
      exact (if_neg c).symm
  | cons y l ih =>
    intro p x
    have hl : lastKey p (y :: l) = lastKey (some y.f0) l := by
      unfold lastKey
      cases h : l.getLast? with
      | none =>
        have : l = [] := by simpa using h
        subst this
        rfl
      | some z => rw [List.getLast?_cons, h]; rfl
    rw [hl, List.cons_append]
    by_cases c : p = some y.f0
    · subst c
      rw [firsts_same, firsts_same, ih]
    · rw [firsts_other _ c, firsts_other _ c, ih]
      split <;> rfl
theorem firsts_first {S : List S42} (h : 0 < S.length) : firsts none (S.take 1) = firsts none (S.take 0) ++ [S[0]] := by
  have e : S.take (0 + 1) = S.take 0 ++ [S[0]] := List.take_succ_eq_append_getElem h
  rw [show S.take 1 = S.take (0 + 1) from rfl, e, firsts_snoc, if_neg (by simp [lastKey])]
theorem last_take {S : List S42} {k : Nat} (h : k < S.length) : lastKey none (S.take (k + 1)) = some S[k].f0 := by
  rw [List.take_succ_eq_append_getElem h]
  unfold lastKey
  rw [List.getLast?_append]
  rfl
theorem firsts_new {S : List S42} {k : Nat} (h : k + 1 < S.length) (hne : ¬ S[k].f0 = S[k + 1].f0) : firsts none (S.take (k + 2)) = firsts none (S.take (k + 1)) ++ [S[k + 1]] := by
  rw [List.take_succ_eq_append_getElem h, firsts_snoc, if_neg (by rw [last_take (by omega)]; exact fun e => hne (Option.some.inj e))]
theorem firsts_old {S : List S42} {k : Nat} (h : k + 1 < S.length) (he : S[k].f0 = S[k + 1].f0) : firsts none (S.take (k + 2)) = firsts none (S.take (k + 1)) := by
  rw [List.take_succ_eq_append_getElem h, firsts_snoc, if_pos (by rw [last_take (by omega), he])]
theorem firsts_len : ∀ (l : List S42) (p : Option ByteArray), (firsts p l).length ≤ l.length := by
  intro l
  induction l with
  | nil => intro p; exact Nat.le_refl _
  | cons y l ih =>
    intro p
    by_cases c : p = some y.f0
    · subst c; rw [firsts_same]; exact Nat.le_succ_of_le (ih _)
    · rw [firsts_other _ c]; exact Nat.succ_le_succ (ih _)
set_option maxHeartbeats 8000000 in
set_option maxRecDepth 100000 in
theorem specNewest_call (A : Option Addr) (c : Nat) (l : List (List S42)) (w : World) (hr : Kd.C (Kd.slice 42 k42) w A l.length l) (hc : l.length ≤ c) (hn : l.flatten.length ≤ 4194304) (hk : KeysOk l.flatten) :
    Calls Try.prog 6 #[.slice A l.length c] w fun e w' => ∃ v, e = .returned v ∧ Kd.R k42 42 w' w.heap.size (fun _ => True) v (newest l.flatten) ∧ Below w.heap.size w w' := by
  have hu42 := Try.underlying42
  have HR := Aside0.mk hr
  have HN := Aside0.mk hn
  have HK := Aside0.mk hk
  clear hr hn hk
  go_enter Try.func6, Try.ntmps6
  go_wp2_with ((with_reducible refine gate_dst (N := 8) rfl ?_); (try (refine gate_guard (by rfl) ?_; dsimp only)); refine Kd.R_lit k42 _ 42 ?hg (N := 8) ?hd (xs := ([] : List S42)) (inner := []) (ok := fun _ => True) (okp := fun _ => True) ?hr ?hp (fun _ hk => hk) trivial (Below.refl _ _) (Nat.le_refl _) (by simp) ?_; (case hd => rfl); (case hg => rfl); (case hr => first | (go_simp; done) | (go_simp; rfl)); (case hp => exact (Reps.none _ _)); intro v3 w1 ho hb hg_ hnew_; clear hg_ hnew_; have KR := Aside0.mk ho; have KB := Aside0.mk hb; clear ho hb)
  go_loopw [3, 4] (fun v3 v4 wr => ∃ i : Nat, v4 = .int .i64 (i : Int) ∧ Aside0 (i ≤ l.length) ∧ Aside0 (Kd.R k42 42 wr w.heap.size (fun _ => True) v3 (l.take i).flatten) ∧ Aside0 (Below w.heap.size w wr)) (fun _ v4 _ => l.length - (intOf v4).toNat)
  case atStart => exact ⟨0, rfl, ⟨Nat.zero_le _⟩, KR, KB⟩
  case round =>
    obtain ⟨i, rfl, HI, HA, HB⟩ := hrel
    clear KR KB
    by_cases hi : i < l.length
    · obtain ⟨ad, A0, c0, hA, hx0, hl0, hC0⟩ := atLL HR.out (i : Int) (by omega) (by omega)
      subst hA
      rw [rdL l i hi] at hx0 hl0 hC0
      rw [Int.toNat_natCast] at hx0
      have HX := Aside0.mk hx0
      have HC := Aside0.mk hC0
      clear hC0 hx0
      go_wp2
      go_loopw [3, 5] (fun v3 v5 wq => ∃ j : Nat, v5 = .int .i64 (j : Int) ∧ Aside0 (j ≤ l[i].length) ∧ Aside0 (Kd.R k42 42 wq w.heap.size (fun _ => True) v3 ((l.take i).flatten ++ l[i].take j)) ∧ Aside0 (Below w.heap.size w wq)) (fun _ v5 _ => l[i].length - (intOf v5).toNat)
      case atStart => exact ⟨0, rfl, ⟨Nat.zero_le _⟩, ⟨by rw [List.take_zero, List.append_nil]; exact HA.out⟩, HB⟩
      case round =>
        obtain ⟨j, rfl, HJ, HA2, HB2⟩ := hrel
        have z0 := cell_below HB2.out HX.out
        by_cases hj : j < l[i].length
        · obtain ⟨ad1, hA, hx0, hx1, hx2, hx3⟩ := at_T42 HC.out (j : Int) (by omega) (by omega)
          subst hA
          rw [rd42 l[i] j hj, Int.toNat_natCast] at hx0 hx1 hx2 hx3
          replace hx0 := cell_below HB2.out hx0
          replace hx1 := cell_below HB2.out hx1
          replace hx2 := cell_below HB2.out hx2
          replace hx3 := cell_below HB2.out hx3
          obtain ⟨e, he⟩ : ∃ e, l[i][j] = e := ⟨_, rfl⟩
          have hnx : (l.take i).flatten ++ l[i].take (j + 1) = ((l.take i).flatten ++ l[i].take j) ++ [e] := by
            rw [List.take_succ_eq_append_getElem hj, he, List.append_assoc]
          rw [he] at hx0 hx1 hx2 hx3
          have HNX := Aside0.mk hnx
          have HLN := Aside0.mk (len_flat l i hi j)
          have HWR := Aside0.mk (show wrap64 ((j : Int) + 1) = (j : Int) + 1 from wrap_ok (by omega) (by
            have h1 := HN.out
            have h2 := len_flat l i hi l[i].length
            rw [List.take_length] at h2
            simp only [List.length_append] at h2
            omega))
          clear he hnx
          go_wp2_with ((with_reducible refine gate_builtin (b := .append) (xs := #[.tmp 24, .tmp 32]) rfl ?_); (try (refine gate_guard (by rfl) ?_; dsimp only)); at_builtin; refine Kd.R_append k42 (w0 := w) w.heap.size rfl (.tmp 24) (.tmp 32) 25 42 (.agg #[(.string ⟨#[]⟩), (.int .i64 0), (.int .i64 0), (.string ⟨#[]⟩)]) 48 rfl Try.underlying25 info42 rfl (by decide) (by omega) u3 ((l.take i).flatten ++ l[i].take j) e [.string e.f0, .int .i64 e.f1, .int .i64 e.f2, .string e.f3] (fun _ => True) (fun _ => False) rfl rfl ?aP (fun _ hk => hk.elim) ?aF ?aO ?aB ?aS ?aL ?_; (case aP => exact k42_mkM _ _ _ e); (case aF => exact (fun _ _ => trivial)); (case aO => exact HA2.out); (case aB => exact HB2.out); (case aS => exact HB2.out.size); (case aL => have h1 := HLN.out; have h2 := HN.out; omega); intro v1 w2 ho hb hg hat; have HA3 := Aside0.mk ho; have HB3 := Aside0.mk hb; clear ho hb hg hat)
          go_roundw
          case rel => exact ⟨j + 1, by rw [HWR.out]; rfl, ⟨hj⟩, ⟨by rw [HNX.out]; exact HA3.out⟩, HB3⟩
          case measure => rw [HWR.out]; exact meas_lt _ _ hj
        · have hje : j = l[i].length := by have := HJ.out; omega
          subst hje
          rw [List.take_length, ← take_flat l i hi] at HA2
          have HWR := Aside0.mk (show wrap64 ((i : Int) + 1) = (i : Int) + 1 from wrap_ok (by omega) (by have := HR.out.2.1; omega))
          go_wp2
          go_roundw
          case rel => exact ⟨i + 1, by rw [HWR.out]; rfl, ⟨hi⟩, HA2, HB2⟩
          case measure => rw [HWR.out]; exact meas_lt _ _ hi
    · have hie : i = l.length := by have := HI.out; omega
      subst hie
      rw [List.take_length] at HA
      obtain ⟨L, hL⟩ : ∃ L, l.flatten = L := ⟨_, rfl⟩
      have HLL := Aside0.mk hL
      rw [hL] at HA HN HK
      clear hL
      obtain ⟨A3, c3, rfl, hl3, hC3⟩ := Kd.R_reads HA.out
      have HC3 := Aside0.mk hC3
      clear hC3 HA
      go_wp2_with fail
      refine (order_call L.length L (Nat.le_refl _) A3 c3 _ HC3.out hl3 HK.out HN.out).mono ?_
      rintro e w2 ⟨A4, c4, rfl, hl4, hC4, hb⟩
      obtain ⟨S, hS⟩ : ∃ S, order L = S := ⟨_, rfl⟩
      rw [hS] at hl4 hC4
      rw [hS]
      have HS := Aside0.mk hS
      have HSL := Aside0.mk (show S.length ≤ 4194304 by rw [← hS, order_length]; exact HN.out)
      have HC4 := Aside0.mk hC4
      have HB4 := Aside0.mk (below_over HB.out hb)
      clear hS hC4 hb HC3 HB
      go_wp2_with ((with_reducible refine gate_dst (N := 36) rfl ?_); (try (refine gate_guard (by rfl) ?_; dsimp only)); refine Kd.R_lit k42 _ 42 ?hg (N := 36) ?hd (xs := ([] : List S42)) (inner := []) (ok := fun _ => True) (okp := fun _ => True) ?hr ?hp (fun _ hk => hk) trivial (Below.refl _ _) (Nat.le_refl _) (by simp) ?_; (case hd => rfl); (case hg => rfl); (case hr => first | (go_simp; done) | (go_simp; rfl)); (case hp => exact (Reps.none _ _)); intro v6 w3 ho hb hg_ hnew_; clear hg_ hnew_; have KR := Aside0.mk ho; have KB := Aside0.mk hb; clear ho hb)
      go_loopw [6, 7] (fun v6 v7 wr => ∃ i : Nat, v7 = .int .i64 (i : Int) ∧ Aside0 (i ≤ S.length) ∧ Aside0 (Kd.R k42 42 wr w2.heap.size (fun _ => True) v6 (firsts none (S.take i))) ∧ Aside0 (Below w2.heap.size w2 wr)) (fun _ v7 _ => S.length - (intOf v7).toNat)
      case atStart => exact ⟨0, rfl, ⟨Nat.zero_le _⟩, KR, KB⟩
      case round =>
        obtain ⟨i, rfl, HI2, HA, HB⟩ := hrel
        clear KR KB
        by_cases hi2 : i < S.length
        · have HCS := Aside0.mk (Kd.C_below HC4.out HB.out)
          obtain ⟨ad, hA4, hx0, hx1, hx2, hx3⟩ := at_T42 HCS.out (i : Int) (by omega) (by omega)
          subst hA4
          rw [rd42 S i hi2, Int.toNat_natCast] at hx0 hx1 hx2 hx3
          have HWR := Aside0.mk (show wrap64 ((i : Int) + 1) = (i : Int) + 1 from wrap_ok (by omega) (by have := HSL.out; omega))
          have HFL := Aside0.mk (show (firsts none (S.take i)).length + 1 ≤ 4194305 by have h1 := firsts_len (S.take i) none; rw [List.length_take] at h1; have := HSL.out; omega)
          cases i with
          | zero =>
            have HNX := Aside0.mk (firsts_first hi2)
            have ea : ad.add (0 * 4) = ad := by cases ad; rfl
            rw [ea] at hx0 hx1 hx2 hx3
            clear ea
            go_upto_region 14 with (fail)
            go_quiet (fail)
            go_wp2_with ((with_reducible refine gate_builtin (b := .append) (xs := #[.tmp 59, .tmp 64]) rfl ?_); (try (refine gate_guard (by rfl) ?_; dsimp only)); at_builtin; refine Kd.R_append k42 (w0 := w2) w2.heap.size rfl (.tmp 59) (.tmp 64) 25 42 (.agg #[(.string ⟨#[]⟩), (.int .i64 0), (.int .i64 0), (.string ⟨#[]⟩)]) 48 rfl Try.underlying25 info42 rfl (by decide) (by omega) u6 (firsts none (S.take 0)) S[0] [.string S[0].f0, .int .i64 S[0].f1, .int .i64 S[0].f2, .string S[0].f3] (fun _ => True) (fun _ => False) rfl rfl ?aP (fun _ hk => hk.elim) ?aF ?aO ?aB ?aS ?aL ?_; (case aP => exact k42_mkM _ _ _ S[0]); (case aF => exact (fun _ _ => trivial)); (case aO => exact Kd.R_drewN HA.out nq); (case aB => exact pw_below_drewN HB.out nq); (case aS => exact HB.out.size); (case aL => have h1 := HFL.out; omega); intro v1 w4 ho hb hg hat; have HA3 := Aside0.mk ho; have HB3 := Aside0.mk hb; clear ho hb hg hat)
            go_roundw
            case rel => exact ⟨1, rfl, ⟨hi2⟩, ⟨by rw [HNX.out]; exact HA3.out⟩, HB3⟩
            case measure => exact meas_lt _ 0 hi2
          | succ k =>
            replace HWR := Aside0.mk (show wrap64 ((k : Int) + 1 + 1) = (k : Int) + 1 + 1 from wrap_ok (by omega) (by have := HSL.out; omega))
            obtain ⟨ad', hA4, hy0, _⟩ := at_T42 HCS.out (k : Int) (by omega) (by omega)
            obtain rfl := Option.some.inj hA4
            rw [rd42 S k (by omega), Int.toNat_natCast] at hy0
            have t0 : ((k : Int) + 1 == 0) = false := by simp; omega
            have t0' : ((k : Int) + 1 = 0) = False := eq_false (by omega)
            have tp : (0 ≤ (k : Int) + 1) = True := eq_true (by omega)
            have s1 : IntKind.i64.wrap ((k : Int) + 1 - 1) = (k : Int) := by rw [show (k : Int) + 1 - 1 = (k : Int) by omega]; exact IntWalk.i64_in _ (by have := HSL.out; omega)
            have s2 : IntKind.i64.wrap (k : Int) = (k : Int) := IntWalk.i64_in _ (by have := HSL.out; omega)
            have s3 : (k : Int) + 1 - 1 = (k : Int) := by omega
            by_cases he : S[k].f0 = S[k + 1].f0
            · have HNX := Aside0.mk (firsts_old hi2 he)
              have t1 : (S[k + 1].f0.toList == S[k].f0.toList) = true := by rw [he]; simp
              have t2 : (S[k + 1].f0.toList != S[k].f0.toList) = false := by rw [he]; simp
              clear he
              go_upto_region 14 with (fail)
              go_quiet (fail)
              go_wp2
              go_roundw
              case rel => exact ⟨k + 2, by rw [HWR.out]; rfl, ⟨hi2⟩, ⟨by rw [HNX.out]; exact Kd.R_drewN HA.out nq⟩, ⟨pw_below_drewN HB.out nq⟩⟩
              case measure => rw [HWR.out]; exact meas_lt _ _ hi2
            · have HNX := Aside0.mk (firsts_new hi2 he)
              have t1 : (S[k + 1].f0.toList == S[k].f0.toList) = false := beq_eq_false_iff_ne.2 (fun h => he (toList_inj h).symm)
              have t2 : (S[k + 1].f0.toList != S[k].f0.toList) = true := bne_iff_ne.2 (fun h => he (toList_inj h).symm)
              clear he
              go_upto_region 14 with (fail)
              go_quiet (fail)
              go_wp2_with ((with_reducible refine gate_builtin (b := .append) (xs := #[.tmp 59, .tmp 64]) rfl ?_); (try (refine gate_guard (by rfl) ?_; dsimp only)); at_builtin; refine Kd.R_append k42 (w0 := w2) w2.heap.size rfl (.tmp 59) (.tmp 64) 25 42 (.agg #[(.string ⟨#[]⟩), (.int .i64 0), (.int .i64 0), (.string ⟨#[]⟩)]) 48 rfl Try.underlying25 info42 rfl (by decide) (by omega) u6 (firsts none (S.take (k + 1))) S[k + 1] [.string S[k + 1].f0, .int .i64 S[k + 1].f1, .int .i64 S[k + 1].f2, .string S[k + 1].f3] (fun _ => True) (fun _ => False) rfl rfl ?aP (fun _ hk => hk.elim) ?aF ?aO ?aB ?aS ?aL ?_; (case aP => exact k42_mkM _ _ _ S[k + 1]); (case aF => exact (fun _ _ => trivial)); (case aO => exact Kd.R_drewN HA.out nq); (case aB => exact pw_below_drewN HB.out nq); (case aS => exact HB.out.size); (case aL => have h1 := HFL.out; omega); intro v1 w4 ho hb hg hat; have HA3 := Aside0.mk ho; have HB3 := Aside0.mk hb; clear ho hb hg hat)
              go_roundw
              case rel => exact ⟨k + 2, by rw [HWR.out]; rfl, ⟨hi2⟩, ⟨by rw [HNX.out]; exact HA3.out⟩, HB3⟩
              case measure => rw [HWR.out]; exact meas_lt _ _ hi2
        · have hie : i = S.length := by have := HI2.out; omega
          subst hie
          rw [List.take_length] at HA
          have HF := Aside0.mk (show Kd.R k42 42 wr w.heap.size (fun _ => True) u6 (newest l.flatten) ∧ Below w.heap.size w wr from ⟨by
            have e : newest l.flatten = firsts none S := by unfold newest; rw [HLL.out, HS.out]
            rw [e]
            exact Kd.R_lower HA.out HB4.out.size, below_over HB4.out HB.out⟩)
          go_wp2
          go_ret
          exact ⟨_, rfl, HF.out.1, HF.out.2⟩
end Go.Proofs.Ytkbhcejibcjglaa.M
end
section
/- The kinds of this seat's argument: lists of lists of entries. -/
namespace Go.Proofs.Ytkbhcejibcjglaa.M
open Go.RowKit Go.Proofs.YtkbhcejibcjglaaW.PrintWords Go.Proofs.Ytkbhcejibcjglaa.P

def Ok70 (x : S70) : Prop := x.f0.size ≤ 140737488351232 ∧ (Lit.int .i64 x.f1).wf = true ∧ (Lit.int .i64 x.f2).wf = true ∧ x.f3.size ≤ 140737488351232
def Ok70s (l : List S70) : Prop := l.length * 48 ≤ 140737488351232 ∧ ∀ a ∈ l, Ok70 a
def Ok70ss (l : List (List S70)) : Prop := l.length * 24 ≤ 140737488351232 ∧ ∀ a ∈ l, Ok70s a
theorem o3 : Opens Try.prog 3 (Kd.int .i64) (fun n => (Lit.int .i64 n).wf = true) := opens_int Try.underlying3 (by kernel_rfl)
theorem o9 : Opens Try.prog 9 Kd.string (fun s => s.size ≤ 140737488351232) := opens_string Try.underlying9 (by kernel_rfl)
theorem o70 : Opens Try.prog 70 k70 Ok70 :=
  opens_iso (f := fun x : S70 => (x.f0, x.f1, x.f2, x.f3)) (fun a => ⟨a.1, a.2.1, a.2.2.1, a.2.2.2⟩) (fun _ => rfl) (opens_struct4 Try.underlying70 o9 o3 o3 o9 rfl rfl rfl rfl (by kernel_rfl))
theorem o49 : Opens Try.prog 49 (Kd.slice 70 k70) Ok70s := opens_slice Try.underlying49 (by kernel_rfl) o70 (by kernel_rfl)
theorem o30 : Opens Try.prog 30 (Kd.slice 49 (Kd.slice 70 k70)) Ok70ss := opens_slice Try.underlying30 (by kernel_rfl) o49 (by kernel_rfl)
end Go.Proofs.Ytkbhcejibcjglaa.M
end
section
-- Written by a changed copy of the print program, one module a function. Not trusted: Lean checks it.
namespace Go.Proofs.Ytkbhcejibcjglaa.P
open Go.RowKit Go.Proofs.YtkbhcejibcjglaaW.PrintWords Go.Proofs.YtkbhcejibcjglaaW.PrintLast Go.Proofs.YtkbhcejibcjglaaW.PrintMore
attribute [local go_sem] max2_int min2_int max_two min_two max_three min_three max_four min_four   -- for this text's walks alone
set_option linter.unusedVariables false
set_option linter.unusedSimpArgs false

/-! ### laws_szEntry: function 34 -/
def laws_szEntry.f (a0_0 : ByteArray) (a0_1 : Int) (a0_2 : Int) (a0_3 : ByteArray) (a1 : Int) : Option (Int) := if (wrap64 (a1 - (a0_0.size : Int))) < 0 then (some (-1)) else (if (wrap64 ((wrap64 (a1 - (a0_0.size : Int))) - (a0_3.size : Int))) < 0 then (some (-1)) else (some (wrap64 ((wrap64 (a1 - (a0_0.size : Int))) - (a0_3.size : Int)))))
set_option maxHeartbeats 8000000 in
set_option maxRecDepth 100000 in
theorem laws_szEntry.calls (a0_0 : ByteArray) (a0_1 : Int) (a0_2 : Int) (a0_3 : ByteArray) (a1 : Int) (r : Int) (w : World) (h : laws_szEntry.f a0_0 a0_1 a0_2 a0_3 a1 = some r) :
  Calls Try.prog 34 #[.agg #[.string a0_0, .int .i64 a0_1, .int .i64 a0_2, .string a0_3], .int .i64 a1] w fun e w' => e = .returned (.int .i64 r) ∧ Below w.heap.size w w' := by
 have hu70 := Try.underlying70
 have HB := Aside0.mk (Below.refl w.heap.size w)
 have H : (if (wrap64 (a1 - (a0_0.size : Int))) < 0 then (some (-1)) else (if (wrap64 ((wrap64 (a1 - (a0_0.size : Int))) - (a0_3.size : Int))) < 0 then (some (-1)) else (some (wrap64 ((wrap64 (a1 - (a0_0.size : Int))) - (a0_3.size : Int)))))) = some r := h
 clear h
 by_cases c3 : (wrap64 (a1 - (a0_0.size : Int))) < 0
 ·rw [if_pos c3] at H
  have c3b0 : decide ((wrap64 (a1 - (a0_0.size : Int))) < 0) = true := decide_eq_true c3
  clear c3
  obtain rfl := Option.some.inj H
  go_enter Try.func34, Try.ntmps34
  go_wp2_with (first | ((with_reducible refine gate_dst (N := 2) rfl ?_); refine box_event ?hg (N := 2) ?hd (cs := #[.string a0_0, .int .i64 a0_1, .int .i64 a0_2, .string a0_3]) (t := 70) ?hr ?_; (case hd => rfl); (case hg => rfl); (case hr => first | (go_simp; done) | (go_simp; rfl)); intro gb132 hg w4 hbox hb; have n0_ := Aside0.mk (below_step (by repeat (first | (with_reducible first | exact HB.out | apply below_alloc | apply pw_below_drewN | apply below_drew1) | exact HB.out)) hb); have n1_ := Aside0.mk (hbox); have n2_ := Aside0.mk ((by rw [hg]; exact (below_size (by repeat (first | (with_reducible first | exact HB.out | apply below_alloc | apply pw_below_drewN | apply below_drew1) | exact HB.out))) : w.heap.size ≤ gb132)); have n3_ := Aside0.mk ((by rw [hg]; exact (below_size (by repeat (first | (with_reducible first | exact HB.out | apply below_alloc | apply pw_below_drewN | apply below_drew1) | exact HB.out))) : w.heap.size ≤ gb132)); clear HB; have HB := n0_; have BK132 := n1_; have GW132 := n2_; have GE132 := n3_; clear n0_ n1_ n2_ n3_; clear hb hbox hg; have hcz5_0 : w4.cell? ⟨gb132, 0, none⟩ = some (.string a0_0) := (blk_cell BK132.out 0).trans rfl; have hcz5_1 : w4.cell? ⟨gb132, 1, none⟩ = some (.int .i64 a0_1) := (blk_cell BK132.out 1).trans rfl; have hcz5_2 : w4.cell? ⟨gb132, 2, none⟩ = some (.int .i64 a0_2) := (blk_cell BK132.out 2).trans rfl; have hcz5_3 : w4.cell? ⟨gb132, 3, none⟩ = some (.string a0_3) := (blk_cell BK132.out 3).trans rfl; have hfz5_0 := blk_frozen BK132.out 0; have hfz5_1 := blk_frozen BK132.out 1; have hfz5_2 := blk_frozen BK132.out 2; have hfz5_3 := blk_frozen BK132.out 3))
  go_ret
  exact ⟨by first | rfl | (simp [errW_none, errW_some] <;> rfl) | (simp [*, errW_none, errW_some] <;> rfl), by repeat (first | (with_reducible first | exact HB.out | apply below_alloc | apply pw_below_drewN | apply below_drew1 | refine below_set ?_ GE132.out) | exact HB.out)⟩
 ·rw [if_neg c3] at H
  have c3b0 : decide ((wrap64 (a1 - (a0_0.size : Int))) < 0) = false := decide_eq_false c3
  clear c3
  by_cases c6 : (wrap64 ((wrap64 (a1 - (a0_0.size : Int))) - (a0_3.size : Int))) < 0
  ·rw [if_pos c6] at H
   have c6b0 : decide ((wrap64 ((wrap64 (a1 - (a0_0.size : Int))) - (a0_3.size : Int))) < 0) = true := decide_eq_true c6
   clear c6
   obtain rfl := Option.some.inj H
   go_enter Try.func34, Try.ntmps34
   go_wp2_with (first | ((with_reducible refine gate_dst (N := 2) rfl ?_); refine box_event ?hg (N := 2) ?hd (cs := #[.string a0_0, .int .i64 a0_1, .int .i64 a0_2, .string a0_3]) (t := 70) ?hr ?_; (case hd => rfl); (case hg => rfl); (case hr => first | (go_simp; done) | (go_simp; rfl)); intro gb132 hg w7 hbox hb; have n0_ := Aside0.mk (below_step (by repeat (first | (with_reducible first | exact HB.out | apply below_alloc | apply pw_below_drewN | apply below_drew1) | exact HB.out)) hb); have n1_ := Aside0.mk (hbox); have n2_ := Aside0.mk ((by rw [hg]; exact (below_size (by repeat (first | (with_reducible first | exact HB.out | apply below_alloc | apply pw_below_drewN | apply below_drew1) | exact HB.out))) : w.heap.size ≤ gb132)); have n3_ := Aside0.mk ((by rw [hg]; exact (below_size (by repeat (first | (with_reducible first | exact HB.out | apply below_alloc | apply pw_below_drewN | apply below_drew1) | exact HB.out))) : w.heap.size ≤ gb132)); clear HB; have HB := n0_; have BK132 := n1_; have GW132 := n2_; have GE132 := n3_; clear n0_ n1_ n2_ n3_; clear hb hbox hg; have hcz8_0 : w7.cell? ⟨gb132, 0, none⟩ = some (.string a0_0) := (blk_cell BK132.out 0).trans rfl; have hcz8_1 : w7.cell? ⟨gb132, 1, none⟩ = some (.int .i64 a0_1) := (blk_cell BK132.out 1).trans rfl; have hcz8_2 : w7.cell? ⟨gb132, 2, none⟩ = some (.int .i64 a0_2) := (blk_cell BK132.out 2).trans rfl; have hcz8_3 : w7.cell? ⟨gb132, 3, none⟩ = some (.string a0_3) := (blk_cell BK132.out 3).trans rfl; have hfz8_0 := blk_frozen BK132.out 0; have hfz8_1 := blk_frozen BK132.out 1; have hfz8_2 := blk_frozen BK132.out 2; have hfz8_3 := blk_frozen BK132.out 3))
   go_ret
   exact ⟨by first | rfl | (simp [errW_none, errW_some] <;> rfl) | (simp [*, errW_none, errW_some] <;> rfl), by repeat (first | (with_reducible first | exact HB.out | apply below_alloc | apply pw_below_drewN | apply below_drew1 | refine below_set ?_ GE132.out) | exact HB.out)⟩
  ·rw [if_neg c6] at H
   have c6b0 : decide ((wrap64 ((wrap64 (a1 - (a0_0.size : Int))) - (a0_3.size : Int))) < 0) = false := decide_eq_false c6
   clear c6
   obtain rfl := Option.some.inj H
   go_enter Try.func34, Try.ntmps34
   go_wp2_with (first | ((with_reducible refine gate_dst (N := 2) rfl ?_); refine box_event ?hg (N := 2) ?hd (cs := #[.string a0_0, .int .i64 a0_1, .int .i64 a0_2, .string a0_3]) (t := 70) ?hr ?_; (case hd => rfl); (case hg => rfl); (case hr => first | (go_simp; done) | (go_simp; rfl)); intro gb132 hg w9 hbox hb; have n0_ := Aside0.mk (below_step (by repeat (first | (with_reducible first | exact HB.out | apply below_alloc | apply pw_below_drewN | apply below_drew1) | exact HB.out)) hb); have n1_ := Aside0.mk (hbox); have n2_ := Aside0.mk ((by rw [hg]; exact (below_size (by repeat (first | (with_reducible first | exact HB.out | apply below_alloc | apply pw_below_drewN | apply below_drew1) | exact HB.out))) : w.heap.size ≤ gb132)); have n3_ := Aside0.mk ((by rw [hg]; exact (below_size (by repeat (first | (with_reducible first | exact HB.out | apply below_alloc | apply pw_below_drewN | apply below_drew1) | exact HB.out))) : w.heap.size ≤ gb132)); clear HB; have HB := n0_; have BK132 := n1_; have GW132 := n2_; have GE132 := n3_; clear n0_ n1_ n2_ n3_; clear hb hbox hg; have hcz10_0 : w9.cell? ⟨gb132, 0, none⟩ = some (.string a0_0) := (blk_cell BK132.out 0).trans rfl; have hcz10_1 : w9.cell? ⟨gb132, 1, none⟩ = some (.int .i64 a0_1) := (blk_cell BK132.out 1).trans rfl; have hcz10_2 : w9.cell? ⟨gb132, 2, none⟩ = some (.int .i64 a0_2) := (blk_cell BK132.out 2).trans rfl; have hcz10_3 : w9.cell? ⟨gb132, 3, none⟩ = some (.string a0_3) := (blk_cell BK132.out 3).trans rfl; have hfz10_0 := blk_frozen BK132.out 0; have hfz10_1 := blk_frozen BK132.out 1; have hfz10_2 := blk_frozen BK132.out 2; have hfz10_3 := blk_frozen BK132.out 3))
   go_ret
   exact ⟨by first | rfl | (simp [errW_none, errW_some] <;> rfl) | (simp [*, errW_none, errW_some] <;> rfl), by repeat (first | (with_reducible first | exact HB.out | apply below_alloc | apply pw_below_drewN | apply below_drew1 | refine below_set ?_ GE132.out) | exact HB.out)⟩

end Go.Proofs.Ytkbhcejibcjglaa.P
end
section
-- Written by a changed copy of the print program, one module a function. Not trusted: Lean checks it.
namespace Go.Proofs.Ytkbhcejibcjglaa.P
open Go.RowKit Go.Proofs.YtkbhcejibcjglaaW.PrintWords Go.Proofs.YtkbhcejibcjglaaW.PrintLast Go.Proofs.YtkbhcejibcjglaaW.PrintMore
attribute [local go_sem] max2_int min2_int max_two min_two max_three min_three max_four min_four   -- for this text's walks alone
set_option linter.unusedVariables false
set_option linter.unusedSimpArgs false

/-! ### laws_szEntryS: function 22 -/
def laws_szEntryS.l0 : Nat → List (S70) → Int → Int → Option (Int)
 | 0, _, _, _ => none
 | k + 1, x0, x1, x5 => if x5 < (x0.length : Int) then (if 0 ≤ x5 then ((laws_szEntry.f ((rd_T70 x0 x5).f0) ((rd_T70 x0 x5).f1) ((rd_T70 x0 x5).f2) ((rd_T70 x0 x5).f3) x1).bind fun t134 => (if t134 < 0 then (some (-1)) else (laws_szEntryS.l0 k x0 t134 (wrap64 (x5 + 1))))) else (none)) else (some x1)
def laws_szEntryS.f (k : Nat) (l0 : List (S70)) (a1 : Int) : Option (Int) := if (wrap64 (a1 - (l0.length : Int))) < 0 then (some (-1)) else (laws_szEntryS.l0 k l0 (wrap64 (a1 - (l0.length : Int))) 0)
theorem laws_szEntryS.mono_l : ∀ k, (∀ y0 y1 y2, LeO (laws_szEntryS.l0 k y0 y1 y2) (laws_szEntryS.l0 (k + 1) y0 y1 y2))
 | 0 => fun _ _ _ r h => by simp [laws_szEntryS.l0] at h
 | k + 1 => by
  have ih0 := laws_szEntryS.mono_l k
  ·intro y0 y1 y2
   unfold laws_szEntryS.l0
   repeat' first
   | (with_reducible exact ih0 _ _ _)
   | (with_reducible exact LeO.refl _)
   | (with_reducible exact LeO.none _)
   | (with_reducible refine LeO.ite ?_ ?_)
   | (with_reducible refine LeO.bind ?_ (fun _ => ?_))
   | exact ih0 _ _ _
   | exact LeO.none _
   | refine LeO.ite ?_ ?_
   | refine LeO.bind ?_ (fun _ => ?_)
theorem laws_szEntryS.mono : ∀ a0 a1 k, LeO (laws_szEntryS.f k a0 a1) (laws_szEntryS.f (k + 1) a0 a1) := by
 intro a0 a1 k
 have ih0 := laws_szEntryS.mono_l k
 unfold laws_szEntryS.f
 repeat' first
   | (with_reducible exact ih0 _ _ _)
   | (with_reducible exact LeO.refl _)
   | (with_reducible exact LeO.none _)
   | (with_reducible refine LeO.ite ?_ ?_)
   | (with_reducible refine LeO.bind ?_ (fun _ => ?_))
   | exact ih0 _ _ _
   | exact LeO.none _
   | refine LeO.ite ?_ ?_
   | refine LeO.bind ?_ (fun _ => ?_)
set_option maxHeartbeats 8000000 in
set_option maxRecDepth 100000 in
theorem laws_szEntryS.calls (k : Nat) (A0 : Option Addr) (c0 : Nat) (l0 : List (S70)) (a1 : Int) (r : Int) (w : World) (hr0 : Kd.C k70 w A0 l0.length l0) (hc0 : l0.length ≤ c0) (h : laws_szEntryS.f k l0 a1 = some r) :
  Calls Try.prog 22 #[.slice A0 l0.length c0, .int .i64 a1] w fun e w' => e = .returned (.int .i64 r) ∧ Below w.heap.size w w' := by
 have hu70 := Try.underlying70
 have HR0 := Aside0.mk hr0
 have HC0 := Aside0.mk hc0
 clear hr0 hc0
 have HB := Aside0.mk (Below.refl w.heap.size w)
 have H : (if (wrap64 (a1 - (l0.length : Int))) < 0 then (some (-1)) else (laws_szEntryS.l0 k l0 (wrap64 (a1 - (l0.length : Int))) 0)) = some r := h
 clear h
 by_cases c3 : (wrap64 (a1 - (l0.length : Int))) < 0
 ·rw [if_pos c3] at H
  have c3b0 : decide ((wrap64 (a1 - (l0.length : Int))) < 0) = true := decide_eq_true c3
  clear c3
  obtain rfl := Option.some.inj H
  go_enter Try.func22, Try.ntmps22
  go_wp2
  go_ret
  exact ⟨by first | rfl | (simp [errW_none, errW_some] <;> rfl) | (simp [*, errW_none, errW_some] <;> rfl), by repeat (first | (with_reducible first | exact HB.out | apply below_alloc | apply pw_below_drewN | apply below_drew1) | exact HB.out)⟩
 ·rw [if_neg c3] at H
  have c3b0 : decide ((wrap64 (a1 - (l0.length : Int))) < 0) = false := decide_eq_false c3
  clear c3
  have H' := Aside0.mk H
  clear H
  go_enter Try.func22, Try.ntmps22
  go_wp2
  go_loopg [1, 5] k (fun kq v1 v5 w' => ∃ (x1_1 : Int) (x5_1 : Int), v1 = .int .i64 x1_1 ∧ v5 = .int .i64 x5_1 ∧ Aside0 (laws_szEntryS.l0 kq l0 x1_1 x5_1 = some r) ∧ Aside0 (kq ≤ k) ∧ Aside0 (Below w.heap.size w w'))
  case atStart => exact ⟨(wrap64 (a1 - (l0.length : Int))), (0), (by first | rfl | (simp; done) | (simp [*]; done)), (by first | rfl | (simp; done) | (simp [*]; done)), H', ⟨Nat.le_refl _⟩, ⟨by repeat (first | (with_reducible first | exact HB.out | apply below_alloc | apply pw_below_drewN | apply below_drew1) | exact HB.out)⟩⟩
  case round =>
   clear H'
   try clear c2
   try clear p2
   try clear c3
   try clear c3b0
   obtain ⟨x1_1, x5_1, rfl, rfl, HA, HK1, HB⟩ := hrel
   cases gk with
   | zero => exact absurd HA.out (by simp [laws_szEntryS.l0])
   | succ k1 =>
    have H := HA.out
    clear HA
    simp only [laws_szEntryS.l0] at H
    by_cases c4 : x5_1 < (l0.length : Int)
    ·rw [if_pos c4] at H
     have c4b0 : decide (x5_1 < (l0.length : Int)) = true := decide_eq_true c4
     clear c4
     by_cases c5 : 0 ≤ x5_1
     ·rw [if_pos c5] at H
      have c5b0 : decide (0 ≤ x5_1) = true := decide_eq_true c5
      clear c5
      replace H := Option.bind_eq_some_iff.mp H
      obtain ⟨t134, A60, H⟩ := H
      replace H : (if t134 < 0 then (some (-1)) else (laws_szEntryS.l0 k1 l0 t134 (wrap64 (x5_1 + 1)))) = some r := H
      have A6 := Aside0.mk A60
      clear A60
      by_cases c7 : t134 < 0
      ·rw [if_pos c7] at H
       have c7b0 : decide (t134 < 0) = true := decide_eq_true c7
       clear c7
       obtain rfl := Option.some.inj H
       have p133 : 0 ≤ (x5_1 : Int) := of_decide_eq_true (by first | (with_reducible assumption) | assumption)
       have q133 : x5_1 < (l0.length : Int) := of_decide_eq_true (by first | (with_reducible assumption) | assumption)
       obtain ⟨ad133, e133, hx133_0, hx133_1, hx133_2, hx133_3⟩ := at_T70 HR0.out x5_1 p133 q133
       cases e133
       replace hx133_0 := (HB.out.cell (World.block_lt_of_cell? w _ hx133_0)).trans hx133_0
       replace hx133_1 := (HB.out.cell (World.block_lt_of_cell? w _ hx133_1)).trans hx133_1
       replace hx133_2 := (HB.out.cell (World.block_lt_of_cell? w _ hx133_2)).trans hx133_2
       replace hx133_3 := (HB.out.cell (World.block_lt_of_cell? w _ hx133_3)).trans hx133_3
       replace p133 := eq_true p133
       replace q133 := eq_true q133
       go_wp2_with (first | ((with_reducible refine gate_callee (f := 34) rfl ?_); refine goesL_ (some 23) rfl rfl Try.func34 (by kernel_rfl) rfl #[.agg #[.string ((rd_T70 l0 x5_1).f0), .int .i64 ((rd_T70 l0 x5_1).f1), .int .i64 ((rd_T70 l0 x5_1).f2), .string ((rd_T70 l0 x5_1).f3)], .int .i64 x1_1] rfl (by (try simp only [List.map_toArray, List.map_cons, List.map_nil]); first | done | rfl | (simp only [List.length_drop, List.length_take]; rfl)) ?_; (with_reducible refine (laws_szEntry.calls ((rd_T70 l0 x5_1).f0) ((rd_T70 l0 x5_1).f1) ((rd_T70 l0 x5_1).f2) ((rd_T70 l0 x5_1).f3) x1_1 t134 _ A6.out).mono ?_); rintro e w8 ⟨rfl, hb⟩; refine ⟨_, rfl, ?_⟩; have n0_ := Aside0.mk (below_step (by repeat (first | (with_reducible first | exact HB.out | apply below_alloc | apply pw_below_drewN | apply below_drew1) | exact HB.out)) hb); clear HB; have HB := n0_; clear n0_; (try clear hb); (try clear hb2); (try clear hk); (try clear hi)))
       go_ret
       exact ⟨by first | rfl | (simp [errW_none, errW_some] <;> rfl) | (simp [*, errW_none, errW_some] <;> rfl), by repeat (first | (with_reducible first | exact HB.out | apply below_alloc | apply pw_below_drewN | apply below_drew1) | exact HB.out)⟩
      ·rw [if_neg c7] at H
       have c7b0 : decide (t134 < 0) = false := decide_eq_false c7
       clear c7
       have H' := Aside0.mk H
       clear H
       have p133 : 0 ≤ (x5_1 : Int) := of_decide_eq_true (by first | (with_reducible assumption) | assumption)
       have q133 : x5_1 < (l0.length : Int) := of_decide_eq_true (by first | (with_reducible assumption) | assumption)
       obtain ⟨ad133, e133, hx133_0, hx133_1, hx133_2, hx133_3⟩ := at_T70 HR0.out x5_1 p133 q133
       cases e133
       replace hx133_0 := (HB.out.cell (World.block_lt_of_cell? w _ hx133_0)).trans hx133_0
       replace hx133_1 := (HB.out.cell (World.block_lt_of_cell? w _ hx133_1)).trans hx133_1
       replace hx133_2 := (HB.out.cell (World.block_lt_of_cell? w _ hx133_2)).trans hx133_2
       replace hx133_3 := (HB.out.cell (World.block_lt_of_cell? w _ hx133_3)).trans hx133_3
       replace p133 := eq_true p133
       replace q133 := eq_true q133
       go_wp2_with (first | ((with_reducible refine gate_callee (f := 34) rfl ?_); refine goesL_ (some 23) rfl rfl Try.func34 (by kernel_rfl) rfl #[.agg #[.string ((rd_T70 l0 x5_1).f0), .int .i64 ((rd_T70 l0 x5_1).f1), .int .i64 ((rd_T70 l0 x5_1).f2), .string ((rd_T70 l0 x5_1).f3)], .int .i64 x1_1] rfl (by (try simp only [List.map_toArray, List.map_cons, List.map_nil]); first | done | rfl | (simp only [List.length_drop, List.length_take]; rfl)) ?_; (with_reducible refine (laws_szEntry.calls ((rd_T70 l0 x5_1).f0) ((rd_T70 l0 x5_1).f1) ((rd_T70 l0 x5_1).f2) ((rd_T70 l0 x5_1).f3) x1_1 t134 _ A6.out).mono ?_); rintro e w9 ⟨rfl, hb⟩; refine ⟨_, rfl, ?_⟩; have n0_ := Aside0.mk (below_step (by repeat (first | (with_reducible first | exact HB.out | apply below_alloc | apply pw_below_drewN | apply below_drew1) | exact HB.out)) hb); clear HB; have HB := n0_; clear n0_; (try clear hb); (try clear hb2); (try clear hk); (try clear hi)))
       go_roundg k1
       case measure => have := HK1.out; omega
       case rel => exact ⟨(t134), (wrap64 (x5_1 + 1)), (by first | rfl | (simp; done) | (simp [*]; done)), (by first | rfl | (simp; done) | (simp [*]; done)), H', ⟨by have := HK1.out; omega⟩, ⟨by repeat (first | (with_reducible first | exact HB.out | apply below_alloc | apply pw_below_drewN | apply below_drew1) | exact HB.out)⟩⟩
     ·rw [if_neg c5] at H
      exact absurd H (by simp)
    ·rw [if_neg c4] at H
     have c4b0 : decide (x5_1 < (l0.length : Int)) = false := decide_eq_false c4
     clear c4
     obtain rfl := Option.some.inj H
     go_wp2
     go_ret
     exact ⟨by first | rfl | (simp [errW_none, errW_some] <;> rfl) | (simp [*, errW_none, errW_some] <;> rfl), by repeat (first | (with_reducible first | exact HB.out | apply below_alloc | apply pw_below_drewN | apply below_drew1) | exact HB.out)⟩

end Go.Proofs.Ytkbhcejibcjglaa.P
end
section
-- Written by a changed copy of the print program, one module a function. Not trusted: Lean checks it.
namespace Go.Proofs.Ytkbhcejibcjglaa.P
open Go.RowKit Go.Proofs.YtkbhcejibcjglaaW.PrintWords Go.Proofs.YtkbhcejibcjglaaW.PrintLast Go.Proofs.YtkbhcejibcjglaaW.PrintMore
attribute [local go_sem] max2_int min2_int max_two min_two max_three min_three max_four min_four   -- for this text's walks alone
set_option linter.unusedVariables false
set_option linter.unusedSimpArgs false

/-! ### laws_toEntry: function 35 -/
def laws_toEntry.f (a0_0 : ByteArray) (a0_1 : Int) (a0_2 : Int) (a0_3 : ByteArray) : Option (ByteArray × Int × Int × ByteArray) := some (a0_0, a0_1, a0_2, a0_3)
set_option maxHeartbeats 8000000 in
set_option maxRecDepth 100000 in
theorem laws_toEntry.calls (a0_0 : ByteArray) (a0_1 : Int) (a0_2 : Int) (a0_3 : ByteArray) (r1 : ByteArray) (r2 : Int) (r3 : Int) (r4 : ByteArray) (w : World) (h : laws_toEntry.f a0_0 a0_1 a0_2 a0_3 = some (r1, r2, r3, r4)) :
  Calls Try.prog 35 #[.agg #[.string a0_0, .int .i64 a0_1, .int .i64 a0_2, .string a0_3]] w fun e w' => e = .returned (.agg #[.string r1, .int .i64 r2, .int .i64 r3, .string r4]) ∧ Below w.heap.size w w' := by
 have hu70 := Try.underlying70
 have hu42 := Try.underlying42
 have HB := Aside0.mk (Below.refl w.heap.size w)
 have H : (some (a0_0, a0_1, a0_2, a0_3)) = some (r1, r2, r3, r4) := h
 clear h
 simp only [Option.some.injEq, Prod.mk.injEq] at H
 obtain ⟨rfl, rfl, rfl, rfl⟩ := H
 go_enter Try.func35, Try.ntmps35
 go_wp2_with (first | ((with_reducible refine gate_dst (N := 1) rfl ?_); refine box_event ?hg (N := 1) ?hd (cs := #[.string a0_0, .int .i64 a0_1, .int .i64 a0_2, .string a0_3]) (t := 70) ?hr ?_; (case hd => rfl); (case hg => rfl); (case hr => first | (go_simp; done) | (go_simp; rfl)); intro gb137 hg w2 hbox hb; have n0_ := Aside0.mk (below_step (by repeat (first | (with_reducible first | exact HB.out | apply below_alloc | apply pw_below_drewN | apply below_drew1) | exact HB.out)) hb); have n1_ := Aside0.mk (hbox); have n2_ := Aside0.mk ((by rw [hg]; exact (below_size (by repeat (first | (with_reducible first | exact HB.out | apply below_alloc | apply pw_below_drewN | apply below_drew1) | exact HB.out))) : w.heap.size ≤ gb137)); have n3_ := Aside0.mk ((by rw [hg]; exact (below_size (by repeat (first | (with_reducible first | exact HB.out | apply below_alloc | apply pw_below_drewN | apply below_drew1) | exact HB.out))) : w.heap.size ≤ gb137)); clear HB; have HB := n0_; have BK137 := n1_; have GW137 := n2_; have GE137 := n3_; clear n0_ n1_ n2_ n3_; clear hb hbox hg) | ((with_reducible refine gate_dst (N := 2) rfl ?_); refine box_event ?hg (N := 2) ?hd (cs := #[.string (⟨#[]⟩ : ByteArray), .int .i64 0, .int .i64 0, .string (⟨#[]⟩ : ByteArray)]) (t := 42) ?hr ?_; (case hd => rfl); (case hg => rfl); (case hr => first | (go_simp; done) | (go_simp; rfl)); intro gb138 hg w3 hbox hb; have n0_ := Aside0.mk (blk_below (g := gb137) (o := .cells #[.string a0_0, .int .i64 a0_1, .int .i64 a0_2, .string a0_3] 70 (0, 0)) (by (with_reducible repeat (first | refine blk_drewN ?_ _ | refine blk_drew ?_ | refine blk_alloc ?_ _)); exact BK137.out) hb); have n1_ := Aside0.mk (below_step (by repeat (first | (with_reducible first | exact HB.out | apply below_alloc | apply pw_below_drewN | apply below_drew1 | refine below_set ?_ GE137.out) | exact HB.out)) hb); have n2_ := Aside0.mk (hbox); have n3_ := Aside0.mk ((by rw [hg]; exact (below_size (by repeat (first | (with_reducible first | exact HB.out | apply below_alloc | apply pw_below_drewN | apply below_drew1 | refine below_set ?_ GE137.out) | exact HB.out))) : w.heap.size ≤ gb138)); have n4_ := Aside0.mk ((by rw [hg]; exact (below_size (by repeat (first | (with_reducible first | exact HB.out | apply below_alloc | apply pw_below_drewN | apply below_drew1 | refine below_set ?_ GE137.out) | exact HB.out))) : w.heap.size ≤ gb138)); have n5_ := Aside0.mk ((by rw [hg]; exact Nat.ne_of_lt (blk_lt (g := gb137) (o := .cells #[.string a0_0, .int .i64 a0_1, .int .i64 a0_2, .string a0_3] 70 (0, 0)) (by (with_reducible repeat (first | refine blk_drewN ?_ _ | refine blk_drew ?_ | refine blk_alloc ?_ _)); exact BK137.out)) : gb137 ≠ gb138)); have n6_ := Aside0.mk ((by rw [hg]; exact Nat.ne_of_gt (blk_lt (g := gb137) (o := .cells #[.string a0_0, .int .i64 a0_1, .int .i64 a0_2, .string a0_3] 70 (0, 0)) (by (with_reducible repeat (first | refine blk_drewN ?_ _ | refine blk_drew ?_ | refine blk_alloc ?_ _)); exact BK137.out)) : gb138 ≠ gb137)); clear BK137; clear HB; have BK137 := n0_; have HB := n1_; have BK138 := n2_; have GW138 := n3_; have GE138 := n4_; have NB137_138 := n5_; have NB138_137 := n6_; clear n0_ n1_ n2_ n3_ n4_ n5_ n6_; clear hb hbox hg) | ((with_reducible refine gate_dst (N := 3) rfl ?_); refine box_event ?hg (N := 3) ?hd (cs := #[.string (⟨#[]⟩ : ByteArray), .int .i64 0, .int .i64 0, .string (⟨#[]⟩ : ByteArray)]) (t := 42) ?hr ?_; (case hd => rfl); (case hg => rfl); (case hr => first | (go_simp; done) | (go_simp; rfl)); intro gb139 hg w4 hbox hb; have n0_ := Aside0.mk (blk_below (g := gb137) (o := .cells #[.string a0_0, .int .i64 a0_1, .int .i64 a0_2, .string a0_3] 70 (0, 0)) (by (with_reducible repeat (first | refine blk_drewN ?_ _ | refine blk_drew ?_ | refine blk_alloc ?_ _)); exact BK137.out) hb); have n1_ := Aside0.mk (blk_below (g := gb138) (o := .cells #[.string (⟨#[]⟩ : ByteArray), .int .i64 0, .int .i64 0, .string (⟨#[]⟩ : ByteArray)] 42 (0, 0)) (by (with_reducible repeat (first | refine blk_drewN ?_ _ | refine blk_drew ?_ | refine blk_alloc ?_ _)); exact BK138.out) hb); have n2_ := Aside0.mk (below_step (by repeat (first | (with_reducible first | exact HB.out | apply below_alloc | apply pw_below_drewN | apply below_drew1 | refine below_set ?_ GE137.out | refine below_set ?_ GE138.out) | exact HB.out)) hb); have n3_ := Aside0.mk (hbox); have n4_ := Aside0.mk ((by rw [hg]; exact (below_size (by repeat (first | (with_reducible first | exact HB.out | apply below_alloc | apply pw_below_drewN | apply below_drew1 | refine below_set ?_ GE137.out | refine below_set ?_ GE138.out) | exact HB.out))) : w.heap.size ≤ gb139)); have n5_ := Aside0.mk ((by rw [hg]; exact (below_size (by repeat (first | (with_reducible first | exact HB.out | apply below_alloc | apply pw_below_drewN | apply below_drew1 | refine below_set ?_ GE137.out | refine below_set ?_ GE138.out) | exact HB.out))) : w.heap.size ≤ gb139)); have n6_ := Aside0.mk ((by rw [hg]; exact Nat.ne_of_lt (blk_lt (g := gb137) (o := .cells #[.string a0_0, .int .i64 a0_1, .int .i64 a0_2, .string a0_3] 70 (0, 0)) (by (with_reducible repeat (first | refine blk_drewN ?_ _ | refine blk_drew ?_ | refine blk_alloc ?_ _)); exact BK137.out)) : gb137 ≠ gb139)); have n7_ := Aside0.mk ((by rw [hg]; exact Nat.ne_of_gt (blk_lt (g := gb137) (o := .cells #[.string a0_0, .int .i64 a0_1, .int .i64 a0_2, .string a0_3] 70 (0, 0)) (by (with_reducible repeat (first | refine blk_drewN ?_ _ | refine blk_drew ?_ | refine blk_alloc ?_ _)); exact BK137.out)) : gb139 ≠ gb137)); have n8_ := Aside0.mk ((by rw [hg]; exact Nat.ne_of_lt (blk_lt (g := gb138) (o := .cells #[.string (⟨#[]⟩ : ByteArray), .int .i64 0, .int .i64 0, .string (⟨#[]⟩ : ByteArray)] 42 (0, 0)) (by (with_reducible repeat (first | refine blk_drewN ?_ _ | refine blk_drew ?_ | refine blk_alloc ?_ _)); exact BK138.out)) : gb138 ≠ gb139)); have n9_ := Aside0.mk ((by rw [hg]; exact Nat.ne_of_gt (blk_lt (g := gb138) (o := .cells #[.string (⟨#[]⟩ : ByteArray), .int .i64 0, .int .i64 0, .string (⟨#[]⟩ : ByteArray)] 42 (0, 0)) (by (with_reducible repeat (first | refine blk_drewN ?_ _ | refine blk_drew ?_ | refine blk_alloc ?_ _)); exact BK138.out)) : gb139 ≠ gb138)); clear BK137; clear BK138; clear HB; have BK137 := n0_; have BK138 := n1_; have HB := n2_; have BK139 := n3_; have GW139 := n4_; have GE139 := n5_; have NB137_139 := n6_; have NB139_137 := n7_; have NB138_139 := n8_; have NB139_138 := n9_; clear n0_ n1_ n2_ n3_ n4_ n5_ n6_ n7_ n8_ n9_; clear hb hbox hg; have hnb5 := NB137_138.out; have hnc5 := NB138_137.out; have hnb6 := NB137_139.out; have hnc6 := NB139_137.out; have hcz7_0 : w4.cell? ⟨gb137, 0, none⟩ = some (.string a0_0) := (blk_cell BK137.out 0).trans rfl; have hcz7_1 : w4.cell? ⟨gb137, 1, none⟩ = some (.int .i64 a0_1) := (blk_cell BK137.out 1).trans rfl; have hcz7_2 : w4.cell? ⟨gb137, 2, none⟩ = some (.int .i64 a0_2) := (blk_cell BK137.out 2).trans rfl; have hcz7_3 : w4.cell? ⟨gb137, 3, none⟩ = some (.string a0_3) := (blk_cell BK137.out 3).trans rfl; have hfz7_0 := blk_frozen BK137.out 0; have hfz7_1 := blk_frozen BK137.out 1; have hfz7_2 := blk_frozen BK137.out 2; have hfz7_3 := blk_frozen BK137.out 3; have hnb8 := NB139_138.out; have hnc8 := NB138_139.out; have hcz9_0 : w4.cell? ⟨gb139, 0, none⟩ = some (.string (⟨#[]⟩ : ByteArray)) := (blk_cell BK139.out 0).trans rfl; have hcz9_1 : w4.cell? ⟨gb139, 1, none⟩ = some (.int .i64 0) := (blk_cell BK139.out 1).trans rfl; have hcz9_2 : w4.cell? ⟨gb139, 2, none⟩ = some (.int .i64 0) := (blk_cell BK139.out 2).trans rfl; have hcz9_3 : w4.cell? ⟨gb139, 3, none⟩ = some (.string (⟨#[]⟩ : ByteArray)) := (blk_cell BK139.out 3).trans rfl; have hfz9_0 := blk_frozen BK139.out 0; have hfz9_1 := blk_frozen BK139.out 1; have hfz9_2 := blk_frozen BK139.out 2; have hfz9_3 := blk_frozen BK139.out 3; have hcz10_0 : w4.cell? ⟨gb138, 0, none⟩ = some (.string (⟨#[]⟩ : ByteArray)) := (blk_cell BK138.out 0).trans rfl; have hcz10_1 : w4.cell? ⟨gb138, 1, none⟩ = some (.int .i64 0) := (blk_cell BK138.out 1).trans rfl; have hcz10_2 : w4.cell? ⟨gb138, 2, none⟩ = some (.int .i64 0) := (blk_cell BK138.out 2).trans rfl; have hcz10_3 : w4.cell? ⟨gb138, 3, none⟩ = some (.string (⟨#[]⟩ : ByteArray)) := (blk_cell BK138.out 3).trans rfl; have hfz10_0 := blk_frozen BK138.out 0; have hfz10_1 := blk_frozen BK138.out 1; have hfz10_2 := blk_frozen BK138.out 2; have hfz10_3 := blk_frozen BK138.out 3))
 refine bodyPost_ret (results_cell_row rfl _ _ gb138 42 #[.string a0_0, .int .i64 a0_1, .int .i64 a0_2, .string a0_3] (0, 0) _ rfl (by (with_reducible repeat (first | refine blk_drewN ?_ _ | refine blk_drew ?_ | refine blk_alloc ?_ _)); refine blk_put (cs := #[.string a0_0, .int .i64 a0_1, .int .i64 a0_2, .string (⟨#[]⟩ : ByteArray)]) ?_ 3 _ rfl; (with_reducible repeat (first | refine blk_drewN ?_ _ | refine blk_drew ?_ | refine blk_alloc ?_ _)); refine blk_put (cs := #[.string a0_0, .int .i64 a0_1, .int .i64 0, .string (⟨#[]⟩ : ByteArray)]) ?_ 2 _ rfl; (with_reducible repeat (first | refine blk_drewN ?_ _ | refine blk_drew ?_ | refine blk_alloc ?_ _)); refine blk_put (cs := #[.string a0_0, .int .i64 0, .int .i64 0, .string (⟨#[]⟩ : ByteArray)]) ?_ 1 _ rfl; (with_reducible repeat (first | refine blk_drewN ?_ _ | refine blk_drew ?_ | refine blk_alloc ?_ _)); refine blk_put (cs := #[.string (⟨#[]⟩ : ByteArray), .int .i64 0, .int .i64 0, .string (⟨#[]⟩ : ByteArray)]) ?_ 0 _ rfl; (with_reducible repeat (first | refine blk_drewN ?_ _ | refine blk_drew ?_ | refine blk_alloc ?_ _)); refine blk_far ?_ NB138_139.out _; (with_reducible repeat (first | refine blk_drewN ?_ _ | refine blk_drew ?_ | refine blk_alloc ?_ _)); refine blk_far ?_ NB138_139.out _; (with_reducible repeat (first | refine blk_drewN ?_ _ | refine blk_drew ?_ | refine blk_alloc ?_ _)); refine blk_far ?_ NB138_139.out _; (with_reducible repeat (first | refine blk_drewN ?_ _ | refine blk_drew ?_ | refine blk_alloc ?_ _)); refine blk_far ?_ NB138_139.out _; (with_reducible repeat (first | refine blk_drewN ?_ _ | refine blk_drew ?_ | refine blk_alloc ?_ _)); exact BK138.out) Try.underlying42 rfl (by kernel_rfl)) rfl ?_
 exact ⟨by first | rfl | (simp [errW_none, errW_some] <;> rfl) | (simp [*, errW_none, errW_some] <;> rfl), by repeat (first | (with_reducible first | exact HB.out | apply below_alloc | apply pw_below_drewN | apply below_drew1 | refine below_set ?_ GE137.out | refine below_set ?_ GE138.out | refine below_set ?_ GE139.out) | exact HB.out)⟩

end Go.Proofs.Ytkbhcejibcjglaa.P
end

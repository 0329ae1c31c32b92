/- Texts of the claim FnExactParseScript, part 30 of 34, joined: MImplScript, MMarkScript, PlawseqEntry. No condition beyond those that stand at each. -/
import Derived.Test.YtkbhcejibcjglaaDoorZFnExactParseScript29
import Derived.Test.YtkbhcejibcjglaaDoorZFnExactParseScript28
import Derived.Test.YtkbhcejibcjglaaDoorZFnExactParseScript24
section
/- impl.ParseScript, walked. Conditions: at most 2 to the 20 bytes; the world holds the program's table. (Printed by wip/tpl/gen_implscript.py.) -/
namespace Go.Proofs.YtkbhcejibcjglaaDoor.M
open Go.RowKit Go.Proofs.YtkbhcejibcjglaaDoor.P Go.Proofs.YtkbhcejibcjglaaDoorW.PrintWords Go.Proofs.YtkbhcejibcjglaaDoorW.PrintLast Go.Proofs.YtkbhcejibcjglaaDoorW.PrintMore
set_option linter.unusedVariables false
set_option linter.unusedSimpArgs false
theorem lines_trim (s : ByteArray) (k : Nat) (hk : (cutB 10 s).length = k + 1) (h : ((cutB 10 s).getD k ByteArray.empty).size = 0) : linesOf s = (cutB 10 s).take k := by
  unfold linesOf
  rw [hk, Nat.add_sub_cancel, if_pos h]
theorem lines_whole (s : ByteArray) (k : Nat) (hk : (cutB 10 s).length = k + 1) (h : ¬ ((cutB 10 s).getD k ByteArray.empty).size = 0) : linesOf s = cutB 10 s := by
  unfold linesOf
  rw [hk, Nat.add_sub_cancel, if_neg h]
set_option maxHeartbeats 8000000 in
set_option maxRecDepth 100000 in
theorem impl_long (s : ByteArray) (w : World) (hs : s.size ≤ 1048576) (hl : 60000 < s.size) : Calls Tryd.prog 5 #[.string s] w (ScriptPost (scriptOf s) w) := by
  have hu24 := Tryd.underlying24
  have HO := Aside0.mk (show scriptOf s = (0, [], 1) from by unfold scriptOf; rw [if_pos hl])
  have W0 := Aside0.mk (heap_alloc_new w (.cells #[.int .i64 0, .slice none 0 0] 24))
  have B0 := Aside0.mk (below_alloc (Below.refl w.heap.size w) (.cells #[.int .i64 0, .slice none 0 0] 24))
  have t0 : decide ((60000 : Int) < (s.size : Int)) = true := decide_eq_true (by omega)
  have t1 : decide (60000 < s.size) = true := decide_eq_true hl
  clear hl
  go_enter Tryd.func5, Tryd.ntmps5
  go_wp2
  refine bodyPost_ret (v := .tuple #[.agg #[.int .i64 0, .slice none 0 0], .int .i64 1]) (by simp [results, Tryd.results5, go_sem]) rfl ?_
  rw [HO.out]
  exact ⟨_, rfl, Kd.S_nil _ _ _ _ _, B0.out⟩
set_option maxHeartbeats 8000000 in
set_option maxRecDepth 100000 in
theorem impl_none (s : ByteArray) (w : World) (bm : Nat) (m : Int) (hA : LinesAt w bm m) (hs : s.size ≤ 1048576) (hl : ¬ 60000 < s.size)  (hk : (cutB 10 s).length = 0 + 1) (hlast :  ((cutB 10 s).getD (0) ByteArray.empty).size = 0) (hn : linesOf s = []) : Calls Tryd.prog 5 #[.string s] w (ScriptPost (scriptOf s) w) := by
  have hu24 := Tryd.underlying24
  have W0 := Aside0.mk (heap_alloc_new w (.cells #[.int .i64 0, .slice none 0 0] 24))
  have B0 := Aside0.mk (below_alloc (Below.refl w.heap.size w) (.cells #[.int .i64 0, .slice none 0 0] 24))
  have t0 : decide ((60000 : Int) < (s.size : Int)) = false := decide_eq_false (by omega)
  have t1 : decide (60000 < s.size) = false := decide_eq_false hl
  have HS := Aside0.mk hs
  have HA := Aside0.mk hA
  have HO := Aside0.mk (show scriptOf s = (0, [], 2) from by unfold scriptOf; rw [if_neg hl, if_pos (.inl hn)])
  have HTK := Aside0.mk (show [] = (cutB 10 s).take (0) from by rw [← hn, lines_trim s _ hk hlast])
  have hlb : 0 ≤ 1048576 := by have h1 := (cutB_len 10 s).2; omega
  obtain ⟨Q, hQ⟩ : ∃ Q, cutB 10 s = Q := ⟨_, rfl⟩
  rw [hQ] at hk hlast HTK
  obtain ⟨last, hla⟩ : ∃ last, Q.getD (0) ByteArray.empty = last := ⟨_, rfl⟩
  rw [hla] at hlast
  have hE : last.toList.isEmpty = true := empty_list hlast
  have HQ := Aside0.mk hQ
  have HKQ := Aside0.mk hk
  have HLA := Aside0.mk hla
  clear hl hn hQ hk hla hlast hA
  go_enter Tryd.func5, Tryd.ntmps5
  go_wp2_with fail
  refine (Tryd.strings_Split s ⟨#[10]⟩ m _ (by omega) (HA.out.below B0.out).max (by decide)).mono ?_
  rintro e w1 ⟨rfl, hw⟩
  have ho := split_row (w.alloc (.cells #[.int .i64 0, .slice none 0 0] 24)) w.heap.size s 10 B0.out.size hs
  have hb := below_alloc (Below.refl (w.alloc (.cells #[.int .i64 0, .slice none 0 0] 24)).heap.size (w.alloc (.cells #[.int .i64 0, .slice none 0 0] 24))) (.cells ((Lib.splitB ⟨#[10]⟩ 0 (Lib.countB s ⟨#[10]⟩) s).map Value.string).toArray 9)
  rw [← hw] at ho hb
  rw [count_cut]
  rw [HQ.out, HKQ.out, World.size_alloc] at ho ⊢
  clear hw hs
  have W1 := Aside0.mk ((hb.block _ (blk_lt W0.out)).trans W0.out)
  have B1 := Aside0.mk (below_step B0.out hb)
  have hx : w1.cell? ⟨w.heap.size + 1, 0, none⟩ = some (.string last) := by
    have h := (Kd.R_celln ByteArray.empty ho ((0 : Nat) : Int) (by omega) (by omega)).1
    rw [Int.toNat_natCast] at h
    rw [h]
    unfold rdOf
    rw [Int.toNat_natCast, HLA.out]
  have RP := Kd.R_take ho (m := 0) (by rw [HKQ.out]; omega)
  rw [← HTK.out] at RP
  replace RP := Aside0.mk (show Kd.R Kd.string 9 w1 w.heap.size (fun _ => True) (.slice (some ⟨w.heap.size + 1, 0, none⟩) (0) (0 + 1)) ([]) from RP)
  clear ho hb HTK
  generalize w.heap.size + 1 = g at *
  have y0 : w1.cell? ⟨w.heap.size, 0, none⟩ = some (.int .i64 0) := (blk_cell W1.out 0).trans rfl
  have y1 : w1.cell? ⟨w.heap.size, 1, none⟩ = some (.slice none 0 0) := (blk_cell W1.out 1).trans rfl
  have m0 := blk_frozen W1.out 0
  have m1 := blk_frozen W1.out 1
  go_wp2
  refine bodyPost_ret (results_ct rfl _ _ w.heap.size 24 #[.int .i64 0, .slice none 0 0] (0, 0) _ rfl (put2 W1.out _ _) Tryd.underlying24 rfl (by kernel_rfl)) rfl ?_
  rw [HO.out]
  exact bad_done B1.out (Nat.le_refl _) 2
set_option maxHeartbeats 8000000 in
set_option maxRecDepth 100000 in
theorem impl_noq_t (s : ByteArray) (w : World) (bm : Nat) (m : Int) (hA : LinesAt w bm m) (hs : s.size ≤ 1048576) (hl : ¬ 60000 < s.size) (l0 : ByteArray) (ls : List ByteArray) (hq : isQuota l0 = false) (hk : (cutB 10 s).length = ls.length + 1 + 1) (hlast :  ((cutB 10 s).getD (ls.length + 1) ByteArray.empty).size = 0) (hn : linesOf s = l0 :: ls) : Calls Tryd.prog 5 #[.string s] w (ScriptPost (scriptOf s) w) := by
  have hu24 := Tryd.underlying24
  have W0 := Aside0.mk (heap_alloc_new w (.cells #[.int .i64 0, .slice none 0 0] 24))
  have B0 := Aside0.mk (below_alloc (Below.refl w.heap.size w) (.cells #[.int .i64 0, .slice none 0 0] 24))
  have t0 : decide ((60000 : Int) < (s.size : Int)) = false := decide_eq_false (by omega)
  have t1 : decide (60000 < s.size) = false := decide_eq_false hl
  have HS := Aside0.mk hs
  have HA := Aside0.mk hA
  have HO := Aside0.mk (show scriptOf s = (0, [], 2) from by
    unfold scriptOf
    rw [if_neg hl, if_pos (.inr (by rw [hn]; exact of_decide_eq_false hq))])
  have HB := Aside0.mk (show strings_HasPrefix.f l0 quotaB = some false from by rw [prefix_eq, hq])
  clear hq
  have HTK := Aside0.mk (show l0 :: ls = (cutB 10 s).take (ls.length + 1) from by rw [← hn, lines_trim s _ hk hlast])
  have hlb : ls.length + 1 ≤ 1048576 := by have h1 := (cutB_len 10 s).2; omega
  obtain ⟨Q, hQ⟩ : ∃ Q, cutB 10 s = Q := ⟨_, rfl⟩
  rw [hQ] at hk hlast HTK
  obtain ⟨last, hla⟩ : ∃ last, Q.getD (ls.length + 1) ByteArray.empty = last := ⟨_, rfl⟩
  rw [hla] at hlast
  have hE : last.toList.isEmpty = true := empty_list hlast
  have HQ := Aside0.mk hQ
  have HKQ := Aside0.mk hk
  have HLA := Aside0.mk hla
  clear hl hn hQ hk hla hlast hA
  go_enter Tryd.func5, Tryd.ntmps5
  go_wp2_with fail
  refine (Tryd.strings_Split s ⟨#[10]⟩ m _ (by omega) (HA.out.below B0.out).max (by decide)).mono ?_
  rintro e w1 ⟨rfl, hw⟩
  have ho := split_row (w.alloc (.cells #[.int .i64 0, .slice none 0 0] 24)) w.heap.size s 10 B0.out.size hs
  have hb := below_alloc (Below.refl (w.alloc (.cells #[.int .i64 0, .slice none 0 0] 24)).heap.size (w.alloc (.cells #[.int .i64 0, .slice none 0 0] 24))) (.cells ((Lib.splitB ⟨#[10]⟩ 0 (Lib.countB s ⟨#[10]⟩) s).map Value.string).toArray 9)
  rw [← hw] at ho hb
  rw [count_cut]
  rw [HQ.out, HKQ.out, World.size_alloc] at ho ⊢
  clear hw hs
  have W1 := Aside0.mk ((hb.block _ (blk_lt W0.out)).trans W0.out)
  have B1 := Aside0.mk (below_step B0.out hb)
  have hx : w1.cell? ⟨w.heap.size + 1, ls.length + 1, none⟩ = some (.string last) := by
    have h := (Kd.R_celln ByteArray.empty ho ((ls.length + 1 : Nat) : Int) (by omega) (by omega)).1
    rw [Int.toNat_natCast] at h
    rw [h]
    unfold rdOf
    rw [Int.toNat_natCast, HLA.out]
  have RP := Kd.R_take ho (m := ls.length + 1) (by rw [HKQ.out]; omega)
  rw [← HTK.out] at RP
  replace RP := Aside0.mk (show Kd.R Kd.string 9 w1 w.heap.size (fun _ => True) (.slice (some ⟨w.heap.size + 1, 0, none⟩) (ls.length + 1) (ls.length + 1 + 1)) (l0 :: ls) from RP)
  clear ho hb HTK
  generalize w.heap.size + 1 = g at *
  have hc0 : w1.cell? ⟨g, 0, none⟩ = some (.string l0) := (Kd.R_celln ByteArray.empty RP.out 0 (Int.le_refl _) (Int.ofNat_lt.2 (Nat.succ_pos _))).1
  have e0 : ((((ls.length : Nat) : Int) + 1) == 0) = false := beq_eq_false_iff_ne.2 (by omega)
  have e1 : (((ls.length + 1 : Nat) : Int) == 0) = false := beq_eq_false_iff_ne.2 (by omega)
  go_wp2_with fail
  refine (strings_HasPrefix.calls l0 quotaB false _ HB.out).mono ?_
  rintro e w2 ⟨rfl, hd⟩
  obtain ⟨nd, rfl⟩ := hd.out
  have W2 := Aside0.mk (show (w1.drewN nd).heap[w.heap.size]? = some (.cells #[.int .i64 0, .slice none 0 0] 24) from W1.out)
  have B2 := Aside0.mk (pw_below_drewN B1.out nd)
  clear hd
  have y0 : (w1.drewN nd).cell? ⟨w.heap.size, 0, none⟩ = some (.int .i64 0) := (blk_cell W2.out 0).trans rfl
  have y1 : (w1.drewN nd).cell? ⟨w.heap.size, 1, none⟩ = some (.slice none 0 0) := (blk_cell W2.out 1).trans rfl
  have m0 := blk_frozen W2.out 0
  have m1 := blk_frozen W2.out 1
  go_wp2
  refine bodyPost_ret (results_ct rfl _ _ w.heap.size 24 #[.int .i64 0, .slice none 0 0] (0, 0) _ rfl (put2 W2.out _ _) Tryd.underlying24 rfl (by kernel_rfl)) rfl ?_
  rw [HO.out]
  exact bad_done B2.out (Nat.le_refl _) 2
set_option maxHeartbeats 8000000 in
set_option maxRecDepth 100000 in
theorem impl_noq_w (s : ByteArray) (w : World) (bm : Nat) (m : Int) (hA : LinesAt w bm m) (hs : s.size ≤ 1048576) (hl : ¬ 60000 < s.size) (l0 : ByteArray) (ls : List ByteArray) (hq : isQuota l0 = false) (hk : (cutB 10 s).length = ls.length + 1) (hlast : ¬ ((cutB 10 s).getD (ls.length) ByteArray.empty).size = 0) (hn : linesOf s = l0 :: ls) : Calls Tryd.prog 5 #[.string s] w (ScriptPost (scriptOf s) w) := by
  have hu24 := Tryd.underlying24
  have W0 := Aside0.mk (heap_alloc_new w (.cells #[.int .i64 0, .slice none 0 0] 24))
  have B0 := Aside0.mk (below_alloc (Below.refl w.heap.size w) (.cells #[.int .i64 0, .slice none 0 0] 24))
  have t0 : decide ((60000 : Int) < (s.size : Int)) = false := decide_eq_false (by omega)
  have t1 : decide (60000 < s.size) = false := decide_eq_false hl
  have HS := Aside0.mk hs
  have HA := Aside0.mk hA
  have HO := Aside0.mk (show scriptOf s = (0, [], 2) from by
    unfold scriptOf
    rw [if_neg hl, if_pos (.inr (by rw [hn]; exact of_decide_eq_false hq))])
  have HB := Aside0.mk (show strings_HasPrefix.f l0 quotaB = some false from by rw [prefix_eq, hq])
  clear hq
  have HTK := Aside0.mk (show l0 :: ls = cutB 10 s from by rw [← hn, lines_whole s _ hk hlast])
  have hlb : ls.length ≤ 1048576 := by have h1 := (cutB_len 10 s).2; omega
  obtain ⟨Q, hQ⟩ : ∃ Q, cutB 10 s = Q := ⟨_, rfl⟩
  rw [hQ] at hk hlast HTK
  obtain ⟨last, hla⟩ : ∃ last, Q.getD (ls.length) ByteArray.empty = last := ⟨_, rfl⟩
  rw [hla] at hlast
  have hE : last.toList.isEmpty = false := nonempty_list hlast
  have HQ := Aside0.mk hQ
  have HKQ := Aside0.mk hk
  have HLA := Aside0.mk hla
  clear hl hn hQ hk hla hlast hA
  go_enter Tryd.func5, Tryd.ntmps5
  go_wp2_with fail
  refine (Tryd.strings_Split s ⟨#[10]⟩ m _ (by omega) (HA.out.below B0.out).max (by decide)).mono ?_
  rintro e w1 ⟨rfl, hw⟩
  have ho := split_row (w.alloc (.cells #[.int .i64 0, .slice none 0 0] 24)) w.heap.size s 10 B0.out.size hs
  have hb := below_alloc (Below.refl (w.alloc (.cells #[.int .i64 0, .slice none 0 0] 24)).heap.size (w.alloc (.cells #[.int .i64 0, .slice none 0 0] 24))) (.cells ((Lib.splitB ⟨#[10]⟩ 0 (Lib.countB s ⟨#[10]⟩) s).map Value.string).toArray 9)
  rw [← hw] at ho hb
  rw [count_cut]
  rw [HQ.out, HKQ.out, World.size_alloc] at ho ⊢
  clear hw hs
  have W1 := Aside0.mk ((hb.block _ (blk_lt W0.out)).trans W0.out)
  have B1 := Aside0.mk (below_step B0.out hb)
  have hx : w1.cell? ⟨w.heap.size + 1, ls.length, none⟩ = some (.string last) := by
    have h := (Kd.R_celln ByteArray.empty ho ((ls.length : Nat) : Int) (by omega) (by omega)).1
    rw [Int.toNat_natCast] at h
    rw [h]
    unfold rdOf
    rw [Int.toNat_natCast, HLA.out]
  have RP := ho
  rw [← HTK.out] at RP
  replace RP := Aside0.mk (show Kd.R Kd.string 9 w1 w.heap.size (fun _ => True) (.slice (some ⟨w.heap.size + 1, 0, none⟩) (ls.length + 1) (ls.length + 1)) (l0 :: ls) from RP)
  clear ho hb HTK
  generalize w.heap.size + 1 = g at *
  have hc0 : w1.cell? ⟨g, 0, none⟩ = some (.string l0) := (Kd.R_celln ByteArray.empty RP.out 0 (Int.le_refl _) (Int.ofNat_lt.2 (Nat.succ_pos _))).1
  have e0 : ((((ls.length : Nat) : Int) + 1) == 0) = false := beq_eq_false_iff_ne.2 (by omega)
  have e1 : (((ls.length + 1 : Nat) : Int) == 0) = false := beq_eq_false_iff_ne.2 (by omega)
  go_wp2_with fail
  refine (strings_HasPrefix.calls l0 quotaB false _ HB.out).mono ?_
  rintro e w2 ⟨rfl, hd⟩
  obtain ⟨nd, rfl⟩ := hd.out
  have W2 := Aside0.mk (show (w1.drewN nd).heap[w.heap.size]? = some (.cells #[.int .i64 0, .slice none 0 0] 24) from W1.out)
  have B2 := Aside0.mk (pw_below_drewN B1.out nd)
  clear hd
  have y0 : (w1.drewN nd).cell? ⟨w.heap.size, 0, none⟩ = some (.int .i64 0) := (blk_cell W2.out 0).trans rfl
  have y1 : (w1.drewN nd).cell? ⟨w.heap.size, 1, none⟩ = some (.slice none 0 0) := (blk_cell W2.out 1).trans rfl
  have m0 := blk_frozen W2.out 0
  have m1 := blk_frozen W2.out 1
  go_wp2
  refine bodyPost_ret (results_ct rfl _ _ w.heap.size 24 #[.int .i64 0, .slice none 0 0] (0, 0) _ rfl (put2 W2.out _ _) Tryd.underlying24 rfl (by kernel_rfl)) rfl ?_
  rw [HO.out]
  exact bad_done B2.out (Nat.le_refl _) 2
set_option maxHeartbeats 8000000 in
set_option maxRecDepth 100000 in
theorem impl_badq_t (s : ByteArray) (w : World) (bm : Nat) (m : Int) (hA : LinesAt w bm m) (hs : s.size ≤ 1048576) (hl : ¬ 60000 < s.size) (l0 : ByteArray) (ls : List ByteArray) (hq : isQuota l0 = true) (p : ByteArray) (hp : l0.extract 6 l0.size = p) (hbad : numD p < 0 ∨ 1048576 < numD p) (hk : (cutB 10 s).length = ls.length + 1 + 1) (hlast :  ((cutB 10 s).getD (ls.length + 1) ByteArray.empty).size = 0) (hn : linesOf s = l0 :: ls) : Calls Tryd.prog 5 #[.string s] w (ScriptPost (scriptOf s) w) := by
  have hu24 := Tryd.underlying24
  have W0 := Aside0.mk (heap_alloc_new w (.cells #[.int .i64 0, .slice none 0 0] 24))
  have B0 := Aside0.mk (below_alloc (Below.refl w.heap.size w) (.cells #[.int .i64 0, .slice none 0 0] 24))
  have t0 : decide ((60000 : Int) < (s.size : Int)) = false := decide_eq_false (by omega)
  have t1 : decide (60000 < s.size) = false := decide_eq_false hl
  have HS := Aside0.mk hs
  have HA := Aside0.mk hA
  have HB := Aside0.mk (show strings_HasPrefix.f l0 quotaB = some true from by rw [prefix_eq, hq])
  obtain ⟨kn, hkn⟩ := Ev.rounds (num_eq p).2.1
  have s6 := quota_size l0 hq
  have HL0 : ∀ x ∈ ls, x.size ≤ 1048576 := fun x hx => by
    have h1 := sizes_mem (linesOf s) x (by rw [hn]; exact List.mem_cons_of_mem _ hx)
    have h2 := lines_sizes s
    omega
  have HLS := Aside0.mk HL0
  have HLN := Aside0.mk (show ls.length ≤ 1048576 from by
    have h1 := lines_length s
    rw [hn, List.length_cons] at h1
    omega)
  obtain ⟨q, hqq⟩ : ∃ q, numD p = q := ⟨_, rfl⟩
  rw [hqq] at hkn
  have HN := Aside0.mk hkn
  have e1 : ((linesOf s).headD ⟨#[]⟩).extract 6 ((linesOf s).headD ⟨#[]⟩).size = p := by rw [hn]; exact hp
  have HO := Aside0.mk (show scriptOf s = (0, [], 2) from by
    unfold scriptOf
    rw [if_neg hl, if_neg (by rw [hn]; rintro (h | h); cases h; exact h (of_decide_eq_true hq)), e1, if_pos hbad])
  rw [hqq] at hbad
  have HP := Aside0.mk hp
  clear hq hp hkn HL0 hqq e1
  have HTK := Aside0.mk (show l0 :: ls = (cutB 10 s).take (ls.length + 1) from by rw [← hn, lines_trim s _ hk hlast])
  have hlb : ls.length + 1 ≤ 1048576 := by have h1 := (cutB_len 10 s).2; omega
  obtain ⟨Q, hQ⟩ : ∃ Q, cutB 10 s = Q := ⟨_, rfl⟩
  rw [hQ] at hk hlast HTK
  obtain ⟨last, hla⟩ : ∃ last, Q.getD (ls.length + 1) ByteArray.empty = last := ⟨_, rfl⟩
  rw [hla] at hlast
  have hE : last.toList.isEmpty = true := empty_list hlast
  have HQ := Aside0.mk hQ
  have HKQ := Aside0.mk hk
  have HLA := Aside0.mk hla
  clear hl hn hQ hk hla hlast hA
  go_enter Tryd.func5, Tryd.ntmps5
  go_wp2_with fail
  refine (Tryd.strings_Split s ⟨#[10]⟩ m _ (by omega) (HA.out.below B0.out).max (by decide)).mono ?_
  rintro e w1 ⟨rfl, hw⟩
  have ho := split_row (w.alloc (.cells #[.int .i64 0, .slice none 0 0] 24)) w.heap.size s 10 B0.out.size hs
  have hb := below_alloc (Below.refl (w.alloc (.cells #[.int .i64 0, .slice none 0 0] 24)).heap.size (w.alloc (.cells #[.int .i64 0, .slice none 0 0] 24))) (.cells ((Lib.splitB ⟨#[10]⟩ 0 (Lib.countB s ⟨#[10]⟩) s).map Value.string).toArray 9)
  rw [← hw] at ho hb
  rw [count_cut]
  rw [HQ.out, HKQ.out, World.size_alloc] at ho ⊢
  clear hw hs
  have W1 := Aside0.mk ((hb.block _ (blk_lt W0.out)).trans W0.out)
  have B1 := Aside0.mk (below_step B0.out hb)
  have hx : w1.cell? ⟨w.heap.size + 1, ls.length + 1, none⟩ = some (.string last) := by
    have h := (Kd.R_celln ByteArray.empty ho ((ls.length + 1 : Nat) : Int) (by omega) (by omega)).1
    rw [Int.toNat_natCast] at h
    rw [h]
    unfold rdOf
    rw [Int.toNat_natCast, HLA.out]
  have RP := Kd.R_take ho (m := ls.length + 1) (by rw [HKQ.out]; omega)
  rw [← HTK.out] at RP
  replace RP := Aside0.mk (show Kd.R Kd.string 9 w1 w.heap.size (fun _ => True) (.slice (some ⟨w.heap.size + 1, 0, none⟩) (ls.length + 1) (ls.length + 1 + 1)) (l0 :: ls) from RP)
  clear ho hb HTK
  generalize w.heap.size + 1 = g at *
  have hc0 : w1.cell? ⟨g, 0, none⟩ = some (.string l0) := (Kd.R_celln ByteArray.empty RP.out 0 (Int.le_refl _) (Int.ofNat_lt.2 (Nat.succ_pos _))).1
  have e0 : ((((ls.length : Nat) : Int) + 1) == 0) = false := beq_eq_false_iff_ne.2 (by omega)
  have e1 : (((ls.length + 1 : Nat) : Int) == 0) = false := beq_eq_false_iff_ne.2 (by omega)
  go_wp2_with fail
  refine (strings_HasPrefix.calls l0 quotaB true _ HB.out).mono ?_
  rintro e w2 ⟨rfl, hd⟩
  obtain ⟨nd, rfl⟩ := hd.out
  have W2 := Aside0.mk (show (w1.drewN nd).heap[w.heap.size]? = some (.cells #[.int .i64 0, .slice none 0 0] 24) from W1.out)
  have B2 := Aside0.mk (pw_below_drewN B1.out nd)
  have RP2 := Aside0.mk (Kd.R_drewN RP.out nd)
  replace hc0 : (w1.drewN nd).cell? ⟨g, 0, none⟩ = some (.string l0) := hc0
  clear hd W1 B1 W0 B0 RP hx
  generalize w1.drewN nd = w2 at *
  go_wp2_with fail
  rw [HP.out]
  refine (impl_decimal.calls kn p _ _ HN.out).mono ?_
  rintro e w3' ⟨rfl, hd⟩
  obtain ⟨nd, rfl⟩ := hd.out
  have W3 := Aside0.mk (show (w2.drewN nd).heap[w.heap.size]? = some (.cells #[.int .i64 0, .slice none 0 0] 24) from W2.out)
  have B3 := Aside0.mk (pw_below_drewN B2.out nd)
  have RP3 := Aside0.mk (Kd.R_drewN RP2.out nd)
  clear hd W2 B2 RP2 hc0
  generalize w2.drewN nd = w3 at *
  have D0 := Aside0.mk (show PS w (w3.alloc (.cells #[.int .i64 q, .slice none 0 0] 24)) w3.heap.size w.heap.size q (.slice none 0 0) [] (.slice (some ⟨g, 0, none⟩) (ls.length + 1) (ls.length + 1 + 1)) (l0 :: ls) from
    ⟨below_alloc B3.out _, B3.out.size, Nat.le_refl _, Nat.ne_of_gt (blk_lt W3.out), heap_alloc_new _ _, blk_alloc W3.out _, Kd.S_nil _ _ _ _ _, Kd.R_alloc RP3.out _⟩)
  clear W3 B3 RP3
  by_cases h0 : q < 0
  · have q0 : decide (q < 0) = true := decide_eq_true h0
    clear hbad h0
    obtain ⟨z0, z1, y0, y1, m0, m1, n1, n2⟩ := D0.out.cells
    go_wp2
    refine bodyPost_ret (results_ct rfl _ _ w.heap.size 24 #[.int .i64 0, .slice none 0 0] (0, 0) _ rfl (put2 D0.out.rb _ _) Tryd.underlying24 rfl (by kernel_rfl)) rfl ?_
    rw [HO.out]
    exact bad_done D0.out.bel (Nat.le_refl _) 2
  · have q0 : decide (q < 0) = false := decide_eq_false h0
    have q1 : decide (1048576 < q) = true := decide_eq_true (by rcases hbad with h | h; exact absurd h h0; exact h)
    clear hbad h0
    obtain ⟨z0, z1, y0, y1, m0, m1, n1, n2⟩ := D0.out.cells
    go_wp2
    refine bodyPost_ret (results_ct rfl _ _ w.heap.size 24 #[.int .i64 0, .slice none 0 0] (0, 0) _ rfl (put2 D0.out.rb _ _) Tryd.underlying24 rfl (by kernel_rfl)) rfl ?_
    rw [HO.out]
    exact bad_done D0.out.bel (Nat.le_refl _) 2
set_option maxHeartbeats 8000000 in
set_option maxRecDepth 100000 in
theorem impl_badq_w (s : ByteArray) (w : World) (bm : Nat) (m : Int) (hA : LinesAt w bm m) (hs : s.size ≤ 1048576) (hl : ¬ 60000 < s.size) (l0 : ByteArray) (ls : List ByteArray) (hq : isQuota l0 = true) (p : ByteArray) (hp : l0.extract 6 l0.size = p) (hbad : numD p < 0 ∨ 1048576 < numD p) (hk : (cutB 10 s).length = ls.length + 1) (hlast : ¬ ((cutB 10 s).getD (ls.length) ByteArray.empty).size = 0) (hn : linesOf s = l0 :: ls) : Calls Tryd.prog 5 #[.string s] w (ScriptPost (scriptOf s) w) := by
  have hu24 := Tryd.underlying24
  have W0 := Aside0.mk (heap_alloc_new w (.cells #[.int .i64 0, .slice none 0 0] 24))
  have B0 := Aside0.mk (below_alloc (Below.refl w.heap.size w) (.cells #[.int .i64 0, .slice none 0 0] 24))
  have t0 : decide ((60000 : Int) < (s.size : Int)) = false := decide_eq_false (by omega)
  have t1 : decide (60000 < s.size) = false := decide_eq_false hl
  have HS := Aside0.mk hs
  have HA := Aside0.mk hA
  have HB := Aside0.mk (show strings_HasPrefix.f l0 quotaB = some true from by rw [prefix_eq, hq])
  obtain ⟨kn, hkn⟩ := Ev.rounds (num_eq p).2.1
  have s6 := quota_size l0 hq
  have HL0 : ∀ x ∈ ls, x.size ≤ 1048576 := fun x hx => by
    have h1 := sizes_mem (linesOf s) x (by rw [hn]; exact List.mem_cons_of_mem _ hx)
    have h2 := lines_sizes s
    omega
  have HLS := Aside0.mk HL0
  have HLN := Aside0.mk (show ls.length ≤ 1048576 from by
    have h1 := lines_length s
    rw [hn, List.length_cons] at h1
    omega)
  obtain ⟨q, hqq⟩ : ∃ q, numD p = q := ⟨_, rfl⟩
  rw [hqq] at hkn
  have HN := Aside0.mk hkn
  have e1 : ((linesOf s).headD ⟨#[]⟩).extract 6 ((linesOf s).headD ⟨#[]⟩).size = p := by rw [hn]; exact hp
  have HO := Aside0.mk (show scriptOf s = (0, [], 2) from by
    unfold scriptOf
    rw [if_neg hl, if_neg (by rw [hn]; rintro (h | h); cases h; exact h (of_decide_eq_true hq)), e1, if_pos hbad])
  rw [hqq] at hbad
  have HP := Aside0.mk hp
  clear hq hp hkn HL0 hqq e1
  have HTK := Aside0.mk (show l0 :: ls = cutB 10 s from by rw [← hn, lines_whole s _ hk hlast])
  have hlb : ls.length ≤ 1048576 := by have h1 := (cutB_len 10 s).2; omega
  obtain ⟨Q, hQ⟩ : ∃ Q, cutB 10 s = Q := ⟨_, rfl⟩
  rw [hQ] at hk hlast HTK
  obtain ⟨last, hla⟩ : ∃ last, Q.getD (ls.length) ByteArray.empty = last := ⟨_, rfl⟩
  rw [hla] at hlast
  have hE : last.toList.isEmpty = false := nonempty_list hlast
  have HQ := Aside0.mk hQ
  have HKQ := Aside0.mk hk
  have HLA := Aside0.mk hla
  clear hl hn hQ hk hla hlast hA
  go_enter Tryd.func5, Tryd.ntmps5
  go_wp2_with fail
  refine (Tryd.strings_Split s ⟨#[10]⟩ m _ (by omega) (HA.out.below B0.out).max (by decide)).mono ?_
  rintro e w1 ⟨rfl, hw⟩
  have ho := split_row (w.alloc (.cells #[.int .i64 0, .slice none 0 0] 24)) w.heap.size s 10 B0.out.size hs
  have hb := below_alloc (Below.refl (w.alloc (.cells #[.int .i64 0, .slice none 0 0] 24)).heap.size (w.alloc (.cells #[.int .i64 0, .slice none 0 0] 24))) (.cells ((Lib.splitB ⟨#[10]⟩ 0 (Lib.countB s ⟨#[10]⟩) s).map Value.string).toArray 9)
  rw [← hw] at ho hb
  rw [count_cut]
  rw [HQ.out, HKQ.out, World.size_alloc] at ho ⊢
  clear hw hs
  have W1 := Aside0.mk ((hb.block _ (blk_lt W0.out)).trans W0.out)
  have B1 := Aside0.mk (below_step B0.out hb)
  have hx : w1.cell? ⟨w.heap.size + 1, ls.length, none⟩ = some (.string last) := by
    have h := (Kd.R_celln ByteArray.empty ho ((ls.length : Nat) : Int) (by omega) (by omega)).1
    rw [Int.toNat_natCast] at h
    rw [h]
    unfold rdOf
    rw [Int.toNat_natCast, HLA.out]
  have RP := ho
  rw [← HTK.out] at RP
  replace RP := Aside0.mk (show Kd.R Kd.string 9 w1 w.heap.size (fun _ => True) (.slice (some ⟨w.heap.size + 1, 0, none⟩) (ls.length + 1) (ls.length + 1)) (l0 :: ls) from RP)
  clear ho hb HTK
  generalize w.heap.size + 1 = g at *
  have hc0 : w1.cell? ⟨g, 0, none⟩ = some (.string l0) := (Kd.R_celln ByteArray.empty RP.out 0 (Int.le_refl _) (Int.ofNat_lt.2 (Nat.succ_pos _))).1
  have e0 : ((((ls.length : Nat) : Int) + 1) == 0) = false := beq_eq_false_iff_ne.2 (by omega)
  have e1 : (((ls.length + 1 : Nat) : Int) == 0) = false := beq_eq_false_iff_ne.2 (by omega)
  go_wp2_with fail
  refine (strings_HasPrefix.calls l0 quotaB true _ HB.out).mono ?_
  rintro e w2 ⟨rfl, hd⟩
  obtain ⟨nd, rfl⟩ := hd.out
  have W2 := Aside0.mk (show (w1.drewN nd).heap[w.heap.size]? = some (.cells #[.int .i64 0, .slice none 0 0] 24) from W1.out)
  have B2 := Aside0.mk (pw_below_drewN B1.out nd)
  have RP2 := Aside0.mk (Kd.R_drewN RP.out nd)
  replace hc0 : (w1.drewN nd).cell? ⟨g, 0, none⟩ = some (.string l0) := hc0
  clear hd W1 B1 W0 B0 RP hx
  generalize w1.drewN nd = w2 at *
  go_wp2_with fail
  rw [HP.out]
  refine (impl_decimal.calls kn p _ _ HN.out).mono ?_
  rintro e w3' ⟨rfl, hd⟩
  obtain ⟨nd, rfl⟩ := hd.out
  have W3 := Aside0.mk (show (w2.drewN nd).heap[w.heap.size]? = some (.cells #[.int .i64 0, .slice none 0 0] 24) from W2.out)
  have B3 := Aside0.mk (pw_below_drewN B2.out nd)
  have RP3 := Aside0.mk (Kd.R_drewN RP2.out nd)
  clear hd W2 B2 RP2 hc0
  generalize w2.drewN nd = w3 at *
  have D0 := Aside0.mk (show PS w (w3.alloc (.cells #[.int .i64 q, .slice none 0 0] 24)) w3.heap.size w.heap.size q (.slice none 0 0) [] (.slice (some ⟨g, 0, none⟩) (ls.length + 1) (ls.length + 1)) (l0 :: ls) from
    ⟨below_alloc B3.out _, B3.out.size, Nat.le_refl _, Nat.ne_of_gt (blk_lt W3.out), heap_alloc_new _ _, blk_alloc W3.out _, Kd.S_nil _ _ _ _ _, Kd.R_alloc RP3.out _⟩)
  clear W3 B3 RP3
  by_cases h0 : q < 0
  · have q0 : decide (q < 0) = true := decide_eq_true h0
    clear hbad h0
    obtain ⟨z0, z1, y0, y1, m0, m1, n1, n2⟩ := D0.out.cells
    go_wp2
    refine bodyPost_ret (results_ct rfl _ _ w.heap.size 24 #[.int .i64 0, .slice none 0 0] (0, 0) _ rfl (put2 D0.out.rb _ _) Tryd.underlying24 rfl (by kernel_rfl)) rfl ?_
    rw [HO.out]
    exact bad_done D0.out.bel (Nat.le_refl _) 2
  · have q0 : decide (q < 0) = false := decide_eq_false h0
    have q1 : decide (1048576 < q) = true := decide_eq_true (by rcases hbad with h | h; exact absurd h h0; exact h)
    clear hbad h0
    obtain ⟨z0, z1, y0, y1, m0, m1, n1, n2⟩ := D0.out.cells
    go_wp2
    refine bodyPost_ret (results_ct rfl _ _ w.heap.size 24 #[.int .i64 0, .slice none 0 0] (0, 0) _ rfl (put2 D0.out.rb _ _) Tryd.underlying24 rfl (by kernel_rfl)) rfl ?_
    rw [HO.out]
    exact bad_done D0.out.bel (Nat.le_refl _) 2
set_option maxHeartbeats 8000000 in
set_option maxRecDepth 100000 in
theorem impl_good_t (s : ByteArray) (w : World) (bm : Nat) (m : Int) (hA : LinesAt w bm m) (hs : s.size ≤ 1048576) (hl : ¬ 60000 < s.size) (l0 : ByteArray) (ls : List ByteArray) (hq : isQuota l0 = true) (p : ByteArray) (hp : l0.extract 6 l0.size = p) (hbad : ¬ (numD p < 0 ∨ 1048576 < numD p)) (hk : (cutB 10 s).length = ls.length + 1 + 1) (hlast :  ((cutB 10 s).getD (ls.length + 1) ByteArray.empty).size = 0) (hn : linesOf s = l0 :: ls) : Calls Tryd.prog 5 #[.string s] w (ScriptPost (scriptOf s) w) := by
  have hu24 := Tryd.underlying24
  have W0 := Aside0.mk (heap_alloc_new w (.cells #[.int .i64 0, .slice none 0 0] 24))
  have B0 := Aside0.mk (below_alloc (Below.refl w.heap.size w) (.cells #[.int .i64 0, .slice none 0 0] 24))
  have t0 : decide ((60000 : Int) < (s.size : Int)) = false := decide_eq_false (by omega)
  have t1 : decide (60000 < s.size) = false := decide_eq_false hl
  have HS := Aside0.mk hs
  have HA := Aside0.mk hA
  have HB := Aside0.mk (show strings_HasPrefix.f l0 quotaB = some true from by rw [prefix_eq, hq])
  obtain ⟨kn, hkn⟩ := Ev.rounds (num_eq p).2.1
  have s6 := quota_size l0 hq
  have HL0 : ∀ x ∈ ls, x.size ≤ 1048576 := fun x hx => by
    have h1 := sizes_mem (linesOf s) x (by rw [hn]; exact List.mem_cons_of_mem _ hx)
    have h2 := lines_sizes s
    omega
  have HLS := Aside0.mk HL0
  have HLN := Aside0.mk (show ls.length ≤ 1048576 from by
    have h1 := lines_length s
    rw [hn, List.length_cons] at h1
    omega)
  obtain ⟨q, hqq⟩ : ∃ q, numD p = q := ⟨_, rfl⟩
  rw [hqq] at hkn
  have HN := Aside0.mk hkn
  have e1 : ((linesOf s).headD ⟨#[]⟩).extract 6 ((linesOf s).headD ⟨#[]⟩).size = p := by rw [hn]; exact hp
  obtain ⟨RES, hres⟩ : ∃ RES, opsFrom ls 0 [] = RES := ⟨_, rfl⟩
  have hOO : scriptOf s = (if RES.2 = 0 then (q, RES.1, 0) else (0, [], RES.2)) := by
    have e2 : (linesOf s).tail = ls := by rw [hn]; rfl
    unfold scriptOf
    rw [if_neg hl, if_neg (by rw [hn]; rintro (h | h); cases h; exact h (of_decide_eq_true hq)), e1, e2, if_neg hbad, hres, hqq]
  have HOO := Aside0.mk hOO
  rw [hqq] at hbad
  have HRES := Aside0.mk hres
  have q0 : decide (q < 0) = false := decide_eq_false (fun h => hbad (.inl h))
  have q1 : decide (1048576 < q) = false := decide_eq_false (fun h => hbad (.inr h))
  have HP := Aside0.mk hp
  clear hq hp hkn HL0 hOO hres hqq hbad e1
  have HTK := Aside0.mk (show l0 :: ls = (cutB 10 s).take (ls.length + 1) from by rw [← hn, lines_trim s _ hk hlast])
  have hlb : ls.length + 1 ≤ 1048576 := by have h1 := (cutB_len 10 s).2; omega
  obtain ⟨Q, hQ⟩ : ∃ Q, cutB 10 s = Q := ⟨_, rfl⟩
  rw [hQ] at hk hlast HTK
  obtain ⟨last, hla⟩ : ∃ last, Q.getD (ls.length + 1) ByteArray.empty = last := ⟨_, rfl⟩
  rw [hla] at hlast
  have hE : last.toList.isEmpty = true := empty_list hlast
  have HQ := Aside0.mk hQ
  have HKQ := Aside0.mk hk
  have HLA := Aside0.mk hla
  clear hl hn hQ hk hla hlast hA
  go_enter Tryd.func5, Tryd.ntmps5
  go_wp2_with fail
  refine (Tryd.strings_Split s ⟨#[10]⟩ m _ (by omega) (HA.out.below B0.out).max (by decide)).mono ?_
  rintro e w1 ⟨rfl, hw⟩
  have ho := split_row (w.alloc (.cells #[.int .i64 0, .slice none 0 0] 24)) w.heap.size s 10 B0.out.size hs
  have hb := below_alloc (Below.refl (w.alloc (.cells #[.int .i64 0, .slice none 0 0] 24)).heap.size (w.alloc (.cells #[.int .i64 0, .slice none 0 0] 24))) (.cells ((Lib.splitB ⟨#[10]⟩ 0 (Lib.countB s ⟨#[10]⟩) s).map Value.string).toArray 9)
  rw [← hw] at ho hb
  rw [count_cut]
  rw [HQ.out, HKQ.out, World.size_alloc] at ho ⊢
  clear hw hs
  have W1 := Aside0.mk ((hb.block _ (blk_lt W0.out)).trans W0.out)
  have B1 := Aside0.mk (below_step B0.out hb)
  have hx : w1.cell? ⟨w.heap.size + 1, ls.length + 1, none⟩ = some (.string last) := by
    have h := (Kd.R_celln ByteArray.empty ho ((ls.length + 1 : Nat) : Int) (by omega) (by omega)).1
    rw [Int.toNat_natCast] at h
    rw [h]
    unfold rdOf
    rw [Int.toNat_natCast, HLA.out]
  have RP := Kd.R_take ho (m := ls.length + 1) (by rw [HKQ.out]; omega)
  rw [← HTK.out] at RP
  replace RP := Aside0.mk (show Kd.R Kd.string 9 w1 w.heap.size (fun _ => True) (.slice (some ⟨w.heap.size + 1, 0, none⟩) (ls.length + 1) (ls.length + 1 + 1)) (l0 :: ls) from RP)
  clear ho hb HTK
  generalize w.heap.size + 1 = g at *
  have hc0 : w1.cell? ⟨g, 0, none⟩ = some (.string l0) := (Kd.R_celln ByteArray.empty RP.out 0 (Int.le_refl _) (Int.ofNat_lt.2 (Nat.succ_pos _))).1
  have e0 : ((((ls.length : Nat) : Int) + 1) == 0) = false := beq_eq_false_iff_ne.2 (by omega)
  have e1 : (((ls.length + 1 : Nat) : Int) == 0) = false := beq_eq_false_iff_ne.2 (by omega)
  go_wp2_with fail
  refine (strings_HasPrefix.calls l0 quotaB true _ HB.out).mono ?_
  rintro e w2 ⟨rfl, hd⟩
  obtain ⟨nd, rfl⟩ := hd.out
  have W2 := Aside0.mk (show (w1.drewN nd).heap[w.heap.size]? = some (.cells #[.int .i64 0, .slice none 0 0] 24) from W1.out)
  have B2 := Aside0.mk (pw_below_drewN B1.out nd)
  have RP2 := Aside0.mk (Kd.R_drewN RP.out nd)
  replace hc0 : (w1.drewN nd).cell? ⟨g, 0, none⟩ = some (.string l0) := hc0
  clear hd W1 B1 W0 B0 RP hx
  generalize w1.drewN nd = w2 at *
  go_wp2_with fail
  rw [HP.out]
  refine (impl_decimal.calls kn p _ _ HN.out).mono ?_
  rintro e w3' ⟨rfl, hd⟩
  obtain ⟨nd, rfl⟩ := hd.out
  have W3 := Aside0.mk (show (w2.drewN nd).heap[w.heap.size]? = some (.cells #[.int .i64 0, .slice none 0 0] 24) from W2.out)
  have B3 := Aside0.mk (pw_below_drewN B2.out nd)
  have RP3 := Aside0.mk (Kd.R_drewN RP2.out nd)
  clear hd W2 B2 RP2 hc0
  generalize w2.drewN nd = w3 at *
  have D0 := Aside0.mk (show PS w (w3.alloc (.cells #[.int .i64 q, .slice none 0 0] 24)) w3.heap.size w.heap.size q (.slice none 0 0) [] (.slice (some ⟨g, 0, none⟩) (ls.length + 1) (ls.length + 1 + 1)) (l0 :: ls) from
    ⟨below_alloc B3.out _, B3.out.size, Nat.le_refl _, Nat.ne_of_gt (blk_lt W3.out), heap_alloc_new _ _, blk_alloc W3.out _, Kd.S_nil _ _ _ _ _, Kd.R_alloc RP3.out _⟩)
  clear W3 B3 RP3
  obtain ⟨A8, hdr, hrd⟩ := parts_tail g (ls.length + 1 + 1) l0 ls (by omega)
  have HRD := Aside0.mk hrd
  clear hrd
  have z0 := D0.out.cells.z0
  go_wp2_with fail
  clear z0
  generalize w3.heap.size = e at *
  go_loopw [57] (fun v57 wr => ∃ (j : Nat) (ops : List S38) (ov : Value), v57 = .int .i64 ((j : Nat) : Int) ∧ j ≤ ls.length ∧ j ≤ 2000 ∧ Aside0 (ops.length = j) ∧ Aside0 (opsFrom (ls.drop j) j ops = RES) ∧ Aside0 (PS w wr e w.heap.size q ov ops (.slice (some ⟨g, 0, none⟩) (ls.length + 1) (ls.length + 1 + 1)) (l0 :: ls))) (fun v57 _ => ls.length - (intOf v57).toNat)
  case atStart => exact ⟨0, [], _, rfl, Nat.zero_le _, Nat.zero_le _, ⟨rfl⟩, ⟨HRES.out⟩, D0⟩
  case round =>
    clear D0
    obtain ⟨j, ops, ov, rfl, hj, hj0, HJ, HF, DD⟩ := hrel
    obtain ⟨A5, c5, h5⟩ := Kd.S_slice DD.out.ro
    subst h5
    by_cases hlt : j < ls.length
    · obtain ⟨ad, had, hcell⟩ := parts_at (HRD.out _ (parts_read DD.out.rp)) j hlt
      subst had
      have hf := HF.out
      rw [drop_at _ j hlt] at hf
      unfold opsFrom at hf
      by_cases hj2 : j = 2000
      · rw [if_pos hj2] at hf
        have HO := Aside0.mk (show scriptOf s = (0, [], 2003) from by rw [HOO.out, ← hf]; rfl)
        have c0 : (((j : Nat) : Int) == 2000) = true := beq_iff_eq.2 (by omega)
        clear hf hj2 HF
        obtain ⟨z0, z1, y0, y1, m0, m1, n1, n2⟩ := DD.out.cells
        go_wp2
        refine bodyPost_ret (results_ct rfl _ _ w.heap.size 24 #[.int .i64 0, .slice none 0 0] (0, 0) _ rfl (put2 DD.out.rb _ _) Tryd.underlying24 rfl (by kernel_rfl)) rfl ?_
        rw [HO.out]
        exact bad_done DD.out.bel DD.out.gr 2003

      · rw [if_neg hj2] at hf
        have c0 : (((j : Nat) : Int) == 2000) = false := beq_eq_false_iff_ne.2 (by omega)
        obtain ⟨p2, hp2⟩ : ∃ p2, ls[j] = p2 := ⟨_, rfl⟩
        rw [hp2] at hf hcell
        have HPS := Aside0.mk (HLS.out p2 (by rw [← hp2]; exact List.getElem_mem hlt))
        have HJ2 := Aside0.mk (show j ≤ 1999 from by omega)
        have HLT := Aside0.mk hlt
        have HWR := Aside0.mk (show wrap64 (((j : Nat) : Int) + 1) = ((j + 1 : Nat) : Int) from wrap_succ (by omega))
        have HOP := Aside0.mk (line_call p2 wr bm m (HA.out.below DD.out.bel) HPS.out)
        clear hp2 hj2 HF HPS
        cases ho : opOf p2 with
        | none =>
          rw [ho] at hf
          have HO := Aside0.mk (show scriptOf s = (0, [], ((j : Int) + 3)) from by
            rw [HOO.out, ← hf]
            exact if_neg (by show ¬ ((j + 3 : Nat) : Int) = 0; omega))
          rw [ho] at HOP
          clear hf ho
          go_wp2_with fail
          refine HOP.out.mono ?_
          intro e' w4 hpost
          obtain ⟨x, v4, v5, rfl, hox, h4, h5, hb⟩ := hpost
          obtain ⟨A4, c4, rfl⟩ := Kd.R_slice h4
          obtain ⟨A6, c6, rfl⟩ := Kd.R_slice h5
          have D1 := Aside0.mk ((DD.out.below hb).below (below_alloc (Below.refl w4.heap.size w4) (.cells #[.int .i64 x.f0, .string x.f1, .string x.f2, .int .i64 x.f3, .slice A4 x.f4.length c4, .slice A6 x.f5.length c6] 38)))
          clear hb h4 h5 hox DD HOP HJ hcell
          obtain ⟨z0, z1, y0, y1, m0, m1, n1, n2⟩ := D1.out.cells
          go_wp2
          refine bodyPost_ret (results_ct rfl _ _ w.heap.size 24 #[.int .i64 0, .slice none 0 0] (0, 0) _ rfl (put2 D1.out.rb _ _) Tryd.underlying24 rfl (by kernel_rfl)) rfl ?_
          rw [HO.out]
          exact bad_done D1.out.bel D1.out.gr ((j : Int) + 3)

        | some y =>
          rw [ho] at hf HOP
          have HF := Aside0.mk hf
          have LL := Aside0.mk (show (ops.length + 1) * 96 ≤ 140737488355328 from by have := HJ2.out; have := HJ.out; omega)
          clear hf ho
          go_wp2_with fail
          refine HOP.out.mono ?_
          intro e' w4 hpost
          obtain ⟨x, v4, v5, rfl, hox, h4, h5, hb⟩ := hpost
          obtain rfl := hox y rfl
          obtain ⟨A4, c4, rfl⟩ := Kd.R_slice h4
          obtain ⟨A6, c6, rfl⟩ := Kd.R_slice h5
          have hbb := hb.trans ((below_alloc (Below.refl w4.heap.size w4) (.cells #[.int .i64 x.f0, .string x.f1, .string x.f2, .int .i64 x.f3, .slice A4 x.f4.length c4, .slice A6 x.f5.length c6] 38)).mono hb.size)
          have HNEW := Aside0.mk (op_new (below_size DD.out.bel) DD.out.ro hbb (Kd.R_alloc h4 _) (Kd.R_alloc h5 _))
          have D1 := Aside0.mk ((DD.out.below hb).below (below_alloc (Below.refl w4.heap.size w4) (.cells #[.int .i64 x.f0, .string x.f1, .string x.f2, .int .i64 x.f3, .slice A4 x.f4.length c4, .slice A6 x.f5.length c6] 38)))
          clear hb h4 h5 hox DD HOP hbb hcell
          have z1 := D1.out.cells.z1
          go_wp2_with ((with_reducible refine gate_builtin (b := .append) rfl ?_); refine Kd.S_append k38 (w0 := w) w.heap.size rfl (.tmp 76) (.tmp 78) 22 38 (.agg #[.int .i64 0, .string ⟨#[]⟩, .string ⟨#[]⟩, .int .i64 0, .slice none 0 0, .slice none 0 0]) 96 rfl Tryd.underlying22 info38 rfl (by decide) (by omega) (.slice A5 ops.length c5) ops x [.int .i64 x.f0, .string x.f1, .string x.f2, .int .i64 x.f3, .slice A4 x.f4.length c4, .slice A6 x.f5.length c6] (fun _ => True) (fun k => wr.heap.size ≤ k) rfl (by first | rfl | (go_simp; done) | (go_simp; rfl)) HNEW.out.1 HNEW.out.2.1 (fun k hk => trivial) HNEW.out.2.2 D1.out.bel (below_size D1.out.bel) LL.out ?_; intro v1 w7 ho hb hgr hat; have q0' := D1.out.grown_cell hgr; have D5 := Aside0.mk (D1.out.grew ho hb hgr); obtain ⟨AX, cX, hv1⟩ := Kd.S_slice ho; rw [List.length_append, List.length_singleton] at hv1; subst hv1; clear ho hb hgr hat D1 z1; obtain ⟨⟨q9, hq⟩, qf⟩ := q0')
          go_roundw
          case rel => exact ⟨j + 1, ops ++ [x], _, congrArg (Value.int .i64) (by omega), HLT.out, by have := HJ2.out; omega, ⟨by rw [List.length_append, List.length_singleton, HJ.out]⟩, HF, D5⟩
          case measure => exact meas_lt _ _ HLT.out
    · have hje : j = ls.length := Nat.le_antisymm hj (Nat.not_lt.1 hlt)
      have hf := HF.out
      rw [hje, List.drop_length] at hf
      have HO := Aside0.mk (show scriptOf s = (q, ops, 0) from by rw [HOO.out, ← hf]; rfl)
      clear hf hje HF HJ
      obtain ⟨z0, z1, y0, y1, m0, m1, n1, n2⟩ := DD.out.cells
      go_wp2
      refine bodyPost_ret (results_ct rfl _ _ w.heap.size 24 #[.int .i64 q, .slice A5 ops.length c5] (0, 0) _ rfl (put2 DD.out.rb _ _) Tryd.underlying24 rfl (by kernel_rfl)) rfl ?_
      rw [HO.out]
      exact DD.out.done

set_option maxHeartbeats 8000000 in
set_option maxRecDepth 100000 in
theorem impl_good_w (s : ByteArray) (w : World) (bm : Nat) (m : Int) (hA : LinesAt w bm m) (hs : s.size ≤ 1048576) (hl : ¬ 60000 < s.size) (l0 : ByteArray) (ls : List ByteArray) (hq : isQuota l0 = true) (p : ByteArray) (hp : l0.extract 6 l0.size = p) (hbad : ¬ (numD p < 0 ∨ 1048576 < numD p)) (hk : (cutB 10 s).length = ls.length + 1) (hlast : ¬ ((cutB 10 s).getD (ls.length) ByteArray.empty).size = 0) (hn : linesOf s = l0 :: ls) : Calls Tryd.prog 5 #[.string s] w (ScriptPost (scriptOf s) w) := by
  have hu24 := Tryd.underlying24
  have W0 := Aside0.mk (heap_alloc_new w (.cells #[.int .i64 0, .slice none 0 0] 24))
  have B0 := Aside0.mk (below_alloc (Below.refl w.heap.size w) (.cells #[.int .i64 0, .slice none 0 0] 24))
  have t0 : decide ((60000 : Int) < (s.size : Int)) = false := decide_eq_false (by omega)
  have t1 : decide (60000 < s.size) = false := decide_eq_false hl
  have HS := Aside0.mk hs
  have HA := Aside0.mk hA
  have HB := Aside0.mk (show strings_HasPrefix.f l0 quotaB = some true from by rw [prefix_eq, hq])
  obtain ⟨kn, hkn⟩ := Ev.rounds (num_eq p).2.1
  have s6 := quota_size l0 hq
  have HL0 : ∀ x ∈ ls, x.size ≤ 1048576 := fun x hx => by
    have h1 := sizes_mem (linesOf s) x (by rw [hn]; exact List.mem_cons_of_mem _ hx)
    have h2 := lines_sizes s
    omega
  have HLS := Aside0.mk HL0
  have HLN := Aside0.mk (show ls.length ≤ 1048576 from by
    have h1 := lines_length s
    rw [hn, List.length_cons] at h1
    omega)
  obtain ⟨q, hqq⟩ : ∃ q, numD p = q := ⟨_, rfl⟩
  rw [hqq] at hkn
  have HN := Aside0.mk hkn
  have e1 : ((linesOf s).headD ⟨#[]⟩).extract 6 ((linesOf s).headD ⟨#[]⟩).size = p := by rw [hn]; exact hp
  obtain ⟨RES, hres⟩ : ∃ RES, opsFrom ls 0 [] = RES := ⟨_, rfl⟩
  have hOO : scriptOf s = (if RES.2 = 0 then (q, RES.1, 0) else (0, [], RES.2)) := by
    have e2 : (linesOf s).tail = ls := by rw [hn]; rfl
    unfold scriptOf
    rw [if_neg hl, if_neg (by rw [hn]; rintro (h | h); cases h; exact h (of_decide_eq_true hq)), e1, e2, if_neg hbad, hres, hqq]
  have HOO := Aside0.mk hOO
  rw [hqq] at hbad
  have HRES := Aside0.mk hres
  have q0 : decide (q < 0) = false := decide_eq_false (fun h => hbad (.inl h))
  have q1 : decide (1048576 < q) = false := decide_eq_false (fun h => hbad (.inr h))
  have HP := Aside0.mk hp
  clear hq hp hkn HL0 hOO hres hqq hbad e1
  have HTK := Aside0.mk (show l0 :: ls = cutB 10 s from by rw [← hn, lines_whole s _ hk hlast])
  have hlb : ls.length ≤ 1048576 := by have h1 := (cutB_len 10 s).2; omega
  obtain ⟨Q, hQ⟩ : ∃ Q, cutB 10 s = Q := ⟨_, rfl⟩
  rw [hQ] at hk hlast HTK
  obtain ⟨last, hla⟩ : ∃ last, Q.getD (ls.length) ByteArray.empty = last := ⟨_, rfl⟩
  rw [hla] at hlast
  have hE : last.toList.isEmpty = false := nonempty_list hlast
  have HQ := Aside0.mk hQ
  have HKQ := Aside0.mk hk
  have HLA := Aside0.mk hla
  clear hl hn hQ hk hla hlast hA
  go_enter Tryd.func5, Tryd.ntmps5
  go_wp2_with fail
  refine (Tryd.strings_Split s ⟨#[10]⟩ m _ (by omega) (HA.out.below B0.out).max (by decide)).mono ?_
  rintro e w1 ⟨rfl, hw⟩
  have ho := split_row (w.alloc (.cells #[.int .i64 0, .slice none 0 0] 24)) w.heap.size s 10 B0.out.size hs
  have hb := below_alloc (Below.refl (w.alloc (.cells #[.int .i64 0, .slice none 0 0] 24)).heap.size (w.alloc (.cells #[.int .i64 0, .slice none 0 0] 24))) (.cells ((Lib.splitB ⟨#[10]⟩ 0 (Lib.countB s ⟨#[10]⟩) s).map Value.string).toArray 9)
  rw [← hw] at ho hb
  rw [count_cut]
  rw [HQ.out, HKQ.out, World.size_alloc] at ho ⊢
  clear hw hs
  have W1 := Aside0.mk ((hb.block _ (blk_lt W0.out)).trans W0.out)
  have B1 := Aside0.mk (below_step B0.out hb)
  have hx : w1.cell? ⟨w.heap.size + 1, ls.length, none⟩ = some (.string last) := by
    have h := (Kd.R_celln ByteArray.empty ho ((ls.length : Nat) : Int) (by omega) (by omega)).1
    rw [Int.toNat_natCast] at h
    rw [h]
    unfold rdOf
    rw [Int.toNat_natCast, HLA.out]
  have RP := ho
  rw [← HTK.out] at RP
  replace RP := Aside0.mk (show Kd.R Kd.string 9 w1 w.heap.size (fun _ => True) (.slice (some ⟨w.heap.size + 1, 0, none⟩) (ls.length + 1) (ls.length + 1)) (l0 :: ls) from RP)
  clear ho hb HTK
  generalize w.heap.size + 1 = g at *
  have hc0 : w1.cell? ⟨g, 0, none⟩ = some (.string l0) := (Kd.R_celln ByteArray.empty RP.out 0 (Int.le_refl _) (Int.ofNat_lt.2 (Nat.succ_pos _))).1
  have e0 : ((((ls.length : Nat) : Int) + 1) == 0) = false := beq_eq_false_iff_ne.2 (by omega)
  have e1 : (((ls.length + 1 : Nat) : Int) == 0) = false := beq_eq_false_iff_ne.2 (by omega)
  go_wp2_with fail
  refine (strings_HasPrefix.calls l0 quotaB true _ HB.out).mono ?_
  rintro e w2 ⟨rfl, hd⟩
  obtain ⟨nd, rfl⟩ := hd.out
  have W2 := Aside0.mk (show (w1.drewN nd).heap[w.heap.size]? = some (.cells #[.int .i64 0, .slice none 0 0] 24) from W1.out)
  have B2 := Aside0.mk (pw_below_drewN B1.out nd)
  have RP2 := Aside0.mk (Kd.R_drewN RP.out nd)
  replace hc0 : (w1.drewN nd).cell? ⟨g, 0, none⟩ = some (.string l0) := hc0
  clear hd W1 B1 W0 B0 RP hx
  generalize w1.drewN nd = w2 at *
  go_wp2_with fail
  rw [HP.out]
  refine (impl_decimal.calls kn p _ _ HN.out).mono ?_
  rintro e w3' ⟨rfl, hd⟩
  obtain ⟨nd, rfl⟩ := hd.out
  have W3 := Aside0.mk (show (w2.drewN nd).heap[w.heap.size]? = some (.cells #[.int .i64 0, .slice none 0 0] 24) from W2.out)
  have B3 := Aside0.mk (pw_below_drewN B2.out nd)
  have RP3 := Aside0.mk (Kd.R_drewN RP2.out nd)
  clear hd W2 B2 RP2 hc0
  generalize w2.drewN nd = w3 at *
  have D0 := Aside0.mk (show PS w (w3.alloc (.cells #[.int .i64 q, .slice none 0 0] 24)) w3.heap.size w.heap.size q (.slice none 0 0) [] (.slice (some ⟨g, 0, none⟩) (ls.length + 1) (ls.length + 1)) (l0 :: ls) from
    ⟨below_alloc B3.out _, B3.out.size, Nat.le_refl _, Nat.ne_of_gt (blk_lt W3.out), heap_alloc_new _ _, blk_alloc W3.out _, Kd.S_nil _ _ _ _ _, Kd.R_alloc RP3.out _⟩)
  clear W3 B3 RP3
  obtain ⟨A8, hdr, hrd⟩ := parts_tail g (ls.length + 1) l0 ls (by omega)
  have HRD := Aside0.mk hrd
  clear hrd
  have z0 := D0.out.cells.z0
  go_wp2_with fail
  clear z0
  generalize w3.heap.size = e at *
  go_loopw [57] (fun v57 wr => ∃ (j : Nat) (ops : List S38) (ov : Value), v57 = .int .i64 ((j : Nat) : Int) ∧ j ≤ ls.length ∧ j ≤ 2000 ∧ Aside0 (ops.length = j) ∧ Aside0 (opsFrom (ls.drop j) j ops = RES) ∧ Aside0 (PS w wr e w.heap.size q ov ops (.slice (some ⟨g, 0, none⟩) (ls.length + 1) (ls.length + 1)) (l0 :: ls))) (fun v57 _ => ls.length - (intOf v57).toNat)
  case atStart => exact ⟨0, [], _, rfl, Nat.zero_le _, Nat.zero_le _, ⟨rfl⟩, ⟨HRES.out⟩, D0⟩
  case round =>
    clear D0
    obtain ⟨j, ops, ov, rfl, hj, hj0, HJ, HF, DD⟩ := hrel
    obtain ⟨A5, c5, h5⟩ := Kd.S_slice DD.out.ro
    subst h5
    by_cases hlt : j < ls.length
    · obtain ⟨ad, had, hcell⟩ := parts_at (HRD.out _ (parts_read DD.out.rp)) j hlt
      subst had
      have hf := HF.out
      rw [drop_at _ j hlt] at hf
      unfold opsFrom at hf
      by_cases hj2 : j = 2000
      · rw [if_pos hj2] at hf
        have HO := Aside0.mk (show scriptOf s = (0, [], 2003) from by rw [HOO.out, ← hf]; rfl)
        have c0 : (((j : Nat) : Int) == 2000) = true := beq_iff_eq.2 (by omega)
        clear hf hj2 HF
        obtain ⟨z0, z1, y0, y1, m0, m1, n1, n2⟩ := DD.out.cells
        go_wp2
        refine bodyPost_ret (results_ct rfl _ _ w.heap.size 24 #[.int .i64 0, .slice none 0 0] (0, 0) _ rfl (put2 DD.out.rb _ _) Tryd.underlying24 rfl (by kernel_rfl)) rfl ?_
        rw [HO.out]
        exact bad_done DD.out.bel DD.out.gr 2003

      · rw [if_neg hj2] at hf
        have c0 : (((j : Nat) : Int) == 2000) = false := beq_eq_false_iff_ne.2 (by omega)
        obtain ⟨p2, hp2⟩ : ∃ p2, ls[j] = p2 := ⟨_, rfl⟩
        rw [hp2] at hf hcell
        have HPS := Aside0.mk (HLS.out p2 (by rw [← hp2]; exact List.getElem_mem hlt))
        have HJ2 := Aside0.mk (show j ≤ 1999 from by omega)
        have HLT := Aside0.mk hlt
        have HWR := Aside0.mk (show wrap64 (((j : Nat) : Int) + 1) = ((j + 1 : Nat) : Int) from wrap_succ (by omega))
        have HOP := Aside0.mk (line_call p2 wr bm m (HA.out.below DD.out.bel) HPS.out)
        clear hp2 hj2 HF HPS
        cases ho : opOf p2 with
        | none =>
          rw [ho] at hf
          have HO := Aside0.mk (show scriptOf s = (0, [], ((j : Int) + 3)) from by
            rw [HOO.out, ← hf]
            exact if_neg (by show ¬ ((j + 3 : Nat) : Int) = 0; omega))
          rw [ho] at HOP
          clear hf ho
          go_wp2_with fail
          refine HOP.out.mono ?_
          intro e' w4 hpost
          obtain ⟨x, v4, v5, rfl, hox, h4, h5, hb⟩ := hpost
          obtain ⟨A4, c4, rfl⟩ := Kd.R_slice h4
          obtain ⟨A6, c6, rfl⟩ := Kd.R_slice h5
          have D1 := Aside0.mk ((DD.out.below hb).below (below_alloc (Below.refl w4.heap.size w4) (.cells #[.int .i64 x.f0, .string x.f1, .string x.f2, .int .i64 x.f3, .slice A4 x.f4.length c4, .slice A6 x.f5.length c6] 38)))
          clear hb h4 h5 hox DD HOP HJ hcell
          obtain ⟨z0, z1, y0, y1, m0, m1, n1, n2⟩ := D1.out.cells
          go_wp2
          refine bodyPost_ret (results_ct rfl _ _ w.heap.size 24 #[.int .i64 0, .slice none 0 0] (0, 0) _ rfl (put2 D1.out.rb _ _) Tryd.underlying24 rfl (by kernel_rfl)) rfl ?_
          rw [HO.out]
          exact bad_done D1.out.bel D1.out.gr ((j : Int) + 3)

        | some y =>
          rw [ho] at hf HOP
          have HF := Aside0.mk hf
          have LL := Aside0.mk (show (ops.length + 1) * 96 ≤ 140737488355328 from by have := HJ2.out; have := HJ.out; omega)
          clear hf ho
          go_wp2_with fail
          refine HOP.out.mono ?_
          intro e' w4 hpost
          obtain ⟨x, v4, v5, rfl, hox, h4, h5, hb⟩ := hpost
          obtain rfl := hox y rfl
          obtain ⟨A4, c4, rfl⟩ := Kd.R_slice h4
          obtain ⟨A6, c6, rfl⟩ := Kd.R_slice h5
          have hbb := hb.trans ((below_alloc (Below.refl w4.heap.size w4) (.cells #[.int .i64 x.f0, .string x.f1, .string x.f2, .int .i64 x.f3, .slice A4 x.f4.length c4, .slice A6 x.f5.length c6] 38)).mono hb.size)
          have HNEW := Aside0.mk (op_new (below_size DD.out.bel) DD.out.ro hbb (Kd.R_alloc h4 _) (Kd.R_alloc h5 _))
          have D1 := Aside0.mk ((DD.out.below hb).below (below_alloc (Below.refl w4.heap.size w4) (.cells #[.int .i64 x.f0, .string x.f1, .string x.f2, .int .i64 x.f3, .slice A4 x.f4.length c4, .slice A6 x.f5.length c6] 38)))
          clear hb h4 h5 hox DD HOP hbb hcell
          have z1 := D1.out.cells.z1
          go_wp2_with ((with_reducible refine gate_builtin (b := .append) rfl ?_); refine Kd.S_append k38 (w0 := w) w.heap.size rfl (.tmp 76) (.tmp 78) 22 38 (.agg #[.int .i64 0, .string ⟨#[]⟩, .string ⟨#[]⟩, .int .i64 0, .slice none 0 0, .slice none 0 0]) 96 rfl Tryd.underlying22 info38 rfl (by decide) (by omega) (.slice A5 ops.length c5) ops x [.int .i64 x.f0, .string x.f1, .string x.f2, .int .i64 x.f3, .slice A4 x.f4.length c4, .slice A6 x.f5.length c6] (fun _ => True) (fun k => wr.heap.size ≤ k) rfl (by first | rfl | (go_simp; done) | (go_simp; rfl)) HNEW.out.1 HNEW.out.2.1 (fun k hk => trivial) HNEW.out.2.2 D1.out.bel (below_size D1.out.bel) LL.out ?_; intro v1 w7 ho hb hgr hat; have q0' := D1.out.grown_cell hgr; have D5 := Aside0.mk (D1.out.grew ho hb hgr); obtain ⟨AX, cX, hv1⟩ := Kd.S_slice ho; rw [List.length_append, List.length_singleton] at hv1; subst hv1; clear ho hb hgr hat D1 z1; obtain ⟨⟨q9, hq⟩, qf⟩ := q0')
          go_roundw
          case rel => exact ⟨j + 1, ops ++ [x], _, congrArg (Value.int .i64) (by omega), HLT.out, by have := HJ2.out; omega, ⟨by rw [List.length_append, List.length_singleton, HJ.out]⟩, HF, D5⟩
          case measure => exact meas_lt _ _ HLT.out
    · have hje : j = ls.length := Nat.le_antisymm hj (Nat.not_lt.1 hlt)
      have hf := HF.out
      rw [hje, List.drop_length] at hf
      have HO := Aside0.mk (show scriptOf s = (q, ops, 0) from by rw [HOO.out, ← hf]; rfl)
      clear hf hje HF HJ
      obtain ⟨z0, z1, y0, y1, m0, m1, n1, n2⟩ := DD.out.cells
      go_wp2
      refine bodyPost_ret (results_ct rfl _ _ w.heap.size 24 #[.int .i64 q, .slice A5 ops.length c5] (0, 0) _ rfl (put2 DD.out.rb _ _) Tryd.underlying24 rfl (by kernel_rfl)) rfl ?_
      rw [HO.out]
      exact DD.out.done

/-- The program's ParseScript reads a script. -/
theorem implScript_call (s : ByteArray) (w : World) (bm : Nat) (m : Int) (hA : LinesAt w bm m) (hs : s.size ≤ 1048576) : Calls Tryd.prog 5 #[.string s] w (ScriptPost (scriptOf s) w) := by
  by_cases hl : 60000 < s.size
  · exact impl_long s w hs hl
  obtain ⟨k, hk⟩ : ∃ k, (cutB 10 s).length = k + 1 := ⟨(cutB 10 s).length - 1, by have := (cutB_len 10 s).1; omega⟩
  by_cases hlast : ((cutB 10 s).getD k ByteArray.empty).size = 0
  · have ht := lines_trim s k hk hlast
    have hlen : (linesOf s).length = k := by rw [ht, List.length_take, hk]; omega
    cases hn : linesOf s with
    | nil =>
      rw [hn] at hlen
      obtain rfl : k = 0 := hlen.symm
      exact impl_none s w bm m hA hs hl hk hlast hn
    | cons l0 ls =>
      rw [hn] at hlen
      obtain rfl : k = ls.length + 1 := hlen.symm
      cases hq : isQuota l0 with
      | false => exact impl_noq_t s w bm m hA hs hl l0 ls hq hk hlast hn
      | true =>
        by_cases hb : numD (l0.extract 6 l0.size) < 0 ∨ 1048576 < numD (l0.extract 6 l0.size)
        · exact impl_badq_t s w bm m hA hs hl l0 ls hq _ rfl hb hk hlast hn
        · exact impl_good_t s w bm m hA hs hl l0 ls hq _ rfl hb hk hlast hn
  · have ht := lines_whole s k hk hlast
    cases hn : linesOf s with
    | nil => rw [← ht, hn] at hk; exact absurd hk (by simp)
    | cons l0 ls =>
      have hlen : k = ls.length := by rw [← ht, hn, List.length_cons] at hk; omega
      subst hlen
      cases hq : isQuota l0 with
      | false => exact impl_noq_w s w bm m hA hs hl l0 ls hq hk hlast hn
      | true =>
        by_cases hb : numD (l0.extract 6 l0.size) < 0 ∨ 1048576 < numD (l0.extract 6 l0.size)
        · exact impl_badq_w s w bm m hA hs hl l0 ls hq _ rfl hb hk hlast hn
        · exact impl_good_w s w bm m hA hs hl l0 ls hq _ rfl hb hk hlast hn
end Go.Proofs.YtkbhcejibcjglaaDoor.M
end
section
/- laws.markScript, walked. Condition: at most 2 to the 20 marks. -/
namespace Go.Proofs.YtkbhcejibcjglaaDoor.M
open Go.RowKit Go.Proofs.YtkbhcejibcjglaaDoor.P Go.Proofs.YtkbhcejibcjglaaDoorW.PrintWords Go.Proofs.YtkbhcejibcjglaaDoorW.PrintLast Go.Proofs.YtkbhcejibcjglaaDoorW.PrintMore
set_option linter.unusedVariables false
set_option linter.unusedSimpArgs false
set_option maxHeartbeats 4000000 in
set_option maxRecDepth 100000 in
theorem markScript_call (q : Int) (l : List S38) (A : Option Addr) (c : Nat) (w0 w : World) (P : Nat → Prop) (hB : Below w0.heap.size w0 w) (ho : Kd.S k38 38 w w0.heap.size P (.slice A l.length c) l) (hn : allMarks l ≤ 1048576) :
    Calls Tryd.prog 7 #[.agg #[.int .i64 q, .slice A l.length c], .int .i64 1] w fun e w' => e = .returned (.int .i64 ((1 + allMarks l : Nat) : Int)) ∧ Kd.S k38 38 w' w0.heap.size (fun q => P q ∨ w.heap.size ≤ q) (.slice A l.length c) (markOps 1 l) ∧ Below w0.heap.size w0 w' ∧ Kept w w' P := by
  have HO := Aside0.mk ho
  have HB := Aside0.mk hB
  have HN := Aside0.mk hn
  obtain ⟨r, hr⟩ : ∃ r : Int, ((1 + allMarks l : Nat) : Int) = r := ⟨_, rfl⟩
  rw [hr]
  have HRR := Aside0.mk hr
  clear ho hB hn hr
  go_enter Tryd.func7, Tryd.ntmps7
  go_wp2_with fail
  refine (markOps_call l _ w0 _ P (below_alloc HB.out _) (Kd.S_alloc HO.out _) HN.out).mono ?_
  rw [HRR.out]
  rintro e w1 ⟨rfl, h1, h2, h3⟩
  have H1 := Aside0.mk (show Kd.S k38 38 w1 w0.heap.size (fun q => P q ∨ w.heap.size ≤ q) (.slice A l.length c) (markOps 1 l) from Kd.S_mono h1 (fun k hk => hk.imp id (fun h => by
    have h4 : w.heap.size ≤ (w.alloc (.cells #[.int .i64 q, .slice A l.length c] 24)).heap.size := (below_alloc (Below.refl _ _) _).size
    exact Nat.le_trans h4 h)))
  have H2 := Aside0.mk h2
  have H3 := Aside0.mk (show Kept w w1 P from (Kept.alloc (Kept.refl w P) _).then_ h3 (fun k h => .inl h))
  clear h1 h2 h3
  go_wp2
  go_ret
  exact ⟨rfl, H1.out, H2.out, H3.out⟩
end Go.Proofs.YtkbhcejibcjglaaDoor.M
end
section
-- Written by a changed copy of the print program, one module a function. Not trusted: Lean checks it.
namespace Go.Proofs.YtkbhcejibcjglaaDoor.P
open Go.RowKit Go.Proofs.YtkbhcejibcjglaaDoorW.PrintWords Go.Proofs.YtkbhcejibcjglaaDoorW.PrintLast Go.Proofs.YtkbhcejibcjglaaDoorW.PrintMore
attribute [local go_sem] max2_int min2_int max_two min_two max_three min_three max_four min_four   -- for this text's walks alone
set_option linter.unusedVariables false
set_option linter.unusedSimpArgs false

/-! ### laws_eqEntry: function 46 -/
def laws_eqEntry.f (a0_0 : ByteArray) (a0_1 : Int) (a0_2 : Int) (a0_3 : ByteArray) (a1_0 : ByteArray) (a1_1 : Int) (a1_2 : Int) (a1_3 : ByteArray) : Option (Bool) := if a0_0.toList = a1_0.toList then (if a0_1 = a1_1 then (if a0_2 = a1_2 then (if a0_3.toList = a1_3.toList then (some true) else (some false)) else (some false)) else (some false)) else (some false)
set_option maxHeartbeats 8000000 in
set_option maxRecDepth 100000 in
theorem laws_eqEntry.calls (a0_0 : ByteArray) (a0_1 : Int) (a0_2 : Int) (a0_3 : ByteArray) (a1_0 : ByteArray) (a1_1 : Int) (a1_2 : Int) (a1_3 : ByteArray) (r : Bool) (w : World) (h : laws_eqEntry.f a0_0 a0_1 a0_2 a0_3 a1_0 a1_1 a1_2 a1_3 = some r) :
  Calls Tryd.prog 46 #[.agg #[.string a0_0, .int .i64 a0_1, .int .i64 a0_2, .string a0_3], .agg #[.string a1_0, .int .i64 a1_1, .int .i64 a1_2, .string a1_3]] w fun e w' => e = .returned (.bool r) ∧ Below w.heap.size w w' := by
 have hu50 := Tryd.underlying50
 have HB := Aside0.mk (Below.refl w.heap.size w)
 have H : (if a0_0.toList = a1_0.toList then (if a0_1 = a1_1 then (if a0_2 = a1_2 then (if a0_3.toList = a1_3.toList then (some true) else (some false)) else (some false)) else (some false)) else (some false)) = some r := h
 clear h
 by_cases c3 : a0_0.toList = a1_0.toList
 ·rw [if_pos c3] at H
  have c3b0 : (a0_0.toList == a1_0.toList) = true := beq_iff_eq.mpr c3
  have c3b1 : (a0_0.toList != a1_0.toList) = false := bne_eq_false_iff_eq.mpr c3
  clear c3
  by_cases c4 : a0_1 = a1_1
  ·rw [if_pos c4] at H
   have c4b0 : (a0_1 == a1_1) = true := beq_iff_eq.mpr c4
   have c4b1 : (a0_1 != a1_1) = false := bne_eq_false_iff_eq.mpr c4
   clear c4
   by_cases c5 : a0_2 = a1_2
   ·rw [if_pos c5] at H
    have c5b0 : (a0_2 == a1_2) = true := beq_iff_eq.mpr c5
    have c5b1 : (a0_2 != a1_2) = false := bne_eq_false_iff_eq.mpr c5
    clear c5
    by_cases c6 : a0_3.toList = a1_3.toList
    ·rw [if_pos c6] at H
     have c6b0 : (a0_3.toList == a1_3.toList) = true := beq_iff_eq.mpr c6
     have c6b1 : (a0_3.toList != a1_3.toList) = false := bne_eq_false_iff_eq.mpr c6
     clear c6
     obtain rfl := Option.some.inj H
     go_enter Tryd.func46, Tryd.ntmps46
     go_wp2_with (first | ((with_reducible refine gate_dst (N := 2) rfl ?_); refine box_event ?hg (N := 2) ?hd (cs := #[.string a0_0, .int .i64 a0_1, .int .i64 a0_2, .string a0_3]) (t := 50) ?hr ?_; (case hd => rfl); (case hg => rfl); (case hr => first | (go_simp; done) | (go_simp; rfl)); intro gb160 hg w7 hbox hb; have n0_ := Aside0.mk (below_step (by repeat (first | (with_reducible first | exact HB.out | apply below_alloc | apply pw_below_drewN | apply below_drew1) | exact HB.out)) hb); have n1_ := Aside0.mk (hbox); have n2_ := Aside0.mk ((by rw [hg]; exact (below_size (by repeat (first | (with_reducible first | exact HB.out | apply below_alloc | apply pw_below_drewN | apply below_drew1) | exact HB.out))) : w.heap.size ≤ gb160)); have n3_ := Aside0.mk ((by rw [hg]; exact (below_size (by repeat (first | (with_reducible first | exact HB.out | apply below_alloc | apply pw_below_drewN | apply below_drew1) | exact HB.out))) : w.heap.size ≤ gb160)); clear HB; have HB := n0_; have BK160 := n1_; have GW160 := n2_; have GE160 := n3_; clear n0_ n1_ n2_ n3_; clear hb hbox hg) | ((with_reducible refine gate_dst (N := 3) rfl ?_); refine box_event ?hg (N := 3) ?hd (cs := #[.string a1_0, .int .i64 a1_1, .int .i64 a1_2, .string a1_3]) (t := 50) ?hr ?_; (case hd => rfl); (case hg => rfl); (case hr => first | (go_simp; done) | (go_simp; rfl)); intro gb161 hg w8 hbox hb; have n0_ := Aside0.mk (blk_below (g := gb160) (o := .cells #[.string a0_0, .int .i64 a0_1, .int .i64 a0_2, .string a0_3] 50 (0, 0)) (by (with_reducible repeat (first | refine blk_drewN ?_ _ | refine blk_drew ?_ | refine blk_alloc ?_ _)); exact BK160.out) hb); have n1_ := Aside0.mk (below_step (by repeat (first | (with_reducible first | exact HB.out | apply below_alloc | apply pw_below_drewN | apply below_drew1 | refine below_set ?_ GE160.out) | exact HB.out)) hb); have n2_ := Aside0.mk (hbox); have n3_ := Aside0.mk ((by rw [hg]; exact (below_size (by repeat (first | (with_reducible first | exact HB.out | apply below_alloc | apply pw_below_drewN | apply below_drew1 | refine below_set ?_ GE160.out) | exact HB.out))) : w.heap.size ≤ gb161)); have n4_ := Aside0.mk ((by rw [hg]; exact (below_size (by repeat (first | (with_reducible first | exact HB.out | apply below_alloc | apply pw_below_drewN | apply below_drew1 | refine below_set ?_ GE160.out) | exact HB.out))) : w.heap.size ≤ gb161)); have n5_ := Aside0.mk ((by rw [hg]; exact Nat.ne_of_lt (blk_lt (g := gb160) (o := .cells #[.string a0_0, .int .i64 a0_1, .int .i64 a0_2, .string a0_3] 50 (0, 0)) (by (with_reducible repeat (first | refine blk_drewN ?_ _ | refine blk_drew ?_ | refine blk_alloc ?_ _)); exact BK160.out)) : gb160 ≠ gb161)); have n6_ := Aside0.mk ((by rw [hg]; exact Nat.ne_of_gt (blk_lt (g := gb160) (o := .cells #[.string a0_0, .int .i64 a0_1, .int .i64 a0_2, .string a0_3] 50 (0, 0)) (by (with_reducible repeat (first | refine blk_drewN ?_ _ | refine blk_drew ?_ | refine blk_alloc ?_ _)); exact BK160.out)) : gb161 ≠ gb160)); clear BK160; clear HB; have BK160 := n0_; have HB := n1_; have BK161 := n2_; have GW161 := n3_; have GE161 := n4_; have NB160_161 := n5_; have NB161_160 := n6_; clear n0_ n1_ n2_ n3_ n4_ n5_ n6_; clear hb hbox hg; have hnb9 := NB160_161.out; have hnc9 := NB161_160.out; have hcz10_0 : w8.cell? ⟨gb160, 0, none⟩ = some (.string a0_0) := (blk_cell BK160.out 0).trans rfl; have hcz10_1 : w8.cell? ⟨gb160, 1, none⟩ = some (.int .i64 a0_1) := (blk_cell BK160.out 1).trans rfl; have hcz10_2 : w8.cell? ⟨gb160, 2, none⟩ = some (.int .i64 a0_2) := (blk_cell BK160.out 2).trans rfl; have hcz10_3 : w8.cell? ⟨gb160, 3, none⟩ = some (.string a0_3) := (blk_cell BK160.out 3).trans rfl; have hfz10_0 := blk_frozen BK160.out 0; have hfz10_1 := blk_frozen BK160.out 1; have hfz10_2 := blk_frozen BK160.out 2; have hfz10_3 := blk_frozen BK160.out 3; have hcz11_0 : w8.cell? ⟨gb161, 0, none⟩ = some (.string a1_0) := (blk_cell BK161.out 0).trans rfl; have hcz11_1 : w8.cell? ⟨gb161, 1, none⟩ = some (.int .i64 a1_1) := (blk_cell BK161.out 1).trans rfl; have hcz11_2 : w8.cell? ⟨gb161, 2, none⟩ = some (.int .i64 a1_2) := (blk_cell BK161.out 2).trans rfl; have hcz11_3 : w8.cell? ⟨gb161, 3, none⟩ = some (.string a1_3) := (blk_cell BK161.out 3).trans rfl; have hfz11_0 := blk_frozen BK161.out 0; have hfz11_1 := blk_frozen BK161.out 1; have hfz11_2 := blk_frozen BK161.out 2; have hfz11_3 := blk_frozen BK161.out 3))
     go_ret
     exact ⟨by first | rfl | (simp [errW_none, errW_some] <;> rfl) | (simp [*, errW_none, errW_some] <;> rfl), by repeat (first | (with_reducible first | exact HB.out | apply below_alloc | apply pw_below_drewN | apply below_drew1 | refine below_set ?_ GE160.out | refine below_set ?_ GE161.out) | exact HB.out)⟩
    ·rw [if_neg c6] at H
     have c6b0 : (a0_3.toList == a1_3.toList) = false := beq_eq_false_iff_ne.mpr c6
     have c6b1 : (a0_3.toList != a1_3.toList) = true := bne_iff_ne.mpr c6
     obtain rfl := Option.some.inj H
     go_enter Tryd.func46, Tryd.ntmps46
     go_wp2_with (first | ((with_reducible refine gate_dst (N := 2) rfl ?_); refine box_event ?hg (N := 2) ?hd (cs := #[.string a0_0, .int .i64 a0_1, .int .i64 a0_2, .string a0_3]) (t := 50) ?hr ?_; (case hd => rfl); (case hg => rfl); (case hr => first | (go_simp; done) | (go_simp; rfl)); intro gb160 hg w12 hbox hb; have n0_ := Aside0.mk (below_step (by repeat (first | (with_reducible first | exact HB.out | apply below_alloc | apply pw_below_drewN | apply below_drew1) | exact HB.out)) hb); have n1_ := Aside0.mk (hbox); have n2_ := Aside0.mk ((by rw [hg]; exact (below_size (by repeat (first | (with_reducible first | exact HB.out | apply below_alloc | apply pw_below_drewN | apply below_drew1) | exact HB.out))) : w.heap.size ≤ gb160)); have n3_ := Aside0.mk ((by rw [hg]; exact (below_size (by repeat (first | (with_reducible first | exact HB.out | apply below_alloc | apply pw_below_drewN | apply below_drew1) | exact HB.out))) : w.heap.size ≤ gb160)); clear HB; have HB := n0_; have BK160 := n1_; have GW160 := n2_; have GE160 := n3_; clear n0_ n1_ n2_ n3_; clear hb hbox hg) | ((with_reducible refine gate_dst (N := 3) rfl ?_); refine box_event ?hg (N := 3) ?hd (cs := #[.string a1_0, .int .i64 a1_1, .int .i64 a1_2, .string a1_3]) (t := 50) ?hr ?_; (case hd => rfl); (case hg => rfl); (case hr => first | (go_simp; done) | (go_simp; rfl)); intro gb161 hg w13 hbox hb; have n0_ := Aside0.mk (blk_below (g := gb160) (o := .cells #[.string a0_0, .int .i64 a0_1, .int .i64 a0_2, .string a0_3] 50 (0, 0)) (by (with_reducible repeat (first | refine blk_drewN ?_ _ | refine blk_drew ?_ | refine blk_alloc ?_ _)); exact BK160.out) hb); have n1_ := Aside0.mk (below_step (by repeat (first | (with_reducible first | exact HB.out | apply below_alloc | apply pw_below_drewN | apply below_drew1 | refine below_set ?_ GE160.out) | exact HB.out)) hb); have n2_ := Aside0.mk (hbox); have n3_ := Aside0.mk ((by rw [hg]; exact (below_size (by repeat (first | (with_reducible first | exact HB.out | apply below_alloc | apply pw_below_drewN | apply below_drew1 | refine below_set ?_ GE160.out) | exact HB.out))) : w.heap.size ≤ gb161)); have n4_ := Aside0.mk ((by rw [hg]; exact (below_size (by repeat (first | (with_reducible first | exact HB.out | apply below_alloc | apply pw_below_drewN | apply below_drew1 | refine below_set ?_ GE160.out) | exact HB.out))) : w.heap.size ≤ gb161)); have n5_ := Aside0.mk ((by rw [hg]; exact Nat.ne_of_lt (blk_lt (g := gb160) (o := .cells #[.string a0_0, .int .i64 a0_1, .int .i64 a0_2, .string a0_3] 50 (0, 0)) (by (with_reducible repeat (first | refine blk_drewN ?_ _ | refine blk_drew ?_ | refine blk_alloc ?_ _)); exact BK160.out)) : gb160 ≠ gb161)); have n6_ := Aside0.mk ((by rw [hg]; exact Nat.ne_of_gt (blk_lt (g := gb160) (o := .cells #[.string a0_0, .int .i64 a0_1, .int .i64 a0_2, .string a0_3] 50 (0, 0)) (by (with_reducible repeat (first | refine blk_drewN ?_ _ | refine blk_drew ?_ | refine blk_alloc ?_ _)); exact BK160.out)) : gb161 ≠ gb160)); clear BK160; clear HB; have BK160 := n0_; have HB := n1_; have BK161 := n2_; have GW161 := n3_; have GE161 := n4_; have NB160_161 := n5_; have NB161_160 := n6_; clear n0_ n1_ n2_ n3_ n4_ n5_ n6_; clear hb hbox hg; have hnb14 := NB160_161.out; have hnc14 := NB161_160.out; have hcz15_0 : w13.cell? ⟨gb160, 0, none⟩ = some (.string a0_0) := (blk_cell BK160.out 0).trans rfl; have hcz15_1 : w13.cell? ⟨gb160, 1, none⟩ = some (.int .i64 a0_1) := (blk_cell BK160.out 1).trans rfl; have hcz15_2 : w13.cell? ⟨gb160, 2, none⟩ = some (.int .i64 a0_2) := (blk_cell BK160.out 2).trans rfl; have hcz15_3 : w13.cell? ⟨gb160, 3, none⟩ = some (.string a0_3) := (blk_cell BK160.out 3).trans rfl; have hfz15_0 := blk_frozen BK160.out 0; have hfz15_1 := blk_frozen BK160.out 1; have hfz15_2 := blk_frozen BK160.out 2; have hfz15_3 := blk_frozen BK160.out 3; have hcz16_0 : w13.cell? ⟨gb161, 0, none⟩ = some (.string a1_0) := (blk_cell BK161.out 0).trans rfl; have hcz16_1 : w13.cell? ⟨gb161, 1, none⟩ = some (.int .i64 a1_1) := (blk_cell BK161.out 1).trans rfl; have hcz16_2 : w13.cell? ⟨gb161, 2, none⟩ = some (.int .i64 a1_2) := (blk_cell BK161.out 2).trans rfl; have hcz16_3 : w13.cell? ⟨gb161, 3, none⟩ = some (.string a1_3) := (blk_cell BK161.out 3).trans rfl; have hfz16_0 := blk_frozen BK161.out 0; have hfz16_1 := blk_frozen BK161.out 1; have hfz16_2 := blk_frozen BK161.out 2; have hfz16_3 := blk_frozen BK161.out 3))
     go_ret
     exact ⟨by first | rfl | (simp [errW_none, errW_some] <;> rfl) | (simp [*, errW_none, errW_some] <;> rfl), by repeat (first | (with_reducible first | exact HB.out | apply below_alloc | apply pw_below_drewN | apply below_drew1 | refine below_set ?_ GE160.out | refine below_set ?_ GE161.out) | exact HB.out)⟩
   ·rw [if_neg c5] at H
    have c5b0 : (a0_2 == a1_2) = false := beq_eq_false_iff_ne.mpr c5
    have c5b1 : (a0_2 != a1_2) = true := bne_iff_ne.mpr c5
    obtain rfl := Option.some.inj H
    go_enter Tryd.func46, Tryd.ntmps46
    go_wp2_with (first | ((with_reducible refine gate_dst (N := 2) rfl ?_); refine box_event ?hg (N := 2) ?hd (cs := #[.string a0_0, .int .i64 a0_1, .int .i64 a0_2, .string a0_3]) (t := 50) ?hr ?_; (case hd => rfl); (case hg => rfl); (case hr => first | (go_simp; done) | (go_simp; rfl)); intro gb160 hg w17 hbox hb; have n0_ := Aside0.mk (below_step (by repeat (first | (with_reducible first | exact HB.out | apply below_alloc | apply pw_below_drewN | apply below_drew1) | exact HB.out)) hb); have n1_ := Aside0.mk (hbox); have n2_ := Aside0.mk ((by rw [hg]; exact (below_size (by repeat (first | (with_reducible first | exact HB.out | apply below_alloc | apply pw_below_drewN | apply below_drew1) | exact HB.out))) : w.heap.size ≤ gb160)); have n3_ := Aside0.mk ((by rw [hg]; exact (below_size (by repeat (first | (with_reducible first | exact HB.out | apply below_alloc | apply pw_below_drewN | apply below_drew1) | exact HB.out))) : w.heap.size ≤ gb160)); clear HB; have HB := n0_; have BK160 := n1_; have GW160 := n2_; have GE160 := n3_; clear n0_ n1_ n2_ n3_; clear hb hbox hg) | ((with_reducible refine gate_dst (N := 3) rfl ?_); refine box_event ?hg (N := 3) ?hd (cs := #[.string a1_0, .int .i64 a1_1, .int .i64 a1_2, .string a1_3]) (t := 50) ?hr ?_; (case hd => rfl); (case hg => rfl); (case hr => first | (go_simp; done) | (go_simp; rfl)); intro gb161 hg w18 hbox hb; have n0_ := Aside0.mk (blk_below (g := gb160) (o := .cells #[.string a0_0, .int .i64 a0_1, .int .i64 a0_2, .string a0_3] 50 (0, 0)) (by (with_reducible repeat (first | refine blk_drewN ?_ _ | refine blk_drew ?_ | refine blk_alloc ?_ _)); exact BK160.out) hb); have n1_ := Aside0.mk (below_step (by repeat (first | (with_reducible first | exact HB.out | apply below_alloc | apply pw_below_drewN | apply below_drew1 | refine below_set ?_ GE160.out) | exact HB.out)) hb); have n2_ := Aside0.mk (hbox); have n3_ := Aside0.mk ((by rw [hg]; exact (below_size (by repeat (first | (with_reducible first | exact HB.out | apply below_alloc | apply pw_below_drewN | apply below_drew1 | refine below_set ?_ GE160.out) | exact HB.out))) : w.heap.size ≤ gb161)); have n4_ := Aside0.mk ((by rw [hg]; exact (below_size (by repeat (first | (with_reducible first | exact HB.out | apply below_alloc | apply pw_below_drewN | apply below_drew1 | refine below_set ?_ GE160.out) | exact HB.out))) : w.heap.size ≤ gb161)); have n5_ := Aside0.mk ((by rw [hg]; exact Nat.ne_of_lt (blk_lt (g := gb160) (o := .cells #[.string a0_0, .int .i64 a0_1, .int .i64 a0_2, .string a0_3] 50 (0, 0)) (by (with_reducible repeat (first | refine blk_drewN ?_ _ | refine blk_drew ?_ | refine blk_alloc ?_ _)); exact BK160.out)) : gb160 ≠ gb161)); have n6_ := Aside0.mk ((by rw [hg]; exact Nat.ne_of_gt (blk_lt (g := gb160) (o := .cells #[.string a0_0, .int .i64 a0_1, .int .i64 a0_2, .string a0_3] 50 (0, 0)) (by (with_reducible repeat (first | refine blk_drewN ?_ _ | refine blk_drew ?_ | refine blk_alloc ?_ _)); exact BK160.out)) : gb161 ≠ gb160)); clear BK160; clear HB; have BK160 := n0_; have HB := n1_; have BK161 := n2_; have GW161 := n3_; have GE161 := n4_; have NB160_161 := n5_; have NB161_160 := n6_; clear n0_ n1_ n2_ n3_ n4_ n5_ n6_; clear hb hbox hg; have hnb19 := NB160_161.out; have hnc19 := NB161_160.out; have hcz20_0 : w18.cell? ⟨gb160, 0, none⟩ = some (.string a0_0) := (blk_cell BK160.out 0).trans rfl; have hcz20_1 : w18.cell? ⟨gb160, 1, none⟩ = some (.int .i64 a0_1) := (blk_cell BK160.out 1).trans rfl; have hcz20_2 : w18.cell? ⟨gb160, 2, none⟩ = some (.int .i64 a0_2) := (blk_cell BK160.out 2).trans rfl; have hcz20_3 : w18.cell? ⟨gb160, 3, none⟩ = some (.string a0_3) := (blk_cell BK160.out 3).trans rfl; have hfz20_0 := blk_frozen BK160.out 0; have hfz20_1 := blk_frozen BK160.out 1; have hfz20_2 := blk_frozen BK160.out 2; have hfz20_3 := blk_frozen BK160.out 3; have hcz21_0 : w18.cell? ⟨gb161, 0, none⟩ = some (.string a1_0) := (blk_cell BK161.out 0).trans rfl; have hcz21_1 : w18.cell? ⟨gb161, 1, none⟩ = some (.int .i64 a1_1) := (blk_cell BK161.out 1).trans rfl; have hcz21_2 : w18.cell? ⟨gb161, 2, none⟩ = some (.int .i64 a1_2) := (blk_cell BK161.out 2).trans rfl; have hcz21_3 : w18.cell? ⟨gb161, 3, none⟩ = some (.string a1_3) := (blk_cell BK161.out 3).trans rfl; have hfz21_0 := blk_frozen BK161.out 0; have hfz21_1 := blk_frozen BK161.out 1; have hfz21_2 := blk_frozen BK161.out 2; have hfz21_3 := blk_frozen BK161.out 3))
    go_ret
    exact ⟨by first | rfl | (simp [errW_none, errW_some] <;> rfl) | (simp [*, errW_none, errW_some] <;> rfl), by repeat (first | (with_reducible first | exact HB.out | apply below_alloc | apply pw_below_drewN | apply below_drew1 | refine below_set ?_ GE160.out | refine below_set ?_ GE161.out) | exact HB.out)⟩
  ·rw [if_neg c4] at H
   have c4b0 : (a0_1 == a1_1) = false := beq_eq_false_iff_ne.mpr c4
   have c4b1 : (a0_1 != a1_1) = true := bne_iff_ne.mpr c4
   obtain rfl := Option.some.inj H
   go_enter Tryd.func46, Tryd.ntmps46
   go_wp2_with (first | ((with_reducible refine gate_dst (N := 2) rfl ?_); refine box_event ?hg (N := 2) ?hd (cs := #[.string a0_0, .int .i64 a0_1, .int .i64 a0_2, .string a0_3]) (t := 50) ?hr ?_; (case hd => rfl); (case hg => rfl); (case hr => first | (go_simp; done) | (go_simp; rfl)); intro gb160 hg w22 hbox hb; have n0_ := Aside0.mk (below_step (by repeat (first | (with_reducible first | exact HB.out | apply below_alloc | apply pw_below_drewN | apply below_drew1) | exact HB.out)) hb); have n1_ := Aside0.mk (hbox); have n2_ := Aside0.mk ((by rw [hg]; exact (below_size (by repeat (first | (with_reducible first | exact HB.out | apply below_alloc | apply pw_below_drewN | apply below_drew1) | exact HB.out))) : w.heap.size ≤ gb160)); have n3_ := Aside0.mk ((by rw [hg]; exact (below_size (by repeat (first | (with_reducible first | exact HB.out | apply below_alloc | apply pw_below_drewN | apply below_drew1) | exact HB.out))) : w.heap.size ≤ gb160)); clear HB; have HB := n0_; have BK160 := n1_; have GW160 := n2_; have GE160 := n3_; clear n0_ n1_ n2_ n3_; clear hb hbox hg) | ((with_reducible refine gate_dst (N := 3) rfl ?_); refine box_event ?hg (N := 3) ?hd (cs := #[.string a1_0, .int .i64 a1_1, .int .i64 a1_2, .string a1_3]) (t := 50) ?hr ?_; (case hd => rfl); (case hg => rfl); (case hr => first | (go_simp; done) | (go_simp; rfl)); intro gb161 hg w23 hbox hb; have n0_ := Aside0.mk (blk_below (g := gb160) (o := .cells #[.string a0_0, .int .i64 a0_1, .int .i64 a0_2, .string a0_3] 50 (0, 0)) (by (with_reducible repeat (first | refine blk_drewN ?_ _ | refine blk_drew ?_ | refine blk_alloc ?_ _)); exact BK160.out) hb); have n1_ := Aside0.mk (below_step (by repeat (first | (with_reducible first | exact HB.out | apply below_alloc | apply pw_below_drewN | apply below_drew1 | refine below_set ?_ GE160.out) | exact HB.out)) hb); have n2_ := Aside0.mk (hbox); have n3_ := Aside0.mk ((by rw [hg]; exact (below_size (by repeat (first | (with_reducible first | exact HB.out | apply below_alloc | apply pw_below_drewN | apply below_drew1 | refine below_set ?_ GE160.out) | exact HB.out))) : w.heap.size ≤ gb161)); have n4_ := Aside0.mk ((by rw [hg]; exact (below_size (by repeat (first | (with_reducible first | exact HB.out | apply below_alloc | apply pw_below_drewN | apply below_drew1 | refine below_set ?_ GE160.out) | exact HB.out))) : w.heap.size ≤ gb161)); have n5_ := Aside0.mk ((by rw [hg]; exact Nat.ne_of_lt (blk_lt (g := gb160) (o := .cells #[.string a0_0, .int .i64 a0_1, .int .i64 a0_2, .string a0_3] 50 (0, 0)) (by (with_reducible repeat (first | refine blk_drewN ?_ _ | refine blk_drew ?_ | refine blk_alloc ?_ _)); exact BK160.out)) : gb160 ≠ gb161)); have n6_ := Aside0.mk ((by rw [hg]; exact Nat.ne_of_gt (blk_lt (g := gb160) (o := .cells #[.string a0_0, .int .i64 a0_1, .int .i64 a0_2, .string a0_3] 50 (0, 0)) (by (with_reducible repeat (first | refine blk_drewN ?_ _ | refine blk_drew ?_ | refine blk_alloc ?_ _)); exact BK160.out)) : gb161 ≠ gb160)); clear BK160; clear HB; have BK160 := n0_; have HB := n1_; have BK161 := n2_; have GW161 := n3_; have GE161 := n4_; have NB160_161 := n5_; have NB161_160 := n6_; clear n0_ n1_ n2_ n3_ n4_ n5_ n6_; clear hb hbox hg; have hnb24 := NB160_161.out; have hnc24 := NB161_160.out; have hcz25_0 : w23.cell? ⟨gb160, 0, none⟩ = some (.string a0_0) := (blk_cell BK160.out 0).trans rfl; have hcz25_1 : w23.cell? ⟨gb160, 1, none⟩ = some (.int .i64 a0_1) := (blk_cell BK160.out 1).trans rfl; have hcz25_2 : w23.cell? ⟨gb160, 2, none⟩ = some (.int .i64 a0_2) := (blk_cell BK160.out 2).trans rfl; have hcz25_3 : w23.cell? ⟨gb160, 3, none⟩ = some (.string a0_3) := (blk_cell BK160.out 3).trans rfl; have hfz25_0 := blk_frozen BK160.out 0; have hfz25_1 := blk_frozen BK160.out 1; have hfz25_2 := blk_frozen BK160.out 2; have hfz25_3 := blk_frozen BK160.out 3; have hcz26_0 : w23.cell? ⟨gb161, 0, none⟩ = some (.string a1_0) := (blk_cell BK161.out 0).trans rfl; have hcz26_1 : w23.cell? ⟨gb161, 1, none⟩ = some (.int .i64 a1_1) := (blk_cell BK161.out 1).trans rfl; have hcz26_2 : w23.cell? ⟨gb161, 2, none⟩ = some (.int .i64 a1_2) := (blk_cell BK161.out 2).trans rfl; have hcz26_3 : w23.cell? ⟨gb161, 3, none⟩ = some (.string a1_3) := (blk_cell BK161.out 3).trans rfl; have hfz26_0 := blk_frozen BK161.out 0; have hfz26_1 := blk_frozen BK161.out 1; have hfz26_2 := blk_frozen BK161.out 2; have hfz26_3 := blk_frozen BK161.out 3))
   go_ret
   exact ⟨by first | rfl | (simp [errW_none, errW_some] <;> rfl) | (simp [*, errW_none, errW_some] <;> rfl), by repeat (first | (with_reducible first | exact HB.out | apply below_alloc | apply pw_below_drewN | apply below_drew1 | refine below_set ?_ GE160.out | refine below_set ?_ GE161.out) | exact HB.out)⟩
 ·rw [if_neg c3] at H
  have c3b0 : (a0_0.toList == a1_0.toList) = false := beq_eq_false_iff_ne.mpr c3
  have c3b1 : (a0_0.toList != a1_0.toList) = true := bne_iff_ne.mpr c3
  obtain rfl := Option.some.inj H
  go_enter Tryd.func46, Tryd.ntmps46
  go_wp2_with (first | ((with_reducible refine gate_dst (N := 2) rfl ?_); refine box_event ?hg (N := 2) ?hd (cs := #[.string a0_0, .int .i64 a0_1, .int .i64 a0_2, .string a0_3]) (t := 50) ?hr ?_; (case hd => rfl); (case hg => rfl); (case hr => first | (go_simp; done) | (go_simp; rfl)); intro gb160 hg w27 hbox hb; have n0_ := Aside0.mk (below_step (by repeat (first | (with_reducible first | exact HB.out | apply below_alloc | apply pw_below_drewN | apply below_drew1) | exact HB.out)) hb); have n1_ := Aside0.mk (hbox); have n2_ := Aside0.mk ((by rw [hg]; exact (below_size (by repeat (first | (with_reducible first | exact HB.out | apply below_alloc | apply pw_below_drewN | apply below_drew1) | exact HB.out))) : w.heap.size ≤ gb160)); have n3_ := Aside0.mk ((by rw [hg]; exact (below_size (by repeat (first | (with_reducible first | exact HB.out | apply below_alloc | apply pw_below_drewN | apply below_drew1) | exact HB.out))) : w.heap.size ≤ gb160)); clear HB; have HB := n0_; have BK160 := n1_; have GW160 := n2_; have GE160 := n3_; clear n0_ n1_ n2_ n3_; clear hb hbox hg) | ((with_reducible refine gate_dst (N := 3) rfl ?_); refine box_event ?hg (N := 3) ?hd (cs := #[.string a1_0, .int .i64 a1_1, .int .i64 a1_2, .string a1_3]) (t := 50) ?hr ?_; (case hd => rfl); (case hg => rfl); (case hr => first | (go_simp; done) | (go_simp; rfl)); intro gb161 hg w28 hbox hb; have n0_ := Aside0.mk (blk_below (g := gb160) (o := .cells #[.string a0_0, .int .i64 a0_1, .int .i64 a0_2, .string a0_3] 50 (0, 0)) (by (with_reducible repeat (first | refine blk_drewN ?_ _ | refine blk_drew ?_ | refine blk_alloc ?_ _)); exact BK160.out) hb); have n1_ := Aside0.mk (below_step (by repeat (first | (with_reducible first | exact HB.out | apply below_alloc | apply pw_below_drewN | apply below_drew1 | refine below_set ?_ GE160.out) | exact HB.out)) hb); have n2_ := Aside0.mk (hbox); have n3_ := Aside0.mk ((by rw [hg]; exact (below_size (by repeat (first | (with_reducible first | exact HB.out | apply below_alloc | apply pw_below_drewN | apply below_drew1 | refine below_set ?_ GE160.out) | exact HB.out))) : w.heap.size ≤ gb161)); have n4_ := Aside0.mk ((by rw [hg]; exact (below_size (by repeat (first | (with_reducible first | exact HB.out | apply below_alloc | apply pw_below_drewN | apply below_drew1 | refine below_set ?_ GE160.out) | exact HB.out))) : w.heap.size ≤ gb161)); have n5_ := Aside0.mk ((by rw [hg]; exact Nat.ne_of_lt (blk_lt (g := gb160) (o := .cells #[.string a0_0, .int .i64 a0_1, .int .i64 a0_2, .string a0_3] 50 (0, 0)) (by (with_reducible repeat (first | refine blk_drewN ?_ _ | refine blk_drew ?_ | refine blk_alloc ?_ _)); exact BK160.out)) : gb160 ≠ gb161)); have n6_ := Aside0.mk ((by rw [hg]; exact Nat.ne_of_gt (blk_lt (g := gb160) (o := .cells #[.string a0_0, .int .i64 a0_1, .int .i64 a0_2, .string a0_3] 50 (0, 0)) (by (with_reducible repeat (first | refine blk_drewN ?_ _ | refine blk_drew ?_ | refine blk_alloc ?_ _)); exact BK160.out)) : gb161 ≠ gb160)); clear BK160; clear HB; have BK160 := n0_; have HB := n1_; have BK161 := n2_; have GW161 := n3_; have GE161 := n4_; have NB160_161 := n5_; have NB161_160 := n6_; clear n0_ n1_ n2_ n3_ n4_ n5_ n6_; clear hb hbox hg; have hnb29 := NB160_161.out; have hnc29 := NB161_160.out; have hcz30_0 : w28.cell? ⟨gb160, 0, none⟩ = some (.string a0_0) := (blk_cell BK160.out 0).trans rfl; have hcz30_1 : w28.cell? ⟨gb160, 1, none⟩ = some (.int .i64 a0_1) := (blk_cell BK160.out 1).trans rfl; have hcz30_2 : w28.cell? ⟨gb160, 2, none⟩ = some (.int .i64 a0_2) := (blk_cell BK160.out 2).trans rfl; have hcz30_3 : w28.cell? ⟨gb160, 3, none⟩ = some (.string a0_3) := (blk_cell BK160.out 3).trans rfl; have hfz30_0 := blk_frozen BK160.out 0; have hfz30_1 := blk_frozen BK160.out 1; have hfz30_2 := blk_frozen BK160.out 2; have hfz30_3 := blk_frozen BK160.out 3; have hcz31_0 : w28.cell? ⟨gb161, 0, none⟩ = some (.string a1_0) := (blk_cell BK161.out 0).trans rfl; have hcz31_1 : w28.cell? ⟨gb161, 1, none⟩ = some (.int .i64 a1_1) := (blk_cell BK161.out 1).trans rfl; have hcz31_2 : w28.cell? ⟨gb161, 2, none⟩ = some (.int .i64 a1_2) := (blk_cell BK161.out 2).trans rfl; have hcz31_3 : w28.cell? ⟨gb161, 3, none⟩ = some (.string a1_3) := (blk_cell BK161.out 3).trans rfl; have hfz31_0 := blk_frozen BK161.out 0; have hfz31_1 := blk_frozen BK161.out 1; have hfz31_2 := blk_frozen BK161.out 2; have hfz31_3 := blk_frozen BK161.out 3))
  go_ret
  exact ⟨by first | rfl | (simp [errW_none, errW_some] <;> rfl) | (simp [*, errW_none, errW_some] <;> rfl), by repeat (first | (with_reducible first | exact HB.out | apply below_alloc | apply pw_below_drewN | apply below_drew1 | refine below_set ?_ GE160.out | refine below_set ?_ GE161.out) | exact HB.out)⟩

end Go.Proofs.YtkbhcejibcjglaaDoor.P
end

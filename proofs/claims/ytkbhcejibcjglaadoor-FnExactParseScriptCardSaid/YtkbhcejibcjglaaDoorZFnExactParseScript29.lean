/- Texts of the claim FnExactParseScript, part 29 of 34, joined: MScriptWalk, MLineOfWalk. No condition beyond those that stand at each. -/
import Derived.Test.YtkbhcejibcjglaaDoorZFnExactParseScript28
section
/- spec.ParseScript, walked. Condition: at most 2 to the 20 bytes. (Printed by wip/tpl/gen_script.py.) -/
namespace Go.Proofs.YtkbhcejibcjglaaDoor.M
open Go.RowKit Go.Proofs.YtkbhcejibcjglaaDoor.P Go.Proofs.YtkbhcejibcjglaaDoorW.PrintWords Go.Proofs.YtkbhcejibcjglaaDoorW.PrintLast Go.Proofs.YtkbhcejibcjglaaDoorW.PrintMore
set_option linter.unusedVariables false
set_option linter.unusedSimpArgs false
set_option maxHeartbeats 8000000 in
set_option maxRecDepth 100000 in
theorem script_long (s : ByteArray) (w : World) (hs : s.size ≤ 1048576) (hl : 60000 < s.size) : Calls Tryd.prog 4 #[.string s] w (ScriptPost (scriptOf s) w) := by
  have hu24 := Tryd.underlying24
  have HO := Aside0.mk (show scriptOf s = (0, [], 1) from by unfold scriptOf; rw [if_pos hl])
  have W0 := Aside0.mk (heap_alloc_new w (.cells #[.int .i64 0, .slice none 0 0] 24))
  have B0 := Aside0.mk (below_alloc (Below.refl w.heap.size w) (.cells #[.int .i64 0, .slice none 0 0] 24))
  have t0 : decide ((60000 : Int) < (s.size : Int)) = true := decide_eq_true (by omega)
  have t1 : decide (60000 < s.size) = true := decide_eq_true hl
  clear hl
  go_enter Tryd.func4, Tryd.ntmps4
  go_wp2
  refine bodyPost_ret (v := .tuple #[.agg #[.int .i64 0, .slice none 0 0], .int .i64 1]) (by simp [results, Tryd.results4, go_sem]) rfl ?_
  rw [HO.out]
  exact ⟨_, rfl, Kd.S_nil _ _ _ _ _, B0.out⟩
set_option maxHeartbeats 8000000 in
set_option maxRecDepth 100000 in
theorem script_none (s : ByteArray) (w : World) (hs : s.size ≤ 1048576) (hl : ¬ 60000 < s.size) (hn : linesOf s = []) : Calls Tryd.prog 4 #[.string s] w (ScriptPost (scriptOf s) w) := by
  have hu24 := Tryd.underlying24
  obtain ⟨kl, hk⟩ := Ev.rounds (lines_eq s hs)
  have HK := Aside0.mk hk
  have W0 := Aside0.mk (heap_alloc_new w (.cells #[.int .i64 0, .slice none 0 0] 24))
  have B0 := Aside0.mk (below_alloc (Below.refl w.heap.size w) (.cells #[.int .i64 0, .slice none 0 0] 24))
  have t0 : decide ((60000 : Int) < (s.size : Int)) = false := decide_eq_false (by omega)
  have t1 : decide (60000 < s.size) = false := decide_eq_false hl
  have HS := Aside0.mk hs
  rw [hn] at HK
  have HO := Aside0.mk (show scriptOf s = (0, [], 2) from by unfold scriptOf; rw [if_neg hl, if_pos (.inl hn)])
  clear hk hl hs hn
  go_enter Tryd.func4, Tryd.ntmps4
  go_wp2_with fail
  refine (spec_l7Lines.calls kl s _ _ HK.out).mono ?_
  rintro e w1 ⟨vp, rfl, ho, hb⟩
  have W1 := Aside0.mk ((hb.block _ (blk_lt W0.out)).trans W0.out)
  have B1 := Aside0.mk (below_step B0.out hb)
  obtain ⟨A4, c4, rfl⟩ := Kd.R_slice ho
  clear ho hb
  have y0 : w1.cell? ⟨w.heap.size, 0, none⟩ = some (.int .i64 0) := (blk_cell W1.out 0).trans rfl
  have y1 : w1.cell? ⟨w.heap.size, 1, none⟩ = some (.slice none 0 0) := (blk_cell W1.out 1).trans rfl
  have m0 := blk_frozen W1.out 0
  have m1 := blk_frozen W1.out 1
  go_wp2
  refine bodyPost_ret (results_ct rfl _ _ w.heap.size 24 #[.int .i64 0, .slice none 0 0] (0, 0) _ rfl (put2 W1.out _ _) Tryd.underlying24 rfl (by kernel_rfl)) rfl ?_
  rw [HO.out]
  exact bad_done B1.out (Nat.le_refl _) 2
set_option maxHeartbeats 8000000 in
set_option maxRecDepth 100000 in
theorem script_noq (s : ByteArray) (w : World) (hs : s.size ≤ 1048576) (hl : ¬ 60000 < s.size) (l0 : ByteArray) (ls : List ByteArray) (hn : linesOf s = l0 :: ls) (hq : isQuota l0 = false) : Calls Tryd.prog 4 #[.string s] w (ScriptPost (scriptOf s) w) := by
  have hu24 := Tryd.underlying24
  obtain ⟨kl, hk⟩ := Ev.rounds (lines_eq s hs)
  have HK := Aside0.mk hk
  have W0 := Aside0.mk (heap_alloc_new w (.cells #[.int .i64 0, .slice none 0 0] 24))
  have B0 := Aside0.mk (below_alloc (Below.refl w.heap.size w) (.cells #[.int .i64 0, .slice none 0 0] 24))
  have t0 : decide ((60000 : Int) < (s.size : Int)) = false := decide_eq_false (by omega)
  have t1 : decide (60000 < s.size) = false := decide_eq_false hl
  have HS := Aside0.mk hs
  rw [hn] at HK
  have HO := Aside0.mk (show scriptOf s = (0, [], 2) from by
    unfold scriptOf
    rw [if_neg hl, if_pos (.inr (by rw [hn]; exact of_decide_eq_false hq))])
  have HB := Aside0.mk (show spec_l4Begins.f l0 quotaB = some false from by rw [begins_eq, hq])
  clear hk hl hs hn hq
  go_enter Tryd.func4, Tryd.ntmps4
  go_wp2_with fail
  refine (spec_l7Lines.calls kl s _ _ HK.out).mono ?_
  rintro e w1 ⟨vp, rfl, ho, hb⟩
  have W1 := Aside0.mk ((hb.block _ (blk_lt W0.out)).trans W0.out)
  have B1 := Aside0.mk (below_step B0.out hb)
  obtain ⟨g, cp, rfl, hg1, hg2, hg3⟩ := Kd.R_form ho (Nat.succ_pos _)
  rw [List.length_cons] at ho
  have hc0 := (Kd.R_celln ByteArray.empty ho 0 (Int.le_refl _) (Int.ofNat_lt.2 (Nat.succ_pos _))).1
  replace hc0 : w1.cell? ⟨g, 0, none⟩ = some (.string l0) := hc0
  have RP := Aside0.mk (show Kd.R Kd.string 9 w1 w.heap.size (fun _ => True) (.slice (some ⟨g, 0, none⟩) (ls.length + 1) cp) (l0 :: ls) from Kd.R_lower ho B0.out.size)
  have e0 : ((((ls.length : Nat) : Int) + 1) == 0) = false := beq_eq_false_iff_ne.2 (by omega)
  have e1 : (((ls.length + 1 : Nat) : Int) == 0) = false := beq_eq_false_iff_ne.2 (by omega)
  clear ho hb hg1 hg2 hg3
  go_wp2_with fail
  refine (spec_l4Begins.calls l0 quotaB false _ HB.out).mono ?_
  rintro e w2 ⟨rfl, hd⟩
  obtain ⟨nd, rfl⟩ := hd.out
  have W2 := Aside0.mk (show (w1.drewN nd).heap[w.heap.size]? = some (.cells #[.int .i64 0, .slice none 0 0] 24) from W1.out)
  have B2 := Aside0.mk (pw_below_drewN B1.out nd)
  clear hd
  have y0 : (w1.drewN nd).cell? ⟨w.heap.size, 0, none⟩ = some (.int .i64 0) := (blk_cell W2.out 0).trans rfl
  have y1 : (w1.drewN nd).cell? ⟨w.heap.size, 1, none⟩ = some (.slice none 0 0) := (blk_cell W2.out 1).trans rfl
  have m0 := blk_frozen W2.out 0
  have m1 := blk_frozen W2.out 1
  go_wp2
  refine bodyPost_ret (results_ct rfl _ _ w.heap.size 24 #[.int .i64 0, .slice none 0 0] (0, 0) _ rfl (put2 W2.out _ _) Tryd.underlying24 rfl (by kernel_rfl)) rfl ?_
  rw [HO.out]
  exact bad_done B2.out (Nat.le_refl _) 2
set_option maxHeartbeats 8000000 in
set_option maxRecDepth 100000 in
theorem script_badq (s : ByteArray) (w : World) (hs : s.size ≤ 1048576) (hl : ¬ 60000 < s.size) (l0 : ByteArray) (ls : List ByteArray) (hn : linesOf s = l0 :: ls) (hq : isQuota l0 = true) (p : ByteArray) (hp : l0.extract 6 l0.size = p) (hbad : numB p = false ∨ numN p < 0 ∨ 1048576 < numN p) : Calls Tryd.prog 4 #[.string s] w (ScriptPost (scriptOf s) w) := by
  have hu24 := Tryd.underlying24
  obtain ⟨kl, hk⟩ := Ev.rounds (lines_eq s hs)
  have HK := Aside0.mk hk
  have W0 := Aside0.mk (heap_alloc_new w (.cells #[.int .i64 0, .slice none 0 0] 24))
  have B0 := Aside0.mk (below_alloc (Below.refl w.heap.size w) (.cells #[.int .i64 0, .slice none 0 0] 24))
  have t0 : decide ((60000 : Int) < (s.size : Int)) = false := decide_eq_false (by omega)
  have t1 : decide (60000 < s.size) = false := decide_eq_false hl
  have HS := Aside0.mk hs
  rw [hn] at HK
  have HB := Aside0.mk (show spec_l4Begins.f l0 quotaB = some true from by rw [begins_eq, hq])
  obtain ⟨kn, hkn⟩ := Ev.rounds (num_eq p).1
  have HN := Aside0.mk hkn
  have s6 := quota_size l0 hq
  have HL0 : ∀ x ∈ ls, x.size ≤ 1048576 := fun x hx => by
    have h1 := sizes_mem (linesOf s) x (by rw [hn]; exact List.mem_cons_of_mem _ hx)
    have h2 := lines_sizes s
    omega
  have HLS := Aside0.mk HL0
  have HLN := Aside0.mk (show ls.length ≤ 1048576 from by
    have h1 := lines_length s
    rw [hn, List.length_cons] at h1
    omega)
  have HO := Aside0.mk (show scriptOf s = (0, [], 2) from by
    unfold scriptOf
    rw [if_neg hl, if_neg (by rw [hn]; rintro (h | h); cases h; exact h (of_decide_eq_true hq)), if_pos (by
      rw [hn]
      show numD (l0.extract 6 l0.size) < 0 ∨ 1048576 < numD (l0.extract 6 l0.size)
      rw [hp]
      rcases (num_eq p).2.2 with ⟨h1, h2, h3, h4⟩ | ⟨h1, h2⟩
      · rw [h1] at hbad
        rw [h2]
        rcases hbad with h | h
        · cases h
        · exact h
      · rw [h2]; left; decide)])
  have HP := Aside0.mk hp
  clear hk hl hs hn hq hp hkn HL0
  go_enter Tryd.func4, Tryd.ntmps4
  go_wp2_with fail
  refine (spec_l7Lines.calls kl s _ _ HK.out).mono ?_
  rintro e w1 ⟨vp, rfl, ho, hb⟩
  have W1 := Aside0.mk ((hb.block _ (blk_lt W0.out)).trans W0.out)
  have B1 := Aside0.mk (below_step B0.out hb)
  obtain ⟨g, cp, rfl, hg1, hg2, hg3⟩ := Kd.R_form ho (Nat.succ_pos _)
  rw [List.length_cons] at ho
  have hc0 := (Kd.R_celln ByteArray.empty ho 0 (Int.le_refl _) (Int.ofNat_lt.2 (Nat.succ_pos _))).1
  replace hc0 : w1.cell? ⟨g, 0, none⟩ = some (.string l0) := hc0
  have RP := Aside0.mk (show Kd.R Kd.string 9 w1 w.heap.size (fun _ => True) (.slice (some ⟨g, 0, none⟩) (ls.length + 1) cp) (l0 :: ls) from Kd.R_lower ho B0.out.size)
  have e0 : ((((ls.length : Nat) : Int) + 1) == 0) = false := beq_eq_false_iff_ne.2 (by omega)
  have e1 : (((ls.length + 1 : Nat) : Int) == 0) = false := beq_eq_false_iff_ne.2 (by omega)
  clear ho hb hg1 hg2 hg3
  go_wp2_with fail
  refine (spec_l4Begins.calls l0 quotaB true _ HB.out).mono ?_
  rintro e w2 ⟨rfl, hd⟩
  obtain ⟨nd, rfl⟩ := hd.out
  have W2 := Aside0.mk (show (w1.drewN nd).heap[w.heap.size]? = some (.cells #[.int .i64 0, .slice none 0 0] 24) from W1.out)
  have B2 := Aside0.mk (pw_below_drewN B1.out nd)
  have RP2 := Aside0.mk (Kd.R_drewN RP.out nd)
  replace hc0 : (w1.drewN nd).cell? ⟨g, 0, none⟩ = some (.string l0) := hc0
  clear hd W1 B1 W0 B0 RP
  generalize w1.drewN nd = w2 at *
  go_wp2_with fail
  rw [HP.out]
  refine (spec_l7Number.calls kn p _ _ _ HN.out).mono ?_
  rintro e w3 ⟨rfl, hb⟩
  have W3 := Aside0.mk ((hb.block _ (blk_lt W2.out)).trans W2.out)
  have B3 := Aside0.mk (below_step B2.out hb)
  have RP3 := Aside0.mk (Kd.R_below RP2.out hb)
  clear hb W2 B2 RP2 hc0
  cases hnb : numB p with
  | false =>
    have y0 : w3.cell? ⟨w.heap.size, 0, none⟩ = some (.int .i64 0) := (blk_cell W3.out 0).trans rfl
    have y1 : w3.cell? ⟨w.heap.size, 1, none⟩ = some (.slice none 0 0) := (blk_cell W3.out 1).trans rfl
    have m0 := blk_frozen W3.out 0
    have m1 := blk_frozen W3.out 1
    go_wp2
    refine bodyPost_ret (results_ct rfl _ _ w.heap.size 24 #[.int .i64 0, .slice none 0 0] (0, 0) _ rfl (put2 W3.out _ _) Tryd.underlying24 rfl (by kernel_rfl)) rfl ?_
    rw [HO.out]
    exact bad_done B3.out (Nat.le_refl _) 2
  | true =>
    rw [hnb] at hbad
    by_cases h0 : numN p < 0
    · have q0 : decide (numN p < 0) = true := decide_eq_true h0
      have y0 : w3.cell? ⟨w.heap.size, 0, none⟩ = some (.int .i64 0) := (blk_cell W3.out 0).trans rfl
      have y1 : w3.cell? ⟨w.heap.size, 1, none⟩ = some (.slice none 0 0) := (blk_cell W3.out 1).trans rfl
      have m0 := blk_frozen W3.out 0
      have m1 := blk_frozen W3.out 1
      go_wp2
      refine bodyPost_ret (results_ct rfl _ _ w.heap.size 24 #[.int .i64 0, .slice none 0 0] (0, 0) _ rfl (put2 W3.out _ _) Tryd.underlying24 rfl (by kernel_rfl)) rfl ?_
      rw [HO.out]
      exact bad_done B3.out (Nat.le_refl _) 2
    · have q0 : decide (numN p < 0) = false := decide_eq_false h0
      have q1 : decide (1048576 < numN p) = true := decide_eq_true (by rcases hbad with h | h | h; cases h; exact absurd h h0; exact h)
      clear hbad h0
      have y0 : w3.cell? ⟨w.heap.size, 0, none⟩ = some (.int .i64 0) := (blk_cell W3.out 0).trans rfl
      have y1 : w3.cell? ⟨w.heap.size, 1, none⟩ = some (.slice none 0 0) := (blk_cell W3.out 1).trans rfl
      have m0 := blk_frozen W3.out 0
      have m1 := blk_frozen W3.out 1
      go_wp2
      refine bodyPost_ret (results_ct rfl _ _ w.heap.size 24 #[.int .i64 0, .slice none 0 0] (0, 0) _ rfl (put2 W3.out _ _) Tryd.underlying24 rfl (by kernel_rfl)) rfl ?_
      rw [HO.out]
      exact bad_done B3.out (Nat.le_refl _) 2
set_option maxHeartbeats 8000000 in
set_option maxRecDepth 100000 in
theorem script_good (s : ByteArray) (w : World) (hs : s.size ≤ 1048576) (hl : ¬ 60000 < s.size) (l0 : ByteArray) (ls : List ByteArray) (hn : linesOf s = l0 :: ls) (hq : isQuota l0 = true) (p : ByteArray) (hp : l0.extract 6 l0.size = p) (hnb : numB p = true) (h0 : 0 ≤ numN p) (h1 : numN p ≤ 1048576) : Calls Tryd.prog 4 #[.string s] w (ScriptPost (scriptOf s) w) := by
  have hu24 := Tryd.underlying24
  obtain ⟨kl, hk⟩ := Ev.rounds (lines_eq s hs)
  have HK := Aside0.mk hk
  have W0 := Aside0.mk (heap_alloc_new w (.cells #[.int .i64 0, .slice none 0 0] 24))
  have B0 := Aside0.mk (below_alloc (Below.refl w.heap.size w) (.cells #[.int .i64 0, .slice none 0 0] 24))
  have t0 : decide ((60000 : Int) < (s.size : Int)) = false := decide_eq_false (by omega)
  have t1 : decide (60000 < s.size) = false := decide_eq_false hl
  have HS := Aside0.mk hs
  rw [hn] at HK
  have HB := Aside0.mk (show spec_l4Begins.f l0 quotaB = some true from by rw [begins_eq, hq])
  obtain ⟨kn, hkn⟩ := Ev.rounds (num_eq p).1
  have HN := Aside0.mk hkn
  have s6 := quota_size l0 hq
  have HL0 : ∀ x ∈ ls, x.size ≤ 1048576 := fun x hx => by
    have h1 := sizes_mem (linesOf s) x (by rw [hn]; exact List.mem_cons_of_mem _ hx)
    have h2 := lines_sizes s
    omega
  have HLS := Aside0.mk HL0
  have HLN := Aside0.mk (show ls.length ≤ 1048576 from by
    have h1 := lines_length s
    rw [hn, List.length_cons] at h1
    omega)
  obtain ⟨q, hqq⟩ : ∃ q, numN p = q := ⟨_, rfl⟩
  obtain ⟨RES, hres⟩ : ∃ RES, opsFrom ls 0 [] = RES := ⟨_, rfl⟩
  have hOO : scriptOf s = (if RES.2 = 0 then (q, RES.1, 0) else (0, [], RES.2)) := by
    have hd : numD p = q := by
      rcases (num_eq p).2.2 with ⟨h1, h2, h3, h4⟩ | ⟨h1, h2⟩
      · rw [h2, hqq]
      · rw [hnb] at h1; cases h1
    have e1 : ((linesOf s).headD ⟨#[]⟩).extract 6 ((linesOf s).headD ⟨#[]⟩).size = p := by rw [hn]; exact hp
    have e2 : (linesOf s).tail = ls := by rw [hn]; rfl
    unfold scriptOf
    rw [if_neg hl, if_neg (by rw [hn]; rintro (h | h); cases h; exact h (of_decide_eq_true hq)), e1, e2, hd, if_neg (by omega), hres]
  have HOO := Aside0.mk hOO
  rw [hnb, hqq] at HN
  rw [hqq] at h0 h1
  have HRES := Aside0.mk hres
  have q0 : decide (q < 0) = false := decide_eq_false (by omega)
  have q1 : decide (1048576 < q) = false := decide_eq_false (by omega)
  have HP := Aside0.mk hp
  clear hk hl hs hn hq hp hkn HL0 hOO hres hqq h0 h1
  go_enter Tryd.func4, Tryd.ntmps4
  go_wp2_with fail
  refine (spec_l7Lines.calls kl s _ _ HK.out).mono ?_
  rintro e w1 ⟨vp, rfl, ho, hb⟩
  have W1 := Aside0.mk ((hb.block _ (blk_lt W0.out)).trans W0.out)
  have B1 := Aside0.mk (below_step B0.out hb)
  obtain ⟨g, cp, rfl, hg1, hg2, hg3⟩ := Kd.R_form ho (Nat.succ_pos _)
  rw [List.length_cons] at ho
  have hc0 := (Kd.R_celln ByteArray.empty ho 0 (Int.le_refl _) (Int.ofNat_lt.2 (Nat.succ_pos _))).1
  replace hc0 : w1.cell? ⟨g, 0, none⟩ = some (.string l0) := hc0
  have RP := Aside0.mk (show Kd.R Kd.string 9 w1 w.heap.size (fun _ => True) (.slice (some ⟨g, 0, none⟩) (ls.length + 1) cp) (l0 :: ls) from Kd.R_lower ho B0.out.size)
  have e0 : ((((ls.length : Nat) : Int) + 1) == 0) = false := beq_eq_false_iff_ne.2 (by omega)
  have e1 : (((ls.length + 1 : Nat) : Int) == 0) = false := beq_eq_false_iff_ne.2 (by omega)
  clear ho hb hg1 hg2 hg3
  go_wp2_with fail
  refine (spec_l4Begins.calls l0 quotaB true _ HB.out).mono ?_
  rintro e w2 ⟨rfl, hd⟩
  obtain ⟨nd, rfl⟩ := hd.out
  have W2 := Aside0.mk (show (w1.drewN nd).heap[w.heap.size]? = some (.cells #[.int .i64 0, .slice none 0 0] 24) from W1.out)
  have B2 := Aside0.mk (pw_below_drewN B1.out nd)
  have RP2 := Aside0.mk (Kd.R_drewN RP.out nd)
  replace hc0 : (w1.drewN nd).cell? ⟨g, 0, none⟩ = some (.string l0) := hc0
  clear hd W1 B1 W0 B0 RP
  generalize w1.drewN nd = w2 at *
  go_wp2_with fail
  rw [HP.out]
  refine (spec_l7Number.calls kn p _ _ _ HN.out).mono ?_
  rintro e w3 ⟨rfl, hb⟩
  have W3 := Aside0.mk ((hb.block _ (blk_lt W2.out)).trans W2.out)
  have B3 := Aside0.mk (below_step B2.out hb)
  have RP3 := Aside0.mk (Kd.R_below RP2.out hb)
  clear hb W2 B2 RP2 hc0
  have D0 := Aside0.mk (show PS w (w3.alloc (.cells #[.int .i64 q, .slice none 0 0] 24)) w3.heap.size w.heap.size q (.slice none 0 0) [] (.slice (some ⟨g, 0, none⟩) (ls.length + 1) cp) (l0 :: ls) from
    ⟨below_alloc B3.out _, B3.out.size, Nat.le_refl _, Nat.ne_of_gt (blk_lt W3.out), heap_alloc_new _ _, blk_alloc W3.out _, Kd.S_nil _ _ _ _ _, Kd.R_alloc RP3.out _⟩)
  clear W3 B3 RP3 hnb
  go_wp2_with fail
  generalize w3.heap.size = e at *
  go_loopw [8] (fun v8 wr => ∃ (j : Nat) (ops : List S38) (ov : Value), v8 = .int .i64 ((j + 1 : Nat) : Int) ∧ j ≤ ls.length ∧ j ≤ 2000 ∧ Aside0 (ops.length = j) ∧ Aside0 (opsFrom (ls.drop j) j ops = RES) ∧ Aside0 (PS w wr e w.heap.size q ov ops (.slice (some ⟨g, 0, none⟩) (ls.length + 1) cp) (l0 :: ls))) (fun v8 _ => ls.length + 1 - (intOf v8).toNat)
  case atStart => exact ⟨0, [], _, rfl, Nat.zero_le _, Nat.zero_le _, ⟨rfl⟩, ⟨HRES.out⟩, D0⟩
  case round =>
    clear D0
    obtain ⟨j, ops, ov, rfl, hj, hj0, HJ, HF, DD⟩ := hrel
    obtain ⟨A5, c5, h5⟩ := Kd.S_slice DD.out.ro
    subst h5
    by_cases hlt : j < ls.length
    · have t2 : decide (((j + 1 : Nat) : Int) < ((ls.length + 1 : Nat) : Int)) = true := decide_eq_true (by omega)
      have t3 : decide (((j : Nat) : Int) + 1 < ((ls.length : Nat) : Int) + 1) = true := decide_eq_true (by omega)
      have t4 : decide (j + 1 < ls.length + 1) = true := decide_eq_true (by omega)
      have hf := HF.out
      rw [drop_at _ j hlt] at hf
      unfold opsFrom at hf
      by_cases hj2 : j = 2000
      · rw [if_pos hj2] at hf
        have HO := Aside0.mk (show scriptOf s = (0, [], 2003) from by rw [HOO.out, ← hf]; rfl)
        have c0 : (((ops.length : Nat) : Int) == 2000) = true := beq_iff_eq.2 (by have := HJ.out; omega)
        clear hf hj2 HF
        obtain ⟨z0, z1, y0, y1, m0, m1, n1, n2⟩ := DD.out.cells
        go_wp2
        refine bodyPost_ret (results_ct rfl _ _ w.heap.size 24 #[.int .i64 0, .slice none 0 0] (0, 0) _ rfl (put2 DD.out.rb _ _) Tryd.underlying24 rfl (by kernel_rfl)) rfl ?_
        rw [HO.out]
        exact bad_done DD.out.bel DD.out.gr 2003

      · rw [if_neg hj2] at hf
        have c0 : (((ops.length : Nat) : Int) == 2000) = false := beq_eq_false_iff_ne.2 (by have := HJ.out; omega)
        obtain ⟨p2, hp2⟩ : ∃ p2, ls[j] = p2 := ⟨_, rfl⟩
        rw [hp2] at hf
        have HPS := Aside0.mk (HLS.out p2 (by rw [← hp2]; exact List.getElem_mem hlt))
        have hx := (Kd.R_celln ByteArray.empty DD.out.rp ((j + 1 : Nat) : Int) (by omega) (by omega)).1
        have hx2 : wr.cell? ⟨g, j + 1, none⟩ = some (.string p2) := by
          rw [Int.toNat_natCast] at hx
          rw [hx]
          unfold rdOf
          rw [Int.toNat_natCast, getD_at _ (j + 1) _ (by rw [List.length_cons]; omega), List.getElem_cons_succ, hp2]
        have HJ2 := Aside0.mk (show j ≤ 1999 from by omega)
        have z1 := DD.out.cells.z1
        have HLT := Aside0.mk hlt
        have HWR := Aside0.mk (show wrap64 (((j + 1 : Nat) : Int) + 1) = ((j + 1 + 1 : Nat) : Int) from wrap_succ (by omega))
        have hop := op_call p2 wr HPS.out
        have HOP := Aside0.mk hop
        clear hx hp2 hj2 HF HPS hop
        cases ho : opOf p2 with
        | none =>
          rw [ho] at hf
          have HO := Aside0.mk (show scriptOf s = (0, [], ((j + 3 : Nat) : Int)) from by
            rw [HOO.out, ← hf]
            exact if_neg (by show ¬ ((j + 3 : Nat) : Int) = 0; omega))
          have hc3 : ((j + 3 : Nat) : Int) = ((j : Int) + 1) + 2 := by omega
          have HC3 := Aside0.mk hc3
          rw [ho] at HOP
          clear hf ho hc3
          go_wp2_with fail
          refine HOP.out.mono ?_
          intro e' w4 hpost
          obtain ⟨x, v4, v5, rfl, hox, h4, h5, hb⟩ := hpost
          obtain ⟨A4, c4, rfl⟩ := Kd.R_slice h4
          obtain ⟨A6, c6, rfl⟩ := Kd.R_slice h5
          have D1 := Aside0.mk ((DD.out.below hb).below (below_alloc (Below.refl w4.heap.size w4) (.cells #[.int .i64 x.f0, .string x.f1, .string x.f2, .int .i64 x.f3, .slice A4 x.f4.length c4, .slice A6 x.f5.length c6] 38)))
          clear hb h4 h5 hox DD HOP z1 HJ
          obtain ⟨z0, z1, y0, y1, m0, m1, n1, n2⟩ := D1.out.cells
          go_wp2
          refine bodyPost_ret (results_ct rfl _ _ w.heap.size 24 #[.int .i64 0, .slice none 0 0] (0, 0) _ rfl (put2 D1.out.rb _ _) Tryd.underlying24 rfl (by kernel_rfl)) rfl ?_
          rw [HO.out]
          exact bad_done D1.out.bel D1.out.gr ((j + 3 : Nat) : Int)

        | some y =>
          rw [ho] at hf HOP
          have HF := Aside0.mk hf
          have LL := Aside0.mk (show (ops.length + 1) * 96 ≤ 140737488355328 from by have := HJ2.out; have := HJ.out; omega)
          clear hf ho
          go_wp2_with fail
          refine HOP.out.mono ?_
          intro e' w4 hpost
          obtain ⟨x, v4, v5, rfl, hox, h4, h5, hb⟩ := hpost
          obtain rfl := hox y rfl
          obtain ⟨A4, c4, rfl⟩ := Kd.R_slice h4
          obtain ⟨A6, c6, rfl⟩ := Kd.R_slice h5
          have hbb := hb.trans ((below_alloc (Below.refl w4.heap.size w4) (.cells #[.int .i64 x.f0, .string x.f1, .string x.f2, .int .i64 x.f3, .slice A4 x.f4.length c4, .slice A6 x.f5.length c6] 38)).mono hb.size)
          have HNEW := Aside0.mk (op_new (below_size DD.out.bel) DD.out.ro hbb (Kd.R_alloc h4 _) (Kd.R_alloc h5 _))
          have hwn : wr.heap.size ≤ w4.heap.size := hb.size
          have HWN := Aside0.mk (show ∀ k, w4.heap.size + 1 ≤ k → True from fun _ _ => trivial)
          have D1 := Aside0.mk ((DD.out.below hb).below (below_alloc (Below.refl w4.heap.size w4) (.cells #[.int .i64 x.f0, .string x.f1, .string x.f2, .int .i64 x.f3, .slice A4 x.f4.length c4, .slice A6 x.f5.length c6] 38)))
          clear hb h4 h5 hox DD HOP z1 hbb hwn
          have z1 := D1.out.cells.z1
          go_wp2_with ((with_reducible refine gate_builtin (b := .append) rfl ?_); refine Kd.S_append k38 (w0 := w) w.heap.size rfl (.tmp 74) (.tmp 76) 22 38 (.agg #[.int .i64 0, .string ⟨#[]⟩, .string ⟨#[]⟩, .int .i64 0, .slice none 0 0, .slice none 0 0]) 96 rfl Tryd.underlying22 info38 rfl (by decide) (by omega) (.slice A5 ops.length c5) ops x [.int .i64 x.f0, .string x.f1, .string x.f2, .int .i64 x.f3, .slice A4 x.f4.length c4, .slice A6 x.f5.length c6] (fun _ => True) (fun k => wr.heap.size ≤ k) rfl (by first | rfl | (go_simp; done) | (go_simp; rfl)) HNEW.out.1 HNEW.out.2.1 (fun k hk => trivial) HNEW.out.2.2 D1.out.bel (below_size D1.out.bel) LL.out ?_; intro v1 w7 ho hb hgr hat; have q0 := D1.out.grown_cell hgr; have D5 := Aside0.mk (D1.out.grew ho hb hgr); obtain ⟨AX, cX, hv1⟩ := Kd.S_slice ho; rw [List.length_append, List.length_singleton] at hv1; subst hv1; clear ho hb hgr hat D1 z1; obtain ⟨⟨q9, hq⟩, qf⟩ := q0)
          go_roundw
          case rel => exact ⟨j + 1, ops ++ [x], _, congrArg (Value.int .i64) (by omega), HLT.out, by have := HJ2.out; omega, ⟨by rw [List.length_append, List.length_singleton, HJ.out]⟩, HF, D5⟩
          case measure =>
            have := HLT.out
            show ls.length + 1 - ((j : Int) + 1 + 1).toNat < ls.length + 1 - ((j + 1 : Nat) : Int).toNat
            omega
    · have hje : j = ls.length := Nat.le_antisymm hj (Nat.not_lt.1 hlt)
      have hf := HF.out
      rw [hje, List.drop_length] at hf
      have HO := Aside0.mk (show scriptOf s = (q, ops, 0) from by rw [HOO.out, ← hf]; rfl)
      have t2 : decide (((j + 1 : Nat) : Int) < ((ls.length + 1 : Nat) : Int)) = false := decide_eq_false (by omega)
      have t3 : decide (((j : Nat) : Int) + 1 < ((ls.length : Nat) : Int) + 1) = false := decide_eq_false (by omega)
      have t4 : decide (j + 1 < ls.length + 1) = false := decide_eq_false (by omega)
      clear hf hje HF HJ
      obtain ⟨z0, z1, y0, y1, m0, m1, n1, n2⟩ := DD.out.cells
      go_wp2
      refine bodyPost_ret (results_ct rfl _ _ w.heap.size 24 #[.int .i64 q, .slice A5 ops.length c5] (0, 0) _ rfl (put2 DD.out.rb _ _) Tryd.underlying24 rfl (by kernel_rfl)) rfl ?_
      rw [HO.out]
      exact DD.out.done

/-- The specification's ParseScript reads a script. -/
theorem specScript_call (s : ByteArray) (w : World) (hs : s.size ≤ 1048576) : Calls Tryd.prog 4 #[.string s] w (ScriptPost (scriptOf s) w) := by
  by_cases hl : 60000 < s.size
  · exact script_long s w hs hl
  cases hn : linesOf s with
  | nil => exact script_none s w hs hl hn
  | cons l0 ls =>
    cases hq : isQuota l0 with
    | false => exact script_noq s w hs hl l0 ls hn hq
    | true =>
      cases hb : numB (l0.extract 6 l0.size) with
      | false => exact script_badq s w hs hl l0 ls hn hq _ rfl (.inl hb)
      | true =>
        by_cases h0 : numN (l0.extract 6 l0.size) < 0
        · exact script_badq s w hs hl l0 ls hn hq _ rfl (.inr (.inl h0))
        by_cases h1 : 1048576 < numN (l0.extract 6 l0.size)
        · exact script_badq s w hs hl l0 ls hn hq _ rfl (.inr (.inr h1))
        exact script_good s w hs hl l0 ls hn hq _ rfl hb (Int.not_lt.1 h0) (Int.not_lt.1 h1)
end Go.Proofs.YtkbhcejibcjglaaDoor.M
end
section
/- impl.lineOf, walked. Conditions: at most 2 to the 20 bytes; the world holds the program's table. (Printed by wip/tpl/gen_lineof.py.) -/
namespace Go.Proofs.YtkbhcejibcjglaaDoor.M
open Go.RowKit Go.Proofs.YtkbhcejibcjglaaDoor.P Go.Proofs.YtkbhcejibcjglaaDoorW.PrintWords Go.Proofs.YtkbhcejibcjglaaDoorW.PrintLast Go.Proofs.YtkbhcejibcjglaaDoorW.PrintMore
set_option linter.unusedVariables false
set_option linter.unusedSimpArgs false
set_option maxHeartbeats 8000000 in
set_option maxRecDepth 100000 in
theorem line_miss (s : ByteArray) (w : World) (bm : Nat) (m : Int) (hA : LinesAt w bm m) (hs : s.size ≤ 1048576) (kd : Int) (sh si : ByteArray) (hks : kindOf (headW s) = (kd, sh)) (hlc : lineK (headW s) = (0, ⟨#[]⟩, false)) (h0 : kd = 0) : Calls Tryd.prog 16 #[.string s] w (OpPost (opOf s) w) := by
  have hu38 := Tryd.underlying38
  have hu56 := Tryd.underlying56
  have W0 := Aside0.mk (heap_alloc_new w (.cells #[.int .i64 0, .string ⟨#[]⟩, .string ⟨#[]⟩, .int .i64 0, .slice none 0 0, .slice none 0 0] 38))
  have B0 := Aside0.mk (below_alloc (Below.refl w.heap.size w) (.cells #[.int .i64 0, .string ⟨#[]⟩, .string ⟨#[]⟩, .int .i64 0, .slice none 0 0, .slice none 0 0] 38))
  have HP := Aside0.mk (cut_parts s)
  have HL := Aside0.mk (rest_length s)
  have HS := Aside0.mk hs
  have HA := Aside0.mk hA
  have HDS := Aside0.mk (part_size s (headW s) (by rw [cut_parts]; exact List.mem_cons_self ..))
  have HPS := Aside0.mk (show ∀ x ∈ restW s, x.size ≤ 1048576 from fun x hx => Nat.le_trans (part_size s x (by rw [cut_parts]; exact List.mem_cons_of_mem _ hx)) hs)
  have HLC := Aside0.mk hlc
  have HO := Aside0.mk (show opOf s = none from by
    unfold opOf
    rw [hks]
    exact if_pos h0)
  clear h0
  clear hA hlc hks
  go_enter Tryd.func16, Tryd.ntmps16
  go_wp2_with fail
  refine (Tryd.strings_Split s ⟨#[32]⟩ m _ (by omega) (HA.out.below B0.out).max (by decide)).mono ?_
  rintro e w1 ⟨rfl, hw⟩
  have ho := split_row (w.alloc (.cells #[.int .i64 0, .string ⟨#[]⟩, .string ⟨#[]⟩, .int .i64 0, .slice none 0 0, .slice none 0 0] 38)) w.heap.size s 32 B0.out.size hs
  have hb := below_alloc (Below.refl (w.alloc (.cells #[.int .i64 0, .string ⟨#[]⟩, .string ⟨#[]⟩, .int .i64 0, .slice none 0 0, .slice none 0 0] 38)).heap.size (w.alloc (.cells #[.int .i64 0, .string ⟨#[]⟩, .string ⟨#[]⟩, .int .i64 0, .slice none 0 0, .slice none 0 0] 38))) (.cells ((Lib.splitB ⟨#[32]⟩ 0 (Lib.countB s ⟨#[32]⟩) s).map Value.string).toArray 9)
  rw [← hw] at ho hb
  rw [count_cut]
  rw [HP.out] at ho ⊢
  clear hw hs
  generalize headW s = hd at *
  generalize restW s = rest at *
  rw [World.size_alloc, List.length_cons] at ho ⊢
  have hc0 := (Kd.R_celln ByteArray.empty ho 0 (Int.le_refl _) (Int.ofNat_lt.2 (Nat.succ_pos _))).1
  replace hc0 : w1.drew.cell? ⟨w.heap.size + 1, 0, none⟩ = some (.string hd) := hc0
  have RP := Aside0.mk ho
  have W1 := Aside0.mk ((hb.block _ (blk_lt W0.out)).trans W0.out)
  have B1 := Aside0.mk (below_step B0.out hb)
  obtain ⟨A8, hdr, hrd⟩ := parts_tail (w.heap.size + 1) (rest.length + 1) hd rest (Nat.le_refl _)
  have HRD := Aside0.mk hrd
  have HA1 := Aside0.mk ((HA.out.below B0.out).below hb)
  have hgl : w.heap.size + 1 < w1.drew.heap.size := Kd.R_lt ho _ (by simp [Value.ownBlock])
  clear hrd ho hb
  generalize w.heap.size + 1 = g at *
  go_upto_region 2 with fail
  have LN := Aside0.mk (show LinesAt w1.drew bm m from HA1.out.below (below_drew (Below.refl _ _)))
  have RPd := Aside0.mk (Kd.R_drew RP.out)
  have W1d := Aside0.mk (show w1.drew.heap[w.heap.size]? = some (.cells #[.int .i64 0, .string ⟨#[]⟩, .string ⟨#[]⟩, .int .i64 0, .slice none 0 0, .slice none 0 0] 38) from W1.out)
  have B1d := Aside0.mk (below_drew B1.out)
  have LC := Aside0.mk (show (w1.drew.alloc (.cells #[.int .i64 0, .string ⟨#[]⟩] 56)).cell? ⟨g, 0, none⟩ = some (.string hd) from (World.cell?_alloc_lt _ _ _ hgl).trans hc0)
  have hcm := LN.out.cell
  have hlk := LN.out.find (Nat.le_trans HDS.out HS.out) HLC.out
  have LK2 := Aside0.mk ((LN.out.alloc (.cells #[.int .i64 0, .string ⟨#[]⟩] 56)).find (Nat.le_trans HDS.out HS.out) HLC.out)
  clear hgl
  refine start_ (n := 11) (S := fun w' => w'.cell? ⟨0, 0, none⟩ = some (.map (some bm)) ∧ w'.cell? ⟨g, 0, none⟩ = some (.string hd) ∧ (Instr.lookup 58 (.map (some bm)) (.string hd) true).run Tryd.prog w' = .ok (.tuple #[.agg #[.int .i64 0, .string ⟨#[]⟩], .bool false]) w') (ds := [9]) #[false, false, false, false, false, false, false, false, false, false, false] (by kernel_rfl) rfl rfl ⟨hcm, hc0, hlk⟩ (fun hHeld => ?_)
  clear hcm hc0 hlk W1 B1 RP HA1
  generalize w1.drew = wd at LN LC LK2 RPd W1d B1d hHeld ⊢
  refine pure_ (i := 1) (N := some 23) (v := ?_) (a' := ?_) #[false, true, false, false, false, false, false, false, false, false, false] rfl rfl (by kernel_rfl) (fun _ _ _ h => h) (Or.inl ⟨by rfl, ?_⟩) ?_ ?_
  rotate_left
  · intro w'
    go_simp
    with_reducible rfl
  rotate_left
  · simp only [Act.put, List.setIfInBounds_toArray, List.set_cons_zero, List.set_cons_succ, i64_w, i32_w]
    rfl
  refine pure_ (i := 2) (N := some 24) (v := ?_) (a' := ?_) #[false, true, true, false, false, false, false, false, false, false, false] rfl rfl (by kernel_rfl) (fun _ _ _ h => h) (Or.inl ⟨by rfl, ?_⟩) ?_ ?_
  rotate_left
  · intro w'
    go_simp
    with_reducible rfl
  rotate_left
  · simp only [Act.put, List.setIfInBounds_toArray, List.set_cons_zero, List.set_cons_succ, i64_w, i32_w]
    rfl
  refine take_ (i := 0) (N := some 22) (v := ?_) (a' := ?_) #[true, true, true, false, false, false, false, false, false, false, false] rfl rfl (by kernel_rfl) (fun _ _ _ h => h) (Or.inl ⟨by rfl, ?_⟩) hHeld ?_ ?_
  rotate_left
  · rintro w' ⟨s0, s1, s2⟩
    go_simp
    with_reducible rfl
  rotate_left
  · simp only [Act.put, List.setIfInBounds_toArray, List.set_cons_zero, List.set_cons_succ, i64_w, i32_w]
    rfl
  refine take_ (i := 3) (N := some 25) (v := ?_) (a' := ?_) #[true, true, true, true, false, false, false, false, false, false, false] rfl rfl (by kernel_rfl) (fun _ _ _ h => h) (Or.inl ⟨by rfl, ?_⟩) hHeld ?_ ?_
  rotate_left
  · rintro w' ⟨s0, s1, s2⟩
    go_simp
    with_reducible rfl
  rotate_left
  · simp only [Act.put, List.setIfInBounds_toArray, List.set_cons_zero, List.set_cons_succ, i64_w, i32_w]
    rfl
  refine take_ (i := 4) (N := some 26) (v := ?_) (a' := ?_) #[true, true, true, true, true, false, false, false, false, false, false] rfl rfl (by kernel_rfl) (fun _ _ _ h => h) (Or.inl ⟨by rfl, ?_⟩) hHeld ?_ ?_
  rotate_left
  · rintro w' ⟨s0, s1, s2⟩
    go_simp
    with_reducible rfl
  rotate_left
  · simp only [Act.put, List.setIfInBounds_toArray, List.set_cons_zero, List.set_cons_succ, i64_w, i32_w]
    rfl
  refine pure_ (i := 5) (N := some 21) (v := ?_) (a' := ?_) #[true, true, true, true, true, true, false, false, false, false, false] rfl rfl (by kernel_rfl) (fun _ _ _ h => h) (Or.inl ⟨by rfl, ?_⟩) ?_ ?_
  rotate_left
  · intro w'
    go_simp
    with_reducible rfl
  rotate_left
  · simp only [Act.put, List.setIfInBounds_toArray, List.set_cons_zero, List.set_cons_succ, i64_w, i32_w]
    rfl
  refine pure_ (i := 6) (N := some 27) (v := ?_) (a' := ?_) #[true, true, true, true, true, true, true, false, false, false, false] rfl rfl (by kernel_rfl) (fun _ _ _ h => h) (Or.inl ⟨by rfl, ?_⟩) ?_ ?_
  rotate_left
  · intro w'
    go_simp
    with_reducible rfl
  rotate_left
  · simp only [Act.put, List.setIfInBounds_toArray, List.set_cons_zero, List.set_cons_succ, i64_w, i32_w]
    rfl
  refine pure_ (i := 7) (N := some 28) (v := ?_) (a' := ?_) #[true, true, true, true, true, true, true, true, false, false, false] rfl rfl (by kernel_rfl) (fun _ _ _ h => h) (Or.inl ⟨by rfl, ?_⟩) ?_ ?_
  rotate_left
  · intro w'
    go_simp
    with_reducible rfl
  rotate_left
  · simp only [Act.put, List.setIfInBounds_toArray, List.set_cons_zero, List.set_cons_succ, i64_w, i32_w]
    rfl
  refine one_ (i := 8) (N := some 5) #[true, true, true, true, true, true, true, true, true, false, false] rfl rfl (by kernel_rfl) (by decide) (fun K hK => ?_)
  refine value_ (w1 := ?_) (v := ?_) (by rfl) rfl ?_ ?_
  rotate_left 2
  · go_simp
    constructor
    · rfl
    · rfl
  refine hK.out _ _ ⟨(LN.out.alloc (.cells #[.int .i64 0, .string ⟨#[]⟩] 56)).cell, LC.out, LK2.out⟩ (fun hHeld => ?_)
  clear hK K
  refine norm_ (a' := ?_) ?_ ?_
  rotate_left
  · show Act.put _ (some 5) _ = _
    simp only [Act.put, List.setIfInBounds_toArray, List.set_cons_zero, List.set_cons_succ, i64_w, i32_w]
    rfl
  refine last_ (i := 9) (N := none) #[true, true, true, true, true, true, true, true, true, true, false] rfl rfl (by kernel_rfl) (by decide) (fun K hK => ?_)
  refine skip_ (w1 := ?_) (by rfl) rfl ?_ ?_
  rotate_left
  · go_simp
    rfl
  refine hK.out _ _ ?_
  clear hK K
  refine pure_ (i := 10) (N := some 6) (v := ?_) (a' := ?_) #[true, true, true, true, true, true, true, true, true, true, true] rfl rfl (by kernel_rfl) (fun _ _ _ h => h) (Or.inl ⟨by rfl, ?_⟩) ?_ ?_
  rotate_left
  · intro w'
    go_simp
    with_reducible rfl
  rotate_left
  · simp only [Act.put, List.setIfInBounds_toArray, List.set_cons_zero, List.set_cons_succ, i64_w, i32_w]
    rfl
  refine done_ (by kernel_rfl) ?_

  have D0 := Aside0.mk (show LQ w ((wd.alloc (.cells #[.int .i64 0, .string ⟨#[]⟩] 56)).alloc (.cells #[.int .i64 0, .string ⟨#[]⟩, .string ⟨#[]⟩, .int .i64 0, .slice none 0 0, .slice none 0 0] 38)) (wd.alloc (.cells #[.int .i64 0, .string ⟨#[]⟩] 56)).heap.size w.heap.size wd.heap.size 0 ⟨#[]⟩ ⟨0, ⟨#[]⟩, ⟨#[]⟩, 0, [], []⟩ (.slice none 0 0) (.slice none 0 0) (.slice (some ⟨g, 0, none⟩) (rest.length + 1) (rest.length + 1)) (hd :: rest) from
    ⟨⟨below_alloc (below_alloc B1d.out _) _, (below_alloc B1d.out _).size, Nat.le_refl _, by rw [World.size_alloc]; have := blk_lt W1d.out; omega, heap_alloc_new _ _, blk_alloc (blk_alloc W1d.out _) _, Kd.R_nil _ _ _ _ _, Kd.R_nil _ _ _ _ _, Kd.R_alloc (Kd.R_alloc RPd.out _) _⟩, blk_alloc (heap_alloc_new _ _) _, by rw [World.size_alloc]; omega⟩)
  have HAD := Aside0.mk ((LN.out.alloc (.cells #[.int .i64 0, .string ⟨#[]⟩] 56)).alloc (.cells #[.int .i64 0, .string ⟨#[]⟩, .string ⟨#[]⟩, .int .i64 0, .slice none 0 0, .slice none 0 0] 38))
  rw [World.size_alloc] at D0
  clear hHeld LN LC LK2 RPd W1d B1d W0 B0
  obtain ⟨z0, z1, z2, z3, z4, z5, y0, y1, y2, y3, y4, y5, m, f, n1, n2⟩ := D0.out.lp.cells
  have m0 := m 0
  have m1 := m 1
  have m2 := m 2
  have m3 := m 3
  have m4 := m 4
  have m5 := m 5
  clear m f
  go_wp2
  refine bodyPost_ret (results_ct rfl _ _ w.heap.size 38 #[.int .i64 0, .string ⟨#[]⟩, .string ⟨#[]⟩, .int .i64 0, .slice none 0 0, .slice none 0 0] (0, 0) _ rfl (put6 D0.out.lp.rb _ _ _ _ _ _) Tryd.underlying38 rfl (by kernel_rfl)) rfl ?_
  rw [HO.out]
  exact D0.out.lp.done none false rfl (by intro y h; cases h)
set_option maxHeartbeats 8000000 in
set_option maxRecDepth 100000 in
theorem line_star (s : ByteArray) (w : World) (bm : Nat) (m : Int) (hA : LinesAt w bm m) (hs : s.size ≤ 1048576) (kd : Int) (sh si : ByteArray) (hks : kindOf (headW s) = (kd, sh)) (hlc : lineK (headW s) = (kd, ⟨#[42]⟩, true)) (h0 : kd ≠ 0) (h42 : sh = ⟨#[42]⟩) : Calls Tryd.prog 16 #[.string s] w (OpPost (opOf s) w) := by
  have hu38 := Tryd.underlying38
  have hu56 := Tryd.underlying56
  have W0 := Aside0.mk (heap_alloc_new w (.cells #[.int .i64 0, .string ⟨#[]⟩, .string ⟨#[]⟩, .int .i64 0, .slice none 0 0, .slice none 0 0] 38))
  have B0 := Aside0.mk (below_alloc (Below.refl w.heap.size w) (.cells #[.int .i64 0, .string ⟨#[]⟩, .string ⟨#[]⟩, .int .i64 0, .slice none 0 0, .slice none 0 0] 38))
  have HP := Aside0.mk (cut_parts s)
  have HL := Aside0.mk (rest_length s)
  have HS := Aside0.mk hs
  have HA := Aside0.mk hA
  have HDS := Aside0.mk (part_size s (headW s) (by rw [cut_parts]; exact List.mem_cons_self ..))
  have HPS := Aside0.mk (show ∀ x ∈ restW s, x.size ≤ 1048576 from fun x hx => Nat.le_trans (part_size s x (by rw [cut_parts]; exact List.mem_cons_of_mem _ hx)) hs)
  have HLC := Aside0.mk hlc
  subst h42
  have HOP := Aside0.mk (show opOf s = (if (restW s).all numB = true then some ⟨kd, ⟨#[]⟩, ⟨#[]⟩, 0, [], (restW s).map numD⟩ else none) from by
    unfold opOf
    rw [hks]
    show (if kd = 0 then none else if (⟨#[42]⟩ : ByteArray).toList = ([42] : List UInt8) then _ else _) = _
    rw [if_neg h0, if_pos (by rw [ByteArray.toList_eq])])
  clear h0
  clear hA hlc hks
  go_enter Tryd.func16, Tryd.ntmps16
  go_wp2_with fail
  refine (Tryd.strings_Split s ⟨#[32]⟩ m _ (by omega) (HA.out.below B0.out).max (by decide)).mono ?_
  rintro e w1 ⟨rfl, hw⟩
  have ho := split_row (w.alloc (.cells #[.int .i64 0, .string ⟨#[]⟩, .string ⟨#[]⟩, .int .i64 0, .slice none 0 0, .slice none 0 0] 38)) w.heap.size s 32 B0.out.size hs
  have hb := below_alloc (Below.refl (w.alloc (.cells #[.int .i64 0, .string ⟨#[]⟩, .string ⟨#[]⟩, .int .i64 0, .slice none 0 0, .slice none 0 0] 38)).heap.size (w.alloc (.cells #[.int .i64 0, .string ⟨#[]⟩, .string ⟨#[]⟩, .int .i64 0, .slice none 0 0, .slice none 0 0] 38))) (.cells ((Lib.splitB ⟨#[32]⟩ 0 (Lib.countB s ⟨#[32]⟩) s).map Value.string).toArray 9)
  rw [← hw] at ho hb
  rw [count_cut]
  rw [HP.out] at ho ⊢
  clear hw hs
  generalize headW s = hd at *
  generalize restW s = rest at *
  rw [World.size_alloc, List.length_cons] at ho ⊢
  have hc0 := (Kd.R_celln ByteArray.empty ho 0 (Int.le_refl _) (Int.ofNat_lt.2 (Nat.succ_pos _))).1
  replace hc0 : w1.drew.cell? ⟨w.heap.size + 1, 0, none⟩ = some (.string hd) := hc0
  have RP := Aside0.mk ho
  have W1 := Aside0.mk ((hb.block _ (blk_lt W0.out)).trans W0.out)
  have B1 := Aside0.mk (below_step B0.out hb)
  obtain ⟨A8, hdr, hrd⟩ := parts_tail (w.heap.size + 1) (rest.length + 1) hd rest (Nat.le_refl _)
  have HRD := Aside0.mk hrd
  have HA1 := Aside0.mk ((HA.out.below B0.out).below hb)
  have hgl : w.heap.size + 1 < w1.drew.heap.size := Kd.R_lt ho _ (by simp [Value.ownBlock])
  clear hrd ho hb
  generalize w.heap.size + 1 = g at *
  go_upto_region 2 with fail
  have LN := Aside0.mk (show LinesAt w1.drew bm m from HA1.out.below (below_drew (Below.refl _ _)))
  have RPd := Aside0.mk (Kd.R_drew RP.out)
  have W1d := Aside0.mk (show w1.drew.heap[w.heap.size]? = some (.cells #[.int .i64 0, .string ⟨#[]⟩, .string ⟨#[]⟩, .int .i64 0, .slice none 0 0, .slice none 0 0] 38) from W1.out)
  have B1d := Aside0.mk (below_drew B1.out)
  have LC := Aside0.mk (show (w1.drew.alloc (.cells #[.int .i64 0, .string ⟨#[]⟩] 56)).cell? ⟨g, 0, none⟩ = some (.string hd) from (World.cell?_alloc_lt _ _ _ hgl).trans hc0)
  have hcm := LN.out.cell
  have hlk := LN.out.find (Nat.le_trans HDS.out HS.out) HLC.out
  have LK2 := Aside0.mk ((LN.out.alloc (.cells #[.int .i64 0, .string ⟨#[]⟩] 56)).find (Nat.le_trans HDS.out HS.out) HLC.out)
  clear hgl
  refine start_ (n := 11) (S := fun w' => w'.cell? ⟨0, 0, none⟩ = some (.map (some bm)) ∧ w'.cell? ⟨g, 0, none⟩ = some (.string hd) ∧ (Instr.lookup 58 (.map (some bm)) (.string hd) true).run Tryd.prog w' = .ok (.tuple #[.agg #[.int .i64 kd, .string ⟨#[42]⟩], .bool true]) w') (ds := [9]) #[false, false, false, false, false, false, false, false, false, false, false] (by kernel_rfl) rfl rfl ⟨hcm, hc0, hlk⟩ (fun hHeld => ?_)
  clear hcm hc0 hlk W1 B1 RP HA1
  generalize w1.drew = wd at LN LC LK2 RPd W1d B1d hHeld ⊢
  refine pure_ (i := 1) (N := some 23) (v := ?_) (a' := ?_) #[false, true, false, false, false, false, false, false, false, false, false] rfl rfl (by kernel_rfl) (fun _ _ _ h => h) (Or.inl ⟨by rfl, ?_⟩) ?_ ?_
  rotate_left
  · intro w'
    go_simp
    with_reducible rfl
  rotate_left
  · simp only [Act.put, List.setIfInBounds_toArray, List.set_cons_zero, List.set_cons_succ, i64_w, i32_w]
    rfl
  refine pure_ (i := 2) (N := some 24) (v := ?_) (a' := ?_) #[false, true, true, false, false, false, false, false, false, false, false] rfl rfl (by kernel_rfl) (fun _ _ _ h => h) (Or.inl ⟨by rfl, ?_⟩) ?_ ?_
  rotate_left
  · intro w'
    go_simp
    with_reducible rfl
  rotate_left
  · simp only [Act.put, List.setIfInBounds_toArray, List.set_cons_zero, List.set_cons_succ, i64_w, i32_w]
    rfl
  refine take_ (i := 0) (N := some 22) (v := ?_) (a' := ?_) #[true, true, true, false, false, false, false, false, false, false, false] rfl rfl (by kernel_rfl) (fun _ _ _ h => h) (Or.inl ⟨by rfl, ?_⟩) hHeld ?_ ?_
  rotate_left
  · rintro w' ⟨s0, s1, s2⟩
    go_simp
    with_reducible rfl
  rotate_left
  · simp only [Act.put, List.setIfInBounds_toArray, List.set_cons_zero, List.set_cons_succ, i64_w, i32_w]
    rfl
  refine take_ (i := 3) (N := some 25) (v := ?_) (a' := ?_) #[true, true, true, true, false, false, false, false, false, false, false] rfl rfl (by kernel_rfl) (fun _ _ _ h => h) (Or.inl ⟨by rfl, ?_⟩) hHeld ?_ ?_
  rotate_left
  · rintro w' ⟨s0, s1, s2⟩
    go_simp
    with_reducible rfl
  rotate_left
  · simp only [Act.put, List.setIfInBounds_toArray, List.set_cons_zero, List.set_cons_succ, i64_w, i32_w]
    rfl
  refine take_ (i := 4) (N := some 26) (v := ?_) (a' := ?_) #[true, true, true, true, true, false, false, false, false, false, false] rfl rfl (by kernel_rfl) (fun _ _ _ h => h) (Or.inl ⟨by rfl, ?_⟩) hHeld ?_ ?_
  rotate_left
  · rintro w' ⟨s0, s1, s2⟩
    go_simp
    with_reducible rfl
  rotate_left
  · simp only [Act.put, List.setIfInBounds_toArray, List.set_cons_zero, List.set_cons_succ, i64_w, i32_w]
    rfl
  refine pure_ (i := 5) (N := some 21) (v := ?_) (a' := ?_) #[true, true, true, true, true, true, false, false, false, false, false] rfl rfl (by kernel_rfl) (fun _ _ _ h => h) (Or.inl ⟨by rfl, ?_⟩) ?_ ?_
  rotate_left
  · intro w'
    go_simp
    with_reducible rfl
  rotate_left
  · simp only [Act.put, List.setIfInBounds_toArray, List.set_cons_zero, List.set_cons_succ, i64_w, i32_w]
    rfl
  refine pure_ (i := 6) (N := some 27) (v := ?_) (a' := ?_) #[true, true, true, true, true, true, true, false, false, false, false] rfl rfl (by kernel_rfl) (fun _ _ _ h => h) (Or.inl ⟨by rfl, ?_⟩) ?_ ?_
  rotate_left
  · intro w'
    go_simp
    with_reducible rfl
  rotate_left
  · simp only [Act.put, List.setIfInBounds_toArray, List.set_cons_zero, List.set_cons_succ, i64_w, i32_w]
    rfl
  refine pure_ (i := 7) (N := some 28) (v := ?_) (a' := ?_) #[true, true, true, true, true, true, true, true, false, false, false] rfl rfl (by kernel_rfl) (fun _ _ _ h => h) (Or.inl ⟨by rfl, ?_⟩) ?_ ?_
  rotate_left
  · intro w'
    go_simp
    with_reducible rfl
  rotate_left
  · simp only [Act.put, List.setIfInBounds_toArray, List.set_cons_zero, List.set_cons_succ, i64_w, i32_w]
    rfl
  refine one_ (i := 8) (N := some 5) #[true, true, true, true, true, true, true, true, true, false, false] rfl rfl (by kernel_rfl) (by decide) (fun K hK => ?_)
  refine value_ (w1 := ?_) (v := ?_) (by rfl) rfl ?_ ?_
  rotate_left 2
  · go_simp
    constructor
    · rfl
    · rfl
  refine hK.out _ _ ⟨(LN.out.alloc (.cells #[.int .i64 0, .string ⟨#[]⟩] 56)).cell, LC.out, LK2.out⟩ (fun hHeld => ?_)
  clear hK K
  refine norm_ (a' := ?_) ?_ ?_
  rotate_left
  · show Act.put _ (some 5) _ = _
    simp only [Act.put, List.setIfInBounds_toArray, List.set_cons_zero, List.set_cons_succ, i64_w, i32_w]
    rfl
  refine last_ (i := 9) (N := none) #[true, true, true, true, true, true, true, true, true, true, false] rfl rfl (by kernel_rfl) (by decide) (fun K hK => ?_)
  refine skip_ (w1 := ?_) (by rfl) rfl ?_ ?_
  rotate_left
  · go_simp
    rfl
  refine hK.out _ _ ?_
  clear hK K
  refine pure_ (i := 10) (N := some 6) (v := ?_) (a' := ?_) #[true, true, true, true, true, true, true, true, true, true, true] rfl rfl (by kernel_rfl) (fun _ _ _ h => h) (Or.inl ⟨by rfl, ?_⟩) ?_ ?_
  rotate_left
  · intro w'
    go_simp
    with_reducible rfl
  rotate_left
  · simp only [Act.put, List.setIfInBounds_toArray, List.set_cons_zero, List.set_cons_succ, i64_w, i32_w]
    rfl
  refine done_ (by kernel_rfl) ?_

  have D0 := Aside0.mk (show LQ w ((wd.alloc (.cells #[.int .i64 kd, .string ⟨#[42]⟩] 56)).alloc (.cells #[.int .i64 kd, .string ⟨#[]⟩, .string ⟨#[]⟩, .int .i64 0, .slice none 0 0, .slice none 0 0] 38)) (wd.alloc (.cells #[.int .i64 kd, .string ⟨#[42]⟩] 56)).heap.size w.heap.size wd.heap.size kd ⟨#[42]⟩ ⟨kd, ⟨#[]⟩, ⟨#[]⟩, 0, [], []⟩ (.slice none 0 0) (.slice none 0 0) (.slice (some ⟨g, 0, none⟩) (rest.length + 1) (rest.length + 1)) (hd :: rest) from
    ⟨⟨below_alloc (below_alloc B1d.out _) _, (below_alloc B1d.out _).size, Nat.le_refl _, by rw [World.size_alloc]; have := blk_lt W1d.out; omega, heap_alloc_new _ _, blk_alloc (blk_alloc W1d.out _) _, Kd.R_nil _ _ _ _ _, Kd.R_nil _ _ _ _ _, Kd.R_alloc (Kd.R_alloc RPd.out _) _⟩, blk_alloc (heap_alloc_new _ _) _, by rw [World.size_alloc]; omega⟩)
  have HAD := Aside0.mk ((LN.out.alloc (.cells #[.int .i64 kd, .string ⟨#[42]⟩] 56)).alloc (.cells #[.int .i64 kd, .string ⟨#[]⟩, .string ⟨#[]⟩, .int .i64 0, .slice none 0 0, .slice none 0 0] 38))
  rw [World.size_alloc] at D0
  clear hHeld LN LC LK2 RPd W1d B1d W0 B0
  go_wp2_with fail
  generalize wd.heap.size + 1 = e at *
  generalize wd.heap.size = b at *
  go_loopw [69] (fun v69 wr => ∃ (i : Nat) (l : List Int) (v5 : Value), v69 = .int .i64 (i : Int) ∧ i ≤ rest.length ∧ Aside0 (l = (rest.take i).map numD) ∧ Aside0 (LQ w wr e w.heap.size b kd ⟨#[42]⟩ ⟨kd, ⟨#[]⟩, ⟨#[]⟩, 0, [], l⟩ (.slice none 0 0) v5 (.slice (some ⟨g, 0, none⟩) (rest.length + 1) (rest.length + 1)) (hd :: rest)) ∧ Aside0 ((rest.take i).all numB = true)) (fun v69 _ => rest.length - (intOf v69).toNat)
  case atStart => exact ⟨0, [], _, rfl, Nat.zero_le _, ⟨rfl⟩, D0, ⟨rfl⟩⟩
  case round =>
    clear D0
    obtain ⟨i, l, v5, rfl, hi, HLI, DD, HA2⟩ := hrel
    obtain ⟨A5, c5, h5⟩ := Kd.R_slice DD.out.lp.r5
    replace h5 : v5 = .slice A5 l.length c5 := h5
    subst h5
    by_cases hlt : i < rest.length
    · obtain ⟨ad, had, hcell⟩ := parts_at (HRD.out _ (parts_read DD.out.lp.rp)) i hlt
      subst had
      obtain ⟨p, hp⟩ : ∃ p, rest[i] = p := ⟨_, rfl⟩
      rw [hp] at hcell
      have HP' := Aside0.mk hp
      have HPZ := Aside0.mk (HPS.out p (by rw [← hp]; exact List.getElem_mem hlt))
      obtain ⟨kn, hn⟩ := Ev.rounds (num_eq p).2.1
      have HN := Aside0.mk hn
      obtain ⟨wo, wb, hwo⟩ : ∃ wo wb, wordOf p = (wo, wb) := ⟨_, _, rfl⟩
      have hwe := (word_eq p HPZ.out).2
      rw [hwo] at hwe
      obtain ⟨kw, hw'⟩ := Ev.rounds hwe
      have HW := Aside0.mk hw'
      have kk := DD.out.k1
      clear hp hn hwo hwe hw'
      go_wp2_with fail
      refine (impl_decimal.calls kn p _ _ HN.out).mono ?_
      rintro e' w3 ⟨rfl, hd0⟩
      obtain ⟨nd, rfl⟩ := hd0.out
      have D1 := Aside0.mk (DD.out.drawn nd)
      clear hd0 hcell
      generalize wr.drewN nd = w3 at *
      clear kk
      go_wp2_with fail
      refine (impl_word.calls kw p _ _ _ HW.out).mono ?_
      rintro e' w4 ⟨rfl, hd0⟩
      obtain ⟨nd2, rfl⟩ := hd0.out
      have D2 := Aside0.mk (D1.out.drawn nd2)
      clear hd0 DD D1
      generalize w3.drewN nd2 = w5 at *
      have z5 := D2.out.lp.cells.z5
      have LL := Aside0.mk (show (l.length + 1) * 8 ≤ 140737488355328 from by rw [HLI.out, List.length_map, List.length_take]; have := HL.out; have := HS.out; omega)
      have HWR := Aside0.mk (show wrap64 ((i : Int) + 1) = ((i + 1 : Nat) : Int) from wrap_succ (by have := HL.out; have := HS.out; omega))
      cases hnb : numB p with
      | false =>
        have HO := Aside0.mk (show opOf s = none from by
          rw [HOP.out, if_neg]
          intro h
          have h2 := List.all_eq_true.1 h p (by rw [← HP'.out]; exact List.getElem_mem hlt)
          rw [hnb] at h2
          cases h2)
        have hb1 : (numD p != -2) = false := by
          rcases (num_eq p).2.2 with ⟨h1, _⟩ | ⟨_, h2⟩
          · rw [hnb] at h1; cases h1
          · rw [h2]; rfl
        clear hnb HLI HA2
        go_upto_region 33 with ((with_reducible refine gate_builtin (b := .append) rfl ?_); refine Kd.R_append (Kd.int .i64) (w0 := w) w.heap.size rfl (.tmp 100) (.tmp 102) 36 3 (.int .i64 0) 8 rfl Tryd.underlying36 info3 rfl (by decide) (by omega) (.slice A5 l.length c5) l (numD p) [.int .i64 (numD p)] (fun _ => True) (fun _ => False) rfl (by first | rfl | (go_simp; done) | (go_simp; rfl)) rfl (fun _ hk => hk.elim) (fun k hk => trivial) D2.out.lp.r5 D2.out.lp.bel (below_size D2.out.lp.bel) LL.out ?_; intro v1 w7 ho hb hgr hat; have q0 := grown_cell5 D2.out.lp hgr; have D5 := Aside0.mk (D2.out.grew5 ho hb hgr); obtain ⟨AX, cX, hv1⟩ := Kd.R_slice ho; rw [List.length_append, List.length_singleton] at hv1; subst hv1; clear ho hb hgr hat D2 z5; obtain ⟨⟨q, hq⟩, qf⟩ := q0)
        obtain ⟨z0, z1, z2, z3, z4, z5, y0, y1, y2, y3, y4, y5, m, f, n1, n2⟩ := D5.out.lp.cells
        have m0 := m 0
        have m1 := m 1
        have m2 := m 2
        have m3 := m 3
        have m4 := m 4
        have m5 := m 5
        clear m f
        go_wp2
        refine bodyPost_ret (results_ct rfl _ _ w.heap.size 38 #[.int .i64 kd, .string ⟨#[]⟩, .string ⟨#[]⟩, .int .i64 0, .slice none 0 0, .slice AX (l.length + 1) cX] (0, 0) _ rfl (put6 D5.out.lp.rb _ _ _ _ _ _) Tryd.underlying38 rfl (by kernel_rfl)) rfl ?_
        rw [HO.out]
        exact D5.out.lp.done none false rfl (by intro y h; cases h)

      | true =>
        have hb1 : (numD p != -2) = true := bne_iff_ne.2 ((numB_iff p).1 hnb)
        have HM := Aside0.mk (show l ++ [numD p] = (rest.take (i + 1)).map numD from by
          rw [take_at _ i hlt, List.map_append, HP'.out, HLI.out, List.map_singleton])
        have HA3 := Aside0.mk (show (rest.take (i + 1)).all numB = true from by
          rw [take_at _ i hlt, List.all_append, HA2.out, HP'.out]
          simp [hnb])
        clear hnb HLI HA2
        go_wp2_with ((with_reducible refine gate_builtin (b := .append) rfl ?_); refine Kd.R_append (Kd.int .i64) (w0 := w) w.heap.size rfl (.tmp 100) (.tmp 102) 36 3 (.int .i64 0) 8 rfl Tryd.underlying36 info3 rfl (by decide) (by omega) (.slice A5 l.length c5) l (numD p) [.int .i64 (numD p)] (fun _ => True) (fun _ => False) rfl (by first | rfl | (go_simp; done) | (go_simp; rfl)) rfl (fun _ hk => hk.elim) (fun k hk => trivial) D2.out.lp.r5 D2.out.lp.bel (below_size D2.out.lp.bel) LL.out ?_; intro v1 w7 ho hb hgr hat; have q0 := grown_cell5 D2.out.lp hgr; have D5 := Aside0.mk (D2.out.grew5 ho hb hgr); obtain ⟨AX, cX, hv1⟩ := Kd.R_slice ho; rw [List.length_append, List.length_singleton] at hv1; subst hv1; clear ho hb hgr hat D2 z5; obtain ⟨⟨q, hq⟩, qf⟩ := q0)
        go_roundw
        case rel => exact ⟨i + 1, l ++ [numD p], _, by rw [← HWR.out], hlt, HM, D5, HA3⟩
        case measure => rw [HWR.out]; exact meas_lt _ _ hlt
    · have hie : i = rest.length := Nat.le_antisymm hi (Nat.not_lt.1 hlt)
      subst hie
      have HO := Aside0.mk (show opOf s = some ⟨kd, ⟨#[]⟩, ⟨#[]⟩, 0, [], l⟩ from by
        rw [HOP.out, if_pos (by have h := HA2.out; rwa [List.take_length] at h), HLI.out, List.take_length])
      clear HLI HA2 HRD
      obtain ⟨z0, z1, z2, z3, z4, z5, y0, y1, y2, y3, y4, y5, m, f, n1, n2⟩ := DD.out.lp.cells
      have m0 := m 0
      have m1 := m 1
      have m2 := m 2
      have m3 := m 3
      have m4 := m 4
      have m5 := m 5
      clear m f
      go_wp2
      refine bodyPost_ret (results_ct rfl _ _ w.heap.size 38 #[.int .i64 kd, .string ⟨#[]⟩, .string ⟨#[]⟩, .int .i64 0, .slice none 0 0, .slice A5 l.length c5] (0, 0) _ rfl (put6 DD.out.lp.rb _ _ _ _ _ _) Tryd.underlying38 rfl (by kernel_rfl)) rfl ?_
      rw [HO.out]
      exact DD.out.lp.done (some _) true rfl (by intro y h; exact Option.some.inj h)

set_option maxHeartbeats 8000000 in
set_option maxRecDepth 100000 in
theorem line_plus (s : ByteArray) (w : World) (bm : Nat) (m : Int) (hA : LinesAt w bm m) (hs : s.size ≤ 1048576) (kd : Int) (sh si : ByteArray) (hks : kindOf (headW s) = (kd, sh)) (hlc : lineK (headW s) = (kd, ⟨#[43]⟩, true)) (h0 : kd ≠ 0) (h43 : sh = ⟨#[43]⟩) : Calls Tryd.prog 16 #[.string s] w (OpPost (opOf s) w) := by
  have hu38 := Tryd.underlying38
  have hu56 := Tryd.underlying56
  have W0 := Aside0.mk (heap_alloc_new w (.cells #[.int .i64 0, .string ⟨#[]⟩, .string ⟨#[]⟩, .int .i64 0, .slice none 0 0, .slice none 0 0] 38))
  have B0 := Aside0.mk (below_alloc (Below.refl w.heap.size w) (.cells #[.int .i64 0, .string ⟨#[]⟩, .string ⟨#[]⟩, .int .i64 0, .slice none 0 0, .slice none 0 0] 38))
  have HP := Aside0.mk (cut_parts s)
  have HL := Aside0.mk (rest_length s)
  have HS := Aside0.mk hs
  have HA := Aside0.mk hA
  have HDS := Aside0.mk (part_size s (headW s) (by rw [cut_parts]; exact List.mem_cons_self ..))
  have HPS := Aside0.mk (show ∀ x ∈ restW s, x.size ≤ 1048576 from fun x hx => Nat.le_trans (part_size s x (by rw [cut_parts]; exact List.mem_cons_of_mem _ hx)) hs)
  have HLC := Aside0.mk hlc
  subst h43
  have HOP := Aside0.mk (show opOf s = (if (restW s).all itemB = true ∧ restW s ≠ [] then some ⟨kd, ⟨#[]⟩, ⟨#[]⟩, 0, (restW s).map entryOf, []⟩ else none) from by
    unfold opOf
    rw [hks]
    show (if kd = 0 then none else if (⟨#[43]⟩ : ByteArray).toList = ([42] : List UInt8) then _ else if (⟨#[43]⟩ : ByteArray).toList = ([43] : List UInt8) then _ else _) = _
    rw [if_neg h0, if_neg (by rw [ByteArray.toList_eq]; decide), if_pos (by rw [ByteArray.toList_eq])])
  clear h0
  clear hA hlc hks
  go_enter Tryd.func16, Tryd.ntmps16
  go_wp2_with fail
  refine (Tryd.strings_Split s ⟨#[32]⟩ m _ (by omega) (HA.out.below B0.out).max (by decide)).mono ?_
  rintro e w1 ⟨rfl, hw⟩
  have ho := split_row (w.alloc (.cells #[.int .i64 0, .string ⟨#[]⟩, .string ⟨#[]⟩, .int .i64 0, .slice none 0 0, .slice none 0 0] 38)) w.heap.size s 32 B0.out.size hs
  have hb := below_alloc (Below.refl (w.alloc (.cells #[.int .i64 0, .string ⟨#[]⟩, .string ⟨#[]⟩, .int .i64 0, .slice none 0 0, .slice none 0 0] 38)).heap.size (w.alloc (.cells #[.int .i64 0, .string ⟨#[]⟩, .string ⟨#[]⟩, .int .i64 0, .slice none 0 0, .slice none 0 0] 38))) (.cells ((Lib.splitB ⟨#[32]⟩ 0 (Lib.countB s ⟨#[32]⟩) s).map Value.string).toArray 9)
  rw [← hw] at ho hb
  rw [count_cut]
  rw [HP.out] at ho ⊢
  clear hw hs
  generalize headW s = hd at *
  generalize restW s = rest at *
  rw [World.size_alloc, List.length_cons] at ho ⊢
  have hc0 := (Kd.R_celln ByteArray.empty ho 0 (Int.le_refl _) (Int.ofNat_lt.2 (Nat.succ_pos _))).1
  replace hc0 : w1.drew.cell? ⟨w.heap.size + 1, 0, none⟩ = some (.string hd) := hc0
  have RP := Aside0.mk ho
  have W1 := Aside0.mk ((hb.block _ (blk_lt W0.out)).trans W0.out)
  have B1 := Aside0.mk (below_step B0.out hb)
  obtain ⟨A8, hdr, hrd⟩ := parts_tail (w.heap.size + 1) (rest.length + 1) hd rest (Nat.le_refl _)
  have HRD := Aside0.mk hrd
  have HA1 := Aside0.mk ((HA.out.below B0.out).below hb)
  have hgl : w.heap.size + 1 < w1.drew.heap.size := Kd.R_lt ho _ (by simp [Value.ownBlock])
  clear hrd ho hb
  generalize w.heap.size + 1 = g at *
  go_upto_region 2 with fail
  have LN := Aside0.mk (show LinesAt w1.drew bm m from HA1.out.below (below_drew (Below.refl _ _)))
  have RPd := Aside0.mk (Kd.R_drew RP.out)
  have W1d := Aside0.mk (show w1.drew.heap[w.heap.size]? = some (.cells #[.int .i64 0, .string ⟨#[]⟩, .string ⟨#[]⟩, .int .i64 0, .slice none 0 0, .slice none 0 0] 38) from W1.out)
  have B1d := Aside0.mk (below_drew B1.out)
  have LC := Aside0.mk (show (w1.drew.alloc (.cells #[.int .i64 0, .string ⟨#[]⟩] 56)).cell? ⟨g, 0, none⟩ = some (.string hd) from (World.cell?_alloc_lt _ _ _ hgl).trans hc0)
  have hcm := LN.out.cell
  have hlk := LN.out.find (Nat.le_trans HDS.out HS.out) HLC.out
  have LK2 := Aside0.mk ((LN.out.alloc (.cells #[.int .i64 0, .string ⟨#[]⟩] 56)).find (Nat.le_trans HDS.out HS.out) HLC.out)
  clear hgl
  refine start_ (n := 11) (S := fun w' => w'.cell? ⟨0, 0, none⟩ = some (.map (some bm)) ∧ w'.cell? ⟨g, 0, none⟩ = some (.string hd) ∧ (Instr.lookup 58 (.map (some bm)) (.string hd) true).run Tryd.prog w' = .ok (.tuple #[.agg #[.int .i64 kd, .string ⟨#[43]⟩], .bool true]) w') (ds := [9]) #[false, false, false, false, false, false, false, false, false, false, false] (by kernel_rfl) rfl rfl ⟨hcm, hc0, hlk⟩ (fun hHeld => ?_)
  clear hcm hc0 hlk W1 B1 RP HA1
  generalize w1.drew = wd at LN LC LK2 RPd W1d B1d hHeld ⊢
  refine pure_ (i := 1) (N := some 23) (v := ?_) (a' := ?_) #[false, true, false, false, false, false, false, false, false, false, false] rfl rfl (by kernel_rfl) (fun _ _ _ h => h) (Or.inl ⟨by rfl, ?_⟩) ?_ ?_
  rotate_left
  · intro w'
    go_simp
    with_reducible rfl
  rotate_left
  · simp only [Act.put, List.setIfInBounds_toArray, List.set_cons_zero, List.set_cons_succ, i64_w, i32_w]
    rfl
  refine pure_ (i := 2) (N := some 24) (v := ?_) (a' := ?_) #[false, true, true, false, false, false, false, false, false, false, false] rfl rfl (by kernel_rfl) (fun _ _ _ h => h) (Or.inl ⟨by rfl, ?_⟩) ?_ ?_
  rotate_left
  · intro w'
    go_simp
    with_reducible rfl
  rotate_left
  · simp only [Act.put, List.setIfInBounds_toArray, List.set_cons_zero, List.set_cons_succ, i64_w, i32_w]
    rfl
  refine take_ (i := 0) (N := some 22) (v := ?_) (a' := ?_) #[true, true, true, false, false, false, false, false, false, false, false] rfl rfl (by kernel_rfl) (fun _ _ _ h => h) (Or.inl ⟨by rfl, ?_⟩) hHeld ?_ ?_
  rotate_left
  · rintro w' ⟨s0, s1, s2⟩
    go_simp
    with_reducible rfl
  rotate_left
  · simp only [Act.put, List.setIfInBounds_toArray, List.set_cons_zero, List.set_cons_succ, i64_w, i32_w]
    rfl
  refine take_ (i := 3) (N := some 25) (v := ?_) (a' := ?_) #[true, true, true, true, false, false, false, false, false, false, false] rfl rfl (by kernel_rfl) (fun _ _ _ h => h) (Or.inl ⟨by rfl, ?_⟩) hHeld ?_ ?_
  rotate_left
  · rintro w' ⟨s0, s1, s2⟩
    go_simp
    with_reducible rfl
  rotate_left
  · simp only [Act.put, List.setIfInBounds_toArray, List.set_cons_zero, List.set_cons_succ, i64_w, i32_w]
    rfl
  refine take_ (i := 4) (N := some 26) (v := ?_) (a' := ?_) #[true, true, true, true, true, false, false, false, false, false, false] rfl rfl (by kernel_rfl) (fun _ _ _ h => h) (Or.inl ⟨by rfl, ?_⟩) hHeld ?_ ?_
  rotate_left
  · rintro w' ⟨s0, s1, s2⟩
    go_simp
    with_reducible rfl
  rotate_left
  · simp only [Act.put, List.setIfInBounds_toArray, List.set_cons_zero, List.set_cons_succ, i64_w, i32_w]
    rfl
  refine pure_ (i := 5) (N := some 21) (v := ?_) (a' := ?_) #[true, true, true, true, true, true, false, false, false, false, false] rfl rfl (by kernel_rfl) (fun _ _ _ h => h) (Or.inl ⟨by rfl, ?_⟩) ?_ ?_
  rotate_left
  · intro w'
    go_simp
    with_reducible rfl
  rotate_left
  · simp only [Act.put, List.setIfInBounds_toArray, List.set_cons_zero, List.set_cons_succ, i64_w, i32_w]
    rfl
  refine pure_ (i := 6) (N := some 27) (v := ?_) (a' := ?_) #[true, true, true, true, true, true, true, false, false, false, false] rfl rfl (by kernel_rfl) (fun _ _ _ h => h) (Or.inl ⟨by rfl, ?_⟩) ?_ ?_
  rotate_left
  · intro w'
    go_simp
    with_reducible rfl
  rotate_left
  · simp only [Act.put, List.setIfInBounds_toArray, List.set_cons_zero, List.set_cons_succ, i64_w, i32_w]
    rfl
  refine pure_ (i := 7) (N := some 28) (v := ?_) (a' := ?_) #[true, true, true, true, true, true, true, true, false, false, false] rfl rfl (by kernel_rfl) (fun _ _ _ h => h) (Or.inl ⟨by rfl, ?_⟩) ?_ ?_
  rotate_left
  · intro w'
    go_simp
    with_reducible rfl
  rotate_left
  · simp only [Act.put, List.setIfInBounds_toArray, List.set_cons_zero, List.set_cons_succ, i64_w, i32_w]
    rfl
  refine one_ (i := 8) (N := some 5) #[true, true, true, true, true, true, true, true, true, false, false] rfl rfl (by kernel_rfl) (by decide) (fun K hK => ?_)
  refine value_ (w1 := ?_) (v := ?_) (by rfl) rfl ?_ ?_
  rotate_left 2
  · go_simp
    constructor
    · rfl
    · rfl
  refine hK.out _ _ ⟨(LN.out.alloc (.cells #[.int .i64 0, .string ⟨#[]⟩] 56)).cell, LC.out, LK2.out⟩ (fun hHeld => ?_)
  clear hK K
  refine norm_ (a' := ?_) ?_ ?_
  rotate_left
  · show Act.put _ (some 5) _ = _
    simp only [Act.put, List.setIfInBounds_toArray, List.set_cons_zero, List.set_cons_succ, i64_w, i32_w]
    rfl
  refine last_ (i := 9) (N := none) #[true, true, true, true, true, true, true, true, true, true, false] rfl rfl (by kernel_rfl) (by decide) (fun K hK => ?_)
  refine skip_ (w1 := ?_) (by rfl) rfl ?_ ?_
  rotate_left
  · go_simp
    rfl
  refine hK.out _ _ ?_
  clear hK K
  refine pure_ (i := 10) (N := some 6) (v := ?_) (a' := ?_) #[true, true, true, true, true, true, true, true, true, true, true] rfl rfl (by kernel_rfl) (fun _ _ _ h => h) (Or.inl ⟨by rfl, ?_⟩) ?_ ?_
  rotate_left
  · intro w'
    go_simp
    with_reducible rfl
  rotate_left
  · simp only [Act.put, List.setIfInBounds_toArray, List.set_cons_zero, List.set_cons_succ, i64_w, i32_w]
    rfl
  refine done_ (by kernel_rfl) ?_

  have D0 := Aside0.mk (show LQ w ((wd.alloc (.cells #[.int .i64 kd, .string ⟨#[43]⟩] 56)).alloc (.cells #[.int .i64 kd, .string ⟨#[]⟩, .string ⟨#[]⟩, .int .i64 0, .slice none 0 0, .slice none 0 0] 38)) (wd.alloc (.cells #[.int .i64 kd, .string ⟨#[43]⟩] 56)).heap.size w.heap.size wd.heap.size kd ⟨#[43]⟩ ⟨kd, ⟨#[]⟩, ⟨#[]⟩, 0, [], []⟩ (.slice none 0 0) (.slice none 0 0) (.slice (some ⟨g, 0, none⟩) (rest.length + 1) (rest.length + 1)) (hd :: rest) from
    ⟨⟨below_alloc (below_alloc B1d.out _) _, (below_alloc B1d.out _).size, Nat.le_refl _, by rw [World.size_alloc]; have := blk_lt W1d.out; omega, heap_alloc_new _ _, blk_alloc (blk_alloc W1d.out _) _, Kd.R_nil _ _ _ _ _, Kd.R_nil _ _ _ _ _, Kd.R_alloc (Kd.R_alloc RPd.out _) _⟩, blk_alloc (heap_alloc_new _ _) _, by rw [World.size_alloc]; omega⟩)
  have HAD := Aside0.mk ((LN.out.alloc (.cells #[.int .i64 kd, .string ⟨#[43]⟩] 56)).alloc (.cells #[.int .i64 kd, .string ⟨#[]⟩, .string ⟨#[]⟩, .int .i64 0, .slice none 0 0, .slice none 0 0] 38))
  rw [World.size_alloc] at D0
  clear hHeld LN LC LK2 RPd W1d B1d W0 B0
  by_cases hne : rest = []
  · have HO := Aside0.mk (show opOf s = none from by rw [HOP.out, if_neg (fun h => h.2 hne)])
    have hr0 : ((rest.length : Int) == 0) = true := by rw [hne]; rfl
    have hr1 : (rest.length == 0) = true := by rw [hne]; rfl
    clear hne
    obtain ⟨z0, z1, z2, z3, z4, z5, y0, y1, y2, y3, y4, y5, m, f, n1, n2⟩ := D0.out.lp.cells
    have m0 := m 0
    have m1 := m 1
    have m2 := m 2
    have m3 := m 3
    have m4 := m 4
    have m5 := m 5
    clear m f
    go_wp2
    refine bodyPost_ret (results_ct rfl _ _ w.heap.size 38 #[.int .i64 kd, .string ⟨#[]⟩, .string ⟨#[]⟩, .int .i64 0, .slice none 0 0, .slice none 0 0] (0, 0) _ rfl (put6 D0.out.lp.rb _ _ _ _ _ _) Tryd.underlying38 rfl (by kernel_rfl)) rfl ?_
    rw [HO.out]
    exact D0.out.lp.done none false rfl (by intro y h; cases h)

  have HNE := Aside0.mk hne
  have hr0 : ((rest.length : Int) == 0) = false := beq_eq_false_iff_ne.2 (by have := List.length_pos_iff.2 hne; omega)
  have hr1 : (rest.length == 0) = false := beq_eq_false_iff_ne.2 (by have := List.length_pos_iff.2 hne; omega)
  clear hne
  go_wp2_with fail
  generalize wd.heap.size + 1 = e at *
  generalize wd.heap.size = b at *
  clear hr0 hr1
  go_loopw [69] (fun v69 wr => ∃ (i : Nat) (l : List S50) (v4 : Value), v69 = .int .i64 (i : Int) ∧ i ≤ rest.length ∧ Aside0 (l = (rest.take i).map entryOf) ∧ Aside0 (LQ w wr e w.heap.size b kd ⟨#[43]⟩ ⟨kd, ⟨#[]⟩, ⟨#[]⟩, 0, l, []⟩ v4 (.slice none 0 0) (.slice (some ⟨g, 0, none⟩) (rest.length + 1) (rest.length + 1)) (hd :: rest)) ∧ Aside0 ((rest.take i).all itemB = true)) (fun v69 _ => rest.length - (intOf v69).toNat)
  case atStart => exact ⟨0, [], _, rfl, Nat.zero_le _, ⟨rfl⟩, D0, ⟨rfl⟩⟩
  case round =>
    clear D0
    obtain ⟨i, l, v4, rfl, hi, HLI, DD, HA2⟩ := hrel
    obtain ⟨A4, c4, h4⟩ := Kd.R_slice DD.out.lp.r4
    replace h4 : v4 = .slice A4 l.length c4 := h4
    subst h4
    by_cases hlt : i < rest.length
    · obtain ⟨ad, had, hcell⟩ := parts_at (HRD.out _ (parts_read DD.out.lp.rp)) i hlt
      subst had
      obtain ⟨p, hp⟩ : ∃ p, rest[i] = p := ⟨_, rfl⟩
      rw [hp] at hcell
      have HP' := Aside0.mk hp
      have HPZ := Aside0.mk (HPS.out p (by rw [← hp]; exact List.getElem_mem hlt))
      obtain ⟨kn, hn⟩ := Ev.rounds (num_eq p).2.1
      have HN := Aside0.mk hn
      obtain ⟨wo, wb, hwo⟩ : ∃ wo wb, wordOf p = (wo, wb) := ⟨_, _, rfl⟩
      have hwe := (word_eq p HPZ.out).2
      rw [hwo] at hwe
      obtain ⟨kw, hw'⟩ := Ev.rounds hwe
      have HW := Aside0.mk hw'
      have HWO := Aside0.mk hwo
      have HWZ := Aside0.mk (show wo.size < 4294967281 from by
        have h1 := word_size p
        rw [hwo] at h1
        exact Nat.lt_of_le_of_lt (Nat.le_trans h1 HPZ.out) (by decide))
      have kk := DD.out.k1
      obtain ⟨b1, hb1⟩ : ∃ b1, (⟨(Lib.cut wo.data.toList (⟨#[61]⟩ : ByteArray).data.toList).1.toArray⟩ : ByteArray) = b1 := ⟨_, rfl⟩
      obtain ⟨b2, hb2⟩ : ∃ b2, (⟨(Lib.cut wo.data.toList (⟨#[61]⟩ : ByteArray).data.toList).2.1.toArray⟩ : ByteArray) = b2 := ⟨_, rfl⟩
      obtain ⟨c3, hb3⟩ : ∃ c3, (Lib.cut wo.data.toList (⟨#[61]⟩ : ByteArray).data.toList).2.2 = c3 := ⟨_, rfl⟩
      have HEE := Aside0.mk (show entryOf wo = ⟨b1, 0, if c3 = true then 1 else 0, b2⟩ from by rw [← hb1, ← hb2, ← hb3]; rfl)
      have HB1 := Aside0.mk hb1
      have HB2 := Aside0.mk hb2
      have HB3 := Aside0.mk hb3
      clear hp hn hwo hwe hw' hb1 hb2 hb3
      go_wp2_with fail
      refine (impl_decimal.calls kn p _ _ HN.out).mono ?_
      rintro e' w3 ⟨rfl, hd0⟩
      obtain ⟨nd, rfl⟩ := hd0.out
      have D1 := Aside0.mk (DD.out.drawn nd)
      clear hd0 hcell
      generalize wr.drewN nd = w3 at *
      clear kk
      go_wp2_with fail
      refine (impl_word.calls kw p _ _ _ HW.out).mono ?_
      rintro e' w4 ⟨rfl, hd0⟩
      obtain ⟨nd2, rfl⟩ := hd0.out
      have D2 := Aside0.mk (D1.out.drawn nd2)
      clear hd0 DD D1
      generalize w3.drewN nd2 = w5 at *
      have LL := Aside0.mk (show (l.length + 1) * 48 ≤ 140737488355328 from by rw [HLI.out, List.length_map, List.length_take]; have := HL.out; have := HS.out; omega)
      have HWR := Aside0.mk (show wrap64 ((i : Int) + 1) = ((i + 1 : Nat) : Int) from wrap_succ (by have := HL.out; have := HS.out; omega))
      have HF := Aside0.mk (show itemB p = false → opOf s = none from fun hnb => by
        rw [HOP.out, if_neg]
        intro h
        have h2 := List.all_eq_true.1 h.1 p (by rw [← HP'.out]; exact List.getElem_mem hlt)
        rw [hnb] at h2
        cases h2)
      cases wb with
      | false =>
        have HO := Aside0.mk (HF.out (Bool.eq_false_iff.2 (fun h => by have h1 := ((itemB_iff p).1 h).1; rw [HWO.out] at h1; cases h1)))
        clear HLI HA2 HF
        go_wp2_with fail
        refine (Tryd.strings_Cut wo ⟨#[61]⟩ m _ HWZ.out (HA.out.below D2.out.lp.bel).max).mono ?_
        rw [HB1.out, HB2.out, HB3.out]
        rintro e' w6' ⟨rfl, nd3, rfl⟩
        have D2b := Aside0.mk (D2.out.drawn nd3)
        clear D2
        generalize w5.drewN nd3 = w6 at *
        cases c3 with
        | true =>
          have HE := Aside0.mk (show entryOf wo = (⟨b1, 0, 1, b2⟩ : S50) from HEE.out)
          have D3 := Aside0.mk (D2b.out.below (below_alloc (Below.refl w6.heap.size w6) (.cells #[.string b1, .int .i64 0, .int .i64 1, .string b2] 50)))
          have z4 := D3.out.lp.cells.z4
          clear D2b HEE
          go_upto_region 33 with ((with_reducible refine gate_builtin (b := .append) rfl ?_); refine Kd.R_append k50 (w0 := w) w.heap.size rfl (.tmp 134) (.tmp 136) 35 50 (.agg #[.string ⟨#[]⟩, .int .i64 0, .int .i64 0, .string ⟨#[]⟩]) 48 rfl Tryd.underlying35 info50 rfl (by decide) (by omega) (.slice A4 l.length c4) l (⟨b1, 0, 1, b2⟩ : S50) [.string b1, .int .i64 0, .int .i64 1, .string b2] (fun _ => True) (fun _ => False) rfl (by first | rfl | (go_simp; done) | (go_simp; rfl)) (k50_mkM _ _ _ (⟨b1, 0, 1, b2⟩ : S50)) (fun _ hk => hk.elim) (fun k hk => trivial) D3.out.lp.r4 D3.out.lp.bel (below_size D3.out.lp.bel) LL.out ?_; intro v1 w7 ho hb hgr hat; have q0 := grown_cell4 D3.out.lp hgr; have D5 := Aside0.mk (D3.out.grew4 ho hb hgr); obtain ⟨AX, cX, hv1⟩ := Kd.R_slice ho; rw [List.length_append, List.length_singleton] at hv1; subst hv1; clear ho hb hgr hat D3 z4; obtain ⟨⟨q, hq⟩, qf⟩ := q0)
          obtain ⟨z0, z1, z2, z3, z4, z5, y0, y1, y2, y3, y4, y5, m, f, n1, n2⟩ := D5.out.lp.cells
          have m0 := m 0
          have m1 := m 1
          have m2 := m 2
          have m3 := m 3
          have m4 := m 4
          have m5 := m 5
          clear m f
          go_wp2
          refine bodyPost_ret (results_ct rfl _ _ w.heap.size 38 #[.int .i64 kd, .string ⟨#[]⟩, .string ⟨#[]⟩, .int .i64 0, .slice AX (l.length + 1) cX, .slice none 0 0] (0, 0) _ rfl (put6 D5.out.lp.rb _ _ _ _ _ _) Tryd.underlying38 rfl (by kernel_rfl)) rfl ?_
          rw [HO.out]
          exact D5.out.lp.done none false rfl (by intro y h; cases h)
        | false =>
          have HE := Aside0.mk (show entryOf wo = (⟨b1, 0, 0, b2⟩ : S50) from HEE.out)
          have D3 := Aside0.mk (D2b.out.below (below_alloc (Below.refl w6.heap.size w6) (.cells #[.string b1, .int .i64 0, .int .i64 0, .string b2] 50)))
          have z4 := D3.out.lp.cells.z4
          clear D2b HEE
          go_upto_region 33 with ((with_reducible refine gate_builtin (b := .append) rfl ?_); refine Kd.R_append k50 (w0 := w) w.heap.size rfl (.tmp 134) (.tmp 136) 35 50 (.agg #[.string ⟨#[]⟩, .int .i64 0, .int .i64 0, .string ⟨#[]⟩]) 48 rfl Tryd.underlying35 info50 rfl (by decide) (by omega) (.slice A4 l.length c4) l (⟨b1, 0, 0, b2⟩ : S50) [.string b1, .int .i64 0, .int .i64 0, .string b2] (fun _ => True) (fun _ => False) rfl (by first | rfl | (go_simp; done) | (go_simp; rfl)) (k50_mkM _ _ _ (⟨b1, 0, 0, b2⟩ : S50)) (fun _ hk => hk.elim) (fun k hk => trivial) D3.out.lp.r4 D3.out.lp.bel (below_size D3.out.lp.bel) LL.out ?_; intro v1 w7 ho hb hgr hat; have q0 := grown_cell4 D3.out.lp hgr; have D5 := Aside0.mk (D3.out.grew4 ho hb hgr); obtain ⟨AX, cX, hv1⟩ := Kd.R_slice ho; rw [List.length_append, List.length_singleton] at hv1; subst hv1; clear ho hb hgr hat D3 z4; obtain ⟨⟨q, hq⟩, qf⟩ := q0)
          obtain ⟨z0, z1, z2, z3, z4, z5, y0, y1, y2, y3, y4, y5, m, f, n1, n2⟩ := D5.out.lp.cells
          have m0 := m 0
          have m1 := m 1
          have m2 := m 2
          have m3 := m 3
          have m4 := m 4
          have m5 := m 5
          clear m f
          go_wp2
          refine bodyPost_ret (results_ct rfl _ _ w.heap.size 38 #[.int .i64 kd, .string ⟨#[]⟩, .string ⟨#[]⟩, .int .i64 0, .slice AX (l.length + 1) cX, .slice none 0 0] (0, 0) _ rfl (put6 D5.out.lp.rb _ _ _ _ _ _) Tryd.underlying38 rfl (by kernel_rfl)) rfl ?_
          rw [HO.out]
          exact D5.out.lp.done none false rfl (by intro y h; cases h)

      | true =>
        by_cases hz : wo.size = 0
        · have hE : wo.toList.isEmpty = true := empty_list hz
          have HO := Aside0.mk (HF.out (Bool.eq_false_iff.2 (fun h => by have h1 := ((itemB_iff p).1 h).2; rw [HWO.out] at h1; exact h1 hz)))
          clear HLI HA2 HF hz
          go_wp2_with fail
          refine (Tryd.strings_Cut wo ⟨#[61]⟩ m _ HWZ.out (HA.out.below D2.out.lp.bel).max).mono ?_
          rw [HB1.out, HB2.out, HB3.out]
          rintro e' w6' ⟨rfl, nd3, rfl⟩
          have D2b := Aside0.mk (D2.out.drawn nd3)
          clear D2
          generalize w5.drewN nd3 = w6 at *
          cases c3 with
          | true =>
            have HE := Aside0.mk (show entryOf wo = (⟨b1, 0, 1, b2⟩ : S50) from HEE.out)
            have D3 := Aside0.mk (D2b.out.below (below_alloc (Below.refl w6.heap.size w6) (.cells #[.string b1, .int .i64 0, .int .i64 1, .string b2] 50)))
            have z4 := D3.out.lp.cells.z4
            clear D2b HEE
            go_upto_region 33 with ((with_reducible refine gate_builtin (b := .append) rfl ?_); refine Kd.R_append k50 (w0 := w) w.heap.size rfl (.tmp 134) (.tmp 136) 35 50 (.agg #[.string ⟨#[]⟩, .int .i64 0, .int .i64 0, .string ⟨#[]⟩]) 48 rfl Tryd.underlying35 info50 rfl (by decide) (by omega) (.slice A4 l.length c4) l (⟨b1, 0, 1, b2⟩ : S50) [.string b1, .int .i64 0, .int .i64 1, .string b2] (fun _ => True) (fun _ => False) rfl (by first | rfl | (go_simp; done) | (go_simp; rfl)) (k50_mkM _ _ _ (⟨b1, 0, 1, b2⟩ : S50)) (fun _ hk => hk.elim) (fun k hk => trivial) D3.out.lp.r4 D3.out.lp.bel (below_size D3.out.lp.bel) LL.out ?_; intro v1 w7 ho hb hgr hat; have q0 := grown_cell4 D3.out.lp hgr; have D5 := Aside0.mk (D3.out.grew4 ho hb hgr); obtain ⟨AX, cX, hv1⟩ := Kd.R_slice ho; rw [List.length_append, List.length_singleton] at hv1; subst hv1; clear ho hb hgr hat D3 z4; obtain ⟨⟨q, hq⟩, qf⟩ := q0)
            obtain ⟨z0, z1, z2, z3, z4, z5, y0, y1, y2, y3, y4, y5, m, f, n1, n2⟩ := D5.out.lp.cells
            have m0 := m 0
            have m1 := m 1
            have m2 := m 2
            have m3 := m 3
            have m4 := m 4
            have m5 := m 5
            clear m f
            go_wp2
            refine bodyPost_ret (results_ct rfl _ _ w.heap.size 38 #[.int .i64 kd, .string ⟨#[]⟩, .string ⟨#[]⟩, .int .i64 0, .slice AX (l.length + 1) cX, .slice none 0 0] (0, 0) _ rfl (put6 D5.out.lp.rb _ _ _ _ _ _) Tryd.underlying38 rfl (by kernel_rfl)) rfl ?_
            rw [HO.out]
            exact D5.out.lp.done none false rfl (by intro y h; cases h)
          | false =>
            have HE := Aside0.mk (show entryOf wo = (⟨b1, 0, 0, b2⟩ : S50) from HEE.out)
            have D3 := Aside0.mk (D2b.out.below (below_alloc (Below.refl w6.heap.size w6) (.cells #[.string b1, .int .i64 0, .int .i64 0, .string b2] 50)))
            have z4 := D3.out.lp.cells.z4
            clear D2b HEE
            go_upto_region 33 with ((with_reducible refine gate_builtin (b := .append) rfl ?_); refine Kd.R_append k50 (w0 := w) w.heap.size rfl (.tmp 134) (.tmp 136) 35 50 (.agg #[.string ⟨#[]⟩, .int .i64 0, .int .i64 0, .string ⟨#[]⟩]) 48 rfl Tryd.underlying35 info50 rfl (by decide) (by omega) (.slice A4 l.length c4) l (⟨b1, 0, 0, b2⟩ : S50) [.string b1, .int .i64 0, .int .i64 0, .string b2] (fun _ => True) (fun _ => False) rfl (by first | rfl | (go_simp; done) | (go_simp; rfl)) (k50_mkM _ _ _ (⟨b1, 0, 0, b2⟩ : S50)) (fun _ hk => hk.elim) (fun k hk => trivial) D3.out.lp.r4 D3.out.lp.bel (below_size D3.out.lp.bel) LL.out ?_; intro v1 w7 ho hb hgr hat; have q0 := grown_cell4 D3.out.lp hgr; have D5 := Aside0.mk (D3.out.grew4 ho hb hgr); obtain ⟨AX, cX, hv1⟩ := Kd.R_slice ho; rw [List.length_append, List.length_singleton] at hv1; subst hv1; clear ho hb hgr hat D3 z4; obtain ⟨⟨q, hq⟩, qf⟩ := q0)
            obtain ⟨z0, z1, z2, z3, z4, z5, y0, y1, y2, y3, y4, y5, m, f, n1, n2⟩ := D5.out.lp.cells
            have m0 := m 0
            have m1 := m 1
            have m2 := m 2
            have m3 := m 3
            have m4 := m 4
            have m5 := m 5
            clear m f
            go_wp2
            refine bodyPost_ret (results_ct rfl _ _ w.heap.size 38 #[.int .i64 kd, .string ⟨#[]⟩, .string ⟨#[]⟩, .int .i64 0, .slice AX (l.length + 1) cX, .slice none 0 0] (0, 0) _ rfl (put6 D5.out.lp.rb _ _ _ _ _ _) Tryd.underlying38 rfl (by kernel_rfl)) rfl ?_
            rw [HO.out]
            exact D5.out.lp.done none false rfl (by intro y h; cases h)

        · have hE : wo.toList.isEmpty = false := nonempty_list hz
          have hnb : itemB p = true := (itemB_iff p).2 (by rw [HWO.out]; exact ⟨rfl, hz⟩)
          have HWP := Aside0.mk (show wo = p from by
            have h1 := word_self p (by rw [HWO.out]) (by rw [HWO.out]; exact hz)
            rw [HWO.out] at h1
            exact h1)
          have HA3 := Aside0.mk (show (rest.take (i + 1)).all itemB = true from by
            rw [take_at _ i hlt, List.all_append, HA2.out, HP'.out]
            simp [hnb])
          clear hz hnb HA2 HF
          go_wp2_with fail
          refine (Tryd.strings_Cut wo ⟨#[61]⟩ m _ HWZ.out (HA.out.below D2.out.lp.bel).max).mono ?_
          rw [HB1.out, HB2.out, HB3.out]
          rintro e' w6' ⟨rfl, nd3, rfl⟩
          have D2b := Aside0.mk (D2.out.drawn nd3)
          clear D2
          generalize w5.drewN nd3 = w6 at *
          cases c3 with
          | true =>
            have HE := Aside0.mk (show entryOf wo = (⟨b1, 0, 1, b2⟩ : S50) from HEE.out)
            have D3 := Aside0.mk (D2b.out.below (below_alloc (Below.refl w6.heap.size w6) (.cells #[.string b1, .int .i64 0, .int .i64 1, .string b2] 50)))
            have z4 := D3.out.lp.cells.z4
            clear D2b HEE
            have HM := Aside0.mk (show l ++ [(⟨b1, 0, 1, b2⟩ : S50)] = (rest.take (i + 1)).map entryOf from by
              rw [take_at _ i hlt, List.map_append, HP'.out, HLI.out, List.map_singleton, ← HE.out, HWP.out])
            clear HLI HE
            go_wp2_with ((with_reducible refine gate_builtin (b := .append) rfl ?_); refine Kd.R_append k50 (w0 := w) w.heap.size rfl (.tmp 134) (.tmp 136) 35 50 (.agg #[.string ⟨#[]⟩, .int .i64 0, .int .i64 0, .string ⟨#[]⟩]) 48 rfl Tryd.underlying35 info50 rfl (by decide) (by omega) (.slice A4 l.length c4) l (⟨b1, 0, 1, b2⟩ : S50) [.string b1, .int .i64 0, .int .i64 1, .string b2] (fun _ => True) (fun _ => False) rfl (by first | rfl | (go_simp; done) | (go_simp; rfl)) (k50_mkM _ _ _ (⟨b1, 0, 1, b2⟩ : S50)) (fun _ hk => hk.elim) (fun k hk => trivial) D3.out.lp.r4 D3.out.lp.bel (below_size D3.out.lp.bel) LL.out ?_; intro v1 w7 ho hb hgr hat; have q0 := grown_cell4 D3.out.lp hgr; have D5 := Aside0.mk (D3.out.grew4 ho hb hgr); obtain ⟨AX, cX, hv1⟩ := Kd.R_slice ho; rw [List.length_append, List.length_singleton] at hv1; subst hv1; clear ho hb hgr hat D3 z4; obtain ⟨⟨q, hq⟩, qf⟩ := q0)
            go_roundw
            case rel => exact ⟨i + 1, l ++ [(⟨b1, 0, 1, b2⟩ : S50)], _, by rw [← HWR.out], hlt, HM, D5, HA3⟩
            case measure => rw [HWR.out]; exact meas_lt _ _ hlt
          | false =>
            have HE := Aside0.mk (show entryOf wo = (⟨b1, 0, 0, b2⟩ : S50) from HEE.out)
            have D3 := Aside0.mk (D2b.out.below (below_alloc (Below.refl w6.heap.size w6) (.cells #[.string b1, .int .i64 0, .int .i64 0, .string b2] 50)))
            have z4 := D3.out.lp.cells.z4
            clear D2b HEE
            have HM := Aside0.mk (show l ++ [(⟨b1, 0, 0, b2⟩ : S50)] = (rest.take (i + 1)).map entryOf from by
              rw [take_at _ i hlt, List.map_append, HP'.out, HLI.out, List.map_singleton, ← HE.out, HWP.out])
            clear HLI HE
            go_wp2_with ((with_reducible refine gate_builtin (b := .append) rfl ?_); refine Kd.R_append k50 (w0 := w) w.heap.size rfl (.tmp 134) (.tmp 136) 35 50 (.agg #[.string ⟨#[]⟩, .int .i64 0, .int .i64 0, .string ⟨#[]⟩]) 48 rfl Tryd.underlying35 info50 rfl (by decide) (by omega) (.slice A4 l.length c4) l (⟨b1, 0, 0, b2⟩ : S50) [.string b1, .int .i64 0, .int .i64 0, .string b2] (fun _ => True) (fun _ => False) rfl (by first | rfl | (go_simp; done) | (go_simp; rfl)) (k50_mkM _ _ _ (⟨b1, 0, 0, b2⟩ : S50)) (fun _ hk => hk.elim) (fun k hk => trivial) D3.out.lp.r4 D3.out.lp.bel (below_size D3.out.lp.bel) LL.out ?_; intro v1 w7 ho hb hgr hat; have q0 := grown_cell4 D3.out.lp hgr; have D5 := Aside0.mk (D3.out.grew4 ho hb hgr); obtain ⟨AX, cX, hv1⟩ := Kd.R_slice ho; rw [List.length_append, List.length_singleton] at hv1; subst hv1; clear ho hb hgr hat D3 z4; obtain ⟨⟨q, hq⟩, qf⟩ := q0)
            go_roundw
            case rel => exact ⟨i + 1, l ++ [(⟨b1, 0, 0, b2⟩ : S50)], _, by rw [← HWR.out], hlt, HM, D5, HA3⟩
            case measure => rw [HWR.out]; exact meas_lt _ _ hlt

    · have hie : i = rest.length := Nat.le_antisymm hi (Nat.not_lt.1 hlt)
      subst hie
      have HO := Aside0.mk (show opOf s = some ⟨kd, ⟨#[]⟩, ⟨#[]⟩, 0, l, []⟩ from by
        rw [HOP.out, if_pos ⟨by have h := HA2.out; rwa [List.take_length] at h, HNE.out⟩, HLI.out, List.take_length])
      clear HLI HA2 HRD
      obtain ⟨z0, z1, z2, z3, z4, z5, y0, y1, y2, y3, y4, y5, m, f, n1, n2⟩ := DD.out.lp.cells
      have m0 := m 0
      have m1 := m 1
      have m2 := m 2
      have m3 := m 3
      have m4 := m 4
      have m5 := m 5
      clear m f
      go_wp2
      refine bodyPost_ret (results_ct rfl _ _ w.heap.size 38 #[.int .i64 kd, .string ⟨#[]⟩, .string ⟨#[]⟩, .int .i64 0, .slice A4 l.length c4, .slice none 0 0] (0, 0) _ rfl (put6 DD.out.lp.rb _ _ _ _ _ _) Tryd.underlying38 rfl (by kernel_rfl)) rfl ?_
      rw [HO.out]
      exact DD.out.lp.done (some _) true rfl (by intro y h; exact Option.some.inj h)

set_option maxHeartbeats 8000000 in
set_option maxRecDepth 100000 in
theorem line_words (s : ByteArray) (w : World) (bm : Nat) (m : Int) (hA : LinesAt w bm m) (hs : s.size ≤ 1048576) (kd : Int) (sh si : ByteArray) (hks : kindOf (headW s) = (kd, sh)) (hlc : lineK (headW s) = (kd, si, true)) (h0 : kd ≠ 0) (htab : (sh, si) ∈ shapesTab) : Calls Tryd.prog 16 #[.string s] w (OpPost (opOf s) w) := by
  have hu38 := Tryd.underlying38
  have hu56 := Tryd.underlying56
  have W0 := Aside0.mk (heap_alloc_new w (.cells #[.int .i64 0, .string ⟨#[]⟩, .string ⟨#[]⟩, .int .i64 0, .slice none 0 0, .slice none 0 0] 38))
  have B0 := Aside0.mk (below_alloc (Below.refl w.heap.size w) (.cells #[.int .i64 0, .string ⟨#[]⟩, .string ⟨#[]⟩, .int .i64 0, .slice none 0 0, .slice none 0 0] 38))
  have HP := Aside0.mk (cut_parts s)
  have HL := Aside0.mk (rest_length s)
  have HS := Aside0.mk hs
  have HA := Aside0.mk hA
  have HDS := Aside0.mk (part_size s (headW s) (by rw [cut_parts]; exact List.mem_cons_self ..))
  have HPS := Aside0.mk (show ∀ x ∈ restW s, x.size ≤ 1048576 from fun x hx => Nat.le_trans (part_size s x (by rw [cut_parts]; exact List.mem_cons_of_mem _ hx)) hs)
  have HLC := Aside0.mk hlc
  obtain ⟨hrel, hsz, h1, h2, h3, h4⟩ := shapes_rel htab
  have HOP := Aside0.mk (show opOf s = (if (restW s).length = sh.size ∧ (sh.data.toList.zip (restW s)).all goodB = true then some ⟨kd, (wordsT (sh.data.toList.zip (restW s))).getD 0 ⟨#[]⟩, (wordsT (sh.data.toList.zip (restW s))).getD 1 ⟨#[]⟩, numT 0 (sh.data.toList.zip (restW s)), [], []⟩ else none) from by
    unfold opOf
    rw [hks]
    show (if kd = 0 then none else if sh.toList = ([42] : List UInt8) then _ else if sh.toList = ([43] : List UInt8) then _ else _) = _
    rw [if_neg h0, if_neg (by rw [ByteArray.toList_eq]; exact h1), if_neg (by rw [ByteArray.toList_eq]; exact h2)])
  have b42 : (si.toList == ([42] : List UInt8)) = false := beq_eq_false_iff_ne.2 (by rw [ByteArray.toList_eq]; exact h3)
  have b43 : (si.toList == ([43] : List UInt8)) = false := beq_eq_false_iff_ne.2 (by rw [ByteArray.toList_eq]; exact h4)
  have HREL0 := Aside0.mk hrel
  have HSZ := Aside0.mk hsz
  clear h0 h1 h2 h3 h4 hrel hsz htab
  clear hA hlc hks
  go_enter Tryd.func16, Tryd.ntmps16
  go_wp2_with fail
  refine (Tryd.strings_Split s ⟨#[32]⟩ m _ (by omega) (HA.out.below B0.out).max (by decide)).mono ?_
  rintro e w1 ⟨rfl, hw⟩
  have ho := split_row (w.alloc (.cells #[.int .i64 0, .string ⟨#[]⟩, .string ⟨#[]⟩, .int .i64 0, .slice none 0 0, .slice none 0 0] 38)) w.heap.size s 32 B0.out.size hs
  have hb := below_alloc (Below.refl (w.alloc (.cells #[.int .i64 0, .string ⟨#[]⟩, .string ⟨#[]⟩, .int .i64 0, .slice none 0 0, .slice none 0 0] 38)).heap.size (w.alloc (.cells #[.int .i64 0, .string ⟨#[]⟩, .string ⟨#[]⟩, .int .i64 0, .slice none 0 0, .slice none 0 0] 38))) (.cells ((Lib.splitB ⟨#[32]⟩ 0 (Lib.countB s ⟨#[32]⟩) s).map Value.string).toArray 9)
  rw [← hw] at ho hb
  rw [count_cut]
  rw [HP.out] at ho ⊢
  clear hw hs
  generalize headW s = hd at *
  generalize restW s = rest at *
  rw [World.size_alloc, List.length_cons] at ho ⊢
  have hc0 := (Kd.R_celln ByteArray.empty ho 0 (Int.le_refl _) (Int.ofNat_lt.2 (Nat.succ_pos _))).1
  replace hc0 : w1.drew.cell? ⟨w.heap.size + 1, 0, none⟩ = some (.string hd) := hc0
  have RP := Aside0.mk ho
  have W1 := Aside0.mk ((hb.block _ (blk_lt W0.out)).trans W0.out)
  have B1 := Aside0.mk (below_step B0.out hb)
  obtain ⟨A8, hdr, hrd⟩ := parts_tail (w.heap.size + 1) (rest.length + 1) hd rest (Nat.le_refl _)
  have HRD := Aside0.mk hrd
  have HA1 := Aside0.mk ((HA.out.below B0.out).below hb)
  have hgl : w.heap.size + 1 < w1.drew.heap.size := Kd.R_lt ho _ (by simp [Value.ownBlock])
  clear hrd ho hb
  generalize w.heap.size + 1 = g at *
  go_upto_region 2 with fail
  have LN := Aside0.mk (show LinesAt w1.drew bm m from HA1.out.below (below_drew (Below.refl _ _)))
  have RPd := Aside0.mk (Kd.R_drew RP.out)
  have W1d := Aside0.mk (show w1.drew.heap[w.heap.size]? = some (.cells #[.int .i64 0, .string ⟨#[]⟩, .string ⟨#[]⟩, .int .i64 0, .slice none 0 0, .slice none 0 0] 38) from W1.out)
  have B1d := Aside0.mk (below_drew B1.out)
  have LC := Aside0.mk (show (w1.drew.alloc (.cells #[.int .i64 0, .string ⟨#[]⟩] 56)).cell? ⟨g, 0, none⟩ = some (.string hd) from (World.cell?_alloc_lt _ _ _ hgl).trans hc0)
  have hcm := LN.out.cell
  have hlk := LN.out.find (Nat.le_trans HDS.out HS.out) HLC.out
  have LK2 := Aside0.mk ((LN.out.alloc (.cells #[.int .i64 0, .string ⟨#[]⟩] 56)).find (Nat.le_trans HDS.out HS.out) HLC.out)
  clear hgl
  refine start_ (n := 11) (S := fun w' => w'.cell? ⟨0, 0, none⟩ = some (.map (some bm)) ∧ w'.cell? ⟨g, 0, none⟩ = some (.string hd) ∧ (Instr.lookup 58 (.map (some bm)) (.string hd) true).run Tryd.prog w' = .ok (.tuple #[.agg #[.int .i64 kd, .string si], .bool true]) w') (ds := [9]) #[false, false, false, false, false, false, false, false, false, false, false] (by kernel_rfl) rfl rfl ⟨hcm, hc0, hlk⟩ (fun hHeld => ?_)
  clear hcm hc0 hlk W1 B1 RP HA1
  generalize w1.drew = wd at LN LC LK2 RPd W1d B1d hHeld ⊢
  refine pure_ (i := 1) (N := some 23) (v := ?_) (a' := ?_) #[false, true, false, false, false, false, false, false, false, false, false] rfl rfl (by kernel_rfl) (fun _ _ _ h => h) (Or.inl ⟨by rfl, ?_⟩) ?_ ?_
  rotate_left
  · intro w'
    go_simp
    with_reducible rfl
  rotate_left
  · simp only [Act.put, List.setIfInBounds_toArray, List.set_cons_zero, List.set_cons_succ, i64_w, i32_w]
    rfl
  refine pure_ (i := 2) (N := some 24) (v := ?_) (a' := ?_) #[false, true, true, false, false, false, false, false, false, false, false] rfl rfl (by kernel_rfl) (fun _ _ _ h => h) (Or.inl ⟨by rfl, ?_⟩) ?_ ?_
  rotate_left
  · intro w'
    go_simp
    with_reducible rfl
  rotate_left
  · simp only [Act.put, List.setIfInBounds_toArray, List.set_cons_zero, List.set_cons_succ, i64_w, i32_w]
    rfl
  refine take_ (i := 0) (N := some 22) (v := ?_) (a' := ?_) #[true, true, true, false, false, false, false, false, false, false, false] rfl rfl (by kernel_rfl) (fun _ _ _ h => h) (Or.inl ⟨by rfl, ?_⟩) hHeld ?_ ?_
  rotate_left
  · rintro w' ⟨s0, s1, s2⟩
    go_simp
    with_reducible rfl
  rotate_left
  · simp only [Act.put, List.setIfInBounds_toArray, List.set_cons_zero, List.set_cons_succ, i64_w, i32_w]
    rfl
  refine take_ (i := 3) (N := some 25) (v := ?_) (a' := ?_) #[true, true, true, true, false, false, false, false, false, false, false] rfl rfl (by kernel_rfl) (fun _ _ _ h => h) (Or.inl ⟨by rfl, ?_⟩) hHeld ?_ ?_
  rotate_left
  · rintro w' ⟨s0, s1, s2⟩
    go_simp
    with_reducible rfl
  rotate_left
  · simp only [Act.put, List.setIfInBounds_toArray, List.set_cons_zero, List.set_cons_succ, i64_w, i32_w]
    rfl
  refine take_ (i := 4) (N := some 26) (v := ?_) (a' := ?_) #[true, true, true, true, true, false, false, false, false, false, false] rfl rfl (by kernel_rfl) (fun _ _ _ h => h) (Or.inl ⟨by rfl, ?_⟩) hHeld ?_ ?_
  rotate_left
  · rintro w' ⟨s0, s1, s2⟩
    go_simp
    with_reducible rfl
  rotate_left
  · simp only [Act.put, List.setIfInBounds_toArray, List.set_cons_zero, List.set_cons_succ, i64_w, i32_w]
    rfl
  refine pure_ (i := 5) (N := some 21) (v := ?_) (a' := ?_) #[true, true, true, true, true, true, false, false, false, false, false] rfl rfl (by kernel_rfl) (fun _ _ _ h => h) (Or.inl ⟨by rfl, ?_⟩) ?_ ?_
  rotate_left
  · intro w'
    go_simp
    with_reducible rfl
  rotate_left
  · simp only [Act.put, List.setIfInBounds_toArray, List.set_cons_zero, List.set_cons_succ, i64_w, i32_w]
    rfl
  refine pure_ (i := 6) (N := some 27) (v := ?_) (a' := ?_) #[true, true, true, true, true, true, true, false, false, false, false] rfl rfl (by kernel_rfl) (fun _ _ _ h => h) (Or.inl ⟨by rfl, ?_⟩) ?_ ?_
  rotate_left
  · intro w'
    go_simp
    with_reducible rfl
  rotate_left
  · simp only [Act.put, List.setIfInBounds_toArray, List.set_cons_zero, List.set_cons_succ, i64_w, i32_w]
    rfl
  refine pure_ (i := 7) (N := some 28) (v := ?_) (a' := ?_) #[true, true, true, true, true, true, true, true, false, false, false] rfl rfl (by kernel_rfl) (fun _ _ _ h => h) (Or.inl ⟨by rfl, ?_⟩) ?_ ?_
  rotate_left
  · intro w'
    go_simp
    with_reducible rfl
  rotate_left
  · simp only [Act.put, List.setIfInBounds_toArray, List.set_cons_zero, List.set_cons_succ, i64_w, i32_w]
    rfl
  refine one_ (i := 8) (N := some 5) #[true, true, true, true, true, true, true, true, true, false, false] rfl rfl (by kernel_rfl) (by decide) (fun K hK => ?_)
  refine value_ (w1 := ?_) (v := ?_) (by rfl) rfl ?_ ?_
  rotate_left 2
  · go_simp
    constructor
    · rfl
    · rfl
  refine hK.out _ _ ⟨(LN.out.alloc (.cells #[.int .i64 0, .string ⟨#[]⟩] 56)).cell, LC.out, LK2.out⟩ (fun hHeld => ?_)
  clear hK K
  refine norm_ (a' := ?_) ?_ ?_
  rotate_left
  · show Act.put _ (some 5) _ = _
    simp only [Act.put, List.setIfInBounds_toArray, List.set_cons_zero, List.set_cons_succ, i64_w, i32_w]
    rfl
  refine last_ (i := 9) (N := none) #[true, true, true, true, true, true, true, true, true, true, false] rfl rfl (by kernel_rfl) (by decide) (fun K hK => ?_)
  refine skip_ (w1 := ?_) (by rfl) rfl ?_ ?_
  rotate_left
  · go_simp
    rfl
  refine hK.out _ _ ?_
  clear hK K
  refine pure_ (i := 10) (N := some 6) (v := ?_) (a' := ?_) #[true, true, true, true, true, true, true, true, true, true, true] rfl rfl (by kernel_rfl) (fun _ _ _ h => h) (Or.inl ⟨by rfl, ?_⟩) ?_ ?_
  rotate_left
  · intro w'
    go_simp
    with_reducible rfl
  rotate_left
  · simp only [Act.put, List.setIfInBounds_toArray, List.set_cons_zero, List.set_cons_succ, i64_w, i32_w]
    rfl
  refine done_ (by kernel_rfl) ?_

  have D0 := Aside0.mk (show LQ w ((wd.alloc (.cells #[.int .i64 kd, .string si] 56)).alloc (.cells #[.int .i64 kd, .string ⟨#[]⟩, .string ⟨#[]⟩, .int .i64 0, .slice none 0 0, .slice none 0 0] 38)) (wd.alloc (.cells #[.int .i64 kd, .string si] 56)).heap.size w.heap.size wd.heap.size kd si ⟨kd, ⟨#[]⟩, ⟨#[]⟩, 0, [], []⟩ (.slice none 0 0) (.slice none 0 0) (.slice (some ⟨g, 0, none⟩) (rest.length + 1) (rest.length + 1)) (hd :: rest) from
    ⟨⟨below_alloc (below_alloc B1d.out _) _, (below_alloc B1d.out _).size, Nat.le_refl _, by rw [World.size_alloc]; have := blk_lt W1d.out; omega, heap_alloc_new _ _, blk_alloc (blk_alloc W1d.out _) _, Kd.R_nil _ _ _ _ _, Kd.R_nil _ _ _ _ _, Kd.R_alloc (Kd.R_alloc RPd.out _) _⟩, blk_alloc (heap_alloc_new _ _) _, by rw [World.size_alloc]; omega⟩)
  have HAD := Aside0.mk ((LN.out.alloc (.cells #[.int .i64 kd, .string si] 56)).alloc (.cells #[.int .i64 kd, .string ⟨#[]⟩, .string ⟨#[]⟩, .int .i64 0, .slice none 0 0, .slice none 0 0] 38))
  rw [World.size_alloc] at D0
  clear hHeld LN LC LK2 RPd W1d B1d W0 B0
  by_cases hlen : rest.length = si.size
  rotate_left
  · have HO := Aside0.mk (show opOf s = none from by rw [HOP.out, if_neg (fun h => hlen (h.1.trans HSZ.out))])
    have t0 : ((rest.length : Int) == (si.size : Int)) = false := beq_eq_false_iff_ne.2 (by omega)
    have t1 : ((rest.length : Int) != (si.size : Int)) = true := bne_iff_ne.2 (by omega)
    clear hlen
    obtain ⟨z0, z1, z2, z3, z4, z5, y0, y1, y2, y3, y4, y5, m, f, n1, n2⟩ := D0.out.lp.cells
    have m0 := m 0
    have m1 := m 1
    have m2 := m 2
    have m3 := m 3
    have m4 := m 4
    have m5 := m 5
    clear m f
    go_wp2
    refine bodyPost_ret (results_ct rfl _ _ w.heap.size 38 #[.int .i64 kd, .string ⟨#[]⟩, .string ⟨#[]⟩, .int .i64 0, .slice none 0 0, .slice none 0 0] (0, 0) _ rfl (put6 D0.out.lp.rb _ _ _ _ _ _) Tryd.underlying38 rfl (by kernel_rfl)) rfl ?_
    rw [HO.out]
    exact D0.out.lp.done none false rfl (by intro y h; cases h)

  · have t0 : ((rest.length : Int) == (si.size : Int)) = true := beq_iff_eq.2 (by omega)
    have t1 : ((rest.length : Int) != (si.size : Int)) = false := bne_eq_false_iff_eq.2 (by omega)
    have HLE := Aside0.mk hlen
    clear hlen
    go_wp2_with fail
    generalize wd.heap.size + 1 = e at *
    generalize wd.heap.size = b at *
    clear t0 t1
    go_loopw [69] (fun v69 wr => ∃ (i : Nat) (l : List ByteArray) (n : Int) (key val : ByteArray), v69 = .int .i64 (i : Int) ∧ i ≤ rest.length ∧ Aside0 (l = wordsT ((sh.data.toList.zip rest).take i)) ∧ Aside0 (n = numT 0 ((sh.data.toList.zip rest).take i)) ∧ Aside0 (key = l.getD 0 ⟨#[]⟩ ∧ val = l.getD 1 ⟨#[]⟩) ∧ Aside0 (LQ w wr e w.heap.size b kd si ⟨kd, key, val, n, [], []⟩ (.slice none 0 0) (.slice none 0 0) (.slice (some ⟨g, 0, none⟩) (rest.length + 1) (rest.length + 1)) (hd :: rest)) ∧ Aside0 (((sh.data.toList.zip rest).take i).all goodB = true) ∧ Aside0 (relB l.length (sh.data.toList.drop i) (si.data.toList.drop i) = true)) (fun v69 _ => rest.length - (intOf v69).toNat)
    case atStart => exact ⟨0, [], 0, _, _, rfl, Nat.zero_le _, ⟨rfl⟩, ⟨rfl⟩, ⟨rfl, rfl⟩, D0, ⟨rfl⟩, HREL0⟩
    case round =>
      clear D0
      obtain ⟨i, l, n, key, val, rfl, hi, HLI, HNI, HKV, DD, HA2, HREL⟩ := hrel
      by_cases hlt : i < rest.length
      · obtain ⟨ad, had, hcell⟩ := parts_at (HRD.out _ (parts_read DD.out.lp.rp)) i hlt
        subst had
        have hls : i < si.data.toList.length := by rw [dsize]; have := HLE.out; omega
        have hlp : i < sh.data.toList.length := by rw [dsize]; have := HLE.out; have := HSZ.out; omega
        have hb0 : 0 < si.size := by have := HLE.out; omega
        have hb00 : decide ((0 : Int) < (si.size : Int)) = true := decide_eq_true (by omega)
        have hb1 : decide ((i : Int) < (si.size : Int)) = true := decide_eq_true (by have := HLE.out; omega)
        have hb2 : decide (i < si.size) = true := decide_eq_true (by have := HLE.out; omega)
        have hb3 : i < si.size := by have := HLE.out; omega
        obtain ⟨p, hp⟩ : ∃ p, rest[i] = p := ⟨_, rfl⟩
        rw [hp] at hcell
        have HPZ := Aside0.mk (HPS.out p (by rw [← hp]; exact List.getElem_mem hlt))
        obtain ⟨kn, hn⟩ := Ev.rounds (num_eq p).2.1
        have HN := Aside0.mk hn
        obtain ⟨wo, wb, hwo⟩ : ∃ wo wb, wordOf p = (wo, wb) := ⟨_, _, rfl⟩
        have hwe := (word_eq p HPZ.out).2
        rw [hwo] at hwe
        obtain ⟨kw, hw'⟩ := Ev.rounds hwe
        have HW := Aside0.mk hw'
        have HWO := Aside0.mk hwo
        obtain ⟨ca, hca⟩ : ∃ ca, sh.data.toList[i] = ca := ⟨_, rfl⟩
        have HZ := Aside0.mk (show (sh.data.toList.zip rest).take (i + 1) = (sh.data.toList.zip rest).take i ++ [(ca, p)] from by rw [zip_at _ _ i hlp hlt, hp, hca])
        have HZF := Aside0.mk (show goodB (ca, p) = false → opOf s = none from fun h => by
          rw [HOP.out, if_neg (fun h2 => zip_all _ _ i hlp hlt (by rw [hp, hca]; exact h) h2.2)])
        have HZT := Aside0.mk (show goodB (ca, p) = true → ((sh.data.toList.zip rest).take (i + 1)).all goodB = true from fun h => by
          rw [HZ.out, List.all_append, HA2.out]; simp [h])
        have HWR := Aside0.mk (show wrap64 ((i : Int) + 1) = ((i + 1 : Nat) : Int) from wrap_succ (by have := HL.out; have := HS.out; omega))
        have hst := rel_step hlp hls HREL.out
        rw [hca] at hst
        clear hp hn hwo hwe hw' hca
        rcases hst with ⟨hc, ha, hrel2⟩ | ⟨hc, ha, hk, hrel2⟩ | ⟨hc, ha, hk, hrel2⟩
        · skip
          have hch : ((si[i]'hb3).toNat : Int) = 78 := by
            have : ((si[i]'hb3).toNat : Int) = ((si.data.toList[i]'hls).toNat : Int) := rfl
            rw [this, hc]
            rfl
          have kk := DD.out.k1
          go_wp2_with fail
          refine (impl_decimal.calls kn p _ _ HN.out).mono ?_
          rintro e' w3 ⟨rfl, hd0⟩
          obtain ⟨nd, rfl⟩ := hd0.out
          have D1 := Aside0.mk (DD.out.drawn nd)
          clear hd0 hcell
          generalize wr.drewN nd = w3 at *
          clear kk
          go_wp2_with fail
          refine (impl_word.calls kw p _ _ _ HW.out).mono ?_
          rintro e' w4 ⟨rfl, hd0⟩
          obtain ⟨nd2, rfl⟩ := hd0.out
          have D2 := Aside0.mk (D1.out.drawn nd2)
          clear hd0 DD D1
          generalize w3.drewN nd2 = w5 at *
          cases hnb : numB p with
          | false =>
            have HO := Aside0.mk (HZF.out (by unfold goodB; rw [if_pos ha]; exact hnb))
            have hb1 : (numD p != -2) = false := by
              rcases (num_eq p).2.2 with ⟨h1, _⟩ | ⟨_, h2⟩
              · rw [hnb] at h1; cases h1
              · rw [h2]; rfl
            clear hnb ha HLI HNI HA2 HZ HZF HZT HKV HREL hrel2
            have q0 := (show ∃ q, w5.cell? ⟨e, 3, none⟩ = some q from ⟨_, D2.out.lp.cells.z3⟩)
            have qf := D2.out.lp.cells.f 3
            have D5 := Aside0.mk (D2.out.set3 (numD p))
            obtain ⟨q, hq⟩ := q0
            clear D2
            go_upto_region 33 with fail
            obtain ⟨z0, z1, z2, z3, z4, z5, y0, y1, y2, y3, y4, y5, m, f, n1, n2⟩ := D5.out.lp.cells
            have m0 := m 0
            have m1 := m 1
            have m2 := m 2
            have m3 := m 3
            have m4 := m 4
            have m5 := m 5
            clear m f
            go_wp2
            refine bodyPost_ret (results_ct rfl _ _ w.heap.size 38 #[.int .i64 kd, .string key, .string val, .int .i64 (numD p), .slice none 0 0, .slice none 0 0] (0, 0) _ rfl (put6 D5.out.lp.rb _ _ _ _ _ _) Tryd.underlying38 rfl (by kernel_rfl)) rfl ?_
            rw [HO.out]
            exact D5.out.lp.done none false rfl (by intro y h; cases h)
          | true =>
            have HG := Aside0.mk (HZT.out (by unfold goodB; rw [if_pos ha]; exact hnb))
            have hb1 : (numD p != -2) = true := bne_iff_ne.2 ((numB_iff p).1 hnb)
            have HL2 := Aside0.mk (show l = wordsT ((sh.data.toList.zip rest).take (i + 1)) from by rw [HZ.out, wordsT_snoc, if_pos ha, HLI.out])
            have HN2 := Aside0.mk (show numD p = numT 0 ((sh.data.toList.zip rest).take (i + 1)) from by rw [HZ.out, numT_snoc, if_pos ha])
            have HR2 := Aside0.mk hrel2
            clear hnb ha HLI HNI HA2 HZ HZF HZT HREL hrel2
            have q0 := (show ∃ q, w5.cell? ⟨e, 3, none⟩ = some q from ⟨_, D2.out.lp.cells.z3⟩)
            have qf := D2.out.lp.cells.f 3
            have D5 := Aside0.mk (D2.out.set3 (numD p))
            obtain ⟨q, hq⟩ := q0
            clear D2
            go_wp2
            go_roundw
            case rel => exact ⟨i + 1, l, numD p, key, val, by rw [← HWR.out], hlt, HL2, HN2, HKV, D5, HG, HR2⟩
            case measure => rw [HWR.out]; exact meas_lt _ _ hlt

        · skip
          have hch : ((si[i]'hb3).toNat : Int) = 75 := by
            have : ((si[i]'hb3).toNat : Int) = ((si.data.toList[i]'hls).toNat : Int) := rfl
            rw [this, hc]
            rfl
          have kk := DD.out.k1
          go_wp2_with fail
          refine (impl_decimal.calls kn p _ _ HN.out).mono ?_
          rintro e' w3 ⟨rfl, hd0⟩
          obtain ⟨nd, rfl⟩ := hd0.out
          have D1 := Aside0.mk (DD.out.drawn nd)
          clear hd0 hcell
          generalize wr.drewN nd = w3 at *
          clear kk
          go_wp2_with fail
          refine (impl_word.calls kw p _ _ _ HW.out).mono ?_
          rintro e' w4 ⟨rfl, hd0⟩
          obtain ⟨nd2, rfl⟩ := hd0.out
          have D2 := Aside0.mk (D1.out.drawn nd2)
          clear hd0 DD D1
          generalize w3.drewN nd2 = w5 at *
          cases hnb : wb with
          | false =>
            have HO := Aside0.mk (HZF.out (by unfold goodB; rw [if_neg ha, HWO.out]; exact hnb))
            clear hnb ha HLI HNI HA2 HZ HZF HZT HKV HREL hrel2
            have q0 := (show ∃ q, w5.cell? ⟨e, 1, none⟩ = some q from ⟨_, D2.out.lp.cells.z1⟩)
            have qf := D2.out.lp.cells.f 1
            have D5 := Aside0.mk (D2.out.set1 wo)
            obtain ⟨q, hq⟩ := q0
            clear D2
            go_upto_region 33 with fail
            obtain ⟨z0, z1, z2, z3, z4, z5, y0, y1, y2, y3, y4, y5, m, f, n1, n2⟩ := D5.out.lp.cells
            have m0 := m 0
            have m1 := m 1
            have m2 := m 2
            have m3 := m 3
            have m4 := m 4
            have m5 := m 5
            clear m f
            go_wp2
            refine bodyPost_ret (results_ct rfl _ _ w.heap.size 38 #[.int .i64 kd, .string wo, .string val, .int .i64 n, .slice none 0 0, .slice none 0 0] (0, 0) _ rfl (put6 D5.out.lp.rb _ _ _ _ _ _) Tryd.underlying38 rfl (by kernel_rfl)) rfl ?_
            rw [HO.out]
            exact D5.out.lp.done none false rfl (by intro y h; cases h)
          | true =>
            have HG := Aside0.mk (HZT.out (by unfold goodB; rw [if_neg ha, HWO.out]; exact hnb))
            have HL2 := Aside0.mk (show l ++ [wo] = wordsT ((sh.data.toList.zip rest).take (i + 1)) from by rw [HZ.out, wordsT_snoc, if_neg ha, HLI.out, HWO.out])
            have HN2 := Aside0.mk (show n = numT 0 ((sh.data.toList.zip rest).take (i + 1)) from by rw [HZ.out, numT_snoc, if_neg ha, HNI.out])
            have HKV2 := Aside0.mk (show wo = (l ++ [wo]).getD 0 ⟨#[]⟩ ∧ val = (l ++ [wo]).getD 1 ⟨#[]⟩ from by have := List.eq_nil_of_length_eq_zero hk; subst this; exact ⟨rfl, HKV.out.2⟩)
            have HR2 := Aside0.mk (show relB (l ++ [wo]).length (sh.data.toList.drop (i + 1)) (si.data.toList.drop (i + 1)) = true from by rw [List.length_append, List.length_singleton]; exact hrel2)
            clear hnb ha hk HLI HNI HA2 HZ HZF HZT HREL HKV hrel2
            have q0 := (show ∃ q, w5.cell? ⟨e, 1, none⟩ = some q from ⟨_, D2.out.lp.cells.z1⟩)
            have qf := D2.out.lp.cells.f 1
            have D5 := Aside0.mk (D2.out.set1 wo)
            obtain ⟨q, hq⟩ := q0
            clear D2
            go_wp2
            go_roundw
            case rel => exact ⟨i + 1, l ++ [wo], n, wo, val, by rw [← HWR.out], hlt, HL2, HN2, HKV2, D5, HG, HR2⟩
            case measure => rw [HWR.out]; exact meas_lt _ _ hlt

        · skip
          have hch : ((si[i]'hb3).toNat : Int) = 86 := by
            have : ((si[i]'hb3).toNat : Int) = ((si.data.toList[i]'hls).toNat : Int) := rfl
            rw [this, hc]
            rfl
          have kk := DD.out.k1
          go_wp2_with fail
          refine (impl_decimal.calls kn p _ _ HN.out).mono ?_
          rintro e' w3 ⟨rfl, hd0⟩
          obtain ⟨nd, rfl⟩ := hd0.out
          have D1 := Aside0.mk (DD.out.drawn nd)
          clear hd0 hcell
          generalize wr.drewN nd = w3 at *
          clear kk
          go_wp2_with fail
          refine (impl_word.calls kw p _ _ _ HW.out).mono ?_
          rintro e' w4 ⟨rfl, hd0⟩
          obtain ⟨nd2, rfl⟩ := hd0.out
          have D2 := Aside0.mk (D1.out.drawn nd2)
          clear hd0 DD D1
          generalize w3.drewN nd2 = w5 at *
          cases hnb : wb with
          | false =>
            have HO := Aside0.mk (HZF.out (by unfold goodB; rw [if_neg ha, HWO.out]; exact hnb))
            clear hnb ha HLI HNI HA2 HZ HZF HZT HKV HREL hrel2
            have q0 := (show ∃ q, w5.cell? ⟨e, 2, none⟩ = some q from ⟨_, D2.out.lp.cells.z2⟩)
            have qf := D2.out.lp.cells.f 2
            have D5 := Aside0.mk (D2.out.set2 wo)
            obtain ⟨q, hq⟩ := q0
            clear D2
            go_upto_region 33 with fail
            obtain ⟨z0, z1, z2, z3, z4, z5, y0, y1, y2, y3, y4, y5, m, f, n1, n2⟩ := D5.out.lp.cells
            have m0 := m 0
            have m1 := m 1
            have m2 := m 2
            have m3 := m 3
            have m4 := m 4
            have m5 := m 5
            clear m f
            go_wp2
            refine bodyPost_ret (results_ct rfl _ _ w.heap.size 38 #[.int .i64 kd, .string key, .string wo, .int .i64 n, .slice none 0 0, .slice none 0 0] (0, 0) _ rfl (put6 D5.out.lp.rb _ _ _ _ _ _) Tryd.underlying38 rfl (by kernel_rfl)) rfl ?_
            rw [HO.out]
            exact D5.out.lp.done none false rfl (by intro y h; cases h)
          | true =>
            have HG := Aside0.mk (HZT.out (by unfold goodB; rw [if_neg ha, HWO.out]; exact hnb))
            have HL2 := Aside0.mk (show l ++ [wo] = wordsT ((sh.data.toList.zip rest).take (i + 1)) from by rw [HZ.out, wordsT_snoc, if_neg ha, HLI.out, HWO.out])
            have HN2 := Aside0.mk (show n = numT 0 ((sh.data.toList.zip rest).take (i + 1)) from by rw [HZ.out, numT_snoc, if_neg ha, HNI.out])
            have HKV2 := Aside0.mk (show key = (l ++ [wo]).getD 0 ⟨#[]⟩ ∧ wo = (l ++ [wo]).getD 1 ⟨#[]⟩ from by obtain ⟨a0, rfl⟩ := List.length_eq_one_iff.1 hk; exact ⟨HKV.out.1, rfl⟩)
            have HR2 := Aside0.mk (show relB (l ++ [wo]).length (sh.data.toList.drop (i + 1)) (si.data.toList.drop (i + 1)) = true from by rw [List.length_append, List.length_singleton]; exact hrel2)
            clear hnb ha hk HLI HNI HA2 HZ HZF HZT HREL HKV hrel2
            have q0 := (show ∃ q, w5.cell? ⟨e, 2, none⟩ = some q from ⟨_, D2.out.lp.cells.z2⟩)
            have qf := D2.out.lp.cells.f 2
            have D5 := Aside0.mk (D2.out.set2 wo)
            obtain ⟨q, hq⟩ := q0
            clear D2
            go_wp2
            go_roundw
            case rel => exact ⟨i + 1, l ++ [wo], n, key, wo, by rw [← HWR.out], hlt, HL2, HN2, HKV2, D5, HG, HR2⟩
            case measure => rw [HWR.out]; exact meas_lt _ _ hlt

      · have hie : i = rest.length := Nat.le_antisymm hi (Nat.not_lt.1 hlt)
        subst hie
        have hzl : (sh.data.toList.zip rest).length = rest.length := by rw [List.length_zip, dsize, HSZ.out, ← HLE.out, Nat.min_self]
        have HT := Aside0.mk (show l = wordsT (sh.data.toList.zip rest) ∧ n = numT 0 (sh.data.toList.zip rest) ∧ (sh.data.toList.zip rest).all goodB = true from by
          have h1 := HLI.out
          have h2 := HNI.out
          have h3 := HA2.out
          rw [← hzl, List.take_length] at h1 h2 h3
          exact ⟨h1, h2, h3⟩)
        have HO := Aside0.mk (show opOf s = some ⟨kd, key, val, n, [], []⟩ from by
          rw [HOP.out, if_pos ⟨HLE.out.trans HSZ.out.symm, HT.out.2.2⟩, ← HT.out.1, ← HT.out.2.1, ← HKV.out.1, ← HKV.out.2])
        clear hzl HT HLI HNI HA2 HRD HOP HKV HREL
        obtain ⟨z0, z1, z2, z3, z4, z5, y0, y1, y2, y3, y4, y5, m, f, n1, n2⟩ := DD.out.lp.cells
        have m0 := m 0
        have m1 := m 1
        have m2 := m 2
        have m3 := m 3
        have m4 := m 4
        have m5 := m 5
        clear m f
        go_wp2
        refine bodyPost_ret (results_ct rfl _ _ w.heap.size 38 #[.int .i64 kd, .string key, .string val, .int .i64 n, .slice none 0 0, .slice none 0 0] (0, 0) _ rfl (put6 DD.out.lp.rb _ _ _ _ _ _) Tryd.underlying38 rfl (by kernel_rfl)) rfl ?_
        rw [HO.out]
        exact DD.out.lp.done (some _) true rfl (by intro y h; exact Option.some.inj h)

/-- The program's lineOf reads a line. -/
theorem line_call (s : ByteArray) (w : World) (bm : Nat) (m : Int) (hA : LinesAt w bm m) (hs : s.size ≤ 1048576) : Calls Tryd.prog 16 #[.string s] w (OpPost (opOf s) w) := by
  rcases line_kind (headW s) with ⟨h1, h2⟩ | ⟨kd, sp, si, h1, h2, h0, ⟨rfl, rfl⟩ | ⟨rfl, rfl⟩ | h3⟩
  · exact line_miss s w bm m hA hs 0 ⟨#[]⟩ ⟨#[]⟩ h1 h2 rfl
  · exact line_star s w bm m hA hs kd _ ⟨#[]⟩ h1 h2 h0 rfl
  · exact line_plus s w bm m hA hs kd _ ⟨#[]⟩ h1 h2 h0 rfl
  · exact line_words s w bm m hA hs kd sp si h1 h2 h0 h3
end Go.Proofs.YtkbhcejibcjglaaDoor.M
end

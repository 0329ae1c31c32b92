/- Texts of the claim FnNewest, part 29 of 29, joined: MSpecNewest, PlawswPick, MLawNewest, RowFnNewest. No condition beyond those that stand at each. -/
import Derived.Test.YtkbhcejibcjglaaZFnNewest28
import Derived.Deep.QuietTactic
import Derived.BigQuiet
import Derived.Test.YtkbhcejibcjglaaZFnNewest25
import Derived.Test.YtkbhcejibcjglaaRows
import Derived.WalkKit
import Derived.ProofKit
import Derived.OpenShut
import Derived.ShutString
import Derived.ChangeOld
import Derived.Below
import Derived.SizedLaws
import Derived.Test.YtkbhcejibcjglaaZFnNewest24
section
/- The specification's Newest, walked: it hands back a slice of its own that holds what Newest tells. Condition: the entries are not too many, their keys not too long. -/
namespace Go.Proofs.Ytkbhcejibcjglaa.M
open Go.RowKit Go.Proofs.Ytkbhcejibcjglaa.P Go.Proofs.YtkbhcejibcjglaaW.PrintWords Go.Proofs.YtkbhcejibcjglaaW.PrintLast Go.Proofs.YtkbhcejibcjglaaW.PrintMore
set_option linter.unusedVariables false
set_option linter.unusedSimpArgs false
def lastKey (p : Option ByteArray) (l : List S42) : Option ByteArray := match l.getLast? with | none => p | some x => some x.f0
theorem firsts_snoc : ∀ (l : List S42) (p : Option ByteArray) (x : S42), firsts p (l ++ [x]) = if lastKey p l = some x.f0 then firsts p l else firsts p l ++ [x] := by
  intro l
  induction l with
  | nil =>
    intro p x
    show firsts p [x] = _
    by_cases c : p = some x.f0
    · subst c
      rw [firsts_same]
      exact (if_pos rfl).symm
    · rw [firsts_other _ c]
      exact (if_neg c).symm
  | cons y l ih =>
    intro p x
    have hl : lastKey p (y :: l) = lastKey (some y.f0) l := by
      unfold lastKey
      cases h : l.getLast? with
      | none =>
        have : l = [] := by simpa using h
        subst this
        rfl
      | some z => rw [List.getLast?_cons, h]; rfl
    rw [hl, List.cons_append]
    by_cases c : p = some y.f0
    · subst c
      rw [firsts_same, firsts_same, ih]
    · rw [firsts_other _ c, firsts_other _ c, ih]
      split <;> rfl
theorem firsts_first {S : List S42} (h : 0 < S.length) : firsts none (S.take 1) = firsts none (S.take 0) ++ [S[0]] := by
  have e : S.take (0 + 1) = S.take 0 ++ [S[0]] := List.take_succ_eq_append_getElem h
  rw [show S.take 1 = S.take (0 + 1) from rfl, e, firsts_snoc, if_neg (by simp [lastKey])]
theorem last_take {S : List S42} {k : Nat} (h : k < S.length) : lastKey none (S.take (k + 1)) = some S[k].f0 := by
  rw [List.take_succ_eq_append_getElem h]
  unfold lastKey
  rw [List.getLast?_append]
  rfl
theorem firsts_new {S : List S42} {k : Nat} (h : k + 1 < S.length) (hne : ¬ S[k].f0 = S[k + 1].f0) : firsts none (S.take (k + 2)) = firsts none (S.take (k + 1)) ++ [S[k + 1]] := by
  rw [List.take_succ_eq_append_getElem h, firsts_snoc, if_neg (by rw [last_take (by omega)]; exact fun e => hne (Option.some.inj e))]
theorem firsts_old {S : List S42} {k : Nat} (h : k + 1 < S.length) (he : S[k].f0 = S[k + 1].f0) : firsts none (S.take (k + 2)) = firsts none (S.take (k + 1)) := by
  rw [List.take_succ_eq_append_getElem h, firsts_snoc, if_pos (by rw [last_take (by omega), he])]
theorem firsts_len : ∀ (l : List S42) (p : Option ByteArray), (firsts p l).length ≤ l.length := by
  intro l
  induction l with
  | nil => intro p; exact Nat.le_refl _
  | cons y l ih =>
    intro p
    by_cases c : p = some y.f0
    · subst c; rw [firsts_same]; exact Nat.le_succ_of_le (ih _)
    · rw [firsts_other _ c]; exact Nat.succ_le_succ (ih _)
set_option maxHeartbeats 8000000 in
set_option maxRecDepth 100000 in
theorem specNewest_call (A : Option Addr) (c : Nat) (l : List (List S42)) (w : World) (hr : Kd.C (Kd.slice 42 k42) w A l.length l) (hc : l.length ≤ c) (hn : l.flatten.length ≤ 4194304) (hk : KeysOk l.flatten) :
    Calls Try.prog 6 #[.slice A l.length c] w fun e w' => ∃ v, e = .returned v ∧ Kd.R k42 42 w' w.heap.size (fun _ => True) v (newest l.flatten) ∧ Below w.heap.size w w' := by
  have hu42 := Try.underlying42
  have HR := Aside0.mk hr
  have HN := Aside0.mk hn
  have HK := Aside0.mk hk
  clear hr hn hk
  go_enter Try.func6, Try.ntmps6
  go_wp2_with ((with_reducible refine gate_dst (N := 8) rfl ?_); (try (refine gate_guard (by rfl) ?_; dsimp only)); refine Kd.R_lit k42 _ 42 ?hg (N := 8) ?hd (xs := ([] : List S42)) (inner := []) (ok := fun _ => True) (okp := fun _ => True) ?hr ?hp (fun _ hk => hk) trivial (Below.refl _ _) (Nat.le_refl _) (by simp) ?_; (case hd => rfl); (case hg => rfl); (case hr => first | (go_simp; done) | (go_simp; rfl)); (case hp => exact (Reps.none _ _)); intro v3 w1 ho hb hg_ hnew_; clear hg_ hnew_; have KR := Aside0.mk ho; have KB := Aside0.mk hb; clear ho hb)
  go_loopw [3, 4] (fun v3 v4 wr => ∃ i : Nat, v4 = .int .i64 (i : Int) ∧ Aside0 (i ≤ l.length) ∧ Aside0 (Kd.R k42 42 wr w.heap.size (fun _ => True) v3 (l.take i).flatten) ∧ Aside0 (Below w.heap.size w wr)) (fun _ v4 _ => l.length - (intOf v4).toNat)
  case atStart => exact ⟨0, rfl, ⟨Nat.zero_le _⟩, KR, KB⟩
  case round =>
    obtain ⟨i, rfl, HI, HA, HB⟩ := hrel
    clear KR KB
    by_cases hi : i < l.length
    · obtain ⟨ad, A0, c0, hA, hx0, hl0, hC0⟩ := atLL HR.out (i : Int) (by omega) (by omega)
      subst hA
      rw [rdL l i hi] at hx0 hl0 hC0
      rw [Int.toNat_natCast] at hx0
      have HX := Aside0.mk hx0
      have HC := Aside0.mk hC0
      clear hC0 hx0
      go_wp2
      go_loopw [3, 5] (fun v3 v5 wq => ∃ j : Nat, v5 = .int .i64 (j : Int) ∧ Aside0 (j ≤ l[i].length) ∧ Aside0 (Kd.R k42 42 wq w.heap.size (fun _ => True) v3 ((l.take i).flatten ++ l[i].take j)) ∧ Aside0 (Below w.heap.size w wq)) (fun _ v5 _ => l[i].length - (intOf v5).toNat)
      case atStart => exact ⟨0, rfl, ⟨Nat.zero_le _⟩, ⟨by rw [List.take_zero, List.append_nil]; exact HA.out⟩, HB⟩
      case round =>
        obtain ⟨j, rfl, HJ, HA2, HB2⟩ := hrel
        have z0 := cell_below HB2.out HX.out
        by_cases hj : j < l[i].length
        · obtain ⟨ad1, hA, hx0, hx1, hx2, hx3⟩ := at_T42 HC.out (j : Int) (by omega) (by omega)
          subst hA
          rw [rd42 l[i] j hj, Int.toNat_natCast] at hx0 hx1 hx2 hx3
          replace hx0 := cell_below HB2.out hx0
          replace hx1 := cell_below HB2.out hx1
          replace hx2 := cell_below HB2.out hx2
          replace hx3 := cell_below HB2.out hx3
          obtain ⟨e, he⟩ : ∃ e, l[i][j] = e := ⟨_, rfl⟩
          have hnx : (l.take i).flatten ++ l[i].take (j + 1) = ((l.take i).flatten ++ l[i].take j) ++ [e] := by
            rw [List.take_succ_eq_append_getElem hj, he, List.append_assoc]
          rw [he] at hx0 hx1 hx2 hx3
          have HNX := Aside0.mk hnx
          have HLN := Aside0.mk (len_flat l i hi j)
          have HWR := Aside0.mk (show wrap64 ((j : Int) + 1) = (j : Int) + 1 from wrap_ok (by omega) (by
            have h1 := HN.out
            have h2 := len_flat l i hi l[i].length
            rw [List.take_length] at h2
            simp only [List.length_append] at h2
            omega))
          clear he hnx
          go_wp2_with ((with_reducible refine gate_builtin (b := .append) (xs := #[.tmp 24, .tmp 32]) rfl ?_); (try (refine gate_guard (by rfl) ?_; dsimp only)); at_builtin; refine Kd.R_append k42 (w0 := w) w.heap.size rfl (.tmp 24) (.tmp 32) 25 42 (.agg #[(.string ⟨#[]⟩), (.int .i64 0), (.int .i64 0), (.string ⟨#[]⟩)]) 48 rfl Try.underlying25 info42 rfl (by decide) (by omega) u3 ((l.take i).flatten ++ l[i].take j) e [.string e.f0, .int .i64 e.f1, .int .i64 e.f2, .string e.f3] (fun _ => True) (fun _ => False) rfl rfl ?aP (fun _ hk => hk.elim) ?aF ?aO ?aB ?aS ?aL ?_; (case aP => exact k42_mkM _ _ _ e); (case aF => exact (fun _ _ => trivial)); (case aO => exact HA2.out); (case aB => exact HB2.out); (case aS => exact HB2.out.size); (case aL => have h1 := HLN.out; have h2 := HN.out; omega); intro v1 w2 ho hb hg hat; have HA3 := Aside0.mk ho; have HB3 := Aside0.mk hb; clear ho hb hg hat)
          go_roundw
          case rel => exact ⟨j + 1, by rw [HWR.out]; rfl, ⟨hj⟩, ⟨by rw [HNX.out]; exact HA3.out⟩, HB3⟩
          case measure => rw [HWR.out]; exact meas_lt _ _ hj
        · have hje : j = l[i].length := by have := HJ.out; omega
          subst hje
          rw [List.take_length, ← take_flat l i hi] at HA2
          have HWR := Aside0.mk (show wrap64 ((i : Int) + 1) = (i : Int) + 1 from wrap_ok (by omega) (by have := HR.out.2.1; omega))
          go_wp2
          go_roundw
          case rel => exact ⟨i + 1, by rw [HWR.out]; rfl, ⟨hi⟩, HA2, HB2⟩
          case measure => rw [HWR.out]; exact meas_lt _ _ hi
    · have hie : i = l.length := by have := HI.out; omega
      subst hie
      rw [List.take_length] at HA
      obtain ⟨L, hL⟩ : ∃ L, l.flatten = L := ⟨_, rfl⟩
      have HLL := Aside0.mk hL
      rw [hL] at HA HN HK
      clear hL
      obtain ⟨A3, c3, rfl, hl3, hC3⟩ := Kd.R_reads HA.out
      have HC3 := Aside0.mk hC3
      clear hC3 HA
      go_wp2_with fail
      refine (order_call L.length L (Nat.le_refl _) A3 c3 _ HC3.out hl3 HK.out HN.out).mono ?_
      rintro e w2 ⟨A4, c4, rfl, hl4, hC4, hb⟩
      obtain ⟨S, hS⟩ : ∃ S, order L = S := ⟨_, rfl⟩
      rw [hS] at hl4 hC4
      rw [hS]
      have HS := Aside0.mk hS
      have HSL := Aside0.mk (show S.length ≤ 4194304 by rw [← hS, order_length]; exact HN.out)
      have HC4 := Aside0.mk hC4
      have HB4 := Aside0.mk (below_over HB.out hb)
      clear hS hC4 hb HC3 HB
      go_wp2_with ((with_reducible refine gate_dst (N := 36) rfl ?_); (try (refine gate_guard (by rfl) ?_; dsimp only)); refine Kd.R_lit k42 _ 42 ?hg (N := 36) ?hd (xs := ([] : List S42)) (inner := []) (ok := fun _ => True) (okp := fun _ => True) ?hr ?hp (fun _ hk => hk) trivial (Below.refl _ _) (Nat.le_refl _) (by simp) ?_; (case hd => rfl); (case hg => rfl); (case hr => first | (go_simp; done) | (go_simp; rfl)); (case hp => exact (Reps.none _ _)); intro v6 w3 ho hb hg_ hnew_; clear hg_ hnew_; have KR := Aside0.mk ho; have KB := Aside0.mk hb; clear ho hb)
      go_loopw [6, 7] (fun v6 v7 wr => ∃ i : Nat, v7 = .int .i64 (i : Int) ∧ Aside0 (i ≤ S.length) ∧ Aside0 (Kd.R k42 42 wr w2.heap.size (fun _ => True) v6 (firsts none (S.take i))) ∧ Aside0 (Below w2.heap.size w2 wr)) (fun _ v7 _ => S.length - (intOf v7).toNat)
      case atStart => exact ⟨0, rfl, ⟨Nat.zero_le _⟩, KR, KB⟩
      case round =>
        obtain ⟨i, rfl, HI2, HA, HB⟩ := hrel
        clear KR KB
        by_cases hi2 : i < S.length
        · have HCS := Aside0.mk (Kd.C_below HC4.out HB.out)
          obtain ⟨ad, hA4, hx0, hx1, hx2, hx3⟩ := at_T42 HCS.out (i : Int) (by omega) (by omega)
          subst hA4
          rw [rd42 S i hi2, Int.toNat_natCast] at hx0 hx1 hx2 hx3
          have HWR := Aside0.mk (show wrap64 ((i : Int) + 1) = (i : Int) + 1 from wrap_ok (by omega) (by have := HSL.out; omega))
          have HFL := Aside0.mk (show (firsts none (S.take i)).length + 1 ≤ 4194305 by have h1 := firsts_len (S.take i) none; rw [List.length_take] at h1; have := HSL.out; omega)
          cases i with
          | zero =>
            have HNX := Aside0.mk (firsts_first hi2)
            have ea : ad.add (0 * 4) = ad := by cases ad; rfl
            rw [ea] at hx0 hx1 hx2 hx3
            clear ea
            go_upto_region 14 with (fail)
            go_quiet (fail)
            go_wp2_with ((with_reducible refine gate_builtin (b := .append) (xs := #[.tmp 59, .tmp 64]) rfl ?_); (try (refine gate_guard (by rfl) ?_; dsimp only)); at_builtin; refine Kd.R_append k42 (w0 := w2) w2.heap.size rfl (.tmp 59) (.tmp 64) 25 42 (.agg #[(.string ⟨#[]⟩), (.int .i64 0), (.int .i64 0), (.string ⟨#[]⟩)]) 48 rfl Try.underlying25 info42 rfl (by decide) (by omega) u6 (firsts none (S.take 0)) S[0] [.string S[0].f0, .int .i64 S[0].f1, .int .i64 S[0].f2, .string S[0].f3] (fun _ => True) (fun _ => False) rfl rfl ?aP (fun _ hk => hk.elim) ?aF ?aO ?aB ?aS ?aL ?_; (case aP => exact k42_mkM _ _ _ S[0]); (case aF => exact (fun _ _ => trivial)); (case aO => exact Kd.R_drewN HA.out nq); (case aB => exact pw_below_drewN HB.out nq); (case aS => exact HB.out.size); (case aL => have h1 := HFL.out; omega); intro v1 w4 ho hb hg hat; have HA3 := Aside0.mk ho; have HB3 := Aside0.mk hb; clear ho hb hg hat)
            go_roundw
            case rel => exact ⟨1, rfl, ⟨hi2⟩, ⟨by rw [HNX.out]; exact HA3.out⟩, HB3⟩
            case measure => exact meas_lt _ 0 hi2
          | succ k =>
            replace HWR := Aside0.mk (show wrap64 ((k : Int) + 1 + 1) = (k : Int) + 1 + 1 from wrap_ok (by omega) (by have := HSL.out; omega))
            obtain ⟨ad', hA4, hy0, _⟩ := at_T42 HCS.out (k : Int) (by omega) (by omega)
            obtain rfl := Option.some.inj hA4
            rw [rd42 S k (by omega), Int.toNat_natCast] at hy0
            have t0 : ((k : Int) + 1 == 0) = false := by simp; omega
            have t0' : ((k : Int) + 1 = 0) = False := eq_false (by omega)
            have tp : (0 ≤ (k : Int) + 1) = True := eq_true (by omega)
            have s1 : IntKind.i64.wrap ((k : Int) + 1 - 1) = (k : Int) := by rw [show (k : Int) + 1 - 1 = (k : Int) by omega]; exact IntWalk.i64_in _ (by have := HSL.out; omega)
            have s2 : IntKind.i64.wrap (k : Int) = (k : Int) := IntWalk.i64_in _ (by have := HSL.out; omega)
            have s3 : (k : Int) + 1 - 1 = (k : Int) := by omega
            by_cases he : S[k].f0 = S[k + 1].f0
            · have HNX := Aside0.mk (firsts_old hi2 he)
              have t1 : (S[k + 1].f0.toList == S[k].f0.toList) = true := by rw [he]; simp
              have t2 : (S[k + 1].f0.toList != S[k].f0.toList) = false := by rw [he]; simp
              clear he
              go_upto_region 14 with (fail)
              go_quiet (fail)
              go_wp2
              go_roundw
              case rel => exact ⟨k + 2, by rw [HWR.out]; rfl, ⟨hi2⟩, ⟨by rw [HNX.out]; exact Kd.R_drewN HA.out nq⟩, ⟨pw_below_drewN HB.out nq⟩⟩
              case measure => rw [HWR.out]; exact meas_lt _ _ hi2
            · have HNX := Aside0.mk (firsts_new hi2 he)
              have t1 : (S[k + 1].f0.toList == S[k].f0.toList) = false := beq_eq_false_iff_ne.2 (fun h => he (toList_inj h).symm)
              have t2 : (S[k + 1].f0.toList != S[k].f0.toList) = true := bne_iff_ne.2 (fun h => he (toList_inj h).symm)
              clear he
              go_upto_region 14 with (fail)
              go_quiet (fail)
              go_wp2_with ((with_reducible refine gate_builtin (b := .append) (xs := #[.tmp 59, .tmp 64]) rfl ?_); (try (refine gate_guard (by rfl) ?_; dsimp only)); at_builtin; refine Kd.R_append k42 (w0 := w2) w2.heap.size rfl (.tmp 59) (.tmp 64) 25 42 (.agg #[(.string ⟨#[]⟩), (.int .i64 0), (.int .i64 0), (.string ⟨#[]⟩)]) 48 rfl Try.underlying25 info42 rfl (by decide) (by omega) u6 (firsts none (S.take (k + 1))) S[k + 1] [.string S[k + 1].f0, .int .i64 S[k + 1].f1, .int .i64 S[k + 1].f2, .string S[k + 1].f3] (fun _ => True) (fun _ => False) rfl rfl ?aP (fun _ hk => hk.elim) ?aF ?aO ?aB ?aS ?aL ?_; (case aP => exact k42_mkM _ _ _ S[k + 1]); (case aF => exact (fun _ _ => trivial)); (case aO => exact Kd.R_drewN HA.out nq); (case aB => exact pw_below_drewN HB.out nq); (case aS => exact HB.out.size); (case aL => have h1 := HFL.out; omega); intro v1 w4 ho hb hg hat; have HA3 := Aside0.mk ho; have HB3 := Aside0.mk hb; clear ho hb hg hat)
              go_roundw
              case rel => exact ⟨k + 2, by rw [HWR.out]; rfl, ⟨hi2⟩, ⟨by rw [HNX.out]; exact HA3.out⟩, HB3⟩
              case measure => rw [HWR.out]; exact meas_lt _ _ hi2
        · have hie : i = S.length := by have := HI2.out; omega
          subst hie
          rw [List.take_length] at HA
          have HF := Aside0.mk (show Kd.R k42 42 wr w.heap.size (fun _ => True) u6 (newest l.flatten) ∧ Below w.heap.size w wr from ⟨by
            have e : newest l.flatten = firsts none S := by unfold newest; rw [HLL.out, HS.out]
            rw [e]
            exact Kd.R_lower HA.out HB4.out.size, below_over HB4.out HB.out⟩)
          go_wp2
          go_ret
          exact ⟨_, rfl, HF.out.1, HF.out.2⟩
end Go.Proofs.Ytkbhcejibcjglaa.M
end
section
-- Written by a changed copy of the print program, one module a function. Not trusted: Lean checks it.
namespace Go.Proofs.Ytkbhcejibcjglaa.P
open Go.RowKit Go.Proofs.YtkbhcejibcjglaaW.PrintWords Go.Proofs.YtkbhcejibcjglaaW.PrintLast Go.Proofs.YtkbhcejibcjglaaW.PrintMore
attribute [local go_sem] max2_int min2_int max_two min_two max_three min_three max_four min_four   -- for this text's walks alone
set_option linter.unusedVariables false
set_option linter.unusedSimpArgs false

/-! ### laws_wPick: function 9 -/
def laws_wPick.f (l0 : List Int) (a1 : Int) : Option (Int) := if (l0.length : Int) = 0 then (some a1) else (if 0 ≤ (Int.tmod a1 (l0.length : Int)) then (if (Int.tmod a1 (l0.length : Int)) < (l0.length : Int) then (some (wrap64 (rd l0 (Int.tmod a1 (l0.length : Int))))) else (none)) else (none))
set_option maxHeartbeats 8000000 in
set_option maxRecDepth 100000 in
theorem laws_wPick.calls (A0 : Option Addr) (c0 : Nat) (l0 : List Int) (a1 : Int) (r : Int) (w : World) (hr0 : Kd.C (Kd.int .u8) w A0 l0.length l0) (hc0 : l0.length ≤ c0) (h : laws_wPick.f l0 a1 = some r) :
  Calls Try.prog 9 #[.slice A0 l0.length c0, .int .i64 a1] w fun e w' => e = .returned (.int .i64 r) ∧ Drawn0 w w' := by
 have HR0 := Aside0.mk hr0
 have HC0 := Aside0.mk hc0
 clear hr0 hc0
 have H : (if (l0.length : Int) = 0 then (some a1) else (if 0 ≤ (Int.tmod a1 (l0.length : Int)) then (if (Int.tmod a1 (l0.length : Int)) < (l0.length : Int) then (some (wrap64 (rd l0 (Int.tmod a1 (l0.length : Int))))) else (none)) else (none))) = some r := h
 clear h
 by_cases c3 : (l0.length : Int) = 0
 ·rw [if_pos c3] at H
  have c3b0 : ((l0.length : Int) == 0) = true := beq_iff_eq.mpr c3
  have c3b1 : ((l0.length : Int) != 0) = false := bne_eq_false_iff_eq.mpr c3
  clear c3
  obtain rfl := Option.some.inj H
  go_enter Try.func9, Try.ntmps9
  go_wp2
  go_ret
  exact ⟨by first | rfl | (simp; done) | (simp [*]; done), by repeat (first | exact Drawn0.refl _ | apply Drawn0.step)⟩
 ·rw [if_neg c3] at H
  have c3b0 : ((l0.length : Int) == 0) = false := beq_eq_false_iff_ne.mpr c3
  have c3b1 : ((l0.length : Int) != 0) = true := bne_iff_ne.mpr c3
  have c3b2 : ¬ (l0 = []) := fun h_ => c3 (by rw [h_]; rfl)
  obtain ⟨ji4, hji4⟩ : ∃ j_ : Int, (Int.tmod a1 (l0.length : Int)) = j_ := ⟨_, rfl⟩
  replace H : (if 0 ≤ (ji4) then (if (ji4) < (l0.length : Int) then (some (wrap64 (rd l0 (ji4)))) else (none)) else (none)) = some r := by first | (rw [hji4] at H; exact H) | (simp only [hji4] at H ⊢; exact H)
  by_cases c5 : 0 ≤ (ji4)
  ·rw [if_pos c5] at H
   have c5b0 : decide (0 ≤ (ji4)) = true := decide_eq_true c5
   clear c5
   by_cases c6 : (ji4) < (l0.length : Int)
   ·rw [if_pos c6] at H
    have c6b0 : decide ((ji4) < (l0.length : Int)) = true := decide_eq_true c6
    clear c6
    obtain rfl := Option.some.inj H
    have p255 : 0 ≤ ((ji4) : Int) := of_decide_eq_true (by first | (with_reducible assumption) | assumption)
    have q255 : (ji4) < (l0.length : Int) := of_decide_eq_true (by first | (with_reducible assumption) | assumption)
    obtain ⟨ad255, e255, hx255_0⟩ := Kd.at_int HR0.out (ji4) p255 q255
    cases e255
    replace p255 := eq_true p255
    replace q255 := eq_true q255
    go_enter Try.func9, Try.ntmps9
    go_wp2
    go_ret
    exact ⟨by first | rfl | (simp; done) | (simp only [← hji4] <;> (first | rfl | simp)) | (simp [*]; done), by repeat (first | exact Drawn0.refl _ | apply Drawn0.step)⟩
   ·rw [if_neg c6] at H
    exact absurd H (by simp)
  ·rw [if_neg c5] at H
   exact absurd H (by simp)

end Go.Proofs.Ytkbhcejibcjglaa.P
end
section
/- The law FnNewest, walked. Condition: the code's bytes are bytes. -/
namespace Go.Proofs.Ytkbhcejibcjglaa.M
open Go.RowKit Go.Proofs.Ytkbhcejibcjglaa.P Go.Proofs.YtkbhcejibcjglaaW.PrintWords Go.Proofs.YtkbhcejibcjglaaW.PrintLast Go.Proofs.YtkbhcejibcjglaaW.PrintMore
set_option linter.unusedVariables false
set_option linter.unusedSimpArgs false
theorem pick_ev (l : List Int) (hl : ∀ x ∈ l, 0 ≤ x ∧ x ≤ 255) (i : Int) (h0 : 0 ≤ i) (h1 : i ≤ 1048576) : ∃ r, laws_wPick.f l i = some r ∧ 0 ≤ r ∧ r ≤ 1048576 := by
  unfold laws_wPick.f
  by_cases h : (l.length : Int) = 0
  · rw [if_pos h]
    exact ⟨i, rfl, h0, h1⟩
  · have m := tmod_in (a := i) (n := (l.length : Int)) h0 (by omega)
    have hr := rd_in hl (Int.tmod i (l.length : Int))
    rw [if_neg h, if_pos m.1, if_pos m.2, wrap_ok (by omega) (by omega)]
    exact ⟨_, rfl, hr.1, by omega⟩
/-- What stands in every world behind the draws. -/
structure NW (w W : World) (A0 : Option Addr) (code : List Int) (A1 : Option Addr) (more : List Int) (A5 : Option Addr) (c5 : Nat) (r : List (List S42)) : Prop where
  bel : Below w.heap.size w W
  code : Kd.C (Kd.int .u8) W A0 code.length code
  more : Kd.C (Kd.int .u8) W A1 more.length more
  lists : Kd.C (Kd.slice 42 k42) W A5 r.length r
  cap : r.length ≤ c5
theorem NW.below {w W X : World} {A0 : Option Addr} {code : List Int} {A1 : Option Addr} {more : List Int} {A5 : Option Addr} {c5 : Nat} {r : List (List S42)} (h : NW w W A0 code A1 more A5 c5 r) (hx : Below W.heap.size W X) : NW w X A0 code A1 more A5 c5 r :=
  ⟨below_over h.bel hx, Kd.C_below h.code hx, Kd.C_below h.more hx, Kd.C_below h.lists hx, h.cap⟩
theorem two_read {W : World} {g : Nat} {t : TypeId} {Aa Ab : Option Addr} {ca cb : Nat} {a b : List S42} (hg : W.heap[g]? = some (.cells #[.slice Aa a.length ca, .slice Ab b.length cb] t (0, 0))) (ha : Kd.C k42 W Aa a.length a) (hca : a.length ≤ ca) (hb : Kd.C k42 W Ab b.length b) (hcb : b.length ≤ cb) :
    Kd.C (Kd.slice 42 k42) W (some ⟨g, 0, none⟩) 2 [a, b] := by
  refine ⟨rfl, by decide, fun _ => ⟨⟨g, 0, none⟩, rfl, fun j p hj => ?_⟩⟩
  match j, hj with
  | 0, hj =>
    obtain rfl : a = p := by simpa using hj
    refine ⟨[.slice Aa a.length ca], rfl, ⟨Aa, ca, rfl, hca, ha⟩, fun i u hi => ?_⟩
    match i, hi with
    | 0, hi =>
      obtain rfl : Value.slice Aa a.length ca = u := by simpa using hi
      exact blk_cell hg 0
    | i + 1, hi => simp at hi
  | 1, hj =>
    obtain rfl : b = p := by simpa using hj
    refine ⟨[.slice Ab b.length cb], rfl, ⟨Ab, cb, rfl, hcb, hb⟩, fun i u hi => ?_⟩
    match i, hi with
    | 0, hi =>
      obtain rfl : Value.slice Ab b.length cb = u := by simpa using hi
      exact blk_cell hg 1
    | i + 1, hi => simp at hi
  | j + 2, hj => simp at hj
theorem own_kind {w : World} {base e size n m c : Nat} {A : Option Addr} (h : ∃ inner, w.ownsRow base e size (.slice A m c) n inner) : (A = none ∧ c = 0) ∨ ∃ ad, A = some ad := by
  obtain ⟨inner, _, h⟩ := h
  rcases h with ⟨h, _⟩ | ⟨g, cap, cur, h, _⟩
  · injection h with h1 h2 h3
    exact .inl ⟨h1, h3⟩
  · injection h with h1 h2 h3
    exact .inr ⟨_, h1⟩
set_option maxHeartbeats 4000000 in
set_option maxRecDepth 100000 in
theorem newestLaw_call (A0 : Option Addr) (c0 : Nat) (code : List Int) (A1 : Option Addr) (c1 : Nat) (more : List Int) (w : World) (hr0 : Kd.C (Kd.int .u8) w A0 code.length code) (hc0 : code.length ≤ c0) (hr1 : Kd.C (Kd.int .u8) w A1 more.length more) (hc1 : more.length ≤ c1)
    (ok0 : ∀ x ∈ code, 0 ≤ x ∧ x ≤ 255) (ok1 : ∀ x ∈ more, 0 ≤ x ∧ x ≤ 255) :
    Calls Try.prog 3 #[.slice A0 code.length c0, .slice A1 more.length c1] w fun e w' => e = .returned (.bool true) ∧ Below w.heap.size w w' := by
  have HR0 := Aside0.mk hr0
  have HR1 := Aside0.mk hr1
  have OK0 := Aside0.mk ok0
  have OK1 := Aside0.mk ok1
  clear hr0 hr1 ok0 ok1
  by_cases hlen0 : code.length ≤ 1048576
  rotate_left
  · have d0 : decide ((1048576 : Int) < (code.length : Int)) = true := decide_eq_true (by omega)
    have d0' : 1048576 < code.length := by omega
    go_enter Try.func3, Try.ntmps3
    go_wp2
    all_goals (go_ret; exact ⟨rfl, Below.refl _ _⟩)
  by_cases hlen1 : more.length ≤ 1048576
  rotate_left
  · have d1 : decide ((1048576 : Int) < (more.length : Int)) = true := decide_eq_true (by omega)
    have d1' : 1048576 < more.length := by omega
    go_enter Try.func3, Try.ntmps3
    go_wp2_with fail
    all_goals (go_ret; exact ⟨rfl, Below.refl _ _⟩)
  obtain ⟨r, hD, hr5, hrk⟩ := drawNewest_ev code OK0.out hlen0
  obtain ⟨k, hk⟩ := Ev.rounds hD
  have HD := Aside0.mk hk
  have hfl : r.flatten.length ≤ 45 := Nat.le_trans (flat_few r (fun q hq => (hrk q hq).1)) (by omega)
  have HKY := Aside0.mk (flat_keys (fun q hq => (hrk q hq).2))
  have HFL := Aside0.mk hfl
  clear hD hk hrk hfl
  go_enter Try.func3, Try.ntmps3
  go_wp2_with fail
  refine (spec_DrawNewest.calls k A0 c0 code r w HR0.out hc0 HD.out).mono ?_
  rintro e w1 ⟨v5, rfl, ho, hb⟩
  obtain ⟨A5, c5, rfl, hl5, hC5⟩ := Kd.S_reads ho
  have HA5 := Aside0.mk (own_kind (Kd.S_own ho))
  have N1 := Aside0.mk (show NW w w1 A0 code A1 more A5 c5 r from ⟨hb, Kd.C_below HR0.out hb, Kd.C_below HR1.out hb, hC5, hl5⟩)
  clear ho hb hC5 hl5 HR0 HR1
  go_wp2_with fail
  refine (spec_DrawNewest.calls k A0 c0 code r _ N1.out.code hc0 HD.out).mono ?_
  rintro e w2 ⟨v21, rfl, ho, hb⟩
  obtain ⟨A21, c21, rfl, hl21, hC21⟩ := Kd.S_reads ho
  have N2 := Aside0.mk (N1.out.below hb)
  have C21 := Aside0.mk hC21
  clear ho hb hC21 N1
  go_wp2_with fail
  refine (specNewest_call A21 c21 r _ C21.out hl21 (by have := HFL.out; omega) HKY.out).mono ?_
  rintro e w3 ⟨v6, rfl, ho, hb⟩
  obtain ⟨A6, c6, rfl, hl6, hC6⟩ := Kd.R_reads ho
  have N3 := Aside0.mk (N2.out.below hb)
  have C6 := Aside0.mk hC6
  clear ho hb hC6 N2 C21
  go_wp2_with fail
  refine (newest_call A5 c5 r _ N3.out.lists N3.out.cap (by have := HFL.out; omega) (fun x hx => Nat.le_trans (HKY.out x hx) (by unfold maxLen; omega))).mono ?_
  rintro e w4 ⟨v24, rfl, ho, hb⟩
  obtain ⟨A24, c24, rfl, hl24, hC24⟩ := Kd.R_reads ho
  have N4 := Aside0.mk (N3.out.below hb)
  have C6' := Aside0.mk (Kd.C_below C6.out hb)
  have C24 := Aside0.mk hC24
  have hW := newest_length r.flatten
  obtain ⟨S, hS⟩ : ∃ S, newest r.flatten = S := ⟨_, rfl⟩
  rw [hS] at hl6 hl24 C6' C24 hW
  rw [hS]
  have HS := Aside0.mk hS
  have HSL := Aside0.mk (show S.length ≤ 45 from Nat.le_trans hW HFL.out)
  obtain ⟨ks, hks⟩ := Ev.rounds (same_ev S (by have := HSL.out; omega))
  have HSE := Aside0.mk hks
  clear ho hb hC24 N3 C6 hS hW hks
  go_wp2_with fail
  refine (laws_wSameEntries.calls ks A24 c24 S A6 c6 S true _ C24.out hl24 C6'.out hl6 HSE.out).mono ?_
  rintro e w5 ⟨rfl, hdr⟩
  have N5 := Aside0.mk (N4.out.below hdr.below)
  have C6 := Aside0.mk (Kd.C_below C6'.out hdr.below)
  clear hdr N4 C6' C24
  go_wp2_with fail
  obtain ⟨r0, hp0, r00, r01⟩ := pick_ev more OK1.out 0 (by omega) (by omega)
  refine (laws_wPick.calls A1 c1 more 0 r0 w5 N5.out.more hc1 hp0).mono ?_
  clear hp0
  rintro e w6 ⟨rfl, hdr⟩
  have N6 := Aside0.mk (N5.out.below hdr.below)
  have C6a := Aside0.mk (Kd.C_below C6.out hdr.below)
  clear hdr N5 C6
  go_upto_region 8 with fail
  obtain ⟨n, hn⟩ : ∃ n : Nat, r0 % ((r.length : Int) + 1) = (n : Int) := ⟨(r0 % ((r.length : Int) + 1)).toNat, by have := Int.emod_nonneg r0 (show ((r.length : Int) + 1) ≠ 0 by omega); omega⟩
  have hnl : n ≤ r.length := by have := Int.emod_lt_of_pos r0 (show 0 < ((r.length : Int) + 1) by omega); omega
  rw [hn]
  clear hn
  have H1 := Aside0.mk (show ∀ W, NW w W A0 code A1 more A5 c5 r → Calls Try.prog 8 #[.slice A5 n c5] W fun e w' => ∃ v, e = .returned v ∧ Kd.R k42 42 w' W.heap.size (fun _ => True) v (newest (r.take n).flatten) ∧ Below W.heap.size W w' from fun W hW => by
    have hs : (r.take n).flatten.length ≤ r.flatten.length := by
      have e2 : r.flatten = (r.take n).flatten ++ (r.drop n).flatten := by rw [← List.flatten_append, List.take_append_drop]
      rw [e2, List.length_append]
      omega
    have h := newest_call A5 c5 (r.take n) W (Kd.C_take hW.lists hnl) (by rw [List.length_take]; have := hW.cap; omega) (by have := HFL.out; omega) (fun x hx => Nat.le_trans (HKY.out x (by
      have e2 : r.flatten = (r.take n).flatten ++ (r.drop n).flatten := by rw [← List.flatten_append, List.take_append_drop]
      rw [e2]
      exact List.mem_append_left _ hx)) (by unfold maxLen; omega))
    rw [List.length_take, Nat.min_eq_left hnl] at h
    exact h)
  have H2 := Aside0.mk (show ∀ W, NW w W A0 code A1 more A5 c5 r → Calls Try.prog 8 #[.slice (if c5 = n then A5 else A5.map (·.add (n * 1))) (r.length - n) (c5 - n)] W fun e w' => ∃ v, e = .returned v ∧ Kd.R k42 42 w' W.heap.size (fun _ => True) v (newest (r.drop n).flatten) ∧ Below W.heap.size W w' from fun W hW => by
    have e2 : r.flatten = (r.take n).flatten ++ (r.drop n).flatten := by rw [← List.flatten_append, List.take_append_drop]
    have hs : (r.drop n).flatten.length ≤ r.flatten.length := by
      rw [e2, List.length_append]
      omega
    have h := newest_call (if c5 = n then A5 else A5.map (·.add (n * 1))) (c5 - n) (r.drop n) W (Kd.C_drop hW.lists hnl hW.cap) (by rw [List.length_drop]; have := hW.cap; omega) (by have := HFL.out; omega) (fun x hx => Nat.le_trans (HKY.out x (by
      rw [e2]
      exact List.mem_append_right _ hx)) (by unfold maxLen; omega))
    rw [List.length_drop] at h
    exact h)
  have hcap := N6.out.cap
  go_wp2_with fail
  refine (H1.out _ N6.out).mono ?_
  rintro e w7 ⟨v8, rfl, ho, hb⟩
  obtain ⟨A8, c8, rfl, hl8, hC8⟩ := Kd.R_reads ho
  obtain ⟨a, hna⟩ : ∃ a, newest (r.take n).flatten = a := ⟨_, rfl⟩
  rw [hna] at hl8 hC8
  rw [hna]
  have HNA := Aside0.mk hna
  clear hna
  have N7 := Aside0.mk (N6.out.below hb)
  have C6b := Aside0.mk (Kd.C_below C6a.out hb)
  have C8 := Aside0.mk hC8
  clear ho hb hC8 N6 C6a H1
  go_upto_region 9 with fail
  have HT := HA5.out
  have H3 := H2.out w7 N7.out
  have H3' := Aside0.mk H3
  clear H3 H2
  have fin : ∀ (W : World) (e : Ending), True := fun _ _ => trivial
  clear fin
  rcases HT with ⟨rfl, rfl⟩ | ⟨ad, rfl⟩
  · have hn0 : n = 0 := by omega
    subst hn0
    go_wp2_with fail
    have h3 := H3'.out
    rw [if_pos trivial, show r.length - 0 = 0 by omega] at h3
    refine h3.mono ?_
    clear h3 H3'
    rintro e w8 ⟨v9, rfl, ho, hb⟩
    obtain ⟨A9, c9, rfl, hl9, hC9⟩ := Kd.R_reads ho
    have N8 := Aside0.mk (N7.out.below hb)
    have C6c := Aside0.mk (Kd.C_below C6b.out hb)
    have C8b := Aside0.mk (Kd.C_below C8.out hb)
    have C9 := Aside0.mk hC9
    clear ho hb hC9 N7 C6b C8
    have hna := HNA.out
    obtain ⟨b, hnb⟩ : ∃ b, newest (r.drop 0).flatten = b := ⟨_, rfl⟩
    have htwo := newest_two r 0
    have hla := newest_length (r.take 0).flatten
    have hlb := newest_length (r.drop 0).flatten
    have hsa : ∀ x ∈ newest (r.take 0).flatten, x ∈ r.flatten := fun x hx => by
      have e2 : r.flatten = (r.take 0).flatten ++ (r.drop 0).flatten := by rw [← List.flatten_append, List.take_append_drop]
      rw [e2]
      exact List.mem_append_left _ (newest_sub hx)
    have hsb : ∀ x ∈ newest (r.drop 0).flatten, x ∈ r.flatten := fun x hx => by
      have e2 : r.flatten = (r.take 0).flatten ++ (r.drop 0).flatten := by rw [← List.flatten_append, List.take_append_drop]
      rw [e2]
      exact List.mem_append_right _ (newest_sub hx)
    have hsum : (newest (r.take 0).flatten).length + (newest (r.drop 0).flatten).length ≤ 45 := by
      have e2 : r.flatten.length = (r.take 0).flatten.length + (r.drop 0).flatten.length := by rw [← List.length_append, ← List.flatten_append, List.take_append_drop]
      have := HFL.out
      omega
    rw [hna] at htwo hsa hsum
    rw [hnb] at hl9 C9 htwo hsb hsum
    rw [HS.out] at htwo
    rw [hnb]
    have HTW := Aside0.mk htwo
    have HSA := Aside0.mk hsa
    have HSB := Aside0.mk hsb
    clear htwo hsa hsb hla hlb hna hnb
    go_wp2_with fail
    have hbA := Aside0.mk ((Below.refl w8.heap.size w8).alloc (Nat.le_refl _) (.cells #[.slice A8 a.length c8, .slice A9 b.length c9] 25))
    have CTW := Aside0.mk (two_read (heap_alloc_new w8 (.cells #[.slice A8 a.length c8, .slice A9 b.length c9] 25)) (Kd.C_below C8b.out hbA.out) hl8 (Kd.C_below C9.out hbA.out) hl9)
    refine (newest_call (some ⟨w8.heap.size, 0, none⟩) 2 [a, b] _ CTW.out (Nat.le_refl 2) (by simp; omega) (fun x hx => by
      have hm : x ∈ r.flatten := by
        rcases List.mem_append.1 (show x ∈ a ++ b by simpa using hx) with h | h
        · exact HSA.out x h
        · exact HSB.out x h
      exact Nat.le_trans (HKY.out x hm) (by unfold maxLen; omega))).mono ?_
    rintro e w9 ⟨v45, rfl, ho, hb⟩
    rw [HTW.out] at ho
    obtain ⟨A45, c45, rfl, hl45, hC45⟩ := Kd.R_reads ho
    have N9 := Aside0.mk ((N8.out.below hbA.out).below hb)
    have C6d := Aside0.mk (Kd.C_below (Kd.C_below C6c.out hbA.out) hb)
    have C45 := Aside0.mk hC45
    clear ho hb hC45 N8 C6c C8b C9 CTW hbA
    go_wp2_with fail
    refine (laws_wSameEntries.calls ks A45 c45 S A6 c6 S true _ C45.out hl45 C6d.out hl6 HSE.out).mono ?_
    rintro e w10 ⟨rfl, hdr⟩
    have N10 := Aside0.mk (N9.out.below hdr.below)
    clear hdr N9 C6d C45
    go_wp2
    go_ret
    exact ⟨rfl, N10.out.bel⟩
  · by_cases hcn : c5 = n
    · obtain rfl : n = c5 := hcn.symm
      go_wp2_with fail
      have h3 := H3'.out
      rw [if_pos trivial, show r.length - n = 0 by omega, Nat.sub_self] at h3
      refine h3.mono ?_
      clear h3 H3'
      rintro e w8 ⟨v9, rfl, ho, hb⟩
      obtain ⟨A9, c9, rfl, hl9, hC9⟩ := Kd.R_reads ho
      have N8 := Aside0.mk (N7.out.below hb)
      have C6c := Aside0.mk (Kd.C_below C6b.out hb)
      have C8b := Aside0.mk (Kd.C_below C8.out hb)
      have C9 := Aside0.mk hC9
      clear ho hb hC9 N7 C6b C8
      have hna := HNA.out
      obtain ⟨b, hnb⟩ : ∃ b, newest (r.drop n).flatten = b := ⟨_, rfl⟩
      have htwo := newest_two r n
      have hla := newest_length (r.take n).flatten
      have hlb := newest_length (r.drop n).flatten
      have hsa : ∀ x ∈ newest (r.take n).flatten, x ∈ r.flatten := fun x hx => by
        have e2 : r.flatten = (r.take n).flatten ++ (r.drop n).flatten := by rw [← List.flatten_append, List.take_append_drop]
        rw [e2]
        exact List.mem_append_left _ (newest_sub hx)
      have hsb : ∀ x ∈ newest (r.drop n).flatten, x ∈ r.flatten := fun x hx => by
        have e2 : r.flatten = (r.take n).flatten ++ (r.drop n).flatten := by rw [← List.flatten_append, List.take_append_drop]
        rw [e2]
        exact List.mem_append_right _ (newest_sub hx)
      have hsum : (newest (r.take n).flatten).length + (newest (r.drop n).flatten).length ≤ 45 := by
        have e2 : r.flatten.length = (r.take n).flatten.length + (r.drop n).flatten.length := by rw [← List.length_append, ← List.flatten_append, List.take_append_drop]
        have := HFL.out
        omega
      rw [hna] at htwo hsa hsum
      rw [hnb] at hl9 C9 htwo hsb hsum
      rw [HS.out] at htwo
      rw [hnb]
      have HTW := Aside0.mk htwo
      have HSA := Aside0.mk hsa
      have HSB := Aside0.mk hsb
      clear htwo hsa hsb hla hlb hna hnb
      go_wp2_with fail
      have hbA := Aside0.mk ((Below.refl w8.heap.size w8).alloc (Nat.le_refl _) (.cells #[.slice A8 a.length c8, .slice A9 b.length c9] 25))
      have CTW := Aside0.mk (two_read (heap_alloc_new w8 (.cells #[.slice A8 a.length c8, .slice A9 b.length c9] 25)) (Kd.C_below C8b.out hbA.out) hl8 (Kd.C_below C9.out hbA.out) hl9)
      refine (newest_call (some ⟨w8.heap.size, 0, none⟩) 2 [a, b] _ CTW.out (Nat.le_refl 2) (by simp; omega) (fun x hx => by
        have hm : x ∈ r.flatten := by
          rcases List.mem_append.1 (show x ∈ a ++ b by simpa using hx) with h | h
          · exact HSA.out x h
          · exact HSB.out x h
        exact Nat.le_trans (HKY.out x hm) (by unfold maxLen; omega))).mono ?_
      rintro e w9 ⟨v45, rfl, ho, hb⟩
      rw [HTW.out] at ho
      obtain ⟨A45, c45, rfl, hl45, hC45⟩ := Kd.R_reads ho
      have N9 := Aside0.mk ((N8.out.below hbA.out).below hb)
      have C6d := Aside0.mk (Kd.C_below (Kd.C_below C6c.out hbA.out) hb)
      have C45 := Aside0.mk hC45
      clear ho hb hC45 N8 C6c C8b C9 CTW hbA
      go_wp2_with fail
      refine (laws_wSameEntries.calls ks A45 c45 S A6 c6 S true _ C45.out hl45 C6d.out hl6 HSE.out).mono ?_
      rintro e w10 ⟨rfl, hdr⟩
      have N10 := Aside0.mk (N9.out.below hdr.below)
      clear hdr N9 C6d C45
      go_wp2
      go_ret
      exact ⟨rfl, N10.out.bel⟩
    · go_wp2_with fail
      have h3 := H3'.out
      rw [if_neg hcn, Nat.mul_one] at h3
      refine h3.mono ?_
      clear h3 H3'
      rintro e w8 ⟨v9, rfl, ho, hb⟩
      obtain ⟨A9, c9, rfl, hl9, hC9⟩ := Kd.R_reads ho
      have N8 := Aside0.mk (N7.out.below hb)
      have C6c := Aside0.mk (Kd.C_below C6b.out hb)
      have C8b := Aside0.mk (Kd.C_below C8.out hb)
      have C9 := Aside0.mk hC9
      clear ho hb hC9 N7 C6b C8
      have hna := HNA.out
      obtain ⟨b, hnb⟩ : ∃ b, newest (r.drop n).flatten = b := ⟨_, rfl⟩
      have htwo := newest_two r n
      have hla := newest_length (r.take n).flatten
      have hlb := newest_length (r.drop n).flatten
      have hsa : ∀ x ∈ newest (r.take n).flatten, x ∈ r.flatten := fun x hx => by
        have e2 : r.flatten = (r.take n).flatten ++ (r.drop n).flatten := by rw [← List.flatten_append, List.take_append_drop]
        rw [e2]
        exact List.mem_append_left _ (newest_sub hx)
      have hsb : ∀ x ∈ newest (r.drop n).flatten, x ∈ r.flatten := fun x hx => by
        have e2 : r.flatten = (r.take n).flatten ++ (r.drop n).flatten := by rw [← List.flatten_append, List.take_append_drop]
        rw [e2]
        exact List.mem_append_right _ (newest_sub hx)
      have hsum : (newest (r.take n).flatten).length + (newest (r.drop n).flatten).length ≤ 45 := by
        have e2 : r.flatten.length = (r.take n).flatten.length + (r.drop n).flatten.length := by rw [← List.length_append, ← List.flatten_append, List.take_append_drop]
        have := HFL.out
        omega
      rw [hna] at htwo hsa hsum
      rw [hnb] at hl9 C9 htwo hsb hsum
      rw [HS.out] at htwo
      rw [hnb]
      have HTW := Aside0.mk htwo
      have HSA := Aside0.mk hsa
      have HSB := Aside0.mk hsb
      clear htwo hsa hsb hla hlb hna hnb
      go_wp2_with fail
      have hbA := Aside0.mk ((Below.refl w8.heap.size w8).alloc (Nat.le_refl _) (.cells #[.slice A8 a.length c8, .slice A9 b.length c9] 25))
      have CTW := Aside0.mk (two_read (heap_alloc_new w8 (.cells #[.slice A8 a.length c8, .slice A9 b.length c9] 25)) (Kd.C_below C8b.out hbA.out) hl8 (Kd.C_below C9.out hbA.out) hl9)
      refine (newest_call (some ⟨w8.heap.size, 0, none⟩) 2 [a, b] _ CTW.out (Nat.le_refl 2) (by simp; omega) (fun x hx => by
        have hm : x ∈ r.flatten := by
          rcases List.mem_append.1 (show x ∈ a ++ b by simpa using hx) with h | h
          · exact HSA.out x h
          · exact HSB.out x h
        exact Nat.le_trans (HKY.out x hm) (by unfold maxLen; omega))).mono ?_
      rintro e w9 ⟨v45, rfl, ho, hb⟩
      rw [HTW.out] at ho
      obtain ⟨A45, c45, rfl, hl45, hC45⟩ := Kd.R_reads ho
      have N9 := Aside0.mk ((N8.out.below hbA.out).below hb)
      have C6d := Aside0.mk (Kd.C_below (Kd.C_below C6c.out hbA.out) hb)
      have C45 := Aside0.mk hC45
      clear ho hb hC45 N8 C6c C8b C9 CTW hbA
      go_wp2_with fail
      refine (laws_wSameEntries.calls ks A45 c45 S A6 c6 S true _ C45.out hl45 C6d.out hl6 HSE.out).mono ?_
      rintro e w10 ⟨rfl, hdr⟩
      have N10 := Aside0.mk (N9.out.below hdr.below)
      clear hdr N9 C6d C45
      go_wp2
      go_ret
      exact ⟨rfl, N10.out.bel⟩
end Go.Proofs.Ytkbhcejibcjglaa.M
end
section
/- The law FnNewest answers true at every argument that its row lets in: Newest is the model's and can be taken in two parts. No condition beyond the row's own. -/
namespace Go.Proofs.Ytkbhcejibcjglaa.M
open Go.RowKit Go.Proofs.Ytkbhcejibcjglaa.P Go.Proofs.YtkbhcejibcjglaaW.PrintWords Go.Proofs.YtkbhcejibcjglaaW.PrintLast Go.Proofs.YtkbhcejibcjglaaW.PrintMore
theorem byte_of {n : Int} (h : (Lit.int .u8 n).wf = true) : 0 ≤ n ∧ n ≤ 255 := by
  simp only [Lit.wf, Bool.and_eq_true, decide_eq_true_eq] at h
  exact h
theorem law_walk (a0 : Option Addr) (len0 cap0 : Nat) (z0 : List Int) (a1 : Option Addr) (len1 cap1 : Nat) (z1 : List Int) (w : World) (w0 : (a0 = none ∧ len0 = 0 ∧ cap0 = 0 ∧ z0 = []) ∨ ∃ x, a0 = some x ∧ len0 ≤ cap0 ∧ cap0 ≤ maxLen ∧ z0.length = cap0 ∧ (∀ i, i < z0.length → w.cell? (x.add i) = some (.int .u8 (z0.getD i 0))) ∧ ∀ n ∈ z0, (Lit.int .u8 n).wf = true) (w1 : (a1 = none ∧ len1 = 0 ∧ cap1 = 0 ∧ z1 = []) ∨ ∃ x, a1 = some x ∧ len1 ≤ cap1 ∧ cap1 ≤ maxLen ∧ z1.length = cap1 ∧ (∀ i, i < z1.length → w.cell? (x.add i) = some (.int .u8 (z1.getD i 0))) ∧ ∀ n ∈ z1, (Lit.int .u8 n).wf = true) :
    Calls Try.prog 3 #[.slice a0 len0 cap0, .slice a1 len1 cap1] w fun e w' => e = .returned (.bool true) ∧ Below w.heap.size w w' := by
  obtain ⟨l0, rfl, hr0, hm0, hw0, hc0⟩ := ReadsInt.ofRowC w0
  obtain ⟨l1, rfl, hr1, hm1, hw1, hc1⟩ := ReadsInt.ofRowC w1
  exact newestLaw_call a0 cap0 l0 a1 cap1 l1 w (Kd.C_of_reads (d := (0 : Int)) (h1 := fun _ => rfl) hr0) hc0 (Kd.C_of_reads (d := (0 : Int)) (h1 := fun _ => rfl) hr1) hc1 (fun x hx => byte_of (hw0 x hx)) (fun x hx => byte_of (hw1 x hx))
end Go.Proofs.Ytkbhcejibcjglaa.M
namespace Go.Proofs.Ytkbhcejibcjglaa.fnNewest
open Go.ChangeShapes Go.WideShapes Go.ChangeAt Go.RowKit
open Go.ChangeMaps (open_string shut_string)
set_option linter.unusedVariables false
theorem own : ownKnob Try.prog.godebug = none := by kernel_rfl
theorem laidOut : laidOutB Try.prog = true := by kernel_rfl
def IsRow (k : IntKind) (w : World) (a : Option Addr) (len cap : Nat) (zs : List Int) : Prop :=
  (a = none ∧ len = 0 ∧ cap = 0 ∧ zs = []) ∨
  ∃ x, a = some x ∧ len ≤ cap ∧ cap ≤ maxLen ∧ zs.length = cap ∧ (∀ i, i < zs.length → w.cell? (x.add i) = some (.int k (zs.getD i 0))) ∧ ∀ n ∈ zs, (Lit.int k n).wf = true
set_option maxRecDepth 100000 in
theorem lifted (os : Os) (started : os.Started) (H : Type) (enc : TypeId × Value → H) :
    ReturnsInHanded {} Try.checked os 3 .any (Rows.fnNewestSpec.pre6 enc Try.prog Try.f3 Rows.fnNewestRow.domain false) (Rows.fnNewestSpec.post enc Try.prog Try.f3 false true false false) := by
  refine returnsInHanded_of_change_sized (C := Try.checked) own started (by kernel_rfl) Try.func3
    (ChangeSpec.witness6 (enc := enc) (C := Try.checked) false ⟨#[], #[.slice none 0 0, .slice none 0 0], []⟩ 8 (by kernel_rfl) (by kernel_rfl) (by kernel_rfl) (by kernel_rfl)) ?_
  intro W base args ds gs before hval0 hW hcnd hsz0 _
  have hsz : (DataW.weightsEach Try.prog (Try.f3.params.toList ++ Rows.fnNewestSpec.plain.varTypes Try.prog) (ds ++ gs)).all (· ≤ reachBytes) = true := hsz0
  have hval : ∀ (j : Nat) t v, Try.f3.params[j]? = some t → args[j]? = some v → Value.okWide Try.prog W .any base t v := hval0
  have hW' := hW
  obtain ⟨p, q, hA0, hV, rfl, hfz, hnd⟩ := hW
  have hA : DataW.TrodAll enc Try.prog W 0 (fun _ => true) true Try.f3.params.toList args.toList ds p := hA0
  rw [Try.params3] at hA hval hsz
  obtain ⟨v0, vs0, d0, ds0, p0, q0, hargs, rfl, rfl, h0, r0⟩ := trodAll_cons hA
  obtain ⟨v1, vs1, d1, ds1, p1, q1, rfl, rfl, rfl, h1, r1⟩ := trodAll_cons r0
  obtain ⟨rfl, rfl, rfl⟩ := trodAll_nil r1
  obtain rfl : args = #[v0, v1] := by cases args; simp_all
  obtain ⟨rfl, rfl⟩ := trodVars_none hV
  obtain ⟨a0, len0, cap0, rfl⟩ := okWide_slice Try.underlying22 (hval 0 22 v0 rfl rfl)
  have k0 := h0
  have lt0 : ∀ x ∈ p0, x.block < W.heap.size := by obtain ⟨m, hm⟩ := k0; exact DataW.trod_lt m _ _ _ hm
  obtain ⟨z0, w0⟩ : ∃ zs, IsRow .u8 W a0 len0 cap0 zs := by
    obtain ⟨fuel, hf⟩ := h0
    rcases open_ints Try.underlying22 Try.underlying5 (by kernel_rfl) hf with ⟨hcs, _⟩ | ⟨x, l, c, zs, hcs, _, hl, hm, hz, _, hcell, hwz⟩
    · simp [Value.cells] at hcs
      obtain ⟨rfl, rfl, rfl⟩ := hcs
      exact ⟨[], .inl ⟨rfl, rfl, rfl, rfl⟩⟩
    · simp [Value.cells] at hcs
      obtain ⟨rfl, rfl, rfl⟩ := hcs
      exact ⟨zs, .inr ⟨_, rfl, hl, hm, by simpa using hz, hcell, hwz⟩⟩
  obtain ⟨a1, len1, cap1, rfl⟩ := okWide_slice Try.underlying22 (hval 1 22 v1 rfl rfl)
  have k1 := h1
  have lt1 : ∀ x ∈ p1, x.block < W.heap.size := by obtain ⟨m, hm⟩ := k1; exact DataW.trod_lt m _ _ _ hm
  obtain ⟨z1, w1⟩ : ∃ zs, IsRow .u8 W a1 len1 cap1 zs := by
    obtain ⟨fuel, hf⟩ := h1
    rcases open_ints Try.underlying22 Try.underlying5 (by kernel_rfl) hf with ⟨hcs, _⟩ | ⟨x, l, c, zs, hcs, _, hl, hm, hz, _, hcell, hwz⟩
    · simp [Value.cells] at hcs
      obtain ⟨rfl, rfl, rfl⟩ := hcs
      exact ⟨[], .inl ⟨rfl, rfl, rfl, rfl⟩⟩
    · simp [Value.cells] at hcs
      obtain ⟨rfl, rfl, rfl⟩ := hcs
      exact ⟨zs, .inr ⟨_, rfl, hl, hm, by simpa using hz, hcell, hwz⟩⟩
  clear hA0 hval0 hsz0 hsz
  refine (M.law_walk a0 len0 cap0 z0 a1 len1 cap1 z1 W w0 w1).mono fun e W' ⟨he, bel⟩ => ?_
  subst he
  exact ⟨_, rfl, _, _, _, [], _, [], hW', trodAll_mk1 (shut_bool Try.underlying4 _), (trodAll_cons_mk (Below.trod laidOut (by kernel_rfl) (of_decide_eq_true (by kernel_rfl)) k0 bel lt0) (trodAll_cons_mk (Below.trod laidOut (by kernel_rfl) (of_decide_eq_true (by kernel_rfl)) k1 bel lt1) trodAll_mk0)), rfl, bel.frame _, fun h => by cases h⟩
theorem over : Rows.fnNewestRow.holds Try.pinned (OpenSpec.ofChange Rows.fnNewestSpec) :=
  OpenClaim.holds_of_wide 3 Try.f3 rfl rfl rfl rfl rfl rfl rfl ⟨rfl, rfl, rfl, rfl, rfl⟩ rfl rfl rfl rfl rfl (by kernel_rfl) Try.func3 (by kernel_rfl)
    (of_decide_eq_true (by kernel_rfl)) (by unfold Func.isWrapper; first | (rw [if_pos (by decide +kernel)]; kernel_rfl) | (rw [if_neg (by decide +kernel)]; exact ⟨rfl, rfl⟩))
    (fun os started H enc _ => lifted os started H enc)
theorem proved : Rows.FnNewestSaid := over
#print axioms proved
end Go.Proofs.Ytkbhcejibcjglaa.fnNewest
namespace Go.Proofs.Ytkbhcejibcjglaa
/-- The row, under a short name, for the claim. -/
theorem fnNewest_holds : Rows.FnNewestSaid := fnNewest.proved
end Go.Proofs.Ytkbhcejibcjglaa
end

/- Texts of the claim FnExactParseScript, part 28 of 34, joined: MMarkOpsWalk, MLine, MLineWalk, Pspecl4Begins, PstringsliteHasPrefix, PstringsHasPrefix, MScript, MTable, MLineOf, MLaid. No condition beyond those that stand at each. -/
import Derived.Test.YtkbhcejibcjglaaDoorZFnExactParseScript27
import Derived.Test.YtkbhcejibcjglaaDoorZFnExactParseScript24
import Derived.Test.YtkbhcejibcjglaaDoorZFnExactParseScript23
import Derived.Test.YtkbhcejibcjglaaDoorRows
import Derived.Lib.LaidU8
import Derived.ProofKit
import Derived.OpenShut
import Derived.Shelf.Vars
import Derived.WideKeyElems2
import Derived.Laws.IdiomMaps
import Derived.Laws.IdiomElems
section
/- laws.markOpS, walked. Condition: at most 2 to the 20 marks. (Printed by wip/tpl/gen_markops.py.) -/
namespace Go.Proofs.YtkbhcejibcjglaaDoor.M
open Go.RowKit Go.Proofs.YtkbhcejibcjglaaDoor.P Go.Proofs.YtkbhcejibcjglaaDoorW.PrintWords Go.Proofs.YtkbhcejibcjglaaDoorW.PrintLast Go.Proofs.YtkbhcejibcjglaaDoorW.PrintMore
set_option linter.unusedVariables false
set_option linter.unusedSimpArgs false
theorem getset (xs : List S38) (i : Nat) (h : i < xs.length) (x : S38) : (xs.set i x).getD i z38 = x := by
  rw [List.getD_eq_getElem?_getD, List.getElem?_set_self h]
  rfl
theorem below_over {a b c : World} (h1 : Below a.heap.size a b) (h2 : Below b.heap.size b c) : Below a.heap.size a c := below_step h1 h2
theorem drop_set {α : Type} (xs l : List α) (i : Nat) (h : xs.drop i = l.drop i) (x : α) : (xs.set i x).drop (i + 1) = l.drop (i + 1) := by
  rw [List.drop_set_of_lt (by omega)]
  rw [← List.drop_drop (i := 1) (j := i), ← List.drop_drop (i := 1) (j := i), h]
theorem mark_sum {k a b o t : Nat} (h1 : k = 1 + a) (h2 : b = a + o) (h3 : b ≤ t) (h4 : t ≤ 1048576) : k + o = 1 + b ∧ k + o ≤ 1048577 := by omega
theorem mark_names (k a b o : Nat) (ho : o = 4 + 4 * a + b) (h : k + o ≤ 1048577) : ∃ k1 k2 k3 k4 k5 k6 : Nat, (k + 1 = k1 ∧ k1 + 1 = k2 ∧ k2 + 1 = k3 ∧ k3 + 1 = k4 ∧ k4 + 4 * a = k5 ∧ k5 + b = k6 ∧ k6 = k + o) ∧ (k6 ≤ 1048577 ∧ k4 ≤ 1099511627776 ∧ k5 ≤ 1099511627776 ∧ a ≤ 1048577 ∧ b ≤ 1048577) ∧
    wrap64 ((k : Int) + 1) = (k1 : Int) ∧ wrap64 ((k1 : Int) + 1) = (k2 : Int) ∧ wrap64 ((k2 : Int) + 1) = (k3 : Int) ∧ wrap64 ((k3 : Int) + 1) = (k4 : Int) ∧ k1 ≤ 4611686018427387904 ∧ k2 ≤ 4611686018427387904 := by
  refine ⟨k + 1, k + 1 + 1, k + 1 + 1 + 1, k + 1 + 1 + 1 + 1, k + 1 + 1 + 1 + 1 + 4 * a, k + 1 + 1 + 1 + 1 + 4 * a + b, ⟨rfl, rfl, rfl, rfl, rfl, rfl, by omega⟩, ⟨by omega, by omega, by omega, by omega, by omega⟩, wrap_succ (by omega), wrap_succ (by omega), wrap_succ (by omega), wrap_succ (by omega), by omega, by omega⟩
theorem mt_at (k : Nat) (hk : k ≤ 4611686018427387904) : ∃ q, laws_markText.f q (k : Int) = some (mt k) := Ev.rounds (mt_eq k hk)
set_option maxHeartbeats 8000000 in
set_option maxRecDepth 100000 in
theorem markOps_call (l : List S38) (v : Value) (w0 w : World) (P : Nat → Prop) (hB : Below w0.heap.size w0 w) (ho : Kd.S k38 38 w w0.heap.size P v l) (hn : allMarks l ≤ 1048576) :
    Calls Tryd.prog 18 #[v, .int .i64 1] w fun e w' => e = .returned (.int .i64 ((1 + allMarks l : Nat) : Int)) ∧ Kd.S k38 38 w' w0.heap.size (fun q => P q ∨ w.heap.size ≤ q) v (markOps 1 l) ∧ Below w0.heap.size w0 w' ∧ Kept w w' P := by
  obtain ⟨PP, hPP⟩ : ∃ PP : Nat → Prop, (fun q => P q ∨ w.heap.size ≤ q) = PP := ⟨_, rfl⟩
  have HPP := Aside0.mk (show ∀ q, PP q ↔ (P q ∨ w.heap.size ≤ q) from fun q => by rw [← hPP])
  have hl : l.length ≤ 1048576 := by
    have : ∀ m : List S38, m.length ≤ allMarks m := fun m => by
      induction m with
      | nil => exact Nat.zero_le _
      | cons a m ih =>
        have e : allMarks (a :: m) = opMarks a + allMarks m := by unfold allMarks; rw [List.map_cons, List.sum_cons]
        rw [e, List.length_cons]
        unfold opMarks
        omega
    exact Nat.le_trans (this l) hn
  rw [hPP]
  obtain ⟨A, c, rfl⟩ := Kd.S_slice ho
  have HO := Aside0.mk ho
  have HB0 := Aside0.mk hB
  have HL := Aside0.mk hl
  have HN := Aside0.mk hn
  clear ho hB hl hn hPP
  go_enter Tryd.func18, Tryd.ntmps18
  go_wp2
  go_loopw [1, 5] (fun v1 v5 wr => ∃ (i k : Nat) (xs : List S38), v1 = .int .i64 (k : Int) ∧ v5 = .int .i64 (i : Int) ∧ Aside0 (i ≤ l.length ∧ k = 1 + allMarks (l.take i) ∧ xs.length = l.length ∧ xs.drop i = l.drop i ∧ xs.take i = markOps 1 (l.take i)) ∧ Aside0 (Kd.S k38 38 wr w0.heap.size PP (.slice A l.length c) xs) ∧ Aside0 (Kept w wr P) ∧ Aside0 (Below w0.heap.size w0 wr)) (fun _ v5 _ => l.length - (intOf v5).toNat)
  case atStart => exact ⟨0, 1, l, rfl, rfl, ⟨Nat.zero_le _, rfl, rfl, rfl, by rw [List.take_zero]; rfl⟩, ⟨Kd.S_mono HO.out (fun q h => (HPP.out q).2 (.inl h))⟩, ⟨Kept.refl _ _⟩, HB0⟩
  case round =>
    obtain ⟨i, k, xs, rfl, rfl, HX0, HS, HK, HB⟩ := hrel
    by_cases hi : i < l.length
    · have hlen := HX0.out.2.2.1
      have hil : i < xs.length := by omega
      obtain ⟨g, cap, hv, hgb, hgl, _⟩ := Kd.S_form HS.out (by omega)
      injection hv with hA hl2 hcap
      subst hA
      subst hcap
      clear hl2
      have HGB := Aside0.mk hgb
      have HGP := Aside0.mk ((HPP.out g).1 ((Kd.S_R HS.out).1 g rfl))
      obtain ⟨x, hx⟩ : ∃ x, l[i] = x := ⟨_, rfl⟩
      have HX := Aside0.mk (show xs[i] = x from by
        have h1 : (xs.drop i)[0]? = (l.drop i)[0]? := by rw [HX0.out.2.2.2.1]
        rw [List.getElem?_drop, List.getElem?_drop, Nat.add_zero, List.getElem?_eq_getElem hi, List.getElem?_eq_getElem hil] at h1
        rw [← hx]
        exact Option.some.inj h1)
      have hkb : k + opMarks x = 1 + allMarks (l.take (i + 1)) ∧ k + opMarks x ≤ 1048577 := by
        have h2 := allMarks_take l i hi
        rw [hx] at h2
        exact mark_sum HX0.out.2.1 h2 (allMarks_le l (i + 1)) HN.out
      have HKB := Aside0.mk hkb
      have HXX := Aside0.mk hx
      obtain ⟨k1, k2, k3, k4, k5, k6, hks, hbd, hw1, hw2, hw3, hw4, hm1, hm2⟩ := mark_names k x.f4.length x.f5.length (opMarks x) rfl hkb.2
      have HKS := Aside0.mk hks
      have HBD := Aside0.mk hbd
      have HWR := Aside0.mk (show wrap64 ((i : Int) + 1) = ((i + 1 : Nat) : Int) from wrap_succ (Nat.lt_trans (Nat.lt_of_lt_of_le hi HL.out) (by decide)))
      obtain ⟨kt1, ht1⟩ := mt_at k1 hm1
      obtain ⟨kt2, ht2⟩ := mt_at k2 hm2
      have HT1 := Aside0.mk ht1
      have HT2 := Aside0.mk ht2
      clear hks hbd hm1 hm2 hkb ht1 ht2 hx hgb hgl hlen
      obtain ⟨⟨q0, hq0⟩, hf0, hs0, hg0⟩ := op_store HS.out i hi x ⟨(k : Int), x.f1, x.f2, x.f3, x.f4, x.f5⟩ (by rw [List.getD_eq_getElem?_getD, List.getElem?_eq_getElem hil]; exact HX.out) 0 (by decide) (.int .i64 (k : Int)) rfl (fun _ _ => rfl) rfl rfl
      rw [Nat.add_zero] at hq0 hf0 hs0 hg0
      have HP0 := Aside0.mk hs0
      have HG0 := Aside0.mk hg0
      clear hs0 hg0
      have HS1 := Aside0.mk (show Kd.S k38 38 (wr.setCell ⟨g, i * 6, none⟩ (.int .i64 (k : Int))) w0.heap.size PP (.slice (some ⟨g, 0, none⟩) l.length c) (xs.set i ⟨(k : Int), x.f1, x.f2, x.f3, x.f4, x.f5⟩) from HP0.out)
      replace HK := Aside0.mk (show Kept w (wr.setCell ⟨g, i * 6, none⟩ (.int .i64 (k : Int))) P from Kept.of_grown HG0.out HK.out (fun k e_ => by injection e_ with e_; subst e_; exact HGP.out))
      replace HB := Aside0.mk (show Below w0.heap.size w0 (wr.setCell ⟨g, i * 6, none⟩ (.int .i64 (k : Int))) from below_set HB.out HGB.out)
      clear HP0 HG0
      go_wp2_with fail
      refine (laws_markText.calls kt1 (k1 : Int) (mt k1) _ HT1.out).mono ?_
      rintro e wb ⟨rfl, hb⟩
      have HS2 := Aside0.mk (Kd.S_below HS1.out hb)
      replace HK := Aside0.mk (Kept.below HK.out hb)
      replace HB := Aside0.mk (below_over HB.out hb)
      clear hb
      obtain ⟨⟨q1, hq1⟩, hf1, hs1, hg1⟩ := op_store HS2.out i hi ⟨(k : Int), x.f1, x.f2, x.f3, x.f4, x.f5⟩ ⟨(k : Int), mt k1, x.f2, x.f3, x.f4, x.f5⟩ (getset _ i hil _) 1 (by decide) (.string (mt k1)) rfl (fun _ _ => rfl) rfl rfl
      rw [List.set_set] at hs1
      have HP1 := Aside0.mk hs1
      have HG1 := Aside0.mk hg1
      clear hs1 hg1
      have HS3 := Aside0.mk (show Kd.S k38 38 (wb.setCell ⟨g, i * 6 + 1, none⟩ (.string (mt k1))) w0.heap.size PP (.slice (some ⟨g, 0, none⟩) l.length c) (xs.set i ⟨(k : Int), mt k1, x.f2, x.f3, x.f4, x.f5⟩) from HP1.out)
      replace HK := Aside0.mk (show Kept w (wb.setCell ⟨g, i * 6 + 1, none⟩ (.string (mt k1))) P from Kept.of_grown HG1.out HK.out (fun k e_ => by injection e_ with e_; subst e_; exact HGP.out))
      replace HB := Aside0.mk (show Below w0.heap.size w0 (wb.setCell ⟨g, i * 6 + 1, none⟩ (.string (mt k1))) from below_set HB.out HGB.out)
      clear HP1 HG1
      go_wp2_with fail
      refine (laws_markText.calls kt2 (k2 : Int) (mt k2) _ HT2.out).mono ?_
      rintro e wd ⟨rfl, hb⟩
      have HS4 := Aside0.mk (Kd.S_below HS3.out hb)
      replace HK := Aside0.mk (Kept.below HK.out hb)
      replace HB := Aside0.mk (below_over HB.out hb)
      clear hb
      obtain ⟨⟨q2, hq2⟩, hf2, hs2, hg2⟩ := op_store HS4.out i hi ⟨(k : Int), mt k1, x.f2, x.f3, x.f4, x.f5⟩ ⟨(k : Int), mt k1, mt k2, x.f3, x.f4, x.f5⟩ (getset _ i hil _) 2 (by decide) (.string (mt k2)) rfl (fun _ _ => rfl) rfl rfl
      rw [List.set_set] at hs2
      have HP2 := Aside0.mk hs2
      have HG2 := Aside0.mk hg2
      clear hs2 hg2
      have HS5 := Aside0.mk (show Kd.S k38 38 (wd.setCell ⟨g, i * 6 + 2, none⟩ (.string (mt k2))) w0.heap.size PP (.slice (some ⟨g, 0, none⟩) l.length c) (xs.set i ⟨(k : Int), mt k1, mt k2, x.f3, x.f4, x.f5⟩) from HP2.out)
      replace HK := Aside0.mk (show Kept w (wd.setCell ⟨g, i * 6 + 2, none⟩ (.string (mt k2))) P from Kept.of_grown HG2.out HK.out (fun k e_ => by injection e_ with e_; subst e_; exact HGP.out))
      replace HB := Aside0.mk (show Below w0.heap.size w0 (wd.setCell ⟨g, i * 6 + 2, none⟩ (.string (mt k2))) from below_set HB.out HGB.out)
      clear HP2 HG2
      obtain ⟨⟨q3, hq3⟩, hf3, hs3, hg3⟩ := op_store HS5.out i hi ⟨(k : Int), mt k1, mt k2, x.f3, x.f4, x.f5⟩ ⟨(k : Int), mt k1, mt k2, (k3 : Int), x.f4, x.f5⟩ (getset _ i hil _) 3 (by decide) (.int .i64 (k3 : Int)) rfl (fun _ _ => rfl) rfl rfl
      rw [List.set_set] at hs3
      have HP3 := Aside0.mk hs3
      have HG3 := Aside0.mk hg3
      clear hs3 hg3
      have HS6 := Aside0.mk (show Kd.S k38 38 ((wd.setCell ⟨g, i * 6 + 2, none⟩ (.string (mt k2))).setCell ⟨g, i * 6 + 3, none⟩ (.int .i64 (k3 : Int))) w0.heap.size PP (.slice (some ⟨g, 0, none⟩) l.length c) (xs.set i ⟨(k : Int), mt k1, mt k2, (k3 : Int), x.f4, x.f5⟩) from HP3.out)
      replace HK := Aside0.mk (show Kept w ((wd.setCell ⟨g, i * 6 + 2, none⟩ (.string (mt k2))).setCell ⟨g, i * 6 + 3, none⟩ (.int .i64 (k3 : Int))) P from Kept.of_grown HG3.out HK.out (fun k e_ => by injection e_ with e_; subst e_; exact HGP.out))
      replace HB := Aside0.mk (show Below w0.heap.size w0 ((wd.setCell ⟨g, i * 6 + 2, none⟩ (.string (mt k2))).setCell ⟨g, i * 6 + 3, none⟩ (.int .i64 (k3 : Int))) from below_set HB.out HGB.out)
      clear HP3 HG3
      obtain ⟨oki, cs, hcl, hM, hcc, hoki, hH⟩ := Kd.S_lend HS6.out z38 (i : Int) (Int.natCast_nonneg i) (Int.ofNat_lt.2 hi)
      rw [Int.toNat_natCast, getset _ i hil _] at hM
      obtain ⟨v4, v5, rfl, g4, g5⟩ := k38_openM hM
      obtain ⟨A4, c4, rfl⟩ := Kd.R_slice g4
      obtain ⟨A5, c5, rfl⟩ := Kd.R_slice g5
      have hx4 := hcc 4 _ rfl
      have hx5 := hcc 5 _ rfl
      rw [show ((i : Int).toNat * k38.sz + 4) = i * 6 + 4 from by rw [Int.toNat_natCast]; rfl] at hx4
      rw [show ((i : Int).toNat * k38.sz + 5) = i * 6 + 5 from by rw [Int.toNat_natCast]; rfl] at hx5
      have HX5 := Aside0.mk hx5
      have HG4 := Aside0.mk g4
      have HG5 := Aside0.mk g5
      have HH := Aside0.mk hH
      have HOK := Aside0.mk hoki
      obtain ⟨qe, hqe⟩ := Ev.rounds (markEntryS_from k4 HBD.out.2.1 x.f4 HBD.out.2.2.2.1)
      rw [HKS.out.2.2.2.2.1] at hqe
      obtain ⟨qi, hqi⟩ := Ev.rounds (markIntS_from k5 HBD.out.2.2.1 x.f5 HBD.out.2.2.2.2)
      rw [HKS.out.2.2.2.2.2.1] at hqi
      have HQE := Aside0.mk hqe
      have HQI := Aside0.mk hqi
      clear hcl hcc hoki hH g4 g5 hx5 hqe hqi HS HS1 HS2 HS3 HS4 HS5 HS6
      go_wp2_with fail
      refine (laws_markEntryS.calls qe _ _ x.f4 (k4 : Int) _ _ w0 _ HB.out (Kd.R_tight2 rfl HG4.out) HQE.out).mono ?_
      rintro e wg ⟨rfl, ho2, hb2, hk2⟩
      have hx5 := cell_kept HX5.out hk2 (fun h => (HOK.out g h.2).2 rfl)
      have G5 := Aside0.mk (Kd.R_kept (Kd.R_apart' HG5.out (Kd.R_typed HG4.out) (by decide)) hk2 (fun q h1 h2 => h1.2 h2.1))
      have G4 := Aside0.mk ho2
      have H2 := Aside0.mk (Kd.H_kept (Kd.H_widen HH.out) hk2 (fun q _ hn h => hn (.inl h.2)))
      have HWS := Aside0.mk HK.out.1
      have HK2 := Aside0.mk (show Kept w wg P from HK.out.then_ hk2 (fun q h => (HPP.out q).1 (HOK.out q h.2).1))
      have HSZ := Aside0.mk hk2.1
      have HB2 := Aside0.mk hb2
      clear ho2 hb2 hk2 hx4 HX5 HG4 HG5 HH HB HK
      go_wp2_with fail
      refine (laws_markIntS.calls qi _ _ x.f5 (k5 : Int) _ _ w0 _ HB2.out (Kd.R_tight2 rfl G5.out) HQI.out).mono ?_
      rintro e wh ⟨rfl, ho3, hb3, hk3⟩
      have hop : markOp k x = ⟨(k : Int), mt k1, mt k2, (k3 : Int), marked k4 x.f4, markInts k5 x.f5⟩ := by
        obtain ⟨e1, e2, e3, e4, e5, e6, _⟩ := HKS.out
        subst e1 e2 e3 e4 e5
        rfl
      have hS := (show Kd.S k38 38 wh w0.heap.size PP (.slice (some ⟨g, 0, none⟩) l.length c) (xs.set i (markOp k x)) from by
        have h1 := Kd.H_kept H2.out hk3 (fun q _ hn h => hn (.inl h.2.1))
        have g4' := Kd.R_kept (Kd.R_apart' G4.out (Kd.R_typed G5.out) (by decide)) hk3 (fun q h1 h2 => h1.2 h2.1)
        have h2 := Kd.H_back h1 (x' := markOp k x) (by
          rw [hop]
          refine k38_mkM _ _ _ (⟨(k : Int), mt k1, mt k2, (k3 : Int), marked k4 x.f4, markInts k5 x.f5⟩ : S38) (Kd.R_mono g4' (fun q h => ?_)) (Kd.R_mono ho3 (fun q h => ?_))
          · exact h.1.imp (fun h3 => h3.2) (fun h3 => ⟨(HPP.out q).2 (.inr (Nat.le_trans HWS.out h3)), h3⟩)
          · exact h.imp (fun h3 => h3.2.1) (fun h3 => ⟨(HPP.out q).2 (.inr (Nat.le_trans HWS.out (Nat.le_trans HSZ.out h3))), Nat.le_trans HSZ.out h3⟩)) (fun q h => h)
        rwa [Int.toNat_natCast, List.set_set] at h2)
      have HSN := Aside0.mk hS
      have HKN := Aside0.mk (show Kept w wh P from HK2.out.then_ hk3 (fun q h => (HPP.out q).1 (HOK.out q h.2.1).1))
      have HBN := Aside0.mk hb3
      clear ho3 hb3 hk3 hS hop H2 G4 G5 HK2 HB2 hx5
      go_wp2
      go_roundw
      case rel =>
        refine ⟨i + 1, k6, xs.set i (markOp k x), rfl, by rw [← HWR.out], ⟨hi, HKS.out.2.2.2.2.2.2.trans HKB.out.1, by rw [List.length_set]; exact HX0.out.2.2.1, drop_set xs l i HX0.out.2.2.2.1 _, ?_⟩, HSN, HKN, HBN⟩
        rw [take_at _ i (by rw [List.length_set]; exact hil), List.take_set_of_le (Nat.le_refl i), List.getElem_set_self, HX0.out.2.2.2.2, take_at l i hi, markOps_snoc, ← HX0.out.2.1, HXX.out]
      case measure => rw [HWR.out]; exact meas_lt _ _ hi
    · have hie : i = l.length := Nat.le_antisymm HX0.out.1 (Nat.not_lt.1 hi)
      subst hie
      have HF := Aside0.mk (show k = 1 + allMarks l ∧ xs = markOps 1 l from by
        have h1 := HX0.out.2.1
        have h2 := HX0.out.2.2.2.2
        rw [List.take_length] at h1 h2
        rw [List.take_of_length_le (Nat.le_of_eq HX0.out.2.2.1)] at h2
        exact ⟨h1, h2⟩)
      go_wp2
      go_ret
      refine ⟨?_, by rw [← HF.out.2]; exact HS.out, HB.out, HK.out⟩
      first | exact congrArg (fun z : Nat => Ending.returned (.int .i64 (z : Int))) HF.out.1 | (rw [HF.out.1]; simp; done) | (have hkk := HF.out.1; simp [hkk]; done) | (have hkk := HF.out.1; simp; omega)
end Go.Proofs.YtkbhcejibcjglaaDoor.M
end
section
/- How the world stands while a line is read into an operation. No condition. -/
namespace Go.Proofs.YtkbhcejibcjglaaDoor.M
open Go.RowKit Go.Proofs.YtkbhcejibcjglaaDoor.P Go.Proofs.YtkbhcejibcjglaaDoorW.PrintWords Go.Proofs.YtkbhcejibcjglaaDoorW.PrintLast Go.Proofs.YtkbhcejibcjglaaDoorW.PrintMore
set_option linter.unusedVariables false
/-- The operation stands at e, the answer's place at r; the line's parts are the row vp. -/
structure LP (w wr : World) (e r : Nat) (x : S38) (v4 v5 vp : Value) (parts : List ByteArray) : Prop where
  bel : Below w.heap.size w wr
  ge : w.heap.size ≤ e
  gr : w.heap.size ≤ r
  ne : e ≠ r
  eb : wr.heap[e]? = some (.cells #[.int .i64 x.f0, .string x.f1, .string x.f2, .int .i64 x.f3, v4, v5] 38 (0, 0))
  rb : wr.heap[r]? = some (.cells #[.int .i64 0, .string ⟨#[]⟩, .string ⟨#[]⟩, .int .i64 0, .slice none 0 0, .slice none 0 0] 38 (0, 0))
  r4 : Kd.R k50 50 wr w.heap.size (fun _ => True) v4 x.f4
  r5 : Kd.R (Kd.int .i64) 3 wr w.heap.size (fun _ => True) v5 x.f5
  rp : Kd.R Kd.string 9 wr w.heap.size (fun _ => True) vp parts
theorem own_ne {α : Type} {d : Kd α} {q : Nat} {ok : Nat → Prop} {v : Value} {xs : List α} {base : Nat} {wr : World} (h : d.R q wr base ok v xs) {k t : Nat} {cells : Array Value} (hb : wr.heap[k]? = some (.cells cells t (0, 0))) (ht : ∀ p, p ∈ q :: d.E → p ≠ t) : some k ≠ v.ownBlock :=
  fun he => ((Kd.R_types h hb ht).1 k he.symm).2 rfl
/-- What a function that reads a line leaves. -/
def OpPost (o : Option S38) (w : World) (en : Ending) (w' : World) : Prop := ∃ (x : S38) (v4 v5 : Value), en = .returned (.tuple #[.agg #[.int .i64 x.f0, .string x.f1, .string x.f2, .int .i64 x.f3, v4, v5], .bool o.isSome]) ∧ (∀ y, o = some y → x = y) ∧ Kd.R k50 50 w' w.heap.size (fun _ => True) v4 x.f4 ∧ Kd.R (Kd.int .i64) 3 w' w.heap.size (fun _ => True) v5 x.f5 ∧ Below w.heap.size w w'
section
variable {w wr W : World} {e r : Nat} {x : S38} {v4 v5 vp : Value} {parts : List ByteArray}
theorem LP.below (h : LP w wr e r x v4 v5 vp parts) (hx : Below wr.heap.size wr W) : LP w W e r x v4 v5 vp parts :=
  ⟨h.bel.trans (hx.mono h.bel.size), h.ge, h.gr, h.ne, (hx.block _ (blk_lt h.eb)).trans h.eb, (hx.block _ (blk_lt h.rb)).trans h.rb, Kd.R_below h.r4 hx, Kd.R_below h.r5 hx, Kd.R_below h.rp hx⟩
theorem LP.drawn (h : LP w wr e r x v4 v5 vp parts) (hx : Drawn0 wr W) : LP w W e r x v4 v5 vp parts := by
  obtain ⟨n, rfl⟩ := hx.out
  exact h.below (pw_below_drewN (Below.refl _ _) n)
/-- Another row behind the batch. -/
theorem LP.grew4 {u : Value} {l : List S50} (h : LP w wr e r x v4 v5 vp parts) (ho : Kd.R k50 50 W w.heap.size (fun _ => True) u l) (hb : Below w.heap.size w W) (hg : wr.grownBy W v4.ownBlock) :
    LP w (W.setCell ⟨e, 4, none⟩ u) e r ⟨x.f0, x.f1, x.f2, x.f3, l, x.f5⟩ u v5 vp parts := by
  have eb := (hg.block e (blk_lt h.eb) (own_ne h.r4 h.eb (by decide))).trans h.eb
  have rb := (hg.block r (blk_lt h.rb) (own_ne h.r4 h.rb (by decide))).trans h.rb
  have r5 := Kd.R_over' h.r5 (Kd.R_typed h.r4) (by decide) hg
  have rp := Kd.R_over' h.rp (Kd.R_typed h.r4) (by decide) hg
  exact ⟨below_set hb h.ge, h.ge, h.gr, h.ne, blk_put eb 4 u rfl, (Below.heap_setCell W ⟨e, 4, none⟩ u r h.ne.symm).trans rb, Kd.R_set ho eb (by decide) 4 u, Kd.R_set r5 eb (by decide) 4 u, Kd.R_set rp eb (by decide) 4 u⟩
/-- Another row behind the numbers. -/
theorem LP.grew5 {u : Value} {l : List Int} (h : LP w wr e r x v4 v5 vp parts) (ho : Kd.R (Kd.int .i64) 3 W w.heap.size (fun _ => True) u l) (hb : Below w.heap.size w W) (hg : wr.grownBy W v5.ownBlock) :
    LP w (W.setCell ⟨e, 5, none⟩ u) e r ⟨x.f0, x.f1, x.f2, x.f3, x.f4, l⟩ v4 u vp parts := by
  have eb := (hg.block e (blk_lt h.eb) (own_ne h.r5 h.eb (by decide))).trans h.eb
  have rb := (hg.block r (blk_lt h.rb) (own_ne h.r5 h.rb (by decide))).trans h.rb
  have r4 := Kd.R_over' h.r4 (Kd.R_typed h.r5) (by decide) hg
  have rp := Kd.R_over' h.rp (Kd.R_typed h.r5) (by decide) hg
  exact ⟨below_set hb h.ge, h.ge, h.gr, h.ne, blk_put eb 5 u rfl, (Below.heap_setCell W ⟨e, 5, none⟩ u r h.ne.symm).trans rb, Kd.R_set r4 eb (by decide) 5 u, Kd.R_set ho eb (by decide) 5 u, Kd.R_set rp eb (by decide) 5 u⟩
/-- One of the plain fields written. -/
theorem LP.put (h : LP w wr e r x v4 v5 vp parts) (j : Nat) (u : Value) (y : S38) (h4 : y.f4 = x.f4) (h5 : y.f5 = x.f5)
    (hy : (#[.int .i64 x.f0, .string x.f1, .string x.f2, .int .i64 x.f3, v4, v5] : Array Value).setIfInBounds j u = #[.int .i64 y.f0, .string y.f1, .string y.f2, .int .i64 y.f3, v4, v5]) : LP w (wr.setCell ⟨e, j, none⟩ u) e r y v4 v5 vp parts :=
  ⟨below_set h.bel h.ge, h.ge, h.gr, h.ne, blk_put h.eb j u hy, (Below.heap_setCell wr ⟨e, j, none⟩ u r h.ne.symm).trans h.rb, by rw [h4]; exact Kd.R_set h.r4 h.eb (by decide) j u, by rw [h5]; exact Kd.R_set h.r5 h.eb (by decide) j u, Kd.R_set h.rp h.eb (by decide) j u⟩
theorem LP.set1 (h : LP w wr e r x v4 v5 vp parts) (u : ByteArray) : LP w (wr.setCell ⟨e, 1, none⟩ (.string u)) e r ⟨x.f0, u, x.f2, x.f3, x.f4, x.f5⟩ v4 v5 vp parts := h.put 1 _ _ rfl rfl rfl
theorem LP.set2 (h : LP w wr e r x v4 v5 vp parts) (u : ByteArray) : LP w (wr.setCell ⟨e, 2, none⟩ (.string u)) e r ⟨x.f0, x.f1, u, x.f3, x.f4, x.f5⟩ v4 v5 vp parts := h.put 2 _ _ rfl rfl rfl
theorem LP.set3 (h : LP w wr e r x v4 v5 vp parts) (u : Int) : LP w (wr.setCell ⟨e, 3, none⟩ (.int .i64 u)) e r ⟨x.f0, x.f1, x.f2, u, x.f4, x.f5⟩ v4 v5 vp parts := h.put 3 _ _ rfl rfl rfl
/-- The cells, for the walk: the operation's, and the answer's place's. -/
structure LPc (wr : World) (e r : Nat) (x : S38) (v4 v5 : Value) : Prop where
  z0 : wr.cell? ⟨e, 0, none⟩ = some (.int .i64 x.f0)
  z1 : wr.cell? ⟨e, 1, none⟩ = some (.string x.f1)
  z2 : wr.cell? ⟨e, 2, none⟩ = some (.string x.f2)
  z3 : wr.cell? ⟨e, 3, none⟩ = some (.int .i64 x.f3)
  z4 : wr.cell? ⟨e, 4, none⟩ = some v4
  z5 : wr.cell? ⟨e, 5, none⟩ = some v5
  y0 : wr.cell? ⟨r, 0, none⟩ = some (.int .i64 0)
  y1 : wr.cell? ⟨r, 1, none⟩ = some (.string ⟨#[]⟩)
  y2 : wr.cell? ⟨r, 2, none⟩ = some (.string ⟨#[]⟩)
  y3 : wr.cell? ⟨r, 3, none⟩ = some (.int .i64 0)
  y4 : wr.cell? ⟨r, 4, none⟩ = some (.slice none 0 0)
  y5 : wr.cell? ⟨r, 5, none⟩ = some (.slice none 0 0)
  m : ∀ j, wr.frozen? ⟨r, j, none⟩ = false
  f : ∀ j, wr.frozen? ⟨e, j, none⟩ = false
  n1 : e ≠ r
  n2 : r ≠ e
theorem LP.cells (h : LP w wr e r x v4 v5 vp parts) : LPc wr e r x v4 v5 :=
  ⟨(blk_cell h.eb 0).trans rfl, (blk_cell h.eb 1).trans rfl, (blk_cell h.eb 2).trans rfl, (blk_cell h.eb 3).trans rfl, (blk_cell h.eb 4).trans rfl, (blk_cell h.eb 5).trans rfl,
   (blk_cell h.rb 0).trans rfl, (blk_cell h.rb 1).trans rfl, (blk_cell h.rb 2).trans rfl, (blk_cell h.rb 3).trans rfl, (blk_cell h.rb 4).trans rfl, (blk_cell h.rb 5).trans rfl, fun j => blk_frozen h.rb j, fun j => blk_frozen h.eb j, h.ne, h.ne.symm⟩
theorem put6 {W : World} {r : Nat} {u0 u1 u2 u3 u4 u5 : Value} (h : W.heap[r]? = some (.cells #[u0, u1, u2, u3, u4, u5] 38 (0, 0))) (v0 v1 v2 v3 v4 v5 : Value) :
    ((((((W.setCell ⟨r, 0, none⟩ v0).setCell ⟨r, 1, none⟩ v1).setCell ⟨r, 2, none⟩ v2).setCell ⟨r, 3, none⟩ v3).setCell ⟨r, 4, none⟩ v4).setCell ⟨r, 5, none⟩ v5).heap[r]? = some (.cells #[v0, v1, v2, v3, v4, v5] 38 (0, 0)) :=
  blk_put (blk_put (blk_put (blk_put (blk_put (blk_put h 0 v0 rfl) 1 v1 rfl) 2 v2 rfl) 3 v3 rfl) 4 v4 rfl) 5 v5 rfl
theorem R_far6 {α : Type} {d : Kd α} {q base : Nat} {ok : Nat → Prop} {v : Value} {xs : List α} {W : World} {r t : Nat} {cells : Array Value} (h : d.R q W base ok v xs) (hb : W.heap[r]? = some (.cells cells t (0, 0))) (ht : ∀ p, p ∈ q :: d.E → p ≠ t) (u0 u1 u2 u3 u4 u5 : Value) :
    d.R q ((((((W.setCell ⟨r, 0, none⟩ u0).setCell ⟨r, 1, none⟩ u1).setCell ⟨r, 2, none⟩ u2).setCell ⟨r, 3, none⟩ u3).setCell ⟨r, 4, none⟩ u4).setCell ⟨r, 5, none⟩ u5) base ok v xs := by
  have := Kd.R_types h hb ht
  exact Kd.R_mono (Kd.R_far (Kd.R_far (Kd.R_far (Kd.R_far (Kd.R_far (Kd.R_far this (p := ⟨r, 0, none⟩) (fun _ x => x.2) _) (p := ⟨r, 1, none⟩) (fun _ x => x.2) _) (p := ⟨r, 2, none⟩) (fun _ x => x.2) _) (p := ⟨r, 3, none⟩) (fun _ x => x.2) _) (p := ⟨r, 4, none⟩) (fun _ x => x.2) _) (p := ⟨r, 5, none⟩) (fun _ x => x.2) _) (fun _ x => x.1)
/-- The answer has been written. -/
theorem LP.done (h : LP w wr e r x v4 v5 vp parts) (o : Option S38) (b : Bool) (hb : o.isSome = b) (ho : ∀ y, o = some y → x = y) :
    OpPost o w (.returned (.tuple #[.agg #[.int .i64 x.f0, .string x.f1, .string x.f2, .int .i64 x.f3, v4, v5], .bool b]))
      ((((((wr.setCell ⟨r, 0, none⟩ (.int .i64 x.f0)).setCell ⟨r, 1, none⟩ (.string x.f1)).setCell ⟨r, 2, none⟩ (.string x.f2)).setCell ⟨r, 3, none⟩ (.int .i64 x.f3)).setCell ⟨r, 4, none⟩ v4).setCell ⟨r, 5, none⟩ v5) := by
  refine ⟨x, v4, v5, by rw [hb], ho, R_far6 h.r4 h.rb (by decide) _ _ _ _ _ _, R_far6 h.r5 h.rb (by decide) _ _ _ _ _ _, ?_⟩
  exact below_set (below_set (below_set (below_set (below_set (below_set h.bel h.gr) h.gr) h.gr) h.gr) h.gr) h.gr
end
end Go.Proofs.YtkbhcejibcjglaaDoor.M
end
section
/- spec.l7Op, walked. Condition: at most 2 to the 20 bytes. (Printed by wip/tpl/gen_line.py.) -/
namespace Go.Proofs.YtkbhcejibcjglaaDoor.M
open Go.RowKit Go.Proofs.YtkbhcejibcjglaaDoor.P Go.Proofs.YtkbhcejibcjglaaDoorW.PrintWords Go.Proofs.YtkbhcejibcjglaaDoorW.PrintLast Go.Proofs.YtkbhcejibcjglaaDoorW.PrintMore
set_option linter.unusedVariables false
set_option linter.unusedSimpArgs false
theorem info3 : (Tryd.prog.info? 3).map (fun i => (i.zero, i.size, i.bytes)) = some (some (.int .i64 0), 1, 8) := by kernel_rfl
theorem info50 : (Tryd.prog.info? 50).map (fun i => (i.zero, i.size, i.bytes)) = some (some (.agg #[.string ⟨#[]⟩, .int .i64 0, .int .i64 0, .string ⟨#[]⟩]), 4, 48) := by kernel_rfl
theorem info38 : (Tryd.prog.info? 38).map (fun i => (i.zero, i.size, i.bytes)) = some (some (.agg #[.int .i64 0, .string ⟨#[]⟩, .string ⟨#[]⟩, .int .i64 0, .slice none 0 0, .slice none 0 0]), 6, 96) := by kernel_rfl
theorem parts_tail (g cp : Nat) (a : ByteArray) (l : List ByteArray) (hc : l.length + 1 ≤ cp) : ∃ A8 : Option Addr, (∀ W : World, (Instr.slice 30 (.slice (some ⟨g, 0, none⟩) (l.length + 1) cp) (some (.int .i64 1)) none none).run Tryd.prog W = .ok (.slice A8 l.length (cp - 1)) W) ∧
    (∀ w : World, ReadsOf Value.string ByteArray.empty w (some ⟨g, 0, none⟩) (l.length + 1) (a :: l) → ReadsOf Value.string ByteArray.empty w A8 l.length l) := by
  obtain ⟨i0, hi, hz0, hz1, hz2⟩ := info_parts info9
  obtain ⟨A8, h1, h2, h3⟩ := print_drop_of (P := Tryd.prog) Value.string ByteArray.empty 30 9 .i64 Tryd.underlying30 hi hz1 (some ⟨g, 0, none⟩) cp (a :: l) 1 (by omega) (by simp; omega) (by simpa using hc)
  exact ⟨A8, h1, h2⟩
theorem grown_cell5 {w wr W : World} {e r : Nat} {x : S38} {v4 v5 vp : Value} {parts : List ByteArray} (h : LP w wr e r x v4 v5 vp parts) (hg : wr.grownBy W v5.ownBlock) : (∃ q, W.cell? ⟨e, 5, none⟩ = some q) ∧ W.frozen? ⟨e, 5, none⟩ = false := by
  have eb := (hg.block e (blk_lt h.eb) (own_ne h.r5 h.eb (by decide))).trans h.eb
  exact ⟨⟨_, (blk_cell eb 5).trans rfl⟩, blk_frozen eb 5⟩
theorem grown_cell4 {w wr W : World} {e r : Nat} {x : S38} {v4 v5 vp : Value} {parts : List ByteArray} (h : LP w wr e r x v4 v5 vp parts) (hg : wr.grownBy W v4.ownBlock) : (∃ q, W.cell? ⟨e, 4, none⟩ = some q) ∧ W.frozen? ⟨e, 4, none⟩ = false := by
  have eb := (hg.block e (blk_lt h.eb) (own_ne h.r4 h.eb (by decide))).trans h.eb
  exact ⟨⟨_, (blk_cell eb 4).trans rfl⟩, blk_frozen eb 4⟩
/-- A row of words behind the parts' row g grows: the world stands as before. -/
theorem LP.grewW {w wr W : World} {e r g n cp : Nat} {x : S38} {v4 v5 vw : Value} {parts ws : List ByteArray} (h : LP w wr e r x v4 v5 (.slice (some ⟨g, 0, none⟩) n cp) parts) (hw : Kd.R Kd.string 9 wr w.heap.size (fun k => g < k) vw ws) (hb : Below w.heap.size w W) (hg : wr.grownBy W vw.ownBlock) :
    LP w W e r x v4 v5 (.slice (some ⟨g, 0, none⟩) n cp) parts := by
  have eb := (hg.block e (blk_lt h.eb) (own_ne hw h.eb (by decide))).trans h.eb
  have rb := (hg.block r (blk_lt h.rb) (own_ne hw h.rb (by decide))).trans h.rb
  have r4 := Kd.R_over' h.r4 (Kd.R_typed hw) (by decide) hg
  have r5 := Kd.R_over' h.r5 (Kd.R_typed hw) (by decide) hg
  have rp := Kd.R_grown2 h.rp rfl hg (fun k hk he => by
    have h1 : g < k := hw.1 k hk
    have h2 : k = g := by simpa [Value.ownBlock] using he
    omega)
  exact ⟨hb, h.ge, h.gr, h.ne, eb, rb, r4, r5, rp⟩
theorem LP.plt {w wr : World} {e r g n cp : Nat} {x : S38} {v4 v5 : Value} {parts : List ByteArray} (h : LP w wr e r x v4 v5 (.slice (some ⟨g, 0, none⟩) n cp) parts) : g < wr.heap.size := Kd.R_lt h.rp g (by simp [Value.ownBlock])
theorem words_nil (W : World) (base g : Nat) (hb : base ≤ W.heap.size) (hg : g < W.heap.size) : Kd.R Kd.string 9 (W.alloc (.cells #[] 9)) base (fun k => g < k) (.slice (some ⟨W.heap.size, 0, none⟩) 0 0) [] :=
  Kd.R_of_own (enc := Value.string) (h1 := fun _ => rfl) (World.ownsRow_made W #[] 0 hb (Nat.zero_le _) rfl) (fun k hk => by
    have h2 : W.heap.size = k := by simpa [Value.ownBlock] using hk
    omega)
theorem zip_at (a : List UInt8) (l : List ByteArray) (i : Nat) (ha : i < a.length) (hl : i < l.length) : (a.zip l).take (i + 1) = (a.zip l).take i ++ [(a[i], l[i])] := by
  have h : i < (a.zip l).length := by rw [List.length_zip]; omega
  rw [take_at _ i h]
  congr 1
  rw [List.getElem_zip]
theorem zip_all (a : List UInt8) (l : List ByteArray) (i : Nat) (ha : i < a.length) (hl : i < l.length) (h : goodB (a[i], l[i]) = false) : ¬ (a.zip l).all goodB = true := by
  intro h2
  have h3 : i < (a.zip l).length := by rw [List.length_zip]; omega
  have h4 := List.all_eq_true.1 h2 (a.zip l)[i] (List.getElem_mem h3)
  rw [List.getElem_zip, h] at h4
  cases h4
theorem wordsT_le (q : List (UInt8 × ByteArray)) : (wordsT q).length ≤ q.length := by
  induction q with
  | nil => exact Nat.le_refl _
  | cons a q ih =>
    unfold wordsT
    split
    · rw [List.length_cons]; omega
    · rw [List.length_cons, List.length_cons]; omega
theorem parts_at {A8 : Option Addr} {w : World} {l : List ByteArray} (h : ReadsOf Value.string ByteArray.empty w A8 l.length l) (i : Nat) (hi : i < l.length) : ∃ ad, A8 = some ad ∧ w.cell? (ad.add i) = some (.string l[i]) := by
  obtain ⟨ad, h1, h2⟩ := h.at_ (i : Int) (by omega) (by omega)
  refine ⟨ad, h1, ?_⟩
  rw [Int.toNat_natCast] at h2
  rw [h2]
  unfold rdOf
  rw [Int.toNat_natCast, getD_at l i _ hi]
theorem parts_read {wr : World} {g n cp : Nat} {parts : List ByteArray} {ok : Nat → Prop} {base : Nat} (h : Kd.R Kd.string 9 wr base ok (.slice (some ⟨g, 0, none⟩) n cp) parts) : ReadsOf Value.string ByteArray.empty wr (some ⟨g, 0, none⟩) n parts := by
  have h1 := (Kd.R_reads' h)
  obtain ⟨rfl, h2, h3⟩ := h1
  exact Kd.reads_of_C (h1 := fun _ => rfl) h3
set_option maxHeartbeats 8000000 in
set_option maxRecDepth 100000 in
theorem op_star (s : ByteArray) (w : World) (hs : s.size ≤ 1048576) (kd : Int) (sh : ByteArray) (hks : kindOf (headW s) = (kd, sh)) (h0 : kd ≠ 0) (h42 : sh = ⟨#[42]⟩) : Calls Tryd.prog 12 #[.string s] w (OpPost (opOf s) w) := by
  have hu38 := Tryd.underlying38
  obtain ⟨kc, hc⟩ := Ev.rounds (cut_eq s 32 hs)
  have HC := Aside0.mk hc
  obtain ⟨kk, hk⟩ := Ev.rounds (kind_eq (headW s))
  rw [hks] at hk
  have HK := Aside0.mk hk
  have W0 := Aside0.mk (heap_alloc_new w (.cells #[.int .i64 0, .string ⟨#[]⟩, .string ⟨#[]⟩, .int .i64 0, .slice none 0 0, .slice none 0 0] 38))
  have B0 := Aside0.mk (below_alloc (Below.refl w.heap.size w) (.cells #[.int .i64 0, .string ⟨#[]⟩, .string ⟨#[]⟩, .int .i64 0, .slice none 0 0, .slice none 0 0] 38))
  have HP := Aside0.mk (cut_parts s)
  have HL := Aside0.mk (rest_length s)
  have HS := Aside0.mk hs
  have k0 : (kd == 0) = false := beq_eq_false_iff_ne.2 h0
  subst h42
  have HOP := Aside0.mk (show opOf s = (if (restW s).all numB = true then some ⟨kd, ⟨#[]⟩, ⟨#[]⟩, 0, [], (restW s).map numD⟩ else none) from by
    unfold opOf
    rw [hks]
    show (if kd = 0 then none else if (⟨#[42]⟩ : ByteArray).toList = ([42] : List UInt8) then _ else _) = _
    rw [if_neg h0, if_pos (by rw [ByteArray.toList_eq])])
  clear h0
  clear hc hk hs hks
  go_enter Tryd.func12, Tryd.ntmps12
  go_wp2_with fail
  refine (spec_l7Cut.calls kc s 32 (cutB 32 s) _ HC.out).mono ?_
  rintro e w1 ⟨vp, rfl, ho, hb⟩
  rw [HP.out] at ho
  generalize headW s = hd at *
  generalize restW s = rest at *
  obtain ⟨g, cp, rfl, hg1, hg2, hg3⟩ := Kd.R_form ho (Nat.succ_pos _)
  rw [List.length_cons] at ho
  have hc0 := (Kd.R_celln ByteArray.empty ho 0 (Int.le_refl _) (Int.ofNat_lt.2 (Nat.succ_pos _))).1
  replace hc0 : w1.cell? ⟨g, 0, none⟩ = some (.string hd) := hc0
  have W1 := Aside0.mk ((hb.block _ (blk_lt W0.out)).trans W0.out)
  have RP := Aside0.mk (show Kd.R Kd.string 9 w1 w.heap.size (fun _ => True) (.slice (some ⟨g, 0, none⟩) (rest.length + 1) cp) (hd :: rest) from Kd.R_lower ho B0.out.size)
  have B1 := Aside0.mk (below_step B0.out hb)
  obtain ⟨A8, hdr, hrd⟩ := parts_tail g cp hd rest (Kd.R_reads' ho).2.1
  have HRD := Aside0.mk hrd
  clear ho hb hrd hg1 hg2 hg3
  go_wp2_with fail
  refine (spec_l7Kind.calls kk hd _ _ _ HK.out).mono ?_
  rintro e w2 ⟨rfl, hb⟩
  have D0 := Aside0.mk (show LP w (w2.alloc (.cells #[.int .i64 kd, .string ⟨#[]⟩, .string ⟨#[]⟩, .int .i64 0, .slice none 0 0, .slice none 0 0] 38)) w2.heap.size w.heap.size ⟨kd, ⟨#[]⟩, ⟨#[]⟩, 0, [], []⟩ (.slice none 0 0) (.slice none 0 0) (.slice (some ⟨g, 0, none⟩) (rest.length + 1) cp) (hd :: rest) from
    ⟨below_alloc (below_step B1.out hb) _, (below_step B1.out hb).size, Nat.le_refl _, Nat.ne_of_gt (Nat.lt_of_lt_of_le (blk_lt W1.out) hb.size), heap_alloc_new _ _, blk_alloc ((hb.block _ (blk_lt W1.out)).trans W1.out) _, Kd.R_nil _ _ _ _ _, Kd.R_nil _ _ _ _ _, Kd.R_alloc (Kd.R_below RP.out hb) _⟩)
  have HR0 := Aside0.mk (show w.heap.size < w2.heap.size from Nat.lt_of_lt_of_le (blk_lt W1.out) hb.size)
  clear hb W0 B0 W1 B1 RP HC HK hc0
  go_wp2_with fail
  generalize w2.heap.size = e at *
  go_loopw [9] (fun v9 wr => ∃ (i : Nat) (l : List Int) (v5 : Value), v9 = .int .i64 (i : Int) ∧ i ≤ rest.length ∧ Aside0 (l = (rest.take i).map numD) ∧ Aside0 (LP w wr e w.heap.size ⟨kd, ⟨#[]⟩, ⟨#[]⟩, 0, [], l⟩ (.slice none 0 0) v5 (.slice (some ⟨g, 0, none⟩) (rest.length + 1) cp) (hd :: rest)) ∧ Aside0 ((rest.take i).all numB = true)) (fun v9 _ => rest.length - (intOf v9).toNat)
  case atStart => exact ⟨0, [], _, rfl, Nat.zero_le _, ⟨rfl⟩, D0, ⟨rfl⟩⟩
  case round =>
    clear D0
    obtain ⟨i, l, v5, rfl, hi, HLI, DD, HA⟩ := hrel
    obtain ⟨A5, c5, h5⟩ := Kd.R_slice DD.out.r5
    replace h5 : v5 = .slice A5 l.length c5 := h5
    subst h5
    by_cases hlt : i < rest.length
    · obtain ⟨ad, had, hcell⟩ := parts_at (HRD.out _ (parts_read DD.out.rp)) i hlt
      subst had
      obtain ⟨p, hp⟩ : ∃ p, rest[i] = p := ⟨_, rfl⟩
      rw [hp] at hcell
      have HP' := Aside0.mk hp
      obtain ⟨kn, hn⟩ := Ev.rounds (num_eq p).1
      have HN := Aside0.mk hn
      clear hp hn
      go_wp2_with fail
      refine (spec_l7Number.calls kn p _ _ _ HN.out).mono ?_
      rintro e' w3 ⟨rfl, hb⟩
      have D1 := Aside0.mk (DD.out.below hb)
      clear hb DD hcell
      cases hnb : numB p with
      | false =>
        have HO := Aside0.mk (show opOf s = none from by
          rw [HOP.out, if_neg]
          intro h
          have h2 := List.all_eq_true.1 h p (by rw [← HP'.out]; exact List.getElem_mem hlt)
          rw [hnb] at h2
          cases h2)
        clear hnb
        obtain ⟨z0, z1, z2, z3, z4, z5, y0, y1, y2, y3, y4, y5, m, f, n1, n2⟩ := D1.out.cells
        have m0 := m 0
        have m1 := m 1
        have m2 := m 2
        have m3 := m 3
        have m4 := m 4
        have m5 := m 5
        clear m f
        go_wp2

        refine bodyPost_ret (results_ct rfl _ _ w.heap.size 38 #[.int .i64 kd, .string ⟨#[]⟩, .string ⟨#[]⟩, .int .i64 0, .slice none 0 0, .slice A5 l.length c5] (0, 0) _ rfl (put6 D1.out.rb _ _ _ _ _ _) Tryd.underlying38 rfl (by kernel_rfl)) rfl ?_
        rw [HO.out]
        exact D1.out.done none false rfl (by intro y h; cases h)

      | true =>
        have HM := Aside0.mk (show l ++ [numN p] = (rest.take (i + 1)).map numD from by
          rw [take_at _ i hlt, List.map_append, HP'.out, HLI.out]
          rcases (num_eq p).2.2 with ⟨_, h2, _⟩ | ⟨h2, _⟩
          · rw [List.map_singleton, h2]
          · rw [hnb] at h2; cases h2)
        have HA2 := Aside0.mk (show (rest.take (i + 1)).all numB = true from by
          rw [take_at _ i hlt, List.all_append, HA.out, HP'.out]
          simp [hnb])
        have LL := Aside0.mk (show (l.length + 1) * 8 ≤ 140737488355328 from by rw [HLI.out, List.length_map, List.length_take]; have := HL.out; have := HS.out; omega)
        have HWR := Aside0.mk (show wrap64 ((i : Int) + 1) = ((i + 1 : Nat) : Int) from wrap_succ (by have := HL.out; have := HS.out; omega))
        clear hnb HLI HA
        have z5 := D1.out.cells.z5
        go_wp2_with ((with_reducible refine gate_builtin (b := .append) rfl ?_); refine Kd.R_append (Kd.int .i64) (w0 := w) w.heap.size rfl (.tmp 62) (.tmp 64) 36 3 (.int .i64 0) 8 rfl Tryd.underlying36 info3 rfl (by decide) (by omega) (.slice A5 l.length c5) l (numN p) [.int .i64 (numN p)] (fun _ => True) (fun _ => False) rfl rfl rfl (fun _ hk => hk.elim) (fun k hk => trivial) D1.out.r5 D1.out.bel (below_size D1.out.bel) LL.out ?_; intro v1 w7 ho hb hgr hat; have q0 := grown_cell5 D1.out hgr; have D5 := Aside0.mk (D1.out.grew5 ho hb hgr); obtain ⟨AX, cX, hv1⟩ := Kd.R_slice ho; rw [List.length_append, List.length_singleton] at hv1; subst hv1; clear ho hb hgr hat D1 z5; obtain ⟨⟨q, hq⟩, qf⟩ := q0)
        go_roundw
        case rel => exact ⟨i + 1, l ++ [numN p], _, by rw [← HWR.out], hlt, HM, D5, HA2⟩
        case measure => rw [HWR.out]; exact meas_lt _ _ hlt
    · have hie : i = rest.length := Nat.le_antisymm hi (Nat.not_lt.1 hlt)
      subst hie
      have HO := Aside0.mk (show opOf s = some ⟨kd, ⟨#[]⟩, ⟨#[]⟩, 0, [], l⟩ from by
        rw [HOP.out, if_pos (by have h := HA.out; rwa [List.take_length] at h), HLI.out, List.take_length])
      clear HLI HA HRD
      obtain ⟨z0, z1, z2, z3, z4, z5, y0, y1, y2, y3, y4, y5, m, f, n1, n2⟩ := DD.out.cells
      have m0 := m 0
      have m1 := m 1
      have m2 := m 2
      have m3 := m 3
      have m4 := m 4
      have m5 := m 5
      clear m f
      go_wp2

      refine bodyPost_ret (results_ct rfl _ _ w.heap.size 38 #[.int .i64 kd, .string ⟨#[]⟩, .string ⟨#[]⟩, .int .i64 0, .slice none 0 0, .slice A5 l.length c5] (0, 0) _ rfl (put6 DD.out.rb _ _ _ _ _ _) Tryd.underlying38 rfl (by kernel_rfl)) rfl ?_
      rw [HO.out]
      exact DD.out.done (some _) true rfl (by intro y h; exact Option.some.inj h)

set_option maxHeartbeats 8000000 in
set_option maxRecDepth 100000 in
theorem op_plus (s : ByteArray) (w : World) (hs : s.size ≤ 1048576) (kd : Int) (sh : ByteArray) (hks : kindOf (headW s) = (kd, sh)) (h0 : kd ≠ 0) (h43 : sh = ⟨#[43]⟩) : Calls Tryd.prog 12 #[.string s] w (OpPost (opOf s) w) := by
  have hu38 := Tryd.underlying38
  obtain ⟨kc, hc⟩ := Ev.rounds (cut_eq s 32 hs)
  have HC := Aside0.mk hc
  obtain ⟨kk, hk⟩ := Ev.rounds (kind_eq (headW s))
  rw [hks] at hk
  have HK := Aside0.mk hk
  have W0 := Aside0.mk (heap_alloc_new w (.cells #[.int .i64 0, .string ⟨#[]⟩, .string ⟨#[]⟩, .int .i64 0, .slice none 0 0, .slice none 0 0] 38))
  have B0 := Aside0.mk (below_alloc (Below.refl w.heap.size w) (.cells #[.int .i64 0, .string ⟨#[]⟩, .string ⟨#[]⟩, .int .i64 0, .slice none 0 0, .slice none 0 0] 38))
  have HP := Aside0.mk (cut_parts s)
  have HL := Aside0.mk (rest_length s)
  have HS := Aside0.mk hs
  have k0 : (kd == 0) = false := beq_eq_false_iff_ne.2 h0
  subst h43
  have HOP := Aside0.mk (show opOf s = (if (restW s).all itemB = true ∧ restW s ≠ [] then some ⟨kd, ⟨#[]⟩, ⟨#[]⟩, 0, (restW s).map entryOf, []⟩ else none) from by
    unfold opOf
    rw [hks]
    show (if kd = 0 then none else if (⟨#[43]⟩ : ByteArray).toList = ([42] : List UInt8) then _ else if (⟨#[43]⟩ : ByteArray).toList = ([43] : List UInt8) then _ else _) = _
    rw [if_neg h0, if_neg (by rw [ByteArray.toList_eq]; decide), if_pos (by rw [ByteArray.toList_eq])])
  have HPS := Aside0.mk (show ∀ x ∈ restW s, x.size ≤ 1048576 from fun x hx => Nat.le_trans (part_size s x (by rw [cut_parts]; exact List.mem_cons_of_mem _ hx)) hs)
  clear h0
  clear hc hk hs hks
  go_enter Tryd.func12, Tryd.ntmps12
  go_wp2_with fail
  refine (spec_l7Cut.calls kc s 32 (cutB 32 s) _ HC.out).mono ?_
  rintro e w1 ⟨vp, rfl, ho, hb⟩
  rw [HP.out] at ho
  generalize headW s = hd at *
  generalize restW s = rest at *
  obtain ⟨g, cp, rfl, hg1, hg2, hg3⟩ := Kd.R_form ho (Nat.succ_pos _)
  rw [List.length_cons] at ho
  have hc0 := (Kd.R_celln ByteArray.empty ho 0 (Int.le_refl _) (Int.ofNat_lt.2 (Nat.succ_pos _))).1
  replace hc0 : w1.cell? ⟨g, 0, none⟩ = some (.string hd) := hc0
  have W1 := Aside0.mk ((hb.block _ (blk_lt W0.out)).trans W0.out)
  have RP := Aside0.mk (show Kd.R Kd.string 9 w1 w.heap.size (fun _ => True) (.slice (some ⟨g, 0, none⟩) (rest.length + 1) cp) (hd :: rest) from Kd.R_lower ho B0.out.size)
  have B1 := Aside0.mk (below_step B0.out hb)
  obtain ⟨A8, hdr, hrd⟩ := parts_tail g cp hd rest (Kd.R_reads' ho).2.1
  have HRD := Aside0.mk hrd
  clear ho hb hrd hg1 hg2 hg3
  go_wp2_with fail
  refine (spec_l7Kind.calls kk hd _ _ _ HK.out).mono ?_
  rintro e w2 ⟨rfl, hb⟩
  have D0 := Aside0.mk (show LP w (w2.alloc (.cells #[.int .i64 kd, .string ⟨#[]⟩, .string ⟨#[]⟩, .int .i64 0, .slice none 0 0, .slice none 0 0] 38)) w2.heap.size w.heap.size ⟨kd, ⟨#[]⟩, ⟨#[]⟩, 0, [], []⟩ (.slice none 0 0) (.slice none 0 0) (.slice (some ⟨g, 0, none⟩) (rest.length + 1) cp) (hd :: rest) from
    ⟨below_alloc (below_step B1.out hb) _, (below_step B1.out hb).size, Nat.le_refl _, Nat.ne_of_gt (Nat.lt_of_lt_of_le (blk_lt W1.out) hb.size), heap_alloc_new _ _, blk_alloc ((hb.block _ (blk_lt W1.out)).trans W1.out) _, Kd.R_nil _ _ _ _ _, Kd.R_nil _ _ _ _ _, Kd.R_alloc (Kd.R_below RP.out hb) _⟩)
  have HR0 := Aside0.mk (show w.heap.size < w2.heap.size from Nat.lt_of_lt_of_le (blk_lt W1.out) hb.size)
  clear hb W0 B0 W1 B1 RP HC HK hc0
  go_wp2_with fail
  generalize w2.heap.size = e at *
  go_loopw [9] (fun v9 wr => ∃ (i : Nat) (l : List S50) (v4 : Value), v9 = .int .i64 (i : Int) ∧ i ≤ rest.length ∧ Aside0 (l = (rest.take i).map entryOf) ∧ Aside0 (LP w wr e w.heap.size ⟨kd, ⟨#[]⟩, ⟨#[]⟩, 0, l, []⟩ v4 (.slice none 0 0) (.slice (some ⟨g, 0, none⟩) (rest.length + 1) cp) (hd :: rest)) ∧ Aside0 ((rest.take i).all itemB = true)) (fun v9 _ => rest.length - (intOf v9).toNat)
  case atStart => exact ⟨0, [], _, rfl, Nat.zero_le _, ⟨rfl⟩, D0, ⟨rfl⟩⟩
  case round =>
    clear D0
    obtain ⟨i, l, v4, rfl, hi, HLI, DD, HA⟩ := hrel
    obtain ⟨A4, c4, h4⟩ := Kd.R_slice DD.out.r4
    replace h4 : v4 = .slice A4 l.length c4 := h4
    subst h4
    by_cases hlt : i < rest.length
    · obtain ⟨ad, had, hcell⟩ := parts_at (HRD.out _ (parts_read DD.out.rp)) i hlt
      subst had
      obtain ⟨p, hp⟩ : ∃ p, rest[i] = p := ⟨_, rfl⟩
      rw [hp] at hcell
      have HP' := Aside0.mk hp
      have hitem := item_eq p (HPS.out p (by rw [← hp]; exact List.getElem_mem hlt))
      obtain ⟨E, hE⟩ : ∃ E, entryOf p = E := ⟨_, rfl⟩
      rw [hE] at hitem
      have HE := Aside0.mk hE
      clear hp hE
      cases hnb : itemB p with
      | false =>
        rw [if_neg (fun h => by rw [(itemB_iff p).2 h] at hnb; cases hnb)] at hitem
        obtain ⟨kn, hn⟩ := Ev.rounds hitem
        have HN := Aside0.mk hn
        clear hn hitem
        have HO := Aside0.mk (show opOf s = none from by
          rw [HOP.out, if_neg]
          intro h
          have h2 := List.all_eq_true.1 h.1 p (by rw [← HP'.out]; exact List.getElem_mem hlt)
          rw [hnb] at h2
          cases h2)
        clear hnb
        go_wp2_with fail
        refine (spec_l7Item.calls kn p _ _ _ _ _ _ HN.out).mono ?_
        rintro e' w3 ⟨rfl, hb⟩
        have D1 := Aside0.mk ((DD.out.below hb).below (below_alloc (Below.refl w3.heap.size w3) (.cells #[.string ⟨#[]⟩, .int .i64 0, .int .i64 0, .string ⟨#[]⟩] 50)))
        clear hb DD hcell
        obtain ⟨z0, z1, z2, z3, z4, z5, y0, y1, y2, y3, y4, y5, m, f, n1, n2⟩ := D1.out.cells
        have m0 := m 0
        have m1 := m 1
        have m2 := m 2
        have m3 := m 3
        have m4 := m 4
        have m5 := m 5
        clear m f
        go_wp2

        refine bodyPost_ret (results_ct rfl _ _ w.heap.size 38 #[.int .i64 kd, .string ⟨#[]⟩, .string ⟨#[]⟩, .int .i64 0, .slice A4 l.length c4, .slice none 0 0] (0, 0) _ rfl (put6 D1.out.rb _ _ _ _ _ _) Tryd.underlying38 rfl (by kernel_rfl)) rfl ?_
        rw [HO.out]
        exact D1.out.done none false rfl (by intro y h; cases h)

      | true =>
        rw [if_pos ((itemB_iff p).1 hnb)] at hitem
        obtain ⟨kn, hn⟩ := Ev.rounds hitem
        have HN := Aside0.mk hn
        clear hn hitem
        have HM := Aside0.mk (show l ++ [E] = (rest.take (i + 1)).map entryOf from by
          rw [take_at _ i hlt, List.map_append, HP'.out, HLI.out, List.map_singleton, HE.out])
        have HA2 := Aside0.mk (show (rest.take (i + 1)).all itemB = true from by
          rw [take_at _ i hlt, List.all_append, HA.out, HP'.out]
          simp [hnb])
        have LL := Aside0.mk (show (l.length + 1) * 48 ≤ 140737488355328 from by rw [HLI.out, List.length_map, List.length_take]; have := HL.out; have := HS.out; omega)
        have HWR := Aside0.mk (show wrap64 ((i : Int) + 1) = ((i + 1 : Nat) : Int) from wrap_succ (by have := HL.out; have := HS.out; omega))
        clear hnb HLI HA
        go_wp2_with fail
        refine (spec_l7Item.calls kn p _ _ _ _ _ _ HN.out).mono ?_
        rintro e' w3 ⟨rfl, hb⟩
        have D1 := Aside0.mk ((DD.out.below hb).below (below_alloc (Below.refl w3.heap.size w3) (.cells #[.string E.f0, .int .i64 E.f1, .int .i64 E.f2, .string E.f3] 50)))
        clear hb DD hcell
        have z4 := D1.out.cells.z4
        go_wp2_with ((with_reducible refine gate_builtin (b := .append) rfl ?_); refine Kd.R_append k50 (w0 := w) w.heap.size rfl (.tmp 79) (.tmp 81) 35 50 (.agg #[.string ⟨#[]⟩, .int .i64 0, .int .i64 0, .string ⟨#[]⟩]) 48 rfl Tryd.underlying35 info50 rfl (by decide) (by omega) (.slice A4 l.length c4) l E [.string E.f0, .int .i64 E.f1, .int .i64 E.f2, .string E.f3] (fun _ => True) (fun _ => False) rfl (by first | (go_simp; done) | (go_simp; rfl)) (k50_mkM _ _ _ E) (fun _ hk => hk.elim) (fun k hk => trivial) D1.out.r4 D1.out.bel (below_size D1.out.bel) LL.out ?_; intro v1 w7 ho hb hgr hat; have q0 := grown_cell4 D1.out hgr; have D5 := Aside0.mk (D1.out.grew4 ho hb hgr); obtain ⟨AX, cX, hv1⟩ := Kd.R_slice ho; rw [List.length_append, List.length_singleton] at hv1; subst hv1; clear ho hb hgr hat D1 z4; obtain ⟨⟨q, hq⟩, qf⟩ := q0)
        go_roundw
        case rel => exact ⟨i + 1, l ++ [E], _, by rw [← HWR.out], hlt, HM, D5, HA2⟩
        case measure => rw [HWR.out]; exact meas_lt _ _ hlt
    · have hie : i = rest.length := Nat.le_antisymm hi (Nat.not_lt.1 hlt)
      subst hie
      have HT := Aside0.mk (show l = rest.map entryOf ∧ rest.all itemB = true from by
        have h := HA.out
        have h2 := HLI.out
        rw [List.take_length] at h h2
        exact ⟨h2, h⟩)
      clear HLI HA HRD
      by_cases hne : rest = []
      · have HO := Aside0.mk (show opOf s = none from by rw [HOP.out, if_neg (fun h => h.2 hne)])
        have hr0 : decide (0 < (rest.length : Int)) = false := decide_eq_false (by rw [hne]; decide)
        have hr1 : decide (0 < rest.length) = false := decide_eq_false (by rw [hne]; decide)
        clear hne
        obtain ⟨z0, z1, z2, z3, z4, z5, y0, y1, y2, y3, y4, y5, m, f, n1, n2⟩ := DD.out.cells
        have m0 := m 0
        have m1 := m 1
        have m2 := m 2
        have m3 := m 3
        have m4 := m 4
        have m5 := m 5
        clear m f
        go_wp2

        refine bodyPost_ret (results_ct rfl _ _ w.heap.size 38 #[.int .i64 kd, .string ⟨#[]⟩, .string ⟨#[]⟩, .int .i64 0, .slice A4 l.length c4, .slice none 0 0] (0, 0) _ rfl (put6 DD.out.rb _ _ _ _ _ _) Tryd.underlying38 rfl (by kernel_rfl)) rfl ?_
        rw [HO.out]
        exact DD.out.done none false rfl (by intro y h; cases h)

      · have HO := Aside0.mk (show opOf s = some ⟨kd, ⟨#[]⟩, ⟨#[]⟩, 0, l, []⟩ from by rw [HOP.out, if_pos ⟨HT.out.2, hne⟩, HT.out.1])
        have hr0 : decide (0 < (rest.length : Int)) = true := decide_eq_true (by have := List.length_pos_iff.2 hne; omega)
        have hr1 : decide (0 < rest.length) = true := decide_eq_true (List.length_pos_iff.2 hne)
        clear hne
        obtain ⟨z0, z1, z2, z3, z4, z5, y0, y1, y2, y3, y4, y5, m, f, n1, n2⟩ := DD.out.cells
        have m0 := m 0
        have m1 := m 1
        have m2 := m 2
        have m3 := m 3
        have m4 := m 4
        have m5 := m 5
        clear m f
        go_wp2

        refine bodyPost_ret (results_ct rfl _ _ w.heap.size 38 #[.int .i64 kd, .string ⟨#[]⟩, .string ⟨#[]⟩, .int .i64 0, .slice A4 l.length c4, .slice none 0 0] (0, 0) _ rfl (put6 DD.out.rb _ _ _ _ _ _) Tryd.underlying38 rfl (by kernel_rfl)) rfl ?_
        rw [HO.out]
        exact DD.out.done (some _) true rfl (by intro y h; exact Option.some.inj h)

set_option maxHeartbeats 8000000 in
set_option maxRecDepth 100000 in
theorem op_words (s : ByteArray) (w : World) (hs : s.size ≤ 1048576) (kd : Int) (sh : ByteArray) (hks : kindOf (headW s) = (kd, sh)) (h0 : kd ≠ 0) (h42 : ¬ sh.toList = ([42] : List UInt8)) (h43 : ¬ sh.toList = ([43] : List UInt8)) : Calls Tryd.prog 12 #[.string s] w (OpPost (opOf s) w) := by
  have hu38 := Tryd.underlying38
  obtain ⟨kc, hc⟩ := Ev.rounds (cut_eq s 32 hs)
  have HC := Aside0.mk hc
  obtain ⟨kk, hk⟩ := Ev.rounds (kind_eq (headW s))
  rw [hks] at hk
  have HK := Aside0.mk hk
  have W0 := Aside0.mk (heap_alloc_new w (.cells #[.int .i64 0, .string ⟨#[]⟩, .string ⟨#[]⟩, .int .i64 0, .slice none 0 0, .slice none 0 0] 38))
  have B0 := Aside0.mk (below_alloc (Below.refl w.heap.size w) (.cells #[.int .i64 0, .string ⟨#[]⟩, .string ⟨#[]⟩, .int .i64 0, .slice none 0 0, .slice none 0 0] 38))
  have HP := Aside0.mk (cut_parts s)
  have HL := Aside0.mk (rest_length s)
  have HS := Aside0.mk hs
  have k0 : (kd == 0) = false := beq_eq_false_iff_ne.2 h0
  have HOP := Aside0.mk (show opOf s = (if (restW s).length = sh.size ∧ (sh.data.toList.zip (restW s)).all goodB = true then some ⟨kd, (wordsT (sh.data.toList.zip (restW s))).getD 0 ⟨#[]⟩, (wordsT (sh.data.toList.zip (restW s))).getD 1 ⟨#[]⟩, numT 0 (sh.data.toList.zip (restW s)), [], []⟩ else none) from by
    unfold opOf
    rw [hks]
    show (if kd = 0 then none else if sh.toList = ([42] : List UInt8) then _ else if sh.toList = ([43] : List UInt8) then _ else _) = _
    rw [if_neg h0, if_neg h42, if_neg h43])
  have HPS := Aside0.mk (show ∀ x ∈ restW s, x.size ≤ 1048576 from fun x hx => Nat.le_trans (part_size s x (by rw [cut_parts]; exact List.mem_cons_of_mem _ hx)) hs)
  have b42 : (sh.toList == ([42] : List UInt8)) = false := beq_eq_false_iff_ne.2 h42
  have b43 : (sh.toList == ([43] : List UInt8)) = false := beq_eq_false_iff_ne.2 h43
  clear h0 h42 h43
  clear hc hk hs hks
  go_enter Tryd.func12, Tryd.ntmps12
  go_wp2_with fail
  refine (spec_l7Cut.calls kc s 32 (cutB 32 s) _ HC.out).mono ?_
  rintro e w1 ⟨vp, rfl, ho, hb⟩
  rw [HP.out] at ho
  generalize headW s = hd at *
  generalize restW s = rest at *
  obtain ⟨g, cp, rfl, hg1, hg2, hg3⟩ := Kd.R_form ho (Nat.succ_pos _)
  rw [List.length_cons] at ho
  have hc0 := (Kd.R_celln ByteArray.empty ho 0 (Int.le_refl _) (Int.ofNat_lt.2 (Nat.succ_pos _))).1
  replace hc0 : w1.cell? ⟨g, 0, none⟩ = some (.string hd) := hc0
  have W1 := Aside0.mk ((hb.block _ (blk_lt W0.out)).trans W0.out)
  have RP := Aside0.mk (show Kd.R Kd.string 9 w1 w.heap.size (fun _ => True) (.slice (some ⟨g, 0, none⟩) (rest.length + 1) cp) (hd :: rest) from Kd.R_lower ho B0.out.size)
  have B1 := Aside0.mk (below_step B0.out hb)
  obtain ⟨A8, hdr, hrd⟩ := parts_tail g cp hd rest (Kd.R_reads' ho).2.1
  have HRD := Aside0.mk hrd
  clear ho hb hrd hg1 hg2 hg3
  go_wp2_with fail
  refine (spec_l7Kind.calls kk hd _ _ _ HK.out).mono ?_
  rintro e w2 ⟨rfl, hb⟩
  have D0 := Aside0.mk (show LP w (w2.alloc (.cells #[.int .i64 kd, .string ⟨#[]⟩, .string ⟨#[]⟩, .int .i64 0, .slice none 0 0, .slice none 0 0] 38)) w2.heap.size w.heap.size ⟨kd, ⟨#[]⟩, ⟨#[]⟩, 0, [], []⟩ (.slice none 0 0) (.slice none 0 0) (.slice (some ⟨g, 0, none⟩) (rest.length + 1) cp) (hd :: rest) from
    ⟨below_alloc (below_step B1.out hb) _, (below_step B1.out hb).size, Nat.le_refl _, Nat.ne_of_gt (Nat.lt_of_lt_of_le (blk_lt W1.out) hb.size), heap_alloc_new _ _, blk_alloc ((hb.block _ (blk_lt W1.out)).trans W1.out) _, Kd.R_nil _ _ _ _ _, Kd.R_nil _ _ _ _ _, Kd.R_alloc (Kd.R_below RP.out hb) _⟩)
  have HR0 := Aside0.mk (show w.heap.size < w2.heap.size from Nat.lt_of_lt_of_le (blk_lt W1.out) hb.size)
  clear hb W0 B0 W1 B1 RP HC HK hc0
  by_cases hlen : rest.length = sh.size
  rotate_left
  · have HO := Aside0.mk (show opOf s = none from by rw [HOP.out, if_neg (fun h => hlen h.1)])
    have t0 : ((rest.length : Int) == (sh.size : Int)) = false := beq_eq_false_iff_ne.2 (by omega)
    have t1 : ((rest.length : Int) != (sh.size : Int)) = true := bne_iff_ne.2 (by omega)
    clear hlen
    generalize w2.heap.size = e at *
    obtain ⟨z0, z1, z2, z3, z4, z5, y0, y1, y2, y3, y4, y5, m, f, n1, n2⟩ := D0.out.cells
    have m0 := m 0
    have m1 := m 1
    have m2 := m 2
    have m3 := m 3
    have m4 := m 4
    have m5 := m 5
    clear m f
    go_wp2

    refine bodyPost_ret (results_ct rfl _ _ w.heap.size 38 #[.int .i64 kd, .string ⟨#[]⟩, .string ⟨#[]⟩, .int .i64 0, .slice none 0 0, .slice none 0 0] (0, 0) _ rfl (put6 D0.out.rb _ _ _ _ _ _) Tryd.underlying38 rfl (by kernel_rfl)) rfl ?_
    rw [HO.out]
    exact D0.out.done none false rfl (by intro y h; cases h)

  · have t0 : ((rest.length : Int) == (sh.size : Int)) = true := beq_iff_eq.2 (by omega)
    have t1 : ((rest.length : Int) != (sh.size : Int)) = false := bne_eq_false_iff_eq.2 (by omega)
    have HLE := Aside0.mk hlen
    clear hlen
    go_wp2_with fail
    have HW0 := words_nil _ w.heap.size g (below_size D0.out.bel) D0.out.plt
    rw [World.size_alloc] at HW0
    replace HW0 := Aside0.mk HW0
    replace D0 := Aside0.mk (D0.out.below (below_alloc (Below.refl _ _) (.cells #[] 9)))
    clear t0 t1
    generalize w2.heap.size = e at *
    go_loopw [14, 15] (fun v14 v15 wr => ∃ (i : Nat) (l : List ByteArray) (n : Int), v15 = .int .i64 (i : Int) ∧ i ≤ rest.length ∧ Aside0 (l = wordsT ((sh.data.toList.zip rest).take i)) ∧ Aside0 (n = numT 0 ((sh.data.toList.zip rest).take i)) ∧ Aside0 (LP w wr e w.heap.size ⟨kd, ⟨#[]⟩, ⟨#[]⟩, n, [], []⟩ (.slice none 0 0) (.slice none 0 0) (.slice (some ⟨g, 0, none⟩) (rest.length + 1) cp) (hd :: rest)) ∧ Aside0 (Kd.R Kd.string 9 wr w.heap.size (fun k => g < k) v14 l) ∧ Aside0 (((sh.data.toList.zip rest).take i).all goodB = true)) (fun _ v15 _ => rest.length - (intOf v15).toNat)
    case atStart => exact ⟨0, [], 0, rfl, Nat.zero_le _, ⟨rfl⟩, ⟨rfl⟩, D0, HW0, ⟨rfl⟩⟩
    case round =>
      clear D0 HW0
      obtain ⟨i, l, n, rfl, hi, HLI, HNI, DD, HW, HA⟩ := hrel
      obtain ⟨A14, c14, rfl⟩ := Kd.R_slice HW.out
      by_cases hlt : i < rest.length
      · obtain ⟨ad, had, hcell⟩ := parts_at (HRD.out _ (parts_read DD.out.rp)) i hlt
        subst had
        have hls : i < sh.data.toList.length := by rw [dsize]; have := HLE.out; omega
        have hb1 : decide ((i : Int) < (sh.size : Int)) = true := decide_eq_true (by have := HLE.out; omega)
        have hb2 : decide (i < sh.size) = true := decide_eq_true (by have := HLE.out; omega)
        have hb3 : i < sh.size := by have := HLE.out; omega
        obtain ⟨p, hp⟩ : ∃ p, rest[i] = p := ⟨_, rfl⟩
        rw [hp] at hcell
        obtain ⟨ch, hch⟩ : ∃ ch, sh.data.toList[i] = ch := ⟨_, rfl⟩
        have HZ := Aside0.mk (show (sh.data.toList.zip rest).take (i + 1) = (sh.data.toList.zip rest).take i ++ [(ch, p)] from by rw [zip_at _ _ i hls hlt, hp, hch])
        have HZF := Aside0.mk (show goodB (ch, p) = false → opOf s = none from fun h => by
          rw [HOP.out, if_neg (fun h2 => zip_all _ _ i hls hlt (by rw [hp, hch]; exact h) h2.2)])
        have HZT := Aside0.mk (show goodB (ch, p) = true → ((sh.data.toList.zip rest).take (i + 1)).all goodB = true from fun h => by
          rw [HZ.out, List.all_append, HA.out]; simp [h])
        have HWR := Aside0.mk (show wrap64 ((i : Int) + 1) = ((i + 1 : Nat) : Int) from wrap_succ (by have := HL.out; have := HS.out; omega))
        have hbt : ((sh[i]'hb3).toNat : Int) = (ch.toNat : Int) := by rw [← hch]; rfl
        have HPZ := Aside0.mk (show p.size ≤ 1048576 from HPS.out p (by rw [← hp]; exact List.getElem_mem hlt))
        clear hp hch
        by_cases hn : ch = 110
        · have hc : (((sh[i]'hb3).toNat : Int) == 110) = true := by rw [hbt, hn]; rfl
          have hc1 : (((sh[i]'hb3).toNat : Int) != 110) = false := by rw [hbt, hn]; rfl
          obtain ⟨kn, hn'⟩ := Ev.rounds (num_eq p).1
          have HN := Aside0.mk hn'
          clear hbt hn'
          go_wp2_with fail
          refine (spec_l7Number.calls kn p _ _ _ HN.out).mono ?_
          rintro e' w3 ⟨rfl, hb⟩
          have D1 := Aside0.mk (DD.out.below hb)
          have HW1 := Aside0.mk (Kd.R_below HW.out hb)
          clear hb DD HW hcell hc hc1
          cases hnb : numB p with
          | false =>
            have HO := Aside0.mk (HZF.out (by unfold goodB; rw [if_pos hn]; exact hnb))
            clear hnb hn
            obtain ⟨z0, z1, z2, z3, z4, z5, y0, y1, y2, y3, y4, y5, m, f, n1, n2⟩ := D1.out.cells
            have m0 := m 0
            have m1 := m 1
            have m2 := m 2
            have m3 := m 3
            have m4 := m 4
            have m5 := m 5
            clear m f
            go_wp2

            refine bodyPost_ret (results_ct rfl _ _ w.heap.size 38 #[.int .i64 kd, .string ⟨#[]⟩, .string ⟨#[]⟩, .int .i64 n, .slice none 0 0, .slice none 0 0] (0, 0) _ rfl (put6 D1.out.rb _ _ _ _ _ _) Tryd.underlying38 rfl (by kernel_rfl)) rfl ?_
            rw [HO.out]
            exact D1.out.done none false rfl (by intro y h; cases h)

          | true =>
            have HG := Aside0.mk (HZT.out (by unfold goodB; rw [if_pos hn]; exact hnb))
            have HL2 := Aside0.mk (show l = wordsT ((sh.data.toList.zip rest).take (i + 1)) from by rw [HZ.out, wordsT_snoc, if_pos hn, HLI.out])
            have HN2 := Aside0.mk (show numN p = numT 0 ((sh.data.toList.zip rest).take (i + 1)) from by
              rw [HZ.out, numT_snoc, if_pos hn]
              rcases (num_eq p).2.2 with ⟨_, h2, _⟩ | ⟨h2, _⟩
              · exact h2.symm
              · rw [hnb] at h2; cases h2)
            clear hnb hn HLI HNI HA HZ HZF HZT
            have q0 := (show ∃ q, w3.cell? ⟨e, 3, none⟩ = some q from ⟨_, D1.out.cells.z3⟩)
            have qf := D1.out.cells.f 3
            have D5 := Aside0.mk (D1.out.set3 (numN p))
            have HW5 := Aside0.mk (Kd.R_set HW1.out D1.out.eb (by decide) 3 (.int .i64 (numN p)))
            obtain ⟨q, hq⟩ := q0
            clear D1 HW1
            go_wp2
            go_roundw
            case rel => exact ⟨i + 1, l, numN p, by rw [← HWR.out], hlt, HL2, HN2, D5, HW5, HG⟩
            case measure => rw [HWR.out]; exact meas_lt _ _ hlt
        · have hc : (((sh[i]'hb3).toNat : Int) == 110) = false := by rw [hbt]; exact beq_eq_false_iff_ne.2 (fun h => hn (UInt8.toNat_inj.1 (by show ch.toNat = 110; omega)))
          have hc1 : (((sh[i]'hb3).toNat : Int) != 110) = true := by rw [hbt]; exact bne_iff_ne.2 (fun h => hn (UInt8.toNat_inj.1 (by show ch.toNat = 110; omega)))
          have hwe := (word_eq p HPZ.out).1
          obtain ⟨wd, wb, hwo⟩ : ∃ wd wb, wordOf p = (wd, wb) := ⟨_, _, rfl⟩
          rw [hwo] at hwe
          obtain ⟨kn, hn'⟩ := Ev.rounds hwe
          have HWO := Aside0.mk hwo
          have HN := Aside0.mk hn'
          clear hbt hn' hwe hwo
          go_wp2_with fail
          refine (spec_l7Word.calls kn p _ _ _ HN.out).mono ?_
          rintro e' w3 ⟨rfl, hdr0⟩
          obtain ⟨nd, rfl⟩ := hdr0.out
          have hb := pw_below_drewN (Below.refl wr.heap.size wr) nd
          have D1 := Aside0.mk (DD.out.below hb)
          have HW1 := Aside0.mk (Kd.R_below HW.out hb)
          clear hb DD HW hcell hc hc1
          generalize wr.drewN nd = w3 at *
          cases hnb : wb with
          | false =>
            have HO := Aside0.mk (HZF.out (by unfold goodB; rw [if_neg hn, HWO.out]; exact hnb))
            clear hnb hn
            obtain ⟨z0, z1, z2, z3, z4, z5, y0, y1, y2, y3, y4, y5, m, f, n1, n2⟩ := D1.out.cells
            have m0 := m 0
            have m1 := m 1
            have m2 := m 2
            have m3 := m 3
            have m4 := m 4
            have m5 := m 5
            clear m f
            go_wp2

            refine bodyPost_ret (results_ct rfl _ _ w.heap.size 38 #[.int .i64 kd, .string ⟨#[]⟩, .string ⟨#[]⟩, .int .i64 n, .slice none 0 0, .slice none 0 0] (0, 0) _ rfl (put6 D1.out.rb _ _ _ _ _ _) Tryd.underlying38 rfl (by kernel_rfl)) rfl ?_
            rw [HO.out]
            exact D1.out.done none false rfl (by intro y h; cases h)

          | true =>
            have HG := Aside0.mk (HZT.out (by unfold goodB; rw [if_neg hn, HWO.out]; exact hnb))
            have HL2 := Aside0.mk (show l ++ [wd] = wordsT ((sh.data.toList.zip rest).take (i + 1)) from by rw [HZ.out, wordsT_snoc, if_neg hn, HLI.out, HWO.out])
            have HN2 := Aside0.mk (show n = numT 0 ((sh.data.toList.zip rest).take (i + 1)) from by rw [HZ.out, numT_snoc, if_neg hn, HNI.out])
            have LL := Aside0.mk (show (l.length + 1) * 16 ≤ 140737488355328 from by
              have h1 := wordsT_le ((sh.data.toList.zip rest).take i)
              rw [← HLI.out, List.length_take] at h1
              have := HL.out
              have := HS.out
              omega)
            clear hnb hn HLI HNI HA HZ HZF HZT
            go_wp2_with ((with_reducible refine gate_builtin (b := .append) rfl ?_); refine Kd.R_append Kd.string (w0 := w) w.heap.size rfl (.tmp 133) (.tmp 135) 30 9 (.string ⟨#[]⟩) 16 rfl Tryd.underlying30 info9 rfl (by decide) (by omega) (.slice A14 l.length c14) l wd [.string wd] (fun k => g < k) (fun _ => False) rfl (by first | rfl | (go_simp; done) | (go_simp; rfl)) rfl (fun _ hk => hk.elim) (fun k hk => Nat.lt_of_lt_of_le D1.out.plt hk) HW1.out D1.out.bel (below_size D1.out.bel) LL.out ?_; intro v1 w7 ho hb hgr hat; have D5 := Aside0.mk (D1.out.grewW HW1.out hb hgr); have HW5 := Aside0.mk ho; obtain ⟨AX, cX, hv1⟩ := Kd.R_slice ho; rw [List.length_append, List.length_singleton] at hv1; subst hv1; clear ho hb hgr hat D1 HW1)
            go_roundw
            case rel => exact ⟨i + 1, l ++ [wd], n, by rw [← HWR.out], hlt, HL2, HN2, D5, HW5, HG⟩
            case measure => rw [HWR.out]; exact meas_lt _ _ hlt
      · have hie : i = rest.length := Nat.le_antisymm hi (Nat.not_lt.1 hlt)
        subst hie
        have hzl : (sh.data.toList.zip rest).length = rest.length := by rw [List.length_zip, dsize, ← HLE.out, Nat.min_self]
        have HT := Aside0.mk (show l = wordsT (sh.data.toList.zip rest) ∧ n = numT 0 (sh.data.toList.zip rest) ∧ (sh.data.toList.zip rest).all goodB = true from by
          have h1 := HLI.out
          have h2 := HNI.out
          have h3 := HA.out
          rw [← hzl, List.take_length] at h1 h2 h3
          exact ⟨h1, h2, h3⟩)
        have HO := Aside0.mk (show opOf s = some ⟨kd, l.getD 0 ⟨#[]⟩, l.getD 1 ⟨#[]⟩, n, [], []⟩ from by rw [HOP.out, if_pos ⟨HLE.out, HT.out.2.2⟩, ← HT.out.1, ← HT.out.2.1])
        clear hzl HT HLI HNI HA HRD HOP
        by_cases hl0 : l.length = 0
        · have r0 : decide ((0 : Int) < (l.length : Int)) = false := decide_eq_false (by omega)
          have r1 : decide (0 < l.length) = false := decide_eq_false (by omega)
          have r2 : decide ((1 : Int) < (l.length : Int)) = false := decide_eq_false (by omega)
          have r3 : decide (1 < l.length) = false := decide_eq_false (by omega)
          have HO2 := Aside0.mk (show opOf s = some ⟨kd, ⟨#[]⟩, ⟨#[]⟩, n, [], []⟩ from by
            rw [HO.out, List.eq_nil_of_length_eq_zero hl0]; rfl)
          clear hl0 HO
          obtain ⟨z0, z1, z2, z3, z4, z5, y0, y1, y2, y3, y4, y5, m, f, n1, n2⟩ := DD.out.cells
          have m0 := m 0
          have m1 := m 1
          have m2 := m 2
          have m3 := m 3
          have m4 := m 4
          have m5 := m 5
          clear m f
          go_wp2

          refine bodyPost_ret (results_ct rfl _ _ w.heap.size 38 #[.int .i64 kd, .string ⟨#[]⟩, .string ⟨#[]⟩, .int .i64 n, .slice none 0 0, .slice none 0 0] (0, 0) _ rfl (put6 DD.out.rb _ _ _ _ _ _) Tryd.underlying38 rfl (by kernel_rfl)) rfl ?_
          rw [HO2.out]
          exact DD.out.done (some _) true rfl (by intro y h; exact Option.some.inj h)

        · obtain ⟨gw, cw, hv, hgw, hgl, _⟩ := Kd.R_form HW.out (by omega)
          injection hv with hA hl2 hcap
          subst hA
          subst hcap
          clear hl2
          obtain ⟨a, ha⟩ : ∃ a, l.getD 0 ⟨#[]⟩ = a := ⟨_, rfl⟩
          have x0 : wr.cell? ⟨gw, 0, none⟩ = some (.string a) := by
            have h := (Kd.R_celln ByteArray.empty HW.out 0 (by omega) (by omega)).1
            rw [← ha]
            exact h
          have gn1 : gw ≠ e := fun h => own_ne HW.out DD.out.eb (by decide) (by rw [← h]; rfl)
          have gn2 : e ≠ gw := gn1.symm
          have r0 : decide ((0 : Int) < (l.length : Int)) = true := decide_eq_true (by omega)
          have r1 : decide (0 < l.length) = true := decide_eq_true (by omega)
          have e1 := DD.out.cells.f 1
          have e2 := DD.out.cells.f 2
          by_cases hl1 : l.length = 1
          · have r2 : decide ((1 : Int) < (l.length : Int)) = false := decide_eq_false (by omega)
            have r3 : decide (1 < l.length) = false := decide_eq_false (by omega)
            have D5 := Aside0.mk (DD.out.set1 a)
            have HO2 := Aside0.mk (show opOf s = some ⟨kd, a, ⟨#[]⟩, n, [], []⟩ from by
              rw [HO.out, ha, show l.getD 1 (⟨#[]⟩ : ByteArray) = ⟨#[]⟩ from by rw [List.getD_eq_getElem?_getD, List.getElem?_eq_none (by omega)]; rfl])
            have hl3 : 0 < l.length := by omega
            clear hl0 hl1 HO ha hgw hgl
            obtain ⟨z0, z1, z2, z3, z4, z5, y0, y1, y2, y3, y4, y5, m, f, n1, n2⟩ := DD.out.cells
            have m0 := m 0
            have m1 := m 1
            have m2 := m 2
            have m3 := m 3
            have m4 := m 4
            have m5 := m 5
            clear m f
            go_wp2

            refine bodyPost_ret (results_ct rfl _ _ w.heap.size 38 #[.int .i64 kd, .string a, .string ⟨#[]⟩, .int .i64 n, .slice none 0 0, .slice none 0 0] (0, 0) _ rfl (put6 D5.out.rb _ _ _ _ _ _) Tryd.underlying38 rfl (by kernel_rfl)) rfl ?_
            rw [HO2.out]
            exact D5.out.done (some _) true rfl (by intro y h; exact Option.some.inj h)

          · obtain ⟨b, hb⟩ : ∃ b, l.getD 1 ⟨#[]⟩ = b := ⟨_, rfl⟩
            have x1 : wr.cell? ⟨gw, 1, none⟩ = some (.string b) := by
              have h := (Kd.R_celln ByteArray.empty HW.out 1 (by omega) (by omega)).1
              rw [← hb]
              exact h
            have r2 : decide ((1 : Int) < (l.length : Int)) = true := decide_eq_true (by omega)
            have r3 : decide (1 < l.length) = true := decide_eq_true (by omega)
            have D5 := Aside0.mk ((DD.out.set1 a).set2 b)
            have HO2 := Aside0.mk (show opOf s = some ⟨kd, a, b, n, [], []⟩ from by rw [HO.out, ha, hb])
            have hl3 : 1 < l.length := by omega
            clear hl0 hl1 HO ha hb hgw hgl
            obtain ⟨z0, z1, z2, z3, z4, z5, y0, y1, y2, y3, y4, y5, m, f, n1, n2⟩ := DD.out.cells
            have m0 := m 0
            have m1 := m 1
            have m2 := m 2
            have m3 := m 3
            have m4 := m 4
            have m5 := m 5
            clear m f
            go_wp2

            refine bodyPost_ret (results_ct rfl _ _ w.heap.size 38 #[.int .i64 kd, .string a, .string b, .int .i64 n, .slice none 0 0, .slice none 0 0] (0, 0) _ rfl (put6 D5.out.rb _ _ _ _ _ _) Tryd.underlying38 rfl (by kernel_rfl)) rfl ?_
            rw [HO2.out]
            exact D5.out.done (some _) true rfl (by intro y h; exact Option.some.inj h)

set_option maxHeartbeats 8000000 in
set_option maxRecDepth 100000 in
theorem op_zero (s : ByteArray) (w : World) (hs : s.size ≤ 1048576) (kd : Int) (sh : ByteArray) (hks : kindOf (headW s) = (kd, sh)) (h0 : kd = 0) : Calls Tryd.prog 12 #[.string s] w (OpPost (opOf s) w) := by
  have hu38 := Tryd.underlying38
  obtain ⟨kc, hc⟩ := Ev.rounds (cut_eq s 32 hs)
  have HC := Aside0.mk hc
  obtain ⟨kk, hk⟩ := Ev.rounds (kind_eq (headW s))
  rw [hks] at hk
  have HK := Aside0.mk hk
  have W0 := Aside0.mk (heap_alloc_new w (.cells #[.int .i64 0, .string ⟨#[]⟩, .string ⟨#[]⟩, .int .i64 0, .slice none 0 0, .slice none 0 0] 38))
  have B0 := Aside0.mk (below_alloc (Below.refl w.heap.size w) (.cells #[.int .i64 0, .string ⟨#[]⟩, .string ⟨#[]⟩, .int .i64 0, .slice none 0 0, .slice none 0 0] 38))
  have HP := Aside0.mk (cut_parts s)
  have HL := Aside0.mk (rest_length s)
  have HS := Aside0.mk hs
  have k0 : (kd == 0) = true := beq_iff_eq.2 h0
  have HO := Aside0.mk (show opOf s = none from by
    unfold opOf
    rw [hks]
    exact if_pos h0)
  clear h0
  clear hc hk hs hks
  go_enter Tryd.func12, Tryd.ntmps12
  go_wp2_with fail
  refine (spec_l7Cut.calls kc s 32 (cutB 32 s) _ HC.out).mono ?_
  rintro e w1 ⟨vp, rfl, ho, hb⟩
  rw [HP.out] at ho
  generalize headW s = hd at *
  generalize restW s = rest at *
  obtain ⟨g, cp, rfl, hg1, hg2, hg3⟩ := Kd.R_form ho (Nat.succ_pos _)
  rw [List.length_cons] at ho
  have hc0 := (Kd.R_celln ByteArray.empty ho 0 (Int.le_refl _) (Int.ofNat_lt.2 (Nat.succ_pos _))).1
  replace hc0 : w1.cell? ⟨g, 0, none⟩ = some (.string hd) := hc0
  have W1 := Aside0.mk ((hb.block _ (blk_lt W0.out)).trans W0.out)
  have RP := Aside0.mk (show Kd.R Kd.string 9 w1 w.heap.size (fun _ => True) (.slice (some ⟨g, 0, none⟩) (rest.length + 1) cp) (hd :: rest) from Kd.R_lower ho B0.out.size)
  have B1 := Aside0.mk (below_step B0.out hb)
  obtain ⟨A8, hdr, hrd⟩ := parts_tail g cp hd rest (Kd.R_reads' ho).2.1
  have HRD := Aside0.mk hrd
  clear ho hb hrd hg1 hg2 hg3
  go_wp2_with fail
  refine (spec_l7Kind.calls kk hd _ _ _ HK.out).mono ?_
  rintro e w2 ⟨rfl, hb⟩
  have D0 := Aside0.mk (show LP w (w2.alloc (.cells #[.int .i64 kd, .string ⟨#[]⟩, .string ⟨#[]⟩, .int .i64 0, .slice none 0 0, .slice none 0 0] 38)) w2.heap.size w.heap.size ⟨kd, ⟨#[]⟩, ⟨#[]⟩, 0, [], []⟩ (.slice none 0 0) (.slice none 0 0) (.slice (some ⟨g, 0, none⟩) (rest.length + 1) cp) (hd :: rest) from
    ⟨below_alloc (below_step B1.out hb) _, (below_step B1.out hb).size, Nat.le_refl _, Nat.ne_of_gt (Nat.lt_of_lt_of_le (blk_lt W1.out) hb.size), heap_alloc_new _ _, blk_alloc ((hb.block _ (blk_lt W1.out)).trans W1.out) _, Kd.R_nil _ _ _ _ _, Kd.R_nil _ _ _ _ _, Kd.R_alloc (Kd.R_below RP.out hb) _⟩)
  have HR0 := Aside0.mk (show w.heap.size < w2.heap.size from Nat.lt_of_lt_of_le (blk_lt W1.out) hb.size)
  clear hb W0 B0 W1 B1 RP HC HK hc0
  generalize w2.heap.size = e at *
  obtain ⟨z0, z1, z2, z3, z4, z5, y0, y1, y2, y3, y4, y5, m, f, n1, n2⟩ := D0.out.cells
  have m0 := m 0
  have m1 := m 1
  have m2 := m 2
  have m3 := m 3
  have m4 := m 4
  have m5 := m 5
  clear m f
  go_wp2

  refine bodyPost_ret (results_ct rfl _ _ w.heap.size 38 #[.int .i64 kd, .string ⟨#[]⟩, .string ⟨#[]⟩, .int .i64 0, .slice none 0 0, .slice none 0 0] (0, 0) _ rfl (put6 D0.out.rb _ _ _ _ _ _) Tryd.underlying38 rfl (by kernel_rfl)) rfl ?_
  rw [HO.out]
  exact D0.out.done none false rfl (by intro y h; cases h)
/-- The specification's l7Op reads a line. -/
theorem op_call (s : ByteArray) (w : World) (hs : s.size ≤ 1048576) : Calls Tryd.prog 12 #[.string s] w (OpPost (opOf s) w) := by
  obtain ⟨kd, sh, hks⟩ : ∃ kd sh, kindOf (headW s) = (kd, sh) := ⟨_, _, rfl⟩
  by_cases h0 : kd = 0
  · exact op_zero s w hs kd sh hks h0
  by_cases h42 : sh.toList = ([42] : List UInt8)
  · exact op_star s w hs kd sh hks h0 (toList_inj (by rw [h42, ByteArray.toList_eq]))
  by_cases h43 : sh.toList = ([43] : List UInt8)
  · exact op_plus s w hs kd sh hks h0 (toList_inj (by rw [h43, ByteArray.toList_eq]))
  exact op_words s w hs kd sh hks h0 h42 h43
end Go.Proofs.YtkbhcejibcjglaaDoor.M
end
section
-- Written by a changed copy of the print program, one module a function. Not trusted: Lean checks it.
namespace Go.Proofs.YtkbhcejibcjglaaDoor.P
open Go.RowKit Go.Proofs.YtkbhcejibcjglaaDoorW.PrintWords Go.Proofs.YtkbhcejibcjglaaDoorW.PrintLast Go.Proofs.YtkbhcejibcjglaaDoorW.PrintMore
attribute [local go_sem] max2_int min2_int max_two min_two max_three min_three max_four min_four   -- for this text's walks alone
set_option linter.unusedVariables false
set_option linter.unusedSimpArgs false

/-! ### spec_l4Begins: function 10 -/
def spec_l4Begins.f (a0 : ByteArray) (a1 : ByteArray) : Option (Bool) := if (a0.size : Int) ≥ (a1.size : Int) then (if 0 ≤ (a1.size : Int) then (if (a1.size : Int) ≤ (a0.size : Int) then (some ((a0.extract 0 ((a1.size : Int) : Int).toNat).toList == a1.toList)) else (none)) else (none)) else (some false)
set_option maxHeartbeats 8000000 in
set_option maxRecDepth 100000 in
theorem spec_l4Begins.calls (a0 : ByteArray) (a1 : ByteArray) (r : Bool) (w : World) (h : spec_l4Begins.f a0 a1 = some r) :
  Calls Tryd.prog 10 #[.string a0, .string a1] w fun e w' => e = .returned (.bool r) ∧ Drawn0 w w' := by
 have H : (if (a0.size : Int) ≥ (a1.size : Int) then (if 0 ≤ (a1.size : Int) then (if (a1.size : Int) ≤ (a0.size : Int) then (some ((a0.extract 0 ((a1.size : Int) : Int).toNat).toList == a1.toList)) else (none)) else (none)) else (some false)) = some r := h
 clear h
 by_cases c3 : (a0.size : Int) ≥ (a1.size : Int)
 ·rw [if_pos c3] at H
  have c3b0 : decide ((a1.size : Int) ≤ (a0.size : Int)) = true := decide_eq_true c3
  have c3b1 : decide (a1.size ≤ a0.size) = true := decide_eq_true (Int.ofNat_le.mp c3)
  clear c3
  by_cases c4 : 0 ≤ (a1.size : Int)
  ·rw [if_pos c4] at H
   have c4b0 := eq_true c4
   have c4b1 : decide (0 ≤ (a1.size : Int)) = true := decide_eq_true c4
   clear c4
   by_cases c5 : (a1.size : Int) ≤ (a0.size : Int)
   ·rw [if_pos c5] at H
    have c5b0 := eq_true c5
    have c5b1 : decide ((a1.size : Int) ≤ (a0.size : Int)) = true := decide_eq_true c5
    clear c5
    obtain rfl := Option.some.inj H
    go_enter Tryd.func10, Tryd.ntmps10
    go_wp2
    go_ret
    exact ⟨by first | rfl | (simp; done) | (simp [*]; done), by repeat (first | exact Drawn0.refl _ | apply Drawn0.step)⟩
   ·rw [if_neg c5] at H
    exact absurd H (by simp)
  ·rw [if_neg c4] at H
   exact absurd H (by simp)
 ·rw [if_neg c3] at H
  have c3b0 : decide ((a1.size : Int) ≤ (a0.size : Int)) = false := decide_eq_false c3
  have c3b1 : decide (a1.size ≤ a0.size) = false := decide_eq_false (fun h => c3 (Int.ofNat_le.mpr h))
  clear c3
  obtain rfl := Option.some.inj H
  go_enter Tryd.func10, Tryd.ntmps10
  go_wp2
  go_ret
  exact ⟨by first | rfl | (simp; done) | (simp [*]; done), by repeat (first | exact Drawn0.refl _ | apply Drawn0.step)⟩

end Go.Proofs.YtkbhcejibcjglaaDoor.P
end
section
-- Written by a changed copy of the print program, one module a function. Not trusted: Lean checks it.
namespace Go.Proofs.YtkbhcejibcjglaaDoor.P
open Go.RowKit Go.Proofs.YtkbhcejibcjglaaDoorW.PrintWords Go.Proofs.YtkbhcejibcjglaaDoorW.PrintLast Go.Proofs.YtkbhcejibcjglaaDoorW.PrintMore
attribute [local go_sem] max2_int min2_int max_two min_two max_three min_three max_four min_four   -- for this text's walks alone
set_option linter.unusedVariables false
set_option linter.unusedSimpArgs false

/-! ### stringslite_HasPrefix: function 26 -/
def stringslite_HasPrefix.f (a0 : ByteArray) (a1 : ByteArray) : Option (Bool) := if (a0.size : Int) ≥ (a1.size : Int) then (if 0 ≤ (a1.size : Int) then (if (a1.size : Int) ≤ (a0.size : Int) then (some ((a0.extract 0 ((a1.size : Int) : Int).toNat).toList == a1.toList)) else (none)) else (none)) else (some false)
set_option maxHeartbeats 8000000 in
set_option maxRecDepth 100000 in
theorem stringslite_HasPrefix.calls (a0 : ByteArray) (a1 : ByteArray) (r : Bool) (w : World) (h : stringslite_HasPrefix.f a0 a1 = some r) :
  Calls Tryd.prog 26 #[.string a0, .string a1] w fun e w' => e = .returned (.bool r) ∧ Drawn0 w w' := by
 have H : (if (a0.size : Int) ≥ (a1.size : Int) then (if 0 ≤ (a1.size : Int) then (if (a1.size : Int) ≤ (a0.size : Int) then (some ((a0.extract 0 ((a1.size : Int) : Int).toNat).toList == a1.toList)) else (none)) else (none)) else (some false)) = some r := h
 clear h
 by_cases c3 : (a0.size : Int) ≥ (a1.size : Int)
 ·rw [if_pos c3] at H
  have c3b0 : decide ((a1.size : Int) ≤ (a0.size : Int)) = true := decide_eq_true c3
  have c3b1 : decide (a1.size ≤ a0.size) = true := decide_eq_true (Int.ofNat_le.mp c3)
  clear c3
  by_cases c4 : 0 ≤ (a1.size : Int)
  ·rw [if_pos c4] at H
   have c4b0 := eq_true c4
   have c4b1 : decide (0 ≤ (a1.size : Int)) = true := decide_eq_true c4
   clear c4
   by_cases c5 : (a1.size : Int) ≤ (a0.size : Int)
   ·rw [if_pos c5] at H
    have c5b0 := eq_true c5
    have c5b1 : decide ((a1.size : Int) ≤ (a0.size : Int)) = true := decide_eq_true c5
    clear c5
    obtain rfl := Option.some.inj H
    go_enter Tryd.func26, Tryd.ntmps26
    go_wp2
    go_ret
    exact ⟨by first | rfl | (simp; done) | (simp [*]; done), by repeat (first | exact Drawn0.refl _ | apply Drawn0.step)⟩
   ·rw [if_neg c5] at H
    exact absurd H (by simp)
  ·rw [if_neg c4] at H
   exact absurd H (by simp)
 ·rw [if_neg c3] at H
  have c3b0 : decide ((a1.size : Int) ≤ (a0.size : Int)) = false := decide_eq_false c3
  have c3b1 : decide (a1.size ≤ a0.size) = false := decide_eq_false (fun h => c3 (Int.ofNat_le.mpr h))
  clear c3
  obtain rfl := Option.some.inj H
  go_enter Tryd.func26, Tryd.ntmps26
  go_wp2
  go_ret
  exact ⟨by first | rfl | (simp; done) | (simp [*]; done), by repeat (first | exact Drawn0.refl _ | apply Drawn0.step)⟩

end Go.Proofs.YtkbhcejibcjglaaDoor.P
end
section
-- Written by a changed copy of the print program, one module a function. Not trusted: Lean checks it.
namespace Go.Proofs.YtkbhcejibcjglaaDoor.P
open Go.RowKit Go.Proofs.YtkbhcejibcjglaaDoorW.PrintWords Go.Proofs.YtkbhcejibcjglaaDoorW.PrintLast Go.Proofs.YtkbhcejibcjglaaDoorW.PrintMore
attribute [local go_sem] max2_int min2_int max_two min_two max_three min_three max_four min_four   -- for this text's walks alone
set_option linter.unusedVariables false
set_option linter.unusedSimpArgs false

/-! ### strings_HasPrefix: function 14 -/
def strings_HasPrefix.f (a0 : ByteArray) (a1 : ByteArray) : Option (Bool) := (stringslite_HasPrefix.f a0 a1).bind fun t157 => (some t157)
set_option maxHeartbeats 8000000 in
set_option maxRecDepth 100000 in
theorem strings_HasPrefix.calls (a0 : ByteArray) (a1 : ByteArray) (r : Bool) (w : World) (h : strings_HasPrefix.f a0 a1 = some r) :
  Calls Tryd.prog 14 #[.string a0, .string a1] w fun e w' => e = .returned (.bool r) ∧ Drawn0 w w' := by
 have H : ((stringslite_HasPrefix.f a0 a1).bind fun t157 => (some t157)) = some r := h
 clear h
 replace H := Option.bind_eq_some_iff.mp H
 obtain ⟨t157, A30, H⟩ := H
 replace H : (some t157) = some r := H
 have A3 := Aside0.mk A30
 clear A30
 obtain rfl := Option.some.inj H
 go_enter Tryd.func14, Tryd.ntmps14
 go_wp2_with (first | ((with_reducible refine gate_callee (f := 26) rfl ?_); refine goesL_ (some 7) rfl rfl Tryd.func26 (by kernel_rfl) rfl #[.string a0, .string a1] rfl (by (try simp only [List.map_toArray, List.map_cons, List.map_nil]); first | done | rfl | (simp only [List.length_drop, List.length_take]; rfl)) ?_; (with_reducible refine (stringslite_HasPrefix.calls a0 a1 t157 _ A3.out).mono ?_); rintro e w' ⟨rfl, ⟨nd, rfl⟩⟩; refine ⟨_, rfl, ?_⟩))
 go_ret
 exact ⟨by first | rfl | (simp; done) | (simp [*]; done), by repeat (first | exact Drawn0.refl _ | apply Drawn0.step)⟩

end Go.Proofs.YtkbhcejibcjglaaDoor.P
end
section
/- How the world stands while a script is read; the first line's head. No condition. -/
namespace Go.Proofs.YtkbhcejibcjglaaDoor.M
open Go.RowKit Go.Proofs.YtkbhcejibcjglaaDoor.P Go.Proofs.YtkbhcejibcjglaaDoorW.PrintWords Go.Proofs.YtkbhcejibcjglaaDoorW.PrintLast Go.Proofs.YtkbhcejibcjglaaDoorW.PrintMore
set_option linter.unusedVariables false
def quotaB : ByteArray := ⟨#[113, 117, 111, 116, 97, 32]⟩
open Classical in
noncomputable def isQuota (s : ByteArray) : Bool := decide (s.data.toList.take 6 = quotaW)
theorem begin_eq (s : ByteArray) : ((s.extract 0 ((quotaB.size : Int) : Int).toNat).toList == quotaB.toList) = isQuota s := by
  have e1 : ((quotaB.size : Int) : Int).toNat = 6 := rfl
  have e2 : quotaB.toList = quotaW := by rw [ByteArray.toList_eq]; rfl
  rw [e1, e2, ByteArray.toList_eq, Lib.extract_data, List.drop_zero, Nat.sub_zero]
  unfold isQuota
  by_cases h : s.data.toList.take 6 = quotaW
  · rw [decide_eq_true h]; exact beq_iff_eq.2 h
  · rw [decide_eq_false h]; exact beq_eq_false_iff_ne.2 h
theorem short_quota (s : ByteArray) (h : ¬ (s.size : Int) ≥ (quotaB.size : Int)) : isQuota s = false := by
  unfold isQuota
  apply decide_eq_false
  intro e
  have h2 := congrArg List.length e
  rw [List.length_take, dsize] at h2
  have h3 : (quotaB.size : Int) = 6 := rfl
  have h4 : quotaW.length = 6 := rfl
  omega
theorem quota_size (s : ByteArray) (h : isQuota s = true) : 6 ≤ s.size := by
  by_cases h2 : (s.size : Int) ≥ (quotaB.size : Int)
  · have h3 : (quotaB.size : Int) = 6 := rfl
    omega
  · rw [short_quota s h2] at h; cases h
theorem begins_eq (s : ByteArray) : spec_l4Begins.f s quotaB = some (isQuota s) := by
  have h3 : (quotaB.size : Int) = 6 := rfl
  unfold spec_l4Begins.f
  by_cases h : (s.size : Int) ≥ (quotaB.size : Int)
  · rw [if_pos h, if_pos (by omega), if_pos (by omega), begin_eq]
  · rw [if_neg h, short_quota s h]
theorem prefix_eq (s : ByteArray) : strings_HasPrefix.f s quotaB = some (isQuota s) := by
  have h3 : (quotaB.size : Int) = 6 := rfl
  unfold strings_HasPrefix.f stringslite_HasPrefix.f
  by_cases h : (s.size : Int) ≥ (quotaB.size : Int)
  · rw [if_pos h, if_pos (by omega), if_pos (by omega), begin_eq]; rfl
  · rw [if_neg h, short_quota s h]; rfl
/-- What a function that reads a script leaves. -/
def ScriptPost (q : Int × List S38 × Int) (w : World) (en : Ending) (w' : World) : Prop := ∃ v : Value, en = .returned (.tuple #[.agg #[.int .i64 q.1, v], .int .i64 q.2.2]) ∧ Kd.S k38 38 w' w.heap.size (fun _ => True) v q.2.1 ∧ Below w.heap.size w w'
/-- The script stands at e, the answer's place at r; the lines are the row vp. -/
structure PS (w wr : World) (e r : Nat) (q : Int) (ov : Value) (ops : List S38) (vp : Value) (lines : List ByteArray) : Prop where
  bel : Below w.heap.size w wr
  ge : w.heap.size ≤ e
  gr : w.heap.size ≤ r
  ne : e ≠ r
  eb : wr.heap[e]? = some (.cells #[.int .i64 q, ov] 24 (0, 0))
  rb : wr.heap[r]? = some (.cells #[.int .i64 0, .slice none 0 0] 24 (0, 0))
  ro : Kd.S k38 38 wr w.heap.size (fun _ => True) ov ops
  rp : Kd.R Kd.string 9 wr w.heap.size (fun _ => True) vp lines
section
variable {w wr W : World} {e r : Nat} {q : Int} {ov vp : Value} {ops : List S38} {lines : List ByteArray}
theorem PS.below (h : PS w wr e r q ov ops vp lines) (hx : Below wr.heap.size wr W) : PS w W e r q ov ops vp lines :=
  ⟨h.bel.trans (hx.mono h.bel.size), h.ge, h.gr, h.ne, (hx.block _ (blk_lt h.eb)).trans h.eb, (hx.block _ (blk_lt h.rb)).trans h.rb, Kd.S_below h.ro hx, Kd.R_below h.rp hx⟩
theorem sown_ne {α : Type} {d : Kd α} {q : Nat} {ok : Nat → Prop} {v : Value} {xs : List α} {base : Nat} {wr : World} (h : Kd.S d q wr base ok v xs) {k t : Nat} {cells : Array Value} (hb : wr.heap[k]? = some (.cells cells t (0, 0))) (ht : q ≠ t) : some k ≠ v.ownBlock := Kd.S_ne h hb ht
theorem PS.grew {u : Value} {l : List S38} (h : PS w wr e r q ov ops vp lines) (ho : Kd.S k38 38 W w.heap.size (fun _ => True) u l) (hb : Below w.heap.size w W) (hg : wr.grownBy W ov.ownBlock) :
    PS w (W.setCell ⟨e, 1, none⟩ u) e r q u l vp lines := by
  have eb := (hg.block e (blk_lt h.eb) (sown_ne h.ro h.eb (by decide))).trans h.eb
  have rb := (hg.block r (blk_lt h.rb) (sown_ne h.ro h.rb (by decide))).trans h.rb
  have rp := Kd.R_over' h.rp (Kd.S_typed h.ro) (by decide) hg
  exact ⟨below_set hb h.ge, h.ge, h.gr, h.ne, blk_put eb 1 u rfl, (Below.heap_setCell W ⟨e, 1, none⟩ u r h.ne.symm).trans rb, Kd.S_set ho eb (by decide) 1 u, Kd.R_set rp eb (by decide) 1 u⟩
theorem PS.grown_cell (h : PS w wr e r q ov ops vp lines) (hg : wr.grownBy W ov.ownBlock) : (∃ u, W.cell? ⟨e, 1, none⟩ = some u) ∧ W.frozen? ⟨e, 1, none⟩ = false := by
  have eb := (hg.block e (blk_lt h.eb) (sown_ne h.ro h.eb (by decide))).trans h.eb
  exact ⟨⟨_, (blk_cell eb 1).trans rfl⟩, blk_frozen eb 1⟩
structure PSc (wr : World) (e r : Nat) (q : Int) (ov : Value) : Prop where
  z0 : wr.cell? ⟨e, 0, none⟩ = some (.int .i64 q)
  z1 : wr.cell? ⟨e, 1, none⟩ = some ov
  y0 : wr.cell? ⟨r, 0, none⟩ = some (.int .i64 0)
  y1 : wr.cell? ⟨r, 1, none⟩ = some (.slice none 0 0)
  m0 : wr.frozen? ⟨r, 0, none⟩ = false
  m1 : wr.frozen? ⟨r, 1, none⟩ = false
  n1 : e ≠ r
  n2 : r ≠ e
theorem PS.cells (h : PS w wr e r q ov ops vp lines) : PSc wr e r q ov :=
  ⟨(blk_cell h.eb 0).trans rfl, (blk_cell h.eb 1).trans rfl, (blk_cell h.rb 0).trans rfl, (blk_cell h.rb 1).trans rfl, blk_frozen h.rb 0, blk_frozen h.rb 1, h.ne, h.ne.symm⟩
theorem put2 {W : World} {r t : Nat} {u0 u1 : Value} (h : W.heap[r]? = some (.cells #[u0, u1] t (0, 0))) (v0 v1 : Value) :
    ((W.setCell ⟨r, 0, none⟩ v0).setCell ⟨r, 1, none⟩ v1).heap[r]? = some (.cells #[v0, v1] t (0, 0)) := blk_put (blk_put h 0 v0 rfl) 1 v1 rfl
theorem PS.done (h : PS w wr e r q ov ops vp lines) : ScriptPost (q, ops, 0) w (.returned (.tuple #[.agg #[.int .i64 q, ov], .int .i64 0])) ((wr.setCell ⟨r, 0, none⟩ (.int .i64 q)).setCell ⟨r, 1, none⟩ ov) := by
  have hb1 : ((wr.setCell ⟨r, 0, none⟩ (.int .i64 q)).heap[r]?) = some (.cells #[.int .i64 q, .slice none 0 0] 24 (0, 0)) := blk_put h.rb 0 _ rfl
  exact ⟨ov, rfl, Kd.S_set (Kd.S_set h.ro h.rb (by decide) 0 _) hb1 (by decide) 1 _, below_set (below_set h.bel h.gr) h.gr⟩
end
theorem bad_done {w wr : World} {r : Nat} (hb : Below w.heap.size w wr) (hr : w.heap.size ≤ r) (c : Int) : ScriptPost (0, [], c) w (.returned (.tuple #[.agg #[.int .i64 0, .slice none 0 0], .int .i64 c])) ((wr.setCell ⟨r, 0, none⟩ (.int .i64 0)).setCell ⟨r, 1, none⟩ (.slice none 0 0)) :=
  ⟨_, rfl, Kd.S_nil _ _ _ _ _, below_set (below_set hb hr) hr⟩
/-- One more operation behind the row: what the append asks. -/
theorem op_new {w wr W : World} {x : S38} {v4 v5 ov : Value} {ops : List S38} (hN : w.heap.size ≤ wr.heap.size) (hS : Kd.S k38 38 wr w.heap.size (fun _ => True) ov ops) (hb : Below wr.heap.size wr W) (h4 : Kd.R k50 50 W wr.heap.size (fun _ => True) v4 x.f4) (h5 : Kd.R (Kd.int .i64) 3 W wr.heap.size (fun _ => True) v5 x.f5) :
    k38.M W w.heap.size (fun k => wr.heap.size ≤ k) x [.int .i64 x.f0, .string x.f1, .string x.f2, .int .i64 x.f3, v4, v5] ∧ (∀ k, wr.heap.size ≤ k → True ∧ some k ≠ ov.ownBlock) ∧ Kd.S k38 38 W w.heap.size (fun k => True ∧ ¬ wr.heap.size ≤ k) ov ops := by
  refine ⟨k38_mkM _ _ _ x (Kd.R_lower (Kd.R_mono (Kd.R_bound h4) (fun k hk => hk.2.1)) hN) (Kd.R_lower (Kd.R_mono (Kd.R_bound h5) (fun k hk => hk.2.1)) hN), fun k hk => ⟨trivial, fun he => ?_⟩, Kd.S_mono (Kd.S_old hS hb) (fun k hk => ⟨trivial, Nat.not_le.2 hk.2⟩)⟩
  have := Kd.S_lt hS k he.symm
  omega
end Go.Proofs.YtkbhcejibcjglaaDoor.M
end
section
/- The program's table of first words, and the specification's: they say the same. No condition. -/
namespace Go.Proofs.YtkbhcejibcjglaaDoor.M
open Go.RowKit Go.Proofs.YtkbhcejibcjglaaDoor.P Go.Proofs.YtkbhcejibcjglaaDoorW.PrintWords Go.Proofs.YtkbhcejibcjglaaDoorW.PrintLast Go.Proofs.YtkbhcejibcjglaaDoorW.PrintMore
set_option linter.unusedVariables false
/-- The program's table, its keys rising. -/
def linesTab : List (List UInt8 × Int × List UInt8) := [([98, 97, 116, 99, 104], 4, [43]), ([99, 104, 101, 99, 107], 14, []), ([99, 108, 111, 115, 101], 10, []), ([99, 111, 109, 112, 97, 99, 116], 9, [78]), ([99, 114, 97, 115, 104], 11, [42]), ([100, 101, 108], 3, [75]), ([100, 117, 109, 112], 16, []), ([102, 108, 117, 115, 104], 8, []), ([102, 117, 101, 108], 12, [78]), ([103, 101, 116], 6, [75]), ([108, 105, 115, 116], 17, []), ([111, 112, 101, 110], 1, []), ([112, 111, 107, 101], 13, [75, 78, 86]), ([112, 117, 116], 2, [75, 86]), ([114, 101, 112, 97, 105, 114], 15, []), ([115, 99, 97, 110], 7, [75, 86]), ([115, 121, 110, 99], 5, [])]
def lineK (s : ByteArray) : Int × ByteArray × Bool := match linesTab.find? (fun p => p.1 == s.data.toList) with
  | some p => (p.2.1, ⟨p.2.2.toArray⟩, true)
  | none => (0, ⟨#[]⟩, false)
def seekL (l : List UInt8) : List (List UInt8 × ByteArray) → Nat → Int × ByteArray
  | [], _ => (0, ⟨#[]⟩)
  | (n, sh) :: q, i => if n = l then ((i : Int), sh) else seekL l q (i + 1)
theorem seek_list (s : ByteArray) : ∀ (q : List (ByteArray × ByteArray)) (i : Nat), seek s q i = seekL s.data.toList (q.map fun p => (p.1.data.toList, p.2)) i := by
  intro q
  induction q with
  | nil => intro i; rfl
  | cons a q ih =>
    intro i
    rw [List.map_cons]
    unfold seek seekL
    rw [ByteArray.toList_eq, ByteArray.toList_eq, ih]
def wordsL : List (List UInt8 × ByteArray) := [([111, 112, 101, 110], ⟨#[]⟩), ([112, 117, 116], ⟨#[119, 119]⟩), ([100, 101, 108], ⟨#[119]⟩), ([98, 97, 116, 99, 104], ⟨#[43]⟩), ([115, 121, 110, 99], ⟨#[]⟩), ([103, 101, 116], ⟨#[119]⟩), ([115, 99, 97, 110], ⟨#[119, 119]⟩), ([102, 108, 117, 115, 104], ⟨#[]⟩), ([99, 111, 109, 112, 97, 99, 116], ⟨#[110]⟩), ([99, 108, 111, 115, 101], ⟨#[]⟩), ([99, 114, 97, 115, 104], ⟨#[42]⟩), ([102, 117, 101, 108], ⟨#[110]⟩), ([112, 111, 107, 101], ⟨#[119, 110, 119]⟩), ([99, 104, 101, 99, 107], ⟨#[]⟩), ([114, 101, 112, 97, 105, 114], ⟨#[]⟩), ([100, 117, 109, 112], ⟨#[]⟩), ([108, 105, 115, 116], ⟨#[]⟩)]
theorem kindOf_list (s : ByteArray) : kindOf s = seekL s.data.toList wordsL 1 := seek_list s wordsTab 1
/-- The two shapes of one kind. -/
def shapesTab : List (ByteArray × ByteArray) := [(⟨#[]⟩, ⟨#[]⟩), (⟨#[119, 119]⟩, ⟨#[75, 86]⟩), (⟨#[119]⟩, ⟨#[75]⟩), (⟨#[110]⟩, ⟨#[78]⟩), (⟨#[119, 110, 119]⟩, ⟨#[75, 78, 86]⟩)]
theorem line_kind (s : ByteArray) : (kindOf s = (0, ⟨#[]⟩) ∧ lineK s = (0, ⟨#[]⟩, false)) ∨ ∃ (kd : Int) (sp si : ByteArray), kindOf s = (kd, sp) ∧ lineK s = (kd, si, true) ∧ kd ≠ 0 ∧ ((sp = ⟨#[42]⟩ ∧ si = ⟨#[42]⟩) ∨ (sp = ⟨#[43]⟩ ∧ si = ⟨#[43]⟩) ∨ (sp, si) ∈ shapesTab) := by
  rw [kindOf_list]
  unfold lineK
  generalize s.data.toList = l
  by_cases h0 : [111, 112, 101, 110] = l
  · subst h0; exact .inr ⟨1, ⟨#[]⟩, ⟨#[]⟩, rfl, rfl, by decide, .inr (.inr (by simp [shapesTab]))⟩
  by_cases h1 : [112, 117, 116] = l
  · subst h1; exact .inr ⟨2, ⟨#[119, 119]⟩, ⟨#[75, 86]⟩, rfl, rfl, by decide, .inr (.inr (by simp [shapesTab]))⟩
  by_cases h2 : [100, 101, 108] = l
  · subst h2; exact .inr ⟨3, ⟨#[119]⟩, ⟨#[75]⟩, rfl, rfl, by decide, .inr (.inr (by simp [shapesTab]))⟩
  by_cases h3 : [98, 97, 116, 99, 104] = l
  · subst h3; exact .inr ⟨4, ⟨#[43]⟩, ⟨#[43]⟩, rfl, rfl, by decide, .inr (.inl ⟨rfl, rfl⟩)⟩
  by_cases h4 : [115, 121, 110, 99] = l
  · subst h4; exact .inr ⟨5, ⟨#[]⟩, ⟨#[]⟩, rfl, rfl, by decide, .inr (.inr (by simp [shapesTab]))⟩
  by_cases h5 : [103, 101, 116] = l
  · subst h5; exact .inr ⟨6, ⟨#[119]⟩, ⟨#[75]⟩, rfl, rfl, by decide, .inr (.inr (by simp [shapesTab]))⟩
  by_cases h6 : [115, 99, 97, 110] = l
  · subst h6; exact .inr ⟨7, ⟨#[119, 119]⟩, ⟨#[75, 86]⟩, rfl, rfl, by decide, .inr (.inr (by simp [shapesTab]))⟩
  by_cases h7 : [102, 108, 117, 115, 104] = l
  · subst h7; exact .inr ⟨8, ⟨#[]⟩, ⟨#[]⟩, rfl, rfl, by decide, .inr (.inr (by simp [shapesTab]))⟩
  by_cases h8 : [99, 111, 109, 112, 97, 99, 116] = l
  · subst h8; exact .inr ⟨9, ⟨#[110]⟩, ⟨#[78]⟩, rfl, rfl, by decide, .inr (.inr (by simp [shapesTab]))⟩
  by_cases h9 : [99, 108, 111, 115, 101] = l
  · subst h9; exact .inr ⟨10, ⟨#[]⟩, ⟨#[]⟩, rfl, rfl, by decide, .inr (.inr (by simp [shapesTab]))⟩
  by_cases h10 : [99, 114, 97, 115, 104] = l
  · subst h10; exact .inr ⟨11, ⟨#[42]⟩, ⟨#[42]⟩, rfl, rfl, by decide, .inl ⟨rfl, rfl⟩⟩
  by_cases h11 : [102, 117, 101, 108] = l
  · subst h11; exact .inr ⟨12, ⟨#[110]⟩, ⟨#[78]⟩, rfl, rfl, by decide, .inr (.inr (by simp [shapesTab]))⟩
  by_cases h12 : [112, 111, 107, 101] = l
  · subst h12; exact .inr ⟨13, ⟨#[119, 110, 119]⟩, ⟨#[75, 78, 86]⟩, rfl, rfl, by decide, .inr (.inr (by simp [shapesTab]))⟩
  by_cases h13 : [99, 104, 101, 99, 107] = l
  · subst h13; exact .inr ⟨14, ⟨#[]⟩, ⟨#[]⟩, rfl, rfl, by decide, .inr (.inr (by simp [shapesTab]))⟩
  by_cases h14 : [114, 101, 112, 97, 105, 114] = l
  · subst h14; exact .inr ⟨15, ⟨#[]⟩, ⟨#[]⟩, rfl, rfl, by decide, .inr (.inr (by simp [shapesTab]))⟩
  by_cases h15 : [100, 117, 109, 112] = l
  · subst h15; exact .inr ⟨16, ⟨#[]⟩, ⟨#[]⟩, rfl, rfl, by decide, .inr (.inr (by simp [shapesTab]))⟩
  by_cases h16 : [108, 105, 115, 116] = l
  · subst h16; exact .inr ⟨17, ⟨#[]⟩, ⟨#[]⟩, rfl, rfl, by decide, .inr (.inr (by simp [shapesTab]))⟩
  refine .inl ⟨?_, ?_⟩
  · simp only [wordsL, seekL, h0, h1, h2, h3, h4, h5, h6, h7, h8, h9, h10, h11, h12, h13, h14, h15, h16, if_false]
  · have hn : linesTab.find? (fun p => p.1 == l) = none := by
      rw [List.find?_eq_none]
      intro p hp
      simp only [linesTab, List.mem_cons, List.not_mem_nil, or_false] at hp
      rcases hp with rfl | rfl | rfl | rfl | rfl | rfl | rfl | rfl | rfl | rfl | rfl | rfl | rfl | rfl | rfl | rfl | rfl <;> simp only [beq_iff_eq] <;> assumption
    rw [hn]
end Go.Proofs.YtkbhcejibcjglaaDoor.M
end
section
/- How the world stands while impl.lineOf reads a line; the program's table. No condition. -/
namespace Go.Proofs.YtkbhcejibcjglaaDoor.M
open Go.RowKit Go.Proofs.YtkbhcejibcjglaaDoor.P Go.Proofs.YtkbhcejibcjglaaDoorW.PrintWords Go.Proofs.YtkbhcejibcjglaaDoorW.PrintLast Go.Proofs.YtkbhcejibcjglaaDoorW.PrintMore
set_option linter.unusedVariables false
set_option linter.unusedSimpArgs false
/-- What the caller's world holds: the program's table, and a number of the library's own. -/
structure LinesAt (W : World) (bm : Nat) (m : Int) : Prop where
  cell : W.cell? ⟨0, 0, none⟩ = some (.map (some bm))
  lt : bm < W.heap.size
  lt0 : 0 < W.heap.size
  lt1 : 1 < W.heap.size
  max : W.cell? ⟨1, 0, none⟩ = some (.int .i64 m)
  look : ∀ W' : World, W'.heap[bm]? = W.heap[bm]? → ∀ s : ByteArray, s.size ≤ maxLen → (Instr.lookup 58 (.map (some bm)) (.string s) true).run Tryd.prog W' = .ok (.tuple #[.agg #[.int .i64 (lineK s).1, .string (lineK s).2.1], .bool (lineK s).2.2]) W'
theorem LinesAt.below {W W1 : World} {bm : Nat} {m : Int} (h : LinesAt W bm m) (hb : Below W.heap.size W W1) : LinesAt W1 bm m :=
  ⟨(hb.cell h.lt0).trans h.cell, Nat.lt_of_lt_of_le h.lt hb.size, Nat.lt_of_lt_of_le h.lt0 hb.size, Nat.lt_of_lt_of_le h.lt1 hb.size, (hb.cell h.lt1).trans h.max, fun W' hw s hs => h.look W' (hw.trans (hb.block bm h.lt)) s hs⟩
theorem LinesAt.alloc {W : World} {bm : Nat} {m : Int} (h : LinesAt W bm m) (o : Obj) : LinesAt (W.alloc o) bm m := h.below (below_alloc (Below.refl _ _) o)
theorem LinesAt.find {W : World} {bm : Nat} {m : Int} (h : LinesAt W bm m) {s : ByteArray} (hs : s.size ≤ 1048576) {k : Int} {sh : ByteArray} {ok : Bool} (he : lineK s = (k, sh, ok)) : (Instr.lookup 58 (.map (some bm)) (.string s) true).run Tryd.prog W = .ok (.tuple #[.agg #[.int .i64 k, .string sh], .bool ok]) W := by
  have := h.look W rfl s (by unfold maxLen; omega)
  rw [he] at this
  exact this
theorem split_row (W : World) (base : Nat) (s : ByteArray) (c : UInt8) (hb : base ≤ W.heap.size) (hs : s.size ≤ 1048576) : Kd.R Kd.string 9 (W.alloc (.cells ((Lib.splitB ⟨#[c]⟩ 0 (Lib.countB s ⟨#[c]⟩) s).map Value.string).toArray 9)) base (fun _ => True) (.slice (some ⟨W.heap.size, 0, none⟩) (cutB c s).length (cutB c s).length) (cutB c s) := by
  rw [split_cut]
  exact Kd.R_of_own (enc := Value.string) (h1 := fun _ => rfl) (own_lit_of (enc := Value.string) W base 9 (cutB c s) hb (by have := (cutB_len c s).2; omega)) (fun _ _ => trivial)
theorem count_cut (s : ByteArray) (c : UInt8) : Lib.countB s ⟨#[c]⟩ + 1 = (cutB c s).length := by
  rw [cutB_length]
  congr 1
  show Lib.count s.data.toList [c] = _
  rw [Lib.count_one]
theorem word_size (s : ByteArray) : (wordOf s).1.size ≤ s.size := by
  unfold wordOf
  split
  · split
    · exact Nat.zero_le _
    · exact Nat.le_refl _
  · exact Nat.zero_le _
theorem empty_list {c : ByteArray} (h : c.size = 0) : c.toList.isEmpty = true := by
  have : c.toList.length = 0 := by rw [toList_size]; exact h
  rw [List.eq_nil_of_length_eq_zero this]
  rfl
theorem nonempty_list {c : ByteArray} (h : ¬ c.size = 0) : c.toList.isEmpty = false := by
  cases h2 : c.toList with
  | nil => have := toList_size c; rw [h2] at this; exact absurd this.symm h
  | cons a l => rfl
/-- The letters of the program's shape beside those of the specification's, k words having been read. -/
def relB : Nat → List UInt8 → List UInt8 → Bool
  | _, [], [] => true
  | k, a :: p, c :: q => (c == 78 && a == 110 && relB k p q) || (c == 75 && a != 110 && k == 0 && relB (k + 1) p q) || (c == 86 && a != 110 && k == 1 && relB (k + 1) p q)
  | _, _, _ => false
theorem shapes_rel {sp si : ByteArray} (h : (sp, si) ∈ shapesTab) : relB 0 sp.data.toList si.data.toList = true ∧ sp.size = si.size ∧ ¬ sp.data.toList = ([42] : List UInt8) ∧ ¬ sp.data.toList = ([43] : List UInt8) ∧ ¬ si.data.toList = ([42] : List UInt8) ∧ ¬ si.data.toList = ([43] : List UInt8) := by
  simp only [shapesTab, List.mem_cons, List.not_mem_nil, or_false, Prod.mk.injEq] at h
  rcases h with ⟨rfl, rfl⟩ | ⟨rfl, rfl⟩ | ⟨rfl, rfl⟩ | ⟨rfl, rfl⟩ | ⟨rfl, rfl⟩ <;> exact ⟨by decide, rfl, by decide, by decide, by decide, by decide⟩
theorem rel_step {k : Nat} {p q : List UInt8} {i : Nat} (hp : i < p.length) (hq : i < q.length) (h : relB k (p.drop i) (q.drop i) = true) :
    (q[i] = 78 ∧ p[i] = 110 ∧ relB k (p.drop (i + 1)) (q.drop (i + 1)) = true) ∨ (q[i] = 75 ∧ p[i] ≠ 110 ∧ k = 0 ∧ relB (k + 1) (p.drop (i + 1)) (q.drop (i + 1)) = true) ∨ (q[i] = 86 ∧ p[i] ≠ 110 ∧ k = 1 ∧ relB (k + 1) (p.drop (i + 1)) (q.drop (i + 1)) = true) := by
  rw [drop_at p i hp, drop_at q i hq] at h
  unfold relB at h
  simp only [Bool.or_eq_true, Bool.and_eq_true, beq_iff_eq, bne_iff_ne, ne_eq] at h
  rcases h with (⟨⟨h1, h2⟩, h3⟩ | ⟨⟨⟨h1, h2⟩, h3⟩, h4⟩) | ⟨⟨⟨h1, h2⟩, h3⟩, h4⟩
  · exact .inl ⟨h1, h2, h3⟩
  · exact .inr (.inl ⟨h1, h2, h3, h4⟩)
  · exact .inr (.inr ⟨h1, h2, h3, h4⟩)
/-- The operation at e, the answer's place at r, the table's entry at b. -/
structure LQ (w wr : World) (e r b : Nat) (lk : Int) (lsh : ByteArray) (x : S38) (v4 v5 vp : Value) (parts : List ByteArray) : Prop where
  lp : LP w wr e r x v4 v5 vp parts
  kb : wr.heap[b]? = some (.cells #[.int .i64 lk, .string lsh] 56 (0, 0))
  nb : e ≠ b
section
variable {w wr W : World} {e r b : Nat} {lk : Int} {lsh : ByteArray} {x : S38} {v4 v5 vp : Value} {parts : List ByteArray}
theorem LQ.below (h : LQ w wr e r b lk lsh x v4 v5 vp parts) (hx : Below wr.heap.size wr W) : LQ w W e r b lk lsh x v4 v5 vp parts :=
  ⟨h.lp.below hx, (hx.block _ (blk_lt h.kb)).trans h.kb, h.nb⟩
theorem LQ.drawn (h : LQ w wr e r b lk lsh x v4 v5 vp parts) (n : Nat) : LQ w (wr.drewN n) e r b lk lsh x v4 v5 vp parts := h.below (pw_below_drewN (Below.refl _ _) n)
theorem LQ.grew4 {u : Value} {l : List S50} (h : LQ w wr e r b lk lsh x v4 v5 vp parts) (ho : Kd.R k50 50 W w.heap.size (fun _ => True) u l) (hb : Below w.heap.size w W) (hg : wr.grownBy W v4.ownBlock) :
    LQ w (W.setCell ⟨e, 4, none⟩ u) e r b lk lsh ⟨x.f0, x.f1, x.f2, x.f3, l, x.f5⟩ u v5 vp parts :=
  ⟨h.lp.grew4 ho hb hg, (Below.heap_setCell W ⟨e, 4, none⟩ u b h.nb.symm).trans ((hg.block b (blk_lt h.kb) (own_ne h.lp.r4 h.kb (by decide))).trans h.kb), h.nb⟩
theorem LQ.grew5 {u : Value} {l : List Int} (h : LQ w wr e r b lk lsh x v4 v5 vp parts) (ho : Kd.R (Kd.int .i64) 3 W w.heap.size (fun _ => True) u l) (hb : Below w.heap.size w W) (hg : wr.grownBy W v5.ownBlock) :
    LQ w (W.setCell ⟨e, 5, none⟩ u) e r b lk lsh ⟨x.f0, x.f1, x.f2, x.f3, x.f4, l⟩ v4 u vp parts :=
  ⟨h.lp.grew5 ho hb hg, (Below.heap_setCell W ⟨e, 5, none⟩ u b h.nb.symm).trans ((hg.block b (blk_lt h.kb) (own_ne h.lp.r5 h.kb (by decide))).trans h.kb), h.nb⟩
theorem LQ.set1 (h : LQ w wr e r b lk lsh x v4 v5 vp parts) (u : ByteArray) : LQ w (wr.setCell ⟨e, 1, none⟩ (.string u)) e r b lk lsh ⟨x.f0, u, x.f2, x.f3, x.f4, x.f5⟩ v4 v5 vp parts :=
  ⟨h.lp.set1 u, (Below.heap_setCell wr ⟨e, 1, none⟩ _ b h.nb.symm).trans h.kb, h.nb⟩
theorem LQ.set2 (h : LQ w wr e r b lk lsh x v4 v5 vp parts) (u : ByteArray) : LQ w (wr.setCell ⟨e, 2, none⟩ (.string u)) e r b lk lsh ⟨x.f0, x.f1, u, x.f3, x.f4, x.f5⟩ v4 v5 vp parts :=
  ⟨h.lp.set2 u, (Below.heap_setCell wr ⟨e, 2, none⟩ _ b h.nb.symm).trans h.kb, h.nb⟩
theorem LQ.set3 (h : LQ w wr e r b lk lsh x v4 v5 vp parts) (u : Int) : LQ w (wr.setCell ⟨e, 3, none⟩ (.int .i64 u)) e r b lk lsh ⟨x.f0, x.f1, x.f2, u, x.f4, x.f5⟩ v4 v5 vp parts :=
  ⟨h.lp.set3 u, (Below.heap_setCell wr ⟨e, 3, none⟩ _ b h.nb.symm).trans h.kb, h.nb⟩
theorem LQ.k0 (h : LQ w wr e r b lk lsh x v4 v5 vp parts) : wr.cell? ⟨b, 0, none⟩ = some (.int .i64 lk) := (blk_cell h.kb 0).trans rfl
theorem LQ.k1 (h : LQ w wr e r b lk lsh x v4 v5 vp parts) : wr.cell? ⟨b, 1, none⟩ = some (.string lsh) := (blk_cell h.kb 1).trans rfl
end
end Go.Proofs.YtkbhcejibcjglaaDoor.M
end
section
/- The row's condition gives what the walks ask: the table of first words. Condition: the variable reads as the row lists it. -/
namespace Go.Proofs.YtkbhcejibcjglaaDoor.M
open Go.ChangeShapes Go.WideShapes Go.ChangeAt Go.WideMaps Go.WideElems Go.RowKit
set_option linter.unusedVariables false
theorem tabD (H : Type) : (Rows.laid_loop_example_s01733_impl_lines : DataW H) = .map (linesTab.map fun p => (.string p.1, .agg [.lit (.int .i64 p.2.1), .lit (.string p.2.2)])) := rfl
theorem at_list {H : Type} (l : List UInt8) (zd : DataW H) : ∀ t : List (List UInt8 × Int × List UInt8),
    (DataW.map (t.map fun p => ((.string p.1 : Lit), (.agg [.lit (.int .i64 p.2.1), .lit (.string p.2.2)] : DataW H)))).atKey (.string l) zd = match t.find? (fun p => p.1 == l) with
      | some p => .agg [.lit (.int .i64 p.2.1), .lit (.string p.2.2)]
      | none => zd := by
  intro t
  unfold DataW.atKey
  simp only
  induction t with
  | nil => rfl
  | cons a t ih =>
    rw [List.map_cons, List.find?_cons, List.find?_cons]
    have e : Lit.sameKey (.string a.1) (.string l) = (a.1 == l) := rfl
    simp only [e]
    cases h : a.1 == l with
    | true => rfl
    | false => exact ih
theorem elem_is {H : Type} {enc : TypeId × Value → H} {W : World} {base : Nat} {sp : Nat → Bool} {held : Bool} {n : Nat} {v : Value} {z : DataW H × List MemPlace} (h : elemAt enc Tryd.prog W base sp held n 56 v = some z) :
    ∃ (a : Int) (b : ByteArray), v = .agg #[.int .i64 a, .string b] ∧ z.1 = .agg [.lit (.int .i64 a), .lit (.string b.data.toList)] := by
  unfold elemAt at h
  split at h
  · rename_i hf
    obtain ⟨y0, y1, m, rfl, hl, g0, g1⟩ := trod_struct2 Tryd.underlying56 h
    obtain ⟨a, e0, rfl, wa⟩ := DataW.trod_int Tryd.underlying3 g0
    obtain ⟨b, e1, rfl, wb⟩ := DataW.trod_string Tryd.underlying9 g1
    have ce : Tryd.prog.cellsOf 56 = 2 := by kernel_rfl
    have c0 : Tryd.prog.cellsOf 3 = 1 := by kernel_rfl
    have c1 : Tryd.prog.cellsOf 9 = 1 := by kernel_rfl
    cases v <;> simp [Value.formed, Tryd.underlying56] at hf
    rename_i cs
    obtain ⟨l⟩ := cs
    rw [ce] at hl
    simp [Value.cells] at hl e0 e1
    match l, hl with
    | [x0, x1], _ =>
      simp [c0, c1] at e0 e1
      subst e0 e1
      exact ⟨a, b, rfl, rfl⟩
  · cases h
theorem gLines : Tryd.prog.globalNamed "loop.example/s01733/impl.lines" = some 0 := by kernel_rfl
theorem tLines : (Tryd.prog.globals[0]?).map (·.type) = some 58 := by kernel_rfl
theorem law9 : KeyLaw Tryd.prog 9 := string_law Tryd.underlying9
theorem lines_at {W : World} (m : Int) (hm : W.cell? ⟨1, 0, none⟩ = some (.int .i64 m)) (h0 : Lib.VarReads Tryd.prog W "loop.example/s01733/impl.lines" Rows.laid_loop_example_s01733_impl_lines) : ∃ bm, LinesAt W bm m := by
  obtain ⟨g, t, cs, fuel, p, hg, ht, hv, hd⟩ := h0
  obtain rfl := Option.some.inj (gLines.symm.trans hg)
  obtain rfl := Option.some.inj (tLines.symm.trans ht)
  rcases open_map Tryd.underlying58 hd with ⟨_, hx⟩ | ⟨bm, es, clock, n, rfl, hcs, hb, _, F, hx⟩
  · simp [Rows.laid_loop_example_s01733_impl_lines] at hx
  simp only [Prod.mk.injEq] at hx
  have hcell : W.cell? ⟨0, 0, none⟩ = some (.map (some bm)) := by
    have := World.var?_cell hg hv 0
    have hc1 : cs = #[.map (some bm)] := by cases cs; simp_all
    rw [hc1] at this
    simpa using this
  have lt1 : 1 < W.heap.size := by
    cases hh : W.heap[1]? with
    | none => simp [World.cell?, hh] at hm
    | some o => exact (Array.getElem?_eq_some_iff.1 hh).1
  refine ⟨bm, hcell, (Array.getElem?_eq_some_iff.1 hb).1, by omega, lt1, hm, fun W' hw s hs => ?_⟩
  have zero : (zeroValue 56).run Tryd.prog W' = .ok (.agg #[.int .i64 0, .string ⟨#[]⟩]) W' := by kernel_rfl
  have hat0 : ∀ zd : DataW Unit, (DataW.map ((es.toList.map (rg Tryd.prog 9 (elemAt (fun _ => ()) Tryd.prog W 0 (fun _ => true) false n 56))).foldr DataW.insert [])).atKey (.string s.data.toList) zd = match linesTab.find? (fun p => p.1 == s.data.toList) with
      | some p => .agg [.lit (.int .i64 p.2.1), .lit (.string p.2.2)]
      | none => zd := fun zd => by rw [← hx.1, tabD, at_list]
  unfold lineK
  rcases fit_lookup_ok (w := W') law9 Tryd.underlying58 zero (hw.trans hb) F (keyOf_string_mk (s := s) Tryd.underlying9 hs) with ⟨hrun, hat⟩ | ⟨v, y, hrun, hRv, hat, _⟩
  · have h1 := (hat0 .nil).symm.trans (hat .nil)
    cases hf : linesTab.find? (fun p => p.1 == s.data.toList) with
    | none => exact hrun
    | some p => rw [hf] at h1; cases h1
  · obtain ⟨a, b, rfl, hy⟩ := elem_is hRv
    have h1 := (hat0 .nil).symm.trans (hat .nil)
    rw [hy] at h1
    cases hf : linesTab.find? (fun p => p.1 == s.data.toList) with
    | none => rw [hf] at h1; cases h1
    | some p =>
      rw [hf] at h1
      simp only [DataW.agg.injEq, List.cons.injEq, DataW.lit.injEq, Lit.int.injEq, Lit.string.injEq, and_true, true_and] at h1
      rw [hrun]
      have e2 : b = ⟨p.2.2.toArray⟩ := by rw [h1.2]
      rw [e2, ← h1.1]
end Go.Proofs.YtkbhcejibcjglaaDoor.M
end

/- Texts of the claim FnExactEncodeEntries, part 31 of 31, joined: MSpecEnc, PureFnExactEncodeEntries, RowFnExactEncodeEntries. No condition beyond those that stand at each. -/
import Derived.Test.YtjneloehdcecnaaZFnExactEncodeEntries30
import Derived.Test.YtjneloehdcecnaaRows
import Derived.WalkKit
import Derived.ProofKit
import Derived.OpenShut
import Derived.ShutString
import Derived.ChangeOld
import Derived.Below
import Derived.SizedLaws
section
/- The specification's EncodeEntries answers what the program's does. No condition. -/
namespace Go.Proofs.Ytjneloehdcecnaa.M
open Go.RowKit Go.Proofs.Ytjneloehdcecnaa.P Go.Proofs.YtjneloehdcecnaaW.PrintWords Go.Proofs.YtjneloehdcecnaaW.PrintLast
set_option linter.unusedVariables false
def nb (a : ByteArray) : List Int := a.data.toList.map fun b => (b.toNat : Int)
theorem nb_append (a b : ByteArray) : nb (a ++ b) = nb a ++ nb b := by
  unfold nb
  rw [ByteArray.data_append]
  simp
theorem nb_length (a : ByteArray) : (nb a).length = a.size := by simp [nb]
theorem strOf_nb (a : ByteArray) : strOfNums (nb a) = a := by
  apply ByteArray.ext
  show ((nb a).map fun n => UInt8.ofNat n.toNat).toArray = a.data
  unfold nb
  rw [List.map_map]
  have : ((fun n : Int => UInt8.ofNat n.toNat) ∘ fun b : UInt8 => (b.toNat : Int)) = id := by
    funext b
    simp
  rw [this]
  simp
theorem bt_nb (a : ByteArray) (i : Nat) (h : i < (nb a).length) : bt a (i : Int) = (nb a)[i] := by
  have hs : i < a.size := by rw [nb_length] at h; exact h
  unfold bt
  rw [dif_pos (by simpa using hs)]
  simp [nb]
  rfl
theorem put2_loop (xs : List Int) (a : ByteArray) (h : xs.length + a.size < 140737488355328) : ∀ d i : Nat, i + d = a.size →
    Ev (fun k => spec_l2Put.l0 k (xs ++ (nb a).take i) a (i : Int)) (xs ++ nb a) := by
  have hn := nb_length a
  intro d
  induction d with
  | zero =>
    intro i hi
    refine Ev.step (f := fun _ => some (xs ++ (nb a).take i)) (fun k => ?_) ?_
    · rw [spec_l2Put.l0, if_neg (by omega)]
    · rw [List.take_of_length_le (by omega)]
      exact Ev.now _
  | succ d ih =>
    intro i hi
    have h2 := ih (i + 1) (by omega)
    rw [take_at (nb a) i (by omega), ← List.append_assoc] at h2
    refine Ev.step (fun k => ?_) h2
    rw [spec_l2Put.l0, if_pos (by omega), if_pos (by omega), if_pos (by rw [List.length_append, List.length_take]; omega), bt_nb a i (by omega), wrap_succ (by omega)]
theorem put2_eq (xs : List Int) (a : ByteArray) (h : xs.length + a.size < 140737488355328) : Ev (fun k => spec_l2Put.f k xs a) (xs ++ nb a) := by
  have := put2_loop xs a h a.size 0 (by omega)
  rw [List.take_zero, List.append_nil] at this
  exact this
theorem ok_end (e : S71) : Ev (fun k => spec_l2EntryOk.j0 k true e.f0 e.f1 e.f2 e.f3) false :=
  Ev.step (f := fun _ => some false) (fun k => by rw [spec_l2EntryOk.j0, if_pos rfl]) (Ev.now _)
theorem specOk_eq (e : S71) : Ev (fun k => spec_l2EntryOk.f k e.f0 e.f1 e.f2 e.f3) (entOk e) := by
  unfold entOk
  by_cases h1 : (e.f0.size : Int) < 1
  · rw [decide_eq_false (show ¬ 1 ≤ e.f0.size by omega)]
    refine Ev.congr (fun k => if_pos h1) ?_
    simpa using ok_end e
  · rw [decide_eq_true (show 1 ≤ e.f0.size by omega)]
    refine Ev.congr (fun k => if_neg h1) ?_
    by_cases h2 : (e.f0.size : Int) > 1000
    · rw [decide_eq_false (show ¬ e.f0.size ≤ 1000 by omega)]
      refine Ev.congr (fun k => if_pos h2) ?_
      simpa using ok_end e
    · rw [decide_eq_true (show e.f0.size ≤ 1000 by omega)]
      refine Ev.congr (fun k => if_neg h2) ?_
      by_cases h3 : e.f1 < 1
      · rw [decide_eq_false (show ¬ 1 ≤ e.f1 by omega)]
        refine Ev.congr (fun k => if_pos h3) ?_
        simpa using ok_end e
      · rw [decide_eq_true (show 1 ≤ e.f1 by omega)]
        refine Ev.congr (fun k => if_neg h3) ?_
        by_cases h4 : e.f1 > 72057594037927935
        · rw [decide_eq_false (show ¬ e.f1 ≤ 72057594037927935 by omega), decide_eq_true h4]
          simpa using ok_end e
        · rw [decide_eq_true (show e.f1 ≤ 72057594037927935 by omega), decide_eq_false h4]
          by_cases h5 : e.f2 = 1
          · refine Ev.step (f := fun _ => some (decide ((e.f3.size : Int) ≤ 4000))) (fun k => ?_) ?_
            · rw [spec_l2EntryOk.j0, if_neg (by simp), if_pos h5]
            · rw [decide_eq_true h5, decide_eq_false (show ¬ e.f2 = 0 by omega)]
              have : decide ((e.f3.size : Int) ≤ 4000) = decide (e.f3.size ≤ 4000) := by
                by_cases c : e.f3.size ≤ 4000
                · rw [decide_eq_true c, decide_eq_true (by omega)]
                · rw [decide_eq_false c, decide_eq_false (by omega)]
              rw [this]
              simpa using Ev.now (decide (e.f3.size ≤ 4000))
          · by_cases h6 : e.f2 = 0
            · refine Ev.step (f := fun _ => some ((e.f3.size : Int) == 0)) (fun k => ?_) ?_
              · rw [spec_l2EntryOk.j0, if_neg (by simp), if_neg h5, if_pos h6]
              · rw [decide_eq_false h5, decide_eq_true h6]
                have : ((e.f3.size : Int) == 0) = decide (e.f3.size = 0) := by
                  by_cases c : e.f3.size = 0
                  · rw [decide_eq_true c, c]; rfl
                  · rw [decide_eq_false c]; simpa using c
                rw [this]
                simpa using Ev.now (decide (e.f3.size = 0))
            · refine Ev.step (f := fun _ => some false) (fun k => ?_) ?_
              · rw [spec_l2EntryOk.j0, if_neg (by simp), if_neg h5, if_neg h6]
              · rw [decide_eq_false h5, decide_eq_false h6]
                simpa using Ev.now false
theorem byte_eq (n : Int) : spec_l2Byte.f n = some (strOfNums [n % 256]) := rfl
theorem specEnc_loop (l : List S71) (P : ByteArray) (hP : P.size ≤ 8) (hl : l.length ≤ 1000) : ∀ d i : Nat, i + d = l.length → (l.take i).all entOk = true →
    Ev (fun k => spec_EncodeEntries.l0 k l (nb (P ++ encL (l.take i))) (i : Int)) (if (l.drop i).all entOk = true then P ++ encL l else ⟨#[]⟩) := by
  intro d
  induction d with
  | zero =>
    intro i hi ha
    refine Ev.step (f := fun _ => some (strOfNums (nb (P ++ encL (l.take i))))) (fun k => ?_) ?_
    · rw [spec_EncodeEntries.l0, if_neg (by omega)]
    · rw [strOf_nb, List.drop_eq_nil_of_le (by omega), List.take_of_length_le (by omega)]
      exact Ev.now _
  | succ d ih =>
    intro i hi ha
    have hlt : i < l.length := by omega
    have hsz := encL_size (l.take i) ha
    have hti : (l.take i).length = i := by rw [List.length_take]; omega
    rw [drop_at l i hlt, List.all_cons]
    by_cases hok : entOk l[i] = true
    · have h2 := ih (i + 1) (by omega) (by rw [take_at l i hlt, List.all_append, ha]; simp [hok])
      rw [hok, Bool.true_and]
      obtain ⟨h0, h3⟩ := entOk_sizes hok
      have p0 := put_size (l[i].f0.size : Int)
      have p1 := put_size l[i].f1
      have p3 := put_size (l[i].f3.size : Int)
      have e1 : nb (P ++ encL (l.take i)) ++ nb (put (l[i].f0.size : Int) ++ l[i].f0 ++ put l[i].f1 ++ strOfNums [l[i].f2 % 256]) ++ nb (put (l[i].f3.size : Int) ++ l[i].f3) = nb (P ++ encL (l.take (i + 1))) := by
        rw [take_at l i hlt, encL_snoc, ← nb_append, ← nb_append]
        congr 1
        unfold entB szd
        simp only [ByteArray.append_assoc]
      have hs1 : (strOfNums [l[i].f2 % 256]).size = 1 := by rw [strOfNums_size]; rfl
      refine Ev.step (f := fun k => (spec_l2EntryOk.f k l[i].f0 l[i].f1 l[i].f2 l[i].f3).bind fun t122 => (if t122 = true then ((spec_PutVarint.f k (l[i].f0.size : Int)).bind fun t124 => (if t124.size + l[i].f0.size ≤ 9223372036854775807 then ((spec_PutVarint.f k l[i].f1).bind fun t127 => (if (t124 ++ l[i].f0).size + t127.size ≤ 9223372036854775807 then ((spec_l2Byte.f l[i].f2).bind fun t129 => (if ((t124 ++ l[i].f0) ++ t127).size + t129.size ≤ 9223372036854775807 then ((spec_l2Put.f k (nb (P ++ encL (l.take i))) (((t124 ++ l[i].f0) ++ t127) ++ t129)).bind fun t130 => ((spec_PutVarint.f k (l[i].f3.size : Int)).bind fun t134 => (if t134.size + l[i].f3.size ≤ 9223372036854775807 then ((spec_l2Put.f k t130 (t134 ++ l[i].f3)).bind fun t136 => (spec_EncodeEntries.l0 k l t136 ((i + 1 : Nat) : Int))) else (none)))) else (none))) else (none))) else (none))) else (some (⟨#[]⟩ : ByteArray)))) (fun k => ?_) ?_
      · rw [spec_EncodeEntries.l0, if_pos (by omega), if_pos (by omega), rd71' l i hlt, wrap_succ (by omega)]
      · refine Ev.bind (specOk_eq l[i]) ?_
        rw [hok]
        refine Ev.congr (fun k => if_pos rfl) (Ev.bind (spec_put _) (Ev.congr (fun k => if_pos (by omega)) (Ev.bind (spec_put _) (Ev.congr (fun k => if_pos (by rw [ByteArray.size_append]; omega)) (Ev.bind (Ev.pure (fun k => byte_eq _)) (Ev.congr (fun k => if_pos (by rw [ByteArray.size_append, ByteArray.size_append]; omega)) (Ev.bind (put2_eq _ _ ?_) (Ev.bind (spec_put _) (Ev.congr (fun k => if_pos (by omega)) (Ev.bind (put2_eq _ _ ?_) ?_))))))))))
        · rw [nb_length, ByteArray.size_append, ByteArray.size_append, ByteArray.size_append, ByteArray.size_append]
          omega
        · rw [List.length_append, nb_length, nb_length, ByteArray.size_append, ByteArray.size_append, ByteArray.size_append, ByteArray.size_append, ByteArray.size_append]
          omega
        · rw [e1]
          exact h2
    · rw [Bool.eq_false_iff.2 hok, Bool.false_and, if_neg (by simp)]
      refine Ev.step (f := fun k => (spec_l2EntryOk.f k l[i].f0 l[i].f1 l[i].f2 l[i].f3).bind fun t122 => (if t122 = true then ((spec_PutVarint.f k (l[i].f0.size : Int)).bind fun t124 => (if t124.size + l[i].f0.size ≤ 9223372036854775807 then ((spec_PutVarint.f k l[i].f1).bind fun t127 => (if (t124 ++ l[i].f0).size + t127.size ≤ 9223372036854775807 then ((spec_l2Byte.f l[i].f2).bind fun t129 => (if ((t124 ++ l[i].f0) ++ t127).size + t129.size ≤ 9223372036854775807 then ((spec_l2Put.f k (nb (P ++ encL (l.take i))) (((t124 ++ l[i].f0) ++ t127) ++ t129)).bind fun t130 => ((spec_PutVarint.f k (l[i].f3.size : Int)).bind fun t134 => (if t134.size + l[i].f3.size ≤ 9223372036854775807 then ((spec_l2Put.f k t130 (t134 ++ l[i].f3)).bind fun t136 => (spec_EncodeEntries.l0 k l t136 ((i + 1 : Nat) : Int))) else (none)))) else (none))) else (none))) else (none))) else (some (⟨#[]⟩ : ByteArray)))) (fun k => ?_) ?_
      · rw [spec_EncodeEntries.l0, if_pos (by omega), if_pos (by omega), rd71' l i hlt, wrap_succ (by omega)]
      · refine Ev.bind (specOk_eq l[i]) ?_
        rw [Bool.eq_false_iff.2 hok]
        exact Ev.pure (fun k => if_neg (by simp))
theorem specEnc_eq (l : List S71) : Ev (fun k => spec_EncodeEntries.f k l) (enc l) := by
  unfold enc
  by_cases h : l.length > 1000
  · rw [if_pos h]
    exact Ev.pure (fun k => if_pos (by omega))
  · rw [if_neg h]
    have p := put_size (l.length : Int)
    refine Ev.congr (fun k => if_neg (by omega)) (Ev.bind (spec_put _) (Ev.bind (put2_eq [] _ (by simp; omega)) ?_))
    have := specEnc_loop l (put (l.length : Int)) p (by omega) l.length 0 (by omega) rfl
    rw [List.drop_zero, List.take_zero] at this
    have e : nb (put (l.length : Int) ++ encL []) = [] ++ nb (put (l.length : Int)) := by
      show nb (put (l.length : Int) ++ (⟨#[]⟩ : ByteArray)) = _
      rw [ba_append_empty, List.nil_append]
    rw [e] at this
    exact this
end Go.Proofs.Ytjneloehdcecnaa.M
end
section
/- The program's EncodeEntries answers as the specification's at every row of entries and leaves it as it was: no condition beyond the law's own bound of 2 to the 20. -/
namespace Go.Proofs.Ytjneloehdcecnaa.Pure
open Go.RowKit Go.Proofs.Ytjneloehdcecnaa.P Go.Proofs.YtjneloehdcecnaaW.PrintWords Go.Proofs.YtjneloehdcecnaaW.PrintLast Go.Proofs.Ytjneloehdcecnaa.M
set_option linter.unusedVariables false
theorem FnExactEncodeEntries (l : List S68) (ok : Ok68s l) : ∃ k, laws_FnExactEncodeEntries.f k l = some true := by
  refine Ev.rounds (r := true) ?_
  refine Ev.bind (szEntryS_eq l 1048576 (by omega) (by omega) ok) ?_
  by_cases c : (weight68 l : Int) ≤ 1048576
  rotate_left
  · rw [if_neg c]
    exact M.Ev.pure (fun k => if_pos (by omega))
  rw [if_pos c]
  have hl : l.length ≤ 1048576 := by unfold weight68 at c; omega
  have hto := toEntryS_eq l hl
  have hl' : (l.map conv).length ≤ 1048576 := by simpa using hl
  refine Ev.congr (fun k => if_neg (by omega)) (Ev.bind hto (Ev.bind (specEnc_eq _) (Ev.bind hto (Ev.bind (M.Ev.pure (fun k => rfl)) (Ev.congr (fun k => if_pos rfl) (Ev.bind hto (Ev.bind (eqEntryS_self _ hl') (M.Ev.pure (fun k => rfl)))))))))
end Go.Proofs.Ytjneloehdcecnaa.Pure
end
section
/- The law FnExactEncodeEntries answers true at every argument that its row lets in. No condition beyond the row's own. -/
namespace Go.Proofs.Ytjneloehdcecnaa.fnExactEncodeEntries
open Go.ChangeShapes Go.WideShapes Go.ChangeAt Go.RowKit Go.Proofs.Ytjneloehdcecnaa.P Go.Proofs.Ytjneloehdcecnaa.M
open Go.ChangeMaps (open_string shut_string)
set_option linter.unusedVariables false
theorem own : ownKnob Try.prog.godebug = none := by kernel_rfl
theorem laidOut : laidOutB Try.prog = true := by kernel_rfl
set_option maxRecDepth 100000 in
theorem lifted (os : Os) (started : os.Started) (H : Type) (enc : TypeId × Value → H) :
    ReturnsInHanded {} Try.checked os 6 .any (Rows.fnExactEncodeEntriesSpec.pre6 enc Try.prog Try.f6 Rows.fnExactEncodeEntriesRow.domain false) (Rows.fnExactEncodeEntriesSpec.post enc Try.prog Try.f6 false true false false) := by
  refine returnsInHanded_of_change_sized (C := Try.checked) own started (by kernel_rfl) Try.func6
    (ChangeSpec.witness6 (enc := enc) (C := Try.checked) false ⟨#[], #[.slice none 0 0], []⟩ 8 (by kernel_rfl) (by kernel_rfl) (by kernel_rfl) (by kernel_rfl)) ?_
  intro W base args ds gs before hval0 hW hcnd hsz0 _
  have hsz : (DataW.weightsEach Try.prog (Try.f6.params.toList ++ Rows.fnExactEncodeEntriesSpec.plain.varTypes Try.prog) (ds ++ gs)).all (· ≤ reachBytes) = true := hsz0
  have hval : ∀ (j : Nat) t v, Try.f6.params[j]? = some t → args[j]? = some v → Value.okWide Try.prog W .any base t v := hval0
  have hW' := hW
  obtain ⟨p, q, hA0, hV, rfl, hfz, hnd⟩ := hW
  have hA : DataW.TrodAll enc Try.prog W 0 (fun _ => true) true Try.f6.params.toList args.toList ds p := hA0
  rw [Try.params6] at hA hval hsz
  obtain ⟨v0, vs0, d0, ds0, p0, q0, hargs, rfl, rfl, h0, r0⟩ := trodAll_cons hA
  obtain ⟨rfl, rfl, rfl⟩ := trodAll_nil r0
  obtain rfl : args = #[v0] := by cases args; simp_all
  obtain ⟨rfl, rfl⟩ := trodVars_none hV
  have k0 := h0
  have lt0 : ∀ x ∈ p0, x.block < W.heap.size := by obtain ⟨m, hm⟩ := k0; exact DataW.trod_lt m _ _ _ hm
  obtain ⟨B0, len0, cap0, rfl⟩ := okWide_slice Try.underlying28 (hval 0 28 v0 rfl rfl)
  obtain ⟨l0, ⟨A0, c0, e0, hc0, hr0⟩, ok0⟩ := open_arg o28 hsz (j := 0) rfl rfl h0
  have e0' : B0 = A0 ∧ len0 = l0.length ∧ cap0 = c0 := by simpa [Value.cells] using e0
  obtain ⟨rfl, rfl, rfl⟩ := e0'
  clear hA0 hval0 hsz0 hsz
  obtain ⟨k, hp⟩ := Pure.FnExactEncodeEntries l0 ok0
  refine (laws_FnExactEncodeEntries.calls k B0 cap0 l0 W hr0 hc0 hp).mono fun e W' ⟨he, bel⟩ => ?_
  subst he
  exact ⟨_, rfl, _, _, _, [], _, [], hW', trodAll_mk1 (shut_bool Try.underlying4 _), (trodAll_cons_mk (Below.trod laidOut (by kernel_rfl) (of_decide_eq_true (by kernel_rfl)) k0 bel lt0) trodAll_mk0), rfl, bel.frame _, fun h => by cases h⟩
theorem over : Rows.fnExactEncodeEntriesRow.holds Try.pinned (OpenSpec.ofChange Rows.fnExactEncodeEntriesSpec) :=
  OpenClaim.holds_of_wide 6 Try.f6 rfl rfl rfl rfl rfl rfl rfl ⟨rfl, rfl, rfl, rfl, rfl⟩ rfl rfl rfl rfl rfl (by kernel_rfl) Try.func6 (by kernel_rfl)
    (of_decide_eq_true (by kernel_rfl)) (by unfold Func.isWrapper; first | (rw [if_pos (by decide +kernel)]; kernel_rfl) | (rw [if_neg (by decide +kernel)]; exact ⟨rfl, rfl⟩))
    (fun os started H enc _ => lifted os started H enc)
theorem proved : Rows.FnExactEncodeEntriesSaid := over
#print axioms proved
end Go.Proofs.Ytjneloehdcecnaa.fnExactEncodeEntries
namespace Go.Proofs.Ytjneloehdcecnaa
/-- The row, under a short name, for the claim. -/
theorem fnExactEncodeEntries_holds : Rows.FnExactEncodeEntriesSaid := fnExactEncodeEntries.proved
end Go.Proofs.Ytjneloehdcecnaa
end

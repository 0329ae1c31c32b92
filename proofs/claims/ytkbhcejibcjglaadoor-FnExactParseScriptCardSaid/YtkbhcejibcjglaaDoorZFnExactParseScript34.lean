/- Texts of the claim FnExactParseScript, part 34 of 34, joined: PlawsheldScript, MEqHeld, MHeldOps, MLawParse, RowFnExactParseScript. No condition beyond those that stand at each. -/
import Derived.Test.YtkbhcejibcjglaaDoorZFnExactParseScript24
import Derived.Test.YtkbhcejibcjglaaDoorZFnExactParseScript33
import Derived.Test.YtkbhcejibcjglaaDoorZFnExactParseScript30
import Derived.Test.YtkbhcejibcjglaaDoorZFnExactParseScript32
import Derived.Test.YtkbhcejibcjglaaDoorZFnExactParseScript29
import Derived.Test.YtkbhcejibcjglaaDoorCards
import Derived.Test.YtkbhcejibcjglaaDoorTie
import Derived.Test.YtkbhcejibcjglaaDoorZFnExactParseScript28
import Derived.HandedShaped
import Derived.LaidMore
import Derived.Lay
import Derived.OpenVars
import Derived.Stop.Joined
import Derived.SevenTiedAt
section
-- Written by a changed copy of the print program, one module a function. Not trusted: Lean checks it.
namespace Go.Proofs.YtkbhcejibcjglaaDoor.P
open Go.RowKit Go.Proofs.YtkbhcejibcjglaaDoorW.PrintWords Go.Proofs.YtkbhcejibcjglaaDoorW.PrintLast Go.Proofs.YtkbhcejibcjglaaDoorW.PrintMore
attribute [local go_sem] max2_int min2_int max_two min_two max_three min_three max_four min_four   -- for this text's walks alone
set_option linter.unusedVariables false
set_option linter.unusedSimpArgs false

/-! ### laws_heldScript: function 8 -/
def laws_heldScript.f (k : Nat) (a0_0 : Int) (l0_1 : List (S38)) (a1 : Int) : Option (Int) := (laws_heldOpS.f k l0_1 a1).bind fun t206 => (if t206 < 0 then (some (-1)) else (some t206))
theorem laws_heldScript.mono : ∀ a0 a1 a2 k, LeO (laws_heldScript.f k a0 a1 a2) (laws_heldScript.f (k + 1) a0 a1 a2) := by
 intro a0 a1 a2 k
 unfold laws_heldScript.f
 repeat' first
   | (with_reducible exact laws_heldOpS.mono _ _ _)
   | (with_reducible exact LeO.refl _)
   | (with_reducible exact LeO.none _)
   | (with_reducible refine LeO.ite ?_ ?_)
   | (with_reducible refine LeO.bind ?_ (fun _ => ?_))
   | exact laws_heldOpS.mono _ _ _
   | exact LeO.none _
   | refine LeO.ite ?_ ?_
   | refine LeO.bind ?_ (fun _ => ?_)
set_option maxHeartbeats 8000000 in
set_option maxRecDepth 100000 in
theorem laws_heldScript.calls (k : Nat) (a0_0 : Int) (A0_1 : Option Addr) (c0_1 : Nat) (l0_1 : List (S38)) (a1 : Int) (r : Int) (w : World) (hr0_1 : Kd.C k38 w A0_1 l0_1.length l0_1) (hc0_1 : l0_1.length ≤ c0_1) (h : laws_heldScript.f k a0_0 l0_1 a1 = some r) :
  Calls Tryd.prog 8 #[.agg #[.int .i64 a0_0, .slice A0_1 l0_1.length c0_1], .int .i64 a1] w fun e w' => e = .returned (.int .i64 r) ∧ Below w.heap.size w w' := by
 have hu24 := Tryd.underlying24
 have HR0_1 := Aside0.mk hr0_1
 have HC0_1 := Aside0.mk hc0_1
 clear hr0_1 hc0_1
 have HB := Aside0.mk (Below.refl w.heap.size w)
 have H : ((laws_heldOpS.f k l0_1 a1).bind fun t206 => (if t206 < 0 then (some (-1)) else (some t206))) = some r := h
 clear h
 replace H := Option.bind_eq_some_iff.mp H
 obtain ⟨t206, A30, H⟩ := H
 replace H : (if t206 < 0 then (some (-1)) else (some t206)) = some r := H
 have A3 := Aside0.mk A30
 clear A30
 by_cases c4 : t206 < 0
 ·rw [if_pos c4] at H
  have c4b0 : decide (t206 < 0) = true := decide_eq_true c4
  clear c4
  obtain rfl := Option.some.inj H
  go_enter Tryd.func8, Tryd.ntmps8
  go_wp2_with (first | ((with_reducible refine gate_dst (N := 2) rfl ?_); refine box_event ?hg (N := 2) ?hd (cs := #[.int .i64 a0_0, .slice A0_1 l0_1.length c0_1]) (t := 24) ?hr ?_; (case hd => rfl); (case hg => rfl); (case hr => first | (go_simp; done) | (go_simp; rfl)); intro gb205 hg w5 hbox hb; have n0_ := Aside0.mk (below_step (by repeat (first | (with_reducible first | exact HB.out | apply below_alloc | apply pw_below_drewN | apply below_drew1) | exact HB.out)) hb); have n1_ := Aside0.mk (hbox); have n2_ := Aside0.mk ((by rw [hg]; exact (below_size (by repeat (first | (with_reducible first | exact HB.out | apply below_alloc | apply pw_below_drewN | apply below_drew1) | exact HB.out))) : w.heap.size ≤ gb205)); have n3_ := Aside0.mk ((by rw [hg]; exact (below_size (by repeat (first | (with_reducible first | exact HB.out | apply below_alloc | apply pw_below_drewN | apply below_drew1) | exact HB.out))) : w.heap.size ≤ gb205)); clear HB; have HB := n0_; have BK205 := n1_; have GW205 := n2_; have GE205 := n3_; clear n0_ n1_ n2_ n3_; clear hb hbox hg; have hcz6_0 : w5.cell? ⟨gb205, 0, none⟩ = some (.int .i64 a0_0) := (blk_cell BK205.out 0).trans rfl; have hcz6_1 : w5.cell? ⟨gb205, 1, none⟩ = some (.slice A0_1 l0_1.length c0_1) := (blk_cell BK205.out 1).trans rfl; have hfz6_0 := blk_frozen BK205.out 0; have hfz6_1 := blk_frozen BK205.out 1) | ((with_reducible refine gate_callee (f := 19) rfl ?_); refine goesL_ (some 8) rfl rfl Tryd.func19 (by kernel_rfl) rfl #[.slice A0_1 l0_1.length c0_1, .int .i64 a1] rfl (by (try simp only [List.map_toArray, List.map_cons, List.map_nil]); first | done | rfl | (simp only [List.length_drop, List.length_take]; rfl)) ?_; (with_reducible refine (laws_heldOpS.calls k _ _ l0_1 a1 t206 _ ?side1 ?side2 A3.out).mono ?_); (case side1 => repeat (first | exact (Kd.C_below HR0_1.out HB.out) | (with_reducible refine Kd.C_alloc ?_ _) | (with_reducible refine Kd.C_drewN ?_ _) | (with_reducible refine Kd.C_drew ?_))); (case side2 => exact HC0_1.out); rintro e w7 ⟨rfl, hb⟩; refine ⟨_, rfl, ?_⟩; have n0_ := Aside0.mk (blk_below (g := gb205) (o := .cells #[.int .i64 a0_0, .slice A0_1 l0_1.length c0_1] 24 (0, 0)) (by (with_reducible repeat (first | refine blk_drewN ?_ _ | refine blk_drew ?_ | refine blk_alloc ?_ _)); exact BK205.out) hb); have n1_ := Aside0.mk (below_step (by repeat (first | (with_reducible first | exact HB.out | apply below_alloc | apply pw_below_drewN | apply below_drew1 | refine below_set ?_ GE205.out) | exact HB.out)) hb); clear BK205; clear HB; have BK205 := n0_; have HB := n1_; clear n0_ n1_; (try clear hb); (try clear hb2); (try clear hk); (try clear hi)))
  go_ret
  exact ⟨by first | rfl | (simp [errW_none, errW_some] <;> rfl) | (simp [*, errW_none, errW_some] <;> rfl), by repeat (first | (with_reducible first | exact HB.out | apply below_alloc | apply pw_below_drewN | apply below_drew1 | refine below_set ?_ GE205.out) | exact HB.out)⟩
 ·rw [if_neg c4] at H
  have c4b0 : decide (t206 < 0) = false := decide_eq_false c4
  clear c4
  obtain rfl := Option.some.inj H
  go_enter Tryd.func8, Tryd.ntmps8
  go_wp2_with (first | ((with_reducible refine gate_dst (N := 2) rfl ?_); refine box_event ?hg (N := 2) ?hd (cs := #[.int .i64 a0_0, .slice A0_1 l0_1.length c0_1]) (t := 24) ?hr ?_; (case hd => rfl); (case hg => rfl); (case hr => first | (go_simp; done) | (go_simp; rfl)); intro gb205 hg w8 hbox hb; have n0_ := Aside0.mk (below_step (by repeat (first | (with_reducible first | exact HB.out | apply below_alloc | apply pw_below_drewN | apply below_drew1) | exact HB.out)) hb); have n1_ := Aside0.mk (hbox); have n2_ := Aside0.mk ((by rw [hg]; exact (below_size (by repeat (first | (with_reducible first | exact HB.out | apply below_alloc | apply pw_below_drewN | apply below_drew1) | exact HB.out))) : w.heap.size ≤ gb205)); have n3_ := Aside0.mk ((by rw [hg]; exact (below_size (by repeat (first | (with_reducible first | exact HB.out | apply below_alloc | apply pw_below_drewN | apply below_drew1) | exact HB.out))) : w.heap.size ≤ gb205)); clear HB; have HB := n0_; have BK205 := n1_; have GW205 := n2_; have GE205 := n3_; clear n0_ n1_ n2_ n3_; clear hb hbox hg; have hcz9_0 : w8.cell? ⟨gb205, 0, none⟩ = some (.int .i64 a0_0) := (blk_cell BK205.out 0).trans rfl; have hcz9_1 : w8.cell? ⟨gb205, 1, none⟩ = some (.slice A0_1 l0_1.length c0_1) := (blk_cell BK205.out 1).trans rfl; have hfz9_0 := blk_frozen BK205.out 0; have hfz9_1 := blk_frozen BK205.out 1) | ((with_reducible refine gate_callee (f := 19) rfl ?_); refine goesL_ (some 8) rfl rfl Tryd.func19 (by kernel_rfl) rfl #[.slice A0_1 l0_1.length c0_1, .int .i64 a1] rfl (by (try simp only [List.map_toArray, List.map_cons, List.map_nil]); first | done | rfl | (simp only [List.length_drop, List.length_take]; rfl)) ?_; (with_reducible refine (laws_heldOpS.calls k _ _ l0_1 a1 t206 _ ?side1 ?side2 A3.out).mono ?_); (case side1 => repeat (first | exact (Kd.C_below HR0_1.out HB.out) | (with_reducible refine Kd.C_alloc ?_ _) | (with_reducible refine Kd.C_drewN ?_ _) | (with_reducible refine Kd.C_drew ?_))); (case side2 => exact HC0_1.out); rintro e w10 ⟨rfl, hb⟩; refine ⟨_, rfl, ?_⟩; have n0_ := Aside0.mk (blk_below (g := gb205) (o := .cells #[.int .i64 a0_0, .slice A0_1 l0_1.length c0_1] 24 (0, 0)) (by (with_reducible repeat (first | refine blk_drewN ?_ _ | refine blk_drew ?_ | refine blk_alloc ?_ _)); exact BK205.out) hb); have n1_ := Aside0.mk (below_step (by repeat (first | (with_reducible first | exact HB.out | apply below_alloc | apply pw_below_drewN | apply below_drew1 | refine below_set ?_ GE205.out) | exact HB.out)) hb); clear BK205; clear HB; have BK205 := n0_; have HB := n1_; clear n0_ n1_; (try clear hb); (try clear hb2); (try clear hk); (try clear hi)))
  go_ret
  exact ⟨by first | rfl | (simp [errW_none, errW_some] <;> rfl) | (simp [*, errW_none, errW_some] <;> rfl), by repeat (first | (with_reducible first | exact HB.out | apply below_alloc | apply pw_below_drewN | apply below_drew1 | refine below_set ?_ GE205.out) | exact HB.out)⟩

end Go.Proofs.YtkbhcejibcjglaaDoor.P
end
section
/- The laws' comparing of operations with themselves, and the marks found again. Condition: at most 2 to the 20 of them. -/
namespace Go.Proofs.YtkbhcejibcjglaaDoor.M
open Go.RowKit Go.Proofs.YtkbhcejibcjglaaDoor.P Go.Proofs.YtkbhcejibcjglaaDoorW.PrintWords Go.Proofs.YtkbhcejibcjglaaDoorW.PrintLast Go.Proofs.YtkbhcejibcjglaaDoorW.PrintMore
set_option linter.unusedVariables false
theorem eqEntry_self (x : S50) : laws_eqEntry.f x.f0 x.f1 x.f2 x.f3 x.f0 x.f1 x.f2 x.f3 = some true := by
  unfold laws_eqEntry.f
  rw [if_pos rfl, if_pos rfl, if_pos rfl, if_pos rfl]
theorem eqEntryS_loop (l : List S50) (hl : l.length ≤ 1048577) : ∀ d i : Nat, i + d = l.length → Ev (fun k => laws_eqEntryS.l0 k l l (i : Int)) true := by
  intro d
  induction d with
  | zero =>
    intro i hi
    refine Ev.step (f := fun _ => some true) (fun k => ?_) (Ev.now _)
    rw [laws_eqEntryS.l0, if_neg (by omega)]
  | succ d ih =>
    intro i hi
    refine Ev.step (fun k => ?_) (ih (i + 1) (by omega))
    rw [laws_eqEntryS.l0, if_pos (by omega), if_pos (by omega), if_pos (by omega), eqEntry_self]
    simp only [Option.bind_some]
    rw [if_pos trivial, wrap_succ (by omega)]
theorem eqEntryS_self (l : List S50) (hl : l.length ≤ 1048577) : Ev (fun k => laws_eqEntryS.f k l l) true := by
  refine Ev.congr (fun k => ?_) (eqEntryS_loop l hl l.length 0 (by omega))
  unfold laws_eqEntryS.f
  rw [if_pos rfl]
  rfl
theorem eqIntS_loop (l : List Int) (hl : l.length ≤ 1048577) : ∀ d i : Nat, i + d = l.length → Ev (fun k => laws_eqIntS.l0 k l l (i : Int)) true := by
  intro d
  induction d with
  | zero =>
    intro i hi
    refine Ev.step (f := fun _ => some true) (fun k => ?_) (Ev.now _)
    rw [laws_eqIntS.l0, if_neg (by omega)]
  | succ d ih =>
    intro i hi
    refine Ev.step (fun k => ?_) (ih (i + 1) (by omega))
    rw [laws_eqIntS.l0, if_pos (by omega), if_pos (by omega), if_pos (by omega), if_pos rfl, wrap_succ (by omega)]
theorem eqIntS_self (l : List Int) (hl : l.length ≤ 1048577) : Ev (fun k => laws_eqIntS.f k l l) true := by
  refine Ev.congr (fun k => ?_) (eqIntS_loop l hl l.length 0 (by omega))
  unfold laws_eqIntS.f
  rw [if_pos rfl]
  rfl
theorem eqOp_self (x : S38) (h4 : x.f4.length ≤ 1048577) (h5 : x.f5.length ≤ 1048577) : Ev (fun k => laws_eqOp.f k x.f0 x.f1 x.f2 x.f3 x.f4 x.f5 x.f0 x.f1 x.f2 x.f3 x.f4 x.f5) true := by
  refine Ev.congr (fun k => (if_pos rfl).trans ((if_pos rfl).trans ((if_pos rfl).trans (if_pos rfl)))) ?_
  exact Ev.bind (eqEntryS_self _ h4) (Ev.congr (fun k => if_pos rfl) (Ev.bind (eqIntS_self _ h5) (Ev.pure (fun k => if_pos rfl))))
theorem eqOpS_loop (l : List S38) (hl : l.length ≤ 1048577) (hx : ∀ x ∈ l, x.f4.length ≤ 1048577 ∧ x.f5.length ≤ 1048577) : ∀ d i : Nat, i + d = l.length → Ev (fun k => laws_eqOpS.l0 k l l (i : Int)) true := by
  intro d
  induction d with
  | zero =>
    intro i hi
    refine Ev.step (f := fun _ => some true) (fun k => ?_) (Ev.now _)
    rw [laws_eqOpS.l0, if_neg (by omega)]
  | succ d ih =>
    intro i hi
    have hlt : i < l.length := by omega
    have hb := hx l[i] (List.getElem_mem hlt)
    have he := eqOp_self l[i] hb.1 hb.2
    rw [← rd38 l i hlt] at he
    refine Ev.step (f := fun k => (laws_eqOp.f k (rd_T38 l (i : Int)).f0 (rd_T38 l (i : Int)).f1 (rd_T38 l (i : Int)).f2 (rd_T38 l (i : Int)).f3 (rd_T38 l (i : Int)).f4 (rd_T38 l (i : Int)).f5 (rd_T38 l (i : Int)).f0 (rd_T38 l (i : Int)).f1 (rd_T38 l (i : Int)).f2 (rd_T38 l (i : Int)).f3 (rd_T38 l (i : Int)).f4 (rd_T38 l (i : Int)).f5).bind fun t => if t = true then laws_eqOpS.l0 k l l ((i + 1 : Nat) : Int) else some false) (fun k => ?_) (Ev.bind he (Ev.congr (fun k => if_pos rfl) (ih (i + 1) (by omega))))
    rw [laws_eqOpS.l0, if_pos (by omega), if_pos (by omega), if_pos (by omega), wrap_succ (by omega)]
theorem eqScript_self (q : Int) (l : List S38) (hl : l.length ≤ 1048577) (hx : ∀ x ∈ l, x.f4.length ≤ 1048577 ∧ x.f5.length ≤ 1048577) : Ev (fun k => laws_eqScript.f k q l q l) true := by
  have h : Ev (fun k => laws_eqOpS.f k l l) true := by
    refine Ev.congr (fun k => ?_) (eqOpS_loop l hl hx l.length 0 (by omega))
    unfold laws_eqOpS.f
    rw [if_pos rfl]
    rfl
  exact Ev.congr (fun k => if_pos rfl) (Ev.bind h (Ev.pure (fun k => if_pos rfl)))
theorem heldIntS_loop (b : Nat) (hb : b ≤ 1099511627776) (l : List Int) (hl : l.length ≤ 1048577) : ∀ d i : Nat, i + d = l.length →
    Ev (fun j => laws_heldIntS.l0 j (markInts b l) ((b + i : Nat) : Int) (i : Int)) ((b + l.length : Nat) : Int) := by
  intro d
  induction d with
  | zero =>
    intro i hi
    refine Ev.step (f := fun _ => some ((b + l.length : Nat) : Int)) (fun j => ?_) (Ev.now _)
    rw [laws_heldIntS.l0, if_neg (by rw [markInts_length]; omega), show i = l.length by omega]
  | succ d ih =>
    intro i hi
    have hlt : i < l.length := by omega
    have hm : (markInts b (l.take i)).length = i := by rw [markInts_length, List.length_take]; omega
    have e0 : markInts b l = markInts b (l.take i) ++ ((b + i : Nat) : Int) :: markInts (b + i + 1) (l.drop (i + 1)) := by
      have : l = l.take i ++ l[i] :: l.drop (i + 1) := by rw [← drop_at l i hlt, List.take_append_drop]
      conv => lhs; rw [this, markInts_append, List.length_take, Nat.min_eq_left (Nat.le_of_lt hlt)]
      rfl
    have er : rd (markInts b l) (i : Int) = ((b + i : Nat) : Int) := by
      unfold rd
      rw [e0, Int.toNat_natCast, List.getD_eq_getElem?_getD, List.getElem?_append_right (by omega), hm, Nat.sub_self]
      rfl
    have p1 : (i : Int) < ((markInts b l).length : Int) := by rw [markInts_length]; omega
    have p2 : (0 : Int) ≤ (i : Int) := by omega
    have w1 : wrap64 (((b + i : Nat) : Int) + 1) = ((b + (i + 1) : Nat) : Int) := wrap_succ (by omega)
    have w2 : wrap64 ((i : Int) + 1) = ((i + 1 : Nat) : Int) := wrap_succ (by omega)
    refine Ev.step (fun j => ?_) (ih (i + 1) (by omega))
    rw [laws_heldIntS.l0, if_pos p1, if_pos p2, er, if_pos rfl, w1, w2]
theorem heldIntS_from (b : Nat) (hb : b ≤ 1099511627776) (l : List Int) (hl : l.length ≤ 1048577) : Ev (fun j => laws_heldIntS.f j (markInts b l) (b : Int)) ((b + l.length : Nat) : Int) := heldIntS_loop b hb l hl l.length 0 (by omega)
theorem heldEntryS_loop (b : Nat) (hb : b ≤ 1099511627776) (l : List S50) (hl : l.length ≤ 1048577) : ∀ d i : Nat, i + d = l.length →
    Ev (fun j => laws_heldEntryS.l0 j (marked b l) ((b + 4 * i : Nat) : Int) (i : Int)) ((b + 4 * l.length : Nat) : Int) := by
  intro d
  induction d with
  | zero =>
    intro i hi
    refine Ev.step (f := fun _ => some ((b + 4 * l.length : Nat) : Int)) (fun j => ?_) (Ev.now _)
    rw [laws_heldEntryS.l0, if_neg (by rw [marked_length]; omega), show i = l.length by omega]
  | succ d ih =>
    intro i hi
    have hlt : i < l.length := by omega
    have hm : (marked b (l.take i)).length = i := by rw [marked_length, List.length_take]; omega
    have e0 : marked b l = marked b (l.take i) ++ mark1 (b + 4 * i) :: marked (b + 4 * i + 4) (l.drop (i + 1)) := by
      have : l = l.take i ++ l[i] :: l.drop (i + 1) := by rw [← drop_at l i hlt, List.take_append_drop]
      conv => lhs; rw [this, marked_append, List.length_take, Nat.min_eq_left (Nat.le_of_lt hlt)]
      rfl
    have p1 : (i : Int) < ((marked b l).length : Int) := by rw [marked_length]; omega
    have p2 : (0 : Int) ≤ (i : Int) := by omega
    have m0 : b + 4 * i ≤ 1099516000000 := by omega
    have m1 : b + 4 * i ≤ 4611686018427387904 := Nat.le_trans m0 (by decide)
    have m3 : b + 4 * i + 3 ≤ 4611686018427387904 := Nat.le_trans (Nat.add_le_add_right m0 3) (by decide)
    have h2 := ih (i + 1) (by omega)
    have e4 : wrap64 ((i : Int) + 1) = ((i + 1 : Nat) : Int) := wrap_succ (by omega)
    have e1 : wrap64 (((b + 4 * i : Nat) : Int) + 1) = ((b + 4 * i + 1 : Nat) : Int) := wrap_succ (Nat.lt_of_le_of_lt m0 (by decide))
    have e2 : wrap64 (((b + 4 * i + 1 : Nat) : Int) + 1) = ((b + 4 * i + 2 : Nat) : Int) := wrap_succ (Nat.lt_of_le_of_lt (Nat.add_le_add_right m0 1) (by decide))
    have e3 : wrap64 (((b + 4 * i + 2 : Nat) : Int) + 1) = ((b + 4 * i + 3 : Nat) : Int) := wrap_succ (Nat.lt_of_le_of_lt (Nat.add_le_add_right m0 2) (by decide))
    have e3' : wrap64 (((b + 4 * i + 3 : Nat) : Int) + 1) = ((b + 4 * (i + 1) : Nat) : Int) := wrap_succ (Nat.lt_of_le_of_lt (Nat.add_le_add_right m0 3) (by decide))
    have er : rd_T50 (marked b l) (i : Int) = ⟨mt (b + 4 * i), ((b + 4 * i + 1 : Nat) : Int), ((b + 4 * i + 2 : Nat) : Int), mt (b + 4 * i + 3)⟩ := by rw [e0]; exact rd_here _ _ _ i hm
    refine Ev.step (f := fun j => ((laws_markText.f j ((b + 4 * i : Nat) : Int)).bind fun t241 => (if (mt (b + 4 * i)).toList = t241.toList then ((laws_markText.f j ((b + 4 * i + 3 : Nat) : Int)).bind fun t243 => (if (mt (b + 4 * i + 3)).toList = t243.toList then (laws_heldEntryS.l0 j (marked b l) ((b + 4 * (i + 1) : Nat) : Int) ((i + 1 : Nat) : Int)) else (some (-1)))) else (some (-1))))) (fun j => ?_) (Ev.bind (mt_eq (b + 4 * i) m1) (Ev.congr (fun j => if_pos rfl) (Ev.bind (mt_eq (b + 4 * i + 3) m3) (Ev.congr (fun j => if_pos rfl) h2))))
    rw [laws_heldEntryS.l0, if_pos p1]
    simp only [e1, e2, e3, e3', e4, er, p2, if_true]
theorem heldEntryS_from (b : Nat) (hb : b ≤ 1099511627776) (l : List S50) (hl : l.length ≤ 1048577) : Ev (fun j => laws_heldEntryS.f j (marked b l) (b : Int)) ((b + 4 * l.length : Nat) : Int) := heldEntryS_loop b hb l hl l.length 0 (by omega)
end Go.Proofs.YtkbhcejibcjglaaDoor.M
end
section
/- What markOpS writes heldOpS finds. Condition: at most 2 to the 20 marks. -/
namespace Go.Proofs.YtkbhcejibcjglaaDoor.M
open Go.RowKit Go.Proofs.YtkbhcejibcjglaaDoor.P Go.Proofs.YtkbhcejibcjglaaDoorW.PrintWords Go.Proofs.YtkbhcejibcjglaaDoorW.PrintLast Go.Proofs.YtkbhcejibcjglaaDoorW.PrintMore
set_option linter.unusedVariables false
theorem markOps_at (l : List S38) : ∀ (i : Nat) (h : i < l.length) (k : Nat), (markOps k l)[i]? = some (markOp (k + allMarks (l.take i)) l[i]) := by
  induction l with
  | nil => intro i h; exact absurd h (by simp)
  | cons x l ih =>
    intro i h k
    cases i with
    | zero => rfl
    | succ i =>
      show (markOps (k + opMarks x) l)[i]? = _
      rw [ih i (by simpa using h) (k + opMarks x)]
      have e : k + opMarks x + allMarks (l.take i) = k + allMarks ((x :: l).take (i + 1)) := by
        unfold allMarks
        rw [List.take_succ_cons, List.map_cons, List.sum_cons]
        omega
      rw [e]
      rfl
theorem neg_cast {n : Nat} : ¬ (((n : Nat) : Int) < 0) := by omega
/-- One operation's marks, found. -/
theorem heldOp_step (b : Nat) (x : S38) (hb : b + opMarks x ≤ 1048577) (r : Int) (g : Nat → Int → Option Int) (hg : Ev (fun j => g j ((b + opMarks x : Nat) : Int)) r) :
    Ev (fun k => if (markOp b x).f0 = (b : Int) then ((laws_markText.f k (wrap64 ((b : Int) + 1))).bind fun t197 => (if ((markOp b x).f1).toList = t197.toList then ((laws_markText.f k (wrap64 ((wrap64 ((b : Int) + 1)) + 1))).bind fun t199 => (if ((markOp b x).f2).toList = t199.toList then (if ((markOp b x).f3) = (wrap64 ((wrap64 ((wrap64 ((b : Int) + 1)) + 1)) + 1)) then ((laws_heldEntryS.f k ((markOp b x).f4) (wrap64 ((wrap64 ((wrap64 ((wrap64 ((b : Int) + 1)) + 1)) + 1)) + 1))).bind fun t202 => (if t202 < 0 then (some (-1)) else ((laws_heldIntS.f k ((markOp b x).f5) t202).bind fun t204 => (if t204 < 0 then (some (-1)) else g k t204)))) else (some (-1))) else (some (-1)))) else (some (-1)))) else (some (-1))) r := by
  have ho : opMarks x = 4 + 4 * x.f4.length + x.f5.length := rfl
  obtain ⟨k1, k2, k3, k4, k5, k6, hks, hbd, hw1, hw2, hw3, hw4, hm1, hm2⟩ := mark_names b x.f4.length x.f5.length (opMarks x) ho hb
  obtain ⟨e1, e2, e3, e4, e5, e6, e7⟩ := hks
  have hf : markOp b x = ⟨(b : Int), mt k1, mt k2, (k3 : Int), marked k4 x.f4, markInts k5 x.f5⟩ := by
    subst e1 e2 e3 e4 e5
    rfl
  rw [hf, hw1, hw2, hw3, hw4]
  have hE := heldEntryS_from k4 hbd.2.1 x.f4 hbd.2.2.2.1
  have hI := heldIntS_from k5 hbd.2.2.1 x.f5 hbd.2.2.2.2
  rw [e5] at hE
  rw [e6, e7] at hI
  refine Ev.congr (fun k => if_pos rfl) ?_
  refine Ev.bind (mt_eq k1 hm1) (Ev.congr (fun k => if_pos rfl) ?_)
  refine Ev.bind (mt_eq k2 hm2) (Ev.congr (fun k => (if_pos rfl).trans (if_pos rfl)) ?_)
  refine Ev.bind hE (Ev.congr (fun k => if_neg neg_cast) ?_)
  exact Ev.bind hI (Ev.congr (fun k => if_neg neg_cast) hg)
theorem heldOps_loop (l : List S38) (hn : allMarks l ≤ 1048576) (hl : l.length ≤ 1048577) : ∀ d i : Nat, i + d = l.length →
    Ev (fun j => laws_heldOpS.l0 j (markOps 1 l) ((1 + allMarks (l.take i) : Nat) : Int) (i : Int)) ((1 + allMarks l : Nat) : Int) := by
  intro d
  induction d with
  | zero =>
    intro i hi
    have p1 : ¬ ((i : Int) < ((markOps 1 l).length : Int)) := by rw [markOps_length]; omega
    rw [List.take_of_length_le (by omega)]
    exact Ev.step (f := fun _ => some ((1 + allMarks l : Nat) : Int)) (fun j => by rw [laws_heldOpS.l0, if_neg p1]) (Ev.now _)
  | succ d ih =>
    intro i hi
    have hlt : i < l.length := by omega
    have h2 := ih (i + 1) (by omega)
    have p1 : (i : Int) < ((markOps 1 l).length : Int) := by rw [markOps_length]; omega
    have p2 : (0 : Int) ≤ (i : Int) := by omega
    have w2 : wrap64 ((i : Int) + 1) = ((i + 1 : Nat) : Int) := wrap_succ (by omega)
    have hs := mark_sum rfl (allMarks_take l i hlt) (allMarks_le l (i + 1)) hn
    have er : rd_T38 (markOps 1 l) (i : Int) = markOp (1 + allMarks (l.take i)) l[i] := by
      unfold rd_T38
      rw [Int.toNat_natCast, List.getD_eq_getElem?_getD, markOps_at l i hlt 1]
      rfl
    rw [← hs.1] at h2
    refine Ev.step (fun j => ?_) (heldOp_step (1 + allMarks (l.take i)) l[i] hs.2 _ (fun j t => laws_heldOpS.l0 j (markOps 1 l) t ((i + 1 : Nat) : Int)) h2)
    rw [laws_heldOpS.l0, if_pos p1, if_pos p2, er, w2]
theorem heldScript_eq (q : Int) (l : List S38) (hn : allMarks l ≤ 1048576) (hl : l.length ≤ 1048577) : Ev (fun k => laws_heldScript.f k q (markOps 1 l) 1) ((1 + allMarks l : Nat) : Int) := by
  have h := heldOps_loop l hn hl l.length 0 (by omega)
  rw [List.take_zero] at h
  exact Ev.bind h (Ev.pure (fun k => if_neg neg_cast))
end Go.Proofs.YtkbhcejibcjglaaDoor.M
end
section
/- The law FnExactParseScript, walked. Condition: the world holds the program's table. -/
namespace Go.Proofs.YtkbhcejibcjglaaDoor.M
open Go.RowKit Go.Proofs.YtkbhcejibcjglaaDoor.P Go.Proofs.YtkbhcejibcjglaaDoorW.PrintWords Go.Proofs.YtkbhcejibcjglaaDoorW.PrintLast Go.Proofs.YtkbhcejibcjglaaDoorW.PrintMore
set_option linter.unusedVariables false
set_option linter.unusedSimpArgs false
theorem parse_long (s : ByteArray) (w : World) (h : 1048576 < s.size) (hm : s.size ≤ maxLen) : Calls Tryd.prog 3 #[.string s] w fun e w' => e = .returned (.bool true) ∧ Below w.heap.size w w' := by
  unfold maxLen at hm
  have t0 : decide ((1048576 : Int) < (s.size : Int)) = true := decide_eq_true (by omega)
  have t1 : decide (1048576 < s.size) = true := decide_eq_true h
  clear h
  go_enter Tryd.func3, Tryd.ntmps3
  go_wp2
  go_ret
  exact ⟨rfl, Below.refl _ _⟩
theorem box_cells {W : World} {b : Nat} {q : Int} {v : Value} (h : W.heap[b]? = some (.cells #[.int .i64 q, v] 24 (0, 0))) : W.cell? ⟨b, 0, none⟩ = some (.int .i64 q) ∧ W.cell? ⟨b, 1, none⟩ = some v := ⟨(blk_cell h 0).trans rfl, (blk_cell h 1).trans rfl⟩
set_option maxHeartbeats 8000000 in
set_option maxRecDepth 100000 in
theorem parse_short (s : ByteArray) (w : World) (bm : Nat) (m : Int) (hA : LinesAt w bm m) (h : s.size ≤ 1048576) : Calls Tryd.prog 3 #[.string s] w fun e w' => e = .returned (.bool true) ∧ Below w.heap.size w w' := by
  have hu24 := Tryd.underlying24
  have t0 : decide ((1048576 : Int) < (s.size : Int)) = false := decide_eq_false (by omega)
  have t1 : decide (1048576 < s.size) = false := decide_eq_false (by omega)
  obtain ⟨q, l, c, hq⟩ : ∃ q l c, scriptOf s = (q, l, c) := ⟨_, _, _, rfl⟩
  have HM := script_marks s
  rw [hq] at HM
  replace HM : allMarks l ≤ 1048576 ∧ l.length ≤ 2000 := HM
  have HMK := Aside0.mk (show allMarks l ≤ 1048576 from HM.1)
  have HLL := Aside0.mk (show l.length ≤ 2000 from HM.2)
  have HSP := Aside0.mk (show ∀ W : World, Calls Tryd.prog 4 #[.string s] W (ScriptPost (q, l, c) W) from fun W => by have := specScript_call s W h; rwa [hq] at this)
  have HIP := Aside0.mk (show ∀ W : World, LinesAt W bm m → Calls Tryd.prog 5 #[.string s] W (ScriptPost (q, l, c) W) from fun W hW => by have := implScript_call s W bm m hW h; rwa [hq] at this)
  obtain ⟨ke, he⟩ := Ev.rounds (eqScript_self q l (by have := HM.2; omega) (fun x hx => by have h1 := marks_each l x hx; have := HM.1; exact ⟨by omega, by omega⟩))
  have HE := Aside0.mk he
  obtain ⟨kh, hh⟩ := Ev.rounds (heldScript_eq q l HM.1 (by have := HM.2; omega))
  have HML := Aside0.mk (markOps_length l 1)
  obtain ⟨mr, hmr⟩ : ∃ mr : Int, ((1 + allMarks l : Nat) : Int) = mr := ⟨_, rfl⟩
  rw [hmr] at hh
  have HH := Aside0.mk hh
  have HMR := Aside0.mk hmr
  have hmr0 : decide (mr < 0) = false := decide_eq_false (by omega)
  have HA := Aside0.mk hA
  clear hq HM h he hh hmr hA
  go_enter Tryd.func3, Tryd.ntmps3
  go_wp2_with fail
  refine (HSP.out _).mono ?_
  intro e w1 hpost
  obtain ⟨v3, rfl, ho, hb⟩ := hpost
  obtain ⟨A3, c3, h3⟩ := Kd.S_slice ho
  replace h3 : v3 = .slice A3 l.length c3 := h3
  subst h3
  have B1 := Aside0.mk (below_alloc hb (.cells #[.int .i64 q, .slice A3 l.length c3] 24))
  have X3 := Aside0.mk (heap_alloc_new w1 (.cells #[.int .i64 q, .slice A3 l.length c3] 24))
  have HW0 := Aside0.mk (show Kd.S k38 38 (w1.alloc (.cells #[.int .i64 q, .slice A3 l.length c3] 24)) w.heap.size (fun k => k < w1.heap.size + 1) (.slice A3 l.length c3) l from
    Kd.S_alloc (Kd.S_mono (Kd.S_bound ho) (fun k hk => Nat.lt_succ_of_lt hk.2.2.1)) _)
  clear ho hb
  go_wp2_with fail
  refine (HIP.out _ (HA.out.below B1.out)).mono ?_
  intro e w2 hpost
  obtain ⟨v5, rfl, ho, hb⟩ := hpost
  rw [World.size_alloc] at ho
  obtain ⟨A5, c5, h5⟩ := Kd.S_slice ho
  replace h5 : v5 = .slice A5 l.length c5 := h5
  subst h5
  have hbb := below_alloc (Below.refl w2.heap.size w2) (.cells #[.int .i64 q, .slice A5 l.length c5] 24)
  have B2 := Aside0.mk (below_step (below_step B1.out hb) hbb)
  have X3b := Aside0.mk ((hbb.block _ (blk_lt ((hb.block _ (blk_lt X3.out)).trans X3.out))).trans ((hb.block _ (blk_lt X3.out)).trans X3.out))
  have X5 := Aside0.mk (heap_alloc_new w2 (.cells #[.int .i64 q, .slice A5 l.length c5] 24))
  have HW1 := Aside0.mk (Kd.S_below (Kd.S_below HW0.out hb) hbb)
  have hle : w.heap.size ≤ w1.heap.size + 1 := by have := B1.out.size; rwa [World.size_alloc] at this
  have h12 : w1.heap.size + 1 ≤ w2.heap.size := by have := hb.size; rwa [World.size_alloc] at this
  have H12 := Aside0.mk h12
  have HG := Aside0.mk (show Kd.S k38 38 (w2.alloc (.cells #[.int .i64 q, .slice A5 l.length c5] 24)) w.heap.size (fun k => w1.heap.size + 1 ≤ k ∧ k < w2.heap.size) (.slice A5 l.length c5) l from
    Kd.S_below (Kd.S_lower (Kd.S_mono (Kd.S_bound ho) (fun k hk => ⟨hk.2.1, hk.2.2.1⟩)) hle) hbb)
  clear ho hb hbb hle h12 HW0 X3 B1
  obtain ⟨z30, z31⟩ := box_cells X3b.out
  obtain ⟨z50, z51⟩ := box_cells X5.out
  go_wp2_with fail
  refine (laws_eqScript.calls ke q A5 c5 l q A3 c3 l true _ (Kd.S_reads' HG.out).2.2 (Kd.S_reads' HG.out).2.1 (Kd.S_reads' HW1.out).2.2 (Kd.S_reads' HW1.out).2.1 HE.out).mono ?_
  rintro e w3 ⟨rfl, hb⟩
  have B3 := Aside0.mk (below_step B2.out hb)
  have X33 := Aside0.mk ((hb.block _ (blk_lt X3b.out)).trans X3b.out)
  have X53 := Aside0.mk ((hb.block _ (blk_lt X5.out)).trans X5.out)
  have HW3 := Aside0.mk (Kd.S_below HW1.out hb)
  have HG3 := Aside0.mk (Kd.S_below HG.out hb)
  clear hb B2 X3b X5 HW1 HG z30 z31 z50 z51
  have hcc : (c != c) = false := bne_self_eq_false c
  obtain ⟨z50, z51⟩ := box_cells X53.out
  go_wp2_with fail
  refine (markScript_call q l A5 c5 w _ _ B3.out HG3.out HMK.out).mono ?_
  rw [HMR.out]
  rintro e w4 ⟨rfl, ho, hb, hk⟩
  have X34 := Aside0.mk (blk_kept X33.out hk (fun h => by have := h.1; omega))
  have X54 := Aside0.mk (blk_kept X53.out hk (fun h => by have := h.2; omega))
  have HW4 := Aside0.mk (Kd.S_step HW3.out (fun k h1 h2 => hk.2 k h2 (fun h => by have := h.1; omega)))
  have HG4 := Aside0.mk (Kd.S_reads' ho)
  have B4 := Aside0.mk hb
  clear ho hb hk B3 X33 X53 HW3 HG3 z50 z51
  obtain ⟨z50, z51⟩ := box_cells X54.out
  have hheld := laws_heldScript.calls kh q A5 c5 (markOps 1 l) 1 mr w4 HG4.out.2.2 (by rw [HML.out]; exact HG4.out.2.1) HH.out
  rw [HML.out] at hheld
  have HHD := Aside0.mk hheld
  clear hheld
  go_wp2_with fail
  refine HHD.out.mono ?_
  rintro e w5 ⟨rfl, hb⟩
  have B5 := Aside0.mk (below_step B4.out hb)
  have X35 := Aside0.mk ((hb.block _ (blk_lt X34.out)).trans X34.out)
  have HW5 := Aside0.mk (Kd.S_below HW4.out hb)
  clear hb B4 X34 X54 HW4 HG4 HHD z50 z51
  have hmm : (mr != mr) = false := bne_self_eq_false mr
  go_wp2_with fail
  refine (HIP.out _ (HA.out.below B5.out)).mono ?_
  intro e w6 hpost
  obtain ⟨v9, rfl, ho, hb⟩ := hpost
  obtain ⟨A9, c9, h9⟩ := Kd.S_slice ho
  replace h9 : v9 = .slice A9 l.length c9 := h9
  subst h9
  have hbb := below_alloc (Below.refl w6.heap.size w6) (.cells #[.int .i64 q, .slice A9 l.length c9] 24)
  have B6 := Aside0.mk (below_step (below_step B5.out hb) hbb)
  have X36 := Aside0.mk ((hbb.block _ (blk_lt ((hb.block _ (blk_lt X35.out)).trans X35.out))).trans ((hb.block _ (blk_lt X35.out)).trans X35.out))
  have HW6 := Aside0.mk (Kd.S_below (Kd.S_below HW5.out hb) hbb)
  have HG6 := Aside0.mk (Kd.S_below ho hbb)
  clear ho hb hbb B5 X35 HW5
  obtain ⟨z30, z31⟩ := box_cells X36.out
  go_wp2_with fail
  refine (laws_eqScript.calls ke q A9 c9 l q A3 c3 l true _ (Kd.S_reads' HG6.out).2.2 (Kd.S_reads' HG6.out).2.1 (Kd.S_reads' HW6.out).2.2 (Kd.S_reads' HW6.out).2.1 HE.out).mono ?_
  rintro e w7 ⟨rfl, hb⟩
  have B7 := Aside0.mk (below_step B6.out hb)
  clear hb B6 X36 HW6 HG6 z30 z31
  go_wp2
  go_ret
  exact ⟨rfl, B7.out⟩
theorem parse_call (s : ByteArray) (w : World) (bm : Nat) (m : Int) (hA : LinesAt w bm m) (hm : s.size ≤ maxLen) : Calls Tryd.prog 3 #[.string s] w fun e w' => e = .returned (.bool true) ∧ Below w.heap.size w w' := by
  by_cases h : s.size ≤ 1048576
  · exact parse_short s w bm m hA h
  · exact parse_long s w (by omega) hm
end Go.Proofs.YtkbhcejibcjglaaDoor.M
end
section
/- The law FnExactParseScript answers true at every text, and leaves the text and the program's table as they were; its card. No condition beyond the row's own. -/
namespace Go.Proofs.YtkbhcejibcjglaaDoor.fnExactParseScript
open Go.ChangeShapes Go.WideShapes Go.ChangeAt Go.RowKit Go.Proofs.YtkbhcejibcjglaaDoor.M
open Go.ChangeMaps (open_string shut_string)
set_option linter.unusedVariables false
abbrev laid3 : List (String × DataW Unit) := [("unicode/utf8.acceptRanges", Rows.laid_unicode_utf8_acceptRanges), ("loop.example/s01733/impl.lines", Rows.laid_loop_example_s01733_impl_lines), ("unicode/utf8.first", Rows.laid_unicode_utf8_first)]
abbrev spec := Rows.fnExactParseScriptSpec
theorem own : ownKnob Tryd.prog.godebug = none := by kernel_rfl
theorem laidOut : laidOutB Tryd.prog = true := by kernel_rfl
noncomputable abbrev w0 (os : Os) : World := (World.doorLaid Tryd.prog 126 os).layVars Tryd.prog (laid3.filter fun x => ["unicode/utf8.first"].contains x.1)
theorem plain : ∀ w, laidMetH Tryd.prog laid3 w = laidMet Tryd.prog laid3 w := fun w => MakeChecks.laidMetH_plain _ _ _ (by kernel_rfl)
/-- The blocks of the start but the pinned table's. -/
noncomputable abbrev blocks (os : Os) : List Nat := (List.range (World.doorLaid Tryd.prog 126 os).heap.size).filter (fun b => b != 2)
theorem hf (os : Os) : (World.doorLaid Tryd.prog 126 os).layFits Tryd.prog (laid3.filter fun x => ["unicode/utf8.first"].contains x.1) (blocks os) = true := by kernel_rfl
theorem hi (os : Os) : (World.doorLaid Tryd.prog 126 os).layIfaces Tryd.prog (laid3.filter fun x => ["unicode/utf8.first"].contains x.1) (w0 os) = true := by kernel_rfl
theorem hs (os : Os) : LaidIn Tryd.prog (w0 os) (laid3.filter fun x => !["unicode/utf8.first"].contains x.1) (blocks os) :=
  LaidIn.of_run (blocks os) 8 (by kernel_rfl) (by kernel_rfl) (by kernel_rfl) (by kernel_rfl)
theorem met (os : Os) (args : Array Value) : laidMetH Tryd.prog laid3 ((w0 os).forCall (fun _ _ => 0) ⟨#[], args, []⟩).memory := by
  rw [plain]
  have h : laidMet Tryd.prog laid3 (w0 os) := laidMet_layVars (w0 := World.doorLaid Tryd.prog 126 os) ["unicode/utf8.first"] (blocks os) rfl (hf os) (hi os) (hs os)
  exact h.of_heap (by simp [World.memory, World.forCall, Input.heap])
theorem shaped (os : Os) (args : Array Value) : ((w0 os).forCall (fun _ _ => 0) ⟨#[], args, []⟩).Shaped Tryd.prog := World.shaped_of_ZipB (by kernel_rfl) (by kernel_rfl)
/-- The plain wrap with a condition beside the row's reading, the world's shape kept (turned from the library's two wraps of one each). -/
theorem wrap {H : Type} {enc : TypeId × Value → H} {a : Assume} {C : Checked} {os : Os} {f : FuncId} {fn : Func} {s : ChangeSpec} {conds : List PathCond} {apart fresh handsOn again : Bool} {X : World → Array Value → Prop}
    (hX : ∀ (w w' : World) (args : Array Value), w.heap = w'.heap → X w args → X w' args)
    (own : ownKnob C.prog.godebug = none) (started : os.Started) (noInit : C.prog.inits.idxOf? f = none) (hfn : C.prog.funcs[f]? = some fn)
    (witness : ∃ (w : World) (tape : Tape) (i : Input), w.os = os ∧ (w.forCall tape i).Shaped C.prog ∧ i.vars = [] ∧ Input.okWide C.prog (w.forCall tape i) .any w.heap.size f i ∧
      ((s.pre enc C.prog fn conds apart (w.forCall tape i).memory i.args ∧ X (w.forCall tape i).memory i.args) ∧ sizedMet enc C.prog fn (OpenSpec.ofChange s) apart (w.forCall tape i).memory i.args) ∧ a.holds C.prog (lone (Frame.enter C.prog f i.args .normal) [] (w.forCall tape i)))
    (contract : ∀ (W : World) (base : Nat) (args : Array Value) (ds gs : List (DataW H)) (before : List MemPlace),
      (∀ (j : Nat) t v, fn.params[j]? = some t → args[j]? = some v → Value.okWide C.prog W .any base t v) →
      DataW.Whole enc C.prog fn.params.toList s.vars apart W args.toList ds gs before → X W args → W.ShapedOpen C.prog →
      Calls C.prog f args W fun e W' => ∃ v, e = .returned v ∧ s.post enc C.prog fn apart fresh handsOn again W args v W') :
    ReturnsInHanded a C os f .any (fun w args => (s.pre enc C.prog fn conds apart w args ∧ X w args) ∧ sizedMet enc C.prog fn (OpenSpec.ofChange s) apart w args) (s.post enc C.prog fn apart fresh handsOn again) := by
  refine returnsInHanded_of_calls own started noInit witness ?_
  intro w tape i _ hsh _ hok hpre _
  obtain ⟨_, _, _, fn', hfn', _, _, _, _, hval⟩ := hok
  have e : fn' = fn := Option.some.inj (hfn'.symm.trans hfn)
  subst e
  obtain ⟨⟨⟨ds, gs, before, hw, hc⟩, hx⟩, hz⟩ := hpre
  have hw' := DataW.Whole.of_heap (w' := w.forCall tape i) (by rfl) hw
  refine (contract (w.forCall tape i) w.heap.size i.args ds gs before hval hw' (hX _ _ _ (by rfl) hx) hsh).mono fun e W' ⟨v, he, hp⟩ => ?_
  subst he
  exact ChangeSpec.post_blind hp
set_option maxRecDepth 100000 in
theorem lifted (os : Os) (started : os.Started) (H : Type) (enc : TypeId × Value → H) :
    ReturnsInHanded {} Tryd.checked os 3 .any (fun w args => (spec.pre enc Tryd.prog Tryd.f3 [] false w args ∧ laidMetH Tryd.prog laid3 w) ∧ sizedMet enc Tryd.prog Tryd.f3 (OpenSpec.ofChange spec) false w args)
      (spec.post enc Tryd.prog Tryd.f3 false true false false) := by
  refine wrap (C := Tryd.checked) (X := fun w _ => laidMetH Tryd.prog laid3 w) (fun _ _ _ hh h => h.of_heap hh) own started (by kernel_rfl) Tryd.func3
    (ChangeSpec.witness_shaped (enc := enc) (C := Tryd.checked) (os := os) (X := fun w _ => laidMetH Tryd.prog laid3 w) false (w0 os) #[.string ⟨#[]⟩] 8 (World.layVars_os _ _ _)
      (shaped os _) (by kernel_rfl) (by kernel_rfl) (by kernel_rfl) (met os _)) ?_
  intro W base args ds gs before hval0 hW hL hsh
  have hval : ∀ (j : Nat) t v, Tryd.f3.params[j]? = some t → args[j]? = some v → Value.okWide Tryd.prog W .any base t v := hval0
  have hW' := hW
  obtain ⟨p, q, hA0, hV, rfl, _, _⟩ := hW
  have hA : DataW.TrodAll enc Tryd.prog W 0 (fun _ => true) true Tryd.f3.params.toList args.toList ds p := hA0
  rw [Tryd.params3] at hA hval
  obtain ⟨v0, d0, rfl, rfl, h0⟩ := trodAll_one hA
  obtain ⟨s, rfl, rfl, rfl, ws⟩ := open_string Tryd.underlying9 (hval 0 9 v0 rfl rfl) h0
  rw [plain] at hL
  obtain ⟨m, hm⟩ := Go.Proofs.cell_of_shapedOpen_int (g := 1) (t := 3) (zero := #[.int .i64 0]) (k := .i64) hsh (by decide) (by kernel_rfl) rfl (by kernel_rfl) (by kernel_rfl) Tryd.underlying3
  obtain ⟨bm, hat⟩ := lines_at m hm (Lib.laidMet.reads hL (.tail _ (.head _)))
  refine (parse_call s W bm m hat ws).mono fun e W' ⟨he, hb⟩ => ?_
  subst he
  obtain ⟨g1, rfl⟩ : ∃ g1, gs = [g1] := by
    obtain ⟨g, t, cs, fuel, d, p', e1, _⟩ := trodVars_one hV
    exact ⟨_, e1⟩
  exact ⟨_, rfl, _, _, _, [], [], q, hW', trodAll_mk1 (shut_bool Tryd.underlying4 _), trodAll_mk1 (shut_string Tryd.underlying9 ws), hb.trodVars laidOut (by kernel_rfl) hV, hb.frame _, fun h => by cases h⟩
theorem over : Rows.fnExactParseScriptRow.holds Tryd.pinned (OpenSpec.ofChange Rows.fnExactParseScriptSpec) :=
  OpenClaim.holds_of_wide 3 Tryd.f3 rfl rfl rfl rfl rfl rfl rfl ⟨rfl, rfl, rfl, rfl, rfl⟩ rfl rfl rfl rfl rfl (by kernel_rfl) Tryd.func3 (by kernel_rfl)
    (of_decide_eq_true (by kernel_rfl)) (by unfold Func.isWrapper; first | (rw [if_pos (by decide +kernel)]; kernel_rfl) | (rw [if_neg (by decide +kernel)]; exact ⟨rfl, rfl⟩))
    (fun os started H enc _ => lifted os started H enc)
theorem proved : Rows.FnExactParseScriptCardSaid :=
  Claim7.holds_tied_plain_at .later [] [.data, .mapped, .pinned] true (true, "c04b904283b3c70a9214c446cf4a35adceee6c4073f7b5371de3a62940b5cf77") false
    over (fun _ h => by cases h) (by kernel_rfl) (fun _ h => by cases h) fnExactParseScript_row_tie rfl ⟨rfl, rfl⟩ (by kernel_rfl) rfl
    (fun f fn hf hfn => by
      obtain rfl : f = 3 := Option.some.inj ((show Tryd.prog.funcNamed "loop.example/s01733/laws.FnExactParseScript" = some 3 by kernel_rfl).symm.trans hf) |>.symm
      obtain rfl : fn = Tryd.f3 := (Option.some.inj (Tryd.func3.symm.trans hfn)).symm
      exact ⟨by kernel_rfl, fun j t ht => by
        rw [Tryd.params3] at ht
        have hm : t ∈ [9] := by simpa using Array.mem_of_getElem? ht
        have hall : ([9].all fun u => !Tryd.prog.wantsStandIn u) = true := by kernel_rfl
        exact (show Tryd.prog.wantsStandIn t = false by simpa using List.all_eq_true.1 hall t hm)⟩)
    (by kernel_rfl)
#print axioms proved
end Go.Proofs.YtkbhcejibcjglaaDoor.fnExactParseScript
namespace Go.Proofs.YtkbhcejibcjglaaDoor
/-- The card, under a short name, for the claim. -/
theorem fnExactParseScript_holds : Rows.FnExactParseScriptCardSaid := fnExactParseScript.proved
end Go.Proofs.YtkbhcejibcjglaaDoor
end

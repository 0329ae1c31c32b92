/- Texts of the claim FnExactApplyEdit, part 46 of 47, joined: PlawsFnExactApplyEdit. No condition beyond those that stand at each. -/
import Derived.Test.YtlecpmgdoomngaaZFnExactApplyEdit37
import Derived.Test.YtlecpmgdoomngaaZFnExactApplyEdit39
import Derived.Test.YtlecpmgdoomngaaZFnExactApplyEdit40
import Derived.Test.YtlecpmgdoomngaaZFnExactApplyEdit41
import Derived.Test.YtlecpmgdoomngaaZFnExactApplyEdit42
import Derived.Test.YtlecpmgdoomngaaZFnExactApplyEdit45
section
-- Written by a changed copy of the print program, one module a function. Not trusted: Lean checks it.
namespace Go.Proofs.Ytlecpmgdoomngaa.P
open Go.RowKit Go.Proofs.YtlecpmgdoomngaaW.PrintWords Go.Proofs.YtlecpmgdoomngaaW.PrintLast Go.Proofs.YtlecpmgdoomngaaW.PrintMore
attribute [local go_sem] max2_int min2_int max_two min_two max_three min_three max_four min_four   -- for this text's walks alone
set_option linter.unusedVariables false
set_option linter.unusedSimpArgs false
mutual
def laws_FnExactApplyEdit.j0 : Nat → Bool → Bool → Bool → List (S61) → Int → Int → Int → List (S61) → List Int → Int → Int → Int → List (S48) → Int → Int → Int → List (S48) → Int → Int → Int → List (S48) → List Int → Int → Int → Int → List (S48) → Int → Int → Int → Option (Bool)
 | 0, _, _, _, _, _, _, _, _, _, _, _, _, _, _, _, _, _, _, _, _, _, _, _, _, _, _, _, _, _ => none
 | k + 1, x7, x11, x53, x272000, x272001, x272002, x272003, x273000, x273001, x273002, x273003, x273004, x298000, x298001, x298002, x298003, x305000, x305001, x305002, x305003, x315000, x315001, x315002, x315003, x315004, x323000, x323001, x323002, x323003 => if x53 = true then (some false) else ((laws_toVersion.f k x272000 x272001 x272002 x272003).bind fun bt324 => ((laws_eqVersion.f k x305000 x305001 x305002 x305003 bt324.1 bt324.2.1 bt324.2.2.1 bt324.2.2.2).bind fun t330 => (if t330 = true then ((laws_toEdit.f k x273000 x273001 x273002 x273003 x273004).bind fun bt331 => ((laws_eqEdit.f k x315000 x315001 x315002 x315003 x315004 bt331.1 bt331.2.1 bt331.2.2.1 bt331.2.2.2.1 bt331.2.2.2.2).bind fun t340 => (if t340 = true then ((laws_markVersion.f k x305000 x305001 x305002 x305003 1).bind fun bt341 => ((laws_markEdit.f k x315000 x315001 x315002 x315003 x315004 bt341.1).bind fun bt343 => (if bt343.1 < 0 then (laws_FnExactApplyEdit.j1 k x7 true x272000 x272001 x272002 x272003 x273000 x273001 x273002 x273003 x273004 x298000 x298001 x298002 x298003 x323000 x323001 x323002 x323003) else ((laws_eqVersion.f k x323000 x323001 x323002 x323003 x298000 x298001 x298002 x298003).bind fun t346 => (if t346 = true then (laws_FnExactApplyEdit.j1 k x7 (x11 != x7) x272000 x272001 x272002 x272003 x273000 x273001 x273002 x273003 x273004 x298000 x298001 x298002 x298003 x323000 x323001 x323002 x323003) else (laws_FnExactApplyEdit.j1 k x7 true x272000 x272001 x272002 x272003 x273000 x273001 x273002 x273003 x273004 x298000 x298001 x298002 x298003 x323000 x323001 x323002 x323003)))))) else (some false)))) else (some false))))
def laws_FnExactApplyEdit.j1 : Nat → Bool → Bool → List (S61) → Int → Int → Int → List (S61) → List Int → Int → Int → Int → List (S48) → Int → Int → Int → List (S48) → Int → Int → Int → Option (Bool)
 | 0, _, _, _, _, _, _, _, _, _, _, _, _, _, _, _, _, _, _, _ => none
 | k + 1, x7, x82, x272000, x272001, x272002, x272003, x273000, x273001, x273002, x273003, x273004, x298000, x298001, x298002, x298003, x323000, x323001, x323002, x323003 => if x82 = true then (some false) else ((laws_markVersion.f k x323000 x323001 x323002 x323003 1).bind fun bt347 => ((laws_heldVersion.f k bt347.2 x323001 x323002 x323003 1).bind fun t349 => (if t349 < 0 then (some false) else (if t349 = bt347.1 then ((laws_toVersion.f k x272000 x272001 x272002 x272003).bind fun bt350 => ((laws_toEdit.f k x273000 x273001 x273002 x273003 x273004).bind fun bt356 => ((impl_ApplyEdit.f k bt350.1 bt350.2.1 bt350.2.2.1 bt350.2.2.2 bt356.1 bt356.2.1 bt356.2.2.1 bt356.2.2.2.1 bt356.2.2.2.2).bind fun bt365 => ((laws_eqVersion.f k bt365.1 bt365.2.1 bt365.2.2.1 bt365.2.2.2.1 x298000 x298001 x298002 x298003).bind fun t373 => (if t373 = true then (if (bt365.2.2.2.2 != x7) = true then (some false) else (some true)) else (some false)))))) else (some false)))))
end
def laws_FnExactApplyEdit.f (k : Nat) (l0_0 : List (S61)) (a0_1 : Int) (a0_2 : Int) (a0_3 : Int) (l1_0 : List (S61)) (l1_1 : List Int) (a1_2 : Int) (a1_3 : Int) (a1_4 : Int) : Option (Bool) := (laws_szVersion.f k l0_0 a0_1 a0_2 a0_3 1048576).bind fun t273 => (if t273 < 0 then (some true) else ((laws_szEdit.f k l1_0 l1_1 a1_2 a1_3 a1_4 t273).bind fun t274 => (if t274 < 0 then (some true) else ((laws_toVersion.f k l0_0 a0_1 a0_2 a0_3).bind fun bt275 => ((laws_toEdit.f k l1_0 l1_1 a1_2 a1_3 a1_4).bind fun bt281 => ((spec_ApplyEdit.f k bt275.1 bt275.2.1 bt275.2.2.1 bt275.2.2.2 bt281.1 bt281.2.1 bt281.2.2.1 bt281.2.2.2.1 bt281.2.2.2.2).bind fun bt290 => ((laws_toVersion.f k l0_0 a0_1 a0_2 a0_3).bind fun bt298 => ((laws_toEdit.f k l1_0 l1_1 a1_2 a1_3 a1_4).bind fun bt305 => ((impl_ApplyEdit.f k bt298.1 bt298.2.1 bt298.2.2.1 bt298.2.2.2 bt305.1 bt305.2.1 bt305.2.2.1 bt305.2.2.2.1 bt305.2.2.2.2).bind fun bt315 => ((laws_eqVersion.f k bt315.1 bt315.2.1 bt315.2.2.1 bt315.2.2.2.1 bt290.1 bt290.2.1 bt290.2.2.1 bt290.2.2.2.1).bind fun t323 => (if t323 = true then (laws_FnExactApplyEdit.j0 k bt290.2.2.2.2 bt315.2.2.2.2 (bt315.2.2.2.2 != bt290.2.2.2.2) l0_0 a0_1 a0_2 a0_3 l1_0 l1_1 a1_2 a1_3 a1_4 bt290.1 bt290.2.1 bt290.2.2.1 bt290.2.2.2.1 bt298.1 bt298.2.1 bt298.2.2.1 bt298.2.2.2 bt305.1 bt305.2.1 bt305.2.2.1 bt305.2.2.2.1 bt305.2.2.2.2 bt315.1 bt315.2.1 bt315.2.2.1 bt315.2.2.2.1) else (laws_FnExactApplyEdit.j0 k bt290.2.2.2.2 bt315.2.2.2.2 true l0_0 a0_1 a0_2 a0_3 l1_0 l1_1 a1_2 a1_3 a1_4 bt290.1 bt290.2.1 bt290.2.2.1 bt290.2.2.2.1 bt298.1 bt298.2.1 bt298.2.2.1 bt298.2.2.2 bt305.1 bt305.2.1 bt305.2.2.1 bt305.2.2.2.1 bt305.2.2.2.2 bt315.1 bt315.2.1 bt315.2.2.1 bt315.2.2.2.1))))))))))))
def laws_FnExactApplyEdit.T8 : Bool × List (List Nat × List Nat) := (true, [([], []), ([0], [0]), ([], []), ([2, 1], [2]), ([1, 3, 3], [1, 3]), ([4], [4]), ([5], [5]), ([5], [5]), ([], []), ([8, 6, 4, 0, 1, 2, 3, 4, 5, 6, 8], [6, 8]), ([7, 9, 0, 1, 2, 3, 4, 5, 6, 7, 8, 9], [7])])
def laws_FnExactApplyEdit.B8 : List Nat := [0, 1, 0, 7, 15, 31, 63, 63, 0, 383, 1023]
theorem laws_FnExactApplyEdit.tab8 : rtab .any (opsOf Try.f3 8) = laws_FnExactApplyEdit.T8 := by kernel_rfl
theorem laws_FnExactApplyEdit.bits8 : waitsOk laws_FnExactApplyEdit.T8.2 laws_FnExactApplyEdit.B8 = true := by kernel_rfl
def laws_FnExactApplyEdit.T31 : Bool × List (List Nat × List Nat) := (true, [([], []), ([0], [0]), ([], []), ([2, 1], [2]), ([1, 3, 3], [1, 3]), ([4], [4]), ([5], [5]), ([5], [5]), ([], []), ([8, 6, 4, 0, 1, 2, 3, 4, 5, 6, 8], [6, 8]), ([7, 9, 0, 1, 2, 3, 4, 5, 6, 7, 8, 9], [7])])
def laws_FnExactApplyEdit.B31 : List Nat := [0, 1, 0, 7, 15, 31, 63, 63, 0, 383, 1023]
theorem laws_FnExactApplyEdit.tab31 : rtab .any (opsOf Try.f3 31) = laws_FnExactApplyEdit.T31 := by kernel_rfl
theorem laws_FnExactApplyEdit.bits31 : waitsOk laws_FnExactApplyEdit.T31.2 laws_FnExactApplyEdit.B31 = true := by kernel_rfl
set_option maxHeartbeats 8000000 in
set_option maxRecDepth 100000 in
theorem laws_FnExactApplyEdit.calls (k : Nat) (A0_0 : Option Addr) (c0_0 : Nat) (l0_0 : List (S61)) (a0_1 : Int) (a0_2 : Int) (a0_3 : Int) (A1_0 : Option Addr) (c1_0 : Nat) (l1_0 : List (S61)) (A1_1 : Option Addr) (c1_1 : Nat) (l1_1 : List Int) (a1_2 : Int) (a1_3 : Int) (a1_4 : Int) (w : World) (hr0_0 : Kd.C k61 w A0_0 l0_0.length l0_0) (hc0_0 : l0_0.length ≤ c0_0) (hr1_0 : Kd.C k61 w A1_0 l1_0.length l1_0) (hc1_0 : l1_0.length ≤ c1_0) (hr1_1 : Kd.C (Kd.int .i64) w A1_1 l1_1.length l1_1) (hc1_1 : l1_1.length ≤ c1_1) (h : laws_FnExactApplyEdit.f k l0_0 a0_1 a0_2 a0_3 l1_0 l1_1 a1_2 a1_3 a1_4 = some true) :
  Calls Try.prog 3 #[.agg #[.slice A0_0 l0_0.length c0_0, .int .i64 a0_1, .int .i64 a0_2, .int .i64 a0_3], .agg #[.slice A1_0 l1_0.length c1_0, .slice A1_1 l1_1.length c1_1, .int .i64 a1_2, .int .i64 a1_3, .int .i64 a1_4]] w fun e w' => e = .returned (.bool true) ∧ Below w.heap.size w w' := by
 have hu24 := Try.underlying24; have hu27 := Try.underlying27; have hu32 := Try.underlying32; have hu37 := Try.underlying37; have HR0_0 := Aside0.mk hr0_0; have HC0_0 := Aside0.mk hc0_0; clear hr0_0 hc0_0; have HR1_0 := Aside0.mk hr1_0; have HC1_0 := Aside0.mk hc1_0; clear hr1_0 hc1_0; have HR1_1 := Aside0.mk hr1_1; have HC1_1 := Aside0.mk hc1_1; clear hr1_1 hc1_1; have HB := Aside0.mk (Below.refl w.heap.size w); have H : ((laws_szVersion.f k l0_0 a0_1 a0_2 a0_3 1048576).bind fun t273 => (if t273 < 0 then (some true) else ((laws_szEdit.f k l1_0 l1_1 a1_2 a1_3 a1_4 t273).bind fun t274 => (if t274 < 0 then (some true) else ((laws_toVersion.f k l0_0 a0_1 a0_2 a0_3).bind fun bt275 => ((laws_toEdit.f k l1_0 l1_1 a1_2 a1_3 a1_4).bind fun bt281 => ((spec_ApplyEdit.f k bt275.1 bt275.2.1 bt275.2.2.1 bt275.2.2.2 bt281.1 bt281.2.1 bt281.2.2.1 bt281.2.2.2.1 bt281.2.2.2.2).bind fun bt290 => ((laws_toVersion.f k l0_0 a0_1 a0_2 a0_3).bind fun bt298 => ((laws_toEdit.f k l1_0 l1_1 a1_2 a1_3 a1_4).bind fun bt305 => ((impl_ApplyEdit.f k bt298.1 bt298.2.1 bt298.2.2.1 bt298.2.2.2 bt305.1 bt305.2.1 bt305.2.2.1 bt305.2.2.2.1 bt305.2.2.2.2).bind fun bt315 => ((laws_eqVersion.f k bt315.1 bt315.2.1 bt315.2.2.1 bt315.2.2.2.1 bt290.1 bt290.2.1 bt290.2.2.1 bt290.2.2.2.1).bind fun t323 => (if t323 = true then (laws_FnExactApplyEdit.j0 k bt290.2.2.2.2 bt315.2.2.2.2 (bt315.2.2.2.2 != bt290.2.2.2.2) l0_0 a0_1 a0_2 a0_3 l1_0 l1_1 a1_2 a1_3 a1_4 bt290.1 bt290.2.1 bt290.2.2.1 bt290.2.2.2.1 bt298.1 bt298.2.1 bt298.2.2.1 bt298.2.2.2 bt305.1 bt305.2.1 bt305.2.2.1 bt305.2.2.2.1 bt305.2.2.2.2 bt315.1 bt315.2.1 bt315.2.2.1 bt315.2.2.2.1) else (laws_FnExactApplyEdit.j0 k bt290.2.2.2.2 bt315.2.2.2.2 true l0_0 a0_1 a0_2 a0_3 l1_0 l1_1 a1_2 a1_3 a1_4 bt290.1 bt290.2.1 bt290.2.2.1 bt290.2.2.2.1 bt298.1 bt298.2.1 bt298.2.2.1 bt298.2.2.2 bt305.1 bt305.2.1 bt305.2.2.1 bt305.2.2.2.1 bt305.2.2.2.2 bt315.1 bt315.2.1 bt315.2.2.1 bt315.2.2.2.1))))))))))))) = some true := h; clear h; replace H := Option.bind_eq_some_iff.mp H
 obtain ⟨t273, A30, H⟩ := H; replace H : (if t273 < 0 then (some true) else ((laws_szEdit.f k l1_0 l1_1 a1_2 a1_3 a1_4 t273).bind fun t274 => (if t274 < 0 then (some true) else ((laws_toVersion.f k l0_0 a0_1 a0_2 a0_3).bind fun bt275 => ((laws_toEdit.f k l1_0 l1_1 a1_2 a1_3 a1_4).bind fun bt281 => ((spec_ApplyEdit.f k bt275.1 bt275.2.1 bt275.2.2.1 bt275.2.2.2 bt281.1 bt281.2.1 bt281.2.2.1 bt281.2.2.2.1 bt281.2.2.2.2).bind fun bt290 => ((laws_toVersion.f k l0_0 a0_1 a0_2 a0_3).bind fun bt298 => ((laws_toEdit.f k l1_0 l1_1 a1_2 a1_3 a1_4).bind fun bt305 => ((impl_ApplyEdit.f k bt298.1 bt298.2.1 bt298.2.2.1 bt298.2.2.2 bt305.1 bt305.2.1 bt305.2.2.1 bt305.2.2.2.1 bt305.2.2.2.2).bind fun bt315 => ((laws_eqVersion.f k bt315.1 bt315.2.1 bt315.2.2.1 bt315.2.2.2.1 bt290.1 bt290.2.1 bt290.2.2.1 bt290.2.2.2.1).bind fun t323 => (if t323 = true then (laws_FnExactApplyEdit.j0 k bt290.2.2.2.2 bt315.2.2.2.2 (bt315.2.2.2.2 != bt290.2.2.2.2) l0_0 a0_1 a0_2 a0_3 l1_0 l1_1 a1_2 a1_3 a1_4 bt290.1 bt290.2.1 bt290.2.2.1 bt290.2.2.2.1 bt298.1 bt298.2.1 bt298.2.2.1 bt298.2.2.2 bt305.1 bt305.2.1 bt305.2.2.1 bt305.2.2.2.1 bt305.2.2.2.2 bt315.1 bt315.2.1 bt315.2.2.1 bt315.2.2.2.1) else (laws_FnExactApplyEdit.j0 k bt290.2.2.2.2 bt315.2.2.2.2 true l0_0 a0_1 a0_2 a0_3 l1_0 l1_1 a1_2 a1_3 a1_4 bt290.1 bt290.2.1 bt290.2.2.1 bt290.2.2.2.1 bt298.1 bt298.2.1 bt298.2.2.1 bt298.2.2.2 bt305.1 bt305.2.1 bt305.2.2.1 bt305.2.2.2.1 bt305.2.2.2.2 bt315.1 bt315.2.1 bt315.2.2.1 bt315.2.2.2.1)))))))))))) = some true := H; have A3 := Aside0.mk A30; clear A30
 by_cases c4 : t273 < 0
 ·rw [if_pos c4] at H
  have c4b0 : decide (t273 < 0) = true := decide_eq_true c4; clear c4 H
  go_enter Try.func3, Try.ntmps3
  go_wp2_with (first | ((with_reducible refine gate_dst (N := 2) rfl ?_); refine box_event ?hg (N := 2) ?hd (cs := #[.slice A0_0 l0_0.length c0_0, .int .i64 a0_1, .int .i64 a0_2, .int .i64 a0_3]) (t := 24) ?hr ?_; (case hd => rfl); (case hg => rfl); (case hr => first | (go_simp; done) | (go_simp; rfl)); intro gb271 hg w5 hbox hb; have BK271 := Aside0.mk (hbox); have GW271 := Aside0.mk ((by rw [hg]; exact (below_size (xh HB)) : w.heap.size ≤ gb271)); have GE271 := Aside0.mk ((by rw [hg]; exact (below_size (xh HB)) : w.heap.size ≤ gb271)); replace HB := Aside0.mk (below_step (xh HB) hb); clear hb hbox hg) | ((with_reducible refine gate_dst (N := 3) rfl ?_); refine box_event ?hg (N := 3) ?hd (cs := #[.slice A1_0 l1_0.length c1_0, .slice A1_1 l1_1.length c1_1, .int .i64 a1_2, .int .i64 a1_3, .int .i64 a1_4]) (t := 27) ?hr ?_; (case hd => rfl); (case hg => rfl); (case hr => first | (go_simp; done) | (go_simp; rfl)); intro gb272 hg w6 hbox hb; have BK272 := Aside0.mk (hbox); have GW272 := Aside0.mk ((by rw [hg]; exact (below_size (xh HB)) : w.heap.size ≤ gb272)); have GE272 := Aside0.mk ((by rw [hg]; exact (below_size (xh HB)) : w.heap.size ≤ gb272)); replace HB := Aside0.mk (below_step (xh HB) hb); have NB271_272 := Aside0.mk (xn1 hg BK271); have NB272_271 := Aside0.mk (xn2 hg BK271); replace BK271 := Aside0.mk (xbb BK271 hb); clear hb hbox hg; have hnb7 := NB271_272.out; have hnc7 := NB272_271.out; have hcz8_0 : w6.cell? ⟨gb271, 0, none⟩ = some (.slice A0_0 l0_0.length c0_0) := (blk_cell BK271.out 0).trans rfl; have hcz8_1 : w6.cell? ⟨gb271, 1, none⟩ = some (.int .i64 a0_1) := (blk_cell BK271.out 1).trans rfl; have hcz8_2 : w6.cell? ⟨gb271, 2, none⟩ = some (.int .i64 a0_2) := (blk_cell BK271.out 2).trans rfl; have hcz8_3 : w6.cell? ⟨gb271, 3, none⟩ = some (.int .i64 a0_3) := (blk_cell BK271.out 3).trans rfl; have hfz8_0 := blk_frozen BK271.out 0; have hfz8_1 := blk_frozen BK271.out 1; have hfz8_2 := blk_frozen BK271.out 2; have hfz8_3 := blk_frozen BK271.out 3) | ((with_reducible refine gate_callee (f := 4) rfl ?_); refine goesL_ (some 19) rfl rfl Try.func4 (by kernel_rfl) rfl #[.agg #[.slice A0_0 l0_0.length c0_0, .int .i64 a0_1, .int .i64 a0_2, .int .i64 a0_3], .int .i64 1048576] rfl (by (try simp only [List.map_toArray, List.map_cons, List.map_nil]); first | done | rfl | (simp only [List.length_drop, List.length_take]; rfl)) ?_; (with_reducible refine (laws_szVersion.calls k _ _ l0_0 a0_1 a0_2 a0_3 1048576 t273 _ ?side1 ?side2 A3.out).mono ?_); (case side1 => exact xc (Kd.C_below HR0_0.out HB.out)); (case side2 => exact HC0_0.out); rintro e w9 ⟨rfl, hb⟩; refine ⟨_, rfl, ?_⟩; replace BK271 := Aside0.mk (xbb BK271 hb); replace BK272 := Aside0.mk (xbb BK272 hb); replace HB := Aside0.mk (below_step (xh HB) hb); (try clear hb); (try clear hb2); (try clear hk); (try clear hi)))
  go_ret
  exact ⟨by first | rfl | (simp [errW_none, errW_some] <;> rfl) | (simp [*, errW_none, errW_some] <;> rfl), by repeat (first | (with_reducible first | exact HB.out | apply below_alloc | apply pw_below_drewN | apply below_drew1 | refine below_set ?_ GE271.out | refine below_set ?_ GE272.out) | exact HB.out)⟩
 ·rw [if_neg c4] at H
  have c4b0 : decide (t273 < 0) = false := decide_eq_false c4; clear c4; replace H := Option.bind_eq_some_iff.mp H; obtain ⟨t274, A100, H⟩ := H; replace H : (if t274 < 0 then (some true) else ((laws_toVersion.f k l0_0 a0_1 a0_2 a0_3).bind fun bt275 => ((laws_toEdit.f k l1_0 l1_1 a1_2 a1_3 a1_4).bind fun bt281 => ((spec_ApplyEdit.f k bt275.1 bt275.2.1 bt275.2.2.1 bt275.2.2.2 bt281.1 bt281.2.1 bt281.2.2.1 bt281.2.2.2.1 bt281.2.2.2.2).bind fun bt290 => ((laws_toVersion.f k l0_0 a0_1 a0_2 a0_3).bind fun bt298 => ((laws_toEdit.f k l1_0 l1_1 a1_2 a1_3 a1_4).bind fun bt305 => ((impl_ApplyEdit.f k bt298.1 bt298.2.1 bt298.2.2.1 bt298.2.2.2 bt305.1 bt305.2.1 bt305.2.2.1 bt305.2.2.2.1 bt305.2.2.2.2).bind fun bt315 => ((laws_eqVersion.f k bt315.1 bt315.2.1 bt315.2.2.1 bt315.2.2.2.1 bt290.1 bt290.2.1 bt290.2.2.1 bt290.2.2.2.1).bind fun t323 => (if t323 = true then (laws_FnExactApplyEdit.j0 k bt290.2.2.2.2 bt315.2.2.2.2 (bt315.2.2.2.2 != bt290.2.2.2.2) l0_0 a0_1 a0_2 a0_3 l1_0 l1_1 a1_2 a1_3 a1_4 bt290.1 bt290.2.1 bt290.2.2.1 bt290.2.2.2.1 bt298.1 bt298.2.1 bt298.2.2.1 bt298.2.2.2 bt305.1 bt305.2.1 bt305.2.2.1 bt305.2.2.2.1 bt305.2.2.2.2 bt315.1 bt315.2.1 bt315.2.2.1 bt315.2.2.2.1) else (laws_FnExactApplyEdit.j0 k bt290.2.2.2.2 bt315.2.2.2.2 true l0_0 a0_1 a0_2 a0_3 l1_0 l1_1 a1_2 a1_3 a1_4 bt290.1 bt290.2.1 bt290.2.2.1 bt290.2.2.2.1 bt298.1 bt298.2.1 bt298.2.2.1 bt298.2.2.2 bt305.1 bt305.2.1 bt305.2.2.1 bt305.2.2.2.1 bt305.2.2.2.2 bt315.1 bt315.2.1 bt315.2.2.1 bt315.2.2.2.1)))))))))) = some true := H; have A10 := Aside0.mk A100; clear A100
  by_cases c11 : t274 < 0
  ·rw [if_pos c11] at H
   have c11b0 : decide (t274 < 0) = true := decide_eq_true c11; clear c11 H
   go_enter Try.func3, Try.ntmps3
   go_wp2_with (first | ((with_reducible refine gate_dst (N := 2) rfl ?_); refine box_event ?hg (N := 2) ?hd (cs := #[.slice A0_0 l0_0.length c0_0, .int .i64 a0_1, .int .i64 a0_2, .int .i64 a0_3]) (t := 24) ?hr ?_; (case hd => rfl); (case hg => rfl); (case hr => first | (go_simp; done) | (go_simp; rfl)); intro gb271 hg w12 hbox hb; have BK271 := Aside0.mk (hbox); have GW271 := Aside0.mk ((by rw [hg]; exact (below_size (xh HB)) : w.heap.size ≤ gb271)); have GE271 := Aside0.mk ((by rw [hg]; exact (below_size (xh HB)) : w.heap.size ≤ gb271)); replace HB := Aside0.mk (below_step (xh HB) hb); clear hb hbox hg) | ((with_reducible refine gate_dst (N := 3) rfl ?_); refine box_event ?hg (N := 3) ?hd (cs := #[.slice A1_0 l1_0.length c1_0, .slice A1_1 l1_1.length c1_1, .int .i64 a1_2, .int .i64 a1_3, .int .i64 a1_4]) (t := 27) ?hr ?_; (case hd => rfl); (case hg => rfl); (case hr => first | (go_simp; done) | (go_simp; rfl)); intro gb272 hg w13 hbox hb; have BK272 := Aside0.mk (hbox); have GW272 := Aside0.mk ((by rw [hg]; exact (below_size (xh HB)) : w.heap.size ≤ gb272)); have GE272 := Aside0.mk ((by rw [hg]; exact (below_size (xh HB)) : w.heap.size ≤ gb272)); replace HB := Aside0.mk (below_step (xh HB) hb); have NB271_272 := Aside0.mk (xn1 hg BK271); have NB272_271 := Aside0.mk (xn2 hg BK271); replace BK271 := Aside0.mk (xbb BK271 hb); clear hb hbox hg; have hnb14 := NB271_272.out; have hnc14 := NB272_271.out; have hcz15_0 : w13.cell? ⟨gb271, 0, none⟩ = some (.slice A0_0 l0_0.length c0_0) := (blk_cell BK271.out 0).trans rfl; have hcz15_1 : w13.cell? ⟨gb271, 1, none⟩ = some (.int .i64 a0_1) := (blk_cell BK271.out 1).trans rfl; have hcz15_2 : w13.cell? ⟨gb271, 2, none⟩ = some (.int .i64 a0_2) := (blk_cell BK271.out 2).trans rfl; have hcz15_3 : w13.cell? ⟨gb271, 3, none⟩ = some (.int .i64 a0_3) := (blk_cell BK271.out 3).trans rfl; have hfz15_0 := blk_frozen BK271.out 0; have hfz15_1 := blk_frozen BK271.out 1; have hfz15_2 := blk_frozen BK271.out 2; have hfz15_3 := blk_frozen BK271.out 3) | ((with_reducible refine gate_callee (f := 4) rfl ?_); refine goesL_ (some 19) rfl rfl Try.func4 (by kernel_rfl) rfl #[.agg #[.slice A0_0 l0_0.length c0_0, .int .i64 a0_1, .int .i64 a0_2, .int .i64 a0_3], .int .i64 1048576] rfl (by (try simp only [List.map_toArray, List.map_cons, List.map_nil]); first | done | rfl | (simp only [List.length_drop, List.length_take]; rfl)) ?_; (with_reducible refine (laws_szVersion.calls k _ _ l0_0 a0_1 a0_2 a0_3 1048576 t273 _ ?side1 ?side2 A3.out).mono ?_); (case side1 => exact xc (Kd.C_below HR0_0.out HB.out)); (case side2 => exact HC0_0.out); rintro e w16 ⟨rfl, hb⟩; refine ⟨_, rfl, ?_⟩; replace BK271 := Aside0.mk (xbb BK271 hb); replace BK272 := Aside0.mk (xbb BK272 hb); replace HB := Aside0.mk (below_step (xh HB) hb); (try clear hb); (try clear hb2); (try clear hk); (try clear hi); have hcz17_0 : w16.cell? ⟨gb272, 0, none⟩ = some (.slice A1_0 l1_0.length c1_0) := (blk_cell BK272.out 0).trans rfl; have hcz17_1 : w16.cell? ⟨gb272, 1, none⟩ = some (.slice A1_1 l1_1.length c1_1) := (blk_cell BK272.out 1).trans rfl; have hcz17_2 : w16.cell? ⟨gb272, 2, none⟩ = some (.int .i64 a1_2) := (blk_cell BK272.out 2).trans rfl; have hcz17_3 : w16.cell? ⟨gb272, 3, none⟩ = some (.int .i64 a1_3) := (blk_cell BK272.out 3).trans rfl; have hcz17_4 : w16.cell? ⟨gb272, 4, none⟩ = some (.int .i64 a1_4) := (blk_cell BK272.out 4).trans rfl; have hfz17_0 := blk_frozen BK272.out 0; have hfz17_1 := blk_frozen BK272.out 1; have hfz17_2 := blk_frozen BK272.out 2; have hfz17_3 := blk_frozen BK272.out 3; have hfz17_4 := blk_frozen BK272.out 4) | ((with_reducible refine gate_callee (f := 5) rfl ?_); refine goesL_ (some 24) rfl rfl Try.func5 (by kernel_rfl) rfl #[.agg #[.slice A1_0 l1_0.length c1_0, .slice A1_1 l1_1.length c1_1, .int .i64 a1_2, .int .i64 a1_3, .int .i64 a1_4], .int .i64 t273] rfl (by (try simp only [List.map_toArray, List.map_cons, List.map_nil]); first | done | rfl | (simp only [List.length_drop, List.length_take]; rfl)) ?_; (with_reducible refine (laws_szEdit.calls k _ _ l1_0 _ _ l1_1 a1_2 a1_3 a1_4 t273 t274 _ ?side1 ?side2 ?side3 ?side4 A10.out).mono ?_); (case side1 => exact xc (Kd.C_below HR1_0.out HB.out)); (case side2 => exact HC1_0.out); (case side3 => exact xc (Kd.C_below HR1_1.out HB.out)); (case side4 => exact HC1_1.out); rintro e w18 ⟨rfl, hb⟩; refine ⟨_, rfl, ?_⟩; replace BK271 := Aside0.mk (xbb BK271 hb); replace BK272 := Aside0.mk (xbb BK272 hb); replace HB := Aside0.mk (below_step (xh HB) hb); (try clear hb); (try clear hb2); (try clear hk); (try clear hi)))
   go_ret
   exact ⟨by first | rfl | (simp [errW_none, errW_some] <;> rfl) | (simp [*, errW_none, errW_some] <;> rfl), by repeat (first | (with_reducible first | exact HB.out | apply below_alloc | apply pw_below_drewN | apply below_drew1 | refine below_set ?_ GE271.out | refine below_set ?_ GE272.out) | exact HB.out)⟩
  ·rw [if_neg c11] at H
   have c11b0 : decide (t274 < 0) = false := decide_eq_false c11; clear c11; replace H := Option.bind_eq_some_iff.mp H; obtain ⟨⟨t275, t278, t279, t280⟩, A190, H⟩ := H; replace H : ((laws_toEdit.f k l1_0 l1_1 a1_2 a1_3 a1_4).bind fun bt281 => ((spec_ApplyEdit.f k t275 t278 t279 t280 bt281.1 bt281.2.1 bt281.2.2.1 bt281.2.2.2.1 bt281.2.2.2.2).bind fun bt290 => ((laws_toVersion.f k l0_0 a0_1 a0_2 a0_3).bind fun bt298 => ((laws_toEdit.f k l1_0 l1_1 a1_2 a1_3 a1_4).bind fun bt305 => ((impl_ApplyEdit.f k bt298.1 bt298.2.1 bt298.2.2.1 bt298.2.2.2 bt305.1 bt305.2.1 bt305.2.2.1 bt305.2.2.2.1 bt305.2.2.2.2).bind fun bt315 => ((laws_eqVersion.f k bt315.1 bt315.2.1 bt315.2.2.1 bt315.2.2.2.1 bt290.1 bt290.2.1 bt290.2.2.1 bt290.2.2.2.1).bind fun t323 => (if t323 = true then (laws_FnExactApplyEdit.j0 k bt290.2.2.2.2 bt315.2.2.2.2 (bt315.2.2.2.2 != bt290.2.2.2.2) l0_0 a0_1 a0_2 a0_3 l1_0 l1_1 a1_2 a1_3 a1_4 bt290.1 bt290.2.1 bt290.2.2.1 bt290.2.2.2.1 bt298.1 bt298.2.1 bt298.2.2.1 bt298.2.2.2 bt305.1 bt305.2.1 bt305.2.2.1 bt305.2.2.2.1 bt305.2.2.2.2 bt315.1 bt315.2.1 bt315.2.2.1 bt315.2.2.2.1) else (laws_FnExactApplyEdit.j0 k bt290.2.2.2.2 bt315.2.2.2.2 true l0_0 a0_1 a0_2 a0_3 l1_0 l1_1 a1_2 a1_3 a1_4 bt290.1 bt290.2.1 bt290.2.2.1 bt290.2.2.2.1 bt298.1 bt298.2.1 bt298.2.2.1 bt298.2.2.2 bt305.1 bt305.2.1 bt305.2.2.1 bt305.2.2.2.1 bt305.2.2.2.2 bt315.1 bt315.2.1 bt315.2.2.1 bt315.2.2.2.1)))))))) = some true := H; have A19 := Aside0.mk A190; clear A190; replace H := Option.bind_eq_some_iff.mp H; obtain ⟨⟨t281, t284, t287, t288, t289⟩, A200, H⟩ := H; replace H : ((spec_ApplyEdit.f k t275 t278 t279 t280 t281 t284 t287 t288 t289).bind fun bt290 => ((laws_toVersion.f k l0_0 a0_1 a0_2 a0_3).bind fun bt298 => ((laws_toEdit.f k l1_0 l1_1 a1_2 a1_3 a1_4).bind fun bt305 => ((impl_ApplyEdit.f k bt298.1 bt298.2.1 bt298.2.2.1 bt298.2.2.2 bt305.1 bt305.2.1 bt305.2.2.1 bt305.2.2.2.1 bt305.2.2.2.2).bind fun bt315 => ((laws_eqVersion.f k bt315.1 bt315.2.1 bt315.2.2.1 bt315.2.2.2.1 bt290.1 bt290.2.1 bt290.2.2.1 bt290.2.2.2.1).bind fun t323 => (if t323 = true then (laws_FnExactApplyEdit.j0 k bt290.2.2.2.2 bt315.2.2.2.2 (bt315.2.2.2.2 != bt290.2.2.2.2) l0_0 a0_1 a0_2 a0_3 l1_0 l1_1 a1_2 a1_3 a1_4 bt290.1 bt290.2.1 bt290.2.2.1 bt290.2.2.2.1 bt298.1 bt298.2.1 bt298.2.2.1 bt298.2.2.2 bt305.1 bt305.2.1 bt305.2.2.1 bt305.2.2.2.1 bt305.2.2.2.2 bt315.1 bt315.2.1 bt315.2.2.1 bt315.2.2.2.1) else (laws_FnExactApplyEdit.j0 k bt290.2.2.2.2 bt315.2.2.2.2 true l0_0 a0_1 a0_2 a0_3 l1_0 l1_1 a1_2 a1_3 a1_4 bt290.1 bt290.2.1 bt290.2.2.1 bt290.2.2.2.1 bt298.1 bt298.2.1 bt298.2.2.1 bt298.2.2.2 bt305.1 bt305.2.1 bt305.2.2.1 bt305.2.2.2.1 bt305.2.2.2.2 bt315.1 bt315.2.1 bt315.2.2.1 bt315.2.2.2.1))))))) = some true := H
   have A20 := Aside0.mk A200; clear A200; replace H := Option.bind_eq_some_iff.mp H; obtain ⟨⟨t290, t293, t294, t295, t296⟩, A210, H⟩ := H; replace H : ((laws_toVersion.f k l0_0 a0_1 a0_2 a0_3).bind fun bt298 => ((laws_toEdit.f k l1_0 l1_1 a1_2 a1_3 a1_4).bind fun bt305 => ((impl_ApplyEdit.f k bt298.1 bt298.2.1 bt298.2.2.1 bt298.2.2.2 bt305.1 bt305.2.1 bt305.2.2.1 bt305.2.2.2.1 bt305.2.2.2.2).bind fun bt315 => ((laws_eqVersion.f k bt315.1 bt315.2.1 bt315.2.2.1 bt315.2.2.2.1 t290 t293 t294 t295).bind fun t323 => (if t323 = true then (laws_FnExactApplyEdit.j0 k t296 bt315.2.2.2.2 (bt315.2.2.2.2 != t296) l0_0 a0_1 a0_2 a0_3 l1_0 l1_1 a1_2 a1_3 a1_4 t290 t293 t294 t295 bt298.1 bt298.2.1 bt298.2.2.1 bt298.2.2.2 bt305.1 bt305.2.1 bt305.2.2.1 bt305.2.2.2.1 bt305.2.2.2.2 bt315.1 bt315.2.1 bt315.2.2.1 bt315.2.2.2.1) else (laws_FnExactApplyEdit.j0 k t296 bt315.2.2.2.2 true l0_0 a0_1 a0_2 a0_3 l1_0 l1_1 a1_2 a1_3 a1_4 t290 t293 t294 t295 bt298.1 bt298.2.1 bt298.2.2.1 bt298.2.2.2 bt305.1 bt305.2.1 bt305.2.2.1 bt305.2.2.2.1 bt305.2.2.2.2 bt315.1 bt315.2.1 bt315.2.2.1 bt315.2.2.2.1)))))) = some true := H; have A21 := Aside0.mk A210; clear A210; replace H := Option.bind_eq_some_iff.mp H; obtain ⟨⟨t298, t301, t302, t303⟩, A220, H⟩ := H; replace H : ((laws_toEdit.f k l1_0 l1_1 a1_2 a1_3 a1_4).bind fun bt305 => ((impl_ApplyEdit.f k t298 t301 t302 t303 bt305.1 bt305.2.1 bt305.2.2.1 bt305.2.2.2.1 bt305.2.2.2.2).bind fun bt315 => ((laws_eqVersion.f k bt315.1 bt315.2.1 bt315.2.2.1 bt315.2.2.2.1 t290 t293 t294 t295).bind fun t323 => (if t323 = true then (laws_FnExactApplyEdit.j0 k t296 bt315.2.2.2.2 (bt315.2.2.2.2 != t296) l0_0 a0_1 a0_2 a0_3 l1_0 l1_1 a1_2 a1_3 a1_4 t290 t293 t294 t295 t298 t301 t302 t303 bt305.1 bt305.2.1 bt305.2.2.1 bt305.2.2.2.1 bt305.2.2.2.2 bt315.1 bt315.2.1 bt315.2.2.1 bt315.2.2.2.1) else (laws_FnExactApplyEdit.j0 k t296 bt315.2.2.2.2 true l0_0 a0_1 a0_2 a0_3 l1_0 l1_1 a1_2 a1_3 a1_4 t290 t293 t294 t295 t298 t301 t302 t303 bt305.1 bt305.2.1 bt305.2.2.1 bt305.2.2.2.1 bt305.2.2.2.2 bt315.1 bt315.2.1 bt315.2.2.1 bt315.2.2.2.1))))) = some true := H
   have A22 := Aside0.mk A220; clear A220; replace H := Option.bind_eq_some_iff.mp H; obtain ⟨⟨t305, t308, t311, t312, t313⟩, A230, H⟩ := H; replace H : ((impl_ApplyEdit.f k t298 t301 t302 t303 t305 t308 t311 t312 t313).bind fun bt315 => ((laws_eqVersion.f k bt315.1 bt315.2.1 bt315.2.2.1 bt315.2.2.2.1 t290 t293 t294 t295).bind fun t323 => (if t323 = true then (laws_FnExactApplyEdit.j0 k t296 bt315.2.2.2.2 (bt315.2.2.2.2 != t296) l0_0 a0_1 a0_2 a0_3 l1_0 l1_1 a1_2 a1_3 a1_4 t290 t293 t294 t295 t298 t301 t302 t303 t305 t308 t311 t312 t313 bt315.1 bt315.2.1 bt315.2.2.1 bt315.2.2.2.1) else (laws_FnExactApplyEdit.j0 k t296 bt315.2.2.2.2 true l0_0 a0_1 a0_2 a0_3 l1_0 l1_1 a1_2 a1_3 a1_4 t290 t293 t294 t295 t298 t301 t302 t303 t305 t308 t311 t312 t313 bt315.1 bt315.2.1 bt315.2.2.1 bt315.2.2.2.1)))) = some true := H; have A23 := Aside0.mk A230; clear A230; replace H := Option.bind_eq_some_iff.mp H; obtain ⟨⟨t315, t318, t319, t320, t321⟩, A240, H⟩ := H; replace H : ((laws_eqVersion.f k t315 t318 t319 t320 t290 t293 t294 t295).bind fun t323 => (if t323 = true then (laws_FnExactApplyEdit.j0 k t296 t321 (t321 != t296) l0_0 a0_1 a0_2 a0_3 l1_0 l1_1 a1_2 a1_3 a1_4 t290 t293 t294 t295 t298 t301 t302 t303 t305 t308 t311 t312 t313 t315 t318 t319 t320) else (laws_FnExactApplyEdit.j0 k t296 t321 true l0_0 a0_1 a0_2 a0_3 l1_0 l1_1 a1_2 a1_3 a1_4 t290 t293 t294 t295 t298 t301 t302 t303 t305 t308 t311 t312 t313 t315 t318 t319 t320))) = some true := H; have A24 := Aside0.mk A240; clear A240; have HC25 := Aside0.mk H; clear H
   go_enter Try.func3, Try.ntmps3
   try go_wp2_with (first | ((with_reducible refine gate_dst (N := 2) rfl ?_); refine box_event ?hg (N := 2) ?hd (cs := #[.slice A0_0 l0_0.length c0_0, .int .i64 a0_1, .int .i64 a0_2, .int .i64 a0_3]) (t := 24) ?hr ?_; (case hd => rfl); (case hg => rfl); (case hr => first | (go_simp; done) | (go_simp; rfl)); intro gb271 hg w26 hbox hb; have BK271 := Aside0.mk (hbox); have GW271 := Aside0.mk ((by rw [hg]; exact (below_size (xh HB)) : w.heap.size ≤ gb271)); have GE271 := Aside0.mk ((by rw [hg]; exact (below_size (xh HB)) : w.heap.size ≤ gb271)); replace HB := Aside0.mk (below_step (xh HB) hb); clear hb hbox hg) | ((with_reducible refine gate_dst (N := 3) rfl ?_); refine box_event ?hg (N := 3) ?hd (cs := #[.slice A1_0 l1_0.length c1_0, .slice A1_1 l1_1.length c1_1, .int .i64 a1_2, .int .i64 a1_3, .int .i64 a1_4]) (t := 27) ?hr ?_; (case hd => rfl); (case hg => rfl); (case hr => first | (go_simp; done) | (go_simp; rfl)); intro gb272 hg w27 hbox hb; have BK272 := Aside0.mk (hbox); have GW272 := Aside0.mk ((by rw [hg]; exact (below_size (xh HB)) : w.heap.size ≤ gb272)); have GE272 := Aside0.mk ((by rw [hg]; exact (below_size (xh HB)) : w.heap.size ≤ gb272)); replace HB := Aside0.mk (below_step (xh HB) hb); have NB271_272 := Aside0.mk (xn1 hg BK271); have NB272_271 := Aside0.mk (xn2 hg BK271); replace BK271 := Aside0.mk (xbb BK271 hb); clear hb hbox hg; have hnb28 := NB271_272.out; have hnc28 := NB272_271.out; have hcz29_0 : w27.cell? ⟨gb271, 0, none⟩ = some (.slice A0_0 l0_0.length c0_0) := (blk_cell BK271.out 0).trans rfl; have hcz29_1 : w27.cell? ⟨gb271, 1, none⟩ = some (.int .i64 a0_1) := (blk_cell BK271.out 1).trans rfl; have hcz29_2 : w27.cell? ⟨gb271, 2, none⟩ = some (.int .i64 a0_2) := (blk_cell BK271.out 2).trans rfl; have hcz29_3 : w27.cell? ⟨gb271, 3, none⟩ = some (.int .i64 a0_3) := (blk_cell BK271.out 3).trans rfl; have hfz29_0 := blk_frozen BK271.out 0; have hfz29_1 := blk_frozen BK271.out 1; have hfz29_2 := blk_frozen BK271.out 2; have hfz29_3 := blk_frozen BK271.out 3) | ((with_reducible refine gate_callee (f := 4) rfl ?_); refine goesL_ (some 19) rfl rfl Try.func4 (by kernel_rfl) rfl #[.agg #[.slice A0_0 l0_0.length c0_0, .int .i64 a0_1, .int .i64 a0_2, .int .i64 a0_3], .int .i64 1048576] rfl (by (try simp only [List.map_toArray, List.map_cons, List.map_nil]); first | done | rfl | (simp only [List.length_drop, List.length_take]; rfl)) ?_; (with_reducible refine (laws_szVersion.calls k _ _ l0_0 a0_1 a0_2 a0_3 1048576 t273 _ ?side1 ?side2 A3.out).mono ?_); (case side1 => exact xc (Kd.C_below HR0_0.out HB.out)); (case side2 => exact HC0_0.out); rintro e w30 ⟨rfl, hb⟩; refine ⟨_, rfl, ?_⟩; replace BK271 := Aside0.mk (xbb BK271 hb); replace BK272 := Aside0.mk (xbb BK272 hb); replace HB := Aside0.mk (below_step (xh HB) hb); (try clear hb); (try clear hb2); (try clear hk); (try clear hi); have hcz31_0 : w30.cell? ⟨gb272, 0, none⟩ = some (.slice A1_0 l1_0.length c1_0) := (blk_cell BK272.out 0).trans rfl; have hcz31_1 : w30.cell? ⟨gb272, 1, none⟩ = some (.slice A1_1 l1_1.length c1_1) := (blk_cell BK272.out 1).trans rfl; have hcz31_2 : w30.cell? ⟨gb272, 2, none⟩ = some (.int .i64 a1_2) := (blk_cell BK272.out 2).trans rfl; have hcz31_3 : w30.cell? ⟨gb272, 3, none⟩ = some (.int .i64 a1_3) := (blk_cell BK272.out 3).trans rfl; have hcz31_4 : w30.cell? ⟨gb272, 4, none⟩ = some (.int .i64 a1_4) := (blk_cell BK272.out 4).trans rfl; have hfz31_0 := blk_frozen BK272.out 0; have hfz31_1 := blk_frozen BK272.out 1; have hfz31_2 := blk_frozen BK272.out 2; have hfz31_3 := blk_frozen BK272.out 3; have hfz31_4 := blk_frozen BK272.out 4) | ((with_reducible refine gate_callee (f := 5) rfl ?_); refine goesL_ (some 24) rfl rfl Try.func5 (by kernel_rfl) rfl #[.agg #[.slice A1_0 l1_0.length c1_0, .slice A1_1 l1_1.length c1_1, .int .i64 a1_2, .int .i64 a1_3, .int .i64 a1_4], .int .i64 t273] rfl (by (try simp only [List.map_toArray, List.map_cons, List.map_nil]); first | done | rfl | (simp only [List.length_drop, List.length_take]; rfl)) ?_; (with_reducible refine (laws_szEdit.calls k _ _ l1_0 _ _ l1_1 a1_2 a1_3 a1_4 t273 t274 _ ?side1 ?side2 ?side3 ?side4 A10.out).mono ?_); (case side1 => exact xc (Kd.C_below HR1_0.out HB.out)); (case side2 => exact HC1_0.out); (case side3 => exact xc (Kd.C_below HR1_1.out HB.out)); (case side4 => exact HC1_1.out); rintro e w32 ⟨rfl, hb⟩; refine ⟨_, rfl, ?_⟩; replace BK271 := Aside0.mk (xbb BK271 hb); replace BK272 := Aside0.mk (xbb BK272 hb); replace HB := Aside0.mk (below_step (xh HB) hb); (try clear hb); (try clear hb2); (try clear hk); (try clear hi)))
   replace BK271 := Aside0.mk (blk_drew BK271.out); replace BK272 := Aside0.mk (blk_drew BK272.out); replace HB := Aside0.mk (below_drew1 HB.out)
   refine start_ (n := 11) (S := fun w' => w'.cell? ⟨gb271, 0, none⟩ = some (.slice A0_0 l0_0.length c0_0) ∧ w'.cell? ⟨gb271, 1, none⟩ = some (.int .i64 a0_1) ∧ w'.cell? ⟨gb271, 2, none⟩ = some (.int .i64 a0_2) ∧ w'.cell? ⟨gb271, 3, none⟩ = some (.int .i64 a0_3) ∧ w'.cell? ⟨gb272, 0, none⟩ = some (.slice A1_0 l1_0.length c1_0) ∧ w'.cell? ⟨gb272, 1, none⟩ = some (.slice A1_1 l1_1.length c1_1) ∧ w'.cell? ⟨gb272, 2, none⟩ = some (.int .i64 a1_2) ∧ w'.cell? ⟨gb272, 3, none⟩ = some (.int .i64 a1_3) ∧ w'.cell? ⟨gb272, 4, none⟩ = some (.int .i64 a1_4)) (ds := []) #[false, false, false, false, false, false, false, false, false, false, false] (by kernel_rfl) rfl rfl (xk BK271 BK272) (fun hHeld => ?_); refine with_tabW laws_FnExactApplyEdit.tab8 laws_FnExactApplyEdit.bits8 (fun HT_ HW_ => ?_)
   generalize w32.drew = w33 at BK271 BK272 HB hHeld ⊢
   refine take_ (i := 0) (N := some 28) (v := ?_) (a' := ?_) #[true, false, false, false, false, false, false, false, false, false, false] rfl rfl (take_ofW HT_.out HW_.out (by kernel_rfl)) (fun _ _ _ h => h) (Or.inl ⟨by rfl, ?_⟩) hHeld ?_ ?_
   rotate_left
   ·rintro w' ⟨s0, s1, s2, s3, s4, s5, s6, s7, s8⟩
    go_simp
    with_reducible rfl
   rotate_left
   ·simp only [Act.put, List.setIfInBounds_toArray, List.set_cons_zero, List.set_cons_succ, i64_w, i32_w]
    rfl
   refine take_ (i := 2) (N := some 30) (v := ?_) (a' := ?_) #[true, false, true, false, false, false, false, false, false, false, false] rfl rfl (take_ofW HT_.out HW_.out (by kernel_rfl)) (fun _ _ _ h => h) (Or.inl ⟨by rfl, ?_⟩) hHeld ?_ ?_
   rotate_left
   ·rintro w' ⟨s0, s1, s2, s3, s4, s5, s6, s7, s8⟩
    go_simp
    with_reducible rfl
   rotate_left
   ·simp only [Act.put, List.setIfInBounds_toArray, List.set_cons_zero, List.set_cons_succ, i64_w, i32_w]
    rfl
   refine join_ (σ := Value × Value × Value × Value × Nat) 2 #[true, true, true, true, true, true, true, true, true, false, false] (fun s_ => [(29, .agg #[s_.1, .int .i64 t278, .int .i64 t279, .int .i64 t280]), (31, .agg #[s_.2.1, s_.2.2.1, .int .i64 t287, .int .i64 t288, .int .i64 t289]), (32, .tuple #[.agg #[s_.2.2.2.1, .int .i64 t293, .int .i64 t294, .int .i64 t295], .bool t296]), (6, .pointer (some ⟨s_.2.2.2.2, 0, none⟩)), (27, .tuple #[.agg #[s_.2.2.2.1, .int .i64 t293, .int .i64 t294, .int .i64 t295], .bool t296]), (33, .agg #[s_.2.2.2.1, .int .i64 t293, .int .i64 t294, .int .i64 t295]), (34, .bool t296)]) (fun s_ w' => (w'.cell? ⟨gb271, 0, none⟩ = some (.slice A0_0 l0_0.length c0_0) ∧ w'.cell? ⟨gb271, 1, none⟩ = some (.int .i64 a0_1) ∧ w'.cell? ⟨gb271, 2, none⟩ = some (.int .i64 a0_2) ∧ w'.cell? ⟨gb271, 3, none⟩ = some (.int .i64 a0_3) ∧ w'.cell? ⟨gb272, 0, none⟩ = some (.slice A1_0 l1_0.length c1_0) ∧ w'.cell? ⟨gb272, 1, none⟩ = some (.slice A1_1 l1_1.length c1_1) ∧ w'.cell? ⟨gb272, 2, none⟩ = some (.int .i64 a1_2) ∧ w'.cell? ⟨gb272, 3, none⟩ = some (.int .i64 a1_3) ∧ w'.cell? ⟨gb272, 4, none⟩ = some (.int .i64 a1_4)) ∧ (Kd.R k48 48 w' w.heap.size (fun k_ => some k_ ≠ (s_.2.1 : Value).ownBlock ∧ some k_ ≠ (s_.2.2.2.1 : Value).ownBlock) s_.1 t275) ∧ (Kd.R k48 48 w' w.heap.size (fun k_ => some k_ ≠ (s_.1 : Value).ownBlock ∧ some k_ ≠ (s_.2.2.2.1 : Value).ownBlock) s_.2.1 t281) ∧ (Kd.R (Kd.int .i64) 3 w' w.heap.size (fun _ => True) s_.2.2.1 t284) ∧ (Kd.R k48 48 w' w.heap.size (fun k_ => some k_ ≠ (s_.1 : Value).ownBlock ∧ some k_ ≠ (s_.2.1 : Value).ownBlock) s_.2.2.2.1 t290) ∧ (w'.heap[gb271]? = some (.cells #[.slice A0_0 l0_0.length c0_0, .int .i64 a0_1, .int .i64 a0_2, .int .i64 a0_3] 24 (0, 0))) ∧ (w'.heap[gb272]? = some (.cells #[.slice A1_0 l1_0.length c1_0, .slice A1_1 l1_1.length c1_1, .int .i64 a1_2, .int .i64 a1_3, .int .i64 a1_4] 27 (0, 0))) ∧ (w'.heap[s_.2.2.2.2]? = some (.cells #[.slice none 0 0, .int .i64 0, .int .i64 0, .int .i64 0] 32 (0, 0))) ∧ (w.heap.size ≤ s_.2.2.2.2) ∧ (w.heap.size ≤ s_.2.2.2.2) ∧ (gb271 ≠ s_.2.2.2.2) ∧ (s_.2.2.2.2 ≠ gb271) ∧ (gb272 ≠ s_.2.2.2.2) ∧ (s_.2.2.2.2 ≠ gb272) ∧ (Below w.heap.size w w')) ?_ ?_
   rotate_left
   ·intro hCont
    refine two_ (i := 1) (j := 8) (Ni := some 29) (Nj := some 6) #[true, true, true, false, false, false, false, false, false, false, false] #[true, false, true, false, false, false, false, false, true, false, false] rfl rfl rfl rfl (two_of HT_.out (by kernel_rfl)) (by decide) (by decide) (fun K hK => ?_) (fun K hK => ?_)
    ·skip
     refine goes_ Try.func7 (by kernel_rfl) rfl #[.agg #[.slice A0_0 l0_0.length c0_0, .int .i64 a0_1, .int .i64 a0_2, .int .i64 a0_3]] (by rfl) rfl rfl (by (try simp only [List.map_toArray, List.map_cons, List.map_nil]); first | done | rfl | (simp only [List.length_drop, List.length_take]; rfl)) ?_
     with_reducible refine (laws_toVersion.calls k _ _ l0_0 a0_1 a0_2 a0_3 t275 t278 t279 t280 _ ?side1 ?side2 A19.out).mono ?_
     (case side1 => exact xc (Kd.C_below HR0_0.out HB.out))
     (case side2 => exact HC0_0.out)
     rintro e w34 ⟨v276, rfl, ho0, hb⟩
     refine ⟨_, rfl, ?_⟩
     have HO277 := Aside0.mk (Kd.R_lower ho0 (below_size (xh HB))); replace BK271 := Aside0.mk (xbb BK271 hb); replace BK272 := Aside0.mk (xbb BK272 hb); replace HB := Aside0.mk (below_step (xh HB) hb)
     (try clear hb); (try clear hb2); (try clear hk); (try clear hi); (try clear ho0)
     refine hK.out _ _ (xk BK271 BK272) (fun hHeld => ?_)
     clear hK K
     refine norm_ (a' := ?_) ?_ ?_
     rotate_left
     ·show Act.put _ (some 29) _ = _
      simp only [Act.put, List.setIfInBounds_toArray, List.set_cons_zero, List.set_cons_succ, i64_w, i32_w]
      rfl
     refine two_ (i := 3) (j := 8) (Ni := some 31) (Nj := some 6) #[true, true, true, true, false, false, false, false, false, false, false] #[true, true, true, false, false, false, false, false, true, false, false] rfl rfl rfl rfl (two_of HT_.out (by kernel_rfl)) (by decide) (by decide) (fun K hK => ?_) (fun K hK => ?_)
     ·skip
      refine goes_ Try.func8 (by kernel_rfl) rfl #[.agg #[.slice A1_0 l1_0.length c1_0, .slice A1_1 l1_1.length c1_1, .int .i64 a1_2, .int .i64 a1_3, .int .i64 a1_4]] (by rfl) rfl rfl (by (try simp only [List.map_toArray, List.map_cons, List.map_nil]); first | done | rfl | (simp only [List.length_drop, List.length_take]; rfl)) ?_
      with_reducible refine (laws_toEdit.calls k _ _ l1_0 _ _ l1_1 a1_2 a1_3 a1_4 t281 t284 t287 t288 t289 _ ?side1 ?side2 ?side3 ?side4 A20.out).mono ?_
      (case side1 => exact xc (Kd.C_below HR1_0.out HB.out))
      (case side2 => exact HC1_0.out)
      (case side3 => exact xc (Kd.C_below HR1_1.out HB.out))
      (case side4 => exact HC1_1.out)
      rintro e w35 ⟨v282, v285, rfl, ho0, ho1, hb⟩
      refine ⟨_, rfl, ?_⟩
      have HO283 := Aside0.mk (Kd.R_lower (Kd.R_new' ho0 (Kd.R_lt (xr HO277))) (below_size (xh HB))); replace HO277 := Aside0.mk (Kd.R_elder' (xr HO277) (Kd.R_base ho0) hb); have HO286 := Aside0.mk (Kd.R_lower ho1 (below_size (xh HB))); replace BK271 := Aside0.mk (xbb BK271 hb); replace BK272 := Aside0.mk (xbb BK272 hb); replace HB := Aside0.mk (below_step (xh HB) hb)
      (try clear hb); (try clear hb2); (try clear hk); (try clear hi); (try clear ho0); (try clear ho1)
      obtain ⟨Ao36, co36, eo36⟩ := Kd.R_slice HO277.out
      (first | subst eo36 | (injection eo36 with f1_ f2_ f3_; have f4_ := f1_.symm; have f5_ := f3_.symm; clear f1_ f2_ f3_; subst f4_; subst f5_))
      obtain ⟨Ao37, co37, eo37⟩ := Kd.R_slice HO283.out
      (first | subst eo37 | (injection eo37 with f1_ f2_ f3_; have f4_ := f1_.symm; have f5_ := f3_.symm; clear f1_ f2_ f3_; subst f4_; subst f5_))
      obtain ⟨Ao38, co38, eo38⟩ := Kd.R_slice HO286.out
      (first | subst eo38 | (injection eo38 with f1_ f2_ f3_; have f4_ := f1_.symm; have f5_ := f3_.symm; clear f1_ f2_ f3_; subst f4_; subst f5_))
      refine hK.out _ _ (xk BK271 BK272) (fun hHeld => ?_)
      clear hK K
      refine norm_ (a' := ?_) ?_ ?_
      rotate_left
      ·show Act.put _ (some 31) _ = _
       simp only [Act.put, List.setIfInBounds_toArray, List.set_cons_zero, List.set_cons_succ, i64_w, i32_w]
       rfl
      refine two_ (i := 4) (j := 8) (Ni := some 32) (Nj := some 6) #[true, true, true, true, true, false, false, false, false, false, false] #[true, true, true, true, false, false, false, false, true, false, false] rfl rfl rfl rfl (two_of HT_.out (by kernel_rfl)) (by decide) (by decide) (fun K hK => ?_) (fun K hK => ?_)
      ·skip
       refine goes_ Try.func6 (by kernel_rfl) rfl #[.agg #[.slice Ao36 t275.length co36, .int .i64 t278, .int .i64 t279, .int .i64 t280], .agg #[.slice Ao37 t281.length co37, .slice Ao38 t284.length co38, .int .i64 t287, .int .i64 t288, .int .i64 t289]] (by rfl) rfl rfl (by (try simp only [List.map_toArray, List.map_cons, List.map_nil]); first | done | rfl | (simp only [List.length_drop, List.length_take]; rfl)) ?_
       with_reducible refine (spec_ApplyEdit.calls k _ _ t275 t278 t279 t280 _ _ t281 _ _ t284 t287 t288 t289 t290 t293 t294 t295 t296 _ ?side1 ?side2 ?side3 ?side4 ?side5 ?side6 A21.out).mono ?_
       (case side1 => exact xc (Kd.R_reads' HO277.out).2.2)
       (case side2 => exact (Kd.R_reads' HO277.out).2.1)
       (case side3 => exact xc (Kd.R_reads' HO283.out).2.2)
       (case side4 => exact (Kd.R_reads' HO283.out).2.1)
       (case side5 => exact xc (Kd.R_reads' HO286.out).2.2)
       (case side6 => exact (Kd.R_reads' HO286.out).2.1)
       rintro e w39 ⟨v291, rfl, ho0, hb⟩
       refine ⟨_, rfl, ?_⟩
       replace HO286 := Aside0.mk (Kd.R_below (xr HO286) hb); have HO292 := Aside0.mk (Kd.R_lower (Kd.R_new' (Kd.R_new' ho0 (Kd.R_lt (xr HO277))) (Kd.R_lt (xr HO283))) (below_size (xh HB))); replace HO277 := Aside0.mk (Kd.R_elder' (xr HO277) (Kd.R_base ho0) hb); replace HO283 := Aside0.mk (Kd.R_elder' (xr HO283) (Kd.R_base ho0) hb); replace BK271 := Aside0.mk (xbb BK271 hb); replace BK272 := Aside0.mk (xbb BK272 hb); replace HB := Aside0.mk (below_step (xh HB) hb)
       (try clear hb); (try clear hb2); (try clear hk); (try clear hi); (try clear ho0)
       refine hK.out _ _ (xk BK271 BK272) (fun hHeld => ?_)
       clear hK K
       refine norm_ (a' := ?_) ?_ ?_
       rotate_left
       ·show Act.put _ (some 32) _ = _
        simp only [Act.put, List.setIfInBounds_toArray, List.set_cons_zero, List.set_cons_succ, i64_w, i32_w]
        rfl
       refine pure_ (i := 5) (N := some 27) (v := ?_) (a' := ?_) #[true, true, true, true, true, true, false, false, false, false, false] rfl rfl (any_of HT_.out (by kernel_rfl)) (fun _ _ _ h => h) (Or.inl ⟨by rfl, ?_⟩) ?_ ?_
       rotate_left
       ·intro w'
        go_simp
        with_reducible rfl
       rotate_left
       ·simp only [Act.put, List.setIfInBounds_toArray, List.set_cons_zero, List.set_cons_succ, i64_w, i32_w]
        rfl
       refine pure_ (i := 6) (N := some 33) (v := ?_) (a' := ?_) #[true, true, true, true, true, true, true, false, false, false, false] rfl rfl (any_of HT_.out (by kernel_rfl)) (fun _ _ _ h => h) (Or.inl ⟨by rfl, ?_⟩) ?_ ?_
       rotate_left
       ·intro w'
        go_simp
        with_reducible rfl
       rotate_left
       ·simp only [Act.put, List.setIfInBounds_toArray, List.set_cons_zero, List.set_cons_succ, i64_w, i32_w]
        rfl
       refine pure_ (i := 7) (N := some 34) (v := ?_) (a' := ?_) #[true, true, true, true, true, true, true, true, false, false, false] rfl rfl (any_of HT_.out (by kernel_rfl)) (fun _ _ _ h => h) (Or.inl ⟨by rfl, ?_⟩) ?_ ?_
       rotate_left
       ·intro w'
        go_simp
        with_reducible rfl
       rotate_left
       ·simp only [Act.put, List.setIfInBounds_toArray, List.set_cons_zero, List.set_cons_succ, i64_w, i32_w]
        rfl
       refine one_ (i := 8) (N := some 6) #[true, true, true, true, true, true, true, true, true, false, false] rfl rfl (one_of HT_.out (by kernel_rfl)) (by decide) (fun K hK => ?_)
       refine box_step ?hg (N := 6) ?hd (cs := #[.slice none 0 0, .int .i64 0, .int .i64 0, .int .i64 0]) (t := 32) ?hr ?_; (case hd => rfl); (case hg => rfl); (case hr => first | (go_simp; done) | (go_simp; rfl))
       intro gb297 hg w40 hbox hb
       replace HO277 := Aside0.mk (Kd.R_below (xr HO277) hb); replace HO283 := Aside0.mk (Kd.R_below (xr HO283) hb); replace HO286 := Aside0.mk (Kd.R_below (xr HO286) hb); replace HO292 := Aside0.mk (Kd.R_below (xr HO292) hb); have BK297 := Aside0.mk (hbox); have GW297 := Aside0.mk ((by rw [hg]; exact (below_size (xh HB)) : w.heap.size ≤ gb297)); have GE297 := Aside0.mk ((by rw [hg]; exact (below_size (xh HB)) : w.heap.size ≤ gb297)); replace HB := Aside0.mk (below_step (xh HB) hb); have NB271_297 := Aside0.mk (xn1 hg BK271); have NB297_271 := Aside0.mk (xn2 hg BK271); replace BK271 := Aside0.mk (xbb BK271 hb); have NB272_297 := Aside0.mk (xn1 hg BK272); have NB297_272 := Aside0.mk (xn2 hg BK272); replace BK272 := Aside0.mk (xbb BK272 hb)
       refine hK.out _ _ (xk BK271 BK272) (fun hHeld => ?_)
       clear hK K
       refine norm_ (a' := ?_) ?_ ?_
       rotate_left
       ·show Act.put _ (some 6) _ = _
        simp only [Act.put, List.setIfInBounds_toArray, List.set_cons_zero, List.set_cons_succ, i64_w, i32_w]
        rfl
       exact norm_ (by simp only [putAll, Act.put, List.setIfInBounds_toArray, List.set_cons_zero, List.set_cons_succ]) (hCont (.slice Ao36 t275.length co36, .slice Ao37 t281.length co37, .slice Ao38 t284.length co38, v291, gb297) _ ⟨hHeld, (by (with_reducible repeat (first | apply Kd.R_alloc | apply Kd.R_drewN | apply Kd.R_drew)); exact Kd.R_mono HO277.out (fun _ hk => ⟨hk.1.2, hk.2⟩)), (by (with_reducible repeat (first | apply Kd.R_alloc | apply Kd.R_drewN | apply Kd.R_drew)); exact Kd.R_mono HO283.out (fun _ hk => ⟨hk.1.2, hk.2⟩)), (xr HO286), (by (with_reducible repeat (first | apply Kd.R_alloc | apply Kd.R_drewN | apply Kd.R_drew)); exact Kd.R_mono HO292.out (fun _ hk => ⟨hk.1.2, hk.2⟩)), (xb BK271), (xb BK272), (xb BK297), GW297.out, GE297.out, NB271_297.out, NB297_271.out, NB272_297.out, NB297_272.out, (xh HB)⟩)
      ·skip
       refine box_step ?hg (N := 6) ?hd (cs := #[.slice none 0 0, .int .i64 0, .int .i64 0, .int .i64 0]) (t := 32) ?hr ?_; (case hd => rfl); (case hg => rfl); (case hr => first | (go_simp; done) | (go_simp; rfl))
       intro gb297 hg w36 hbox hb
       replace HO277 := Aside0.mk (Kd.R_below (xr HO277) hb); replace HO283 := Aside0.mk (Kd.R_below (xr HO283) hb); replace HO286 := Aside0.mk (Kd.R_below (xr HO286) hb); have BK297 := Aside0.mk (hbox); have GW297 := Aside0.mk ((by rw [hg]; exact (below_size (xh HB)) : w.heap.size ≤ gb297)); have GE297 := Aside0.mk ((by rw [hg]; exact (below_size (xh HB)) : w.heap.size ≤ gb297)); replace HB := Aside0.mk (below_step (xh HB) hb); have NB271_297 := Aside0.mk (xn1 hg BK271); have NB297_271 := Aside0.mk (xn2 hg BK271); replace BK271 := Aside0.mk (xbb BK271 hb); have NB272_297 := Aside0.mk (xn1 hg BK272); have NB297_272 := Aside0.mk (xn2 hg BK272); replace BK272 := Aside0.mk (xbb BK272 hb); obtain ⟨Ao37, co37, eo37⟩ := Kd.R_slice HO277.out
       (first | subst eo37 | (injection eo37 with f1_ f2_ f3_; have f4_ := f1_.symm; have f5_ := f3_.symm; clear f1_ f2_ f3_; subst f4_; subst f5_))
       obtain ⟨Ao38, co38, eo38⟩ := Kd.R_slice HO283.out
       (first | subst eo38 | (injection eo38 with f1_ f2_ f3_; have f4_ := f1_.symm; have f5_ := f3_.symm; clear f1_ f2_ f3_; subst f4_; subst f5_))
       obtain ⟨Ao39, co39, eo39⟩ := Kd.R_slice HO286.out
       (first | subst eo39 | (injection eo39 with f1_ f2_ f3_; have f4_ := f1_.symm; have f5_ := f3_.symm; clear f1_ f2_ f3_; subst f4_; subst f5_))
       refine hK.out _ _ (xk BK271 BK272) (fun hHeld => ?_)
       clear hK K
       refine norm_ (a' := ?_) ?_ ?_
       rotate_left
       ·show Act.put _ (some 6) _ = _
        simp only [Act.put, List.setIfInBounds_toArray, List.set_cons_zero, List.set_cons_succ, i64_w, i32_w]
        rfl
       refine one_ (i := 4) (N := some 32) #[true, true, true, true, true, false, false, false, true, false, false] rfl rfl (one_of HT_.out (by kernel_rfl)) (by decide) (fun K hK => ?_)
       refine goes_ Try.func6 (by kernel_rfl) rfl #[.agg #[.slice Ao37 t275.length co37, .int .i64 t278, .int .i64 t279, .int .i64 t280], .agg #[.slice Ao38 t281.length co38, .slice Ao39 t284.length co39, .int .i64 t287, .int .i64 t288, .int .i64 t289]] (by rfl) rfl rfl (by (try simp only [List.map_toArray, List.map_cons, List.map_nil]); first | done | rfl | (simp only [List.length_drop, List.length_take]; rfl)) ?_
       with_reducible refine (spec_ApplyEdit.calls k _ _ t275 t278 t279 t280 _ _ t281 _ _ t284 t287 t288 t289 t290 t293 t294 t295 t296 _ ?side1 ?side2 ?side3 ?side4 ?side5 ?side6 A21.out).mono ?_
       (case side1 => exact xc (Kd.R_reads' HO277.out).2.2)
       (case side2 => exact (Kd.R_reads' HO277.out).2.1)
       (case side3 => exact xc (Kd.R_reads' HO283.out).2.2)
       (case side4 => exact (Kd.R_reads' HO283.out).2.1)
       (case side5 => exact xc (Kd.R_reads' HO286.out).2.2)
       (case side6 => exact (Kd.R_reads' HO286.out).2.1)
       rintro e w40 ⟨v291, rfl, ho0, hb⟩
       refine ⟨_, rfl, ?_⟩
       replace HO286 := Aside0.mk (Kd.R_below (xr HO286) hb); have HO292 := Aside0.mk (Kd.R_lower (Kd.R_new' (Kd.R_new' ho0 (Kd.R_lt (xr HO277))) (Kd.R_lt (xr HO283))) (below_size (xh HB))); replace HO277 := Aside0.mk (Kd.R_elder' (xr HO277) (Kd.R_base ho0) hb); replace HO283 := Aside0.mk (Kd.R_elder' (xr HO283) (Kd.R_base ho0) hb); replace BK271 := Aside0.mk (xbb BK271 hb); replace BK272 := Aside0.mk (xbb BK272 hb); replace BK297 := Aside0.mk (xbb BK297 hb); replace HB := Aside0.mk (below_step (xh HB) hb)
       (try clear hb); (try clear hb2); (try clear hk); (try clear hi); (try clear ho0)
       refine hK.out _ _ (xk BK271 BK272) (fun hHeld => ?_)
       clear hK K
       refine norm_ (a' := ?_) ?_ ?_
       rotate_left
       ·show Act.put _ (some 32) _ = _
        simp only [Act.put, List.setIfInBounds_toArray, List.set_cons_zero, List.set_cons_succ, i64_w, i32_w]
        rfl
       refine pure_ (i := 5) (N := some 27) (v := ?_) (a' := ?_) #[true, true, true, true, true, true, false, false, true, false, false] rfl rfl (any_of HT_.out (by kernel_rfl)) (fun _ _ _ h => h) (Or.inl ⟨by rfl, ?_⟩) ?_ ?_
       rotate_left
       ·intro w'
        go_simp
        with_reducible rfl
       rotate_left
       ·simp only [Act.put, List.setIfInBounds_toArray, List.set_cons_zero, List.set_cons_succ, i64_w, i32_w]
        rfl
       refine pure_ (i := 6) (N := some 33) (v := ?_) (a' := ?_) #[true, true, true, true, true, true, true, false, true, false, false] rfl rfl (any_of HT_.out (by kernel_rfl)) (fun _ _ _ h => h) (Or.inl ⟨by rfl, ?_⟩) ?_ ?_
       rotate_left
       ·intro w'
        go_simp
        with_reducible rfl
       rotate_left
       ·simp only [Act.put, List.setIfInBounds_toArray, List.set_cons_zero, List.set_cons_succ, i64_w, i32_w]
        rfl
       refine pure_ (i := 7) (N := some 34) (v := ?_) (a' := ?_) #[true, true, true, true, true, true, true, true, true, false, false] rfl rfl (any_of HT_.out (by kernel_rfl)) (fun _ _ _ h => h) (Or.inl ⟨by rfl, ?_⟩) ?_ ?_
       rotate_left
       ·intro w'
        go_simp
        with_reducible rfl
       rotate_left
       ·simp only [Act.put, List.setIfInBounds_toArray, List.set_cons_zero, List.set_cons_succ, i64_w, i32_w]
        rfl
       exact norm_ (by simp only [putAll, Act.put, List.setIfInBounds_toArray, List.set_cons_zero, List.set_cons_succ]) (hCont (.slice Ao37 t275.length co37, .slice Ao38 t281.length co38, .slice Ao39 t284.length co39, v291, gb297) _ ⟨hHeld, (by (with_reducible repeat (first | apply Kd.R_alloc | apply Kd.R_drewN | apply Kd.R_drew)); exact Kd.R_mono HO277.out (fun _ hk => ⟨hk.1.2, hk.2⟩)), (by (with_reducible repeat (first | apply Kd.R_alloc | apply Kd.R_drewN | apply Kd.R_drew)); exact Kd.R_mono HO283.out (fun _ hk => ⟨hk.1.2, hk.2⟩)), (xr HO286), (by (with_reducible repeat (first | apply Kd.R_alloc | apply Kd.R_drewN | apply Kd.R_drew)); exact Kd.R_mono HO292.out (fun _ hk => ⟨hk.1.2, hk.2⟩)), (xb BK271), (xb BK272), (xb BK297), GW297.out, GE297.out, NB271_297.out, NB297_271.out, NB272_297.out, NB297_272.out, (xh HB)⟩)
     ·skip
      refine box_step ?hg (N := 6) ?hd (cs := #[.slice none 0 0, .int .i64 0, .int .i64 0, .int .i64 0]) (t := 32) ?hr ?_; (case hd => rfl); (case hg => rfl); (case hr => first | (go_simp; done) | (go_simp; rfl))
      intro gb297 hg w35 hbox hb
      replace HO277 := Aside0.mk (Kd.R_below (xr HO277) hb); have BK297 := Aside0.mk (hbox); have GW297 := Aside0.mk ((by rw [hg]; exact (below_size (xh HB)) : w.heap.size ≤ gb297)); have GE297 := Aside0.mk ((by rw [hg]; exact (below_size (xh HB)) : w.heap.size ≤ gb297)); replace HB := Aside0.mk (below_step (xh HB) hb); have NB271_297 := Aside0.mk (xn1 hg BK271); have NB297_271 := Aside0.mk (xn2 hg BK271); replace BK271 := Aside0.mk (xbb BK271 hb); have NB272_297 := Aside0.mk (xn1 hg BK272); have NB297_272 := Aside0.mk (xn2 hg BK272); replace BK272 := Aside0.mk (xbb BK272 hb)
      refine hK.out _ _ (xk BK271 BK272) (fun hHeld => ?_)
      clear hK K
      refine norm_ (a' := ?_) ?_ ?_
      rotate_left
      ·show Act.put _ (some 6) _ = _
       simp only [Act.put, List.setIfInBounds_toArray, List.set_cons_zero, List.set_cons_succ, i64_w, i32_w]
       rfl
      refine one_ (i := 3) (N := some 31) #[true, true, true, true, false, false, false, false, true, false, false] rfl rfl (one_of HT_.out (by kernel_rfl)) (by decide) (fun K hK => ?_)
      refine goes_ Try.func8 (by kernel_rfl) rfl #[.agg #[.slice A1_0 l1_0.length c1_0, .slice A1_1 l1_1.length c1_1, .int .i64 a1_2, .int .i64 a1_3, .int .i64 a1_4]] (by rfl) rfl rfl (by (try simp only [List.map_toArray, List.map_cons, List.map_nil]); first | done | rfl | (simp only [List.length_drop, List.length_take]; rfl)) ?_
      with_reducible refine (laws_toEdit.calls k _ _ l1_0 _ _ l1_1 a1_2 a1_3 a1_4 t281 t284 t287 t288 t289 _ ?side1 ?side2 ?side3 ?side4 A20.out).mono ?_
      (case side1 => exact xc (Kd.C_below HR1_0.out HB.out))
      (case side2 => exact HC1_0.out)
      (case side3 => exact xc (Kd.C_below HR1_1.out HB.out))
      (case side4 => exact HC1_1.out)
      rintro e w36 ⟨v282, v285, rfl, ho0, ho1, hb⟩
      refine ⟨_, rfl, ?_⟩
      have HO283 := Aside0.mk (Kd.R_lower (Kd.R_new' ho0 (Kd.R_lt (xr HO277))) (below_size (xh HB))); replace HO277 := Aside0.mk (Kd.R_elder' (xr HO277) (Kd.R_base ho0) hb); have HO286 := Aside0.mk (Kd.R_lower ho1 (below_size (xh HB))); replace BK271 := Aside0.mk (xbb BK271 hb); replace BK272 := Aside0.mk (xbb BK272 hb); replace BK297 := Aside0.mk (xbb BK297 hb); replace HB := Aside0.mk (below_step (xh HB) hb)
      (try clear hb); (try clear hb2); (try clear hk); (try clear hi); (try clear ho0); (try clear ho1)
      obtain ⟨Ao37, co37, eo37⟩ := Kd.R_slice HO277.out
      (first | subst eo37 | (injection eo37 with f1_ f2_ f3_; have f4_ := f1_.symm; have f5_ := f3_.symm; clear f1_ f2_ f3_; subst f4_; subst f5_))
      obtain ⟨Ao38, co38, eo38⟩ := Kd.R_slice HO283.out
      (first | subst eo38 | (injection eo38 with f1_ f2_ f3_; have f4_ := f1_.symm; have f5_ := f3_.symm; clear f1_ f2_ f3_; subst f4_; subst f5_))
      obtain ⟨Ao39, co39, eo39⟩ := Kd.R_slice HO286.out
      (first | subst eo39 | (injection eo39 with f1_ f2_ f3_; have f4_ := f1_.symm; have f5_ := f3_.symm; clear f1_ f2_ f3_; subst f4_; subst f5_))
      refine hK.out _ _ (xk BK271 BK272) (fun hHeld => ?_)
      clear hK K
      refine norm_ (a' := ?_) ?_ ?_
      rotate_left
      ·show Act.put _ (some 31) _ = _
       simp only [Act.put, List.setIfInBounds_toArray, List.set_cons_zero, List.set_cons_succ, i64_w, i32_w]
       rfl
      refine one_ (i := 4) (N := some 32) #[true, true, true, true, true, false, false, false, true, false, false] rfl rfl (one_of HT_.out (by kernel_rfl)) (by decide) (fun K hK => ?_)
      refine goes_ Try.func6 (by kernel_rfl) rfl #[.agg #[.slice Ao37 t275.length co37, .int .i64 t278, .int .i64 t279, .int .i64 t280], .agg #[.slice Ao38 t281.length co38, .slice Ao39 t284.length co39, .int .i64 t287, .int .i64 t288, .int .i64 t289]] (by rfl) rfl rfl (by (try simp only [List.map_toArray, List.map_cons, List.map_nil]); first | done | rfl | (simp only [List.length_drop, List.length_take]; rfl)) ?_
      with_reducible refine (spec_ApplyEdit.calls k _ _ t275 t278 t279 t280 _ _ t281 _ _ t284 t287 t288 t289 t290 t293 t294 t295 t296 _ ?side1 ?side2 ?side3 ?side4 ?side5 ?side6 A21.out).mono ?_
      (case side1 => exact xc (Kd.R_reads' HO277.out).2.2)
      (case side2 => exact (Kd.R_reads' HO277.out).2.1)
      (case side3 => exact xc (Kd.R_reads' HO283.out).2.2)
      (case side4 => exact (Kd.R_reads' HO283.out).2.1)
      (case side5 => exact xc (Kd.R_reads' HO286.out).2.2)
      (case side6 => exact (Kd.R_reads' HO286.out).2.1)
      rintro e w40 ⟨v291, rfl, ho0, hb⟩
      refine ⟨_, rfl, ?_⟩
      replace HO286 := Aside0.mk (Kd.R_below (xr HO286) hb); have HO292 := Aside0.mk (Kd.R_lower (Kd.R_new' (Kd.R_new' ho0 (Kd.R_lt (xr HO277))) (Kd.R_lt (xr HO283))) (below_size (xh HB))); replace HO277 := Aside0.mk (Kd.R_elder' (xr HO277) (Kd.R_base ho0) hb); replace HO283 := Aside0.mk (Kd.R_elder' (xr HO283) (Kd.R_base ho0) hb); replace BK271 := Aside0.mk (xbb BK271 hb); replace BK272 := Aside0.mk (xbb BK272 hb); replace BK297 := Aside0.mk (xbb BK297 hb); replace HB := Aside0.mk (below_step (xh HB) hb)
      (try clear hb); (try clear hb2); (try clear hk); (try clear hi); (try clear ho0)
      refine hK.out _ _ (xk BK271 BK272) (fun hHeld => ?_)
      clear hK K
      refine norm_ (a' := ?_) ?_ ?_
      rotate_left
      ·show Act.put _ (some 32) _ = _
       simp only [Act.put, List.setIfInBounds_toArray, List.set_cons_zero, List.set_cons_succ, i64_w, i32_w]
       rfl
      refine pure_ (i := 5) (N := some 27) (v := ?_) (a' := ?_) #[true, true, true, true, true, true, false, false, true, false, false] rfl rfl (any_of HT_.out (by kernel_rfl)) (fun _ _ _ h => h) (Or.inl ⟨by rfl, ?_⟩) ?_ ?_
      rotate_left
      ·intro w'
       go_simp
       with_reducible rfl
      rotate_left
      ·simp only [Act.put, List.setIfInBounds_toArray, List.set_cons_zero, List.set_cons_succ, i64_w, i32_w]
       rfl
      refine pure_ (i := 6) (N := some 33) (v := ?_) (a' := ?_) #[true, true, true, true, true, true, true, false, true, false, false] rfl rfl (any_of HT_.out (by kernel_rfl)) (fun _ _ _ h => h) (Or.inl ⟨by rfl, ?_⟩) ?_ ?_
      rotate_left
      ·intro w'
       go_simp
       with_reducible rfl
      rotate_left
      ·simp only [Act.put, List.setIfInBounds_toArray, List.set_cons_zero, List.set_cons_succ, i64_w, i32_w]
       rfl
      refine pure_ (i := 7) (N := some 34) (v := ?_) (a' := ?_) #[true, true, true, true, true, true, true, true, true, false, false] rfl rfl (any_of HT_.out (by kernel_rfl)) (fun _ _ _ h => h) (Or.inl ⟨by rfl, ?_⟩) ?_ ?_
      rotate_left
      ·intro w'
       go_simp
       with_reducible rfl
      rotate_left
      ·simp only [Act.put, List.setIfInBounds_toArray, List.set_cons_zero, List.set_cons_succ, i64_w, i32_w]
       rfl
      exact norm_ (by simp only [putAll, Act.put, List.setIfInBounds_toArray, List.set_cons_zero, List.set_cons_succ]) (hCont (.slice Ao37 t275.length co37, .slice Ao38 t281.length co38, .slice Ao39 t284.length co39, v291, gb297) _ ⟨hHeld, (by (with_reducible repeat (first | apply Kd.R_alloc | apply Kd.R_drewN | apply Kd.R_drew)); exact Kd.R_mono HO277.out (fun _ hk => ⟨hk.1.2, hk.2⟩)), (by (with_reducible repeat (first | apply Kd.R_alloc | apply Kd.R_drewN | apply Kd.R_drew)); exact Kd.R_mono HO283.out (fun _ hk => ⟨hk.1.2, hk.2⟩)), (xr HO286), (by (with_reducible repeat (first | apply Kd.R_alloc | apply Kd.R_drewN | apply Kd.R_drew)); exact Kd.R_mono HO292.out (fun _ hk => ⟨hk.1.2, hk.2⟩)), (xb BK271), (xb BK272), (xb BK297), GW297.out, GE297.out, NB271_297.out, NB297_271.out, NB272_297.out, NB297_272.out, (xh HB)⟩)
    ·skip
     refine box_step ?hg (N := 6) ?hd (cs := #[.slice none 0 0, .int .i64 0, .int .i64 0, .int .i64 0]) (t := 32) ?hr ?_; (case hd => rfl); (case hg => rfl); (case hr => first | (go_simp; done) | (go_simp; rfl))
     intro gb297 hg w34 hbox hb
     have BK297 := Aside0.mk (hbox); have GW297 := Aside0.mk ((by rw [hg]; exact (below_size (xh HB)) : w.heap.size ≤ gb297)); have GE297 := Aside0.mk ((by rw [hg]; exact (below_size (xh HB)) : w.heap.size ≤ gb297)); replace HB := Aside0.mk (below_step (xh HB) hb); have NB271_297 := Aside0.mk (xn1 hg BK271); have NB297_271 := Aside0.mk (xn2 hg BK271); replace BK271 := Aside0.mk (xbb BK271 hb); have NB272_297 := Aside0.mk (xn1 hg BK272); have NB297_272 := Aside0.mk (xn2 hg BK272); replace BK272 := Aside0.mk (xbb BK272 hb)
     refine hK.out _ _ (xk BK271 BK272) (fun hHeld => ?_)
     clear hK K
     refine norm_ (a' := ?_) ?_ ?_
     rotate_left
     ·show Act.put _ (some 6) _ = _
      simp only [Act.put, List.setIfInBounds_toArray, List.set_cons_zero, List.set_cons_succ, i64_w, i32_w]
      rfl
     refine one_ (i := 1) (N := some 29) #[true, true, true, false, false, false, false, false, true, false, false] rfl rfl (one_of HT_.out (by kernel_rfl)) (by decide) (fun K hK => ?_)
     refine goes_ Try.func7 (by kernel_rfl) rfl #[.agg #[.slice A0_0 l0_0.length c0_0, .int .i64 a0_1, .int .i64 a0_2, .int .i64 a0_3]] (by rfl) rfl rfl (by (try simp only [List.map_toArray, List.map_cons, List.map_nil]); first | done | rfl | (simp only [List.length_drop, List.length_take]; rfl)) ?_
     with_reducible refine (laws_toVersion.calls k _ _ l0_0 a0_1 a0_2 a0_3 t275 t278 t279 t280 _ ?side1 ?side2 A19.out).mono ?_
     (case side1 => exact xc (Kd.C_below HR0_0.out HB.out))
     (case side2 => exact HC0_0.out)
     rintro e w35 ⟨v276, rfl, ho0, hb⟩
     refine ⟨_, rfl, ?_⟩
     have HO277 := Aside0.mk (Kd.R_lower ho0 (below_size (xh HB))); replace BK271 := Aside0.mk (xbb BK271 hb); replace BK272 := Aside0.mk (xbb BK272 hb); replace BK297 := Aside0.mk (xbb BK297 hb); replace HB := Aside0.mk (below_step (xh HB) hb)
     (try clear hb); (try clear hb2); (try clear hk); (try clear hi); (try clear ho0)
     refine hK.out _ _ (xk BK271 BK272) (fun hHeld => ?_)
     clear hK K
     refine norm_ (a' := ?_) ?_ ?_
     rotate_left
     ·show Act.put _ (some 29) _ = _
      simp only [Act.put, List.setIfInBounds_toArray, List.set_cons_zero, List.set_cons_succ, i64_w, i32_w]
      rfl
     refine one_ (i := 3) (N := some 31) #[true, true, true, true, false, false, false, false, true, false, false] rfl rfl (one_of HT_.out (by kernel_rfl)) (by decide) (fun K hK => ?_)
     refine goes_ Try.func8 (by kernel_rfl) rfl #[.agg #[.slice A1_0 l1_0.length c1_0, .slice A1_1 l1_1.length c1_1, .int .i64 a1_2, .int .i64 a1_3, .int .i64 a1_4]] (by rfl) rfl rfl (by (try simp only [List.map_toArray, List.map_cons, List.map_nil]); first | done | rfl | (simp only [List.length_drop, List.length_take]; rfl)) ?_
     with_reducible refine (laws_toEdit.calls k _ _ l1_0 _ _ l1_1 a1_2 a1_3 a1_4 t281 t284 t287 t288 t289 _ ?side1 ?side2 ?side3 ?side4 A20.out).mono ?_
     (case side1 => exact xc (Kd.C_below HR1_0.out HB.out))
     (case side2 => exact HC1_0.out)
     (case side3 => exact xc (Kd.C_below HR1_1.out HB.out))
     (case side4 => exact HC1_1.out)
     rintro e w36 ⟨v282, v285, rfl, ho0, ho1, hb⟩
     refine ⟨_, rfl, ?_⟩
     have HO283 := Aside0.mk (Kd.R_lower (Kd.R_new' ho0 (Kd.R_lt (xr HO277))) (below_size (xh HB))); replace HO277 := Aside0.mk (Kd.R_elder' (xr HO277) (Kd.R_base ho0) hb); have HO286 := Aside0.mk (Kd.R_lower ho1 (below_size (xh HB))); replace BK271 := Aside0.mk (xbb BK271 hb); replace BK272 := Aside0.mk (xbb BK272 hb); replace BK297 := Aside0.mk (xbb BK297 hb); replace HB := Aside0.mk (below_step (xh HB) hb)
     (try clear hb); (try clear hb2); (try clear hk); (try clear hi); (try clear ho0); (try clear ho1)
     obtain ⟨Ao37, co37, eo37⟩ := Kd.R_slice HO277.out
     (first | subst eo37 | (injection eo37 with f1_ f2_ f3_; have f4_ := f1_.symm; have f5_ := f3_.symm; clear f1_ f2_ f3_; subst f4_; subst f5_))
     obtain ⟨Ao38, co38, eo38⟩ := Kd.R_slice HO283.out
     (first | subst eo38 | (injection eo38 with f1_ f2_ f3_; have f4_ := f1_.symm; have f5_ := f3_.symm; clear f1_ f2_ f3_; subst f4_; subst f5_))
     obtain ⟨Ao39, co39, eo39⟩ := Kd.R_slice HO286.out
     (first | subst eo39 | (injection eo39 with f1_ f2_ f3_; have f4_ := f1_.symm; have f5_ := f3_.symm; clear f1_ f2_ f3_; subst f4_; subst f5_))
     refine hK.out _ _ (xk BK271 BK272) (fun hHeld => ?_)
     clear hK K
     refine norm_ (a' := ?_) ?_ ?_
     rotate_left
     ·show Act.put _ (some 31) _ = _
      simp only [Act.put, List.setIfInBounds_toArray, List.set_cons_zero, List.set_cons_succ, i64_w, i32_w]
      rfl
     refine one_ (i := 4) (N := some 32) #[true, true, true, true, true, false, false, false, true, false, false] rfl rfl (one_of HT_.out (by kernel_rfl)) (by decide) (fun K hK => ?_)
     refine goes_ Try.func6 (by kernel_rfl) rfl #[.agg #[.slice Ao37 t275.length co37, .int .i64 t278, .int .i64 t279, .int .i64 t280], .agg #[.slice Ao38 t281.length co38, .slice Ao39 t284.length co39, .int .i64 t287, .int .i64 t288, .int .i64 t289]] (by rfl) rfl rfl (by (try simp only [List.map_toArray, List.map_cons, List.map_nil]); first | done | rfl | (simp only [List.length_drop, List.length_take]; rfl)) ?_
     with_reducible refine (spec_ApplyEdit.calls k _ _ t275 t278 t279 t280 _ _ t281 _ _ t284 t287 t288 t289 t290 t293 t294 t295 t296 _ ?side1 ?side2 ?side3 ?side4 ?side5 ?side6 A21.out).mono ?_
     (case side1 => exact xc (Kd.R_reads' HO277.out).2.2)
     (case side2 => exact (Kd.R_reads' HO277.out).2.1)
     (case side3 => exact xc (Kd.R_reads' HO283.out).2.2)
     (case side4 => exact (Kd.R_reads' HO283.out).2.1)
     (case side5 => exact xc (Kd.R_reads' HO286.out).2.2)
     (case side6 => exact (Kd.R_reads' HO286.out).2.1)
     rintro e w40 ⟨v291, rfl, ho0, hb⟩
     refine ⟨_, rfl, ?_⟩
     replace HO286 := Aside0.mk (Kd.R_below (xr HO286) hb); have HO292 := Aside0.mk (Kd.R_lower (Kd.R_new' (Kd.R_new' ho0 (Kd.R_lt (xr HO277))) (Kd.R_lt (xr HO283))) (below_size (xh HB))); replace HO277 := Aside0.mk (Kd.R_elder' (xr HO277) (Kd.R_base ho0) hb); replace HO283 := Aside0.mk (Kd.R_elder' (xr HO283) (Kd.R_base ho0) hb); replace BK271 := Aside0.mk (xbb BK271 hb); replace BK272 := Aside0.mk (xbb BK272 hb); replace BK297 := Aside0.mk (xbb BK297 hb); replace HB := Aside0.mk (below_step (xh HB) hb)
     (try clear hb); (try clear hb2); (try clear hk); (try clear hi); (try clear ho0)
     refine hK.out _ _ (xk BK271 BK272) (fun hHeld => ?_)
     clear hK K
     refine norm_ (a' := ?_) ?_ ?_
     rotate_left
     ·show Act.put _ (some 32) _ = _
      simp only [Act.put, List.setIfInBounds_toArray, List.set_cons_zero, List.set_cons_succ, i64_w, i32_w]
      rfl
     refine pure_ (i := 5) (N := some 27) (v := ?_) (a' := ?_) #[true, true, true, true, true, true, false, false, true, false, false] rfl rfl (any_of HT_.out (by kernel_rfl)) (fun _ _ _ h => h) (Or.inl ⟨by rfl, ?_⟩) ?_ ?_
     rotate_left
     ·intro w'
      go_simp
      with_reducible rfl
     rotate_left
     ·simp only [Act.put, List.setIfInBounds_toArray, List.set_cons_zero, List.set_cons_succ, i64_w, i32_w]
      rfl
     refine pure_ (i := 6) (N := some 33) (v := ?_) (a' := ?_) #[true, true, true, true, true, true, true, false, true, false, false] rfl rfl (any_of HT_.out (by kernel_rfl)) (fun _ _ _ h => h) (Or.inl ⟨by rfl, ?_⟩) ?_ ?_
     rotate_left
     ·intro w'
      go_simp
      with_reducible rfl
     rotate_left
     ·simp only [Act.put, List.setIfInBounds_toArray, List.set_cons_zero, List.set_cons_succ, i64_w, i32_w]
      rfl
     refine pure_ (i := 7) (N := some 34) (v := ?_) (a' := ?_) #[true, true, true, true, true, true, true, true, true, false, false] rfl rfl (any_of HT_.out (by kernel_rfl)) (fun _ _ _ h => h) (Or.inl ⟨by rfl, ?_⟩) ?_ ?_
     rotate_left
     ·intro w'
      go_simp
      with_reducible rfl
     rotate_left
     ·simp only [Act.put, List.setIfInBounds_toArray, List.set_cons_zero, List.set_cons_succ, i64_w, i32_w]
      rfl
     exact norm_ (by simp only [putAll, Act.put, List.setIfInBounds_toArray, List.set_cons_zero, List.set_cons_succ]) (hCont (.slice Ao37 t275.length co37, .slice Ao38 t281.length co38, .slice Ao39 t284.length co39, v291, gb297) _ ⟨hHeld, (by (with_reducible repeat (first | apply Kd.R_alloc | apply Kd.R_drewN | apply Kd.R_drew)); exact Kd.R_mono HO277.out (fun _ hk => ⟨hk.1.2, hk.2⟩)), (by (with_reducible repeat (first | apply Kd.R_alloc | apply Kd.R_drewN | apply Kd.R_drew)); exact Kd.R_mono HO283.out (fun _ hk => ⟨hk.1.2, hk.2⟩)), (xr HO286), (by (with_reducible repeat (first | apply Kd.R_alloc | apply Kd.R_drewN | apply Kd.R_drew)); exact Kd.R_mono HO292.out (fun _ hk => ⟨hk.1.2, hk.2⟩)), (xb BK271), (xb BK272), (xb BK297), GW297.out, GE297.out, NB271_297.out, NB297_271.out, NB272_297.out, NB297_272.out, (xh HB)⟩)
   rintro ⟨v276, v282, v285, v291, gb297⟩ w41 ⟨hS_, h0_, h1_, h2_, h3_, h4_, h5_, h6_, h7_, h8_, h9_, h10_, h11_, h12_, h13_⟩
   have HO277 : Aside0 (Kd.R k48 48 w41 w.heap.size (fun k_ => some k_ ≠ (v282 : Value).ownBlock ∧ some k_ ≠ (v291 : Value).ownBlock) v276 t275) := ⟨h0_⟩; have HO283 : Aside0 (Kd.R k48 48 w41 w.heap.size (fun k_ => some k_ ≠ (v276 : Value).ownBlock ∧ some k_ ≠ (v291 : Value).ownBlock) v282 t281) := ⟨h1_⟩; have HO286 : Aside0 (Kd.R (Kd.int .i64) 3 w41 w.heap.size (fun _ => True) v285 t284) := ⟨h2_⟩; have HO292 : Aside0 (Kd.R k48 48 w41 w.heap.size (fun k_ => some k_ ≠ (v276 : Value).ownBlock ∧ some k_ ≠ (v282 : Value).ownBlock) v291 t290) := ⟨h3_⟩; replace BK271 : Aside0 (w41.heap[gb271]? = some (.cells #[.slice A0_0 l0_0.length c0_0, .int .i64 a0_1, .int .i64 a0_2, .int .i64 a0_3] 24 (0, 0))) := ⟨h4_⟩; replace BK272 : Aside0 (w41.heap[gb272]? = some (.cells #[.slice A1_0 l1_0.length c1_0, .slice A1_1 l1_1.length c1_1, .int .i64 a1_2, .int .i64 a1_3, .int .i64 a1_4] 27 (0, 0))) := ⟨h5_⟩; have BK297 : Aside0 (w41.heap[gb297]? = some (.cells #[.slice none 0 0, .int .i64 0, .int .i64 0, .int .i64 0] 32 (0, 0))) := ⟨h6_⟩; have GW297 : Aside0 (w.heap.size ≤ gb297) := ⟨h7_⟩; have GE297 : Aside0 (w.heap.size ≤ gb297) := ⟨h8_⟩; have NB271_297 : Aside0 (gb271 ≠ gb297) := ⟨h9_⟩; have NB297_271 : Aside0 (gb297 ≠ gb271) := ⟨h10_⟩; have NB272_297 : Aside0 (gb272 ≠ gb297) := ⟨h11_⟩; have NB297_272 : Aside0 (gb297 ≠ gb272) := ⟨h12_⟩; replace HB : Aside0 (Below w.heap.size w w41) := ⟨h13_⟩; clear h0_ h1_ h2_ h3_ h4_ h5_ h6_ h7_ h8_ h9_ h10_ h11_ h12_ h13_; have hHeld : w41.cell? ⟨gb271, 0, none⟩ = some (.slice A0_0 l0_0.length c0_0) ∧ w41.cell? ⟨gb271, 1, none⟩ = some (.int .i64 a0_1) ∧ w41.cell? ⟨gb271, 2, none⟩ = some (.int .i64 a0_2) ∧ w41.cell? ⟨gb271, 3, none⟩ = some (.int .i64 a0_3) ∧ w41.cell? ⟨gb272, 0, none⟩ = some (.slice A1_0 l1_0.length c1_0) ∧ w41.cell? ⟨gb272, 1, none⟩ = some (.slice A1_1 l1_1.length c1_1) ∧ w41.cell? ⟨gb272, 2, none⟩ = some (.int .i64 a1_2) ∧ w41.cell? ⟨gb272, 3, none⟩ = some (.int .i64 a1_3) ∧ w41.cell? ⟨gb272, 4, none⟩ = some (.int .i64 a1_4) := hS_
   obtain ⟨Ao42, co42, eo42⟩ := Kd.R_slice HO292.out
   (first | subst eo42 | (injection eo42 with f1_ f2_ f3_; have f4_ := f1_.symm; have f5_ := f3_.symm; clear f1_ f2_ f3_; subst f4_; subst f5_))
   refine norm_ (a' := ?_) ?_ ?_
   rotate_left
   ·simp only [putAll, Act.put, List.setIfInBounds_toArray, List.set_cons_zero, List.set_cons_succ]
    rfl
   refine one_ (i := 9) (N := none) #[true, true, true, true, true, true, true, true, true, true, false] rfl rfl (one_of HT_.out (by kernel_rfl)) (by decide) (fun K hK => ?_)
   have hs43 : w41.cell? ⟨gb297, 0, none⟩ = some (.slice none 0 0) := (blk_cell BK297.out 0).trans rfl; have hfs43 := blk_frozen BK297.out 0; have hns43_0 := NB271_297.out; have hns43_1 := NB272_297.out; have hms43_0 := NB297_271.out; have hms43_1 := NB297_272.out; have hs44 : w41.cell? ⟨gb297, 1, none⟩ = some (.int .i64 0) := (blk_cell BK297.out 1).trans rfl; have hfs44 := blk_frozen BK297.out 1; have hns44_0 := NB271_297.out; have hns44_1 := NB272_297.out; have hms44_0 := NB297_271.out; have hms44_1 := NB297_272.out; have hs45 : w41.cell? ⟨gb297, 2, none⟩ = some (.int .i64 0) := (blk_cell BK297.out 2).trans rfl; have hfs45 := blk_frozen BK297.out 2; have hns45_0 := NB271_297.out; have hns45_1 := NB272_297.out; have hms45_0 := NB297_271.out; have hms45_1 := NB297_272.out; have hs46 : w41.cell? ⟨gb297, 3, none⟩ = some (.int .i64 0) := (blk_cell BK297.out 3).trans rfl; have hfs46 := blk_frozen BK297.out 3; have hns46_0 := NB271_297.out; have hns46_1 := NB272_297.out; have hms46_0 := NB297_271.out; have hms46_1 := NB297_272.out
   refine skip_ (w1 := ?_) (by rfl) rfl ?_ ?_
   rotate_left
   ·go_simp
    rfl
   refine hK.out _ _ ⟨((cell_far (p := ⟨gb297, _, none⟩) NB271_297.out _).trans (((cell_far (p := ⟨gb297, _, none⟩) NB271_297.out _).trans (((cell_far (p := ⟨gb297, _, none⟩) NB271_297.out _).trans (((cell_far (p := ⟨gb297, _, none⟩) NB271_297.out _).trans (hHeld.1)))))))), ((cell_far (p := ⟨gb297, _, none⟩) NB271_297.out _).trans (((cell_far (p := ⟨gb297, _, none⟩) NB271_297.out _).trans (((cell_far (p := ⟨gb297, _, none⟩) NB271_297.out _).trans (((cell_far (p := ⟨gb297, _, none⟩) NB271_297.out _).trans (hHeld.2.1)))))))), ((cell_far (p := ⟨gb297, _, none⟩) NB271_297.out _).trans (((cell_far (p := ⟨gb297, _, none⟩) NB271_297.out _).trans (((cell_far (p := ⟨gb297, _, none⟩) NB271_297.out _).trans (((cell_far (p := ⟨gb297, _, none⟩) NB271_297.out _).trans (hHeld.2.2.1)))))))), ((cell_far (p := ⟨gb297, _, none⟩) NB271_297.out _).trans (((cell_far (p := ⟨gb297, _, none⟩) NB271_297.out _).trans (((cell_far (p := ⟨gb297, _, none⟩) NB271_297.out _).trans (((cell_far (p := ⟨gb297, _, none⟩) NB271_297.out _).trans (hHeld.2.2.2.1)))))))), ((cell_far (p := ⟨gb297, _, none⟩) NB272_297.out _).trans (((cell_far (p := ⟨gb297, _, none⟩) NB272_297.out _).trans (((cell_far (p := ⟨gb297, _, none⟩) NB272_297.out _).trans (((cell_far (p := ⟨gb297, _, none⟩) NB272_297.out _).trans (hHeld.2.2.2.2.1)))))))), ((cell_far (p := ⟨gb297, _, none⟩) NB272_297.out _).trans (((cell_far (p := ⟨gb297, _, none⟩) NB272_297.out _).trans (((cell_far (p := ⟨gb297, _, none⟩) NB272_297.out _).trans (((cell_far (p := ⟨gb297, _, none⟩) NB272_297.out _).trans (hHeld.2.2.2.2.2.1)))))))), ((cell_far (p := ⟨gb297, _, none⟩) NB272_297.out _).trans (((cell_far (p := ⟨gb297, _, none⟩) NB272_297.out _).trans (((cell_far (p := ⟨gb297, _, none⟩) NB272_297.out _).trans (((cell_far (p := ⟨gb297, _, none⟩) NB272_297.out _).trans (hHeld.2.2.2.2.2.2.1)))))))), ((cell_far (p := ⟨gb297, _, none⟩) NB272_297.out _).trans (((cell_far (p := ⟨gb297, _, none⟩) NB272_297.out _).trans (((cell_far (p := ⟨gb297, _, none⟩) NB272_297.out _).trans (((cell_far (p := ⟨gb297, _, none⟩) NB272_297.out _).trans (hHeld.2.2.2.2.2.2.2.1)))))))), ((cell_far (p := ⟨gb297, _, none⟩) NB272_297.out _).trans (((cell_far (p := ⟨gb297, _, none⟩) NB272_297.out _).trans (((cell_far (p := ⟨gb297, _, none⟩) NB272_297.out _).trans (((cell_far (p := ⟨gb297, _, none⟩) NB272_297.out _).trans (hHeld.2.2.2.2.2.2.2.2))))))))⟩ (fun hHeld => ?_)
   clear hK K
   refine pure_ (i := 10) (N := some 7) (v := ?_) (a' := ?_) #[true, true, true, true, true, true, true, true, true, true, true] rfl rfl (any_of HT_.out (by kernel_rfl)) (fun _ _ _ h => h) (Or.inl ⟨by rfl, ?_⟩) ?_ ?_
   rotate_left
   ·intro w'
    go_simp
    with_reducible rfl
   rotate_left
   ·simp only [Act.put, List.setIfInBounds_toArray, List.set_cons_zero, List.set_cons_succ, i64_w, i32_w]
    rfl
   refine done_ (done_of HT_.out (by kernel_rfl)) ?_
   have hnb47 := NB271_297.out; have hnc47 := NB297_271.out; have hcz48_0 : w41.cell? ⟨gb271, 0, none⟩ = some (.slice A0_0 l0_0.length c0_0) := (blk_cell BK271.out 0).trans rfl; have hcz48_1 : w41.cell? ⟨gb271, 1, none⟩ = some (.int .i64 a0_1) := (blk_cell BK271.out 1).trans rfl; have hcz48_2 : w41.cell? ⟨gb271, 2, none⟩ = some (.int .i64 a0_2) := (blk_cell BK271.out 2).trans rfl; have hcz48_3 : w41.cell? ⟨gb271, 3, none⟩ = some (.int .i64 a0_3) := (blk_cell BK271.out 3).trans rfl; have hfz48_0 := blk_frozen BK271.out 0; have hfz48_1 := blk_frozen BK271.out 1; have hfz48_2 := blk_frozen BK271.out 2; have hfz48_3 := blk_frozen BK271.out 3
   go_upto_region 12 with (first | ((with_reducible refine gate_callee (f := 7) rfl ?_); refine goesL_ (some 36) rfl rfl Try.func7 (by kernel_rfl) rfl #[.agg #[.slice A0_0 l0_0.length c0_0, .int .i64 a0_1, .int .i64 a0_2, .int .i64 a0_3]] rfl (by (try simp only [List.map_toArray, List.map_cons, List.map_nil]); first | done | rfl | (simp only [List.length_drop, List.length_take]; rfl)) ?_; (with_reducible refine (laws_toVersion.calls k _ _ l0_0 a0_1 a0_2 a0_3 t298 t301 t302 t303 _ ?side1 ?side2 A22.out).mono ?_); (case side1 => exact Kd.C_below HR0_0.out (xh HB)); (case side2 => exact HC0_0.out); rintro e w49 ⟨v299, rfl, ho0, hb⟩; refine ⟨_, rfl, ?_⟩; replace HO286 := Aside0.mk (Kd.R_below (xs4 HO286 BK297 _ _ _ _) hb); have HO300 := Aside0.mk (Kd.R_lower (Kd.R_new' (Kd.R_new' (Kd.R_new' ho0 (Kd.R_lt (xs4 HO277 BK297 _ _ _ _))) (Kd.R_lt (xs4 HO283 BK297 _ _ _ _))) (Kd.R_lt (xs4 HO292 BK297 _ _ _ _))) (below_size (xh HB))); replace HO277 := Aside0.mk (Kd.R_elder' (xs4 HO277 BK297 _ _ _ _) (Kd.R_base ho0) hb); replace HO283 := Aside0.mk (Kd.R_elder' (xs4 HO283 BK297 _ _ _ _) (Kd.R_base ho0) hb); replace HO292 := Aside0.mk (Kd.R_elder' (xs4 HO292 BK297 _ _ _ _) (Kd.R_base ho0) hb); replace BK271 := Aside0.mk (xbb BK271 hb); replace BK272 := Aside0.mk (xbb BK272 hb); replace BK297 := Aside0.mk (blk_below (g := gb297) (o := .cells #[.slice Ao42 t290.length co42, .int .i64 t293, .int .i64 t294, .int .i64 t295] 32 (0, 0)) (by (with_reducible repeat (first | refine blk_drewN ?_ _ | refine blk_drew ?_ | refine blk_alloc ?_ _)); refine blk_put (cs := #[.slice Ao42 t290.length co42, .int .i64 t293, .int .i64 t294, .int .i64 0]) ?_ 3 _ rfl; (with_reducible repeat (first | refine blk_drewN ?_ _ | refine blk_drew ?_ | refine blk_alloc ?_ _)); refine blk_put (cs := #[.slice Ao42 t290.length co42, .int .i64 t293, .int .i64 0, .int .i64 0]) ?_ 2 _ rfl; (with_reducible repeat (first | refine blk_drewN ?_ _ | refine blk_drew ?_ | refine blk_alloc ?_ _)); refine blk_put (cs := #[.slice Ao42 t290.length co42, .int .i64 0, .int .i64 0, .int .i64 0]) ?_ 1 _ rfl; (with_reducible repeat (first | refine blk_drewN ?_ _ | refine blk_drew ?_ | refine blk_alloc ?_ _)); refine blk_put (cs := #[.slice none 0 0, .int .i64 0, .int .i64 0, .int .i64 0]) ?_ 0 _ rfl; (with_reducible repeat (first | refine blk_drewN ?_ _ | refine blk_drew ?_ | refine blk_alloc ?_ _)); exact BK297.out) hb); replace HB := Aside0.mk (below_step (xh HB) hb); (try clear hb); (try clear hb2); (try clear hk); (try clear hi); (try clear ho0)) | ((with_reducible refine gate_dst (N := 8) rfl ?_); refine box_event ?hg (N := 8) ?hd (cs := #[.slice none 0 0, .int .i64 0, .int .i64 0, .int .i64 0]) (t := 32) ?hr ?_; (case hd => rfl); (case hg => rfl); (case hr => first | (go_simp; done) | (go_simp; rfl)); intro gb304 hg w50 hbox hb; replace HO277 := Aside0.mk (Kd.R_below (xr HO277) hb); replace HO283 := Aside0.mk (Kd.R_below (xr HO283) hb); replace HO286 := Aside0.mk (Kd.R_below (xr HO286) hb); replace HO292 := Aside0.mk (Kd.R_below (xr HO292) hb); replace HO300 := Aside0.mk (Kd.R_below (xr HO300) hb); have BK304 := Aside0.mk (hbox); have GW304 := Aside0.mk ((by rw [hg]; exact (below_size (xh HB)) : w.heap.size ≤ gb304)); have GE304 := Aside0.mk ((by rw [hg]; exact (below_size (xh HB)) : w.heap.size ≤ gb304)); replace HB := Aside0.mk (below_step (xh HB) hb); have NB271_304 := Aside0.mk (xn1 hg BK271); have NB304_271 := Aside0.mk (xn2 hg BK271); replace BK271 := Aside0.mk (xbb BK271 hb); have NB272_304 := Aside0.mk (xn1 hg BK272); have NB304_272 := Aside0.mk (xn2 hg BK272); replace BK272 := Aside0.mk (xbb BK272 hb); have NB297_304 := Aside0.mk (xn1 hg BK297); have NB304_297 := Aside0.mk (xn2 hg BK297); replace BK297 := Aside0.mk (xbb BK297 hb); clear hb hbox hg; obtain ⟨Ao51, co51, eo51⟩ := Kd.R_slice HO300.out; subst eo51; have hnb52 := NB304_271.out; have hnc52 := NB271_304.out; have hnb53 := NB304_272.out; have hnc53 := NB272_304.out; have hnb54 := NB304_297.out; have hnc54 := NB297_304.out; have hcz55_0 : w50.cell? ⟨gb304, 0, none⟩ = some (.slice none 0 0) := (blk_cell BK304.out 0).trans rfl; have hcz55_1 : w50.cell? ⟨gb304, 1, none⟩ = some (.int .i64 0) := (blk_cell BK304.out 1).trans rfl; have hcz55_2 : w50.cell? ⟨gb304, 2, none⟩ = some (.int .i64 0) := (blk_cell BK304.out 2).trans rfl; have hcz55_3 : w50.cell? ⟨gb304, 3, none⟩ = some (.int .i64 0) := (blk_cell BK304.out 3).trans rfl; have hfz55_0 := blk_frozen BK304.out 0; have hfz55_1 := blk_frozen BK304.out 1; have hfz55_2 := blk_frozen BK304.out 2; have hfz55_3 := blk_frozen BK304.out 3; have hnb56 := NB272_297.out; have hnc56 := NB297_272.out; have hcz57_0 : w50.cell? ⟨gb272, 0, none⟩ = some (.slice A1_0 l1_0.length c1_0) := (blk_cell BK272.out 0).trans rfl; have hcz57_1 : w50.cell? ⟨gb272, 1, none⟩ = some (.slice A1_1 l1_1.length c1_1) := (blk_cell BK272.out 1).trans rfl; have hcz57_2 : w50.cell? ⟨gb272, 2, none⟩ = some (.int .i64 a1_2) := (blk_cell BK272.out 2).trans rfl; have hcz57_3 : w50.cell? ⟨gb272, 3, none⟩ = some (.int .i64 a1_3) := (blk_cell BK272.out 3).trans rfl; have hcz57_4 : w50.cell? ⟨gb272, 4, none⟩ = some (.int .i64 a1_4) := (blk_cell BK272.out 4).trans rfl; have hfz57_0 := blk_frozen BK272.out 0; have hfz57_1 := blk_frozen BK272.out 1; have hfz57_2 := blk_frozen BK272.out 2; have hfz57_3 := blk_frozen BK272.out 3; have hfz57_4 := blk_frozen BK272.out 4) | ((with_reducible refine gate_callee (f := 8) rfl ?_); refine goesL_ (some 38) rfl rfl Try.func8 (by kernel_rfl) rfl #[.agg #[.slice A1_0 l1_0.length c1_0, .slice A1_1 l1_1.length c1_1, .int .i64 a1_2, .int .i64 a1_3, .int .i64 a1_4]] rfl (by (try simp only [List.map_toArray, List.map_cons, List.map_nil]); first | done | rfl | (simp only [List.length_drop, List.length_take]; rfl)) ?_; (with_reducible refine (laws_toEdit.calls k _ _ l1_0 _ _ l1_1 a1_2 a1_3 a1_4 t305 t308 t311 t312 t313 _ ?side1 ?side2 ?side3 ?side4 A23.out).mono ?_); (case side1 => exact Kd.C_below HR1_0.out (xh HB)); (case side2 => exact HC1_0.out); (case side3 => exact Kd.C_below HR1_1.out (xh HB)); (case side4 => exact HC1_1.out); rintro e w58 ⟨v306, v309, rfl, ho0, ho1, hb⟩; refine ⟨_, rfl, ?_⟩; have HO307 := Aside0.mk (Kd.R_lower (Kd.R_new' (Kd.R_new' (Kd.R_new' (Kd.R_new' ho0 (Kd.R_lt (xs4 HO277 BK304 _ _ _ _))) (Kd.R_lt (xs4 HO283 BK304 _ _ _ _))) (Kd.R_lt (xs4 HO292 BK304 _ _ _ _))) (Kd.R_lt (xs4 HO300 BK304 _ _ _ _))) (below_size (xh HB))); replace HO277 := Aside0.mk (Kd.R_elder' (xs4 HO277 BK304 _ _ _ _) (Kd.R_base ho0) hb); replace HO283 := Aside0.mk (Kd.R_elder' (xs4 HO283 BK304 _ _ _ _) (Kd.R_base ho0) hb); replace HO292 := Aside0.mk (Kd.R_elder' (xs4 HO292 BK304 _ _ _ _) (Kd.R_base ho0) hb); replace HO300 := Aside0.mk (Kd.R_elder' (xs4 HO300 BK304 _ _ _ _) (Kd.R_base ho0) hb); have HO310 := Aside0.mk (Kd.R_lower (Kd.R_new' ho1 (Kd.R_lt (xs4 HO286 BK304 _ _ _ _))) (below_size (xh HB))); replace HO286 := Aside0.mk (Kd.R_elder' (xs4 HO286 BK304 _ _ _ _) (Kd.R_base ho1) hb); replace BK271 := Aside0.mk (xbb BK271 hb); replace BK272 := Aside0.mk (xbb BK272 hb); replace BK297 := Aside0.mk (xbb BK297 hb); replace BK304 := Aside0.mk (blk_below (g := gb304) (o := .cells #[.slice Ao51 t298.length co51, .int .i64 t301, .int .i64 t302, .int .i64 t303] 32 (0, 0)) (by (with_reducible repeat (first | refine blk_drewN ?_ _ | refine blk_drew ?_ | refine blk_alloc ?_ _)); refine blk_put (cs := #[.slice Ao51 t298.length co51, .int .i64 t301, .int .i64 t302, .int .i64 0]) ?_ 3 _ rfl; (with_reducible repeat (first | refine blk_drewN ?_ _ | refine blk_drew ?_ | refine blk_alloc ?_ _)); refine blk_put (cs := #[.slice Ao51 t298.length co51, .int .i64 t301, .int .i64 0, .int .i64 0]) ?_ 2 _ rfl; (with_reducible repeat (first | refine blk_drewN ?_ _ | refine blk_drew ?_ | refine blk_alloc ?_ _)); refine blk_put (cs := #[.slice Ao51 t298.length co51, .int .i64 0, .int .i64 0, .int .i64 0]) ?_ 1 _ rfl; (with_reducible repeat (first | refine blk_drewN ?_ _ | refine blk_drew ?_ | refine blk_alloc ?_ _)); refine blk_put (cs := #[.slice none 0 0, .int .i64 0, .int .i64 0, .int .i64 0]) ?_ 0 _ rfl; (with_reducible repeat (first | refine blk_drewN ?_ _ | refine blk_drew ?_ | refine blk_alloc ?_ _)); exact BK304.out) hb); replace HB := Aside0.mk (below_step (xh HB) hb); (try clear hb); (try clear hb2); (try clear hk); (try clear hi); (try clear ho0); (try clear ho1)) | ((with_reducible refine gate_dst (N := 9) rfl ?_); refine box_event ?hg (N := 9) ?hd (cs := #[.slice none 0 0, .slice none 0 0, .int .i64 0, .int .i64 0, .int .i64 0]) (t := 37) ?hr ?_; (case hd => rfl); (case hg => rfl); (case hr => first | (go_simp; done) | (go_simp; rfl)); intro gb314 hg w59 hbox hb; replace HO277 := Aside0.mk (Kd.R_below (xr HO277) hb); replace HO283 := Aside0.mk (Kd.R_below (xr HO283) hb); replace HO286 := Aside0.mk (Kd.R_below (xr HO286) hb); replace HO292 := Aside0.mk (Kd.R_below (xr HO292) hb); replace HO300 := Aside0.mk (Kd.R_below (xr HO300) hb); replace HO307 := Aside0.mk (Kd.R_below (xr HO307) hb); replace HO310 := Aside0.mk (Kd.R_below (xr HO310) hb); have BK314 := Aside0.mk (hbox); have GW314 := Aside0.mk ((by rw [hg]; exact (below_size (xh HB)) : w.heap.size ≤ gb314)); have GE314 := Aside0.mk ((by rw [hg]; exact (below_size (xh HB)) : w.heap.size ≤ gb314)); replace HB := Aside0.mk (below_step (xh HB) hb); have NB271_314 := Aside0.mk (xn1 hg BK271); have NB314_271 := Aside0.mk (xn2 hg BK271); replace BK271 := Aside0.mk (xbb BK271 hb); have NB272_314 := Aside0.mk (xn1 hg BK272); have NB314_272 := Aside0.mk (xn2 hg BK272); replace BK272 := Aside0.mk (xbb BK272 hb); have NB297_314 := Aside0.mk (xn1 hg BK297); have NB314_297 := Aside0.mk (xn2 hg BK297); replace BK297 := Aside0.mk (xbb BK297 hb); have NB304_314 := Aside0.mk (xn1 hg BK304); have NB314_304 := Aside0.mk (xn2 hg BK304); replace BK304 := Aside0.mk (xbb BK304 hb); clear hb hbox hg; obtain ⟨Ao60, co60, eo60⟩ := Kd.R_slice HO307.out; subst eo60; have hnb61 := NB314_271.out; have hnc61 := NB271_314.out; have hnb62 := NB314_272.out; have hnc62 := NB272_314.out; have hnb63 := NB314_297.out; have hnc63 := NB297_314.out; have hnb64 := NB314_304.out; have hnc64 := NB304_314.out; have hcz65_0 : w59.cell? ⟨gb314, 0, none⟩ = some (.slice none 0 0) := (blk_cell BK314.out 0).trans rfl; have hcz65_1 : w59.cell? ⟨gb314, 1, none⟩ = some (.slice none 0 0) := (blk_cell BK314.out 1).trans rfl; have hcz65_2 : w59.cell? ⟨gb314, 2, none⟩ = some (.int .i64 0) := (blk_cell BK314.out 2).trans rfl; have hcz65_3 : w59.cell? ⟨gb314, 3, none⟩ = some (.int .i64 0) := (blk_cell BK314.out 3).trans rfl; have hcz65_4 : w59.cell? ⟨gb314, 4, none⟩ = some (.int .i64 0) := (blk_cell BK314.out 4).trans rfl; have hfz65_0 := blk_frozen BK314.out 0; have hfz65_1 := blk_frozen BK314.out 1; have hfz65_2 := blk_frozen BK314.out 2; have hfz65_3 := blk_frozen BK314.out 3; have hfz65_4 := blk_frozen BK314.out 4; obtain ⟨Ao66, co66, eo66⟩ := Kd.R_slice HO310.out; subst eo66; have hcz67_0 : w59.cell? ⟨gb304, 0, none⟩ = some (.slice Ao51 t298.length co51) := (blk_cell BK304.out 0).trans rfl; have hcz67_1 : w59.cell? ⟨gb304, 1, none⟩ = some (.int .i64 t301) := (blk_cell BK304.out 1).trans rfl; have hcz67_2 : w59.cell? ⟨gb304, 2, none⟩ = some (.int .i64 t302) := (blk_cell BK304.out 2).trans rfl; have hcz67_3 : w59.cell? ⟨gb304, 3, none⟩ = some (.int .i64 t303) := (blk_cell BK304.out 3).trans rfl; have hfz67_0 := blk_frozen BK304.out 0; have hfz67_1 := blk_frozen BK304.out 1; have hfz67_2 := blk_frozen BK304.out 2; have hfz67_3 := blk_frozen BK304.out 3) | ((with_reducible refine gate_callee (f := 9) rfl ?_); refine goesL_ (some 42) rfl rfl Try.func9 (by kernel_rfl) rfl #[.agg #[.slice Ao51 t298.length co51, .int .i64 t301, .int .i64 t302, .int .i64 t303], .agg #[.slice Ao60 t305.length co60, .slice Ao66 t308.length co66, .int .i64 t311, .int .i64 t312, .int .i64 t313]] rfl (by (try simp only [List.map_toArray, List.map_cons, List.map_nil]); first | done | rfl | (simp only [List.length_drop, List.length_take]; rfl)) ?_; (with_reducible refine (impl_ApplyEdit.calls k _ _ t298 t301 t302 t303 _ _ t305 _ _ t308 t311 t312 t313 t315 t318 t319 t320 t321 _ ?side1 ?side2 ?side3 ?side4 ?side5 ?side6 A24.out).mono ?_); (case side1 => refine (Kd.R_reads' (e := 48) (base := w.heap.size) (ok := fun k_ => ((((True ∧ some k_ ≠ (v276 : Value).ownBlock) ∧ some k_ ≠ (v282 : Value).ownBlock) ∧ some k_ ≠ (.slice Ao42 t290.length co42 : Value).ownBlock) ∧ some k_ ≠ (.slice Ao60 t305.length co60 : Value).ownBlock)) (n := t298.length) (c := co51) ?_).2.2; exact (xs5 HO300 BK314 _ _ _ _ _)); (case side2 => exact (Kd.R_reads' HO300.out).2.1); (case side3 => refine (Kd.R_reads' (e := 48) (base := w.heap.size) (ok := fun k_ => ((((True ∧ some k_ ≠ (v276 : Value).ownBlock) ∧ some k_ ≠ (v282 : Value).ownBlock) ∧ some k_ ≠ (.slice Ao42 t290.length co42 : Value).ownBlock) ∧ some k_ ≠ (.slice Ao51 t298.length co51 : Value).ownBlock)) (n := t305.length) (c := co60) ?_).2.2; exact (xs5 HO307 BK314 _ _ _ _ _)); (case side4 => exact (Kd.R_reads' HO307.out).2.1); (case side5 => refine (Kd.R_reads' (e := 3) (base := w.heap.size) (ok := fun k_ => (True ∧ some k_ ≠ (v285 : Value).ownBlock)) (n := t308.length) (c := co66) ?_).2.2; exact (xs5 HO310 BK314 _ _ _ _ _)); (case side6 => exact (Kd.R_reads' HO310.out).2.1); rintro e w68 ⟨v316, rfl, ho0, hb⟩; refine ⟨_, rfl, ?_⟩; replace HO286 := Aside0.mk (Kd.R_below (xs5 HO286 BK314 _ _ _ _ _) hb); replace HO310 := Aside0.mk (Kd.R_below (xs5 HO310 BK314 _ _ _ _ _) hb); have HO317 := Aside0.mk (Kd.R_lower (Kd.R_new' (Kd.R_new' (Kd.R_new' (Kd.R_new' (Kd.R_new' ho0 (Kd.R_lt (xs5 HO277 BK314 _ _ _ _ _))) (Kd.R_lt (xs5 HO283 BK314 _ _ _ _ _))) (Kd.R_lt (xs5 HO292 BK314 _ _ _ _ _))) (Kd.R_lt (xs5 HO300 BK314 _ _ _ _ _))) (Kd.R_lt (xs5 HO307 BK314 _ _ _ _ _))) (below_size (xh HB))); replace HO277 := Aside0.mk (Kd.R_elder' (xs5 HO277 BK314 _ _ _ _ _) (Kd.R_base ho0) hb); replace HO283 := Aside0.mk (Kd.R_elder' (xs5 HO283 BK314 _ _ _ _ _) (Kd.R_base ho0) hb); replace HO292 := Aside0.mk (Kd.R_elder' (xs5 HO292 BK314 _ _ _ _ _) (Kd.R_base ho0) hb); replace HO300 := Aside0.mk (Kd.R_elder' (xs5 HO300 BK314 _ _ _ _ _) (Kd.R_base ho0) hb); replace HO307 := Aside0.mk (Kd.R_elder' (xs5 HO307 BK314 _ _ _ _ _) (Kd.R_base ho0) hb); replace BK271 := Aside0.mk (xbb BK271 hb); replace BK272 := Aside0.mk (xbb BK272 hb); replace BK297 := Aside0.mk (xbb BK297 hb); replace BK304 := Aside0.mk (xbb BK304 hb); replace BK314 := Aside0.mk (blk_below (g := gb314) (o := .cells #[.slice Ao60 t305.length co60, .slice Ao66 t308.length co66, .int .i64 t311, .int .i64 t312, .int .i64 t313] 37 (0, 0)) (by (with_reducible repeat (first | refine blk_drewN ?_ _ | refine blk_drew ?_ | refine blk_alloc ?_ _)); refine blk_put (cs := #[.slice Ao60 t305.length co60, .slice Ao66 t308.length co66, .int .i64 t311, .int .i64 t312, .int .i64 0]) ?_ 4 _ rfl; (with_reducible repeat (first | refine blk_drewN ?_ _ | refine blk_drew ?_ | refine blk_alloc ?_ _)); refine blk_put (cs := #[.slice Ao60 t305.length co60, .slice Ao66 t308.length co66, .int .i64 t311, .int .i64 0, .int .i64 0]) ?_ 3 _ rfl; (with_reducible repeat (first | refine blk_drewN ?_ _ | refine blk_drew ?_ | refine blk_alloc ?_ _)); refine blk_put (cs := #[.slice Ao60 t305.length co60, .slice Ao66 t308.length co66, .int .i64 0, .int .i64 0, .int .i64 0]) ?_ 2 _ rfl; (with_reducible repeat (first | refine blk_drewN ?_ _ | refine blk_drew ?_ | refine blk_alloc ?_ _)); refine blk_put (cs := #[.slice Ao60 t305.length co60, .slice none 0 0, .int .i64 0, .int .i64 0, .int .i64 0]) ?_ 1 _ rfl; (with_reducible repeat (first | refine blk_drewN ?_ _ | refine blk_drew ?_ | refine blk_alloc ?_ _)); refine blk_put (cs := #[.slice none 0 0, .slice none 0 0, .int .i64 0, .int .i64 0, .int .i64 0]) ?_ 0 _ rfl; (with_reducible repeat (first | refine blk_drewN ?_ _ | refine blk_drew ?_ | refine blk_alloc ?_ _)); exact BK314.out) hb); replace HB := Aside0.mk (below_step (xh HB) hb); (try clear hb); (try clear hb2); (try clear hk); (try clear hi); (try clear ho0)) | ((with_reducible refine gate_dst (N := 10) rfl ?_); refine box_event ?hg (N := 10) ?hd (cs := #[.slice none 0 0, .int .i64 0, .int .i64 0, .int .i64 0]) (t := 32) ?hr ?_; (case hd => rfl); (case hg => rfl); (case hr => first | (go_simp; done) | (go_simp; rfl)); intro gb322 hg w69 hbox hb; replace HO277 := Aside0.mk (Kd.R_below (xr HO277) hb); replace HO283 := Aside0.mk (Kd.R_below (xr HO283) hb); replace HO286 := Aside0.mk (Kd.R_below (xr HO286) hb); replace HO292 := Aside0.mk (Kd.R_below (xr HO292) hb); replace HO300 := Aside0.mk (Kd.R_below (xr HO300) hb); replace HO307 := Aside0.mk (Kd.R_below (xr HO307) hb); replace HO310 := Aside0.mk (Kd.R_below (xr HO310) hb); replace HO317 := Aside0.mk (Kd.R_below (xr HO317) hb); have BK322 := Aside0.mk (hbox); have GW322 := Aside0.mk ((by rw [hg]; exact (below_size (xh HB)) : w.heap.size ≤ gb322)); have GE322 := Aside0.mk ((by rw [hg]; exact (below_size (xh HB)) : w.heap.size ≤ gb322)); replace HB := Aside0.mk (below_step (xh HB) hb); have NB271_322 := Aside0.mk (xn1 hg BK271); have NB322_271 := Aside0.mk (xn2 hg BK271); replace BK271 := Aside0.mk (xbb BK271 hb); have NB272_322 := Aside0.mk (xn1 hg BK272); have NB322_272 := Aside0.mk (xn2 hg BK272); replace BK272 := Aside0.mk (xbb BK272 hb); have NB297_322 := Aside0.mk (xn1 hg BK297); have NB322_297 := Aside0.mk (xn2 hg BK297); replace BK297 := Aside0.mk (xbb BK297 hb); have NB304_322 := Aside0.mk (xn1 hg BK304); have NB322_304 := Aside0.mk (xn2 hg BK304); replace BK304 := Aside0.mk (xbb BK304 hb); have NB314_322 := Aside0.mk (xn1 hg BK314); have NB322_314 := Aside0.mk (xn2 hg BK314); replace BK314 := Aside0.mk (xbb BK314 hb); clear hb hbox hg; obtain ⟨Ao70, co70, eo70⟩ := Kd.R_slice HO317.out; subst eo70; have hnb71 := NB322_271.out; have hnc71 := NB271_322.out; have hnb72 := NB322_272.out; have hnc72 := NB272_322.out; have hnb73 := NB322_297.out; have hnc73 := NB297_322.out; have hnb74 := NB322_304.out; have hnc74 := NB304_322.out; have hnb75 := NB322_314.out; have hnc75 := NB314_322.out; have hcz76_0 : w69.cell? ⟨gb322, 0, none⟩ = some (.slice none 0 0) := (blk_cell BK322.out 0).trans rfl; have hcz76_1 : w69.cell? ⟨gb322, 1, none⟩ = some (.int .i64 0) := (blk_cell BK322.out 1).trans rfl; have hcz76_2 : w69.cell? ⟨gb322, 2, none⟩ = some (.int .i64 0) := (blk_cell BK322.out 2).trans rfl; have hcz76_3 : w69.cell? ⟨gb322, 3, none⟩ = some (.int .i64 0) := (blk_cell BK322.out 3).trans rfl; have hfz76_0 := blk_frozen BK322.out 0; have hfz76_1 := blk_frozen BK322.out 1; have hfz76_2 := blk_frozen BK322.out 2; have hfz76_3 := blk_frozen BK322.out 3))
   (try simp only [Act.put, List.setIfInBounds_toArray, List.set_cons_zero, List.set_cons_succ])
   go_cut [53] (fun v53 wc => ∃ (kq : Nat) (x53_24 : Bool), v53 = .bool x53_24 ∧ Aside0 (laws_FnExactApplyEdit.j0 kq t296 t321 x53_24 l0_0 a0_1 a0_2 a0_3 l1_0 l1_1 a1_2 a1_3 a1_4 t290 t293 t294 t295 t298 t301 t302 t303 t305 t308 t311 t312 t313 t315 t318 t319 t320 = some true) ∧ Aside0 (kq ≤ k) ∧ Aside0 (Kd.R k48 48 wc w.heap.size (fun k_ => some k_ ≠ ((.slice Ao51 t298.length co51) : Value).ownBlock ∧ some k_ ≠ ((.slice Ao60 t305.length co60) : Value).ownBlock ∧ some k_ ≠ ((.slice Ao70 t315.length co70) : Value).ownBlock) (.slice Ao42 t290.length co42) t290) ∧ Aside0 (Kd.R k48 48 wc w.heap.size (fun k_ => some k_ ≠ ((.slice Ao42 t290.length co42) : Value).ownBlock ∧ some k_ ≠ ((.slice Ao60 t305.length co60) : Value).ownBlock ∧ some k_ ≠ ((.slice Ao70 t315.length co70) : Value).ownBlock) (.slice Ao51 t298.length co51) t298) ∧ Aside0 (Kd.R k48 48 wc w.heap.size (fun k_ => some k_ ≠ ((.slice Ao42 t290.length co42) : Value).ownBlock ∧ some k_ ≠ ((.slice Ao51 t298.length co51) : Value).ownBlock ∧ some k_ ≠ ((.slice Ao70 t315.length co70) : Value).ownBlock) (.slice Ao60 t305.length co60) t305) ∧ Aside0 (Kd.R (Kd.int .i64) 3 wc w.heap.size (fun _ => True) (.slice Ao66 t308.length co66) t308) ∧ Aside0 (Kd.R k48 48 wc w.heap.size (fun k_ => some k_ ≠ ((.slice Ao42 t290.length co42) : Value).ownBlock ∧ some k_ ≠ ((.slice Ao51 t298.length co51) : Value).ownBlock ∧ some k_ ≠ ((.slice Ao60 t305.length co60) : Value).ownBlock) (.slice Ao70 t315.length co70) t315) ∧ Aside0 (wc.heap[gb271]? = some (.cells #[(.slice A0_0 l0_0.length c0_0), .int .i64 a0_1, .int .i64 a0_2, .int .i64 a0_3] 24 (0, 0))) ∧ Aside0 (wc.heap[gb272]? = some (.cells #[(.slice A1_0 l1_0.length c1_0), (.slice A1_1 l1_1.length c1_1), .int .i64 a1_2, .int .i64 a1_3, .int .i64 a1_4] 27 (0, 0))) ∧ Aside0 (wc.heap[gb297]? = some (.cells #[(.slice Ao42 t290.length co42), .int .i64 t293, .int .i64 t294, .int .i64 t295] 32 (0, 0))) ∧ Aside0 (wc.heap[gb304]? = some (.cells #[(.slice Ao51 t298.length co51), .int .i64 t301, .int .i64 t302, .int .i64 t303] 32 (0, 0))) ∧ Aside0 (wc.heap[gb314]? = some (.cells #[(.slice Ao60 t305.length co60), (.slice Ao66 t308.length co66), .int .i64 t311, .int .i64 t312, .int .i64 t313] 37 (0, 0))) ∧ Aside0 (wc.heap[gb322]? = some (.cells #[(.slice Ao70 t315.length co70), .int .i64 t318, .int .i64 t319, .int .i64 t320] 32 (0, 0))) ∧ Aside0 (Below w.heap.size w wc))
   case first =>
    have H := HC25.out; clear HC25; replace H := Option.bind_eq_some_iff.mp H; obtain ⟨t323, A770, H⟩ := H; replace H : (if t323 = true then (laws_FnExactApplyEdit.j0 k t296 t321 (t321 != t296) l0_0 a0_1 a0_2 a0_3 l1_0 l1_1 a1_2 a1_3 a1_4 t290 t293 t294 t295 t298 t301 t302 t303 t305 t308 t311 t312 t313 t315 t318 t319 t320) else (laws_FnExactApplyEdit.j0 k t296 t321 true l0_0 a0_1 a0_2 a0_3 l1_0 l1_1 a1_2 a1_3 a1_4 t290 t293 t294 t295 t298 t301 t302 t303 t305 t308 t311 t312 t313 t315 t318 t319 t320)) = some true := H; have A77 := Aside0.mk A770; clear A770
    by_cases c78 : t323 = true
    ·subst c78
     have H1 : (laws_FnExactApplyEdit.j0 k t296 t321 (t321 != t296) l0_0 a0_1 a0_2 a0_3 l1_0 l1_1 a1_2 a1_3 a1_4 t290 t293 t294 t295 t298 t301 t302 t303 t305 t308 t311 t312 t313 t315 t318 t319 t320) = some true := by rw [if_pos rfl] at H; exact H
     clear H; have H := H1; clear H1; have H' := Aside0.mk H; clear H; have hnb79 := NB322_271.out; have hnc79 := NB271_322.out; have hnb80 := NB322_272.out; have hnc80 := NB272_322.out; have hnb81 := NB322_297.out; have hnc81 := NB297_322.out; have hnb82 := NB322_304.out; have hnc82 := NB304_322.out; have hnb83 := NB322_314.out; have hnc83 := NB314_322.out; have hcz84_0 : w69.cell? ⟨gb322, 0, none⟩ = some (.slice none 0 0) := (blk_cell BK322.out 0).trans rfl; have hcz84_1 : w69.cell? ⟨gb322, 1, none⟩ = some (.int .i64 0) := (blk_cell BK322.out 1).trans rfl; have hcz84_2 : w69.cell? ⟨gb322, 2, none⟩ = some (.int .i64 0) := (blk_cell BK322.out 2).trans rfl; have hcz84_3 : w69.cell? ⟨gb322, 3, none⟩ = some (.int .i64 0) := (blk_cell BK322.out 3).trans rfl; have hfz84_0 := blk_frozen BK322.out 0; have hfz84_1 := blk_frozen BK322.out 1; have hfz84_2 := blk_frozen BK322.out 2; have hfz84_3 := blk_frozen BK322.out 3; have hnb85 := NB297_271.out; have hnc85 := NB271_297.out; have hnb86 := NB297_272.out; have hnc86 := NB272_297.out; have hnb87 := NB297_304.out; have hnc87 := NB304_297.out; have hnb88 := NB297_314.out; have hnc88 := NB314_297.out; have hcz89_0 : w69.cell? ⟨gb297, 0, none⟩ = some (.slice Ao42 t290.length co42) := (blk_cell BK297.out 0).trans rfl; have hcz89_1 : w69.cell? ⟨gb297, 1, none⟩ = some (.int .i64 t293) := (blk_cell BK297.out 1).trans rfl; have hcz89_2 : w69.cell? ⟨gb297, 2, none⟩ = some (.int .i64 t294) := (blk_cell BK297.out 2).trans rfl; have hcz89_3 : w69.cell? ⟨gb297, 3, none⟩ = some (.int .i64 t295) := (blk_cell BK297.out 3).trans rfl; have hfz89_0 := blk_frozen BK297.out 0; have hfz89_1 := blk_frozen BK297.out 1; have hfz89_2 := blk_frozen BK297.out 2; have hfz89_3 := blk_frozen BK297.out 3
     go_wp2_with (first | ((with_reducible refine gate_callee (f := 10) rfl ?_); refine goesL_ (some 47) rfl rfl Try.func10 (by kernel_rfl) rfl #[.agg #[.slice Ao70 t315.length co70, .int .i64 t318, .int .i64 t319, .int .i64 t320], .agg #[.slice Ao42 t290.length co42, .int .i64 t293, .int .i64 t294, .int .i64 t295]] rfl (by (try simp only [List.map_toArray, List.map_cons, List.map_nil]); first | done | rfl | (simp only [List.length_drop, List.length_take]; rfl)) ?_; (with_reducible refine (laws_eqVersion.calls k _ _ t315 t318 t319 t320 _ _ t290 t293 t294 t295 true _ ?side1 ?side2 ?side3 ?side4 A77.out).mono ?_); (case side1 => refine (Kd.R_reads' (e := 48) (base := w.heap.size) (ok := fun k_ => (((((True ∧ some k_ ≠ (v276 : Value).ownBlock) ∧ some k_ ≠ (v282 : Value).ownBlock) ∧ some k_ ≠ (.slice Ao42 t290.length co42 : Value).ownBlock) ∧ some k_ ≠ (.slice Ao51 t298.length co51 : Value).ownBlock) ∧ some k_ ≠ (.slice Ao60 t305.length co60 : Value).ownBlock)) (n := t315.length) (c := co70) ?_).2.2; exact (xs4 HO317 BK322 _ _ _ _)); (case side2 => exact (Kd.R_reads' HO317.out).2.1); (case side3 => refine (Kd.R_reads' (e := 48) (base := w.heap.size) (ok := fun k_ => ((((some k_ ≠ (v276 : Value).ownBlock ∧ some k_ ≠ (v282 : Value).ownBlock) ∧ some k_ ≠ (.slice Ao51 t298.length co51 : Value).ownBlock) ∧ some k_ ≠ (.slice Ao60 t305.length co60 : Value).ownBlock) ∧ some k_ ≠ (.slice Ao70 t315.length co70 : Value).ownBlock)) (n := t290.length) (c := co42) ?_).2.2; exact (xs4 HO292 BK322 _ _ _ _)); (case side4 => exact (Kd.R_reads' HO292.out).2.1); rintro e w90 ⟨rfl, hb⟩; refine ⟨_, rfl, ?_⟩; replace HO277 := Aside0.mk (Kd.R_below (xs4 HO277 BK322 _ _ _ _) hb); replace HO283 := Aside0.mk (Kd.R_below (xs4 HO283 BK322 _ _ _ _) hb); replace HO286 := Aside0.mk (Kd.R_below (xs4 HO286 BK322 _ _ _ _) hb); replace HO292 := Aside0.mk (Kd.R_below (xs4 HO292 BK322 _ _ _ _) hb); replace HO300 := Aside0.mk (Kd.R_below (xs4 HO300 BK322 _ _ _ _) hb); replace HO307 := Aside0.mk (Kd.R_below (xs4 HO307 BK322 _ _ _ _) hb); replace HO310 := Aside0.mk (Kd.R_below (xs4 HO310 BK322 _ _ _ _) hb); replace HO317 := Aside0.mk (Kd.R_below (xs4 HO317 BK322 _ _ _ _) hb); replace BK271 := Aside0.mk (xbb BK271 hb); replace BK272 := Aside0.mk (xbb BK272 hb); replace BK297 := Aside0.mk (xbb BK297 hb); replace BK304 := Aside0.mk (xbb BK304 hb); replace BK314 := Aside0.mk (xbb BK314 hb); replace BK322 := Aside0.mk (blk_below (g := gb322) (o := .cells #[.slice Ao70 t315.length co70, .int .i64 t318, .int .i64 t319, .int .i64 t320] 32 (0, 0)) (by (with_reducible repeat (first | refine blk_drewN ?_ _ | refine blk_drew ?_ | refine blk_alloc ?_ _)); refine blk_put (cs := #[.slice Ao70 t315.length co70, .int .i64 t318, .int .i64 t319, .int .i64 0]) ?_ 3 _ rfl; (with_reducible repeat (first | refine blk_drewN ?_ _ | refine blk_drew ?_ | refine blk_alloc ?_ _)); refine blk_put (cs := #[.slice Ao70 t315.length co70, .int .i64 t318, .int .i64 0, .int .i64 0]) ?_ 2 _ rfl; (with_reducible repeat (first | refine blk_drewN ?_ _ | refine blk_drew ?_ | refine blk_alloc ?_ _)); refine blk_put (cs := #[.slice Ao70 t315.length co70, .int .i64 0, .int .i64 0, .int .i64 0]) ?_ 1 _ rfl; (with_reducible repeat (first | refine blk_drewN ?_ _ | refine blk_drew ?_ | refine blk_alloc ?_ _)); refine blk_put (cs := #[.slice none 0 0, .int .i64 0, .int .i64 0, .int .i64 0]) ?_ 0 _ rfl; (with_reducible repeat (first | refine blk_drewN ?_ _ | refine blk_drew ?_ | refine blk_alloc ?_ _)); exact BK322.out) hb); replace HB := Aside0.mk (below_step (xh HB) hb); (try clear hb); (try clear hb2); (try clear hk); (try clear hi)))
     go_meet
     case rel => exact ⟨_, ((t321 != t296)), (by first | rfl | (simp; done) | (simp [*]; done)), H', ⟨by first | omega | exact Nat.le_refl _⟩, ⟨by (with_reducible repeat (first | apply Kd.R_alloc | apply Kd.R_drewN | apply Kd.R_drew)); exact Kd.R_mono HO292.out (fun _ hk => ⟨hk.1.1.2, ⟨hk.1.2, hk.2⟩⟩)⟩, ⟨by (with_reducible repeat (first | apply Kd.R_alloc | apply Kd.R_drewN | apply Kd.R_drew)); exact Kd.R_mono HO300.out (fun _ hk => ⟨hk.1.1.2, ⟨hk.1.2, hk.2⟩⟩)⟩, ⟨by (with_reducible repeat (first | apply Kd.R_alloc | apply Kd.R_drewN | apply Kd.R_drew)); exact Kd.R_mono HO307.out (fun _ hk => ⟨hk.1.1.2, ⟨hk.1.2, hk.2⟩⟩)⟩, ⟨by (with_reducible repeat (first | apply Kd.R_alloc | apply Kd.R_drewN | apply Kd.R_drew)); exact Kd.R_mono HO310.out (fun _ hk => trivial)⟩, ⟨by (with_reducible repeat (first | apply Kd.R_alloc | apply Kd.R_drewN | apply Kd.R_drew)); exact Kd.R_mono HO317.out (fun _ hk => ⟨hk.1.1.2, ⟨hk.1.2, hk.2⟩⟩)⟩, ⟨xb BK271⟩, ⟨xb BK272⟩, ⟨xb BK297⟩, ⟨xb BK304⟩, ⟨xb BK314⟩, ⟨xb BK322⟩, ⟨xh HB⟩⟩
    ·replace c78 := Bool.eq_false_iff.mpr c78
     subst c78
     have H1 : (laws_FnExactApplyEdit.j0 k t296 t321 true l0_0 a0_1 a0_2 a0_3 l1_0 l1_1 a1_2 a1_3 a1_4 t290 t293 t294 t295 t298 t301 t302 t303 t305 t308 t311 t312 t313 t315 t318 t319 t320) = some true := by rw [if_neg (show ¬ (false = true) by decide)] at H; exact H
     clear H; have H := H1; clear H1; have H' := Aside0.mk H; clear H; have hnb91 := NB322_271.out; have hnc91 := NB271_322.out; have hnb92 := NB322_272.out; have hnc92 := NB272_322.out; have hnb93 := NB322_297.out; have hnc93 := NB297_322.out; have hnb94 := NB322_304.out; have hnc94 := NB304_322.out; have hnb95 := NB322_314.out; have hnc95 := NB314_322.out; have hcz96_0 : w69.cell? ⟨gb322, 0, none⟩ = some (.slice none 0 0) := (blk_cell BK322.out 0).trans rfl; have hcz96_1 : w69.cell? ⟨gb322, 1, none⟩ = some (.int .i64 0) := (blk_cell BK322.out 1).trans rfl; have hcz96_2 : w69.cell? ⟨gb322, 2, none⟩ = some (.int .i64 0) := (blk_cell BK322.out 2).trans rfl; have hcz96_3 : w69.cell? ⟨gb322, 3, none⟩ = some (.int .i64 0) := (blk_cell BK322.out 3).trans rfl; have hfz96_0 := blk_frozen BK322.out 0; have hfz96_1 := blk_frozen BK322.out 1; have hfz96_2 := blk_frozen BK322.out 2; have hfz96_3 := blk_frozen BK322.out 3; have hnb97 := NB297_271.out; have hnc97 := NB271_297.out; have hnb98 := NB297_272.out; have hnc98 := NB272_297.out; have hnb99 := NB297_304.out; have hnc99 := NB304_297.out; have hnb100 := NB297_314.out; have hnc100 := NB314_297.out; have hcz101_0 : w69.cell? ⟨gb297, 0, none⟩ = some (.slice Ao42 t290.length co42) := (blk_cell BK297.out 0).trans rfl; have hcz101_1 : w69.cell? ⟨gb297, 1, none⟩ = some (.int .i64 t293) := (blk_cell BK297.out 1).trans rfl; have hcz101_2 : w69.cell? ⟨gb297, 2, none⟩ = some (.int .i64 t294) := (blk_cell BK297.out 2).trans rfl; have hcz101_3 : w69.cell? ⟨gb297, 3, none⟩ = some (.int .i64 t295) := (blk_cell BK297.out 3).trans rfl; have hfz101_0 := blk_frozen BK297.out 0; have hfz101_1 := blk_frozen BK297.out 1; have hfz101_2 := blk_frozen BK297.out 2; have hfz101_3 := blk_frozen BK297.out 3
     go_wp2_with (first | ((with_reducible refine gate_callee (f := 10) rfl ?_); refine goesL_ (some 47) rfl rfl Try.func10 (by kernel_rfl) rfl #[.agg #[.slice Ao70 t315.length co70, .int .i64 t318, .int .i64 t319, .int .i64 t320], .agg #[.slice Ao42 t290.length co42, .int .i64 t293, .int .i64 t294, .int .i64 t295]] rfl (by (try simp only [List.map_toArray, List.map_cons, List.map_nil]); first | done | rfl | (simp only [List.length_drop, List.length_take]; rfl)) ?_; (with_reducible refine (laws_eqVersion.calls k _ _ t315 t318 t319 t320 _ _ t290 t293 t294 t295 false _ ?side1 ?side2 ?side3 ?side4 A77.out).mono ?_); (case side1 => refine (Kd.R_reads' (e := 48) (base := w.heap.size) (ok := fun k_ => (((((True ∧ some k_ ≠ (v276 : Value).ownBlock) ∧ some k_ ≠ (v282 : Value).ownBlock) ∧ some k_ ≠ (.slice Ao42 t290.length co42 : Value).ownBlock) ∧ some k_ ≠ (.slice Ao51 t298.length co51 : Value).ownBlock) ∧ some k_ ≠ (.slice Ao60 t305.length co60 : Value).ownBlock)) (n := t315.length) (c := co70) ?_).2.2; exact (xs4 HO317 BK322 _ _ _ _)); (case side2 => exact (Kd.R_reads' HO317.out).2.1); (case side3 => refine (Kd.R_reads' (e := 48) (base := w.heap.size) (ok := fun k_ => ((((some k_ ≠ (v276 : Value).ownBlock ∧ some k_ ≠ (v282 : Value).ownBlock) ∧ some k_ ≠ (.slice Ao51 t298.length co51 : Value).ownBlock) ∧ some k_ ≠ (.slice Ao60 t305.length co60 : Value).ownBlock) ∧ some k_ ≠ (.slice Ao70 t315.length co70 : Value).ownBlock)) (n := t290.length) (c := co42) ?_).2.2; exact (xs4 HO292 BK322 _ _ _ _)); (case side4 => exact (Kd.R_reads' HO292.out).2.1); rintro e w102 ⟨rfl, hb⟩; refine ⟨_, rfl, ?_⟩; replace HO277 := Aside0.mk (Kd.R_below (xs4 HO277 BK322 _ _ _ _) hb); replace HO283 := Aside0.mk (Kd.R_below (xs4 HO283 BK322 _ _ _ _) hb); replace HO286 := Aside0.mk (Kd.R_below (xs4 HO286 BK322 _ _ _ _) hb); replace HO292 := Aside0.mk (Kd.R_below (xs4 HO292 BK322 _ _ _ _) hb); replace HO300 := Aside0.mk (Kd.R_below (xs4 HO300 BK322 _ _ _ _) hb); replace HO307 := Aside0.mk (Kd.R_below (xs4 HO307 BK322 _ _ _ _) hb); replace HO310 := Aside0.mk (Kd.R_below (xs4 HO310 BK322 _ _ _ _) hb); replace HO317 := Aside0.mk (Kd.R_below (xs4 HO317 BK322 _ _ _ _) hb); replace BK271 := Aside0.mk (xbb BK271 hb); replace BK272 := Aside0.mk (xbb BK272 hb); replace BK297 := Aside0.mk (xbb BK297 hb); replace BK304 := Aside0.mk (xbb BK304 hb); replace BK314 := Aside0.mk (xbb BK314 hb); replace BK322 := Aside0.mk (blk_below (g := gb322) (o := .cells #[.slice Ao70 t315.length co70, .int .i64 t318, .int .i64 t319, .int .i64 t320] 32 (0, 0)) (by (with_reducible repeat (first | refine blk_drewN ?_ _ | refine blk_drew ?_ | refine blk_alloc ?_ _)); refine blk_put (cs := #[.slice Ao70 t315.length co70, .int .i64 t318, .int .i64 t319, .int .i64 0]) ?_ 3 _ rfl; (with_reducible repeat (first | refine blk_drewN ?_ _ | refine blk_drew ?_ | refine blk_alloc ?_ _)); refine blk_put (cs := #[.slice Ao70 t315.length co70, .int .i64 t318, .int .i64 0, .int .i64 0]) ?_ 2 _ rfl; (with_reducible repeat (first | refine blk_drewN ?_ _ | refine blk_drew ?_ | refine blk_alloc ?_ _)); refine blk_put (cs := #[.slice Ao70 t315.length co70, .int .i64 0, .int .i64 0, .int .i64 0]) ?_ 1 _ rfl; (with_reducible repeat (first | refine blk_drewN ?_ _ | refine blk_drew ?_ | refine blk_alloc ?_ _)); refine blk_put (cs := #[.slice none 0 0, .int .i64 0, .int .i64 0, .int .i64 0]) ?_ 0 _ rfl; (with_reducible repeat (first | refine blk_drewN ?_ _ | refine blk_drew ?_ | refine blk_alloc ?_ _)); exact BK322.out) hb); replace HB := Aside0.mk (below_step (xh HB) hb); (try clear hb); (try clear hb2); (try clear hk); (try clear hi)))
     go_meet
     case rel => exact ⟨_, (true), (by first | rfl | (simp; done) | (simp [*]; done)), H', ⟨by first | omega | exact Nat.le_refl _⟩, ⟨by (with_reducible repeat (first | apply Kd.R_alloc | apply Kd.R_drewN | apply Kd.R_drew)); exact Kd.R_mono HO292.out (fun _ hk => ⟨hk.1.1.2, ⟨hk.1.2, hk.2⟩⟩)⟩, ⟨by (with_reducible repeat (first | apply Kd.R_alloc | apply Kd.R_drewN | apply Kd.R_drew)); exact Kd.R_mono HO300.out (fun _ hk => ⟨hk.1.1.2, ⟨hk.1.2, hk.2⟩⟩)⟩, ⟨by (with_reducible repeat (first | apply Kd.R_alloc | apply Kd.R_drewN | apply Kd.R_drew)); exact Kd.R_mono HO307.out (fun _ hk => ⟨hk.1.1.2, ⟨hk.1.2, hk.2⟩⟩)⟩, ⟨by (with_reducible repeat (first | apply Kd.R_alloc | apply Kd.R_drewN | apply Kd.R_drew)); exact Kd.R_mono HO310.out (fun _ hk => trivial)⟩, ⟨by (with_reducible repeat (first | apply Kd.R_alloc | apply Kd.R_drewN | apply Kd.R_drew)); exact Kd.R_mono HO317.out (fun _ hk => ⟨hk.1.1.2, ⟨hk.1.2, hk.2⟩⟩)⟩, ⟨xb BK271⟩, ⟨xb BK272⟩, ⟨xb BK297⟩, ⟨xb BK304⟩, ⟨xb BK314⟩, ⟨xb BK322⟩, ⟨xh HB⟩⟩
   case rest =>
    clear HC25
    try clear c1
    try clear p2
    try clear c4
    try clear c5
    try clear c6
    try clear c7
    try clear c8
    try clear c9
    try clear c10
    try clear c47
    try clear c52
    try clear c53
    try clear c54
    try clear c56
    try clear c61
    try clear c62
    try clear c63
    try clear c64
    try clear c71
    try clear c72
    try clear c73
    try clear c74
    try clear c75
    try clear c78
    try clear c79
    try clear c80
    try clear c81
    try clear c82
    try clear c83
    try clear c85
    try clear c86
    try clear c87
    try clear c88
    try clear c91
    try clear c92
    try clear c93
    try clear c94
    try clear c95
    try clear c97
    try clear c98
    try clear c99
    try clear c100
    try clear hcz101_0
    try clear hcz101_1
    try clear hcz101_2
    try clear hcz101_3
    try clear hcz48_0
    try clear hcz48_1
    try clear hcz48_2
    try clear hcz48_3
    try clear hcz55_0
    try clear hcz55_1
    try clear hcz55_2
    try clear hcz55_3
    try clear hcz57_0
    try clear hcz57_1
    try clear hcz57_2
    try clear hcz57_3
    try clear hcz57_4
    try clear hcz65_0
    try clear hcz65_1
    try clear hcz65_2
    try clear hcz65_3
    try clear hcz65_4
    try clear hcz67_0
    try clear hcz67_1
    try clear hcz67_2
    try clear hcz67_3
    try clear hcz76_0
    try clear hcz76_1
    try clear hcz76_2
    try clear hcz76_3
    try clear hcz84_0
    try clear hcz84_1
    try clear hcz84_2
    try clear hcz84_3
    try clear hcz89_0
    try clear hcz89_1
    try clear hcz89_2
    try clear hcz89_3
    try clear hcz96_0
    try clear hcz96_1
    try clear hcz96_2
    try clear hcz96_3
    try clear hfz101_0
    try clear hfz101_1
    try clear hfz101_2
    try clear hfz101_3
    try clear hfz48_0
    try clear hfz48_1
    try clear hfz48_2
    try clear hfz48_3
    try clear hfz55_0
    try clear hfz55_1
    try clear hfz55_2
    try clear hfz55_3
    try clear hfz57_0
    try clear hfz57_1
    try clear hfz57_2
    try clear hfz57_3
    try clear hfz57_4
    try clear hfz65_0
    try clear hfz65_1
    try clear hfz65_2
    try clear hfz65_3
    try clear hfz65_4
    try clear hfz67_0
    try clear hfz67_1
    try clear hfz67_2
    try clear hfz67_3
    try clear hfz76_0
    try clear hfz76_1
    try clear hfz76_2
    try clear hfz76_3
    try clear hfz84_0
    try clear hfz84_1
    try clear hfz84_2
    try clear hfz84_3
    try clear hfz89_0
    try clear hfz89_1
    try clear hfz89_2
    try clear hfz89_3
    try clear hfz96_0
    try clear hfz96_1
    try clear hfz96_2
    try clear hfz96_3
    obtain ⟨kq, x53_24, rfl, HA, HJ24, HO_298000, HO_305000, HO_315000, HO_315001, HO_323000, BK271, BK272, BK297, BK304, BK314, BK322, HB⟩ := hcut
    cases kq with
    | zero => exact absurd HA.out (by simp [laws_FnExactApplyEdit.j0])
    | succ kj24 =>
     have H := HA.out; clear HA
     simp only [laws_FnExactApplyEdit.j0] at H
     by_cases c103 : x53_24 = true
     ·subst c103
      have H1 : (some false) = some true := by rw [if_pos rfl] at H; exact H
      clear H; have H := H1; clear H1
      exact absurd H (by simp)
     ·replace c103 := Bool.eq_false_iff.mpr c103
      subst c103
      have H1 : ((laws_toVersion.f kj24 l0_0 a0_1 a0_2 a0_3).bind fun bt324 => ((laws_eqVersion.f kj24 t298 t301 t302 t303 bt324.1 bt324.2.1 bt324.2.2.1 bt324.2.2.2).bind fun t330 => (if t330 = true then ((laws_toEdit.f kj24 l1_0 l1_1 a1_2 a1_3 a1_4).bind fun bt331 => ((laws_eqEdit.f kj24 t305 t308 t311 t312 t313 bt331.1 bt331.2.1 bt331.2.2.1 bt331.2.2.2.1 bt331.2.2.2.2).bind fun t340 => (if t340 = true then ((laws_markVersion.f kj24 t298 t301 t302 t303 1).bind fun bt341 => ((laws_markEdit.f kj24 t305 t308 t311 t312 t313 bt341.1).bind fun bt343 => (if bt343.1 < 0 then (laws_FnExactApplyEdit.j1 kj24 t296 true l0_0 a0_1 a0_2 a0_3 l1_0 l1_1 a1_2 a1_3 a1_4 t290 t293 t294 t295 t315 t318 t319 t320) else ((laws_eqVersion.f kj24 t315 t318 t319 t320 t290 t293 t294 t295).bind fun t346 => (if t346 = true then (laws_FnExactApplyEdit.j1 kj24 t296 (t321 != t296) l0_0 a0_1 a0_2 a0_3 l1_0 l1_1 a1_2 a1_3 a1_4 t290 t293 t294 t295 t315 t318 t319 t320) else (laws_FnExactApplyEdit.j1 kj24 t296 true l0_0 a0_1 a0_2 a0_3 l1_0 l1_1 a1_2 a1_3 a1_4 t290 t293 t294 t295 t315 t318 t319 t320)))))) else (some false)))) else (some false)))) = some true := by rw [if_neg (show ¬ (false = true) by decide)] at H; exact H
      clear H; have H := H1; clear H1; replace H := Option.bind_eq_some_iff.mp H; obtain ⟨⟨t324, t327, t328, t329⟩, A1040, H⟩ := H; replace H : ((laws_eqVersion.f kj24 t298 t301 t302 t303 t324 t327 t328 t329).bind fun t330 => (if t330 = true then ((laws_toEdit.f kj24 l1_0 l1_1 a1_2 a1_3 a1_4).bind fun bt331 => ((laws_eqEdit.f kj24 t305 t308 t311 t312 t313 bt331.1 bt331.2.1 bt331.2.2.1 bt331.2.2.2.1 bt331.2.2.2.2).bind fun t340 => (if t340 = true then ((laws_markVersion.f kj24 t298 t301 t302 t303 1).bind fun bt341 => ((laws_markEdit.f kj24 t305 t308 t311 t312 t313 bt341.1).bind fun bt343 => (if bt343.1 < 0 then (laws_FnExactApplyEdit.j1 kj24 t296 true l0_0 a0_1 a0_2 a0_3 l1_0 l1_1 a1_2 a1_3 a1_4 t290 t293 t294 t295 t315 t318 t319 t320) else ((laws_eqVersion.f kj24 t315 t318 t319 t320 t290 t293 t294 t295).bind fun t346 => (if t346 = true then (laws_FnExactApplyEdit.j1 kj24 t296 (t321 != t296) l0_0 a0_1 a0_2 a0_3 l1_0 l1_1 a1_2 a1_3 a1_4 t290 t293 t294 t295 t315 t318 t319 t320) else (laws_FnExactApplyEdit.j1 kj24 t296 true l0_0 a0_1 a0_2 a0_3 l1_0 l1_1 a1_2 a1_3 a1_4 t290 t293 t294 t295 t315 t318 t319 t320)))))) else (some false)))) else (some false))) = some true := H; have A104 := Aside0.mk A1040; clear A1040; replace H := Option.bind_eq_some_iff.mp H; obtain ⟨t330, A1050, H⟩ := H; replace H : (if t330 = true then ((laws_toEdit.f kj24 l1_0 l1_1 a1_2 a1_3 a1_4).bind fun bt331 => ((laws_eqEdit.f kj24 t305 t308 t311 t312 t313 bt331.1 bt331.2.1 bt331.2.2.1 bt331.2.2.2.1 bt331.2.2.2.2).bind fun t340 => (if t340 = true then ((laws_markVersion.f kj24 t298 t301 t302 t303 1).bind fun bt341 => ((laws_markEdit.f kj24 t305 t308 t311 t312 t313 bt341.1).bind fun bt343 => (if bt343.1 < 0 then (laws_FnExactApplyEdit.j1 kj24 t296 true l0_0 a0_1 a0_2 a0_3 l1_0 l1_1 a1_2 a1_3 a1_4 t290 t293 t294 t295 t315 t318 t319 t320) else ((laws_eqVersion.f kj24 t315 t318 t319 t320 t290 t293 t294 t295).bind fun t346 => (if t346 = true then (laws_FnExactApplyEdit.j1 kj24 t296 (t321 != t296) l0_0 a0_1 a0_2 a0_3 l1_0 l1_1 a1_2 a1_3 a1_4 t290 t293 t294 t295 t315 t318 t319 t320) else (laws_FnExactApplyEdit.j1 kj24 t296 true l0_0 a0_1 a0_2 a0_3 l1_0 l1_1 a1_2 a1_3 a1_4 t290 t293 t294 t295 t315 t318 t319 t320)))))) else (some false)))) else (some false)) = some true := H
      have A105 := Aside0.mk A1050; clear A1050
      by_cases c106 : t330 = true
      ·subst c106
       have H1 : ((laws_toEdit.f kj24 l1_0 l1_1 a1_2 a1_3 a1_4).bind fun bt331 => ((laws_eqEdit.f kj24 t305 t308 t311 t312 t313 bt331.1 bt331.2.1 bt331.2.2.1 bt331.2.2.2.1 bt331.2.2.2.2).bind fun t340 => (if t340 = true then ((laws_markVersion.f kj24 t298 t301 t302 t303 1).bind fun bt341 => ((laws_markEdit.f kj24 t305 t308 t311 t312 t313 bt341.1).bind fun bt343 => (if bt343.1 < 0 then (laws_FnExactApplyEdit.j1 kj24 t296 true l0_0 a0_1 a0_2 a0_3 l1_0 l1_1 a1_2 a1_3 a1_4 t290 t293 t294 t295 t315 t318 t319 t320) else ((laws_eqVersion.f kj24 t315 t318 t319 t320 t290 t293 t294 t295).bind fun t346 => (if t346 = true then (laws_FnExactApplyEdit.j1 kj24 t296 (t321 != t296) l0_0 a0_1 a0_2 a0_3 l1_0 l1_1 a1_2 a1_3 a1_4 t290 t293 t294 t295 t315 t318 t319 t320) else (laws_FnExactApplyEdit.j1 kj24 t296 true l0_0 a0_1 a0_2 a0_3 l1_0 l1_1 a1_2 a1_3 a1_4 t290 t293 t294 t295 t315 t318 t319 t320)))))) else (some false)))) = some true := by rw [if_pos rfl] at H; exact H
       clear H; have H := H1; clear H1; replace H := Option.bind_eq_some_iff.mp H; obtain ⟨⟨t331, t334, t337, t338, t339⟩, A1070, H⟩ := H; replace H : ((laws_eqEdit.f kj24 t305 t308 t311 t312 t313 t331 t334 t337 t338 t339).bind fun t340 => (if t340 = true then ((laws_markVersion.f kj24 t298 t301 t302 t303 1).bind fun bt341 => ((laws_markEdit.f kj24 t305 t308 t311 t312 t313 bt341.1).bind fun bt343 => (if bt343.1 < 0 then (laws_FnExactApplyEdit.j1 kj24 t296 true l0_0 a0_1 a0_2 a0_3 l1_0 l1_1 a1_2 a1_3 a1_4 t290 t293 t294 t295 t315 t318 t319 t320) else ((laws_eqVersion.f kj24 t315 t318 t319 t320 t290 t293 t294 t295).bind fun t346 => (if t346 = true then (laws_FnExactApplyEdit.j1 kj24 t296 (t321 != t296) l0_0 a0_1 a0_2 a0_3 l1_0 l1_1 a1_2 a1_3 a1_4 t290 t293 t294 t295 t315 t318 t319 t320) else (laws_FnExactApplyEdit.j1 kj24 t296 true l0_0 a0_1 a0_2 a0_3 l1_0 l1_1 a1_2 a1_3 a1_4 t290 t293 t294 t295 t315 t318 t319 t320)))))) else (some false))) = some true := H; have A107 := Aside0.mk A1070; clear A1070; replace H := Option.bind_eq_some_iff.mp H; obtain ⟨t340, A1080, H⟩ := H; replace H : (if t340 = true then ((laws_markVersion.f kj24 t298 t301 t302 t303 1).bind fun bt341 => ((laws_markEdit.f kj24 t305 t308 t311 t312 t313 bt341.1).bind fun bt343 => (if bt343.1 < 0 then (laws_FnExactApplyEdit.j1 kj24 t296 true l0_0 a0_1 a0_2 a0_3 l1_0 l1_1 a1_2 a1_3 a1_4 t290 t293 t294 t295 t315 t318 t319 t320) else ((laws_eqVersion.f kj24 t315 t318 t319 t320 t290 t293 t294 t295).bind fun t346 => (if t346 = true then (laws_FnExactApplyEdit.j1 kj24 t296 (t321 != t296) l0_0 a0_1 a0_2 a0_3 l1_0 l1_1 a1_2 a1_3 a1_4 t290 t293 t294 t295 t315 t318 t319 t320) else (laws_FnExactApplyEdit.j1 kj24 t296 true l0_0 a0_1 a0_2 a0_3 l1_0 l1_1 a1_2 a1_3 a1_4 t290 t293 t294 t295 t315 t318 t319 t320)))))) else (some false)) = some true := H; have A108 := Aside0.mk A1080; clear A1080
       by_cases c109 : t340 = true
       ·subst c109
        have H1 : ((laws_markVersion.f kj24 t298 t301 t302 t303 1).bind fun bt341 => ((laws_markEdit.f kj24 t305 t308 t311 t312 t313 bt341.1).bind fun bt343 => (if bt343.1 < 0 then (laws_FnExactApplyEdit.j1 kj24 t296 true l0_0 a0_1 a0_2 a0_3 l1_0 l1_1 a1_2 a1_3 a1_4 t290 t293 t294 t295 t315 t318 t319 t320) else ((laws_eqVersion.f kj24 t315 t318 t319 t320 t290 t293 t294 t295).bind fun t346 => (if t346 = true then (laws_FnExactApplyEdit.j1 kj24 t296 (t321 != t296) l0_0 a0_1 a0_2 a0_3 l1_0 l1_1 a1_2 a1_3 a1_4 t290 t293 t294 t295 t315 t318 t319 t320) else (laws_FnExactApplyEdit.j1 kj24 t296 true l0_0 a0_1 a0_2 a0_3 l1_0 l1_1 a1_2 a1_3 a1_4 t290 t293 t294 t295 t315 t318 t319 t320)))))) = some true := by rw [if_pos rfl] at H; exact H
        clear H; have H := H1; clear H1; replace H := Option.bind_eq_some_iff.mp H; obtain ⟨⟨t341, t342⟩, A1100, H⟩ := H; replace H : ((laws_markEdit.f kj24 t305 t308 t311 t312 t313 t341).bind fun bt343 => (if bt343.1 < 0 then (laws_FnExactApplyEdit.j1 kj24 t296 true l0_0 a0_1 a0_2 a0_3 l1_0 l1_1 a1_2 a1_3 a1_4 t290 t293 t294 t295 t315 t318 t319 t320) else ((laws_eqVersion.f kj24 t315 t318 t319 t320 t290 t293 t294 t295).bind fun t346 => (if t346 = true then (laws_FnExactApplyEdit.j1 kj24 t296 (t321 != t296) l0_0 a0_1 a0_2 a0_3 l1_0 l1_1 a1_2 a1_3 a1_4 t290 t293 t294 t295 t315 t318 t319 t320) else (laws_FnExactApplyEdit.j1 kj24 t296 true l0_0 a0_1 a0_2 a0_3 l1_0 l1_1 a1_2 a1_3 a1_4 t290 t293 t294 t295 t315 t318 t319 t320))))) = some true := H; have A110 := Aside0.mk A1100; clear A1100; replace H := Option.bind_eq_some_iff.mp H; obtain ⟨⟨t343, t344, t345⟩, A1110, H⟩ := H; replace H : (if t343 < 0 then (laws_FnExactApplyEdit.j1 kj24 t296 true l0_0 a0_1 a0_2 a0_3 l1_0 l1_1 a1_2 a1_3 a1_4 t290 t293 t294 t295 t315 t318 t319 t320) else ((laws_eqVersion.f kj24 t315 t318 t319 t320 t290 t293 t294 t295).bind fun t346 => (if t346 = true then (laws_FnExactApplyEdit.j1 kj24 t296 (t321 != t296) l0_0 a0_1 a0_2 a0_3 l1_0 l1_1 a1_2 a1_3 a1_4 t290 t293 t294 t295 t315 t318 t319 t320) else (laws_FnExactApplyEdit.j1 kj24 t296 true l0_0 a0_1 a0_2 a0_3 l1_0 l1_1 a1_2 a1_3 a1_4 t290 t293 t294 t295 t315 t318 t319 t320)))) = some true := H; have A111 := Aside0.mk A1110; clear A1110; have HC112 := Aside0.mk H; clear H
        try go_wp2
        replace HO_298000 := Aside0.mk (Kd.R_drew HO_298000.out); replace HO_305000 := Aside0.mk (Kd.R_drew HO_305000.out); replace HO_315000 := Aside0.mk (Kd.R_drew HO_315000.out); replace HO_315001 := Aside0.mk (Kd.R_drew HO_315001.out); replace HO_323000 := Aside0.mk (Kd.R_drew HO_323000.out); replace BK271 := Aside0.mk (blk_drew BK271.out); replace BK272 := Aside0.mk (blk_drew BK272.out); replace BK297 := Aside0.mk (blk_drew BK297.out); replace BK304 := Aside0.mk (blk_drew BK304.out); replace BK314 := Aside0.mk (blk_drew BK314.out); replace BK322 := Aside0.mk (blk_drew BK322.out); replace HB := Aside0.mk (below_drew1 HB.out)
        refine start_ (n := 5) (S := fun w' => w'.cell? ⟨gb304, 0, none⟩ = some (.slice Ao51 t298.length co51) ∧ w'.cell? ⟨gb304, 1, none⟩ = some (.int .i64 t301) ∧ w'.cell? ⟨gb304, 2, none⟩ = some (.int .i64 t302) ∧ w'.cell? ⟨gb304, 3, none⟩ = some (.int .i64 t303) ∧ w'.cell? ⟨gb271, 0, none⟩ = some (.slice A0_0 l0_0.length c0_0) ∧ w'.cell? ⟨gb271, 1, none⟩ = some (.int .i64 a0_1) ∧ w'.cell? ⟨gb271, 2, none⟩ = some (.int .i64 a0_2) ∧ w'.cell? ⟨gb271, 3, none⟩ = some (.int .i64 a0_3)) (ds := []) #[false, false, false, false, false] (by kernel_rfl) rfl rfl ⟨(blk_cell BK304.out 0).trans rfl, (blk_cell BK304.out 1).trans rfl, (blk_cell BK304.out 2).trans rfl, (blk_cell BK304.out 3).trans rfl, (blk_cell BK271.out 0).trans rfl, (blk_cell BK271.out 1).trans rfl, (blk_cell BK271.out 2).trans rfl, (blk_cell BK271.out 3).trans rfl⟩ (fun hHeld => ?_)
        generalize wc.drew = w113 at HO_298000 HO_305000 HO_315000 HO_315001 HO_323000 BK271 BK272 BK297 BK304 BK314 BK322 HB hHeld ⊢
        refine take_ (i := 0) (N := some 54) (v := ?_) (a' := ?_) #[true, false, false, false, false] rfl rfl (by kernel_rfl) (fun _ _ _ h => h) (Or.inl ⟨by rfl, ?_⟩) hHeld ?_ ?_
        rotate_left
        ·rintro w' ⟨s0, s1, s2, s3, s4, s5, s6, s7⟩
         go_simp
         with_reducible rfl
        rotate_left
        ·simp only [Act.put, List.setIfInBounds_toArray, List.set_cons_zero, List.set_cons_succ, i64_w, i32_w]
         rfl
        refine take_ (i := 1) (N := some 55) (v := ?_) (a' := ?_) #[true, true, false, false, false] rfl rfl (by kernel_rfl) (fun _ _ _ h => h) (Or.inl ⟨by rfl, ?_⟩) hHeld ?_ ?_
        rotate_left
        ·rintro w' ⟨s0, s1, s2, s3, s4, s5, s6, s7⟩
         go_simp
         with_reducible rfl
        rotate_left
        ·simp only [Act.put, List.setIfInBounds_toArray, List.set_cons_zero, List.set_cons_succ, i64_w, i32_w]
         rfl
        refine one_ (i := 2) (N := some 56) #[true, true, true, false, false] rfl rfl (by kernel_rfl) (by decide) (fun K hK => ?_)
        refine goes_ Try.func7 (by kernel_rfl) rfl #[.agg #[.slice A0_0 l0_0.length c0_0, .int .i64 a0_1, .int .i64 a0_2, .int .i64 a0_3]] (by rfl) rfl rfl (by (try simp only [List.map_toArray, List.map_cons, List.map_nil]); first | done | rfl | (simp only [List.length_drop, List.length_take]; rfl)) ?_
        with_reducible refine (laws_toVersion.calls kj24 _ _ l0_0 a0_1 a0_2 a0_3 t324 t327 t328 t329 _ ?side1 ?side2 A104.out).mono ?_
        (case side1 => exact xc (Kd.C_below HR0_0.out HB.out))
        (case side2 => exact HC0_0.out)
        rintro e w114 ⟨v325, rfl, ho0, hb⟩
        refine ⟨_, rfl, ?_⟩
        replace HO_315001 := Aside0.mk (Kd.R_below (xr HO_315001) hb); have HO326 := Aside0.mk (Kd.R_lower (Kd.R_new' (Kd.R_new' (Kd.R_new' (Kd.R_new' ho0 (Kd.R_lt (xr HO_298000))) (Kd.R_lt (xr HO_305000))) (Kd.R_lt (xr HO_315000))) (Kd.R_lt (xr HO_323000))) (below_size (xh HB))); replace HO_298000 := Aside0.mk (Kd.R_elder' (xr HO_298000) (Kd.R_base ho0) hb); replace HO_305000 := Aside0.mk (Kd.R_elder' (xr HO_305000) (Kd.R_base ho0) hb); replace HO_315000 := Aside0.mk (Kd.R_elder' (xr HO_315000) (Kd.R_base ho0) hb); replace HO_323000 := Aside0.mk (Kd.R_elder' (xr HO_323000) (Kd.R_base ho0) hb); replace BK271 := Aside0.mk (xbb BK271 hb); replace BK272 := Aside0.mk (xbb BK272 hb); replace BK297 := Aside0.mk (xbb BK297 hb); replace BK304 := Aside0.mk (xbb BK304 hb); replace BK314 := Aside0.mk (xbb BK314 hb); replace BK322 := Aside0.mk (xbb BK322 hb); replace HB := Aside0.mk (below_step (xh HB) hb)
        (try clear hb); (try clear hb2); (try clear hk); (try clear hi); (try clear ho0)
        obtain ⟨Ao115, co115, eo115⟩ := Kd.R_slice HO326.out
        (first | subst eo115 | (injection eo115 with f1_ f2_ f3_; have f4_ := f1_.symm; have f5_ := f3_.symm; clear f1_ f2_ f3_; subst f4_; subst f5_))
        refine hK.out _ _ ⟨(blk_cell BK304.out 0).trans rfl, (blk_cell BK304.out 1).trans rfl, (blk_cell BK304.out 2).trans rfl, (blk_cell BK304.out 3).trans rfl, (blk_cell BK271.out 0).trans rfl, (blk_cell BK271.out 1).trans rfl, (blk_cell BK271.out 2).trans rfl, (blk_cell BK271.out 3).trans rfl⟩ (fun hHeld => ?_)
        clear hK K
        refine norm_ (a' := ?_) ?_ ?_
        rotate_left
        ·show Act.put _ (some 56) _ = _
         simp only [Act.put, List.setIfInBounds_toArray, List.set_cons_zero, List.set_cons_succ, i64_w, i32_w]
         rfl
        refine one_ (i := 3) (N := some 57) #[true, true, true, true, false] rfl rfl (by kernel_rfl) (by decide) (fun K hK => ?_)
        refine goes_ Try.func10 (by kernel_rfl) rfl #[.agg #[.slice Ao51 t298.length co51, .int .i64 t301, .int .i64 t302, .int .i64 t303], .agg #[.slice Ao115 t324.length co115, .int .i64 t327, .int .i64 t328, .int .i64 t329]] (by rfl) rfl rfl (by (try simp only [List.map_toArray, List.map_cons, List.map_nil]); first | done | rfl | (simp only [List.length_drop, List.length_take]; rfl)) ?_
        with_reducible refine (laws_eqVersion.calls kj24 _ _ t298 t301 t302 t303 _ _ t324 t327 t328 t329 true _ ?side1 ?side2 ?side3 ?side4 A105.out).mono ?_
        (case side1 => exact xc (Kd.R_reads' HO_305000.out).2.2)
        (case side2 => exact (Kd.R_reads' HO_305000.out).2.1)
        (case side3 => exact xc (Kd.R_reads' HO326.out).2.2)
        (case side4 => exact (Kd.R_reads' HO326.out).2.1)
        rintro e w116 ⟨rfl, hb⟩
        refine ⟨_, rfl, ?_⟩
        replace HO_298000 := Aside0.mk (Kd.R_below (xr HO_298000) hb); replace HO_305000 := Aside0.mk (Kd.R_below (xr HO_305000) hb); replace HO_315000 := Aside0.mk (Kd.R_below (xr HO_315000) hb); replace HO_315001 := Aside0.mk (Kd.R_below (xr HO_315001) hb); replace HO_323000 := Aside0.mk (Kd.R_below (xr HO_323000) hb); replace HO326 := Aside0.mk (Kd.R_below (xr HO326) hb); replace BK271 := Aside0.mk (xbb BK271 hb); replace BK272 := Aside0.mk (xbb BK272 hb); replace BK297 := Aside0.mk (xbb BK297 hb); replace BK304 := Aside0.mk (xbb BK304 hb); replace BK314 := Aside0.mk (xbb BK314 hb); replace BK322 := Aside0.mk (xbb BK322 hb); replace HB := Aside0.mk (below_step (xh HB) hb)
        (try clear hb); (try clear hb2); (try clear hk); (try clear hi)
        refine hK.out _ _ ⟨(blk_cell BK304.out 0).trans rfl, (blk_cell BK304.out 1).trans rfl, (blk_cell BK304.out 2).trans rfl, (blk_cell BK304.out 3).trans rfl, (blk_cell BK271.out 0).trans rfl, (blk_cell BK271.out 1).trans rfl, (blk_cell BK271.out 2).trans rfl, (blk_cell BK271.out 3).trans rfl⟩ (fun hHeld => ?_)
        clear hK K
        refine norm_ (a' := ?_) ?_ ?_
        rotate_left
        ·show Act.put _ (some 57) _ = _
         simp only [Act.put, List.setIfInBounds_toArray, List.set_cons_zero, List.set_cons_succ, i64_w, i32_w]
         rfl
        refine pure_ (i := 4) (N := some 58) (v := ?_) (a' := ?_) #[true, true, true, true, true] rfl rfl (by kernel_rfl) (fun _ _ _ h => h) (Or.inl ⟨by rfl, ?_⟩) ?_ ?_
        rotate_left
        ·intro w'
         go_simp
         with_reducible rfl
        rotate_left
        ·simp only [Act.put, List.setIfInBounds_toArray, List.set_cons_zero, List.set_cons_succ, i64_w, i32_w]
         rfl
        refine done_ (by kernel_rfl) ?_
        try go_wp2
        replace HO_298000 := Aside0.mk (Kd.R_drew HO_298000.out); replace HO_305000 := Aside0.mk (Kd.R_drew HO_305000.out); replace HO_315000 := Aside0.mk (Kd.R_drew HO_315000.out); replace HO_315001 := Aside0.mk (Kd.R_drew HO_315001.out); replace HO_323000 := Aside0.mk (Kd.R_drew HO_323000.out); replace HO326 := Aside0.mk (Kd.R_drew HO326.out); replace BK271 := Aside0.mk (blk_drew BK271.out); replace BK272 := Aside0.mk (blk_drew BK272.out); replace BK297 := Aside0.mk (blk_drew BK297.out); replace BK304 := Aside0.mk (blk_drew BK304.out); replace BK314 := Aside0.mk (blk_drew BK314.out); replace BK322 := Aside0.mk (blk_drew BK322.out); replace HB := Aside0.mk (below_drew1 HB.out)
        refine start_ (n := 5) (S := fun w' => w'.cell? ⟨gb314, 0, none⟩ = some (.slice Ao60 t305.length co60) ∧ w'.cell? ⟨gb314, 1, none⟩ = some (.slice Ao66 t308.length co66) ∧ w'.cell? ⟨gb314, 2, none⟩ = some (.int .i64 t311) ∧ w'.cell? ⟨gb314, 3, none⟩ = some (.int .i64 t312) ∧ w'.cell? ⟨gb314, 4, none⟩ = some (.int .i64 t313) ∧ w'.cell? ⟨gb272, 0, none⟩ = some (.slice A1_0 l1_0.length c1_0) ∧ w'.cell? ⟨gb272, 1, none⟩ = some (.slice A1_1 l1_1.length c1_1) ∧ w'.cell? ⟨gb272, 2, none⟩ = some (.int .i64 a1_2) ∧ w'.cell? ⟨gb272, 3, none⟩ = some (.int .i64 a1_3) ∧ w'.cell? ⟨gb272, 4, none⟩ = some (.int .i64 a1_4)) (ds := []) #[false, false, false, false, false] (by kernel_rfl) rfl rfl ⟨(blk_cell BK314.out 0).trans rfl, (blk_cell BK314.out 1).trans rfl, (blk_cell BK314.out 2).trans rfl, (blk_cell BK314.out 3).trans rfl, (blk_cell BK314.out 4).trans rfl, (blk_cell BK272.out 0).trans rfl, (blk_cell BK272.out 1).trans rfl, (blk_cell BK272.out 2).trans rfl, (blk_cell BK272.out 3).trans rfl, (blk_cell BK272.out 4).trans rfl⟩ (fun hHeld => ?_)
        generalize w116.drew = w117 at HO_298000 HO_305000 HO_315000 HO_315001 HO_323000 HO326 BK271 BK272 BK297 BK304 BK314 BK322 HB hHeld ⊢
        refine take_ (i := 0) (N := some 59) (v := ?_) (a' := ?_) #[true, false, false, false, false] rfl rfl (by kernel_rfl) (fun _ _ _ h => h) (Or.inl ⟨by rfl, ?_⟩) hHeld ?_ ?_
        rotate_left
        ·rintro w' ⟨s0, s1, s2, s3, s4, s5, s6, s7, s8, s9⟩
         go_simp
         with_reducible rfl
        rotate_left
        ·simp only [Act.put, List.setIfInBounds_toArray, List.set_cons_zero, List.set_cons_succ, i64_w, i32_w]
         rfl
        refine take_ (i := 1) (N := some 60) (v := ?_) (a' := ?_) #[true, true, false, false, false] rfl rfl (by kernel_rfl) (fun _ _ _ h => h) (Or.inl ⟨by rfl, ?_⟩) hHeld ?_ ?_
        rotate_left
        ·rintro w' ⟨s0, s1, s2, s3, s4, s5, s6, s7, s8, s9⟩
         go_simp
         with_reducible rfl
        rotate_left
        ·simp only [Act.put, List.setIfInBounds_toArray, List.set_cons_zero, List.set_cons_succ, i64_w, i32_w]
         rfl
        refine one_ (i := 2) (N := some 61) #[true, true, true, false, false] rfl rfl (by kernel_rfl) (by decide) (fun K hK => ?_)
        refine goes_ Try.func8 (by kernel_rfl) rfl #[.agg #[.slice A1_0 l1_0.length c1_0, .slice A1_1 l1_1.length c1_1, .int .i64 a1_2, .int .i64 a1_3, .int .i64 a1_4]] (by rfl) rfl rfl (by (try simp only [List.map_toArray, List.map_cons, List.map_nil]); first | done | rfl | (simp only [List.length_drop, List.length_take]; rfl)) ?_
        with_reducible refine (laws_toEdit.calls kj24 _ _ l1_0 _ _ l1_1 a1_2 a1_3 a1_4 t331 t334 t337 t338 t339 _ ?side1 ?side2 ?side3 ?side4 A107.out).mono ?_
        (case side1 => exact xc (Kd.C_below HR1_0.out HB.out))
        (case side2 => exact HC1_0.out)
        (case side3 => exact xc (Kd.C_below HR1_1.out HB.out))
        (case side4 => exact HC1_1.out)
        rintro e w118 ⟨v332, v335, rfl, ho0, ho1, hb⟩
        refine ⟨_, rfl, ?_⟩
        have HO333 := Aside0.mk (Kd.R_lower (Kd.R_new' (Kd.R_new' (Kd.R_new' (Kd.R_new' (Kd.R_new' ho0 (Kd.R_lt (xr HO_298000))) (Kd.R_lt (xr HO_305000))) (Kd.R_lt (xr HO_315000))) (Kd.R_lt (xr HO_323000))) (Kd.R_lt (xr HO326))) (below_size (xh HB))); replace HO_298000 := Aside0.mk (Kd.R_elder' (xr HO_298000) (Kd.R_base ho0) hb); replace HO_305000 := Aside0.mk (Kd.R_elder' (xr HO_305000) (Kd.R_base ho0) hb); replace HO_315000 := Aside0.mk (Kd.R_elder' (xr HO_315000) (Kd.R_base ho0) hb); replace HO_323000 := Aside0.mk (Kd.R_elder' (xr HO_323000) (Kd.R_base ho0) hb); replace HO326 := Aside0.mk (Kd.R_elder' (xr HO326) (Kd.R_base ho0) hb); have HO336 := Aside0.mk (Kd.R_lower (Kd.R_new' ho1 (Kd.R_lt (xr HO_315001))) (below_size (xh HB))); replace HO_315001 := Aside0.mk (Kd.R_elder' (xr HO_315001) (Kd.R_base ho1) hb); replace BK271 := Aside0.mk (xbb BK271 hb); replace BK272 := Aside0.mk (xbb BK272 hb); replace BK297 := Aside0.mk (xbb BK297 hb); replace BK304 := Aside0.mk (xbb BK304 hb); replace BK314 := Aside0.mk (xbb BK314 hb); replace BK322 := Aside0.mk (xbb BK322 hb); replace HB := Aside0.mk (below_step (xh HB) hb)
        (try clear hb); (try clear hb2); (try clear hk); (try clear hi); (try clear ho0); (try clear ho1)
        obtain ⟨Ao119, co119, eo119⟩ := Kd.R_slice HO333.out
        (first | subst eo119 | (injection eo119 with f1_ f2_ f3_; have f4_ := f1_.symm; have f5_ := f3_.symm; clear f1_ f2_ f3_; subst f4_; subst f5_))
        obtain ⟨Ao120, co120, eo120⟩ := Kd.R_slice HO336.out
        (first | subst eo120 | (injection eo120 with f1_ f2_ f3_; have f4_ := f1_.symm; have f5_ := f3_.symm; clear f1_ f2_ f3_; subst f4_; subst f5_))
        refine hK.out _ _ ⟨(blk_cell BK314.out 0).trans rfl, (blk_cell BK314.out 1).trans rfl, (blk_cell BK314.out 2).trans rfl, (blk_cell BK314.out 3).trans rfl, (blk_cell BK314.out 4).trans rfl, (blk_cell BK272.out 0).trans rfl, (blk_cell BK272.out 1).trans rfl, (blk_cell BK272.out 2).trans rfl, (blk_cell BK272.out 3).trans rfl, (blk_cell BK272.out 4).trans rfl⟩ (fun hHeld => ?_)
        clear hK K
        refine norm_ (a' := ?_) ?_ ?_
        rotate_left
        ·show Act.put _ (some 61) _ = _
         simp only [Act.put, List.setIfInBounds_toArray, List.set_cons_zero, List.set_cons_succ, i64_w, i32_w]
         rfl
        refine one_ (i := 3) (N := some 62) #[true, true, true, true, false] rfl rfl (by kernel_rfl) (by decide) (fun K hK => ?_)
        refine goes_ Try.func11 (by kernel_rfl) rfl #[.agg #[.slice Ao60 t305.length co60, .slice Ao66 t308.length co66, .int .i64 t311, .int .i64 t312, .int .i64 t313], .agg #[.slice Ao119 t331.length co119, .slice Ao120 t334.length co120, .int .i64 t337, .int .i64 t338, .int .i64 t339]] (by rfl) rfl rfl (by (try simp only [List.map_toArray, List.map_cons, List.map_nil]); first | done | rfl | (simp only [List.length_drop, List.length_take]; rfl)) ?_
        with_reducible refine (laws_eqEdit.calls kj24 _ _ t305 _ _ t308 t311 t312 t313 _ _ t331 _ _ t334 t337 t338 t339 true _ ?side1 ?side2 ?side3 ?side4 ?side5 ?side6 ?side7 ?side8 A108.out).mono ?_
        (case side1 => exact xc (Kd.R_reads' HO_315000.out).2.2)
        (case side2 => exact (Kd.R_reads' HO_315000.out).2.1)
        (case side3 => exact xc (Kd.R_reads' HO_315001.out).2.2)
        (case side4 => exact (Kd.R_reads' HO_315001.out).2.1)
        (case side5 => exact xc (Kd.R_reads' HO333.out).2.2)
        (case side6 => exact (Kd.R_reads' HO333.out).2.1)
        (case side7 => exact xc (Kd.R_reads' HO336.out).2.2)
        (case side8 => exact (Kd.R_reads' HO336.out).2.1)
        rintro e w121 ⟨rfl, hb⟩
        refine ⟨_, rfl, ?_⟩
        replace HO_298000 := Aside0.mk (Kd.R_below (xr HO_298000) hb); replace HO_305000 := Aside0.mk (Kd.R_below (xr HO_305000) hb); replace HO_315000 := Aside0.mk (Kd.R_below (xr HO_315000) hb); replace HO_315001 := Aside0.mk (Kd.R_below (xr HO_315001) hb); replace HO_323000 := Aside0.mk (Kd.R_below (xr HO_323000) hb); replace HO326 := Aside0.mk (Kd.R_below (xr HO326) hb); replace HO333 := Aside0.mk (Kd.R_below (xr HO333) hb); replace HO336 := Aside0.mk (Kd.R_below (xr HO336) hb); replace BK271 := Aside0.mk (xbb BK271 hb); replace BK272 := Aside0.mk (xbb BK272 hb); replace BK297 := Aside0.mk (xbb BK297 hb); replace BK304 := Aside0.mk (xbb BK304 hb); replace BK314 := Aside0.mk (xbb BK314 hb); replace BK322 := Aside0.mk (xbb BK322 hb); replace HB := Aside0.mk (below_step (xh HB) hb)
        (try clear hb); (try clear hb2); (try clear hk); (try clear hi)
        refine hK.out _ _ ⟨(blk_cell BK314.out 0).trans rfl, (blk_cell BK314.out 1).trans rfl, (blk_cell BK314.out 2).trans rfl, (blk_cell BK314.out 3).trans rfl, (blk_cell BK314.out 4).trans rfl, (blk_cell BK272.out 0).trans rfl, (blk_cell BK272.out 1).trans rfl, (blk_cell BK272.out 2).trans rfl, (blk_cell BK272.out 3).trans rfl, (blk_cell BK272.out 4).trans rfl⟩ (fun hHeld => ?_)
        clear hK K
        refine norm_ (a' := ?_) ?_ ?_
        rotate_left
        ·show Act.put _ (some 62) _ = _
         simp only [Act.put, List.setIfInBounds_toArray, List.set_cons_zero, List.set_cons_succ, i64_w, i32_w]
         rfl
        refine pure_ (i := 4) (N := some 63) (v := ?_) (a' := ?_) #[true, true, true, true, true] rfl rfl (by kernel_rfl) (fun _ _ _ h => h) (Or.inl ⟨by rfl, ?_⟩) ?_ ?_
        rotate_left
        ·intro w'
         go_simp
         with_reducible rfl
        rotate_left
        ·simp only [Act.put, List.setIfInBounds_toArray, List.set_cons_zero, List.set_cons_succ, i64_w, i32_w]
         rfl
        refine done_ (by kernel_rfl) ?_
        have hnb122 := NB304_271.out; have hnc122 := NB271_304.out; have hnb123 := NB304_272.out; have hnc123 := NB272_304.out; have hnb124 := NB304_297.out; have hnc124 := NB297_304.out; have hnb125 := NB304_314.out; have hnc125 := NB314_304.out; have hnb126 := NB304_322.out; have hnc126 := NB322_304.out; have hcz127_0 : w121.cell? ⟨gb304, 0, none⟩ = some (.slice Ao51 t298.length co51) := (blk_cell BK304.out 0).trans rfl; have hcz127_1 : w121.cell? ⟨gb304, 1, none⟩ = some (.int .i64 t301) := (blk_cell BK304.out 1).trans rfl; have hcz127_2 : w121.cell? ⟨gb304, 2, none⟩ = some (.int .i64 t302) := (blk_cell BK304.out 2).trans rfl; have hcz127_3 : w121.cell? ⟨gb304, 3, none⟩ = some (.int .i64 t303) := (blk_cell BK304.out 3).trans rfl; have hfz127_0 := blk_frozen BK304.out 0; have hfz127_1 := blk_frozen BK304.out 1; have hfz127_2 := blk_frozen BK304.out 2; have hfz127_3 := blk_frozen BK304.out 3
        go_upto_region 21 with (first | ((with_reducible refine gate_callee (f := 12) rfl ?_); refine goesL_ (some 66) rfl rfl Try.func12 (by kernel_rfl) rfl #[.agg #[.slice Ao51 t298.length co51, .int .i64 t301, .int .i64 t302, .int .i64 t303], .int .i64 1] rfl (by (try simp only [List.map_toArray, List.map_cons, List.map_nil]); first | done | rfl | (simp only [List.length_drop, List.length_take]; rfl)) ?_; (with_reducible refine (laws_markVersion.calls kj24 (fun k_ => some k_ = (.slice Ao51 t298.length co51 : Value).ownBlock) (.slice Ao51 t298.length co51) t298 t301 t302 t303 1 t341 t342 w _ ?side1 ?side2 A110.out).mono ?_); (case side1 => repeat (first | (with_reducible first | exact HB.out | apply below_alloc | apply pw_below_drewN | apply below_drew1 | refine below_set ?_ GE271.out | refine below_set ?_ GE272.out | refine below_set ?_ GE297.out | refine below_set ?_ GE304.out | refine below_set ?_ GE314.out | refine below_set ?_ GE322.out) | exact HB.out)); (case side2 => exact Kd.R_tight rfl HO_305000.out); rintro e w128 ⟨rfl, hy0, hb, hkp⟩; refine ⟨_, rfl, ?_⟩; replace HO_298000 := Aside0.mk (Kd.R_mono (ok' := fun k_ => some k_ ≠ (.slice Ao51 t298.length co51 : Value).ownBlock ∧ some k_ ≠ (.slice Ao60 t305.length co60 : Value).ownBlock ∧ some k_ ≠ (.slice Ao70 t315.length co70 : Value).ownBlock ∧ some k_ ≠ (.slice Ao115 t324.length co115 : Value).ownBlock ∧ some k_ ≠ (.slice Ao119 t331.length co119 : Value).ownBlock) (Kd.R_keptB (HO_298000.out) hkp (fun k_ hk_ hs_ => (hk_.1.1.1) hs_)) (fun k_ hk_ => ⟨hk_.1.1.1.1, hk_.1.1.1.2.1, hk_.1.1.1.2.2, hk_.1.1.2, hk_.1.2⟩)); replace HO_315000 := Aside0.mk (Kd.R_mono (ok' := fun k_ => some k_ ≠ (.slice Ao42 t290.length co42 : Value).ownBlock ∧ some k_ ≠ (.slice Ao51 t298.length co51 : Value).ownBlock ∧ some k_ ≠ (.slice Ao70 t315.length co70 : Value).ownBlock ∧ some k_ ≠ (.slice Ao115 t324.length co115 : Value).ownBlock ∧ some k_ ≠ (.slice Ao119 t331.length co119 : Value).ownBlock) (Kd.R_keptB (HO_315000.out) hkp (fun k_ hk_ hs_ => (hk_.1.1.2.1) hs_)) (fun k_ hk_ => ⟨hk_.1.1.1.1, hk_.1.1.1.2.1, hk_.1.1.1.2.2, hk_.1.1.2, hk_.1.2⟩)); replace HO_315001 := Aside0.mk (Kd.R_mono (ok' := fun k_ => some k_ ≠ (.slice Ao120 t334.length co120 : Value).ownBlock) (Kd.R_keptB ((Kd.R_apart' HO_315001.out (Kd.R_typed HO_305000.out) (by decide))) hkp (fun k_ hk_ hs_ => (hk_.2) hs_)) (fun k_ hk_ => hk_.1.1.2)); replace HO_323000 := Aside0.mk (Kd.R_mono (ok' := fun k_ => some k_ ≠ (.slice Ao42 t290.length co42 : Value).ownBlock ∧ some k_ ≠ (.slice Ao51 t298.length co51 : Value).ownBlock ∧ some k_ ≠ (.slice Ao60 t305.length co60 : Value).ownBlock ∧ some k_ ≠ (.slice Ao115 t324.length co115 : Value).ownBlock ∧ some k_ ≠ (.slice Ao119 t331.length co119 : Value).ownBlock) (Kd.R_keptB (HO_323000.out) hkp (fun k_ hk_ hs_ => (hk_.1.1.2.1) hs_)) (fun k_ hk_ => ⟨hk_.1.1.1.1, hk_.1.1.1.2.1, hk_.1.1.1.2.2, hk_.1.1.2, hk_.1.2⟩)); replace BK271 := Aside0.mk (blk_kept (xb BK271) hkp (fun hs_ => (fun e_ => (Kd.R_ne HO_305000.out BK271.out (by decide)) e_) hs_)); replace BK272 := Aside0.mk (blk_kept (xb BK272) hkp (fun hs_ => (fun e_ => (Kd.R_ne HO_305000.out BK272.out (by decide)) e_) hs_)); replace BK297 := Aside0.mk (blk_kept (xb BK297) hkp (fun hs_ => (fun e_ => (Kd.R_ne HO_305000.out BK297.out (by decide)) e_) hs_)); replace BK304 := Aside0.mk (blk_kept (xb BK304) hkp (fun hs_ => (fun e_ => (Kd.R_ne HO_305000.out BK304.out (by decide)) e_) hs_)); replace BK314 := Aside0.mk (blk_kept (xb BK314) hkp (fun hs_ => (fun e_ => (Kd.R_ne HO_305000.out BK314.out (by decide)) e_) hs_)); replace BK322 := Aside0.mk (blk_kept (xb BK322) hkp (fun hs_ => (fun e_ => (Kd.R_ne HO_305000.out BK322.out (by decide)) e_) hs_)); replace HO326 := Aside0.mk (Kd.R_mono (ok' := fun k_ => some k_ ≠ (.slice Ao42 t290.length co42 : Value).ownBlock ∧ some k_ ≠ (.slice Ao51 t298.length co51 : Value).ownBlock ∧ some k_ ≠ (.slice Ao60 t305.length co60 : Value).ownBlock ∧ some k_ ≠ (.slice Ao70 t315.length co70 : Value).ownBlock ∧ some k_ ≠ (.slice Ao119 t331.length co119 : Value).ownBlock) (Kd.R_keptB (HO326.out) hkp (fun k_ hk_ hs_ => (hk_.1.1.1.2) hs_)) (fun k_ hk_ => ⟨hk_.1.1.1.1.1.2, hk_.1.1.1.1.2, hk_.1.1.1.2, hk_.1.1.2, hk_.1.2⟩)); replace HO333 := Aside0.mk (Kd.R_mono (ok' := fun k_ => some k_ ≠ (.slice Ao42 t290.length co42 : Value).ownBlock ∧ some k_ ≠ (.slice Ao51 t298.length co51 : Value).ownBlock ∧ some k_ ≠ (.slice Ao60 t305.length co60 : Value).ownBlock ∧ some k_ ≠ (.slice Ao70 t315.length co70 : Value).ownBlock ∧ some k_ ≠ (.slice Ao115 t324.length co115 : Value).ownBlock) (Kd.R_keptB (HO333.out) hkp (fun k_ hk_ hs_ => (hk_.1.1.1.2) hs_)) (fun k_ hk_ => ⟨hk_.1.1.1.1.1.2, hk_.1.1.1.1.2, hk_.1.1.1.2, hk_.1.1.2, hk_.1.2⟩)); replace HO336 := Aside0.mk (Kd.R_mono (ok' := fun k_ => some k_ ≠ (.slice Ao66 t308.length co66 : Value).ownBlock) (Kd.R_keptB ((Kd.R_apart' HO336.out (Kd.R_typed HO_305000.out) (by decide))) hkp (fun k_ hk_ hs_ => (hk_.2) hs_)) (fun k_ hk_ => hk_.1.1.2)); replace HO_305000 := Aside0.mk (Kd.R_reok rfl hy0 (fun k_ e_ => HO_305000.out.1 k_ e_)); replace HB := Aside0.mk (hb); (try clear hb); (try clear hkp); (try clear hy0); have hnb129 := NB314_271.out; have hnc129 := NB271_314.out; have hnb130 := NB314_272.out; have hnc130 := NB272_314.out; have hnb131 := NB314_297.out; have hnc131 := NB297_314.out; have hnb132 := NB314_322.out; have hnc132 := NB322_314.out; have hcz133_0 : w128.cell? ⟨gb314, 0, none⟩ = some (.slice Ao60 t305.length co60) := (blk_cell BK314.out 0).trans rfl; have hcz133_1 : w128.cell? ⟨gb314, 1, none⟩ = some (.slice Ao66 t308.length co66) := (blk_cell BK314.out 1).trans rfl; have hcz133_2 : w128.cell? ⟨gb314, 2, none⟩ = some (.int .i64 t311) := (blk_cell BK314.out 2).trans rfl; have hcz133_3 : w128.cell? ⟨gb314, 3, none⟩ = some (.int .i64 t312) := (blk_cell BK314.out 3).trans rfl; have hcz133_4 : w128.cell? ⟨gb314, 4, none⟩ = some (.int .i64 t313) := (blk_cell BK314.out 4).trans rfl; have hfz133_0 := blk_frozen BK314.out 0; have hfz133_1 := blk_frozen BK314.out 1; have hfz133_2 := blk_frozen BK314.out 2; have hfz133_3 := blk_frozen BK314.out 3; have hfz133_4 := blk_frozen BK314.out 4) | ((with_reducible refine gate_callee (f := 13) rfl ?_); refine goesL_ (some 69) rfl rfl Try.func13 (by kernel_rfl) rfl #[.agg #[.slice Ao60 t305.length co60, .slice Ao66 t308.length co66, .int .i64 t311, .int .i64 t312, .int .i64 t313], .int .i64 t341] rfl (by (try simp only [List.map_toArray, List.map_cons, List.map_nil]); first | done | rfl | (simp only [List.length_drop, List.length_take]; rfl)) ?_; (with_reducible refine (laws_markEdit.calls kj24 (fun k_ => some k_ = (.slice Ao60 t305.length co60 : Value).ownBlock) (.slice Ao60 t305.length co60) t305 (fun k_ => some k_ = (.slice Ao66 t308.length co66 : Value).ownBlock) (.slice Ao66 t308.length co66) t308 t311 t312 t313 t341 t343 t344 t345 w _ ?side1 ?side2 ?side3 A111.out).mono ?_); (case side1 => repeat (first | (with_reducible first | exact HB.out | apply below_alloc | apply pw_below_drewN | apply below_drew1 | refine below_set ?_ GE271.out | refine below_set ?_ GE272.out | refine below_set ?_ GE297.out | refine below_set ?_ GE304.out | refine below_set ?_ GE314.out | refine below_set ?_ GE322.out) | exact HB.out)); (case side2 => exact Kd.R_tight rfl HO_315000.out); (case side3 => exact Kd.R_tight rfl HO_315001.out); rintro e w134 ⟨rfl, hy0, hy1, hb, hkp⟩; refine ⟨_, rfl, ?_⟩; replace HO_298000 := Aside0.mk (Kd.R_mono (ok' := fun k_ => some k_ ≠ (.slice Ao51 t298.length co51 : Value).ownBlock ∧ some k_ ≠ (.slice Ao60 t305.length co60 : Value).ownBlock ∧ some k_ ≠ (.slice Ao70 t315.length co70 : Value).ownBlock ∧ some k_ ≠ (.slice Ao115 t324.length co115 : Value).ownBlock ∧ some k_ ≠ (.slice Ao119 t331.length co119 : Value).ownBlock) (Kd.R_keptB ((Kd.R_apart' HO_298000.out (Kd.R_typed HO_315001.out) (by decide))) hkp (fun k_ hk_ hs_ => Or.elim hs_ (fun e_ => (hk_.1.2.1) e_) (fun e_ => (hk_.2) e_))) (fun k_ hk_ => ⟨hk_.1.1.1, hk_.1.1.2.1, hk_.1.1.2.2.1, hk_.1.1.2.2.2.1, hk_.1.1.2.2.2.2⟩)); replace HO_305000 := Aside0.mk (Kd.R_mono (ok' := fun k_ => some k_ ≠ (.slice Ao42 t290.length co42 : Value).ownBlock ∧ some k_ ≠ (.slice Ao60 t305.length co60 : Value).ownBlock ∧ some k_ ≠ (.slice Ao70 t315.length co70 : Value).ownBlock ∧ some k_ ≠ (.slice Ao115 t324.length co115 : Value).ownBlock ∧ some k_ ≠ (.slice Ao119 t331.length co119 : Value).ownBlock) (Kd.R_keptB ((Kd.R_apart' HO_305000.out (Kd.R_typed HO_315001.out) (by decide))) hkp (fun k_ hk_ hs_ => Or.elim hs_ (fun e_ => (hk_.1.1.1.2.1) e_) (fun e_ => (hk_.2) e_))) (fun k_ hk_ => ⟨hk_.1.1.1.1.1, hk_.1.1.1.1.2.1, hk_.1.1.1.1.2.2, hk_.1.1.1.2, hk_.1.1.2⟩)); replace HO_323000 := Aside0.mk (Kd.R_mono (ok' := fun k_ => some k_ ≠ (.slice Ao42 t290.length co42 : Value).ownBlock ∧ some k_ ≠ (.slice Ao51 t298.length co51 : Value).ownBlock ∧ some k_ ≠ (.slice Ao60 t305.length co60 : Value).ownBlock ∧ some k_ ≠ (.slice Ao115 t324.length co115 : Value).ownBlock ∧ some k_ ≠ (.slice Ao119 t331.length co119 : Value).ownBlock) (Kd.R_keptB ((Kd.R_apart' HO_323000.out (Kd.R_typed HO_315001.out) (by decide))) hkp (fun k_ hk_ hs_ => Or.elim hs_ (fun e_ => (hk_.1.2.2.1) e_) (fun e_ => (hk_.2) e_))) (fun k_ hk_ => ⟨hk_.1.1.1, hk_.1.1.2.1, hk_.1.1.2.2.1, hk_.1.1.2.2.2.1, hk_.1.1.2.2.2.2⟩)); replace BK271 := Aside0.mk (blk_kept (xb BK271) hkp (fun hs_ => Or.elim hs_ (fun e_ => (fun e_ => (Kd.R_ne HO_315000.out BK271.out (by decide)) e_) e_) (fun e_ => (fun e_ => (Kd.R_ne HO_315001.out BK271.out (by decide)) e_) e_))); replace BK272 := Aside0.mk (blk_kept (xb BK272) hkp (fun hs_ => Or.elim hs_ (fun e_ => (fun e_ => (Kd.R_ne HO_315000.out BK272.out (by decide)) e_) e_) (fun e_ => (fun e_ => (Kd.R_ne HO_315001.out BK272.out (by decide)) e_) e_))); replace BK297 := Aside0.mk (blk_kept (xb BK297) hkp (fun hs_ => Or.elim hs_ (fun e_ => (fun e_ => (Kd.R_ne HO_315000.out BK297.out (by decide)) e_) e_) (fun e_ => (fun e_ => (Kd.R_ne HO_315001.out BK297.out (by decide)) e_) e_))); replace BK304 := Aside0.mk (blk_kept (xb BK304) hkp (fun hs_ => Or.elim hs_ (fun e_ => (fun e_ => (Kd.R_ne HO_315000.out BK304.out (by decide)) e_) e_) (fun e_ => (fun e_ => (Kd.R_ne HO_315001.out BK304.out (by decide)) e_) e_))); replace BK314 := Aside0.mk (blk_kept (xb BK314) hkp (fun hs_ => Or.elim hs_ (fun e_ => (fun e_ => (Kd.R_ne HO_315000.out BK314.out (by decide)) e_) e_) (fun e_ => (fun e_ => (Kd.R_ne HO_315001.out BK314.out (by decide)) e_) e_))); replace BK322 := Aside0.mk (blk_kept (xb BK322) hkp (fun hs_ => Or.elim hs_ (fun e_ => (fun e_ => (Kd.R_ne HO_315000.out BK322.out (by decide)) e_) e_) (fun e_ => (fun e_ => (Kd.R_ne HO_315001.out BK322.out (by decide)) e_) e_))); replace HO326 := Aside0.mk (Kd.R_mono (ok' := fun k_ => some k_ ≠ (.slice Ao42 t290.length co42 : Value).ownBlock ∧ some k_ ≠ (.slice Ao51 t298.length co51 : Value).ownBlock ∧ some k_ ≠ (.slice Ao60 t305.length co60 : Value).ownBlock ∧ some k_ ≠ (.slice Ao70 t315.length co70 : Value).ownBlock ∧ some k_ ≠ (.slice Ao119 t331.length co119 : Value).ownBlock) (Kd.R_keptB ((Kd.R_apart' HO326.out (Kd.R_typed HO_315001.out) (by decide))) hkp (fun k_ hk_ hs_ => Or.elim hs_ (fun e_ => (hk_.1.2.2.1) e_) (fun e_ => (hk_.2) e_))) (fun k_ hk_ => ⟨hk_.1.1.1, hk_.1.1.2.1, hk_.1.1.2.2.1, hk_.1.1.2.2.2.1, hk_.1.1.2.2.2.2⟩)); replace HO333 := Aside0.mk (Kd.R_mono (ok' := fun k_ => some k_ ≠ (.slice Ao42 t290.length co42 : Value).ownBlock ∧ some k_ ≠ (.slice Ao51 t298.length co51 : Value).ownBlock ∧ some k_ ≠ (.slice Ao60 t305.length co60 : Value).ownBlock ∧ some k_ ≠ (.slice Ao70 t315.length co70 : Value).ownBlock ∧ some k_ ≠ (.slice Ao115 t324.length co115 : Value).ownBlock) (Kd.R_keptB ((Kd.R_apart' HO333.out (Kd.R_typed HO_315001.out) (by decide))) hkp (fun k_ hk_ hs_ => Or.elim hs_ (fun e_ => (hk_.1.2.2.1) e_) (fun e_ => (hk_.2) e_))) (fun k_ hk_ => ⟨hk_.1.1.1, hk_.1.1.2.1, hk_.1.1.2.2.1, hk_.1.1.2.2.2.1, hk_.1.1.2.2.2.2⟩)); replace HO_315001 := Aside0.mk (Kd.R_reok rfl hy1 (fun k_ e_ => HO_315001.out.1 k_ e_)); replace HO336 := Aside0.mk (Kd.R_mono (ok' := fun k_ => some k_ ≠ (.slice Ao66 t308.length co66 : Value).ownBlock) (Kd.R_keptB ((Kd.R_apart' HO336.out (Kd.R_typed HO_315000.out) (by decide))) hkp (fun k_ hk_ hs_ => Or.elim hs_ (fun e_ => (hk_.2) e_) (fun e_ => (hk_.1) e_))) (fun k_ hk_ => hk_.1.1)); replace HO_315000 := Aside0.mk (Kd.R_reok rfl hy0 (fun k_ e_ => HO_315000.out.1 k_ e_)); replace HB := Aside0.mk (hb); (try clear hb); (try clear hkp); (try clear hy0); (try clear hy1)))
        (try simp only [Act.put, List.setIfInBounds_toArray, List.set_cons_zero, List.set_cons_succ])
        go_cut [82] (fun v82 wc => ∃ (kq : Nat) (x82_111 : Bool), v82 = .bool x82_111 ∧ Aside0 (laws_FnExactApplyEdit.j1 kq t296 x82_111 l0_0 a0_1 a0_2 a0_3 l1_0 l1_1 a1_2 a1_3 a1_4 t290 t293 t294 t295 t315 t318 t319 t320 = some true) ∧ Aside0 (kq ≤ kj24) ∧ Aside0 (Kd.R k48 48 wc w.heap.size (fun k_ => some k_ ≠ ((.slice Ao51 t298.length co51) : Value).ownBlock ∧ some k_ ≠ ((.slice Ao60 t305.length co60) : Value).ownBlock ∧ some k_ ≠ ((.slice Ao70 t315.length co70) : Value).ownBlock) (.slice Ao42 t290.length co42) t290) ∧ Aside0 (Kd.R k48 48 wc w.heap.size (fun k_ => some k_ ≠ ((.slice Ao42 t290.length co42) : Value).ownBlock ∧ some k_ ≠ ((.slice Ao60 t305.length co60) : Value).ownBlock ∧ some k_ ≠ ((.slice Ao70 t315.length co70) : Value).ownBlock) (.slice Ao51 t298.length co51) t342) ∧ Aside0 (Kd.R k48 48 wc w.heap.size (fun k_ => some k_ ≠ ((.slice Ao42 t290.length co42) : Value).ownBlock ∧ some k_ ≠ ((.slice Ao51 t298.length co51) : Value).ownBlock ∧ some k_ ≠ ((.slice Ao70 t315.length co70) : Value).ownBlock) (.slice Ao60 t305.length co60) t344) ∧ Aside0 (Kd.R (Kd.int .i64) 3 wc w.heap.size (fun _ => True) (.slice Ao66 t308.length co66) t345) ∧ Aside0 (Kd.R k48 48 wc w.heap.size (fun k_ => some k_ ≠ ((.slice Ao42 t290.length co42) : Value).ownBlock ∧ some k_ ≠ ((.slice Ao51 t298.length co51) : Value).ownBlock ∧ some k_ ≠ ((.slice Ao60 t305.length co60) : Value).ownBlock) (.slice Ao70 t315.length co70) t315) ∧ Aside0 (wc.heap[gb271]? = some (.cells #[(.slice A0_0 l0_0.length c0_0), .int .i64 a0_1, .int .i64 a0_2, .int .i64 a0_3] 24 (0, 0))) ∧ Aside0 (wc.heap[gb272]? = some (.cells #[(.slice A1_0 l1_0.length c1_0), (.slice A1_1 l1_1.length c1_1), .int .i64 a1_2, .int .i64 a1_3, .int .i64 a1_4] 27 (0, 0))) ∧ Aside0 (wc.heap[gb297]? = some (.cells #[(.slice Ao42 t290.length co42), .int .i64 t293, .int .i64 t294, .int .i64 t295] 32 (0, 0))) ∧ Aside0 (wc.heap[gb304]? = some (.cells #[(.slice Ao51 t298.length co51), .int .i64 t301, .int .i64 t302, .int .i64 t303] 32 (0, 0))) ∧ Aside0 (wc.heap[gb314]? = some (.cells #[(.slice Ao60 t305.length co60), (.slice Ao66 t308.length co66), .int .i64 t311, .int .i64 t312, .int .i64 t313] 37 (0, 0))) ∧ Aside0 (wc.heap[gb322]? = some (.cells #[(.slice Ao70 t315.length co70), .int .i64 t318, .int .i64 t319, .int .i64 t320] 32 (0, 0))) ∧ Aside0 (Below w.heap.size w wc))
        case first =>
         have H := HC112.out; clear HC112
         by_cases c135 : t343 < 0
         ·rw [if_pos c135] at H
          have c135b0 : decide (t343 < 0) = true := decide_eq_true c135; clear c135
          (first | rw [c135b0] | (simp only [i64_w, i32_w]; rw [c135b0]) | skip)
          have H' := Aside0.mk H; clear H
          go_wp2
          go_meet
          case rel => exact ⟨_, (true), (by first | rfl | (simp; done) | (simp [*]; done)), H', ⟨by have := HJ24.out; first | omega | exact Nat.le_refl _⟩, ⟨by (with_reducible repeat (first | apply Kd.R_alloc | apply Kd.R_drewN | apply Kd.R_drew)); exact Kd.R_mono HO_298000.out (fun _ hk => ⟨hk.1, ⟨hk.2.1, hk.2.2.1⟩⟩)⟩, ⟨by (with_reducible repeat (first | apply Kd.R_alloc | apply Kd.R_drewN | apply Kd.R_drew)); exact Kd.R_mono HO_305000.out (fun _ hk => ⟨hk.1, ⟨hk.2.1, hk.2.2.1⟩⟩)⟩, ⟨by (with_reducible repeat (first | apply Kd.R_alloc | apply Kd.R_drewN | apply Kd.R_drew)); exact Kd.R_mono HO_315000.out (fun _ hk => ⟨hk.1, ⟨hk.2.1, hk.2.2.1⟩⟩)⟩, ⟨by (with_reducible repeat (first | apply Kd.R_alloc | apply Kd.R_drewN | apply Kd.R_drew)); exact Kd.R_mono HO_315001.out (fun _ hk => trivial)⟩, ⟨by (with_reducible repeat (first | apply Kd.R_alloc | apply Kd.R_drewN | apply Kd.R_drew)); exact Kd.R_mono HO_323000.out (fun _ hk => ⟨hk.1, ⟨hk.2.1, hk.2.2.1⟩⟩)⟩, ⟨xb BK271⟩, ⟨xb BK272⟩, ⟨xb BK297⟩, ⟨xb BK304⟩, ⟨xb BK314⟩, ⟨xb BK322⟩, ⟨xh HB⟩⟩
         ·rw [if_neg c135] at H
          have c135b0 : decide (t343 < 0) = false := decide_eq_false c135; clear c135
          (first | rw [c135b0] | (simp only [i64_w, i32_w]; rw [c135b0]) | skip)
          replace H := Option.bind_eq_some_iff.mp H; obtain ⟨t346, A1360, H⟩ := H; replace H : (if t346 = true then (laws_FnExactApplyEdit.j1 kj24 t296 (t321 != t296) l0_0 a0_1 a0_2 a0_3 l1_0 l1_1 a1_2 a1_3 a1_4 t290 t293 t294 t295 t315 t318 t319 t320) else (laws_FnExactApplyEdit.j1 kj24 t296 true l0_0 a0_1 a0_2 a0_3 l1_0 l1_1 a1_2 a1_3 a1_4 t290 t293 t294 t295 t315 t318 t319 t320)) = some true := H; have A136 := Aside0.mk A1360; clear A1360
          by_cases c137 : t346 = true
          ·subst c137
           have H1 : (laws_FnExactApplyEdit.j1 kj24 t296 (t321 != t296) l0_0 a0_1 a0_2 a0_3 l1_0 l1_1 a1_2 a1_3 a1_4 t290 t293 t294 t295 t315 t318 t319 t320) = some true := by rw [if_pos rfl] at H; exact H
           clear H; have H := H1; clear H1; have H' := Aside0.mk H; clear H; have hnb138 := NB322_271.out; have hnc138 := NB271_322.out; have hnb139 := NB322_272.out; have hnc139 := NB272_322.out; have hnb140 := NB322_297.out; have hnc140 := NB297_322.out; have hnb141 := NB322_304.out; have hnc141 := NB304_322.out; have hnb142 := NB322_314.out; have hnc142 := NB314_322.out; have hcz143_0 : w134.cell? ⟨gb322, 0, none⟩ = some (.slice Ao70 t315.length co70) := (blk_cell BK322.out 0).trans rfl; have hcz143_1 : w134.cell? ⟨gb322, 1, none⟩ = some (.int .i64 t318) := (blk_cell BK322.out 1).trans rfl; have hcz143_2 : w134.cell? ⟨gb322, 2, none⟩ = some (.int .i64 t319) := (blk_cell BK322.out 2).trans rfl; have hcz143_3 : w134.cell? ⟨gb322, 3, none⟩ = some (.int .i64 t320) := (blk_cell BK322.out 3).trans rfl; have hfz143_0 := blk_frozen BK322.out 0; have hfz143_1 := blk_frozen BK322.out 1; have hfz143_2 := blk_frozen BK322.out 2; have hfz143_3 := blk_frozen BK322.out 3; have hnb144 := NB297_271.out; have hnc144 := NB271_297.out; have hnb145 := NB297_272.out; have hnc145 := NB272_297.out; have hnb146 := NB297_304.out; have hnc146 := NB304_297.out; have hnb147 := NB297_314.out; have hnc147 := NB314_297.out; have hcz148_0 : w134.cell? ⟨gb297, 0, none⟩ = some (.slice Ao42 t290.length co42) := (blk_cell BK297.out 0).trans rfl; have hcz148_1 : w134.cell? ⟨gb297, 1, none⟩ = some (.int .i64 t293) := (blk_cell BK297.out 1).trans rfl; have hcz148_2 : w134.cell? ⟨gb297, 2, none⟩ = some (.int .i64 t294) := (blk_cell BK297.out 2).trans rfl; have hcz148_3 : w134.cell? ⟨gb297, 3, none⟩ = some (.int .i64 t295) := (blk_cell BK297.out 3).trans rfl; have hfz148_0 := blk_frozen BK297.out 0; have hfz148_1 := blk_frozen BK297.out 1; have hfz148_2 := blk_frozen BK297.out 2; have hfz148_3 := blk_frozen BK297.out 3
           go_wp2_with (first | (go_at_call 10; (with_reducible refine (laws_eqVersion.calls kj24 _ _ t315 t318 t319 t320 _ _ t290 t293 t294 t295 true _ ?side1 ?side2 ?side3 ?side4 A136.out).mono ?_); (case side1 => exact xc (Kd.R_reads' HO_323000.out).2.2); (case side2 => exact (Kd.R_reads' HO_323000.out).2.1); (case side3 => exact xc (Kd.R_reads' HO_298000.out).2.2); (case side4 => exact (Kd.R_reads' HO_298000.out).2.1); rintro e w149 ⟨rfl, hb⟩; replace HO_298000 := Aside0.mk (Kd.R_below (xr HO_298000) hb); replace HO_305000 := Aside0.mk (Kd.R_below (xr HO_305000) hb); replace HO_315000 := Aside0.mk (Kd.R_below (xr HO_315000) hb); replace HO_315001 := Aside0.mk (Kd.R_below (xr HO_315001) hb); replace HO_323000 := Aside0.mk (Kd.R_below (xr HO_323000) hb); replace HO326 := Aside0.mk (Kd.R_below (xr HO326) hb); replace HO333 := Aside0.mk (Kd.R_below (xr HO333) hb); replace HO336 := Aside0.mk (Kd.R_below (xr HO336) hb); replace BK271 := Aside0.mk (xbb BK271 hb); replace BK272 := Aside0.mk (xbb BK272 hb); replace BK297 := Aside0.mk (xbb BK297 hb); replace BK304 := Aside0.mk (xbb BK304 hb); replace BK314 := Aside0.mk (xbb BK314 hb); replace BK322 := Aside0.mk (xbb BK322 hb); replace HB := Aside0.mk (below_step (xh HB) hb); (try clear hb); (try clear hb2); (try clear hk); (try clear hi)))
           go_meet
           case rel => exact ⟨_, ((t321 != t296)), (by first | rfl | (simp; done) | (simp [*]; done)), H', ⟨by have := HJ24.out; first | omega | exact Nat.le_refl _⟩, ⟨by (with_reducible repeat (first | apply Kd.R_alloc | apply Kd.R_drewN | apply Kd.R_drew)); exact Kd.R_mono HO_298000.out (fun _ hk => ⟨hk.1, ⟨hk.2.1, hk.2.2.1⟩⟩)⟩, ⟨by (with_reducible repeat (first | apply Kd.R_alloc | apply Kd.R_drewN | apply Kd.R_drew)); exact Kd.R_mono HO_305000.out (fun _ hk => ⟨hk.1, ⟨hk.2.1, hk.2.2.1⟩⟩)⟩, ⟨by (with_reducible repeat (first | apply Kd.R_alloc | apply Kd.R_drewN | apply Kd.R_drew)); exact Kd.R_mono HO_315000.out (fun _ hk => ⟨hk.1, ⟨hk.2.1, hk.2.2.1⟩⟩)⟩, ⟨by (with_reducible repeat (first | apply Kd.R_alloc | apply Kd.R_drewN | apply Kd.R_drew)); exact Kd.R_mono HO_315001.out (fun _ hk => trivial)⟩, ⟨by (with_reducible repeat (first | apply Kd.R_alloc | apply Kd.R_drewN | apply Kd.R_drew)); exact Kd.R_mono HO_323000.out (fun _ hk => ⟨hk.1, ⟨hk.2.1, hk.2.2.1⟩⟩)⟩, ⟨xb BK271⟩, ⟨xb BK272⟩, ⟨xb BK297⟩, ⟨xb BK304⟩, ⟨xb BK314⟩, ⟨xb BK322⟩, ⟨xh HB⟩⟩
          ·replace c137 := Bool.eq_false_iff.mpr c137
           subst c137
           have H1 : (laws_FnExactApplyEdit.j1 kj24 t296 true l0_0 a0_1 a0_2 a0_3 l1_0 l1_1 a1_2 a1_3 a1_4 t290 t293 t294 t295 t315 t318 t319 t320) = some true := by rw [if_neg (show ¬ (false = true) by decide)] at H; exact H
           clear H; have H := H1; clear H1; have H' := Aside0.mk H; clear H; have hnb150 := NB322_271.out; have hnc150 := NB271_322.out; have hnb151 := NB322_272.out; have hnc151 := NB272_322.out; have hnb152 := NB322_297.out; have hnc152 := NB297_322.out; have hnb153 := NB322_304.out; have hnc153 := NB304_322.out; have hnb154 := NB322_314.out; have hnc154 := NB314_322.out; have hcz155_0 : w134.cell? ⟨gb322, 0, none⟩ = some (.slice Ao70 t315.length co70) := (blk_cell BK322.out 0).trans rfl; have hcz155_1 : w134.cell? ⟨gb322, 1, none⟩ = some (.int .i64 t318) := (blk_cell BK322.out 1).trans rfl; have hcz155_2 : w134.cell? ⟨gb322, 2, none⟩ = some (.int .i64 t319) := (blk_cell BK322.out 2).trans rfl; have hcz155_3 : w134.cell? ⟨gb322, 3, none⟩ = some (.int .i64 t320) := (blk_cell BK322.out 3).trans rfl; have hfz155_0 := blk_frozen BK322.out 0; have hfz155_1 := blk_frozen BK322.out 1; have hfz155_2 := blk_frozen BK322.out 2; have hfz155_3 := blk_frozen BK322.out 3; have hnb156 := NB297_271.out; have hnc156 := NB271_297.out; have hnb157 := NB297_272.out; have hnc157 := NB272_297.out; have hnb158 := NB297_304.out; have hnc158 := NB304_297.out; have hnb159 := NB297_314.out; have hnc159 := NB314_297.out; have hcz160_0 : w134.cell? ⟨gb297, 0, none⟩ = some (.slice Ao42 t290.length co42) := (blk_cell BK297.out 0).trans rfl; have hcz160_1 : w134.cell? ⟨gb297, 1, none⟩ = some (.int .i64 t293) := (blk_cell BK297.out 1).trans rfl; have hcz160_2 : w134.cell? ⟨gb297, 2, none⟩ = some (.int .i64 t294) := (blk_cell BK297.out 2).trans rfl; have hcz160_3 : w134.cell? ⟨gb297, 3, none⟩ = some (.int .i64 t295) := (blk_cell BK297.out 3).trans rfl; have hfz160_0 := blk_frozen BK297.out 0; have hfz160_1 := blk_frozen BK297.out 1; have hfz160_2 := blk_frozen BK297.out 2; have hfz160_3 := blk_frozen BK297.out 3
           go_wp2_with (first | (go_at_call 10; (with_reducible refine (laws_eqVersion.calls kj24 _ _ t315 t318 t319 t320 _ _ t290 t293 t294 t295 false _ ?side1 ?side2 ?side3 ?side4 A136.out).mono ?_); (case side1 => exact xc (Kd.R_reads' HO_323000.out).2.2); (case side2 => exact (Kd.R_reads' HO_323000.out).2.1); (case side3 => exact xc (Kd.R_reads' HO_298000.out).2.2); (case side4 => exact (Kd.R_reads' HO_298000.out).2.1); rintro e w161 ⟨rfl, hb⟩; replace HO_298000 := Aside0.mk (Kd.R_below (xr HO_298000) hb); replace HO_305000 := Aside0.mk (Kd.R_below (xr HO_305000) hb); replace HO_315000 := Aside0.mk (Kd.R_below (xr HO_315000) hb); replace HO_315001 := Aside0.mk (Kd.R_below (xr HO_315001) hb); replace HO_323000 := Aside0.mk (Kd.R_below (xr HO_323000) hb); replace HO326 := Aside0.mk (Kd.R_below (xr HO326) hb); replace HO333 := Aside0.mk (Kd.R_below (xr HO333) hb); replace HO336 := Aside0.mk (Kd.R_below (xr HO336) hb); replace BK271 := Aside0.mk (xbb BK271 hb); replace BK272 := Aside0.mk (xbb BK272 hb); replace BK297 := Aside0.mk (xbb BK297 hb); replace BK304 := Aside0.mk (xbb BK304 hb); replace BK314 := Aside0.mk (xbb BK314 hb); replace BK322 := Aside0.mk (xbb BK322 hb); replace HB := Aside0.mk (below_step (xh HB) hb); (try clear hb); (try clear hb2); (try clear hk); (try clear hi)))
           go_meet
           case rel => exact ⟨_, (true), (by first | rfl | (simp; done) | (simp [*]; done)), H', ⟨by have := HJ24.out; first | omega | exact Nat.le_refl _⟩, ⟨by (with_reducible repeat (first | apply Kd.R_alloc | apply Kd.R_drewN | apply Kd.R_drew)); exact Kd.R_mono HO_298000.out (fun _ hk => ⟨hk.1, ⟨hk.2.1, hk.2.2.1⟩⟩)⟩, ⟨by (with_reducible repeat (first | apply Kd.R_alloc | apply Kd.R_drewN | apply Kd.R_drew)); exact Kd.R_mono HO_305000.out (fun _ hk => ⟨hk.1, ⟨hk.2.1, hk.2.2.1⟩⟩)⟩, ⟨by (with_reducible repeat (first | apply Kd.R_alloc | apply Kd.R_drewN | apply Kd.R_drew)); exact Kd.R_mono HO_315000.out (fun _ hk => ⟨hk.1, ⟨hk.2.1, hk.2.2.1⟩⟩)⟩, ⟨by (with_reducible repeat (first | apply Kd.R_alloc | apply Kd.R_drewN | apply Kd.R_drew)); exact Kd.R_mono HO_315001.out (fun _ hk => trivial)⟩, ⟨by (with_reducible repeat (first | apply Kd.R_alloc | apply Kd.R_drewN | apply Kd.R_drew)); exact Kd.R_mono HO_323000.out (fun _ hk => ⟨hk.1, ⟨hk.2.1, hk.2.2.1⟩⟩)⟩, ⟨xb BK271⟩, ⟨xb BK272⟩, ⟨xb BK297⟩, ⟨xb BK304⟩, ⟨xb BK314⟩, ⟨xb BK322⟩, ⟨xh HB⟩⟩
        case rest =>
         clear HC112
         try clear c1
         try clear p2
         try clear c7
         try clear c8
         try clear c10
         try clear c11
         try clear c12
         try clear c13
         try clear c14
         try clear c15
         try clear c103
         try clear c106
         try clear c109
         try clear c122
         try clear c123
         try clear c124
         try clear c125
         try clear c126
         try clear c129
         try clear c130
         try clear c131
         try clear c132
         try clear c135
         try clear c135b0
         try clear c137
         try clear c138
         try clear c139
         try clear c140
         try clear c141
         try clear c142
         try clear c144
         try clear c145
         try clear c146
         try clear c147
         try clear c150
         try clear c151
         try clear c152
         try clear c153
         try clear c154
         try clear c156
         try clear c157
         try clear c158
         try clear c159
         try clear hcz127_0
         try clear hcz127_1
         try clear hcz127_2
         try clear hcz127_3
         try clear hcz133_0
         try clear hcz133_1
         try clear hcz133_2
         try clear hcz133_3
         try clear hcz133_4
         try clear hcz143_0
         try clear hcz143_1
         try clear hcz143_2
         try clear hcz143_3
         try clear hcz148_0
         try clear hcz148_1
         try clear hcz148_2
         try clear hcz148_3
         try clear hcz155_0
         try clear hcz155_1
         try clear hcz155_2
         try clear hcz155_3
         try clear hcz160_0
         try clear hcz160_1
         try clear hcz160_2
         try clear hcz160_3
         try clear hfz127_0
         try clear hfz127_1
         try clear hfz127_2
         try clear hfz127_3
         try clear hfz133_0
         try clear hfz133_1
         try clear hfz133_2
         try clear hfz133_3
         try clear hfz133_4
         try clear hfz143_0
         try clear hfz143_1
         try clear hfz143_2
         try clear hfz143_3
         try clear hfz148_0
         try clear hfz148_1
         try clear hfz148_2
         try clear hfz148_3
         try clear hfz155_0
         try clear hfz155_1
         try clear hfz155_2
         try clear hfz155_3
         try clear hfz160_0
         try clear hfz160_1
         try clear hfz160_2
         try clear hfz160_3
         try clear hfz89_0
         try clear hfz89_1
         try clear hfz89_2
         try clear hfz89_3
         try clear hfz96_0
         try clear hfz96_1
         try clear hfz96_2
         try clear hfz96_3
         obtain ⟨kq, x82_111, rfl, HA, HJ111, HO_298000, HO_305000, HO_315000, HO_315001, HO_323000, BK271, BK272, BK297, BK304, BK314, BK322, HB⟩ := hcut; have hl305000_111 := (Kd.R_reads' HO_305000.out).1
         rw [hl305000_111] at HO_305000
         (try simp only [hl305000_111])
         (try simp only [hl305000_111] at BK271)
         (try simp only [hl305000_111] at BK272)
         (try simp only [hl305000_111] at BK297)
         (try simp only [hl305000_111] at BK304)
         (try simp only [hl305000_111] at BK314)
         (try simp only [hl305000_111] at BK322)
         (try simp only [hl305000_111] at HO_298000)
         (try simp only [hl305000_111] at HO_315000)
         (try simp only [hl305000_111] at HO_315001)
         (try simp only [hl305000_111] at HO_323000)
         have hl315000_111 := (Kd.R_reads' HO_315000.out).1
         rw [hl315000_111] at HO_315000
         (try simp only [hl315000_111])
         (try simp only [hl315000_111] at BK271)
         (try simp only [hl315000_111] at BK272)
         (try simp only [hl315000_111] at BK297)
         (try simp only [hl315000_111] at BK304)
         (try simp only [hl315000_111] at BK314)
         (try simp only [hl315000_111] at BK322)
         (try simp only [hl315000_111] at HO_298000)
         (try simp only [hl315000_111] at HO_305000)
         (try simp only [hl315000_111] at HO_315001)
         (try simp only [hl315000_111] at HO_323000)
         have hl315001_111 := (Kd.R_reads' HO_315001.out).1
         rw [hl315001_111] at HO_315001
         (try simp only [hl315001_111])
         (try simp only [hl315001_111] at BK271)
         (try simp only [hl315001_111] at BK272)
         (try simp only [hl315001_111] at BK297)
         (try simp only [hl315001_111] at BK304)
         (try simp only [hl315001_111] at BK314)
         (try simp only [hl315001_111] at BK322)
         (try simp only [hl315001_111] at HO_298000)
         (try simp only [hl315001_111] at HO_305000)
         (try simp only [hl315001_111] at HO_315000)
         (try simp only [hl315001_111] at HO_323000)
         cases kq with
         | zero => exact absurd HA.out (by simp [laws_FnExactApplyEdit.j1])
         | succ kj111 =>
          have H := HA.out; clear HA
          simp only [laws_FnExactApplyEdit.j1] at H
          by_cases c162 : x82_111 = true
          ·subst c162
           have H1 : (some false) = some true := by rw [if_pos rfl] at H; exact H
           clear H; have H := H1; clear H1
           exact absurd H (by simp)
          ·replace c162 := Bool.eq_false_iff.mpr c162
           subst c162
           have H1 : ((laws_markVersion.f kj111 t315 t318 t319 t320 1).bind fun bt347 => ((laws_heldVersion.f kj111 bt347.2 t318 t319 t320 1).bind fun t349 => (if t349 < 0 then (some false) else (if t349 = bt347.1 then ((laws_toVersion.f kj111 l0_0 a0_1 a0_2 a0_3).bind fun bt350 => ((laws_toEdit.f kj111 l1_0 l1_1 a1_2 a1_3 a1_4).bind fun bt356 => ((impl_ApplyEdit.f kj111 bt350.1 bt350.2.1 bt350.2.2.1 bt350.2.2.2 bt356.1 bt356.2.1 bt356.2.2.1 bt356.2.2.2.1 bt356.2.2.2.2).bind fun bt365 => ((laws_eqVersion.f kj111 bt365.1 bt365.2.1 bt365.2.2.1 bt365.2.2.2.1 t290 t293 t294 t295).bind fun t373 => (if t373 = true then (if (bt365.2.2.2.2 != t296) = true then (some false) else (some true)) else (some false)))))) else (some false))))) = some true := by rw [if_neg (show ¬ (false = true) by decide)] at H; exact H
           clear H; have H := H1; clear H1; replace H := Option.bind_eq_some_iff.mp H; obtain ⟨⟨t347, t348⟩, A1630, H⟩ := H; replace H : ((laws_heldVersion.f kj111 t348 t318 t319 t320 1).bind fun t349 => (if t349 < 0 then (some false) else (if t349 = t347 then ((laws_toVersion.f kj111 l0_0 a0_1 a0_2 a0_3).bind fun bt350 => ((laws_toEdit.f kj111 l1_0 l1_1 a1_2 a1_3 a1_4).bind fun bt356 => ((impl_ApplyEdit.f kj111 bt350.1 bt350.2.1 bt350.2.2.1 bt350.2.2.2 bt356.1 bt356.2.1 bt356.2.2.1 bt356.2.2.2.1 bt356.2.2.2.2).bind fun bt365 => ((laws_eqVersion.f kj111 bt365.1 bt365.2.1 bt365.2.2.1 bt365.2.2.2.1 t290 t293 t294 t295).bind fun t373 => (if t373 = true then (if (bt365.2.2.2.2 != t296) = true then (some false) else (some true)) else (some false)))))) else (some false)))) = some true := H; have A163 := Aside0.mk A1630; clear A1630; replace H := Option.bind_eq_some_iff.mp H; obtain ⟨t349, A1640, H⟩ := H; replace H : (if t349 < 0 then (some false) else (if t349 = t347 then ((laws_toVersion.f kj111 l0_0 a0_1 a0_2 a0_3).bind fun bt350 => ((laws_toEdit.f kj111 l1_0 l1_1 a1_2 a1_3 a1_4).bind fun bt356 => ((impl_ApplyEdit.f kj111 bt350.1 bt350.2.1 bt350.2.2.1 bt350.2.2.2 bt356.1 bt356.2.1 bt356.2.2.1 bt356.2.2.2.1 bt356.2.2.2.2).bind fun bt365 => ((laws_eqVersion.f kj111 bt365.1 bt365.2.1 bt365.2.2.1 bt365.2.2.2.1 t290 t293 t294 t295).bind fun t373 => (if t373 = true then (if (bt365.2.2.2.2 != t296) = true then (some false) else (some true)) else (some false)))))) else (some false))) = some true := H; have A164 := Aside0.mk A1640; clear A1640
           by_cases c165 : t349 < 0
           ·rw [if_pos c165] at H
            have c165b0 : decide (t349 < 0) = true := decide_eq_true c165; clear c165
            exact absurd H (by simp)
           ·rw [if_neg c165] at H
            have c165b0 : decide (t349 < 0) = false := decide_eq_false c165; clear c165
            by_cases c166 : t349 = t347
            ·rw [if_pos c166] at H
             have c166b0 : (t349 == t347) = true := beq_iff_eq.mpr c166; have c166b1 : (t349 != t347) = false := bne_eq_false_iff_eq.mpr c166; clear c166; replace H := Option.bind_eq_some_iff.mp H; obtain ⟨⟨t350, t353, t354, t355⟩, A1670, H⟩ := H; replace H : ((laws_toEdit.f kj111 l1_0 l1_1 a1_2 a1_3 a1_4).bind fun bt356 => ((impl_ApplyEdit.f kj111 t350 t353 t354 t355 bt356.1 bt356.2.1 bt356.2.2.1 bt356.2.2.2.1 bt356.2.2.2.2).bind fun bt365 => ((laws_eqVersion.f kj111 bt365.1 bt365.2.1 bt365.2.2.1 bt365.2.2.2.1 t290 t293 t294 t295).bind fun t373 => (if t373 = true then (if (bt365.2.2.2.2 != t296) = true then (some false) else (some true)) else (some false))))) = some true := H; have A167 := Aside0.mk A1670; clear A1670; replace H := Option.bind_eq_some_iff.mp H; obtain ⟨⟨t356, t359, t362, t363, t364⟩, A1680, H⟩ := H; replace H : ((impl_ApplyEdit.f kj111 t350 t353 t354 t355 t356 t359 t362 t363 t364).bind fun bt365 => ((laws_eqVersion.f kj111 bt365.1 bt365.2.1 bt365.2.2.1 bt365.2.2.2.1 t290 t293 t294 t295).bind fun t373 => (if t373 = true then (if (bt365.2.2.2.2 != t296) = true then (some false) else (some true)) else (some false)))) = some true := H; have A168 := Aside0.mk A1680; clear A1680; replace H := Option.bind_eq_some_iff.mp H; obtain ⟨⟨t365, t368, t369, t370, t371⟩, A1690, H⟩ := H; replace H : ((laws_eqVersion.f kj111 t365 t368 t369 t370 t290 t293 t294 t295).bind fun t373 => (if t373 = true then (if (t371 != t296) = true then (some false) else (some true)) else (some false))) = some true := H; have A169 := Aside0.mk A1690; clear A1690; replace H := Option.bind_eq_some_iff.mp H; obtain ⟨t373, A1700, H⟩ := H; replace H : (if t373 = true then (if (t371 != t296) = true then (some false) else (some true)) else (some false)) = some true := H; have A170 := Aside0.mk A1700; clear A1700
             by_cases c171 : t373 = true
             ·subst c171
              have H1 : (if (t371 != t296) = true then (some false) else (some true)) = some true := by rw [if_pos rfl] at H; exact H
              clear H; have H := H1; clear H1
              by_cases c172 : (t371 != t296) = true
              ·rw [if_pos c172] at H
               have c172b0 : (t371 != t296) = true := c172
               (try (have c172b1 : decide (t371 = t296) = false := by simpa using c172))
               (try (have c172b2 : (t371 == t296) = false := by simpa using c172))
               (try (have c172b3 : ¬ (t371 = t296) := by simpa using c172))
               clear c172
               exact absurd H (by simp)
              ·rw [if_neg c172] at H
               have c172b0 : (t371 != t296) = false := by simpa using c172
               (try (have c172b1 : decide (t371 = t296) = true := by simpa using c172))
               (try (have c172b2 : (t371 == t296) = true := by simpa using c172))
               clear c172 H; have hnb173 := NB322_271.out; have hnc173 := NB271_322.out; have hnb174 := NB322_272.out; have hnc174 := NB272_322.out; have hnb175 := NB322_297.out; have hnc175 := NB297_322.out; have hnb176 := NB322_304.out; have hnc176 := NB304_322.out; have hnb177 := NB322_314.out; have hnc177 := NB314_322.out; have hcz178_0 : wc.cell? ⟨gb322, 0, none⟩ = some (.slice Ao70 t315.length co70) := (blk_cell BK322.out 0).trans rfl; have hcz178_1 : wc.cell? ⟨gb322, 1, none⟩ = some (.int .i64 t318) := (blk_cell BK322.out 1).trans rfl; have hcz178_2 : wc.cell? ⟨gb322, 2, none⟩ = some (.int .i64 t319) := (blk_cell BK322.out 2).trans rfl; have hcz178_3 : wc.cell? ⟨gb322, 3, none⟩ = some (.int .i64 t320) := (blk_cell BK322.out 3).trans rfl; have hfz178_0 := blk_frozen BK322.out 0; have hfz178_1 := blk_frozen BK322.out 1; have hfz178_2 := blk_frozen BK322.out 2; have hfz178_3 := blk_frozen BK322.out 3
               try go_wp2_with (first | ((with_reducible refine gate_callee (f := 12) rfl ?_); refine goesL_ (some 85) rfl rfl Try.func12 (by kernel_rfl) rfl #[.agg #[.slice Ao70 t315.length co70, .int .i64 t318, .int .i64 t319, .int .i64 t320], .int .i64 1] rfl (by (try simp only [List.map_toArray, List.map_cons, List.map_nil]); first | done | rfl | (simp only [List.length_drop, List.length_take]; rfl)) ?_; (with_reducible refine (laws_markVersion.calls kj111 (fun k_ => some k_ = (.slice Ao70 t315.length co70 : Value).ownBlock) (.slice Ao70 t315.length co70) t315 t318 t319 t320 1 t347 t348 w _ ?side1 ?side2 A163.out).mono ?_); (case side1 => repeat (first | (with_reducible first | exact HB.out | apply below_alloc | apply pw_below_drewN | apply below_drew1 | refine below_set ?_ GE271.out | refine below_set ?_ GE272.out | refine below_set ?_ GE297.out | refine below_set ?_ GE304.out | refine below_set ?_ GE314.out | refine below_set ?_ GE322.out) | exact HB.out)); (case side2 => exact Kd.R_tight rfl HO_323000.out); rintro e w179 ⟨rfl, hy0, hb, hkp⟩; refine ⟨_, rfl, ?_⟩; replace HO_298000 := Aside0.mk (Kd.R_mono (ok' := fun k_ => some k_ ≠ (.slice Ao51 t342.length co51 : Value).ownBlock ∧ some k_ ≠ (.slice Ao60 t344.length co60 : Value).ownBlock ∧ some k_ ≠ (.slice Ao70 t315.length co70 : Value).ownBlock) (Kd.R_keptB (HO_298000.out) hkp (fun k_ hk_ hs_ => (hk_.2.2) hs_)) (fun k_ hk_ => ⟨hk_.1.1, hk_.1.2.1, hk_.1.2.2⟩)); replace HO_305000 := Aside0.mk (Kd.R_mono (ok' := fun k_ => some k_ ≠ (.slice Ao42 t290.length co42 : Value).ownBlock ∧ some k_ ≠ (.slice Ao60 t344.length co60 : Value).ownBlock ∧ some k_ ≠ (.slice Ao70 t315.length co70 : Value).ownBlock) (Kd.R_keptB (HO_305000.out) hkp (fun k_ hk_ hs_ => (hk_.2.2) hs_)) (fun k_ hk_ => ⟨hk_.1.1, hk_.1.2.1, hk_.1.2.2⟩)); replace HO_315000 := Aside0.mk (Kd.R_mono (ok' := fun k_ => some k_ ≠ (.slice Ao42 t290.length co42 : Value).ownBlock ∧ some k_ ≠ (.slice Ao51 t342.length co51 : Value).ownBlock ∧ some k_ ≠ (.slice Ao70 t315.length co70 : Value).ownBlock) (Kd.R_keptB (HO_315000.out) hkp (fun k_ hk_ hs_ => (hk_.2.2) hs_)) (fun k_ hk_ => ⟨hk_.1.1, hk_.1.2.1, hk_.1.2.2⟩)); replace HO_315001 := Aside0.mk (Kd.R_mono (ok' := fun k_ => True) (Kd.R_keptB ((Kd.R_apart' HO_315001.out (Kd.R_typed HO_323000.out) (by decide))) hkp (fun k_ hk_ hs_ => (hk_.2) hs_)) (fun k_ hk_ => trivial)); replace BK271 := Aside0.mk (blk_kept (xb BK271) hkp (fun hs_ => (fun e_ => (Kd.R_ne HO_323000.out BK271.out (by decide)) e_) hs_)); replace BK272 := Aside0.mk (blk_kept (xb BK272) hkp (fun hs_ => (fun e_ => (Kd.R_ne HO_323000.out BK272.out (by decide)) e_) hs_)); replace BK297 := Aside0.mk (blk_kept (xb BK297) hkp (fun hs_ => (fun e_ => (Kd.R_ne HO_323000.out BK297.out (by decide)) e_) hs_)); replace BK304 := Aside0.mk (blk_kept (xb BK304) hkp (fun hs_ => (fun e_ => (Kd.R_ne HO_323000.out BK304.out (by decide)) e_) hs_)); replace BK314 := Aside0.mk (blk_kept (xb BK314) hkp (fun hs_ => (fun e_ => (Kd.R_ne HO_323000.out BK314.out (by decide)) e_) hs_)); replace BK322 := Aside0.mk (blk_kept (xb BK322) hkp (fun hs_ => (fun e_ => (Kd.R_ne HO_323000.out BK322.out (by decide)) e_) hs_)); replace HO_323000 := Aside0.mk (Kd.R_reok rfl hy0 (fun k_ e_ => HO_323000.out.1 k_ e_)); replace HB := Aside0.mk (hb); (try clear hb); (try clear hkp); (try clear hy0); have hcz180_0 : w179.cell? ⟨gb322, 0, none⟩ = some (.slice Ao70 t315.length co70) := (blk_cell BK322.out 0).trans rfl; have hcz180_1 : w179.cell? ⟨gb322, 1, none⟩ = some (.int .i64 t318) := (blk_cell BK322.out 1).trans rfl; have hcz180_2 : w179.cell? ⟨gb322, 2, none⟩ = some (.int .i64 t319) := (blk_cell BK322.out 2).trans rfl; have hcz180_3 : w179.cell? ⟨gb322, 3, none⟩ = some (.int .i64 t320) := (blk_cell BK322.out 3).trans rfl; have hfz180_0 := blk_frozen BK322.out 0; have hfz180_1 := blk_frozen BK322.out 1; have hfz180_2 := blk_frozen BK322.out 2; have hfz180_3 := blk_frozen BK322.out 3) | ((with_reducible refine gate_callee (f := 14) rfl ?_); refine goesL_ (some 88) rfl rfl Try.func14 (by kernel_rfl) rfl #[.agg #[.slice Ao70 t348.length co70, .int .i64 t318, .int .i64 t319, .int .i64 t320], .int .i64 1] rfl (by (try simp only [List.map_toArray, List.map_cons, List.map_nil]); first | done | (rw [show t348.length = t315.length from (Kd.R_reads' HO_323000.out).1.symm] <;> rfl) | rfl | (simp only [List.length_drop, List.length_take]; rfl)) ?_; (with_reducible refine (laws_heldVersion.calls kj111 _ _ t348 t318 t319 t320 1 t349 _ ?side1 ?side2 A164.out).mono ?_); (case side1 => exact xc (Kd.R_reads' HO_323000.out).2.2); (case side2 => rw [show t348.length = t315.length from (Kd.R_reads' HO_323000.out).1.symm]; exact (Kd.R_reads' HO_323000.out).2.1); rintro e w181 ⟨rfl, hb⟩; refine ⟨_, rfl, ?_⟩; replace HO_298000 := Aside0.mk (Kd.R_below (xr HO_298000) hb); replace HO_305000 := Aside0.mk (Kd.R_below (xr HO_305000) hb); replace HO_315000 := Aside0.mk (Kd.R_below (xr HO_315000) hb); replace HO_315001 := Aside0.mk (Kd.R_below (xr HO_315001) hb); replace HO_323000 := Aside0.mk (Kd.R_below (xr HO_323000) hb); replace BK271 := Aside0.mk (xbb BK271 hb); replace BK272 := Aside0.mk (xbb BK272 hb); replace BK297 := Aside0.mk (xbb BK297 hb); replace BK304 := Aside0.mk (xbb BK304 hb); replace BK314 := Aside0.mk (xbb BK314 hb); replace BK322 := Aside0.mk (xbb BK322 hb); replace HB := Aside0.mk (below_step (xh HB) hb); (try clear hb); (try clear hb2); (try clear hk); (try clear hi)))
               replace HO_298000 := Aside0.mk (Kd.R_drew HO_298000.out); replace HO_305000 := Aside0.mk (Kd.R_drew HO_305000.out); replace HO_315000 := Aside0.mk (Kd.R_drew HO_315000.out); replace HO_315001 := Aside0.mk (Kd.R_drew HO_315001.out); replace HO_323000 := Aside0.mk (Kd.R_drew HO_323000.out); replace BK271 := Aside0.mk (blk_drew BK271.out); replace BK272 := Aside0.mk (blk_drew BK272.out); replace BK297 := Aside0.mk (blk_drew BK297.out); replace BK304 := Aside0.mk (blk_drew BK304.out); replace BK314 := Aside0.mk (blk_drew BK314.out); replace BK322 := Aside0.mk (blk_drew BK322.out); replace HB := Aside0.mk (below_drew1 HB.out)
               refine start_ (n := 11) (S := fun w' => w'.cell? ⟨gb271, 0, none⟩ = some (.slice A0_0 l0_0.length c0_0) ∧ w'.cell? ⟨gb271, 1, none⟩ = some (.int .i64 a0_1) ∧ w'.cell? ⟨gb271, 2, none⟩ = some (.int .i64 a0_2) ∧ w'.cell? ⟨gb271, 3, none⟩ = some (.int .i64 a0_3) ∧ w'.cell? ⟨gb272, 0, none⟩ = some (.slice A1_0 l1_0.length c1_0) ∧ w'.cell? ⟨gb272, 1, none⟩ = some (.slice A1_1 l1_1.length c1_1) ∧ w'.cell? ⟨gb272, 2, none⟩ = some (.int .i64 a1_2) ∧ w'.cell? ⟨gb272, 3, none⟩ = some (.int .i64 a1_3) ∧ w'.cell? ⟨gb272, 4, none⟩ = some (.int .i64 a1_4)) (ds := []) #[false, false, false, false, false, false, false, false, false, false, false] (by kernel_rfl) rfl rfl (xk BK271 BK272) (fun hHeld => ?_); refine with_tabW laws_FnExactApplyEdit.tab31 laws_FnExactApplyEdit.bits31 (fun HT_ HW_ => ?_)
               generalize w181.drew = w182 at HO_298000 HO_305000 HO_315000 HO_315001 HO_323000 BK271 BK272 BK297 BK304 BK314 BK322 HB hHeld ⊢
               refine take_ (i := 0) (N := some 95) (v := ?_) (a' := ?_) #[true, false, false, false, false, false, false, false, false, false, false] rfl rfl (take_ofW HT_.out HW_.out (by kernel_rfl)) (fun _ _ _ h => h) (Or.inl ⟨by rfl, ?_⟩) hHeld ?_ ?_
               rotate_left
               ·rintro w' ⟨s0, s1, s2, s3, s4, s5, s6, s7, s8⟩
                go_simp
                with_reducible rfl
               rotate_left
               ·simp only [Act.put, List.setIfInBounds_toArray, List.set_cons_zero, List.set_cons_succ, i64_w, i32_w]
                rfl
               refine take_ (i := 2) (N := some 97) (v := ?_) (a' := ?_) #[true, false, true, false, false, false, false, false, false, false, false] rfl rfl (take_ofW HT_.out HW_.out (by kernel_rfl)) (fun _ _ _ h => h) (Or.inl ⟨by rfl, ?_⟩) hHeld ?_ ?_
               rotate_left
               ·rintro w' ⟨s0, s1, s2, s3, s4, s5, s6, s7, s8⟩
                go_simp
                with_reducible rfl
               rotate_left
               ·simp only [Act.put, List.setIfInBounds_toArray, List.set_cons_zero, List.set_cons_succ, i64_w, i32_w]
                rfl
               refine join_ (σ := Value × Value × Value × Value × Nat) 2 #[true, true, true, true, true, true, true, true, true, false, false] (fun s_ => [(96, .agg #[s_.1, .int .i64 t353, .int .i64 t354, .int .i64 t355]), (98, .agg #[s_.2.1, s_.2.2.1, .int .i64 t362, .int .i64 t363, .int .i64 t364]), (99, .tuple #[.agg #[s_.2.2.2.1, .int .i64 t368, .int .i64 t369, .int .i64 t370], .bool t371]), (15, .pointer (some ⟨s_.2.2.2.2, 0, none⟩)), (94, .tuple #[.agg #[s_.2.2.2.1, .int .i64 t368, .int .i64 t369, .int .i64 t370], .bool t371]), (100, .agg #[s_.2.2.2.1, .int .i64 t368, .int .i64 t369, .int .i64 t370]), (101, .bool t371)]) (fun s_ w' => (w'.cell? ⟨gb271, 0, none⟩ = some (.slice A0_0 l0_0.length c0_0) ∧ w'.cell? ⟨gb271, 1, none⟩ = some (.int .i64 a0_1) ∧ w'.cell? ⟨gb271, 2, none⟩ = some (.int .i64 a0_2) ∧ w'.cell? ⟨gb271, 3, none⟩ = some (.int .i64 a0_3) ∧ w'.cell? ⟨gb272, 0, none⟩ = some (.slice A1_0 l1_0.length c1_0) ∧ w'.cell? ⟨gb272, 1, none⟩ = some (.slice A1_1 l1_1.length c1_1) ∧ w'.cell? ⟨gb272, 2, none⟩ = some (.int .i64 a1_2) ∧ w'.cell? ⟨gb272, 3, none⟩ = some (.int .i64 a1_3) ∧ w'.cell? ⟨gb272, 4, none⟩ = some (.int .i64 a1_4)) ∧ (Kd.R k48 48 w' w.heap.size (fun k_ => some k_ ≠ (s_.2.1 : Value).ownBlock ∧ some k_ ≠ (s_.2.2.2.1 : Value).ownBlock ∧ some k_ ≠ (.slice Ao42 t290.length co42 : Value).ownBlock ∧ some k_ ≠ (.slice Ao51 t342.length co51 : Value).ownBlock ∧ some k_ ≠ (.slice Ao60 t344.length co60 : Value).ownBlock ∧ some k_ ≠ (.slice Ao70 t315.length co70 : Value).ownBlock) s_.1 t350) ∧ (Kd.R k48 48 w' w.heap.size (fun k_ => some k_ ≠ (s_.1 : Value).ownBlock ∧ some k_ ≠ (s_.2.2.2.1 : Value).ownBlock ∧ some k_ ≠ (.slice Ao42 t290.length co42 : Value).ownBlock ∧ some k_ ≠ (.slice Ao51 t342.length co51 : Value).ownBlock ∧ some k_ ≠ (.slice Ao60 t344.length co60 : Value).ownBlock ∧ some k_ ≠ (.slice Ao70 t315.length co70 : Value).ownBlock) s_.2.1 t356) ∧ (Kd.R (Kd.int .i64) 3 w' w.heap.size (fun k_ => some k_ ≠ (.slice Ao66 t345.length co66 : Value).ownBlock) s_.2.2.1 t359) ∧ (Kd.R k48 48 w' w.heap.size (fun k_ => some k_ ≠ (s_.1 : Value).ownBlock ∧ some k_ ≠ (s_.2.1 : Value).ownBlock ∧ some k_ ≠ (.slice Ao42 t290.length co42 : Value).ownBlock ∧ some k_ ≠ (.slice Ao51 t342.length co51 : Value).ownBlock ∧ some k_ ≠ (.slice Ao60 t344.length co60 : Value).ownBlock ∧ some k_ ≠ (.slice Ao70 t315.length co70 : Value).ownBlock) s_.2.2.2.1 t365) ∧ (Kd.R k48 48 w' w.heap.size (fun k_ => some k_ ≠ (s_.1 : Value).ownBlock ∧ some k_ ≠ (s_.2.1 : Value).ownBlock ∧ some k_ ≠ (s_.2.2.2.1 : Value).ownBlock ∧ some k_ ≠ (.slice Ao51 t342.length co51 : Value).ownBlock ∧ some k_ ≠ (.slice Ao60 t344.length co60 : Value).ownBlock ∧ some k_ ≠ (.slice Ao70 t315.length co70 : Value).ownBlock) (.slice Ao42 t290.length co42) t290) ∧ (Kd.R k48 48 w' w.heap.size (fun k_ => some k_ ≠ (s_.1 : Value).ownBlock ∧ some k_ ≠ (s_.2.1 : Value).ownBlock ∧ some k_ ≠ (s_.2.2.2.1 : Value).ownBlock ∧ some k_ ≠ (.slice Ao42 t290.length co42 : Value).ownBlock ∧ some k_ ≠ (.slice Ao60 t344.length co60 : Value).ownBlock ∧ some k_ ≠ (.slice Ao70 t315.length co70 : Value).ownBlock) (.slice Ao51 t342.length co51) t342) ∧ (Kd.R k48 48 w' w.heap.size (fun k_ => some k_ ≠ (s_.1 : Value).ownBlock ∧ some k_ ≠ (s_.2.1 : Value).ownBlock ∧ some k_ ≠ (s_.2.2.2.1 : Value).ownBlock ∧ some k_ ≠ (.slice Ao42 t290.length co42 : Value).ownBlock ∧ some k_ ≠ (.slice Ao51 t342.length co51 : Value).ownBlock ∧ some k_ ≠ (.slice Ao70 t315.length co70 : Value).ownBlock) (.slice Ao60 t344.length co60) t344) ∧ (Kd.R (Kd.int .i64) 3 w' w.heap.size (fun k_ => some k_ ≠ (s_.2.2.1 : Value).ownBlock) (.slice Ao66 t345.length co66) t345) ∧ (Kd.R k48 48 w' w.heap.size (fun k_ => some k_ ≠ (s_.1 : Value).ownBlock ∧ some k_ ≠ (s_.2.1 : Value).ownBlock ∧ some k_ ≠ (s_.2.2.2.1 : Value).ownBlock ∧ some k_ ≠ (.slice Ao42 t290.length co42 : Value).ownBlock ∧ some k_ ≠ (.slice Ao51 t342.length co51 : Value).ownBlock ∧ some k_ ≠ (.slice Ao60 t344.length co60 : Value).ownBlock) (.slice Ao70 t315.length co70) t348) ∧ (w'.heap[gb271]? = some (.cells #[.slice A0_0 l0_0.length c0_0, .int .i64 a0_1, .int .i64 a0_2, .int .i64 a0_3] 24 (0, 0))) ∧ (w'.heap[gb272]? = some (.cells #[.slice A1_0 l1_0.length c1_0, .slice A1_1 l1_1.length c1_1, .int .i64 a1_2, .int .i64 a1_3, .int .i64 a1_4] 27 (0, 0))) ∧ (w'.heap[gb297]? = some (.cells #[.slice Ao42 t290.length co42, .int .i64 t293, .int .i64 t294, .int .i64 t295] 32 (0, 0))) ∧ (w'.heap[gb304]? = some (.cells #[.slice Ao51 t342.length co51, .int .i64 t301, .int .i64 t302, .int .i64 t303] 32 (0, 0))) ∧ (w'.heap[gb314]? = some (.cells #[.slice Ao60 t344.length co60, .slice Ao66 t345.length co66, .int .i64 t311, .int .i64 t312, .int .i64 t313] 37 (0, 0))) ∧ (w'.heap[gb322]? = some (.cells #[.slice Ao70 t315.length co70, .int .i64 t318, .int .i64 t319, .int .i64 t320] 32 (0, 0))) ∧ (w'.heap[s_.2.2.2.2]? = some (.cells #[.slice none 0 0, .int .i64 0, .int .i64 0, .int .i64 0] 32 (0, 0))) ∧ (w.heap.size ≤ s_.2.2.2.2) ∧ (w.heap.size ≤ s_.2.2.2.2) ∧ (gb271 ≠ s_.2.2.2.2) ∧ (s_.2.2.2.2 ≠ gb271) ∧ (gb272 ≠ s_.2.2.2.2) ∧ (s_.2.2.2.2 ≠ gb272) ∧ (gb297 ≠ s_.2.2.2.2) ∧ (s_.2.2.2.2 ≠ gb297) ∧ (gb304 ≠ s_.2.2.2.2) ∧ (s_.2.2.2.2 ≠ gb304) ∧ (gb314 ≠ s_.2.2.2.2) ∧ (s_.2.2.2.2 ≠ gb314) ∧ (gb322 ≠ s_.2.2.2.2) ∧ (s_.2.2.2.2 ≠ gb322) ∧ (Below w.heap.size w w')) ?_ ?_
               rotate_left
               ·intro hCont
                refine two_ (i := 1) (j := 8) (Ni := some 96) (Nj := some 15) #[true, true, true, false, false, false, false, false, false, false, false] #[true, false, true, false, false, false, false, false, true, false, false] rfl rfl rfl rfl (two_of HT_.out (by kernel_rfl)) (by decide) (by decide) (fun K hK => ?_) (fun K hK => ?_)
                ·skip
                 refine goes_ Try.func7 (by kernel_rfl) rfl #[.agg #[.slice A0_0 l0_0.length c0_0, .int .i64 a0_1, .int .i64 a0_2, .int .i64 a0_3]] (by rfl) rfl rfl (by (try simp only [List.map_toArray, List.map_cons, List.map_nil]); first | done | rfl | (simp only [List.length_drop, List.length_take]; rfl)) ?_
                 with_reducible refine (laws_toVersion.calls kj111 _ _ l0_0 a0_1 a0_2 a0_3 t350 t353 t354 t355 _ ?side1 ?side2 A167.out).mono ?_
                 (case side1 => exact xc (Kd.C_below HR0_0.out HB.out))
                 (case side2 => exact HC0_0.out)
                 rintro e w183 ⟨v351, rfl, ho0, hb⟩
                 refine ⟨_, rfl, ?_⟩
                 replace HO_315001 := Aside0.mk (Kd.R_below (xr HO_315001) hb); have HO352 := Aside0.mk (Kd.R_lower (Kd.R_new' (Kd.R_new' (Kd.R_new' (Kd.R_new' ho0 (Kd.R_lt (xr HO_298000))) (Kd.R_lt (xr HO_305000))) (Kd.R_lt (xr HO_315000))) (Kd.R_lt (xr HO_323000))) (below_size (xh HB))); replace HO_298000 := Aside0.mk (Kd.R_elder' (xr HO_298000) (Kd.R_base ho0) hb); replace HO_305000 := Aside0.mk (Kd.R_elder' (xr HO_305000) (Kd.R_base ho0) hb); replace HO_315000 := Aside0.mk (Kd.R_elder' (xr HO_315000) (Kd.R_base ho0) hb); replace HO_323000 := Aside0.mk (Kd.R_elder' (xr HO_323000) (Kd.R_base ho0) hb); replace BK271 := Aside0.mk (xbb BK271 hb); replace BK272 := Aside0.mk (xbb BK272 hb); replace BK297 := Aside0.mk (xbb BK297 hb); replace BK304 := Aside0.mk (xbb BK304 hb); replace BK314 := Aside0.mk (xbb BK314 hb); replace BK322 := Aside0.mk (xbb BK322 hb); replace HB := Aside0.mk (below_step (xh HB) hb)
                 (try clear hb); (try clear hb2); (try clear hk); (try clear hi); (try clear ho0)
                 refine hK.out _ _ (xk BK271 BK272) (fun hHeld => ?_)
                 clear hK K
                 refine norm_ (a' := ?_) ?_ ?_
                 rotate_left
                 ·show Act.put _ (some 96) _ = _
                  simp only [Act.put, List.setIfInBounds_toArray, List.set_cons_zero, List.set_cons_succ, i64_w, i32_w]
                  rfl
                 refine two_ (i := 3) (j := 8) (Ni := some 98) (Nj := some 15) #[true, true, true, true, false, false, false, false, false, false, false] #[true, true, true, false, false, false, false, false, true, false, false] rfl rfl rfl rfl (two_of HT_.out (by kernel_rfl)) (by decide) (by decide) (fun K hK => ?_) (fun K hK => ?_)
                 ·skip
                  refine goes_ Try.func8 (by kernel_rfl) rfl #[.agg #[.slice A1_0 l1_0.length c1_0, .slice A1_1 l1_1.length c1_1, .int .i64 a1_2, .int .i64 a1_3, .int .i64 a1_4]] (by rfl) rfl rfl (by (try simp only [List.map_toArray, List.map_cons, List.map_nil]); first | done | rfl | (simp only [List.length_drop, List.length_take]; rfl)) ?_
                  with_reducible refine (laws_toEdit.calls kj111 _ _ l1_0 _ _ l1_1 a1_2 a1_3 a1_4 t356 t359 t362 t363 t364 _ ?side1 ?side2 ?side3 ?side4 A168.out).mono ?_
                  (case side1 => exact xc (Kd.C_below HR1_0.out HB.out))
                  (case side2 => exact HC1_0.out)
                  (case side3 => exact xc (Kd.C_below HR1_1.out HB.out))
                  (case side4 => exact HC1_1.out)
                  rintro e w184 ⟨v357, v360, rfl, ho0, ho1, hb⟩
                  refine ⟨_, rfl, ?_⟩
                  have HO358 := Aside0.mk (Kd.R_lower (Kd.R_new' (Kd.R_new' (Kd.R_new' (Kd.R_new' (Kd.R_new' ho0 (Kd.R_lt (xr HO_298000))) (Kd.R_lt (xr HO_305000))) (Kd.R_lt (xr HO_315000))) (Kd.R_lt (xr HO_323000))) (Kd.R_lt (xr HO352))) (below_size (xh HB))); replace HO_298000 := Aside0.mk (Kd.R_elder' (xr HO_298000) (Kd.R_base ho0) hb); replace HO_305000 := Aside0.mk (Kd.R_elder' (xr HO_305000) (Kd.R_base ho0) hb); replace HO_315000 := Aside0.mk (Kd.R_elder' (xr HO_315000) (Kd.R_base ho0) hb); replace HO_323000 := Aside0.mk (Kd.R_elder' (xr HO_323000) (Kd.R_base ho0) hb); replace HO352 := Aside0.mk (Kd.R_elder' (xr HO352) (Kd.R_base ho0) hb); have HO361 := Aside0.mk (Kd.R_lower (Kd.R_new' ho1 (Kd.R_lt (xr HO_315001))) (below_size (xh HB))); replace HO_315001 := Aside0.mk (Kd.R_elder' (xr HO_315001) (Kd.R_base ho1) hb); replace BK271 := Aside0.mk (xbb BK271 hb); replace BK272 := Aside0.mk (xbb BK272 hb); replace BK297 := Aside0.mk (xbb BK297 hb); replace BK304 := Aside0.mk (xbb BK304 hb); replace BK314 := Aside0.mk (xbb BK314 hb); replace BK322 := Aside0.mk (xbb BK322 hb); replace HB := Aside0.mk (below_step (xh HB) hb)
                  (try clear hb); (try clear hb2); (try clear hk); (try clear hi); (try clear ho0); (try clear ho1)
                  obtain ⟨Ao185, co185, eo185⟩ := Kd.R_slice HO352.out
                  (first | subst eo185 | (injection eo185 with f1_ f2_ f3_; have f4_ := f1_.symm; have f5_ := f3_.symm; clear f1_ f2_ f3_; subst f4_; subst f5_))
                  obtain ⟨Ao186, co186, eo186⟩ := Kd.R_slice HO358.out
                  (first | subst eo186 | (injection eo186 with f1_ f2_ f3_; have f4_ := f1_.symm; have f5_ := f3_.symm; clear f1_ f2_ f3_; subst f4_; subst f5_))
                  obtain ⟨Ao187, co187, eo187⟩ := Kd.R_slice HO361.out
                  (first | subst eo187 | (injection eo187 with f1_ f2_ f3_; have f4_ := f1_.symm; have f5_ := f3_.symm; clear f1_ f2_ f3_; subst f4_; subst f5_))
                  refine hK.out _ _ (xk BK271 BK272) (fun hHeld => ?_)
                  clear hK K
                  refine norm_ (a' := ?_) ?_ ?_
                  rotate_left
                  ·show Act.put _ (some 98) _ = _
                   simp only [Act.put, List.setIfInBounds_toArray, List.set_cons_zero, List.set_cons_succ, i64_w, i32_w]
                   rfl
                  refine two_ (i := 4) (j := 8) (Ni := some 99) (Nj := some 15) #[true, true, true, true, true, false, false, false, false, false, false] #[true, true, true, true, false, false, false, false, true, false, false] rfl rfl rfl rfl (two_of HT_.out (by kernel_rfl)) (by decide) (by decide) (fun K hK => ?_) (fun K hK => ?_)
                  ·skip
                   refine goes_ Try.func9 (by kernel_rfl) rfl #[.agg #[.slice Ao185 t350.length co185, .int .i64 t353, .int .i64 t354, .int .i64 t355], .agg #[.slice Ao186 t356.length co186, .slice Ao187 t359.length co187, .int .i64 t362, .int .i64 t363, .int .i64 t364]] (by rfl) rfl rfl (by (try simp only [List.map_toArray, List.map_cons, List.map_nil]); first | done | rfl | (simp only [List.length_drop, List.length_take]; rfl)) ?_
                   with_reducible refine (impl_ApplyEdit.calls kj111 _ _ t350 t353 t354 t355 _ _ t356 _ _ t359 t362 t363 t364 t365 t368 t369 t370 t371 _ ?side1 ?side2 ?side3 ?side4 ?side5 ?side6 A169.out).mono ?_
                   (case side1 => exact xc (Kd.R_reads' HO352.out).2.2)
                   (case side2 => exact (Kd.R_reads' HO352.out).2.1)
                   (case side3 => exact xc (Kd.R_reads' HO358.out).2.2)
                   (case side4 => exact (Kd.R_reads' HO358.out).2.1)
                   (case side5 => exact xc (Kd.R_reads' HO361.out).2.2)
                   (case side6 => exact (Kd.R_reads' HO361.out).2.1)
                   rintro e w188 ⟨v366, rfl, ho0, hb⟩
                   refine ⟨_, rfl, ?_⟩
                   replace HO_315001 := Aside0.mk (Kd.R_below (xr HO_315001) hb); replace HO361 := Aside0.mk (Kd.R_below (xr HO361) hb); have HO367 := Aside0.mk (Kd.R_lower (Kd.R_new' (Kd.R_new' (Kd.R_new' (Kd.R_new' (Kd.R_new' (Kd.R_new' ho0 (Kd.R_lt (xr HO_298000))) (Kd.R_lt (xr HO_305000))) (Kd.R_lt (xr HO_315000))) (Kd.R_lt (xr HO_323000))) (Kd.R_lt (xr HO352))) (Kd.R_lt (xr HO358))) (below_size (xh HB))); replace HO_298000 := Aside0.mk (Kd.R_elder' (xr HO_298000) (Kd.R_base ho0) hb); replace HO_305000 := Aside0.mk (Kd.R_elder' (xr HO_305000) (Kd.R_base ho0) hb); replace HO_315000 := Aside0.mk (Kd.R_elder' (xr HO_315000) (Kd.R_base ho0) hb); replace HO_323000 := Aside0.mk (Kd.R_elder' (xr HO_323000) (Kd.R_base ho0) hb); replace HO352 := Aside0.mk (Kd.R_elder' (xr HO352) (Kd.R_base ho0) hb); replace HO358 := Aside0.mk (Kd.R_elder' (xr HO358) (Kd.R_base ho0) hb); replace BK271 := Aside0.mk (xbb BK271 hb); replace BK272 := Aside0.mk (xbb BK272 hb); replace BK297 := Aside0.mk (xbb BK297 hb); replace BK304 := Aside0.mk (xbb BK304 hb); replace BK314 := Aside0.mk (xbb BK314 hb); replace BK322 := Aside0.mk (xbb BK322 hb); replace HB := Aside0.mk (below_step (xh HB) hb)
                   (try clear hb); (try clear hb2); (try clear hk); (try clear hi); (try clear ho0)
                   refine hK.out _ _ (xk BK271 BK272) (fun hHeld => ?_)
                   clear hK K
                   refine norm_ (a' := ?_) ?_ ?_
                   rotate_left
                   ·show Act.put _ (some 99) _ = _
                    simp only [Act.put, List.setIfInBounds_toArray, List.set_cons_zero, List.set_cons_succ, i64_w, i32_w]
                    rfl
                   refine pure_ (i := 5) (N := some 94) (v := ?_) (a' := ?_) #[true, true, true, true, true, true, false, false, false, false, false] rfl rfl (any_of HT_.out (by kernel_rfl)) (fun _ _ _ h => h) (Or.inl ⟨by rfl, ?_⟩) ?_ ?_
                   rotate_left
                   ·intro w'
                    go_simp
                    with_reducible rfl
                   rotate_left
                   ·simp only [Act.put, List.setIfInBounds_toArray, List.set_cons_zero, List.set_cons_succ, i64_w, i32_w]
                    rfl
                   refine pure_ (i := 6) (N := some 100) (v := ?_) (a' := ?_) #[true, true, true, true, true, true, true, false, false, false, false] rfl rfl (any_of HT_.out (by kernel_rfl)) (fun _ _ _ h => h) (Or.inl ⟨by rfl, ?_⟩) ?_ ?_
                   rotate_left
                   ·intro w'
                    go_simp
                    with_reducible rfl
                   rotate_left
                   ·simp only [Act.put, List.setIfInBounds_toArray, List.set_cons_zero, List.set_cons_succ, i64_w, i32_w]
                    rfl
                   refine pure_ (i := 7) (N := some 101) (v := ?_) (a' := ?_) #[true, true, true, true, true, true, true, true, false, false, false] rfl rfl (any_of HT_.out (by kernel_rfl)) (fun _ _ _ h => h) (Or.inl ⟨by rfl, ?_⟩) ?_ ?_
                   rotate_left
                   ·intro w'
                    go_simp
                    with_reducible rfl
                   rotate_left
                   ·simp only [Act.put, List.setIfInBounds_toArray, List.set_cons_zero, List.set_cons_succ, i64_w, i32_w]
                    rfl
                   refine one_ (i := 8) (N := some 15) #[true, true, true, true, true, true, true, true, true, false, false] rfl rfl (one_of HT_.out (by kernel_rfl)) (by decide) (fun K hK => ?_)
                   refine box_step ?hg (N := 15) ?hd (cs := #[.slice none 0 0, .int .i64 0, .int .i64 0, .int .i64 0]) (t := 32) ?hr ?_; (case hd => rfl); (case hg => rfl); (case hr => first | (go_simp; done) | (go_simp; rfl))
                   intro gb372 hg w189 hbox hb
                   replace HO_298000 := Aside0.mk (Kd.R_below (xr HO_298000) hb); replace HO_305000 := Aside0.mk (Kd.R_below (xr HO_305000) hb); replace HO_315000 := Aside0.mk (Kd.R_below (xr HO_315000) hb); replace HO_315001 := Aside0.mk (Kd.R_below (xr HO_315001) hb); replace HO_323000 := Aside0.mk (Kd.R_below (xr HO_323000) hb); replace HO352 := Aside0.mk (Kd.R_below (xr HO352) hb); replace HO358 := Aside0.mk (Kd.R_below (xr HO358) hb); replace HO361 := Aside0.mk (Kd.R_below (xr HO361) hb); replace HO367 := Aside0.mk (Kd.R_below (xr HO367) hb); have BK372 := Aside0.mk (hbox); have GW372 := Aside0.mk ((by rw [hg]; exact (below_size (xh HB)) : w.heap.size ≤ gb372)); have GE372 := Aside0.mk ((by rw [hg]; exact (below_size (xh HB)) : w.heap.size ≤ gb372)); replace HB := Aside0.mk (below_step (xh HB) hb); have NB271_372 := Aside0.mk (xn1 hg BK271); have NB372_271 := Aside0.mk (xn2 hg BK271); replace BK271 := Aside0.mk (xbb BK271 hb); have NB272_372 := Aside0.mk (xn1 hg BK272); have NB372_272 := Aside0.mk (xn2 hg BK272); replace BK272 := Aside0.mk (xbb BK272 hb); have NB297_372 := Aside0.mk (xn1 hg BK297); have NB372_297 := Aside0.mk (xn2 hg BK297); replace BK297 := Aside0.mk (xbb BK297 hb); have NB304_372 := Aside0.mk (xn1 hg BK304); have NB372_304 := Aside0.mk (xn2 hg BK304); replace BK304 := Aside0.mk (xbb BK304 hb); have NB314_372 := Aside0.mk (xn1 hg BK314); have NB372_314 := Aside0.mk (xn2 hg BK314); replace BK314 := Aside0.mk (xbb BK314 hb); have NB322_372 := Aside0.mk (xn1 hg BK322); have NB372_322 := Aside0.mk (xn2 hg BK322); replace BK322 := Aside0.mk (xbb BK322 hb)
                   refine hK.out _ _ (xk BK271 BK272) (fun hHeld => ?_)
                   clear hK K
                   refine norm_ (a' := ?_) ?_ ?_
                   rotate_left
                   ·show Act.put _ (some 15) _ = _
                    simp only [Act.put, List.setIfInBounds_toArray, List.set_cons_zero, List.set_cons_succ, i64_w, i32_w]
                    rfl
                   exact norm_ (by simp only [putAll, Act.put, List.setIfInBounds_toArray, List.set_cons_zero, List.set_cons_succ]) (hCont (.slice Ao185 t350.length co185, .slice Ao186 t356.length co186, .slice Ao187 t359.length co187, v366, gb372) _ ⟨hHeld, (by (with_reducible repeat (first | apply Kd.R_alloc | apply Kd.R_drewN | apply Kd.R_drew)); exact Kd.R_mono HO352.out (fun _ hk => ⟨hk.1.2, ⟨hk.2, ⟨hk.1.1.1.1.1.2, ⟨hk.1.1.1.1.2, ⟨hk.1.1.1.2, hk.1.1.2⟩⟩⟩⟩⟩)), (by (with_reducible repeat (first | apply Kd.R_alloc | apply Kd.R_drewN | apply Kd.R_drew)); exact Kd.R_mono HO358.out (fun _ hk => ⟨hk.1.2, ⟨hk.2, ⟨hk.1.1.1.1.1.2, ⟨hk.1.1.1.1.2, ⟨hk.1.1.1.2, hk.1.1.2⟩⟩⟩⟩⟩)), (by (with_reducible repeat (first | apply Kd.R_alloc | apply Kd.R_drewN | apply Kd.R_drew)); exact Kd.R_mono HO361.out (fun _ hk => hk.2)), (by (with_reducible repeat (first | apply Kd.R_alloc | apply Kd.R_drewN | apply Kd.R_drew)); exact Kd.R_mono HO367.out (fun _ hk => ⟨hk.1.2, ⟨hk.2, ⟨hk.1.1.1.1.1.2, ⟨hk.1.1.1.1.2, ⟨hk.1.1.1.2, hk.1.1.2⟩⟩⟩⟩⟩)), (by (with_reducible repeat (first | apply Kd.R_alloc | apply Kd.R_drewN | apply Kd.R_drew)); exact Kd.R_mono HO_298000.out (fun _ hk => ⟨hk.1.1.2, ⟨hk.1.2, ⟨hk.2, ⟨hk.1.1.1.1, ⟨hk.1.1.1.2.1, hk.1.1.1.2.2⟩⟩⟩⟩⟩)), (by (with_reducible repeat (first | apply Kd.R_alloc | apply Kd.R_drewN | apply Kd.R_drew)); exact Kd.R_mono HO_305000.out (fun _ hk => ⟨hk.1.1.2, ⟨hk.1.2, ⟨hk.2, ⟨hk.1.1.1.1, ⟨hk.1.1.1.2.1, hk.1.1.1.2.2⟩⟩⟩⟩⟩)), (by (with_reducible repeat (first | apply Kd.R_alloc | apply Kd.R_drewN | apply Kd.R_drew)); exact Kd.R_mono HO_315000.out (fun _ hk => ⟨hk.1.1.2, ⟨hk.1.2, ⟨hk.2, ⟨hk.1.1.1.1, ⟨hk.1.1.1.2.1, hk.1.1.1.2.2⟩⟩⟩⟩⟩)), (by (with_reducible repeat (first | apply Kd.R_alloc | apply Kd.R_drewN | apply Kd.R_drew)); exact Kd.R_mono HO_315001.out (fun _ hk => hk.2)), (by (with_reducible repeat (first | apply Kd.R_alloc | apply Kd.R_drewN | apply Kd.R_drew)); exact Kd.R_mono HO_323000.out (fun _ hk => ⟨hk.1.1.2, ⟨hk.1.2, ⟨hk.2, ⟨hk.1.1.1.1, ⟨hk.1.1.1.2.1, hk.1.1.1.2.2⟩⟩⟩⟩⟩)), (xb BK271), (xb BK272), (xb BK297), (xb BK304), (xb BK314), (xb BK322), (xb BK372), GW372.out, GE372.out, NB271_372.out, NB372_271.out, NB272_372.out, NB372_272.out, NB297_372.out, NB372_297.out, NB304_372.out, NB372_304.out, NB314_372.out, NB372_314.out, NB322_372.out, NB372_322.out, (xh HB)⟩)
                  ·skip
                   refine box_step ?hg (N := 15) ?hd (cs := #[.slice none 0 0, .int .i64 0, .int .i64 0, .int .i64 0]) (t := 32) ?hr ?_; (case hd => rfl); (case hg => rfl); (case hr => first | (go_simp; done) | (go_simp; rfl))
                   intro gb372 hg w185 hbox hb
                   replace HO_298000 := Aside0.mk (Kd.R_below (xr HO_298000) hb); replace HO_305000 := Aside0.mk (Kd.R_below (xr HO_305000) hb); replace HO_315000 := Aside0.mk (Kd.R_below (xr HO_315000) hb); replace HO_315001 := Aside0.mk (Kd.R_below (xr HO_315001) hb); replace HO_323000 := Aside0.mk (Kd.R_below (xr HO_323000) hb); replace HO352 := Aside0.mk (Kd.R_below (xr HO352) hb); replace HO358 := Aside0.mk (Kd.R_below (xr HO358) hb); replace HO361 := Aside0.mk (Kd.R_below (xr HO361) hb); have BK372 := Aside0.mk (hbox); have GW372 := Aside0.mk ((by rw [hg]; exact (below_size (xh HB)) : w.heap.size ≤ gb372)); have GE372 := Aside0.mk ((by rw [hg]; exact (below_size (xh HB)) : w.heap.size ≤ gb372)); replace HB := Aside0.mk (below_step (xh HB) hb); have NB271_372 := Aside0.mk (xn1 hg BK271); have NB372_271 := Aside0.mk (xn2 hg BK271); replace BK271 := Aside0.mk (xbb BK271 hb); have NB272_372 := Aside0.mk (xn1 hg BK272); have NB372_272 := Aside0.mk (xn2 hg BK272); replace BK272 := Aside0.mk (xbb BK272 hb); have NB297_372 := Aside0.mk (xn1 hg BK297); have NB372_297 := Aside0.mk (xn2 hg BK297); replace BK297 := Aside0.mk (xbb BK297 hb); have NB304_372 := Aside0.mk (xn1 hg BK304); have NB372_304 := Aside0.mk (xn2 hg BK304); replace BK304 := Aside0.mk (xbb BK304 hb); have NB314_372 := Aside0.mk (xn1 hg BK314); have NB372_314 := Aside0.mk (xn2 hg BK314); replace BK314 := Aside0.mk (xbb BK314 hb); have NB322_372 := Aside0.mk (xn1 hg BK322); have NB372_322 := Aside0.mk (xn2 hg BK322); replace BK322 := Aside0.mk (xbb BK322 hb); obtain ⟨Ao186, co186, eo186⟩ := Kd.R_slice HO352.out
                   (first | subst eo186 | (injection eo186 with f1_ f2_ f3_; have f4_ := f1_.symm; have f5_ := f3_.symm; clear f1_ f2_ f3_; subst f4_; subst f5_))
                   obtain ⟨Ao187, co187, eo187⟩ := Kd.R_slice HO358.out
                   (first | subst eo187 | (injection eo187 with f1_ f2_ f3_; have f4_ := f1_.symm; have f5_ := f3_.symm; clear f1_ f2_ f3_; subst f4_; subst f5_))
                   obtain ⟨Ao188, co188, eo188⟩ := Kd.R_slice HO361.out
                   (first | subst eo188 | (injection eo188 with f1_ f2_ f3_; have f4_ := f1_.symm; have f5_ := f3_.symm; clear f1_ f2_ f3_; subst f4_; subst f5_))
                   refine hK.out _ _ (xk BK271 BK272) (fun hHeld => ?_)
                   clear hK K
                   refine norm_ (a' := ?_) ?_ ?_
                   rotate_left
                   ·show Act.put _ (some 15) _ = _
                    simp only [Act.put, List.setIfInBounds_toArray, List.set_cons_zero, List.set_cons_succ, i64_w, i32_w]
                    rfl
                   refine one_ (i := 4) (N := some 99) #[true, true, true, true, true, false, false, false, true, false, false] rfl rfl (one_of HT_.out (by kernel_rfl)) (by decide) (fun K hK => ?_)
                   refine goes_ Try.func9 (by kernel_rfl) rfl #[.agg #[.slice Ao186 t350.length co186, .int .i64 t353, .int .i64 t354, .int .i64 t355], .agg #[.slice Ao187 t356.length co187, .slice Ao188 t359.length co188, .int .i64 t362, .int .i64 t363, .int .i64 t364]] (by rfl) rfl rfl (by (try simp only [List.map_toArray, List.map_cons, List.map_nil]); first | done | rfl | (simp only [List.length_drop, List.length_take]; rfl)) ?_
                   with_reducible refine (impl_ApplyEdit.calls kj111 _ _ t350 t353 t354 t355 _ _ t356 _ _ t359 t362 t363 t364 t365 t368 t369 t370 t371 _ ?side1 ?side2 ?side3 ?side4 ?side5 ?side6 A169.out).mono ?_
                   (case side1 => exact xc (Kd.R_reads' HO352.out).2.2)
                   (case side2 => exact (Kd.R_reads' HO352.out).2.1)
                   (case side3 => exact xc (Kd.R_reads' HO358.out).2.2)
                   (case side4 => exact (Kd.R_reads' HO358.out).2.1)
                   (case side5 => exact xc (Kd.R_reads' HO361.out).2.2)
                   (case side6 => exact (Kd.R_reads' HO361.out).2.1)
                   rintro e w189 ⟨v366, rfl, ho0, hb⟩
                   refine ⟨_, rfl, ?_⟩
                   replace HO_315001 := Aside0.mk (Kd.R_below (xr HO_315001) hb); replace HO361 := Aside0.mk (Kd.R_below (xr HO361) hb); have HO367 := Aside0.mk (Kd.R_lower (Kd.R_new' (Kd.R_new' (Kd.R_new' (Kd.R_new' (Kd.R_new' (Kd.R_new' ho0 (Kd.R_lt (xr HO_298000))) (Kd.R_lt (xr HO_305000))) (Kd.R_lt (xr HO_315000))) (Kd.R_lt (xr HO_323000))) (Kd.R_lt (xr HO352))) (Kd.R_lt (xr HO358))) (below_size (xh HB))); replace HO_298000 := Aside0.mk (Kd.R_elder' (xr HO_298000) (Kd.R_base ho0) hb); replace HO_305000 := Aside0.mk (Kd.R_elder' (xr HO_305000) (Kd.R_base ho0) hb); replace HO_315000 := Aside0.mk (Kd.R_elder' (xr HO_315000) (Kd.R_base ho0) hb); replace HO_323000 := Aside0.mk (Kd.R_elder' (xr HO_323000) (Kd.R_base ho0) hb); replace HO352 := Aside0.mk (Kd.R_elder' (xr HO352) (Kd.R_base ho0) hb); replace HO358 := Aside0.mk (Kd.R_elder' (xr HO358) (Kd.R_base ho0) hb); replace BK271 := Aside0.mk (xbb BK271 hb); replace BK272 := Aside0.mk (xbb BK272 hb); replace BK297 := Aside0.mk (xbb BK297 hb); replace BK304 := Aside0.mk (xbb BK304 hb); replace BK314 := Aside0.mk (xbb BK314 hb); replace BK322 := Aside0.mk (xbb BK322 hb); replace BK372 := Aside0.mk (xbb BK372 hb); replace HB := Aside0.mk (below_step (xh HB) hb)
                   (try clear hb); (try clear hb2); (try clear hk); (try clear hi); (try clear ho0)
                   refine hK.out _ _ (xk BK271 BK272) (fun hHeld => ?_)
                   clear hK K
                   refine norm_ (a' := ?_) ?_ ?_
                   rotate_left
                   ·show Act.put _ (some 99) _ = _
                    simp only [Act.put, List.setIfInBounds_toArray, List.set_cons_zero, List.set_cons_succ, i64_w, i32_w]
                    rfl
                   refine pure_ (i := 5) (N := some 94) (v := ?_) (a' := ?_) #[true, true, true, true, true, true, false, false, true, false, false] rfl rfl (any_of HT_.out (by kernel_rfl)) (fun _ _ _ h => h) (Or.inl ⟨by rfl, ?_⟩) ?_ ?_
                   rotate_left
                   ·intro w'
                    go_simp
                    with_reducible rfl
                   rotate_left
                   ·simp only [Act.put, List.setIfInBounds_toArray, List.set_cons_zero, List.set_cons_succ, i64_w, i32_w]
                    rfl
                   refine pure_ (i := 6) (N := some 100) (v := ?_) (a' := ?_) #[true, true, true, true, true, true, true, false, true, false, false] rfl rfl (any_of HT_.out (by kernel_rfl)) (fun _ _ _ h => h) (Or.inl ⟨by rfl, ?_⟩) ?_ ?_
                   rotate_left
                   ·intro w'
                    go_simp
                    with_reducible rfl
                   rotate_left
                   ·simp only [Act.put, List.setIfInBounds_toArray, List.set_cons_zero, List.set_cons_succ, i64_w, i32_w]
                    rfl
                   refine pure_ (i := 7) (N := some 101) (v := ?_) (a' := ?_) #[true, true, true, true, true, true, true, true, true, false, false] rfl rfl (any_of HT_.out (by kernel_rfl)) (fun _ _ _ h => h) (Or.inl ⟨by rfl, ?_⟩) ?_ ?_
                   rotate_left
                   ·intro w'
                    go_simp
                    with_reducible rfl
                   rotate_left
                   ·simp only [Act.put, List.setIfInBounds_toArray, List.set_cons_zero, List.set_cons_succ, i64_w, i32_w]
                    rfl
                   exact norm_ (by simp only [putAll, Act.put, List.setIfInBounds_toArray, List.set_cons_zero, List.set_cons_succ]) (hCont (.slice Ao186 t350.length co186, .slice Ao187 t356.length co187, .slice Ao188 t359.length co188, v366, gb372) _ ⟨hHeld, (by (with_reducible repeat (first | apply Kd.R_alloc | apply Kd.R_drewN | apply Kd.R_drew)); exact Kd.R_mono HO352.out (fun _ hk => ⟨hk.1.2, ⟨hk.2, ⟨hk.1.1.1.1.1.2, ⟨hk.1.1.1.1.2, ⟨hk.1.1.1.2, hk.1.1.2⟩⟩⟩⟩⟩)), (by (with_reducible repeat (first | apply Kd.R_alloc | apply Kd.R_drewN | apply Kd.R_drew)); exact Kd.R_mono HO358.out (fun _ hk => ⟨hk.1.2, ⟨hk.2, ⟨hk.1.1.1.1.1.2, ⟨hk.1.1.1.1.2, ⟨hk.1.1.1.2, hk.1.1.2⟩⟩⟩⟩⟩)), (by (with_reducible repeat (first | apply Kd.R_alloc | apply Kd.R_drewN | apply Kd.R_drew)); exact Kd.R_mono HO361.out (fun _ hk => hk.2)), (by (with_reducible repeat (first | apply Kd.R_alloc | apply Kd.R_drewN | apply Kd.R_drew)); exact Kd.R_mono HO367.out (fun _ hk => ⟨hk.1.2, ⟨hk.2, ⟨hk.1.1.1.1.1.2, ⟨hk.1.1.1.1.2, ⟨hk.1.1.1.2, hk.1.1.2⟩⟩⟩⟩⟩)), (by (with_reducible repeat (first | apply Kd.R_alloc | apply Kd.R_drewN | apply Kd.R_drew)); exact Kd.R_mono HO_298000.out (fun _ hk => ⟨hk.1.1.2, ⟨hk.1.2, ⟨hk.2, ⟨hk.1.1.1.1, ⟨hk.1.1.1.2.1, hk.1.1.1.2.2⟩⟩⟩⟩⟩)), (by (with_reducible repeat (first | apply Kd.R_alloc | apply Kd.R_drewN | apply Kd.R_drew)); exact Kd.R_mono HO_305000.out (fun _ hk => ⟨hk.1.1.2, ⟨hk.1.2, ⟨hk.2, ⟨hk.1.1.1.1, ⟨hk.1.1.1.2.1, hk.1.1.1.2.2⟩⟩⟩⟩⟩)), (by (with_reducible repeat (first | apply Kd.R_alloc | apply Kd.R_drewN | apply Kd.R_drew)); exact Kd.R_mono HO_315000.out (fun _ hk => ⟨hk.1.1.2, ⟨hk.1.2, ⟨hk.2, ⟨hk.1.1.1.1, ⟨hk.1.1.1.2.1, hk.1.1.1.2.2⟩⟩⟩⟩⟩)), (by (with_reducible repeat (first | apply Kd.R_alloc | apply Kd.R_drewN | apply Kd.R_drew)); exact Kd.R_mono HO_315001.out (fun _ hk => hk.2)), (by (with_reducible repeat (first | apply Kd.R_alloc | apply Kd.R_drewN | apply Kd.R_drew)); exact Kd.R_mono HO_323000.out (fun _ hk => ⟨hk.1.1.2, ⟨hk.1.2, ⟨hk.2, ⟨hk.1.1.1.1, ⟨hk.1.1.1.2.1, hk.1.1.1.2.2⟩⟩⟩⟩⟩)), (xb BK271), (xb BK272), (xb BK297), (xb BK304), (xb BK314), (xb BK322), (xb BK372), GW372.out, GE372.out, NB271_372.out, NB372_271.out, NB272_372.out, NB372_272.out, NB297_372.out, NB372_297.out, NB304_372.out, NB372_304.out, NB314_372.out, NB372_314.out, NB322_372.out, NB372_322.out, (xh HB)⟩)
                 ·skip
                  refine box_step ?hg (N := 15) ?hd (cs := #[.slice none 0 0, .int .i64 0, .int .i64 0, .int .i64 0]) (t := 32) ?hr ?_; (case hd => rfl); (case hg => rfl); (case hr => first | (go_simp; done) | (go_simp; rfl))
                  intro gb372 hg w184 hbox hb
                  replace HO_298000 := Aside0.mk (Kd.R_below (xr HO_298000) hb); replace HO_305000 := Aside0.mk (Kd.R_below (xr HO_305000) hb); replace HO_315000 := Aside0.mk (Kd.R_below (xr HO_315000) hb); replace HO_315001 := Aside0.mk (Kd.R_below (xr HO_315001) hb); replace HO_323000 := Aside0.mk (Kd.R_below (xr HO_323000) hb); replace HO352 := Aside0.mk (Kd.R_below (xr HO352) hb); have BK372 := Aside0.mk (hbox); have GW372 := Aside0.mk ((by rw [hg]; exact (below_size (xh HB)) : w.heap.size ≤ gb372)); have GE372 := Aside0.mk ((by rw [hg]; exact (below_size (xh HB)) : w.heap.size ≤ gb372)); replace HB := Aside0.mk (below_step (xh HB) hb); have NB271_372 := Aside0.mk (xn1 hg BK271); have NB372_271 := Aside0.mk (xn2 hg BK271); replace BK271 := Aside0.mk (xbb BK271 hb); have NB272_372 := Aside0.mk (xn1 hg BK272); have NB372_272 := Aside0.mk (xn2 hg BK272); replace BK272 := Aside0.mk (xbb BK272 hb); have NB297_372 := Aside0.mk (xn1 hg BK297); have NB372_297 := Aside0.mk (xn2 hg BK297); replace BK297 := Aside0.mk (xbb BK297 hb); have NB304_372 := Aside0.mk (xn1 hg BK304); have NB372_304 := Aside0.mk (xn2 hg BK304); replace BK304 := Aside0.mk (xbb BK304 hb); have NB314_372 := Aside0.mk (xn1 hg BK314); have NB372_314 := Aside0.mk (xn2 hg BK314); replace BK314 := Aside0.mk (xbb BK314 hb); have NB322_372 := Aside0.mk (xn1 hg BK322); have NB372_322 := Aside0.mk (xn2 hg BK322); replace BK322 := Aside0.mk (xbb BK322 hb)
                  refine hK.out _ _ (xk BK271 BK272) (fun hHeld => ?_)
                  clear hK K
                  refine norm_ (a' := ?_) ?_ ?_
                  rotate_left
                  ·show Act.put _ (some 15) _ = _
                   simp only [Act.put, List.setIfInBounds_toArray, List.set_cons_zero, List.set_cons_succ, i64_w, i32_w]
                   rfl
                  refine one_ (i := 3) (N := some 98) #[true, true, true, true, false, false, false, false, true, false, false] rfl rfl (one_of HT_.out (by kernel_rfl)) (by decide) (fun K hK => ?_)
                  refine goes_ Try.func8 (by kernel_rfl) rfl #[.agg #[.slice A1_0 l1_0.length c1_0, .slice A1_1 l1_1.length c1_1, .int .i64 a1_2, .int .i64 a1_3, .int .i64 a1_4]] (by rfl) rfl rfl (by (try simp only [List.map_toArray, List.map_cons, List.map_nil]); first | done | rfl | (simp only [List.length_drop, List.length_take]; rfl)) ?_
                  with_reducible refine (laws_toEdit.calls kj111 _ _ l1_0 _ _ l1_1 a1_2 a1_3 a1_4 t356 t359 t362 t363 t364 _ ?side1 ?side2 ?side3 ?side4 A168.out).mono ?_
                  (case side1 => exact xc (Kd.C_below HR1_0.out HB.out))
                  (case side2 => exact HC1_0.out)
                  (case side3 => exact xc (Kd.C_below HR1_1.out HB.out))
                  (case side4 => exact HC1_1.out)
                  rintro e w185 ⟨v357, v360, rfl, ho0, ho1, hb⟩
                  refine ⟨_, rfl, ?_⟩
                  have HO358 := Aside0.mk (Kd.R_lower (Kd.R_new' (Kd.R_new' (Kd.R_new' (Kd.R_new' (Kd.R_new' ho0 (Kd.R_lt (xr HO_298000))) (Kd.R_lt (xr HO_305000))) (Kd.R_lt (xr HO_315000))) (Kd.R_lt (xr HO_323000))) (Kd.R_lt (xr HO352))) (below_size (xh HB))); replace HO_298000 := Aside0.mk (Kd.R_elder' (xr HO_298000) (Kd.R_base ho0) hb); replace HO_305000 := Aside0.mk (Kd.R_elder' (xr HO_305000) (Kd.R_base ho0) hb); replace HO_315000 := Aside0.mk (Kd.R_elder' (xr HO_315000) (Kd.R_base ho0) hb); replace HO_323000 := Aside0.mk (Kd.R_elder' (xr HO_323000) (Kd.R_base ho0) hb); replace HO352 := Aside0.mk (Kd.R_elder' (xr HO352) (Kd.R_base ho0) hb); have HO361 := Aside0.mk (Kd.R_lower (Kd.R_new' ho1 (Kd.R_lt (xr HO_315001))) (below_size (xh HB))); replace HO_315001 := Aside0.mk (Kd.R_elder' (xr HO_315001) (Kd.R_base ho1) hb); replace BK271 := Aside0.mk (xbb BK271 hb); replace BK272 := Aside0.mk (xbb BK272 hb); replace BK297 := Aside0.mk (xbb BK297 hb); replace BK304 := Aside0.mk (xbb BK304 hb); replace BK314 := Aside0.mk (xbb BK314 hb); replace BK322 := Aside0.mk (xbb BK322 hb); replace BK372 := Aside0.mk (xbb BK372 hb); replace HB := Aside0.mk (below_step (xh HB) hb)
                  (try clear hb); (try clear hb2); (try clear hk); (try clear hi); (try clear ho0); (try clear ho1)
                  obtain ⟨Ao186, co186, eo186⟩ := Kd.R_slice HO352.out
                  (first | subst eo186 | (injection eo186 with f1_ f2_ f3_; have f4_ := f1_.symm; have f5_ := f3_.symm; clear f1_ f2_ f3_; subst f4_; subst f5_))
                  obtain ⟨Ao187, co187, eo187⟩ := Kd.R_slice HO358.out
                  (first | subst eo187 | (injection eo187 with f1_ f2_ f3_; have f4_ := f1_.symm; have f5_ := f3_.symm; clear f1_ f2_ f3_; subst f4_; subst f5_))
                  obtain ⟨Ao188, co188, eo188⟩ := Kd.R_slice HO361.out
                  (first | subst eo188 | (injection eo188 with f1_ f2_ f3_; have f4_ := f1_.symm; have f5_ := f3_.symm; clear f1_ f2_ f3_; subst f4_; subst f5_))
                  refine hK.out _ _ (xk BK271 BK272) (fun hHeld => ?_)
                  clear hK K
                  refine norm_ (a' := ?_) ?_ ?_
                  rotate_left
                  ·show Act.put _ (some 98) _ = _
                   simp only [Act.put, List.setIfInBounds_toArray, List.set_cons_zero, List.set_cons_succ, i64_w, i32_w]
                   rfl
                  refine one_ (i := 4) (N := some 99) #[true, true, true, true, true, false, false, false, true, false, false] rfl rfl (one_of HT_.out (by kernel_rfl)) (by decide) (fun K hK => ?_)
                  refine goes_ Try.func9 (by kernel_rfl) rfl #[.agg #[.slice Ao186 t350.length co186, .int .i64 t353, .int .i64 t354, .int .i64 t355], .agg #[.slice Ao187 t356.length co187, .slice Ao188 t359.length co188, .int .i64 t362, .int .i64 t363, .int .i64 t364]] (by rfl) rfl rfl (by (try simp only [List.map_toArray, List.map_cons, List.map_nil]); first | done | rfl | (simp only [List.length_drop, List.length_take]; rfl)) ?_
                  with_reducible refine (impl_ApplyEdit.calls kj111 _ _ t350 t353 t354 t355 _ _ t356 _ _ t359 t362 t363 t364 t365 t368 t369 t370 t371 _ ?side1 ?side2 ?side3 ?side4 ?side5 ?side6 A169.out).mono ?_
                  (case side1 => exact xc (Kd.R_reads' HO352.out).2.2)
                  (case side2 => exact (Kd.R_reads' HO352.out).2.1)
                  (case side3 => exact xc (Kd.R_reads' HO358.out).2.2)
                  (case side4 => exact (Kd.R_reads' HO358.out).2.1)
                  (case side5 => exact xc (Kd.R_reads' HO361.out).2.2)
                  (case side6 => exact (Kd.R_reads' HO361.out).2.1)
                  rintro e w189 ⟨v366, rfl, ho0, hb⟩
                  refine ⟨_, rfl, ?_⟩
                  replace HO_315001 := Aside0.mk (Kd.R_below (xr HO_315001) hb); replace HO361 := Aside0.mk (Kd.R_below (xr HO361) hb); have HO367 := Aside0.mk (Kd.R_lower (Kd.R_new' (Kd.R_new' (Kd.R_new' (Kd.R_new' (Kd.R_new' (Kd.R_new' ho0 (Kd.R_lt (xr HO_298000))) (Kd.R_lt (xr HO_305000))) (Kd.R_lt (xr HO_315000))) (Kd.R_lt (xr HO_323000))) (Kd.R_lt (xr HO352))) (Kd.R_lt (xr HO358))) (below_size (xh HB))); replace HO_298000 := Aside0.mk (Kd.R_elder' (xr HO_298000) (Kd.R_base ho0) hb); replace HO_305000 := Aside0.mk (Kd.R_elder' (xr HO_305000) (Kd.R_base ho0) hb); replace HO_315000 := Aside0.mk (Kd.R_elder' (xr HO_315000) (Kd.R_base ho0) hb); replace HO_323000 := Aside0.mk (Kd.R_elder' (xr HO_323000) (Kd.R_base ho0) hb); replace HO352 := Aside0.mk (Kd.R_elder' (xr HO352) (Kd.R_base ho0) hb); replace HO358 := Aside0.mk (Kd.R_elder' (xr HO358) (Kd.R_base ho0) hb); replace BK271 := Aside0.mk (xbb BK271 hb); replace BK272 := Aside0.mk (xbb BK272 hb); replace BK297 := Aside0.mk (xbb BK297 hb); replace BK304 := Aside0.mk (xbb BK304 hb); replace BK314 := Aside0.mk (xbb BK314 hb); replace BK322 := Aside0.mk (xbb BK322 hb); replace BK372 := Aside0.mk (xbb BK372 hb); replace HB := Aside0.mk (below_step (xh HB) hb)
                  (try clear hb); (try clear hb2); (try clear hk); (try clear hi); (try clear ho0)
                  refine hK.out _ _ (xk BK271 BK272) (fun hHeld => ?_)
                  clear hK K
                  refine norm_ (a' := ?_) ?_ ?_
                  rotate_left
                  ·show Act.put _ (some 99) _ = _
                   simp only [Act.put, List.setIfInBounds_toArray, List.set_cons_zero, List.set_cons_succ, i64_w, i32_w]
                   rfl
                  refine pure_ (i := 5) (N := some 94) (v := ?_) (a' := ?_) #[true, true, true, true, true, true, false, false, true, false, false] rfl rfl (any_of HT_.out (by kernel_rfl)) (fun _ _ _ h => h) (Or.inl ⟨by rfl, ?_⟩) ?_ ?_
                  rotate_left
                  ·intro w'
                   go_simp
                   with_reducible rfl
                  rotate_left
                  ·simp only [Act.put, List.setIfInBounds_toArray, List.set_cons_zero, List.set_cons_succ, i64_w, i32_w]
                   rfl
                  refine pure_ (i := 6) (N := some 100) (v := ?_) (a' := ?_) #[true, true, true, true, true, true, true, false, true, false, false] rfl rfl (any_of HT_.out (by kernel_rfl)) (fun _ _ _ h => h) (Or.inl ⟨by rfl, ?_⟩) ?_ ?_
                  rotate_left
                  ·intro w'
                   go_simp
                   with_reducible rfl
                  rotate_left
                  ·simp only [Act.put, List.setIfInBounds_toArray, List.set_cons_zero, List.set_cons_succ, i64_w, i32_w]
                   rfl
                  refine pure_ (i := 7) (N := some 101) (v := ?_) (a' := ?_) #[true, true, true, true, true, true, true, true, true, false, false] rfl rfl (any_of HT_.out (by kernel_rfl)) (fun _ _ _ h => h) (Or.inl ⟨by rfl, ?_⟩) ?_ ?_
                  rotate_left
                  ·intro w'
                   go_simp
                   with_reducible rfl
                  rotate_left
                  ·simp only [Act.put, List.setIfInBounds_toArray, List.set_cons_zero, List.set_cons_succ, i64_w, i32_w]
                   rfl
                  exact norm_ (by simp only [putAll, Act.put, List.setIfInBounds_toArray, List.set_cons_zero, List.set_cons_succ]) (hCont (.slice Ao186 t350.length co186, .slice Ao187 t356.length co187, .slice Ao188 t359.length co188, v366, gb372) _ ⟨hHeld, (by (with_reducible repeat (first | apply Kd.R_alloc | apply Kd.R_drewN | apply Kd.R_drew)); exact Kd.R_mono HO352.out (fun _ hk => ⟨hk.1.2, ⟨hk.2, ⟨hk.1.1.1.1.1.2, ⟨hk.1.1.1.1.2, ⟨hk.1.1.1.2, hk.1.1.2⟩⟩⟩⟩⟩)), (by (with_reducible repeat (first | apply Kd.R_alloc | apply Kd.R_drewN | apply Kd.R_drew)); exact Kd.R_mono HO358.out (fun _ hk => ⟨hk.1.2, ⟨hk.2, ⟨hk.1.1.1.1.1.2, ⟨hk.1.1.1.1.2, ⟨hk.1.1.1.2, hk.1.1.2⟩⟩⟩⟩⟩)), (by (with_reducible repeat (first | apply Kd.R_alloc | apply Kd.R_drewN | apply Kd.R_drew)); exact Kd.R_mono HO361.out (fun _ hk => hk.2)), (by (with_reducible repeat (first | apply Kd.R_alloc | apply Kd.R_drewN | apply Kd.R_drew)); exact Kd.R_mono HO367.out (fun _ hk => ⟨hk.1.2, ⟨hk.2, ⟨hk.1.1.1.1.1.2, ⟨hk.1.1.1.1.2, ⟨hk.1.1.1.2, hk.1.1.2⟩⟩⟩⟩⟩)), (by (with_reducible repeat (first | apply Kd.R_alloc | apply Kd.R_drewN | apply Kd.R_drew)); exact Kd.R_mono HO_298000.out (fun _ hk => ⟨hk.1.1.2, ⟨hk.1.2, ⟨hk.2, ⟨hk.1.1.1.1, ⟨hk.1.1.1.2.1, hk.1.1.1.2.2⟩⟩⟩⟩⟩)), (by (with_reducible repeat (first | apply Kd.R_alloc | apply Kd.R_drewN | apply Kd.R_drew)); exact Kd.R_mono HO_305000.out (fun _ hk => ⟨hk.1.1.2, ⟨hk.1.2, ⟨hk.2, ⟨hk.1.1.1.1, ⟨hk.1.1.1.2.1, hk.1.1.1.2.2⟩⟩⟩⟩⟩)), (by (with_reducible repeat (first | apply Kd.R_alloc | apply Kd.R_drewN | apply Kd.R_drew)); exact Kd.R_mono HO_315000.out (fun _ hk => ⟨hk.1.1.2, ⟨hk.1.2, ⟨hk.2, ⟨hk.1.1.1.1, ⟨hk.1.1.1.2.1, hk.1.1.1.2.2⟩⟩⟩⟩⟩)), (by (with_reducible repeat (first | apply Kd.R_alloc | apply Kd.R_drewN | apply Kd.R_drew)); exact Kd.R_mono HO_315001.out (fun _ hk => hk.2)), (by (with_reducible repeat (first | apply Kd.R_alloc | apply Kd.R_drewN | apply Kd.R_drew)); exact Kd.R_mono HO_323000.out (fun _ hk => ⟨hk.1.1.2, ⟨hk.1.2, ⟨hk.2, ⟨hk.1.1.1.1, ⟨hk.1.1.1.2.1, hk.1.1.1.2.2⟩⟩⟩⟩⟩)), (xb BK271), (xb BK272), (xb BK297), (xb BK304), (xb BK314), (xb BK322), (xb BK372), GW372.out, GE372.out, NB271_372.out, NB372_271.out, NB272_372.out, NB372_272.out, NB297_372.out, NB372_297.out, NB304_372.out, NB372_304.out, NB314_372.out, NB372_314.out, NB322_372.out, NB372_322.out, (xh HB)⟩)
                ·skip
                 refine box_step ?hg (N := 15) ?hd (cs := #[.slice none 0 0, .int .i64 0, .int .i64 0, .int .i64 0]) (t := 32) ?hr ?_; (case hd => rfl); (case hg => rfl); (case hr => first | (go_simp; done) | (go_simp; rfl))
                 intro gb372 hg w183 hbox hb
                 replace HO_298000 := Aside0.mk (Kd.R_below (xr HO_298000) hb); replace HO_305000 := Aside0.mk (Kd.R_below (xr HO_305000) hb); replace HO_315000 := Aside0.mk (Kd.R_below (xr HO_315000) hb); replace HO_315001 := Aside0.mk (Kd.R_below (xr HO_315001) hb); replace HO_323000 := Aside0.mk (Kd.R_below (xr HO_323000) hb); have BK372 := Aside0.mk (hbox); have GW372 := Aside0.mk ((by rw [hg]; exact (below_size (xh HB)) : w.heap.size ≤ gb372)); have GE372 := Aside0.mk ((by rw [hg]; exact (below_size (xh HB)) : w.heap.size ≤ gb372)); replace HB := Aside0.mk (below_step (xh HB) hb); have NB271_372 := Aside0.mk (xn1 hg BK271); have NB372_271 := Aside0.mk (xn2 hg BK271); replace BK271 := Aside0.mk (xbb BK271 hb); have NB272_372 := Aside0.mk (xn1 hg BK272); have NB372_272 := Aside0.mk (xn2 hg BK272); replace BK272 := Aside0.mk (xbb BK272 hb); have NB297_372 := Aside0.mk (xn1 hg BK297); have NB372_297 := Aside0.mk (xn2 hg BK297); replace BK297 := Aside0.mk (xbb BK297 hb); have NB304_372 := Aside0.mk (xn1 hg BK304); have NB372_304 := Aside0.mk (xn2 hg BK304); replace BK304 := Aside0.mk (xbb BK304 hb); have NB314_372 := Aside0.mk (xn1 hg BK314); have NB372_314 := Aside0.mk (xn2 hg BK314); replace BK314 := Aside0.mk (xbb BK314 hb); have NB322_372 := Aside0.mk (xn1 hg BK322); have NB372_322 := Aside0.mk (xn2 hg BK322); replace BK322 := Aside0.mk (xbb BK322 hb)
                 refine hK.out _ _ (xk BK271 BK272) (fun hHeld => ?_)
                 clear hK K
                 refine norm_ (a' := ?_) ?_ ?_
                 rotate_left
                 ·show Act.put _ (some 15) _ = _
                  simp only [Act.put, List.setIfInBounds_toArray, List.set_cons_zero, List.set_cons_succ, i64_w, i32_w]
                  rfl
                 refine one_ (i := 1) (N := some 96) #[true, true, true, false, false, false, false, false, true, false, false] rfl rfl (one_of HT_.out (by kernel_rfl)) (by decide) (fun K hK => ?_)
                 refine goes_ Try.func7 (by kernel_rfl) rfl #[.agg #[.slice A0_0 l0_0.length c0_0, .int .i64 a0_1, .int .i64 a0_2, .int .i64 a0_3]] (by rfl) rfl rfl (by (try simp only [List.map_toArray, List.map_cons, List.map_nil]); first | done | rfl | (simp only [List.length_drop, List.length_take]; rfl)) ?_
                 with_reducible refine (laws_toVersion.calls kj111 _ _ l0_0 a0_1 a0_2 a0_3 t350 t353 t354 t355 _ ?side1 ?side2 A167.out).mono ?_
                 (case side1 => exact xc (Kd.C_below HR0_0.out HB.out))
                 (case side2 => exact HC0_0.out)
                 rintro e w184 ⟨v351, rfl, ho0, hb⟩
                 refine ⟨_, rfl, ?_⟩
                 replace HO_315001 := Aside0.mk (Kd.R_below (xr HO_315001) hb); have HO352 := Aside0.mk (Kd.R_lower (Kd.R_new' (Kd.R_new' (Kd.R_new' (Kd.R_new' ho0 (Kd.R_lt (xr HO_298000))) (Kd.R_lt (xr HO_305000))) (Kd.R_lt (xr HO_315000))) (Kd.R_lt (xr HO_323000))) (below_size (xh HB))); replace HO_298000 := Aside0.mk (Kd.R_elder' (xr HO_298000) (Kd.R_base ho0) hb); replace HO_305000 := Aside0.mk (Kd.R_elder' (xr HO_305000) (Kd.R_base ho0) hb); replace HO_315000 := Aside0.mk (Kd.R_elder' (xr HO_315000) (Kd.R_base ho0) hb); replace HO_323000 := Aside0.mk (Kd.R_elder' (xr HO_323000) (Kd.R_base ho0) hb); replace BK271 := Aside0.mk (xbb BK271 hb); replace BK272 := Aside0.mk (xbb BK272 hb); replace BK297 := Aside0.mk (xbb BK297 hb); replace BK304 := Aside0.mk (xbb BK304 hb); replace BK314 := Aside0.mk (xbb BK314 hb); replace BK322 := Aside0.mk (xbb BK322 hb); replace BK372 := Aside0.mk (xbb BK372 hb); replace HB := Aside0.mk (below_step (xh HB) hb)
                 (try clear hb); (try clear hb2); (try clear hk); (try clear hi); (try clear ho0)
                 refine hK.out _ _ (xk BK271 BK272) (fun hHeld => ?_)
                 clear hK K
                 refine norm_ (a' := ?_) ?_ ?_
                 rotate_left
                 ·show Act.put _ (some 96) _ = _
                  simp only [Act.put, List.setIfInBounds_toArray, List.set_cons_zero, List.set_cons_succ, i64_w, i32_w]
                  rfl
                 refine one_ (i := 3) (N := some 98) #[true, true, true, true, false, false, false, false, true, false, false] rfl rfl (one_of HT_.out (by kernel_rfl)) (by decide) (fun K hK => ?_)
                 refine goes_ Try.func8 (by kernel_rfl) rfl #[.agg #[.slice A1_0 l1_0.length c1_0, .slice A1_1 l1_1.length c1_1, .int .i64 a1_2, .int .i64 a1_3, .int .i64 a1_4]] (by rfl) rfl rfl (by (try simp only [List.map_toArray, List.map_cons, List.map_nil]); first | done | rfl | (simp only [List.length_drop, List.length_take]; rfl)) ?_
                 with_reducible refine (laws_toEdit.calls kj111 _ _ l1_0 _ _ l1_1 a1_2 a1_3 a1_4 t356 t359 t362 t363 t364 _ ?side1 ?side2 ?side3 ?side4 A168.out).mono ?_
                 (case side1 => exact xc (Kd.C_below HR1_0.out HB.out))
                 (case side2 => exact HC1_0.out)
                 (case side3 => exact xc (Kd.C_below HR1_1.out HB.out))
                 (case side4 => exact HC1_1.out)
                 rintro e w185 ⟨v357, v360, rfl, ho0, ho1, hb⟩
                 refine ⟨_, rfl, ?_⟩
                 have HO358 := Aside0.mk (Kd.R_lower (Kd.R_new' (Kd.R_new' (Kd.R_new' (Kd.R_new' (Kd.R_new' ho0 (Kd.R_lt (xr HO_298000))) (Kd.R_lt (xr HO_305000))) (Kd.R_lt (xr HO_315000))) (Kd.R_lt (xr HO_323000))) (Kd.R_lt (xr HO352))) (below_size (xh HB))); replace HO_298000 := Aside0.mk (Kd.R_elder' (xr HO_298000) (Kd.R_base ho0) hb); replace HO_305000 := Aside0.mk (Kd.R_elder' (xr HO_305000) (Kd.R_base ho0) hb); replace HO_315000 := Aside0.mk (Kd.R_elder' (xr HO_315000) (Kd.R_base ho0) hb); replace HO_323000 := Aside0.mk (Kd.R_elder' (xr HO_323000) (Kd.R_base ho0) hb); replace HO352 := Aside0.mk (Kd.R_elder' (xr HO352) (Kd.R_base ho0) hb); have HO361 := Aside0.mk (Kd.R_lower (Kd.R_new' ho1 (Kd.R_lt (xr HO_315001))) (below_size (xh HB))); replace HO_315001 := Aside0.mk (Kd.R_elder' (xr HO_315001) (Kd.R_base ho1) hb); replace BK271 := Aside0.mk (xbb BK271 hb); replace BK272 := Aside0.mk (xbb BK272 hb); replace BK297 := Aside0.mk (xbb BK297 hb); replace BK304 := Aside0.mk (xbb BK304 hb); replace BK314 := Aside0.mk (xbb BK314 hb); replace BK322 := Aside0.mk (xbb BK322 hb); replace BK372 := Aside0.mk (xbb BK372 hb); replace HB := Aside0.mk (below_step (xh HB) hb)
                 (try clear hb); (try clear hb2); (try clear hk); (try clear hi); (try clear ho0); (try clear ho1)
                 obtain ⟨Ao186, co186, eo186⟩ := Kd.R_slice HO352.out
                 (first | subst eo186 | (injection eo186 with f1_ f2_ f3_; have f4_ := f1_.symm; have f5_ := f3_.symm; clear f1_ f2_ f3_; subst f4_; subst f5_))
                 obtain ⟨Ao187, co187, eo187⟩ := Kd.R_slice HO358.out
                 (first | subst eo187 | (injection eo187 with f1_ f2_ f3_; have f4_ := f1_.symm; have f5_ := f3_.symm; clear f1_ f2_ f3_; subst f4_; subst f5_))
                 obtain ⟨Ao188, co188, eo188⟩ := Kd.R_slice HO361.out
                 (first | subst eo188 | (injection eo188 with f1_ f2_ f3_; have f4_ := f1_.symm; have f5_ := f3_.symm; clear f1_ f2_ f3_; subst f4_; subst f5_))
                 refine hK.out _ _ (xk BK271 BK272) (fun hHeld => ?_)
                 clear hK K
                 refine norm_ (a' := ?_) ?_ ?_
                 rotate_left
                 ·show Act.put _ (some 98) _ = _
                  simp only [Act.put, List.setIfInBounds_toArray, List.set_cons_zero, List.set_cons_succ, i64_w, i32_w]
                  rfl
                 refine one_ (i := 4) (N := some 99) #[true, true, true, true, true, false, false, false, true, false, false] rfl rfl (one_of HT_.out (by kernel_rfl)) (by decide) (fun K hK => ?_)
                 refine goes_ Try.func9 (by kernel_rfl) rfl #[.agg #[.slice Ao186 t350.length co186, .int .i64 t353, .int .i64 t354, .int .i64 t355], .agg #[.slice Ao187 t356.length co187, .slice Ao188 t359.length co188, .int .i64 t362, .int .i64 t363, .int .i64 t364]] (by rfl) rfl rfl (by (try simp only [List.map_toArray, List.map_cons, List.map_nil]); first | done | rfl | (simp only [List.length_drop, List.length_take]; rfl)) ?_
                 with_reducible refine (impl_ApplyEdit.calls kj111 _ _ t350 t353 t354 t355 _ _ t356 _ _ t359 t362 t363 t364 t365 t368 t369 t370 t371 _ ?side1 ?side2 ?side3 ?side4 ?side5 ?side6 A169.out).mono ?_
                 (case side1 => exact xc (Kd.R_reads' HO352.out).2.2)
                 (case side2 => exact (Kd.R_reads' HO352.out).2.1)
                 (case side3 => exact xc (Kd.R_reads' HO358.out).2.2)
                 (case side4 => exact (Kd.R_reads' HO358.out).2.1)
                 (case side5 => exact xc (Kd.R_reads' HO361.out).2.2)
                 (case side6 => exact (Kd.R_reads' HO361.out).2.1)
                 rintro e w189 ⟨v366, rfl, ho0, hb⟩
                 refine ⟨_, rfl, ?_⟩
                 replace HO_315001 := Aside0.mk (Kd.R_below (xr HO_315001) hb); replace HO361 := Aside0.mk (Kd.R_below (xr HO361) hb); have HO367 := Aside0.mk (Kd.R_lower (Kd.R_new' (Kd.R_new' (Kd.R_new' (Kd.R_new' (Kd.R_new' (Kd.R_new' ho0 (Kd.R_lt (xr HO_298000))) (Kd.R_lt (xr HO_305000))) (Kd.R_lt (xr HO_315000))) (Kd.R_lt (xr HO_323000))) (Kd.R_lt (xr HO352))) (Kd.R_lt (xr HO358))) (below_size (xh HB))); replace HO_298000 := Aside0.mk (Kd.R_elder' (xr HO_298000) (Kd.R_base ho0) hb); replace HO_305000 := Aside0.mk (Kd.R_elder' (xr HO_305000) (Kd.R_base ho0) hb); replace HO_315000 := Aside0.mk (Kd.R_elder' (xr HO_315000) (Kd.R_base ho0) hb); replace HO_323000 := Aside0.mk (Kd.R_elder' (xr HO_323000) (Kd.R_base ho0) hb); replace HO352 := Aside0.mk (Kd.R_elder' (xr HO352) (Kd.R_base ho0) hb); replace HO358 := Aside0.mk (Kd.R_elder' (xr HO358) (Kd.R_base ho0) hb); replace BK271 := Aside0.mk (xbb BK271 hb); replace BK272 := Aside0.mk (xbb BK272 hb); replace BK297 := Aside0.mk (xbb BK297 hb); replace BK304 := Aside0.mk (xbb BK304 hb); replace BK314 := Aside0.mk (xbb BK314 hb); replace BK322 := Aside0.mk (xbb BK322 hb); replace BK372 := Aside0.mk (xbb BK372 hb); replace HB := Aside0.mk (below_step (xh HB) hb)
                 (try clear hb); (try clear hb2); (try clear hk); (try clear hi); (try clear ho0)
                 refine hK.out _ _ (xk BK271 BK272) (fun hHeld => ?_)
                 clear hK K
                 refine norm_ (a' := ?_) ?_ ?_
                 rotate_left
                 ·show Act.put _ (some 99) _ = _
                  simp only [Act.put, List.setIfInBounds_toArray, List.set_cons_zero, List.set_cons_succ, i64_w, i32_w]
                  rfl
                 refine pure_ (i := 5) (N := some 94) (v := ?_) (a' := ?_) #[true, true, true, true, true, true, false, false, true, false, false] rfl rfl (any_of HT_.out (by kernel_rfl)) (fun _ _ _ h => h) (Or.inl ⟨by rfl, ?_⟩) ?_ ?_
                 rotate_left
                 ·intro w'
                  go_simp
                  with_reducible rfl
                 rotate_left
                 ·simp only [Act.put, List.setIfInBounds_toArray, List.set_cons_zero, List.set_cons_succ, i64_w, i32_w]
                  rfl
                 refine pure_ (i := 6) (N := some 100) (v := ?_) (a' := ?_) #[true, true, true, true, true, true, true, false, true, false, false] rfl rfl (any_of HT_.out (by kernel_rfl)) (fun _ _ _ h => h) (Or.inl ⟨by rfl, ?_⟩) ?_ ?_
                 rotate_left
                 ·intro w'
                  go_simp
                  with_reducible rfl
                 rotate_left
                 ·simp only [Act.put, List.setIfInBounds_toArray, List.set_cons_zero, List.set_cons_succ, i64_w, i32_w]
                  rfl
                 refine pure_ (i := 7) (N := some 101) (v := ?_) (a' := ?_) #[true, true, true, true, true, true, true, true, true, false, false] rfl rfl (any_of HT_.out (by kernel_rfl)) (fun _ _ _ h => h) (Or.inl ⟨by rfl, ?_⟩) ?_ ?_
                 rotate_left
                 ·intro w'
                  go_simp
                  with_reducible rfl
                 rotate_left
                 ·simp only [Act.put, List.setIfInBounds_toArray, List.set_cons_zero, List.set_cons_succ, i64_w, i32_w]
                  rfl
                 exact norm_ (by simp only [putAll, Act.put, List.setIfInBounds_toArray, List.set_cons_zero, List.set_cons_succ]) (hCont (.slice Ao186 t350.length co186, .slice Ao187 t356.length co187, .slice Ao188 t359.length co188, v366, gb372) _ ⟨hHeld, (by (with_reducible repeat (first | apply Kd.R_alloc | apply Kd.R_drewN | apply Kd.R_drew)); exact Kd.R_mono HO352.out (fun _ hk => ⟨hk.1.2, ⟨hk.2, ⟨hk.1.1.1.1.1.2, ⟨hk.1.1.1.1.2, ⟨hk.1.1.1.2, hk.1.1.2⟩⟩⟩⟩⟩)), (by (with_reducible repeat (first | apply Kd.R_alloc | apply Kd.R_drewN | apply Kd.R_drew)); exact Kd.R_mono HO358.out (fun _ hk => ⟨hk.1.2, ⟨hk.2, ⟨hk.1.1.1.1.1.2, ⟨hk.1.1.1.1.2, ⟨hk.1.1.1.2, hk.1.1.2⟩⟩⟩⟩⟩)), (by (with_reducible repeat (first | apply Kd.R_alloc | apply Kd.R_drewN | apply Kd.R_drew)); exact Kd.R_mono HO361.out (fun _ hk => hk.2)), (by (with_reducible repeat (first | apply Kd.R_alloc | apply Kd.R_drewN | apply Kd.R_drew)); exact Kd.R_mono HO367.out (fun _ hk => ⟨hk.1.2, ⟨hk.2, ⟨hk.1.1.1.1.1.2, ⟨hk.1.1.1.1.2, ⟨hk.1.1.1.2, hk.1.1.2⟩⟩⟩⟩⟩)), (by (with_reducible repeat (first | apply Kd.R_alloc | apply Kd.R_drewN | apply Kd.R_drew)); exact Kd.R_mono HO_298000.out (fun _ hk => ⟨hk.1.1.2, ⟨hk.1.2, ⟨hk.2, ⟨hk.1.1.1.1, ⟨hk.1.1.1.2.1, hk.1.1.1.2.2⟩⟩⟩⟩⟩)), (by (with_reducible repeat (first | apply Kd.R_alloc | apply Kd.R_drewN | apply Kd.R_drew)); exact Kd.R_mono HO_305000.out (fun _ hk => ⟨hk.1.1.2, ⟨hk.1.2, ⟨hk.2, ⟨hk.1.1.1.1, ⟨hk.1.1.1.2.1, hk.1.1.1.2.2⟩⟩⟩⟩⟩)), (by (with_reducible repeat (first | apply Kd.R_alloc | apply Kd.R_drewN | apply Kd.R_drew)); exact Kd.R_mono HO_315000.out (fun _ hk => ⟨hk.1.1.2, ⟨hk.1.2, ⟨hk.2, ⟨hk.1.1.1.1, ⟨hk.1.1.1.2.1, hk.1.1.1.2.2⟩⟩⟩⟩⟩)), (by (with_reducible repeat (first | apply Kd.R_alloc | apply Kd.R_drewN | apply Kd.R_drew)); exact Kd.R_mono HO_315001.out (fun _ hk => hk.2)), (by (with_reducible repeat (first | apply Kd.R_alloc | apply Kd.R_drewN | apply Kd.R_drew)); exact Kd.R_mono HO_323000.out (fun _ hk => ⟨hk.1.1.2, ⟨hk.1.2, ⟨hk.2, ⟨hk.1.1.1.1, ⟨hk.1.1.1.2.1, hk.1.1.1.2.2⟩⟩⟩⟩⟩)), (xb BK271), (xb BK272), (xb BK297), (xb BK304), (xb BK314), (xb BK322), (xb BK372), GW372.out, GE372.out, NB271_372.out, NB372_271.out, NB272_372.out, NB372_272.out, NB297_372.out, NB372_297.out, NB304_372.out, NB372_304.out, NB314_372.out, NB372_314.out, NB322_372.out, NB372_322.out, (xh HB)⟩)
               rintro ⟨v351, v357, v360, v366, gb372⟩ w190 ⟨hS_, h0_, h1_, h2_, h3_, h4_, h5_, h6_, h7_, h8_, h9_, h10_, h11_, h12_, h13_, h14_, h15_, h16_, h17_, h18_, h19_, h20_, h21_, h22_, h23_, h24_, h25_, h26_, h27_, h28_, h29_, h30_⟩
               have HO352 : Aside0 (Kd.R k48 48 w190 w.heap.size (fun k_ => some k_ ≠ (v357 : Value).ownBlock ∧ some k_ ≠ (v366 : Value).ownBlock ∧ some k_ ≠ (.slice Ao42 t290.length co42 : Value).ownBlock ∧ some k_ ≠ (.slice Ao51 t342.length co51 : Value).ownBlock ∧ some k_ ≠ (.slice Ao60 t344.length co60 : Value).ownBlock ∧ some k_ ≠ (.slice Ao70 t315.length co70 : Value).ownBlock) v351 t350) := ⟨h0_⟩; have HO358 : Aside0 (Kd.R k48 48 w190 w.heap.size (fun k_ => some k_ ≠ (v351 : Value).ownBlock ∧ some k_ ≠ (v366 : Value).ownBlock ∧ some k_ ≠ (.slice Ao42 t290.length co42 : Value).ownBlock ∧ some k_ ≠ (.slice Ao51 t342.length co51 : Value).ownBlock ∧ some k_ ≠ (.slice Ao60 t344.length co60 : Value).ownBlock ∧ some k_ ≠ (.slice Ao70 t315.length co70 : Value).ownBlock) v357 t356) := ⟨h1_⟩; have HO361 : Aside0 (Kd.R (Kd.int .i64) 3 w190 w.heap.size (fun k_ => some k_ ≠ (.slice Ao66 t345.length co66 : Value).ownBlock) v360 t359) := ⟨h2_⟩; have HO367 : Aside0 (Kd.R k48 48 w190 w.heap.size (fun k_ => some k_ ≠ (v351 : Value).ownBlock ∧ some k_ ≠ (v357 : Value).ownBlock ∧ some k_ ≠ (.slice Ao42 t290.length co42 : Value).ownBlock ∧ some k_ ≠ (.slice Ao51 t342.length co51 : Value).ownBlock ∧ some k_ ≠ (.slice Ao60 t344.length co60 : Value).ownBlock ∧ some k_ ≠ (.slice Ao70 t315.length co70 : Value).ownBlock) v366 t365) := ⟨h3_⟩; replace HO_298000 : Aside0 (Kd.R k48 48 w190 w.heap.size (fun k_ => some k_ ≠ (v351 : Value).ownBlock ∧ some k_ ≠ (v357 : Value).ownBlock ∧ some k_ ≠ (v366 : Value).ownBlock ∧ some k_ ≠ (.slice Ao51 t342.length co51 : Value).ownBlock ∧ some k_ ≠ (.slice Ao60 t344.length co60 : Value).ownBlock ∧ some k_ ≠ (.slice Ao70 t315.length co70 : Value).ownBlock) (.slice Ao42 t290.length co42) t290) := ⟨h4_⟩; replace HO_305000 : Aside0 (Kd.R k48 48 w190 w.heap.size (fun k_ => some k_ ≠ (v351 : Value).ownBlock ∧ some k_ ≠ (v357 : Value).ownBlock ∧ some k_ ≠ (v366 : Value).ownBlock ∧ some k_ ≠ (.slice Ao42 t290.length co42 : Value).ownBlock ∧ some k_ ≠ (.slice Ao60 t344.length co60 : Value).ownBlock ∧ some k_ ≠ (.slice Ao70 t315.length co70 : Value).ownBlock) (.slice Ao51 t342.length co51) t342) := ⟨h5_⟩; replace HO_315000 : Aside0 (Kd.R k48 48 w190 w.heap.size (fun k_ => some k_ ≠ (v351 : Value).ownBlock ∧ some k_ ≠ (v357 : Value).ownBlock ∧ some k_ ≠ (v366 : Value).ownBlock ∧ some k_ ≠ (.slice Ao42 t290.length co42 : Value).ownBlock ∧ some k_ ≠ (.slice Ao51 t342.length co51 : Value).ownBlock ∧ some k_ ≠ (.slice Ao70 t315.length co70 : Value).ownBlock) (.slice Ao60 t344.length co60) t344) := ⟨h6_⟩; replace HO_315001 : Aside0 (Kd.R (Kd.int .i64) 3 w190 w.heap.size (fun k_ => some k_ ≠ (v360 : Value).ownBlock) (.slice Ao66 t345.length co66) t345) := ⟨h7_⟩; replace HO_323000 : Aside0 (Kd.R k48 48 w190 w.heap.size (fun k_ => some k_ ≠ (v351 : Value).ownBlock ∧ some k_ ≠ (v357 : Value).ownBlock ∧ some k_ ≠ (v366 : Value).ownBlock ∧ some k_ ≠ (.slice Ao42 t290.length co42 : Value).ownBlock ∧ some k_ ≠ (.slice Ao51 t342.length co51 : Value).ownBlock ∧ some k_ ≠ (.slice Ao60 t344.length co60 : Value).ownBlock) (.slice Ao70 t315.length co70) t348) := ⟨h8_⟩; replace BK271 : Aside0 (w190.heap[gb271]? = some (.cells #[.slice A0_0 l0_0.length c0_0, .int .i64 a0_1, .int .i64 a0_2, .int .i64 a0_3] 24 (0, 0))) := ⟨h9_⟩; replace BK272 : Aside0 (w190.heap[gb272]? = some (.cells #[.slice A1_0 l1_0.length c1_0, .slice A1_1 l1_1.length c1_1, .int .i64 a1_2, .int .i64 a1_3, .int .i64 a1_4] 27 (0, 0))) := ⟨h10_⟩; replace BK297 : Aside0 (w190.heap[gb297]? = some (.cells #[.slice Ao42 t290.length co42, .int .i64 t293, .int .i64 t294, .int .i64 t295] 32 (0, 0))) := ⟨h11_⟩; replace BK304 : Aside0 (w190.heap[gb304]? = some (.cells #[.slice Ao51 t342.length co51, .int .i64 t301, .int .i64 t302, .int .i64 t303] 32 (0, 0))) := ⟨h12_⟩; replace BK314 : Aside0 (w190.heap[gb314]? = some (.cells #[.slice Ao60 t344.length co60, .slice Ao66 t345.length co66, .int .i64 t311, .int .i64 t312, .int .i64 t313] 37 (0, 0))) := ⟨h13_⟩; replace BK322 : Aside0 (w190.heap[gb322]? = some (.cells #[.slice Ao70 t315.length co70, .int .i64 t318, .int .i64 t319, .int .i64 t320] 32 (0, 0))) := ⟨h14_⟩; have BK372 : Aside0 (w190.heap[gb372]? = some (.cells #[.slice none 0 0, .int .i64 0, .int .i64 0, .int .i64 0] 32 (0, 0))) := ⟨h15_⟩; have GW372 : Aside0 (w.heap.size ≤ gb372) := ⟨h16_⟩; have GE372 : Aside0 (w.heap.size ≤ gb372) := ⟨h17_⟩; have NB271_372 : Aside0 (gb271 ≠ gb372) := ⟨h18_⟩; have NB372_271 : Aside0 (gb372 ≠ gb271) := ⟨h19_⟩; have NB272_372 : Aside0 (gb272 ≠ gb372) := ⟨h20_⟩; have NB372_272 : Aside0 (gb372 ≠ gb272) := ⟨h21_⟩; have NB297_372 : Aside0 (gb297 ≠ gb372) := ⟨h22_⟩; have NB372_297 : Aside0 (gb372 ≠ gb297) := ⟨h23_⟩; have NB304_372 : Aside0 (gb304 ≠ gb372) := ⟨h24_⟩; have NB372_304 : Aside0 (gb372 ≠ gb304) := ⟨h25_⟩; have NB314_372 : Aside0 (gb314 ≠ gb372) := ⟨h26_⟩; have NB372_314 : Aside0 (gb372 ≠ gb314) := ⟨h27_⟩; have NB322_372 : Aside0 (gb322 ≠ gb372) := ⟨h28_⟩; have NB372_322 : Aside0 (gb372 ≠ gb322) := ⟨h29_⟩; replace HB : Aside0 (Below w.heap.size w w190) := ⟨h30_⟩; clear h0_ h1_ h2_ h3_ h4_ h5_ h6_ h7_ h8_ h9_ h10_ h11_ h12_ h13_ h14_ h15_ h16_ h17_ h18_ h19_ h20_ h21_ h22_ h23_ h24_ h25_ h26_ h27_ h28_ h29_ h30_; have hHeld : w190.cell? ⟨gb271, 0, none⟩ = some (.slice A0_0 l0_0.length c0_0) ∧ w190.cell? ⟨gb271, 1, none⟩ = some (.int .i64 a0_1) ∧ w190.cell? ⟨gb271, 2, none⟩ = some (.int .i64 a0_2) ∧ w190.cell? ⟨gb271, 3, none⟩ = some (.int .i64 a0_3) ∧ w190.cell? ⟨gb272, 0, none⟩ = some (.slice A1_0 l1_0.length c1_0) ∧ w190.cell? ⟨gb272, 1, none⟩ = some (.slice A1_1 l1_1.length c1_1) ∧ w190.cell? ⟨gb272, 2, none⟩ = some (.int .i64 a1_2) ∧ w190.cell? ⟨gb272, 3, none⟩ = some (.int .i64 a1_3) ∧ w190.cell? ⟨gb272, 4, none⟩ = some (.int .i64 a1_4) := hS_
               obtain ⟨Ao191, co191, eo191⟩ := Kd.R_slice HO367.out
               (first | subst eo191 | (injection eo191 with f1_ f2_ f3_; have f4_ := f1_.symm; have f5_ := f3_.symm; clear f1_ f2_ f3_; subst f4_; subst f5_))
               refine norm_ (a' := ?_) ?_ ?_
               rotate_left
               ·simp only [putAll, Act.put, List.setIfInBounds_toArray, List.set_cons_zero, List.set_cons_succ]
                rfl
               refine one_ (i := 9) (N := none) #[true, true, true, true, true, true, true, true, true, true, false] rfl rfl (one_of HT_.out (by kernel_rfl)) (by decide) (fun K hK => ?_)
               have hs192 : w190.cell? ⟨gb372, 0, none⟩ = some (.slice none 0 0) := (blk_cell BK372.out 0).trans rfl; have hfs192 := blk_frozen BK372.out 0; have hns192_0 := NB271_372.out; have hns192_1 := NB272_372.out; have hns192_2 := NB297_372.out; have hns192_3 := NB304_372.out; have hns192_4 := NB314_372.out; have hns192_5 := NB322_372.out; have hms192_0 := NB372_271.out; have hms192_1 := NB372_272.out; have hms192_2 := NB372_297.out; have hms192_3 := NB372_304.out; have hms192_4 := NB372_314.out; have hms192_5 := NB372_322.out; have hs193 : w190.cell? ⟨gb372, 1, none⟩ = some (.int .i64 0) := (blk_cell BK372.out 1).trans rfl; have hfs193 := blk_frozen BK372.out 1; have hns193_0 := NB271_372.out; have hns193_1 := NB272_372.out; have hns193_2 := NB297_372.out; have hns193_3 := NB304_372.out; have hns193_4 := NB314_372.out; have hns193_5 := NB322_372.out; have hms193_0 := NB372_271.out; have hms193_1 := NB372_272.out; have hms193_2 := NB372_297.out; have hms193_3 := NB372_304.out; have hms193_4 := NB372_314.out; have hms193_5 := NB372_322.out; have hs194 : w190.cell? ⟨gb372, 2, none⟩ = some (.int .i64 0) := (blk_cell BK372.out 2).trans rfl; have hfs194 := blk_frozen BK372.out 2; have hns194_0 := NB271_372.out; have hns194_1 := NB272_372.out; have hns194_2 := NB297_372.out; have hns194_3 := NB304_372.out; have hns194_4 := NB314_372.out; have hns194_5 := NB322_372.out; have hms194_0 := NB372_271.out; have hms194_1 := NB372_272.out; have hms194_2 := NB372_297.out; have hms194_3 := NB372_304.out; have hms194_4 := NB372_314.out; have hms194_5 := NB372_322.out; have hs195 : w190.cell? ⟨gb372, 3, none⟩ = some (.int .i64 0) := (blk_cell BK372.out 3).trans rfl; have hfs195 := blk_frozen BK372.out 3; have hns195_0 := NB271_372.out; have hns195_1 := NB272_372.out; have hns195_2 := NB297_372.out; have hns195_3 := NB304_372.out; have hns195_4 := NB314_372.out; have hns195_5 := NB322_372.out; have hms195_0 := NB372_271.out; have hms195_1 := NB372_272.out; have hms195_2 := NB372_297.out
               have hms195_3 := NB372_304.out; have hms195_4 := NB372_314.out; have hms195_5 := NB372_322.out
               refine skip_ (w1 := ?_) (by rfl) rfl ?_ ?_
               rotate_left
               ·go_simp
                rfl
               refine hK.out _ _ ⟨((cell_far (p := ⟨gb372, _, none⟩) NB271_372.out _).trans (((cell_far (p := ⟨gb372, _, none⟩) NB271_372.out _).trans (((cell_far (p := ⟨gb372, _, none⟩) NB271_372.out _).trans (((cell_far (p := ⟨gb372, _, none⟩) NB271_372.out _).trans (hHeld.1)))))))), ((cell_far (p := ⟨gb372, _, none⟩) NB271_372.out _).trans (((cell_far (p := ⟨gb372, _, none⟩) NB271_372.out _).trans (((cell_far (p := ⟨gb372, _, none⟩) NB271_372.out _).trans (((cell_far (p := ⟨gb372, _, none⟩) NB271_372.out _).trans (hHeld.2.1)))))))), ((cell_far (p := ⟨gb372, _, none⟩) NB271_372.out _).trans (((cell_far (p := ⟨gb372, _, none⟩) NB271_372.out _).trans (((cell_far (p := ⟨gb372, _, none⟩) NB271_372.out _).trans (((cell_far (p := ⟨gb372, _, none⟩) NB271_372.out _).trans (hHeld.2.2.1)))))))), ((cell_far (p := ⟨gb372, _, none⟩) NB271_372.out _).trans (((cell_far (p := ⟨gb372, _, none⟩) NB271_372.out _).trans (((cell_far (p := ⟨gb372, _, none⟩) NB271_372.out _).trans (((cell_far (p := ⟨gb372, _, none⟩) NB271_372.out _).trans (hHeld.2.2.2.1)))))))), ((cell_far (p := ⟨gb372, _, none⟩) NB272_372.out _).trans (((cell_far (p := ⟨gb372, _, none⟩) NB272_372.out _).trans (((cell_far (p := ⟨gb372, _, none⟩) NB272_372.out _).trans (((cell_far (p := ⟨gb372, _, none⟩) NB272_372.out _).trans (hHeld.2.2.2.2.1)))))))), ((cell_far (p := ⟨gb372, _, none⟩) NB272_372.out _).trans (((cell_far (p := ⟨gb372, _, none⟩) NB272_372.out _).trans (((cell_far (p := ⟨gb372, _, none⟩) NB272_372.out _).trans (((cell_far (p := ⟨gb372, _, none⟩) NB272_372.out _).trans (hHeld.2.2.2.2.2.1)))))))), ((cell_far (p := ⟨gb372, _, none⟩) NB272_372.out _).trans (((cell_far (p := ⟨gb372, _, none⟩) NB272_372.out _).trans (((cell_far (p := ⟨gb372, _, none⟩) NB272_372.out _).trans (((cell_far (p := ⟨gb372, _, none⟩) NB272_372.out _).trans (hHeld.2.2.2.2.2.2.1)))))))), ((cell_far (p := ⟨gb372, _, none⟩) NB272_372.out _).trans (((cell_far (p := ⟨gb372, _, none⟩) NB272_372.out _).trans (((cell_far (p := ⟨gb372, _, none⟩) NB272_372.out _).trans (((cell_far (p := ⟨gb372, _, none⟩) NB272_372.out _).trans (hHeld.2.2.2.2.2.2.2.1)))))))), ((cell_far (p := ⟨gb372, _, none⟩) NB272_372.out _).trans (((cell_far (p := ⟨gb372, _, none⟩) NB272_372.out _).trans (((cell_far (p := ⟨gb372, _, none⟩) NB272_372.out _).trans (((cell_far (p := ⟨gb372, _, none⟩) NB272_372.out _).trans (hHeld.2.2.2.2.2.2.2.2))))))))⟩ (fun hHeld => ?_)
               clear hK K
               refine pure_ (i := 10) (N := some 16) (v := ?_) (a' := ?_) #[true, true, true, true, true, true, true, true, true, true, true] rfl rfl (any_of HT_.out (by kernel_rfl)) (fun _ _ _ h => h) (Or.inl ⟨by rfl, ?_⟩) ?_ ?_
               rotate_left
               ·intro w'
                go_simp
                with_reducible rfl
               rotate_left
               ·simp only [Act.put, List.setIfInBounds_toArray, List.set_cons_zero, List.set_cons_succ, i64_w, i32_w]
                rfl
               refine done_ (done_of HT_.out (by kernel_rfl)) ?_
               have hnb196 := NB372_271.out; have hnc196 := NB271_372.out; have hnb197 := NB372_272.out; have hnc197 := NB272_372.out; have hnb198 := NB372_297.out; have hnc198 := NB297_372.out; have hnb199 := NB372_304.out; have hnc199 := NB304_372.out; have hnb200 := NB372_314.out; have hnc200 := NB314_372.out; have hnb201 := NB372_322.out; have hnc201 := NB322_372.out; have hcz202_0 : w190.cell? ⟨gb372, 0, none⟩ = some (.slice none 0 0) := (blk_cell BK372.out 0).trans rfl; have hcz202_1 : w190.cell? ⟨gb372, 1, none⟩ = some (.int .i64 0) := (blk_cell BK372.out 1).trans rfl; have hcz202_2 : w190.cell? ⟨gb372, 2, none⟩ = some (.int .i64 0) := (blk_cell BK372.out 2).trans rfl; have hcz202_3 : w190.cell? ⟨gb372, 3, none⟩ = some (.int .i64 0) := (blk_cell BK372.out 3).trans rfl; have hfz202_0 := blk_frozen BK372.out 0; have hfz202_1 := blk_frozen BK372.out 1; have hfz202_2 := blk_frozen BK372.out 2; have hfz202_3 := blk_frozen BK372.out 3; have hnb203 := NB297_271.out; have hnc203 := NB271_297.out; have hnb204 := NB297_272.out; have hnc204 := NB272_297.out; have hnb205 := NB297_304.out; have hnc205 := NB304_297.out; have hnb206 := NB297_314.out; have hnc206 := NB314_297.out; have hcz207_0 : w190.cell? ⟨gb297, 0, none⟩ = some (.slice Ao42 t290.length co42) := (blk_cell BK297.out 0).trans rfl; have hcz207_1 : w190.cell? ⟨gb297, 1, none⟩ = some (.int .i64 t293) := (blk_cell BK297.out 1).trans rfl; have hcz207_2 : w190.cell? ⟨gb297, 2, none⟩ = some (.int .i64 t294) := (blk_cell BK297.out 2).trans rfl; have hcz207_3 : w190.cell? ⟨gb297, 3, none⟩ = some (.int .i64 t295) := (blk_cell BK297.out 3).trans rfl; have hfz207_0 := blk_frozen BK297.out 0; have hfz207_1 := blk_frozen BK297.out 1; have hfz207_2 := blk_frozen BK297.out 2; have hfz207_3 := blk_frozen BK297.out 3
               try go_wp2_with (first | ((with_reducible refine gate_callee (f := 10) rfl ?_); refine goesL_ (some 104) rfl rfl Try.func10 (by kernel_rfl) rfl #[.agg #[.slice Ao191 t365.length co191, .int .i64 t368, .int .i64 t369, .int .i64 t370], .agg #[.slice Ao42 t290.length co42, .int .i64 t293, .int .i64 t294, .int .i64 t295]] rfl (by (try simp only [List.map_toArray, List.map_cons, List.map_nil]); first | done | rfl | (simp only [List.length_drop, List.length_take]; rfl)) ?_; (with_reducible refine (laws_eqVersion.calls kj111 _ _ t365 t368 t369 t370 _ _ t290 t293 t294 t295 true _ ?side1 ?side2 ?side3 ?side4 A170.out).mono ?_); (case side1 => refine (Kd.R_reads' (e := 48) (base := w.heap.size) (ok := fun k_ => (some k_ ≠ (v351 : Value).ownBlock ∧ (some k_ ≠ (v357 : Value).ownBlock ∧ (some k_ ≠ (.slice Ao42 t290.length co42 : Value).ownBlock ∧ (some k_ ≠ (.slice Ao51 t342.length co51 : Value).ownBlock ∧ (some k_ ≠ (.slice Ao60 t344.length co60 : Value).ownBlock ∧ some k_ ≠ (.slice Ao70 t315.length co70 : Value).ownBlock)))))) (n := t365.length) (c := co191) ?_).2.2; exact (xs4 HO367 BK372 _ _ _ _)); (case side2 => exact (Kd.R_reads' HO367.out).2.1); (case side3 => refine (Kd.R_reads' (e := 48) (base := w.heap.size) (ok := fun k_ => (some k_ ≠ (v351 : Value).ownBlock ∧ (some k_ ≠ (v357 : Value).ownBlock ∧ (some k_ ≠ (.slice Ao191 t365.length co191 : Value).ownBlock ∧ (some k_ ≠ (.slice Ao51 t342.length co51 : Value).ownBlock ∧ (some k_ ≠ (.slice Ao60 t344.length co60 : Value).ownBlock ∧ some k_ ≠ (.slice Ao70 t315.length co70 : Value).ownBlock)))))) (n := t290.length) (c := co42) ?_).2.2; exact (xs4 HO_298000 BK372 _ _ _ _)); (case side4 => exact (Kd.R_reads' HO_298000.out).2.1); rintro e w208 ⟨rfl, hb⟩; refine ⟨_, rfl, ?_⟩; replace HO_298000 := Aside0.mk (Kd.R_below (xs4 HO_298000 BK372 _ _ _ _) hb); replace HO_305000 := Aside0.mk (Kd.R_below (xs4 HO_305000 BK372 _ _ _ _) hb); replace HO_315000 := Aside0.mk (Kd.R_below (xs4 HO_315000 BK372 _ _ _ _) hb); replace HO_315001 := Aside0.mk (Kd.R_below (xs4 HO_315001 BK372 _ _ _ _) hb); replace HO_323000 := Aside0.mk (Kd.R_below (xs4 HO_323000 BK372 _ _ _ _) hb); replace HO352 := Aside0.mk (Kd.R_below (xs4 HO352 BK372 _ _ _ _) hb); replace HO358 := Aside0.mk (Kd.R_below (xs4 HO358 BK372 _ _ _ _) hb); replace HO361 := Aside0.mk (Kd.R_below (xs4 HO361 BK372 _ _ _ _) hb); replace HO367 := Aside0.mk (Kd.R_below (xs4 HO367 BK372 _ _ _ _) hb); replace BK271 := Aside0.mk (xbb BK271 hb); replace BK272 := Aside0.mk (xbb BK272 hb); replace BK297 := Aside0.mk (xbb BK297 hb); replace BK304 := Aside0.mk (xbb BK304 hb); replace BK314 := Aside0.mk (xbb BK314 hb); replace BK322 := Aside0.mk (xbb BK322 hb); replace BK372 := Aside0.mk (blk_below (g := gb372) (o := .cells #[.slice Ao191 t365.length co191, .int .i64 t368, .int .i64 t369, .int .i64 t370] 32 (0, 0)) (by (with_reducible repeat (first | refine blk_drewN ?_ _ | refine blk_drew ?_ | refine blk_alloc ?_ _)); refine blk_put (cs := #[.slice Ao191 t365.length co191, .int .i64 t368, .int .i64 t369, .int .i64 0]) ?_ 3 _ rfl; (with_reducible repeat (first | refine blk_drewN ?_ _ | refine blk_drew ?_ | refine blk_alloc ?_ _)); refine blk_put (cs := #[.slice Ao191 t365.length co191, .int .i64 t368, .int .i64 0, .int .i64 0]) ?_ 2 _ rfl; (with_reducible repeat (first | refine blk_drewN ?_ _ | refine blk_drew ?_ | refine blk_alloc ?_ _)); refine blk_put (cs := #[.slice Ao191 t365.length co191, .int .i64 0, .int .i64 0, .int .i64 0]) ?_ 1 _ rfl; (with_reducible repeat (first | refine blk_drewN ?_ _ | refine blk_drew ?_ | refine blk_alloc ?_ _)); refine blk_put (cs := #[.slice none 0 0, .int .i64 0, .int .i64 0, .int .i64 0]) ?_ 0 _ rfl; (with_reducible repeat (first | refine blk_drewN ?_ _ | refine blk_drew ?_ | refine blk_alloc ?_ _)); exact BK372.out) hb); replace HB := Aside0.mk (below_step (xh HB) hb); (try clear hb); (try clear hb2); (try clear hk); (try clear hi)))
               go_ret
               exact ⟨by first | rfl | (simp [errW_none, errW_some] <;> rfl) | (simp [*, errW_none, errW_some] <;> rfl), by repeat (first | (with_reducible first | exact HB.out | apply below_alloc | apply pw_below_drewN | apply below_drew1 | refine below_set ?_ GE271.out | refine below_set ?_ GE272.out | refine below_set ?_ GE297.out | refine below_set ?_ GE304.out | refine below_set ?_ GE314.out | refine below_set ?_ GE322.out | refine below_set ?_ GE372.out) | exact HB.out)⟩
             ·replace c171 := Bool.eq_false_iff.mpr c171
              subst c171
              have H1 : (some false) = some true := by rw [if_neg (show ¬ (false = true) by decide)] at H; exact H
              clear H; have H := H1; clear H1
              exact absurd H (by simp)
            ·rw [if_neg c166] at H
             have c166b0 : (t349 == t347) = false := beq_eq_false_iff_ne.mpr c166; have c166b1 : (t349 != t347) = true := bne_iff_ne.mpr c166
             exact absurd H (by simp)
       ·replace c109 := Bool.eq_false_iff.mpr c109
        subst c109
        have H1 : (some false) = some true := by rw [if_neg (show ¬ (false = true) by decide)] at H; exact H
        clear H; have H := H1; clear H1
        exact absurd H (by simp)
      ·replace c106 := Bool.eq_false_iff.mpr c106
       subst c106
       have H1 : (some false) = some true := by rw [if_neg (show ¬ (false = true) by decide)] at H; exact H
       clear H; have H := H1; clear H1
       exact absurd H (by simp)
end Go.Proofs.Ytlecpmgdoomngaa.P
end

/- Texts of the claim FnExactDecodeEdit, part 28 of 38, joined: MEditWalk, MDecWalk, MDecEdWalk, PimplDecodeEdit. No condition beyond those that stand at each. -/
import Derived.Test.YtjneloehdcecnaaZFnExactDecodeEdit27
import Derived.Test.YtjneloehdcecnaaZFnExactDecodeEdit26
import Derived.Test.YtjneloehdcecnaaZFnExactDecodeEdit25
section
/- The program's EncodeEdit, walked. No condition. -/
namespace Go.Proofs.Ytjneloehdcecnaa.M
open Go.RowKit Go.Proofs.Ytjneloehdcecnaa.P Go.Proofs.YtjneloehdcecnaaW.PrintWords Go.Proofs.YtjneloehdcecnaaW.PrintLast Go.Proofs.YtjneloehdcecnaaW.PrintMore
set_option linter.unusedVariables false
set_option linter.unusedSimpArgs false
/-- The world while an edit is written: the builder at block b holds S, the edit's own box stands. -/
structure EdInv (w wr : World) (b : Nat) (bx : Array Value) (S : ByteArray) : Prop where
  bld : Lib.IsBuilder 75 5 b b (Lib.strCells S) wr
  bel : Below w.heap.size w wr
  box : wr.heap[w.heap.size]? = some (.cells bx 43 (0, 0))
  ge : w.heap.size < b
theorem EdInv.below {w wr W : World} {b : Nat} {bx : Array Value} {S : ByteArray} (h : EdInv w wr b bx S) (hx : Below wr.heap.size wr W) : EdInv w W b bx S :=
  ⟨bld_below h.bld hx, h.bel.trans (hx.mono h.bel.size), (hx.block _ (blk_lt h.box)).trans h.box, h.ge⟩
theorem EdInv.write {w wr W : World} {b : Nat} {bx : Array Value} {S : ByteArray} (h : EdInv w wr b bx S) (hx : Below wr.heap.size wr W) (s : ByteArray) (hlen : S.size + s.size ≤ 140737488355328) :
    Calls Try.prog 45 #[.pointer (some ⟨b, 0, none⟩), .string s] W fun e w' => e = .returned (.tuple #[.int .i64 s.size, .nilIface]) ∧ EdInv w w' b bx (S ++ s) := by
  have k := h.below hx
  refine (write_call b b (Lib.strCells S) s W k.bld (by rw [Lib.strCells_length]; exact hlen) (Nat.le_of_lt (bld_lt k.bld))).mono ?_
  rintro e w' ⟨rfl, h1, h2, h3⟩
  refine ⟨rfl, ⟨?_, k.bel.trans (h2.mono (Nat.le_of_lt k.ge)), (h3 _ _ _ k.box (by decide) (by have := k.ge; omega)).trans k.box, k.ge⟩⟩
  rw [strCells_append]
  exact Or.inr h1
theorem keep87 {w3 W : World} {g : Nat} {x : S87} (h : w3.heap[g]? = some (.cells #[.int .i64 x.f0, .int .i64 x.f1, .string x.f2, .string x.f3] 87 (0, 0))) (hb : Below w3.heap.size w3 W) :
    W.cell? ⟨g, 0, none⟩ = some (.int .i64 x.f0) ∧ W.cell? ⟨g, 1, none⟩ = some (.int .i64 x.f1) ∧ W.cell? ⟨g, 2, none⟩ = some (.string x.f2) ∧ W.cell? ⟨g, 3, none⟩ = some (.string x.f3) := by
  have T := (hb.block g (blk_lt h)).trans h
  exact ⟨(blk_cell T 0).trans rfl, (blk_cell T 1).trans rfl, (blk_cell T 2).trans rfl, (blk_cell T 3).trans rfl⟩
theorem keep43 {w3 W : World} {g : Nat} {a b : Value} {log next last : Int} (h : w3.heap[g]? = some (.cells #[a, b, .int .i64 log, .int .i64 next, .int .i64 last] 43 (0, 0))) (hb : Below w3.heap.size w3 W) :
    W.cell? ⟨g, 2, none⟩ = some (.int .i64 log) ∧ W.cell? ⟨g, 3, none⟩ = some (.int .i64 next) ∧ W.cell? ⟨g, 4, none⟩ = some (.int .i64 last) := by
  have T := (hb.block g (blk_lt h)).trans h
  exact ⟨(blk_cell T 2).trans rfl, (blk_cell T 3).trans rfl, (blk_cell T 4).trans rfl⟩
theorem at_int {w : World} {K : Option Addr} {keep : List Int} (h : Kd.C (Kd.int .i64) w K keep.length keep) (i : Nat) (h1 : i < keep.length) : ∃ ad, K = some ad ∧ w.cell? (ad.add i) = some (.int .i64 (rd keep (i : Int))) := by
  obtain ⟨ad, c, e, _, hK, hc⟩ := Kd.C_get h 0 (i : Int) (by omega) (by omega)
  refine ⟨ad, e, ?_⟩
  rw [Int.toNat_natCast] at hK
  obtain rfl : c = [.int .i64 (keep.getD i 0)] := hK
  have := hc 0 _ rfl
  simpa [show (Kd.int .i64).sz = 1 from rfl, rd] using this
theorem all_take {α : Type} {p : α → Bool} {l : List α} (h : l.all p = true) (i : Nat) : (l.take i).all p = true := by
  rw [List.all_eq_true] at h ⊢
  exact fun x hx => h x (List.mem_of_mem_take hx)

set_option maxHeartbeats 16000000 in
set_option maxRecDepth 100000 in
theorem encEdit_call (A0 : Option Addr) (c0 : Nat) (adds : List S87) (A1 : Option Addr) (c1 : Nat) (dels : List Int) (log next last : Int) (w : World) (h0 : Kd.C k87 w A0 adds.length adds) (g0 : adds.length ≤ c0) (h1 : Kd.C (Kd.int .i64) w A1 dels.length dels) (g1 : dels.length ≤ c1) :
    Calls Try.prog 23 #[.agg #[.slice A0 adds.length c0, .slice A1 dels.length c1, .int .i64 log, .int .i64 next, .int .i64 last]] w fun e w' => e = .returned (.string (encEd adds dels log next last)) ∧ Below w.heap.size w w' := by
  have hu43 := Try.underlying43
  have hu87 := Try.underlying87
  have hu75 := Try.underlying75
  have b0 : Below w.heap.size w (w.alloc (.cells #[.slice A0 adds.length c0, .slice A1 dels.length c1, .int .i64 log, .int .i64 next, .int .i64 last] 43)) := (Below.refl _ w).alloc (Nat.le_refl _) _
  have HF := Aside0.mk (editFine_call A0 c0 adds A1 c1 dels log next last (w.alloc (.cells #[.slice A0 adds.length c0, .slice A1 dels.length c1, .int .i64 log, .int .i64 next, .int .i64 last] 43)) (Kd.C_below h0 b0) g0 (Kd.C_below h1 b0) g1)
  have HB0 := Aside0.mk b0
  have H0 := Aside0.mk h0
  have H1 := Aside0.mk h1
  clear h0 h1 b0
  by_cases hok : editOk adds dels log next last = true
  · have HE := Aside0.mk (show encEd adds dels log next last = edAll adds dels log next last from if_pos hok)
    obtain ⟨ha, hd, hra, _⟩ := editOk_parts hok
    have HRA := Aside0.mk hra
    rw [hok] at HF
    clear hok hra
    go_enter Try.func23, Try.ntmps23
    go_wp2_with fail
    refine HF.out.mono ?_
    rintro e w1 ⟨rfl, hb⟩
    have HX := Aside0.mk (show w.heap.size < w1.heap.size from by have := hb.size; simp at this; omega)
    have HIB := Aside0.mk (show EdInv w (w1.alloc (.cells #[.pointer none, .slice none 0 0] 75)) w1.heap.size #[.slice A0 adds.length c0, .slice A1 dels.length c1, .int .i64 log, .int .i64 next, .int .i64 last] (⟨#[]⟩ : ByteArray) from
      ⟨Lib.fresh_isBuilder 75 5 w1, below_alloc (HB0.out.trans (hb.mono HB0.out.size)) _, blk_alloc ((hb.block _ (by simp)).trans (heap_alloc_new w _)) _, HX.out⟩)
    have t0 := blk_cell HIB.out.box 0
    have HP := Aside0.mk (put_call (adds.length : Int) (w1.alloc (.cells #[.pointer none, .slice none 0 0] 75)))
    clear hb
    go_wp2_with fail
    refine HP.out.mono ?_
    rintro e w2 ⟨rfl, hb⟩
    have HW := Aside0.mk (HIB.out.write hb (put (adds.length : Int)) (by have := put_size (adds.length : Int); show 0 + _ ≤ _; omega))
    clear hb t0
    go_wp2_with fail
    refine HW.out.mono ?_
    rintro e w3 ⟨rfl, h2⟩
    rw [empty_append] at h2
    have HI := Aside0.mk (show EdInv w w3 w1.heap.size #[.slice A0 adds.length c0, .slice A1 dels.length c1, .int .i64 log, .int .i64 next, .int .i64 last] (ed0 adds ++ refsL (adds.take 0)) from by
      show EdInv w w3 w1.heap.size #[.slice A0 adds.length c0, .slice A1 dels.length c1, .int .i64 log, .int .i64 next, .int .i64 last] (put (adds.length : Int) ++ (⟨#[]⟩ : ByteArray))
      rw [ba_append_empty]
      exact h2)
    have t0 := blk_cell h2.box 0
    obtain ⟨nb, hnb⟩ : ∃ nb, w1.heap.size = nb := ⟨_, rfl⟩
    rw [hnb] at HI ⊢
    clear h2 HX HIB HP HW hnb
    go_wp2
    go_loopw [19] (fun v wr => ∃ i : Nat, i ≤ adds.length ∧ v = .int .i64 (i : Int) ∧ Aside0 (EdInv w wr nb #[.slice A0 adds.length c0, .slice A1 dels.length c1, .int .i64 log, .int .i64 next, .int .i64 last] (ed0 adds ++ refsL (adds.take i)))) (fun v _ => adds.length - (intOf v).toNat)
    case atStart => exact ⟨0, by omega, rfl, HI⟩
    case round =>
      obtain ⟨i, hi, rfl, HI⟩ := hrel
      by_cases hlt : i < adds.length
      · have hlt1 : ((i : Nat) : Int) < (adds.length : Int) := by omega
        obtain ⟨ad, hA, hx0, hx1, hx2, hx3⟩ := at_T87 H0.out (i : Int) (by omega) hlt1
        have hx0 := (HI.out.bel.cell (World.block_lt_of_cell? w _ hx0)).trans hx0
        have hx1 := (HI.out.bel.cell (World.block_lt_of_cell? w _ hx1)).trans hx1
        have hx2 := (HI.out.bel.cell (World.block_lt_of_cell? w _ hx2)).trans hx2
        have hx3 := (HI.out.bel.cell (World.block_lt_of_cell? w _ hx3)).trans hx3
        rw [Int.toNat_natCast] at hx0 hx1 hx2 hx3
        subst hA
        generalize hx : rd_T87 adds (i : Int) = x at hx0 hx1 hx2 hx3
        have hxok : refOk x = true := by
          rw [← hx, rd87 adds i hlt]
          exact List.all_eq_true.1 HRA.out _ (List.getElem_mem hlt)
        have HXX := Aside0.mk hx
        have hk2 : x.f2.size ≤ 1048576 := by have := refOk_sizes hxok; omega
        have hk3 : x.f3.size ≤ 1048576 := by have := refOk_sizes hxok; omega
        have q0 := put_size x.f0
        have q1 := put_size x.f1
        have q2 := szd_size x.f2
        have q3 := szd_size x.f3
        have d1 : (9223372036854775807 < (put x.f0).size + (put x.f1).size) = False := eq_false (by omega)
        have d2 : (9223372036854775807 < (put x.f0).size + (put x.f1).size + (szd x.f2).size) = False := eq_false (by omega)
        have d3 : (9223372036854775807 < (put x.f0).size + (put x.f1).size + (szd x.f2).size + (szd x.f3).size) = False := eq_false (by omega)
        have HT := Aside0.mk (heap_alloc_new wr (.cells #[.int .i64 x.f0, .int .i64 x.f1, .string x.f2, .string x.f3] 87))
        have HIA := Aside0.mk (HI.out.below ((Below.refl _ wr).alloc (Nat.le_refl _) (.cells #[.int .i64 x.f0, .int .i64 x.f1, .string x.f2, .string x.f3] 87)))
        have HLEN := Aside0.mk (show ∀ u : Unit, (ed0 adds ++ refsL (adds.take i)).size + (put x.f0 ++ put x.f1 ++ szd x.f2 ++ szd x.f3).size ≤ 140737488355328 from fun _ => by
          have e1 := refsL_size (adds.take i) (all_take HRA.out i)
          have e2 := put_size (adds.length : Int)
          have e3 : (adds.take i).length ≤ 1000 := by rw [List.length_take]; omega
          unfold ed0
          rw [ByteArray.size_append, ByteArray.size_append, ByteArray.size_append, ByteArray.size_append]
          omega)
        have BD := Aside0.mk (below_drew (Below.refl (wr.alloc (.cells #[.int .i64 x.f0, .int .i64 x.f1, .string x.f2, .string x.f3] 87)).heap.size (wr.alloc (.cells #[.int .i64 x.f0, .int .i64 x.f1, .string x.f2, .string x.f3] 87))))
        clear hx hxok t0
        go_wp2
        refine start_ (n := 16) (S := fun w' => w'.cell? ⟨wr.heap.size, 0, none⟩ = some (.int .i64 x.f0) ∧ w'.cell? ⟨wr.heap.size, 1, none⟩ = some (.int .i64 x.f1) ∧ w'.cell? ⟨wr.heap.size, 2, none⟩ = some (.string x.f2) ∧ w'.cell? ⟨wr.heap.size, 3, none⟩ = some (.string x.f3)) (ds := [15]) #[false, false, false, false, false, false, false, false, false, false, false, false, false, false, false, false] (by kernel_rfl) rfl rfl ⟨(keep87 HT.out BD.out).1, (keep87 HT.out BD.out).2.1, (keep87 HT.out BD.out).2.2.1, (keep87 HT.out BD.out).2.2.2⟩ (fun hHeld => ?_)
        generalize (wr.alloc (.cells #[.int .i64 x.f0, .int .i64 x.f1, .string x.f2, .string x.f3] 87)).drew = wd at BD hHeld ⊢
        have HB := BD
        refine pure_ (i := 0) (N := some 23) (v := ?_) (a' := ?_) #[true, false, false, false, false, false, false, false, false, false, false, false, false, false, false, false] rfl rfl (by kernel_rfl) (fun _ _ _ h => h) (Or.inl ⟨by rfl, ?_⟩) ?_ ?_
        rotate_left
        · intro w'
          go_simp
          with_reducible rfl
        rotate_left
        · simp only [Act.put, List.setIfInBounds_toArray, List.set_cons_zero, List.set_cons_succ, i64_w, i32_w]
          rfl
        refine pure_ (i := 3) (N := some 26) (v := ?_) (a' := ?_) #[true, false, false, true, false, false, false, false, false, false, false, false, false, false, false, false] rfl rfl (by kernel_rfl) (fun _ _ _ h => h) (Or.inl ⟨by rfl, ?_⟩) ?_ ?_
        rotate_left
        · intro w'
          go_simp
          with_reducible rfl
        rotate_left
        · simp only [Act.put, List.setIfInBounds_toArray, List.set_cons_zero, List.set_cons_succ, i64_w, i32_w]
          rfl
        refine pure_ (i := 7) (N := some 30) (v := ?_) (a' := ?_) #[true, false, false, true, false, false, false, true, false, false, false, false, false, false, false, false] rfl rfl (by kernel_rfl) (fun _ _ _ h => h) (Or.inl ⟨by rfl, ?_⟩) ?_ ?_
        rotate_left
        · intro w'
          go_simp
          with_reducible rfl
        rotate_left
        · simp only [Act.put, List.setIfInBounds_toArray, List.set_cons_zero, List.set_cons_succ, i64_w, i32_w]
          rfl
        refine pure_ (i := 11) (N := some 34) (v := ?_) (a' := ?_) #[true, false, false, true, false, false, false, true, false, false, false, true, false, false, false, false] rfl rfl (by kernel_rfl) (fun _ _ _ h => h) (Or.inl ⟨by rfl, ?_⟩) ?_ ?_
        rotate_left
        · intro w'
          go_simp
          with_reducible rfl
        rotate_left
        · simp only [Act.put, List.setIfInBounds_toArray, List.set_cons_zero, List.set_cons_succ, i64_w, i32_w]
          rfl
        refine take_ (i := 1) (N := some 24) (v := ?_) (a' := ?_) #[true, true, false, true, false, false, false, true, false, false, false, true, false, false, false, false] rfl rfl (by kernel_rfl) (fun _ _ _ h => h) (Or.inl ⟨by rfl, ?_⟩) hHeld ?_ ?_
        rotate_left
        · rintro w' ⟨s0, s1, s2, s3⟩
          go_simp
          with_reducible rfl
        rotate_left
        · simp only [Act.put, List.setIfInBounds_toArray, List.set_cons_zero, List.set_cons_succ, i64_w, i32_w]
          rfl
        refine take_ (i := 4) (N := some 27) (v := ?_) (a' := ?_) #[true, true, false, true, true, false, false, true, false, false, false, true, false, false, false, false] rfl rfl (by kernel_rfl) (fun _ _ _ h => h) (Or.inl ⟨by rfl, ?_⟩) hHeld ?_ ?_
        rotate_left
        · rintro w' ⟨s0, s1, s2, s3⟩
          go_simp
          with_reducible rfl
        rotate_left
        · simp only [Act.put, List.setIfInBounds_toArray, List.set_cons_zero, List.set_cons_succ, i64_w, i32_w]
          rfl
        refine take_ (i := 8) (N := some 31) (v := ?_) (a' := ?_) #[true, true, false, true, true, false, false, true, true, false, false, true, false, false, false, false] rfl rfl (by kernel_rfl) (fun _ _ _ h => h) (Or.inl ⟨by rfl, ?_⟩) hHeld ?_ ?_
        rotate_left
        · rintro w' ⟨s0, s1, s2, s3⟩
          go_simp
          with_reducible rfl
        rotate_left
        · simp only [Act.put, List.setIfInBounds_toArray, List.set_cons_zero, List.set_cons_succ, i64_w, i32_w]
          rfl
        refine take_ (i := 12) (N := some 35) (v := ?_) (a' := ?_) #[true, true, false, true, true, false, false, true, true, false, false, true, true, false, false, false] rfl rfl (by kernel_rfl) (fun _ _ _ h => h) (Or.inl ⟨by rfl, ?_⟩) hHeld ?_ ?_
        rotate_left
        · rintro w' ⟨s0, s1, s2, s3⟩
          go_simp
          with_reducible rfl
        rotate_left
        · simp only [Act.put, List.setIfInBounds_toArray, List.set_cons_zero, List.set_cons_succ, i64_w, i32_w]
          rfl
        refine one_ (i := 2) (N := some 25) #[true, true, true, true, true, false, false, true, true, false, false, true, true, false, false, false] rfl rfl (by kernel_rfl) (by decide) (fun K hK => ?_)
        refine goes_ Try.func12 (by kernel_rfl) rfl #[.int .i64 x.f0] (by rfl) rfl rfl (by simp only [List.map_toArray, List.map_cons, List.map_nil]; rfl) ?_
        with_reducible refine (put_call _ _).mono ?_
        rintro e w4 ⟨rfl, hb⟩
        refine ⟨_, rfl, ?_⟩
        have n0_ := Aside0.mk (below_step HB.out hb)
        clear HB hb
        have HB := n0_
        clear n0_
        refine hK.out _ _ ⟨(keep87 HT.out HB.out).1, (keep87 HT.out HB.out).2.1, (keep87 HT.out HB.out).2.2.1, (keep87 HT.out HB.out).2.2.2⟩ (fun hHeld => ?_)
        clear hK K
        refine norm_ (a' := ?_) ?_ ?_
        rotate_left
        · show Act.put _ (some 25) _ = _
          simp only [Act.put, List.setIfInBounds_toArray, List.set_cons_zero, List.set_cons_succ, i64_w, i32_w]
          rfl
        refine one_ (i := 5) (N := some 28) #[true, true, true, true, true, true, false, true, true, false, false, true, true, false, false, false] rfl rfl (by kernel_rfl) (by decide) (fun K hK => ?_)
        refine goes_ Try.func12 (by kernel_rfl) rfl #[.int .i64 x.f1] (by rfl) rfl rfl (by simp only [List.map_toArray, List.map_cons, List.map_nil]; rfl) ?_
        with_reducible refine (put_call _ _).mono ?_
        rintro e w5 ⟨rfl, hb⟩
        refine ⟨_, rfl, ?_⟩
        have n0_ := Aside0.mk (below_step HB.out hb)
        clear HB hb
        have HB := n0_
        clear n0_
        refine hK.out _ _ ⟨(keep87 HT.out HB.out).1, (keep87 HT.out HB.out).2.1, (keep87 HT.out HB.out).2.2.1, (keep87 HT.out HB.out).2.2.2⟩ (fun hHeld => ?_)
        clear hK K
        refine norm_ (a' := ?_) ?_ ?_
        rotate_left
        · show Act.put _ (some 28) _ = _
          simp only [Act.put, List.setIfInBounds_toArray, List.set_cons_zero, List.set_cons_succ, i64_w, i32_w]
          rfl
        refine pure_ (i := 6) (N := some 29) (v := ?_) (a' := ?_) #[true, true, true, true, true, true, true, true, true, false, false, true, true, false, false, false] rfl rfl (by kernel_rfl) (fun _ _ _ h => h) (Or.inl ⟨by rfl, ?_⟩) ?_ ?_
        rotate_left
        · intro w'
          go_simp
          with_reducible rfl
        rotate_left
        · simp only [Act.put, List.setIfInBounds_toArray, List.set_cons_zero, List.set_cons_succ, i64_w, i32_w]
          rfl
        refine one_ (i := 9) (N := some 32) #[true, true, true, true, true, true, true, true, true, true, false, true, true, false, false, false] rfl rfl (by kernel_rfl) (by decide) (fun K hK => ?_)
        refine goes_ Try.func47 (by kernel_rfl) rfl #[.string x.f2] (by rfl) rfl rfl (by simp only [List.map_toArray, List.map_cons, List.map_nil]; rfl) ?_
        with_reducible refine (szd_call _ _ hk2).mono ?_
        rintro e w6 ⟨rfl, hb⟩
        refine ⟨_, rfl, ?_⟩
        have n0_ := Aside0.mk (below_step HB.out hb)
        clear HB hb
        have HB := n0_
        clear n0_
        refine hK.out _ _ ⟨(keep87 HT.out HB.out).1, (keep87 HT.out HB.out).2.1, (keep87 HT.out HB.out).2.2.1, (keep87 HT.out HB.out).2.2.2⟩ (fun hHeld => ?_)
        clear hK K
        refine norm_ (a' := ?_) ?_ ?_
        rotate_left
        · show Act.put _ (some 32) _ = _
          simp only [Act.put, List.setIfInBounds_toArray, List.set_cons_zero, List.set_cons_succ, i64_w, i32_w]
          rfl
        refine pure_ (i := 10) (N := some 33) (v := ?_) (a' := ?_) #[true, true, true, true, true, true, true, true, true, true, true, true, true, false, false, false] rfl rfl (by kernel_rfl) (fun _ _ _ h => h) (Or.inl ⟨by rfl, ?_⟩) ?_ ?_
        rotate_left
        · intro w'
          go_simp
          with_reducible rfl
        rotate_left
        · simp only [Act.put, List.setIfInBounds_toArray, List.set_cons_zero, List.set_cons_succ, i64_w, i32_w]
          rfl
        refine one_ (i := 13) (N := some 36) #[true, true, true, true, true, true, true, true, true, true, true, true, true, true, false, false] rfl rfl (by kernel_rfl) (by decide) (fun K hK => ?_)
        refine goes_ Try.func47 (by kernel_rfl) rfl #[.string x.f3] (by rfl) rfl rfl (by simp only [List.map_toArray, List.map_cons, List.map_nil]; rfl) ?_
        with_reducible refine (szd_call _ _ hk3).mono ?_
        rintro e w7 ⟨rfl, hb⟩
        refine ⟨_, rfl, ?_⟩
        have n0_ := Aside0.mk (below_step HB.out hb)
        clear HB hb
        have HB := n0_
        clear n0_
        refine hK.out _ _ ⟨(keep87 HT.out HB.out).1, (keep87 HT.out HB.out).2.1, (keep87 HT.out HB.out).2.2.1, (keep87 HT.out HB.out).2.2.2⟩ (fun hHeld => ?_)
        clear hK K
        refine norm_ (a' := ?_) ?_ ?_
        rotate_left
        · show Act.put _ (some 36) _ = _
          simp only [Act.put, List.setIfInBounds_toArray, List.set_cons_zero, List.set_cons_succ, i64_w, i32_w]
          rfl
        refine pure_ (i := 14) (N := some 37) (v := ?_) (a' := ?_) #[true, true, true, true, true, true, true, true, true, true, true, true, true, true, true, false] rfl rfl (by kernel_rfl) (fun _ _ _ h => h) (Or.inl ⟨by rfl, ?_⟩) ?_ ?_
        rotate_left
        · intro w'
          go_simp
          with_reducible rfl
        rotate_left
        · simp only [Act.put, List.setIfInBounds_toArray, List.set_cons_zero, List.set_cons_succ, i64_w, i32_w]
          rfl
        refine last_ (i := 15) (N := some 38) #[true, true, true, true, true, true, true, true, true, true, true, true, true, true, true, true] rfl rfl (by kernel_rfl) (by decide) (fun K hK => ?_)
        refine goes_ Try.func45 (by kernel_rfl) rfl #[.pointer (some ⟨nb, 0, none⟩), .string (put x.f0 ++ put x.f1 ++ szd x.f2 ++ szd x.f3)] (by rfl) rfl rfl (by simp only [List.map_toArray, List.map_cons, List.map_nil]; rfl) ?_
        refine (EdInv.write HIA.out HB.out (put x.f0 ++ put x.f1 ++ szd x.f2 ++ szd x.f3) (HLEN.out ())).mono ?_
        rintro e w8 ⟨rfl, h5⟩
        refine ⟨_, rfl, ?_⟩
        have H5 := Aside0.mk h5
        clear h5
        refine hK.out _ _ ?_
        clear hK K
        refine norm_ (a' := ?_) ?_ ?_
        rotate_left
        · show Act.put _ (some 38) _ = _
          simp only [Act.put, List.setIfInBounds_toArray, List.set_cons_zero, List.set_cons_succ, i64_w, i32_w]
          rfl
        refine done_ (by kernel_rfl) ?_
        go_wp2
        go_roundw
        case rel =>
          refine ⟨i + 1, by omega, by go_num, ⟨?_⟩⟩
          rw [take_at adds i hlt, refsL_snoc, ← rd87 adds i hlt, HXX.out, ← ByteArray.append_assoc]
          exact H5.out
        case measure => simp [intOf]; omega
      · have hlt1 : decide (((i : Nat) : Int) < (adds.length : Int)) = false := decide_eq_false (by omega)
        obtain rfl : i = adds.length := by omega
        have t1 := blk_cell HI.out.box 1
        have HP := Aside0.mk (put_call (dels.length : Int) wr)
        have HLEN := Aside0.mk (show ∀ u : Unit, (ed0 adds ++ refsL (adds.take adds.length)).size + (put (dels.length : Int)).size ≤ 140737488355328 from fun _ => by
          rw [List.take_length]
          have e1 := refsL_size adds HRA.out
          have e2 := put_size (adds.length : Int)
          have e3 := put_size (dels.length : Int)
          unfold ed0
          rw [ByteArray.size_append]
          omega)
        clear t0
        go_wp2_with fail
        refine HP.out.mono ?_
        rintro e w4 ⟨rfl, hb⟩
        have HW := Aside0.mk (HI.out.write hb (put (dels.length : Int)) (HLEN.out ()))
        clear hb t1
        go_wp2_with fail
        refine HW.out.mono ?_
        rintro e w5 ⟨rfl, h2⟩
        rw [List.take_length] at h2
        have HJ := Aside0.mk (show EdInv w w5 nb #[.slice A0 adds.length c0, .slice A1 dels.length c1, .int .i64 log, .int .i64 next, .int .i64 last] (ed1 adds dels ++ numsL (dels.take 0)) from by
          show EdInv w w5 nb #[.slice A0 adds.length c0, .slice A1 dels.length c1, .int .i64 log, .int .i64 next, .int .i64 last] (ed1 adds dels ++ (⟨#[]⟩ : ByteArray))
          rw [ba_append_empty]
          exact h2)
        have t1 := blk_cell h2.box 1
        clear h2 HP HW HLEN
        go_wp2
        obtain ⟨wo, rfl⟩ : ∃ wo : World, wo = wr := ⟨_, rfl⟩
        go_loopw [48] (fun v wr => ∃ i : Nat, i ≤ dels.length ∧ v = .int .i64 (i : Int) ∧ Aside0 (EdInv w wr nb #[.slice A0 adds.length c0, .slice A1 dels.length c1, .int .i64 log, .int .i64 next, .int .i64 last] (ed1 adds dels ++ numsL (dels.take i)))) (fun v _ => dels.length - (intOf v).toNat)
        case atStart => exact ⟨0, by omega, rfl, HJ⟩
        case round =>
          obtain ⟨j, hj, rfl, HI⟩ := hrel
          by_cases hlt : j < dels.length
          · have hlt2 : ((j : Nat) : Int) < (dels.length : Int) := by omega
            obtain ⟨ad, hA, hx0⟩ := at_int H1.out j hlt
            have hx0 := (HI.out.bel.cell (World.block_lt_of_cell? w _ hx0)).trans hx0
            subst hA
            generalize hx : rd dels (j : Int) = x at hx0
            have HXX := Aside0.mk hx
            have HP := Aside0.mk (put_call x wr)
            have HLEN := Aside0.mk (show ∀ u : Unit, (ed1 adds dels ++ numsL (dels.take j)).size + (put x).size ≤ 140737488355328 from fun _ => by
              have e1 := refsL_size adds HRA.out
              have e2 := put_size (adds.length : Int)
              have e3 := put_size (dels.length : Int)
              have e4 := numsL_size (dels.take j)
              have e5 := put_size x
              have e6 : (dels.take j).length ≤ 1000 := by rw [List.length_take]; omega
              unfold ed1 ed0
              rw [ByteArray.size_append, ByteArray.size_append, ByteArray.size_append]
              omega)
            clear hx t1
            go_wp2_with fail
            refine HP.out.mono ?_
            rintro e w6 ⟨rfl, hb⟩
            have HW := Aside0.mk (HI.out.write hb (put x) (HLEN.out ()))
            clear hb
            go_wp2_with fail
            refine HW.out.mono ?_
            rintro e w7 ⟨rfl, h2⟩
            have H5 := Aside0.mk h2
            clear h2
            go_wp2
            go_roundw
            case rel =>
              refine ⟨j + 1, by omega, by go_num, ⟨?_⟩⟩
              rw [take_at dels j hlt, numsL_snoc, ← rdI dels j hlt, HXX.out, ← ByteArray.append_assoc]
              exact H5.out
            case measure => simp [intOf]; omega
          · have hlt2 : decide (((j : Nat) : Int) < (dels.length : Int)) = false := decide_eq_false (by omega)
            obtain rfl : j = dels.length := by omega
            have HT := Aside0.mk HI.out.box
            have q0 := put_size log
            have q1 := put_size next
            have q2 := put_size last
            have d1 : (9223372036854775807 < (put log).size + (put next).size) = False := eq_false (by omega)
            have d2 : (9223372036854775807 < (put log).size + (put next).size + (put last).size) = False := eq_false (by omega)
            have HLEN := Aside0.mk (show ∀ u : Unit, (ed1 adds dels ++ numsL (dels.take dels.length)).size + (put log ++ put next ++ put last).size ≤ 140737488355328 from fun _ => by
              rw [List.take_length]
              have e1 := refsL_size adds HRA.out
              have e2 := put_size (adds.length : Int)
              have e3 := put_size (dels.length : Int)
              have e4 := numsL_size dels
              unfold ed1 ed0
              rw [ByteArray.size_append, ByteArray.size_append, ByteArray.size_append, ByteArray.size_append, ByteArray.size_append]
              omega)
            have BD := Aside0.mk (below_drew (Below.refl wr.heap.size wr))
            clear t1
            go_wp2
            obtain ⟨wq, rfl⟩ : ∃ wq : World, wq = wr := ⟨_, rfl⟩
            refine start_ (n := 12) (S := fun w' => w'.cell? ⟨w.heap.size, 2, none⟩ = some (.int .i64 log) ∧ w'.cell? ⟨w.heap.size, 3, none⟩ = some (.int .i64 next) ∧ w'.cell? ⟨w.heap.size, 4, none⟩ = some (.int .i64 last)) (ds := [11]) #[false, false, false, false, false, false, false, false, false, false, false, false] (by kernel_rfl) rfl rfl ⟨(keep43 HT.out BD.out).1, (keep43 HT.out BD.out).2.1, (keep43 HT.out BD.out).2.2⟩ (fun hHeld => ?_)
            generalize wq.drew = wd at BD hHeld ⊢
            have HB := BD
            refine pure_ (i := 0) (N := some 56) (v := ?_) (a' := ?_) #[true, false, false, false, false, false, false, false, false, false, false, false] rfl rfl (by kernel_rfl) (fun _ _ _ h => h) (Or.inl ⟨by rfl, ?_⟩) ?_ ?_
            rotate_left
            · intro w'
              go_simp
              with_reducible rfl
            rotate_left
            · simp only [Act.put, List.setIfInBounds_toArray, List.set_cons_zero, List.set_cons_succ, i64_w, i32_w]
              rfl
            refine pure_ (i := 3) (N := some 59) (v := ?_) (a' := ?_) #[true, false, false, true, false, false, false, false, false, false, false, false] rfl rfl (by kernel_rfl) (fun _ _ _ h => h) (Or.inl ⟨by rfl, ?_⟩) ?_ ?_
            rotate_left
            · intro w'
              go_simp
              with_reducible rfl
            rotate_left
            · simp only [Act.put, List.setIfInBounds_toArray, List.set_cons_zero, List.set_cons_succ, i64_w, i32_w]
              rfl
            refine pure_ (i := 7) (N := some 63) (v := ?_) (a' := ?_) #[true, false, false, true, false, false, false, true, false, false, false, false] rfl rfl (by kernel_rfl) (fun _ _ _ h => h) (Or.inl ⟨by rfl, ?_⟩) ?_ ?_
            rotate_left
            · intro w'
              go_simp
              with_reducible rfl
            rotate_left
            · simp only [Act.put, List.setIfInBounds_toArray, List.set_cons_zero, List.set_cons_succ, i64_w, i32_w]
              rfl
            refine take_ (i := 1) (N := some 57) (v := ?_) (a' := ?_) #[true, true, false, true, false, false, false, true, false, false, false, false] rfl rfl (by kernel_rfl) (fun _ _ _ h => h) (Or.inl ⟨by rfl, ?_⟩) hHeld ?_ ?_
            rotate_left
            · rintro w' ⟨s0, s1, s2⟩
              go_simp
              with_reducible rfl
            rotate_left
            · simp only [Act.put, List.setIfInBounds_toArray, List.set_cons_zero, List.set_cons_succ, i64_w, i32_w]
              rfl
            refine take_ (i := 4) (N := some 60) (v := ?_) (a' := ?_) #[true, true, false, true, true, false, false, true, false, false, false, false] rfl rfl (by kernel_rfl) (fun _ _ _ h => h) (Or.inl ⟨by rfl, ?_⟩) hHeld ?_ ?_
            rotate_left
            · rintro w' ⟨s0, s1, s2⟩
              go_simp
              with_reducible rfl
            rotate_left
            · simp only [Act.put, List.setIfInBounds_toArray, List.set_cons_zero, List.set_cons_succ, i64_w, i32_w]
              rfl
            refine take_ (i := 8) (N := some 64) (v := ?_) (a' := ?_) #[true, true, false, true, true, false, false, true, true, false, false, false] rfl rfl (by kernel_rfl) (fun _ _ _ h => h) (Or.inl ⟨by rfl, ?_⟩) hHeld ?_ ?_
            rotate_left
            · rintro w' ⟨s0, s1, s2⟩
              go_simp
              with_reducible rfl
            rotate_left
            · simp only [Act.put, List.setIfInBounds_toArray, List.set_cons_zero, List.set_cons_succ, i64_w, i32_w]
              rfl
            refine one_ (i := 2) (N := some 58) #[true, true, true, true, true, false, false, true, true, false, false, false] rfl rfl (by kernel_rfl) (by decide) (fun K hK => ?_)
            refine goes_ Try.func12 (by kernel_rfl) rfl #[.int .i64 log] (by rfl) rfl rfl (by simp only [List.map_toArray, List.map_cons, List.map_nil]; rfl) ?_
            with_reducible refine (put_call _ _).mono ?_
            rintro e w4 ⟨rfl, hb⟩
            refine ⟨_, rfl, ?_⟩
            have n0_ := Aside0.mk (below_step HB.out hb)
            clear HB hb
            have HB := n0_
            clear n0_
            refine hK.out _ _ ⟨(keep43 HT.out HB.out).1, (keep43 HT.out HB.out).2.1, (keep43 HT.out HB.out).2.2⟩ (fun hHeld => ?_)
            clear hK K
            refine norm_ (a' := ?_) ?_ ?_
            rotate_left
            · show Act.put _ (some 58) _ = _
              simp only [Act.put, List.setIfInBounds_toArray, List.set_cons_zero, List.set_cons_succ, i64_w, i32_w]
              rfl
            refine one_ (i := 5) (N := some 61) #[true, true, true, true, true, true, false, true, true, false, false, false] rfl rfl (by kernel_rfl) (by decide) (fun K hK => ?_)
            refine goes_ Try.func12 (by kernel_rfl) rfl #[.int .i64 next] (by rfl) rfl rfl (by simp only [List.map_toArray, List.map_cons, List.map_nil]; rfl) ?_
            with_reducible refine (put_call _ _).mono ?_
            rintro e w5 ⟨rfl, hb⟩
            refine ⟨_, rfl, ?_⟩
            have n0_ := Aside0.mk (below_step HB.out hb)
            clear HB hb
            have HB := n0_
            clear n0_
            refine hK.out _ _ ⟨(keep43 HT.out HB.out).1, (keep43 HT.out HB.out).2.1, (keep43 HT.out HB.out).2.2⟩ (fun hHeld => ?_)
            clear hK K
            refine norm_ (a' := ?_) ?_ ?_
            rotate_left
            · show Act.put _ (some 61) _ = _
              simp only [Act.put, List.setIfInBounds_toArray, List.set_cons_zero, List.set_cons_succ, i64_w, i32_w]
              rfl
            refine pure_ (i := 6) (N := some 62) (v := ?_) (a' := ?_) #[true, true, true, true, true, true, true, true, true, false, false, false] rfl rfl (by kernel_rfl) (fun _ _ _ h => h) (Or.inl ⟨by rfl, ?_⟩) ?_ ?_
            rotate_left
            · intro w'
              go_simp
              with_reducible rfl
            rotate_left
            · simp only [Act.put, List.setIfInBounds_toArray, List.set_cons_zero, List.set_cons_succ, i64_w, i32_w]
              rfl
            refine one_ (i := 9) (N := some 65) #[true, true, true, true, true, true, true, true, true, true, false, false] rfl rfl (by kernel_rfl) (by decide) (fun K hK => ?_)
            refine goes_ Try.func12 (by kernel_rfl) rfl #[.int .i64 last] (by rfl) rfl rfl (by simp only [List.map_toArray, List.map_cons, List.map_nil]; rfl) ?_
            with_reducible refine (put_call _ _).mono ?_
            rintro e w6 ⟨rfl, hb⟩
            refine ⟨_, rfl, ?_⟩
            have n0_ := Aside0.mk (below_step HB.out hb)
            clear HB hb
            have HB := n0_
            clear n0_
            refine hK.out _ _ ⟨(keep43 HT.out HB.out).1, (keep43 HT.out HB.out).2.1, (keep43 HT.out HB.out).2.2⟩ (fun hHeld => ?_)
            clear hK K
            refine norm_ (a' := ?_) ?_ ?_
            rotate_left
            · show Act.put _ (some 65) _ = _
              simp only [Act.put, List.setIfInBounds_toArray, List.set_cons_zero, List.set_cons_succ, i64_w, i32_w]
              rfl
            refine pure_ (i := 10) (N := some 66) (v := ?_) (a' := ?_) #[true, true, true, true, true, true, true, true, true, true, true, false] rfl rfl (by kernel_rfl) (fun _ _ _ h => h) (Or.inl ⟨by rfl, ?_⟩) ?_ ?_
            rotate_left
            · intro w'
              go_simp
              with_reducible rfl
            rotate_left
            · simp only [Act.put, List.setIfInBounds_toArray, List.set_cons_zero, List.set_cons_succ, i64_w, i32_w]
              rfl
            refine last_ (i := 11) (N := some 67) #[true, true, true, true, true, true, true, true, true, true, true, true] rfl rfl (by kernel_rfl) (by decide) (fun K hK => ?_)
            refine goes_ Try.func45 (by kernel_rfl) rfl #[.pointer (some ⟨nb, 0, none⟩), .string (put log ++ put next ++ put last)] (by rfl) rfl rfl (by simp only [List.map_toArray, List.map_cons, List.map_nil]; rfl) ?_
            refine (EdInv.write HI.out HB.out (put log ++ put next ++ put last) (HLEN.out ())).mono ?_
            rintro e w8 ⟨rfl, h5⟩
            refine ⟨_, rfl, ?_⟩
            have H5 := Aside0.mk h5
            clear h5
            refine hK.out _ _ ?_
            clear hK K
            refine norm_ (a' := ?_) ?_ ?_
            rotate_left
            · show Act.put _ (some 67) _ = _
              simp only [Act.put, List.setIfInBounds_toArray, List.set_cons_zero, List.set_cons_succ, i64_w, i32_w]
              rfl
            refine done_ (by kernel_rfl) ?_
            have HS := Aside0.mk (bldString_call nb nb (edAll adds dels log next last).data.toList w8 (by
              have := H5.out.bld
              rw [List.take_length] at this
              exact this) (Nat.le_of_lt (bld_lt H5.out.bld)))
            go_wp2_with fail
            refine HS.out.mono ?_
            rintro e w9 ⟨rfl, hb⟩
            have HBB := Aside0.mk (H5.out.bel.trans (hb.mono (Nat.le_of_lt H5.out.ge)))
            clear hb
            go_wp2
            go_ret
            exact ⟨by rw [HE.out]; rfl, HBB.out⟩
  · have HE := Aside0.mk (show encEd adds dels log next last = ⟨#[]⟩ from if_neg hok)
    rw [Bool.eq_false_iff.2 hok] at HF
    clear hok
    go_enter Try.func23, Try.ntmps23
    go_wp2_with fail
    refine HF.out.mono ?_
    rintro e w1 ⟨rfl, hb⟩
    have HBB := Aside0.mk (HB0.out.trans (hb.mono HB0.out.size))
    clear hb
    go_wp2
    go_ret
    exact ⟨by rw [HE.out]; rfl, HBB.out⟩
end Go.Proofs.Ytjneloehdcecnaa.M
end
section
/- The program's DecodeEntries, walked. Condition: the text has at most 2 to the 20 bytes. -/
namespace Go.Proofs.Ytjneloehdcecnaa.M
open Go.RowKit Go.Proofs.Ytjneloehdcecnaa.P Go.Proofs.YtjneloehdcecnaaW.PrintWords Go.Proofs.YtjneloehdcecnaaW.PrintLast Go.Proofs.YtjneloehdcecnaaW.PrintMore
set_option linter.unusedVariables false
set_option linter.unusedSimpArgs false
theorem len_list (c : ByteArray) : c.toList.length = c.size := by rw [ByteArray.toList_eq]; simp
theorem empty_list {c : ByteArray} (h : c.size = 0) : c.toList.isEmpty = true := by
  have := len_list c
  cases hc : c.toList with
  | nil => rfl
  | cons x l => rw [hc] at this; simp at this; omega
theorem nonempty_list {c : ByteArray} (h : ¬ c.size = 0) : c.toList.isEmpty = false := by
  have := len_list c
  cases hc : c.toList with
  | nil => rw [hc] at this; simp at this; omega
  | cons x l => rfl
theorem ne_list {a b : ByteArray} (h : (!(a.toList == b.toList)) = true) : a ≠ b := by
  rintro rfl
  simp at h
theorem eq_list {a b : ByteArray} (h : (!(a.toList == b.toList)) = false) : a = b := by
  simp at h
  apply ByteArray.ext
  apply Array.ext'
  simpa [ByteArray.toList_eq] using h
end Go.Proofs.Ytjneloehdcecnaa.M
end
section
/- The program's DecodeEdit, walked. Condition: the text has at most 2 to the 20 bytes. -/
namespace Go.Proofs.Ytjneloehdcecnaa.M
open Go.RowKit Go.Proofs.Ytjneloehdcecnaa.P Go.Proofs.YtjneloehdcecnaaW.PrintWords Go.Proofs.YtjneloehdcecnaaW.PrintLast Go.Proofs.YtjneloehdcecnaaW.PrintMore
set_option linter.unusedVariables false
set_option linter.unusedSimpArgs false
theorem put5 {W : World} {r : Nat} {u0 u1 u2 u3 u4 : Value} (h : W.heap[r]? = some (.cells #[u0, u1, u2, u3, u4] 43 (0, 0))) (v0 v1 v2 v3 v4 : Value) :
    (((((W.setCell ⟨r, 0, none⟩ v0).setCell ⟨r, 1, none⟩ v1).setCell ⟨r, 2, none⟩ v2).setCell ⟨r, 3, none⟩ v3).setCell ⟨r, 4, none⟩ v4).heap[r]? = some (.cells #[v0, v1, v2, v3, v4] 43 (0, 0)) :=
  blk_put (blk_put (blk_put (blk_put (blk_put h 0 v0 rfl) 1 v1 rfl) 2 v2 rfl) 3 v3 rfl) 4 v4 rfl
set_option maxHeartbeats 16000000 in
set_option maxRecDepth 100000 in
theorem decEdit_call (s : ByteArray) (w : World) (hs : s.size ≤ 1048576) :
    Calls Try.prog 30 #[.string s] w fun e w' => ∃ v0_ v1_ : Value, e = .returned (.tuple #[.agg #[v0_, v1_, .int .i64 (dece s).2.2.1, .int .i64 (dece s).2.2.2.1, .int .i64 (dece s).2.2.2.2.1], .bool (dece s).2.2.2.2.2]) ∧ Kd.R k87 87 w' w.heap.size (fun _ => True) v0_ (dece s).1 ∧ Kd.R (Kd.int .i64) 3 w' w.heap.size (fun _ => True) v1_ (dece s).2.1 ∧ Below w.heap.size w w' := by
  have hu43 := Try.underlying43
  have hu87 := Try.underlying87
  have hu41 := Try.underlying41
  have hu36 := Try.underlying36
  have hu96 := Try.underlying96
  have HS := Aside0.mk hs
  have W0 := Aside0.mk (heap_alloc_new w (.cells #[.slice none 0 0, .slice none 0 0, .int .i64 0, .int .i64 0, .int .i64 0] 43))
  have W1 := Aside0.mk (show ((w.alloc (.cells #[.slice none 0 0, .slice none 0 0, .int .i64 0, .int .i64 0, .int .i64 0] 43)).alloc (.cells #[.string s, .int .i64 0, .bool false] 96)).heap[w.heap.size + 1]? = some (.cells #[.string s, .int .i64 0, .bool false] 96 (0, 0)) from by
    have h := heap_alloc_new (w.alloc (.cells #[.slice none 0 0, .slice none 0 0, .int .i64 0, .int .i64 0, .int .i64 0] 43)) (.cells #[.string s, .int .i64 0, .bool false] 96)
    rw [World.size_alloc] at h
    exact h)
  have W2 := Aside0.mk (show (((w.alloc (.cells #[.slice none 0 0, .slice none 0 0, .int .i64 0, .int .i64 0, .int .i64 0] 43)).alloc (.cells #[.string s, .int .i64 0, .bool false] 96)).alloc (.cells #[.slice none 0 0, .slice none 0 0, .int .i64 0, .int .i64 0, .int .i64 0] 43)).heap[w.heap.size + 1 + 1]? = some (.cells #[.slice none 0 0, .slice none 0 0, .int .i64 0, .int .i64 0, .int .i64 0] 43 (0, 0)) from by
    have h := heap_alloc_new ((w.alloc (.cells #[.slice none 0 0, .slice none 0 0, .int .i64 0, .int .i64 0, .int .i64 0] 43)).alloc (.cells #[.string s, .int .i64 0, .bool false] 96)) (.cells #[.slice none 0 0, .slice none 0 0, .int .i64 0, .int .i64 0, .int .i64 0] 43)
    rw [World.size_alloc, World.size_alloc] at h
    exact h)
  have D0 := Aside0.mk (show DE w (((w.alloc (.cells #[.slice none 0 0, .slice none 0 0, .int .i64 0, .int .i64 0, .int .i64 0] 43)).alloc (.cells #[.string s, .int .i64 0, .bool false] 96)).alloc (.cells #[.slice none 0 0, .slice none 0 0, .int .i64 0, .int .i64 0, .int .i64 0] 43)) (w.heap.size + 1) (w.heap.size + 1 + 1) w.heap.size s 0 false (.slice none 0 0) (.slice none 0 0) 0 0 0 [] [] from
    ⟨below_alloc (below_alloc (below_alloc (Below.refl _ w) _) _) _, by omega, by omega, Nat.le_refl _, by omega, by omega, by omega, blk_alloc W1.out _, W2.out, blk_alloc (blk_alloc W0.out _) _, Kd.R_nil _ _ _ _ _, Kd.R_nil _ _ _ _ _⟩)
  clear hs W0 W1 W2
  obtain ⟨T0, hT0⟩ : ∃ T, tnum s 0 false = T := ⟨_, rfl⟩
  have hin := tnum_in (s := s) (a := 0) (b := false) (by omega)
  have hdec : dece s = de0 s (tnum s 0 false) := rfl
  have HN := Aside0.mk (D0.out.num HS.out (by omega) hT0)
  rw [hT0] at hin hdec
  obtain ⟨n0, a0, b0⟩ := T0
  obtain ⟨N, rfl⟩ : ∃ N : Nat, n0 = (N : Int) := ⟨n0.toNat, by have := hin.1; simp only at this; omega⟩
  have hdec : dece s = de1 s (aloop s N a0 b0 []) := by rw [hdec]; unfold de0; rw [show ((N : Int), a0, b0).1.toNat = N from Int.toNat_natCast N]
  have hN : N ≤ 72057594037927935 := by have := hin.2.1; simp only at this; omega
  have HIN := Aside0.mk (show 0 ≤ a0 ∧ a0 ≤ (s.size : Int) from hin.2.2)
  generalize hR : aloop s N a0 b0 [] = RR at hdec
  have HDEC := Aside0.mk hdec
  have HR := Aside0.mk hR
  clear hdec hR hin hT0 D0
  go_enter Try.func30, Try.ntmps30
  go_wp2_with fail
  refine HN.out.mono ?_
  rintro e w1 ⟨rfl, hd⟩
  have D1 := Aside0.mk hd
  clear hd HN
  generalize w.heap.size + 1 + 1 = e at *
  generalize w.heap.size + 1 = g at *
  go_wp2
  go_loopw [6] (fun v6 wr => ∃ (n : Nat) (a : Int) (b : Bool) (vA : Value) (adds : List S87), v6 = .int .i64 (n : Int) ∧ n ≤ 72057594037927935 ∧ Aside0 (DE w wr g e w.heap.size s a b vA (.slice none 0 0) 0 0 0 adds []) ∧ Aside0 (0 ≤ a ∧ a ≤ (s.size : Int)) ∧ Aside0 (b = false → (adds.length : Int) ≤ a) ∧ Aside0 (aloop s n a b adds = RR)) (fun v6 _ => (intOf v6).toNat)
  case atStart => exact ⟨N, a0, b0, _, [], rfl, hN, D1, HIN, ⟨fun _ => by show ((0 : Nat) : Int) ≤ _; have := HIN.out.1; omega⟩, HR⟩
  case round =>
    clear D1 HIN HR hN
    obtain ⟨n, a, b, vA, adds, rfl, hn, DD, HA, HL, HR⟩ := hrel
    have t2 := blk_cell DD.out.tk 2
    cases n with
    | zero =>
      have hR : RR = (adds, a, b) := HR.out.symm
      obtain ⟨T0, hT0⟩ : ∃ T, tnum s a b = T := ⟨_, rfl⟩
      have hin := tnum_in (s := s) (b := b) HA.out
      have hdec : dece s = de2 s adds (tnum s a b) := by rw [HDEC.out, hR]; rfl
      have HNN := Aside0.mk (DD.out.num HS.out HA.out hT0)
      rw [hT0] at hin hdec
      obtain ⟨n0, a0, b0⟩ := T0
      obtain ⟨M, rfl⟩ : ∃ M : Nat, n0 = (M : Int) := ⟨n0.toNat, by have := hin.1; simp only at this; omega⟩
      have hdec : dece s = de3 s adds (nloop s M a0 b0 []) := by rw [hdec]; unfold de2; rw [show ((M : Int), a0, b0).1.toNat = M from Int.toNat_natCast M]
      have hM : M ≤ 72057594037927935 := by have := hin.2.1; simp only at this; omega
      have HIN := Aside0.mk (show 0 ≤ a0 ∧ a0 ≤ (s.size : Int) from hin.2.2)
      clear hR HR HDEC
      generalize hR : nloop s M a0 b0 [] = RD at hdec
      have HDEC := Aside0.mk hdec
      have HR := Aside0.mk hR
      clear hdec hR hin hT0
      go_wp2_with fail
      refine HNN.out.mono ?_
      rintro e' w2 ⟨rfl, hd⟩
      have D2 := Aside0.mk hd
      clear hd HNN DD HA t2 HL
      go_wp2
      go_loopw [7] (fun v7 wr => ∃ (n : Nat) (a : Int) (b : Bool) (vD : Value) (dels : List Int), v7 = .int .i64 (n : Int) ∧ n ≤ 72057594037927935 ∧ Aside0 (DE w wr g e w.heap.size s a b vA vD 0 0 0 adds dels) ∧ Aside0 (0 ≤ a ∧ a ≤ (s.size : Int)) ∧ Aside0 (b = false → (dels.length : Int) ≤ a) ∧ Aside0 (nloop s n a b dels = RD)) (fun v7 _ => (intOf v7).toNat)
      case atStart => exact ⟨M, a0, b0, _, [], rfl, hM, D2, HIN, ⟨fun _ => by show ((0 : Nat) : Int) ≤ _; have := HIN.out.1; omega⟩, HR⟩
      case round =>
        clear D2 HIN HR hM
        obtain ⟨n, a, b, vD, dels, rfl, hn, DD, HA, HL, HR⟩ := hrel
        have t2 := blk_cell DD.out.tk 2
        cases n with
        | zero =>
          have hR : RD = (dels, a, b) := HR.out.symm
          clear HL
          obtain ⟨T1, hT1⟩ : ∃ T, tnum s a b = T := ⟨_, rfl⟩
          obtain ⟨T2, hT2⟩ : ∃ T, tnum s T1.2.1 T1.2.2 = T := ⟨_, rfl⟩
          obtain ⟨T3, hT3⟩ : ∃ T, tnum s T2.2.1 T2.2.2 = T := ⟨_, rfl⟩
          have hd : dece s = finE s adds dels T1.1 T2.1 T3.1 T3.2.2 := by
            rw [HDEC.out, hR]
            unfold de3
            rw [show tnum s (dels, a, b).2.1 (dels, a, b).2.2 = T1 from hT1]
            unfold de4
            rw [hT2]
            unfold de5
            rw [hT3]
            rfl
          have A1 := Aside0.mk (show 0 ≤ T1.2.1 ∧ T1.2.1 ≤ (s.size : Int) from hT1 ▸ (tnum_in HA.out).2.2)
          have A2 := Aside0.mk (show 0 ≤ T2.2.1 ∧ T2.2.1 ≤ (s.size : Int) from hT2 ▸ (tnum_in A1.out).2.2)
          have H1 := Aside0.mk hT1
          have H2 := Aside0.mk hT2
          have H3 := Aside0.mk hT3
          clear hT1 hT2 hT3 hR HR
          go_wp2_with fail
          refine (DD.out.num HS.out HA.out H1.out).mono ?_
          rintro e' w2 ⟨rfl, hdd⟩
          have D1 := Aside0.mk hdd
          clear hdd t2 DD
          go_wp2_with fail
          refine (D1.out.num HS.out A1.out H2.out).mono ?_
          rintro e' w3 ⟨rfl, hdd⟩
          have D2 := Aside0.mk hdd
          clear hdd D1
          go_wp2_with fail
          refine (D2.out.num HS.out A2.out H3.out).mono ?_
          rintro e' w4 ⟨rfl, hdd⟩
          have D3 := Aside0.mk hdd
          clear hdd D2
          have D5 := Aside0.mk (((D3.out.set2 T1.1).set3 T2.1).set4 T3.1)
          obtain ⟨A0, c0, rfl, hc0, hC0⟩ := Kd.R_reads D5.out.rA
          obtain ⟨A1', c1, rfl, hc1, hC1⟩ := Kd.R_reads D5.out.rD
          have HEN := Aside0.mk (encEdit_call A0 c0 adds A1' c1 dels T1.1 T2.1 T3.1 _ hC0 hc0 hC1 hc1)
          have z0 := D3.out.c0
          have z1 := D3.out.c1
          have z2 := D3.out.c2
          have z3 := D3.out.c3
          have z4 := D3.out.c4
          have f2 := blk_frozen D3.out.eb 2
          have f3 := blk_frozen D3.out.eb 3
          have f4 := blk_frozen D3.out.eb 4
          have y0 : w4.cell? ⟨w.heap.size, 0, none⟩ = some (.slice none 0 0) := (blk_cell D3.out.rb 0).trans rfl
          have y1 : w4.cell? ⟨w.heap.size, 1, none⟩ = some (.slice none 0 0) := (blk_cell D3.out.rb 1).trans rfl
          have y2 : w4.cell? ⟨w.heap.size, 2, none⟩ = some (.int .i64 0) := (blk_cell D3.out.rb 2).trans rfl
          have y3 : w4.cell? ⟨w.heap.size, 3, none⟩ = some (.int .i64 0) := (blk_cell D3.out.rb 3).trans rfl
          have y4 : w4.cell? ⟨w.heap.size, 4, none⟩ = some (.int .i64 0) := (blk_cell D3.out.rb 4).trans rfl
          have m0 := blk_frozen D3.out.rb 0
          have m1 := blk_frozen D3.out.rb 1
          have m2 := blk_frozen D3.out.rb 2
          have m3 := blk_frozen D3.out.rb 3
          have m4 := blk_frozen D3.out.rb 4
          have tb : w4.cell? ⟨g, 2, none⟩ = some (.bool T3.2.2) := (blk_cell D3.out.tk 2).trans rfl
          have ne1 : e ≠ g := D3.out.n1
          have ne2 : g ≠ e := D3.out.n1.symm
          have ne3 : e ≠ w.heap.size := D3.out.n3
          have ne4 : w.heap.size ≠ e := D3.out.n3.symm
          clear hC0 hC1
          unfold finE at hd
          cases hb3 : T3.2.2 with
          | true =>
            rw [if_pos hb3] at hd
            rw [hb3] at tb
            have HD := Aside0.mk hd
            clear hd hb3
            go_wp2
            refine bodyPost_ret (results_ct rfl _ _ w.heap.size 43 #[.slice none 0 0, .slice none 0 0, .int .i64 0, .int .i64 0, .int .i64 0] (0, 0) _ rfl (put5 D5.out.rb _ _ _ _ _) Try.underlying43 rfl (by kernel_rfl)) rfl ?_
            rw [HD.out]
            exact ⟨_, _, rfl, Kd.R_nil _ _ _ _ _, Kd.R_nil _ _ _ _ _, below_set (below_set (below_set (below_set (below_set D5.out.bel (Nat.le_refl _)) (Nat.le_refl _)) (Nat.le_refl _)) (Nat.le_refl _)) (Nat.le_refl _)⟩
          | false =>
            rw [if_neg (by rw [hb3]; simp)] at hd
            rw [hb3] at tb
            by_cases hs0 : s.size = 0
            · have hE : s.toList.isEmpty = true := empty_list hs0
              rw [if_pos hs0] at hd
              have HD := Aside0.mk hd
              clear hd hb3
              go_wp2
              refine bodyPost_ret (results_ct rfl _ _ w.heap.size 43 #[.slice none 0 0, .slice none 0 0, .int .i64 0, .int .i64 0, .int .i64 0] (0, 0) _ rfl (put5 D5.out.rb _ _ _ _ _) Try.underlying43 rfl (by kernel_rfl)) rfl ?_
              rw [HD.out]
              exact ⟨_, _, rfl, Kd.R_nil _ _ _ _ _, Kd.R_nil _ _ _ _ _, below_set (below_set (below_set (below_set (below_set D5.out.bel (Nat.le_refl _)) (Nat.le_refl _)) (Nat.le_refl _)) (Nat.le_refl _)) (Nat.le_refl _)⟩
            · have hE : s.toList.isEmpty = false := nonempty_list hs0
              rw [if_neg hs0] at hd
              have HD := Aside0.mk hd
              clear hd hb3
              go_wp2_with fail
              refine HEN.out.mono ?_
              rintro e' w8 ⟨rfl, hb⟩
              have D8 := Aside0.mk (D5.out.below hb)
              clear hb D3 D5 z0 z1 z2 z3 z4 y0 y1 y2 y3 y4 f2 f3 f4 m0 m1 m2 m3 m4 tb HEN
              have z0 := D8.out.c0
              have z1 := D8.out.c1
              have z2 := D8.out.c2
              have z3 := D8.out.c3
              have z4 := D8.out.c4
              have y0 : w8.cell? ⟨w.heap.size, 0, none⟩ = some (.slice none 0 0) := (blk_cell D8.out.rb 0).trans rfl
              have y1 : w8.cell? ⟨w.heap.size, 1, none⟩ = some (.slice none 0 0) := (blk_cell D8.out.rb 1).trans rfl
              have y2 : w8.cell? ⟨w.heap.size, 2, none⟩ = some (.int .i64 0) := (blk_cell D8.out.rb 2).trans rfl
              have y3 : w8.cell? ⟨w.heap.size, 3, none⟩ = some (.int .i64 0) := (blk_cell D8.out.rb 3).trans rfl
              have y4 : w8.cell? ⟨w.heap.size, 4, none⟩ = some (.int .i64 0) := (blk_cell D8.out.rb 4).trans rfl
              have m0 := blk_frozen D8.out.rb 0
              have m1 := blk_frozen D8.out.rb 1
              have m2 := blk_frozen D8.out.rb 2
              have m3 := blk_frozen D8.out.rb 3
              have m4 := blk_frozen D8.out.rb 4
              go_wp2
              · rename_i hq
                refine bodyPost_ret (results_ct rfl _ _ w.heap.size 43 #[.slice none 0 0, .slice none 0 0, .int .i64 0, .int .i64 0, .int .i64 0] (0, 0) _ rfl (put5 D8.out.rb _ _ _ _ _) Try.underlying43 rfl (by kernel_rfl)) rfl ?_
                rw [HD.out, if_neg (ne_list hq)]
                exact ⟨_, _, rfl, Kd.R_nil _ _ _ _ _, Kd.R_nil _ _ _ _ _, below_set (below_set (below_set (below_set (below_set D8.out.bel (Nat.le_refl _)) (Nat.le_refl _)) (Nat.le_refl _)) (Nat.le_refl _)) (Nat.le_refl _)⟩
              · rename_i hq
                refine bodyPost_ret (results_ct rfl _ _ w.heap.size 43 #[.slice A0 adds.length c0, .slice A1' dels.length c1, .int .i64 T1.1, .int .i64 T2.1, .int .i64 T3.1] (0, 0) _ rfl (put5 D8.out.rb _ _ _ _ _) Try.underlying43 rfl (by kernel_rfl)) rfl ?_
                rw [HD.out, if_pos (eq_list hq)]
                refine ⟨_, _, rfl, ?_, ?_, below_set (below_set (below_set (below_set (below_set D8.out.bel (Nat.le_refl _)) (Nat.le_refl _)) (Nat.le_refl _)) (Nat.le_refl _)) (Nat.le_refl _)⟩
                · have := Kd.R_types D8.out.rA D8.out.rb (by decide)
                  exact Kd.R_mono (Kd.R_far (Kd.R_far (Kd.R_far (Kd.R_far (Kd.R_far this (p := ⟨w.heap.size, 0, none⟩) (fun _ x => x.2) _) (p := ⟨w.heap.size, 1, none⟩) (fun _ x => x.2) _) (p := ⟨w.heap.size, 2, none⟩) (fun _ x => x.2) _) (p := ⟨w.heap.size, 3, none⟩) (fun _ x => x.2) _) (p := ⟨w.heap.size, 4, none⟩) (fun _ x => x.2) _) (fun _ _ => trivial)
                · have := Kd.R_types D8.out.rD D8.out.rb (by decide)
                  exact Kd.R_mono (Kd.R_far (Kd.R_far (Kd.R_far (Kd.R_far (Kd.R_far this (p := ⟨w.heap.size, 0, none⟩) (fun _ x => x.2) _) (p := ⟨w.heap.size, 1, none⟩) (fun _ x => x.2) _) (p := ⟨w.heap.size, 2, none⟩) (fun _ x => x.2) _) (p := ⟨w.heap.size, 3, none⟩) (fun _ x => x.2) _) (p := ⟨w.heap.size, 4, none⟩) (fun _ x => x.2) _) (fun _ _ => trivial)
        | succ n =>
          have hpos : decide ((0 : Int) < ((n + 1 : Nat) : Int)) = true := decide_eq_true (by omega)
          cases hbb : b with
          | true =>
            have hR : RD = (dels, a, b) := by have h := HR.out; unfold nloop at h; rw [if_pos hbb] at h; exact h.symm
            rw [hbb] at t2
            clear HL
            obtain ⟨T1, hT1⟩ : ∃ T, tnum s a b = T := ⟨_, rfl⟩
            obtain ⟨T2, hT2⟩ : ∃ T, tnum s T1.2.1 T1.2.2 = T := ⟨_, rfl⟩
            obtain ⟨T3, hT3⟩ : ∃ T, tnum s T2.2.1 T2.2.2 = T := ⟨_, rfl⟩
            have hd : dece s = finE s adds dels T1.1 T2.1 T3.1 T3.2.2 := by
              rw [HDEC.out, hR]
              unfold de3
              rw [show tnum s (dels, a, b).2.1 (dels, a, b).2.2 = T1 from hT1]
              unfold de4
              rw [hT2]
              unfold de5
              rw [hT3]
              rfl
            have A1 := Aside0.mk (show 0 ≤ T1.2.1 ∧ T1.2.1 ≤ (s.size : Int) from hT1 ▸ (tnum_in HA.out).2.2)
            have A2 := Aside0.mk (show 0 ≤ T2.2.1 ∧ T2.2.1 ≤ (s.size : Int) from hT2 ▸ (tnum_in A1.out).2.2)
            have H1 := Aside0.mk hT1
            have H2 := Aside0.mk hT2
            have H3 := Aside0.mk hT3
            clear hT1 hT2 hT3 hR HR
            go_wp2_with fail
            refine (DD.out.num HS.out HA.out H1.out).mono ?_
            rintro e' w2 ⟨rfl, hdd⟩
            have D1 := Aside0.mk hdd
            clear hdd t2 DD
            go_wp2_with fail
            refine (D1.out.num HS.out A1.out H2.out).mono ?_
            rintro e' w3 ⟨rfl, hdd⟩
            have D2 := Aside0.mk hdd
            clear hdd D1
            go_wp2_with fail
            refine (D2.out.num HS.out A2.out H3.out).mono ?_
            rintro e' w4 ⟨rfl, hdd⟩
            have D3 := Aside0.mk hdd
            clear hdd D2
            have D5 := Aside0.mk (((D3.out.set2 T1.1).set3 T2.1).set4 T3.1)
            obtain ⟨A0, c0, rfl, hc0, hC0⟩ := Kd.R_reads D5.out.rA
            obtain ⟨A1', c1, rfl, hc1, hC1⟩ := Kd.R_reads D5.out.rD
            have HEN := Aside0.mk (encEdit_call A0 c0 adds A1' c1 dels T1.1 T2.1 T3.1 _ hC0 hc0 hC1 hc1)
            have z0 := D3.out.c0
            have z1 := D3.out.c1
            have z2 := D3.out.c2
            have z3 := D3.out.c3
            have z4 := D3.out.c4
            have f2 := blk_frozen D3.out.eb 2
            have f3 := blk_frozen D3.out.eb 3
            have f4 := blk_frozen D3.out.eb 4
            have y0 : w4.cell? ⟨w.heap.size, 0, none⟩ = some (.slice none 0 0) := (blk_cell D3.out.rb 0).trans rfl
            have y1 : w4.cell? ⟨w.heap.size, 1, none⟩ = some (.slice none 0 0) := (blk_cell D3.out.rb 1).trans rfl
            have y2 : w4.cell? ⟨w.heap.size, 2, none⟩ = some (.int .i64 0) := (blk_cell D3.out.rb 2).trans rfl
            have y3 : w4.cell? ⟨w.heap.size, 3, none⟩ = some (.int .i64 0) := (blk_cell D3.out.rb 3).trans rfl
            have y4 : w4.cell? ⟨w.heap.size, 4, none⟩ = some (.int .i64 0) := (blk_cell D3.out.rb 4).trans rfl
            have m0 := blk_frozen D3.out.rb 0
            have m1 := blk_frozen D3.out.rb 1
            have m2 := blk_frozen D3.out.rb 2
            have m3 := blk_frozen D3.out.rb 3
            have m4 := blk_frozen D3.out.rb 4
            have tb : w4.cell? ⟨g, 2, none⟩ = some (.bool T3.2.2) := (blk_cell D3.out.tk 2).trans rfl
            have ne1 : e ≠ g := D3.out.n1
            have ne2 : g ≠ e := D3.out.n1.symm
            have ne3 : e ≠ w.heap.size := D3.out.n3
            have ne4 : w.heap.size ≠ e := D3.out.n3.symm
            clear hC0 hC1
            unfold finE at hd
            cases hb3 : T3.2.2 with
            | true =>
              rw [if_pos hb3] at hd
              rw [hb3] at tb
              have HD := Aside0.mk hd
              clear hd hb3
              go_wp2
              refine bodyPost_ret (results_ct rfl _ _ w.heap.size 43 #[.slice none 0 0, .slice none 0 0, .int .i64 0, .int .i64 0, .int .i64 0] (0, 0) _ rfl (put5 D5.out.rb _ _ _ _ _) Try.underlying43 rfl (by kernel_rfl)) rfl ?_
              rw [HD.out]
              exact ⟨_, _, rfl, Kd.R_nil _ _ _ _ _, Kd.R_nil _ _ _ _ _, below_set (below_set (below_set (below_set (below_set D5.out.bel (Nat.le_refl _)) (Nat.le_refl _)) (Nat.le_refl _)) (Nat.le_refl _)) (Nat.le_refl _)⟩
            | false =>
              rw [if_neg (by rw [hb3]; simp)] at hd
              rw [hb3] at tb
              by_cases hs0 : s.size = 0
              · have hE : s.toList.isEmpty = true := empty_list hs0
                rw [if_pos hs0] at hd
                have HD := Aside0.mk hd
                clear hd hb3
                go_wp2
                refine bodyPost_ret (results_ct rfl _ _ w.heap.size 43 #[.slice none 0 0, .slice none 0 0, .int .i64 0, .int .i64 0, .int .i64 0] (0, 0) _ rfl (put5 D5.out.rb _ _ _ _ _) Try.underlying43 rfl (by kernel_rfl)) rfl ?_
                rw [HD.out]
                exact ⟨_, _, rfl, Kd.R_nil _ _ _ _ _, Kd.R_nil _ _ _ _ _, below_set (below_set (below_set (below_set (below_set D5.out.bel (Nat.le_refl _)) (Nat.le_refl _)) (Nat.le_refl _)) (Nat.le_refl _)) (Nat.le_refl _)⟩
              · have hE : s.toList.isEmpty = false := nonempty_list hs0
                rw [if_neg hs0] at hd
                have HD := Aside0.mk hd
                clear hd hb3
                go_wp2_with fail
                refine HEN.out.mono ?_
                rintro e' w8 ⟨rfl, hb⟩
                have D8 := Aside0.mk (D5.out.below hb)
                clear hb D3 D5 z0 z1 z2 z3 z4 y0 y1 y2 y3 y4 f2 f3 f4 m0 m1 m2 m3 m4 tb HEN
                have z0 := D8.out.c0
                have z1 := D8.out.c1
                have z2 := D8.out.c2
                have z3 := D8.out.c3
                have z4 := D8.out.c4
                have y0 : w8.cell? ⟨w.heap.size, 0, none⟩ = some (.slice none 0 0) := (blk_cell D8.out.rb 0).trans rfl
                have y1 : w8.cell? ⟨w.heap.size, 1, none⟩ = some (.slice none 0 0) := (blk_cell D8.out.rb 1).trans rfl
                have y2 : w8.cell? ⟨w.heap.size, 2, none⟩ = some (.int .i64 0) := (blk_cell D8.out.rb 2).trans rfl
                have y3 : w8.cell? ⟨w.heap.size, 3, none⟩ = some (.int .i64 0) := (blk_cell D8.out.rb 3).trans rfl
                have y4 : w8.cell? ⟨w.heap.size, 4, none⟩ = some (.int .i64 0) := (blk_cell D8.out.rb 4).trans rfl
                have m0 := blk_frozen D8.out.rb 0
                have m1 := blk_frozen D8.out.rb 1
                have m2 := blk_frozen D8.out.rb 2
                have m3 := blk_frozen D8.out.rb 3
                have m4 := blk_frozen D8.out.rb 4
                go_wp2
                · rename_i hq
                  refine bodyPost_ret (results_ct rfl _ _ w.heap.size 43 #[.slice none 0 0, .slice none 0 0, .int .i64 0, .int .i64 0, .int .i64 0] (0, 0) _ rfl (put5 D8.out.rb _ _ _ _ _) Try.underlying43 rfl (by kernel_rfl)) rfl ?_
                  rw [HD.out, if_neg (ne_list hq)]
                  exact ⟨_, _, rfl, Kd.R_nil _ _ _ _ _, Kd.R_nil _ _ _ _ _, below_set (below_set (below_set (below_set (below_set D8.out.bel (Nat.le_refl _)) (Nat.le_refl _)) (Nat.le_refl _)) (Nat.le_refl _)) (Nat.le_refl _)⟩
                · rename_i hq
                  refine bodyPost_ret (results_ct rfl _ _ w.heap.size 43 #[.slice A0 adds.length c0, .slice A1' dels.length c1, .int .i64 T1.1, .int .i64 T2.1, .int .i64 T3.1] (0, 0) _ rfl (put5 D8.out.rb _ _ _ _ _) Try.underlying43 rfl (by kernel_rfl)) rfl ?_
                  rw [HD.out, if_pos (eq_list hq)]
                  refine ⟨_, _, rfl, ?_, ?_, below_set (below_set (below_set (below_set (below_set D8.out.bel (Nat.le_refl _)) (Nat.le_refl _)) (Nat.le_refl _)) (Nat.le_refl _)) (Nat.le_refl _)⟩
                  · have := Kd.R_types D8.out.rA D8.out.rb (by decide)
                    exact Kd.R_mono (Kd.R_far (Kd.R_far (Kd.R_far (Kd.R_far (Kd.R_far this (p := ⟨w.heap.size, 0, none⟩) (fun _ x => x.2) _) (p := ⟨w.heap.size, 1, none⟩) (fun _ x => x.2) _) (p := ⟨w.heap.size, 2, none⟩) (fun _ x => x.2) _) (p := ⟨w.heap.size, 3, none⟩) (fun _ x => x.2) _) (p := ⟨w.heap.size, 4, none⟩) (fun _ x => x.2) _) (fun _ _ => trivial)
                  · have := Kd.R_types D8.out.rD D8.out.rb (by decide)
                    exact Kd.R_mono (Kd.R_far (Kd.R_far (Kd.R_far (Kd.R_far (Kd.R_far this (p := ⟨w.heap.size, 0, none⟩) (fun _ x => x.2) _) (p := ⟨w.heap.size, 1, none⟩) (fun _ x => x.2) _) (p := ⟨w.heap.size, 2, none⟩) (fun _ x => x.2) _) (p := ⟨w.heap.size, 3, none⟩) (fun _ x => x.2) _) (p := ⟨w.heap.size, 4, none⟩) (fun _ x => x.2) _) (fun _ _ => trivial)
          | false =>
            subst hbb
            obtain ⟨T1, hT1⟩ : ∃ T, tnum s a false = T := ⟨_, rfl⟩
            have A1 := Aside0.mk (show 0 ≤ T1.2.1 ∧ T1.2.1 ≤ (s.size : Int) from hT1 ▸ (tnum_in HA.out).2.2)
            have HNX := Aside0.mk (show nloop s n T1.2.1 T1.2.2 (dels ++ [T1.1]) = RD from by have h := HR.out; unfold nloop at h; rw [if_neg (by simp), hT1] at h; exact h)
            have HL1 := Aside0.mk (show T1.2.2 = false → ((dels ++ [T1.1]).length : Int) ≤ T1.2.1 from fun h => by
              have h1 := tnum_adv (s := s) (a := a) (b := false) (by rw [hT1]; exact h)
              rw [hT1] at h1
              have h2 := HL.out rfl
              rw [List.length_append, List.length_singleton]
              omega)
            have LL := Aside0.mk (show (dels.length + 1) * 8 ≤ 140737488355328 from by have := HL.out rfl; have := HA.out.2; have := HS.out; omega)
            have H1 := Aside0.mk hT1
            have A0 := HA
            clear hT1 HL HR
            go_upto_region 10 with fail
            clear t2
            have BD := Aside0.mk (below_drew (Below.refl wr.heap.size wr))
            refine start_ (n := 8) (S := fun w' => w'.cell? ⟨e, 1, none⟩ = some vD) (ds := [7]) #[false, false, false, false, false, false, false, false] (by kernel_rfl) rfl rfl ((DD.out.below BD.out).c1) (fun hHeld => ?_)
            have DW := Aside0.mk (DD.out.below BD.out)
            clear DD BD
            generalize wr.drew = wd at DW hHeld ⊢
            refine pure_ (i := 0) (N := some 52) (v := ?_) (a' := ?_) #[true, false, false, false, false, false, false, false] rfl rfl (by kernel_rfl) (fun _ _ _ h => h) (Or.inl ⟨by rfl, ?_⟩) ?_ ?_
            rotate_left
            · intro w'
              go_simp
              with_reducible rfl
            rotate_left
            · simp only [Act.put, List.setIfInBounds_toArray, List.set_cons_zero, List.set_cons_succ, i64_w, i32_w]
              rfl
            refine pure_ (i := 2) (N := some 54) (v := ?_) (a' := ?_) #[true, false, true, false, false, false, false, false] rfl rfl (by kernel_rfl) (fun _ _ _ h => h) (Or.inl ⟨by rfl, ?_⟩) ?_ ?_
            rotate_left
            · intro w'
              go_simp
              with_reducible rfl
            rotate_left
            · simp only [Act.put, List.setIfInBounds_toArray, List.set_cons_zero, List.set_cons_succ, i64_w, i32_w]
              rfl
            refine take_ (i := 1) (N := some 53) (v := ?_) (a' := ?_) #[true, true, true, false, false, false, false, false] rfl rfl (by kernel_rfl) (fun _ _ _ h => h) (Or.inl ⟨by rfl, ?_⟩) hHeld ?_ ?_
            rotate_left
            · intro w' s0
              go_simp
              with_reducible rfl
            rotate_left
            · simp only [Act.put, List.setIfInBounds_toArray, List.set_cons_zero, List.set_cons_succ, i64_w, i32_w]
              rfl
            refine one_ (i := 3) (N := some 55) #[true, true, true, true, false, false, false, false] rfl rfl (by kernel_rfl) (by decide) (fun K hK => ?_)
            refine goes_ Try.func60 (by kernel_rfl) rfl #[.pointer (some ⟨g, 0, none⟩)] (by rfl) rfl rfl (by simp only [List.map_toArray, List.map_cons, List.map_nil]; rfl) ?_
            with_reducible refine (DW.out.num HS.out A0.out H1.out).mono ?_
            rintro e' w2 ⟨rfl, hd⟩
            refine ⟨_, rfl, ?_⟩
            have D4 := Aside0.mk hd
            clear hd DW
            refine hK.out _ _ (D4.out.c1) (fun hHeld => ?_)
            clear hK K
            refine norm_ (a' := ?_) ?_ ?_
            rotate_left
            · show Act.put _ (some 55) _ = _
              simp only [Act.put, List.setIfInBounds_toArray, List.set_cons_zero, List.set_cons_succ, i64_w, i32_w]
              rfl
            refine one_ (i := 4) (N := some 56) #[true, true, true, true, true, false, false, false] rfl rfl (by kernel_rfl) (by decide) (fun K hK => ?_)
            refine value_ (w1 := ?_) (v := ?_) (by rfl) rfl ?_ ?_
            rotate_left 2
            · go_simp
              constructor
              · rfl
              · rfl
            refine hK.out _ _ ((D4.out.below ((Below.refl _ _).alloc (Nat.le_refl _) _)).c1) (fun hHeld => ?_)
            clear hK K
            refine norm_ (a' := ?_) ?_ ?_
            rotate_left
            · show Act.put _ (some 56) _ = _
              simp only [Act.put, List.setIfInBounds_toArray, List.set_cons_zero, List.set_cons_succ, i64_w, i32_w]
              rfl
            refine one_ (i := 5) (N := some 57) #[true, true, true, true, true, true, false, false] rfl rfl (by kernel_rfl) (by decide) (fun K hK => ?_)
            refine Kd.R_append_step (Kd.int .i64) (w0 := w) w.heap.size (by rfl) (.tmp 53) (.tmp 56) 36 3 (.int .i64 0) 8 rfl Try.underlying36 info3 rfl (by decide) (by omega) vD dels T1.1 [.int .i64 T1.1] (fun _ => True) (fun _ => False) rfl (by first | (go_simp; done) | (go_simp; rfl)) rfl (fun _ hk => hk.elim) (fun k hk => trivial) D4.out.rD D4.out.bel (below_size D4.out.bel) LL.out ?_
            intro v1 w7 ho hb hgr hat
            have D5 := Aside0.mk (D4.out.grewD ho hb hgr)
            have C5 := Aside0.mk (show w7.heap[e]? = some (.cells #[vA, vD, .int .i64 0, .int .i64 0, .int .i64 0] 43 (0, 0)) from (hgr.block e (blk_lt D4.out.eb) (own_ne D4.out.rD D4.out.eb (by decide))).trans D4.out.eb)
            obtain ⟨AX, cX, hv1⟩ := Kd.R_slice ho
            rw [List.length_append, List.length_singleton] at hv1
            subst hv1
            have q0 : w7.cell? ⟨e, 1, none⟩ = some vD := (blk_cell C5.out 1).trans rfl
            have qf := blk_frozen C5.out 1
            clear ho hb hgr hat D4 C5
            refine hK.out _ _ (q0) (fun hHeld => ?_)
            clear hK K
            refine norm_ (a' := ?_) ?_ ?_
            rotate_left
            · show Act.put _ (some 57) _ = _
              simp only [Act.put, List.setIfInBounds_toArray, List.set_cons_zero, List.set_cons_succ, i64_w, i32_w]
              rfl
            refine pure_ (i := 6) (N := some 58) (v := ?_) (a' := ?_) #[true, true, true, true, true, true, true, false] rfl rfl (by kernel_rfl) (fun _ _ _ h => h) (Or.inl ⟨by rfl, ?_⟩) ?_ ?_
            rotate_left
            · intro w'
              go_simp
              with_reducible rfl
            rotate_left
            · simp only [Act.put, List.setIfInBounds_toArray, List.set_cons_zero, List.set_cons_succ, i64_w, i32_w]
              rfl
            refine last_ (i := 7) (N := none) #[true, true, true, true, true, true, true, true] rfl rfl (by kernel_rfl) (by decide) (fun K hK => ?_)
            refine skip_ (w1 := ?_) (by rfl) rfl ?_ ?_
            rotate_left
            · go_simp
              rfl
            refine hK.out _ _ ?_
            clear hK K
            refine done_ (by kernel_rfl) ?_

            go_wp2
            go_roundw
            case rel => exact ⟨n, T1.2.1, T1.2.2, _, dels ++ [T1.1], by go_num, by omega, D5, A1, HL1, HNX⟩
            case measure => simp [intOf]

    | succ n =>
      have hpos : decide ((0 : Int) < ((n + 1 : Nat) : Int)) = true := decide_eq_true (by omega)
      cases hbb : b with
      | true =>
        have hR : RR = (adds, a, b) := by have h := HR.out; unfold aloop at h; rw [if_pos hbb] at h; exact h.symm
        rw [hbb] at t2
        obtain ⟨T0, hT0⟩ : ∃ T, tnum s a b = T := ⟨_, rfl⟩
        have hin := tnum_in (s := s) (b := b) HA.out
        have hdec : dece s = de2 s adds (tnum s a b) := by rw [HDEC.out, hR]; rfl
        have HNN := Aside0.mk (DD.out.num HS.out HA.out hT0)
        rw [hT0] at hin hdec
        obtain ⟨n0, a0, b0⟩ := T0
        obtain ⟨M, rfl⟩ : ∃ M : Nat, n0 = (M : Int) := ⟨n0.toNat, by have := hin.1; simp only at this; omega⟩
        have hdec : dece s = de3 s adds (nloop s M a0 b0 []) := by rw [hdec]; unfold de2; rw [show ((M : Int), a0, b0).1.toNat = M from Int.toNat_natCast M]
        have hM : M ≤ 72057594037927935 := by have := hin.2.1; simp only at this; omega
        have HIN := Aside0.mk (show 0 ≤ a0 ∧ a0 ≤ (s.size : Int) from hin.2.2)
        clear hR HR HDEC
        generalize hR : nloop s M a0 b0 [] = RD at hdec
        have HDEC := Aside0.mk hdec
        have HR := Aside0.mk hR
        clear hdec hR hin hT0
        go_wp2_with fail
        refine HNN.out.mono ?_
        rintro e' w2 ⟨rfl, hd⟩
        have D2 := Aside0.mk hd
        clear hd HNN DD HA t2 HL
        go_wp2
        go_loopw [7] (fun v7 wr => ∃ (n : Nat) (a : Int) (b : Bool) (vD : Value) (dels : List Int), v7 = .int .i64 (n : Int) ∧ n ≤ 72057594037927935 ∧ Aside0 (DE w wr g e w.heap.size s a b vA vD 0 0 0 adds dels) ∧ Aside0 (0 ≤ a ∧ a ≤ (s.size : Int)) ∧ Aside0 (b = false → (dels.length : Int) ≤ a) ∧ Aside0 (nloop s n a b dels = RD)) (fun v7 _ => (intOf v7).toNat)
        case atStart => exact ⟨M, a0, b0, _, [], rfl, hM, D2, HIN, ⟨fun _ => by show ((0 : Nat) : Int) ≤ _; have := HIN.out.1; omega⟩, HR⟩
        case round =>
          clear D2 HIN HR hM
          obtain ⟨n, a, b, vD, dels, rfl, hn, DD, HA, HL, HR⟩ := hrel
          have t2 := blk_cell DD.out.tk 2
          cases n with
          | zero =>
            have hR : RD = (dels, a, b) := HR.out.symm
            clear HL
            obtain ⟨T1, hT1⟩ : ∃ T, tnum s a b = T := ⟨_, rfl⟩
            obtain ⟨T2, hT2⟩ : ∃ T, tnum s T1.2.1 T1.2.2 = T := ⟨_, rfl⟩
            obtain ⟨T3, hT3⟩ : ∃ T, tnum s T2.2.1 T2.2.2 = T := ⟨_, rfl⟩
            have hd : dece s = finE s adds dels T1.1 T2.1 T3.1 T3.2.2 := by
              rw [HDEC.out, hR]
              unfold de3
              rw [show tnum s (dels, a, b).2.1 (dels, a, b).2.2 = T1 from hT1]
              unfold de4
              rw [hT2]
              unfold de5
              rw [hT3]
              rfl
            have A1 := Aside0.mk (show 0 ≤ T1.2.1 ∧ T1.2.1 ≤ (s.size : Int) from hT1 ▸ (tnum_in HA.out).2.2)
            have A2 := Aside0.mk (show 0 ≤ T2.2.1 ∧ T2.2.1 ≤ (s.size : Int) from hT2 ▸ (tnum_in A1.out).2.2)
            have H1 := Aside0.mk hT1
            have H2 := Aside0.mk hT2
            have H3 := Aside0.mk hT3
            clear hT1 hT2 hT3 hR HR
            go_wp2_with fail
            refine (DD.out.num HS.out HA.out H1.out).mono ?_
            rintro e' w2 ⟨rfl, hdd⟩
            have D1 := Aside0.mk hdd
            clear hdd t2 DD
            go_wp2_with fail
            refine (D1.out.num HS.out A1.out H2.out).mono ?_
            rintro e' w3 ⟨rfl, hdd⟩
            have D2 := Aside0.mk hdd
            clear hdd D1
            go_wp2_with fail
            refine (D2.out.num HS.out A2.out H3.out).mono ?_
            rintro e' w4 ⟨rfl, hdd⟩
            have D3 := Aside0.mk hdd
            clear hdd D2
            have D5 := Aside0.mk (((D3.out.set2 T1.1).set3 T2.1).set4 T3.1)
            obtain ⟨A0, c0, rfl, hc0, hC0⟩ := Kd.R_reads D5.out.rA
            obtain ⟨A1', c1, rfl, hc1, hC1⟩ := Kd.R_reads D5.out.rD
            have HEN := Aside0.mk (encEdit_call A0 c0 adds A1' c1 dels T1.1 T2.1 T3.1 _ hC0 hc0 hC1 hc1)
            have z0 := D3.out.c0
            have z1 := D3.out.c1
            have z2 := D3.out.c2
            have z3 := D3.out.c3
            have z4 := D3.out.c4
            have f2 := blk_frozen D3.out.eb 2
            have f3 := blk_frozen D3.out.eb 3
            have f4 := blk_frozen D3.out.eb 4
            have y0 : w4.cell? ⟨w.heap.size, 0, none⟩ = some (.slice none 0 0) := (blk_cell D3.out.rb 0).trans rfl
            have y1 : w4.cell? ⟨w.heap.size, 1, none⟩ = some (.slice none 0 0) := (blk_cell D3.out.rb 1).trans rfl
            have y2 : w4.cell? ⟨w.heap.size, 2, none⟩ = some (.int .i64 0) := (blk_cell D3.out.rb 2).trans rfl
            have y3 : w4.cell? ⟨w.heap.size, 3, none⟩ = some (.int .i64 0) := (blk_cell D3.out.rb 3).trans rfl
            have y4 : w4.cell? ⟨w.heap.size, 4, none⟩ = some (.int .i64 0) := (blk_cell D3.out.rb 4).trans rfl
            have m0 := blk_frozen D3.out.rb 0
            have m1 := blk_frozen D3.out.rb 1
            have m2 := blk_frozen D3.out.rb 2
            have m3 := blk_frozen D3.out.rb 3
            have m4 := blk_frozen D3.out.rb 4
            have tb : w4.cell? ⟨g, 2, none⟩ = some (.bool T3.2.2) := (blk_cell D3.out.tk 2).trans rfl
            have ne1 : e ≠ g := D3.out.n1
            have ne2 : g ≠ e := D3.out.n1.symm
            have ne3 : e ≠ w.heap.size := D3.out.n3
            have ne4 : w.heap.size ≠ e := D3.out.n3.symm
            clear hC0 hC1
            unfold finE at hd
            cases hb3 : T3.2.2 with
            | true =>
              rw [if_pos hb3] at hd
              rw [hb3] at tb
              have HD := Aside0.mk hd
              clear hd hb3
              go_wp2
              refine bodyPost_ret (results_ct rfl _ _ w.heap.size 43 #[.slice none 0 0, .slice none 0 0, .int .i64 0, .int .i64 0, .int .i64 0] (0, 0) _ rfl (put5 D5.out.rb _ _ _ _ _) Try.underlying43 rfl (by kernel_rfl)) rfl ?_
              rw [HD.out]
              exact ⟨_, _, rfl, Kd.R_nil _ _ _ _ _, Kd.R_nil _ _ _ _ _, below_set (below_set (below_set (below_set (below_set D5.out.bel (Nat.le_refl _)) (Nat.le_refl _)) (Nat.le_refl _)) (Nat.le_refl _)) (Nat.le_refl _)⟩
            | false =>
              rw [if_neg (by rw [hb3]; simp)] at hd
              rw [hb3] at tb
              by_cases hs0 : s.size = 0
              · have hE : s.toList.isEmpty = true := empty_list hs0
                rw [if_pos hs0] at hd
                have HD := Aside0.mk hd
                clear hd hb3
                go_wp2
                refine bodyPost_ret (results_ct rfl _ _ w.heap.size 43 #[.slice none 0 0, .slice none 0 0, .int .i64 0, .int .i64 0, .int .i64 0] (0, 0) _ rfl (put5 D5.out.rb _ _ _ _ _) Try.underlying43 rfl (by kernel_rfl)) rfl ?_
                rw [HD.out]
                exact ⟨_, _, rfl, Kd.R_nil _ _ _ _ _, Kd.R_nil _ _ _ _ _, below_set (below_set (below_set (below_set (below_set D5.out.bel (Nat.le_refl _)) (Nat.le_refl _)) (Nat.le_refl _)) (Nat.le_refl _)) (Nat.le_refl _)⟩
              · have hE : s.toList.isEmpty = false := nonempty_list hs0
                rw [if_neg hs0] at hd
                have HD := Aside0.mk hd
                clear hd hb3
                go_wp2_with fail
                refine HEN.out.mono ?_
                rintro e' w8 ⟨rfl, hb⟩
                have D8 := Aside0.mk (D5.out.below hb)
                clear hb D3 D5 z0 z1 z2 z3 z4 y0 y1 y2 y3 y4 f2 f3 f4 m0 m1 m2 m3 m4 tb HEN
                have z0 := D8.out.c0
                have z1 := D8.out.c1
                have z2 := D8.out.c2
                have z3 := D8.out.c3
                have z4 := D8.out.c4
                have y0 : w8.cell? ⟨w.heap.size, 0, none⟩ = some (.slice none 0 0) := (blk_cell D8.out.rb 0).trans rfl
                have y1 : w8.cell? ⟨w.heap.size, 1, none⟩ = some (.slice none 0 0) := (blk_cell D8.out.rb 1).trans rfl
                have y2 : w8.cell? ⟨w.heap.size, 2, none⟩ = some (.int .i64 0) := (blk_cell D8.out.rb 2).trans rfl
                have y3 : w8.cell? ⟨w.heap.size, 3, none⟩ = some (.int .i64 0) := (blk_cell D8.out.rb 3).trans rfl
                have y4 : w8.cell? ⟨w.heap.size, 4, none⟩ = some (.int .i64 0) := (blk_cell D8.out.rb 4).trans rfl
                have m0 := blk_frozen D8.out.rb 0
                have m1 := blk_frozen D8.out.rb 1
                have m2 := blk_frozen D8.out.rb 2
                have m3 := blk_frozen D8.out.rb 3
                have m4 := blk_frozen D8.out.rb 4
                go_wp2
                · rename_i hq
                  refine bodyPost_ret (results_ct rfl _ _ w.heap.size 43 #[.slice none 0 0, .slice none 0 0, .int .i64 0, .int .i64 0, .int .i64 0] (0, 0) _ rfl (put5 D8.out.rb _ _ _ _ _) Try.underlying43 rfl (by kernel_rfl)) rfl ?_
                  rw [HD.out, if_neg (ne_list hq)]
                  exact ⟨_, _, rfl, Kd.R_nil _ _ _ _ _, Kd.R_nil _ _ _ _ _, below_set (below_set (below_set (below_set (below_set D8.out.bel (Nat.le_refl _)) (Nat.le_refl _)) (Nat.le_refl _)) (Nat.le_refl _)) (Nat.le_refl _)⟩
                · rename_i hq
                  refine bodyPost_ret (results_ct rfl _ _ w.heap.size 43 #[.slice A0 adds.length c0, .slice A1' dels.length c1, .int .i64 T1.1, .int .i64 T2.1, .int .i64 T3.1] (0, 0) _ rfl (put5 D8.out.rb _ _ _ _ _) Try.underlying43 rfl (by kernel_rfl)) rfl ?_
                  rw [HD.out, if_pos (eq_list hq)]
                  refine ⟨_, _, rfl, ?_, ?_, below_set (below_set (below_set (below_set (below_set D8.out.bel (Nat.le_refl _)) (Nat.le_refl _)) (Nat.le_refl _)) (Nat.le_refl _)) (Nat.le_refl _)⟩
                  · have := Kd.R_types D8.out.rA D8.out.rb (by decide)
                    exact Kd.R_mono (Kd.R_far (Kd.R_far (Kd.R_far (Kd.R_far (Kd.R_far this (p := ⟨w.heap.size, 0, none⟩) (fun _ x => x.2) _) (p := ⟨w.heap.size, 1, none⟩) (fun _ x => x.2) _) (p := ⟨w.heap.size, 2, none⟩) (fun _ x => x.2) _) (p := ⟨w.heap.size, 3, none⟩) (fun _ x => x.2) _) (p := ⟨w.heap.size, 4, none⟩) (fun _ x => x.2) _) (fun _ _ => trivial)
                  · have := Kd.R_types D8.out.rD D8.out.rb (by decide)
                    exact Kd.R_mono (Kd.R_far (Kd.R_far (Kd.R_far (Kd.R_far (Kd.R_far this (p := ⟨w.heap.size, 0, none⟩) (fun _ x => x.2) _) (p := ⟨w.heap.size, 1, none⟩) (fun _ x => x.2) _) (p := ⟨w.heap.size, 2, none⟩) (fun _ x => x.2) _) (p := ⟨w.heap.size, 3, none⟩) (fun _ x => x.2) _) (p := ⟨w.heap.size, 4, none⟩) (fun _ x => x.2) _) (fun _ _ => trivial)
          | succ n =>
            have hpos : decide ((0 : Int) < ((n + 1 : Nat) : Int)) = true := decide_eq_true (by omega)
            cases hbb : b with
            | true =>
              have hR : RD = (dels, a, b) := by have h := HR.out; unfold nloop at h; rw [if_pos hbb] at h; exact h.symm
              rw [hbb] at t2
              clear HL
              obtain ⟨T1, hT1⟩ : ∃ T, tnum s a b = T := ⟨_, rfl⟩
              obtain ⟨T2, hT2⟩ : ∃ T, tnum s T1.2.1 T1.2.2 = T := ⟨_, rfl⟩
              obtain ⟨T3, hT3⟩ : ∃ T, tnum s T2.2.1 T2.2.2 = T := ⟨_, rfl⟩
              have hd : dece s = finE s adds dels T1.1 T2.1 T3.1 T3.2.2 := by
                rw [HDEC.out, hR]
                unfold de3
                rw [show tnum s (dels, a, b).2.1 (dels, a, b).2.2 = T1 from hT1]
                unfold de4
                rw [hT2]
                unfold de5
                rw [hT3]
                rfl
              have A1 := Aside0.mk (show 0 ≤ T1.2.1 ∧ T1.2.1 ≤ (s.size : Int) from hT1 ▸ (tnum_in HA.out).2.2)
              have A2 := Aside0.mk (show 0 ≤ T2.2.1 ∧ T2.2.1 ≤ (s.size : Int) from hT2 ▸ (tnum_in A1.out).2.2)
              have H1 := Aside0.mk hT1
              have H2 := Aside0.mk hT2
              have H3 := Aside0.mk hT3
              clear hT1 hT2 hT3 hR HR
              go_wp2_with fail
              refine (DD.out.num HS.out HA.out H1.out).mono ?_
              rintro e' w2 ⟨rfl, hdd⟩
              have D1 := Aside0.mk hdd
              clear hdd t2 DD
              go_wp2_with fail
              refine (D1.out.num HS.out A1.out H2.out).mono ?_
              rintro e' w3 ⟨rfl, hdd⟩
              have D2 := Aside0.mk hdd
              clear hdd D1
              go_wp2_with fail
              refine (D2.out.num HS.out A2.out H3.out).mono ?_
              rintro e' w4 ⟨rfl, hdd⟩
              have D3 := Aside0.mk hdd
              clear hdd D2
              have D5 := Aside0.mk (((D3.out.set2 T1.1).set3 T2.1).set4 T3.1)
              obtain ⟨A0, c0, rfl, hc0, hC0⟩ := Kd.R_reads D5.out.rA
              obtain ⟨A1', c1, rfl, hc1, hC1⟩ := Kd.R_reads D5.out.rD
              have HEN := Aside0.mk (encEdit_call A0 c0 adds A1' c1 dels T1.1 T2.1 T3.1 _ hC0 hc0 hC1 hc1)
              have z0 := D3.out.c0
              have z1 := D3.out.c1
              have z2 := D3.out.c2
              have z3 := D3.out.c3
              have z4 := D3.out.c4
              have f2 := blk_frozen D3.out.eb 2
              have f3 := blk_frozen D3.out.eb 3
              have f4 := blk_frozen D3.out.eb 4
              have y0 : w4.cell? ⟨w.heap.size, 0, none⟩ = some (.slice none 0 0) := (blk_cell D3.out.rb 0).trans rfl
              have y1 : w4.cell? ⟨w.heap.size, 1, none⟩ = some (.slice none 0 0) := (blk_cell D3.out.rb 1).trans rfl
              have y2 : w4.cell? ⟨w.heap.size, 2, none⟩ = some (.int .i64 0) := (blk_cell D3.out.rb 2).trans rfl
              have y3 : w4.cell? ⟨w.heap.size, 3, none⟩ = some (.int .i64 0) := (blk_cell D3.out.rb 3).trans rfl
              have y4 : w4.cell? ⟨w.heap.size, 4, none⟩ = some (.int .i64 0) := (blk_cell D3.out.rb 4).trans rfl
              have m0 := blk_frozen D3.out.rb 0
              have m1 := blk_frozen D3.out.rb 1
              have m2 := blk_frozen D3.out.rb 2
              have m3 := blk_frozen D3.out.rb 3
              have m4 := blk_frozen D3.out.rb 4
              have tb : w4.cell? ⟨g, 2, none⟩ = some (.bool T3.2.2) := (blk_cell D3.out.tk 2).trans rfl
              have ne1 : e ≠ g := D3.out.n1
              have ne2 : g ≠ e := D3.out.n1.symm
              have ne3 : e ≠ w.heap.size := D3.out.n3
              have ne4 : w.heap.size ≠ e := D3.out.n3.symm
              clear hC0 hC1
              unfold finE at hd
              cases hb3 : T3.2.2 with
              | true =>
                rw [if_pos hb3] at hd
                rw [hb3] at tb
                have HD := Aside0.mk hd
                clear hd hb3
                go_wp2
                refine bodyPost_ret (results_ct rfl _ _ w.heap.size 43 #[.slice none 0 0, .slice none 0 0, .int .i64 0, .int .i64 0, .int .i64 0] (0, 0) _ rfl (put5 D5.out.rb _ _ _ _ _) Try.underlying43 rfl (by kernel_rfl)) rfl ?_
                rw [HD.out]
                exact ⟨_, _, rfl, Kd.R_nil _ _ _ _ _, Kd.R_nil _ _ _ _ _, below_set (below_set (below_set (below_set (below_set D5.out.bel (Nat.le_refl _)) (Nat.le_refl _)) (Nat.le_refl _)) (Nat.le_refl _)) (Nat.le_refl _)⟩
              | false =>
                rw [if_neg (by rw [hb3]; simp)] at hd
                rw [hb3] at tb
                by_cases hs0 : s.size = 0
                · have hE : s.toList.isEmpty = true := empty_list hs0
                  rw [if_pos hs0] at hd
                  have HD := Aside0.mk hd
                  clear hd hb3
                  go_wp2
                  refine bodyPost_ret (results_ct rfl _ _ w.heap.size 43 #[.slice none 0 0, .slice none 0 0, .int .i64 0, .int .i64 0, .int .i64 0] (0, 0) _ rfl (put5 D5.out.rb _ _ _ _ _) Try.underlying43 rfl (by kernel_rfl)) rfl ?_
                  rw [HD.out]
                  exact ⟨_, _, rfl, Kd.R_nil _ _ _ _ _, Kd.R_nil _ _ _ _ _, below_set (below_set (below_set (below_set (below_set D5.out.bel (Nat.le_refl _)) (Nat.le_refl _)) (Nat.le_refl _)) (Nat.le_refl _)) (Nat.le_refl _)⟩
                · have hE : s.toList.isEmpty = false := nonempty_list hs0
                  rw [if_neg hs0] at hd
                  have HD := Aside0.mk hd
                  clear hd hb3
                  go_wp2_with fail
                  refine HEN.out.mono ?_
                  rintro e' w8 ⟨rfl, hb⟩
                  have D8 := Aside0.mk (D5.out.below hb)
                  clear hb D3 D5 z0 z1 z2 z3 z4 y0 y1 y2 y3 y4 f2 f3 f4 m0 m1 m2 m3 m4 tb HEN
                  have z0 := D8.out.c0
                  have z1 := D8.out.c1
                  have z2 := D8.out.c2
                  have z3 := D8.out.c3
                  have z4 := D8.out.c4
                  have y0 : w8.cell? ⟨w.heap.size, 0, none⟩ = some (.slice none 0 0) := (blk_cell D8.out.rb 0).trans rfl
                  have y1 : w8.cell? ⟨w.heap.size, 1, none⟩ = some (.slice none 0 0) := (blk_cell D8.out.rb 1).trans rfl
                  have y2 : w8.cell? ⟨w.heap.size, 2, none⟩ = some (.int .i64 0) := (blk_cell D8.out.rb 2).trans rfl
                  have y3 : w8.cell? ⟨w.heap.size, 3, none⟩ = some (.int .i64 0) := (blk_cell D8.out.rb 3).trans rfl
                  have y4 : w8.cell? ⟨w.heap.size, 4, none⟩ = some (.int .i64 0) := (blk_cell D8.out.rb 4).trans rfl
                  have m0 := blk_frozen D8.out.rb 0
                  have m1 := blk_frozen D8.out.rb 1
                  have m2 := blk_frozen D8.out.rb 2
                  have m3 := blk_frozen D8.out.rb 3
                  have m4 := blk_frozen D8.out.rb 4
                  go_wp2
                  · rename_i hq
                    refine bodyPost_ret (results_ct rfl _ _ w.heap.size 43 #[.slice none 0 0, .slice none 0 0, .int .i64 0, .int .i64 0, .int .i64 0] (0, 0) _ rfl (put5 D8.out.rb _ _ _ _ _) Try.underlying43 rfl (by kernel_rfl)) rfl ?_
                    rw [HD.out, if_neg (ne_list hq)]
                    exact ⟨_, _, rfl, Kd.R_nil _ _ _ _ _, Kd.R_nil _ _ _ _ _, below_set (below_set (below_set (below_set (below_set D8.out.bel (Nat.le_refl _)) (Nat.le_refl _)) (Nat.le_refl _)) (Nat.le_refl _)) (Nat.le_refl _)⟩
                  · rename_i hq
                    refine bodyPost_ret (results_ct rfl _ _ w.heap.size 43 #[.slice A0 adds.length c0, .slice A1' dels.length c1, .int .i64 T1.1, .int .i64 T2.1, .int .i64 T3.1] (0, 0) _ rfl (put5 D8.out.rb _ _ _ _ _) Try.underlying43 rfl (by kernel_rfl)) rfl ?_
                    rw [HD.out, if_pos (eq_list hq)]
                    refine ⟨_, _, rfl, ?_, ?_, below_set (below_set (below_set (below_set (below_set D8.out.bel (Nat.le_refl _)) (Nat.le_refl _)) (Nat.le_refl _)) (Nat.le_refl _)) (Nat.le_refl _)⟩
                    · have := Kd.R_types D8.out.rA D8.out.rb (by decide)
                      exact Kd.R_mono (Kd.R_far (Kd.R_far (Kd.R_far (Kd.R_far (Kd.R_far this (p := ⟨w.heap.size, 0, none⟩) (fun _ x => x.2) _) (p := ⟨w.heap.size, 1, none⟩) (fun _ x => x.2) _) (p := ⟨w.heap.size, 2, none⟩) (fun _ x => x.2) _) (p := ⟨w.heap.size, 3, none⟩) (fun _ x => x.2) _) (p := ⟨w.heap.size, 4, none⟩) (fun _ x => x.2) _) (fun _ _ => trivial)
                    · have := Kd.R_types D8.out.rD D8.out.rb (by decide)
                      exact Kd.R_mono (Kd.R_far (Kd.R_far (Kd.R_far (Kd.R_far (Kd.R_far this (p := ⟨w.heap.size, 0, none⟩) (fun _ x => x.2) _) (p := ⟨w.heap.size, 1, none⟩) (fun _ x => x.2) _) (p := ⟨w.heap.size, 2, none⟩) (fun _ x => x.2) _) (p := ⟨w.heap.size, 3, none⟩) (fun _ x => x.2) _) (p := ⟨w.heap.size, 4, none⟩) (fun _ x => x.2) _) (fun _ _ => trivial)
            | false =>
              subst hbb
              obtain ⟨T1, hT1⟩ : ∃ T, tnum s a false = T := ⟨_, rfl⟩
              have A1 := Aside0.mk (show 0 ≤ T1.2.1 ∧ T1.2.1 ≤ (s.size : Int) from hT1 ▸ (tnum_in HA.out).2.2)
              have HNX := Aside0.mk (show nloop s n T1.2.1 T1.2.2 (dels ++ [T1.1]) = RD from by have h := HR.out; unfold nloop at h; rw [if_neg (by simp), hT1] at h; exact h)
              have HL1 := Aside0.mk (show T1.2.2 = false → ((dels ++ [T1.1]).length : Int) ≤ T1.2.1 from fun h => by
                have h1 := tnum_adv (s := s) (a := a) (b := false) (by rw [hT1]; exact h)
                rw [hT1] at h1
                have h2 := HL.out rfl
                rw [List.length_append, List.length_singleton]
                omega)
              have LL := Aside0.mk (show (dels.length + 1) * 8 ≤ 140737488355328 from by have := HL.out rfl; have := HA.out.2; have := HS.out; omega)
              have H1 := Aside0.mk hT1
              have A0 := HA
              clear hT1 HL HR
              go_upto_region 10 with fail
              clear t2
              have BD := Aside0.mk (below_drew (Below.refl wr.heap.size wr))
              refine start_ (n := 8) (S := fun w' => w'.cell? ⟨e, 1, none⟩ = some vD) (ds := [7]) #[false, false, false, false, false, false, false, false] (by kernel_rfl) rfl rfl ((DD.out.below BD.out).c1) (fun hHeld => ?_)
              have DW := Aside0.mk (DD.out.below BD.out)
              clear DD BD
              generalize wr.drew = wd at DW hHeld ⊢
              refine pure_ (i := 0) (N := some 52) (v := ?_) (a' := ?_) #[true, false, false, false, false, false, false, false] rfl rfl (by kernel_rfl) (fun _ _ _ h => h) (Or.inl ⟨by rfl, ?_⟩) ?_ ?_
              rotate_left
              · intro w'
                go_simp
                with_reducible rfl
              rotate_left
              · simp only [Act.put, List.setIfInBounds_toArray, List.set_cons_zero, List.set_cons_succ, i64_w, i32_w]
                rfl
              refine pure_ (i := 2) (N := some 54) (v := ?_) (a' := ?_) #[true, false, true, false, false, false, false, false] rfl rfl (by kernel_rfl) (fun _ _ _ h => h) (Or.inl ⟨by rfl, ?_⟩) ?_ ?_
              rotate_left
              · intro w'
                go_simp
                with_reducible rfl
              rotate_left
              · simp only [Act.put, List.setIfInBounds_toArray, List.set_cons_zero, List.set_cons_succ, i64_w, i32_w]
                rfl
              refine take_ (i := 1) (N := some 53) (v := ?_) (a' := ?_) #[true, true, true, false, false, false, false, false] rfl rfl (by kernel_rfl) (fun _ _ _ h => h) (Or.inl ⟨by rfl, ?_⟩) hHeld ?_ ?_
              rotate_left
              · intro w' s0
                go_simp
                with_reducible rfl
              rotate_left
              · simp only [Act.put, List.setIfInBounds_toArray, List.set_cons_zero, List.set_cons_succ, i64_w, i32_w]
                rfl
              refine one_ (i := 3) (N := some 55) #[true, true, true, true, false, false, false, false] rfl rfl (by kernel_rfl) (by decide) (fun K hK => ?_)
              refine goes_ Try.func60 (by kernel_rfl) rfl #[.pointer (some ⟨g, 0, none⟩)] (by rfl) rfl rfl (by simp only [List.map_toArray, List.map_cons, List.map_nil]; rfl) ?_
              with_reducible refine (DW.out.num HS.out A0.out H1.out).mono ?_
              rintro e' w2 ⟨rfl, hd⟩
              refine ⟨_, rfl, ?_⟩
              have D4 := Aside0.mk hd
              clear hd DW
              refine hK.out _ _ (D4.out.c1) (fun hHeld => ?_)
              clear hK K
              refine norm_ (a' := ?_) ?_ ?_
              rotate_left
              · show Act.put _ (some 55) _ = _
                simp only [Act.put, List.setIfInBounds_toArray, List.set_cons_zero, List.set_cons_succ, i64_w, i32_w]
                rfl
              refine one_ (i := 4) (N := some 56) #[true, true, true, true, true, false, false, false] rfl rfl (by kernel_rfl) (by decide) (fun K hK => ?_)
              refine value_ (w1 := ?_) (v := ?_) (by rfl) rfl ?_ ?_
              rotate_left 2
              · go_simp
                constructor
                · rfl
                · rfl
              refine hK.out _ _ ((D4.out.below ((Below.refl _ _).alloc (Nat.le_refl _) _)).c1) (fun hHeld => ?_)
              clear hK K
              refine norm_ (a' := ?_) ?_ ?_
              rotate_left
              · show Act.put _ (some 56) _ = _
                simp only [Act.put, List.setIfInBounds_toArray, List.set_cons_zero, List.set_cons_succ, i64_w, i32_w]
                rfl
              refine one_ (i := 5) (N := some 57) #[true, true, true, true, true, true, false, false] rfl rfl (by kernel_rfl) (by decide) (fun K hK => ?_)
              refine Kd.R_append_step (Kd.int .i64) (w0 := w) w.heap.size (by rfl) (.tmp 53) (.tmp 56) 36 3 (.int .i64 0) 8 rfl Try.underlying36 info3 rfl (by decide) (by omega) vD dels T1.1 [.int .i64 T1.1] (fun _ => True) (fun _ => False) rfl (by first | (go_simp; done) | (go_simp; rfl)) rfl (fun _ hk => hk.elim) (fun k hk => trivial) D4.out.rD D4.out.bel (below_size D4.out.bel) LL.out ?_
              intro v1 w7 ho hb hgr hat
              have D5 := Aside0.mk (D4.out.grewD ho hb hgr)
              have C5 := Aside0.mk (show w7.heap[e]? = some (.cells #[vA, vD, .int .i64 0, .int .i64 0, .int .i64 0] 43 (0, 0)) from (hgr.block e (blk_lt D4.out.eb) (own_ne D4.out.rD D4.out.eb (by decide))).trans D4.out.eb)
              obtain ⟨AX, cX, hv1⟩ := Kd.R_slice ho
              rw [List.length_append, List.length_singleton] at hv1
              subst hv1
              have q0 : w7.cell? ⟨e, 1, none⟩ = some vD := (blk_cell C5.out 1).trans rfl
              have qf := blk_frozen C5.out 1
              clear ho hb hgr hat D4 C5
              refine hK.out _ _ (q0) (fun hHeld => ?_)
              clear hK K
              refine norm_ (a' := ?_) ?_ ?_
              rotate_left
              · show Act.put _ (some 57) _ = _
                simp only [Act.put, List.setIfInBounds_toArray, List.set_cons_zero, List.set_cons_succ, i64_w, i32_w]
                rfl
              refine pure_ (i := 6) (N := some 58) (v := ?_) (a' := ?_) #[true, true, true, true, true, true, true, false] rfl rfl (by kernel_rfl) (fun _ _ _ h => h) (Or.inl ⟨by rfl, ?_⟩) ?_ ?_
              rotate_left
              · intro w'
                go_simp
                with_reducible rfl
              rotate_left
              · simp only [Act.put, List.setIfInBounds_toArray, List.set_cons_zero, List.set_cons_succ, i64_w, i32_w]
                rfl
              refine last_ (i := 7) (N := none) #[true, true, true, true, true, true, true, true] rfl rfl (by kernel_rfl) (by decide) (fun K hK => ?_)
              refine skip_ (w1 := ?_) (by rfl) rfl ?_ ?_
              rotate_left
              · go_simp
                rfl
              refine hK.out _ _ ?_
              clear hK K
              refine done_ (by kernel_rfl) ?_

              go_wp2
              go_roundw
              case rel => exact ⟨n, T1.2.1, T1.2.2, _, dels ++ [T1.1], by go_num, by omega, D5, A1, HL1, HNX⟩
              case measure => simp [intOf]

      | false =>
        subst hbb
        obtain ⟨T1, hT1⟩ : ∃ T, tnum s a false = T := ⟨_, rfl⟩
        obtain ⟨T2, hT2⟩ : ∃ T, tnum s T1.2.1 T1.2.2 = T := ⟨_, rfl⟩
        obtain ⟨T3, hT3⟩ : ∃ T, ttext s T2.2.1 T2.2.2 = T := ⟨_, rfl⟩
        obtain ⟨T4, hT4⟩ : ∃ T, ttext s T3.2.1 T3.2.2 = T := ⟨_, rfl⟩
        have HRD := Aside0.mk (show eround s a false = (⟨T1.1, T2.1, T3.1, T4.1⟩, T4.2) from by
          unfold eround er; rw [hT1, hT2]; unfold er0; rw [hT3]; unfold er1; rw [hT4]; rfl)
        have A1 := Aside0.mk (show 0 ≤ T1.2.1 ∧ T1.2.1 ≤ (s.size : Int) from hT1 ▸ (tnum_in HA.out).2.2)
        have A2 := Aside0.mk (show 0 ≤ T2.2.1 ∧ T2.2.1 ≤ (s.size : Int) from hT2 ▸ (tnum_in A1.out).2.2)
        have A3 := Aside0.mk (show 0 ≤ T3.2.1 ∧ T3.2.1 ≤ (s.size : Int) from hT3 ▸ ttext_in A2.out)
        have A4 := Aside0.mk (show 0 ≤ T4.2.1 ∧ T4.2.1 ≤ (s.size : Int) from hT4 ▸ ttext_in A3.out)
        have HNX := Aside0.mk (show aloop s n T4.2.1 T4.2.2 (adds ++ [(⟨T1.1, T2.1, T3.1, T4.1⟩ : S87)]) = RR from by have h := HR.out; unfold aloop at h; rw [if_neg (by simp), HRD.out] at h; exact h)
        have HL1 := Aside0.mk (show T4.2.2 = false → ((adds ++ [(⟨T1.1, T2.1, T3.1, T4.1⟩ : S87)]).length : Int) ≤ T4.2.1 from fun h => by
          have h4 := ttext_adv (s := s) A3.out (by rw [hT4]; exact h)
          rw [hT4] at h4
          have h3 := ttext_adv (s := s) A2.out (by rw [hT3]; exact h4.1)
          rw [hT3] at h3
          have h2 := tnum_adv (s := s) (a := T1.2.1) (by rw [hT2]; exact h3.1)
          rw [hT2] at h2
          have h1 := tnum_adv (s := s) (a := a) (by rw [hT1]; exact h2.1)
          rw [hT1] at h1
          have h0 := HL.out rfl
          rw [List.length_append, List.length_singleton]
          omega)
        have LL := Aside0.mk (show (adds.length + 1) * 48 ≤ 140737488355328 from by have := HL.out rfl; have := HA.out.2; have := HS.out; omega)
        have H1 := Aside0.mk hT1
        have H2 := Aside0.mk hT2
        have H3 := Aside0.mk hT3
        have H4 := Aside0.mk hT4
        have A0 := HA
        clear hT1 hT2 hT3 hT4 HL HR
        go_upto_region 6 with fail
        clear t2
        have BD := Aside0.mk (below_drew (Below.refl wr.heap.size wr))
        refine start_ (n := 15) (S := fun w' => w'.cell? ⟨e, 0, none⟩ = some vA) (ds := [14]) #[false, false, false, false, false, false, false, false, false, false, false, false, false, false, false] (by kernel_rfl) rfl rfl ((DD.out.below BD.out).c0) (fun hHeld => ?_)
        have DW := Aside0.mk (DD.out.below BD.out)
        clear DD BD
        generalize wr.drew = wd at DW hHeld ⊢
        refine pure_ (i := 0) (N := some 25) (v := ?_) (a' := ?_) #[true, false, false, false, false, false, false, false, false, false, false, false, false, false, false] rfl rfl (by kernel_rfl) (fun _ _ _ h => h) (Or.inl ⟨by rfl, ?_⟩) ?_ ?_
        rotate_left
        · intro w'
          go_simp
          with_reducible rfl
        rotate_left
        · simp only [Act.put, List.setIfInBounds_toArray, List.set_cons_zero, List.set_cons_succ, i64_w, i32_w]
          rfl
        refine pure_ (i := 2) (N := some 27) (v := ?_) (a' := ?_) #[true, false, true, false, false, false, false, false, false, false, false, false, false, false, false] rfl rfl (by kernel_rfl) (fun _ _ _ h => h) (Or.inl ⟨by rfl, ?_⟩) ?_ ?_
        rotate_left
        · intro w'
          go_simp
          with_reducible rfl
        rotate_left
        · simp only [Act.put, List.setIfInBounds_toArray, List.set_cons_zero, List.set_cons_succ, i64_w, i32_w]
          rfl
        refine pure_ (i := 4) (N := some 29) (v := ?_) (a' := ?_) #[true, false, true, false, true, false, false, false, false, false, false, false, false, false, false] rfl rfl (by kernel_rfl) (fun _ _ _ h => h) (Or.inl ⟨by rfl, ?_⟩) ?_ ?_
        rotate_left
        · intro w'
          go_simp
          with_reducible rfl
        rotate_left
        · simp only [Act.put, List.setIfInBounds_toArray, List.set_cons_zero, List.set_cons_succ, i64_w, i32_w]
          rfl
        refine pure_ (i := 6) (N := some 31) (v := ?_) (a' := ?_) #[true, false, true, false, true, false, true, false, false, false, false, false, false, false, false] rfl rfl (by kernel_rfl) (fun _ _ _ h => h) (Or.inl ⟨by rfl, ?_⟩) ?_ ?_
        rotate_left
        · intro w'
          go_simp
          with_reducible rfl
        rotate_left
        · simp only [Act.put, List.setIfInBounds_toArray, List.set_cons_zero, List.set_cons_succ, i64_w, i32_w]
          rfl
        refine pure_ (i := 8) (N := some 33) (v := ?_) (a' := ?_) #[true, false, true, false, true, false, true, false, true, false, false, false, false, false, false] rfl rfl (by kernel_rfl) (fun _ _ _ h => h) (Or.inl ⟨by rfl, ?_⟩) ?_ ?_
        rotate_left
        · intro w'
          go_simp
          with_reducible rfl
        rotate_left
        · simp only [Act.put, List.setIfInBounds_toArray, List.set_cons_zero, List.set_cons_succ, i64_w, i32_w]
          rfl
        refine take_ (i := 1) (N := some 26) (v := ?_) (a' := ?_) #[true, true, true, false, true, false, true, false, true, false, false, false, false, false, false] rfl rfl (by kernel_rfl) (fun _ _ _ h => h) (Or.inl ⟨by rfl, ?_⟩) hHeld ?_ ?_
        rotate_left
        · intro w' s0
          go_simp
          with_reducible rfl
        rotate_left
        · simp only [Act.put, List.setIfInBounds_toArray, List.set_cons_zero, List.set_cons_succ, i64_w, i32_w]
          rfl
        refine one_ (i := 3) (N := some 28) #[true, true, true, true, true, false, true, false, true, false, false, false, false, false, false] rfl rfl (by kernel_rfl) (by decide) (fun K hK => ?_)
        refine goes_ Try.func60 (by kernel_rfl) rfl #[.pointer (some ⟨g, 0, none⟩)] (by rfl) rfl rfl (by simp only [List.map_toArray, List.map_cons, List.map_nil]; rfl) ?_
        with_reducible refine (DW.out.num HS.out A0.out H1.out).mono ?_
        rintro e' w2 ⟨rfl, hd⟩
        refine ⟨_, rfl, ?_⟩
        have D1 := Aside0.mk hd
        clear hd DW
        refine hK.out _ _ (D1.out.c0) (fun hHeld => ?_)
        clear hK K
        refine norm_ (a' := ?_) ?_ ?_
        rotate_left
        · show Act.put _ (some 28) _ = _
          simp only [Act.put, List.setIfInBounds_toArray, List.set_cons_zero, List.set_cons_succ, i64_w, i32_w]
          rfl
        refine one_ (i := 5) (N := some 30) #[true, true, true, true, true, true, true, false, true, false, false, false, false, false, false] rfl rfl (by kernel_rfl) (by decide) (fun K hK => ?_)
        refine goes_ Try.func60 (by kernel_rfl) rfl #[.pointer (some ⟨g, 0, none⟩)] (by rfl) rfl rfl (by simp only [List.map_toArray, List.map_cons, List.map_nil]; rfl) ?_
        with_reducible refine (D1.out.num HS.out A1.out H2.out).mono ?_
        rintro e' w3 ⟨rfl, hd⟩
        refine ⟨_, rfl, ?_⟩
        have D2 := Aside0.mk hd
        clear hd D1
        refine hK.out _ _ (D2.out.c0) (fun hHeld => ?_)
        clear hK K
        refine norm_ (a' := ?_) ?_ ?_
        rotate_left
        · show Act.put _ (some 30) _ = _
          simp only [Act.put, List.setIfInBounds_toArray, List.set_cons_zero, List.set_cons_succ, i64_w, i32_w]
          rfl
        refine one_ (i := 7) (N := some 32) #[true, true, true, true, true, true, true, true, true, false, false, false, false, false, false] rfl rfl (by kernel_rfl) (by decide) (fun K hK => ?_)
        refine goes_ Try.func61 (by kernel_rfl) rfl #[.pointer (some ⟨g, 0, none⟩)] (by rfl) rfl rfl (by simp only [List.map_toArray, List.map_cons, List.map_nil]; rfl) ?_
        with_reducible refine (D2.out.text HS.out A2.out H3.out).mono ?_
        rintro e' w4 ⟨rfl, hd⟩
        refine ⟨_, rfl, ?_⟩
        have D3 := Aside0.mk hd
        clear hd D2
        refine hK.out _ _ (D3.out.c0) (fun hHeld => ?_)
        clear hK K
        refine norm_ (a' := ?_) ?_ ?_
        rotate_left
        · show Act.put _ (some 32) _ = _
          simp only [Act.put, List.setIfInBounds_toArray, List.set_cons_zero, List.set_cons_succ, i64_w, i32_w]
          rfl
        refine one_ (i := 9) (N := some 34) #[true, true, true, true, true, true, true, true, true, true, false, false, false, false, false] rfl rfl (by kernel_rfl) (by decide) (fun K hK => ?_)
        refine goes_ Try.func61 (by kernel_rfl) rfl #[.pointer (some ⟨g, 0, none⟩)] (by rfl) rfl rfl (by simp only [List.map_toArray, List.map_cons, List.map_nil]; rfl) ?_
        with_reducible refine (D3.out.text HS.out A3.out H4.out).mono ?_
        rintro e' w5 ⟨rfl, hd⟩
        refine ⟨_, rfl, ?_⟩
        have D4 := Aside0.mk hd
        clear hd D3
        refine hK.out _ _ (D4.out.c0) (fun hHeld => ?_)
        clear hK K
        refine norm_ (a' := ?_) ?_ ?_
        rotate_left
        · show Act.put _ (some 34) _ = _
          simp only [Act.put, List.setIfInBounds_toArray, List.set_cons_zero, List.set_cons_succ, i64_w, i32_w]
          rfl
        refine pure_ (i := 10) (N := some 35) (v := ?_) (a' := ?_) #[true, true, true, true, true, true, true, true, true, true, true, false, false, false, false] rfl rfl (by kernel_rfl) (fun _ _ _ h => h) (Or.inl ⟨by rfl, ?_⟩) ?_ ?_
        rotate_left
        · intro w'
          go_simp
          with_reducible rfl
        rotate_left
        · simp only [Act.put, List.setIfInBounds_toArray, List.set_cons_zero, List.set_cons_succ, i64_w, i32_w]
          rfl
        refine one_ (i := 11) (N := some 36) #[true, true, true, true, true, true, true, true, true, true, true, true, false, false, false] rfl rfl (by kernel_rfl) (by decide) (fun K hK => ?_)
        refine value_ (w1 := ?_) (v := ?_) (by rfl) rfl ?_ ?_
        rotate_left 2
        · go_simp
          constructor
          · rfl
          · rfl
        refine hK.out _ _ ((D4.out.below ((Below.refl _ _).alloc (Nat.le_refl _) _)).c0) (fun hHeld => ?_)
        clear hK K
        refine norm_ (a' := ?_) ?_ ?_
        rotate_left
        · show Act.put _ (some 36) _ = _
          simp only [Act.put, List.setIfInBounds_toArray, List.set_cons_zero, List.set_cons_succ, i64_w, i32_w]
          rfl
        refine one_ (i := 12) (N := some 37) #[true, true, true, true, true, true, true, true, true, true, true, true, true, false, false] rfl rfl (by kernel_rfl) (by decide) (fun K hK => ?_)
        refine Kd.R_append_step k87 (w0 := w) w.heap.size (by rfl) (.tmp 26) (.tmp 36) 41 87 (.agg #[(.int .i64 0), (.int .i64 0), (.string ⟨#[]⟩), (.string ⟨#[]⟩)]) 48 rfl Try.underlying41 info87 rfl (by decide) (by omega) vA adds (⟨T1.1, T2.1, T3.1, T4.1⟩ : S87) [.int .i64 T1.1, .int .i64 T2.1, .string T3.1, .string T4.1] (fun _ => True) (fun _ => False) rfl (by first | (go_simp; done) | (go_simp; rfl)) (k87_mkM _ _ _ (⟨T1.1, T2.1, T3.1, T4.1⟩ : S87)) (fun _ hk => hk.elim) (fun k hk => trivial) D4.out.rA D4.out.bel (below_size D4.out.bel) LL.out ?_
        intro v1 w7 ho hb hgr hat
        have D5 := Aside0.mk (D4.out.grewA ho hb hgr)
        have C5 := Aside0.mk (show w7.heap[e]? = some (.cells #[vA, .slice none 0 0, .int .i64 0, .int .i64 0, .int .i64 0] 43 (0, 0)) from (hgr.block e (blk_lt D4.out.eb) (own_ne D4.out.rA D4.out.eb (by decide))).trans D4.out.eb)
        obtain ⟨AX, cX, hv1⟩ := Kd.R_slice ho
        rw [List.length_append, List.length_singleton] at hv1
        subst hv1
        have q0 : w7.cell? ⟨e, 0, none⟩ = some vA := (blk_cell C5.out 0).trans rfl
        have qf := blk_frozen C5.out 0
        clear ho hb hgr hat D4 C5
        refine hK.out _ _ (q0) (fun hHeld => ?_)
        clear hK K
        refine norm_ (a' := ?_) ?_ ?_
        rotate_left
        · show Act.put _ (some 37) _ = _
          simp only [Act.put, List.setIfInBounds_toArray, List.set_cons_zero, List.set_cons_succ, i64_w, i32_w]
          rfl
        refine pure_ (i := 13) (N := some 38) (v := ?_) (a' := ?_) #[true, true, true, true, true, true, true, true, true, true, true, true, true, true, false] rfl rfl (by kernel_rfl) (fun _ _ _ h => h) (Or.inl ⟨by rfl, ?_⟩) ?_ ?_
        rotate_left
        · intro w'
          go_simp
          with_reducible rfl
        rotate_left
        · simp only [Act.put, List.setIfInBounds_toArray, List.set_cons_zero, List.set_cons_succ, i64_w, i32_w]
          rfl
        refine last_ (i := 14) (N := none) #[true, true, true, true, true, true, true, true, true, true, true, true, true, true, true] rfl rfl (by kernel_rfl) (by decide) (fun K hK => ?_)
        refine skip_ (w1 := ?_) (by rfl) rfl ?_ ?_
        rotate_left
        · go_simp
          rfl
        refine hK.out _ _ ?_
        clear hK K
        refine done_ (by kernel_rfl) ?_

        go_wp2
        go_roundw
        case rel => exact ⟨n, T4.2.1, T4.2.2, _, adds ++ [(⟨T1.1, T2.1, T3.1, T4.1⟩ : S87)], by go_num, by omega, D5, A4, HL1, HNX⟩
        case measure => simp [intOf]
end Go.Proofs.Ytjneloehdcecnaa.M
end
section
-- Written by a changed copy of the print program, one module a function. Not trusted: Lean checks it.
namespace Go.Proofs.Ytjneloehdcecnaa.P
open Go.RowKit Go.Proofs.YtjneloehdcecnaaW.PrintWords Go.Proofs.YtjneloehdcecnaaW.PrintLast Go.Proofs.YtjneloehdcecnaaW.PrintMore
attribute [local go_sem] max2_int min2_int max_two min_two max_three min_three max_four min_four   -- for this text's walks alone
set_option linter.unusedVariables false
set_option linter.unusedSimpArgs false

/-! ### impl_DecodeEdit: function 30 -/
def impl_DecodeEdit.f (a0 : ByteArray) : Option ((List (S87)) × List Int × Int × Int × Int × Bool) := if a0.size ≤ 1048576 then some (M.dece a0) else none

theorem impl_DecodeEdit.calls (a0 : ByteArray) (r1 : List (S87)) (r2 : List Int) (r3 : Int) (r4 : Int) (r5 : Int) (r6 : Bool) (w : World) (h : impl_DecodeEdit.f a0 = some (r1, r2, r3, r4, r5, r6)) :
  Calls Try.prog 30 #[.string a0] w fun e w' => ∃ v0_ v1_ : Value, e = .returned (.tuple #[.agg #[v0_, v1_, .int .i64 r3, .int .i64 r4, .int .i64 r5], .bool r6]) ∧ Kd.R k87 87 w' w.heap.size (fun _ => True) v0_ r1 ∧ Kd.R (Kd.int .i64) 3 w' w.heap.size (fun _ => True) v1_ r2 ∧ Below w.heap.size w w' := by
 unfold impl_DecodeEdit.f at h
 by_cases hs : a0.size ≤ 1048576
 ·rw [if_pos hs] at h
  have e := Option.some.inj h
  have h1 := M.decEdit_call a0 w hs
  rw [e] at h1
  exact h1
 ·rw [if_neg hs] at h; cases h

end Go.Proofs.Ytjneloehdcecnaa.P
end

/- Texts of the claim FnExactEncodeEdit, part 29 of 36, joined: MEncWalk, MEditWalk, PimplEncodeEdit. No condition beyond those that stand at each. -/
import Derived.Test.YtjneloehdcecnaaZFnExactEncodeEdit27
import Derived.Test.YtjneloehdcecnaaZFnExactEncodeEdit23
import Derived.Test.YtjneloehdcecnaaZFnExactEncodeEdit22
import Derived.Test.YtjneloehdcecnaaZFnExactEncodeEdit28
import Derived.Test.YtjneloehdcecnaaZFnExactEncodeEdit26
section
/- The program's EncodeEntries, walked. No condition. -/
namespace Go.Proofs.Ytjneloehdcecnaa.M
open Go.RowKit Go.Proofs.Ytjneloehdcecnaa.P Go.Proofs.YtjneloehdcecnaaW.PrintWords Go.Proofs.YtjneloehdcecnaaW.PrintLast Go.Proofs.YtjneloehdcecnaaW.PrintMore
set_option linter.unusedVariables false
set_option linter.unusedSimpArgs false
/-- What a round needs of the world. -/
structure EInv (w wr : World) (l : List S71) (i : Nat) : Prop where
  bld : Lib.IsBuilder 75 5 w.heap.size w.heap.size (Lib.strCells (put (l.length : Int) ++ encL (l.take i))) wr
  bel : Below w.heap.size w wr
theorem strCells_append (a b : ByteArray) : Lib.strCells (a ++ b) = Lib.strCells a ++ Lib.strCells b := by
  unfold Lib.strCells
  rw [ByteArray.data_append]
  simp
theorem rd71 (l : List S71) (i : Nat) (h : i < l.length) : rd_T71 l (i : Int) = l[i] := by
  unfold rd_T71
  rw [Int.toNat_natCast, List.getD_eq_getElem?_getD, List.getElem?_eq_getElem h]
  rfl
theorem enc_long {l : List S71} (h : l.length > 1000) : enc l = ⟨#[]⟩ := if_pos h
theorem enc_bad {l : List S71} (i : Nat) (hi : i < l.length) (h : entOk (rd_T71 l (i : Int)) = false) : enc l = ⟨#[]⟩ := by
  unfold enc
  split
  · rfl
  · rw [if_neg]
    intro ha
    rw [List.all_eq_true] at ha
    rw [rd71 l i hi] at h
    rw [ha _ (List.getElem_mem hi)] at h
    cases h
theorem enc_good {l : List S71} (h : ¬ l.length > 1000) (ha : l.all entOk = true) : enc l = put (l.length : Int) ++ encL l := by
  unfold enc
  rw [if_neg h, if_pos ha]
theorem all_snoc {l : List S71} {i : Nat} (hi : i < l.length) (ha : (l.take i).all entOk = true) (h : entOk (rd_T71 l (i : Int)) = true) : (l.take (i + 1)).all entOk = true := by
  rw [rd71 l i hi] at h
  rw [take_at l i hi, List.all_append, ha]
  simp [h]

theorem cv_run {W : World} {g : Nat} {n : Int} (h : W.heap[g]? = some (.cells #[.int .u8 n] 5 (0, 0))) : (convert 65 9 (.slice (some ⟨g, 0, none⟩) 1 1)).run Try.prog W = .ok (.string (strOfNums [n])) W :=
  run_convert_bytes_arg W 65 5 Try.underlying65 Try.underlying5 g 0 1 1 [n] rfl (fun i hi => by
    obtain rfl : i = 0 := by omega
    exact (blk_cell h 0).trans rfl) 9 Try.underlying9
theorem belw {w w3 W w5 : World} (h3 : Below w.heap.size w w3) (hx : Below w3.heap.size w3 W) (h5 : Below w.heap.size W w5) : Below w.heap.size w w5 := (h3.trans (hx.mono h3.size)).trans h5
theorem hbw {w w3 W : World} (h3 : Below w.heap.size w w3) (hx : Below w3.heap.size w3 W) : w.heap.size ≤ W.heap.size := Nat.le_trans h3.size hx.size
theorem u8w (n : Int) : IntKind.u8.wrap n = n % 256 := by simp [IntKind.wrap, IntKind.signed, IntKind.bits]
theorem keepS {w3 W : World} {g : Nat} {x : S71} (h : w3.heap[g]? = some (.cells #[.string x.f0, .int .i64 x.f1, .int .i64 x.f2, .string x.f3] 71 (0, 0))) (hb : Below w3.heap.size w3 W) :
    W.cell? ⟨g, 0, none⟩ = some (.string x.f0) ∧ W.cell? ⟨g, 1, none⟩ = some (.int .i64 x.f1) ∧ W.cell? ⟨g, 2, none⟩ = some (.int .i64 x.f2) ∧ W.cell? ⟨g, 3, none⟩ = some (.string x.f3) := by
  have T := (hb.block g (blk_lt h)).trans h
  exact ⟨(blk_cell T 0).trans rfl, (blk_cell T 1).trans rfl, (blk_cell T 2).trans rfl, (blk_cell T 3).trans rfl⟩

set_option maxHeartbeats 8000000 in
set_option maxRecDepth 100000 in
theorem encEntries_call (A : Option Addr) (c : Nat) (l : List S71) (w : World) (hr : Kd.C k71 w A l.length l) (hc : l.length ≤ c) :
    Calls Try.prog 18 #[.slice A l.length c] w fun e w' => e = .returned (.string (enc l)) ∧ Below w.heap.size w w' := by
  have hu71 := Try.underlying71
  have hu31 := Try.underlying31
  have hu75 := Try.underlying75
  by_cases hlong : l.length > 1000
  · have hl1 : decide ((1000 : Int) < (l.length : Int)) = true := decide_eq_true (by omega)
    have hl2 : decide (1000 < l.length) = true := decide_eq_true (by omega)
    have hl3 : 1000 < l.length := hlong
    have HE := Aside0.mk (enc_long hlong)
    clear hr hlong
    go_enter Try.func18, Try.ntmps18
    go_wp2
    go_ret
    exact ⟨by rw [HE.out]; rfl, Below.refl _ _⟩
  · have hl1 : decide ((1000 : Int) < (l.length : Int)) = false := decide_eq_false (by omega)
    have hl : l.length ≤ 1000 := by omega
    have HR := Aside0.mk hr
    have HLong := Aside0.mk hlong
    have b0 : Below w.heap.size w (w.alloc (.cells #[.pointer none, .slice none 0 0] 75)) := (Below.refl _ w).alloc (Nat.le_refl _) _
    have HF := Aside0.mk (Lib.fresh_isBuilder 75 5 w)
    have HB0 := Aside0.mk b0
    have HP := Aside0.mk (put_call (l.length : Int) (w.alloc (.cells #[.pointer none, .slice none 0 0] 75)))
    clear hr hlong b0
    go_enter Try.func18, Try.ntmps18
    go_wp2_with fail
    refine HP.out.mono ?_
    rintro e w1 ⟨rfl, hb⟩
    have HB1 := Aside0.mk (HB0.out.trans (hb.mono HB0.out.size))
    have HW := Aside0.mk (write_call w.heap.size w.heap.size [] (put (l.length : Int)) w1 (bld_below HF.out hb) (by have := put_size (l.length : Int); simp; omega) HB1.out.size)
    clear hb
    go_wp2_with fail
    refine HW.out.mono ?_
    rintro e w2 ⟨rfl, h2, hb, _⟩
    have HI := Aside0.mk (show EInv w w2 l 0 from ⟨by
      rw [List.nil_append] at h2
      show Lib.IsBuilder 75 5 w.heap.size w.heap.size (Lib.strCells (put (l.length : Int) ++ (⟨#[]⟩ : ByteArray))) w2
      rw [ba_append_empty]
      exact Or.inr h2, HB1.out.trans hb⟩)
    clear h2 hb
    go_wp2
    go_loopw [15] (fun v wr => ∃ i : Nat, i ≤ l.length ∧ v = .int .i64 (i : Int) ∧ Aside0 ((l.take i).all entOk = true) ∧ Aside0 (EInv w wr l i)) (fun v _ => l.length - (intOf v).toNat)
    case atStart => exact ⟨0, by omega, rfl, ⟨rfl⟩, HI⟩
    case round =>
      obtain ⟨i, hi, rfl, HA, HI⟩ := hrel
      by_cases hlt : i < l.length
      · have hlt1 : ((i : Nat) : Int) < (l.length : Int) := by omega
        obtain ⟨ad, hA, hx0, hx1, hx2, hx3⟩ := at_T71 HR.out (i : Int) (by omega) hlt1
        have hx0 := (HI.out.bel.cell (World.block_lt_of_cell? w _ hx0)).trans hx0
        have hx1 := (HI.out.bel.cell (World.block_lt_of_cell? w _ hx1)).trans hx1
        have hx2 := (HI.out.bel.cell (World.block_lt_of_cell? w _ hx2)).trans hx2
        have hx3 := (HI.out.bel.cell (World.block_lt_of_cell? w _ hx3)).trans hx3
        rw [Int.toNat_natCast] at hx0 hx1 hx2 hx3
        subst hA
        by_cases hok : entOk (rd_T71 l (i : Int)) = true
        · generalize hx : rd_T71 l (i : Int) = x at hx0 hx1 hx2 hx3 hok
          have HX := Aside0.mk hx
          have HOK := Aside0.mk hok
          have HFC := Aside0.mk (fine_call x (wr.alloc (.cells #[.string x.f0, .int .i64 x.f1, .int .i64 x.f2, .string x.f3] 71)))
          rw [hok] at HFC
          clear hx hok
          go_wp2_with fail
          refine HFC.out.mono ?_
          rintro e w3 ⟨rfl, hb⟩
          have T := (hb.block wr.heap.size (by simp)).trans (heap_alloc_new wr (.cells #[.string x.f0, .int .i64 x.f1, .int .i64 x.f2, .string x.f3] 71))
          have HT := Aside0.mk T
          have HB3 := Aside0.mk ((HI.out.bel.alloc HI.out.bel.size (.cells #[.string x.f0, .int .i64 x.f1, .int .i64 x.f2, .string x.f3] 71)).trans (hb.mono (by have := HI.out.bel.size; simp; omega)))
          have HBL := Aside0.mk (bld_below (bld_below HI.out.bld ((Below.refl _ wr).alloc (Nat.le_refl _) (.cells #[.string x.f0, .int .i64 x.f1, .int .i64 x.f2, .string x.f3] 71))) hb)
          have HSZ := Aside0.mk (encL_size (l.take i) HA.out)
          have hk0 : x.f0.size ≤ 1048576 := by have := entOk_sizes HOK.out; omega
          have hk3 : x.f3.size ≤ 1048576 := by have := entOk_sizes HOK.out; omega
          clear hb T
          have q0 := szd_size x.f0
          have q1 := put_size x.f1
          have q3 := szd_size x.f3
          have c1 : (9223372036854775807 < (szd x.f0).size + (put x.f1).size) = False := eq_false (by omega)
          have c2 : (9223372036854775807 < (szd x.f0).size + (put x.f1).size + (strOfNums [IntKind.u8.wrap x.f2]).size) = False := eq_false (by rw [strOfNums_size]; simp; omega)
          have c3 : (9223372036854775807 < (szd x.f0).size + (put x.f1).size + (strOfNums [IntKind.u8.wrap x.f2]).size + (szd x.f3).size) = False := eq_false (by rw [strOfNums_size]; simp; omega)
          have HLEN := Aside0.mk (show ∀ u : Unit, (Lib.strCells (put (l.length : Int) ++ encL (l.take i))).length + (szd x.f0 ++ put x.f1 ++ strOfNums [IntKind.u8.wrap x.f2] ++ szd x.f3).size ≤ 140737488355328 from fun _ => by
            have h1 := HSZ.out
            have h2 := put_size (l.length : Int)
            have h4 := entOk_sizes HOK.out
            have h5 : (l.take i).length ≤ 1000 := by rw [List.length_take]; omega
            rw [Lib.strCells_length, ByteArray.size_append, ByteArray.size_append, ByteArray.size_append, ByteArray.size_append, strOfNums_size]
            simp only [List.length_cons, List.length_nil]
            omega)
          have BD := Aside0.mk (below_drew (Below.refl w3.heap.size w3))
          go_wp2
          refine start_ (n := 18) (S := fun w' => w'.cell? ⟨wr.heap.size, 0, none⟩ = some (.string x.f0) ∧ w'.cell? ⟨wr.heap.size, 1, none⟩ = some (.int .i64 x.f1) ∧ w'.cell? ⟨wr.heap.size, 2, none⟩ = some (.int .i64 x.f2) ∧ w'.cell? ⟨wr.heap.size, 3, none⟩ = some (.string x.f3)) (ds := [17]) #[false, false, false, false, false, false, false, false, false, false, false, false, false, false, false, false, false, false] (by kernel_rfl) rfl rfl ⟨(keepS HT.out BD.out).1, (keepS HT.out BD.out).2.1, (keepS HT.out BD.out).2.2.1, (keepS HT.out BD.out).2.2.2⟩ (fun hHeld => ?_)
          generalize w3.drew = wd at BD hHeld ⊢
          have HB := BD
          refine pure_ (i := 0) (N := some 22) (v := ?_) (a' := ?_) #[true, false, false, false, false, false, false, false, false, false, false, false, false, false, false, false, false, false] rfl rfl (by kernel_rfl) (fun _ _ _ h => h) (Or.inl ⟨by rfl, ?_⟩) ?_ ?_
          rotate_left
          · intro w'
            go_simp
            with_reducible rfl
          rotate_left
          · simp only [Act.put, List.setIfInBounds_toArray, List.set_cons_zero, List.set_cons_succ, i64_w, i32_w]
            rfl
          refine pure_ (i := 3) (N := some 25) (v := ?_) (a' := ?_) #[true, false, false, true, false, false, false, false, false, false, false, false, false, false, false, false, false, false] rfl rfl (by kernel_rfl) (fun _ _ _ h => h) (Or.inl ⟨by rfl, ?_⟩) ?_ ?_
          rotate_left
          · intro w'
            go_simp
            with_reducible rfl
          rotate_left
          · simp only [Act.put, List.setIfInBounds_toArray, List.set_cons_zero, List.set_cons_succ, i64_w, i32_w]
            rfl
          refine pure_ (i := 7) (N := some 29) (v := ?_) (a' := ?_) #[true, false, false, true, false, false, false, true, false, false, false, false, false, false, false, false, false, false] rfl rfl (by kernel_rfl) (fun _ _ _ h => h) (Or.inl ⟨by rfl, ?_⟩) ?_ ?_
          rotate_left
          · intro w'
            go_simp
            with_reducible rfl
          rotate_left
          · simp only [Act.put, List.setIfInBounds_toArray, List.set_cons_zero, List.set_cons_succ, i64_w, i32_w]
            rfl
          refine pure_ (i := 13) (N := some 35) (v := ?_) (a' := ?_) #[true, false, false, true, false, false, false, true, false, false, false, false, false, true, false, false, false, false] rfl rfl (by kernel_rfl) (fun _ _ _ h => h) (Or.inl ⟨by rfl, ?_⟩) ?_ ?_
          rotate_left
          · intro w'
            go_simp
            with_reducible rfl
          rotate_left
          · simp only [Act.put, List.setIfInBounds_toArray, List.set_cons_zero, List.set_cons_succ, i64_w, i32_w]
            rfl
          refine take_ (i := 1) (N := some 23) (v := ?_) (a' := ?_) #[true, true, false, true, false, false, false, true, false, false, false, false, false, true, false, false, false, false] rfl rfl (by kernel_rfl) (fun _ _ _ h => h) (Or.inl ⟨by rfl, ?_⟩) hHeld ?_ ?_
          rotate_left
          · rintro w' ⟨s0, s1, s2, s3⟩
            go_simp
            with_reducible rfl
          rotate_left
          · simp only [Act.put, List.setIfInBounds_toArray, List.set_cons_zero, List.set_cons_succ, i64_w, i32_w]
            rfl
          refine take_ (i := 4) (N := some 26) (v := ?_) (a' := ?_) #[true, true, false, true, true, false, false, true, false, false, false, false, false, true, false, false, false, false] rfl rfl (by kernel_rfl) (fun _ _ _ h => h) (Or.inl ⟨by rfl, ?_⟩) hHeld ?_ ?_
          rotate_left
          · rintro w' ⟨s0, s1, s2, s3⟩
            go_simp
            with_reducible rfl
          rotate_left
          · simp only [Act.put, List.setIfInBounds_toArray, List.set_cons_zero, List.set_cons_succ, i64_w, i32_w]
            rfl
          refine take_ (i := 8) (N := some 30) (v := ?_) (a' := ?_) #[true, true, false, true, true, false, false, true, true, false, false, false, false, true, false, false, false, false] rfl rfl (by kernel_rfl) (fun _ _ _ h => h) (Or.inl ⟨by rfl, ?_⟩) hHeld ?_ ?_
          rotate_left
          · rintro w' ⟨s0, s1, s2, s3⟩
            go_simp
            with_reducible rfl
          rotate_left
          · simp only [Act.put, List.setIfInBounds_toArray, List.set_cons_zero, List.set_cons_succ, i64_w, i32_w]
            rfl
          refine pure_ (i := 9) (N := some 31) (v := ?_) (a' := ?_) #[true, true, false, true, true, false, false, true, true, true, false, false, false, true, false, false, false, false] rfl rfl (by kernel_rfl) (fun _ _ _ h => h) (Or.inl ⟨by rfl, ?_⟩) ?_ ?_
          rotate_left
          · intro w'
            go_simp
            with_reducible rfl
          rotate_left
          · simp only [Act.put, List.setIfInBounds_toArray, List.set_cons_zero, List.set_cons_succ, i64_w, i32_w]
            rfl
          refine take_ (i := 14) (N := some 36) (v := ?_) (a' := ?_) #[true, true, false, true, true, false, false, true, true, true, false, false, false, true, true, false, false, false] rfl rfl (by kernel_rfl) (fun _ _ _ h => h) (Or.inl ⟨by rfl, ?_⟩) hHeld ?_ ?_
          rotate_left
          · rintro w' ⟨s0, s1, s2, s3⟩
            go_simp
            with_reducible rfl
          rotate_left
          · simp only [Act.put, List.setIfInBounds_toArray, List.set_cons_zero, List.set_cons_succ, i64_w, i32_w]
            rfl
          refine join_ (σ := Nat) 2 #[true, true, true, true, true, true, true, true, true, true, true, true, true, true, true, true, false, false] (fun g_ => [(24, .string (szd x.f0)), (27, .string (put x.f1)), (28, .string (szd x.f0 ++ put x.f1)), (32, .slice (some ⟨g_, 0, none⟩) 1 1), (33, .string (strOfNums [IntKind.u8.wrap x.f2])), (34, .string (szd x.f0 ++ put x.f1 ++ strOfNums [IntKind.u8.wrap x.f2])), (37, .string (szd x.f3))]) (fun _ w' => Below w3.heap.size w3 w') ?_ ?_
          rotate_left
          · intro hCont
            refine two_ (i := 2) (j := 10) (Ni := some 24) (Nj := some 32) #[true, true, true, true, true, false, false, true, true, true, false, false, false, true, true, false, false, false] #[true, true, false, true, true, false, false, true, true, true, true, false, false, true, true, false, false, false] rfl rfl rfl rfl (by kernel_rfl) (by decide) (by decide) (fun K hK => ?_) (fun K hK => ?_)
            · skip
              refine goes_ Try.func47 (by kernel_rfl) rfl #[.string x.f0] (by rfl) rfl rfl (by simp only [List.map_toArray, List.map_cons, List.map_nil]; rfl) ?_
              with_reducible refine (szd_call _ _ hk0).mono ?_
              rintro e w4 ⟨rfl, hb⟩
              refine ⟨_, rfl, ?_⟩
              have n0_ := Aside0.mk (below_step HB.out hb)
              clear HB hb
              have HB := n0_
              clear n0_
              refine hK.out _ _ ⟨(keepS HT.out HB.out).1, (keepS HT.out HB.out).2.1, (keepS HT.out HB.out).2.2.1, (keepS HT.out HB.out).2.2.2⟩ (fun hHeld => ?_)
              clear hK K
              refine norm_ (a' := ?_) ?_ ?_
              rotate_left
              · show Act.put _ (some 24) _ = _
                simp only [Act.put, List.setIfInBounds_toArray, List.set_cons_zero, List.set_cons_succ, i64_w, i32_w]
                rfl
              refine two_ (i := 5) (j := 10) (Ni := some 27) (Nj := some 32) #[true, true, true, true, true, true, false, true, true, true, false, false, false, true, true, false, false, false] #[true, true, true, true, true, false, false, true, true, true, true, false, false, true, true, false, false, false] rfl rfl rfl rfl (by kernel_rfl) (by decide) (by decide) (fun K hK => ?_) (fun K hK => ?_)
              · skip
                refine goes_ Try.func12 (by kernel_rfl) rfl #[.int .i64 x.f1] (by rfl) rfl rfl (by simp only [List.map_toArray, List.map_cons, List.map_nil]; rfl) ?_
                with_reducible refine (put_call _ _).mono ?_
                rintro e w5 ⟨rfl, hb⟩
                refine ⟨_, rfl, ?_⟩
                have n0_ := Aside0.mk (below_step HB.out hb)
                clear HB hb
                have HB := n0_
                clear n0_
                refine hK.out _ _ ⟨(keepS HT.out HB.out).1, (keepS HT.out HB.out).2.1, (keepS HT.out HB.out).2.2.1, (keepS HT.out HB.out).2.2.2⟩ (fun hHeld => ?_)
                clear hK K
                refine norm_ (a' := ?_) ?_ ?_
                rotate_left
                · show Act.put _ (some 27) _ = _
                  simp only [Act.put, List.setIfInBounds_toArray, List.set_cons_zero, List.set_cons_succ, i64_w, i32_w]
                  rfl
                refine pure_ (i := 6) (N := some 28) (v := ?_) (a' := ?_) #[true, true, true, true, true, true, true, true, true, true, false, false, false, true, true, false, false, false] rfl rfl (by kernel_rfl) (fun _ _ _ h => h) (Or.inl ⟨by rfl, ?_⟩) ?_ ?_
                rotate_left
                · intro w'
                  go_simp
                  with_reducible rfl
                rotate_left
                · simp only [Act.put, List.setIfInBounds_toArray, List.set_cons_zero, List.set_cons_succ, i64_w, i32_w]
                  rfl
                refine two_ (i := 10) (j := 15) (Ni := some 32) (Nj := some 37) #[true, true, true, true, true, true, true, true, true, true, true, false, false, true, true, false, false, false] #[true, true, true, true, true, true, true, true, true, true, false, false, false, true, true, true, false, false] rfl rfl rfl rfl (by kernel_rfl) (by decide) (by decide) (fun K hK => ?_) (fun K hK => ?_)
                · skip
                  have n0_ := Aside0.mk (below_alloc HB.out (.cells #[.int .u8 (IntKind.u8.wrap x.f2)] 5))
                  have HV := Aside0.mk (heap_alloc_new w5 (.cells #[.int .u8 (IntKind.u8.wrap x.f2)] 5))
                  clear HB
                  have HB := n0_
                  clear n0_
                  refine value_ (w1 := ?_) (v := ?_) (by rfl) rfl ?_ ?_
                  rotate_left 2
                  · go_simp
                    constructor
                    · rfl
                    · rfl
                  refine hK.out _ _ ⟨(keepS HT.out HB.out).1, (keepS HT.out HB.out).2.1, (keepS HT.out HB.out).2.2.1, (keepS HT.out HB.out).2.2.2⟩ (fun hHeld => ?_)
                  clear hK K
                  refine norm_ (a' := ?_) ?_ ?_
                  rotate_left
                  · show Act.put _ (some 32) _ = _
                    simp only [Act.put, List.setIfInBounds_toArray, List.set_cons_zero, List.set_cons_succ, i64_w, i32_w]
                    rfl
                  refine two_ (i := 11) (j := 15) (Ni := some 33) (Nj := some 37) #[true, true, true, true, true, true, true, true, true, true, true, true, false, true, true, false, false, false] #[true, true, true, true, true, true, true, true, true, true, true, false, false, true, true, true, false, false] rfl rfl rfl rfl (by kernel_rfl) (by decide) (by decide) (fun K hK => ?_) (fun K hK => ?_)
                  · skip
                    have C0 := cv_run HV.out
                    refine value_ (w1 := ?_) (v := ?_) (by rfl) rfl ?_ ?_
                    rotate_left 2
                    · go_simp
                      constructor
                      · rfl
                      · rfl
                    clear C0
                    refine hK.out _ _ ⟨(keepS HT.out HB.out).1, (keepS HT.out HB.out).2.1, (keepS HT.out HB.out).2.2.1, (keepS HT.out HB.out).2.2.2⟩ (fun hHeld => ?_)
                    clear hK K
                    refine norm_ (a' := ?_) ?_ ?_
                    rotate_left
                    · show Act.put _ (some 33) _ = _
                      simp only [Act.put, List.setIfInBounds_toArray, List.set_cons_zero, List.set_cons_succ, i64_w, i32_w]
                      rfl
                    refine pure_ (i := 12) (N := some 34) (v := ?_) (a' := ?_) #[true, true, true, true, true, true, true, true, true, true, true, true, true, true, true, false, false, false] rfl rfl (by kernel_rfl) (fun _ _ _ h => h) (Or.inl ⟨by rfl, ?_⟩) ?_ ?_
                    rotate_left
                    · intro w'
                      go_simp
                      with_reducible rfl
                    rotate_left
                    · simp only [Act.put, List.setIfInBounds_toArray, List.set_cons_zero, List.set_cons_succ, i64_w, i32_w]
                      rfl
                    refine one_ (i := 15) (N := some 37) #[true, true, true, true, true, true, true, true, true, true, true, true, true, true, true, true, false, false] rfl rfl (by kernel_rfl) (by decide) (fun K hK => ?_)
                    refine goes_ Try.func47 (by kernel_rfl) rfl #[.string x.f3] (by rfl) rfl rfl (by simp only [List.map_toArray, List.map_cons, List.map_nil]; rfl) ?_
                    with_reducible refine (szd_call _ _ hk3).mono ?_
                    rintro e w6 ⟨rfl, hb⟩
                    refine ⟨_, rfl, ?_⟩
                    have n0_ := Aside0.mk (below_step HB.out hb)
                    have n1_ := Aside0.mk ((hb.block _ (blk_lt HV.out)).trans HV.out)
                    clear HV
                    have HV := n1_
                    clear n1_
                    clear HB hb
                    have HB := n0_
                    clear n0_
                    refine hK.out _ _ ⟨(keepS HT.out HB.out).1, (keepS HT.out HB.out).2.1, (keepS HT.out HB.out).2.2.1, (keepS HT.out HB.out).2.2.2⟩ (fun hHeld => ?_)
                    clear hK K
                    refine norm_ (a' := ?_) ?_ ?_
                    rotate_left
                    · show Act.put _ (some 37) _ = _
                      simp only [Act.put, List.setIfInBounds_toArray, List.set_cons_zero, List.set_cons_succ, i64_w, i32_w]
                      rfl
                    exact norm_ (by simp only [putAll, Act.put, List.setIfInBounds_toArray, List.set_cons_zero, List.set_cons_succ]) (hCont (w5.heap.size) _ HB.out)
                  · skip
                    refine goes_ Try.func47 (by kernel_rfl) rfl #[.string x.f3] (by rfl) rfl rfl (by simp only [List.map_toArray, List.map_cons, List.map_nil]; rfl) ?_
                    with_reducible refine (szd_call _ _ hk3).mono ?_
                    rintro e w6 ⟨rfl, hb⟩
                    refine ⟨_, rfl, ?_⟩
                    have n0_ := Aside0.mk (below_step HB.out hb)
                    have n1_ := Aside0.mk ((hb.block _ (blk_lt HV.out)).trans HV.out)
                    clear HV
                    have HV := n1_
                    clear n1_
                    clear HB hb
                    have HB := n0_
                    clear n0_
                    refine hK.out _ _ ⟨(keepS HT.out HB.out).1, (keepS HT.out HB.out).2.1, (keepS HT.out HB.out).2.2.1, (keepS HT.out HB.out).2.2.2⟩ (fun hHeld => ?_)
                    clear hK K
                    refine norm_ (a' := ?_) ?_ ?_
                    rotate_left
                    · show Act.put _ (some 37) _ = _
                      simp only [Act.put, List.setIfInBounds_toArray, List.set_cons_zero, List.set_cons_succ, i64_w, i32_w]
                      rfl
                    refine one_ (i := 11) (N := some 33) #[true, true, true, true, true, true, true, true, true, true, true, true, false, true, true, true, false, false] rfl rfl (by kernel_rfl) (by decide) (fun K hK => ?_)
                    have C0 := cv_run HV.out
                    refine value_ (w1 := ?_) (v := ?_) (by rfl) rfl ?_ ?_
                    rotate_left 2
                    · go_simp
                      constructor
                      · rfl
                      · rfl
                    clear C0
                    refine hK.out _ _ ⟨(keepS HT.out HB.out).1, (keepS HT.out HB.out).2.1, (keepS HT.out HB.out).2.2.1, (keepS HT.out HB.out).2.2.2⟩ (fun hHeld => ?_)
                    clear hK K
                    refine norm_ (a' := ?_) ?_ ?_
                    rotate_left
                    · show Act.put _ (some 33) _ = _
                      simp only [Act.put, List.setIfInBounds_toArray, List.set_cons_zero, List.set_cons_succ, i64_w, i32_w]
                      rfl
                    refine pure_ (i := 12) (N := some 34) (v := ?_) (a' := ?_) #[true, true, true, true, true, true, true, true, true, true, true, true, true, true, true, true, false, false] rfl rfl (by kernel_rfl) (fun _ _ _ h => h) (Or.inl ⟨by rfl, ?_⟩) ?_ ?_
                    rotate_left
                    · intro w'
                      go_simp
                      with_reducible rfl
                    rotate_left
                    · simp only [Act.put, List.setIfInBounds_toArray, List.set_cons_zero, List.set_cons_succ, i64_w, i32_w]
                      rfl
                    exact norm_ (by simp only [putAll, Act.put, List.setIfInBounds_toArray, List.set_cons_zero, List.set_cons_succ]) (hCont (w5.heap.size) _ HB.out)
                · skip
                  refine goes_ Try.func47 (by kernel_rfl) rfl #[.string x.f3] (by rfl) rfl rfl (by simp only [List.map_toArray, List.map_cons, List.map_nil]; rfl) ?_
                  with_reducible refine (szd_call _ _ hk3).mono ?_
                  rintro e w6 ⟨rfl, hb⟩
                  refine ⟨_, rfl, ?_⟩
                  have n0_ := Aside0.mk (below_step HB.out hb)
                  clear HB hb
                  have HB := n0_
                  clear n0_
                  refine hK.out _ _ ⟨(keepS HT.out HB.out).1, (keepS HT.out HB.out).2.1, (keepS HT.out HB.out).2.2.1, (keepS HT.out HB.out).2.2.2⟩ (fun hHeld => ?_)
                  clear hK K
                  refine norm_ (a' := ?_) ?_ ?_
                  rotate_left
                  · show Act.put _ (some 37) _ = _
                    simp only [Act.put, List.setIfInBounds_toArray, List.set_cons_zero, List.set_cons_succ, i64_w, i32_w]
                    rfl
                  refine one_ (i := 10) (N := some 32) #[true, true, true, true, true, true, true, true, true, true, true, false, false, true, true, true, false, false] rfl rfl (by kernel_rfl) (by decide) (fun K hK => ?_)
                  have n0_ := Aside0.mk (below_alloc HB.out (.cells #[.int .u8 (IntKind.u8.wrap x.f2)] 5))
                  have HV := Aside0.mk (heap_alloc_new w6 (.cells #[.int .u8 (IntKind.u8.wrap x.f2)] 5))
                  clear HB
                  have HB := n0_
                  clear n0_
                  refine value_ (w1 := ?_) (v := ?_) (by rfl) rfl ?_ ?_
                  rotate_left 2
                  · go_simp
                    constructor
                    · rfl
                    · rfl
                  refine hK.out _ _ ⟨(keepS HT.out HB.out).1, (keepS HT.out HB.out).2.1, (keepS HT.out HB.out).2.2.1, (keepS HT.out HB.out).2.2.2⟩ (fun hHeld => ?_)
                  clear hK K
                  refine norm_ (a' := ?_) ?_ ?_
                  rotate_left
                  · show Act.put _ (some 32) _ = _
                    simp only [Act.put, List.setIfInBounds_toArray, List.set_cons_zero, List.set_cons_succ, i64_w, i32_w]
                    rfl
                  refine one_ (i := 11) (N := some 33) #[true, true, true, true, true, true, true, true, true, true, true, true, false, true, true, true, false, false] rfl rfl (by kernel_rfl) (by decide) (fun K hK => ?_)
                  have C0 := cv_run HV.out
                  refine value_ (w1 := ?_) (v := ?_) (by rfl) rfl ?_ ?_
                  rotate_left 2
                  · go_simp
                    constructor
                    · rfl
                    · rfl
                  clear C0
                  refine hK.out _ _ ⟨(keepS HT.out HB.out).1, (keepS HT.out HB.out).2.1, (keepS HT.out HB.out).2.2.1, (keepS HT.out HB.out).2.2.2⟩ (fun hHeld => ?_)
                  clear hK K
                  refine norm_ (a' := ?_) ?_ ?_
                  rotate_left
                  · show Act.put _ (some 33) _ = _
                    simp only [Act.put, List.setIfInBounds_toArray, List.set_cons_zero, List.set_cons_succ, i64_w, i32_w]
                    rfl
                  refine pure_ (i := 12) (N := some 34) (v := ?_) (a' := ?_) #[true, true, true, true, true, true, true, true, true, true, true, true, true, true, true, true, false, false] rfl rfl (by kernel_rfl) (fun _ _ _ h => h) (Or.inl ⟨by rfl, ?_⟩) ?_ ?_
                  rotate_left
                  · intro w'
                    go_simp
                    with_reducible rfl
                  rotate_left
                  · simp only [Act.put, List.setIfInBounds_toArray, List.set_cons_zero, List.set_cons_succ, i64_w, i32_w]
                    rfl
                  exact norm_ (by simp only [putAll, Act.put, List.setIfInBounds_toArray, List.set_cons_zero, List.set_cons_succ]) (hCont (w6.heap.size) _ HB.out)
              · skip
                have n0_ := Aside0.mk (below_alloc HB.out (.cells #[.int .u8 (IntKind.u8.wrap x.f2)] 5))
                have HV := Aside0.mk (heap_alloc_new w4 (.cells #[.int .u8 (IntKind.u8.wrap x.f2)] 5))
                clear HB
                have HB := n0_
                clear n0_
                refine value_ (w1 := ?_) (v := ?_) (by rfl) rfl ?_ ?_
                rotate_left 2
                · go_simp
                  constructor
                  · rfl
                  · rfl
                refine hK.out _ _ ⟨(keepS HT.out HB.out).1, (keepS HT.out HB.out).2.1, (keepS HT.out HB.out).2.2.1, (keepS HT.out HB.out).2.2.2⟩ (fun hHeld => ?_)
                clear hK K
                refine norm_ (a' := ?_) ?_ ?_
                rotate_left
                · show Act.put _ (some 32) _ = _
                  simp only [Act.put, List.setIfInBounds_toArray, List.set_cons_zero, List.set_cons_succ, i64_w, i32_w]
                  rfl
                refine two_ (i := 5) (j := 11) (Ni := some 27) (Nj := some 33) #[true, true, true, true, true, true, false, true, true, true, true, false, false, true, true, false, false, false] #[true, true, true, true, true, false, false, true, true, true, true, true, false, true, true, false, false, false] rfl rfl rfl rfl (by kernel_rfl) (by decide) (by decide) (fun K hK => ?_) (fun K hK => ?_)
                · skip
                  refine goes_ Try.func12 (by kernel_rfl) rfl #[.int .i64 x.f1] (by rfl) rfl rfl (by simp only [List.map_toArray, List.map_cons, List.map_nil]; rfl) ?_
                  with_reducible refine (put_call _ _).mono ?_
                  rintro e w5 ⟨rfl, hb⟩
                  refine ⟨_, rfl, ?_⟩
                  have n0_ := Aside0.mk (below_step HB.out hb)
                  have n1_ := Aside0.mk ((hb.block _ (blk_lt HV.out)).trans HV.out)
                  clear HV
                  have HV := n1_
                  clear n1_
                  clear HB hb
                  have HB := n0_
                  clear n0_
                  refine hK.out _ _ ⟨(keepS HT.out HB.out).1, (keepS HT.out HB.out).2.1, (keepS HT.out HB.out).2.2.1, (keepS HT.out HB.out).2.2.2⟩ (fun hHeld => ?_)
                  clear hK K
                  refine norm_ (a' := ?_) ?_ ?_
                  rotate_left
                  · show Act.put _ (some 27) _ = _
                    simp only [Act.put, List.setIfInBounds_toArray, List.set_cons_zero, List.set_cons_succ, i64_w, i32_w]
                    rfl
                  refine pure_ (i := 6) (N := some 28) (v := ?_) (a' := ?_) #[true, true, true, true, true, true, true, true, true, true, true, false, false, true, true, false, false, false] rfl rfl (by kernel_rfl) (fun _ _ _ h => h) (Or.inl ⟨by rfl, ?_⟩) ?_ ?_
                  rotate_left
                  · intro w'
                    go_simp
                    with_reducible rfl
                  rotate_left
                  · simp only [Act.put, List.setIfInBounds_toArray, List.set_cons_zero, List.set_cons_succ, i64_w, i32_w]
                    rfl
                  refine two_ (i := 11) (j := 15) (Ni := some 33) (Nj := some 37) #[true, true, true, true, true, true, true, true, true, true, true, true, false, true, true, false, false, false] #[true, true, true, true, true, true, true, true, true, true, true, false, false, true, true, true, false, false] rfl rfl rfl rfl (by kernel_rfl) (by decide) (by decide) (fun K hK => ?_) (fun K hK => ?_)
                  · skip
                    have C0 := cv_run HV.out
                    refine value_ (w1 := ?_) (v := ?_) (by rfl) rfl ?_ ?_
                    rotate_left 2
                    · go_simp
                      constructor
                      · rfl
                      · rfl
                    clear C0
                    refine hK.out _ _ ⟨(keepS HT.out HB.out).1, (keepS HT.out HB.out).2.1, (keepS HT.out HB.out).2.2.1, (keepS HT.out HB.out).2.2.2⟩ (fun hHeld => ?_)
                    clear hK K
                    refine norm_ (a' := ?_) ?_ ?_
                    rotate_left
                    · show Act.put _ (some 33) _ = _
                      simp only [Act.put, List.setIfInBounds_toArray, List.set_cons_zero, List.set_cons_succ, i64_w, i32_w]
                      rfl
                    refine pure_ (i := 12) (N := some 34) (v := ?_) (a' := ?_) #[true, true, true, true, true, true, true, true, true, true, true, true, true, true, true, false, false, false] rfl rfl (by kernel_rfl) (fun _ _ _ h => h) (Or.inl ⟨by rfl, ?_⟩) ?_ ?_
                    rotate_left
                    · intro w'
                      go_simp
                      with_reducible rfl
                    rotate_left
                    · simp only [Act.put, List.setIfInBounds_toArray, List.set_cons_zero, List.set_cons_succ, i64_w, i32_w]
                      rfl
                    refine one_ (i := 15) (N := some 37) #[true, true, true, true, true, true, true, true, true, true, true, true, true, true, true, true, false, false] rfl rfl (by kernel_rfl) (by decide) (fun K hK => ?_)
                    refine goes_ Try.func47 (by kernel_rfl) rfl #[.string x.f3] (by rfl) rfl rfl (by simp only [List.map_toArray, List.map_cons, List.map_nil]; rfl) ?_
                    with_reducible refine (szd_call _ _ hk3).mono ?_
                    rintro e w6 ⟨rfl, hb⟩
                    refine ⟨_, rfl, ?_⟩
                    have n0_ := Aside0.mk (below_step HB.out hb)
                    have n1_ := Aside0.mk ((hb.block _ (blk_lt HV.out)).trans HV.out)
                    clear HV
                    have HV := n1_
                    clear n1_
                    clear HB hb
                    have HB := n0_
                    clear n0_
                    refine hK.out _ _ ⟨(keepS HT.out HB.out).1, (keepS HT.out HB.out).2.1, (keepS HT.out HB.out).2.2.1, (keepS HT.out HB.out).2.2.2⟩ (fun hHeld => ?_)
                    clear hK K
                    refine norm_ (a' := ?_) ?_ ?_
                    rotate_left
                    · show Act.put _ (some 37) _ = _
                      simp only [Act.put, List.setIfInBounds_toArray, List.set_cons_zero, List.set_cons_succ, i64_w, i32_w]
                      rfl
                    exact norm_ (by simp only [putAll, Act.put, List.setIfInBounds_toArray, List.set_cons_zero, List.set_cons_succ]) (hCont (w4.heap.size) _ HB.out)
                  · skip
                    refine goes_ Try.func47 (by kernel_rfl) rfl #[.string x.f3] (by rfl) rfl rfl (by simp only [List.map_toArray, List.map_cons, List.map_nil]; rfl) ?_
                    with_reducible refine (szd_call _ _ hk3).mono ?_
                    rintro e w6 ⟨rfl, hb⟩
                    refine ⟨_, rfl, ?_⟩
                    have n0_ := Aside0.mk (below_step HB.out hb)
                    have n1_ := Aside0.mk ((hb.block _ (blk_lt HV.out)).trans HV.out)
                    clear HV
                    have HV := n1_
                    clear n1_
                    clear HB hb
                    have HB := n0_
                    clear n0_
                    refine hK.out _ _ ⟨(keepS HT.out HB.out).1, (keepS HT.out HB.out).2.1, (keepS HT.out HB.out).2.2.1, (keepS HT.out HB.out).2.2.2⟩ (fun hHeld => ?_)
                    clear hK K
                    refine norm_ (a' := ?_) ?_ ?_
                    rotate_left
                    · show Act.put _ (some 37) _ = _
                      simp only [Act.put, List.setIfInBounds_toArray, List.set_cons_zero, List.set_cons_succ, i64_w, i32_w]
                      rfl
                    refine one_ (i := 11) (N := some 33) #[true, true, true, true, true, true, true, true, true, true, true, true, false, true, true, true, false, false] rfl rfl (by kernel_rfl) (by decide) (fun K hK => ?_)
                    have C0 := cv_run HV.out
                    refine value_ (w1 := ?_) (v := ?_) (by rfl) rfl ?_ ?_
                    rotate_left 2
                    · go_simp
                      constructor
                      · rfl
                      · rfl
                    clear C0
                    refine hK.out _ _ ⟨(keepS HT.out HB.out).1, (keepS HT.out HB.out).2.1, (keepS HT.out HB.out).2.2.1, (keepS HT.out HB.out).2.2.2⟩ (fun hHeld => ?_)
                    clear hK K
                    refine norm_ (a' := ?_) ?_ ?_
                    rotate_left
                    · show Act.put _ (some 33) _ = _
                      simp only [Act.put, List.setIfInBounds_toArray, List.set_cons_zero, List.set_cons_succ, i64_w, i32_w]
                      rfl
                    refine pure_ (i := 12) (N := some 34) (v := ?_) (a' := ?_) #[true, true, true, true, true, true, true, true, true, true, true, true, true, true, true, true, false, false] rfl rfl (by kernel_rfl) (fun _ _ _ h => h) (Or.inl ⟨by rfl, ?_⟩) ?_ ?_
                    rotate_left
                    · intro w'
                      go_simp
                      with_reducible rfl
                    rotate_left
                    · simp only [Act.put, List.setIfInBounds_toArray, List.set_cons_zero, List.set_cons_succ, i64_w, i32_w]
                      rfl
                    exact norm_ (by simp only [putAll, Act.put, List.setIfInBounds_toArray, List.set_cons_zero, List.set_cons_succ]) (hCont (w4.heap.size) _ HB.out)
                · skip
                  have C0 := cv_run HV.out
                  refine value_ (w1 := ?_) (v := ?_) (by rfl) rfl ?_ ?_
                  rotate_left 2
                  · go_simp
                    constructor
                    · rfl
                    · rfl
                  clear C0
                  refine hK.out _ _ ⟨(keepS HT.out HB.out).1, (keepS HT.out HB.out).2.1, (keepS HT.out HB.out).2.2.1, (keepS HT.out HB.out).2.2.2⟩ (fun hHeld => ?_)
                  clear hK K
                  refine norm_ (a' := ?_) ?_ ?_
                  rotate_left
                  · show Act.put _ (some 33) _ = _
                    simp only [Act.put, List.setIfInBounds_toArray, List.set_cons_zero, List.set_cons_succ, i64_w, i32_w]
                    rfl
                  refine one_ (i := 5) (N := some 27) #[true, true, true, true, true, true, false, true, true, true, true, true, false, true, true, false, false, false] rfl rfl (by kernel_rfl) (by decide) (fun K hK => ?_)
                  refine goes_ Try.func12 (by kernel_rfl) rfl #[.int .i64 x.f1] (by rfl) rfl rfl (by simp only [List.map_toArray, List.map_cons, List.map_nil]; rfl) ?_
                  with_reducible refine (put_call _ _).mono ?_
                  rintro e w5 ⟨rfl, hb⟩
                  refine ⟨_, rfl, ?_⟩
                  have n0_ := Aside0.mk (below_step HB.out hb)
                  have n1_ := Aside0.mk ((hb.block _ (blk_lt HV.out)).trans HV.out)
                  clear HV
                  have HV := n1_
                  clear n1_
                  clear HB hb
                  have HB := n0_
                  clear n0_
                  refine hK.out _ _ ⟨(keepS HT.out HB.out).1, (keepS HT.out HB.out).2.1, (keepS HT.out HB.out).2.2.1, (keepS HT.out HB.out).2.2.2⟩ (fun hHeld => ?_)
                  clear hK K
                  refine norm_ (a' := ?_) ?_ ?_
                  rotate_left
                  · show Act.put _ (some 27) _ = _
                    simp only [Act.put, List.setIfInBounds_toArray, List.set_cons_zero, List.set_cons_succ, i64_w, i32_w]
                    rfl
                  refine pure_ (i := 6) (N := some 28) (v := ?_) (a' := ?_) #[true, true, true, true, true, true, true, true, true, true, true, true, false, true, true, false, false, false] rfl rfl (by kernel_rfl) (fun _ _ _ h => h) (Or.inl ⟨by rfl, ?_⟩) ?_ ?_
                  rotate_left
                  · intro w'
                    go_simp
                    with_reducible rfl
                  rotate_left
                  · simp only [Act.put, List.setIfInBounds_toArray, List.set_cons_zero, List.set_cons_succ, i64_w, i32_w]
                    rfl
                  refine pure_ (i := 12) (N := some 34) (v := ?_) (a' := ?_) #[true, true, true, true, true, true, true, true, true, true, true, true, true, true, true, false, false, false] rfl rfl (by kernel_rfl) (fun _ _ _ h => h) (Or.inl ⟨by rfl, ?_⟩) ?_ ?_
                  rotate_left
                  · intro w'
                    go_simp
                    with_reducible rfl
                  rotate_left
                  · simp only [Act.put, List.setIfInBounds_toArray, List.set_cons_zero, List.set_cons_succ, i64_w, i32_w]
                    rfl
                  refine one_ (i := 15) (N := some 37) #[true, true, true, true, true, true, true, true, true, true, true, true, true, true, true, true, false, false] rfl rfl (by kernel_rfl) (by decide) (fun K hK => ?_)
                  refine goes_ Try.func47 (by kernel_rfl) rfl #[.string x.f3] (by rfl) rfl rfl (by simp only [List.map_toArray, List.map_cons, List.map_nil]; rfl) ?_
                  with_reducible refine (szd_call _ _ hk3).mono ?_
                  rintro e w6 ⟨rfl, hb⟩
                  refine ⟨_, rfl, ?_⟩
                  have n0_ := Aside0.mk (below_step HB.out hb)
                  have n1_ := Aside0.mk ((hb.block _ (blk_lt HV.out)).trans HV.out)
                  clear HV
                  have HV := n1_
                  clear n1_
                  clear HB hb
                  have HB := n0_
                  clear n0_
                  refine hK.out _ _ ⟨(keepS HT.out HB.out).1, (keepS HT.out HB.out).2.1, (keepS HT.out HB.out).2.2.1, (keepS HT.out HB.out).2.2.2⟩ (fun hHeld => ?_)
                  clear hK K
                  refine norm_ (a' := ?_) ?_ ?_
                  rotate_left
                  · show Act.put _ (some 37) _ = _
                    simp only [Act.put, List.setIfInBounds_toArray, List.set_cons_zero, List.set_cons_succ, i64_w, i32_w]
                    rfl
                  exact norm_ (by simp only [putAll, Act.put, List.setIfInBounds_toArray, List.set_cons_zero, List.set_cons_succ]) (hCont (w4.heap.size) _ HB.out)
            · skip
              have n0_ := Aside0.mk (below_alloc HB.out (.cells #[.int .u8 (IntKind.u8.wrap x.f2)] 5))
              have HV := Aside0.mk (heap_alloc_new wd (.cells #[.int .u8 (IntKind.u8.wrap x.f2)] 5))
              clear HB
              have HB := n0_
              clear n0_
              refine value_ (w1 := ?_) (v := ?_) (by rfl) rfl ?_ ?_
              rotate_left 2
              · go_simp
                constructor
                · rfl
                · rfl
              refine hK.out _ _ ⟨(keepS HT.out HB.out).1, (keepS HT.out HB.out).2.1, (keepS HT.out HB.out).2.2.1, (keepS HT.out HB.out).2.2.2⟩ (fun hHeld => ?_)
              clear hK K
              refine norm_ (a' := ?_) ?_ ?_
              rotate_left
              · show Act.put _ (some 32) _ = _
                simp only [Act.put, List.setIfInBounds_toArray, List.set_cons_zero, List.set_cons_succ, i64_w, i32_w]
                rfl
              refine two_ (i := 2) (j := 11) (Ni := some 24) (Nj := some 33) #[true, true, true, true, true, false, false, true, true, true, true, false, false, true, true, false, false, false] #[true, true, false, true, true, false, false, true, true, true, true, true, false, true, true, false, false, false] rfl rfl rfl rfl (by kernel_rfl) (by decide) (by decide) (fun K hK => ?_) (fun K hK => ?_)
              · skip
                refine goes_ Try.func47 (by kernel_rfl) rfl #[.string x.f0] (by rfl) rfl rfl (by simp only [List.map_toArray, List.map_cons, List.map_nil]; rfl) ?_
                with_reducible refine (szd_call _ _ hk0).mono ?_
                rintro e w4 ⟨rfl, hb⟩
                refine ⟨_, rfl, ?_⟩
                have n0_ := Aside0.mk (below_step HB.out hb)
                have n1_ := Aside0.mk ((hb.block _ (blk_lt HV.out)).trans HV.out)
                clear HV
                have HV := n1_
                clear n1_
                clear HB hb
                have HB := n0_
                clear n0_
                refine hK.out _ _ ⟨(keepS HT.out HB.out).1, (keepS HT.out HB.out).2.1, (keepS HT.out HB.out).2.2.1, (keepS HT.out HB.out).2.2.2⟩ (fun hHeld => ?_)
                clear hK K
                refine norm_ (a' := ?_) ?_ ?_
                rotate_left
                · show Act.put _ (some 24) _ = _
                  simp only [Act.put, List.setIfInBounds_toArray, List.set_cons_zero, List.set_cons_succ, i64_w, i32_w]
                  rfl
                refine two_ (i := 5) (j := 11) (Ni := some 27) (Nj := some 33) #[true, true, true, true, true, true, false, true, true, true, true, false, false, true, true, false, false, false] #[true, true, true, true, true, false, false, true, true, true, true, true, false, true, true, false, false, false] rfl rfl rfl rfl (by kernel_rfl) (by decide) (by decide) (fun K hK => ?_) (fun K hK => ?_)
                · skip
                  refine goes_ Try.func12 (by kernel_rfl) rfl #[.int .i64 x.f1] (by rfl) rfl rfl (by simp only [List.map_toArray, List.map_cons, List.map_nil]; rfl) ?_
                  with_reducible refine (put_call _ _).mono ?_
                  rintro e w5 ⟨rfl, hb⟩
                  refine ⟨_, rfl, ?_⟩
                  have n0_ := Aside0.mk (below_step HB.out hb)
                  have n1_ := Aside0.mk ((hb.block _ (blk_lt HV.out)).trans HV.out)
                  clear HV
                  have HV := n1_
                  clear n1_
                  clear HB hb
                  have HB := n0_
                  clear n0_
                  refine hK.out _ _ ⟨(keepS HT.out HB.out).1, (keepS HT.out HB.out).2.1, (keepS HT.out HB.out).2.2.1, (keepS HT.out HB.out).2.2.2⟩ (fun hHeld => ?_)
                  clear hK K
                  refine norm_ (a' := ?_) ?_ ?_
                  rotate_left
                  · show Act.put _ (some 27) _ = _
                    simp only [Act.put, List.setIfInBounds_toArray, List.set_cons_zero, List.set_cons_succ, i64_w, i32_w]
                    rfl
                  refine pure_ (i := 6) (N := some 28) (v := ?_) (a' := ?_) #[true, true, true, true, true, true, true, true, true, true, true, false, false, true, true, false, false, false] rfl rfl (by kernel_rfl) (fun _ _ _ h => h) (Or.inl ⟨by rfl, ?_⟩) ?_ ?_
                  rotate_left
                  · intro w'
                    go_simp
                    with_reducible rfl
                  rotate_left
                  · simp only [Act.put, List.setIfInBounds_toArray, List.set_cons_zero, List.set_cons_succ, i64_w, i32_w]
                    rfl
                  refine two_ (i := 11) (j := 15) (Ni := some 33) (Nj := some 37) #[true, true, true, true, true, true, true, true, true, true, true, true, false, true, true, false, false, false] #[true, true, true, true, true, true, true, true, true, true, true, false, false, true, true, true, false, false] rfl rfl rfl rfl (by kernel_rfl) (by decide) (by decide) (fun K hK => ?_) (fun K hK => ?_)
                  · skip
                    have C0 := cv_run HV.out
                    refine value_ (w1 := ?_) (v := ?_) (by rfl) rfl ?_ ?_
                    rotate_left 2
                    · go_simp
                      constructor
                      · rfl
                      · rfl
                    clear C0
                    refine hK.out _ _ ⟨(keepS HT.out HB.out).1, (keepS HT.out HB.out).2.1, (keepS HT.out HB.out).2.2.1, (keepS HT.out HB.out).2.2.2⟩ (fun hHeld => ?_)
                    clear hK K
                    refine norm_ (a' := ?_) ?_ ?_
                    rotate_left
                    · show Act.put _ (some 33) _ = _
                      simp only [Act.put, List.setIfInBounds_toArray, List.set_cons_zero, List.set_cons_succ, i64_w, i32_w]
                      rfl
                    refine pure_ (i := 12) (N := some 34) (v := ?_) (a' := ?_) #[true, true, true, true, true, true, true, true, true, true, true, true, true, true, true, false, false, false] rfl rfl (by kernel_rfl) (fun _ _ _ h => h) (Or.inl ⟨by rfl, ?_⟩) ?_ ?_
                    rotate_left
                    · intro w'
                      go_simp
                      with_reducible rfl
                    rotate_left
                    · simp only [Act.put, List.setIfInBounds_toArray, List.set_cons_zero, List.set_cons_succ, i64_w, i32_w]
                      rfl
                    refine one_ (i := 15) (N := some 37) #[true, true, true, true, true, true, true, true, true, true, true, true, true, true, true, true, false, false] rfl rfl (by kernel_rfl) (by decide) (fun K hK => ?_)
                    refine goes_ Try.func47 (by kernel_rfl) rfl #[.string x.f3] (by rfl) rfl rfl (by simp only [List.map_toArray, List.map_cons, List.map_nil]; rfl) ?_
                    with_reducible refine (szd_call _ _ hk3).mono ?_
                    rintro e w6 ⟨rfl, hb⟩
                    refine ⟨_, rfl, ?_⟩
                    have n0_ := Aside0.mk (below_step HB.out hb)
                    have n1_ := Aside0.mk ((hb.block _ (blk_lt HV.out)).trans HV.out)
                    clear HV
                    have HV := n1_
                    clear n1_
                    clear HB hb
                    have HB := n0_
                    clear n0_
                    refine hK.out _ _ ⟨(keepS HT.out HB.out).1, (keepS HT.out HB.out).2.1, (keepS HT.out HB.out).2.2.1, (keepS HT.out HB.out).2.2.2⟩ (fun hHeld => ?_)
                    clear hK K
                    refine norm_ (a' := ?_) ?_ ?_
                    rotate_left
                    · show Act.put _ (some 37) _ = _
                      simp only [Act.put, List.setIfInBounds_toArray, List.set_cons_zero, List.set_cons_succ, i64_w, i32_w]
                      rfl
                    exact norm_ (by simp only [putAll, Act.put, List.setIfInBounds_toArray, List.set_cons_zero, List.set_cons_succ]) (hCont (wd.heap.size) _ HB.out)
                  · skip
                    refine goes_ Try.func47 (by kernel_rfl) rfl #[.string x.f3] (by rfl) rfl rfl (by simp only [List.map_toArray, List.map_cons, List.map_nil]; rfl) ?_
                    with_reducible refine (szd_call _ _ hk3).mono ?_
                    rintro e w6 ⟨rfl, hb⟩
                    refine ⟨_, rfl, ?_⟩
                    have n0_ := Aside0.mk (below_step HB.out hb)
                    have n1_ := Aside0.mk ((hb.block _ (blk_lt HV.out)).trans HV.out)
                    clear HV
                    have HV := n1_
                    clear n1_
                    clear HB hb
                    have HB := n0_
                    clear n0_
                    refine hK.out _ _ ⟨(keepS HT.out HB.out).1, (keepS HT.out HB.out).2.1, (keepS HT.out HB.out).2.2.1, (keepS HT.out HB.out).2.2.2⟩ (fun hHeld => ?_)
                    clear hK K
                    refine norm_ (a' := ?_) ?_ ?_
                    rotate_left
                    · show Act.put _ (some 37) _ = _
                      simp only [Act.put, List.setIfInBounds_toArray, List.set_cons_zero, List.set_cons_succ, i64_w, i32_w]
                      rfl
                    refine one_ (i := 11) (N := some 33) #[true, true, true, true, true, true, true, true, true, true, true, true, false, true, true, true, false, false] rfl rfl (by kernel_rfl) (by decide) (fun K hK => ?_)
                    have C0 := cv_run HV.out
                    refine value_ (w1 := ?_) (v := ?_) (by rfl) rfl ?_ ?_
                    rotate_left 2
                    · go_simp
                      constructor
                      · rfl
                      · rfl
                    clear C0
                    refine hK.out _ _ ⟨(keepS HT.out HB.out).1, (keepS HT.out HB.out).2.1, (keepS HT.out HB.out).2.2.1, (keepS HT.out HB.out).2.2.2⟩ (fun hHeld => ?_)
                    clear hK K
                    refine norm_ (a' := ?_) ?_ ?_
                    rotate_left
                    · show Act.put _ (some 33) _ = _
                      simp only [Act.put, List.setIfInBounds_toArray, List.set_cons_zero, List.set_cons_succ, i64_w, i32_w]
                      rfl
                    refine pure_ (i := 12) (N := some 34) (v := ?_) (a' := ?_) #[true, true, true, true, true, true, true, true, true, true, true, true, true, true, true, true, false, false] rfl rfl (by kernel_rfl) (fun _ _ _ h => h) (Or.inl ⟨by rfl, ?_⟩) ?_ ?_
                    rotate_left
                    · intro w'
                      go_simp
                      with_reducible rfl
                    rotate_left
                    · simp only [Act.put, List.setIfInBounds_toArray, List.set_cons_zero, List.set_cons_succ, i64_w, i32_w]
                      rfl
                    exact norm_ (by simp only [putAll, Act.put, List.setIfInBounds_toArray, List.set_cons_zero, List.set_cons_succ]) (hCont (wd.heap.size) _ HB.out)
                · skip
                  have C0 := cv_run HV.out
                  refine value_ (w1 := ?_) (v := ?_) (by rfl) rfl ?_ ?_
                  rotate_left 2
                  · go_simp
                    constructor
                    · rfl
                    · rfl
                  clear C0
                  refine hK.out _ _ ⟨(keepS HT.out HB.out).1, (keepS HT.out HB.out).2.1, (keepS HT.out HB.out).2.2.1, (keepS HT.out HB.out).2.2.2⟩ (fun hHeld => ?_)
                  clear hK K
                  refine norm_ (a' := ?_) ?_ ?_
                  rotate_left
                  · show Act.put _ (some 33) _ = _
                    simp only [Act.put, List.setIfInBounds_toArray, List.set_cons_zero, List.set_cons_succ, i64_w, i32_w]
                    rfl
                  refine one_ (i := 5) (N := some 27) #[true, true, true, true, true, true, false, true, true, true, true, true, false, true, true, false, false, false] rfl rfl (by kernel_rfl) (by decide) (fun K hK => ?_)
                  refine goes_ Try.func12 (by kernel_rfl) rfl #[.int .i64 x.f1] (by rfl) rfl rfl (by simp only [List.map_toArray, List.map_cons, List.map_nil]; rfl) ?_
                  with_reducible refine (put_call _ _).mono ?_
                  rintro e w5 ⟨rfl, hb⟩
                  refine ⟨_, rfl, ?_⟩
                  have n0_ := Aside0.mk (below_step HB.out hb)
                  have n1_ := Aside0.mk ((hb.block _ (blk_lt HV.out)).trans HV.out)
                  clear HV
                  have HV := n1_
                  clear n1_
                  clear HB hb
                  have HB := n0_
                  clear n0_
                  refine hK.out _ _ ⟨(keepS HT.out HB.out).1, (keepS HT.out HB.out).2.1, (keepS HT.out HB.out).2.2.1, (keepS HT.out HB.out).2.2.2⟩ (fun hHeld => ?_)
                  clear hK K
                  refine norm_ (a' := ?_) ?_ ?_
                  rotate_left
                  · show Act.put _ (some 27) _ = _
                    simp only [Act.put, List.setIfInBounds_toArray, List.set_cons_zero, List.set_cons_succ, i64_w, i32_w]
                    rfl
                  refine pure_ (i := 6) (N := some 28) (v := ?_) (a' := ?_) #[true, true, true, true, true, true, true, true, true, true, true, true, false, true, true, false, false, false] rfl rfl (by kernel_rfl) (fun _ _ _ h => h) (Or.inl ⟨by rfl, ?_⟩) ?_ ?_
                  rotate_left
                  · intro w'
                    go_simp
                    with_reducible rfl
                  rotate_left
                  · simp only [Act.put, List.setIfInBounds_toArray, List.set_cons_zero, List.set_cons_succ, i64_w, i32_w]
                    rfl
                  refine pure_ (i := 12) (N := some 34) (v := ?_) (a' := ?_) #[true, true, true, true, true, true, true, true, true, true, true, true, true, true, true, false, false, false] rfl rfl (by kernel_rfl) (fun _ _ _ h => h) (Or.inl ⟨by rfl, ?_⟩) ?_ ?_
                  rotate_left
                  · intro w'
                    go_simp
                    with_reducible rfl
                  rotate_left
                  · simp only [Act.put, List.setIfInBounds_toArray, List.set_cons_zero, List.set_cons_succ, i64_w, i32_w]
                    rfl
                  refine one_ (i := 15) (N := some 37) #[true, true, true, true, true, true, true, true, true, true, true, true, true, true, true, true, false, false] rfl rfl (by kernel_rfl) (by decide) (fun K hK => ?_)
                  refine goes_ Try.func47 (by kernel_rfl) rfl #[.string x.f3] (by rfl) rfl rfl (by simp only [List.map_toArray, List.map_cons, List.map_nil]; rfl) ?_
                  with_reducible refine (szd_call _ _ hk3).mono ?_
                  rintro e w6 ⟨rfl, hb⟩
                  refine ⟨_, rfl, ?_⟩
                  have n0_ := Aside0.mk (below_step HB.out hb)
                  have n1_ := Aside0.mk ((hb.block _ (blk_lt HV.out)).trans HV.out)
                  clear HV
                  have HV := n1_
                  clear n1_
                  clear HB hb
                  have HB := n0_
                  clear n0_
                  refine hK.out _ _ ⟨(keepS HT.out HB.out).1, (keepS HT.out HB.out).2.1, (keepS HT.out HB.out).2.2.1, (keepS HT.out HB.out).2.2.2⟩ (fun hHeld => ?_)
                  clear hK K
                  refine norm_ (a' := ?_) ?_ ?_
                  rotate_left
                  · show Act.put _ (some 37) _ = _
                    simp only [Act.put, List.setIfInBounds_toArray, List.set_cons_zero, List.set_cons_succ, i64_w, i32_w]
                    rfl
                  exact norm_ (by simp only [putAll, Act.put, List.setIfInBounds_toArray, List.set_cons_zero, List.set_cons_succ]) (hCont (wd.heap.size) _ HB.out)
              · skip
                have C0 := cv_run HV.out
                refine value_ (w1 := ?_) (v := ?_) (by rfl) rfl ?_ ?_
                rotate_left 2
                · go_simp
                  constructor
                  · rfl
                  · rfl
                clear C0
                refine hK.out _ _ ⟨(keepS HT.out HB.out).1, (keepS HT.out HB.out).2.1, (keepS HT.out HB.out).2.2.1, (keepS HT.out HB.out).2.2.2⟩ (fun hHeld => ?_)
                clear hK K
                refine norm_ (a' := ?_) ?_ ?_
                rotate_left
                · show Act.put _ (some 33) _ = _
                  simp only [Act.put, List.setIfInBounds_toArray, List.set_cons_zero, List.set_cons_succ, i64_w, i32_w]
                  rfl
                refine one_ (i := 2) (N := some 24) #[true, true, true, true, true, false, false, true, true, true, true, true, false, true, true, false, false, false] rfl rfl (by kernel_rfl) (by decide) (fun K hK => ?_)
                refine goes_ Try.func47 (by kernel_rfl) rfl #[.string x.f0] (by rfl) rfl rfl (by simp only [List.map_toArray, List.map_cons, List.map_nil]; rfl) ?_
                with_reducible refine (szd_call _ _ hk0).mono ?_
                rintro e w4 ⟨rfl, hb⟩
                refine ⟨_, rfl, ?_⟩
                have n0_ := Aside0.mk (below_step HB.out hb)
                have n1_ := Aside0.mk ((hb.block _ (blk_lt HV.out)).trans HV.out)
                clear HV
                have HV := n1_
                clear n1_
                clear HB hb
                have HB := n0_
                clear n0_
                refine hK.out _ _ ⟨(keepS HT.out HB.out).1, (keepS HT.out HB.out).2.1, (keepS HT.out HB.out).2.2.1, (keepS HT.out HB.out).2.2.2⟩ (fun hHeld => ?_)
                clear hK K
                refine norm_ (a' := ?_) ?_ ?_
                rotate_left
                · show Act.put _ (some 24) _ = _
                  simp only [Act.put, List.setIfInBounds_toArray, List.set_cons_zero, List.set_cons_succ, i64_w, i32_w]
                  rfl
                refine one_ (i := 5) (N := some 27) #[true, true, true, true, true, true, false, true, true, true, true, true, false, true, true, false, false, false] rfl rfl (by kernel_rfl) (by decide) (fun K hK => ?_)
                refine goes_ Try.func12 (by kernel_rfl) rfl #[.int .i64 x.f1] (by rfl) rfl rfl (by simp only [List.map_toArray, List.map_cons, List.map_nil]; rfl) ?_
                with_reducible refine (put_call _ _).mono ?_
                rintro e w5 ⟨rfl, hb⟩
                refine ⟨_, rfl, ?_⟩
                have n0_ := Aside0.mk (below_step HB.out hb)
                have n1_ := Aside0.mk ((hb.block _ (blk_lt HV.out)).trans HV.out)
                clear HV
                have HV := n1_
                clear n1_
                clear HB hb
                have HB := n0_
                clear n0_
                refine hK.out _ _ ⟨(keepS HT.out HB.out).1, (keepS HT.out HB.out).2.1, (keepS HT.out HB.out).2.2.1, (keepS HT.out HB.out).2.2.2⟩ (fun hHeld => ?_)
                clear hK K
                refine norm_ (a' := ?_) ?_ ?_
                rotate_left
                · show Act.put _ (some 27) _ = _
                  simp only [Act.put, List.setIfInBounds_toArray, List.set_cons_zero, List.set_cons_succ, i64_w, i32_w]
                  rfl
                refine pure_ (i := 6) (N := some 28) (v := ?_) (a' := ?_) #[true, true, true, true, true, true, true, true, true, true, true, true, false, true, true, false, false, false] rfl rfl (by kernel_rfl) (fun _ _ _ h => h) (Or.inl ⟨by rfl, ?_⟩) ?_ ?_
                rotate_left
                · intro w'
                  go_simp
                  with_reducible rfl
                rotate_left
                · simp only [Act.put, List.setIfInBounds_toArray, List.set_cons_zero, List.set_cons_succ, i64_w, i32_w]
                  rfl
                refine pure_ (i := 12) (N := some 34) (v := ?_) (a' := ?_) #[true, true, true, true, true, true, true, true, true, true, true, true, true, true, true, false, false, false] rfl rfl (by kernel_rfl) (fun _ _ _ h => h) (Or.inl ⟨by rfl, ?_⟩) ?_ ?_
                rotate_left
                · intro w'
                  go_simp
                  with_reducible rfl
                rotate_left
                · simp only [Act.put, List.setIfInBounds_toArray, List.set_cons_zero, List.set_cons_succ, i64_w, i32_w]
                  rfl
                refine one_ (i := 15) (N := some 37) #[true, true, true, true, true, true, true, true, true, true, true, true, true, true, true, true, false, false] rfl rfl (by kernel_rfl) (by decide) (fun K hK => ?_)
                refine goes_ Try.func47 (by kernel_rfl) rfl #[.string x.f3] (by rfl) rfl rfl (by simp only [List.map_toArray, List.map_cons, List.map_nil]; rfl) ?_
                with_reducible refine (szd_call _ _ hk3).mono ?_
                rintro e w6 ⟨rfl, hb⟩
                refine ⟨_, rfl, ?_⟩
                have n0_ := Aside0.mk (below_step HB.out hb)
                have n1_ := Aside0.mk ((hb.block _ (blk_lt HV.out)).trans HV.out)
                clear HV
                have HV := n1_
                clear n1_
                clear HB hb
                have HB := n0_
                clear n0_
                refine hK.out _ _ ⟨(keepS HT.out HB.out).1, (keepS HT.out HB.out).2.1, (keepS HT.out HB.out).2.2.1, (keepS HT.out HB.out).2.2.2⟩ (fun hHeld => ?_)
                clear hK K
                refine norm_ (a' := ?_) ?_ ?_
                rotate_left
                · show Act.put _ (some 37) _ = _
                  simp only [Act.put, List.setIfInBounds_toArray, List.set_cons_zero, List.set_cons_succ, i64_w, i32_w]
                  rfl
                exact norm_ (by simp only [putAll, Act.put, List.setIfInBounds_toArray, List.set_cons_zero, List.set_cons_succ]) (hCont (wd.heap.size) _ HB.out)
          intro g_ w4 hb4
          have HB := Aside0.mk hb4
          have hHeld := keepS HT.out hb4
          clear hb4
          refine norm_ (a' := ?_) ?_ ?_
          rotate_left
          · simp only [putAll, Act.put, List.setIfInBounds_toArray, List.set_cons_zero, List.set_cons_succ]
            rfl
          refine pure_ (i := 16) (N := some 38) (v := ?_) (a' := ?_) #[true, true, true, true, true, true, true, true, true, true, true, true, true, true, true, true, true, false] rfl rfl (by kernel_rfl) (fun _ _ _ h => h) (Or.inl ⟨by rfl, ?_⟩) ?_ ?_
          rotate_left
          · intro w'
            go_simp
            with_reducible rfl
          rotate_left
          · simp only [Act.put, List.setIfInBounds_toArray, List.set_cons_zero, List.set_cons_succ, i64_w, i32_w]
            rfl
          refine last_ (i := 17) (N := some 39) #[true, true, true, true, true, true, true, true, true, true, true, true, true, true, true, true, true, true] rfl rfl (by kernel_rfl) (by decide) (fun K hK => ?_)
          refine goes_ Try.func45 (by kernel_rfl) rfl #[.pointer (some ⟨w.heap.size, 0, none⟩), .string (szd x.f0 ++ put x.f1 ++ strOfNums [IntKind.u8.wrap x.f2] ++ szd x.f3)] (by rfl) rfl rfl (by simp only [List.map_toArray, List.map_cons, List.map_nil]; rfl) ?_
          refine (write_call w.heap.size w.heap.size _ _ _ (bld_below HBL.out HB.out) (HLEN.out ()) (hbw HB3.out HB.out)).mono ?_
          rintro e w9 ⟨rfl, h5, hb5, _⟩
          refine ⟨_, rfl, ?_⟩
          have HBE := Aside0.mk (belw HB3.out HB.out hb5)
          have H5 := Aside0.mk h5
          clear h5 hb5
          refine hK.out _ _ ?_
          clear hK K
          refine norm_ (a' := ?_) ?_ ?_
          rotate_left
          · show Act.put _ (some 39) _ = _
            simp only [Act.put, List.setIfInBounds_toArray, List.set_cons_zero, List.set_cons_succ, i64_w, i32_w]
            rfl
          refine done_ (by kernel_rfl) ?_
          go_wp2
          go_roundw
          case rel =>
            refine ⟨i + 1, by omega, by go_num, ⟨all_snoc hlt HA.out (by rw [HX.out]; exact HOK.out)⟩, ⟨⟨?_, HBE.out⟩⟩⟩
            rw [take_at l i hlt, encL_snoc, ← rd71 l i hlt, HX.out, ← ByteArray.append_assoc, strCells_append _ (entB x)]
            have := H5.out
            rw [u8w] at this
            exact Or.inr this
          case measure => simp [intOf]; omega
        · have hok := Bool.eq_false_iff.2 hok
          have HE := Aside0.mk (enc_bad i hlt hok)
          generalize hx : rd_T71 l (i : Int) = x at hx0 hx1 hx2 hx3 hok
          have HFC := Aside0.mk (fine_call x (wr.alloc (.cells #[.string x.f0, .int .i64 x.f1, .int .i64 x.f2, .string x.f3] 71)))
          rw [hok] at HFC
          clear hx hok
          go_wp2_with fail
          refine HFC.out.mono ?_
          rintro e w3 ⟨rfl, hb⟩
          have HBB := Aside0.mk ((HI.out.bel.alloc HI.out.bel.size (.cells #[.string x.f0, .int .i64 x.f1, .int .i64 x.f2, .string x.f3] 71)).trans (hb.mono (by have := HI.out.bel.size; simp; omega)))
          clear hb
          go_wp2
          go_ret
          exact ⟨by rw [HE.out]; rfl, HBB.out⟩
      · have hlt1 : decide (((i : Nat) : Int) < (l.length : Int)) = false := decide_eq_false (by omega)
        have HE := Aside0.mk (show i = l.length by omega)
        have HG := Aside0.mk (enc_good HLong.out (by have := HA.out; rwa [HE.out, List.take_length] at this))
        have HS := Aside0.mk (bldString_call w.heap.size w.heap.size (put (l.length : Int) ++ encL l).data.toList wr (by
          have := HI.out.bld
          rw [HE.out, List.take_length] at this
          exact this) HI.out.bel.size)
        go_wp2_with fail
        refine HS.out.mono ?_
        rintro e w3 ⟨rfl, hb⟩
        have HBB := Aside0.mk (HI.out.bel.trans hb)
        clear hb
        go_wp2
        go_ret
        exact ⟨by rw [HG.out]; rfl, HBB.out⟩
end Go.Proofs.Ytjneloehdcecnaa.M
end
section
/- The program's EncodeEdit, walked. No condition. -/
namespace Go.Proofs.Ytjneloehdcecnaa.M
open Go.RowKit Go.Proofs.Ytjneloehdcecnaa.P Go.Proofs.YtjneloehdcecnaaW.PrintWords Go.Proofs.YtjneloehdcecnaaW.PrintLast Go.Proofs.YtjneloehdcecnaaW.PrintMore
set_option linter.unusedVariables false
set_option linter.unusedSimpArgs false
/-- The world while an edit is written: the builder at block b holds S, the edit's own box stands. -/
structure EdInv (w wr : World) (b : Nat) (bx : Array Value) (S : ByteArray) : Prop where
  bld : Lib.IsBuilder 75 5 b b (Lib.strCells S) wr
  bel : Below w.heap.size w wr
  box : wr.heap[w.heap.size]? = some (.cells bx 43 (0, 0))
  ge : w.heap.size < b
theorem EdInv.below {w wr W : World} {b : Nat} {bx : Array Value} {S : ByteArray} (h : EdInv w wr b bx S) (hx : Below wr.heap.size wr W) : EdInv w W b bx S :=
  ⟨bld_below h.bld hx, h.bel.trans (hx.mono h.bel.size), (hx.block _ (blk_lt h.box)).trans h.box, h.ge⟩
theorem EdInv.write {w wr W : World} {b : Nat} {bx : Array Value} {S : ByteArray} (h : EdInv w wr b bx S) (hx : Below wr.heap.size wr W) (s : ByteArray) (hlen : S.size + s.size ≤ 140737488355328) :
    Calls Try.prog 45 #[.pointer (some ⟨b, 0, none⟩), .string s] W fun e w' => e = .returned (.tuple #[.int .i64 s.size, .nilIface]) ∧ EdInv w w' b bx (S ++ s) := by
  have k := h.below hx
  refine (write_call b b (Lib.strCells S) s W k.bld (by rw [Lib.strCells_length]; exact hlen) (Nat.le_of_lt (bld_lt k.bld))).mono ?_
  rintro e w' ⟨rfl, h1, h2, h3⟩
  refine ⟨rfl, ⟨?_, k.bel.trans (h2.mono (Nat.le_of_lt k.ge)), (h3 _ _ _ k.box (by decide) (by have := k.ge; omega)).trans k.box, k.ge⟩⟩
  rw [strCells_append]
  exact Or.inr h1
theorem keep87 {w3 W : World} {g : Nat} {x : S87} (h : w3.heap[g]? = some (.cells #[.int .i64 x.f0, .int .i64 x.f1, .string x.f2, .string x.f3] 87 (0, 0))) (hb : Below w3.heap.size w3 W) :
    W.cell? ⟨g, 0, none⟩ = some (.int .i64 x.f0) ∧ W.cell? ⟨g, 1, none⟩ = some (.int .i64 x.f1) ∧ W.cell? ⟨g, 2, none⟩ = some (.string x.f2) ∧ W.cell? ⟨g, 3, none⟩ = some (.string x.f3) := by
  have T := (hb.block g (blk_lt h)).trans h
  exact ⟨(blk_cell T 0).trans rfl, (blk_cell T 1).trans rfl, (blk_cell T 2).trans rfl, (blk_cell T 3).trans rfl⟩
theorem keep43 {w3 W : World} {g : Nat} {a b : Value} {log next last : Int} (h : w3.heap[g]? = some (.cells #[a, b, .int .i64 log, .int .i64 next, .int .i64 last] 43 (0, 0))) (hb : Below w3.heap.size w3 W) :
    W.cell? ⟨g, 2, none⟩ = some (.int .i64 log) ∧ W.cell? ⟨g, 3, none⟩ = some (.int .i64 next) ∧ W.cell? ⟨g, 4, none⟩ = some (.int .i64 last) := by
  have T := (hb.block g (blk_lt h)).trans h
  exact ⟨(blk_cell T 2).trans rfl, (blk_cell T 3).trans rfl, (blk_cell T 4).trans rfl⟩
theorem at_int {w : World} {K : Option Addr} {keep : List Int} (h : Kd.C (Kd.int .i64) w K keep.length keep) (i : Nat) (h1 : i < keep.length) : ∃ ad, K = some ad ∧ w.cell? (ad.add i) = some (.int .i64 (rd keep (i : Int))) := by
  obtain ⟨ad, c, e, _, hK, hc⟩ := Kd.C_get h 0 (i : Int) (by omega) (by omega)
  refine ⟨ad, e, ?_⟩
  rw [Int.toNat_natCast] at hK
  obtain rfl : c = [.int .i64 (keep.getD i 0)] := hK
  have := hc 0 _ rfl
  simpa [show (Kd.int .i64).sz = 1 from rfl, rd] using this
theorem all_take {α : Type} {p : α → Bool} {l : List α} (h : l.all p = true) (i : Nat) : (l.take i).all p = true := by
  rw [List.all_eq_true] at h ⊢
  exact fun x hx => h x (List.mem_of_mem_take hx)

set_option maxHeartbeats 16000000 in
set_option maxRecDepth 100000 in
theorem encEdit_call (A0 : Option Addr) (c0 : Nat) (adds : List S87) (A1 : Option Addr) (c1 : Nat) (dels : List Int) (log next last : Int) (w : World) (h0 : Kd.C k87 w A0 adds.length adds) (g0 : adds.length ≤ c0) (h1 : Kd.C (Kd.int .i64) w A1 dels.length dels) (g1 : dels.length ≤ c1) :
    Calls Try.prog 23 #[.agg #[.slice A0 adds.length c0, .slice A1 dels.length c1, .int .i64 log, .int .i64 next, .int .i64 last]] w fun e w' => e = .returned (.string (encEd adds dels log next last)) ∧ Below w.heap.size w w' := by
  have hu43 := Try.underlying43
  have hu87 := Try.underlying87
  have hu75 := Try.underlying75
  have b0 : Below w.heap.size w (w.alloc (.cells #[.slice A0 adds.length c0, .slice A1 dels.length c1, .int .i64 log, .int .i64 next, .int .i64 last] 43)) := (Below.refl _ w).alloc (Nat.le_refl _) _
  have HF := Aside0.mk (editFine_call A0 c0 adds A1 c1 dels log next last (w.alloc (.cells #[.slice A0 adds.length c0, .slice A1 dels.length c1, .int .i64 log, .int .i64 next, .int .i64 last] 43)) (Kd.C_below h0 b0) g0 (Kd.C_below h1 b0) g1)
  have HB0 := Aside0.mk b0
  have H0 := Aside0.mk h0
  have H1 := Aside0.mk h1
  clear h0 h1 b0
  by_cases hok : editOk adds dels log next last = true
  · have HE := Aside0.mk (show encEd adds dels log next last = edAll adds dels log next last from if_pos hok)
    obtain ⟨ha, hd, hra, _⟩ := editOk_parts hok
    have HRA := Aside0.mk hra
    rw [hok] at HF
    clear hok hra
    go_enter Try.func23, Try.ntmps23
    go_wp2_with fail
    refine HF.out.mono ?_
    rintro e w1 ⟨rfl, hb⟩
    have HX := Aside0.mk (show w.heap.size < w1.heap.size from by have := hb.size; simp at this; omega)
    have HIB := Aside0.mk (show EdInv w (w1.alloc (.cells #[.pointer none, .slice none 0 0] 75)) w1.heap.size #[.slice A0 adds.length c0, .slice A1 dels.length c1, .int .i64 log, .int .i64 next, .int .i64 last] (⟨#[]⟩ : ByteArray) from
      ⟨Lib.fresh_isBuilder 75 5 w1, below_alloc (HB0.out.trans (hb.mono HB0.out.size)) _, blk_alloc ((hb.block _ (by simp)).trans (heap_alloc_new w _)) _, HX.out⟩)
    have t0 := blk_cell HIB.out.box 0
    have HP := Aside0.mk (put_call (adds.length : Int) (w1.alloc (.cells #[.pointer none, .slice none 0 0] 75)))
    clear hb
    go_wp2_with fail
    refine HP.out.mono ?_
    rintro e w2 ⟨rfl, hb⟩
    have HW := Aside0.mk (HIB.out.write hb (put (adds.length : Int)) (by have := put_size (adds.length : Int); show 0 + _ ≤ _; omega))
    clear hb t0
    go_wp2_with fail
    refine HW.out.mono ?_
    rintro e w3 ⟨rfl, h2⟩
    rw [empty_append] at h2
    have HI := Aside0.mk (show EdInv w w3 w1.heap.size #[.slice A0 adds.length c0, .slice A1 dels.length c1, .int .i64 log, .int .i64 next, .int .i64 last] (ed0 adds ++ refsL (adds.take 0)) from by
      show EdInv w w3 w1.heap.size #[.slice A0 adds.length c0, .slice A1 dels.length c1, .int .i64 log, .int .i64 next, .int .i64 last] (put (adds.length : Int) ++ (⟨#[]⟩ : ByteArray))
      rw [ba_append_empty]
      exact h2)
    have t0 := blk_cell h2.box 0
    obtain ⟨nb, hnb⟩ : ∃ nb, w1.heap.size = nb := ⟨_, rfl⟩
    rw [hnb] at HI ⊢
    clear h2 HX HIB HP HW hnb
    go_wp2
    go_loopw [19] (fun v wr => ∃ i : Nat, i ≤ adds.length ∧ v = .int .i64 (i : Int) ∧ Aside0 (EdInv w wr nb #[.slice A0 adds.length c0, .slice A1 dels.length c1, .int .i64 log, .int .i64 next, .int .i64 last] (ed0 adds ++ refsL (adds.take i)))) (fun v _ => adds.length - (intOf v).toNat)
    case atStart => exact ⟨0, by omega, rfl, HI⟩
    case round =>
      obtain ⟨i, hi, rfl, HI⟩ := hrel
      by_cases hlt : i < adds.length
      · have hlt1 : ((i : Nat) : Int) < (adds.length : Int) := by omega
        obtain ⟨ad, hA, hx0, hx1, hx2, hx3⟩ := at_T87 H0.out (i : Int) (by omega) hlt1
        have hx0 := (HI.out.bel.cell (World.block_lt_of_cell? w _ hx0)).trans hx0
        have hx1 := (HI.out.bel.cell (World.block_lt_of_cell? w _ hx1)).trans hx1
        have hx2 := (HI.out.bel.cell (World.block_lt_of_cell? w _ hx2)).trans hx2
        have hx3 := (HI.out.bel.cell (World.block_lt_of_cell? w _ hx3)).trans hx3
        rw [Int.toNat_natCast] at hx0 hx1 hx2 hx3
        subst hA
        generalize hx : rd_T87 adds (i : Int) = x at hx0 hx1 hx2 hx3
        have hxok : refOk x = true := by
          rw [← hx, rd87 adds i hlt]
          exact List.all_eq_true.1 HRA.out _ (List.getElem_mem hlt)
        have HXX := Aside0.mk hx
        have hk2 : x.f2.size ≤ 1048576 := by have := refOk_sizes hxok; omega
        have hk3 : x.f3.size ≤ 1048576 := by have := refOk_sizes hxok; omega
        have q0 := put_size x.f0
        have q1 := put_size x.f1
        have q2 := szd_size x.f2
        have q3 := szd_size x.f3
        have d1 : (9223372036854775807 < (put x.f0).size + (put x.f1).size) = False := eq_false (by omega)
        have d2 : (9223372036854775807 < (put x.f0).size + (put x.f1).size + (szd x.f2).size) = False := eq_false (by omega)
        have d3 : (9223372036854775807 < (put x.f0).size + (put x.f1).size + (szd x.f2).size + (szd x.f3).size) = False := eq_false (by omega)
        have HT := Aside0.mk (heap_alloc_new wr (.cells #[.int .i64 x.f0, .int .i64 x.f1, .string x.f2, .string x.f3] 87))
        have HIA := Aside0.mk (HI.out.below ((Below.refl _ wr).alloc (Nat.le_refl _) (.cells #[.int .i64 x.f0, .int .i64 x.f1, .string x.f2, .string x.f3] 87)))
        have HLEN := Aside0.mk (show ∀ u : Unit, (ed0 adds ++ refsL (adds.take i)).size + (put x.f0 ++ put x.f1 ++ szd x.f2 ++ szd x.f3).size ≤ 140737488355328 from fun _ => by
          have e1 := refsL_size (adds.take i) (all_take HRA.out i)
          have e2 := put_size (adds.length : Int)
          have e3 : (adds.take i).length ≤ 1000 := by rw [List.length_take]; omega
          unfold ed0
          rw [ByteArray.size_append, ByteArray.size_append, ByteArray.size_append, ByteArray.size_append]
          omega)
        have BD := Aside0.mk (below_drew (Below.refl (wr.alloc (.cells #[.int .i64 x.f0, .int .i64 x.f1, .string x.f2, .string x.f3] 87)).heap.size (wr.alloc (.cells #[.int .i64 x.f0, .int .i64 x.f1, .string x.f2, .string x.f3] 87))))
        clear hx hxok t0
        go_wp2
        refine start_ (n := 16) (S := fun w' => w'.cell? ⟨wr.heap.size, 0, none⟩ = some (.int .i64 x.f0) ∧ w'.cell? ⟨wr.heap.size, 1, none⟩ = some (.int .i64 x.f1) ∧ w'.cell? ⟨wr.heap.size, 2, none⟩ = some (.string x.f2) ∧ w'.cell? ⟨wr.heap.size, 3, none⟩ = some (.string x.f3)) (ds := [15]) #[false, false, false, false, false, false, false, false, false, false, false, false, false, false, false, false] (by kernel_rfl) rfl rfl ⟨(keep87 HT.out BD.out).1, (keep87 HT.out BD.out).2.1, (keep87 HT.out BD.out).2.2.1, (keep87 HT.out BD.out).2.2.2⟩ (fun hHeld => ?_)
        generalize (wr.alloc (.cells #[.int .i64 x.f0, .int .i64 x.f1, .string x.f2, .string x.f3] 87)).drew = wd at BD hHeld ⊢
        have HB := BD
        refine pure_ (i := 0) (N := some 23) (v := ?_) (a' := ?_) #[true, false, false, false, false, false, false, false, false, false, false, false, false, false, false, false] rfl rfl (by kernel_rfl) (fun _ _ _ h => h) (Or.inl ⟨by rfl, ?_⟩) ?_ ?_
        rotate_left
        · intro w'
          go_simp
          with_reducible rfl
        rotate_left
        · simp only [Act.put, List.setIfInBounds_toArray, List.set_cons_zero, List.set_cons_succ, i64_w, i32_w]
          rfl
        refine pure_ (i := 3) (N := some 26) (v := ?_) (a' := ?_) #[true, false, false, true, false, false, false, false, false, false, false, false, false, false, false, false] rfl rfl (by kernel_rfl) (fun _ _ _ h => h) (Or.inl ⟨by rfl, ?_⟩) ?_ ?_
        rotate_left
        · intro w'
          go_simp
          with_reducible rfl
        rotate_left
        · simp only [Act.put, List.setIfInBounds_toArray, List.set_cons_zero, List.set_cons_succ, i64_w, i32_w]
          rfl
        refine pure_ (i := 7) (N := some 30) (v := ?_) (a' := ?_) #[true, false, false, true, false, false, false, true, false, false, false, false, false, false, false, false] rfl rfl (by kernel_rfl) (fun _ _ _ h => h) (Or.inl ⟨by rfl, ?_⟩) ?_ ?_
        rotate_left
        · intro w'
          go_simp
          with_reducible rfl
        rotate_left
        · simp only [Act.put, List.setIfInBounds_toArray, List.set_cons_zero, List.set_cons_succ, i64_w, i32_w]
          rfl
        refine pure_ (i := 11) (N := some 34) (v := ?_) (a' := ?_) #[true, false, false, true, false, false, false, true, false, false, false, true, false, false, false, false] rfl rfl (by kernel_rfl) (fun _ _ _ h => h) (Or.inl ⟨by rfl, ?_⟩) ?_ ?_
        rotate_left
        · intro w'
          go_simp
          with_reducible rfl
        rotate_left
        · simp only [Act.put, List.setIfInBounds_toArray, List.set_cons_zero, List.set_cons_succ, i64_w, i32_w]
          rfl
        refine take_ (i := 1) (N := some 24) (v := ?_) (a' := ?_) #[true, true, false, true, false, false, false, true, false, false, false, true, false, false, false, false] rfl rfl (by kernel_rfl) (fun _ _ _ h => h) (Or.inl ⟨by rfl, ?_⟩) hHeld ?_ ?_
        rotate_left
        · rintro w' ⟨s0, s1, s2, s3⟩
          go_simp
          with_reducible rfl
        rotate_left
        · simp only [Act.put, List.setIfInBounds_toArray, List.set_cons_zero, List.set_cons_succ, i64_w, i32_w]
          rfl
        refine take_ (i := 4) (N := some 27) (v := ?_) (a' := ?_) #[true, true, false, true, true, false, false, true, false, false, false, true, false, false, false, false] rfl rfl (by kernel_rfl) (fun _ _ _ h => h) (Or.inl ⟨by rfl, ?_⟩) hHeld ?_ ?_
        rotate_left
        · rintro w' ⟨s0, s1, s2, s3⟩
          go_simp
          with_reducible rfl
        rotate_left
        · simp only [Act.put, List.setIfInBounds_toArray, List.set_cons_zero, List.set_cons_succ, i64_w, i32_w]
          rfl
        refine take_ (i := 8) (N := some 31) (v := ?_) (a' := ?_) #[true, true, false, true, true, false, false, true, true, false, false, true, false, false, false, false] rfl rfl (by kernel_rfl) (fun _ _ _ h => h) (Or.inl ⟨by rfl, ?_⟩) hHeld ?_ ?_
        rotate_left
        · rintro w' ⟨s0, s1, s2, s3⟩
          go_simp
          with_reducible rfl
        rotate_left
        · simp only [Act.put, List.setIfInBounds_toArray, List.set_cons_zero, List.set_cons_succ, i64_w, i32_w]
          rfl
        refine take_ (i := 12) (N := some 35) (v := ?_) (a' := ?_) #[true, true, false, true, true, false, false, true, true, false, false, true, true, false, false, false] rfl rfl (by kernel_rfl) (fun _ _ _ h => h) (Or.inl ⟨by rfl, ?_⟩) hHeld ?_ ?_
        rotate_left
        · rintro w' ⟨s0, s1, s2, s3⟩
          go_simp
          with_reducible rfl
        rotate_left
        · simp only [Act.put, List.setIfInBounds_toArray, List.set_cons_zero, List.set_cons_succ, i64_w, i32_w]
          rfl
        refine one_ (i := 2) (N := some 25) #[true, true, true, true, true, false, false, true, true, false, false, true, true, false, false, false] rfl rfl (by kernel_rfl) (by decide) (fun K hK => ?_)
        refine goes_ Try.func12 (by kernel_rfl) rfl #[.int .i64 x.f0] (by rfl) rfl rfl (by simp only [List.map_toArray, List.map_cons, List.map_nil]; rfl) ?_
        with_reducible refine (put_call _ _).mono ?_
        rintro e w4 ⟨rfl, hb⟩
        refine ⟨_, rfl, ?_⟩
        have n0_ := Aside0.mk (below_step HB.out hb)
        clear HB hb
        have HB := n0_
        clear n0_
        refine hK.out _ _ ⟨(keep87 HT.out HB.out).1, (keep87 HT.out HB.out).2.1, (keep87 HT.out HB.out).2.2.1, (keep87 HT.out HB.out).2.2.2⟩ (fun hHeld => ?_)
        clear hK K
        refine norm_ (a' := ?_) ?_ ?_
        rotate_left
        · show Act.put _ (some 25) _ = _
          simp only [Act.put, List.setIfInBounds_toArray, List.set_cons_zero, List.set_cons_succ, i64_w, i32_w]
          rfl
        refine one_ (i := 5) (N := some 28) #[true, true, true, true, true, true, false, true, true, false, false, true, true, false, false, false] rfl rfl (by kernel_rfl) (by decide) (fun K hK => ?_)
        refine goes_ Try.func12 (by kernel_rfl) rfl #[.int .i64 x.f1] (by rfl) rfl rfl (by simp only [List.map_toArray, List.map_cons, List.map_nil]; rfl) ?_
        with_reducible refine (put_call _ _).mono ?_
        rintro e w5 ⟨rfl, hb⟩
        refine ⟨_, rfl, ?_⟩
        have n0_ := Aside0.mk (below_step HB.out hb)
        clear HB hb
        have HB := n0_
        clear n0_
        refine hK.out _ _ ⟨(keep87 HT.out HB.out).1, (keep87 HT.out HB.out).2.1, (keep87 HT.out HB.out).2.2.1, (keep87 HT.out HB.out).2.2.2⟩ (fun hHeld => ?_)
        clear hK K
        refine norm_ (a' := ?_) ?_ ?_
        rotate_left
        · show Act.put _ (some 28) _ = _
          simp only [Act.put, List.setIfInBounds_toArray, List.set_cons_zero, List.set_cons_succ, i64_w, i32_w]
          rfl
        refine pure_ (i := 6) (N := some 29) (v := ?_) (a' := ?_) #[true, true, true, true, true, true, true, true, true, false, false, true, true, false, false, false] rfl rfl (by kernel_rfl) (fun _ _ _ h => h) (Or.inl ⟨by rfl, ?_⟩) ?_ ?_
        rotate_left
        · intro w'
          go_simp
          with_reducible rfl
        rotate_left
        · simp only [Act.put, List.setIfInBounds_toArray, List.set_cons_zero, List.set_cons_succ, i64_w, i32_w]
          rfl
        refine one_ (i := 9) (N := some 32) #[true, true, true, true, true, true, true, true, true, true, false, true, true, false, false, false] rfl rfl (by kernel_rfl) (by decide) (fun K hK => ?_)
        refine goes_ Try.func47 (by kernel_rfl) rfl #[.string x.f2] (by rfl) rfl rfl (by simp only [List.map_toArray, List.map_cons, List.map_nil]; rfl) ?_
        with_reducible refine (szd_call _ _ hk2).mono ?_
        rintro e w6 ⟨rfl, hb⟩
        refine ⟨_, rfl, ?_⟩
        have n0_ := Aside0.mk (below_step HB.out hb)
        clear HB hb
        have HB := n0_
        clear n0_
        refine hK.out _ _ ⟨(keep87 HT.out HB.out).1, (keep87 HT.out HB.out).2.1, (keep87 HT.out HB.out).2.2.1, (keep87 HT.out HB.out).2.2.2⟩ (fun hHeld => ?_)
        clear hK K
        refine norm_ (a' := ?_) ?_ ?_
        rotate_left
        · show Act.put _ (some 32) _ = _
          simp only [Act.put, List.setIfInBounds_toArray, List.set_cons_zero, List.set_cons_succ, i64_w, i32_w]
          rfl
        refine pure_ (i := 10) (N := some 33) (v := ?_) (a' := ?_) #[true, true, true, true, true, true, true, true, true, true, true, true, true, false, false, false] rfl rfl (by kernel_rfl) (fun _ _ _ h => h) (Or.inl ⟨by rfl, ?_⟩) ?_ ?_
        rotate_left
        · intro w'
          go_simp
          with_reducible rfl
        rotate_left
        · simp only [Act.put, List.setIfInBounds_toArray, List.set_cons_zero, List.set_cons_succ, i64_w, i32_w]
          rfl
        refine one_ (i := 13) (N := some 36) #[true, true, true, true, true, true, true, true, true, true, true, true, true, true, false, false] rfl rfl (by kernel_rfl) (by decide) (fun K hK => ?_)
        refine goes_ Try.func47 (by kernel_rfl) rfl #[.string x.f3] (by rfl) rfl rfl (by simp only [List.map_toArray, List.map_cons, List.map_nil]; rfl) ?_
        with_reducible refine (szd_call _ _ hk3).mono ?_
        rintro e w7 ⟨rfl, hb⟩
        refine ⟨_, rfl, ?_⟩
        have n0_ := Aside0.mk (below_step HB.out hb)
        clear HB hb
        have HB := n0_
        clear n0_
        refine hK.out _ _ ⟨(keep87 HT.out HB.out).1, (keep87 HT.out HB.out).2.1, (keep87 HT.out HB.out).2.2.1, (keep87 HT.out HB.out).2.2.2⟩ (fun hHeld => ?_)
        clear hK K
        refine norm_ (a' := ?_) ?_ ?_
        rotate_left
        · show Act.put _ (some 36) _ = _
          simp only [Act.put, List.setIfInBounds_toArray, List.set_cons_zero, List.set_cons_succ, i64_w, i32_w]
          rfl
        refine pure_ (i := 14) (N := some 37) (v := ?_) (a' := ?_) #[true, true, true, true, true, true, true, true, true, true, true, true, true, true, true, false] rfl rfl (by kernel_rfl) (fun _ _ _ h => h) (Or.inl ⟨by rfl, ?_⟩) ?_ ?_
        rotate_left
        · intro w'
          go_simp
          with_reducible rfl
        rotate_left
        · simp only [Act.put, List.setIfInBounds_toArray, List.set_cons_zero, List.set_cons_succ, i64_w, i32_w]
          rfl
        refine last_ (i := 15) (N := some 38) #[true, true, true, true, true, true, true, true, true, true, true, true, true, true, true, true] rfl rfl (by kernel_rfl) (by decide) (fun K hK => ?_)
        refine goes_ Try.func45 (by kernel_rfl) rfl #[.pointer (some ⟨nb, 0, none⟩), .string (put x.f0 ++ put x.f1 ++ szd x.f2 ++ szd x.f3)] (by rfl) rfl rfl (by simp only [List.map_toArray, List.map_cons, List.map_nil]; rfl) ?_
        refine (EdInv.write HIA.out HB.out (put x.f0 ++ put x.f1 ++ szd x.f2 ++ szd x.f3) (HLEN.out ())).mono ?_
        rintro e w8 ⟨rfl, h5⟩
        refine ⟨_, rfl, ?_⟩
        have H5 := Aside0.mk h5
        clear h5
        refine hK.out _ _ ?_
        clear hK K
        refine norm_ (a' := ?_) ?_ ?_
        rotate_left
        · show Act.put _ (some 38) _ = _
          simp only [Act.put, List.setIfInBounds_toArray, List.set_cons_zero, List.set_cons_succ, i64_w, i32_w]
          rfl
        refine done_ (by kernel_rfl) ?_
        go_wp2
        go_roundw
        case rel =>
          refine ⟨i + 1, by omega, by go_num, ⟨?_⟩⟩
          rw [take_at adds i hlt, refsL_snoc, ← rd87 adds i hlt, HXX.out, ← ByteArray.append_assoc]
          exact H5.out
        case measure => simp [intOf]; omega
      · have hlt1 : decide (((i : Nat) : Int) < (adds.length : Int)) = false := decide_eq_false (by omega)
        obtain rfl : i = adds.length := by omega
        have t1 := blk_cell HI.out.box 1
        have HP := Aside0.mk (put_call (dels.length : Int) wr)
        have HLEN := Aside0.mk (show ∀ u : Unit, (ed0 adds ++ refsL (adds.take adds.length)).size + (put (dels.length : Int)).size ≤ 140737488355328 from fun _ => by
          rw [List.take_length]
          have e1 := refsL_size adds HRA.out
          have e2 := put_size (adds.length : Int)
          have e3 := put_size (dels.length : Int)
          unfold ed0
          rw [ByteArray.size_append]
          omega)
        clear t0
        go_wp2_with fail
        refine HP.out.mono ?_
        rintro e w4 ⟨rfl, hb⟩
        have HW := Aside0.mk (HI.out.write hb (put (dels.length : Int)) (HLEN.out ()))
        clear hb t1
        go_wp2_with fail
        refine HW.out.mono ?_
        rintro e w5 ⟨rfl, h2⟩
        rw [List.take_length] at h2
        have HJ := Aside0.mk (show EdInv w w5 nb #[.slice A0 adds.length c0, .slice A1 dels.length c1, .int .i64 log, .int .i64 next, .int .i64 last] (ed1 adds dels ++ numsL (dels.take 0)) from by
          show EdInv w w5 nb #[.slice A0 adds.length c0, .slice A1 dels.length c1, .int .i64 log, .int .i64 next, .int .i64 last] (ed1 adds dels ++ (⟨#[]⟩ : ByteArray))
          rw [ba_append_empty]
          exact h2)
        have t1 := blk_cell h2.box 1
        clear h2 HP HW HLEN
        go_wp2
        obtain ⟨wo, rfl⟩ : ∃ wo : World, wo = wr := ⟨_, rfl⟩
        go_loopw [48] (fun v wr => ∃ i : Nat, i ≤ dels.length ∧ v = .int .i64 (i : Int) ∧ Aside0 (EdInv w wr nb #[.slice A0 adds.length c0, .slice A1 dels.length c1, .int .i64 log, .int .i64 next, .int .i64 last] (ed1 adds dels ++ numsL (dels.take i)))) (fun v _ => dels.length - (intOf v).toNat)
        case atStart => exact ⟨0, by omega, rfl, HJ⟩
        case round =>
          obtain ⟨j, hj, rfl, HI⟩ := hrel
          by_cases hlt : j < dels.length
          · have hlt2 : ((j : Nat) : Int) < (dels.length : Int) := by omega
            obtain ⟨ad, hA, hx0⟩ := at_int H1.out j hlt
            have hx0 := (HI.out.bel.cell (World.block_lt_of_cell? w _ hx0)).trans hx0
            subst hA
            generalize hx : rd dels (j : Int) = x at hx0
            have HXX := Aside0.mk hx
            have HP := Aside0.mk (put_call x wr)
            have HLEN := Aside0.mk (show ∀ u : Unit, (ed1 adds dels ++ numsL (dels.take j)).size + (put x).size ≤ 140737488355328 from fun _ => by
              have e1 := refsL_size adds HRA.out
              have e2 := put_size (adds.length : Int)
              have e3 := put_size (dels.length : Int)
              have e4 := numsL_size (dels.take j)
              have e5 := put_size x
              have e6 : (dels.take j).length ≤ 1000 := by rw [List.length_take]; omega
              unfold ed1 ed0
              rw [ByteArray.size_append, ByteArray.size_append, ByteArray.size_append]
              omega)
            clear hx t1
            go_wp2_with fail
            refine HP.out.mono ?_
            rintro e w6 ⟨rfl, hb⟩
            have HW := Aside0.mk (HI.out.write hb (put x) (HLEN.out ()))
            clear hb
            go_wp2_with fail
            refine HW.out.mono ?_
            rintro e w7 ⟨rfl, h2⟩
            have H5 := Aside0.mk h2
            clear h2
            go_wp2
            go_roundw
            case rel =>
              refine ⟨j + 1, by omega, by go_num, ⟨?_⟩⟩
              rw [take_at dels j hlt, numsL_snoc, ← rdI dels j hlt, HXX.out, ← ByteArray.append_assoc]
              exact H5.out
            case measure => simp [intOf]; omega
          · have hlt2 : decide (((j : Nat) : Int) < (dels.length : Int)) = false := decide_eq_false (by omega)
            obtain rfl : j = dels.length := by omega
            have HT := Aside0.mk HI.out.box
            have q0 := put_size log
            have q1 := put_size next
            have q2 := put_size last
            have d1 : (9223372036854775807 < (put log).size + (put next).size) = False := eq_false (by omega)
            have d2 : (9223372036854775807 < (put log).size + (put next).size + (put last).size) = False := eq_false (by omega)
            have HLEN := Aside0.mk (show ∀ u : Unit, (ed1 adds dels ++ numsL (dels.take dels.length)).size + (put log ++ put next ++ put last).size ≤ 140737488355328 from fun _ => by
              rw [List.take_length]
              have e1 := refsL_size adds HRA.out
              have e2 := put_size (adds.length : Int)
              have e3 := put_size (dels.length : Int)
              have e4 := numsL_size dels
              unfold ed1 ed0
              rw [ByteArray.size_append, ByteArray.size_append, ByteArray.size_append, ByteArray.size_append, ByteArray.size_append]
              omega)
            have BD := Aside0.mk (below_drew (Below.refl wr.heap.size wr))
            clear t1
            go_wp2
            obtain ⟨wq, rfl⟩ : ∃ wq : World, wq = wr := ⟨_, rfl⟩
            refine start_ (n := 12) (S := fun w' => w'.cell? ⟨w.heap.size, 2, none⟩ = some (.int .i64 log) ∧ w'.cell? ⟨w.heap.size, 3, none⟩ = some (.int .i64 next) ∧ w'.cell? ⟨w.heap.size, 4, none⟩ = some (.int .i64 last)) (ds := [11]) #[false, false, false, false, false, false, false, false, false, false, false, false] (by kernel_rfl) rfl rfl ⟨(keep43 HT.out BD.out).1, (keep43 HT.out BD.out).2.1, (keep43 HT.out BD.out).2.2⟩ (fun hHeld => ?_)
            generalize wq.drew = wd at BD hHeld ⊢
            have HB := BD
            refine pure_ (i := 0) (N := some 56) (v := ?_) (a' := ?_) #[true, false, false, false, false, false, false, false, false, false, false, false] rfl rfl (by kernel_rfl) (fun _ _ _ h => h) (Or.inl ⟨by rfl, ?_⟩) ?_ ?_
            rotate_left
            · intro w'
              go_simp
              with_reducible rfl
            rotate_left
            · simp only [Act.put, List.setIfInBounds_toArray, List.set_cons_zero, List.set_cons_succ, i64_w, i32_w]
              rfl
            refine pure_ (i := 3) (N := some 59) (v := ?_) (a' := ?_) #[true, false, false, true, false, false, false, false, false, false, false, false] rfl rfl (by kernel_rfl) (fun _ _ _ h => h) (Or.inl ⟨by rfl, ?_⟩) ?_ ?_
            rotate_left
            · intro w'
              go_simp
              with_reducible rfl
            rotate_left
            · simp only [Act.put, List.setIfInBounds_toArray, List.set_cons_zero, List.set_cons_succ, i64_w, i32_w]
              rfl
            refine pure_ (i := 7) (N := some 63) (v := ?_) (a' := ?_) #[true, false, false, true, false, false, false, true, false, false, false, false] rfl rfl (by kernel_rfl) (fun _ _ _ h => h) (Or.inl ⟨by rfl, ?_⟩) ?_ ?_
            rotate_left
            · intro w'
              go_simp
              with_reducible rfl
            rotate_left
            · simp only [Act.put, List.setIfInBounds_toArray, List.set_cons_zero, List.set_cons_succ, i64_w, i32_w]
              rfl
            refine take_ (i := 1) (N := some 57) (v := ?_) (a' := ?_) #[true, true, false, true, false, false, false, true, false, false, false, false] rfl rfl (by kernel_rfl) (fun _ _ _ h => h) (Or.inl ⟨by rfl, ?_⟩) hHeld ?_ ?_
            rotate_left
            · rintro w' ⟨s0, s1, s2⟩
              go_simp
              with_reducible rfl
            rotate_left
            · simp only [Act.put, List.setIfInBounds_toArray, List.set_cons_zero, List.set_cons_succ, i64_w, i32_w]
              rfl
            refine take_ (i := 4) (N := some 60) (v := ?_) (a' := ?_) #[true, true, false, true, true, false, false, true, false, false, false, false] rfl rfl (by kernel_rfl) (fun _ _ _ h => h) (Or.inl ⟨by rfl, ?_⟩) hHeld ?_ ?_
            rotate_left
            · rintro w' ⟨s0, s1, s2⟩
              go_simp
              with_reducible rfl
            rotate_left
            · simp only [Act.put, List.setIfInBounds_toArray, List.set_cons_zero, List.set_cons_succ, i64_w, i32_w]
              rfl
            refine take_ (i := 8) (N := some 64) (v := ?_) (a' := ?_) #[true, true, false, true, true, false, false, true, true, false, false, false] rfl rfl (by kernel_rfl) (fun _ _ _ h => h) (Or.inl ⟨by rfl, ?_⟩) hHeld ?_ ?_
            rotate_left
            · rintro w' ⟨s0, s1, s2⟩
              go_simp
              with_reducible rfl
            rotate_left
            · simp only [Act.put, List.setIfInBounds_toArray, List.set_cons_zero, List.set_cons_succ, i64_w, i32_w]
              rfl
            refine one_ (i := 2) (N := some 58) #[true, true, true, true, true, false, false, true, true, false, false, false] rfl rfl (by kernel_rfl) (by decide) (fun K hK => ?_)
            refine goes_ Try.func12 (by kernel_rfl) rfl #[.int .i64 log] (by rfl) rfl rfl (by simp only [List.map_toArray, List.map_cons, List.map_nil]; rfl) ?_
            with_reducible refine (put_call _ _).mono ?_
            rintro e w4 ⟨rfl, hb⟩
            refine ⟨_, rfl, ?_⟩
            have n0_ := Aside0.mk (below_step HB.out hb)
            clear HB hb
            have HB := n0_
            clear n0_
            refine hK.out _ _ ⟨(keep43 HT.out HB.out).1, (keep43 HT.out HB.out).2.1, (keep43 HT.out HB.out).2.2⟩ (fun hHeld => ?_)
            clear hK K
            refine norm_ (a' := ?_) ?_ ?_
            rotate_left
            · show Act.put _ (some 58) _ = _
              simp only [Act.put, List.setIfInBounds_toArray, List.set_cons_zero, List.set_cons_succ, i64_w, i32_w]
              rfl
            refine one_ (i := 5) (N := some 61) #[true, true, true, true, true, true, false, true, true, false, false, false] rfl rfl (by kernel_rfl) (by decide) (fun K hK => ?_)
            refine goes_ Try.func12 (by kernel_rfl) rfl #[.int .i64 next] (by rfl) rfl rfl (by simp only [List.map_toArray, List.map_cons, List.map_nil]; rfl) ?_
            with_reducible refine (put_call _ _).mono ?_
            rintro e w5 ⟨rfl, hb⟩
            refine ⟨_, rfl, ?_⟩
            have n0_ := Aside0.mk (below_step HB.out hb)
            clear HB hb
            have HB := n0_
            clear n0_
            refine hK.out _ _ ⟨(keep43 HT.out HB.out).1, (keep43 HT.out HB.out).2.1, (keep43 HT.out HB.out).2.2⟩ (fun hHeld => ?_)
            clear hK K
            refine norm_ (a' := ?_) ?_ ?_
            rotate_left
            · show Act.put _ (some 61) _ = _
              simp only [Act.put, List.setIfInBounds_toArray, List.set_cons_zero, List.set_cons_succ, i64_w, i32_w]
              rfl
            refine pure_ (i := 6) (N := some 62) (v := ?_) (a' := ?_) #[true, true, true, true, true, true, true, true, true, false, false, false] rfl rfl (by kernel_rfl) (fun _ _ _ h => h) (Or.inl ⟨by rfl, ?_⟩) ?_ ?_
            rotate_left
            · intro w'
              go_simp
              with_reducible rfl
            rotate_left
            · simp only [Act.put, List.setIfInBounds_toArray, List.set_cons_zero, List.set_cons_succ, i64_w, i32_w]
              rfl
            refine one_ (i := 9) (N := some 65) #[true, true, true, true, true, true, true, true, true, true, false, false] rfl rfl (by kernel_rfl) (by decide) (fun K hK => ?_)
            refine goes_ Try.func12 (by kernel_rfl) rfl #[.int .i64 last] (by rfl) rfl rfl (by simp only [List.map_toArray, List.map_cons, List.map_nil]; rfl) ?_
            with_reducible refine (put_call _ _).mono ?_
            rintro e w6 ⟨rfl, hb⟩
            refine ⟨_, rfl, ?_⟩
            have n0_ := Aside0.mk (below_step HB.out hb)
            clear HB hb
            have HB := n0_
            clear n0_
            refine hK.out _ _ ⟨(keep43 HT.out HB.out).1, (keep43 HT.out HB.out).2.1, (keep43 HT.out HB.out).2.2⟩ (fun hHeld => ?_)
            clear hK K
            refine norm_ (a' := ?_) ?_ ?_
            rotate_left
            · show Act.put _ (some 65) _ = _
              simp only [Act.put, List.setIfInBounds_toArray, List.set_cons_zero, List.set_cons_succ, i64_w, i32_w]
              rfl
            refine pure_ (i := 10) (N := some 66) (v := ?_) (a' := ?_) #[true, true, true, true, true, true, true, true, true, true, true, false] rfl rfl (by kernel_rfl) (fun _ _ _ h => h) (Or.inl ⟨by rfl, ?_⟩) ?_ ?_
            rotate_left
            · intro w'
              go_simp
              with_reducible rfl
            rotate_left
            · simp only [Act.put, List.setIfInBounds_toArray, List.set_cons_zero, List.set_cons_succ, i64_w, i32_w]
              rfl
            refine last_ (i := 11) (N := some 67) #[true, true, true, true, true, true, true, true, true, true, true, true] rfl rfl (by kernel_rfl) (by decide) (fun K hK => ?_)
            refine goes_ Try.func45 (by kernel_rfl) rfl #[.pointer (some ⟨nb, 0, none⟩), .string (put log ++ put next ++ put last)] (by rfl) rfl rfl (by simp only [List.map_toArray, List.map_cons, List.map_nil]; rfl) ?_
            refine (EdInv.write HI.out HB.out (put log ++ put next ++ put last) (HLEN.out ())).mono ?_
            rintro e w8 ⟨rfl, h5⟩
            refine ⟨_, rfl, ?_⟩
            have H5 := Aside0.mk h5
            clear h5
            refine hK.out _ _ ?_
            clear hK K
            refine norm_ (a' := ?_) ?_ ?_
            rotate_left
            · show Act.put _ (some 67) _ = _
              simp only [Act.put, List.setIfInBounds_toArray, List.set_cons_zero, List.set_cons_succ, i64_w, i32_w]
              rfl
            refine done_ (by kernel_rfl) ?_
            have HS := Aside0.mk (bldString_call nb nb (edAll adds dels log next last).data.toList w8 (by
              have := H5.out.bld
              rw [List.take_length] at this
              exact this) (Nat.le_of_lt (bld_lt H5.out.bld)))
            go_wp2_with fail
            refine HS.out.mono ?_
            rintro e w9 ⟨rfl, hb⟩
            have HBB := Aside0.mk (H5.out.bel.trans (hb.mono (Nat.le_of_lt H5.out.ge)))
            clear hb
            go_wp2
            go_ret
            exact ⟨by rw [HE.out]; rfl, HBB.out⟩
  · have HE := Aside0.mk (show encEd adds dels log next last = ⟨#[]⟩ from if_neg hok)
    rw [Bool.eq_false_iff.2 hok] at HF
    clear hok
    go_enter Try.func23, Try.ntmps23
    go_wp2_with fail
    refine HF.out.mono ?_
    rintro e w1 ⟨rfl, hb⟩
    have HBB := Aside0.mk (HB0.out.trans (hb.mono HB0.out.size))
    clear hb
    go_wp2
    go_ret
    exact ⟨by rw [HE.out]; rfl, HBB.out⟩
end Go.Proofs.Ytjneloehdcecnaa.M
end
section
-- Written by a changed copy of the print program, one module a function. Not trusted: Lean checks it.
namespace Go.Proofs.Ytjneloehdcecnaa.P
open Go.RowKit Go.Proofs.YtjneloehdcecnaaW.PrintWords Go.Proofs.YtjneloehdcecnaaW.PrintLast Go.Proofs.YtjneloehdcecnaaW.PrintMore
attribute [local go_sem] max2_int min2_int max_two min_two max_three min_three max_four min_four   -- for this text's walks alone
set_option linter.unusedVariables false
set_option linter.unusedSimpArgs false

/-! ### impl_EncodeEdit: function 23 -/
def impl_EncodeEdit.f (l0_0 : List (S87)) (l0_1 : List Int) (a0_2 : Int) (a0_3 : Int) (a0_4 : Int) : Option (ByteArray) := some (M.encEd l0_0 l0_1 a0_2 a0_3 a0_4)

theorem impl_EncodeEdit.calls (A0_0 : Option Addr) (c0_0 : Nat) (l0_0 : List (S87)) (A0_1 : Option Addr) (c0_1 : Nat) (l0_1 : List Int) (a0_2 : Int) (a0_3 : Int) (a0_4 : Int) (r : ByteArray) (w : World) (hr0_0 : Kd.C k87 w A0_0 l0_0.length l0_0) (hc0_0 : l0_0.length ≤ c0_0) (hr0_1 : Kd.C (Kd.int .i64) w A0_1 l0_1.length l0_1) (hc0_1 : l0_1.length ≤ c0_1) (h : impl_EncodeEdit.f l0_0 l0_1 a0_2 a0_3 a0_4 = some r) :
  Calls Try.prog 23 #[.agg #[.slice A0_0 l0_0.length c0_0, .slice A0_1 l0_1.length c0_1, .int .i64 a0_2, .int .i64 a0_3, .int .i64 a0_4]] w fun e w' => e = .returned (.string r) ∧ Below w.heap.size w w' := by
 have e := Option.some.inj h
 have h1 := M.encEdit_call A0_0 c0_0 l0_0 A0_1 c0_1 l0_1 a0_2 a0_3 a0_4 w hr0_0 hc0_0 hr0_1 hc0_1
 rw [e] at h1
 exact h1

end Go.Proofs.Ytjneloehdcecnaa.P
end

/- Texts of the claim FnExactDecodeEntries, part 28 of 33, joined: MEncWalk, MDec, MDecWalk, PimplDecodeEntries. No condition beyond those that stand at each. -/
import Derived.Test.YtjneloehdcecnaaZFnExactDecodeEntries27
import Derived.Test.YtjneloehdcecnaaZFnExactDecodeEntries23
import Derived.Test.YtjneloehdcecnaaZFnExactDecodeEntries22
import Derived.Test.YtjneloehdcecnaaZFnExactDecodeEntries26
section
/- The program's EncodeEntries, walked. No condition. -/
namespace Go.Proofs.Ytjneloehdcecnaa.M
open Go.RowKit Go.Proofs.Ytjneloehdcecnaa.P Go.Proofs.YtjneloehdcecnaaW.PrintWords Go.Proofs.YtjneloehdcecnaaW.PrintLast Go.Proofs.YtjneloehdcecnaaW.PrintMore
set_option linter.unusedVariables false
set_option linter.unusedSimpArgs false
/-- What a round needs of the world. -/
structure EInv (w wr : World) (l : List S71) (i : Nat) : Prop where
  bld : Lib.IsBuilder 75 5 w.heap.size w.heap.size (Lib.strCells (put (l.length : Int) ++ encL (l.take i))) wr
  bel : Below w.heap.size w wr
theorem strCells_append (a b : ByteArray) : Lib.strCells (a ++ b) = Lib.strCells a ++ Lib.strCells b := by
  unfold Lib.strCells
  rw [ByteArray.data_append]
  simp
theorem rd71 (l : List S71) (i : Nat) (h : i < l.length) : rd_T71 l (i : Int) = l[i] := by
  unfold rd_T71
  rw [Int.toNat_natCast, List.getD_eq_getElem?_getD, List.getElem?_eq_getElem h]
  rfl
theorem enc_long {l : List S71} (h : l.length > 1000) : enc l = ⟨#[]⟩ := if_pos h
theorem enc_bad {l : List S71} (i : Nat) (hi : i < l.length) (h : entOk (rd_T71 l (i : Int)) = false) : enc l = ⟨#[]⟩ := by
  unfold enc
  split
  · rfl
  · rw [if_neg]
    intro ha
    rw [List.all_eq_true] at ha
    rw [rd71 l i hi] at h
    rw [ha _ (List.getElem_mem hi)] at h
    cases h
theorem enc_good {l : List S71} (h : ¬ l.length > 1000) (ha : l.all entOk = true) : enc l = put (l.length : Int) ++ encL l := by
  unfold enc
  rw [if_neg h, if_pos ha]
theorem all_snoc {l : List S71} {i : Nat} (hi : i < l.length) (ha : (l.take i).all entOk = true) (h : entOk (rd_T71 l (i : Int)) = true) : (l.take (i + 1)).all entOk = true := by
  rw [rd71 l i hi] at h
  rw [take_at l i hi, List.all_append, ha]
  simp [h]

theorem cv_run {W : World} {g : Nat} {n : Int} (h : W.heap[g]? = some (.cells #[.int .u8 n] 5 (0, 0))) : (convert 65 9 (.slice (some ⟨g, 0, none⟩) 1 1)).run Try.prog W = .ok (.string (strOfNums [n])) W :=
  run_convert_bytes_arg W 65 5 Try.underlying65 Try.underlying5 g 0 1 1 [n] rfl (fun i hi => by
    obtain rfl : i = 0 := by omega
    exact (blk_cell h 0).trans rfl) 9 Try.underlying9
theorem belw {w w3 W w5 : World} (h3 : Below w.heap.size w w3) (hx : Below w3.heap.size w3 W) (h5 : Below w.heap.size W w5) : Below w.heap.size w w5 := (h3.trans (hx.mono h3.size)).trans h5
theorem hbw {w w3 W : World} (h3 : Below w.heap.size w w3) (hx : Below w3.heap.size w3 W) : w.heap.size ≤ W.heap.size := Nat.le_trans h3.size hx.size
theorem u8w (n : Int) : IntKind.u8.wrap n = n % 256 := by simp [IntKind.wrap, IntKind.signed, IntKind.bits]
theorem keepS {w3 W : World} {g : Nat} {x : S71} (h : w3.heap[g]? = some (.cells #[.string x.f0, .int .i64 x.f1, .int .i64 x.f2, .string x.f3] 71 (0, 0))) (hb : Below w3.heap.size w3 W) :
    W.cell? ⟨g, 0, none⟩ = some (.string x.f0) ∧ W.cell? ⟨g, 1, none⟩ = some (.int .i64 x.f1) ∧ W.cell? ⟨g, 2, none⟩ = some (.int .i64 x.f2) ∧ W.cell? ⟨g, 3, none⟩ = some (.string x.f3) := by
  have T := (hb.block g (blk_lt h)).trans h
  exact ⟨(blk_cell T 0).trans rfl, (blk_cell T 1).trans rfl, (blk_cell T 2).trans rfl, (blk_cell T 3).trans rfl⟩

set_option maxHeartbeats 8000000 in
set_option maxRecDepth 100000 in
theorem encEntries_call (A : Option Addr) (c : Nat) (l : List S71) (w : World) (hr : Kd.C k71 w A l.length l) (hc : l.length ≤ c) :
    Calls Try.prog 18 #[.slice A l.length c] w fun e w' => e = .returned (.string (enc l)) ∧ Below w.heap.size w w' := by
  have hu71 := Try.underlying71
  have hu31 := Try.underlying31
  have hu75 := Try.underlying75
  by_cases hlong : l.length > 1000
  · have hl1 : decide ((1000 : Int) < (l.length : Int)) = true := decide_eq_true (by omega)
    have hl2 : decide (1000 < l.length) = true := decide_eq_true (by omega)
    have hl3 : 1000 < l.length := hlong
    have HE := Aside0.mk (enc_long hlong)
    clear hr hlong
    go_enter Try.func18, Try.ntmps18
    go_wp2
    go_ret
    exact ⟨by rw [HE.out]; rfl, Below.refl _ _⟩
  · have hl1 : decide ((1000 : Int) < (l.length : Int)) = false := decide_eq_false (by omega)
    have hl : l.length ≤ 1000 := by omega
    have HR := Aside0.mk hr
    have HLong := Aside0.mk hlong
    have b0 : Below w.heap.size w (w.alloc (.cells #[.pointer none, .slice none 0 0] 75)) := (Below.refl _ w).alloc (Nat.le_refl _) _
    have HF := Aside0.mk (Lib.fresh_isBuilder 75 5 w)
    have HB0 := Aside0.mk b0
    have HP := Aside0.mk (put_call (l.length : Int) (w.alloc (.cells #[.pointer none, .slice none 0 0] 75)))
    clear hr hlong b0
    go_enter Try.func18, Try.ntmps18
    go_wp2_with fail
    refine HP.out.mono ?_
    rintro e w1 ⟨rfl, hb⟩
    have HB1 := Aside0.mk (HB0.out.trans (hb.mono HB0.out.size))
    have HW := Aside0.mk (write_call w.heap.size w.heap.size [] (put (l.length : Int)) w1 (bld_below HF.out hb) (by have := put_size (l.length : Int); simp; omega) HB1.out.size)
    clear hb
    go_wp2_with fail
    refine HW.out.mono ?_
    rintro e w2 ⟨rfl, h2, hb, _⟩
    have HI := Aside0.mk (show EInv w w2 l 0 from ⟨by
      rw [List.nil_append] at h2
      show Lib.IsBuilder 75 5 w.heap.size w.heap.size (Lib.strCells (put (l.length : Int) ++ (⟨#[]⟩ : ByteArray))) w2
      rw [ba_append_empty]
      exact Or.inr h2, HB1.out.trans hb⟩)
    clear h2 hb
    go_wp2
    go_loopw [15] (fun v wr => ∃ i : Nat, i ≤ l.length ∧ v = .int .i64 (i : Int) ∧ Aside0 ((l.take i).all entOk = true) ∧ Aside0 (EInv w wr l i)) (fun v _ => l.length - (intOf v).toNat)
    case atStart => exact ⟨0, by omega, rfl, ⟨rfl⟩, HI⟩
    case round =>
      obtain ⟨i, hi, rfl, HA, HI⟩ := hrel
      by_cases hlt : i < l.length
      · have hlt1 : ((i : Nat) : Int) < (l.length : Int) := by omega
        obtain ⟨ad, hA, hx0, hx1, hx2, hx3⟩ := at_T71 HR.out (i : Int) (by omega) hlt1
        have hx0 := (HI.out.bel.cell (World.block_lt_of_cell? w _ hx0)).trans hx0
        have hx1 := (HI.out.bel.cell (World.block_lt_of_cell? w _ hx1)).trans hx1
        have hx2 := (HI.out.bel.cell (World.block_lt_of_cell? w _ hx2)).trans hx2
        have hx3 := (HI.out.bel.cell (World.block_lt_of_cell? w _ hx3)).trans hx3
        rw [Int.toNat_natCast] at hx0 hx1 hx2 hx3
        subst hA
        by_cases hok : entOk (rd_T71 l (i : Int)) = true
        · generalize hx : rd_T71 l (i : Int) = x at hx0 hx1 hx2 hx3 hok
          have HX := Aside0.mk hx
          have HOK := Aside0.mk hok
          have HFC := Aside0.mk (fine_call x (wr.alloc (.cells #[.string x.f0, .int .i64 x.f1, .int .i64 x.f2, .string x.f3] 71)))
          rw [hok] at HFC
          clear hx hok
          go_wp2_with fail
          refine HFC.out.mono ?_
          rintro e w3 ⟨rfl, hb⟩
          have T := (hb.block wr.heap.size (by simp)).trans (heap_alloc_new wr (.cells #[.string x.f0, .int .i64 x.f1, .int .i64 x.f2, .string x.f3] 71))
          have HT := Aside0.mk T
          have HB3 := Aside0.mk ((HI.out.bel.alloc HI.out.bel.size (.cells #[.string x.f0, .int .i64 x.f1, .int .i64 x.f2, .string x.f3] 71)).trans (hb.mono (by have := HI.out.bel.size; simp; omega)))
          have HBL := Aside0.mk (bld_below (bld_below HI.out.bld ((Below.refl _ wr).alloc (Nat.le_refl _) (.cells #[.string x.f0, .int .i64 x.f1, .int .i64 x.f2, .string x.f3] 71))) hb)
          have HSZ := Aside0.mk (encL_size (l.take i) HA.out)
          have hk0 : x.f0.size ≤ 1048576 := by have := entOk_sizes HOK.out; omega
          have hk3 : x.f3.size ≤ 1048576 := by have := entOk_sizes HOK.out; omega
          clear hb T
          have q0 := szd_size x.f0
          have q1 := put_size x.f1
          have q3 := szd_size x.f3
          have c1 : (9223372036854775807 < (szd x.f0).size + (put x.f1).size) = False := eq_false (by omega)
          have c2 : (9223372036854775807 < (szd x.f0).size + (put x.f1).size + (strOfNums [IntKind.u8.wrap x.f2]).size) = False := eq_false (by rw [strOfNums_size]; simp; omega)
          have c3 : (9223372036854775807 < (szd x.f0).size + (put x.f1).size + (strOfNums [IntKind.u8.wrap x.f2]).size + (szd x.f3).size) = False := eq_false (by rw [strOfNums_size]; simp; omega)
          have HLEN := Aside0.mk (show ∀ u : Unit, (Lib.strCells (put (l.length : Int) ++ encL (l.take i))).length + (szd x.f0 ++ put x.f1 ++ strOfNums [IntKind.u8.wrap x.f2] ++ szd x.f3).size ≤ 140737488355328 from fun _ => by
            have h1 := HSZ.out
            have h2 := put_size (l.length : Int)
            have h4 := entOk_sizes HOK.out
            have h5 : (l.take i).length ≤ 1000 := by rw [List.length_take]; omega
            rw [Lib.strCells_length, ByteArray.size_append, ByteArray.size_append, ByteArray.size_append, ByteArray.size_append, strOfNums_size]
            simp only [List.length_cons, List.length_nil]
            omega)
          have BD := Aside0.mk (below_drew (Below.refl w3.heap.size w3))
          go_wp2
          refine start_ (n := 18) (S := fun w' => w'.cell? ⟨wr.heap.size, 0, none⟩ = some (.string x.f0) ∧ w'.cell? ⟨wr.heap.size, 1, none⟩ = some (.int .i64 x.f1) ∧ w'.cell? ⟨wr.heap.size, 2, none⟩ = some (.int .i64 x.f2) ∧ w'.cell? ⟨wr.heap.size, 3, none⟩ = some (.string x.f3)) (ds := [17]) #[false, false, false, false, false, false, false, false, false, false, false, false, false, false, false, false, false, false] (by kernel_rfl) rfl rfl ⟨(keepS HT.out BD.out).1, (keepS HT.out BD.out).2.1, (keepS HT.out BD.out).2.2.1, (keepS HT.out BD.out).2.2.2⟩ (fun hHeld => ?_)
          generalize w3.drew = wd at BD hHeld ⊢
          have HB := BD
          refine pure_ (i := 0) (N := some 22) (v := ?_) (a' := ?_) #[true, false, false, false, false, false, false, false, false, false, false, false, false, false, false, false, false, false] rfl rfl (by kernel_rfl) (fun _ _ _ h => h) (Or.inl ⟨by rfl, ?_⟩) ?_ ?_
          rotate_left
          · intro w'
            go_simp
            with_reducible rfl
          rotate_left
          · simp only [Act.put, List.setIfInBounds_toArray, List.set_cons_zero, List.set_cons_succ, i64_w, i32_w]
            rfl
          refine pure_ (i := 3) (N := some 25) (v := ?_) (a' := ?_) #[true, false, false, true, false, false, false, false, false, false, false, false, false, false, false, false, false, false] rfl rfl (by kernel_rfl) (fun _ _ _ h => h) (Or.inl ⟨by rfl, ?_⟩) ?_ ?_
          rotate_left
          · intro w'
            go_simp
            with_reducible rfl
          rotate_left
          · simp only [Act.put, List.setIfInBounds_toArray, List.set_cons_zero, List.set_cons_succ, i64_w, i32_w]
            rfl
          refine pure_ (i := 7) (N := some 29) (v := ?_) (a' := ?_) #[true, false, false, true, false, false, false, true, false, false, false, false, false, false, false, false, false, false] rfl rfl (by kernel_rfl) (fun _ _ _ h => h) (Or.inl ⟨by rfl, ?_⟩) ?_ ?_
          rotate_left
          · intro w'
            go_simp
            with_reducible rfl
          rotate_left
          · simp only [Act.put, List.setIfInBounds_toArray, List.set_cons_zero, List.set_cons_succ, i64_w, i32_w]
            rfl
          refine pure_ (i := 13) (N := some 35) (v := ?_) (a' := ?_) #[true, false, false, true, false, false, false, true, false, false, false, false, false, true, false, false, false, false] rfl rfl (by kernel_rfl) (fun _ _ _ h => h) (Or.inl ⟨by rfl, ?_⟩) ?_ ?_
          rotate_left
          · intro w'
            go_simp
            with_reducible rfl
          rotate_left
          · simp only [Act.put, List.setIfInBounds_toArray, List.set_cons_zero, List.set_cons_succ, i64_w, i32_w]
            rfl
          refine take_ (i := 1) (N := some 23) (v := ?_) (a' := ?_) #[true, true, false, true, false, false, false, true, false, false, false, false, false, true, false, false, false, false] rfl rfl (by kernel_rfl) (fun _ _ _ h => h) (Or.inl ⟨by rfl, ?_⟩) hHeld ?_ ?_
          rotate_left
          · rintro w' ⟨s0, s1, s2, s3⟩
            go_simp
            with_reducible rfl
          rotate_left
          · simp only [Act.put, List.setIfInBounds_toArray, List.set_cons_zero, List.set_cons_succ, i64_w, i32_w]
            rfl
          refine take_ (i := 4) (N := some 26) (v := ?_) (a' := ?_) #[true, true, false, true, true, false, false, true, false, false, false, false, false, true, false, false, false, false] rfl rfl (by kernel_rfl) (fun _ _ _ h => h) (Or.inl ⟨by rfl, ?_⟩) hHeld ?_ ?_
          rotate_left
          · rintro w' ⟨s0, s1, s2, s3⟩
            go_simp
            with_reducible rfl
          rotate_left
          · simp only [Act.put, List.setIfInBounds_toArray, List.set_cons_zero, List.set_cons_succ, i64_w, i32_w]
            rfl
          refine take_ (i := 8) (N := some 30) (v := ?_) (a' := ?_) #[true, true, false, true, true, false, false, true, true, false, false, false, false, true, false, false, false, false] rfl rfl (by kernel_rfl) (fun _ _ _ h => h) (Or.inl ⟨by rfl, ?_⟩) hHeld ?_ ?_
          rotate_left
          · rintro w' ⟨s0, s1, s2, s3⟩
            go_simp
            with_reducible rfl
          rotate_left
          · simp only [Act.put, List.setIfInBounds_toArray, List.set_cons_zero, List.set_cons_succ, i64_w, i32_w]
            rfl
          refine pure_ (i := 9) (N := some 31) (v := ?_) (a' := ?_) #[true, true, false, true, true, false, false, true, true, true, false, false, false, true, false, false, false, false] rfl rfl (by kernel_rfl) (fun _ _ _ h => h) (Or.inl ⟨by rfl, ?_⟩) ?_ ?_
          rotate_left
          · intro w'
            go_simp
            with_reducible rfl
          rotate_left
          · simp only [Act.put, List.setIfInBounds_toArray, List.set_cons_zero, List.set_cons_succ, i64_w, i32_w]
            rfl
          refine take_ (i := 14) (N := some 36) (v := ?_) (a' := ?_) #[true, true, false, true, true, false, false, true, true, true, false, false, false, true, true, false, false, false] rfl rfl (by kernel_rfl) (fun _ _ _ h => h) (Or.inl ⟨by rfl, ?_⟩) hHeld ?_ ?_
          rotate_left
          · rintro w' ⟨s0, s1, s2, s3⟩
            go_simp
            with_reducible rfl
          rotate_left
          · simp only [Act.put, List.setIfInBounds_toArray, List.set_cons_zero, List.set_cons_succ, i64_w, i32_w]
            rfl
          refine join_ (σ := Nat) 2 #[true, true, true, true, true, true, true, true, true, true, true, true, true, true, true, true, false, false] (fun g_ => [(24, .string (szd x.f0)), (27, .string (put x.f1)), (28, .string (szd x.f0 ++ put x.f1)), (32, .slice (some ⟨g_, 0, none⟩) 1 1), (33, .string (strOfNums [IntKind.u8.wrap x.f2])), (34, .string (szd x.f0 ++ put x.f1 ++ strOfNums [IntKind.u8.wrap x.f2])), (37, .string (szd x.f3))]) (fun _ w' => Below w3.heap.size w3 w') ?_ ?_
          rotate_left
          · intro hCont
            refine two_ (i := 2) (j := 10) (Ni := some 24) (Nj := some 32) #[true, true, true, true, true, false, false, true, true, true, false, false, false, true, true, false, false, false] #[true, true, false, true, true, false, false, true, true, true, true, false, false, true, true, false, false, false] rfl rfl rfl rfl (by kernel_rfl) (by decide) (by decide) (fun K hK => ?_) (fun K hK => ?_)
            · skip
              refine goes_ Try.func47 (by kernel_rfl) rfl #[.string x.f0] (by rfl) rfl rfl (by simp only [List.map_toArray, List.map_cons, List.map_nil]; rfl) ?_
              with_reducible refine (szd_call _ _ hk0).mono ?_
              rintro e w4 ⟨rfl, hb⟩
              refine ⟨_, rfl, ?_⟩
              have n0_ := Aside0.mk (below_step HB.out hb)
              clear HB hb
              have HB := n0_
              clear n0_
              refine hK.out _ _ ⟨(keepS HT.out HB.out).1, (keepS HT.out HB.out).2.1, (keepS HT.out HB.out).2.2.1, (keepS HT.out HB.out).2.2.2⟩ (fun hHeld => ?_)
              clear hK K
              refine norm_ (a' := ?_) ?_ ?_
              rotate_left
              · show Act.put _ (some 24) _ = _
                simp only [Act.put, List.setIfInBounds_toArray, List.set_cons_zero, List.set_cons_succ, i64_w, i32_w]
                rfl
              refine two_ (i := 5) (j := 10) (Ni := some 27) (Nj := some 32) #[true, true, true, true, true, true, false, true, true, true, false, false, false, true, true, false, false, false] #[true, true, true, true, true, false, false, true, true, true, true, false, false, true, true, false, false, false] rfl rfl rfl rfl (by kernel_rfl) (by decide) (by decide) (fun K hK => ?_) (fun K hK => ?_)
              · skip
                refine goes_ Try.func12 (by kernel_rfl) rfl #[.int .i64 x.f1] (by rfl) rfl rfl (by simp only [List.map_toArray, List.map_cons, List.map_nil]; rfl) ?_
                with_reducible refine (put_call _ _).mono ?_
                rintro e w5 ⟨rfl, hb⟩
                refine ⟨_, rfl, ?_⟩
                have n0_ := Aside0.mk (below_step HB.out hb)
                clear HB hb
                have HB := n0_
                clear n0_
                refine hK.out _ _ ⟨(keepS HT.out HB.out).1, (keepS HT.out HB.out).2.1, (keepS HT.out HB.out).2.2.1, (keepS HT.out HB.out).2.2.2⟩ (fun hHeld => ?_)
                clear hK K
                refine norm_ (a' := ?_) ?_ ?_
                rotate_left
                · show Act.put _ (some 27) _ = _
                  simp only [Act.put, List.setIfInBounds_toArray, List.set_cons_zero, List.set_cons_succ, i64_w, i32_w]
                  rfl
                refine pure_ (i := 6) (N := some 28) (v := ?_) (a' := ?_) #[true, true, true, true, true, true, true, true, true, true, false, false, false, true, true, false, false, false] rfl rfl (by kernel_rfl) (fun _ _ _ h => h) (Or.inl ⟨by rfl, ?_⟩) ?_ ?_
                rotate_left
                · intro w'
                  go_simp
                  with_reducible rfl
                rotate_left
                · simp only [Act.put, List.setIfInBounds_toArray, List.set_cons_zero, List.set_cons_succ, i64_w, i32_w]
                  rfl
                refine two_ (i := 10) (j := 15) (Ni := some 32) (Nj := some 37) #[true, true, true, true, true, true, true, true, true, true, true, false, false, true, true, false, false, false] #[true, true, true, true, true, true, true, true, true, true, false, false, false, true, true, true, false, false] rfl rfl rfl rfl (by kernel_rfl) (by decide) (by decide) (fun K hK => ?_) (fun K hK => ?_)
                · skip
                  have n0_ := Aside0.mk (below_alloc HB.out (.cells #[.int .u8 (IntKind.u8.wrap x.f2)] 5))
                  have HV := Aside0.mk (heap_alloc_new w5 (.cells #[.int .u8 (IntKind.u8.wrap x.f2)] 5))
                  clear HB
                  have HB := n0_
                  clear n0_
                  refine value_ (w1 := ?_) (v := ?_) (by rfl) rfl ?_ ?_
                  rotate_left 2
                  · go_simp
                    constructor
                    · rfl
                    · rfl
                  refine hK.out _ _ ⟨(keepS HT.out HB.out).1, (keepS HT.out HB.out).2.1, (keepS HT.out HB.out).2.2.1, (keepS HT.out HB.out).2.2.2⟩ (fun hHeld => ?_)
                  clear hK K
                  refine norm_ (a' := ?_) ?_ ?_
                  rotate_left
                  · show Act.put _ (some 32) _ = _
                    simp only [Act.put, List.setIfInBounds_toArray, List.set_cons_zero, List.set_cons_succ, i64_w, i32_w]
                    rfl
                  refine two_ (i := 11) (j := 15) (Ni := some 33) (Nj := some 37) #[true, true, true, true, true, true, true, true, true, true, true, true, false, true, true, false, false, false] #[true, true, true, true, true, true, true, true, true, true, true, false, false, true, true, true, false, false] rfl rfl rfl rfl (by kernel_rfl) (by decide) (by decide) (fun K hK => ?_) (fun K hK => ?_)
                  · skip
                    have C0 := cv_run HV.out
                    refine value_ (w1 := ?_) (v := ?_) (by rfl) rfl ?_ ?_
                    rotate_left 2
                    · go_simp
                      constructor
                      · rfl
                      · rfl
                    clear C0
                    refine hK.out _ _ ⟨(keepS HT.out HB.out).1, (keepS HT.out HB.out).2.1, (keepS HT.out HB.out).2.2.1, (keepS HT.out HB.out).2.2.2⟩ (fun hHeld => ?_)
                    clear hK K
                    refine norm_ (a' := ?_) ?_ ?_
                    rotate_left
                    · show Act.put _ (some 33) _ = _
                      simp only [Act.put, List.setIfInBounds_toArray, List.set_cons_zero, List.set_cons_succ, i64_w, i32_w]
                      rfl
                    refine pure_ (i := 12) (N := some 34) (v := ?_) (a' := ?_) #[true, true, true, true, true, true, true, true, true, true, true, true, true, true, true, false, false, false] rfl rfl (by kernel_rfl) (fun _ _ _ h => h) (Or.inl ⟨by rfl, ?_⟩) ?_ ?_
                    rotate_left
                    · intro w'
                      go_simp
                      with_reducible rfl
                    rotate_left
                    · simp only [Act.put, List.setIfInBounds_toArray, List.set_cons_zero, List.set_cons_succ, i64_w, i32_w]
                      rfl
                    refine one_ (i := 15) (N := some 37) #[true, true, true, true, true, true, true, true, true, true, true, true, true, true, true, true, false, false] rfl rfl (by kernel_rfl) (by decide) (fun K hK => ?_)
                    refine goes_ Try.func47 (by kernel_rfl) rfl #[.string x.f3] (by rfl) rfl rfl (by simp only [List.map_toArray, List.map_cons, List.map_nil]; rfl) ?_
                    with_reducible refine (szd_call _ _ hk3).mono ?_
                    rintro e w6 ⟨rfl, hb⟩
                    refine ⟨_, rfl, ?_⟩
                    have n0_ := Aside0.mk (below_step HB.out hb)
                    have n1_ := Aside0.mk ((hb.block _ (blk_lt HV.out)).trans HV.out)
                    clear HV
                    have HV := n1_
                    clear n1_
                    clear HB hb
                    have HB := n0_
                    clear n0_
                    refine hK.out _ _ ⟨(keepS HT.out HB.out).1, (keepS HT.out HB.out).2.1, (keepS HT.out HB.out).2.2.1, (keepS HT.out HB.out).2.2.2⟩ (fun hHeld => ?_)
                    clear hK K
                    refine norm_ (a' := ?_) ?_ ?_
                    rotate_left
                    · show Act.put _ (some 37) _ = _
                      simp only [Act.put, List.setIfInBounds_toArray, List.set_cons_zero, List.set_cons_succ, i64_w, i32_w]
                      rfl
                    exact norm_ (by simp only [putAll, Act.put, List.setIfInBounds_toArray, List.set_cons_zero, List.set_cons_succ]) (hCont (w5.heap.size) _ HB.out)
                  · skip
                    refine goes_ Try.func47 (by kernel_rfl) rfl #[.string x.f3] (by rfl) rfl rfl (by simp only [List.map_toArray, List.map_cons, List.map_nil]; rfl) ?_
                    with_reducible refine (szd_call _ _ hk3).mono ?_
                    rintro e w6 ⟨rfl, hb⟩
                    refine ⟨_, rfl, ?_⟩
                    have n0_ := Aside0.mk (below_step HB.out hb)
                    have n1_ := Aside0.mk ((hb.block _ (blk_lt HV.out)).trans HV.out)
                    clear HV
                    have HV := n1_
                    clear n1_
                    clear HB hb
                    have HB := n0_
                    clear n0_
                    refine hK.out _ _ ⟨(keepS HT.out HB.out).1, (keepS HT.out HB.out).2.1, (keepS HT.out HB.out).2.2.1, (keepS HT.out HB.out).2.2.2⟩ (fun hHeld => ?_)
                    clear hK K
                    refine norm_ (a' := ?_) ?_ ?_
                    rotate_left
                    · show Act.put _ (some 37) _ = _
                      simp only [Act.put, List.setIfInBounds_toArray, List.set_cons_zero, List.set_cons_succ, i64_w, i32_w]
                      rfl
                    refine one_ (i := 11) (N := some 33) #[true, true, true, true, true, true, true, true, true, true, true, true, false, true, true, true, false, false] rfl rfl (by kernel_rfl) (by decide) (fun K hK => ?_)
                    have C0 := cv_run HV.out
                    refine value_ (w1 := ?_) (v := ?_) (by rfl) rfl ?_ ?_
                    rotate_left 2
                    · go_simp
                      constructor
                      · rfl
                      · rfl
                    clear C0
                    refine hK.out _ _ ⟨(keepS HT.out HB.out).1, (keepS HT.out HB.out).2.1, (keepS HT.out HB.out).2.2.1, (keepS HT.out HB.out).2.2.2⟩ (fun hHeld => ?_)
                    clear hK K
                    refine norm_ (a' := ?_) ?_ ?_
                    rotate_left
                    · show Act.put _ (some 33) _ = _
                      simp only [Act.put, List.setIfInBounds_toArray, List.set_cons_zero, List.set_cons_succ, i64_w, i32_w]
                      rfl
                    refine pure_ (i := 12) (N := some 34) (v := ?_) (a' := ?_) #[true, true, true, true, true, true, true, true, true, true, true, true, true, true, true, true, false, false] rfl rfl (by kernel_rfl) (fun _ _ _ h => h) (Or.inl ⟨by rfl, ?_⟩) ?_ ?_
                    rotate_left
                    · intro w'
                      go_simp
                      with_reducible rfl
                    rotate_left
                    · simp only [Act.put, List.setIfInBounds_toArray, List.set_cons_zero, List.set_cons_succ, i64_w, i32_w]
                      rfl
                    exact norm_ (by simp only [putAll, Act.put, List.setIfInBounds_toArray, List.set_cons_zero, List.set_cons_succ]) (hCont (w5.heap.size) _ HB.out)
                · skip
                  refine goes_ Try.func47 (by kernel_rfl) rfl #[.string x.f3] (by rfl) rfl rfl (by simp only [List.map_toArray, List.map_cons, List.map_nil]; rfl) ?_
                  with_reducible refine (szd_call _ _ hk3).mono ?_
                  rintro e w6 ⟨rfl, hb⟩
                  refine ⟨_, rfl, ?_⟩
                  have n0_ := Aside0.mk (below_step HB.out hb)
                  clear HB hb
                  have HB := n0_
                  clear n0_
                  refine hK.out _ _ ⟨(keepS HT.out HB.out).1, (keepS HT.out HB.out).2.1, (keepS HT.out HB.out).2.2.1, (keepS HT.out HB.out).2.2.2⟩ (fun hHeld => ?_)
                  clear hK K
                  refine norm_ (a' := ?_) ?_ ?_
                  rotate_left
                  · show Act.put _ (some 37) _ = _
                    simp only [Act.put, List.setIfInBounds_toArray, List.set_cons_zero, List.set_cons_succ, i64_w, i32_w]
                    rfl
                  refine one_ (i := 10) (N := some 32) #[true, true, true, true, true, true, true, true, true, true, true, false, false, true, true, true, false, false] rfl rfl (by kernel_rfl) (by decide) (fun K hK => ?_)
                  have n0_ := Aside0.mk (below_alloc HB.out (.cells #[.int .u8 (IntKind.u8.wrap x.f2)] 5))
                  have HV := Aside0.mk (heap_alloc_new w6 (.cells #[.int .u8 (IntKind.u8.wrap x.f2)] 5))
                  clear HB
                  have HB := n0_
                  clear n0_
                  refine value_ (w1 := ?_) (v := ?_) (by rfl) rfl ?_ ?_
                  rotate_left 2
                  · go_simp
                    constructor
                    · rfl
                    · rfl
                  refine hK.out _ _ ⟨(keepS HT.out HB.out).1, (keepS HT.out HB.out).2.1, (keepS HT.out HB.out).2.2.1, (keepS HT.out HB.out).2.2.2⟩ (fun hHeld => ?_)
                  clear hK K
                  refine norm_ (a' := ?_) ?_ ?_
                  rotate_left
                  · show Act.put _ (some 32) _ = _
                    simp only [Act.put, List.setIfInBounds_toArray, List.set_cons_zero, List.set_cons_succ, i64_w, i32_w]
                    rfl
                  refine one_ (i := 11) (N := some 33) #[true, true, true, true, true, true, true, true, true, true, true, true, false, true, true, true, false, false] rfl rfl (by kernel_rfl) (by decide) (fun K hK => ?_)
                  have C0 := cv_run HV.out
                  refine value_ (w1 := ?_) (v := ?_) (by rfl) rfl ?_ ?_
                  rotate_left 2
                  · go_simp
                    constructor
                    · rfl
                    · rfl
                  clear C0
                  refine hK.out _ _ ⟨(keepS HT.out HB.out).1, (keepS HT.out HB.out).2.1, (keepS HT.out HB.out).2.2.1, (keepS HT.out HB.out).2.2.2⟩ (fun hHeld => ?_)
                  clear hK K
                  refine norm_ (a' := ?_) ?_ ?_
                  rotate_left
                  · show Act.put _ (some 33) _ = _
                    simp only [Act.put, List.setIfInBounds_toArray, List.set_cons_zero, List.set_cons_succ, i64_w, i32_w]
                    rfl
                  refine pure_ (i := 12) (N := some 34) (v := ?_) (a' := ?_) #[true, true, true, true, true, true, true, true, true, true, true, true, true, true, true, true, false, false] rfl rfl (by kernel_rfl) (fun _ _ _ h => h) (Or.inl ⟨by rfl, ?_⟩) ?_ ?_
                  rotate_left
                  · intro w'
                    go_simp
                    with_reducible rfl
                  rotate_left
                  · simp only [Act.put, List.setIfInBounds_toArray, List.set_cons_zero, List.set_cons_succ, i64_w, i32_w]
                    rfl
                  exact norm_ (by simp only [putAll, Act.put, List.setIfInBounds_toArray, List.set_cons_zero, List.set_cons_succ]) (hCont (w6.heap.size) _ HB.out)
              · skip
                have n0_ := Aside0.mk (below_alloc HB.out (.cells #[.int .u8 (IntKind.u8.wrap x.f2)] 5))
                have HV := Aside0.mk (heap_alloc_new w4 (.cells #[.int .u8 (IntKind.u8.wrap x.f2)] 5))
                clear HB
                have HB := n0_
                clear n0_
                refine value_ (w1 := ?_) (v := ?_) (by rfl) rfl ?_ ?_
                rotate_left 2
                · go_simp
                  constructor
                  · rfl
                  · rfl
                refine hK.out _ _ ⟨(keepS HT.out HB.out).1, (keepS HT.out HB.out).2.1, (keepS HT.out HB.out).2.2.1, (keepS HT.out HB.out).2.2.2⟩ (fun hHeld => ?_)
                clear hK K
                refine norm_ (a' := ?_) ?_ ?_
                rotate_left
                · show Act.put _ (some 32) _ = _
                  simp only [Act.put, List.setIfInBounds_toArray, List.set_cons_zero, List.set_cons_succ, i64_w, i32_w]
                  rfl
                refine two_ (i := 5) (j := 11) (Ni := some 27) (Nj := some 33) #[true, true, true, true, true, true, false, true, true, true, true, false, false, true, true, false, false, false] #[true, true, true, true, true, false, false, true, true, true, true, true, false, true, true, false, false, false] rfl rfl rfl rfl (by kernel_rfl) (by decide) (by decide) (fun K hK => ?_) (fun K hK => ?_)
                · skip
                  refine goes_ Try.func12 (by kernel_rfl) rfl #[.int .i64 x.f1] (by rfl) rfl rfl (by simp only [List.map_toArray, List.map_cons, List.map_nil]; rfl) ?_
                  with_reducible refine (put_call _ _).mono ?_
                  rintro e w5 ⟨rfl, hb⟩
                  refine ⟨_, rfl, ?_⟩
                  have n0_ := Aside0.mk (below_step HB.out hb)
                  have n1_ := Aside0.mk ((hb.block _ (blk_lt HV.out)).trans HV.out)
                  clear HV
                  have HV := n1_
                  clear n1_
                  clear HB hb
                  have HB := n0_
                  clear n0_
                  refine hK.out _ _ ⟨(keepS HT.out HB.out).1, (keepS HT.out HB.out).2.1, (keepS HT.out HB.out).2.2.1, (keepS HT.out HB.out).2.2.2⟩ (fun hHeld => ?_)
                  clear hK K
                  refine norm_ (a' := ?_) ?_ ?_
                  rotate_left
                  · show Act.put _ (some 27) _ = _
                    simp only [Act.put, List.setIfInBounds_toArray, List.set_cons_zero, List.set_cons_succ, i64_w, i32_w]
                    rfl
                  refine pure_ (i := 6) (N := some 28) (v := ?_) (a' := ?_) #[true, true, true, true, true, true, true, true, true, true, true, false, false, true, true, false, false, false] rfl rfl (by kernel_rfl) (fun _ _ _ h => h) (Or.inl ⟨by rfl, ?_⟩) ?_ ?_
                  rotate_left
                  · intro w'
                    go_simp
                    with_reducible rfl
                  rotate_left
                  · simp only [Act.put, List.setIfInBounds_toArray, List.set_cons_zero, List.set_cons_succ, i64_w, i32_w]
                    rfl
                  refine two_ (i := 11) (j := 15) (Ni := some 33) (Nj := some 37) #[true, true, true, true, true, true, true, true, true, true, true, true, false, true, true, false, false, false] #[true, true, true, true, true, true, true, true, true, true, true, false, false, true, true, true, false, false] rfl rfl rfl rfl (by kernel_rfl) (by decide) (by decide) (fun K hK => ?_) (fun K hK => ?_)
                  · skip
                    have C0 := cv_run HV.out
                    refine value_ (w1 := ?_) (v := ?_) (by rfl) rfl ?_ ?_
                    rotate_left 2
                    · go_simp
                      constructor
                      · rfl
                      · rfl
                    clear C0
                    refine hK.out _ _ ⟨(keepS HT.out HB.out).1, (keepS HT.out HB.out).2.1, (keepS HT.out HB.out).2.2.1, (keepS HT.out HB.out).2.2.2⟩ (fun hHeld => ?_)
                    clear hK K
                    refine norm_ (a' := ?_) ?_ ?_
                    rotate_left
                    · show Act.put _ (some 33) _ = _
                      simp only [Act.put, List.setIfInBounds_toArray, List.set_cons_zero, List.set_cons_succ, i64_w, i32_w]
                      rfl
                    refine pure_ (i := 12) (N := some 34) (v := ?_) (a' := ?_) #[true, true, true, true, true, true, true, true, true, true, true, true, true, true, true, false, false, false] rfl rfl (by kernel_rfl) (fun _ _ _ h => h) (Or.inl ⟨by rfl, ?_⟩) ?_ ?_
                    rotate_left
                    · intro w'
                      go_simp
                      with_reducible rfl
                    rotate_left
                    · simp only [Act.put, List.setIfInBounds_toArray, List.set_cons_zero, List.set_cons_succ, i64_w, i32_w]
                      rfl
                    refine one_ (i := 15) (N := some 37) #[true, true, true, true, true, true, true, true, true, true, true, true, true, true, true, true, false, false] rfl rfl (by kernel_rfl) (by decide) (fun K hK => ?_)
                    refine goes_ Try.func47 (by kernel_rfl) rfl #[.string x.f3] (by rfl) rfl rfl (by simp only [List.map_toArray, List.map_cons, List.map_nil]; rfl) ?_
                    with_reducible refine (szd_call _ _ hk3).mono ?_
                    rintro e w6 ⟨rfl, hb⟩
                    refine ⟨_, rfl, ?_⟩
                    have n0_ := Aside0.mk (below_step HB.out hb)
                    have n1_ := Aside0.mk ((hb.block _ (blk_lt HV.out)).trans HV.out)
                    clear HV
                    have HV := n1_
                    clear n1_
                    clear HB hb
                    have HB := n0_
                    clear n0_
                    refine hK.out _ _ ⟨(keepS HT.out HB.out).1, (keepS HT.out HB.out).2.1, (keepS HT.out HB.out).2.2.1, (keepS HT.out HB.out).2.2.2⟩ (fun hHeld => ?_)
                    clear hK K
                    refine norm_ (a' := ?_) ?_ ?_
                    rotate_left
                    · show Act.put _ (some 37) _ = _
                      simp only [Act.put, List.setIfInBounds_toArray, List.set_cons_zero, List.set_cons_succ, i64_w, i32_w]
                      rfl
                    exact norm_ (by simp only [putAll, Act.put, List.setIfInBounds_toArray, List.set_cons_zero, List.set_cons_succ]) (hCont (w4.heap.size) _ HB.out)
                  · skip
                    refine goes_ Try.func47 (by kernel_rfl) rfl #[.string x.f3] (by rfl) rfl rfl (by simp only [List.map_toArray, List.map_cons, List.map_nil]; rfl) ?_
                    with_reducible refine (szd_call _ _ hk3).mono ?_
                    rintro e w6 ⟨rfl, hb⟩
                    refine ⟨_, rfl, ?_⟩
                    have n0_ := Aside0.mk (below_step HB.out hb)
                    have n1_ := Aside0.mk ((hb.block _ (blk_lt HV.out)).trans HV.out)
                    clear HV
                    have HV := n1_
                    clear n1_
                    clear HB hb
                    have HB := n0_
                    clear n0_
                    refine hK.out _ _ ⟨(keepS HT.out HB.out).1, (keepS HT.out HB.out).2.1, (keepS HT.out HB.out).2.2.1, (keepS HT.out HB.out).2.2.2⟩ (fun hHeld => ?_)
                    clear hK K
                    refine norm_ (a' := ?_) ?_ ?_
                    rotate_left
                    · show Act.put _ (some 37) _ = _
                      simp only [Act.put, List.setIfInBounds_toArray, List.set_cons_zero, List.set_cons_succ, i64_w, i32_w]
                      rfl
                    refine one_ (i := 11) (N := some 33) #[true, true, true, true, true, true, true, true, true, true, true, true, false, true, true, true, false, false] rfl rfl (by kernel_rfl) (by decide) (fun K hK => ?_)
                    have C0 := cv_run HV.out
                    refine value_ (w1 := ?_) (v := ?_) (by rfl) rfl ?_ ?_
                    rotate_left 2
                    · go_simp
                      constructor
                      · rfl
                      · rfl
                    clear C0
                    refine hK.out _ _ ⟨(keepS HT.out HB.out).1, (keepS HT.out HB.out).2.1, (keepS HT.out HB.out).2.2.1, (keepS HT.out HB.out).2.2.2⟩ (fun hHeld => ?_)
                    clear hK K
                    refine norm_ (a' := ?_) ?_ ?_
                    rotate_left
                    · show Act.put _ (some 33) _ = _
                      simp only [Act.put, List.setIfInBounds_toArray, List.set_cons_zero, List.set_cons_succ, i64_w, i32_w]
                      rfl
                    refine pure_ (i := 12) (N := some 34) (v := ?_) (a' := ?_) #[true, true, true, true, true, true, true, true, true, true, true, true, true, true, true, true, false, false] rfl rfl (by kernel_rfl) (fun _ _ _ h => h) (Or.inl ⟨by rfl, ?_⟩) ?_ ?_
                    rotate_left
                    · intro w'
                      go_simp
                      with_reducible rfl
                    rotate_left
                    · simp only [Act.put, List.setIfInBounds_toArray, List.set_cons_zero, List.set_cons_succ, i64_w, i32_w]
                      rfl
                    exact norm_ (by simp only [putAll, Act.put, List.setIfInBounds_toArray, List.set_cons_zero, List.set_cons_succ]) (hCont (w4.heap.size) _ HB.out)
                · skip
                  have C0 := cv_run HV.out
                  refine value_ (w1 := ?_) (v := ?_) (by rfl) rfl ?_ ?_
                  rotate_left 2
                  · go_simp
                    constructor
                    · rfl
                    · rfl
                  clear C0
                  refine hK.out _ _ ⟨(keepS HT.out HB.out).1, (keepS HT.out HB.out).2.1, (keepS HT.out HB.out).2.2.1, (keepS HT.out HB.out).2.2.2⟩ (fun hHeld => ?_)
                  clear hK K
                  refine norm_ (a' := ?_) ?_ ?_
                  rotate_left
                  · show Act.put _ (some 33) _ = _
                    simp only [Act.put, List.setIfInBounds_toArray, List.set_cons_zero, List.set_cons_succ, i64_w, i32_w]
                    rfl
                  refine one_ (i := 5) (N := some 27) #[true, true, true, true, true, true, false, true, true, true, true, true, false, true, true, false, false, false] rfl rfl (by kernel_rfl) (by decide) (fun K hK => ?_)
                  refine goes_ Try.func12 (by kernel_rfl) rfl #[.int .i64 x.f1] (by rfl) rfl rfl (by simp only [List.map_toArray, List.map_cons, List.map_nil]; rfl) ?_
                  with_reducible refine (put_call _ _).mono ?_
                  rintro e w5 ⟨rfl, hb⟩
                  refine ⟨_, rfl, ?_⟩
                  have n0_ := Aside0.mk (below_step HB.out hb)
                  have n1_ := Aside0.mk ((hb.block _ (blk_lt HV.out)).trans HV.out)
                  clear HV
                  have HV := n1_
                  clear n1_
                  clear HB hb
                  have HB := n0_
                  clear n0_
                  refine hK.out _ _ ⟨(keepS HT.out HB.out).1, (keepS HT.out HB.out).2.1, (keepS HT.out HB.out).2.2.1, (keepS HT.out HB.out).2.2.2⟩ (fun hHeld => ?_)
                  clear hK K
                  refine norm_ (a' := ?_) ?_ ?_
                  rotate_left
                  · show Act.put _ (some 27) _ = _
                    simp only [Act.put, List.setIfInBounds_toArray, List.set_cons_zero, List.set_cons_succ, i64_w, i32_w]
                    rfl
                  refine pure_ (i := 6) (N := some 28) (v := ?_) (a' := ?_) #[true, true, true, true, true, true, true, true, true, true, true, true, false, true, true, false, false, false] rfl rfl (by kernel_rfl) (fun _ _ _ h => h) (Or.inl ⟨by rfl, ?_⟩) ?_ ?_
                  rotate_left
                  · intro w'
                    go_simp
                    with_reducible rfl
                  rotate_left
                  · simp only [Act.put, List.setIfInBounds_toArray, List.set_cons_zero, List.set_cons_succ, i64_w, i32_w]
                    rfl
                  refine pure_ (i := 12) (N := some 34) (v := ?_) (a' := ?_) #[true, true, true, true, true, true, true, true, true, true, true, true, true, true, true, false, false, false] rfl rfl (by kernel_rfl) (fun _ _ _ h => h) (Or.inl ⟨by rfl, ?_⟩) ?_ ?_
                  rotate_left
                  · intro w'
                    go_simp
                    with_reducible rfl
                  rotate_left
                  · simp only [Act.put, List.setIfInBounds_toArray, List.set_cons_zero, List.set_cons_succ, i64_w, i32_w]
                    rfl
                  refine one_ (i := 15) (N := some 37) #[true, true, true, true, true, true, true, true, true, true, true, true, true, true, true, true, false, false] rfl rfl (by kernel_rfl) (by decide) (fun K hK => ?_)
                  refine goes_ Try.func47 (by kernel_rfl) rfl #[.string x.f3] (by rfl) rfl rfl (by simp only [List.map_toArray, List.map_cons, List.map_nil]; rfl) ?_
                  with_reducible refine (szd_call _ _ hk3).mono ?_
                  rintro e w6 ⟨rfl, hb⟩
                  refine ⟨_, rfl, ?_⟩
                  have n0_ := Aside0.mk (below_step HB.out hb)
                  have n1_ := Aside0.mk ((hb.block _ (blk_lt HV.out)).trans HV.out)
                  clear HV
                  have HV := n1_
                  clear n1_
                  clear HB hb
                  have HB := n0_
                  clear n0_
                  refine hK.out _ _ ⟨(keepS HT.out HB.out).1, (keepS HT.out HB.out).2.1, (keepS HT.out HB.out).2.2.1, (keepS HT.out HB.out).2.2.2⟩ (fun hHeld => ?_)
                  clear hK K
                  refine norm_ (a' := ?_) ?_ ?_
                  rotate_left
                  · show Act.put _ (some 37) _ = _
                    simp only [Act.put, List.setIfInBounds_toArray, List.set_cons_zero, List.set_cons_succ, i64_w, i32_w]
                    rfl
                  exact norm_ (by simp only [putAll, Act.put, List.setIfInBounds_toArray, List.set_cons_zero, List.set_cons_succ]) (hCont (w4.heap.size) _ HB.out)
            · skip
              have n0_ := Aside0.mk (below_alloc HB.out (.cells #[.int .u8 (IntKind.u8.wrap x.f2)] 5))
              have HV := Aside0.mk (heap_alloc_new wd (.cells #[.int .u8 (IntKind.u8.wrap x.f2)] 5))
              clear HB
              have HB := n0_
              clear n0_
              refine value_ (w1 := ?_) (v := ?_) (by rfl) rfl ?_ ?_
              rotate_left 2
              · go_simp
                constructor
                · rfl
                · rfl
              refine hK.out _ _ ⟨(keepS HT.out HB.out).1, (keepS HT.out HB.out).2.1, (keepS HT.out HB.out).2.2.1, (keepS HT.out HB.out).2.2.2⟩ (fun hHeld => ?_)
              clear hK K
              refine norm_ (a' := ?_) ?_ ?_
              rotate_left
              · show Act.put _ (some 32) _ = _
                simp only [Act.put, List.setIfInBounds_toArray, List.set_cons_zero, List.set_cons_succ, i64_w, i32_w]
                rfl
              refine two_ (i := 2) (j := 11) (Ni := some 24) (Nj := some 33) #[true, true, true, true, true, false, false, true, true, true, true, false, false, true, true, false, false, false] #[true, true, false, true, true, false, false, true, true, true, true, true, false, true, true, false, false, false] rfl rfl rfl rfl (by kernel_rfl) (by decide) (by decide) (fun K hK => ?_) (fun K hK => ?_)
              · skip
                refine goes_ Try.func47 (by kernel_rfl) rfl #[.string x.f0] (by rfl) rfl rfl (by simp only [List.map_toArray, List.map_cons, List.map_nil]; rfl) ?_
                with_reducible refine (szd_call _ _ hk0).mono ?_
                rintro e w4 ⟨rfl, hb⟩
                refine ⟨_, rfl, ?_⟩
                have n0_ := Aside0.mk (below_step HB.out hb)
                have n1_ := Aside0.mk ((hb.block _ (blk_lt HV.out)).trans HV.out)
                clear HV
                have HV := n1_
                clear n1_
                clear HB hb
                have HB := n0_
                clear n0_
                refine hK.out _ _ ⟨(keepS HT.out HB.out).1, (keepS HT.out HB.out).2.1, (keepS HT.out HB.out).2.2.1, (keepS HT.out HB.out).2.2.2⟩ (fun hHeld => ?_)
                clear hK K
                refine norm_ (a' := ?_) ?_ ?_
                rotate_left
                · show Act.put _ (some 24) _ = _
                  simp only [Act.put, List.setIfInBounds_toArray, List.set_cons_zero, List.set_cons_succ, i64_w, i32_w]
                  rfl
                refine two_ (i := 5) (j := 11) (Ni := some 27) (Nj := some 33) #[true, true, true, true, true, true, false, true, true, true, true, false, false, true, true, false, false, false] #[true, true, true, true, true, false, false, true, true, true, true, true, false, true, true, false, false, false] rfl rfl rfl rfl (by kernel_rfl) (by decide) (by decide) (fun K hK => ?_) (fun K hK => ?_)
                · skip
                  refine goes_ Try.func12 (by kernel_rfl) rfl #[.int .i64 x.f1] (by rfl) rfl rfl (by simp only [List.map_toArray, List.map_cons, List.map_nil]; rfl) ?_
                  with_reducible refine (put_call _ _).mono ?_
                  rintro e w5 ⟨rfl, hb⟩
                  refine ⟨_, rfl, ?_⟩
                  have n0_ := Aside0.mk (below_step HB.out hb)
                  have n1_ := Aside0.mk ((hb.block _ (blk_lt HV.out)).trans HV.out)
                  clear HV
                  have HV := n1_
                  clear n1_
                  clear HB hb
                  have HB := n0_
                  clear n0_
                  refine hK.out _ _ ⟨(keepS HT.out HB.out).1, (keepS HT.out HB.out).2.1, (keepS HT.out HB.out).2.2.1, (keepS HT.out HB.out).2.2.2⟩ (fun hHeld => ?_)
                  clear hK K
                  refine norm_ (a' := ?_) ?_ ?_
                  rotate_left
                  · show Act.put _ (some 27) _ = _
                    simp only [Act.put, List.setIfInBounds_toArray, List.set_cons_zero, List.set_cons_succ, i64_w, i32_w]
                    rfl
                  refine pure_ (i := 6) (N := some 28) (v := ?_) (a' := ?_) #[true, true, true, true, true, true, true, true, true, true, true, false, false, true, true, false, false, false] rfl rfl (by kernel_rfl) (fun _ _ _ h => h) (Or.inl ⟨by rfl, ?_⟩) ?_ ?_
                  rotate_left
                  · intro w'
                    go_simp
                    with_reducible rfl
                  rotate_left
                  · simp only [Act.put, List.setIfInBounds_toArray, List.set_cons_zero, List.set_cons_succ, i64_w, i32_w]
                    rfl
                  refine two_ (i := 11) (j := 15) (Ni := some 33) (Nj := some 37) #[true, true, true, true, true, true, true, true, true, true, true, true, false, true, true, false, false, false] #[true, true, true, true, true, true, true, true, true, true, true, false, false, true, true, true, false, false] rfl rfl rfl rfl (by kernel_rfl) (by decide) (by decide) (fun K hK => ?_) (fun K hK => ?_)
                  · skip
                    have C0 := cv_run HV.out
                    refine value_ (w1 := ?_) (v := ?_) (by rfl) rfl ?_ ?_
                    rotate_left 2
                    · go_simp
                      constructor
                      · rfl
                      · rfl
                    clear C0
                    refine hK.out _ _ ⟨(keepS HT.out HB.out).1, (keepS HT.out HB.out).2.1, (keepS HT.out HB.out).2.2.1, (keepS HT.out HB.out).2.2.2⟩ (fun hHeld => ?_)
                    clear hK K
                    refine norm_ (a' := ?_) ?_ ?_
                    rotate_left
                    · show Act.put _ (some 33) _ = _
                      simp only [Act.put, List.setIfInBounds_toArray, List.set_cons_zero, List.set_cons_succ, i64_w, i32_w]
                      rfl
                    refine pure_ (i := 12) (N := some 34) (v := ?_) (a' := ?_) #[true, true, true, true, true, true, true, true, true, true, true, true, true, true, true, false, false, false] rfl rfl (by kernel_rfl) (fun _ _ _ h => h) (Or.inl ⟨by rfl, ?_⟩) ?_ ?_
                    rotate_left
                    · intro w'
                      go_simp
                      with_reducible rfl
                    rotate_left
                    · simp only [Act.put, List.setIfInBounds_toArray, List.set_cons_zero, List.set_cons_succ, i64_w, i32_w]
                      rfl
                    refine one_ (i := 15) (N := some 37) #[true, true, true, true, true, true, true, true, true, true, true, true, true, true, true, true, false, false] rfl rfl (by kernel_rfl) (by decide) (fun K hK => ?_)
                    refine goes_ Try.func47 (by kernel_rfl) rfl #[.string x.f3] (by rfl) rfl rfl (by simp only [List.map_toArray, List.map_cons, List.map_nil]; rfl) ?_
                    with_reducible refine (szd_call _ _ hk3).mono ?_
                    rintro e w6 ⟨rfl, hb⟩
                    refine ⟨_, rfl, ?_⟩
                    have n0_ := Aside0.mk (below_step HB.out hb)
                    have n1_ := Aside0.mk ((hb.block _ (blk_lt HV.out)).trans HV.out)
                    clear HV
                    have HV := n1_
                    clear n1_
                    clear HB hb
                    have HB := n0_
                    clear n0_
                    refine hK.out _ _ ⟨(keepS HT.out HB.out).1, (keepS HT.out HB.out).2.1, (keepS HT.out HB.out).2.2.1, (keepS HT.out HB.out).2.2.2⟩ (fun hHeld => ?_)
                    clear hK K
                    refine norm_ (a' := ?_) ?_ ?_
                    rotate_left
                    · show Act.put _ (some 37) _ = _
                      simp only [Act.put, List.setIfInBounds_toArray, List.set_cons_zero, List.set_cons_succ, i64_w, i32_w]
                      rfl
                    exact norm_ (by simp only [putAll, Act.put, List.setIfInBounds_toArray, List.set_cons_zero, List.set_cons_succ]) (hCont (wd.heap.size) _ HB.out)
                  · skip
                    refine goes_ Try.func47 (by kernel_rfl) rfl #[.string x.f3] (by rfl) rfl rfl (by simp only [List.map_toArray, List.map_cons, List.map_nil]; rfl) ?_
                    with_reducible refine (szd_call _ _ hk3).mono ?_
                    rintro e w6 ⟨rfl, hb⟩
                    refine ⟨_, rfl, ?_⟩
                    have n0_ := Aside0.mk (below_step HB.out hb)
                    have n1_ := Aside0.mk ((hb.block _ (blk_lt HV.out)).trans HV.out)
                    clear HV
                    have HV := n1_
                    clear n1_
                    clear HB hb
                    have HB := n0_
                    clear n0_
                    refine hK.out _ _ ⟨(keepS HT.out HB.out).1, (keepS HT.out HB.out).2.1, (keepS HT.out HB.out).2.2.1, (keepS HT.out HB.out).2.2.2⟩ (fun hHeld => ?_)
                    clear hK K
                    refine norm_ (a' := ?_) ?_ ?_
                    rotate_left
                    · show Act.put _ (some 37) _ = _
                      simp only [Act.put, List.setIfInBounds_toArray, List.set_cons_zero, List.set_cons_succ, i64_w, i32_w]
                      rfl
                    refine one_ (i := 11) (N := some 33) #[true, true, true, true, true, true, true, true, true, true, true, true, false, true, true, true, false, false] rfl rfl (by kernel_rfl) (by decide) (fun K hK => ?_)
                    have C0 := cv_run HV.out
                    refine value_ (w1 := ?_) (v := ?_) (by rfl) rfl ?_ ?_
                    rotate_left 2
                    · go_simp
                      constructor
                      · rfl
                      · rfl
                    clear C0
                    refine hK.out _ _ ⟨(keepS HT.out HB.out).1, (keepS HT.out HB.out).2.1, (keepS HT.out HB.out).2.2.1, (keepS HT.out HB.out).2.2.2⟩ (fun hHeld => ?_)
                    clear hK K
                    refine norm_ (a' := ?_) ?_ ?_
                    rotate_left
                    · show Act.put _ (some 33) _ = _
                      simp only [Act.put, List.setIfInBounds_toArray, List.set_cons_zero, List.set_cons_succ, i64_w, i32_w]
                      rfl
                    refine pure_ (i := 12) (N := some 34) (v := ?_) (a' := ?_) #[true, true, true, true, true, true, true, true, true, true, true, true, true, true, true, true, false, false] rfl rfl (by kernel_rfl) (fun _ _ _ h => h) (Or.inl ⟨by rfl, ?_⟩) ?_ ?_
                    rotate_left
                    · intro w'
                      go_simp
                      with_reducible rfl
                    rotate_left
                    · simp only [Act.put, List.setIfInBounds_toArray, List.set_cons_zero, List.set_cons_succ, i64_w, i32_w]
                      rfl
                    exact norm_ (by simp only [putAll, Act.put, List.setIfInBounds_toArray, List.set_cons_zero, List.set_cons_succ]) (hCont (wd.heap.size) _ HB.out)
                · skip
                  have C0 := cv_run HV.out
                  refine value_ (w1 := ?_) (v := ?_) (by rfl) rfl ?_ ?_
                  rotate_left 2
                  · go_simp
                    constructor
                    · rfl
                    · rfl
                  clear C0
                  refine hK.out _ _ ⟨(keepS HT.out HB.out).1, (keepS HT.out HB.out).2.1, (keepS HT.out HB.out).2.2.1, (keepS HT.out HB.out).2.2.2⟩ (fun hHeld => ?_)
                  clear hK K
                  refine norm_ (a' := ?_) ?_ ?_
                  rotate_left
                  · show Act.put _ (some 33) _ = _
                    simp only [Act.put, List.setIfInBounds_toArray, List.set_cons_zero, List.set_cons_succ, i64_w, i32_w]
                    rfl
                  refine one_ (i := 5) (N := some 27) #[true, true, true, true, true, true, false, true, true, true, true, true, false, true, true, false, false, false] rfl rfl (by kernel_rfl) (by decide) (fun K hK => ?_)
                  refine goes_ Try.func12 (by kernel_rfl) rfl #[.int .i64 x.f1] (by rfl) rfl rfl (by simp only [List.map_toArray, List.map_cons, List.map_nil]; rfl) ?_
                  with_reducible refine (put_call _ _).mono ?_
                  rintro e w5 ⟨rfl, hb⟩
                  refine ⟨_, rfl, ?_⟩
                  have n0_ := Aside0.mk (below_step HB.out hb)
                  have n1_ := Aside0.mk ((hb.block _ (blk_lt HV.out)).trans HV.out)
                  clear HV
                  have HV := n1_
                  clear n1_
                  clear HB hb
                  have HB := n0_
                  clear n0_
                  refine hK.out _ _ ⟨(keepS HT.out HB.out).1, (keepS HT.out HB.out).2.1, (keepS HT.out HB.out).2.2.1, (keepS HT.out HB.out).2.2.2⟩ (fun hHeld => ?_)
                  clear hK K
                  refine norm_ (a' := ?_) ?_ ?_
                  rotate_left
                  · show Act.put _ (some 27) _ = _
                    simp only [Act.put, List.setIfInBounds_toArray, List.set_cons_zero, List.set_cons_succ, i64_w, i32_w]
                    rfl
                  refine pure_ (i := 6) (N := some 28) (v := ?_) (a' := ?_) #[true, true, true, true, true, true, true, true, true, true, true, true, false, true, true, false, false, false] rfl rfl (by kernel_rfl) (fun _ _ _ h => h) (Or.inl ⟨by rfl, ?_⟩) ?_ ?_
                  rotate_left
                  · intro w'
                    go_simp
                    with_reducible rfl
                  rotate_left
                  · simp only [Act.put, List.setIfInBounds_toArray, List.set_cons_zero, List.set_cons_succ, i64_w, i32_w]
                    rfl
                  refine pure_ (i := 12) (N := some 34) (v := ?_) (a' := ?_) #[true, true, true, true, true, true, true, true, true, true, true, true, true, true, true, false, false, false] rfl rfl (by kernel_rfl) (fun _ _ _ h => h) (Or.inl ⟨by rfl, ?_⟩) ?_ ?_
                  rotate_left
                  · intro w'
                    go_simp
                    with_reducible rfl
                  rotate_left
                  · simp only [Act.put, List.setIfInBounds_toArray, List.set_cons_zero, List.set_cons_succ, i64_w, i32_w]
                    rfl
                  refine one_ (i := 15) (N := some 37) #[true, true, true, true, true, true, true, true, true, true, true, true, true, true, true, true, false, false] rfl rfl (by kernel_rfl) (by decide) (fun K hK => ?_)
                  refine goes_ Try.func47 (by kernel_rfl) rfl #[.string x.f3] (by rfl) rfl rfl (by simp only [List.map_toArray, List.map_cons, List.map_nil]; rfl) ?_
                  with_reducible refine (szd_call _ _ hk3).mono ?_
                  rintro e w6 ⟨rfl, hb⟩
                  refine ⟨_, rfl, ?_⟩
                  have n0_ := Aside0.mk (below_step HB.out hb)
                  have n1_ := Aside0.mk ((hb.block _ (blk_lt HV.out)).trans HV.out)
                  clear HV
                  have HV := n1_
                  clear n1_
                  clear HB hb
                  have HB := n0_
                  clear n0_
                  refine hK.out _ _ ⟨(keepS HT.out HB.out).1, (keepS HT.out HB.out).2.1, (keepS HT.out HB.out).2.2.1, (keepS HT.out HB.out).2.2.2⟩ (fun hHeld => ?_)
                  clear hK K
                  refine norm_ (a' := ?_) ?_ ?_
                  rotate_left
                  · show Act.put _ (some 37) _ = _
                    simp only [Act.put, List.setIfInBounds_toArray, List.set_cons_zero, List.set_cons_succ, i64_w, i32_w]
                    rfl
                  exact norm_ (by simp only [putAll, Act.put, List.setIfInBounds_toArray, List.set_cons_zero, List.set_cons_succ]) (hCont (wd.heap.size) _ HB.out)
              · skip
                have C0 := cv_run HV.out
                refine value_ (w1 := ?_) (v := ?_) (by rfl) rfl ?_ ?_
                rotate_left 2
                · go_simp
                  constructor
                  · rfl
                  · rfl
                clear C0
                refine hK.out _ _ ⟨(keepS HT.out HB.out).1, (keepS HT.out HB.out).2.1, (keepS HT.out HB.out).2.2.1, (keepS HT.out HB.out).2.2.2⟩ (fun hHeld => ?_)
                clear hK K
                refine norm_ (a' := ?_) ?_ ?_
                rotate_left
                · show Act.put _ (some 33) _ = _
                  simp only [Act.put, List.setIfInBounds_toArray, List.set_cons_zero, List.set_cons_succ, i64_w, i32_w]
                  rfl
                refine one_ (i := 2) (N := some 24) #[true, true, true, true, true, false, false, true, true, true, true, true, false, true, true, false, false, false] rfl rfl (by kernel_rfl) (by decide) (fun K hK => ?_)
                refine goes_ Try.func47 (by kernel_rfl) rfl #[.string x.f0] (by rfl) rfl rfl (by simp only [List.map_toArray, List.map_cons, List.map_nil]; rfl) ?_
                with_reducible refine (szd_call _ _ hk0).mono ?_
                rintro e w4 ⟨rfl, hb⟩
                refine ⟨_, rfl, ?_⟩
                have n0_ := Aside0.mk (below_step HB.out hb)
                have n1_ := Aside0.mk ((hb.block _ (blk_lt HV.out)).trans HV.out)
                clear HV
                have HV := n1_
                clear n1_
                clear HB hb
                have HB := n0_
                clear n0_
                refine hK.out _ _ ⟨(keepS HT.out HB.out).1, (keepS HT.out HB.out).2.1, (keepS HT.out HB.out).2.2.1, (keepS HT.out HB.out).2.2.2⟩ (fun hHeld => ?_)
                clear hK K
                refine norm_ (a' := ?_) ?_ ?_
                rotate_left
                · show Act.put _ (some 24) _ = _
                  simp only [Act.put, List.setIfInBounds_toArray, List.set_cons_zero, List.set_cons_succ, i64_w, i32_w]
                  rfl
                refine one_ (i := 5) (N := some 27) #[true, true, true, true, true, true, false, true, true, true, true, true, false, true, true, false, false, false] rfl rfl (by kernel_rfl) (by decide) (fun K hK => ?_)
                refine goes_ Try.func12 (by kernel_rfl) rfl #[.int .i64 x.f1] (by rfl) rfl rfl (by simp only [List.map_toArray, List.map_cons, List.map_nil]; rfl) ?_
                with_reducible refine (put_call _ _).mono ?_
                rintro e w5 ⟨rfl, hb⟩
                refine ⟨_, rfl, ?_⟩
                have n0_ := Aside0.mk (below_step HB.out hb)
                have n1_ := Aside0.mk ((hb.block _ (blk_lt HV.out)).trans HV.out)
                clear HV
                have HV := n1_
                clear n1_
                clear HB hb
                have HB := n0_
                clear n0_
                refine hK.out _ _ ⟨(keepS HT.out HB.out).1, (keepS HT.out HB.out).2.1, (keepS HT.out HB.out).2.2.1, (keepS HT.out HB.out).2.2.2⟩ (fun hHeld => ?_)
                clear hK K
                refine norm_ (a' := ?_) ?_ ?_
                rotate_left
                · show Act.put _ (some 27) _ = _
                  simp only [Act.put, List.setIfInBounds_toArray, List.set_cons_zero, List.set_cons_succ, i64_w, i32_w]
                  rfl
                refine pure_ (i := 6) (N := some 28) (v := ?_) (a' := ?_) #[true, true, true, true, true, true, true, true, true, true, true, true, false, true, true, false, false, false] rfl rfl (by kernel_rfl) (fun _ _ _ h => h) (Or.inl ⟨by rfl, ?_⟩) ?_ ?_
                rotate_left
                · intro w'
                  go_simp
                  with_reducible rfl
                rotate_left
                · simp only [Act.put, List.setIfInBounds_toArray, List.set_cons_zero, List.set_cons_succ, i64_w, i32_w]
                  rfl
                refine pure_ (i := 12) (N := some 34) (v := ?_) (a' := ?_) #[true, true, true, true, true, true, true, true, true, true, true, true, true, true, true, false, false, false] rfl rfl (by kernel_rfl) (fun _ _ _ h => h) (Or.inl ⟨by rfl, ?_⟩) ?_ ?_
                rotate_left
                · intro w'
                  go_simp
                  with_reducible rfl
                rotate_left
                · simp only [Act.put, List.setIfInBounds_toArray, List.set_cons_zero, List.set_cons_succ, i64_w, i32_w]
                  rfl
                refine one_ (i := 15) (N := some 37) #[true, true, true, true, true, true, true, true, true, true, true, true, true, true, true, true, false, false] rfl rfl (by kernel_rfl) (by decide) (fun K hK => ?_)
                refine goes_ Try.func47 (by kernel_rfl) rfl #[.string x.f3] (by rfl) rfl rfl (by simp only [List.map_toArray, List.map_cons, List.map_nil]; rfl) ?_
                with_reducible refine (szd_call _ _ hk3).mono ?_
                rintro e w6 ⟨rfl, hb⟩
                refine ⟨_, rfl, ?_⟩
                have n0_ := Aside0.mk (below_step HB.out hb)
                have n1_ := Aside0.mk ((hb.block _ (blk_lt HV.out)).trans HV.out)
                clear HV
                have HV := n1_
                clear n1_
                clear HB hb
                have HB := n0_
                clear n0_
                refine hK.out _ _ ⟨(keepS HT.out HB.out).1, (keepS HT.out HB.out).2.1, (keepS HT.out HB.out).2.2.1, (keepS HT.out HB.out).2.2.2⟩ (fun hHeld => ?_)
                clear hK K
                refine norm_ (a' := ?_) ?_ ?_
                rotate_left
                · show Act.put _ (some 37) _ = _
                  simp only [Act.put, List.setIfInBounds_toArray, List.set_cons_zero, List.set_cons_succ, i64_w, i32_w]
                  rfl
                exact norm_ (by simp only [putAll, Act.put, List.setIfInBounds_toArray, List.set_cons_zero, List.set_cons_succ]) (hCont (wd.heap.size) _ HB.out)
          intro g_ w4 hb4
          have HB := Aside0.mk hb4
          have hHeld := keepS HT.out hb4
          clear hb4
          refine norm_ (a' := ?_) ?_ ?_
          rotate_left
          · simp only [putAll, Act.put, List.setIfInBounds_toArray, List.set_cons_zero, List.set_cons_succ]
            rfl
          refine pure_ (i := 16) (N := some 38) (v := ?_) (a' := ?_) #[true, true, true, true, true, true, true, true, true, true, true, true, true, true, true, true, true, false] rfl rfl (by kernel_rfl) (fun _ _ _ h => h) (Or.inl ⟨by rfl, ?_⟩) ?_ ?_
          rotate_left
          · intro w'
            go_simp
            with_reducible rfl
          rotate_left
          · simp only [Act.put, List.setIfInBounds_toArray, List.set_cons_zero, List.set_cons_succ, i64_w, i32_w]
            rfl
          refine last_ (i := 17) (N := some 39) #[true, true, true, true, true, true, true, true, true, true, true, true, true, true, true, true, true, true] rfl rfl (by kernel_rfl) (by decide) (fun K hK => ?_)
          refine goes_ Try.func45 (by kernel_rfl) rfl #[.pointer (some ⟨w.heap.size, 0, none⟩), .string (szd x.f0 ++ put x.f1 ++ strOfNums [IntKind.u8.wrap x.f2] ++ szd x.f3)] (by rfl) rfl rfl (by simp only [List.map_toArray, List.map_cons, List.map_nil]; rfl) ?_
          refine (write_call w.heap.size w.heap.size _ _ _ (bld_below HBL.out HB.out) (HLEN.out ()) (hbw HB3.out HB.out)).mono ?_
          rintro e w9 ⟨rfl, h5, hb5, _⟩
          refine ⟨_, rfl, ?_⟩
          have HBE := Aside0.mk (belw HB3.out HB.out hb5)
          have H5 := Aside0.mk h5
          clear h5 hb5
          refine hK.out _ _ ?_
          clear hK K
          refine norm_ (a' := ?_) ?_ ?_
          rotate_left
          · show Act.put _ (some 39) _ = _
            simp only [Act.put, List.setIfInBounds_toArray, List.set_cons_zero, List.set_cons_succ, i64_w, i32_w]
            rfl
          refine done_ (by kernel_rfl) ?_
          go_wp2
          go_roundw
          case rel =>
            refine ⟨i + 1, by omega, by go_num, ⟨all_snoc hlt HA.out (by rw [HX.out]; exact HOK.out)⟩, ⟨⟨?_, HBE.out⟩⟩⟩
            rw [take_at l i hlt, encL_snoc, ← rd71 l i hlt, HX.out, ← ByteArray.append_assoc, strCells_append _ (entB x)]
            have := H5.out
            rw [u8w] at this
            exact Or.inr this
          case measure => simp [intOf]; omega
        · have hok := Bool.eq_false_iff.2 hok
          have HE := Aside0.mk (enc_bad i hlt hok)
          generalize hx : rd_T71 l (i : Int) = x at hx0 hx1 hx2 hx3 hok
          have HFC := Aside0.mk (fine_call x (wr.alloc (.cells #[.string x.f0, .int .i64 x.f1, .int .i64 x.f2, .string x.f3] 71)))
          rw [hok] at HFC
          clear hx hok
          go_wp2_with fail
          refine HFC.out.mono ?_
          rintro e w3 ⟨rfl, hb⟩
          have HBB := Aside0.mk ((HI.out.bel.alloc HI.out.bel.size (.cells #[.string x.f0, .int .i64 x.f1, .int .i64 x.f2, .string x.f3] 71)).trans (hb.mono (by have := HI.out.bel.size; simp; omega)))
          clear hb
          go_wp2
          go_ret
          exact ⟨by rw [HE.out]; rfl, HBB.out⟩
      · have hlt1 : decide (((i : Nat) : Int) < (l.length : Int)) = false := decide_eq_false (by omega)
        have HE := Aside0.mk (show i = l.length by omega)
        have HG := Aside0.mk (enc_good HLong.out (by have := HA.out; rwa [HE.out, List.take_length] at this))
        have HS := Aside0.mk (bldString_call w.heap.size w.heap.size (put (l.length : Int) ++ encL l).data.toList wr (by
          have := HI.out.bld
          rw [HE.out, List.take_length] at this
          exact this) HI.out.bel.size)
        go_wp2_with fail
        refine HS.out.mono ?_
        rintro e w3 ⟨rfl, hb⟩
        have HBB := Aside0.mk (HI.out.bel.trans hb)
        clear hb
        go_wp2
        go_ret
        exact ⟨by rw [HG.out]; rfl, HBB.out⟩
end Go.Proofs.Ytjneloehdcecnaa.M
end
section
/- What the program's DecodeEntries answers, in plain words, and how the world stands in its rounds. Condition: the text has at most 2 to the 20 bytes. -/
namespace Go.Proofs.Ytjneloehdcecnaa.M
open Go.RowKit Go.Proofs.Ytjneloehdcecnaa.P Go.Proofs.YtjneloehdcecnaaW.PrintWords Go.Proofs.YtjneloehdcecnaaW.PrintLast Go.Proofs.YtjneloehdcecnaaW.PrintMore
set_option linter.unusedVariables false
def kindOf (c : ByteArray) : Int := if c.size = 0 then 0 else bt c 0
def dround (s : ByteArray) (a : Int) (b : Bool) : S71 × Int × Bool :=
  (⟨(ttext s a b).1, (tnum s (ttext s a b).2.1 (ttext s a b).2.2).1,
    kindOf (tbytes s (tnum s (ttext s a b).2.1 (ttext s a b).2.2).2.1 (tnum s (ttext s a b).2.1 (ttext s a b).2.2).2.2 1).1,
    (ttext s (tbytes s (tnum s (ttext s a b).2.1 (ttext s a b).2.2).2.1 (tnum s (ttext s a b).2.1 (ttext s a b).2.2).2.2 1).2.1 (tbytes s (tnum s (ttext s a b).2.1 (ttext s a b).2.2).2.1 (tnum s (ttext s a b).2.1 (ttext s a b).2.2).2.2 1).2.2).1⟩,
   (ttext s (tbytes s (tnum s (ttext s a b).2.1 (ttext s a b).2.2).2.1 (tnum s (ttext s a b).2.1 (ttext s a b).2.2).2.2 1).2.1 (tbytes s (tnum s (ttext s a b).2.1 (ttext s a b).2.2).2.1 (tnum s (ttext s a b).2.1 (ttext s a b).2.2).2.2 1).2.2).2)
def dloop (s : ByteArray) : Nat → Int → Bool → List S71 → List S71 × Bool
  | 0, _, b, out => (out, b)
  | n + 1, a, b, out => if b = true then (out, b) else dloop s n (dround s a b).2.1 ((dround s a b).2.2 || decide (1000 ≤ out.length)) (out ++ [(dround s a b).1])
def dec (s : ByteArray) : List S71 × Bool :=
  if (dloop s (tnum s 0 false).1.toNat (tnum s 0 false).2.1 (tnum s 0 false).2.2 []).2 = true then ([], false)
  else if s.size = 0 then ([], false)
  else if enc (dloop s (tnum s 0 false).1.toNat (tnum s 0 false).2.1 (tnum s 0 false).2.2 []).1 = s then ((dloop s (tnum s 0 false).1.toNat (tnum s 0 false).2.1 (tnum s 0 false).2.2 []).1, true)
  else ([], false)
/-- The world: the taker stands at g, the row v holds out. -/
structure DI (w wr : World) (g : Nat) (s : ByteArray) (a : Int) (b : Bool) (v : Value) (out : List S71) (ok : Nat → Prop) : Prop where
  bel : Below w.heap.size w wr
  ge : w.heap.size ≤ g
  tk : TkAt wr g s a b
  row : Kd.R k71 71 wr w.heap.size ok v out
theorem DI.below {w wr W : World} {g : Nat} {s : ByteArray} {a : Int} {b : Bool} {v : Value} {out : List S71} {ok : Nat → Prop} (h : DI w wr g s a b v out ok) (hx : Below wr.heap.size wr W) : DI w W g s a b v out ok :=
  ⟨h.bel.trans (hx.mono h.bel.size), h.ge, (hx.block _ (blk_lt h.tk)).trans h.tk, Kd.R_below h.row hx⟩
theorem DI.keep {w wr W : World} {g : Nat} {s : ByteArray} {a a' : Int} {b b' : Bool} {v : Value} {out : List S71} {ok : Nat → Prop} (h : DI w wr g s a b v out ok) (ht : TkAt W g s a' b') (hB : Below w.heap.size w W) (hk : KeepBut wr W g none) : DI w W g s a' b' v out ok :=
  ⟨hB, h.ge, ht, Kd.R_mono (Kd.R_keep (Kd.R_types h.row h.tk (by decide)) hk (fun _ x => x.2)) (fun _ x => x.1)⟩
theorem DI.box {w wr : World} {g : Nat} {s : ByteArray} {a : Int} {b : Bool} {v : Value} {out : List S71} {ok : Nat → Prop} (h : DI w wr g s a b v out ok) (o : Obj) : DI w (wr.alloc o) g s a b v out (fun k => ok k ∧ k ≠ wr.heap.size) :=
  ⟨below_alloc h.bel o, h.ge, blk_alloc h.tk o, Kd.R_mono (Kd.R_alloc (Kd.R_bound h.row) o) (fun k x => ⟨x.1, by have := x.2.2.1; omega⟩)⟩
theorem DI.set {w wr : World} {g gb j : Nat} {s : ByteArray} {a : Int} {b : Bool} {v : Value} {out : List S71} {ok : Nat → Prop} (h : DI w wr g s a b v out (fun k => ok k ∧ k ≠ gb)) (hg : w.heap.size ≤ gb) (hne : g ≠ gb) (u : Value) : DI w (wr.setCell ⟨gb, j, none⟩ u) g s a b v out (fun k => ok k ∧ k ≠ gb) :=
  ⟨below_set h.bel hg, h.ge, (Below.heap_setCell wr ⟨gb, j, none⟩ u g hne).trans h.tk, Kd.R_far (p := ⟨gb, j, none⟩) h.row (fun _ x => x.2) u⟩
theorem DI.mono {w wr : World} {g : Nat} {s : ByteArray} {a : Int} {b : Bool} {v : Value} {out : List S71} {ok ok' : Nat → Prop} (h : DI w wr g s a b v out ok) (hm : ∀ k, ok k → ok' k) : DI w wr g s a b v out ok' := ⟨h.bel, h.ge, h.tk, Kd.R_mono h.row hm⟩
/-- The taker is made bad. -/
theorem DI.bad {w wr : World} {g : Nat} {s : ByteArray} {a : Int} {b : Bool} {v : Value} {out : List S71} {ok : Nat → Prop} (h : DI w wr g s a b v out ok) (b' : Bool) : DI w (wr.setCell ⟨g, 2, none⟩ (.bool b')) g s a b' v out ok :=
  ⟨below_set h.bel h.ge, h.ge, blk_put h.tk 2 _ rfl, Kd.R_mono (Kd.R_far (p := ⟨g, 2, none⟩) (Kd.R_types h.row h.tk (by decide)) (fun _ x => x.2) _) (fun _ x => x.1)⟩
end Go.Proofs.Ytjneloehdcecnaa.M
end
section
/- The program's DecodeEntries, walked. Condition: the text has at most 2 to the 20 bytes. -/
namespace Go.Proofs.Ytjneloehdcecnaa.M
open Go.RowKit Go.Proofs.Ytjneloehdcecnaa.P Go.Proofs.YtjneloehdcecnaaW.PrintWords Go.Proofs.YtjneloehdcecnaaW.PrintLast Go.Proofs.YtjneloehdcecnaaW.PrintMore
set_option linter.unusedVariables false
set_option linter.unusedSimpArgs false
theorem len_list (c : ByteArray) : c.toList.length = c.size := by rw [ByteArray.toList_eq]; simp
theorem empty_list {c : ByteArray} (h : c.size = 0) : c.toList.isEmpty = true := by
  have := len_list c
  cases hc : c.toList with
  | nil => rfl
  | cons x l => rw [hc] at this; simp at this; omega
theorem nonempty_list {c : ByteArray} (h : ¬ c.size = 0) : c.toList.isEmpty = false := by
  have := len_list c
  cases hc : c.toList with
  | nil => rw [hc] at this; simp at this; omega
  | cons x l => rfl
theorem ne_list {a b : ByteArray} (h : (!(a.toList == b.toList)) = true) : a ≠ b := by
  rintro rfl
  simp at h
theorem eq_list {a b : ByteArray} (h : (!(a.toList == b.toList)) = false) : a = b := by
  simp at h
  apply ByteArray.ext
  apply Array.ext'
  simpa [ByteArray.toList_eq] using h
theorem kind_at {c : ByteArray} (h : 0 < c.size) : wrap64 ((c[0].toNat : Nat) : Int) = kindOf c := by
  unfold kindOf
  rw [if_neg (by omega)]
  unfold bt
  rw [dif_pos (by simpa using h)]
  have := (c[0]).toNat_lt
  rw [wrap_ok (by omega) (by omega)]
  rfl
set_option maxHeartbeats 8000000 in
set_option maxRecDepth 100000 in
theorem decEntries_call (s : ByteArray) (w : World) (hs : s.size ≤ 1048576) :
    Calls Try.prog 26 #[.string s] w fun e w' => ∃ v0_ : Value, e = .returned (.tuple #[v0_, .bool (dec s).2]) ∧ Kd.R k71 71 w' w.heap.size (fun _ => True) v0_ (dec s).1 ∧ Below w.heap.size w w' := by
  have hu71 := Try.underlying71
  have hu31 := Try.underlying31
  have hu96 := Try.underlying96
  have HS := Aside0.mk hs
  have D0 := Aside0.mk (show DI w (w.alloc (.cells #[.string s, .int .i64 0, .bool false] 96)) w.heap.size s 0 false (.slice none 0 0) [] (fun _ => True) from
    ⟨(Below.refl _ w).alloc (Nat.le_refl _) _, Nat.le_refl _, heap_alloc_new w _, Kd.R_nil _ _ _ _ _⟩)
  clear hs
  go_enter Try.func26, Try.ntmps26
  go_wp2_with fail
  refine (tnum_call w _ w.heap.size s 0 false HS.out (by omega) D0.out.tk D0.out.ge D0.out.bel).mono ?_
  rintro e w1 ⟨rfl, ht, hB, hk⟩
  have D1 := Aside0.mk (D0.out.keep ht hB hk)
  clear ht hB hk D0
  have hg : w.heap.size < w1.heap.size := blk_lt D1.out.tk
  have hin := tnum_in (s := s) (a := 0) (b := false) (by omega)
  have hdec : dec s = dec s := rfl
  conv at hdec => rhs; unfold dec
  generalize (tnum s 0 false).2.1 = a0 at *
  generalize (tnum s 0 false).2.2 = b0 at *
  generalize (tnum s 0 false).1 = n0 at *
  obtain ⟨N, rfl⟩ : ∃ N : Nat, n0 = (N : Int) := ⟨n0.toNat, by omega⟩
  rw [Int.toNat_natCast] at hdec
  have HIN := Aside0.mk hin
  have hN : N ≤ 72057594037927935 := by omega
  generalize hR : dloop s N a0 b0 [] = RR at hdec
  have HDEC := Aside0.mk hdec
  have HR := Aside0.mk hR
  have t2 := blk_cell D1.out.tk 2
  clear hdec hR hin
  generalize hgg : w.heap.size = g at *
  have HG := Aside0.mk hgg
  clear hgg
  go_wp2
  go_loopw [5, 6] (fun v5 v6 wr => ∃ (n : Nat) (a : Int) (b : Bool) (out : List S71), v6 = .int .i64 (n : Int) ∧ n ≤ 72057594037927935 ∧ Aside0 (DI w wr g s a b v5 out (fun _ => True)) ∧ Aside0 (0 ≤ a ∧ a ≤ (s.size : Int)) ∧ Aside0 (out.length ≤ 1001 ∧ (b = false → out.length ≤ 1000)) ∧ Aside0 (dloop s n a b out = RR)) (fun _ v6 _ => (intOf v6).toNat)
  case atStart => exact ⟨N, a0, b0, [], rfl, hN, D1, ⟨HIN.out.2.2⟩, ⟨by simp, fun _ => by simp⟩, HR⟩
  case round =>
    clear D1 HIN HR t2 hN
    obtain ⟨n, a, b, out, rfl, hn, DD, HA, HL, HR⟩ := hrel
    have t2 := blk_cell DD.out.tk 2
    cases n with
    | zero =>
      have hR : RR = (out, b) := HR.out.symm
      obtain ⟨A, c, rfl, hc, hC⟩ := Kd.R_reads DD.out.row
      have hd := HDEC.out
      rw [hR] at hd
      have HEN := Aside0.mk (encEntries_call A c out wr hC hc)
      cases b with
      | true =>
        rw [if_pos rfl] at hd
        have HD := Aside0.mk hd
        clear hd hR hC
        go_wp2
        go_ret2
        rw [HD.out]
        exact ⟨_, rfl, Kd.R_nil _ _ _ _ _, DD.out.bel⟩
      | false =>
        rw [if_neg (by simp)] at hd
        by_cases hs0 : s.size = 0
        · have hE : s.toList.isEmpty = true := empty_list hs0
          rw [if_pos hs0] at hd
          have HD := Aside0.mk hd
          clear hd hR hC
          go_wp2
          go_ret2
          rw [HD.out]
          exact ⟨_, rfl, Kd.R_nil _ _ _ _ _, DD.out.bel⟩
        · have hE : s.toList.isEmpty = false := nonempty_list hs0
          rw [if_neg hs0] at hd
          have HD := Aside0.mk hd
          clear hd hR hC
          go_wp2_with fail
          refine HEN.out.mono ?_
          rintro e w8 ⟨rfl, hb⟩
          have D8 := Aside0.mk (DD.out.below hb)
          clear hb
          go_wp2
          · rename_i hq
            go_ret2
            rw [HD.out, if_neg (ne_list hq)]
            exact ⟨_, rfl, Kd.R_nil _ _ _ _ _, D8.out.bel⟩
          · rename_i hq
            go_ret2
            rw [HD.out, if_pos (eq_list hq)]
            exact ⟨_, rfl, D8.out.row, D8.out.bel⟩
    | succ n =>
      have hpos : decide ((0 : Int) < ((n + 1 : Nat) : Int)) = true := decide_eq_true (by omega)
      cases b with
      | true =>
        have hR : RR = (out, true) := by have h := HR.out; unfold dloop at h; rw [if_pos rfl] at h; exact h.symm
        have hd := HDEC.out
        rw [hR, if_pos rfl] at hd
        have HD := Aside0.mk hd
        clear hd hR
        go_wp2
        go_ret2
        rw [HD.out]
        exact ⟨_, rfl, Kd.R_nil _ _ _ _ _, DD.out.bel⟩
      | false =>
        obtain ⟨T1, hT1⟩ : ∃ T, ttext s a false = T := ⟨_, rfl⟩
        obtain ⟨T2, hT2⟩ : ∃ T, tnum s T1.2.1 T1.2.2 = T := ⟨_, rfl⟩
        obtain ⟨T3, hT3⟩ : ∃ T, tbytes s T2.2.1 T2.2.2 1 = T := ⟨_, rfl⟩
        obtain ⟨T4, hT4⟩ : ∃ T, ttext s T3.2.1 T3.2.2 = T := ⟨_, rfl⟩
        have HRD := Aside0.mk (show dround s a false = (⟨T1.1, T2.1, kindOf T3.1, T4.1⟩, T4.2) from by unfold dround; rw [hT1, hT2, hT3, hT4])
        have A1 := Aside0.mk (show 0 ≤ T1.2.1 ∧ T1.2.1 ≤ (s.size : Int) from hT1 ▸ ttext_in (b := false) HA.out)
        have A2 := Aside0.mk (show 0 ≤ T2.2.1 ∧ T2.2.1 ≤ (s.size : Int) from hT2 ▸ (tnum_in A1.out).2.2)
        have A3 := Aside0.mk (show 0 ≤ T3.2.1 ∧ T3.2.1 ≤ (s.size : Int) from hT3 ▸ tbytes_in A2.out (by decide))
        have A4 := Aside0.mk (show 0 ≤ T4.2.1 ∧ T4.2.1 ≤ (s.size : Int) from hT4 ▸ ttext_in A3.out)
        have HNX := Aside0.mk (show dloop s n T4.2.1 (T4.2.2 || decide (1000 ≤ out.length)) (out ++ [(⟨T1.1, T2.1, kindOf T3.1, T4.1⟩ : S71)]) = RR from by have h := HR.out; unfold dloop at h; rw [if_neg (by simp), HRD.out] at h; exact h)
        have H1 := Aside0.mk hT1
        have H2 := Aside0.mk hT2
        have H3 := Aside0.mk hT3
        have H4 := Aside0.mk hT4
        clear hT1 hT2 hT3 hT4
        go_wp2_with fail
        have c := ttext_call w _ g s a false HS.out HA.out DD.out.tk DD.out.ge DD.out.bel
        rw [H1.out] at c
        refine c.mono ?_
        clear c
        rintro e w2 ⟨rfl, ht, hB, hk⟩
        have D2 := Aside0.mk (DD.out.keep ht hB hk)
        clear ht hB hk t2 DD
        go_wp2_with fail
        have c := tnum_call w _ g s T1.2.1 T1.2.2 HS.out A1.out D2.out.tk D2.out.ge D2.out.bel
        rw [H2.out] at c
        refine c.mono ?_
        clear c
        rintro e w3 ⟨rfl, ht, hB, hk⟩
        have D3 := Aside0.mk (D2.out.keep ht hB hk)
        clear ht hB hk D2
        go_wp2_with fail
        have BX := Aside0.mk (heap_alloc_new w3 (.cells #[.string T1.1, .int .i64 T2.1, .int .i64 0, .string (⟨#[]⟩ : ByteArray)] 71))
        have D3b := Aside0.mk (D3.out.box (.cells #[.string T1.1, .int .i64 T2.1, .int .i64 0, .string (⟨#[]⟩ : ByteArray)] 71))
        have GEB := Aside0.mk (below_size D3.out.bel)
        have NEB := Aside0.mk (show g ≠ w3.heap.size from by have := blk_lt D3.out.tk; omega)
        have LTB := Aside0.mk (show w3.heap.size < (w3.alloc (.cells #[.string T1.1, .int .i64 T2.1, .int .i64 0, .string (⟨#[]⟩ : ByteArray)] 71)).heap.size from by simp)
        have c := tbytes_call w (w3.alloc (.cells #[.string T1.1, .int .i64 T2.1, .int .i64 0, .string (⟨#[]⟩ : ByteArray)] 71)) g s T2.2.1 T2.2.2 HS.out A2.out D3b.out.tk D3b.out.ge D3b.out.bel 1 (by decide)
        rw [H3.out] at c
        refine c.mono ?_
        clear c D3
        generalize w3.alloc (.cells #[.string T1.1, .int .i64 T2.1, .int .i64 0, .string (⟨#[]⟩ : ByteArray)] 71) = w3b at *
        generalize w3.heap.size = gb at *
        rintro e w4 ⟨rfl, ht, hB, hk⟩
        have D4 := Aside0.mk (D3b.out.keep ht hB hk)
        have BX4 := Aside0.mk ((hk.2 gb LTB.out NEB.out.symm (by simp)).trans BX.out)
        have HKB := Aside0.mk (LTB.out)
        clear ht hB hk D3b BX LTB
        have z0 : w4.cell? ⟨gb, 0, none⟩ = some (.string T1.1) := (blk_cell BX4.out 0).trans rfl
        have z1 : w4.cell? ⟨gb, 1, none⟩ = some (.int .i64 T2.1) := (blk_cell BX4.out 1).trans rfl
        have z2 : w4.cell? ⟨gb, 2, none⟩ = some (.int .i64 0) := (blk_cell BX4.out 2).trans rfl
        have z3 : w4.cell? ⟨gb, 3, none⟩ = some (.string (⟨#[]⟩ : ByteArray)) := (blk_cell BX4.out 3).trans rfl
        have f2 := blk_frozen BX4.out 2
        by_cases hz : T3.1.size = 0
        · have hE : T3.1.toList.isEmpty = true := empty_list hz
          go_wp2_with fail
          have BX := Aside0.mk (show w4.heap[gb]? = some (.cells #[.string T1.1, .int .i64 T2.1, .int .i64 (kindOf T3.1), .string (⟨#[]⟩ : ByteArray)] 71 (0, 0)) from by rw [show kindOf T3.1 = 0 from if_pos hz]; exact BX4.out)
          have D5 := D4
          clear BX4 D4 z0 z1 z2 z3 f2 hz hE
          obtain ⟨W, hW⟩ : ∃ W, w4 = W := ⟨_, rfl⟩
          rw [hW] at BX D5 ⊢
          clear hW
          have c := ttext_call w W g s T3.2.1 T3.2.2 HS.out A3.out D5.out.tk D5.out.ge D5.out.bel
          rw [H4.out] at c
          refine c.mono ?_
          clear c
          rintro e w6 ⟨rfl, ht, hB, hk⟩
          have D6 := Aside0.mk (D5.out.keep ht hB hk)
          have BX6 := Aside0.mk ((hk.2 gb (blk_lt BX.out) NEB.out.symm (by simp)).trans BX.out)
          clear ht hB hk D5 BX
          have z0 : w6.cell? ⟨gb, 0, none⟩ = some (.string T1.1) := (blk_cell BX6.out 0).trans rfl
          have z1 : w6.cell? ⟨gb, 1, none⟩ = some (.int .i64 T2.1) := (blk_cell BX6.out 1).trans rfl
          have z2 : w6.cell? ⟨gb, 2, none⟩ = some (.int .i64 (kindOf T3.1)) := (blk_cell BX6.out 2).trans rfl
          have z3 : w6.cell? ⟨gb, 3, none⟩ = some (.string (⟨#[]⟩ : ByteArray)) := (blk_cell BX6.out 3).trans rfl
          have f3 := blk_frozen BX6.out 3
          have D6s := Aside0.mk (D6.out.set (j := 3) GEB.out NEB.out (.string T4.1))
          have BX7 := Aside0.mk (show (w6.setCell ⟨gb, 3, none⟩ (.string T4.1)).heap[gb]? = some (.cells #[.string T1.1, .int .i64 T2.1, .int .i64 (kindOf T3.1), .string T4.1] 71 (0, 0)) from blk_put BX6.out 3 _ rfl)
          have LL := Aside0.mk (show (out.length + 1) * 48 ≤ 140737488355328 from by have := HL.out.2 trivial; omega)
          go_wp2_with ((with_reducible refine gate_builtin (b := .append) (xs := #[.tmp 41, .tmp 43]) rfl ?_); (try (refine gate_guard (by rfl) ?_; dsimp only)); at_builtin; refine Kd.R_append k71 (w0 := w) w.heap.size rfl (.tmp 41) (.tmp 43) 31 71 (.agg #[(.string ⟨#[]⟩), (.int .i64 0), (.int .i64 0), (.string ⟨#[]⟩)]) 48 rfl Try.underlying31 info71 rfl (by decide) (by omega) u5 out (⟨T1.1, T2.1, kindOf T3.1, T4.1⟩ : S71) [.string T1.1, .int .i64 T2.1, .int .i64 (kindOf T3.1), .string T4.1] (fun k => True ∧ k ≠ gb) (fun _ => False) rfl (by first | (go_simp; done) | (go_simp; rfl)) (k71_mkM _ _ _ (⟨T1.1, T2.1, kindOf T3.1, T4.1⟩ : S71)) (fun _ hk => hk.elim) (fun k hk => ⟨trivial, fun he => by have := blk_lt BX7.out; omega⟩) D6s.out.row D6s.out.bel (below_size D6s.out.bel) LL.out ?_; intro v1 w7 ho hb hgr hat; have D7 := Aside0.mk (show DI w w7 g s T4.2.1 T4.2.2 v1 (out ++ [(⟨T1.1, T2.1, kindOf T3.1, T4.1⟩ : S71)]) (fun _ => True) from ⟨hb, D6s.out.ge, (hgr.block g (blk_lt D6s.out.tk) (fun he => ((Kd.R_types D6s.out.row D6s.out.tk (by decide)).1 g he.symm).2 rfl)).trans D6s.out.tk, Kd.R_mono ho (fun _ _ => trivial)⟩); obtain ⟨A1, c1, hv1⟩ := Kd.R_slice ho; rw [List.length_append, List.length_singleton] at hv1; subst hv1; clear ho hb hgr hat D6 D6s BX6 BX7 z0 z1 z2 z3 f3; have t2 := blk_cell D7.out.tk 2; have f2 := blk_frozen D7.out.tk 2)
          all_goals (rename_i hcmp; refine ⟨⟨n, T4.2.1, T4.2.2 || decide (1000 ≤ out.length), out ++ [(⟨T1.1, T2.1, kindOf T3.1, T4.1⟩ : S71)], rfl, by omega, ?_, A4, ⟨by rw [List.length_append, List.length_singleton]; have := HL.out.2 trivial; omega, fun hb => ?_⟩, HNX⟩, by simp [intOf]⟩)
          · rw [decide_eq_true (show 1000 ≤ out.length by omega), Bool.or_true]; exact ⟨D7.out.bad true⟩
          · rw [decide_eq_true (show 1000 ≤ out.length by omega), Bool.or_true] at hb; cases hb
          · rw [decide_eq_false (show ¬ 1000 ≤ out.length by omega), Bool.or_false]; exact D7
          · rw [List.length_append, List.length_singleton]; omega
        · have hE : T3.1.toList.isEmpty = false := nonempty_list hz
          have hlt : 0 < T3.1.size := by omega
          go_wp2_with fail
          have hw : wrap64 ((T3.1[0].toNat : Nat) : Int) = kindOf T3.1 := kind_at hlt
          rw [hw]
          have BX := Aside0.mk (show (w4.setCell ⟨gb, 2, none⟩ (.int .i64 (kindOf T3.1))).heap[gb]? = some (.cells #[.string T1.1, .int .i64 T2.1, .int .i64 (kindOf T3.1), .string (⟨#[]⟩ : ByteArray)] 71 (0, 0)) from blk_put BX4.out 2 _ rfl)
          have D5 := Aside0.mk (D4.out.set (j := 2) GEB.out NEB.out (.int .i64 (kindOf T3.1)))
          clear BX4 D4 z0 z1 z2 z3 f2 hz hE hw
          generalize w4.setCell ⟨gb, 2, none⟩ (.int .i64 (kindOf T3.1)) = W at *
          have c := ttext_call w W g s T3.2.1 T3.2.2 HS.out A3.out D5.out.tk D5.out.ge D5.out.bel
          rw [H4.out] at c
          refine c.mono ?_
          clear c
          rintro e w6 ⟨rfl, ht, hB, hk⟩
          have D6 := Aside0.mk (D5.out.keep ht hB hk)
          have BX6 := Aside0.mk ((hk.2 gb (blk_lt BX.out) NEB.out.symm (by simp)).trans BX.out)
          clear ht hB hk D5 BX
          have z0 : w6.cell? ⟨gb, 0, none⟩ = some (.string T1.1) := (blk_cell BX6.out 0).trans rfl
          have z1 : w6.cell? ⟨gb, 1, none⟩ = some (.int .i64 T2.1) := (blk_cell BX6.out 1).trans rfl
          have z2 : w6.cell? ⟨gb, 2, none⟩ = some (.int .i64 (kindOf T3.1)) := (blk_cell BX6.out 2).trans rfl
          have z3 : w6.cell? ⟨gb, 3, none⟩ = some (.string (⟨#[]⟩ : ByteArray)) := (blk_cell BX6.out 3).trans rfl
          have f3 := blk_frozen BX6.out 3
          have D6s := Aside0.mk (D6.out.set (j := 3) GEB.out NEB.out (.string T4.1))
          have BX7 := Aside0.mk (show (w6.setCell ⟨gb, 3, none⟩ (.string T4.1)).heap[gb]? = some (.cells #[.string T1.1, .int .i64 T2.1, .int .i64 (kindOf T3.1), .string T4.1] 71 (0, 0)) from blk_put BX6.out 3 _ rfl)
          have LL := Aside0.mk (show (out.length + 1) * 48 ≤ 140737488355328 from by have := HL.out.2 trivial; omega)
          go_wp2_with ((with_reducible refine gate_builtin (b := .append) (xs := #[.tmp 41, .tmp 43]) rfl ?_); (try (refine gate_guard (by rfl) ?_; dsimp only)); at_builtin; refine Kd.R_append k71 (w0 := w) w.heap.size rfl (.tmp 41) (.tmp 43) 31 71 (.agg #[(.string ⟨#[]⟩), (.int .i64 0), (.int .i64 0), (.string ⟨#[]⟩)]) 48 rfl Try.underlying31 info71 rfl (by decide) (by omega) u5 out (⟨T1.1, T2.1, kindOf T3.1, T4.1⟩ : S71) [.string T1.1, .int .i64 T2.1, .int .i64 (kindOf T3.1), .string T4.1] (fun k => True ∧ k ≠ gb) (fun _ => False) rfl (by first | (go_simp; done) | (go_simp; rfl)) (k71_mkM _ _ _ (⟨T1.1, T2.1, kindOf T3.1, T4.1⟩ : S71)) (fun _ hk => hk.elim) (fun k hk => ⟨trivial, fun he => by have := blk_lt BX7.out; omega⟩) D6s.out.row D6s.out.bel (below_size D6s.out.bel) LL.out ?_; intro v1 w7 ho hb hgr hat; have D7 := Aside0.mk (show DI w w7 g s T4.2.1 T4.2.2 v1 (out ++ [(⟨T1.1, T2.1, kindOf T3.1, T4.1⟩ : S71)]) (fun _ => True) from ⟨hb, D6s.out.ge, (hgr.block g (blk_lt D6s.out.tk) (fun he => ((Kd.R_types D6s.out.row D6s.out.tk (by decide)).1 g he.symm).2 rfl)).trans D6s.out.tk, Kd.R_mono ho (fun _ _ => trivial)⟩); obtain ⟨A1, c1, hv1⟩ := Kd.R_slice ho; rw [List.length_append, List.length_singleton] at hv1; subst hv1; clear ho hb hgr hat D6 D6s BX6 BX7 z0 z1 z2 z3 f3; have t2 := blk_cell D7.out.tk 2; have f2 := blk_frozen D7.out.tk 2)
          all_goals (rename_i hcmp; refine ⟨⟨n, T4.2.1, T4.2.2 || decide (1000 ≤ out.length), out ++ [(⟨T1.1, T2.1, kindOf T3.1, T4.1⟩ : S71)], rfl, by omega, ?_, A4, ⟨by rw [List.length_append, List.length_singleton]; have := HL.out.2 trivial; omega, fun hb => ?_⟩, HNX⟩, by simp [intOf]⟩)
          · rw [decide_eq_true (show 1000 ≤ out.length by omega), Bool.or_true]; exact ⟨D7.out.bad true⟩
          · rw [decide_eq_true (show 1000 ≤ out.length by omega), Bool.or_true] at hb; cases hb
          · rw [decide_eq_false (show ¬ 1000 ≤ out.length by omega), Bool.or_false]; exact D7
          · rw [List.length_append, List.length_singleton]; omega
end Go.Proofs.Ytjneloehdcecnaa.M
end
section
-- Written by a changed copy of the print program, one module a function. Not trusted: Lean checks it.
namespace Go.Proofs.Ytjneloehdcecnaa.P
open Go.RowKit Go.Proofs.YtjneloehdcecnaaW.PrintWords Go.Proofs.YtjneloehdcecnaaW.PrintLast Go.Proofs.YtjneloehdcecnaaW.PrintMore
attribute [local go_sem] max2_int min2_int max_two min_two max_three min_three max_four min_four   -- for this text's walks alone
set_option linter.unusedVariables false
set_option linter.unusedSimpArgs false

/-! ### impl_DecodeEntries: function 26 -/
def impl_DecodeEntries.f (a0 : ByteArray) : Option ((List (S71)) × Bool) := if a0.size ≤ 1048576 then some (M.dec a0) else none

theorem impl_DecodeEntries.calls (a0 : ByteArray) (r1 : List (S71)) (r2 : Bool) (w : World) (h : impl_DecodeEntries.f a0 = some (r1, r2)) :
  Calls Try.prog 26 #[.string a0] w fun e w' => ∃ v0_ : Value, e = .returned (.tuple #[v0_, .bool r2]) ∧ Kd.R k71 71 w' w.heap.size (fun _ => True) v0_ r1 ∧ Below w.heap.size w w' := by
 unfold impl_DecodeEntries.f at h
 by_cases hs : a0.size ≤ 1048576
 ·rw [if_pos hs] at h
  have e := Option.some.inj h
  have h1 := M.decEntries_call a0 w hs
  rw [e] at h1
  exact h1
 ·rw [if_neg hs] at h; cases h

end Go.Proofs.Ytjneloehdcecnaa.P
end

/- Texts of the claim FnSynced, part 26 of 34, joined: MCrash, Pspecl1At, MAt, MSynced, PlawswBegins, PimplFsFind, PimplFsCrash, MSynced2, Pspecl1Take, Pspecl1DrawName, MDraw. No condition beyond those that stand at each. -/
import Derived.Test.YtbppijlcmeidaaaZFnSynced25
import Derived.Deep.QuietTactic
import Derived.BigQuiet
import Derived.IntWalk
import Derived.Outline
import Derived.Test.YtbppijlcmeidaaaZFnSynced24
section
/- The program's FsCrash, walked. Condition: the sizes of the Data add up to a number of 63 bits. -/
namespace Go.Proofs.Ytbppijlcmeidaaa.M
open Go.RowKit Go.Proofs.Ytbppijlcmeidaaa.P Go.Proofs.YtbppijlcmeidaaaW.PrintWords Go.Proofs.YtbppijlcmeidaaaW.PrintLast Go.Proofs.YtbppijlcmeidaaaW.PrintMore
set_option linter.unusedVariables false
attribute [local go_sem] max2_int min2_int max_two min_two
/-- How much of what was not synced is kept. -/
def keptAt (keep : List Int) (i : Nat) (x : S52) : Int := if i < keep.length then mn (mx 0 (keep.getD i 0)) ((x.f1.size : Int) - x.f2) else 0
def crashFile (keep : List Int) (i : Nat) (x : S52) : S52 := ⟨x.f0, x.f1.extract 0 (x.f2 + keptAt keep i x).toNat, x.f2 + keptAt keep i x⟩
def crash (keep : List Int) (l : List S52) : List S52 := l.mapIdx (crashFile keep)
def crashTo (keep : List Int) (l : List S52) (i : Nat) : List S52 := (crash keep l).take i ++ l.drop i
theorem crash_length (keep : List Int) (l : List S52) : (crash keep l).length = l.length := List.length_mapIdx
theorem crash_at (keep : List Int) (l : List S52) (i : Nat) (h : i < l.length) : (crash keep l)[i]'(by rw [crash_length]; exact h) = crashFile keep i l[i] := List.getElem_mapIdx ..
theorem crashTo_length (keep : List Int) (l : List S52) (i : Nat) (h : i ≤ l.length) : (crashTo keep l i).length = l.length := by
  unfold crashTo
  rw [List.length_append, List.length_take, List.length_drop, crash_length]
  omega
theorem crashTo_zero (keep : List Int) (l : List S52) : crashTo keep l 0 = l := by simp [crashTo]
theorem crashTo_end (keep : List Int) (l : List S52) : crashTo keep l l.length = crash keep l := by
  unfold crashTo
  rw [List.drop_length, List.append_nil, List.take_of_length_le (by rw [crash_length]; omega)]
theorem crashTo_split (keep : List Int) (l : List S52) (i : Nat) (h : i < l.length) : crashTo keep l i = (crash keep l).take i ++ l[i] :: l.drop (i + 1) := by
  unfold crashTo
  rw [drop_at l i h]
theorem crashTo_rd (keep : List Int) (l : List S52) (i : Nat) (h : i < l.length) : rd_T52 (crashTo keep l i) (i : Int) = rd_T52 l (i : Int) := by
  have hl : ((crash keep l).take i).length = i := by rw [List.length_take, crash_length]; omega
  rw [rd52 _ i (by rw [crashTo_length keep l i (by omega)]; exact h), rd52 l i h]
  simp only [crashTo_split keep l i h]
  rw [List.getElem_append_right (by omega)]
  simp [hl]
theorem crashTo_set (keep : List Int) (l : List S52) (i : Nat) (h : i < l.length) : (crashTo keep l i).set i (crashFile keep i (rd_T52 l (i : Int))) = crashTo keep l (i + 1) := by
  have hl : ((crash keep l).take i).length = i := by rw [List.length_take, crash_length]; omega
  rw [crashTo_split keep l i h, List.set_append_right _ _ (by omega), hl, Nat.sub_self, rd52 l i h]
  unfold crashTo
  rw [take_at (crash keep l) i (by rw [crash_length]; exact h), crash_at keep l i h, List.append_assoc]
  rfl
def crashRes (l : List S52) (q f : Int) (keep : List Int) : List S52 × Int × Int := if validB l q f = true then (crash keep l, q, -1) else ([], 0, 0)
theorem at_keep {w : World} {K : Option Addr} {keep : List Int} (h : Kd.C (Kd.int .i64) w K keep.length keep) (i : Nat) (h1 : i < keep.length) : ∃ ad, K = some ad ∧ w.cell? (ad.add i) = some (.int .i64 (keep.getD i 0)) := by
  obtain ⟨ad, c, e, _, hK, hc⟩ := Kd.C_get h 0 (i : Int) (by omega) (by omega)
  refine ⟨ad, e, ?_⟩
  rw [Int.toNat_natCast] at hK
  obtain rfl : c = [.int .i64 (keep.getD i 0)] := hK
  have := hc 0 _ rfl
  simpa [show (Kd.int .i64).sz = 1 from rfl] using this
theorem total_ge' : ∀ (l : List S52) (i : Nat) (h : i < l.length), l[i].f1.size ≤ total l
  | x :: l, 0, _ => Nat.le_add_right _ _
  | x :: l, i + 1, h => Nat.le_trans (total_ge' l i (by simpa using h)) (Nat.le_add_left _ _)
theorem file_bounds {l : List S52} {q f : Int} (h : validB l q f = true) (i : Nat) (hi : i < l.length) : 0 ≤ (rd_T52 l (i : Int)).f2 ∧ (rd_T52 l (i : Int)).f2 ≤ ((rd_T52 l (i : Int)).f1.size : Int) ∧ ((rd_T52 l (i : Int)).f1.size : Int) ≤ 1048576 := by
  have hp := valid_parts h
  have ht := total_ge' l i hi
  rw [rd52 l i hi]
  have := (okFrom_all hp.2.2.2.2.1).1 l[i] (List.getElem_mem hi)
  unfold fileOk at this
  simp only [Bool.and_eq_true, decide_eq_true_eq] at this
  have := hp.2.2.2.2.2
  omega
theorem row_two {W : World} {base b n c : Nat} {l : List S52} (h : Kd.R k52 52 W base (fun _ => True) (.slice (some ⟨b, 0, none⟩) n c) l) (i : Nat) (hi : i < l.length) (s : ByteArray) (u : Int) :
    Kd.R k52 52 ((W.setCell ⟨b, i * 3 + 1, none⟩ (.string s)).setCell ⟨b, i * 3 + 2, none⟩ (.int .i64 u)) base (fun _ => True) (.slice (some ⟨b, 0, none⟩) n c) (l.set i ⟨(rd_T52 l (i : Int)).f0, s, u⟩) := by
  obtain ⟨b1, c1, hv, _, _, _, _, _, _, es1, _⟩ := row_elem h i hi
  injection hv with hv1 hv2 hv3
  injection hv1 with hv1
  injection hv1 with hv1
  subst hv1
  have h1 := es1 s
  have hi1 : i < (l.set i (⟨(rd_T52 l (i : Int)).f0, s, (rd_T52 l (i : Int)).f2⟩ : S52)).length := by rw [List.length_set]; exact hi
  obtain ⟨b2, c2, hv, _, _, _, _, _, es2, _, _⟩ := row_elem h1 i hi1
  injection hv with hv1 hv2 hv3
  injection hv1 with hv1
  injection hv1 with hv1
  subst hv1
  have h2 := es2 u
  rw [rd52 _ i hi1, List.getElem_set_self, List.set_set] at h2
  exact h2
/-- What a round of the loop needs of the world. -/
structure CInv (w wr : World) (g : Nat) (A : Option Addr) (c : Nat) (keep : List Int) (l : List S52) (q f : Int) (i : Nat) : Prop where
  fs : FsAt w wr g (.slice A l.length c) (crashTo keep l i) q f
  res : wr.heap[w.heap.size + 1]? = some (.cells #[.slice none 0 0, .int .i64 0, .int .i64 0] 29 (0, 0))
  ne : g ≠ w.heap.size + 1
theorem CInv.next {w wr : World} {g b c : Nat} {keep : List Int} {l : List S52} {q f : Int} {i : Nat} (h : CInv w wr g (some ⟨b, 0, none⟩) c keep l q f i) (hi : i < l.length) (hne : b ≠ g) (hres : b ≠ w.heap.size + 1) {k : Int} (hk : keptAt keep i (rd_T52 l (i : Int)) = k) {S : ByteArray} {u : Int} (hS : S = (rd_T52 l (i : Int)).f1.extract 0 ((rd_T52 l (i : Int)).f2 + k).toNat) (hu : u = (rd_T52 l (i : Int)).f2 + k) :
    CInv w ((wr.setCell ⟨b, i * 3 + 1, none⟩ (.string S)).setCell ⟨b, i * 3 + 2, none⟩ (.int .i64 u)) g (some ⟨b, 0, none⟩) c keep l q f (i + 1) := by
  subst hS hu
  have hr := row_two h.fs.row i (by rw [crashTo_length keep l i (by omega)]; exact hi) ((rd_T52 l (i : Int)).f1.extract 0 ((rd_T52 l (i : Int)).f2 + k).toNat) ((rd_T52 l (i : Int)).f2 + k)
  rw [crashTo_rd keep l i hi] at hr
  have e := crashTo_set keep l i hi
  unfold crashFile at e
  rw [hk] at e
  rw [e] at hr
  have hb := Kd.R_base h.fs.row b (by simp [Value.ownBlock])
  exact ⟨⟨blk_far (blk_far h.fs.blk (fun e => hne e.symm) _) (fun e => hne e.symm) _, hr, (h.fs.bel.setCell hb _).setCell hb _, h.fs.ge⟩, blk_far (blk_far h.res (fun e => hres e.symm) _) (fun e => hres e.symm) _, h.ne⟩
theorem CInv.drew {w wr : World} {g : Nat} {A : Option Addr} {c : Nat} {keep : List Int} {l : List S52} {q f : Int} {i : Nat} (h : CInv w wr g A c keep l q f i) : CInv w wr.drew g A c keep l q f i :=
  ⟨h.fs.drew, h.res, h.ne⟩
theorem CInv.drewN {w wr : World} {g : Nat} {A : Option Addr} {c : Nat} {keep : List Int} {l : List S52} {q f : Int} {i : Nat} (h : CInv w wr g A c keep l q f i) (n : Nat) : CInv w (wr.drewN n) g A c keep l q f i :=
  ⟨h.fs.below (pw_below_drewN (Below.refl _ _) n), blk_drewN h.res n, h.ne⟩

set_option maxRecDepth 100000 in
set_option maxHeartbeats 8000000 in
theorem crash_call (A : Option Addr) (c : Nat) (l : List S52) (q f : Int) (K : Option Addr) (ck : Nat) (keep : List Int) (w : World) (hr : Kd.C k52 w A l.length l) (hc : l.length ≤ c) (hk : Kd.C (Kd.int .i64) w K keep.length keep) (hck : keep.length ≤ ck) (ht : ValidFits l) :
    Calls Try.prog 21 #[.agg #[.slice A l.length c, .int .i64 q, .int .i64 f], .slice K keep.length ck] w fun e w' => ∃ v, e = .returned (.agg #[v, .int .i64 (crashRes l q f keep).2.1, .int .i64 (crashRes l q f keep).2.2]) ∧ Kd.R k52 52 w' w.heap.size (fun _ => True) v (crashRes l q f keep).1 ∧ Below w.heap.size w w' := by
  have hu29 := Try.underlying29
  have hu52 := Try.underlying52
  have HR := Aside0.mk hr
  have HK := Aside0.mk hk
  have b0 : Below w.heap.size w ((w.alloc (.cells #[.slice A l.length c, .int .i64 q, .int .i64 f] 29)).alloc (.cells #[.slice none 0 0, .int .i64 0, .int .i64 0] 29)) := ((Below.refl _ _).alloc (Nat.le_refl _) _).alloc (by simp) _
  have hv := valid_any A c l q f _ (Kd.C_below hr b0) hc ht
  have HB0 := Aside0.mk b0
  unfold crashRes
  by_cases h : validB l q f = true
  · rw [if_pos h]
    rw [h] at hv
    have HV := Aside0.mk hv
    have HL := Aside0.mk h
    clear hv hr hc ht h b0 hk
    go_enter Try.func21, Try.ntmps21
    go_wp2_with fail
    refine HV.out.mono ?_
    rintro e w1 ⟨rfl, hb⟩
    have s1 := hb.size
    simp only [World.size_alloc] at s1
    have HB := Aside0.mk (HB0.out.trans (hb.mono (by simp; omega)))
    have B0 : w1.heap[w.heap.size]? = some (.cells #[.slice A l.length c, .int .i64 q, .int .i64 f] 29 (0, 0)) := (hb.block _ (by simp; omega)).trans (blk_alloc (heap_alloc_new _ _) _)
    have B1 : w1.heap[w.heap.size + 1]? = some (.cells #[.slice none 0 0, .int .i64 0, .int .i64 0] 29 (0, 0)) := by
      have := (hb.block (w.alloc (.cells #[.slice A l.length c, .int .i64 q, .int .i64 f] 29)).heap.size (by simp)).trans (heap_alloc_new _ _)
      simpa using this
    have c00 := blk_cell B0 0
    have c01 := blk_cell B0 1
    have c02 := blk_cell B0 2
    have HC := Aside0.mk (copyFS_call A c l q f w1 (Kd.C_below HR.out HB.out) (valid_parts HL.out).1)
    have HB1 := Aside0.mk B1
    clear B0 B1 hb
    go_wp2_with fail
    refine HC.out.mono ?_
    rintro e w2 ⟨v, rfl, hR, hb⟩
    obtain ⟨A', c', rfl⟩ := Kd.R_slice hR
    have s2 := hb.size
    have HB2 := Aside0.mk (HB.out.trans (hb.mono (by omega)))
    have HB3 := Aside0.mk (HB2.out.alloc HB2.out.size (.cells #[.slice A' l.length c', .int .i64 q, .int .i64 f] 29))
    have HB4 := Aside0.mk ((hb.block _ (blk_lt HB1.out)).trans HB1.out)
    have HF := Aside0.mk (show CInv w (w2.alloc (.cells #[.slice A' l.length c', .int .i64 q, .int .i64 f] 29)) w2.heap.size A' c' keep l q f 0 from
      ⟨by rw [crashTo_zero]; exact ⟨heap_alloc_new _ _, Kd.R_lower (Kd.R_alloc hR _) HB.out.size, HB3.out, HB2.out.size⟩, blk_alloc HB4.out _, by have := blk_lt HB4.out; omega⟩)
    clear hb hR c00 c01 c02
    have hl : l.length ≤ 200 := (valid_parts HL.out).1
    go_wp2
    go_loopw [18] (fun v wr => ∃ i : Nat, i ≤ l.length ∧ v = .int .i64 (i : Int) ∧ Aside0 (CInv w wr w2.heap.size A' c' keep l q f i)) (fun v _ => l.length - (intOf v).toNat)
    case atStart => exact ⟨0, by omega, rfl, HF⟩
    case round =>
      obtain ⟨i, hi, rfl, HI⟩ := hrel
      have b0 := blk_cell HI.out.fs.blk 0
      have b1 := blk_cell HI.out.fs.blk 1
      have b2 := blk_cell HI.out.fs.blk 2
      by_cases hlt : i < l.length
      · obtain ⟨b, c1, hv, hbb, e0, e1, e2, ez, es2, es1, es3⟩ := row_elem HI.out.fs.row i (by rw [crashTo_length keep l i hi]; exact hlt)
        injection hv with hv1 hv2 hv3
        subst hv1; subst hv3
        rw [crashTo_rd keep l i hlt] at e0 e1 e2 es1 es2
        have ES := Aside0.mk es1
        have hne : b ≠ w2.heap.size := fun hh => by
          obtain ⟨cells, hc'⟩ := Kd.R_typed HI.out.fs.row b (by simp [Value.ownBlock])
          rw [hh, HI.out.fs.blk] at hc'
          injection hc' with hc'
          injection hc' with _ hc'
          exact absurd hc' (by decide)
        have ez1 := ez 1
        have ez2 := ez 2
        have hlt1 : ((i : Nat) : Int) < (l.length : Int) := by omega
        have hf := Aside0.mk (file_bounds HL.out i hlt)
        generalize hx : rd_T52 l (i : Int) = x at e0 e1 e2 ES hf
        have x0 : 0 ≤ x.f2 := hf.out.1
        have x1 : x.f2 ≤ (x.f1.size : Int) := hf.out.2.1
        have x2 : (x.f1.size : Int) ≤ 1048576 := hf.out.2.2
        have HX := Aside0.mk hx
        have hres : b ≠ w.heap.size + 1 := fun hh => by
          obtain ⟨cells, hc'⟩ := Kd.R_typed HI.out.fs.row b (by simp [Value.ownBlock])
          rw [hh, HI.out.res] at hc'
          injection hc' with hc'
          injection hc' with _ hc'
          exact absurd hc' (by decide)
        have HNE := Aside0.mk (And.intro hne hres)
        clear hx hne hres es1 es2 es3 ez hv2 hbb
        by_cases hk : i < keep.length
        · obtain ⟨ad, hK, hkc⟩ := at_keep HK.out i hk
          subst hK
          have hkc := (HI.out.fs.bel.cell (World.block_lt_of_cell? w _ hkc)).trans hkc
          have hk1 : ((i : Nat) : Int) < (keep.length : Int) := by omega
          generalize hkv : keep.getD i 0 = kv at hkc
          have HKV := Aside0.mk hkv
          clear hkv
          by_cases p1 : 0 < kv
          · have q1 : decide (0 < kv) = true := decide_eq_true p1
            by_cases p2 : (x.f1.size : Int) - x.f2 < kv
            · have q2 : decide ((x.f1.size : Int) - x.f2 < kv) = true := decide_eq_true p2
              have hw : IntKind.i64.wrap ((x.f1.size : Int) - x.f2) = (x.f1.size : Int) - x.f2 := IntWalk.i64_in _ (by omega)
              have KE := Aside0.mk (show keptAt keep i x = ((x.f1.size : Int) - x.f2) by unfold keptAt mn mx; rw [if_pos hk, HKV.out, if_pos p1, if_pos p2])
              have hw2 : IntKind.i64.wrap (x.f2 + ((x.f1.size : Int) - x.f2)) = x.f2 + ((x.f1.size : Int) - x.f2) := IntWalk.i64_in _ (by omega)
              have k0 : 0 ≤ x.f2 + ((x.f1.size : Int) - x.f2) := by omega
              have k1 : x.f2 + ((x.f1.size : Int) - x.f2) ≤ (x.f1.size : Int) := by omega
              go_wp2
              go_quiet (fail)
              clear hw
              go_wp2_with fail
              go_region
              clear hw2
              go_wp2
              go_roundw
              case rel =>
                obtain rfl := HX.out
                have hu : max ((rd_T52 l (i : Int)).f2 + (((rd_T52 l (i : Int)).f1.size : Int) - (rd_T52 l (i : Int)).f2)) 0 = (rd_T52 l (i : Int)).f2 + (((rd_T52 l (i : Int)).f1.size : Int) - (rd_T52 l (i : Int)).f2) := by omega
                refine ⟨i + 1, by omega, by go_num, ⟨?_⟩⟩
                first
                  | exact CInv.next (HI.out.drewN _) hlt HNE.out.1 HNE.out.2 KE.out (by first | rfl | simp) (by omega)
                  | exact (CInv.next HI.out hlt HNE.out.1 HNE.out.2 KE.out (by first | rfl | simp) (by omega)).drew
              case measure => simp [intOf]; omega
            · have q2 : decide ((x.f1.size : Int) - x.f2 < kv) = false := decide_eq_false p2
              have hw : IntKind.i64.wrap ((x.f1.size : Int) - x.f2) = (x.f1.size : Int) - x.f2 := IntWalk.i64_in _ (by omega)
              have KE := Aside0.mk (show keptAt keep i x = kv by unfold keptAt mn mx; rw [if_pos hk, HKV.out, if_pos p1, if_neg p2])
              have hw2 : IntKind.i64.wrap (x.f2 + kv) = x.f2 + kv := IntWalk.i64_in _ (by omega)
              have k0 : 0 ≤ x.f2 + kv := by omega
              have k1 : x.f2 + kv ≤ (x.f1.size : Int) := by omega
              go_wp2
              go_quiet (fail)
              clear hw
              go_wp2_with fail
              go_region
              clear hw2
              go_wp2
              go_roundw
              case rel =>
                obtain rfl := HX.out
                have hu : max ((rd_T52 l (i : Int)).f2 + kv) 0 = (rd_T52 l (i : Int)).f2 + kv := by omega
                refine ⟨i + 1, by omega, by go_num, ⟨?_⟩⟩
                first
                  | exact CInv.next (HI.out.drewN _) hlt HNE.out.1 HNE.out.2 KE.out (by first | rfl | simp) (by omega)
                  | exact (CInv.next HI.out hlt HNE.out.1 HNE.out.2 KE.out (by first | rfl | simp) (by omega)).drew
              case measure => simp [intOf]; omega
          · have q1 : decide (0 < kv) = false := decide_eq_false p1
            have q2 : decide ((x.f1.size : Int) - x.f2 < 0) = false := decide_eq_false (by omega)
            have hw : IntKind.i64.wrap ((x.f1.size : Int) - x.f2) = (x.f1.size : Int) - x.f2 := IntWalk.i64_in _ (by omega)
            have KE := Aside0.mk (show keptAt keep i x = 0 by unfold keptAt mn mx; rw [if_pos hk, HKV.out, if_neg p1, if_neg (by omega)])
            have hw2 : IntKind.i64.wrap (x.f2 + 0) = x.f2 + 0 := IntWalk.i64_in _ (by omega)
            have k0 : 0 ≤ x.f2 + 0 := by omega
            have k1 : x.f2 + 0 ≤ (x.f1.size : Int) := by omega
            go_wp2
            go_quiet (fail)
            clear hw
            go_wp2_with fail
            go_region
            clear hw2
            go_wp2
            go_roundw
            case rel =>
              obtain rfl := HX.out
              have hu : max ((rd_T52 l (i : Int)).f2 + 0) 0 = (rd_T52 l (i : Int)).f2 + 0 := by omega
              refine ⟨i + 1, by omega, by go_num, ⟨?_⟩⟩
              first
                | exact CInv.next (HI.out.drewN _) hlt HNE.out.1 HNE.out.2 KE.out (by first | rfl | simp) (by omega)
                | exact (CInv.next HI.out hlt HNE.out.1 HNE.out.2 KE.out (by first | rfl | simp) (by omega)).drew
            case measure => simp [intOf]; omega
        · have hk1 : decide (((i : Nat) : Int) < (keep.length : Int)) = false := decide_eq_false (by omega)
          have KE := Aside0.mk (show keptAt keep i x = 0 by unfold keptAt mn mx; rw [if_neg hk])
          have hw2 : IntKind.i64.wrap (x.f2 + 0) = x.f2 + 0 := IntWalk.i64_in _ (by omega)
          have k0 : 0 ≤ x.f2 + 0 := by omega
          have k1 : x.f2 + 0 ≤ (x.f1.size : Int) := by omega
          go_wp2
          skip
          go_wp2_with fail
          go_region
          clear hw2
          go_wp2
          go_roundw
          case rel =>
            obtain rfl := HX.out
            have hu : max ((rd_T52 l (i : Int)).f2 + 0) 0 = (rd_T52 l (i : Int)).f2 + 0 := by omega
            refine ⟨i + 1, by omega, by go_num, ⟨?_⟩⟩
            first
              | exact CInv.next (HI.out.drewN _) hlt HNE.out.1 HNE.out.2 KE.out (by first | rfl | simp) (by omega)
              | exact (CInv.next HI.out hlt HNE.out.1 HNE.out.2 KE.out (by first | rfl | simp) (by omega)).drew
          case measure => simp [intOf]; omega
      · have hlt1 : decide (((i : Nat) : Int) < (l.length : Int)) = false := decide_eq_false (by omega)
        have r0 := blk_cell HI.out.res 0
        have r1 := blk_cell HI.out.res 1
        have r2 := blk_cell HI.out.res 2
        have f0 := blk_frozen HI.out.res 0
        have f1 := blk_frozen HI.out.res 1
        have f2 := blk_frozen HI.out.res 2
        have g2 := blk_frozen HI.out.fs.blk 2
        have HE := Aside0.mk (show i = l.length by omega)
        go_wp2
        have hrow := HI.out.fs.row
        rw [HE.out, crashTo_end] at hrow
        have T0 := blk_far (p := ⟨w2.heap.size, 2, none⟩) HI.out.res (fun e => HI.out.ne e.symm) (.int .i64 (-1))
        refine bodyPost_ret (results_single (r := .cell 4 29) rfl (.cell (w.heap.size + 1) 29 #[.slice A' l.length c', .int .i64 q, .int .i64 (-1)] (0, 0) _ rfl ?_ hu29 rfl (by kernel_rfl) .nil)) rfl ⟨_, rfl, ?_, ?_⟩
        · exact blk_put (blk_put (blk_put T0 0 _ rfl) 1 _ rfl) 2 _ rfl
        · exact Kd.R_set (Kd.R_set (Kd.R_set (Kd.R_set hrow HI.out.fs.blk h52 2 _) T0 h52 0 _) (blk_set T0 _ _) h52 1 _) (blk_set (blk_set T0 _ _) _ _) h52 2 _
        · exact (((HI.out.fs.bel.setCell HI.out.fs.ge _).setCell (by simp) _).setCell (by simp) _).setCell (by simp) _
  · rw [if_neg h]
    rw [Bool.eq_false_iff.2 h] at hv
    have HV := Aside0.mk hv
    clear hv hr hc ht h b0 hk
    go_enter Try.func21, Try.ntmps21
    go_wp2_with fail
    refine HV.out.mono ?_
    rintro e w1 ⟨rfl, hb⟩
    have s1 := hb.size
    simp only [World.size_alloc] at s1
    have HB := Aside0.mk (HB0.out.trans (hb.mono (by simp; omega)))
    have B1 : w1.heap[w.heap.size + 1]? = some (.cells #[.slice none 0 0, .int .i64 0, .int .i64 0] 29 (0, 0)) := by
      have := (hb.block (w.alloc (.cells #[.slice A l.length c, .int .i64 q, .int .i64 f] 29)).heap.size (by simp)).trans (heap_alloc_new _ _)
      simpa using this
    have e0 := blk_cell B1 0
    have e1 := blk_cell B1 1
    have e2 := blk_cell B1 2
    have k0 := blk_frozen B1 0
    have k1 := blk_frozen B1 1
    have k2 := blk_frozen B1 2
    have T4 := Aside0.mk B1
    clear B1 hb
    go_wp2
    refine bodyPost_ret (results_single (r := .cell 4 29) rfl (.cell (w.heap.size + 1) 29 #[.slice none 0 0, .int .i64 0, .int .i64 0] (0, 0) _ rfl ?_ hu29 rfl (by kernel_rfl) .nil)) rfl ⟨_, rfl, Kd.R_nil _ _ _ _ _, ?_⟩
    · exact blk_put (blk_put (blk_put T4.out 0 _ rfl) 1 _ rfl) 2 _ rfl
    · exact ((HB.out.setCell (by simp) _).setCell (by simp) _).setCell (by simp) _
end Go.Proofs.Ytbppijlcmeidaaa.M
end
section
-- Written by a changed copy of the print program, one module a function. Not trusted: Lean checks it.
namespace Go.Proofs.Ytbppijlcmeidaaa.P
open Go.RowKit Go.Proofs.YtbppijlcmeidaaaW.PrintWords Go.Proofs.YtbppijlcmeidaaaW.PrintLast Go.Proofs.YtbppijlcmeidaaaW.PrintMore
attribute [local go_sem] max2_int min2_int max_two min_two max_three min_three max_four min_four   -- for this text's walks alone
set_option linter.unusedVariables false
set_option linter.unusedSimpArgs false

/-! ### spec_l1At: function 53 -/
def spec_l1At.l0 : Nat → ByteArray → Int → List (S52) → Int → Int → Option (Int)
 | 0, _, _, _, _, _ => none
 | k + 1, x1, x5, x165000, x165001, x165002 => if x5 < (x165000.length : Int) then (if 0 ≤ x5 then (if ((rd_T52 x165000 x5).f0).toList = x1.toList then (some x5) else (spec_l1At.l0 k x1 (wrap64 (x5 + 1)) x165000 x165001 x165002)) else (none)) else (some (-1))
def spec_l1At.f (k : Nat) (l0_0 : List (S52)) (a0_1 : Int) (a0_2 : Int) (a1 : ByteArray) : Option (Int) := spec_l1At.l0 k a1 0 l0_0 a0_1 a0_2
theorem spec_l1At.mono_l : ∀ k, (∀ y0 y1 y2 y3 y4, LeO (spec_l1At.l0 k y0 y1 y2 y3 y4) (spec_l1At.l0 (k + 1) y0 y1 y2 y3 y4))
 | 0 => fun _ _ _ _ _ r h => by simp [spec_l1At.l0] at h
 | k + 1 => by
  have ih0 := spec_l1At.mono_l k
  ·intro y0 y1 y2 y3 y4
   unfold spec_l1At.l0
   repeat' first
   | (with_reducible exact ih0 _ _ _ _ _)
   | (with_reducible exact LeO.refl _)
   | (with_reducible exact LeO.none _)
   | (with_reducible refine LeO.ite ?_ ?_)
   | (with_reducible refine LeO.bind ?_ (fun _ => ?_))
   | exact ih0 _ _ _ _ _
   | exact LeO.none _
   | refine LeO.ite ?_ ?_
   | refine LeO.bind ?_ (fun _ => ?_)
theorem spec_l1At.mono : ∀ a0 a1 a2 a3 k, LeO (spec_l1At.f k a0 a1 a2 a3) (spec_l1At.f (k + 1) a0 a1 a2 a3) := by
 intro a0 a1 a2 a3 k
 have ih0 := spec_l1At.mono_l k
 unfold spec_l1At.f
 repeat' first
   | (with_reducible exact ih0 _ _ _ _ _)
   | (with_reducible exact LeO.refl _)
   | (with_reducible exact LeO.none _)
   | (with_reducible refine LeO.ite ?_ ?_)
   | (with_reducible refine LeO.bind ?_ (fun _ => ?_))
   | exact ih0 _ _ _ _ _
   | exact LeO.none _
   | refine LeO.ite ?_ ?_
   | refine LeO.bind ?_ (fun _ => ?_)
set_option maxHeartbeats 8000000 in
set_option maxRecDepth 100000 in
theorem spec_l1At.calls (k : Nat) (A0_0 : Option Addr) (c0_0 : Nat) (l0_0 : List (S52)) (a0_1 : Int) (a0_2 : Int) (a1 : ByteArray) (r : Int) (w : World) (hr0_0 : Kd.C k52 w A0_0 l0_0.length l0_0) (hc0_0 : l0_0.length ≤ c0_0) (h : spec_l1At.f k l0_0 a0_1 a0_2 a1 = some r) :
  Calls Try.prog 53 #[.agg #[.slice A0_0 l0_0.length c0_0, .int .i64 a0_1, .int .i64 a0_2], .string a1] w fun e w' => e = .returned (.int .i64 r) ∧ Below w.heap.size w w' := by
 have hu29 := Try.underlying29
 have HR0_0 := Aside0.mk hr0_0
 have HC0_0 := Aside0.mk hc0_0
 clear hr0_0 hc0_0
 have HB := Aside0.mk (Below.refl w.heap.size w)
 have H : (spec_l1At.l0 k a1 0 l0_0 a0_1 a0_2) = some r := h
 clear h
 have H' := Aside0.mk H
 clear H
 go_enter Try.func53, Try.ntmps53
 go_wp2_with (first | ((with_reducible refine gate_dst (N := 2) rfl ?_); refine box_event ?hg (N := 2) ?hd (cs := #[.slice A0_0 l0_0.length c0_0, .int .i64 a0_1, .int .i64 a0_2]) (t := 29) ?hr ?_; (case hd => rfl); (case hg => rfl); (case hr => first | (go_simp; done) | (go_simp; rfl)); intro gb164 hg w3 hbox hb; have n0_ := Aside0.mk (below_step (by repeat (first | (with_reducible first | exact HB.out | apply below_alloc | apply pw_below_drewN | apply below_drew1) | exact HB.out)) hb); have n1_ := Aside0.mk (hbox); have n2_ := Aside0.mk ((by rw [hg]; exact (below_size (by repeat (first | (with_reducible first | exact HB.out | apply below_alloc | apply pw_below_drewN | apply below_drew1) | exact HB.out))) : w.heap.size ≤ gb164)); have n3_ := Aside0.mk ((by rw [hg]; exact (below_size (by repeat (first | (with_reducible first | exact HB.out | apply below_alloc | apply pw_below_drewN | apply below_drew1) | exact HB.out))) : w.heap.size ≤ gb164)); clear HB; have HB := n0_; have BK164 := n1_; have GW164 := n2_; have GE164 := n3_; clear n0_ n1_ n2_ n3_; clear hb hbox hg))
 go_loopg [5] k (fun kq v5 w' => ∃ (x5_1 : Int), v5 = .int .i64 x5_1 ∧ Aside0 (spec_l1At.l0 kq a1 x5_1 l0_0 a0_1 a0_2 = some r) ∧ Aside0 (kq ≤ k) ∧ Aside0 (w'.heap[gb164]? = some (.cells #[(.slice A0_0 l0_0.length c0_0), .int .i64 a0_1, .int .i64 a0_2] 29 (0, 0))) ∧ Aside0 (Below w.heap.size w w'))
 case atStart => exact ⟨(0), (by first | rfl | (simp; done) | (simp [*]; done)), H', ⟨Nat.le_refl _⟩, ⟨by (with_reducible repeat (first | refine blk_drewN ?_ _ | refine blk_drew ?_ | refine blk_alloc ?_ _)); exact BK164.out⟩, ⟨by repeat (first | (with_reducible first | exact HB.out | apply below_alloc | apply pw_below_drewN | apply below_drew1 | refine below_set ?_ GE164.out) | exact HB.out)⟩⟩
 case round =>
  clear H'
  try clear p2
  obtain ⟨x5_1, rfl, HA, HK1, BK164, HB⟩ := hrel
  cases gk with
  | zero => exact absurd HA.out (by simp [spec_l1At.l0])
  | succ k1 =>
   have H := HA.out
   clear HA
   simp only [spec_l1At.l0] at H
   by_cases c4 : x5_1 < (l0_0.length : Int)
   ·rw [if_pos c4] at H
    have c4b0 : decide (x5_1 < (l0_0.length : Int)) = true := decide_eq_true c4
    clear c4
    by_cases c5 : 0 ≤ x5_1
    ·rw [if_pos c5] at H
     have c5b0 : decide (0 ≤ x5_1) = true := decide_eq_true c5
     clear c5
     by_cases c6 : ((rd_T52 l0_0 x5_1).f0).toList = a1.toList
     ·rw [if_pos c6] at H
      have c6b0 : (((rd_T52 l0_0 x5_1).f0).toList == a1.toList) = true := beq_iff_eq.mpr c6
      have c6b1 : (((rd_T52 l0_0 x5_1).f0).toList != a1.toList) = false := bne_eq_false_iff_eq.mpr c6
      clear c6
      obtain rfl := Option.some.inj H
      have hcz7_0 : wr.cell? ⟨gb164, 0, none⟩ = some (.slice A0_0 l0_0.length c0_0) := (blk_cell BK164.out 0).trans rfl
      have hcz7_1 : wr.cell? ⟨gb164, 1, none⟩ = some (.int .i64 a0_1) := (blk_cell BK164.out 1).trans rfl
      have hcz7_2 : wr.cell? ⟨gb164, 2, none⟩ = some (.int .i64 a0_2) := (blk_cell BK164.out 2).trans rfl
      have hfz7_0 := blk_frozen BK164.out 0
      have hfz7_1 := blk_frozen BK164.out 1
      have hfz7_2 := blk_frozen BK164.out 2
      have p165 : 0 ≤ (x5_1 : Int) := of_decide_eq_true (by first | (with_reducible assumption) | assumption)
      have q165 : x5_1 < (l0_0.length : Int) := of_decide_eq_true (by first | (with_reducible assumption) | assumption)
      obtain ⟨ad165, e165, hx165_0, hx165_1, hx165_2⟩ := at_T52 HR0_0.out x5_1 p165 q165
      cases e165
      replace hx165_0 := (HB.out.cell (World.block_lt_of_cell? w _ hx165_0)).trans hx165_0
      replace hx165_1 := (HB.out.cell (World.block_lt_of_cell? w _ hx165_1)).trans hx165_1
      replace hx165_2 := (HB.out.cell (World.block_lt_of_cell? w _ hx165_2)).trans hx165_2
      replace p165 := eq_true p165
      replace q165 := eq_true q165
      go_wp2
      go_ret
      exact ⟨by first | rfl | (simp [errW_none, errW_some] <;> rfl) | (simp [*, errW_none, errW_some] <;> rfl), by repeat (first | (with_reducible first | exact HB.out | apply below_alloc | apply pw_below_drewN | apply below_drew1 | refine below_set ?_ GE164.out) | exact HB.out)⟩
     ·rw [if_neg c6] at H
      have c6b0 : (((rd_T52 l0_0 x5_1).f0).toList == a1.toList) = false := beq_eq_false_iff_ne.mpr c6
      have c6b1 : (((rd_T52 l0_0 x5_1).f0).toList != a1.toList) = true := bne_iff_ne.mpr c6
      have H' := Aside0.mk H
      clear H
      have hcz8_0 : wr.cell? ⟨gb164, 0, none⟩ = some (.slice A0_0 l0_0.length c0_0) := (blk_cell BK164.out 0).trans rfl
      have hcz8_1 : wr.cell? ⟨gb164, 1, none⟩ = some (.int .i64 a0_1) := (blk_cell BK164.out 1).trans rfl
      have hcz8_2 : wr.cell? ⟨gb164, 2, none⟩ = some (.int .i64 a0_2) := (blk_cell BK164.out 2).trans rfl
      have hfz8_0 := blk_frozen BK164.out 0
      have hfz8_1 := blk_frozen BK164.out 1
      have hfz8_2 := blk_frozen BK164.out 2
      have p165 : 0 ≤ (x5_1 : Int) := of_decide_eq_true (by first | (with_reducible assumption) | assumption)
      have q165 : x5_1 < (l0_0.length : Int) := of_decide_eq_true (by first | (with_reducible assumption) | assumption)
      obtain ⟨ad165, e165, hx165_0, hx165_1, hx165_2⟩ := at_T52 HR0_0.out x5_1 p165 q165
      cases e165
      replace hx165_0 := (HB.out.cell (World.block_lt_of_cell? w _ hx165_0)).trans hx165_0
      replace hx165_1 := (HB.out.cell (World.block_lt_of_cell? w _ hx165_1)).trans hx165_1
      replace hx165_2 := (HB.out.cell (World.block_lt_of_cell? w _ hx165_2)).trans hx165_2
      replace p165 := eq_true p165
      replace q165 := eq_true q165
      go_wp2
      go_roundg k1
      case measure => have := HK1.out; omega
      case rel => exact ⟨(wrap64 (x5_1 + 1)), (by first | rfl | (simp; done) | (simp [*]; done)), H', ⟨by have := HK1.out; omega⟩, ⟨by (with_reducible repeat (first | refine blk_drewN ?_ _ | refine blk_drew ?_ | refine blk_alloc ?_ _)); exact BK164.out⟩, ⟨by repeat (first | (with_reducible first | exact HB.out | apply below_alloc | apply pw_below_drewN | apply below_drew1 | refine below_set ?_ GE164.out) | exact HB.out)⟩⟩
    ·rw [if_neg c5] at H
     exact absurd H (by simp)
   ·rw [if_neg c4] at H
    have c4b0 : decide (x5_1 < (l0_0.length : Int)) = false := decide_eq_false c4
    clear c4
    obtain rfl := Option.some.inj H
    have hcz9_0 : wr.cell? ⟨gb164, 0, none⟩ = some (.slice A0_0 l0_0.length c0_0) := (blk_cell BK164.out 0).trans rfl
    have hcz9_1 : wr.cell? ⟨gb164, 1, none⟩ = some (.int .i64 a0_1) := (blk_cell BK164.out 1).trans rfl
    have hcz9_2 : wr.cell? ⟨gb164, 2, none⟩ = some (.int .i64 a0_2) := (blk_cell BK164.out 2).trans rfl
    have hfz9_0 := blk_frozen BK164.out 0
    have hfz9_1 := blk_frozen BK164.out 1
    have hfz9_2 := blk_frozen BK164.out 2
    go_wp2
    go_ret
    exact ⟨by first | rfl | (simp [errW_none, errW_some] <;> rfl) | (simp [*, errW_none, errW_some] <;> rfl), by repeat (first | (with_reducible first | exact HB.out | apply below_alloc | apply pw_below_drewN | apply below_drew1 | refine below_set ?_ GE164.out) | exact HB.out)⟩

end Go.Proofs.Ytbppijlcmeidaaa.P
end
section
/- The specification's search by name in files that are in order: what it prints to. Condition: the files are in order. -/
namespace Go.Proofs.Ytbppijlcmeidaaa.M
open Go.RowKit Go.Proofs.Ytbppijlcmeidaaa.P Go.Proofs.YtbppijlcmeidaaaW.PrintWords Go.Proofs.YtbppijlcmeidaaaW.PrintLast Go.Proofs.YtbppijlcmeidaaaW.PrintMore
set_option linter.unusedVariables false

theorem Ev.pure {α : Type} {g : Nat → Option α} {r : α} (h : ∀ k, g k = some r) : Ev g r := ⟨0, fun k _ => h k⟩
theorem countP_mono {α : Type} (p : α → Bool) : ∀ (l : List α), l.Pairwise (fun a b => p b = true → p a = true) → ∀ t x, l[t]? = some x → (p x = true ↔ t < l.countP p)
  | [], _, t, x, h => by simp at h
  | a :: r, hp, t, x, h => by
    have h1 := (List.pairwise_cons.1 hp).1
    have h2 := (List.pairwise_cons.1 hp).2
    by_cases ha : p a = true
    · rw [List.countP_cons_of_pos ha]
      cases t with
      | zero =>
        have : a = x := by simpa using h
        subst this
        simp [ha]
      | succ t =>
        have := countP_mono p r h2 t x (by simpa using h)
        rw [this]; omega
    · have hz : (a :: r).countP p = 0 := by
        rw [List.countP_eq_zero]
        intro y hy
        rcases List.mem_cons.1 hy with rfl | hy
        · exact ha
        · exact fun h => ha (h1 y hy h)
      rw [hz]
      constructor
      · intro hx
        exfalso
        cases t with
        | zero =>
          have : a = x := by simpa using h
          subst this
          exact ha hx
        | succ t => exact ha (h1 x (List.mem_of_getElem? (i := t) (by simpa using h)) hx)
      · intro h; omega
theorem sorted_pairwise {l : List S52} (h : Sorted l) : l.Pairwise (fun x y => lss x.f0 y.f0 = true) := by
  rw [List.pairwise_iff_getElem]
  intro i j hi hj hij
  have := h i j hij hj
  rwa [rd52 l i hi, rd52 l j hj] at this
theorem pos_iff {l : List S52} (hs : Sorted l) (s : ByteArray) (t : Nat) (ht : t < l.length) : lss (rd_T52 l (t : Int)).f0 s = true ↔ t < pos l s := by
  rw [rd52 l t ht]
  exact countP_mono (fun x => lss x.f0 s) l ((sorted_pairwise hs).imp (fun hab hb => lss_trans hab hb)) t l[t] (List.getElem?_eq_getElem ht)
theorem pos_le (l : List S52) (s : ByteArray) : pos l s ≤ l.length := List.countP_le_length
theorem cmp3_zero {a b : ByteArray} (h : cmp3 a b = 0) : a = b := by
  unfold cmp3 at h
  by_cases c1 : lss a b = true
  · rw [if_pos c1] at h; omega
  · rw [if_neg c1] at h
    by_cases c2 : lss b a = true
    · rw [if_pos c2] at h; omega
    · exact lss_total (Bool.eq_false_iff.2 c1) (Bool.eq_false_iff.2 c2)
theorem cmp3_self (a : ByteArray) : cmp3 a a = 0 := by
  unfold cmp3
  rw [lss_irrefl]
  simp
/-- A name is there just where some file has it. -/
theorem there_name {l : List S52} {s : ByteArray} (h : there l s = true) : (rd_T52 l (pos l s : Int)).f0 = s := by
  unfold there at h
  simp only [Bool.and_eq_true, decide_eq_true_eq] at h
  exact cmp3_zero h.2
theorem there_of {l : List S52} (hs : Sorted l) {s : ByteArray} {t : Nat} (ht : t < l.length) (he : (rd_T52 l (t : Int)).f0 = s) : pos l s = t ∧ there l s = true := by
  have h1 : ¬ t < pos l s := by
    rw [← pos_iff hs s t ht, he, lss_irrefl]
    simp
  have h2 : ¬ pos l s < t := by
    intro hlt
    have h3 := hs (pos l s) t hlt ht
    rw [he] at h3
    have := (pos_iff hs s (pos l s) (by omega)).1 h3
    omega
  have e : pos l s = t := by omega
  refine ⟨e, ?_⟩
  unfold there
  rw [e, he, cmp3_self, decide_eq_true ht]
  rfl

def atOf (l : List S52) (s : ByteArray) : Int := if there l s = true then (pos l s : Int) else -1
theorem specAt_loop (l : List S52) (q f : Int) (s : ByteArray) (hs : Sorted l) (hl : l.length ≤ 1048576) : ∀ d i : Nat, i + d = l.length → (there l s = true → i ≤ pos l s) →
    Ev (fun k => spec_l1At.l0 k s (i : Int) l q f) (atOf l s) := by
  intro d
  induction d with
  | zero =>
    intro i hi hp
    have hn : ¬ there l s = true := fun h => by have := there_lt h; have := hp h; omega
    refine Ev.step (f := fun _ => some (-1)) (fun k => ?_) ?_
    · rw [spec_l1At.l0, if_neg (by omega)]
    · unfold atOf; rw [if_neg hn]; exact Ev.now _
  | succ d ih =>
    intro i hi hp
    have hlt : i < l.length := by omega
    by_cases c : (rd_T52 l (i : Int)).f0 = s
    · obtain ⟨e, ht⟩ := there_of hs hlt c
      refine Ev.step (f := fun _ => some (i : Int)) (fun k => ?_) ?_
      · rw [spec_l1At.l0, if_pos (by omega), if_pos (by omega), if_pos (by rw [c])]
      · unfold atOf; rw [if_pos ht, e]; exact Ev.now _
    · refine Ev.step (fun k => ?_) (ih (i + 1) (by omega) (fun h => ?_))
      · rw [spec_l1At.l0, if_pos (by omega), if_pos (by omega), if_neg (fun h => c (toList_inj h)), wrap_succ (by omega)]
      · have h1 := hp h
        have h2 := there_name h
        rcases Nat.eq_or_lt_of_le h1 with h3 | h3
        · rw [← h3] at h2; exact absurd h2 c
        · omega
theorem specAt_eq (l : List S52) (q f : Int) (s : ByteArray) (hs : Sorted l) (hl : l.length ≤ 1048576) : Ev (fun k => spec_l1At.f k l q f s) (atOf l s) :=
  Ev.congr (fun _ => rfl) (specAt_loop l q f s hs hl l.length 0 (by omega) (fun _ => Nat.zero_le _))
end Go.Proofs.Ytbppijlcmeidaaa.M
end
section
/- What FnSynced says, in plain words: sync, append, crash and find at a valid directory. Condition: the fuel is -1 or at least 2. -/
namespace Go.Proofs.Ytbppijlcmeidaaa.M
open Go.RowKit Go.Proofs.Ytbppijlcmeidaaa.P Go.Proofs.YtbppijlcmeidaaaW.PrintWords Go.Proofs.YtbppijlcmeidaaaW.PrintLast Go.Proofs.YtbppijlcmeidaaaW.PrintMore
set_option linter.unusedVariables false
set_option linter.unusedSectionVars false
def fnames (l : List S52) : List ByteArray := l.map fun x => x.f0
theorem okFrom_of : ∀ (l : List S52) (p : Option ByteArray), (∀ x ∈ l, fileOk x = true) → (∀ b, p = some b → ∀ x ∈ l, lss b x.f0 = true) → l.Pairwise (fun x y => lss x.f0 y.f0 = true) → okFrom p l = true := by
  intro l
  induction l with
  | nil => intro p _ _ _; cases p <;> rfl
  | cons x l ih =>
    intro p h1 h2 h3
    rw [okFrom_cons, h1 x List.mem_cons_self, Bool.true_and]
    rw [List.pairwise_cons] at h3
    have h4 := ih (some x.f0) (fun y hy => h1 y (List.mem_cons_of_mem _ hy)) (fun b hb y hy => by cases hb; exact h3.1 y hy) h3.2
    rw [h4, Bool.and_true]
    cases p with
    | none => rfl
    | some b => exact h2 b rfl x List.mem_cons_self
theorem valid_same {l l' : List S52} {q f f' : Int} (h : validB l q f = true) (hn : fnames l' = fnames l) (hk : ∀ x ∈ l', fileOk x = true) (ht : total l' ≤ 1048576) (hf : -1 ≤ f') : validB l' q f' = true := by
  obtain ⟨h1, h2, h3, _, h5, _⟩ := valid_parts h
  have hlen : l'.length = l.length := by have := congrArg List.length hn; simpa [fnames] using this
  have hp := (okFrom_all h5).2.2
  have hp' : l'.Pairwise (fun x y => lss x.f0 y.f0 = true) := by
    have e : (fnames l).Pairwise (fun a b => lss a b = true) := List.pairwise_map.2 hp
    rw [← hn] at e
    exact List.pairwise_map.1 e
  unfold validB
  rw [okFrom_of l' none hk (fun b hb => by cases hb) hp', decide_eq_true ht, decide_eq_true (show l'.length ≤ 200 by omega), decide_eq_true h2, decide_eq_true h3, decide_eq_true hf]
  rfl
theorem fnames_set {l : List S52} {i : Nat} (hi : i < l.length) {y : S52} (hy : y.f0 = l[i].f0) : fnames (l.set i y) = fnames l := by
  unfold fnames
  rw [List.map_set, hy]
  have : l[i].f0 = (l.map fun x => x.f0)[i]'(by simpa using hi) := by simp
  rw [this, List.set_getElem_self]
theorem total_set : ∀ (l : List S52) (i : Nat) (hi : i < l.length) (y : S52), total (l.set i y) + l[i].f1.size = total l + y.f1.size := by
  intro l
  induction l with
  | nil => intro i hi; exact absurd hi (Nat.not_lt_zero _)
  | cons a l ih =>
    intro i hi y
    cases i with
    | zero => show y.f1.size + total l + a.f1.size = a.f1.size + total l + y.f1.size; omega
    | succ i =>
      have hi' : i < l.length := by simpa using hi
      have := ih i hi' y
      show a.f1.size + total (l.set i y) + (l[i]'hi').f1.size = a.f1.size + total l + y.f1.size
      omega
theorem total_le : ∀ (l l' : List S52) (hl : l'.length = l.length), (∀ (i : Nat) (h : i < l.length), (l'[i]'(by omega)).f1.size ≤ l[i].f1.size) → total l' ≤ total l := by
  intro l
  induction l with
  | nil => intro l' hl _; cases l' with | nil => exact Nat.le_refl _ | cons a b => simp at hl
  | cons a l ih =>
    intro l' hl h
    cases l' with
    | nil => simp at hl
    | cons b l' =>
      have h0 := h 0 (by simp)
      have h1 := ih l' (by simpa using hl) (fun i hi => by have := h (i + 1) (by simpa using hi); simpa using this)
      show b.f1.size + total l' ≤ a.f1.size + total l
      have h0' : b.f1.size ≤ a.f1.size := by simpa using h0
      omega
theorem file_parts {x : S52} (h : fileOk x = true) : nameOk x.f0 = true ∧ 0 ≤ x.f2 ∧ x.f2 ≤ (x.f1.size : Int) := by
  unfold fileOk at h
  simp only [Bool.and_eq_true, decide_eq_true_eq] at h
  exact ⟨h.1.1, h.1.2, h.2⟩
theorem file_of {x : S52} (h1 : nameOk x.f0 = true) (h2 : 0 ≤ x.f2) (h3 : x.f2 ≤ (x.f1.size : Int)) : fileOk x = true := by
  unfold fileOk
  rw [h1, decide_eq_true h2, decide_eq_true h3]
  rfl
def syn (x : S52) : S52 := ⟨x.f0, x.f1, (x.f1.size : Int)⟩
def app (x : S52) (d : ByteArray) : S52 := ⟨x.f0, x.f1 ++ d, (x.f1.size : Int)⟩
theorem mem_set {l : List S52} {i : Nat} {y : S52} (hy : fileOk y = true) (h : ∀ x ∈ l, fileOk x = true) : ∀ x ∈ l.set i y, fileOk x = true := by
  intro x hx
  rcases List.mem_or_eq_of_mem_set hx with h1 | h1
  · exact h x h1
  · rw [h1]; exact hy
section
variable {F : List S52} {q f : Int} (hv : validB F q f = true) (hf : f = -1 ∨ 2 ≤ f) {i : Nat} (hi : i < F.length)
include hv hi
theorem all_ok : ∀ x ∈ F, fileOk x = true := (okFrom_all (valid_parts hv).2.2.2.2.1).1
theorem there_at : pos F F[i].f0 = i ∧ there F F[i].f0 = true := there_of (valid_sorted hv) hi (by rw [rd52 F i hi])
theorem valid_syn (f' : Int) (h : -1 ≤ f') : validB (F.set i (syn F[i])) q f' = true := by
  have hk := all_ok hv hi
  have hx := file_parts (hk F[i] (List.getElem_mem hi))
  refine valid_same hv (fnames_set hi rfl) (mem_set (file_of hx.1 (by show (0 : Int) ≤ (F[i].f1.size : Int); omega) (Int.le_refl _)) hk) ?_ h
  have h1 := total_set F i hi (syn F[i])
  have h2 := (valid_parts hv).2.2.2.2.2
  have h3 : (syn F[i]).f1.size = F[i].f1.size := rfl
  omega
theorem valid_app (d : ByteArray) (hd : total F + d.size ≤ 1048576) (f' : Int) (h : -1 ≤ f') : validB (F.set i (app F[i] d)) q f' = true := by
  have hk := all_ok hv hi
  have hx := file_parts (hk F[i] (List.getElem_mem hi))
  refine valid_same hv (fnames_set hi rfl) (mem_set (file_of hx.1 (by show (0 : Int) ≤ (F[i].f1.size : Int); omega) (by show (F[i].f1.size : Int) ≤ ((F[i].f1 ++ d).size : Int); rw [ByteArray.size_append]; omega)) hk) ?_ h
  have h1 := total_set F i hi (app F[i] d)
  have h3 : (app F[i] d).f1.size = F[i].f1.size + d.size := ByteArray.size_append
  omega
include hf
theorem step_go (op : List S52 × Int) : stepOf f [F[i].f0] F op = op := by
  have hx := file_parts (all_ok hv hi F[i] (List.getElem_mem hi))
  unfold stepOf stepCode namesCode
  rw [if_neg (show ¬ f = 0 by omega), if_pos (by simp [hx.1])]
theorem syn_sync : fsRes F q f (syncRes F f F[i].f0) = (F.set i (syn F[i]), q, fuel' f, 0) := by
  have hp := there_at hv hi
  unfold fsRes syncRes
  rw [if_pos hv, step_go hv hf hi]
  unfold syncOp
  rw [if_pos hp.2, hp.1, rd52 F i hi]
  rfl
theorem app_code (d : ByteArray) : (fsRes F q f (appendRes F q f F[i].f0 d)).2.2.2 = (if appendN F d > 1048576 then 4 else if d ≠ ⟨#[]⟩ ∧ appendN F d > q then 3 else 0) := by
  have hp := there_at hv hi
  unfold fsRes appendRes
  rw [if_pos hv, step_go hv hf hi]
  unfold appendOp
  rw [if_pos hp.2]
  split
  · rfl
  · split
    · rfl
    · rfl
end
theorem fuel_go {f : Int} (hf : f = -1 ∨ 2 ≤ f) : fuel' f ≠ 0 ∧ -1 ≤ fuel' f ∧ (fuel' f = -1 ∨ 1 ≤ fuel' f) := by
  unfold fuel'
  split <;> omega
theorem step_go' {F : List S52} {q f : Int} (hv : validB F q f = true) {i : Nat} (hi : i < F.length) {g : Int} (hg : g ≠ 0) (L : List S52) (op : List S52 × Int) : stepOf g [F[i].f0] L op = op := by
  have hx := file_parts (all_ok hv hi F[i] (List.getElem_mem hi))
  unfold stepOf stepCode namesCode
  rw [if_neg hg, if_pos (by simp [hx.1])]
/-- The append behind the sync: its code is what it would be without, and what it leaves. -/
theorem app_after {F : List S52} {q f : Int} (hv : validB F q f = true) (hf : f = -1 ∨ 2 ≤ f) {i : Nat} (hi : i < F.length) (d : ByteArray) :
    fsRes (F.set i (syn F[i])) q (fuel' f) (appendRes (F.set i (syn F[i])) q (fuel' f) F[i].f0 d) = (if appendN F d > 1048576 then (F.set i (syn F[i]), q, fuel' (fuel' f), 4) else if d ≠ ⟨#[]⟩ ∧ appendN F d > q then (F.set i (syn F[i]), q, fuel' (fuel' f), 3) else (F.set i (app F[i] d), q, fuel' (fuel' f), 0)) := by
  have hg := fuel_go hf
  have hv1 := valid_syn hv hi (fuel' f) hg.2.1
  have hi1 : i < (F.set i (syn F[i])).length := by rw [List.length_set]; exact hi
  have e : (F.set i (syn F[i]))[i] = syn F[i] := List.getElem_set_self ..
  have hp := there_at hv1 hi1
  rw [e] at hp
  have hp1 : pos (F.set i (syn F[i])) F[i].f0 = i := hp.1
  have hp2 : there (F.set i (syn F[i])) F[i].f0 = true := hp.2
  have ht : appendN (F.set i (syn F[i])) d = appendN F d := by
    have h1 := total_set F i hi (syn F[i])
    have h3 : (syn F[i]).f1.size = F[i].f1.size := rfl
    unfold appendN
    omega
  unfold fsRes appendRes
  rw [if_pos hv1, step_go' hv hi hg.1]
  unfold appendOp
  rw [if_pos hp2, hp1, rd52 _ i hi1, e, ht]
  split
  · rfl
  · split
    · rfl
    · rw [List.set_set]
      rfl
theorem app_both {F : List S52} {q f : Int} (hv : validB F q f = true) (hf : f = -1 ∨ 2 ≤ f) {i : Nat} (hi : i < F.length) (d : ByteArray) :
    ∃ L1 c, fsRes (F.set i (syn F[i])) q (fuel' f) (appendRes (F.set i (syn F[i])) q (fuel' f) F[i].f0 d) = (L1, q, fuel' (fuel' f), c) ∧ (fsRes F q f (appendRes F q f F[i].f0 d)).2.2.2 = c ∧ (c = 0 → L1 = F.set i (app F[i] d) ∧ total F + d.size ≤ 1048576) := by
  rw [app_after hv hf hi d, app_code hv hf hi d]
  by_cases c1 : appendN F d > 1048576
  · exact ⟨_, 4, if_pos c1, if_pos c1, fun h => by cases h⟩
  · rw [if_neg c1, if_neg c1]
    by_cases c2 : d ≠ ⟨#[]⟩ ∧ appendN F d > q
    · exact ⟨_, 3, if_pos c2, if_pos c2, fun h => by cases h⟩
    · exact ⟨_, 0, if_neg c2, if_neg c2, fun _ => ⟨rfl, by unfold appendN at c1; omega⟩⟩
/-- After a crash the directory stands and every file is found. -/
theorem crash_file {l : List S52} {q f : Int} (hv : validB l q f = true) (keep : List Int) {j : Nat} (hj : j < l.length) :
    l[j].f2 ≤ (crashFile keep j l[j]).f2 ∧ (crashFile keep j l[j]).f2 ≤ (l[j].f1.size : Int) ∧ ((crashFile keep j l[j]).f1.size : Int) = (crashFile keep j l[j]).f2 := by
  have hx := file_parts (all_ok hv hj l[j] (List.getElem_mem hj))
  have hk : 0 ≤ keptAt keep j l[j] ∧ keptAt keep j l[j] ≤ (l[j].f1.size : Int) - l[j].f2 := by
    unfold keptAt
    split
    · unfold mn mx
      split <;> split <;> omega
    · omega
  have e : (crashFile keep j l[j]).f2 = l[j].f2 + keptAt keep j l[j] := rfl
  refine ⟨by omega, by omega, ?_⟩
  show ((l[j].f1.extract 0 (l[j].f2 + keptAt keep j l[j]).toNat).size : Int) = l[j].f2 + keptAt keep j l[j]
  rw [ByteArray.size_extract]
  omega
theorem valid_crash {l : List S52} {q f : Int} (hv : validB l q f = true) (keep : List Int) : validB (crash keep l) q (-1) = true := by
  have hlen := crash_length keep l
  refine valid_same hv ?_ ?_ ?_ (by omega)
  · apply List.ext_getElem
    · simp [fnames, hlen]
    · intro j h1 h2
      have hj : j < l.length := by simpa [fnames] using h2
      have e := crash_at keep l j hj
      simp only [fnames, List.getElem_map, e]
      rfl
  · intro x hx
    obtain ⟨j, h1, rfl⟩ := List.mem_iff_getElem.1 hx
    have hj : j < l.length := by omega
    have hx := file_parts (all_ok hv hj l[j] (List.getElem_mem hj))
    have hc := crash_file hv keep hj
    rw [crash_at keep l j hj]
    exact file_of hx.1 (by omega) (by omega)
  · refine Nat.le_trans (total_le l (crash keep l) hlen (fun j hj => ?_)) (valid_parts hv).2.2.2.2.2
    have hc := crash_file hv keep hj
    rw [crash_at keep l j hj]
    omega
theorem crash_find {l : List S52} {q f : Int} (hv : validB l q f = true) (keep : List Int) {j : Nat} (hj : j < l.length) : fsFind (crash keep l) q (-1) l[j].f0 = ((crashFile keep j l[j]).f1, true) := by
  have hlen := crash_length keep l
  have hv' := valid_crash hv keep
  have hj' : j < (crash keep l).length := by omega
  have e := crash_at keep l j hj
  have hn : (crash keep l)[j].f0 = l[j].f0 := by rw [e]; rfl
  have hp := there_at hv' hj'
  rw [hn] at hp
  unfold fsFind
  rw [if_pos hv']
  unfold dataAt
  rw [if_pos hp.2, hp.1, hp.2, rd52 _ j hj', e]
end Go.Proofs.Ytbppijlcmeidaaa.M
end
section
-- Written by a changed copy of the print program, one module a function. Not trusted: Lean checks it.
namespace Go.Proofs.Ytbppijlcmeidaaa.P
open Go.RowKit Go.Proofs.YtbppijlcmeidaaaW.PrintWords Go.Proofs.YtbppijlcmeidaaaW.PrintLast Go.Proofs.YtbppijlcmeidaaaW.PrintMore
attribute [local go_sem] max2_int min2_int max_two min_two max_three min_three max_four min_four   -- for this text's walks alone
set_option linter.unusedVariables false
set_option linter.unusedSimpArgs false

/-! ### laws_wBegins: function 34 -/
def laws_wBegins.f (a0 : ByteArray) (a1 : ByteArray) : Option (Bool) := if (a0.size : Int) ≥ (a1.size : Int) then (if 0 ≤ (a1.size : Int) then (if (a1.size : Int) ≤ (a0.size : Int) then (some ((a0.extract 0 ((a1.size : Int) : Int).toNat).toList == a1.toList)) else (none)) else (none)) else (some false)
set_option maxHeartbeats 8000000 in
set_option maxRecDepth 100000 in
theorem laws_wBegins.calls (a0 : ByteArray) (a1 : ByteArray) (r : Bool) (w : World) (h : laws_wBegins.f a0 a1 = some r) :
  Calls Try.prog 34 #[.string a0, .string a1] w fun e w' => e = .returned (.bool r) ∧ Drawn0 w w' := by
 have H : (if (a0.size : Int) ≥ (a1.size : Int) then (if 0 ≤ (a1.size : Int) then (if (a1.size : Int) ≤ (a0.size : Int) then (some ((a0.extract 0 ((a1.size : Int) : Int).toNat).toList == a1.toList)) else (none)) else (none)) else (some false)) = some r := h
 clear h
 by_cases c3 : (a0.size : Int) ≥ (a1.size : Int)
 ·rw [if_pos c3] at H
  have c3b0 : decide ((a1.size : Int) ≤ (a0.size : Int)) = true := decide_eq_true c3
  have c3b1 : decide (a1.size ≤ a0.size) = true := decide_eq_true (Int.ofNat_le.mp c3)
  clear c3
  by_cases c4 : 0 ≤ (a1.size : Int)
  ·rw [if_pos c4] at H
   have c4b0 := eq_true c4
   have c4b1 : decide (0 ≤ (a1.size : Int)) = true := decide_eq_true c4
   clear c4
   by_cases c5 : (a1.size : Int) ≤ (a0.size : Int)
   ·rw [if_pos c5] at H
    have c5b0 := eq_true c5
    have c5b1 : decide ((a1.size : Int) ≤ (a0.size : Int)) = true := decide_eq_true c5
    clear c5
    obtain rfl := Option.some.inj H
    go_enter Try.func34, Try.ntmps34
    go_wp2
    go_ret
    exact ⟨by first | rfl | (simp; done) | (simp [*]; done), by repeat (first | exact Drawn0.refl _ | apply Drawn0.step)⟩
   ·rw [if_neg c5] at H
    exact absurd H (by simp)
  ·rw [if_neg c4] at H
   exact absurd H (by simp)
 ·rw [if_neg c3] at H
  have c3b0 : decide ((a1.size : Int) ≤ (a0.size : Int)) = false := decide_eq_false c3
  have c3b1 : decide (a1.size ≤ a0.size) = false := decide_eq_false (fun h => c3 (Int.ofNat_le.mpr h))
  clear c3
  obtain rfl := Option.some.inj H
  go_enter Try.func34, Try.ntmps34
  go_wp2
  go_ret
  exact ⟨by first | rfl | (simp; done) | (simp [*]; done), by repeat (first | exact Drawn0.refl _ | apply Drawn0.step)⟩

end Go.Proofs.Ytbppijlcmeidaaa.P
end
section
-- Written by a changed copy of the print program, one module a function. Not trusted: Lean checks it.
namespace Go.Proofs.Ytbppijlcmeidaaa.P
open Go.RowKit Go.Proofs.YtbppijlcmeidaaaW.PrintWords Go.Proofs.YtbppijlcmeidaaaW.PrintLast Go.Proofs.YtbppijlcmeidaaaW.PrintMore
attribute [local go_sem] max2_int min2_int max_two min_two max_three min_three max_four min_four   -- for this text's walks alone
set_option linter.unusedVariables false
set_option linter.unusedSimpArgs false

/-! ### impl_FsFind: function 18 -/
def impl_FsFind.f (l0_0 : List (S52)) (a0_1 : Int) (a0_2 : Int) (a1 : ByteArray) : Option (ByteArray × Bool) := if (l0_0.length ≤ 200 → M.total l0_0 ≤ 9223372036854775000) then some (M.fsFind l0_0 a0_1 a0_2 a1) else none

theorem impl_FsFind.calls (A0_0 : Option Addr) (c0_0 : Nat) (l0_0 : List (S52)) (a0_1 : Int) (a0_2 : Int) (a1 : ByteArray) (r1 : ByteArray) (r2 : Bool) (w : World) (hr0_0 : Kd.C k52 w A0_0 l0_0.length l0_0) (hc0_0 : l0_0.length ≤ c0_0) (h : impl_FsFind.f l0_0 a0_1 a0_2 a1 = some (r1, r2)) :
  Calls Try.prog 18 #[.agg #[.slice A0_0 l0_0.length c0_0, .int .i64 a0_1, .int .i64 a0_2], .string a1] w fun e w' => e = .returned (.tuple #[.string r1, .bool r2]) ∧ Below w.heap.size w w' := by
 by_cases c : (l0_0.length ≤ 200 → M.total l0_0 ≤ 9223372036854775000)
 ·unfold impl_FsFind.f at h
  rw [if_pos c] at h
  have e := Option.some.inj h
  have h1 := M.fsFind_call A0_0 c0_0 l0_0 a0_1 a0_2 a1 w hr0_0 hc0_0 c
  rw [e] at h1
  exact h1
 ·unfold impl_FsFind.f at h
  rw [if_neg c] at h
  cases h

end Go.Proofs.Ytbppijlcmeidaaa.P
end
section
-- Written by a changed copy of the print program, one module a function. Not trusted: Lean checks it.
namespace Go.Proofs.Ytbppijlcmeidaaa.P
open Go.RowKit Go.Proofs.YtbppijlcmeidaaaW.PrintWords Go.Proofs.YtbppijlcmeidaaaW.PrintLast Go.Proofs.YtbppijlcmeidaaaW.PrintMore
attribute [local go_sem] max2_int min2_int max_two min_two max_three min_three max_four min_four   -- for this text's walks alone
set_option linter.unusedVariables false
set_option linter.unusedSimpArgs false

/-! ### impl_FsCrash: function 21 -/
def impl_FsCrash.f (l0_0 : List (S52)) (a0_1 : Int) (a0_2 : Int) (l1 : List Int) : Option ((List (S52)) × Int × Int) := if (l0_0.length ≤ 200 → M.total l0_0 ≤ 9223372036854775000) then some (M.crashRes l0_0 a0_1 a0_2 l1) else none

theorem impl_FsCrash.calls (A0_0 : Option Addr) (c0_0 : Nat) (l0_0 : List (S52)) (a0_1 : Int) (a0_2 : Int) (A1 : Option Addr) (c1 : Nat) (l1 : List Int) (r1 : List (S52)) (r2 : Int) (r3 : Int) (w : World) (hr0_0 : Kd.C k52 w A0_0 l0_0.length l0_0) (hc0_0 : l0_0.length ≤ c0_0) (hr1 : Kd.C (Kd.int .i64) w A1 l1.length l1) (hc1 : l1.length ≤ c1) (h : impl_FsCrash.f l0_0 a0_1 a0_2 l1 = some (r1, r2, r3)) :
  Calls Try.prog 21 #[.agg #[.slice A0_0 l0_0.length c0_0, .int .i64 a0_1, .int .i64 a0_2], .slice A1 l1.length c1] w fun e w' => ∃ v0_ : Value, e = .returned (.agg #[v0_, .int .i64 r2, .int .i64 r3]) ∧ Kd.R k52 52 w' w.heap.size (fun _ => True) v0_ r1 ∧ Below w.heap.size w w' := by
 by_cases c : (l0_0.length ≤ 200 → M.total l0_0 ≤ 9223372036854775000)
 ·unfold impl_FsCrash.f at h
  rw [if_pos c] at h
  have e := Option.some.inj h
  have h1 := M.crash_call A0_0 c0_0 l0_0 a0_1 a0_2 A1 c1 l1 w hr0_0 hc0_0 hr1 hc1 c
  rw [e] at h1
  exact h1
 ·unfold impl_FsCrash.f at h
  rw [if_neg c] at h
  cases h

end Go.Proofs.Ytbppijlcmeidaaa.P
end
section
/- What FnSynced says of the crashed directory, in plain words: every file is found, with at least what was synced. Condition: the directory stands. -/
namespace Go.Proofs.Ytbppijlcmeidaaa.M
open Go.RowKit Go.Proofs.Ytbppijlcmeidaaa.P Go.Proofs.YtbppijlcmeidaaaW.PrintWords Go.Proofs.YtbppijlcmeidaaaW.PrintLast Go.Proofs.YtbppijlcmeidaaaW.PrintMore
set_option linter.unusedVariables false
set_option linter.unusedSectionVars false
theorem meas_lt (L i : Nat) (hi : i < L) : L - (intOf (.int .i64 ((i : Int) + 1))).toNat < L - (intOf (.int .i64 (i : Int))).toNat := by
  simp [intOf]
  omega
theorem fuel_two {f : Int} (h : f = -1 ∨ 2 ≤ f) : -1 ≤ fuel' (fuel' f) := by
  unfold fuel'
  (repeat' split) <;> omega
/-- How many of the appended bytes a crash keeps. -/
def keptN (ks : List Int) (n : Nat) (d : ByteArray) : Nat := (mn (mx 0 (ks.getD n 0)) (d.size : Int)).toNat
theorem keptN_le (ks : List Int) (n : Nat) (d : ByteArray) : keptN ks n d ≤ d.size := by
  unfold keptN mn mx
  (repeat' split) <;> omega
theorem keep_getD {ks : List Int} {n : Nat} (h : n < ks.length) : ks.getD n 0 = ks[n] := by
  rw [List.getD_eq_getElem?_getD, List.getElem?_eq_getElem h]
  rfl
theorem keptN_mid {ks : List Int} {n : Nat} {d : ByteArray} (h : n < ks.length) (h1 : ¬ (d.size : Int) < mx 0 ks[n]) : ((keptN ks n d : Nat) : Int) = mx 0 ks[n] := by
  have e := keep_getD h
  unfold keptN mn
  rw [e]
  have h0 : 0 ≤ mx 0 ks[n] := by unfold mx; split <;> omega
  split <;> omega
theorem keptN_top {ks : List Int} {n : Nat} {d : ByteArray} (h : n < ks.length) (h1 : (d.size : Int) < mx 0 ks[n]) : ((keptN ks n d : Nat) : Int) = (d.size : Int) := by
  have e := keep_getD h
  unfold keptN mn
  rw [e]
  split <;> omega
section
variable {F : List S52} {q f : Int} (hv : validB F q f = true) {n : Nat} (hn : n < F.length) (d : ByteArray) (hd : total F + d.size ≤ 1048576) (ks : List Int) (hk : ks.length = F.length)
include hv hn hd
theorem valid_L1 : validB (F.set n (app F[n] d)) q (-1) = true := valid_app hv hn d hd (-1) (by omega)
theorem valid_L3 : validB (crash ks (F.set n (app F[n] d))) q (-1) = true := valid_crash (valid_L1 hv hn d hd) ks
theorem synced_crash (f' : Int) (h' : -1 ≤ f') : impl_FsCrash.f (F.set n (app F[n] d)) q f' ks = some (crash ks (F.set n (app F[n] d)), q, -1) := by
  have h := valid_app hv hn d hd f' h'
  have ht := (valid_parts h).2.2.2.2.2
  unfold impl_FsCrash.f crashRes
  rw [if_pos (fun _ => by omega), if_pos h]
theorem synced_find (s : ByteArray) : impl_FsFind.f (crash ks (F.set n (app F[n] d))) q (-1) s = some (fsFind (crash ks (F.set n (app F[n] d))) q (-1) s) := by
  have ht := (valid_parts (valid_L3 hv hn d hd ks)).2.2.2.2.2
  unfold impl_FsFind.f
  rw [if_pos (fun _ => by omega)]
include hk
theorem find_at : impl_FsFind.f (crash ks (F.set n (app F[n] d))) q (-1) F[n].f0 = some (F[n].f1 ++ d.extract 0 (keptN ks n d), true) := by
  have hn' : n < (F.set n (app F[n] d)).length := by rw [List.length_set]; exact hn
  have e : (F.set n (app F[n] d))[n] = app F[n] d := List.getElem_set_self ..
  have h := crash_find (valid_L1 hv hn d hd) ks hn'
  rw [e] at h
  rw [synced_find hv hn d hd ks]
  refine congrArg some (h.trans ?_)
  have hka : keptAt ks n (app F[n] d) = (keptN ks n d : Int) := by
    unfold keptAt
    rw [if_pos (by omega)]
    have e1 : ((app F[n] d).f1.size : Int) - (app F[n] d).f2 = (d.size : Int) := by
      show ((F[n].f1 ++ d).size : Int) - (F[n].f1.size : Int) = _
      rw [ByteArray.size_append]
      omega
    rw [e1]
    unfold keptN mn mx
    (repeat' split) <;> omega
  have e2 : (crashFile ks n (app F[n] d)).f1 = F[n].f1 ++ d.extract 0 (keptN ks n d) := by
    show (F[n].f1 ++ d).extract 0 ((F[n].f1.size : Int) + keptAt ks n (app F[n] d)).toNat = _
    rw [hka, show ((F[n].f1.size : Int) + (keptN ks n d : Int)).toNat = F[n].f1.size + keptN ks n d by omega]
    rw [ByteArray.extract_append]
    congr 1
    · apply ByteArray.ext
      rw [ByteArray.data_extract]
      exact Array.extract_eq_self_of_le (by show F[n].f1.size ≤ _; omega)
    · congr 1 <;> omega
  rw [e2]
omit hk
theorem find_all {i : Nat} (hi : i < F.length) : ∃ D : ByteArray, impl_FsFind.f (crash ks (F.set n (app F[n] d))) q (-1) F[i].f0 = some (D, true) ∧ 0 ≤ F[i].f2 ∧ F[i].f2 ≤ (F[i].f1.size : Int) ∧ F[i].f2 ≤ (D.size : Int) ∧ laws_wBegins.f D (F[i].f1.extract 0 F[i].f2.toNat) = some true := by
  have hi' : i < (F.set n (app F[n] d)).length := by rw [List.length_set]; exact hi
  have hx := file_parts (all_ok hv hi F[i] (List.getElem_mem hi))
  have hL : (F.set n (app F[n] d))[i].f0 = F[i].f0 ∧ F[i].f2 ≤ (F.set n (app F[n] d))[i].f2 ∧ (F.set n (app F[n] d))[i].f1.extract 0 F[i].f2.toNat = F[i].f1.extract 0 F[i].f2.toNat := by
    by_cases c : n = i
    · subst c
      rw [List.getElem_set_self]
      refine ⟨rfl, hx.2.2, ?_⟩
      show (F[n].f1 ++ d).extract 0 F[n].f2.toNat = _
      rw [ByteArray.extract_append, show F[n].f2.toNat - F[n].f1.size = 0 by omega, Nat.zero_sub]
      simp
    · rw [List.getElem_set_ne c]
      exact ⟨rfl, Int.le_refl _, rfl⟩
  have h := crash_find (valid_L1 hv hn d hd) ks hi'
  have hc := crash_file (valid_L1 hv hn d hd) ks hi'
  rw [hL.1] at h
  refine ⟨_, (synced_find hv hn d hd ks _).trans (congrArg some h), hx.2.1, hx.2.2, by omega, ?_⟩
  generalize hD : (crashFile ks i (F.set n (app F[n] d))[i]).f1 = D at *
  have hs : (F[i].f1.extract 0 F[i].f2.toNat).size = F[i].f2.toNat := by rw [ByteArray.size_extract]; omega
  have hle : (F[i].f2.toNat : Int) ≤ (D.size : Int) := by omega
  have e : D.extract 0 F[i].f2.toNat = F[i].f1.extract 0 F[i].f2.toNat := by
    rw [← hD, ← hL.2.2]
    show ((F.set n (app F[n] d))[i].f1.extract 0 _).extract 0 _ = _
    rw [ByteArray.extract_extract]
    congr 1
    have : F[i].f2 ≤ (F.set n (app F[n] d))[i].f2 + keptAt ks i (F.set n (app F[n] d))[i] := by
      have h2 := hc.1
      have : (crashFile ks i (F.set n (app F[n] d))[i]).f2 = (F.set n (app F[n] d))[i].f2 + keptAt ks i (F.set n (app F[n] d))[i] := rfl
      omega
    omega
  unfold laws_wBegins.f
  rw [hs, if_pos hle, if_pos (by omega), if_pos hle, Int.toNat_natCast, e]
  simp
end
end Go.Proofs.Ytbppijlcmeidaaa.M
end
section
-- Written by a changed copy of the print program, one module a function. Not trusted: Lean checks it.
namespace Go.Proofs.Ytbppijlcmeidaaa.P
open Go.RowKit Go.Proofs.YtbppijlcmeidaaaW.PrintWords Go.Proofs.YtbppijlcmeidaaaW.PrintLast Go.Proofs.YtbppijlcmeidaaaW.PrintMore
attribute [local go_sem] max2_int min2_int max_two min_two max_three min_three max_four min_four   -- for this text's walks alone
set_option linter.unusedVariables false
set_option linter.unusedSimpArgs false

/-! ### spec_l1Take: function 65 -/
def spec_l1Take.j0 : Nat → List Int → Int → Int → Bool → Option (Int × Int)
 | 0, _, _, _, _ => none
 | k + 1, x0, x1, x2, x17 => if x17 = true then (some (0, wrap64 (x1 + 1))) else (if x1 < (x0.length : Int) then (if x2 ≤ 256 then (if 0 ≤ x1 then (if x2 = 0 then (none) else (some (Int.tmod (wrap64 (rd x0 x1)) x2, wrap64 (x1 + 1)))) else (none)) else (if (x0.length : Int) = 0 then (none) else (if 0 ≤ (Int.tmod x1 (x0.length : Int)) then (if (Int.tmod x1 (x0.length : Int)) < (x0.length : Int) then (if 0 ≤ (Int.tmod (wrap64 ((wrap64 (x1 * 7)) + 3)) (x0.length : Int)) then (if (Int.tmod (wrap64 ((wrap64 (x1 * 7)) + 3)) (x0.length : Int)) < (x0.length : Int) then (if x2 = 0 then (none) else (some (Int.tmod (Go.bits .xor .i64 (wrap64 ((wrap64 ((wrap64 ((wrap64 ((wrap64 (rd x0 (Int.tmod x1 (x0.length : Int)))) * 131)) + (wrap64 ((wrap64 (rd x0 (Int.tmod (wrap64 ((wrap64 (x1 * 7)) + 3)) (x0.length : Int)))) * 1117)))) + (wrap64 (x1 * 29)))) + (wrap64 ((wrap64 (Int.tdiv x1 (x0.length : Int))) * 53)))) (wrap64 (Int.tdiv (wrap64 ((wrap64 ((wrap64 ((wrap64 ((wrap64 (rd x0 (Int.tmod x1 (x0.length : Int)))) * 131)) + (wrap64 ((wrap64 (rd x0 (Int.tmod (wrap64 ((wrap64 (x1 * 7)) + 3)) (x0.length : Int)))) * 1117)))) + (wrap64 (x1 * 29)))) + (wrap64 ((wrap64 (Int.tdiv x1 (x0.length : Int))) * 53)))) 64))) x2, wrap64 (x1 + 1)))) else (none)) else (none)) else (none)) else (none)))) else (if (x0.length : Int) = 0 then (none) else (if 0 ≤ (Int.tmod x1 (x0.length : Int)) then (if (Int.tmod x1 (x0.length : Int)) < (x0.length : Int) then (if 0 ≤ (Int.tmod (wrap64 ((wrap64 (x1 * 7)) + 3)) (x0.length : Int)) then (if (Int.tmod (wrap64 ((wrap64 (x1 * 7)) + 3)) (x0.length : Int)) < (x0.length : Int) then (if x2 = 0 then (none) else (some (Int.tmod (Go.bits .xor .i64 (wrap64 ((wrap64 ((wrap64 ((wrap64 ((wrap64 (rd x0 (Int.tmod x1 (x0.length : Int)))) * 131)) + (wrap64 ((wrap64 (rd x0 (Int.tmod (wrap64 ((wrap64 (x1 * 7)) + 3)) (x0.length : Int)))) * 1117)))) + (wrap64 (x1 * 29)))) + (wrap64 ((wrap64 (Int.tdiv x1 (x0.length : Int))) * 53)))) (wrap64 (Int.tdiv (wrap64 ((wrap64 ((wrap64 ((wrap64 ((wrap64 (rd x0 (Int.tmod x1 (x0.length : Int)))) * 131)) + (wrap64 ((wrap64 (rd x0 (Int.tmod (wrap64 ((wrap64 (x1 * 7)) + 3)) (x0.length : Int)))) * 1117)))) + (wrap64 (x1 * 29)))) + (wrap64 ((wrap64 (Int.tdiv x1 (x0.length : Int))) * 53)))) 64))) x2, wrap64 (x1 + 1)))) else (none)) else (none)) else (none)) else (none))))
def spec_l1Take.f (k : Nat) (l0 : List Int) (a1 : Int) (a2 : Int) : Option (Int × Int) := if a2 < 1 then (spec_l1Take.j0 k l0 a1 a2 true) else (spec_l1Take.j0 k l0 a1 a2 ((l0.length : Int) == 0))
theorem spec_l1Take.mono_l : ∀ k, (∀ y0 y1 y2 y3, LeO (spec_l1Take.j0 k y0 y1 y2 y3) (spec_l1Take.j0 (k + 1) y0 y1 y2 y3))
 | 0 => fun _ _ _ _ r h => by simp [spec_l1Take.j0] at h
 | k + 1 => by
  have ih0 := spec_l1Take.mono_l k
  ·intro y0 y1 y2 y3
   unfold spec_l1Take.j0
   repeat' first
   | (with_reducible exact ih0 _ _ _ _)
   | (with_reducible exact LeO.refl _)
   | (with_reducible exact LeO.none _)
   | (with_reducible refine LeO.ite ?_ ?_)
   | (with_reducible refine LeO.bind ?_ (fun _ => ?_))
   | exact ih0 _ _ _ _
   | exact LeO.none _
   | refine LeO.ite ?_ ?_
   | refine LeO.bind ?_ (fun _ => ?_)
theorem spec_l1Take.mono : ∀ a0 a1 a2 k, LeO (spec_l1Take.f k a0 a1 a2) (spec_l1Take.f (k + 1) a0 a1 a2) := by
 intro a0 a1 a2 k
 have ih0 := spec_l1Take.mono_l k
 unfold spec_l1Take.f
 repeat' first
   | (with_reducible exact ih0 _ _ _ _)
   | (with_reducible exact LeO.refl _)
   | (with_reducible exact LeO.none _)
   | (with_reducible refine LeO.ite ?_ ?_)
   | (with_reducible refine LeO.bind ?_ (fun _ => ?_))
   | exact ih0 _ _ _ _
   | exact LeO.none _
   | refine LeO.ite ?_ ?_
   | refine LeO.bind ?_ (fun _ => ?_)
set_option maxHeartbeats 8000000 in
set_option maxRecDepth 100000 in
theorem spec_l1Take.calls (k : Nat) (A0 : Option Addr) (c0 : Nat) (l0 : List Int) (a1 : Int) (a2 : Int) (r1 : Int) (r2 : Int) (w : World) (hr0 : Kd.C (Kd.int .u8) w A0 l0.length l0) (hc0 : l0.length ≤ c0) (h : spec_l1Take.f k l0 a1 a2 = some (r1, r2)) :
  Calls Try.prog 65 #[.slice A0 l0.length c0, .int .i64 a1, .int .i64 a2] w fun e w' => e = .returned (.tuple #[.int .i64 r1, .int .i64 r2]) ∧ Drawn0 w w' := by
 have HR0 := Aside0.mk hr0
 have HC0 := Aside0.mk hc0
 clear hr0 hc0
 have H : (if a2 < 1 then (spec_l1Take.j0 k l0 a1 a2 true) else (spec_l1Take.j0 k l0 a1 a2 ((l0.length : Int) == 0))) = some (r1, r2) := h
 clear h
 have HC4 := Aside0.mk H
 clear H
 go_enter Try.func65, Try.ntmps65
 go_upto_region 1 with (fail)
 go_cut [17] (fun v17 wc => ∃ (kq : Nat) (x17_3 : Bool), v17 = .bool x17_3 ∧ Aside0 (spec_l1Take.j0 kq l0 a1 a2 x17_3 = some (r1, r2)) ∧ Aside0 (kq ≤ k) ∧ Drawn0 w wc)
 case first =>
  have H := HC4.out
  clear HC4
  by_cases c5 : a2 < 1
  ·rw [if_pos c5] at H
   have c5b0 : decide (a2 < 1) = true := decide_eq_true c5
   clear c5
   (first | rw [c5b0] | (simp only [i64_w, i32_w]; rw [c5b0]) | skip)
   have H' := Aside0.mk H
   clear H
   go_wp2
   go_meet
   case rel => exact ⟨_, (true), (by first | rfl | (simp; done) | (simp [*]; done)), H', ⟨by first | omega | exact Nat.le_refl _⟩, by repeat (first | exact Drawn0.refl _ | apply Drawn0.step)⟩
  ·rw [if_neg c5] at H
   have c5b0 : decide (a2 < 1) = false := decide_eq_false c5
   clear c5
   (first | rw [c5b0] | (simp only [i64_w, i32_w]; rw [c5b0]) | skip)
   have H' := Aside0.mk H
   clear H
   go_wp2
   go_meet
   case rel => exact ⟨_, (((l0.length : Int) == 0)), (by first | rfl | (simp; done) | (simp [*]; done)), H', ⟨by first | omega | exact Nat.le_refl _⟩, by repeat (first | exact Drawn0.refl _ | apply Drawn0.step)⟩
 case rest =>
  clear HC4
  try clear p2
  try clear c5
  try clear c5b0
  obtain ⟨kq, x17_3, rfl, HA, HJ3, ⟨mc3, rfl⟩⟩ := hcut
  cases kq with
  | zero => exact absurd HA.out (by simp [spec_l1Take.j0])
  | succ kj3 =>
   have H := HA.out
   clear HA
   simp only [spec_l1Take.j0] at H
   by_cases c6 : x17_3 = true
   ·subst c6
    have H1 : (some (0, wrap64 (a1 + 1))) = some (r1, r2) := by rw [if_pos rfl] at H; exact H
    clear H
    have H := H1
    clear H1
    simp only [Option.some.injEq, Prod.mk.injEq] at H
    obtain ⟨rfl, rfl⟩ := H
    go_wp2
    go_ret2
    exact ⟨by first | rfl | (simp; done) | (simp [*]; done), by repeat (first | exact Drawn0.refl _ | apply Drawn0.step)⟩
   ·replace c6 := Bool.eq_false_iff.mpr c6
    subst c6
    have H1 : (if a1 < (l0.length : Int) then (if a2 ≤ 256 then (if 0 ≤ a1 then (if a2 = 0 then (none) else (some (Int.tmod (wrap64 (rd l0 a1)) a2, wrap64 (a1 + 1)))) else (none)) else (if (l0.length : Int) = 0 then (none) else (if 0 ≤ (Int.tmod a1 (l0.length : Int)) then (if (Int.tmod a1 (l0.length : Int)) < (l0.length : Int) then (if 0 ≤ (Int.tmod (wrap64 ((wrap64 (a1 * 7)) + 3)) (l0.length : Int)) then (if (Int.tmod (wrap64 ((wrap64 (a1 * 7)) + 3)) (l0.length : Int)) < (l0.length : Int) then (if a2 = 0 then (none) else (some (Int.tmod (Go.bits .xor .i64 (wrap64 ((wrap64 ((wrap64 ((wrap64 ((wrap64 (rd l0 (Int.tmod a1 (l0.length : Int)))) * 131)) + (wrap64 ((wrap64 (rd l0 (Int.tmod (wrap64 ((wrap64 (a1 * 7)) + 3)) (l0.length : Int)))) * 1117)))) + (wrap64 (a1 * 29)))) + (wrap64 ((wrap64 (Int.tdiv a1 (l0.length : Int))) * 53)))) (wrap64 (Int.tdiv (wrap64 ((wrap64 ((wrap64 ((wrap64 ((wrap64 (rd l0 (Int.tmod a1 (l0.length : Int)))) * 131)) + (wrap64 ((wrap64 (rd l0 (Int.tmod (wrap64 ((wrap64 (a1 * 7)) + 3)) (l0.length : Int)))) * 1117)))) + (wrap64 (a1 * 29)))) + (wrap64 ((wrap64 (Int.tdiv a1 (l0.length : Int))) * 53)))) 64))) a2, wrap64 (a1 + 1)))) else (none)) else (none)) else (none)) else (none)))) else (if (l0.length : Int) = 0 then (none) else (if 0 ≤ (Int.tmod a1 (l0.length : Int)) then (if (Int.tmod a1 (l0.length : Int)) < (l0.length : Int) then (if 0 ≤ (Int.tmod (wrap64 ((wrap64 (a1 * 7)) + 3)) (l0.length : Int)) then (if (Int.tmod (wrap64 ((wrap64 (a1 * 7)) + 3)) (l0.length : Int)) < (l0.length : Int) then (if a2 = 0 then (none) else (some (Int.tmod (Go.bits .xor .i64 (wrap64 ((wrap64 ((wrap64 ((wrap64 ((wrap64 (rd l0 (Int.tmod a1 (l0.length : Int)))) * 131)) + (wrap64 ((wrap64 (rd l0 (Int.tmod (wrap64 ((wrap64 (a1 * 7)) + 3)) (l0.length : Int)))) * 1117)))) + (wrap64 (a1 * 29)))) + (wrap64 ((wrap64 (Int.tdiv a1 (l0.length : Int))) * 53)))) (wrap64 (Int.tdiv (wrap64 ((wrap64 ((wrap64 ((wrap64 ((wrap64 (rd l0 (Int.tmod a1 (l0.length : Int)))) * 131)) + (wrap64 ((wrap64 (rd l0 (Int.tmod (wrap64 ((wrap64 (a1 * 7)) + 3)) (l0.length : Int)))) * 1117)))) + (wrap64 (a1 * 29)))) + (wrap64 ((wrap64 (Int.tdiv a1 (l0.length : Int))) * 53)))) 64))) a2, wrap64 (a1 + 1)))) else (none)) else (none)) else (none)) else (none)))) = some (r1, r2) := by rw [if_neg (show ¬ (false = true) by decide)] at H; exact H
    clear H
    have H := H1
    clear H1
    by_cases c7 : a1 < (l0.length : Int)
    ·rw [if_pos c7] at H
     have c7b0 : decide (a1 < (l0.length : Int)) = true := decide_eq_true c7
     clear c7
     by_cases c8 : a2 ≤ 256
     ·rw [if_pos c8] at H
      have c8b0 : decide (a2 ≤ 256) = true := decide_eq_true c8
      clear c8
      by_cases c9 : 0 ≤ a1
      ·rw [if_pos c9] at H
       have c9b0 : decide (0 ≤ a1) = true := decide_eq_true c9
       clear c9
       by_cases c10 : a2 = 0
       ·rw [if_pos c10] at H
        exact absurd H (by simp)
       ·rw [if_neg c10] at H
        have c10b0 : (a2 == 0) = false := beq_eq_false_iff_ne.mpr c10
        have c10b1 : (a2 != 0) = true := bne_iff_ne.mpr c10
        simp only [Option.some.injEq, Prod.mk.injEq] at H
        obtain ⟨rfl, rfl⟩ := H
        have p575 : 0 ≤ (a1 : Int) := of_decide_eq_true (by first | (with_reducible assumption) | assumption)
        have q575 : a1 < (l0.length : Int) := of_decide_eq_true (by first | (with_reducible assumption) | assumption)
        obtain ⟨ad575, e575, hx575_0⟩ := Kd.at_int HR0.out a1 p575 q575
        cases e575
        replace p575 := eq_true p575
        replace q575 := eq_true q575
        go_wp2
        go_ret2
        exact ⟨by first | rfl | (simp; done) | (simp [*]; done), by repeat (first | exact Drawn0.refl _ | apply Drawn0.step)⟩
      ·rw [if_neg c9] at H
       exact absurd H (by simp)
     ·rw [if_neg c8] at H
      have c8b0 : decide (a2 ≤ 256) = false := decide_eq_false c8
      clear c8
      by_cases c11 : (l0.length : Int) = 0
      ·rw [if_pos c11] at H
       exact absurd H (by simp)
      ·rw [if_neg c11] at H
       have c11b0 : ((l0.length : Int) == 0) = false := beq_eq_false_iff_ne.mpr c11
       have c11b1 : ((l0.length : Int) != 0) = true := bne_iff_ne.mpr c11
       have c11b2 : ¬ (l0 = []) := fun h_ => c11 (by rw [h_]; rfl)
       obtain ⟨ji12, hji12⟩ : ∃ j_ : Int, (Int.tmod a1 (l0.length : Int)) = j_ := ⟨_, rfl⟩
       replace H : (if 0 ≤ (ji12) then (if (ji12) < (l0.length : Int) then (if 0 ≤ (Int.tmod (wrap64 ((wrap64 (a1 * 7)) + 3)) (l0.length : Int)) then (if (Int.tmod (wrap64 ((wrap64 (a1 * 7)) + 3)) (l0.length : Int)) < (l0.length : Int) then (if a2 = 0 then (none) else (some (Int.tmod (Go.bits .xor .i64 (wrap64 ((wrap64 ((wrap64 ((wrap64 ((wrap64 (rd l0 (ji12))) * 131)) + (wrap64 ((wrap64 (rd l0 (Int.tmod (wrap64 ((wrap64 (a1 * 7)) + 3)) (l0.length : Int)))) * 1117)))) + (wrap64 (a1 * 29)))) + (wrap64 ((wrap64 (Int.tdiv a1 (l0.length : Int))) * 53)))) (wrap64 (Int.tdiv (wrap64 ((wrap64 ((wrap64 ((wrap64 ((wrap64 (rd l0 (ji12))) * 131)) + (wrap64 ((wrap64 (rd l0 (Int.tmod (wrap64 ((wrap64 (a1 * 7)) + 3)) (l0.length : Int)))) * 1117)))) + (wrap64 (a1 * 29)))) + (wrap64 ((wrap64 (Int.tdiv a1 (l0.length : Int))) * 53)))) 64))) a2, wrap64 (a1 + 1)))) else (none)) else (none)) else (none)) else (none)) = some (r1, r2) := by first | (rw [hji12] at H; exact H) | (simp only [hji12] at H ⊢; exact H)
       by_cases c13 : 0 ≤ (ji12)
       ·rw [if_pos c13] at H
        have c13b0 : decide (0 ≤ (ji12)) = true := decide_eq_true c13
        clear c13
        by_cases c14 : (ji12) < (l0.length : Int)
        ·rw [if_pos c14] at H
         have c14b0 : decide ((ji12) < (l0.length : Int)) = true := decide_eq_true c14
         clear c14
         obtain ⟨ji15, hji15⟩ : ∃ j_ : Int, (Int.tmod (wrap64 ((wrap64 (a1 * 7)) + 3)) (l0.length : Int)) = j_ := ⟨_, rfl⟩
         replace H : (if 0 ≤ (ji15) then (if (ji15) < (l0.length : Int) then (if a2 = 0 then (none) else (some (Int.tmod (Go.bits .xor .i64 (wrap64 ((wrap64 ((wrap64 ((wrap64 ((wrap64 (rd l0 (ji12))) * 131)) + (wrap64 ((wrap64 (rd l0 (ji15))) * 1117)))) + (wrap64 (a1 * 29)))) + (wrap64 ((wrap64 (Int.tdiv a1 (l0.length : Int))) * 53)))) (wrap64 (Int.tdiv (wrap64 ((wrap64 ((wrap64 ((wrap64 ((wrap64 (rd l0 (ji12))) * 131)) + (wrap64 ((wrap64 (rd l0 (ji15))) * 1117)))) + (wrap64 (a1 * 29)))) + (wrap64 ((wrap64 (Int.tdiv a1 (l0.length : Int))) * 53)))) 64))) a2, wrap64 (a1 + 1)))) else (none)) else (none)) = some (r1, r2) := by first | (rw [hji15] at H; exact H) | (simp only [hji15] at H ⊢; exact H)
         by_cases c16 : 0 ≤ (ji15)
         ·rw [if_pos c16] at H
          have c16b0 : decide (0 ≤ (ji15)) = true := decide_eq_true c16
          clear c16
          by_cases c17 : (ji15) < (l0.length : Int)
          ·rw [if_pos c17] at H
           have c17b0 : decide ((ji15) < (l0.length : Int)) = true := decide_eq_true c17
           clear c17
           by_cases c18 : a2 = 0
           ·rw [if_pos c18] at H
            exact absurd H (by simp)
           ·rw [if_neg c18] at H
            have c18b0 : (a2 == 0) = false := beq_eq_false_iff_ne.mpr c18
            have c18b1 : (a2 != 0) = true := bne_iff_ne.mpr c18
            simp only [Option.some.injEq, Prod.mk.injEq] at H
            obtain ⟨rfl, rfl⟩ := H
            have p576 : 0 ≤ ((ji12) : Int) := of_decide_eq_true (by first | (with_reducible assumption) | assumption)
            have q576 : (ji12) < (l0.length : Int) := of_decide_eq_true (by first | (with_reducible assumption) | assumption)
            obtain ⟨ad576, e576, hx576_0⟩ := Kd.at_int HR0.out (ji12) p576 q576
            cases e576
            replace p576 := eq_true p576
            replace q576 := eq_true q576
            have p577 : 0 ≤ ((ji15) : Int) := of_decide_eq_true (by first | (with_reducible assumption) | assumption)
            have q577 : (ji15) < (l0.length : Int) := of_decide_eq_true (by first | (with_reducible assumption) | assumption)
            obtain ⟨ad577, e577, hx577_0⟩ := Kd.at_int HR0.out (ji15) p577 q577
            obtain rfl : ad576 = ad577 := (by injection e577)
            replace p577 := eq_true p577
            replace q577 := eq_true q577
            go_wp2
            go_ret2
            exact ⟨by first | rfl | (simp; done) | (simp only [← hji12, ← hji15] <;> (first | rfl | simp)) | (simp [*]; done), by repeat (first | exact Drawn0.refl _ | apply Drawn0.step)⟩
          ·rw [if_neg c17] at H
           exact absurd H (by simp)
         ·rw [if_neg c16] at H
          exact absurd H (by simp)
        ·rw [if_neg c14] at H
         exact absurd H (by simp)
       ·rw [if_neg c13] at H
        exact absurd H (by simp)
    ·rw [if_neg c7] at H
     have c7b0 : decide (a1 < (l0.length : Int)) = false := decide_eq_false c7
     clear c7
     by_cases c19 : (l0.length : Int) = 0
     ·rw [if_pos c19] at H
      exact absurd H (by simp)
     ·rw [if_neg c19] at H
      have c19b0 : ((l0.length : Int) == 0) = false := beq_eq_false_iff_ne.mpr c19
      have c19b1 : ((l0.length : Int) != 0) = true := bne_iff_ne.mpr c19
      have c19b2 : ¬ (l0 = []) := fun h_ => c19 (by rw [h_]; rfl)
      obtain ⟨ji20, hji20⟩ : ∃ j_ : Int, (Int.tmod a1 (l0.length : Int)) = j_ := ⟨_, rfl⟩
      replace H : (if 0 ≤ (ji20) then (if (ji20) < (l0.length : Int) then (if 0 ≤ (Int.tmod (wrap64 ((wrap64 (a1 * 7)) + 3)) (l0.length : Int)) then (if (Int.tmod (wrap64 ((wrap64 (a1 * 7)) + 3)) (l0.length : Int)) < (l0.length : Int) then (if a2 = 0 then (none) else (some (Int.tmod (Go.bits .xor .i64 (wrap64 ((wrap64 ((wrap64 ((wrap64 ((wrap64 (rd l0 (ji20))) * 131)) + (wrap64 ((wrap64 (rd l0 (Int.tmod (wrap64 ((wrap64 (a1 * 7)) + 3)) (l0.length : Int)))) * 1117)))) + (wrap64 (a1 * 29)))) + (wrap64 ((wrap64 (Int.tdiv a1 (l0.length : Int))) * 53)))) (wrap64 (Int.tdiv (wrap64 ((wrap64 ((wrap64 ((wrap64 ((wrap64 (rd l0 (ji20))) * 131)) + (wrap64 ((wrap64 (rd l0 (Int.tmod (wrap64 ((wrap64 (a1 * 7)) + 3)) (l0.length : Int)))) * 1117)))) + (wrap64 (a1 * 29)))) + (wrap64 ((wrap64 (Int.tdiv a1 (l0.length : Int))) * 53)))) 64))) a2, wrap64 (a1 + 1)))) else (none)) else (none)) else (none)) else (none)) = some (r1, r2) := by first | (rw [hji20] at H; exact H) | (simp only [hji20] at H ⊢; exact H)
      by_cases c21 : 0 ≤ (ji20)
      ·rw [if_pos c21] at H
       have c21b0 : decide (0 ≤ (ji20)) = true := decide_eq_true c21
       clear c21
       by_cases c22 : (ji20) < (l0.length : Int)
       ·rw [if_pos c22] at H
        have c22b0 : decide ((ji20) < (l0.length : Int)) = true := decide_eq_true c22
        clear c22
        obtain ⟨ji23, hji23⟩ : ∃ j_ : Int, (Int.tmod (wrap64 ((wrap64 (a1 * 7)) + 3)) (l0.length : Int)) = j_ := ⟨_, rfl⟩
        replace H : (if 0 ≤ (ji23) then (if (ji23) < (l0.length : Int) then (if a2 = 0 then (none) else (some (Int.tmod (Go.bits .xor .i64 (wrap64 ((wrap64 ((wrap64 ((wrap64 ((wrap64 (rd l0 (ji20))) * 131)) + (wrap64 ((wrap64 (rd l0 (ji23))) * 1117)))) + (wrap64 (a1 * 29)))) + (wrap64 ((wrap64 (Int.tdiv a1 (l0.length : Int))) * 53)))) (wrap64 (Int.tdiv (wrap64 ((wrap64 ((wrap64 ((wrap64 ((wrap64 (rd l0 (ji20))) * 131)) + (wrap64 ((wrap64 (rd l0 (ji23))) * 1117)))) + (wrap64 (a1 * 29)))) + (wrap64 ((wrap64 (Int.tdiv a1 (l0.length : Int))) * 53)))) 64))) a2, wrap64 (a1 + 1)))) else (none)) else (none)) = some (r1, r2) := by first | (rw [hji23] at H; exact H) | (simp only [hji23] at H ⊢; exact H)
        by_cases c24 : 0 ≤ (ji23)
        ·rw [if_pos c24] at H
         have c24b0 : decide (0 ≤ (ji23)) = true := decide_eq_true c24
         clear c24
         by_cases c25 : (ji23) < (l0.length : Int)
         ·rw [if_pos c25] at H
          have c25b0 : decide ((ji23) < (l0.length : Int)) = true := decide_eq_true c25
          clear c25
          by_cases c26 : a2 = 0
          ·rw [if_pos c26] at H
           exact absurd H (by simp)
          ·rw [if_neg c26] at H
           have c26b0 : (a2 == 0) = false := beq_eq_false_iff_ne.mpr c26
           have c26b1 : (a2 != 0) = true := bne_iff_ne.mpr c26
           simp only [Option.some.injEq, Prod.mk.injEq] at H
           obtain ⟨rfl, rfl⟩ := H
           have p578 : 0 ≤ ((ji20) : Int) := of_decide_eq_true (by first | (with_reducible assumption) | assumption)
           have q578 : (ji20) < (l0.length : Int) := of_decide_eq_true (by first | (with_reducible assumption) | assumption)
           obtain ⟨ad578, e578, hx578_0⟩ := Kd.at_int HR0.out (ji20) p578 q578
           cases e578
           replace p578 := eq_true p578
           replace q578 := eq_true q578
           have p579 : 0 ≤ ((ji23) : Int) := of_decide_eq_true (by first | (with_reducible assumption) | assumption)
           have q579 : (ji23) < (l0.length : Int) := of_decide_eq_true (by first | (with_reducible assumption) | assumption)
           obtain ⟨ad579, e579, hx579_0⟩ := Kd.at_int HR0.out (ji23) p579 q579
           obtain rfl : ad578 = ad579 := (by injection e579)
           replace p579 := eq_true p579
           replace q579 := eq_true q579
           go_wp2
           go_ret2
           exact ⟨by first | rfl | (simp; done) | (simp only [← hji20, ← hji23] <;> (first | rfl | simp)) | (simp [*]; done), by repeat (first | exact Drawn0.refl _ | apply Drawn0.step)⟩
         ·rw [if_neg c25] at H
          exact absurd H (by simp)
        ·rw [if_neg c24] at H
         exact absurd H (by simp)
       ·rw [if_neg c22] at H
        exact absurd H (by simp)
      ·rw [if_neg c21] at H
       exact absurd H (by simp)

end Go.Proofs.Ytbppijlcmeidaaa.P
end
section
-- Written by a changed copy of the print program, one module a function. Not trusted: Lean checks it.
namespace Go.Proofs.Ytbppijlcmeidaaa.P
open Go.RowKit Go.Proofs.YtbppijlcmeidaaaW.PrintWords Go.Proofs.YtbppijlcmeidaaaW.PrintLast Go.Proofs.YtbppijlcmeidaaaW.PrintMore
attribute [local go_sem] max2_int min2_int max_two min_two max_three min_three max_four min_four   -- for this text's walks alone
set_option linter.unusedVariables false
set_option linter.unusedSimpArgs false

/-! ### spec_l1DrawName: function 82 -/
def spec_l1DrawName.f (k : Nat) (l0 : List Int) (a1 : Int) : Option (ByteArray × Int) := (spec_l1Take.f k l0 a1 12).bind fun bt580 => (if bt580.1 < 8 then (if 0 ≤ bt580.1 then (if bt580.1 ≤ (wrap64 (bt580.1 + 1)) then (if (wrap64 (bt580.1 + 1)) ≤ 8 then (some ((⟨#[97, 98, 99, 100, 101, 102, 103, 104]⟩ : ByteArray).extract (bt580.1 : Int).toNat ((wrap64 (bt580.1 + 1)) : Int).toNat, bt580.2)) else (none)) else (none)) else (none)) else (if bt580.1 = 8 then (some ((⟨#[49, 46, 108, 111, 103]⟩ : ByteArray), bt580.2)) else (if bt580.1 = 9 then (some ((⟨#[67, 85, 82, 82, 69, 78, 84]⟩ : ByteArray), bt580.2)) else (if bt580.1 = 10 then (some ((⟨#[98, 46, 98]⟩ : ByteArray), bt580.2)) else (some ((⟨#[108, 111, 115, 116, 47, 97]⟩ : ByteArray), bt580.2))))))
theorem spec_l1DrawName.mono : ∀ a0 a1 k, LeO (spec_l1DrawName.f k a0 a1) (spec_l1DrawName.f (k + 1) a0 a1) := by
 intro a0 a1 k
 unfold spec_l1DrawName.f
 repeat' first
   | (with_reducible exact spec_l1Take.mono _ _ _ _)
   | (with_reducible exact LeO.refl _)
   | (with_reducible exact LeO.none _)
   | (with_reducible refine LeO.ite ?_ ?_)
   | (with_reducible refine LeO.bind ?_ (fun _ => ?_))
   | exact spec_l1Take.mono _ _ _ _
   | exact LeO.none _
   | refine LeO.ite ?_ ?_
   | refine LeO.bind ?_ (fun _ => ?_)
set_option maxHeartbeats 8000000 in
set_option maxRecDepth 100000 in
theorem spec_l1DrawName.calls (k : Nat) (A0 : Option Addr) (c0 : Nat) (l0 : List Int) (a1 : Int) (r1 : ByteArray) (r2 : Int) (w : World) (hr0 : Kd.C (Kd.int .u8) w A0 l0.length l0) (hc0 : l0.length ≤ c0) (h : spec_l1DrawName.f k l0 a1 = some (r1, r2)) :
  Calls Try.prog 82 #[.slice A0 l0.length c0, .int .i64 a1] w fun e w' => e = .returned (.tuple #[.string r1, .int .i64 r2]) ∧ Drawn0 w w' := by
 have HR0 := Aside0.mk hr0
 have HC0 := Aside0.mk hc0
 clear hr0 hc0
 have H : ((spec_l1Take.f k l0 a1 12).bind fun bt580 => (if bt580.1 < 8 then (if 0 ≤ bt580.1 then (if bt580.1 ≤ (wrap64 (bt580.1 + 1)) then (if (wrap64 (bt580.1 + 1)) ≤ 8 then (some ((⟨#[97, 98, 99, 100, 101, 102, 103, 104]⟩ : ByteArray).extract (bt580.1 : Int).toNat ((wrap64 (bt580.1 + 1)) : Int).toNat, bt580.2)) else (none)) else (none)) else (none)) else (if bt580.1 = 8 then (some ((⟨#[49, 46, 108, 111, 103]⟩ : ByteArray), bt580.2)) else (if bt580.1 = 9 then (some ((⟨#[67, 85, 82, 82, 69, 78, 84]⟩ : ByteArray), bt580.2)) else (if bt580.1 = 10 then (some ((⟨#[98, 46, 98]⟩ : ByteArray), bt580.2)) else (some ((⟨#[108, 111, 115, 116, 47, 97]⟩ : ByteArray), bt580.2))))))) = some (r1, r2) := h
 clear h
 replace H := Option.bind_eq_some_iff.mp H
 obtain ⟨⟨t580, t581⟩, A30, H⟩ := H
 replace H : (if t580 < 8 then (if 0 ≤ t580 then (if t580 ≤ (wrap64 (t580 + 1)) then (if (wrap64 (t580 + 1)) ≤ 8 then (some ((⟨#[97, 98, 99, 100, 101, 102, 103, 104]⟩ : ByteArray).extract (t580 : Int).toNat ((wrap64 (t580 + 1)) : Int).toNat, t581)) else (none)) else (none)) else (none)) else (if t580 = 8 then (some ((⟨#[49, 46, 108, 111, 103]⟩ : ByteArray), t581)) else (if t580 = 9 then (some ((⟨#[67, 85, 82, 82, 69, 78, 84]⟩ : ByteArray), t581)) else (if t580 = 10 then (some ((⟨#[98, 46, 98]⟩ : ByteArray), t581)) else (some ((⟨#[108, 111, 115, 116, 47, 97]⟩ : ByteArray), t581)))))) = some (r1, r2) := H
 have A3 := Aside0.mk A30
 clear A30
 by_cases c4 : t580 < 8
 ·rw [if_pos c4] at H
  have c4b0 : decide (t580 < 8) = true := decide_eq_true c4
  clear c4
  by_cases c5 : 0 ≤ t580
  ·rw [if_pos c5] at H
   have c5b0 := eq_true c5
   have c5b1 : decide (0 ≤ t580) = true := decide_eq_true c5
   clear c5
   by_cases c6 : t580 ≤ (wrap64 (t580 + 1))
   ·rw [if_pos c6] at H
    have c6b0 := eq_true c6
    have c6b1 : decide (t580 ≤ (wrap64 (t580 + 1))) = true := decide_eq_true c6
    by_cases c7 : (wrap64 (t580 + 1)) ≤ 8
    ·rw [if_pos c7] at H
     have c7b0 := eq_true c7
     have c7b1 : decide ((wrap64 (t580 + 1)) ≤ 8) = true := decide_eq_true c7
     simp only [Option.some.injEq, Prod.mk.injEq] at H
     obtain ⟨rfl, rfl⟩ := H
     go_enter Try.func82, Try.ntmps82
     go_wp2_with (first | ((with_reducible refine gate_callee (f := 65) rfl ?_); refine goesL_ (some 10) rfl rfl Try.func65 (by kernel_rfl) rfl #[.slice A0 l0.length c0, .int .i64 a1, .int .i64 12] rfl (by (try simp only [List.map_toArray, List.map_cons, List.map_nil]); first | done | rfl | (simp only [List.length_drop, List.length_take]; rfl)) ?_; (with_reducible refine (spec_l1Take.calls k _ _ l0 a1 12 t580 t581 _ ?side1 ?side2 A3.out).mono ?_); (case side1 => repeat (first | exact HR0.out | (with_reducible refine Kd.C_alloc ?_ _) | (with_reducible refine Kd.C_drewN ?_ _) | (with_reducible refine Kd.C_drew ?_))); (case side2 => exact HC0.out); rintro e w' ⟨rfl, ⟨nd, rfl⟩⟩; refine ⟨_, rfl, ?_⟩))
     go_ret2
     exact ⟨by first | rfl | (simp; done) | (simp [*]; done), by repeat (first | exact Drawn0.refl _ | apply Drawn0.step)⟩
    ·rw [if_neg c7] at H
     exact absurd H (by simp)
   ·rw [if_neg c6] at H
    exact absurd H (by simp)
  ·rw [if_neg c5] at H
   exact absurd H (by simp)
 ·rw [if_neg c4] at H
  have c4b0 : decide (t580 < 8) = false := decide_eq_false c4
  clear c4
  by_cases c8 : t580 = 8
  ·rw [if_pos c8] at H
   have c8b0 : (t580 == 8) = true := beq_iff_eq.mpr c8
   have c8b1 : (t580 != 8) = false := bne_eq_false_iff_eq.mpr c8
   clear c8
   simp only [Option.some.injEq, Prod.mk.injEq] at H
   obtain ⟨rfl, rfl⟩ := H
   go_enter Try.func82, Try.ntmps82
   go_wp2_with (first | ((with_reducible refine gate_callee (f := 65) rfl ?_); refine goesL_ (some 10) rfl rfl Try.func65 (by kernel_rfl) rfl #[.slice A0 l0.length c0, .int .i64 a1, .int .i64 12] rfl (by (try simp only [List.map_toArray, List.map_cons, List.map_nil]); first | done | rfl | (simp only [List.length_drop, List.length_take]; rfl)) ?_; (with_reducible refine (spec_l1Take.calls k _ _ l0 a1 12 t580 t581 _ ?side1 ?side2 A3.out).mono ?_); (case side1 => repeat (first | exact HR0.out | (with_reducible refine Kd.C_alloc ?_ _) | (with_reducible refine Kd.C_drewN ?_ _) | (with_reducible refine Kd.C_drew ?_))); (case side2 => exact HC0.out); rintro e w' ⟨rfl, ⟨nd, rfl⟩⟩; refine ⟨_, rfl, ?_⟩))
   go_ret2
   exact ⟨by first | rfl | (simp; done) | (simp [*]; done), by repeat (first | exact Drawn0.refl _ | apply Drawn0.step)⟩
  ·rw [if_neg c8] at H
   have c8b0 : (t580 == 8) = false := beq_eq_false_iff_ne.mpr c8
   have c8b1 : (t580 != 8) = true := bne_iff_ne.mpr c8
   by_cases c9 : t580 = 9
   ·rw [if_pos c9] at H
    have c9b0 : (t580 == 9) = true := beq_iff_eq.mpr c9
    have c9b1 : (t580 != 9) = false := bne_eq_false_iff_eq.mpr c9
    clear c9
    simp only [Option.some.injEq, Prod.mk.injEq] at H
    obtain ⟨rfl, rfl⟩ := H
    go_enter Try.func82, Try.ntmps82
    go_wp2_with (first | ((with_reducible refine gate_callee (f := 65) rfl ?_); refine goesL_ (some 10) rfl rfl Try.func65 (by kernel_rfl) rfl #[.slice A0 l0.length c0, .int .i64 a1, .int .i64 12] rfl (by (try simp only [List.map_toArray, List.map_cons, List.map_nil]); first | done | rfl | (simp only [List.length_drop, List.length_take]; rfl)) ?_; (with_reducible refine (spec_l1Take.calls k _ _ l0 a1 12 t580 t581 _ ?side1 ?side2 A3.out).mono ?_); (case side1 => repeat (first | exact HR0.out | (with_reducible refine Kd.C_alloc ?_ _) | (with_reducible refine Kd.C_drewN ?_ _) | (with_reducible refine Kd.C_drew ?_))); (case side2 => exact HC0.out); rintro e w' ⟨rfl, ⟨nd, rfl⟩⟩; refine ⟨_, rfl, ?_⟩))
    go_ret2
    exact ⟨by first | rfl | (simp; done) | (simp [*]; done), by repeat (first | exact Drawn0.refl _ | apply Drawn0.step)⟩
   ·rw [if_neg c9] at H
    have c9b0 : (t580 == 9) = false := beq_eq_false_iff_ne.mpr c9
    have c9b1 : (t580 != 9) = true := bne_iff_ne.mpr c9
    by_cases c10 : t580 = 10
    ·rw [if_pos c10] at H
     have c10b0 : (t580 == 10) = true := beq_iff_eq.mpr c10
     have c10b1 : (t580 != 10) = false := bne_eq_false_iff_eq.mpr c10
     clear c10
     simp only [Option.some.injEq, Prod.mk.injEq] at H
     obtain ⟨rfl, rfl⟩ := H
     go_enter Try.func82, Try.ntmps82
     go_wp2_with (first | ((with_reducible refine gate_callee (f := 65) rfl ?_); refine goesL_ (some 10) rfl rfl Try.func65 (by kernel_rfl) rfl #[.slice A0 l0.length c0, .int .i64 a1, .int .i64 12] rfl (by (try simp only [List.map_toArray, List.map_cons, List.map_nil]); first | done | rfl | (simp only [List.length_drop, List.length_take]; rfl)) ?_; (with_reducible refine (spec_l1Take.calls k _ _ l0 a1 12 t580 t581 _ ?side1 ?side2 A3.out).mono ?_); (case side1 => repeat (first | exact HR0.out | (with_reducible refine Kd.C_alloc ?_ _) | (with_reducible refine Kd.C_drewN ?_ _) | (with_reducible refine Kd.C_drew ?_))); (case side2 => exact HC0.out); rintro e w' ⟨rfl, ⟨nd, rfl⟩⟩; refine ⟨_, rfl, ?_⟩))
     go_ret2
     exact ⟨by first | rfl | (simp; done) | (simp [*]; done), by repeat (first | exact Drawn0.refl _ | apply Drawn0.step)⟩
    ·rw [if_neg c10] at H
     have c10b0 : (t580 == 10) = false := beq_eq_false_iff_ne.mpr c10
     have c10b1 : (t580 != 10) = true := bne_iff_ne.mpr c10
     simp only [Option.some.injEq, Prod.mk.injEq] at H
     obtain ⟨rfl, rfl⟩ := H
     go_enter Try.func82, Try.ntmps82
     go_wp2_with (first | ((with_reducible refine gate_callee (f := 65) rfl ?_); refine goesL_ (some 10) rfl rfl Try.func65 (by kernel_rfl) rfl #[.slice A0 l0.length c0, .int .i64 a1, .int .i64 12] rfl (by (try simp only [List.map_toArray, List.map_cons, List.map_nil]); first | done | rfl | (simp only [List.length_drop, List.length_take]; rfl)) ?_; (with_reducible refine (spec_l1Take.calls k _ _ l0 a1 12 t580 t581 _ ?side1 ?side2 A3.out).mono ?_); (case side1 => repeat (first | exact HR0.out | (with_reducible refine Kd.C_alloc ?_ _) | (with_reducible refine Kd.C_drewN ?_ _) | (with_reducible refine Kd.C_drew ?_))); (case side2 => exact HC0.out); rintro e w' ⟨rfl, ⟨nd, rfl⟩⟩; refine ⟨_, rfl, ?_⟩))
     go_ret2
     exact ⟨by first | rfl | (simp; done) | (simp [*]; done), by repeat (first | exact Drawn0.refl _ | apply Drawn0.step)⟩

end Go.Proofs.Ytbppijlcmeidaaa.P
end
section
/- The specification's draws: that they answer, and within which bounds. Condition: the code's bytes are bytes, at most 2 to the 20 of them. -/
namespace Go.Proofs.Ytbppijlcmeidaaa.M
open Go.RowKit Go.Proofs.Ytbppijlcmeidaaa.P Go.Proofs.YtbppijlcmeidaaaW.PrintWords Go.Proofs.YtbppijlcmeidaaaW.PrintLast Go.Proofs.YtbppijlcmeidaaaW.PrintMore
set_option linter.unusedVariables false
theorem xor_i64 (a b : Nat) (ha : a < 2 ^ 63) (hb : b < 2 ^ 63) : Go.bits .xor .i64 (a : Int) (b : Int) = ((a ^^^ b : Nat) : Int) := by
  have h := Nat.xor_lt_two_pow ha hb
  have e : (IntKind.i64.bits) = 64 := rfl
  unfold Go.bits
  simp only [BitVec.ofInt_natCast, BitVec.toNat_xor, BitVec.toNat_ofNat, e]
  rw [Nat.mod_eq_of_lt (by omega), Nat.mod_eq_of_lt (by omega)]
  exact IntWalk.i64_in _ (by omega)
theorem take_big (A B p q : Int) (hA : 0 ≤ A ∧ A ≤ 255) (hB : 0 ≤ B ∧ B ≤ 255) (hp : 0 ≤ p ∧ p ≤ 1048576) (hq : 0 ≤ q ∧ q ≤ 1048576) :
    0 ≤ Go.bits .xor .i64 (wrap64 ((wrap64 ((wrap64 ((wrap64 ((wrap64 A) * 131)) + (wrap64 ((wrap64 B) * 1117)))) + (wrap64 (p * 29)))) + (wrap64 ((wrap64 q) * 53)))) (wrap64 (Int.tdiv (wrap64 ((wrap64 ((wrap64 ((wrap64 ((wrap64 A) * 131)) + (wrap64 ((wrap64 B) * 1117)))) + (wrap64 (p * 29)))) + (wrap64 ((wrap64 q) * 53)))) 64)) := by
  rw [wrap_ok (x := A) (by omega) (by omega), wrap_ok (x := B) (by omega) (by omega), wrap_ok (x := q) (by omega) (by omega), wrap_ok (x := A * 131) (by omega) (by omega), wrap_ok (x := B * 1117) (by omega) (by omega), wrap_ok (x := p * 29) (by omega) (by omega), wrap_ok (x := q * 53) (by omega) (by omega)]
  rw [wrap_ok (x := A * 131 + B * 1117) (by omega) (by omega)]
  rw [wrap_ok (x := A * 131 + B * 1117 + p * 29) (by omega) (by omega)]
  rw [wrap_ok (x := A * 131 + B * 1117 + p * 29 + q * 53) (by omega) (by omega)]
  obtain ⟨n, hn⟩ : ∃ n : Nat, A * 131 + B * 1117 + p * 29 + q * 53 = (n : Int) := ⟨(A * 131 + B * 1117 + p * 29 + q * 53).toNat, by omega⟩
  have hb : n ≤ 1000000000 := by omega
  rw [hn, Int.tdiv_eq_ediv_of_nonneg (by omega), show (n : Int) / 64 = ((n / 64 : Nat) : Int) by omega, wrap_ok (x := ((n / 64 : Nat) : Int)) (by omega) (by omega), xor_i64 _ _ (by omega) (by omega)]
  omega
theorem rd_in {l : List Int} (hl : ∀ x ∈ l, 0 ≤ x ∧ x ≤ 255) (i : Int) : 0 ≤ rd l i ∧ rd l i ≤ 255 := by
  unfold rd
  rw [List.getD_eq_getElem?_getD]
  cases h : l[i.toNat]? with
  | none => exact ⟨by decide, by decide⟩
  | some x => exact hl x (List.mem_of_getElem? h)
theorem tmod_in {a n : Int} (ha : 0 ≤ a) (hn : 1 ≤ n) : 0 ≤ Int.tmod a n ∧ Int.tmod a n < n := by
  rw [Int.tmod_eq_emod_of_nonneg ha]
  exact ⟨Int.emod_nonneg _ (by omega), Int.emod_lt_of_pos _ (by omega)⟩
theorem take_ev (l : List Int) (hl : ∀ x ∈ l, 0 ≤ x ∧ x ≤ 255) (hlen : l.length ≤ 1048576) (p n : Int) (hp : 0 ≤ p ∧ p ≤ 1048576) (hn : n ≤ 1048576) :
    ∃ v, Ev (fun k => spec_l1Take.f k l p n) (v, p + 1) ∧ 0 ≤ v ∧ v ≤ 1048576 ∧ (1 ≤ n → v < n) := by
  have hw : wrap64 (p + 1) = p + 1 := wrap_ok (by omega) (by omega)
  by_cases h1 : n < 1
  · refine ⟨0, Ev.congr (fun k => if_pos h1) (Ev.step (f := fun _ => some (0, p + 1)) (fun k => by rw [spec_l1Take.j0, if_pos rfl, hw]) (Ev.now _)), by omega, by omega, fun h => by omega⟩
  · by_cases h2 : l.length = 0
    · refine ⟨0, Ev.congr (fun k => if_neg h1) (Ev.step (f := fun _ => some (0, p + 1)) (fun k => by rw [spec_l1Take.j0, if_pos (by rw [h2]; rfl), hw]) (Ev.now _)), by omega, by omega, fun h => by omega⟩
    · have hf : ((l.length : Int) == 0) = false := by simp; intro h; exact h2 (by rw [h]; rfl)
      have key : ∀ v, (∀ k, spec_l1Take.j0 (k + 1) l p n false = some (v, p + 1)) → 0 ≤ v → v < n → ∃ v, Ev (fun k => spec_l1Take.f k l p n) (v, p + 1) ∧ 0 ≤ v ∧ v ≤ 1048576 ∧ (1 ≤ n → v < n) := fun v hv h3 h4 =>
        ⟨v, Ev.congr (fun k => (if_neg h1).trans (by rw [hf])) (Ev.step (f := fun _ => some (v, p + 1)) hv (Ev.now _)), h3, by omega, fun _ => h4⟩
      have m1 := tmod_in (a := p) (n := (l.length : Int)) hp.1 (by omega)
      have m2 := tmod_in (a := p * 7 + 3) (n := (l.length : Int)) (by omega) (by omega)
      have hd : 0 ≤ Int.tdiv p (l.length : Int) ∧ Int.tdiv p (l.length : Int) ≤ 1048576 := by
        rw [Int.tdiv_eq_ediv_of_nonneg hp.1]
        exact ⟨Int.ediv_nonneg hp.1 (by omega), Int.le_trans (Int.ediv_le_self _ hp.1) hp.2⟩
      have e7 : wrap64 (p * 7) = p * 7 := wrap_ok (by omega) (by omega)
      have e73 : wrap64 (p * 7 + 3) = p * 7 + 3 := wrap_ok (by omega) (by omega)
      have hbig := take_big (rd l (Int.tmod p (l.length : Int))) (rd l (Int.tmod (p * 7 + 3) (l.length : Int))) p (Int.tdiv p (l.length : Int)) (rd_in hl _) (rd_in hl _) hp hd
      have hbm := tmod_in hbig (n := n) (by omega)
      by_cases h3 : p < (l.length : Int)
      · by_cases h4 : n ≤ 256
        · have hr := rd_in hl p
          have hm := tmod_in (a := wrap64 (rd l p)) (n := n) (by rw [wrap_ok (by omega) (by omega)]; exact hr.1) (by omega)
          exact key _ (fun k => by rw [spec_l1Take.j0, if_neg (by simp), if_pos h3, if_pos h4, if_pos hp.1, if_neg (by omega), hw]) hm.1 hm.2
        · exact key _ (fun k => by rw [spec_l1Take.j0, if_neg (by simp), if_pos h3, if_neg h4, if_neg (by omega), if_pos m1.1, if_pos m1.2, e7, e73, if_pos m2.1, if_pos m2.2, if_neg (by omega), hw]) hbm.1 hbm.2
      · exact key _ (fun k => by rw [spec_l1Take.j0, if_neg (by simp), if_neg h3, if_neg (by omega), if_pos m1.1, if_pos m1.2, e7, e73, if_pos m2.1, if_pos m2.2, if_neg (by omega), hw]) hbm.1 hbm.2
theorem drawName_ev (l : List Int) (hl : ∀ x ∈ l, 0 ≤ x ∧ x ≤ 255) (hlen : l.length ≤ 1048576) (p : Int) (hp : 0 ≤ p ∧ p ≤ 1048576) :
    ∃ s, Ev (fun k => spec_l1DrawName.f k l p) (s, p + 1) ∧ s.size ≤ 7 := by
  obtain ⟨v, hv, h0, _, h1⟩ := take_ev l hl hlen p 12 hp (by omega)
  have h1 := h1 (by omega)
  by_cases c : v < 8
  · refine ⟨(⟨#[97, 98, 99, 100, 101, 102, 103, 104]⟩ : ByteArray).extract v.toNat (v + 1).toNat, Ev.bind hv (Ev.pure (fun k => ?_)), ?_⟩
    · rw [if_pos c, if_pos h0, wrap_ok (x := v + 1) (by omega) (by omega), if_pos (by omega), if_pos (by omega)]
    · rw [ByteArray.size_extract]
      omega
  · by_cases c8 : v = 8
    · exact ⟨_, Ev.bind hv (Ev.pure (fun k => (if_neg c).trans (if_pos c8))), by decide⟩
    · by_cases c9 : v = 9
      · exact ⟨_, Ev.bind hv (Ev.pure (fun k => (if_neg c).trans ((if_neg c8).trans (if_pos c9)))), by decide⟩
      · by_cases c10 : v = 10
        · exact ⟨_, Ev.bind hv (Ev.pure (fun k => (if_neg c).trans ((if_neg c8).trans ((if_neg c9).trans (if_pos c10))))), by decide⟩
        · exact ⟨_, Ev.bind hv (Ev.pure (fun k => (if_neg c).trans ((if_neg c8).trans ((if_neg c9).trans (if_neg c10))))), by decide⟩
end Go.Proofs.Ytbppijlcmeidaaa.M
end

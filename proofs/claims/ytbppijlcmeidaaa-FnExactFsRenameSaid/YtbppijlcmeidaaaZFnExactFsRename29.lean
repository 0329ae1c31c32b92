/- Texts of the claim FnExactFsRename, part 29 of 36, joined: MCreate, MRename, MRes, MFsRename, PimplFsRename, PlawsmarkText. No condition beyond those that stand at each. -/
import Derived.Test.YtbppijlcmeidaaaZFnExactFsRename28
import Derived.Deep.RegionHeld3
import Derived.Test.YtbppijlcmeidaaaZFnExactFsRename25
section
/- The step create, walked, on a directory of the call's own. Condition: the files are in order, at most 200. -/
namespace Go.Proofs.Ytbppijlcmeidaaa.M
open Go.RowKit Go.Proofs.Ytbppijlcmeidaaa.P Go.Proofs.YtbppijlcmeidaaaW.PrintWords Go.Proofs.YtbppijlcmeidaaaW.PrintLast Go.Proofs.YtbppijlcmeidaaaW.PrintMore
set_option linter.unusedVariables false
def createOp (l : List S52) (s : ByteArray) : List S52 × Int :=
  if there l s = true then (l.set (pos l s) ⟨s, ⟨#[]⟩, 0⟩, 0) else if l.length ≥ 200 then (l, 4) else (l.take (pos l s) ++ ⟨s, ⟨#[]⟩, 0⟩ :: l.drop (pos l s), 0)
theorem FsAt.put3 {w0 w : World} {g b n c a a1 a2 : Nat} {l l' : List S52} {q f : Int} {u u1 u2 : Value} (h : FsAt w0 w g (.slice (some ⟨b, 0, none⟩) n c) l q f) (hne : b ≠ g) (hr : Kd.R k52 52 (((w.setCell ⟨b, a, none⟩ u).setCell ⟨b, a1, none⟩ u1).setCell ⟨b, a2, none⟩ u2) w0.heap.size (fun _ => True) (.slice (some ⟨b, 0, none⟩) n c) l') :
    FsAt w0 (((w.setCell ⟨b, a, none⟩ u).setCell ⟨b, a1, none⟩ u1).setCell ⟨b, a2, none⟩ u2) g (.slice (some ⟨b, 0, none⟩) n c) l' q f :=
  have hb := Kd.R_base h.row b (by simp [Value.ownBlock])
  ⟨blk_far (blk_far (blk_far h.blk (fun e => hne e.symm) _) (fun e => hne e.symm) _) (fun e => hne e.symm) _, hr, ((h.bel.setCell hb _).setCell hb _).setCell hb _, h.ge⟩
theorem FsAt.own_ne {w0 w : World} {g : Nat} {v : Value} {l : List S52} {q f : Int} (h : FsAt w0 w g v l q f) : some g ≠ v.ownBlock := fun e => by
  obtain ⟨cells, hc⟩ := Kd.R_typed h.row g e.symm
  rw [h.blk] at hc
  injection hc with hc
  injection hc with _ hc
  exact absurd hc (by decide)
def createRes (l : List S52) (f : Int) (s : ByteArray) : List S52 × Int := stepOf f [s] l (createOp l s)

set_option maxRecDepth 100000 in
set_option maxHeartbeats 4000000 in
theorem create_call (w0 w : World) (g : Nat) (v : Value) (l : List S52) (q f : Int) (s : ByteArray) (h : FsAt w0 w g v l q f) (hf : -1 ≤ f) (hf2 : f ≤ 9223372036854775807) (hl : l.length ≤ 200) (hs : Sorted l) :
    Calls Try.prog 68 #[.pointer (some ⟨g, 0, none⟩), .string s] w fun e w' => Stepped w0 w g v (createRes l f s) q f e w' := by
  unfold createRes
  have hu29 := Try.underlying29
  have hu52 := Try.underlying52
  have hb0 : Below w.heap.size w (w.alloc (.cells #[.string s] 9)) := (Below.refl _ _).alloc (Nat.le_refl _) _
  have hg := blk_lt h.blk
  have hbc := begin_call w0 (w.alloc (.cells #[.string s] 9)) g v l q f (some ⟨w.heap.size, 0, none⟩) 1 [s] (h.below hb0) (names1 w s) hf hf2 (by simp) (fun ad e => by injection e with e; subst e; show w.heap.size ≠ g; omega)
  change Calls _ _ _ _ (fun e w' => e = .returned (.int .i64 (stepCode f [s])) ∧ _) at hbc
  have K0 := Keeps.of_below (g := g) (v := v) hb0
  rcases stepCode_cases f [s] with ⟨h0, _, _⟩ | h8 | h2
  · have hop : stepOf f [s] l (createOp l s) = createOp l s := by unfold stepOf; rw [if_pos h0]
    rw [hop]
    rw [h0] at hbc
    have HBC := Aside0.mk hbc
    have HK0 := Aside0.mk K0
    have HS := Aside0.mk hs
    clear hbc K0 hb0 hop h0 h hs
    unfold createOp
    by_cases ht : there l s = true
    · rw [if_pos ht]
      have hlt := there_lt ht
      have HT := Aside0.mk ht
      clear ht
      go_enter Try.func68, Try.ntmps68
      go_wp2_with fail
      refine HBC.out.mono ?_
      rintro e w1 ⟨rfl, h1, k1⟩
      obtain ⟨A, c, rfl, hc, hC, hL⟩ := h1.lies
      have HF := Aside0.mk (find_call g A c l q _ s w1 hL hC hl HS.out)
      have H1 := Aside0.mk h1
      have K1 := Aside0.mk (HK0.out.trans k1 (.inl rfl))
      clear h1 k1 hC hL
      go_wp2_with fail
      refine HF.out.mono ?_
      rw [HT.out]
      rintro e w2 ⟨rfl, hb⟩
      have h2 := H1.out.below hb
      have K2 := Aside0.mk (K1.out.trans (Keeps.of_below hb) (.inl rfl))
      obtain ⟨b, c', hv, hbb, e0, e1, e2, ez, es2, es1, es3⟩ := row_elem h2.row (pos l s) hlt
      injection hv with hv1 hv2 hv3
      subst hv1; subst hv3
      have H2 := Aside0.mk h2
      have ES := Aside0.mk (es3 ⟨s, ⟨#[]⟩, 0⟩)
      have g0 := blk_cell h2.blk 0
      have ez0 : w2.frozen? ⟨b, pos l s * 3, none⟩ = false := ez 0
      have ez1 := ez 1
      have ez2 := ez 2
      have hne : b ≠ g := fun hh => by
        obtain ⟨cells, hc'⟩ := Kd.R_typed h2.row b (by simp [Value.ownBlock])
        rw [hh, h2.blk] at hc'
        injection hc' with hc'
        injection hc' with _ hc'
        exact absurd hc' (by decide)
      have HNE := Aside0.mk hne
      clear h2 es1 es2 es3 ez hb hbb hne
      generalize hp : pos l s = p at hlt e0 e1 e2 ez0 ez1 ez2 ES ⊢
      generalize hx : rd_T52 l (p : Int) = x at e0 e1 e2 ES
      have hlt1 : ((p : Nat) : Int) < (l.length : Int) := by omega
      have hp0 : 0 ≤ ((p : Nat) : Int) := by omega
      have HP := Aside0.mk hp
      have HX := Aside0.mk hx
      clear hx hp
      go_wp2
      go_ret
      refine ⟨.slice (some ⟨b, 0, none⟩) l.length c, rfl, ?_, ((K2.out.trans (Keeps.put w2 g b l.length c _ _) (.inl rfl)).trans (Keeps.put _ g b l.length c _ _) (.inl rfl)).trans (Keeps.put _ g b l.length c _ _) (.inl rfl)⟩
      rw [HP.out]
      exact H2.out.put3 HNE.out ES.out
    · rw [if_neg ht]
      have ht := Bool.eq_false_iff.2 ht
      have HT := Aside0.mk ht
      clear ht
      by_cases hfull : l.length ≥ 200
      · rw [if_pos hfull]
        have hfull' : decide ((200 : Int) ≤ (l.length : Int)) = true := decide_eq_true (by omega)
        go_enter Try.func68, Try.ntmps68
        go_wp2_with fail
        refine HBC.out.mono ?_
        rintro e w1 ⟨rfl, h1, k1⟩
        obtain ⟨A, c, rfl, hc, hC, hL⟩ := h1.lies
        have HF := Aside0.mk (find_call g A c l q _ s w1 hL hC hl HS.out)
        have H1 := Aside0.mk h1
        have K1 := Aside0.mk (HK0.out.trans k1 (.inl rfl))
        clear h1 k1 hC hL
        go_wp2_with fail
        refine HF.out.mono ?_
        rw [HT.out]
        rintro e w2 ⟨rfl, hb⟩
        have h2 := H1.out.below hb
        have g0 := blk_cell h2.blk 0
        have g1 := blk_frozen h2.blk 0
        have H2 := Aside0.mk h2
        have K2 := Aside0.mk (K1.out.trans (Keeps.of_below hb) (.inl rfl))
        clear h2 hb
        go_wp2
        go_ret
        exact ⟨_, rfl, H2.out, K2.out⟩
      · rw [if_neg hfull]
        have hfull' : decide ((200 : Int) ≤ (l.length : Int)) = false := decide_eq_false (by omega)
        have hpl : pos l s ≤ l.length := List.countP_le_length
        go_enter Try.func68, Try.ntmps68
        go_wp2_with fail
        refine HBC.out.mono ?_
        rintro e w1 ⟨rfl, h1, k1⟩
        obtain ⟨A, c, rfl, hc, hC, hL⟩ := h1.lies
        have HF := Aside0.mk (find_call g A c l q _ s w1 hL hC hl HS.out)
        have H1 := Aside0.mk h1
        have K1 := Aside0.mk (HK0.out.trans k1 (.inl rfl))
        clear h1 k1 hC hL
        go_wp2_with fail
        refine HF.out.mono ?_
        rw [HT.out]
        rintro e w2 ⟨rfl, hb⟩
        have h2 := H1.out.below hb
        have g0 := blk_cell h2.blk 0
        have g1 := blk_frozen h2.blk 0
        have H2 := Aside0.mk h2
        have K2 := Aside0.mk (K1.out.trans (Keeps.of_below hb) (.inl rfl))
        clear h2 hb
        have hb1 : Below w2.heap.size w2 (w2.alloc (.cells (cells3 ⟨s, ⟨#[]⟩, 0⟩).toArray 52)) := (Below.refl _ _).alloc (Nat.le_refl _) _
        have h3 := H2.out.below hb1
        have HI := Aside0.mk (insert_call w0 (w2.alloc (.cells (cells3 ⟨s, ⟨#[]⟩, 0⟩).toArray 52)) w0.heap.size w2.heap.size c (pos l s) A l ⟨s, ⟨#[]⟩, 0⟩ h3.row h3.bel h3.bel.size hl hpl (heap_alloc_new _ _) (fun ad ha => by
          subst ha
          have := Kd.R_lt H2.out.row ad.block rfl
          omega))
        have H3 := Aside0.mk h3
        have K3 := Aside0.mk (K2.out.trans (Keeps.of_below hb1) (.inl rfl))
        clear h3 hb1
        unfold cells3 at HI
        go_wp2_with fail
        refine HI.out.mono ?_
        rintro e w3 ⟨v', rfl, hR, hB, hsz, hbl⟩
        obtain ⟨A', c', hv'⟩ := Kd.R_slice hR
        generalize (l.take (pos l s) ++ (⟨s, ⟨#[]⟩, 0⟩ : S52) :: l.drop (pos l s)).length = n' at hv'
        subst hv'
        have T := (hbl g (blk_lt H3.out.blk) H3.out.own_ne).trans H3.out.blk
        have j0 := blk_cell T 0
        have j1 := blk_frozen T 0
        have HT3 := Aside0.mk T
        have HR3 := Aside0.mk hR
        have HB3 := Aside0.mk hB
        have HK3 := Aside0.mk (And.intro hsz hbl)
        clear T hR hB hsz hbl
        go_wp2
        go_ret
        refine ⟨_, rfl, FsAt.files (l := l) HT3.out HR3.out HB3.out H2.out.ge, ?_⟩
        exact (K3.out.trans (v1 := .slice A l.length c) ⟨HK3.out.1, fun i hi hg hn => HK3.out.2 i hi hn⟩ (.inl rfl)).trans (v1 := .slice A l.length c) (Keeps.setCell _ 0 _) (.inl rfl)
  · have hop : stepOf f [s] l (createOp l s) = (l, 8) := by unfold stepOf; rw [h8, if_neg (by omega)]
    rw [hop]
    rw [h8] at hbc
    have HBC := Aside0.mk hbc
    have HK0 := Aside0.mk K0
    clear hbc K0 hb0 hop h8 h hs
    go_enter Try.func68, Try.ntmps68
    go_wp2_with fail
    refine HBC.out.mono ?_
    rintro e w1 ⟨rfl, h1, k1⟩
    go_wp2
    go_ret
    exact ⟨_, rfl, h1, HK0.out.trans k1 (.inl rfl)⟩
  · have hop : stepOf f [s] l (createOp l s) = (l, 2) := by unfold stepOf; rw [h2, if_neg (by omega)]
    rw [hop]
    rw [h2] at hbc
    have HBC := Aside0.mk hbc
    have HK0 := Aside0.mk K0
    clear hbc K0 hb0 hop h2 h hs
    go_enter Try.func68, Try.ntmps68
    go_wp2_with fail
    refine HBC.out.mono ?_
    rintro e w1 ⟨rfl, h1, k1⟩
    go_wp2
    go_ret
    exact ⟨_, rfl, h1, HK0.out.trans k1 (.inl rfl)⟩
end Go.Proofs.Ytbppijlcmeidaaa.M
end
section
/- The step rename, walked, on a directory of the call's own. Condition: the files are in order, at most 200. -/
namespace Go.Proofs.Ytbppijlcmeidaaa.M
open Go.RowKit Go.Proofs.Ytbppijlcmeidaaa.P Go.Proofs.YtbppijlcmeidaaaW.PrintWords Go.Proofs.YtbppijlcmeidaaaW.PrintLast Go.Proofs.YtbppijlcmeidaaaW.PrintMore
set_option linter.unusedVariables false
set_option linter.unusedSimpArgs false
def renFile (l : List S52) (s d : ByteArray) : S52 := ⟨d, (rd_T52 l (pos l s : Int)).f1, (rd_T52 l (pos l s : Int)).f2⟩
def renRest (l : List S52) (s : ByteArray) : List S52 := l.eraseIdx (pos l s)
def renOp (l : List S52) (d : ByteArray) (y : S52) : List S52 := if there l d = true then l.set (pos l d) y else l.take (pos l d) ++ y :: l.drop (pos l d)
def renameOp (l : List S52) (s d : ByteArray) : List S52 × Int :=
  if there l s = true then (if s = d then (l, 0) else (renOp (renRest l s) d (renFile l s d), 0)) else (l, 1)
def renameRes (l : List S52) (f : Int) (s d : ByteArray) : List S52 × Int := stepOf f [s, d] l (renameOp l s d)
theorem names2 (w : World) (s d : ByteArray) : Kd.C Kd.string (w.alloc (.cells #[.string s, .string d] 9)) (some ⟨w.heap.size, 0, none⟩) [s, d].length [s, d] :=
  ⟨rfl, by simp, fun _ => ⟨_, rfl, fun j p hj => ⟨[.string p], rfl, rfl, fun i u hu => by
    obtain rfl : i = 0 := by
      have := (List.getElem?_eq_some_iff.1 hu).1
      simpa using this
    have e2 : Value.string p = u := by simpa using hu
    subst e2
    have hj2 : j = 0 ∨ j = 1 := by
      have := (List.getElem?_eq_some_iff.1 hj).1
      simp at this
      omega
    rcases hj2 with rfl | rfl
    · obtain rfl : s = p := by simpa using hj
      exact (cell_of_row _ _ 0 _ _ _ (heap_alloc_new w _)).trans rfl
    · obtain rfl : d = p := by simpa using hj
      exact (cell_of_row _ _ 1 _ _ _ (heap_alloc_new w _)).trans rfl⟩⟩⟩
theorem sorted_rest {l : List S52} (h : Sorted l) (i : Nat) : Sorted (l.eraseIdx i) := by
  have hp : l.Pairwise (fun x y => lss x.f0 y.f0 = true) := by
    rw [List.pairwise_iff_getElem]
    intro i j hi hj hij
    have := h i j hij hj
    rwa [rd52 l i hi, rd52 l j hj] at this
  exact sorted_of (hp.sublist (List.eraseIdx_sublist l i))

set_option maxRecDepth 100000 in
set_option maxHeartbeats 4000000 in
theorem rename_call (w0 w : World) (g : Nat) (v : Value) (l : List S52) (q f : Int) (s d : ByteArray) (h : FsAt w0 w g v l q f) (hf : -1 ≤ f) (hf2 : f ≤ 9223372036854775807) (hl : l.length ≤ 200) (hs : Sorted l) :
    Calls Try.prog 70 #[.pointer (some ⟨g, 0, none⟩), .string s, .string d] w fun e w' => Stepped w0 w g v (renameRes l f s d) q f e w' := by
  unfold renameRes
  have hu29 := Try.underlying29
  have hu52 := Try.underlying52
  have hb0 : Below w.heap.size w (w.alloc (.cells #[.string s, .string d] 9)) := (Below.refl _ _).alloc (Nat.le_refl _) _
  have hg := blk_lt h.blk
  have hbc := begin_call w0 (w.alloc (.cells #[.string s, .string d] 9)) g v l q f (some ⟨w.heap.size, 0, none⟩) 2 [s, d] (h.below hb0) (names2 w s d) hf hf2 (by simp) (fun ad e => by injection e with e; subst e; show w.heap.size ≠ g; omega)
  change Calls _ _ _ _ (fun e w' => e = .returned (.int .i64 (stepCode f [s, d])) ∧ _) at hbc
  have K0 := Keeps.of_below (g := g) (v := v) hb0
  rcases stepCode_cases f [s, d] with ⟨h0, _, _⟩ | h8 | h2
  · have hop : stepOf f [s, d] l (renameOp l s d) = renameOp l s d := by unfold stepOf; rw [if_pos h0]
    rw [hop]
    rw [h0] at hbc
    have HBC := Aside0.mk hbc
    have HK0 := Aside0.mk K0
    have HS := Aside0.mk hs
    clear hbc K0 hb0 hop h0 h hs
    unfold renameOp
    by_cases ht : there l s = true
    · rw [if_pos ht]
      have hlt := there_lt ht
      have HT := Aside0.mk ht
      clear ht
      by_cases hsd : s = d
      · rw [if_pos hsd]
        have hsd1 : (s.toList == d.toList) = true := by rw [hsd]; exact beq_self_eq_true _
        have hsd2 : decide (s.toList = d.toList) = true := decide_eq_true (by rw [hsd])
        have HSD := Aside0.mk hsd
        clear hsd
        go_enter Try.func70, Try.ntmps70
        go_wp2_with fail
        refine HBC.out.mono ?_
        rintro e w1 ⟨rfl, h1, k1⟩
        obtain ⟨A, c, rfl, hc, hC, hL⟩ := h1.lies
        have HF := Aside0.mk (find_call g A c l q _ s w1 hL hC hl HS.out)
        have H1 := Aside0.mk h1
        have K1 := Aside0.mk (HK0.out.trans k1 (.inl rfl))
        clear h1 k1 hC hL
        go_wp2_with fail
        refine HF.out.mono ?_
        rw [HT.out]
        rintro e w2 ⟨rfl, hb⟩
        go_wp2
        go_ret
        exact ⟨_, rfl, H1.out.below hb, K1.out.trans (Keeps.of_below hb) (.inl rfl)⟩
      · rw [if_neg hsd]
        have hsd1 : (s.toList == d.toList) = false := beq_eq_false_iff_ne.2 (fun e => hsd (toList_inj e))
        have hsd2 : decide (s.toList = d.toList) = false := decide_eq_false (fun e => hsd (toList_inj e))
        have HSD := Aside0.mk hsd
        clear hsd
        go_enter Try.func70, Try.ntmps70
        go_wp2_with fail
        refine HBC.out.mono ?_
        rintro e w1 ⟨rfl, h1, k1⟩
        obtain ⟨A, c, rfl, hc, hC, hL⟩ := h1.lies
        have HF := Aside0.mk (find_call g A c l q _ s w1 hL hC hl HS.out)
        have H1 := Aside0.mk h1
        have K1 := Aside0.mk (HK0.out.trans k1 (.inl rfl))
        clear h1 k1 hC hL
        go_wp2_with fail
        refine HF.out.mono ?_
        rw [HT.out]
        rintro e w2 ⟨rfl, hb⟩
        have h2 := H1.out.below hb
        have K2 := Aside0.mk (K1.out.trans (Keeps.of_below hb) (.inl rfl))
        obtain ⟨b, c', hv, hbb, e0, e1, e2, ez, es2, es1, es3⟩ := row_elem h2.row (pos l s) hlt
        injection hv with hv1 hv2 hv3
        subst hv1; subst hv3
        have H2 := Aside0.mk h2
        have hbg : b ≠ g := fun e => h2.own_ne (by rw [← e]; rfl)
        have hblt : b < w2.heap.size := Kd.R_lt h2.row b rfl
        have g0 := blk_cell h2.blk 0
        have b1 : Below w2.heap.size w2 (w2.alloc (.cells #[.string d, .string (rd_T52 l (pos l s : Int)).f1, .int .i64 (rd_T52 l (pos l s : Int)).f2] 52)) := (Below.refl _ _).alloc (Nat.le_refl _) _
        have h3 := h2.below b1
        have g3 := blk_cell h3.blk 0
        have HD := Aside0.mk (delete_call w0 _ w0.heap.size b c (pos l s) l h3.row hlt h3.bel h3.bel.size)
        have H3 := Aside0.mk h3
        have K3 := Aside0.mk (K2.out.trans (Keeps.of_below b1) (.inl rfl))
        have BX := Aside0.mk (heap_alloc_new w2 (.cells #[.string d, .string (rd_T52 l (pos l s : Int)).f1, .int .i64 (rd_T52 l (pos l s : Int)).f2] 52))
        have HNE := Aside0.mk (And.intro hbg hblt)
        clear h2 es1 es2 es3 ez hb hbb h3 b1 hbg hblt
        have hlt1 : ((pos l s : Nat) : Int) < (l.length : Int) := by omega
        have hp0 : 0 ≤ ((pos l s : Nat) : Int) := by omega
        have hpl : ((pos l s : Nat) : Int) + 1 ≤ 9223372036854775807 := by omega
        go_wp2_with fail
        refine HD.out.mono ?_
        rintro e w4 ⟨rfl, hr, hB, hsz, hbl⟩
        have hsz' : w2.heap.size + 1 ≤ w4.heap.size := by simpa using hsz
        have T := (hbl g (blk_lt H3.out.blk) (fun e => HNE.out.1 e.symm)).trans H3.out.blk
        have BX4 := (hbl w2.heap.size (by simp) (by have := HNE.out.2; omega)).trans BX.out
        have j0 := blk_cell T 0
        have j1 := blk_frozen T 0
        have h5 : FsAt w0 (w4.setCell ⟨g, 0, none⟩ (.slice (some ⟨b, 0, none⟩) (l.length - 1) c)) g (.slice (some ⟨b, 0, none⟩) (l.length - 1) c) (renRest l s) q (fuel' f) := FsAt.files (l := l) T hr hB H3.out.ge
        have hlr : (renRest l s).length = l.length - 1 := by unfold renRest; rw [List.length_eraseIdx_of_lt hlt]
        have hsr : Sorted (renRest l s) := sorted_rest HS.out _
        have hg2 : w2.heap.size ≠ g := by have := blk_lt H2.out.blk; omega
        have BX5 := Aside0.mk (blk_far (p := ⟨g, 0, none⟩) BX4 hg2 (.slice (some ⟨b, 0, none⟩) (l.length - 1) c))
        have K5 := Aside0.mk ((K3.out.trans (v1 := .slice (some ⟨b, 0, none⟩) l.length c) ⟨hsz, fun i hi hg hn => hbl i hi (fun e => hn (by rw [e]; rfl))⟩ (.inl rfl)).trans (v1 := .slice (some ⟨b, 0, none⟩) l.length c) (Keeps.setCell _ 0 (.slice (some ⟨b, 0, none⟩) (l.length - 1) c)) (.inl rfl))
        rw [← hlr] at h5 BX5 K5 ⊢
        have HF2 := Aside0.mk (show Calls Try.prog 74 #[.pointer (some ⟨g, 0, none⟩), .string d] (w4.setCell ⟨g, 0, none⟩ (.slice (some ⟨b, 0, none⟩) (renRest l s).length c)) (fun e w' => e = .returned (.tuple #[.int .i64 (pos (renRest l s) d : Int), .bool (there (renRest l s) d)]) ∧ Below (w4.setCell ⟨g, 0, none⟩ (.slice (some ⟨b, 0, none⟩) (renRest l s).length c)).heap.size (w4.setCell ⟨g, 0, none⟩ (.slice (some ⟨b, 0, none⟩) (renRest l s).length c)) w') from by
          obtain ⟨A', c', e', hc', hC', hL'⟩ := h5.lies
          injection e' with e1 e2 e3
          subst e1; subst e3
          exact find_call g _ c (renRest l s) q (fuel' f) d _ hL' hC' (by omega) hsr)
        have H5 := Aside0.mk h5
        have HLR := Aside0.mk (And.intro hlr (And.intro hsr hg2))
        clear h5 hr hB hsz hbl T BX4 hlr hsr hg2 hsz'
        have hnx : b ≠ w2.heap.size := by have := HNE.out.2; omega
        by_cases t2 : there (renRest l s) d = true
        · have hlt2 := there_lt t2
          rw [t2] at HF2
          have HT2 := Aside0.mk t2
          clear t2
          go_wp2_with fail
          refine HF2.out.mono ?_
          rintro e w6 ⟨rfl, hb6⟩
          have h6 := H5.out.below hb6
          have K6 := Aside0.mk (K5.out.trans (Keeps.of_below hb6) (.inl rfl))
          have BX6 := (hb6.block _ (blk_lt BX5.out)).trans BX5.out
          have x0 := blk_cell BX6 0
          have x1 := blk_cell BX6 1
          have x2 := blk_cell BX6 2
          have y0 := blk_cell h6.blk 0
          obtain ⟨bb, cc, hvv, _, f0, f1, f2, fz, _, _, fs3⟩ := row_elem h6.row (pos (renRest l s) d) hlt2
          injection hvv with hv1 hv2 hv3
          injection hv1 with hv1
          injection hv1 with hv1
          subst hv1; subst hv3
          have FS := Aside0.mk (fs3 (renFile l s d))
          have z0 : w6.frozen? ⟨b, pos (renRest l s) d * 3, none⟩ = false := fz 0
          have z1 := fz 1
          have z2 := fz 2
          have H6 := Aside0.mk h6
          have q1 : ((pos (renRest l s) d : Nat) : Int) < ((renRest l s).length : Int) := by omega
          have q0 : 0 ≤ ((pos (renRest l s) d : Nat) : Int) := by omega
          clear h6 hb6 BX6 fz fs3
          go_wp2_with fail
          go_region
          go_wp2
          go_ret
          refine ⟨.slice (some ⟨b, 0, none⟩) (renRest l s).length c, rfl, ?_, (((K6.out.trans (Keeps.put w6 g b l.length c _ _) (.inl rfl)).trans (Keeps.put _ g b l.length c _ _) (.inl rfl)).trans (Keeps.put _ g b l.length c _ _) (.inl rfl)).drew⟩
          unfold renOp
          rw [if_pos HT2.out]
          exact (H6.out.put3 HNE.out.1 FS.out).drew
        · have HT2 := Aside0.mk t2
          rw [Bool.eq_false_iff.2 t2] at HF2
          have hpl2 : pos (renRest l s) d ≤ (renRest l s).length := List.countP_le_length
          clear t2
          go_wp2_with fail
          refine HF2.out.mono ?_
          rintro e w6 ⟨rfl, hb6⟩
          have h6 := H5.out.below hb6
          have K6 := Aside0.mk (K5.out.trans (Keeps.of_below hb6) (.inl rfl))
          have BX6 := (hb6.block _ (blk_lt BX5.out)).trans BX5.out
          have x0 := blk_cell BX6 0
          have x1 := blk_cell BX6 1
          have x2 := blk_cell BX6 2
          have y0 := blk_cell h6.blk 0
          have y6 := h6.blk
          have HX6 := Aside0.mk BX6
          have b7 : Below w6.drew.heap.size w6.drew (w6.drew.alloc (.cells #[.string d, .string (rd_T52 l (pos l s : Int)).f1, .int .i64 (rd_T52 l (pos l s : Int)).f2] 52)) := (Below.refl _ _).alloc (Nat.le_refl _) _
          have h7 := h6.drew.below b7
          have HI := Aside0.mk (insert_call w0 _ w0.heap.size w6.heap.size c (pos (renRest l s) d) (some ⟨b, 0, none⟩) (renRest l s) (renFile l s d) h7.row h7.bel h7.bel.size (by have := HLR.out.1; omega) hpl2 (heap_alloc_new w6.drew _) (fun ad ha => by
            injection ha with ha
            subst ha
            have := Kd.R_lt h6.row b rfl
            show b ≠ w6.heap.size
            omega))
          have BX7 := Aside0.mk ((b7.block _ (blk_lt (blk_drew BX6))).trans (blk_drew BX6))
          have H7 := Aside0.mk h7
          have K7 := Aside0.mk (K6.out.drew.trans (Keeps.of_below b7) (.inl rfl))
          have y7 := blk_cell h7.blk 0
          clear h6 hb6 BX6 h7 b7
          go_wp2_with fail
          have HY := Aside0.mk y6
          clear y0 y6 y7 x0 x1 x2
          refine start_ (n := 12) (S := fun w' => w'.cell? ⟨g, 0, none⟩ = some (.slice (some ⟨b, 0, none⟩) (renRest l s).length c) ∧ w'.cell? ⟨w2.heap.size, 0, none⟩ = some (.string d) ∧ w'.cell? ⟨w2.heap.size, 1, none⟩ = some (.string (rd_T52 l (pos l s : Int)).f1) ∧ w'.cell? ⟨w2.heap.size, 2, none⟩ = some (.int .i64 (rd_T52 l (pos l s : Int)).f2)) (ds := [11]) #[false, false, false, false, false, false, false, false, false, false, false, false] (by kernel_rfl) rfl rfl ⟨(blk_cell (blk_drew HY.out) 0).trans rfl, (blk_cell (blk_drew HX6.out) 0).trans rfl, (blk_cell (blk_drew HX6.out) 1).trans rfl, (blk_cell (blk_drew HX6.out) 2).trans rfl⟩ (fun hHeld => ?_)
          refine pure_ (i := 0) (N := some 66) (v := ?_) (a' := ?_) #[true, false, false, false, false, false, false, false, false, false, false, false] rfl rfl (by kernel_rfl) (fun _ _ _ h => h) (Or.inl ⟨by rfl, ?_⟩) ?_ ?_
          rotate_left
          · intro w'
            go_simp
            with_reducible rfl
          rotate_left
          · simp only [Act.put, List.setIfInBounds_toArray, List.set_cons_zero, List.set_cons_succ, i64_w, i32_w]
            rfl
          refine pure_ (i := 1) (N := some 67) (v := ?_) (a' := ?_) #[true, true, false, false, false, false, false, false, false, false, false, false] rfl rfl (by kernel_rfl) (fun _ _ _ h => h) (Or.inl ⟨by rfl, ?_⟩) ?_ ?_
          rotate_left
          · intro w'
            go_simp
            with_reducible rfl
          rotate_left
          · simp only [Act.put, List.setIfInBounds_toArray, List.set_cons_zero, List.set_cons_succ, i64_w, i32_w]
            rfl
          refine pure_ (i := 2) (N := some 68) (v := ?_) (a' := ?_) #[true, true, true, false, false, false, false, false, false, false, false, false] rfl rfl (by kernel_rfl) (fun _ _ _ h => h) (Or.inl ⟨by rfl, ?_⟩) ?_ ?_
          rotate_left
          · intro w'
            go_simp
            with_reducible rfl
          rotate_left
          · simp only [Act.put, List.setIfInBounds_toArray, List.set_cons_zero, List.set_cons_succ, i64_w, i32_w]
            rfl
          refine pure_ (i := 3) (N := some 69) (v := ?_) (a' := ?_) #[true, true, true, true, false, false, false, false, false, false, false, false] rfl rfl (by kernel_rfl) (fun _ _ _ h => h) (Or.inl ⟨by rfl, ?_⟩) ?_ ?_
          rotate_left
          · intro w'
            go_simp
            with_reducible rfl
          rotate_left
          · simp only [Act.put, List.setIfInBounds_toArray, List.set_cons_zero, List.set_cons_succ, i64_w, i32_w]
            rfl
          refine pure_ (i := 5) (N := some 71) (v := ?_) (a' := ?_) #[true, true, true, true, false, true, false, false, false, false, false, false] rfl rfl (by kernel_rfl) (fun _ _ _ h => h) (Or.inl ⟨by rfl, ?_⟩) ?_ ?_
          rotate_left
          · intro w'
            go_simp
            with_reducible rfl
          rotate_left
          · simp only [Act.put, List.setIfInBounds_toArray, List.set_cons_zero, List.set_cons_succ, i64_w, i32_w]
            rfl
          refine take_ (i := 4) (N := some 70) (v := ?_) (a' := ?_) #[true, true, true, true, true, true, false, false, false, false, false, false] rfl rfl (by kernel_rfl) (fun _ _ _ h => h) (Or.inl ⟨by rfl, ?_⟩) hHeld ?_ ?_
          rotate_left
          · rintro w' ⟨s0, s1, s2, s3⟩
            go_simp
            with_reducible rfl
          rotate_left
          · simp only [Act.put, List.setIfInBounds_toArray, List.set_cons_zero, List.set_cons_succ, i64_w, i32_w]
            rfl
          refine take_ (i := 6) (N := some 72) (v := ?_) (a' := ?_) #[true, true, true, true, true, true, true, false, false, false, false, false] rfl rfl (by kernel_rfl) (fun _ _ _ h => h) (Or.inl ⟨by rfl, ?_⟩) hHeld ?_ ?_
          rotate_left
          · rintro w' ⟨s0, s1, s2, s3⟩
            go_simp
            with_reducible rfl
          rotate_left
          · simp only [Act.put, List.setIfInBounds_toArray, List.set_cons_zero, List.set_cons_succ, i64_w, i32_w]
            rfl
          refine one_ (i := 7) (N := some 73) #[true, true, true, true, true, true, true, true, false, false, false, false] rfl rfl (by kernel_rfl) (by decide) (fun K hK => ?_)
          refine value_ (w1 := ?_) (v := ?_) (by rfl) rfl ?_ ?_
          rotate_left 2
          · go_simp
            constructor
            · rfl
            · rfl
          refine hK.out _ _ ⟨(blk_cell (blk_alloc (blk_drew HY.out) _) 0).trans rfl, (blk_cell (blk_alloc (blk_drew HX6.out) _) 0).trans rfl, (blk_cell (blk_alloc (blk_drew HX6.out) _) 1).trans rfl, (blk_cell (blk_alloc (blk_drew HX6.out) _) 2).trans rfl⟩ (fun hHeld => ?_)
          clear hK K
          refine norm_ (a' := ?_) ?_ ?_
          rotate_left
          · show Act.put _ (some 73) _ = _
            simp only [Act.put, List.setIfInBounds_toArray, List.set_cons_zero, List.set_cons_succ, i64_w, i32_w]
            rfl
          refine one_ (i := 8) (N := some 74) #[true, true, true, true, true, true, true, true, true, false, false, false] rfl rfl (by kernel_rfl) (by decide) (fun K hK => ?_)
          refine goes_ Try.func83 (by kernel_rfl) rfl #[.slice (some ⟨b, 0, none⟩) (renRest l s).length c, .int .i64 (pos (renRest l s) d : Int), .slice (some ⟨w6.heap.size, 0, none⟩) 1 1] (by rfl) rfl rfl (by simp only [List.map_toArray, List.map_cons, List.map_nil]; rfl) ?_
          refine (HI.out).mono ?_
          rintro e w8 ⟨v', rfl, hR, hB, hsz, hbl⟩
          refine ⟨_, rfl, ?_⟩
          obtain ⟨A', c', hv'⟩ := Kd.R_slice hR
          generalize ((renRest l s).take (pos (renRest l s) d) ++ (renFile l s d) :: (renRest l s).drop (pos (renRest l s) d)).length = n' at hv'
          subst hv'
          have T := (hbl g (blk_lt H7.out.blk) H7.out.own_ne).trans H7.out.blk
          have BX8 := Aside0.mk ((hbl w2.heap.size (blk_lt BX7.out) (fun e => hnx (by injection e with e; exact e.symm))).trans BX7.out)
          have HT8 := Aside0.mk T
          have HR8 := Aside0.mk hR
          have HB8 := Aside0.mk hB
          have HK8 := Aside0.mk (And.intro hsz hbl)
          clear T hR hB hsz hbl
          refine hK.out _ _ ⟨(blk_cell HT8.out 0).trans rfl, (blk_cell BX8.out 0).trans rfl, (blk_cell BX8.out 1).trans rfl, (blk_cell BX8.out 2).trans rfl⟩ (fun hHeld => ?_)
          clear hK K
          refine norm_ (a' := ?_) ?_ ?_
          rotate_left
          · show Act.put _ (some 74) _ = _
            simp only [Act.put, List.setIfInBounds_toArray, List.set_cons_zero, List.set_cons_succ, i64_w, i32_w]
            rfl
          refine pure_ (i := 9) (N := some 75) (v := ?_) (a' := ?_) #[true, true, true, true, true, true, true, true, true, true, false, false] rfl rfl (by kernel_rfl) (fun _ _ _ h => h) (Or.inl ⟨by rfl, ?_⟩) ?_ ?_
          rotate_left
          · intro w'
            go_simp
            with_reducible rfl
          rotate_left
          · simp only [Act.put, List.setIfInBounds_toArray, List.set_cons_zero, List.set_cons_succ, i64_w, i32_w]
            rfl
          refine pure_ (i := 10) (N := some 76) (v := ?_) (a' := ?_) #[true, true, true, true, true, true, true, true, true, true, true, false] rfl rfl (by kernel_rfl) (fun _ _ _ h => h) (Or.inl ⟨by rfl, ?_⟩) ?_ ?_
          rotate_left
          · intro w'
            go_simp
            with_reducible rfl
          rotate_left
          · simp only [Act.put, List.setIfInBounds_toArray, List.set_cons_zero, List.set_cons_succ, i64_w, i32_w]
            rfl
          refine last_ (i := 11) (N := none) #[true, true, true, true, true, true, true, true, true, true, true, true] rfl rfl (by kernel_rfl) (by decide) (fun K hK => ?_)
          have j0 := blk_cell HT8.out 0
          have j1 := blk_frozen HT8.out 0
          refine skip_ (w1 := ?_) (by rfl) rfl ?_ ?_
          rotate_left
          · go_simp
            rfl
          refine hK.out _ _ ?_
          clear hK K
          refine done_ (by kernel_rfl) ?_
          go_wp2
          go_ret
          refine ⟨.slice A' n' c', rfl, ?_, ?_⟩
          · unfold renOp
            rw [if_neg HT2.out]
            exact FsAt.files (l := renRest l s) HT8.out HR8.out HB8.out H5.out.ge
          · exact (K7.out.trans (v1 := .slice (some ⟨b, 0, none⟩) (renRest l s).length c) ⟨HK8.out.1, fun i hi hg hn => HK8.out.2 i hi hn⟩ (.inl rfl)).trans (v1 := .slice (some ⟨b, 0, none⟩) (renRest l s).length c) (Keeps.setCell _ 0 _) (.inl rfl)
    · rw [if_neg ht]
      have ht := Bool.eq_false_iff.2 ht
      have HT := Aside0.mk ht
      clear ht
      go_enter Try.func70, Try.ntmps70
      go_wp2_with fail
      refine HBC.out.mono ?_
      rintro e w1 ⟨rfl, h1, k1⟩
      obtain ⟨A, c, rfl, hc, hC, hL⟩ := h1.lies
      have HF := Aside0.mk (find_call g A c l q _ s w1 hL hC hl HS.out)
      have H1 := Aside0.mk h1
      have K1 := Aside0.mk (HK0.out.trans k1 (.inl rfl))
      clear h1 k1 hC hL
      go_wp2_with fail
      refine HF.out.mono ?_
      rw [HT.out]
      rintro e w2 ⟨rfl, hb⟩
      go_wp2
      go_ret
      exact ⟨_, rfl, H1.out.below hb, K1.out.trans (Keeps.of_below hb) (.inl rfl)⟩
  · have hop : stepOf f [s, d] l (renameOp l s d) = (l, 8) := by unfold stepOf; rw [h8, if_neg (by omega)]
    rw [hop]
    rw [h8] at hbc
    have HBC := Aside0.mk hbc
    have HK0 := Aside0.mk K0
    clear hbc K0 hb0 hop h8 h hs
    go_enter Try.func70, Try.ntmps70
    go_wp2_with fail
    refine HBC.out.mono ?_
    rintro e w1 ⟨rfl, h1, k1⟩
    go_wp2
    go_ret
    exact ⟨_, rfl, h1, HK0.out.trans k1 (.inl rfl)⟩
  · have hop : stepOf f [s, d] l (renameOp l s d) = (l, 2) := by unfold stepOf; rw [h2, if_neg (by omega)]
    rw [hop]
    rw [h2] at hbc
    have HBC := Aside0.mk hbc
    have HK0 := Aside0.mk K0
    clear hbc K0 hb0 hop h2 h hs
    go_enter Try.func70, Try.ntmps70
    go_wp2_with fail
    refine HBC.out.mono ?_
    rintro e w1 ⟨rfl, h1, k1⟩
    go_wp2
    go_ret
    exact ⟨_, rfl, h1, HK0.out.trans k1 (.inl rfl)⟩
end Go.Proofs.Ytbppijlcmeidaaa.M
end
section
/- What a step answers, in one form for all five. -/
namespace Go.Proofs.Ytbppijlcmeidaaa.M
open Go.RowKit Go.Proofs.Ytbppijlcmeidaaa.P Go.Proofs.YtbppijlcmeidaaaW.PrintWords Go.Proofs.YtbppijlcmeidaaaW.PrintLast Go.Proofs.YtbppijlcmeidaaaW.PrintMore
/-- The directory and the code behind a step whose files and code, for a valid directory, are r. -/
def fsRes (l : List S52) (q f : Int) (r : List S52 × Int) : List S52 × Int × Int × Int := if validB l q f = true then (r.1, q, fuel' f, r.2) else ([], 0, 0, 9)
def syncRes (l : List S52) (f : Int) (s : ByteArray) : List S52 × Int := stepOf f [s] l (syncOp l s)
end Go.Proofs.Ytbppijlcmeidaaa.M
end
section
/- The program's FsRename, walked, and its closure. Condition: the sizes of the Data add up to a number of 63 bits. -/
namespace Go.Proofs.Ytbppijlcmeidaaa.M
open Go.RowKit Go.Proofs.Ytbppijlcmeidaaa.P Go.Proofs.YtbppijlcmeidaaaW.PrintWords Go.Proofs.YtbppijlcmeidaaaW.PrintLast Go.Proofs.YtbppijlcmeidaaaW.PrintMore
set_option linter.unusedVariables false

set_option maxRecDepth 100000 in
set_option maxHeartbeats 1000000 in
theorem renameCl_call (w0 w : World) (g : Nat) (v : Value) (l : List S52) (q f : Int) (s : ByteArray) (d : ByteArray) (nb0 : Nat) (nb1 : Nat) (h : FsAt w0 w g v l q f) (hf : -1 ≤ f) (hf2 : f ≤ 9223372036854775807) (hl : l.length ≤ 200) (hs : Sorted l) (hn0 : w.cell? ⟨nb0, 0, none⟩ = some (.string s)) (hn1 : w.cell? ⟨nb1, 0, none⟩ = some (.string d)) :
    Calls Try.prog 69 #[.pointer (some ⟨g, 0, none⟩), .pointer (some ⟨nb0, 0, none⟩), .pointer (some ⟨nb1, 0, none⟩)] w fun e w' => Stepped w0 w g v (renameRes l f s d) q f e w' := by
  have HC := Aside0.mk (rename_call w0 w g v l q f s d h hf hf2 hl hs)
  clear h hs
  go_enter Try.func69, Try.ntmps69
  go_wp2_with fail
  refine HC.out.mono ?_
  rintro e w1 ⟨v', rfl, h1, h2⟩
  go_wp2
  go_ret
  exact ⟨v', rfl, h1, h2⟩


set_option maxRecDepth 100000 in
set_option maxHeartbeats 4000000 in
theorem renameStep_call (A : Option Addr) (c : Nat) (l : List S52) (q f : Int) (s : ByteArray) (d : ByteArray) (nb0 : Nat) (nb1 : Nat) (w : World) (hr : Kd.C k52 w A l.length l) (hc : l.length ≤ c) (ht : ValidFits l) (hf2 : f ≤ 9223372036854775807) (hn0 : w.cell? ⟨nb0, 0, none⟩ = some (.string s)) (hn1 : w.cell? ⟨nb1, 0, none⟩ = some (.string d)) :
    Calls Try.prog 55 #[.agg #[.slice A l.length c, .int .i64 q, .int .i64 f], .func (.func 69) #[] #[.pointer (some ⟨nb0, 0, none⟩), .pointer (some ⟨nb1, 0, none⟩)]] w fun e w' => ∃ v, e = .returned (.tuple #[.agg #[v, .int .i64 (fsRes l q f (renameRes l f s d)).2.1, .int .i64 (fsRes l q f (renameRes l f s d)).2.2.1], .int .i64 (fsRes l q f (renameRes l f s d)).2.2.2]) ∧ Kd.R k52 52 w' w.heap.size (fun _ => True) v (fsRes l q f (renameRes l f s d)).1 ∧ Below w.heap.size w w' := by
  have hu29 := Try.underlying29
  have HR := Aside0.mk hr
  have b0 : Below w.heap.size w ((w.alloc (.cells #[.slice A l.length c, .int .i64 q, .int .i64 f] 29)).alloc (.cells #[.slice none 0 0, .int .i64 0, .int .i64 0] 29)) := ((Below.refl _ _).alloc (Nat.le_refl _) _).alloc (by simp) _
  have hv := valid_any A c l q f _ (Kd.C_below hr b0) hc ht
  have HB0 := Aside0.mk b0
  unfold fsRes
  by_cases h : validB l q f = true
  · rw [if_pos h]
    rw [h] at hv
    have HV := Aside0.mk hv
    have HL := Aside0.mk h
    have HN := Aside0.mk (show w.cell? ⟨nb0, 0, none⟩ = some (.string s) ∧ w.cell? ⟨nb1, 0, none⟩ = some (.string d) from ⟨hn0, hn1⟩)
    clear hv hr hc ht h b0 hn0 hn1
    go_enter Try.func55, Try.ntmps55
    go_wp2_with fail
    refine HV.out.mono ?_
    rintro e w1 ⟨rfl, hb⟩
    have s1 := hb.size
    simp only [World.size_alloc] at s1
    have HB := Aside0.mk (HB0.out.trans (hb.mono (by simp; omega)))
    have B0 : w1.heap[w.heap.size]? = some (.cells #[.slice A l.length c, .int .i64 q, .int .i64 f] 29 (0, 0)) := (hb.block _ (by simp; omega)).trans (blk_alloc (heap_alloc_new _ _) _)
    have B1 : w1.heap[w.heap.size + 1]? = some (.cells #[.slice none 0 0, .int .i64 0, .int .i64 0] 29 (0, 0)) := by
      have := (hb.block (w.alloc (.cells #[.slice A l.length c, .int .i64 q, .int .i64 f] 29)).heap.size (by simp)).trans (heap_alloc_new _ _)
      simpa using this
    have c00 := blk_cell B0 0
    have c01 := blk_cell B0 1
    have c02 := blk_cell B0 2
    have HC := Aside0.mk (copyFS_call A c l q f w1 (Kd.C_below HR.out HB.out) (valid_parts HL.out).1)
    have HB1 := Aside0.mk B1
    clear B0 B1 hb
    go_wp2_with fail
    refine HC.out.mono ?_
    rintro e w2 ⟨v, rfl, hR, hb⟩
    obtain ⟨A', c', rfl⟩ := Kd.R_slice hR
    have s2 := hb.size
    have HB2 := Aside0.mk (HB.out.trans (hb.mono (by omega)))
    have HB3 := Aside0.mk (HB2.out.alloc HB2.out.size (.cells #[.slice A' l.length c', .int .i64 q, .int .i64 f] 29))
    have HB4 := Aside0.mk ((hb.block _ (blk_lt HB1.out)).trans HB1.out)
    have HF := Aside0.mk (show FsAt w (w2.alloc (.cells #[.slice A' l.length c', .int .i64 q, .int .i64 f] 29)) w2.heap.size (.slice A' l.length c') l q f from
      ⟨heap_alloc_new _ _, Kd.R_lower (Kd.R_alloc hR _) HB.out.size, HB3.out, HB2.out.size⟩)
    have HCL := Aside0.mk (renameCl_call w _ w2.heap.size _ l q f s d nb0 nb1 HF.out (valid_parts HL.out).2.2.2.1 hf2 (valid_parts HL.out).1 (valid_sorted HL.out) ((HB3.out.cell (World.block_lt_of_cell? w _ HN.out.1)).trans HN.out.1) ((HB3.out.cell (World.block_lt_of_cell? w _ HN.out.2)).trans HN.out.2))
    clear hb hR c00 c01 c02
    go_wp2_with fail
    refine HCL.out.mono ?_
    rintro e w3 ⟨v3, rfl, h3, k3⟩
    obtain ⟨A3, c3, rfl⟩ := Kd.R_slice h3.row
    have T4 := Aside0.mk (show w3.heap[w.heap.size + 1]? = some (.cells #[.slice none 0 0, .int .i64 0, .int .i64 0] 29 (0, 0)) from
      (k3.block (w.heap.size + 1) (by have := blk_lt HB4.out; simp; omega) (by have := blk_lt HB4.out; omega) (Kd.R_ne HF.out.row (blk_alloc HB4.out _) (by decide))).trans (blk_alloc HB4.out _))
    have d0 := blk_cell h3.blk 0
    have d1 := blk_cell h3.blk 1
    have d2 := blk_cell h3.blk 2
    have e0 := blk_cell T4.out 0
    have e1 := blk_cell T4.out 1
    have e2 := blk_cell T4.out 2
    have k0 := blk_frozen T4.out 0
    have k1 := blk_frozen T4.out 1
    have k2 := blk_frozen T4.out 2
    have H3 := Aside0.mk h3
    clear h3 k3
    go_wp2
    refine bodyPost_ret (results_list (rs := [.cell 4 29, .tmp 5]) rfl (by simp) (.cell (w.heap.size + 1) 29 #[.slice A3 (renameRes l f s d).1.length c3, .int .i64 q, .int .i64 (fuel' f)] (0, 0) _ rfl ?_ hu29 rfl (by kernel_rfl) (.tmp .nil))) rfl ⟨_, rfl, ?_, ?_⟩
    · exact blk_put (blk_put (blk_put T4.out 0 _ rfl) 1 _ rfl) 2 _ rfl
    · exact Kd.R_set (Kd.R_set (Kd.R_set H3.out.row T4.out h52 0 _) (blk_set T4.out _ _) h52 1 _) (blk_set (blk_set T4.out _ _) _ _) h52 2 _
    · exact ((H3.out.bel.setCell (by simp) _).setCell (by simp) _).setCell (by simp) _
  · rw [if_neg h]
    rw [Bool.eq_false_iff.2 h] at hv
    have HV := Aside0.mk hv
    clear hv hr hc ht h b0 hn0 hn1
    go_enter Try.func55, Try.ntmps55
    go_wp2_with fail
    refine HV.out.mono ?_
    rintro e w1 ⟨rfl, hb⟩
    have s1 := hb.size
    simp only [World.size_alloc] at s1
    have HB := Aside0.mk (HB0.out.trans (hb.mono (by simp; omega)))
    have B1 : w1.heap[w.heap.size + 1]? = some (.cells #[.slice none 0 0, .int .i64 0, .int .i64 0] 29 (0, 0)) := by
      have := (hb.block (w.alloc (.cells #[.slice A l.length c, .int .i64 q, .int .i64 f] 29)).heap.size (by simp)).trans (heap_alloc_new _ _)
      simpa using this
    have e0 := blk_cell B1 0
    have e1 := blk_cell B1 1
    have e2 := blk_cell B1 2
    have k0 := blk_frozen B1 0
    have k1 := blk_frozen B1 1
    have k2 := blk_frozen B1 2
    have T4 := Aside0.mk B1
    clear B1 hb
    go_wp2
    refine bodyPost_ret (results_list (rs := [.cell 4 29, .tmp 5]) rfl (by simp) (.cell (w.heap.size + 1) 29 #[.slice none 0 0, .int .i64 0, .int .i64 0] (0, 0) _ rfl ?_ hu29 rfl (by kernel_rfl) (.tmp .nil))) rfl ⟨_, rfl, Kd.R_nil _ _ _ _ _, ?_⟩
    · exact blk_put (blk_put (blk_put T4.out 0 _ rfl) 1 _ rfl) 2 _ rfl
    · exact ((HB.out.setCell (by simp) _).setCell (by simp) _).setCell (by simp) _


set_option maxRecDepth 100000 in
set_option maxHeartbeats 4000000 in
theorem fsRename_call (A : Option Addr) (c : Nat) (l : List S52) (q f : Int) (s : ByteArray) (d : ByteArray) (w : World) (hr : Kd.C k52 w A l.length l) (hc : l.length ≤ c) (ht : ValidFits l) (hf2 : f ≤ 9223372036854775807) :
    Calls Try.prog 38 #[.agg #[.slice A l.length c, .int .i64 q, .int .i64 f], .string s, .string d] w fun e w' => ∃ v, e = .returned (.tuple #[.agg #[v, .int .i64 (fsRes l q f (renameRes l f s d)).2.1, .int .i64 (fsRes l q f (renameRes l f s d)).2.2.1], .int .i64 (fsRes l q f (renameRes l f s d)).2.2.2]) ∧ Kd.R k52 52 w' w.heap.size (fun _ => True) v (fsRes l q f (renameRes l f s d)).1 ∧ Below w.heap.size w w' := by
  have hu29 := Try.underlying29
  have b0 : Below w.heap.size w ((((w.alloc (.cells #[.slice A l.length c, .int .i64 q, .int .i64 f] 29)).alloc (.cells #[.string s] 9)).alloc (.cells #[.string d] 9)).alloc (.cells #[.slice none 0 0, .int .i64 0, .int .i64 0] 29)) := (((((Below.refl _ _).alloc (Nat.le_refl _) _).alloc (by simp) _).alloc (by simp; omega) _).alloc (by simp; omega) _)
  have T := heap_alloc_new (((w.alloc (.cells #[.slice A l.length c, .int .i64 q, .int .i64 f] 29)).alloc (.cells #[.string s] 9)).alloc (.cells #[.string d] 9)) (.cells #[.slice none 0 0, .int .i64 0, .int .i64 0] 29)
  have HC := Aside0.mk (renameStep_call A c l q f s d (w.heap.size + 1) (w.heap.size + 2) ((((w.alloc (.cells #[.slice A l.length c, .int .i64 q, .int .i64 f] 29)).alloc (.cells #[.string s] 9)).alloc (.cells #[.string d] 9)).alloc (.cells #[.slice none 0 0, .int .i64 0, .int .i64 0] 29)) (Kd.C_below hr b0) hc ht hf2 ((blk_cell (blk_alloc (blk_alloc (show (((w.alloc (.cells #[.slice A l.length c, .int .i64 q, .int .i64 f] 29)).alloc (.cells #[.string s] 9))).heap[w.heap.size + 1]? = some (.cells #[.string s] 9 (0, 0)) from by have := heap_alloc_new (w.alloc (.cells #[.slice A l.length c, .int .i64 q, .int .i64 f] 29)) (.cells #[.string s] 9); simpa using this) _) _) 0).trans rfl) ((blk_cell (blk_alloc (show ((((w.alloc (.cells #[.slice A l.length c, .int .i64 q, .int .i64 f] 29)).alloc (.cells #[.string s] 9)).alloc (.cells #[.string d] 9))).heap[w.heap.size + 2]? = some (.cells #[.string d] 9 (0, 0)) from by have := heap_alloc_new ((w.alloc (.cells #[.slice A l.length c, .int .i64 q, .int .i64 f] 29)).alloc (.cells #[.string s] 9)) (.cells #[.string d] 9); simpa using this) _) 0).trans rfl))
  have HB0 := Aside0.mk b0
  have HT := Aside0.mk T
  generalize fsRes l q f (renameRes l f s d) = r at HC ⊢
  clear hr hc ht b0 T
  go_enter Try.func38, Try.ntmps38
  go_wp2_with fail
  refine HC.out.mono ?_
  rintro e w1 ⟨v, rfl, hR, hb⟩
  obtain ⟨A', c', rfl⟩ := Kd.R_slice hR
  have s1 := hb.size
  simp only [World.size_alloc] at s1
  have T4 := Aside0.mk (show w1.heap[w.heap.size + 3]? = some (.cells #[.slice none 0 0, .int .i64 0, .int .i64 0] 29 (0, 0)) from by
    have := (hb.block _ (blk_lt HT.out)).trans HT.out
    simpa using this)
  have e0 := blk_cell T4.out 0
  have e1 := blk_cell T4.out 1
  have e2 := blk_cell T4.out 2
  have k0 := blk_frozen T4.out 0
  have k1 := blk_frozen T4.out 1
  have k2 := blk_frozen T4.out 2
  have HR := Aside0.mk hR
  have HB := Aside0.mk (HB0.out.trans (hb.mono HB0.out.size))
  clear hR hb
  go_wp2
  refine bodyPost_ret (results_list (rs := [.cell 6 29, .tmp 7]) rfl (by simp) (.cell (w.heap.size + 3) 29 #[.slice A' r.1.length c', .int .i64 r.2.1, .int .i64 r.2.2.1] (0, 0) _ rfl ?_ hu29 rfl (by kernel_rfl) (.tmp .nil))) rfl ⟨_, rfl, ?_, ?_⟩
  · exact blk_put (blk_put (blk_put T4.out 0 _ rfl) 1 _ rfl) 2 _ rfl
  · exact Kd.R_lower (Kd.R_set (Kd.R_set (Kd.R_set HR.out T4.out h52 0 _) (blk_set T4.out _ _) h52 1 _) (blk_set (blk_set T4.out _ _) _ _) h52 2 _) HB0.out.size
  · exact ((HB.out.setCell (by show w.heap.size ≤ w.heap.size + 3; omega) _).setCell (by show w.heap.size ≤ w.heap.size + 3; omega) _).setCell (by show w.heap.size ≤ w.heap.size + 3; omega) _
end Go.Proofs.Ytbppijlcmeidaaa.M
end
section
-- Written by a changed copy of the print program, one module a function. Not trusted: Lean checks it.
namespace Go.Proofs.Ytbppijlcmeidaaa.P
open Go.RowKit Go.Proofs.YtbppijlcmeidaaaW.PrintWords Go.Proofs.YtbppijlcmeidaaaW.PrintLast Go.Proofs.YtbppijlcmeidaaaW.PrintMore
attribute [local go_sem] max2_int min2_int max_two min_two max_three min_three max_four min_four   -- for this text's walks alone
set_option linter.unusedVariables false
set_option linter.unusedSimpArgs false

/-! ### impl_FsRename: function 38 -/
def impl_FsRename.f (l0_0 : List (S52)) (a0_1 : Int) (a0_2 : Int) (a1 : ByteArray) (a2 : ByteArray) : Option ((List (S52)) × Int × Int × Int) := if (l0_0.length ≤ 200 → M.total l0_0 ≤ 9223372036854775000) ∧ a0_2 ≤ 9223372036854775807 then some (M.fsRes l0_0 a0_1 a0_2 (M.renameRes l0_0 a0_2 a1 a2)) else none

theorem impl_FsRename.calls (A0_0 : Option Addr) (c0_0 : Nat) (l0_0 : List (S52)) (a0_1 : Int) (a0_2 : Int) (a1 : ByteArray) (a2 : ByteArray) (r1 : List (S52)) (r2 : Int) (r3 : Int) (r4 : Int) (w : World) (hr0_0 : Kd.C k52 w A0_0 l0_0.length l0_0) (hc0_0 : l0_0.length ≤ c0_0) (h : impl_FsRename.f l0_0 a0_1 a0_2 a1 a2 = some (r1, r2, r3, r4)) :
  Calls Try.prog 38 #[.agg #[.slice A0_0 l0_0.length c0_0, .int .i64 a0_1, .int .i64 a0_2], .string a1, .string a2] w fun e w' => ∃ v0_ : Value, e = .returned (.tuple #[.agg #[v0_, .int .i64 r2, .int .i64 r3], .int .i64 r4]) ∧ Kd.R k52 52 w' w.heap.size (fun _ => True) v0_ r1 ∧ Below w.heap.size w w' := by
 by_cases c : (l0_0.length ≤ 200 → M.total l0_0 ≤ 9223372036854775000) ∧ a0_2 ≤ 9223372036854775807
 ·unfold impl_FsRename.f at h
  rw [if_pos c] at h
  have e := Option.some.inj h
  have h1 := M.fsRename_call A0_0 c0_0 l0_0 a0_1 a0_2 a1 a2 w hr0_0 hc0_0 c.1 c.2
  rw [e] at h1
  exact h1
 ·unfold impl_FsRename.f at h
  rw [if_neg c] at h
  cases h

end Go.Proofs.Ytbppijlcmeidaaa.P
end
section
-- Written by a changed copy of the print program, one module a function. Not trusted: Lean checks it.
namespace Go.Proofs.Ytbppijlcmeidaaa.P
open Go.RowKit Go.Proofs.YtbppijlcmeidaaaW.PrintWords Go.Proofs.YtbppijlcmeidaaaW.PrintLast Go.Proofs.YtbppijlcmeidaaaW.PrintMore
attribute [local go_sem] max2_int min2_int max_two min_two max_three min_three max_four min_four   -- for this text's walks alone
set_option linter.unusedVariables false
set_option linter.unusedSimpArgs false

/-! ### laws_markText: function 76 -/
def laws_markText.l0 : Nat → Int → ByteArray → Option (ByteArray)
 | 0, _, _ => none
 | k + 1, x0, x3 => if x0 > 0 then ((some (([(wrap64 (48 + (Int.tmod x0 10))) % 256] : List Int) : List Int)).bind fun y225 => (if (strOfNums y225).size + x3.size ≤ 9223372036854775807 then (laws_markText.l0 k (wrap64 (Int.tdiv x0 10)) ((strOfNums y225) ++ x3)) else (none))) else (if 1 + x3.size ≤ 9223372036854775807 then (some ((⟨#[109]⟩ : ByteArray) ++ x3)) else (none))
def laws_markText.f (k : Nat) (a0 : Int) : Option (ByteArray) := if a0 ≤ 0 then (some (⟨#[109, 48]⟩ : ByteArray)) else (laws_markText.l0 k a0 (⟨#[]⟩ : ByteArray))
theorem laws_markText.mono_l : ∀ k, (∀ y0 y1, LeO (laws_markText.l0 k y0 y1) (laws_markText.l0 (k + 1) y0 y1))
 | 0 => fun _ _ r h => by simp [laws_markText.l0] at h
 | k + 1 => by
  have ih0 := laws_markText.mono_l k
  ·intro y0 y1
   unfold laws_markText.l0
   repeat' first
   | (with_reducible exact ih0 _ _)
   | (with_reducible exact LeO.refl _)
   | (with_reducible exact LeO.none _)
   | (with_reducible refine LeO.ite ?_ ?_)
   | (with_reducible refine LeO.bind ?_ (fun _ => ?_))
   | exact ih0 _ _
   | exact LeO.none _
   | refine LeO.ite ?_ ?_
   | refine LeO.bind ?_ (fun _ => ?_)
theorem laws_markText.mono : ∀ a0 k, LeO (laws_markText.f k a0) (laws_markText.f (k + 1) a0) := by
 intro a0 k
 have ih0 := laws_markText.mono_l k
 unfold laws_markText.f
 repeat' first
   | (with_reducible exact ih0 _ _)
   | (with_reducible exact LeO.refl _)
   | (with_reducible exact LeO.none _)
   | (with_reducible refine LeO.ite ?_ ?_)
   | (with_reducible refine LeO.bind ?_ (fun _ => ?_))
   | exact ih0 _ _
   | exact LeO.none _
   | refine LeO.ite ?_ ?_
   | refine LeO.bind ?_ (fun _ => ?_)
set_option maxHeartbeats 8000000 in
set_option maxRecDepth 100000 in
theorem laws_markText.calls (k : Nat) (a0 : Int) (r : ByteArray) (w : World) (h : laws_markText.f k a0 = some r) :
  Calls Try.prog 76 #[.int .i64 a0] w fun e w' => e = .returned (.string r) ∧ Below w.heap.size w w' := by
 have HB := Aside0.mk (Below.refl w.heap.size w)
 have H : (if a0 ≤ 0 then (some (⟨#[109, 48]⟩ : ByteArray)) else (laws_markText.l0 k a0 (⟨#[]⟩ : ByteArray))) = some r := h
 clear h
 by_cases c2 : a0 ≤ 0
 ·rw [if_pos c2] at H
  have c2b0 : decide (a0 ≤ 0) = true := decide_eq_true c2
  clear c2
  obtain rfl := Option.some.inj H
  go_enter Try.func76, Try.ntmps76
  go_wp2
  go_ret
  exact ⟨by first | rfl | (simp [errW_none, errW_some] <;> rfl) | (simp [*, errW_none, errW_some] <;> rfl), by repeat (first | (with_reducible first | exact HB.out | apply below_alloc | apply pw_below_drewN | apply below_drew1) | exact HB.out)⟩
 ·rw [if_neg c2] at H
  have c2b0 : decide (a0 ≤ 0) = false := decide_eq_false c2
  clear c2
  have H' := Aside0.mk H
  clear H
  go_enter Try.func76, Try.ntmps76
  go_wp2
  go_loopg [0, 3] k (fun kq v0 v3 w' => ∃ (x0_1 : Int) (x3_1 : ByteArray), v0 = .int .i64 x0_1 ∧ v3 = .string x3_1 ∧ Aside0 (laws_markText.l0 kq x0_1 x3_1 = some r) ∧ Aside0 (kq ≤ k) ∧ Aside0 (Below w.heap.size w w'))
  case atStart => exact ⟨(a0), ((⟨#[]⟩ : ByteArray)), (by first | rfl | (simp; done) | (simp [*]; done)), (by first | rfl | (simp; done) | (simp [*]; done)), H', ⟨Nat.le_refl _⟩, ⟨by repeat (first | (with_reducible first | exact HB.out | apply below_alloc | apply pw_below_drewN | apply below_drew1) | exact HB.out)⟩⟩
  case round =>
   clear H'
   try clear c2
   try clear c2b0
   try clear p2
   obtain ⟨x0_1, x3_1, rfl, rfl, HA, HK1, HB⟩ := hrel
   cases gk with
   | zero => exact absurd HA.out (by simp [laws_markText.l0])
   | succ k1 =>
    have H := HA.out
    clear HA
    simp only [laws_markText.l0] at H
    by_cases c3 : x0_1 > 0
    ·rw [if_pos c3] at H
     have c3b0 : decide (0 < x0_1) = true := decide_eq_true c3
     clear c3
     obtain ⟨y225, hy225⟩ : ∃ y_ : List Int, y_ = (([(wrap64 (48 + (Int.tmod x0_1 10))) % 256] : List Int)) := ⟨_, rfl⟩
     replace H : (if (strOfNums y225).size + x3_1.size ≤ 9223372036854775807 then (laws_markText.l0 k1 (wrap64 (Int.tdiv x0_1 10)) ((strOfNums y225) ++ x3_1)) else (none)) = some r := by first | (rw [hy225]; with_reducible exact H) | (have H2_ := (Option.bind_some _ _).symm.trans H; rw [hy225]; with_reducible exact H2_) | (have H2_ := (Option.bind_some _ _).symm.trans H; with_reducible exact H2_) | with_reducible exact H | (rw [hy225]; exact H) | exact H
     have Ny225 := Aside0.mk hy225
     clear hy225
     by_cases c4 : (strOfNums y225).size + x3_1.size ≤ 9223372036854775807
     ·rw [if_pos c4] at H
      have c4b0 := eq_true c4
      have c4b1 : decide ((strOfNums y225).size + x3_1.size ≤ 9223372036854775807) = true := decide_eq_true c4
      try have c4b2 : (9223372036854775807 < (strOfNums y225).size + x3_1.size) = False := eq_false (Nat.not_lt.2 c4)
      have H' := Aside0.mk H
      clear H
      go_wp2_with (first | ((with_reducible refine gate_dst (N := 12) rfl ?_); refine Kd.R_lit (Kd.int .u8) _ 5 ?hg (N := 12) ?hd (xs := ([(wrap64 (48 + (Int.tmod x0_1 10))) % 256] : List Int)) (inner := [.int .u8 ((wrap64 (48 + (Int.tmod x0_1 10))) % 256)]) (ok := fun _ => True) (okp := fun _ => True) ?hr ?hp (fun _ hk => hk) trivial (Below.refl _ _) (Nat.le_refl _) (by simp) ?_; (case hd => rfl); (case hg => rfl); (case hr => first | (go_simp; done) | (go_simp; rfl)); (case hp => exact (Reps.one (show Kd.M (Kd.int .u8) _ _ _ ((wrap64 (48 + (Int.tmod x0_1 10))) % 256) [.int .u8 ((wrap64 (48 + (Int.tmod x0_1 10))) % 256)] from rfl) (Reps.none _ _))); intro v226 w5 ho6 hb hg_ hnew_; clear hg_ hnew_; (first | rw [← Ny225.out] at ho6 | (simp only [Int.reduceToNat] at ho6; rw [← Ny225.out] at ho6)); have n0_ := Aside0.mk (Kd.R_lower ho6 (below_size (by repeat (first | (with_reducible first | exact HB.out | apply below_alloc | apply pw_below_drewN | apply below_drew1) | exact HB.out)))); have n1_ := Aside0.mk (below_step (by repeat (first | (with_reducible first | exact HB.out | apply below_alloc | apply pw_below_drewN | apply below_drew1) | exact HB.out)) hb); clear HB; have HO227 := n0_; have HB := n1_; clear n0_ n1_; clear hb ho6; have hcv7 := own_string (P := Try.prog) Try.underlying47 Try.underlying5 Try.underlying9 (Kd.own_of_R HO227.out)))
      go_roundg k1
      case measure => have := HK1.out; omega
      case rel => exact ⟨(wrap64 (Int.tdiv x0_1 10)), ((strOfNums y225) ++ x3_1), (by first | rfl | (simp; done) | (simp [*]; done)), (by first | rfl | (simp; done) | (simp [*]; done)), H', ⟨by have := HK1.out; omega⟩, ⟨by repeat (first | (with_reducible first | exact HB.out | apply below_alloc | apply pw_below_drewN | apply below_drew1) | exact HB.out)⟩⟩
     ·rw [if_neg c4] at H
      exact absurd H (by simp)
    ·rw [if_neg c3] at H
     have c3b0 : decide (0 < x0_1) = false := decide_eq_false c3
     clear c3
     by_cases c8 : 1 + x3_1.size ≤ 9223372036854775807
     ·rw [if_pos c8] at H
      have c8b0 := eq_true c8
      have c8b1 : decide (1 + x3_1.size ≤ 9223372036854775807) = true := decide_eq_true c8
      try have c8b2 : (9223372036854775807 < 1 + x3_1.size) = False := eq_false (Nat.not_lt.2 c8)
      obtain rfl := Option.some.inj H
      go_wp2
      go_ret
      exact ⟨by first | rfl | (simp [errW_none, errW_some] <;> rfl) | (simp [*, errW_none, errW_some] <;> rfl), by repeat (first | (with_reducible first | exact HB.out | apply below_alloc | apply pw_below_drewN | apply below_drew1) | exact HB.out)⟩
     ·rw [if_neg c8] at H
      exact absurd H (by simp)

end Go.Proofs.Ytbppijlcmeidaaa.P
end

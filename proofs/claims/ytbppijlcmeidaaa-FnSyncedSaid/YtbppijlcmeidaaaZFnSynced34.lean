/- Texts of the claim FnSynced, part 34 of 34, joined: MSpecAppend, MFsSync, PimplFsSync, MFsAppend, PimplFsAppend, PlawswPick, MSyncedWalk, RowFnSynced. No condition beyond those that stand at each. -/
import Derived.Test.YtbppijlcmeidaaaZFnSynced32
import Derived.Test.YtbppijlcmeidaaaZFnSynced33
import Derived.Test.YtbppijlcmeidaaaZFnSynced25
import Derived.Test.YtbppijlcmeidaaaZFnSynced24
import Derived.Test.YtbppijlcmeidaaaZFnSynced26
import Derived.Test.YtbppijlcmeidaaaRows
import Derived.WalkKit
import Derived.ProofKit
import Derived.OpenShut
import Derived.ShutString
import Derived.ChangeOld
import Derived.Below
import Derived.SizedLaws
import Derived.Test.YtbppijlcmeidaaaZFnSynced23
section
/- The specification's FsAppend answers what the program's does. Condition: the directory is within the law's bounds. -/
namespace Go.Proofs.Ytbppijlcmeidaaa.M
open Go.RowKit Go.Proofs.Ytbppijlcmeidaaa.P Go.Proofs.YtbppijlcmeidaaaW.PrintWords Go.Proofs.YtbppijlcmeidaaaW.PrintLast Go.Proofs.YtbppijlcmeidaaaW.PrintMore
set_option linter.unusedVariables false
section
variable (l : List S52) (q f : Int) (s : ByteArray) (ht : total l ≤ 1048576) (hl : l.length ≤ 1048576) (hn : ∀ x ∈ l, x.f0.size ≤ 1048576) (hf : f ≤ 9223372036854775807)
include ht hl hn hf
theorem specAppend_eq (d : ByteArray) (hd : d.size ≤ 1048576) : Ev (fun k => spec_FsAppend.f k l q f s d) (fsRes l q f (appendRes l q f s d)) := by
  refine step1_ev ht hl hn hf (fun k => rfl) (fun c n => ?_)
  have hs := valid_sorted c
  refine Ev.bind (specAt_eq l q f s hs hl) ?_
  unfold atOf appendOp
  by_cases e : there l s = true
  · have hlt := there_lt e
    have hnm := there_name e
    have hge := total_ge l (pos l s) hlt
    rw [if_pos e, if_pos e]
    have hT := specTotal_eq l q f ht hl
    have hN : wrap64 ((total l : Int) + (d.size : Int)) = appendN l d := by unfold appendN; rw [wrap_ok] <;> omega
    refine Ev.congr (fun k => if_neg (by omega)) (Ev.bind hT ?_)
    rw [hN]
    have hw := with_eq l s ((rd_T52 l (pos l s : Int)).f1 ++ d) (rd_T52 l (pos l s : Int)).f2 hl (nameOk_size n)
    rw [put_over hs (x := ⟨s, (rd_T52 l (pos l s : Int)).f1 ++ d, (rd_T52 l (pos l s : Int)).f2⟩) e] at hw
    by_cases n4 : appendN l d > 1048576
    · rw [if_pos n4]
      exact Ev.pure (fun k => if_pos n4)
    · rw [if_neg n4]
      refine Ev.congr (fun k => if_neg n4) ?_
      by_cases z : d = ⟨#[]⟩
      · have hz : d.size = 0 := by rw [z]; rfl
        rw [if_neg (fun h => h.1 z), hnm]
        refine Ev.congr (fun k => if_neg (by omega)) (Ev.congr (fun k => if_pos (by omega)) (Ev.congr (fun k => if_pos (by omega)) (Ev.congr (fun k => if_pos (by omega)) ?_)))
        exact Ev.bind hw (Ev.now _)
      · have hz : 0 < d.size := by
          rcases Nat.eq_zero_or_pos d.size with h | h
          · exact absurd (ByteArray.ext (Array.eq_empty_of_size_eq_zero h)) z
          · exact h
        refine Ev.congr (fun k => if_pos (by omega)) (Ev.bind hT ?_)
        rw [hN]
        by_cases n3 : appendN l d > q
        · rw [if_pos ⟨z, n3⟩]
          exact Ev.pure (fun k => if_pos n3)
        · rw [if_neg (fun h => n3 h.2), hnm]
          refine Ev.congr (fun k => if_neg n3) (Ev.congr (fun k => if_pos (by omega)) (Ev.congr (fun k => if_pos (by omega)) (Ev.congr (fun k => if_pos (by omega)) ?_)))
          exact Ev.bind hw (Ev.now _)
  · rw [if_neg e, if_neg e]
    exact Ev.pure (fun k => if_pos (by decide))
end
end Go.Proofs.Ytbppijlcmeidaaa.M
end
section
/- The program's FsSync, walked, and its closure. Condition: the sizes of the Data add up to a number of 63 bits. -/
namespace Go.Proofs.Ytbppijlcmeidaaa.M
open Go.RowKit Go.Proofs.Ytbppijlcmeidaaa.P Go.Proofs.YtbppijlcmeidaaaW.PrintWords Go.Proofs.YtbppijlcmeidaaaW.PrintLast Go.Proofs.YtbppijlcmeidaaaW.PrintMore
set_option linter.unusedVariables false

set_option maxRecDepth 100000 in
set_option maxHeartbeats 1000000 in
theorem syncCl_call (w0 w : World) (g : Nat) (v : Value) (l : List S52) (q f : Int) (s : ByteArray) (nb0 : Nat) (h : FsAt w0 w g v l q f) (hf : -1 ≤ f) (hf2 : f ≤ 9223372036854775807) (hl : l.length ≤ 200) (hs : Sorted l) (hn0 : w.cell? ⟨nb0, 0, none⟩ = some (.string s)) :
    Calls Try.prog 59 #[.pointer (some ⟨g, 0, none⟩), .pointer (some ⟨nb0, 0, none⟩)] w fun e w' => Stepped w0 w g v (syncRes l f s) q f e w' := by
  have HC := Aside0.mk (sync_call w0 w g v l q f s h hf hf2 hl hs)
  clear h hs
  go_enter Try.func59, Try.ntmps59
  go_wp2_with fail
  refine HC.out.mono ?_
  rintro e w1 ⟨v', rfl, h1, h2⟩
  go_wp2
  go_ret
  exact ⟨v', rfl, h1, h2⟩


set_option maxRecDepth 100000 in
set_option maxHeartbeats 4000000 in
theorem syncStep_call (A : Option Addr) (c : Nat) (l : List S52) (q f : Int) (s : ByteArray) (nb0 : Nat) (w : World) (hr : Kd.C k52 w A l.length l) (hc : l.length ≤ c) (ht : ValidFits l) (hf2 : f ≤ 9223372036854775807) (hn0 : w.cell? ⟨nb0, 0, none⟩ = some (.string s)) :
    Calls Try.prog 55 #[.agg #[.slice A l.length c, .int .i64 q, .int .i64 f], .func (.func 59) #[] #[.pointer (some ⟨nb0, 0, none⟩)]] w fun e w' => ∃ v, e = .returned (.tuple #[.agg #[v, .int .i64 (fsRes l q f (syncRes l f s)).2.1, .int .i64 (fsRes l q f (syncRes l f s)).2.2.1], .int .i64 (fsRes l q f (syncRes l f s)).2.2.2]) ∧ Kd.R k52 52 w' w.heap.size (fun _ => True) v (fsRes l q f (syncRes l f s)).1 ∧ Below w.heap.size w w' := by
  have hu29 := Try.underlying29
  have HR := Aside0.mk hr
  have b0 : Below w.heap.size w ((w.alloc (.cells #[.slice A l.length c, .int .i64 q, .int .i64 f] 29)).alloc (.cells #[.slice none 0 0, .int .i64 0, .int .i64 0] 29)) := ((Below.refl _ _).alloc (Nat.le_refl _) _).alloc (by simp) _
  have hv := valid_any A c l q f _ (Kd.C_below hr b0) hc ht
  have HB0 := Aside0.mk b0
  unfold fsRes
  by_cases h : validB l q f = true
  · rw [if_pos h]
    rw [h] at hv
    have HV := Aside0.mk hv
    have HL := Aside0.mk h
    have HN := Aside0.mk (show w.cell? ⟨nb0, 0, none⟩ = some (.string s) from hn0)
    clear hv hr hc ht h b0 hn0
    go_enter Try.func55, Try.ntmps55
    go_wp2_with fail
    refine HV.out.mono ?_
    rintro e w1 ⟨rfl, hb⟩
    have s1 := hb.size
    simp only [World.size_alloc] at s1
    have HB := Aside0.mk (HB0.out.trans (hb.mono (by simp; omega)))
    have B0 : w1.heap[w.heap.size]? = some (.cells #[.slice A l.length c, .int .i64 q, .int .i64 f] 29 (0, 0)) := (hb.block _ (by simp; omega)).trans (blk_alloc (heap_alloc_new _ _) _)
    have B1 : w1.heap[w.heap.size + 1]? = some (.cells #[.slice none 0 0, .int .i64 0, .int .i64 0] 29 (0, 0)) := by
      have := (hb.block (w.alloc (.cells #[.slice A l.length c, .int .i64 q, .int .i64 f] 29)).heap.size (by simp)).trans (heap_alloc_new _ _)
      simpa using this
    have c00 := blk_cell B0 0
    have c01 := blk_cell B0 1
    have c02 := blk_cell B0 2
    have HC := Aside0.mk (copyFS_call A c l q f w1 (Kd.C_below HR.out HB.out) (valid_parts HL.out).1)
    have HB1 := Aside0.mk B1
    clear B0 B1 hb
    go_wp2_with fail
    refine HC.out.mono ?_
    rintro e w2 ⟨v, rfl, hR, hb⟩
    obtain ⟨A', c', rfl⟩ := Kd.R_slice hR
    have s2 := hb.size
    have HB2 := Aside0.mk (HB.out.trans (hb.mono (by omega)))
    have HB3 := Aside0.mk (HB2.out.alloc HB2.out.size (.cells #[.slice A' l.length c', .int .i64 q, .int .i64 f] 29))
    have HB4 := Aside0.mk ((hb.block _ (blk_lt HB1.out)).trans HB1.out)
    have HF := Aside0.mk (show FsAt w (w2.alloc (.cells #[.slice A' l.length c', .int .i64 q, .int .i64 f] 29)) w2.heap.size (.slice A' l.length c') l q f from
      ⟨heap_alloc_new _ _, Kd.R_lower (Kd.R_alloc hR _) HB.out.size, HB3.out, HB2.out.size⟩)
    have HCL := Aside0.mk (syncCl_call w _ w2.heap.size _ l q f s nb0 HF.out (valid_parts HL.out).2.2.2.1 hf2 (valid_parts HL.out).1 (valid_sorted HL.out) ((HB3.out.cell (World.block_lt_of_cell? w _ HN.out)).trans HN.out))
    clear hb hR c00 c01 c02
    go_wp2_with fail
    refine HCL.out.mono ?_
    rintro e w3 ⟨v3, rfl, h3, k3⟩
    obtain ⟨A3, c3, rfl⟩ := Kd.R_slice h3.row
    have T4 := Aside0.mk (show w3.heap[w.heap.size + 1]? = some (.cells #[.slice none 0 0, .int .i64 0, .int .i64 0] 29 (0, 0)) from
      (k3.block (w.heap.size + 1) (by have := blk_lt HB4.out; simp; omega) (by have := blk_lt HB4.out; omega) (Kd.R_ne HF.out.row (blk_alloc HB4.out _) (by decide))).trans (blk_alloc HB4.out _))
    have d0 := blk_cell h3.blk 0
    have d1 := blk_cell h3.blk 1
    have d2 := blk_cell h3.blk 2
    have e0 := blk_cell T4.out 0
    have e1 := blk_cell T4.out 1
    have e2 := blk_cell T4.out 2
    have k0 := blk_frozen T4.out 0
    have k1 := blk_frozen T4.out 1
    have k2 := blk_frozen T4.out 2
    have H3 := Aside0.mk h3
    clear h3 k3
    go_wp2
    refine bodyPost_ret (results_list (rs := [.cell 4 29, .tmp 5]) rfl (by simp) (.cell (w.heap.size + 1) 29 #[.slice A3 (syncRes l f s).1.length c3, .int .i64 q, .int .i64 (fuel' f)] (0, 0) _ rfl ?_ hu29 rfl (by kernel_rfl) (.tmp .nil))) rfl ⟨_, rfl, ?_, ?_⟩
    · exact blk_put (blk_put (blk_put T4.out 0 _ rfl) 1 _ rfl) 2 _ rfl
    · exact Kd.R_set (Kd.R_set (Kd.R_set H3.out.row T4.out h52 0 _) (blk_set T4.out _ _) h52 1 _) (blk_set (blk_set T4.out _ _) _ _) h52 2 _
    · exact ((H3.out.bel.setCell (by simp) _).setCell (by simp) _).setCell (by simp) _
  · rw [if_neg h]
    rw [Bool.eq_false_iff.2 h] at hv
    have HV := Aside0.mk hv
    clear hv hr hc ht h b0 hn0
    go_enter Try.func55, Try.ntmps55
    go_wp2_with fail
    refine HV.out.mono ?_
    rintro e w1 ⟨rfl, hb⟩
    have s1 := hb.size
    simp only [World.size_alloc] at s1
    have HB := Aside0.mk (HB0.out.trans (hb.mono (by simp; omega)))
    have B1 : w1.heap[w.heap.size + 1]? = some (.cells #[.slice none 0 0, .int .i64 0, .int .i64 0] 29 (0, 0)) := by
      have := (hb.block (w.alloc (.cells #[.slice A l.length c, .int .i64 q, .int .i64 f] 29)).heap.size (by simp)).trans (heap_alloc_new _ _)
      simpa using this
    have e0 := blk_cell B1 0
    have e1 := blk_cell B1 1
    have e2 := blk_cell B1 2
    have k0 := blk_frozen B1 0
    have k1 := blk_frozen B1 1
    have k2 := blk_frozen B1 2
    have T4 := Aside0.mk B1
    clear B1 hb
    go_wp2
    refine bodyPost_ret (results_list (rs := [.cell 4 29, .tmp 5]) rfl (by simp) (.cell (w.heap.size + 1) 29 #[.slice none 0 0, .int .i64 0, .int .i64 0] (0, 0) _ rfl ?_ hu29 rfl (by kernel_rfl) (.tmp .nil))) rfl ⟨_, rfl, Kd.R_nil _ _ _ _ _, ?_⟩
    · exact blk_put (blk_put (blk_put T4.out 0 _ rfl) 1 _ rfl) 2 _ rfl
    · exact ((HB.out.setCell (by simp) _).setCell (by simp) _).setCell (by simp) _


set_option maxRecDepth 100000 in
set_option maxHeartbeats 4000000 in
theorem fsSync_call (A : Option Addr) (c : Nat) (l : List S52) (q f : Int) (s : ByteArray) (w : World) (hr : Kd.C k52 w A l.length l) (hc : l.length ≤ c) (ht : ValidFits l) (hf2 : f ≤ 9223372036854775807) :
    Calls Try.prog 29 #[.agg #[.slice A l.length c, .int .i64 q, .int .i64 f], .string s] w fun e w' => ∃ v, e = .returned (.tuple #[.agg #[v, .int .i64 (fsRes l q f (syncRes l f s)).2.1, .int .i64 (fsRes l q f (syncRes l f s)).2.2.1], .int .i64 (fsRes l q f (syncRes l f s)).2.2.2]) ∧ Kd.R k52 52 w' w.heap.size (fun _ => True) v (fsRes l q f (syncRes l f s)).1 ∧ Below w.heap.size w w' := by
  have hu29 := Try.underlying29
  have b0 : Below w.heap.size w (((w.alloc (.cells #[.slice A l.length c, .int .i64 q, .int .i64 f] 29)).alloc (.cells #[.string s] 9)).alloc (.cells #[.slice none 0 0, .int .i64 0, .int .i64 0] 29)) := ((((Below.refl _ _).alloc (Nat.le_refl _) _).alloc (by simp) _).alloc (by simp; omega) _)
  have T := heap_alloc_new ((w.alloc (.cells #[.slice A l.length c, .int .i64 q, .int .i64 f] 29)).alloc (.cells #[.string s] 9)) (.cells #[.slice none 0 0, .int .i64 0, .int .i64 0] 29)
  have HC := Aside0.mk (syncStep_call A c l q f s (w.heap.size + 1) (((w.alloc (.cells #[.slice A l.length c, .int .i64 q, .int .i64 f] 29)).alloc (.cells #[.string s] 9)).alloc (.cells #[.slice none 0 0, .int .i64 0, .int .i64 0] 29)) (Kd.C_below hr b0) hc ht hf2 ((blk_cell (blk_alloc (show (((w.alloc (.cells #[.slice A l.length c, .int .i64 q, .int .i64 f] 29)).alloc (.cells #[.string s] 9))).heap[w.heap.size + 1]? = some (.cells #[.string s] 9 (0, 0)) from by have := heap_alloc_new (w.alloc (.cells #[.slice A l.length c, .int .i64 q, .int .i64 f] 29)) (.cells #[.string s] 9); simpa using this) _) 0).trans rfl))
  have HB0 := Aside0.mk b0
  have HT := Aside0.mk T
  generalize fsRes l q f (syncRes l f s) = r at HC ⊢
  clear hr hc ht b0 T
  go_enter Try.func29, Try.ntmps29
  go_wp2_with fail
  refine HC.out.mono ?_
  rintro e w1 ⟨v, rfl, hR, hb⟩
  obtain ⟨A', c', rfl⟩ := Kd.R_slice hR
  have s1 := hb.size
  simp only [World.size_alloc] at s1
  have T4 := Aside0.mk (show w1.heap[w.heap.size + 2]? = some (.cells #[.slice none 0 0, .int .i64 0, .int .i64 0] 29 (0, 0)) from by
    have := (hb.block _ (blk_lt HT.out)).trans HT.out
    simpa using this)
  have e0 := blk_cell T4.out 0
  have e1 := blk_cell T4.out 1
  have e2 := blk_cell T4.out 2
  have k0 := blk_frozen T4.out 0
  have k1 := blk_frozen T4.out 1
  have k2 := blk_frozen T4.out 2
  have HR := Aside0.mk hR
  have HB := Aside0.mk (HB0.out.trans (hb.mono HB0.out.size))
  clear hR hb
  go_wp2
  refine bodyPost_ret (results_list (rs := [.cell 4 29, .tmp 5]) rfl (by simp) (.cell (w.heap.size + 2) 29 #[.slice A' r.1.length c', .int .i64 r.2.1, .int .i64 r.2.2.1] (0, 0) _ rfl ?_ hu29 rfl (by kernel_rfl) (.tmp .nil))) rfl ⟨_, rfl, ?_, ?_⟩
  · exact blk_put (blk_put (blk_put T4.out 0 _ rfl) 1 _ rfl) 2 _ rfl
  · exact Kd.R_lower (Kd.R_set (Kd.R_set (Kd.R_set HR.out T4.out h52 0 _) (blk_set T4.out _ _) h52 1 _) (blk_set (blk_set T4.out _ _) _ _) h52 2 _) HB0.out.size
  · exact ((HB.out.setCell (by show w.heap.size ≤ w.heap.size + 2; omega) _).setCell (by show w.heap.size ≤ w.heap.size + 2; omega) _).setCell (by show w.heap.size ≤ w.heap.size + 2; omega) _
end Go.Proofs.Ytbppijlcmeidaaa.M
end
section
-- Written by a changed copy of the print program, one module a function. Not trusted: Lean checks it.
namespace Go.Proofs.Ytbppijlcmeidaaa.P
open Go.RowKit Go.Proofs.YtbppijlcmeidaaaW.PrintWords Go.Proofs.YtbppijlcmeidaaaW.PrintLast Go.Proofs.YtbppijlcmeidaaaW.PrintMore
attribute [local go_sem] max2_int min2_int max_two min_two max_three min_three max_four min_four   -- for this text's walks alone
set_option linter.unusedVariables false
set_option linter.unusedSimpArgs false

/-! ### impl_FsSync: function 29 -/
def impl_FsSync.f (l0_0 : List (S52)) (a0_1 : Int) (a0_2 : Int) (a1 : ByteArray) : Option ((List (S52)) × Int × Int × Int) := if (l0_0.length ≤ 200 → M.total l0_0 ≤ 9223372036854775000) ∧ a0_2 ≤ 9223372036854775807 then some (M.fsRes l0_0 a0_1 a0_2 (M.syncRes l0_0 a0_2 a1)) else none

theorem impl_FsSync.calls (A0_0 : Option Addr) (c0_0 : Nat) (l0_0 : List (S52)) (a0_1 : Int) (a0_2 : Int) (a1 : ByteArray) (r1 : List (S52)) (r2 : Int) (r3 : Int) (r4 : Int) (w : World) (hr0_0 : Kd.C k52 w A0_0 l0_0.length l0_0) (hc0_0 : l0_0.length ≤ c0_0) (h : impl_FsSync.f l0_0 a0_1 a0_2 a1 = some (r1, r2, r3, r4)) :
  Calls Try.prog 29 #[.agg #[.slice A0_0 l0_0.length c0_0, .int .i64 a0_1, .int .i64 a0_2], .string a1] w fun e w' => ∃ v0_ : Value, e = .returned (.tuple #[.agg #[v0_, .int .i64 r2, .int .i64 r3], .int .i64 r4]) ∧ Kd.R k52 52 w' w.heap.size (fun _ => True) v0_ r1 ∧ Below w.heap.size w w' := by
 by_cases c : (l0_0.length ≤ 200 → M.total l0_0 ≤ 9223372036854775000) ∧ a0_2 ≤ 9223372036854775807
 ·unfold impl_FsSync.f at h
  rw [if_pos c] at h
  have e := Option.some.inj h
  have h1 := M.fsSync_call A0_0 c0_0 l0_0 a0_1 a0_2 a1 w hr0_0 hc0_0 c.1 c.2
  rw [e] at h1
  exact h1
 ·unfold impl_FsSync.f at h
  rw [if_neg c] at h
  cases h

end Go.Proofs.Ytbppijlcmeidaaa.P
end
section
/- The program's FsAppend, walked, and its closure. Condition: the sizes of the Data add up to a number of 63 bits. -/
namespace Go.Proofs.Ytbppijlcmeidaaa.M
open Go.RowKit Go.Proofs.Ytbppijlcmeidaaa.P Go.Proofs.YtbppijlcmeidaaaW.PrintWords Go.Proofs.YtbppijlcmeidaaaW.PrintLast Go.Proofs.YtbppijlcmeidaaaW.PrintMore
set_option linter.unusedVariables false

set_option maxRecDepth 100000 in
set_option maxHeartbeats 1000000 in
theorem appendCl_call (w0 w : World) (g : Nat) (v : Value) (l : List S52) (q f : Int) (s : ByteArray) (d : ByteArray) (nb0 : Nat) (nb1 : Nat) (h : FsAt w0 w g v l q f) (hf : -1 ≤ f) (hf2 : f ≤ 9223372036854775807) (hl : l.length ≤ 200) (hs : Sorted l) (hd : d.size ≤ 140737488355328) (htl : total l ≤ 1048576) (hn0 : w.cell? ⟨nb0, 0, none⟩ = some (.string s)) (hn1 : w.cell? ⟨nb1, 0, none⟩ = some (.string d)) :
    Calls Try.prog 61 #[.pointer (some ⟨g, 0, none⟩), .pointer (some ⟨nb0, 0, none⟩), .pointer (some ⟨nb1, 0, none⟩)] w fun e w' => Stepped w0 w g v (appendRes l q f s d) q f e w' := by
  have HC := Aside0.mk (append_call w0 w g v l q f s d h hf hf2 hl hs hd htl)
  clear h hs
  go_enter Try.func61, Try.ntmps61
  go_wp2_with fail
  refine HC.out.mono ?_
  rintro e w1 ⟨v', rfl, h1, h2⟩
  go_wp2
  go_ret
  exact ⟨v', rfl, h1, h2⟩


set_option maxRecDepth 100000 in
set_option maxHeartbeats 4000000 in
theorem appendStep_call (A : Option Addr) (c : Nat) (l : List S52) (q f : Int) (s : ByteArray) (d : ByteArray) (nb0 : Nat) (nb1 : Nat) (w : World) (hr : Kd.C k52 w A l.length l) (hc : l.length ≤ c) (ht : ValidFits l) (hf2 : f ≤ 9223372036854775807) (hd : d.size ≤ 140737488355328) (hn0 : w.cell? ⟨nb0, 0, none⟩ = some (.string s)) (hn1 : w.cell? ⟨nb1, 0, none⟩ = some (.string d)) :
    Calls Try.prog 55 #[.agg #[.slice A l.length c, .int .i64 q, .int .i64 f], .func (.func 61) #[] #[.pointer (some ⟨nb0, 0, none⟩), .pointer (some ⟨nb1, 0, none⟩)]] w fun e w' => ∃ v, e = .returned (.tuple #[.agg #[v, .int .i64 (fsRes l q f (appendRes l q f s d)).2.1, .int .i64 (fsRes l q f (appendRes l q f s d)).2.2.1], .int .i64 (fsRes l q f (appendRes l q f s d)).2.2.2]) ∧ Kd.R k52 52 w' w.heap.size (fun _ => True) v (fsRes l q f (appendRes l q f s d)).1 ∧ Below w.heap.size w w' := by
  have hu29 := Try.underlying29
  have HR := Aside0.mk hr
  have b0 : Below w.heap.size w ((w.alloc (.cells #[.slice A l.length c, .int .i64 q, .int .i64 f] 29)).alloc (.cells #[.slice none 0 0, .int .i64 0, .int .i64 0] 29)) := ((Below.refl _ _).alloc (Nat.le_refl _) _).alloc (by simp) _
  have hv := valid_any A c l q f _ (Kd.C_below hr b0) hc ht
  have HB0 := Aside0.mk b0
  unfold fsRes
  by_cases h : validB l q f = true
  · rw [if_pos h]
    rw [h] at hv
    have HV := Aside0.mk hv
    have HL := Aside0.mk h
    have HN := Aside0.mk (show w.cell? ⟨nb0, 0, none⟩ = some (.string s) ∧ w.cell? ⟨nb1, 0, none⟩ = some (.string d) from ⟨hn0, hn1⟩)
    clear hv hr hc ht h b0 hn0 hn1
    go_enter Try.func55, Try.ntmps55
    go_wp2_with fail
    refine HV.out.mono ?_
    rintro e w1 ⟨rfl, hb⟩
    have s1 := hb.size
    simp only [World.size_alloc] at s1
    have HB := Aside0.mk (HB0.out.trans (hb.mono (by simp; omega)))
    have B0 : w1.heap[w.heap.size]? = some (.cells #[.slice A l.length c, .int .i64 q, .int .i64 f] 29 (0, 0)) := (hb.block _ (by simp; omega)).trans (blk_alloc (heap_alloc_new _ _) _)
    have B1 : w1.heap[w.heap.size + 1]? = some (.cells #[.slice none 0 0, .int .i64 0, .int .i64 0] 29 (0, 0)) := by
      have := (hb.block (w.alloc (.cells #[.slice A l.length c, .int .i64 q, .int .i64 f] 29)).heap.size (by simp)).trans (heap_alloc_new _ _)
      simpa using this
    have c00 := blk_cell B0 0
    have c01 := blk_cell B0 1
    have c02 := blk_cell B0 2
    have HC := Aside0.mk (copyFS_call A c l q f w1 (Kd.C_below HR.out HB.out) (valid_parts HL.out).1)
    have HB1 := Aside0.mk B1
    clear B0 B1 hb
    go_wp2_with fail
    refine HC.out.mono ?_
    rintro e w2 ⟨v, rfl, hR, hb⟩
    obtain ⟨A', c', rfl⟩ := Kd.R_slice hR
    have s2 := hb.size
    have HB2 := Aside0.mk (HB.out.trans (hb.mono (by omega)))
    have HB3 := Aside0.mk (HB2.out.alloc HB2.out.size (.cells #[.slice A' l.length c', .int .i64 q, .int .i64 f] 29))
    have HB4 := Aside0.mk ((hb.block _ (blk_lt HB1.out)).trans HB1.out)
    have HF := Aside0.mk (show FsAt w (w2.alloc (.cells #[.slice A' l.length c', .int .i64 q, .int .i64 f] 29)) w2.heap.size (.slice A' l.length c') l q f from
      ⟨heap_alloc_new _ _, Kd.R_lower (Kd.R_alloc hR _) HB.out.size, HB3.out, HB2.out.size⟩)
    have HCL := Aside0.mk (appendCl_call w _ w2.heap.size _ l q f s d nb0 nb1 HF.out (valid_parts HL.out).2.2.2.1 hf2 (valid_parts HL.out).1 (valid_sorted HL.out) hd (valid_parts HL.out).2.2.2.2.2 ((HB3.out.cell (World.block_lt_of_cell? w _ HN.out.1)).trans HN.out.1) ((HB3.out.cell (World.block_lt_of_cell? w _ HN.out.2)).trans HN.out.2))
    clear hb hR c00 c01 c02
    go_wp2_with fail
    refine HCL.out.mono ?_
    rintro e w3 ⟨v3, rfl, h3, k3⟩
    obtain ⟨A3, c3, rfl⟩ := Kd.R_slice h3.row
    have T4 := Aside0.mk (show w3.heap[w.heap.size + 1]? = some (.cells #[.slice none 0 0, .int .i64 0, .int .i64 0] 29 (0, 0)) from
      (k3.block (w.heap.size + 1) (by have := blk_lt HB4.out; simp; omega) (by have := blk_lt HB4.out; omega) (Kd.R_ne HF.out.row (blk_alloc HB4.out _) (by decide))).trans (blk_alloc HB4.out _))
    have d0 := blk_cell h3.blk 0
    have d1 := blk_cell h3.blk 1
    have d2 := blk_cell h3.blk 2
    have e0 := blk_cell T4.out 0
    have e1 := blk_cell T4.out 1
    have e2 := blk_cell T4.out 2
    have k0 := blk_frozen T4.out 0
    have k1 := blk_frozen T4.out 1
    have k2 := blk_frozen T4.out 2
    have H3 := Aside0.mk h3
    clear h3 k3
    go_wp2
    refine bodyPost_ret (results_list (rs := [.cell 4 29, .tmp 5]) rfl (by simp) (.cell (w.heap.size + 1) 29 #[.slice A3 (appendRes l q f s d).1.length c3, .int .i64 q, .int .i64 (fuel' f)] (0, 0) _ rfl ?_ hu29 rfl (by kernel_rfl) (.tmp .nil))) rfl ⟨_, rfl, ?_, ?_⟩
    · exact blk_put (blk_put (blk_put T4.out 0 _ rfl) 1 _ rfl) 2 _ rfl
    · exact Kd.R_set (Kd.R_set (Kd.R_set H3.out.row T4.out h52 0 _) (blk_set T4.out _ _) h52 1 _) (blk_set (blk_set T4.out _ _) _ _) h52 2 _
    · exact ((H3.out.bel.setCell (by simp) _).setCell (by simp) _).setCell (by simp) _
  · rw [if_neg h]
    rw [Bool.eq_false_iff.2 h] at hv
    have HV := Aside0.mk hv
    clear hv hr hc ht h b0 hn0 hn1
    go_enter Try.func55, Try.ntmps55
    go_wp2_with fail
    refine HV.out.mono ?_
    rintro e w1 ⟨rfl, hb⟩
    have s1 := hb.size
    simp only [World.size_alloc] at s1
    have HB := Aside0.mk (HB0.out.trans (hb.mono (by simp; omega)))
    have B1 : w1.heap[w.heap.size + 1]? = some (.cells #[.slice none 0 0, .int .i64 0, .int .i64 0] 29 (0, 0)) := by
      have := (hb.block (w.alloc (.cells #[.slice A l.length c, .int .i64 q, .int .i64 f] 29)).heap.size (by simp)).trans (heap_alloc_new _ _)
      simpa using this
    have e0 := blk_cell B1 0
    have e1 := blk_cell B1 1
    have e2 := blk_cell B1 2
    have k0 := blk_frozen B1 0
    have k1 := blk_frozen B1 1
    have k2 := blk_frozen B1 2
    have T4 := Aside0.mk B1
    clear B1 hb
    go_wp2
    refine bodyPost_ret (results_list (rs := [.cell 4 29, .tmp 5]) rfl (by simp) (.cell (w.heap.size + 1) 29 #[.slice none 0 0, .int .i64 0, .int .i64 0] (0, 0) _ rfl ?_ hu29 rfl (by kernel_rfl) (.tmp .nil))) rfl ⟨_, rfl, Kd.R_nil _ _ _ _ _, ?_⟩
    · exact blk_put (blk_put (blk_put T4.out 0 _ rfl) 1 _ rfl) 2 _ rfl
    · exact ((HB.out.setCell (by simp) _).setCell (by simp) _).setCell (by simp) _


set_option maxRecDepth 100000 in
set_option maxHeartbeats 4000000 in
theorem fsAppend_call (A : Option Addr) (c : Nat) (l : List S52) (q f : Int) (s : ByteArray) (d : ByteArray) (w : World) (hr : Kd.C k52 w A l.length l) (hc : l.length ≤ c) (ht : ValidFits l) (hf2 : f ≤ 9223372036854775807) (hd : d.size ≤ 140737488355328) :
    Calls Try.prog 31 #[.agg #[.slice A l.length c, .int .i64 q, .int .i64 f], .string s, .string d] w fun e w' => ∃ v, e = .returned (.tuple #[.agg #[v, .int .i64 (fsRes l q f (appendRes l q f s d)).2.1, .int .i64 (fsRes l q f (appendRes l q f s d)).2.2.1], .int .i64 (fsRes l q f (appendRes l q f s d)).2.2.2]) ∧ Kd.R k52 52 w' w.heap.size (fun _ => True) v (fsRes l q f (appendRes l q f s d)).1 ∧ Below w.heap.size w w' := by
  have hu29 := Try.underlying29
  have b0 : Below w.heap.size w ((((w.alloc (.cells #[.slice A l.length c, .int .i64 q, .int .i64 f] 29)).alloc (.cells #[.string s] 9)).alloc (.cells #[.string d] 9)).alloc (.cells #[.slice none 0 0, .int .i64 0, .int .i64 0] 29)) := (((((Below.refl _ _).alloc (Nat.le_refl _) _).alloc (by simp) _).alloc (by simp; omega) _).alloc (by simp; omega) _)
  have T := heap_alloc_new (((w.alloc (.cells #[.slice A l.length c, .int .i64 q, .int .i64 f] 29)).alloc (.cells #[.string s] 9)).alloc (.cells #[.string d] 9)) (.cells #[.slice none 0 0, .int .i64 0, .int .i64 0] 29)
  have HC := Aside0.mk (appendStep_call A c l q f s d (w.heap.size + 1) (w.heap.size + 2) ((((w.alloc (.cells #[.slice A l.length c, .int .i64 q, .int .i64 f] 29)).alloc (.cells #[.string s] 9)).alloc (.cells #[.string d] 9)).alloc (.cells #[.slice none 0 0, .int .i64 0, .int .i64 0] 29)) (Kd.C_below hr b0) hc ht hf2 hd ((blk_cell (blk_alloc (blk_alloc (show (((w.alloc (.cells #[.slice A l.length c, .int .i64 q, .int .i64 f] 29)).alloc (.cells #[.string s] 9))).heap[w.heap.size + 1]? = some (.cells #[.string s] 9 (0, 0)) from by have := heap_alloc_new (w.alloc (.cells #[.slice A l.length c, .int .i64 q, .int .i64 f] 29)) (.cells #[.string s] 9); simpa using this) _) _) 0).trans rfl) ((blk_cell (blk_alloc (show ((((w.alloc (.cells #[.slice A l.length c, .int .i64 q, .int .i64 f] 29)).alloc (.cells #[.string s] 9)).alloc (.cells #[.string d] 9))).heap[w.heap.size + 2]? = some (.cells #[.string d] 9 (0, 0)) from by have := heap_alloc_new ((w.alloc (.cells #[.slice A l.length c, .int .i64 q, .int .i64 f] 29)).alloc (.cells #[.string s] 9)) (.cells #[.string d] 9); simpa using this) _) 0).trans rfl))
  have HB0 := Aside0.mk b0
  have HT := Aside0.mk T
  generalize fsRes l q f (appendRes l q f s d) = r at HC ⊢
  clear hr hc ht b0 T
  go_enter Try.func31, Try.ntmps31
  go_wp2_with fail
  refine HC.out.mono ?_
  rintro e w1 ⟨v, rfl, hR, hb⟩
  obtain ⟨A', c', rfl⟩ := Kd.R_slice hR
  have s1 := hb.size
  simp only [World.size_alloc] at s1
  have T4 := Aside0.mk (show w1.heap[w.heap.size + 3]? = some (.cells #[.slice none 0 0, .int .i64 0, .int .i64 0] 29 (0, 0)) from by
    have := (hb.block _ (blk_lt HT.out)).trans HT.out
    simpa using this)
  have e0 := blk_cell T4.out 0
  have e1 := blk_cell T4.out 1
  have e2 := blk_cell T4.out 2
  have k0 := blk_frozen T4.out 0
  have k1 := blk_frozen T4.out 1
  have k2 := blk_frozen T4.out 2
  have HR := Aside0.mk hR
  have HB := Aside0.mk (HB0.out.trans (hb.mono HB0.out.size))
  clear hR hb
  go_wp2
  refine bodyPost_ret (results_list (rs := [.cell 6 29, .tmp 7]) rfl (by simp) (.cell (w.heap.size + 3) 29 #[.slice A' r.1.length c', .int .i64 r.2.1, .int .i64 r.2.2.1] (0, 0) _ rfl ?_ hu29 rfl (by kernel_rfl) (.tmp .nil))) rfl ⟨_, rfl, ?_, ?_⟩
  · exact blk_put (blk_put (blk_put T4.out 0 _ rfl) 1 _ rfl) 2 _ rfl
  · exact Kd.R_lower (Kd.R_set (Kd.R_set (Kd.R_set HR.out T4.out h52 0 _) (blk_set T4.out _ _) h52 1 _) (blk_set (blk_set T4.out _ _) _ _) h52 2 _) HB0.out.size
  · exact ((HB.out.setCell (by show w.heap.size ≤ w.heap.size + 3; omega) _).setCell (by show w.heap.size ≤ w.heap.size + 3; omega) _).setCell (by show w.heap.size ≤ w.heap.size + 3; omega) _
end Go.Proofs.Ytbppijlcmeidaaa.M
end
section
-- Written by a changed copy of the print program, one module a function. Not trusted: Lean checks it.
namespace Go.Proofs.Ytbppijlcmeidaaa.P
open Go.RowKit Go.Proofs.YtbppijlcmeidaaaW.PrintWords Go.Proofs.YtbppijlcmeidaaaW.PrintLast Go.Proofs.YtbppijlcmeidaaaW.PrintMore
attribute [local go_sem] max2_int min2_int max_two min_two max_three min_three max_four min_four   -- for this text's walks alone
set_option linter.unusedVariables false
set_option linter.unusedSimpArgs false

/-! ### impl_FsAppend: function 31 -/
def impl_FsAppend.f (l0_0 : List (S52)) (a0_1 : Int) (a0_2 : Int) (a1 : ByteArray) (a2 : ByteArray) : Option ((List (S52)) × Int × Int × Int) := if (l0_0.length ≤ 200 → M.total l0_0 ≤ 9223372036854775000) ∧ a0_2 ≤ 9223372036854775807 ∧ a2.size ≤ 140737488355328 then some (M.fsRes l0_0 a0_1 a0_2 (M.appendRes l0_0 a0_1 a0_2 a1 a2)) else none

theorem impl_FsAppend.calls (A0_0 : Option Addr) (c0_0 : Nat) (l0_0 : List (S52)) (a0_1 : Int) (a0_2 : Int) (a1 : ByteArray) (a2 : ByteArray) (r1 : List (S52)) (r2 : Int) (r3 : Int) (r4 : Int) (w : World) (hr0_0 : Kd.C k52 w A0_0 l0_0.length l0_0) (hc0_0 : l0_0.length ≤ c0_0) (h : impl_FsAppend.f l0_0 a0_1 a0_2 a1 a2 = some (r1, r2, r3, r4)) :
  Calls Try.prog 31 #[.agg #[.slice A0_0 l0_0.length c0_0, .int .i64 a0_1, .int .i64 a0_2], .string a1, .string a2] w fun e w' => ∃ v0_ : Value, e = .returned (.tuple #[.agg #[v0_, .int .i64 r2, .int .i64 r3], .int .i64 r4]) ∧ Kd.R k52 52 w' w.heap.size (fun _ => True) v0_ r1 ∧ Below w.heap.size w w' := by
 by_cases c : (l0_0.length ≤ 200 → M.total l0_0 ≤ 9223372036854775000) ∧ a0_2 ≤ 9223372036854775807 ∧ a2.size ≤ 140737488355328
 ·unfold impl_FsAppend.f at h
  rw [if_pos c] at h
  have e := Option.some.inj h
  have h1 := M.fsAppend_call A0_0 c0_0 l0_0 a0_1 a0_2 a1 a2 w hr0_0 hc0_0 c.1 c.2.1 c.2.2
  rw [e] at h1
  exact h1
 ·unfold impl_FsAppend.f at h
  rw [if_neg c] at h
  cases h

end Go.Proofs.Ytbppijlcmeidaaa.P
end
section
-- Written by a changed copy of the print program, one module a function. Not trusted: Lean checks it.
namespace Go.Proofs.Ytbppijlcmeidaaa.P
open Go.RowKit Go.Proofs.YtbppijlcmeidaaaW.PrintWords Go.Proofs.YtbppijlcmeidaaaW.PrintLast Go.Proofs.YtbppijlcmeidaaaW.PrintMore
attribute [local go_sem] max2_int min2_int max_two min_two max_three min_three max_four min_four   -- for this text's walks alone
set_option linter.unusedVariables false
set_option linter.unusedSimpArgs false

/-! ### laws_wPick: function 33 -/
def laws_wPick.f (l0 : List Int) (a1 : Int) : Option (Int) := if (l0.length : Int) = 0 then (some a1) else (if 0 ≤ (Int.tmod a1 (l0.length : Int)) then (if (Int.tmod a1 (l0.length : Int)) < (l0.length : Int) then (some (wrap64 (rd l0 (Int.tmod a1 (l0.length : Int))))) else (none)) else (none))
set_option maxHeartbeats 8000000 in
set_option maxRecDepth 100000 in
theorem laws_wPick.calls (A0 : Option Addr) (c0 : Nat) (l0 : List Int) (a1 : Int) (r : Int) (w : World) (hr0 : Kd.C (Kd.int .u8) w A0 l0.length l0) (hc0 : l0.length ≤ c0) (h : laws_wPick.f l0 a1 = some r) :
  Calls Try.prog 33 #[.slice A0 l0.length c0, .int .i64 a1] w fun e w' => e = .returned (.int .i64 r) ∧ Drawn0 w w' := by
 have HR0 := Aside0.mk hr0
 have HC0 := Aside0.mk hc0
 clear hr0 hc0
 have H : (if (l0.length : Int) = 0 then (some a1) else (if 0 ≤ (Int.tmod a1 (l0.length : Int)) then (if (Int.tmod a1 (l0.length : Int)) < (l0.length : Int) then (some (wrap64 (rd l0 (Int.tmod a1 (l0.length : Int))))) else (none)) else (none))) = some r := h
 clear h
 by_cases c3 : (l0.length : Int) = 0
 ·rw [if_pos c3] at H
  have c3b0 : ((l0.length : Int) == 0) = true := beq_iff_eq.mpr c3
  have c3b1 : ((l0.length : Int) != 0) = false := bne_eq_false_iff_eq.mpr c3
  clear c3
  obtain rfl := Option.some.inj H
  go_enter Try.func33, Try.ntmps33
  go_wp2
  go_ret
  exact ⟨by first | rfl | (simp; done) | (simp [*]; done), by repeat (first | exact Drawn0.refl _ | apply Drawn0.step)⟩
 ·rw [if_neg c3] at H
  have c3b0 : ((l0.length : Int) == 0) = false := beq_eq_false_iff_ne.mpr c3
  have c3b1 : ((l0.length : Int) != 0) = true := bne_iff_ne.mpr c3
  have c3b2 : ¬ (l0 = []) := fun h_ => c3 (by rw [h_]; rfl)
  obtain ⟨ji4, hji4⟩ : ∃ j_ : Int, (Int.tmod a1 (l0.length : Int)) = j_ := ⟨_, rfl⟩
  replace H : (if 0 ≤ (ji4) then (if (ji4) < (l0.length : Int) then (some (wrap64 (rd l0 (ji4)))) else (none)) else (none)) = some r := by first | (rw [hji4] at H; exact H) | (simp only [hji4] at H ⊢; exact H)
  by_cases c5 : 0 ≤ (ji4)
  ·rw [if_pos c5] at H
   have c5b0 : decide (0 ≤ (ji4)) = true := decide_eq_true c5
   clear c5
   by_cases c6 : (ji4) < (l0.length : Int)
   ·rw [if_pos c6] at H
    have c6b0 : decide ((ji4) < (l0.length : Int)) = true := decide_eq_true c6
    clear c6
    obtain rfl := Option.some.inj H
    have p681 : 0 ≤ ((ji4) : Int) := of_decide_eq_true (by first | (with_reducible assumption) | assumption)
    have q681 : (ji4) < (l0.length : Int) := of_decide_eq_true (by first | (with_reducible assumption) | assumption)
    obtain ⟨ad681, e681, hx681_0⟩ := Kd.at_int HR0.out (ji4) p681 q681
    cases e681
    replace p681 := eq_true p681
    replace q681 := eq_true q681
    go_enter Try.func33, Try.ntmps33
    go_wp2
    go_ret
    exact ⟨by first | rfl | (simp; done) | (simp only [← hji4] <;> (first | rfl | simp)) | (simp [*]; done), by repeat (first | exact Drawn0.refl _ | apply Drawn0.step)⟩
   ·rw [if_neg c6] at H
    exact absurd H (by simp)
  ·rw [if_neg c5] at H
   exact absurd H (by simp)

end Go.Proofs.Ytbppijlcmeidaaa.P
end
section
/- The law FnSynced, walked. Condition: the code's bytes are bytes. -/
namespace Go.Proofs.Ytbppijlcmeidaaa.M
open Go.RowKit Go.Proofs.Ytbppijlcmeidaaa.P Go.Proofs.YtbppijlcmeidaaaW.PrintWords Go.Proofs.YtbppijlcmeidaaaW.PrintLast Go.Proofs.YtbppijlcmeidaaaW.PrintMore
set_option linter.unusedVariables false
set_option linter.unusedSimpArgs false
/-- The law goes on. -/
def goB (F : List S52) (q f : Int) : Bool := validB F q f && !(F.length == 0) && (decide (f < 0) || decide (2 ≤ f))
/-- The world behind the two draws: both directories stand, and the codes. -/
structure SW (w wr : World) (A0 : Option Addr) (code : List Int) (A1 : Option Addr) (more : List Int) (g5 : Nat) (A5 : Option Addr) (c5 g8 : Nat) (A8 : Option Addr) (c8 : Nat) (F : List S52) (q f : Int) : Prop where
  bel : Below w.heap.size w wr
  code : Kd.C (Kd.int .u8) wr A0 code.length code
  more : Kd.C (Kd.int .u8) wr A1 more.length more
  b5 : wr.heap[g5]? = some (.cells #[.slice A5 F.length c5, .int .i64 q, .int .i64 f] 29 (0, 0))
  b8 : wr.heap[g8]? = some (.cells #[.slice A8 F.length c8, .int .i64 q, .int .i64 f] 29 (0, 0))
  r5 : Kd.C k52 wr A5 F.length F
  r8 : Kd.C k52 wr A8 F.length F
  l5 : F.length ≤ c5
  l8 : F.length ≤ c8
theorem SW.below {w wr W : World} {A0 : Option Addr} {code : List Int} {A1 : Option Addr} {more : List Int} {g5 : Nat} {A5 : Option Addr} {c5 g8 : Nat} {A8 : Option Addr} {c8 : Nat} {F : List S52} {q f : Int}
    (h : SW w wr A0 code A1 more g5 A5 c5 g8 A8 c8 F q f) (hx : Below wr.heap.size wr W) : SW w W A0 code A1 more g5 A5 c5 g8 A8 c8 F q f :=
  ⟨h.bel.trans (hx.mono h.bel.size), Kd.C_below h.code hx, Kd.C_below h.more hx, (hx.block _ (blk_lt h.b5)).trans h.b5, (hx.block _ (blk_lt h.b8)).trans h.b8, Kd.C_below h.r5 hx, Kd.C_below h.r8 hx, h.l5, h.l8⟩
theorem pick_ev (l : List Int) (hl : ∀ x ∈ l, 0 ≤ x ∧ x ≤ 255) (i : Int) (h0 : 0 ≤ i) (h1 : i ≤ 1048576) : ∃ r, laws_wPick.f l i = some r ∧ 0 ≤ r ∧ r ≤ 1048576 := by
  unfold laws_wPick.f
  by_cases h : (l.length : Int) = 0
  · rw [if_pos h]
    exact ⟨i, rfl, h0, h1⟩
  · have m := tmod_in (a := i) (n := (l.length : Int)) h0 (by omega)
    have hr := rd_in hl (Int.tmod i (l.length : Int))
    rw [if_neg h, if_pos m.1, if_pos m.2, wrap_ok (by omega) (by omega)]
    exact ⟨_, rfl, hr.1, by omega⟩
set_option maxHeartbeats 16000000 in
set_option maxRecDepth 100000 in
theorem synced_call (A0 : Option Addr) (c0 : Nat) (code : List Int) (A1 : Option Addr) (c1 : Nat) (more : List Int) (w : World) (hr0 : Kd.C (Kd.int .u8) w A0 code.length code) (hc0 : code.length ≤ c0) (hr1 : Kd.C (Kd.int .u8) w A1 more.length more) (hc1 : more.length ≤ c1)
    (ok0 : ∀ x ∈ code, 0 ≤ x ∧ x ≤ 255) (ok1 : ∀ x ∈ more, 0 ≤ x ∧ x ≤ 255) :
    Calls Try.prog 9 #[.slice A0 code.length c0, .slice A1 more.length c1] w fun e w' => e = .returned (.bool true) ∧ Below w.heap.size w w' := by
  have hu29 := Try.underlying29
  have hu52 := Try.underlying52
  have HR0 := Aside0.mk hr0
  have HR1 := Aside0.mk hr1
  have OK0 := Aside0.mk ok0
  have OK1 := Aside0.mk ok1
  clear hr0 hr1 ok0 ok1
  by_cases hlen0 : code.length ≤ 1048576
  rotate_left
  · have d0 : decide ((1048576 : Int) < (code.length : Int)) = true := decide_eq_true (by omega)
    have d0' : 1048576 < code.length := by omega
    go_enter Try.func9, Try.ntmps9
    go_wp2
    all_goals (go_ret; exact ⟨rfl, Below.refl _ _⟩)
  by_cases hlen1 : more.length ≤ 1048576
  rotate_left
  · have d1 : decide ((1048576 : Int) < (more.length : Int)) = true := decide_eq_true (by omega)
    have d1' : 1048576 < more.length := by omega
    go_enter Try.func9, Try.ntmps9
    go_wp2_with fail
    all_goals (go_ret; exact ⟨rfl, Below.refl _ _⟩)
  obtain ⟨F, q, f, s, d, hD, ok, hs, hd⟩ := drawAppend_ev code OK0.out hlen0
  obtain ⟨k, hk⟩ := Ev.rounds hD
  have HD1 := Aside0.mk hk
  have OKF := Aside0.mk ok
  clear hD hk ok
  go_enter Try.func9, Try.ntmps9
  go_wp2_with fail
  refine (spec_DrawFsAppend.calls k A0 c0 code F q f s d w HR0.out hc0 HD1.out).mono ?_
  rintro e w1 ⟨v0, rfl, ho, hb⟩
  obtain ⟨A5, c5, rfl, hl5, hC5⟩ := Kd.R_reads ho
  have hb1 : Below w.heap.size w (w1.alloc (.cells #[.slice A5 F.length c5, .int .i64 q, .int .i64 f] 29)) := below_alloc hb _
  have G5 := Aside0.mk (show (w1.alloc (.cells #[.slice A5 F.length c5, .int .i64 q, .int .i64 f] 29)).heap[w1.heap.size]? = some (.cells #[.slice A5 F.length c5, .int .i64 q, .int .i64 f] 29 (0, 0)) from heap_alloc_new w1 _)
  have C5 := Aside0.mk (Kd.C_below hC5 ((Below.refl w1.heap.size w1).alloc (Nat.le_refl _) (.cells #[.slice A5 F.length c5, .int .i64 q, .int .i64 f] 29)))
  have K0 := Aside0.mk (Kd.C_below HR0.out hb1)
  have K1 := Aside0.mk (Kd.C_below HR1.out hb1)
  have HB1 := Aside0.mk hb1
  clear ho hb hC5 hb1 HR0 HR1
  go_wp2_with fail
  refine (spec_DrawFsAppend.calls k A0 c0 code F q f s d (w1.alloc (.cells #[.slice A5 F.length c5, .int .i64 q, .int .i64 f] 29)) K0.out hc0 HD1.out).mono ?_
  generalize w1.alloc (.cells #[.slice A5 F.length c5, .int .i64 q, .int .i64 f] 29) = w1b at *
  generalize w1.heap.size = g5 at *
  rintro e w2 ⟨v1, rfl, ho, hb⟩
  obtain ⟨A8, c8, rfl, hl8, hC8⟩ := Kd.R_reads ho
  have hba : Below w1b.heap.size w1b (w2.alloc (.cells #[.slice A8 F.length c8, .int .i64 q, .int .i64 f] 29)) := below_alloc hb _
  have S0 := Aside0.mk (show SW w (w2.alloc (.cells #[.slice A8 F.length c8, .int .i64 q, .int .i64 f] 29)) A0 code A1 more g5 A5 c5 w2.heap.size A8 c8 F q f from
    ⟨HB1.out.trans (hba.mono HB1.out.size), Kd.C_below K0.out hba, Kd.C_below K1.out hba, (hba.block _ (blk_lt G5.out)).trans G5.out, heap_alloc_new w2 _, Kd.C_below C5.out hba, Kd.C_below hC8 ((Below.refl w2.heap.size w2).alloc (Nat.le_refl _) _), hl5, hl8⟩)
  clear ho hb hC8 hba K0 K1 G5 C5 HB1 hl5 hl8 HD1
  have TT := Aside0.mk (show total F ≤ 1099511627776 from Nat.le_trans (total_small OKF.out.small) (Nat.le_trans (Nat.mul_le_mul_right 1048577 OKF.out.len) (by omega)))
  have NN := Aside0.mk (show ∀ x ∈ F, x.f0.size ≤ 1048576 from fun x hx => by have := (OKF.out.small x hx).1; omega)
  obtain ⟨kv, hkv⟩ := Ev.rounds (specValid_eqB F q f TT.out (by have := OKF.out.len; omega) NN.out)
  have HV := Aside0.mk hkv
  clear hkv
  have z0 := blk_cell S0.out.b8 0
  have z1 := blk_cell S0.out.b8 1
  have z2 := blk_cell S0.out.b8 2
  go_upto_region 5 with fail
  (try simp only [Act.put, List.setIfInBounds_toArray, List.set_cons_zero, List.set_cons_succ])
  go_cut [67] (fun v67 wc => v67 = .bool (!(goB F q f)) ∧ Aside0 (SW w wc A0 code A1 more g5 A5 c5 w2.heap.size A8 c8 F q f))
  case first =>
    go_wp2_with fail
    refine (spec_ValidFS.calls kv A8 c8 F q f (validB F q f) _ S0.out.r8 S0.out.l8 HV.out).mono ?_
    generalize w2.alloc (.cells #[.slice A8 F.length c8, .int .i64 q, .int .i64 f] 29) = w2b at *
    generalize w2.heap.size = g8 at *
    rintro e w3 ⟨rfl, hb⟩
    have S1 := Aside0.mk (S0.out.below hb)
    clear hb S0 z0 z1 z2
    have z0 : w3.cell? ⟨g8, 0, none⟩ = some (.slice A8 F.length c8) := (blk_cell S1.out.b8 0).trans rfl
    have z2 : w3.cell? ⟨g8, 2, none⟩ = some (.int .i64 f) := (blk_cell S1.out.b8 2).trans rfl
    have hgoB : goB F q f = (validB F q f && !(F.length == 0) && (decide (f < 0) || decide (2 ≤ f))) := rfl
    have HGO := Aside0.mk hgoB
    clear hgoB
    cases hvb : validB F q f with
    | false =>
      go_wp2
      go_meet
      case rel => exact ⟨by rw [HGO.out, hvb]; rfl, S1⟩
    | true =>
      by_cases hF : F.length = 0
      · have e0 : ((F.length : Int) == 0) = true := by rw [hF]; rfl
        go_wp2
        go_meet
        case rel => exact ⟨by rw [HGO.out, hvb]; simp [hF], S1⟩
      · have e0 : ((F.length : Int) == 0) = false := by simp; exact fun h => hF (by rw [h]; rfl)
        by_cases hf0 : 0 ≤ f
        · have d0 : decide (0 ≤ f) = true := decide_eq_true hf0
          by_cases hf2 : f < 2
          · have d2 : decide (f < 2) = true := decide_eq_true hf2
            go_wp2
            go_meet
            case rel => exact ⟨by rw [HGO.out, hvb]; simp [hF, show ¬ f < 0 by omega, show ¬ 2 ≤ f by omega], S1⟩
          · have d2 : decide (f < 2) = false := decide_eq_false hf2
            go_wp2
            go_meet
            case rel => exact ⟨by rw [HGO.out, hvb]; simp [hF, show ¬ f < 0 by omega, show 2 ≤ f by omega], S1⟩
        · have d0 : decide (0 ≤ f) = false := decide_eq_false hf0
          go_wp2
          go_meet
          case rel => exact ⟨by rw [HGO.out, hvb]; simp [hF, show f < 0 by omega], S1⟩
  case rest =>
    obtain ⟨rfl, S1⟩ := hcut
    clear z0 z1 z2 S0 HV
    generalize w2.heap.size = g8 at *
    cases hg : goB F q f with
    | false =>
      go_wp2
      go_ret
      exact ⟨rfl, S1.out.bel⟩
    | true =>
    have HG := Aside0.mk hg
    have hF : 0 < F.length := by
      unfold goB at hg
      simp only [Bool.and_eq_true, Bool.not_eq_true', beq_eq_false_iff_ne] at hg
      have := hg.1.2
      omega
    clear hg
    have hne : (F = []) = False := eq_false (by rintro rfl; simp at hF)
    obtain ⟨r0, hp0, r00, r01⟩ := pick_ev more OK1.out 0 (by omega) (by omega)
    have HP0 := Aside0.mk hp0
    have hm := tmod_in (a := r0) (n := (F.length : Int)) r00 (by omega)
    clear hp0
    go_upto_region 7 with fail
    have BD := Aside0.mk (below_drew (Below.refl wc.heap.size wc))
    refine start_ (n := 7) (S := fun w' => w'.cell? ⟨g8, 0, none⟩ = some (.slice A8 F.length c8)) (ds := []) #[false, false, false, false, false, false, false] (by kernel_rfl) rfl rfl ((blk_cell (S1.out.below BD.out).b8 0).trans rfl) (fun hHeld => ?_)
    have DW := Aside0.mk (S1.out.below BD.out)
    clear S1 BD
    generalize wc.drew = wd at DW hHeld ⊢
    refine pure_ (i := 0) (N := some 68) (v := ?_) (a' := ?_) #[true, false, false, false, false, false, false] rfl rfl (by kernel_rfl) (fun _ _ _ h => h) (Or.inl ⟨by rfl, ?_⟩) ?_ ?_
    rotate_left
    · intro w'
      go_simp
      with_reducible rfl
    rotate_left
    · simp only [Act.put, List.setIfInBounds_toArray, List.set_cons_zero, List.set_cons_succ, i64_w, i32_w]
      rfl
    refine pure_ (i := 2) (N := some 70) (v := ?_) (a' := ?_) #[true, false, true, false, false, false, false] rfl rfl (by kernel_rfl) (fun _ _ _ h => h) (Or.inl ⟨by rfl, ?_⟩) ?_ ?_
    rotate_left
    · intro w'
      go_simp
      with_reducible rfl
    rotate_left
    · simp only [Act.put, List.setIfInBounds_toArray, List.set_cons_zero, List.set_cons_succ, i64_w, i32_w]
      rfl
    refine take_ (i := 3) (N := some 71) (v := ?_) (a' := ?_) #[true, false, true, true, false, false, false] rfl rfl (by kernel_rfl) (fun _ _ _ h => h) (Or.inl ⟨by rfl, ?_⟩) hHeld ?_ ?_
    rotate_left
    · intro w' s0
      go_simp
      with_reducible rfl
    rotate_left
    · simp only [Act.put, List.setIfInBounds_toArray, List.set_cons_zero, List.set_cons_succ, i64_w, i32_w]
      rfl
    refine pure_ (i := 4) (N := some 72) (v := ?_) (a' := ?_) #[true, false, true, true, true, false, false] rfl rfl (by kernel_rfl) (fun _ _ _ h => h) (Or.inl ⟨by rfl, ?_⟩) ?_ ?_
    rotate_left
    · intro w'
      go_simp
      with_reducible rfl
    rotate_left
    · simp only [Act.put, List.setIfInBounds_toArray, List.set_cons_zero, List.set_cons_succ, i64_w, i32_w]
      rfl
    refine one_ (i := 1) (N := some 69) #[true, true, true, true, true, false, false] rfl rfl (by kernel_rfl) (by decide) (fun K hK => ?_)
    refine goes_ Try.func33 (by kernel_rfl) rfl #[.slice A1 more.length c1, .int .i64 0] (by rfl) rfl rfl (by simp only [List.map_toArray, List.map_cons, List.map_nil]; rfl) ?_
    with_reducible refine (laws_wPick.calls A1 c1 more 0 r0 _ DW.out.more hc1 HP0.out).mono ?_
    rintro e wp ⟨rfl, hdr⟩
    refine ⟨_, rfl, ?_⟩
    have S2 := Aside0.mk (DW.out.below hdr.below)
    clear hdr DW
    refine hK.out _ _ ((blk_cell S2.out.b8 0).trans rfl) (fun hHeld => ?_)
    clear hK K
    refine norm_ (a' := ?_) ?_ ?_
    rotate_left
    · show Act.put _ (some 69) _ = _
      simp only [Act.put, List.setIfInBounds_toArray, List.set_cons_zero, List.set_cons_succ, i64_w, i32_w]
      rfl
    refine pure_ (i := 5) (N := some 73) (v := ?_) (a' := ?_) #[true, true, true, true, true, true, false] rfl rfl (by kernel_rfl) (fun _ _ _ h => h) (Or.inl ⟨by rfl, ?_⟩) ?_ ?_
    rotate_left
    · intro w'
      go_simp
      with_reducible rfl
    rotate_left
    · simp only [Act.put, List.setIfInBounds_toArray, List.set_cons_zero, List.set_cons_succ, i64_w, i32_w]
      rfl
    refine pure_ (i := 6) (N := some 11) (v := ?_) (a' := ?_) #[true, true, true, true, true, true, true] rfl rfl (by kernel_rfl) (fun _ _ _ h => h) (Or.inl ⟨by rfl, ?_⟩) ?_ ?_
    rotate_left
    · intro w'
      go_simp
      with_reducible rfl
    rotate_left
    · simp only [Act.put, List.setIfInBounds_toArray, List.set_cons_zero, List.set_cons_succ, i64_w, i32_w]
      rfl
    refine done_ (by kernel_rfl) ?_

    obtain ⟨n, hn⟩ : ∃ n : Nat, Int.tmod r0 (F.length : Int) = (n : Int) := ⟨(Int.tmod r0 (F.length : Int)).toNat, by omega⟩
    rw [hn] at hm ⊢
    have hn1 : n < F.length := by omega
    obtain ⟨ad, hA8, hx0, hx1, hx2⟩ := at_T52 S2.out.r8 (n : Int) (by omega) (by omega)
    rw [Int.toNat_natCast] at hx0 hx1 hx2
    have hxe : rd_T52 F (n : Int) = F[n] := rd52 F n hn1
    rw [hxe] at hx0 hx1 hx2
    subst hA8
    have z0 : wp.cell? ⟨g8, 0, none⟩ = some (.slice (some ad) F.length c8) := (blk_cell S2.out.b8 0).trans rfl
    have w0 : wp.cell? ⟨g5, 0, none⟩ = some (.slice A5 F.length c5) := (blk_cell S2.out.b5 0).trans rfl
    have w1_ : wp.cell? ⟨g5, 1, none⟩ = some (.int .i64 q) := (blk_cell S2.out.b5 1).trans rfl
    have w2_ : wp.cell? ⟨g5, 2, none⟩ = some (.int .i64 f) := (blk_cell S2.out.b5 2).trans rfl
    have l5 := blk_lt S2.out.b5
    have hgo := HG.out
    unfold goB at hgo
    simp only [Bool.and_eq_true, Bool.or_eq_true, decide_eq_true_eq] at hgo
    have hv := hgo.1.1
    have hf : f = -1 ∨ 2 ≤ f := by have := (valid_parts hv).2.2.2.1; omega
    have HVV := Aside0.mk hv
    have HFF := Aside0.mk hf
    obtain ⟨F1, hF1⟩ : ∃ F1, F.set n (syn F[n]) = F1 := ⟨_, rfl⟩
    have HS1 := Aside0.mk (show impl_FsSync.f F q f F[n].f0 = some (F1, q, fuel' f, 0) from by
      unfold impl_FsSync.f
      rw [if_pos ⟨fun _ => Nat.le_trans TT.out (by omega), by have := OKF.out.f1; omega⟩, syn_sync hv hf hn1, hF1])
    have HF1 := Aside0.mk hF1
    have G12 := Aside0.mk (heap_alloc_new wp (.cells #[.string F[n].f0, .string F[n].f1, .int .i64 F[n].f2] 52))
    have S3 := Aside0.mk (S2.out.below ((Below.refl wp.heap.size wp).alloc (Nat.le_refl _) (.cells #[.string F[n].f0, .string F[n].f1, .int .i64 F[n].f2] 52)))
    clear hgo hv hf hF1
    go_wp2_with fail
    refine (impl_FsSync.calls A5 c5 F q f F[n].f0 F1 q (fuel' f) 0 (wp.alloc (.cells #[.string F[n].f0, .string F[n].f1, .int .i64 F[n].f2] 52)) S3.out.r5 S3.out.l5 HS1.out).mono ?_
    clear S2 z0 w0 w1_ w2_ l5 HS1
    generalize wp.alloc (.cells #[.string F[n].f0, .string F[n].f1, .int .i64 F[n].f2] 52) = wq at *
    generalize wp.heap.size = g12 at *
    rintro e w4 ⟨vs, rfl, ho, hb⟩
    obtain ⟨A13, c13, rfl, l13, C13⟩ := Kd.R_reads ho
    have S4 := Aside0.mk (S3.out.below (below_alloc hb (.cells #[.slice A13 F1.length c13, .int .i64 q, .int .i64 (fuel' f)] 29)))
    have G13 := Aside0.mk (heap_alloc_new w4 (.cells #[.slice A13 F1.length c13, .int .i64 q, .int .i64 (fuel' f)] 29))
    have R13 := Aside0.mk (Kd.C_below C13 ((Below.refl w4.heap.size w4).alloc (Nat.le_refl _) (.cells #[.slice A13 F1.length c13, .int .i64 q, .int .i64 (fuel' f)] 29)))
    have G12' := Aside0.mk (((below_alloc hb (.cells #[.slice A13 F1.length c13, .int .i64 q, .int .i64 (fuel' f)] 29)).block _ (blk_lt G12.out)).trans G12.out)
    clear ho hb C13 S3 G12
    have y0 := blk_cell G12'.out 0
    obtain ⟨L1, c, hL1, hcw, hc0⟩ := app_both HVV.out HFF.out hn1 d
    rw [HF1.out] at hL1
    have HC0 := Aside0.mk hc0
    have T1 := Aside0.mk (show total F1 ≤ 1048576 from by
      have h := (valid_parts (valid_syn HVV.out hn1 (fuel' f) (fuel_go HFF.out).2.1)).2.2.2.2.2
      rw [HF1.out] at h
      exact h)
    have HS2 := Aside0.mk (show impl_FsAppend.f F1 q (fuel' f) F[n].f0 d = some (L1, q, fuel' (fuel' f), c) from by
      unfold impl_FsAppend.f
      rw [if_pos ⟨fun _ => Nat.le_trans T1.out (by omega), by have := OKF.out.f1; unfold fuel'; split <;> omega, by omega⟩, hL1])
    obtain ⟨ka, hka⟩ := Ev.rounds (specAppend_eq F q f F[n].f0 (valid_parts HVV.out).2.2.2.2.2 (by have := OKF.out.len; omega) NN.out (by have := OKF.out.f1; omega) d (by omega))
    obtain ⟨L2, q2, f2, c2, hr2⟩ : ∃ L2 q2 f2 c2, fsRes F q f (appendRes F q f F[n].f0 d) = (L2, q2, f2, c2) := ⟨_, _, _, _, rfl⟩
    rw [hr2] at hcw hka
    have hcw : c2 = c := hcw
    subst hcw
    have HS3 := Aside0.mk hka
    clear hL1 hc0 hr2 hka
    go_wp2_with fail
    refine (impl_FsAppend.calls A13 c13 F1 q (fuel' f) F[n].f0 d L1 q (fuel' (fuel' f)) c2 _ R13.out l13 HS2.out).mono ?_
    rintro e w5 ⟨vs, rfl, ho, hb⟩
    obtain ⟨A15, c15, rfl, l15, C15⟩ := Kd.R_reads ho
    have S5 := Aside0.mk (S4.out.below (below_alloc hb (.cells #[.slice A15 L1.length c15, .int .i64 q, .int .i64 (fuel' (fuel' f))] 29)))
    have G15 := Aside0.mk (heap_alloc_new w5 (.cells #[.slice A15 L1.length c15, .int .i64 q, .int .i64 (fuel' (fuel' f))] 29))
    have R15 := Aside0.mk (Kd.C_below C15 ((Below.refl w5.heap.size w5).alloc (Nat.le_refl _) (.cells #[.slice A15 L1.length c15, .int .i64 q, .int .i64 (fuel' (fuel' f))] 29)))
    have G12b := Aside0.mk (((below_alloc hb (.cells #[.slice A15 L1.length c15, .int .i64 q, .int .i64 (fuel' (fuel' f))] 29)).block _ (blk_lt G12'.out)).trans G12'.out)
    clear ho hb C15 S4 G12' y0 HS2 G13 R13
    have y0 := blk_cell G12b.out 0
    have z0 := blk_cell S5.out.b8 0
    have z1 := blk_cell S5.out.b8 1
    have z2 := blk_cell S5.out.b8 2
    go_wp2_with fail
    refine (spec_FsAppend.calls ka (some ad) c8 F q f F[n].f0 d L2 q2 f2 c2 _ S5.out.r8 S5.out.l8 HS3.out).mono ?_
    generalize w5.alloc (.cells #[.slice A15 L1.length c15, .int .i64 q, .int .i64 (fuel' (fuel' f))] 29) = w5b at *
    generalize w5.heap.size = g15 at *
    rintro e w6 ⟨vs, rfl, ho, hb⟩
    obtain ⟨A17, c17, rfl, _, _⟩ := Kd.R_reads ho
    have hba := below_alloc hb (.cells #[.slice A17 L2.length c17, .int .i64 q2, .int .i64 f2] 29)
    have S6 := Aside0.mk (S5.out.below hba)
    have G15' := Aside0.mk ((hba.block _ (blk_lt G15.out)).trans G15.out)
    have R15' := Aside0.mk (Kd.C_below R15.out hba)
    have G12c := Aside0.mk ((hba.block _ (blk_lt G12b.out)).trans G12b.out)
    clear ho hb hba S5 G15 R15 G12b y0 z0 z1 z2 HS3
    by_cases hc2 : c2 = 0
    rotate_left
    · go_wp2
      all_goals (go_ret; exact ⟨rfl, S6.out.bel⟩)
    subst hc2
    obtain ⟨hL1, hdl⟩ := HC0.out rfl
    have HL1 := Aside0.mk hL1
    clear hL1
    go_wp2_with ((with_reducible refine gate_dst (N := 109) rfl ?_); (try (refine gate_guard (by rfl) ?_; dsimp only)); refine Kd.R_lit (Kd.int .i64) _ 3 ?hg (N := 109) ?hd (xs := ([] : List Int)) (inner := []) (ok := fun _ => True) (okp := fun _ => True) ?hr ?hp (fun _ hk => hk) trivial (Below.refl _ _) (Nat.le_refl _) (by simp) ?_; (case hd => rfl); (case hg => rfl); (case hr => first | (go_simp; done) | (go_simp; rfl)); (case hp => exact (Reps.none _ _)); intro v19 w7 ho hb hg_ hnew_; clear hg_ hnew_; have KR := Aside0.mk ho; have KB := Aside0.mk hb; clear ho hb)
    obtain ⟨wl, hwl⟩ : ∃ wl, w6.alloc (.cells #[.slice A17 L2.length c17, .int .i64 q2, .int .i64 f2] 29) = wl := ⟨_, rfl⟩
    rw [hwl] at S6 G15' R15' G12c KR KB
    clear hwl hx0 hx1 hx2 hxe
    go_loopw [19, 20] (fun v19 v20 wr => ∃ ks : List Int, v20 = .int .i64 (ks.length : Int) ∧ Aside0 (ks.length ≤ F.length) ∧ Aside0 (Kd.R (Kd.int .i64) 3 wr wl.heap.size (fun _ => True) v19 ks) ∧ Aside0 (Below wl.heap.size wl wr)) (fun _ v20 _ => F.length - (intOf v20).toNat)
    case atStart => exact ⟨[], rfl, ⟨Nat.zero_le _⟩, KR, KB⟩
    case round =>
      obtain ⟨ks, rfl, HL, HR, HB⟩ := hrel
      clear KR KB
      have z0 : wr.cell? ⟨g8, 0, none⟩ = some (.slice (some ad) F.length c8) := (blk_cell (S6.out.below HB.out).b8 0).trans rfl
      by_cases hlt : ks.length < F.length
      · obtain ⟨r, hp, hr0, hr1⟩ := pick_ev more OK1.out (1 + (ks.length : Int)) (by omega) (by have := OKF.out.len; omega)
        have HP := Aside0.mk (show laws_wPick.f more (wrap64 (1 + (ks.length : Int))) = some r by rw [wrap_ok (by omega) (by have := OKF.out.len; omega)]; exact hp)
        clear hp
        have HWR := Aside0.mk (show wrap64 ((ks.length : Int) + 1) = (ks.length : Int) + 1 from wrap_ok (by omega) (by have := OKF.out.len; omega))
        go_wp2_with fail
        refine (laws_wPick.calls A1 c1 more _ r wr (S6.out.below HB.out).more hc1 HP.out).mono ?_
        rintro e w' ⟨rfl, hdr⟩
        have HB' := Aside0.mk (HB.out.trans (hdr.below.mono HB.out.size))
        have HR' := Aside0.mk (Kd.R_below HR.out hdr.below)
        clear hdr HR HB z0 HP
        go_wp2_with ((with_reducible refine gate_builtin (b := .append) (xs := #[.tmp 117, .tmp 124]) rfl ?_); (try (refine gate_guard (by rfl) ?_; dsimp only)); at_builtin; refine Kd.R_append (Kd.int .i64) (w0 := wl) wl.heap.size rfl (.tmp 117) (.tmp 124) 36 3 (.int .i64 0) 8 rfl Try.underlying36 info3 rfl (by decide) (by omega) u19 ks (r % 20 - 2) [.int .i64 (r % 20 - 2)] (fun _ => True) (fun _ => False) rfl rfl ?aP (fun _ hk => hk.elim) ?aF ?aO ?aB ?aS ?aL ?_; (case aP => exact rfl); (case aF => exact (fun _ _ => trivial)); (case aO => exact HR'.out); (case aB => exact HB'.out); (case aS => exact HB'.out.size); (case aL => have := OKF.out.len; omega); intro v1 w1 ho hb hg hat; have HR2 := Aside0.mk ho; have HB2 := Aside0.mk hb; clear ho hb hg hat)
        go_roundw
        case rel => exact ⟨_, by rw [HWR.out, List.length_append]; rfl, ⟨by rw [List.length_append]; show ks.length + 1 ≤ _; omega⟩, HR2, HB2⟩
        case measure => rw [HWR.out]; exact meas_lt _ _ hlt
      · have HKL := Aside0.mk (show ks.length = F.length by have := HL.out; omega)
        obtain ⟨A19, c19, rfl, l19, C19⟩ := Kd.R_reads HR.out
        have S7 := Aside0.mk (S6.out.below HB.out)
        have G12d := Aside0.mk ((HB.out.block _ (blk_lt G12c.out)).trans G12c.out)
        have G15'' := Aside0.mk ((HB.out.block _ (blk_lt G15'.out)).trans G15'.out)
        have R15'' := Aside0.mk (Kd.C_below R15'.out HB.out)
        have K19 := Aside0.mk C19
        clear S6 G12c G15' R15' HR HB C19
        have y0 := blk_cell G15''.out 0
        have y1 := blk_cell G15''.out 1
        have y2 := blk_cell G15''.out 2
        have hc := synced_crash HVV.out hn1 d hdl ks (fuel' (fuel' f)) (fuel_two HFF.out)
        rw [← HL1.out] at hc
        have HC := Aside0.mk hc
        clear hc
        go_wp2_with fail
        refine (impl_FsCrash.calls A15 c15 L1 q (fuel' (fuel' f)) A19 c19 ks _ q (-1) wr R15''.out l15 K19.out l19 HC.out).mono ?_
        rintro e w8 ⟨vs, rfl, ho, hb⟩
        obtain ⟨L3, hL3⟩ : ∃ L3, crash ks L1 = L3 := ⟨_, rfl⟩
        have hlen3 : L3.length = F.length := by rw [← hL3, crash_length, HL1.out, List.length_set]
        rw [hL3] at ho
        obtain ⟨A21, c21, rfl, l21, C21⟩ := Kd.R_reads ho
        rw [hlen3] at l21 C21
        rw [hlen3]
        have hba := below_alloc hb (.cells #[.slice A21 F.length c21, .int .i64 q, .int .i64 (-1)] 29)
        have S8 := Aside0.mk (S7.out.below hba)
        have G12e := Aside0.mk ((hba.block _ (blk_lt G12d.out)).trans G12d.out)
        have G21 := Aside0.mk (heap_alloc_new w8 (.cells #[.slice A21 F.length c21, .int .i64 q, .int .i64 (-1)] 29))
        have R21 := Aside0.mk (Kd.C_below C21 ((Below.refl w8.heap.size w8).alloc (Nat.le_refl _) (.cells #[.slice A21 F.length c21, .int .i64 q, .int .i64 (-1)] 29)))
        have K19' := Aside0.mk (Kd.C_below K19.out hba)
        have HL3 := Aside0.mk hL3
        have HN3 := Aside0.mk hlen3
        clear ho hb C21 hba S7 G12d G15'' R15'' K19 y0 y1 y2 HC hL3 hlen3
        have z0 := blk_cell S8.out.b8 0
        have x0 := blk_cell G21.out 0
        have hnk : n < ks.length := by rw [HKL.out]; exact hn1
        obtain ⟨ak, hak, hka⟩ := at_keep K19'.out n hnk
        subst hak
        go_upto_if 141 with (fail)
        generalize w8.alloc (.cells #[.slice A21 F.length c21, .int .i64 q, .int .i64 (-1)] 29) = w8b at *
        generalize w8.heap.size = g21 at *
        go_cut [22] (fun v22 wc => v22 = .int .i64 (mx 0 ks[n]) ∧ Aside0 (Below w8b.heap.size w8b wc))
        case first =>
          by_cases c : ks[n] < 0
          · have hm0 := Aside0.mk (show mx 0 ks[n] = 0 by unfold mx; rw [if_neg (by omega)])
            go_wp2
            go_meet
            case rel => exact ⟨by rw [hm0.out], ⟨Below.refl _ _⟩⟩
          · have hm0 := Aside0.mk (show mx 0 ks[n] = ks[n] by unfold mx; split <;> omega)
            go_wp2
            go_meet
            case rel => exact ⟨by rw [hm0.out], ⟨Below.refl _ _⟩⟩
        case rest =>
          obtain ⟨rfl, HB8⟩ := hcut
          go_upto_if 145 with (fail)
          have S9 := Aside0.mk (S8.out.below HB8.out)
          have G12f := Aside0.mk ((HB8.out.block _ (blk_lt G12e.out)).trans G12e.out)
          have G21' := Aside0.mk ((HB8.out.block _ (blk_lt G21.out)).trans G21.out)
          have R21' := Aside0.mk (Kd.C_below R21.out HB8.out)
          clear HB8 S8 G12e G21 R21 K19' z0 x0 hka
          go_cut [22] (fun v22 wd => v22 = .int .i64 (keptN ks n d : Int) ∧ Aside0 (Below wc.heap.size wc wd))
          case first =>
            by_cases c : (d.size : Int) < mx 0 ks[n]
            · have hm0 := Aside0.mk (keptN_top hnk c)
              go_wp2
              go_meet
              case rel => exact ⟨by rw [hm0.out], ⟨Below.refl _ _⟩⟩
            · have hm0 := Aside0.mk (keptN_mid hnk c)
              go_wp2
              go_meet
              case rel => exact ⟨by rw [hm0.out], ⟨Below.refl _ _⟩⟩
          case rest =>
            obtain ⟨rfl, HB9⟩ := hcut
            have S10 := Aside0.mk (S9.out.below HB9.out)
            have G12g := Aside0.mk ((HB9.out.block _ (blk_lt G12f.out)).trans G12f.out)
            have G21a := Aside0.mk ((HB9.out.block _ (blk_lt G21'.out)).trans G21'.out)
            have R21a := Aside0.mk (Kd.C_below R21'.out HB9.out)
            clear HB9 S9 G12f G21' R21'
            obtain ⟨m, hm'⟩ : ∃ m, keptN ks n d = m := ⟨_, rfl⟩
            have hmd : m ≤ d.size := by rw [← hm']; exact keptN_le ks n d
            have hfa := find_at HVV.out hn1 d hdl ks HKL.out
            rw [hm', ← HL1.out, HL3.out] at hfa
            have HFA := Aside0.mk hfa
            rw [hm']
            clear hm' hfa
            have y0 := blk_cell G12g.out 0
            have y1 := blk_cell G12g.out 1
            have x0 := blk_cell G21a.out 0
            have x1 := blk_cell G21a.out 1
            have x2 := blk_cell G21a.out 2
            go_wp2_with fail
            have hcf := impl_FsFind.calls A21 c21 L3 q (-1) F[n].f0 (F[n].f1 ++ d.extract 0 m) true wc (by rw [HN3.out]; exact R21a.out) (by rw [HN3.out]; exact l21) HFA.out
            rw [HN3.out] at hcf
            refine hcf.mono ?_
            clear hcf
            rintro e w9 ⟨rfl, hb⟩
            have S11 := Aside0.mk (S10.out.below hb)
            have G12h := Aside0.mk ((hb.block _ (blk_lt G12g.out)).trans G12g.out)
            have G21b := Aside0.mk ((hb.block _ (blk_lt G21a.out)).trans G21a.out)
            have R21b := Aside0.mk (Kd.C_below R21a.out hb)
            clear hb S10 G12g G21a R21a y0 y1 x0 x1 x2 HFA
            have y0 := blk_cell G12h.out 0
            have y1 := blk_cell G12h.out 1
            have hbig := eq_false (Nat.not_lt.2 (show F[n].f1.size + m ≤ 9223372036854775807 by have h1 := (OKF.out.small F[n] (List.getElem_mem hn1)).2; omega))
            go_upto_region 32 with fail
            go_quiet (fail)
            go_wp2_with fail
            clear y0 y1 hbig
            go_loopw [25] (fun v25 wr => ∃ i : Nat, v25 = .int .i64 (i : Int) ∧ Aside0 (i ≤ F.length) ∧ Aside0 (Below w9.heap.size w9 wr)) (fun v25 _ => F.length - (intOf v25).toNat)
            case atStart => exact ⟨0, rfl, ⟨Nat.zero_le _⟩, ⟨pw_below_drewN (Below.refl _ _) _⟩⟩
            case round =>
              obtain ⟨i, rfl, HI, HBr⟩ := hrel
              have S12 := Aside0.mk (S11.out.below HBr.out)
              have G21c := Aside0.mk ((HBr.out.block _ (blk_lt G21b.out)).trans G21b.out)
              have R21c := Aside0.mk (Kd.C_below R21b.out HBr.out)
              have z0 : wr.cell? ⟨g8, 0, none⟩ = some (.slice (some ad) F.length c8) := (blk_cell S12.out.b8 0).trans rfl
              by_cases hi : i < F.length
              · obtain ⟨D, hfi, h20, h21, hD2, hwb⟩ := find_all HVV.out hn1 d hdl ks hi
                obtain ⟨ad2, hA, hx0, hx1, hx2⟩ := at_T52 S12.out.r8 (i : Int) (by omega) (by omega)
                obtain rfl := Option.some.inj hA
                rw [Int.toNat_natCast] at hx0 hx1 hx2
                rw [rd52 F i hi] at hx0 hx1 hx2
                rw [← HL1.out, HL3.out] at hfi
                have HFI := Aside0.mk hfi
                have HWB := Aside0.mk hwb
                have dt : decide ((D.size : Int) < F[i].f2) = false := decide_eq_false (by omega)
                clear hfi hwb hA
                have x0 := blk_cell G21c.out 0
                have x1 := blk_cell G21c.out 1
                have x2 := blk_cell G21c.out 2
                have lx := blk_lt G21c.out
                go_wp2_with fail
                have hcf := impl_FsFind.calls A21 c21 L3 q (-1) F[i].f0 D true (wr.alloc (.cells #[.string F[i].f0, .string F[i].f1, .int .i64 F[i].f2] 52)) (by rw [HN3.out]; exact Kd.C_below R21c.out ((Below.refl wr.heap.size wr).alloc (Nat.le_refl _) _)) (by rw [HN3.out]; exact l21) HFI.out
                rw [HN3.out] at hcf
                refine hcf.mono ?_
                clear hcf
                rintro e w10 ⟨rfl, hb⟩
                have G26 := Aside0.mk ((hb.block _ (blk_lt (heap_alloc_new wr (.cells #[.string F[i].f0, .string F[i].f1, .int .i64 F[i].f2] 52)))).trans (heap_alloc_new wr (.cells #[.string F[i].f0, .string F[i].f1, .int .i64 F[i].f2] 52)))
                have HB2 := Aside0.mk (HBr.out.trans ((((Below.refl wr.heap.size wr).alloc (Nat.le_refl _) (.cells #[.string F[i].f0, .string F[i].f1, .int .i64 F[i].f2] 52)).trans (hb.mono (by simp))).mono HBr.out.size))
                clear hb x0 x1 x2 lx z0 hx0 hx1 hx2 HFI
                have y1 := blk_cell G26.out 1
                have y2 := blk_cell G26.out 2
                have t20 := eq_true h20
                have t21 := eq_true h21
                go_wp2_with (go_at_call 34; refine (laws_wBegins.calls D _ true w10 HWB.out).mono ?_; rintro e w11 ⟨rfl, hdr⟩; have HB3 := Aside0.mk (HB2.out.trans (hdr.below.mono HB2.out.size)); clear hdr)
                have hwr : wrap64 ((i : Int) + 1) = (i : Int) + 1 := wrap_ok (by omega) (by have := OKF.out.len; omega)
                rw [hwr]
                exact ⟨⟨i + 1, rfl, ⟨hi⟩, HB3⟩, meas_lt _ _ hi⟩
              · go_wp2
                go_ret
                exact ⟨rfl, S12.out.bel⟩
end Go.Proofs.Ytbppijlcmeidaaa.M
end
section
/- The law FnSynced answers true at every argument that its row lets in: after sync, append and crash a file has its old Data and as much of the new as it may keep; other files have at least what was synced. No condition beyond the row's own. -/
namespace Go.Proofs.Ytbppijlcmeidaaa.M
open Go.RowKit Go.Proofs.Ytbppijlcmeidaaa.P Go.Proofs.YtbppijlcmeidaaaW.PrintWords Go.Proofs.YtbppijlcmeidaaaW.PrintLast Go.Proofs.YtbppijlcmeidaaaW.PrintMore
theorem byte_of {n : Int} (h : (Lit.int .u8 n).wf = true) : 0 ≤ n ∧ n ≤ 255 := by
  simp only [Lit.wf, Bool.and_eq_true, decide_eq_true_eq] at h
  exact h
theorem synced_walk (a0 : Option Addr) (len0 cap0 : Nat) (z0 : List Int) (a1 : Option Addr) (len1 cap1 : Nat) (z1 : List Int) (w : World) (w0 : (a0 = none ∧ len0 = 0 ∧ cap0 = 0 ∧ z0 = []) ∨ ∃ x, a0 = some x ∧ len0 ≤ cap0 ∧ cap0 ≤ maxLen ∧ z0.length = cap0 ∧ (∀ i, i < z0.length → w.cell? (x.add i) = some (.int .u8 (z0.getD i 0))) ∧ ∀ n ∈ z0, (Lit.int .u8 n).wf = true) (w1 : (a1 = none ∧ len1 = 0 ∧ cap1 = 0 ∧ z1 = []) ∨ ∃ x, a1 = some x ∧ len1 ≤ cap1 ∧ cap1 ≤ maxLen ∧ z1.length = cap1 ∧ (∀ i, i < z1.length → w.cell? (x.add i) = some (.int .u8 (z1.getD i 0))) ∧ ∀ n ∈ z1, (Lit.int .u8 n).wf = true) :
    Calls Try.prog 9 #[.slice a0 len0 cap0, .slice a1 len1 cap1] w fun e w' => e = .returned (.bool true) ∧ Below w.heap.size w w' := by
  obtain ⟨l0, rfl, hr0, hm0, hw0, hc0⟩ := ReadsInt.ofRowC w0
  obtain ⟨l1, rfl, hr1, hm1, hw1, hc1⟩ := ReadsInt.ofRowC w1
  exact synced_call a0 cap0 l0 a1 cap1 l1 w (Kd.C_of_reads (d := (0 : Int)) (h1 := fun _ => rfl) hr0) hc0 (Kd.C_of_reads (d := (0 : Int)) (h1 := fun _ => rfl) hr1) hc1 (fun x hx => byte_of (hw0 x hx)) (fun x hx => byte_of (hw1 x hx))
end Go.Proofs.Ytbppijlcmeidaaa.M
namespace Go.Proofs.Ytbppijlcmeidaaa.fnSynced
open Go.ChangeShapes Go.WideShapes Go.ChangeAt Go.RowKit
open Go.ChangeMaps (open_string shut_string)
set_option linter.unusedVariables false
theorem own : ownKnob Try.prog.godebug = none := by kernel_rfl
theorem laidOut : laidOutB Try.prog = true := by kernel_rfl
def IsRow (k : IntKind) (w : World) (a : Option Addr) (len cap : Nat) (zs : List Int) : Prop :=
  (a = none ∧ len = 0 ∧ cap = 0 ∧ zs = []) ∨
  ∃ x, a = some x ∧ len ≤ cap ∧ cap ≤ maxLen ∧ zs.length = cap ∧ (∀ i, i < zs.length → w.cell? (x.add i) = some (.int k (zs.getD i 0))) ∧ ∀ n ∈ zs, (Lit.int k n).wf = true
set_option maxRecDepth 100000 in
theorem lifted (os : Os) (started : os.Started) (H : Type) (enc : TypeId × Value → H) :
    ReturnsInHanded {} Try.checked os 9 .any (Rows.fnSyncedSpec.pre6 enc Try.prog Try.f9 Rows.fnSyncedRow.domain false) (Rows.fnSyncedSpec.post enc Try.prog Try.f9 false true false false) := by
  refine returnsInHanded_of_change_sized (C := Try.checked) own started (by kernel_rfl) Try.func9
    (ChangeSpec.witness6 (enc := enc) (C := Try.checked) false ⟨#[], #[.slice none 0 0, .slice none 0 0], []⟩ 8 (by kernel_rfl) (by kernel_rfl) (by kernel_rfl) (by kernel_rfl)) ?_
  intro W base args ds gs before hval0 hW hcnd hsz0 _
  have hsz : (DataW.weightsEach Try.prog (Try.f9.params.toList ++ Rows.fnSyncedSpec.plain.varTypes Try.prog) (ds ++ gs)).all (· ≤ reachBytes) = true := hsz0
  have hval : ∀ (j : Nat) t v, Try.f9.params[j]? = some t → args[j]? = some v → Value.okWide Try.prog W .any base t v := hval0
  have hW' := hW
  obtain ⟨p, q, hA0, hV, rfl, hfz, hnd⟩ := hW
  have hA : DataW.TrodAll enc Try.prog W 0 (fun _ => true) true Try.f9.params.toList args.toList ds p := hA0
  rw [Try.params9] at hA hval hsz
  obtain ⟨v0, vs0, d0, ds0, p0, q0, hargs, rfl, rfl, h0, r0⟩ := trodAll_cons hA
  obtain ⟨v1, vs1, d1, ds1, p1, q1, rfl, rfl, rfl, h1, r1⟩ := trodAll_cons r0
  obtain ⟨rfl, rfl, rfl⟩ := trodAll_nil r1
  obtain rfl : args = #[v0, v1] := by cases args; simp_all
  obtain ⟨rfl, rfl⟩ := trodVars_none hV
  obtain ⟨a0, len0, cap0, rfl⟩ := okWide_slice Try.underlying47 (hval 0 47 v0 rfl rfl)
  have k0 := h0
  have lt0 : ∀ x ∈ p0, x.block < W.heap.size := by obtain ⟨m, hm⟩ := k0; exact DataW.trod_lt m _ _ _ hm
  obtain ⟨z0, w0⟩ : ∃ zs, IsRow .u8 W a0 len0 cap0 zs := by
    obtain ⟨fuel, hf⟩ := h0
    rcases open_ints Try.underlying47 Try.underlying5 (by kernel_rfl) hf with ⟨hcs, _⟩ | ⟨x, l, c, zs, hcs, _, hl, hm, hz, _, hcell, hwz⟩
    · simp [Value.cells] at hcs
      obtain ⟨rfl, rfl, rfl⟩ := hcs
      exact ⟨[], .inl ⟨rfl, rfl, rfl, rfl⟩⟩
    · simp [Value.cells] at hcs
      obtain ⟨rfl, rfl, rfl⟩ := hcs
      exact ⟨zs, .inr ⟨_, rfl, hl, hm, by simpa using hz, hcell, hwz⟩⟩
  obtain ⟨a1, len1, cap1, rfl⟩ := okWide_slice Try.underlying47 (hval 1 47 v1 rfl rfl)
  have k1 := h1
  have lt1 : ∀ x ∈ p1, x.block < W.heap.size := by obtain ⟨m, hm⟩ := k1; exact DataW.trod_lt m _ _ _ hm
  obtain ⟨z1, w1⟩ : ∃ zs, IsRow .u8 W a1 len1 cap1 zs := by
    obtain ⟨fuel, hf⟩ := h1
    rcases open_ints Try.underlying47 Try.underlying5 (by kernel_rfl) hf with ⟨hcs, _⟩ | ⟨x, l, c, zs, hcs, _, hl, hm, hz, _, hcell, hwz⟩
    · simp [Value.cells] at hcs
      obtain ⟨rfl, rfl, rfl⟩ := hcs
      exact ⟨[], .inl ⟨rfl, rfl, rfl, rfl⟩⟩
    · simp [Value.cells] at hcs
      obtain ⟨rfl, rfl, rfl⟩ := hcs
      exact ⟨zs, .inr ⟨_, rfl, hl, hm, by simpa using hz, hcell, hwz⟩⟩
  clear hA0 hval0 hsz0 hsz
  refine (M.synced_walk a0 len0 cap0 z0 a1 len1 cap1 z1 W w0 w1).mono fun e W' ⟨he, bel⟩ => ?_
  subst he
  exact ⟨_, rfl, _, _, _, [], _, [], hW', trodAll_mk1 (shut_bool Try.underlying4 _), (trodAll_cons_mk (Below.trod laidOut (by kernel_rfl) (of_decide_eq_true (by kernel_rfl)) k0 bel lt0) (trodAll_cons_mk (Below.trod laidOut (by kernel_rfl) (of_decide_eq_true (by kernel_rfl)) k1 bel lt1) trodAll_mk0)), rfl, bel.frame _, fun h => by cases h⟩
theorem over : Rows.fnSyncedRow.holds Try.pinned (OpenSpec.ofChange Rows.fnSyncedSpec) :=
  OpenClaim.holds_of_wide 9 Try.f9 rfl rfl rfl rfl rfl rfl rfl ⟨rfl, rfl, rfl, rfl, rfl⟩ rfl rfl rfl rfl rfl (by kernel_rfl) Try.func9 (by kernel_rfl)
    (of_decide_eq_true (by kernel_rfl)) (by unfold Func.isWrapper; first | (rw [if_pos (by decide +kernel)]; kernel_rfl) | (rw [if_neg (by decide +kernel)]; exact ⟨rfl, rfl⟩))
    (fun os started H enc _ => lifted os started H enc)
theorem proved : Rows.FnSyncedSaid := over
#print axioms proved
end Go.Proofs.Ytbppijlcmeidaaa.fnSynced
namespace Go.Proofs.Ytbppijlcmeidaaa
/-- The row, under a short name, for the claim. -/
theorem fnSynced_holds : Rows.FnSyncedSaid := fnSynced.proved
end Go.Proofs.Ytbppijlcmeidaaa
end

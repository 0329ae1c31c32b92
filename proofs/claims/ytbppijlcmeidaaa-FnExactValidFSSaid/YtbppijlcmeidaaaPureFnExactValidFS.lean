/- The program's ValidFS answers as the specification's at every directory and leaves it as it was: no condition beyond the law's own bound of 2 to the 20. -/
import Derived.Test.YtbppijlcmeidaaaMKinds
import Derived.Test.YtbppijlcmeidaaaMValid
import Derived.Test.YtbppijlcmeidaaaPlawsFnExactValidFS
namespace Go.Proofs.Ytbppijlcmeidaaa.M
open Go.RowKit Go.Proofs.Ytbppijlcmeidaaa.P Go.Proofs.YtbppijlcmeidaaaW.PrintWords Go.Proofs.YtbppijlcmeidaaaW.PrintLast

/-- What the weight says of the directory. -/
theorem weight_total (l : List S80) (h : weight l ≤ 1048576) : l.length ≤ 1048576 ∧ total (l.map conv) ≤ 1048576 ∧ ∀ x ∈ l.map conv, x.f0.size ≤ 1048576 ∧ x.f1.size ≤ 1048576 := by
  have hsum : ∀ l : List S80, total (l.map conv) ≤ (l.map fun x => x.f0.size + x.f1.size).sum ∧ ∀ x ∈ l, x.f0.size + x.f1.size ≤ (l.map fun x => x.f0.size + x.f1.size).sum := by
    intro l
    induction l with
    | nil => exact ⟨by simp [total], by simp⟩
    | cons x l ih =>
      refine ⟨?_, fun y hy => ?_⟩
      · have := ih.1
        show x.f1.size + total (l.map conv) ≤ x.f0.size + x.f1.size + (l.map fun x => x.f0.size + x.f1.size).sum
        omega
      · show y.f0.size + y.f1.size ≤ x.f0.size + x.f1.size + (l.map fun x => x.f0.size + x.f1.size).sum
        rcases List.mem_cons.1 hy with rfl | hy
        · omega
        · have := ih.2 y hy
          omega
  obtain ⟨h1, h2⟩ := hsum l
  unfold weight at h
  refine ⟨by omega, by omega, fun x hx => ?_⟩
  obtain ⟨y, hy, rfl⟩ := List.mem_map.1 hx
  have := h2 y hy
  exact ⟨by show y.f0.size ≤ _; omega, by show y.f1.size ≤ _; omega⟩
theorem Ev.pure {α : Type} {g : Nat → Option α} {r : α} (h : ∀ k, g k = some r) : Ev g r := ⟨0, fun k _ => h k⟩
end Go.Proofs.Ytbppijlcmeidaaa.M
namespace Go.Proofs.Ytbppijlcmeidaaa.Pure
open Go.RowKit Go.Proofs.Ytbppijlcmeidaaa.P Go.Proofs.YtbppijlcmeidaaaW.PrintWords Go.Proofs.YtbppijlcmeidaaaW.PrintLast Go.Proofs.Ytbppijlcmeidaaa.M
theorem FnExactValidFS (l : List S80) (q f : Int) (ok : Ok24 (l, q, f)) : ∃ k, laws_FnExactValidFS.f k l q f = some true := by
  refine Ev.rounds (r := true) ?_
  refine Ev.bind (szFS_eq l q f ok.1) ?_
  by_cases c : weight l ≤ 1048576
  · obtain ⟨hl, ht, hn⟩ := weight_total l c
    rw [if_pos c]
    refine Ev.congr (fun k => if_neg (by omega)) ?_
    refine Ev.bind (toFS_eq l q f hl) (Ev.bind (specValid_eq (l.map conv) q f ht (by simpa using hl) (fun x hx => (hn x hx).1)) (Ev.bind (toFS_eq l q f hl) (Ev.bind (a := validB (l.map conv) q f) (M.Ev.pure (fun k => if_pos (fun _ => Nat.le_trans ht (by omega)))) ?_)))
    refine Ev.congr (fun k => if_neg (by simp)) (Ev.bind (toFS_eq l q f hl) (Ev.bind (eqFS_self (l.map conv) q f (by simpa using hl)) (M.Ev.pure (fun k => if_pos rfl))))
  · rw [if_neg c]
    exact M.Ev.pure (fun k => if_pos (by omega))
end Go.Proofs.Ytbppijlcmeidaaa.Pure

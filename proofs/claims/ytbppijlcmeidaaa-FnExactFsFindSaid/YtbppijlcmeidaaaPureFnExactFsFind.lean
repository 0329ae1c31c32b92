/- The program's FsFind answers as the specification's at every directory and name and leaves the directory as it was: no condition beyond the law's own bounds of 2 to the 20. -/
import Derived.Test.YtbppijlcmeidaaaMAt
import Derived.Test.YtbppijlcmeidaaaPlawsFnExactFsFind
namespace Go.Proofs.Ytbppijlcmeidaaa.Pure
open Go.RowKit Go.Proofs.Ytbppijlcmeidaaa.P Go.Proofs.YtbppijlcmeidaaaW.PrintWords Go.Proofs.YtbppijlcmeidaaaW.PrintLast Go.Proofs.Ytbppijlcmeidaaa.M
theorem FnExactFsFind (l : List S80) (q f : Int) (s : ByteArray) (ok : Ok24 (l, q, f)) (_ : s.size ≤ 140737488351232) : ∃ k, laws_FnExactFsFind.f k l q f s = some true := by
  refine Ev.rounds (r := true) ?_
  by_cases c0 : (s.size : Int) > 1048576
  · exact M.Ev.pure (fun k => if_pos c0)
  refine Ev.congr (fun k => if_neg c0) (Ev.bind (szFS_eq l q f ok.1) ?_)
  by_cases c : weight l ≤ 1048576
  · obtain ⟨hl, ht, hn⟩ := weight_says l c
    have hl' : (l.map conv).length ≤ 1048576 := by simpa using hl
    rw [if_pos c]
    refine Ev.congr (fun k => if_neg (by omega)) ?_
    refine Ev.bind (toFS_eq l q f hl) (Ev.bind (specFind_eq (l.map conv) q f s ht hl' (fun x hx => (hn x hx).1)) (Ev.bind (toFS_eq l q f hl) (Ev.bind (a := fsFind (l.map conv) q f s) (M.Ev.pure (fun k => if_pos (fun _ => Nat.le_trans ht (by omega)))) ?_)))
    refine Ev.congr (fun k => if_pos rfl) ?_
    refine Ev.step (f := fun k => ((laws_toFS.f k l q f).bind fun bt190 => ((laws_eqFS.f k (l.map conv) q f bt190.1 bt190.2.1 bt190.2.2).bind fun t195 => (if t195 = true then (some true) else (some false))))) (fun k => ?_) ?_
    · rw [laws_FnExactFsFind.j0]
      rw [if_neg (by simp)]
    · exact Ev.bind (toFS_eq l q f hl) (Ev.bind (eqFS_self (l.map conv) q f hl') (M.Ev.pure (fun k => if_pos rfl)))
  · rw [if_neg c]
    exact M.Ev.pure (fun k => if_pos (by omega))
end Go.Proofs.Ytbppijlcmeidaaa.Pure

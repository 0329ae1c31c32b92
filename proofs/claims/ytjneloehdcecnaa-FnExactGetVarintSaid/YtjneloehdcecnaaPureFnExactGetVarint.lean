/- The program's GetVarint answers as the specification's at every text and place: no condition beyond the law's own bound of 2 to the 20 bytes. -/
import Derived.Test.YtjneloehdcecnaaPlawsFnExactGetVarint
import Derived.Test.YtjneloehdcecnaaMGet
namespace Go.Proofs.Ytjneloehdcecnaa.Pure
open Go.RowKit Go.Proofs.Ytjneloehdcecnaa.P Go.Proofs.YtjneloehdcecnaaW.PrintWords Go.Proofs.YtjneloehdcecnaaW.PrintLast Go.Proofs.Ytjneloehdcecnaa.M

theorem FnExactGetVarint : laws_FnExactGetVarint.Pure := by
  intro s at_ _ _
  refine Ev.rounds (r := true) ?_
  by_cases h : (s.size : Int) > 1048576
  · exact ⟨0, fun k _ => if_pos h⟩
  · refine Ev.congr (fun k => if_neg h) (Ev.bind (spec_get s at_ (by omega)) (Ev.bind (impl_get s at_ (by omega)) ⟨0, fun k _ => ?_⟩))
    simp

end Go.Proofs.Ytjneloehdcecnaa.Pure

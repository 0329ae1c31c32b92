/- The program's PutVarint answers as the specification's at every number: no condition. -/
import Derived.Test.YtjneloehdcecnaaPlawsFnExactPutVarint
import Derived.Test.YtjneloehdcecnaaMVarint
namespace Go.Proofs.Ytjneloehdcecnaa.Pure
open Go.RowKit Go.Proofs.Ytjneloehdcecnaa.P Go.Proofs.YtjneloehdcecnaaW.PrintWords Go.Proofs.YtjneloehdcecnaaW.PrintLast Go.Proofs.Ytjneloehdcecnaa.M

theorem FnExactPutVarint : laws_FnExactPutVarint.Pure := by
  intro n _
  refine Ev.rounds (r := true) ?_
  refine Ev.congr (fun k => by simp only [laws_FnExactPutVarint.f]; rfl) (Ev.bind (spec_put n) (Ev.bind (impl_put n) ⟨0, fun k _ => ?_⟩))
  exact if_pos rfl

end Go.Proofs.Ytjneloehdcecnaa.Pure

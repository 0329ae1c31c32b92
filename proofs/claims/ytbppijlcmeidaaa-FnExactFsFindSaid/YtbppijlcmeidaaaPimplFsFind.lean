-- PRINTED by print.py (a twelfth state) out of the translation. Not trusted: Lean checks it.
import Derived.Test.YtbppijlcmeidaaaP0
import Derived.Test.YtbppijlcmeidaaaMFsFind
namespace Go.Proofs.Ytbppijlcmeidaaa.P
open Go.RowKit Go.Proofs.YtbppijlcmeidaaaW.PrintWords Go.Proofs.YtbppijlcmeidaaaW.PrintLast Go.Proofs.YtbppijlcmeidaaaW.PrintMore
attribute [local go_sem] max2_int min2_int max_two min_two max_three min_three max_four min_four   -- for this text's walks alone
set_option linter.unusedVariables false
set_option linter.unusedSimpArgs false

/-! ### impl_FsFind: function 18 -/
def impl_FsFind.f (l0_0 : List (S52)) (a0_1 : Int) (a0_2 : Int) (a1 : ByteArray) : Option (ByteArray × Bool) := if (l0_0.length ≤ 200 → M.total l0_0 ≤ 9223372036854775000) then some (M.fsFind l0_0 a0_1 a0_2 a1) else none
theorem impl_FsFind.calls (A0_0 : Option Addr) (c0_0 : Nat) (l0_0 : List (S52)) (a0_1 : Int) (a0_2 : Int) (a1 : ByteArray) (r1 : ByteArray) (r2 : Bool) (w : World) (hr0_0 : Kd.C k52 w A0_0 l0_0.length l0_0) (hc0_0 : l0_0.length ≤ c0_0) (h : impl_FsFind.f l0_0 a0_1 a0_2 a1 = some (r1, r2)) :
    Calls Try.prog 18 #[.agg #[.slice A0_0 l0_0.length c0_0, .int .i64 a0_1, .int .i64 a0_2], .string a1] w fun e w' => e = .returned (.tuple #[.string r1, .bool r2]) ∧ Below w.heap.size w w' := by
  by_cases c : (l0_0.length ≤ 200 → M.total l0_0 ≤ 9223372036854775000)
  · unfold impl_FsFind.f at h
    rw [if_pos c] at h
    have e := Option.some.inj h
    have h1 := M.fsFind_call A0_0 c0_0 l0_0 a0_1 a0_2 a1 w hr0_0 hc0_0 c
    rw [e] at h1
    exact h1
  · unfold impl_FsFind.f at h
    rw [if_neg c] at h
    cases h

end Go.Proofs.Ytbppijlcmeidaaa.P

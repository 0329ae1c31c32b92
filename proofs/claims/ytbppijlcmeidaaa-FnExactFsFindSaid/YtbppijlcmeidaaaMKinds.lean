/- The kinds of this seat's arguments: a directory, its files, numbers. -/
import Derived.Test.YtbppijlcmeidaaaP0
import Derived.Test.YtbppijlcmeidaaaMOpen
namespace Go.Proofs.Ytbppijlcmeidaaa.M
open Go.RowKit Go.Proofs.YtbppijlcmeidaaaW.PrintWords Go.Proofs.Ytbppijlcmeidaaa.P

def Ok80 (x : S80) : Prop := x.f0.size ≤ 140737488351232 ∧ x.f1.size ≤ 140737488351232 ∧ (Lit.int .i64 x.f2).wf = true
def Ok80s (l : List S80) : Prop := l.length * 40 ≤ 140737488351232 ∧ ∀ a ∈ l, Ok80 a
def Ok24 (x : List S80 × Int × Int) : Prop := Ok80s x.1 ∧ (Lit.int .i64 x.2.1).wf = true ∧ (Lit.int .i64 x.2.2).wf = true
def Ok36 (l : List Int) : Prop := l.length * 8 ≤ 140737488351232 ∧ ∀ a ∈ l, (Lit.int .i64 a).wf = true
theorem o3 : Opens Try.prog 3 (Kd.int .i64) (fun n => (Lit.int .i64 n).wf = true) := opens_int Try.underlying3 (by kernel_rfl)
theorem o9 : Opens Try.prog 9 Kd.string (fun s => s.size ≤ 140737488351232) := opens_string Try.underlying9 (by kernel_rfl)
theorem o80 : Opens Try.prog 80 k80 Ok80 :=
  opens_iso (f := fun x : S80 => (x.f0, x.f1, x.f2)) (fun a => ⟨a.1, a.2.1, a.2.2⟩) (fun _ => rfl) (opens_struct3 Try.underlying80 o9 o9 o3 rfl rfl rfl (by kernel_rfl))
theorem o22 : Opens Try.prog 22 (Kd.slice 80 k80) Ok80s := opens_slice Try.underlying22 (by kernel_rfl) o80 (by kernel_rfl)
theorem o24 : Opens Try.prog 24 (Kd.pair (Kd.slice 80 k80) (Kd.pair (Kd.int .i64) (Kd.int .i64))) Ok24 :=
  opens_struct3 Try.underlying24 o22 o3 o3 rfl rfl rfl (by kernel_rfl)
theorem o36 : Opens Try.prog 36 (Kd.slice 3 (Kd.int .i64)) Ok36 := opens_slice Try.underlying36 (by kernel_rfl) o3 (by kernel_rfl)
end Go.Proofs.Ytbppijlcmeidaaa.M

/-
  No cell of these rows narrows 'for every input' (looked for: loops, veiled, ifaces, maps, wideKeys, modest, calm, conditions, laid).
  DERIVED. THE GIVEN ROWS OF THIS SEAT. 9 by the template 'for every input the law returns true; each argument reads behind the call as it read before'; 0 by the template 'total and deterministic' (their statements: YtbppijlcmeidaaaTotals.lean).
  GIVEN WITH THE SEED: the statements are not yours to turn. If you find one false, say at which input.
  Laid BY PROGRAM, IN A SANDBOX (cutbox-rows.mjs): the forced cells as the released guide's own fill.sh prints them over the translation 4d90330fbbfc04e6… (all of the seat's roots in one cut). By AI agents, Wed Nov 11 2026. No macro, syntax, notation, axiom, sorry.
-/
import Derived.Test.YtbppijlcmeidaaaChecked
import GoSem.Claim
import GoSem.ClaimJoined
import GoSem.ClaimMapViews
import Derived.JoinedTies
import Derived.KernelRfl
namespace Go.Proofs.Ytbppijlcmeidaaa
/- THE CELL 'sum', in the pinned program and in every row, IS THE sha256 OF THE DUMP (.gsa) THAT YtbppijlcmeidaaaProg.lean LOADS. Nothing in Lean hashes anything: it is a label: what it is worth is what the hold of that sum in a sandbox is worth. -/
noncomputable def Try.pinned : Pinned := { name := "ytbppijlcmeidaaa", sum := "4d90330fbbfc04e604ffe1704f5d0d227c290abd6963e7797e0d28b6d1906b30", checked := Try.checked }
namespace Rows
def none {H : Type} : Left H := { results := [], args := [] }

/-- 'laws.FnExactValidFS': WHATEVER THE INPUT: true; the input reads as it did. -/
def fnExactValidFSSpec : ChangeSpec := { name := "fnExactValidFS", fn := fun _ => fun
  | [d] => { results := [.lit (.bool true)], args := [d] }
  | _ => none }
def fnExactValidFSRow : OpenClaim := { program := "ytbppijlcmeidaaa", sum := "4d90330fbbfc04e604ffe1704f5d0d227c290abd6963e7797e0d28b6d1906b30", func := "loop.example/s01733/laws.FnExactValidFS", spec := "fnExactValidFS", apart := false }
def FnExactValidFSSaid : Prop := fnExactValidFSRow.holds Try.pinned (OpenSpec.ofChange fnExactValidFSSpec)

/-- ITS FALSE NEIGHBOUR: 'it returns false'. Refute it at one input. -/
def fnExactValidFSWrong : ChangeSpec := { name := "fnExactValidFS", fn := fun _ => fun
  | [d] => { results := [.lit (.bool false)], args := [d] }
  | _ => none }
def FnExactValidFSWrongFalsely : Prop := fnExactValidFSRow.holds Try.pinned (OpenSpec.ofChange fnExactValidFSWrong)

/-- 'laws.FnExactFsFind': WHATEVER THE INPUT: true; the input reads as it did. -/
def fnExactFsFindSpec : ChangeSpec := { name := "fnExactFsFind", fn := fun _ => fun
  | [d1, d2] => { results := [.lit (.bool true)], args := [d1, d2] }
  | _ => none }
def fnExactFsFindRow : OpenClaim := { program := "ytbppijlcmeidaaa", sum := "4d90330fbbfc04e604ffe1704f5d0d227c290abd6963e7797e0d28b6d1906b30", func := "loop.example/s01733/laws.FnExactFsFind", spec := "fnExactFsFind", unfollowed := true, recurses := true, apart := false }
def FnExactFsFindSaid : Prop := fnExactFsFindRow.holds Try.pinned (OpenSpec.ofChange fnExactFsFindSpec)

/-- ITS FALSE NEIGHBOUR: 'it returns false'. Refute it at one input. -/
def fnExactFsFindWrong : ChangeSpec := { name := "fnExactFsFind", fn := fun _ => fun
  | [d1, d2] => { results := [.lit (.bool false)], args := [d1, d2] }
  | _ => none }
def FnExactFsFindWrongFalsely : Prop := fnExactFsFindRow.holds Try.pinned (OpenSpec.ofChange fnExactFsFindWrong)

/-- 'laws.FnExactFsCrash': WHATEVER THE INPUT: true; the input reads as it did. -/
def fnExactFsCrashSpec : ChangeSpec := { name := "fnExactFsCrash", fn := fun _ => fun
  | [d1, d2] => { results := [.lit (.bool true)], args := [d1, d2] }
  | _ => none }
def fnExactFsCrashRow : OpenClaim := { program := "ytbppijlcmeidaaa", sum := "4d90330fbbfc04e604ffe1704f5d0d227c290abd6963e7797e0d28b6d1906b30", func := "loop.example/s01733/laws.FnExactFsCrash", spec := "fnExactFsCrash", apart := false }
def FnExactFsCrashSaid : Prop := fnExactFsCrashRow.holds Try.pinned (OpenSpec.ofChange fnExactFsCrashSpec)

/-- ITS FALSE NEIGHBOUR: 'it returns false'. Refute it at one input. -/
def fnExactFsCrashWrong : ChangeSpec := { name := "fnExactFsCrash", fn := fun _ => fun
  | [d1, d2] => { results := [.lit (.bool false)], args := [d1, d2] }
  | _ => none }
def FnExactFsCrashWrongFalsely : Prop := fnExactFsCrashRow.holds Try.pinned (OpenSpec.ofChange fnExactFsCrashWrong)

/-- 'laws.FnExactFsRemove': WHATEVER THE INPUT: true; the input reads as it did. -/
def fnExactFsRemoveSpec : ChangeSpec := { name := "fnExactFsRemove", fn := fun _ => fun
  | [d1, d2] => { results := [.lit (.bool true)], args := [d1, d2] }
  | _ => none }
def fnExactFsRemoveRow : OpenClaim := { program := "ytbppijlcmeidaaa", sum := "4d90330fbbfc04e604ffe1704f5d0d227c290abd6963e7797e0d28b6d1906b30", func := "loop.example/s01733/laws.FnExactFsRemove", spec := "fnExactFsRemove", unfollowed := true, recurses := true, apart := false }
def FnExactFsRemoveSaid : Prop := fnExactFsRemoveRow.holds Try.pinned (OpenSpec.ofChange fnExactFsRemoveSpec)

/-- ITS FALSE NEIGHBOUR: 'it returns false'. Refute it at one input. -/
def fnExactFsRemoveWrong : ChangeSpec := { name := "fnExactFsRemove", fn := fun _ => fun
  | [d1, d2] => { results := [.lit (.bool false)], args := [d1, d2] }
  | _ => none }
def FnExactFsRemoveWrongFalsely : Prop := fnExactFsRemoveRow.holds Try.pinned (OpenSpec.ofChange fnExactFsRemoveWrong)

/-- 'laws.FnExactFsSync': WHATEVER THE INPUT: true; the input reads as it did. -/
def fnExactFsSyncSpec : ChangeSpec := { name := "fnExactFsSync", fn := fun _ => fun
  | [d1, d2] => { results := [.lit (.bool true)], args := [d1, d2] }
  | _ => none }
def fnExactFsSyncRow : OpenClaim := { program := "ytbppijlcmeidaaa", sum := "4d90330fbbfc04e604ffe1704f5d0d227c290abd6963e7797e0d28b6d1906b30", func := "loop.example/s01733/laws.FnExactFsSync", spec := "fnExactFsSync", unfollowed := true, recurses := true, apart := false }
def FnExactFsSyncSaid : Prop := fnExactFsSyncRow.holds Try.pinned (OpenSpec.ofChange fnExactFsSyncSpec)

/-- ITS FALSE NEIGHBOUR: 'it returns false'. Refute it at one input. -/
def fnExactFsSyncWrong : ChangeSpec := { name := "fnExactFsSync", fn := fun _ => fun
  | [d1, d2] => { results := [.lit (.bool false)], args := [d1, d2] }
  | _ => none }
def FnExactFsSyncWrongFalsely : Prop := fnExactFsSyncRow.holds Try.pinned (OpenSpec.ofChange fnExactFsSyncWrong)

/-- 'laws.FnExactFsAppend': WHATEVER THE INPUT: true; the input reads as it did. -/
def fnExactFsAppendSpec : ChangeSpec := { name := "fnExactFsAppend", fn := fun _ => fun
  | [d1, d2, d3] => { results := [.lit (.bool true)], args := [d1, d2, d3] }
  | _ => none }
def fnExactFsAppendRow : OpenClaim := { program := "ytbppijlcmeidaaa", sum := "4d90330fbbfc04e604ffe1704f5d0d227c290abd6963e7797e0d28b6d1906b30", func := "loop.example/s01733/laws.FnExactFsAppend", spec := "fnExactFsAppend", unfollowed := true, recurses := true, apart := false }
def FnExactFsAppendSaid : Prop := fnExactFsAppendRow.holds Try.pinned (OpenSpec.ofChange fnExactFsAppendSpec)

/-- ITS FALSE NEIGHBOUR: 'it returns false'. Refute it at one input. -/
def fnExactFsAppendWrong : ChangeSpec := { name := "fnExactFsAppend", fn := fun _ => fun
  | [d1, d2, d3] => { results := [.lit (.bool false)], args := [d1, d2, d3] }
  | _ => none }
def FnExactFsAppendWrongFalsely : Prop := fnExactFsAppendRow.holds Try.pinned (OpenSpec.ofChange fnExactFsAppendWrong)

/-- 'laws.FnSynced': WHATEVER THE INPUT: true; the input reads as it did. -/
def fnSyncedSpec : ChangeSpec := { name := "fnSynced", fn := fun _ => fun
  | [d1, d2] => { results := [.lit (.bool true)], args := [d1, d2] }
  | _ => none }
def fnSyncedRow : OpenClaim := { program := "ytbppijlcmeidaaa", sum := "4d90330fbbfc04e604ffe1704f5d0d227c290abd6963e7797e0d28b6d1906b30", func := "loop.example/s01733/laws.FnSynced", spec := "fnSynced", unfollowed := true, recurses := true, apart := false }
def FnSyncedSaid : Prop := fnSyncedRow.holds Try.pinned (OpenSpec.ofChange fnSyncedSpec)

/-- ITS FALSE NEIGHBOUR: 'it returns false'. Refute it at one input. -/
def fnSyncedWrong : ChangeSpec := { name := "fnSynced", fn := fun _ => fun
  | [d1, d2] => { results := [.lit (.bool false)], args := [d1, d2] }
  | _ => none }
def FnSyncedWrongFalsely : Prop := fnSyncedRow.holds Try.pinned (OpenSpec.ofChange fnSyncedWrong)

/-- 'laws.FnExactFsCreate': WHATEVER THE INPUT: true; the input reads as it did. -/
def fnExactFsCreateSpec : ChangeSpec := { name := "fnExactFsCreate", fn := fun _ => fun
  | [d1, d2] => { results := [.lit (.bool true)], args := [d1, d2] }
  | _ => none }
def fnExactFsCreateRow : OpenClaim := { program := "ytbppijlcmeidaaa", sum := "4d90330fbbfc04e604ffe1704f5d0d227c290abd6963e7797e0d28b6d1906b30", func := "loop.example/s01733/laws.FnExactFsCreate", spec := "fnExactFsCreate", inPlace := ["slices.overlaps[loop.example/s01733/impl.File]"], unfollowed := true, recurses := true, apart := false }
def FnExactFsCreateSaid : Prop := fnExactFsCreateRow.holds Try.pinned (OpenSpec.ofChange fnExactFsCreateSpec)

/-- ITS FALSE NEIGHBOUR: 'it returns false'. Refute it at one input. -/
def fnExactFsCreateWrong : ChangeSpec := { name := "fnExactFsCreate", fn := fun _ => fun
  | [d1, d2] => { results := [.lit (.bool false)], args := [d1, d2] }
  | _ => none }
def FnExactFsCreateWrongFalsely : Prop := fnExactFsCreateRow.holds Try.pinned (OpenSpec.ofChange fnExactFsCreateWrong)

/-- 'laws.FnExactFsRename': WHATEVER THE INPUT: true; the input reads as it did. -/
def fnExactFsRenameSpec : ChangeSpec := { name := "fnExactFsRename", fn := fun _ => fun
  | [d1, d2, d3] => { results := [.lit (.bool true)], args := [d1, d2, d3] }
  | _ => none }
def fnExactFsRenameRow : OpenClaim := { program := "ytbppijlcmeidaaa", sum := "4d90330fbbfc04e604ffe1704f5d0d227c290abd6963e7797e0d28b6d1906b30", func := "loop.example/s01733/laws.FnExactFsRename", spec := "fnExactFsRename", inPlace := ["slices.overlaps[loop.example/s01733/impl.File]"], unfollowed := true, recurses := true, apart := false }
def FnExactFsRenameSaid : Prop := fnExactFsRenameRow.holds Try.pinned (OpenSpec.ofChange fnExactFsRenameSpec)

/-- ITS FALSE NEIGHBOUR: 'it returns false'. Refute it at one input. -/
def fnExactFsRenameWrong : ChangeSpec := { name := "fnExactFsRename", fn := fun _ => fun
  | [d1, d2, d3] => { results := [.lit (.bool false)], args := [d1, d2, d3] }
  | _ => none }
def FnExactFsRenameWrongFalsely : Prop := fnExactFsRenameRow.holds Try.pinned (OpenSpec.ofChange fnExactFsRenameWrong)

/- THE SECOND FORM. 'bulk': how many values and letters a reading holds, each counted each time it is reached (what is shared counts as often as it is met; a slice's spare places count too). A statement '..UptoSaid' is the law's where the arguments, and the package variables that the reading takes, are together of bulk at most 1048576: NARROWER than '..Said'. Prove '..Said' where nothing that the law and all that it calls make is longer than what came in: it says more and counts as full. Else prove '..UptoSaid'. A law counts once. -/
mutual
def uptoBulk {H : Type} : DataW H → Nat
  | .lit (.string bytes) => bytes.length + 1
  | .lit _ => 1
  | .nil => 1
  | .ptr d => uptoBulk d + 1
  | .slice elems spare => uptoBulkAll elems + uptoBulkAll spare + 1
  | .agg parts => uptoBulkAll parts + 1
  | .iface _ d => uptoBulk d + 1
  | .map entries => uptoBulkEntries entries + 1
  | .held _ => 1
def uptoBulkAll {H : Type} : List (DataW H) → Nat
  | [] => 0
  | d :: r => uptoBulk d + uptoBulkAll r
def uptoBulkEntries {H : Type} : List (Lit × DataW H) → Nat
  | [] => 0
  | x :: r => uptoBulkEntry x + uptoBulkEntries r
def uptoBulkEntry {H : Type} : Lit × DataW H → Nat
  | (.string bytes, d) => bytes.length + uptoBulk d + 1
  | (_, d) => uptoBulk d + 1
 end
def uptoSmall : (H : Type) → List (DataW H) → Bool := fun _ ds => decide (uptoBulkAll ds ≤ 1048576)
def OpenSpec.upto (s : _root_.Go.ChangeSpec) : _root_.Go.OpenSpec := { _root_.Go.OpenSpec.ofChange s with cond := some uptoSmall }

/-- 'laws.FnExactValidFS', WHERE WHAT IT READS IS OF BULK AT MOST 1048576: true; the input reads as it did. -/
def fnExactValidFSUptoRow : OpenClaim := { program := "ytbppijlcmeidaaa", sum := "4d90330fbbfc04e604ffe1704f5d0d227c290abd6963e7797e0d28b6d1906b30", func := "loop.example/s01733/laws.FnExactValidFS", spec := "fnExactValidFS", apart := false, narrowed := true }
def FnExactValidFSUptoSaid : Prop := fnExactValidFSUptoRow.holds Try.pinned (OpenSpec.upto fnExactValidFSSpec)

/-- 'laws.FnExactFsFind', WHERE WHAT IT READS IS OF BULK AT MOST 1048576: true; the input reads as it did. -/
def fnExactFsFindUptoRow : OpenClaim := { program := "ytbppijlcmeidaaa", sum := "4d90330fbbfc04e604ffe1704f5d0d227c290abd6963e7797e0d28b6d1906b30", func := "loop.example/s01733/laws.FnExactFsFind", spec := "fnExactFsFind", unfollowed := true, recurses := true, apart := false, narrowed := true }
def FnExactFsFindUptoSaid : Prop := fnExactFsFindUptoRow.holds Try.pinned (OpenSpec.upto fnExactFsFindSpec)

/-- 'laws.FnExactFsCrash', WHERE WHAT IT READS IS OF BULK AT MOST 1048576: true; the input reads as it did. -/
def fnExactFsCrashUptoRow : OpenClaim := { program := "ytbppijlcmeidaaa", sum := "4d90330fbbfc04e604ffe1704f5d0d227c290abd6963e7797e0d28b6d1906b30", func := "loop.example/s01733/laws.FnExactFsCrash", spec := "fnExactFsCrash", apart := false, narrowed := true }
def FnExactFsCrashUptoSaid : Prop := fnExactFsCrashUptoRow.holds Try.pinned (OpenSpec.upto fnExactFsCrashSpec)

/-- 'laws.FnExactFsRemove', WHERE WHAT IT READS IS OF BULK AT MOST 1048576: true; the input reads as it did. -/
def fnExactFsRemoveUptoRow : OpenClaim := { program := "ytbppijlcmeidaaa", sum := "4d90330fbbfc04e604ffe1704f5d0d227c290abd6963e7797e0d28b6d1906b30", func := "loop.example/s01733/laws.FnExactFsRemove", spec := "fnExactFsRemove", unfollowed := true, recurses := true, apart := false, narrowed := true }
def FnExactFsRemoveUptoSaid : Prop := fnExactFsRemoveUptoRow.holds Try.pinned (OpenSpec.upto fnExactFsRemoveSpec)

/-- 'laws.FnExactFsSync', WHERE WHAT IT READS IS OF BULK AT MOST 1048576: true; the input reads as it did. -/
def fnExactFsSyncUptoRow : OpenClaim := { program := "ytbppijlcmeidaaa", sum := "4d90330fbbfc04e604ffe1704f5d0d227c290abd6963e7797e0d28b6d1906b30", func := "loop.example/s01733/laws.FnExactFsSync", spec := "fnExactFsSync", unfollowed := true, recurses := true, apart := false, narrowed := true }
def FnExactFsSyncUptoSaid : Prop := fnExactFsSyncUptoRow.holds Try.pinned (OpenSpec.upto fnExactFsSyncSpec)

/-- 'laws.FnExactFsAppend', WHERE WHAT IT READS IS OF BULK AT MOST 1048576: true; the input reads as it did. -/
def fnExactFsAppendUptoRow : OpenClaim := { program := "ytbppijlcmeidaaa", sum := "4d90330fbbfc04e604ffe1704f5d0d227c290abd6963e7797e0d28b6d1906b30", func := "loop.example/s01733/laws.FnExactFsAppend", spec := "fnExactFsAppend", unfollowed := true, recurses := true, apart := false, narrowed := true }
def FnExactFsAppendUptoSaid : Prop := fnExactFsAppendUptoRow.holds Try.pinned (OpenSpec.upto fnExactFsAppendSpec)

/-- 'laws.FnSynced', WHERE WHAT IT READS IS OF BULK AT MOST 1048576: true; the input reads as it did. -/
def fnSyncedUptoRow : OpenClaim := { program := "ytbppijlcmeidaaa", sum := "4d90330fbbfc04e604ffe1704f5d0d227c290abd6963e7797e0d28b6d1906b30", func := "loop.example/s01733/laws.FnSynced", spec := "fnSynced", unfollowed := true, recurses := true, apart := false, narrowed := true }
def FnSyncedUptoSaid : Prop := fnSyncedUptoRow.holds Try.pinned (OpenSpec.upto fnSyncedSpec)

/-- 'laws.FnExactFsCreate', WHERE WHAT IT READS IS OF BULK AT MOST 1048576: true; the input reads as it did. -/
def fnExactFsCreateUptoRow : OpenClaim := { program := "ytbppijlcmeidaaa", sum := "4d90330fbbfc04e604ffe1704f5d0d227c290abd6963e7797e0d28b6d1906b30", func := "loop.example/s01733/laws.FnExactFsCreate", spec := "fnExactFsCreate", inPlace := ["slices.overlaps[loop.example/s01733/impl.File]"], unfollowed := true, recurses := true, apart := false, narrowed := true }
def FnExactFsCreateUptoSaid : Prop := fnExactFsCreateUptoRow.holds Try.pinned (OpenSpec.upto fnExactFsCreateSpec)

/-- 'laws.FnExactFsRename', WHERE WHAT IT READS IS OF BULK AT MOST 1048576: true; the input reads as it did. -/
def fnExactFsRenameUptoRow : OpenClaim := { program := "ytbppijlcmeidaaa", sum := "4d90330fbbfc04e604ffe1704f5d0d227c290abd6963e7797e0d28b6d1906b30", func := "loop.example/s01733/laws.FnExactFsRename", spec := "fnExactFsRename", inPlace := ["slices.overlaps[loop.example/s01733/impl.File]"], unfollowed := true, recurses := true, apart := false, narrowed := true }
def FnExactFsRenameUptoSaid : Prop := fnExactFsRenameUptoRow.holds Try.pinned (OpenSpec.upto fnExactFsRenameSpec)

end Rows
end Go.Proofs.Ytbppijlcmeidaaa

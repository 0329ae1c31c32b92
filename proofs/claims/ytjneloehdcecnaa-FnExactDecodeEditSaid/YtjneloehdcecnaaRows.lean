/-
  No cell of these rows narrows 'for every input' (looked for: loops, veiled, ifaces, maps, wideKeys, modest, calm, conditions, laid).
  DERIVED. THE GIVEN ROWS OF THIS SEAT. 8 by the template 'for every input the law returns true; each argument reads behind the call as it read before'; 0 by the template 'total and deterministic' (their statements: YtjneloehdcecnaaTotals.lean).
  GIVEN WITH THE SEED: the statements are not yours to turn. If you find one false, say at which input.
  Laid BY PROGRAM, IN A SANDBOX (cutbox-rows.mjs): the forced cells as the released guide's own fill.sh prints them over the translation 227fff84093e6869… (all of the seat's roots in one cut). By AI agents, Wed Nov 11 2026. No macro, syntax, notation, axiom, sorry.
-/
import Derived.Test.YtjneloehdcecnaaChecked
import GoSem.Claim
import GoSem.ClaimJoined
import GoSem.ClaimMapViews
import Derived.JoinedTies
import Derived.KernelRfl
namespace Go.Proofs.Ytjneloehdcecnaa
/- THE CELL 'sum', in the pinned program and in every row, IS THE sha256 OF THE DUMP (.gsa) THAT YtjneloehdcecnaaProg.lean LOADS. Nothing in Lean hashes anything: it is a label: what it is worth is what the hold of that sum in a sandbox is worth. -/
noncomputable def Try.pinned : Pinned := { name := "ytjneloehdcecnaa", sum := "227fff84093e6869bb555ad0bb9c964e260d3edc0328f2febb9abbdb41d4573d", checked := Try.checked }
namespace Rows
def none {H : Type} : Left H := { results := [], args := [] }

/-- 'laws.FnExactConstants': WHATEVER THE INPUT: true; the input reads as it did. -/
def fnExactConstantsSpec : ChangeSpec := { name := "fnExactConstants", fn := fun _ => fun
  | [] => { results := [.lit (.bool true)], args := [] }
  | _ => none }
def fnExactConstantsRow : OpenClaim := { program := "ytjneloehdcecnaa", sum := "227fff84093e6869bb555ad0bb9c964e260d3edc0328f2febb9abbdb41d4573d", func := "loop.example/s01733/laws.FnExactConstants", spec := "fnExactConstants", apart := false }
def FnExactConstantsSaid : Prop := fnExactConstantsRow.holds Try.pinned (OpenSpec.ofChange fnExactConstantsSpec)

/-- ITS FALSE NEIGHBOUR: 'it returns false'. Refute it at one input. -/
def fnExactConstantsWrong : ChangeSpec := { name := "fnExactConstants", fn := fun _ => fun
  | [] => { results := [.lit (.bool false)], args := [] }
  | _ => none }
def FnExactConstantsWrongFalsely : Prop := fnExactConstantsRow.holds Try.pinned (OpenSpec.ofChange fnExactConstantsWrong)

/-- 'laws.FnExactPutVarint': WHATEVER THE INPUT: true; the input reads as it did. -/
def fnExactPutVarintSpec : ChangeSpec := { name := "fnExactPutVarint", fn := fun _ => fun
  | [d] => { results := [.lit (.bool true)], args := [d] }
  | _ => none }
def fnExactPutVarintRow : OpenClaim := { program := "ytjneloehdcecnaa", sum := "227fff84093e6869bb555ad0bb9c964e260d3edc0328f2febb9abbdb41d4573d", func := "loop.example/s01733/laws.FnExactPutVarint", spec := "fnExactPutVarint", recurses := true, apart := false }
def FnExactPutVarintSaid : Prop := fnExactPutVarintRow.holds Try.pinned (OpenSpec.ofChange fnExactPutVarintSpec)

/-- ITS FALSE NEIGHBOUR: 'it returns false'. Refute it at one input. -/
def fnExactPutVarintWrong : ChangeSpec := { name := "fnExactPutVarint", fn := fun _ => fun
  | [d] => { results := [.lit (.bool false)], args := [d] }
  | _ => none }
def FnExactPutVarintWrongFalsely : Prop := fnExactPutVarintRow.holds Try.pinned (OpenSpec.ofChange fnExactPutVarintWrong)

/-- 'laws.FnExactGetVarint': WHATEVER THE INPUT: true; the input reads as it did. -/
def fnExactGetVarintSpec : ChangeSpec := { name := "fnExactGetVarint", fn := fun _ => fun
  | [d1, d2] => { results := [.lit (.bool true)], args := [d1, d2] }
  | _ => none }
def fnExactGetVarintRow : OpenClaim := { program := "ytjneloehdcecnaa", sum := "227fff84093e6869bb555ad0bb9c964e260d3edc0328f2febb9abbdb41d4573d", func := "loop.example/s01733/laws.FnExactGetVarint", spec := "fnExactGetVarint", recurses := true, apart := false }
def FnExactGetVarintSaid : Prop := fnExactGetVarintRow.holds Try.pinned (OpenSpec.ofChange fnExactGetVarintSpec)

/-- ITS FALSE NEIGHBOUR: 'it returns false'. Refute it at one input. -/
def fnExactGetVarintWrong : ChangeSpec := { name := "fnExactGetVarint", fn := fun _ => fun
  | [d1, d2] => { results := [.lit (.bool false)], args := [d1, d2] }
  | _ => none }
def FnExactGetVarintWrongFalsely : Prop := fnExactGetVarintRow.holds Try.pinned (OpenSpec.ofChange fnExactGetVarintWrong)

/-- 'laws.FnExactEncodeEntries': WHATEVER THE INPUT: true; the input reads as it did. -/
def fnExactEncodeEntriesSpec : ChangeSpec := { name := "fnExactEncodeEntries", fn := fun _ => fun
  | [d] => { results := [.lit (.bool true)], args := [d] }
  | _ => none }
def fnExactEncodeEntriesRow : OpenClaim := { program := "ytjneloehdcecnaa", sum := "227fff84093e6869bb555ad0bb9c964e260d3edc0328f2febb9abbdb41d4573d", func := "loop.example/s01733/laws.FnExactEncodeEntries", spec := "fnExactEncodeEntries", inPlace := ["internal/abi.NoEscape"], recurses := true, apart := false }
def FnExactEncodeEntriesSaid : Prop := fnExactEncodeEntriesRow.holds Try.pinned (OpenSpec.ofChange fnExactEncodeEntriesSpec)

/-- ITS FALSE NEIGHBOUR: 'it returns false'. Refute it at one input. -/
def fnExactEncodeEntriesWrong : ChangeSpec := { name := "fnExactEncodeEntries", fn := fun _ => fun
  | [d] => { results := [.lit (.bool false)], args := [d] }
  | _ => none }
def FnExactEncodeEntriesWrongFalsely : Prop := fnExactEncodeEntriesRow.holds Try.pinned (OpenSpec.ofChange fnExactEncodeEntriesWrong)

/-- 'laws.FnExactEncodeEdit': WHATEVER THE INPUT: true; the input reads as it did. -/
def fnExactEncodeEditSpec : ChangeSpec := { name := "fnExactEncodeEdit", fn := fun _ => fun
  | [d] => { results := [.lit (.bool true)], args := [d] }
  | _ => none }
def fnExactEncodeEditRow : OpenClaim := { program := "ytjneloehdcecnaa", sum := "227fff84093e6869bb555ad0bb9c964e260d3edc0328f2febb9abbdb41d4573d", func := "loop.example/s01733/laws.FnExactEncodeEdit", spec := "fnExactEncodeEdit", inPlace := ["internal/abi.NoEscape"], recurses := true, apart := false }
def FnExactEncodeEditSaid : Prop := fnExactEncodeEditRow.holds Try.pinned (OpenSpec.ofChange fnExactEncodeEditSpec)

/-- ITS FALSE NEIGHBOUR: 'it returns false'. Refute it at one input. -/
def fnExactEncodeEditWrong : ChangeSpec := { name := "fnExactEncodeEdit", fn := fun _ => fun
  | [d] => { results := [.lit (.bool false)], args := [d] }
  | _ => none }
def FnExactEncodeEditWrongFalsely : Prop := fnExactEncodeEditRow.holds Try.pinned (OpenSpec.ofChange fnExactEncodeEditWrong)

/-- 'laws.FnExactDecodeEntries': WHATEVER THE INPUT: true; the input reads as it did. -/
def fnExactDecodeEntriesSpec : ChangeSpec := { name := "fnExactDecodeEntries", fn := fun _ => fun
  | [d] => { results := [.lit (.bool true)], args := [d] }
  | _ => none }
def fnExactDecodeEntriesRow : OpenClaim := { program := "ytjneloehdcecnaa", sum := "227fff84093e6869bb555ad0bb9c964e260d3edc0328f2febb9abbdb41d4573d", func := "loop.example/s01733/laws.FnExactDecodeEntries", spec := "fnExactDecodeEntries", inPlace := ["internal/abi.NoEscape"], recurses := true, apart := false }
def FnExactDecodeEntriesSaid : Prop := fnExactDecodeEntriesRow.holds Try.pinned (OpenSpec.ofChange fnExactDecodeEntriesSpec)

/-- ITS FALSE NEIGHBOUR: 'it returns false'. Refute it at one input. -/
def fnExactDecodeEntriesWrong : ChangeSpec := { name := "fnExactDecodeEntries", fn := fun _ => fun
  | [d] => { results := [.lit (.bool false)], args := [d] }
  | _ => none }
def FnExactDecodeEntriesWrongFalsely : Prop := fnExactDecodeEntriesRow.holds Try.pinned (OpenSpec.ofChange fnExactDecodeEntriesWrong)

/-- 'laws.FnExactDecodeEdit': WHATEVER THE INPUT: true; the input reads as it did. -/
def fnExactDecodeEditSpec : ChangeSpec := { name := "fnExactDecodeEdit", fn := fun _ => fun
  | [d] => { results := [.lit (.bool true)], args := [d] }
  | _ => none }
def fnExactDecodeEditRow : OpenClaim := { program := "ytjneloehdcecnaa", sum := "227fff84093e6869bb555ad0bb9c964e260d3edc0328f2febb9abbdb41d4573d", func := "loop.example/s01733/laws.FnExactDecodeEdit", spec := "fnExactDecodeEdit", inPlace := ["internal/abi.NoEscape"], recurses := true, apart := false }
def FnExactDecodeEditSaid : Prop := fnExactDecodeEditRow.holds Try.pinned (OpenSpec.ofChange fnExactDecodeEditSpec)

/-- ITS FALSE NEIGHBOUR: 'it returns false'. Refute it at one input. -/
def fnExactDecodeEditWrong : ChangeSpec := { name := "fnExactDecodeEdit", fn := fun _ => fun
  | [d] => { results := [.lit (.bool false)], args := [d] }
  | _ => none }
def FnExactDecodeEditWrongFalsely : Prop := fnExactDecodeEditRow.holds Try.pinned (OpenSpec.ofChange fnExactDecodeEditWrong)

/-- 'laws.FnExactApplyEdit': WHATEVER THE INPUT: true; the input reads as it did. -/
def fnExactApplyEditSpec : ChangeSpec := { name := "fnExactApplyEdit", fn := fun _ => fun
  | [d1, d2] => { results := [.lit (.bool true)], args := [d1, d2] }
  | _ => none }
def fnExactApplyEditRow : OpenClaim := { program := "ytjneloehdcecnaa", sum := "227fff84093e6869bb555ad0bb9c964e260d3edc0328f2febb9abbdb41d4573d", func := "loop.example/s01733/laws.FnExactApplyEdit", spec := "fnExactApplyEdit", inPlace := ["internal/reflectlite.ValueOf", "internal/reflectlite.Swapper", "(internal/reflectlite.Value).Len"], unfollowed := true, recurses := true, apart := false }
def FnExactApplyEditSaid : Prop := fnExactApplyEditRow.holds Try.pinned (OpenSpec.ofChange fnExactApplyEditSpec)

/-- ITS FALSE NEIGHBOUR: 'it returns false'. Refute it at one input. -/
def fnExactApplyEditWrong : ChangeSpec := { name := "fnExactApplyEdit", fn := fun _ => fun
  | [d1, d2] => { results := [.lit (.bool false)], args := [d1, d2] }
  | _ => none }
def FnExactApplyEditWrongFalsely : Prop := fnExactApplyEditRow.holds Try.pinned (OpenSpec.ofChange fnExactApplyEditWrong)

/- THE SECOND FORM. 'bulk': how many values and letters a reading holds, each counted each time it is reached (what is shared counts as often as it is met; a slice's spare places count too). A statement '..UptoSaid' is the law's where the arguments, and the package variables that the reading takes, are together of bulk at most 1048576: NARROWER than '..Said'. Prove '..Said' where nothing that the law and all that it calls make is longer than what came in: it says more and counts as full. Else prove '..UptoSaid'. A law counts once. -/
mutual
def uptoBulk {H : Type} : DataW H → Nat
  | .lit (.string bytes) => bytes.length + 1
  | .lit _ => 1
  | .nil => 1
  | .ptr d => uptoBulk d + 1
  | .slice elems spare => uptoBulkAll elems + uptoBulkAll spare + 1
  | .agg parts => uptoBulkAll parts + 1
  | .iface _ d => uptoBulk d + 1
  | .map entries => uptoBulkEntries entries + 1
  | .held _ => 1
def uptoBulkAll {H : Type} : List (DataW H) → Nat
  | [] => 0
  | d :: r => uptoBulk d + uptoBulkAll r
def uptoBulkEntries {H : Type} : List (Lit × DataW H) → Nat
  | [] => 0
  | x :: r => uptoBulkEntry x + uptoBulkEntries r
def uptoBulkEntry {H : Type} : Lit × DataW H → Nat
  | (.string bytes, d) => bytes.length + uptoBulk d + 1
  | (_, d) => uptoBulk d + 1
 end
def uptoSmall : (H : Type) → List (DataW H) → Bool := fun _ ds => decide (uptoBulkAll ds ≤ 1048576)
def OpenSpec.upto (s : _root_.Go.ChangeSpec) : _root_.Go.OpenSpec := { _root_.Go.OpenSpec.ofChange s with cond := some uptoSmall }

/-- 'laws.FnExactConstants', WHERE WHAT IT READS IS OF BULK AT MOST 1048576: true; the input reads as it did. -/
def fnExactConstantsUptoRow : OpenClaim := { program := "ytjneloehdcecnaa", sum := "227fff84093e6869bb555ad0bb9c964e260d3edc0328f2febb9abbdb41d4573d", func := "loop.example/s01733/laws.FnExactConstants", spec := "fnExactConstants", apart := false, narrowed := true }
def FnExactConstantsUptoSaid : Prop := fnExactConstantsUptoRow.holds Try.pinned (OpenSpec.upto fnExactConstantsSpec)

/-- 'laws.FnExactPutVarint', WHERE WHAT IT READS IS OF BULK AT MOST 1048576: true; the input reads as it did. -/
def fnExactPutVarintUptoRow : OpenClaim := { program := "ytjneloehdcecnaa", sum := "227fff84093e6869bb555ad0bb9c964e260d3edc0328f2febb9abbdb41d4573d", func := "loop.example/s01733/laws.FnExactPutVarint", spec := "fnExactPutVarint", recurses := true, apart := false, narrowed := true }
def FnExactPutVarintUptoSaid : Prop := fnExactPutVarintUptoRow.holds Try.pinned (OpenSpec.upto fnExactPutVarintSpec)

/-- 'laws.FnExactGetVarint', WHERE WHAT IT READS IS OF BULK AT MOST 1048576: true; the input reads as it did. -/
def fnExactGetVarintUptoRow : OpenClaim := { program := "ytjneloehdcecnaa", sum := "227fff84093e6869bb555ad0bb9c964e260d3edc0328f2febb9abbdb41d4573d", func := "loop.example/s01733/laws.FnExactGetVarint", spec := "fnExactGetVarint", recurses := true, apart := false, narrowed := true }
def FnExactGetVarintUptoSaid : Prop := fnExactGetVarintUptoRow.holds Try.pinned (OpenSpec.upto fnExactGetVarintSpec)

/-- 'laws.FnExactEncodeEntries', WHERE WHAT IT READS IS OF BULK AT MOST 1048576: true; the input reads as it did. -/
def fnExactEncodeEntriesUptoRow : OpenClaim := { program := "ytjneloehdcecnaa", sum := "227fff84093e6869bb555ad0bb9c964e260d3edc0328f2febb9abbdb41d4573d", func := "loop.example/s01733/laws.FnExactEncodeEntries", spec := "fnExactEncodeEntries", inPlace := ["internal/abi.NoEscape"], recurses := true, apart := false, narrowed := true }
def FnExactEncodeEntriesUptoSaid : Prop := fnExactEncodeEntriesUptoRow.holds Try.pinned (OpenSpec.upto fnExactEncodeEntriesSpec)

/-- 'laws.FnExactEncodeEdit', WHERE WHAT IT READS IS OF BULK AT MOST 1048576: true; the input reads as it did. -/
def fnExactEncodeEditUptoRow : OpenClaim := { program := "ytjneloehdcecnaa", sum := "227fff84093e6869bb555ad0bb9c964e260d3edc0328f2febb9abbdb41d4573d", func := "loop.example/s01733/laws.FnExactEncodeEdit", spec := "fnExactEncodeEdit", inPlace := ["internal/abi.NoEscape"], recurses := true, apart := false, narrowed := true }
def FnExactEncodeEditUptoSaid : Prop := fnExactEncodeEditUptoRow.holds Try.pinned (OpenSpec.upto fnExactEncodeEditSpec)

/-- 'laws.FnExactDecodeEntries', WHERE WHAT IT READS IS OF BULK AT MOST 1048576: true; the input reads as it did. -/
def fnExactDecodeEntriesUptoRow : OpenClaim := { program := "ytjneloehdcecnaa", sum := "227fff84093e6869bb555ad0bb9c964e260d3edc0328f2febb9abbdb41d4573d", func := "loop.example/s01733/laws.FnExactDecodeEntries", spec := "fnExactDecodeEntries", inPlace := ["internal/abi.NoEscape"], recurses := true, apart := false, narrowed := true }
def FnExactDecodeEntriesUptoSaid : Prop := fnExactDecodeEntriesUptoRow.holds Try.pinned (OpenSpec.upto fnExactDecodeEntriesSpec)

/-- 'laws.FnExactDecodeEdit', WHERE WHAT IT READS IS OF BULK AT MOST 1048576: true; the input reads as it did. -/
def fnExactDecodeEditUptoRow : OpenClaim := { program := "ytjneloehdcecnaa", sum := "227fff84093e6869bb555ad0bb9c964e260d3edc0328f2febb9abbdb41d4573d", func := "loop.example/s01733/laws.FnExactDecodeEdit", spec := "fnExactDecodeEdit", inPlace := ["internal/abi.NoEscape"], recurses := true, apart := false, narrowed := true }
def FnExactDecodeEditUptoSaid : Prop := fnExactDecodeEditUptoRow.holds Try.pinned (OpenSpec.upto fnExactDecodeEditSpec)

/-- 'laws.FnExactApplyEdit', WHERE WHAT IT READS IS OF BULK AT MOST 1048576: true; the input reads as it did. -/
def fnExactApplyEditUptoRow : OpenClaim := { program := "ytjneloehdcecnaa", sum := "227fff84093e6869bb555ad0bb9c964e260d3edc0328f2febb9abbdb41d4573d", func := "loop.example/s01733/laws.FnExactApplyEdit", spec := "fnExactApplyEdit", inPlace := ["internal/reflectlite.ValueOf", "internal/reflectlite.Swapper", "(internal/reflectlite.Value).Len"], unfollowed := true, recurses := true, apart := false, narrowed := true }
def FnExactApplyEditUptoSaid : Prop := fnExactApplyEditUptoRow.holds Try.pinned (OpenSpec.upto fnExactApplyEditSpec)

end Rows
end Go.Proofs.Ytjneloehdcecnaa

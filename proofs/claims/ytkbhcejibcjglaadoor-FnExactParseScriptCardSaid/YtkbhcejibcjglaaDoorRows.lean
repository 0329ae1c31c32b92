/-
  NARROWER THAN 'FOR EVERY INPUT', by the rows' own cells (each row's printed sentence says how): FnExactParseScript: maps, laid.
  DERIVED. THE GIVEN ROWS OF THIS SEAT. 1 by the template 'for every input the law returns true; each argument reads behind the call as it read before'; 0 by the template 'total and deterministic' (their statements: YtkbhcejibcjglaaDoorTotals.lean).
  GIVEN WITH THE SEED: the statements are not yours to turn. If you find one false, say at which input.
  Laid BY PROGRAM, IN A SANDBOX (cutbox-rows.mjs): the forced cells as the released guide's own fill.sh prints them over the translation 42680b2086414f91… (all of the seat's roots in one cut). By AI agents, Wed Nov 11 2026. No macro, syntax, notation, axiom, sorry.
-/
import Derived.Test.YtkbhcejibcjglaaDoorChecked
import GoSem.PinnedTables
import GoSem.Claim
import GoSem.ClaimJoined
import GoSem.ClaimMapViews
import Derived.JoinedTies
import Derived.KernelRfl
namespace Go.Proofs.YtkbhcejibcjglaaDoor
/- THE CELL 'sum', in the pinned program and in every row, IS THE sha256 OF THE DUMP (.gsa) THAT YtkbhcejibcjglaaDoorProg.lean LOADS. Nothing in Lean hashes anything: it is a label: what it is worth is what the hold of that sum in a sandbox is worth. -/
noncomputable def Tryd.pinned : Pinned := { name := "ytkbhcejibcjglaadoor", sum := "42680b2086414f91d6b4bebca8677d447f62237dfa713601530eaf2abf2b714b", checked := Tryd.checked }
namespace Rows
def none {H : Type} : Left H := { results := [], args := [] }

/- WHAT THE LISTED PACKAGE-LEVEL VARIABLES READ AS WHEN THE CALL BEGINS. Each datum BY PROGRAM (the guide's laid-datum.mjs) off the statement by which the dump's own 'gosem.cut.vars' lays the variable. In a bare row this is a premise. The card (YtkbhcejibcjglaaDoorCards.lean) ties it to the program's text. -/
def laid_unicode_utf8_acceptRanges {H : Type} : DataW H := .agg [.agg [.lit (.int .u8 128), .lit (.int .u8 191)], .agg [.lit (.int .u8 160), .lit (.int .u8 191)], .agg [.lit (.int .u8 128), .lit (.int .u8 159)], .agg [.lit (.int .u8 144), .lit (.int .u8 191)], .agg [.lit (.int .u8 128), .lit (.int .u8 143)], .agg [.lit (.int .u8 0), .lit (.int .u8 0)], .agg [.lit (.int .u8 0), .lit (.int .u8 0)], .agg [.lit (.int .u8 0), .lit (.int .u8 0)], .agg [.lit (.int .u8 0), .lit (.int .u8 0)], .agg [.lit (.int .u8 0), .lit (.int .u8 0)], .agg [.lit (.int .u8 0), .lit (.int .u8 0)], .agg [.lit (.int .u8 0), .lit (.int .u8 0)], .agg [.lit (.int .u8 0), .lit (.int .u8 0)], .agg [.lit (.int .u8 0), .lit (.int .u8 0)], .agg [.lit (.int .u8 0), .lit (.int .u8 0)], .agg [.lit (.int .u8 0), .lit (.int .u8 0)]]
def laid_loop_example_s01733_impl_lines {H : Type} : DataW H := .map [(.string [98, 97, 116, 99, 104], .agg [.lit (.int .i64 4), .lit (.string [43])]), (.string [99, 104, 101, 99, 107], .agg [.lit (.int .i64 14), .lit (.string [])]), (.string [99, 108, 111, 115, 101], .agg [.lit (.int .i64 10), .lit (.string [])]), (.string [99, 111, 109, 112, 97, 99, 116], .agg [.lit (.int .i64 9), .lit (.string [78])]), (.string [99, 114, 97, 115, 104], .agg [.lit (.int .i64 11), .lit (.string [42])]), (.string [100, 101, 108], .agg [.lit (.int .i64 3), .lit (.string [75])]), (.string [100, 117, 109, 112], .agg [.lit (.int .i64 16), .lit (.string [])]), (.string [102, 108, 117, 115, 104], .agg [.lit (.int .i64 8), .lit (.string [])]), (.string [102, 117, 101, 108], .agg [.lit (.int .i64 12), .lit (.string [78])]), (.string [103, 101, 116], .agg [.lit (.int .i64 6), .lit (.string [75])]), (.string [108, 105, 115, 116], .agg [.lit (.int .i64 17), .lit (.string [])]), (.string [111, 112, 101, 110], .agg [.lit (.int .i64 1), .lit (.string [])]), (.string [112, 111, 107, 101], .agg [.lit (.int .i64 13), .lit (.string [75, 78, 86])]), (.string [112, 117, 116], .agg [.lit (.int .i64 2), .lit (.string [75, 86])]), (.string [114, 101, 112, 97, 105, 114], .agg [.lit (.int .i64 15), .lit (.string [])]), (.string [115, 99, 97, 110], .agg [.lit (.int .i64 7), .lit (.string [75, 86])]), (.string [115, 121, 110, 99], .agg [.lit (.int .i64 5), .lit (.string [])])]
/-- One of Go's own tables, pinned by name: the form's constant. -/
def laid_unicode_utf8_first : DataW Unit := Go.Pinned.utf8First

/-- 'laws.FnExactParseScript': WHATEVER THE INPUT: true; the input reads as it did. -/
def fnExactParseScriptSpec : ChangeSpec := { name := "fnExactParseScript", vars := ["loop.example/s01733/impl.lines"], fn := fun _ => fun
  | [d, g1] => { results := [.lit (.bool true)], args := [d], vars := [g1] }
  | _ => none }
def fnExactParseScriptRow : OpenClaim := { program := "ytkbhcejibcjglaadoor", sum := "42680b2086414f91d6b4bebca8677d447f62237dfa713601530eaf2abf2b714b", func := "loop.example/s01733/laws.FnExactParseScript", spec := "fnExactParseScript", inPlace := ["internal/bytealg.CountString", "internal/bytealg.IndexByteString", "internal/bytealg.IndexString"], recurses := true, named := ["unicode/utf8.first", "unicode/utf8.acceptRanges", "internal/bytealg.MaxLen", "loop.example/s01733/impl.lines"], maps := true, apart := false, laid := [("unicode/utf8.acceptRanges", laid_unicode_utf8_acceptRanges), ("loop.example/s01733/impl.lines", laid_loop_example_s01733_impl_lines), ("unicode/utf8.first", laid_unicode_utf8_first)] }
def FnExactParseScriptSaid : Prop := fnExactParseScriptRow.holds Tryd.pinned (OpenSpec.ofChange fnExactParseScriptSpec)

/-- ITS FALSE NEIGHBOUR: 'it returns false'. Refute it at one input. -/
def fnExactParseScriptWrong : ChangeSpec := { name := "fnExactParseScript", vars := ["loop.example/s01733/impl.lines"], fn := fun _ => fun
  | [d, g1] => { results := [.lit (.bool false)], args := [d], vars := [g1] }
  | _ => none }
def FnExactParseScriptWrongFalsely : Prop := fnExactParseScriptRow.holds Tryd.pinned (OpenSpec.ofChange fnExactParseScriptWrong)

/- THE SECOND FORM. 'bulk': how many values and letters a reading holds, each counted each time it is reached (what is shared counts as often as it is met; a slice's spare places count too). A statement '..UptoSaid' is the law's where the arguments, and the package variables that the reading takes, are together of bulk at most 1048576: NARROWER than '..Said'. Prove '..Said' where nothing that the law and all that it calls make is longer than what came in: it says more and counts as full. Else prove '..UptoSaid'. A law counts once. -/
mutual
def uptoBulk {H : Type} : DataW H → Nat
  | .lit (.string bytes) => bytes.length + 1
  | .lit _ => 1
  | .nil => 1
  | .ptr d => uptoBulk d + 1
  | .slice elems spare => uptoBulkAll elems + uptoBulkAll spare + 1
  | .agg parts => uptoBulkAll parts + 1
  | .iface _ d => uptoBulk d + 1
  | .map entries => uptoBulkEntries entries + 1
  | .held _ => 1
def uptoBulkAll {H : Type} : List (DataW H) → Nat
  | [] => 0
  | d :: r => uptoBulk d + uptoBulkAll r
def uptoBulkEntries {H : Type} : List (Lit × DataW H) → Nat
  | [] => 0
  | x :: r => uptoBulkEntry x + uptoBulkEntries r
def uptoBulkEntry {H : Type} : Lit × DataW H → Nat
  | (.string bytes, d) => bytes.length + uptoBulk d + 1
  | (_, d) => uptoBulk d + 1
 end
def uptoSmall : (H : Type) → List (DataW H) → Bool := fun _ ds => decide (uptoBulkAll ds ≤ 1048576)
def OpenSpec.upto (s : _root_.Go.ChangeSpec) : _root_.Go.OpenSpec := { _root_.Go.OpenSpec.ofChange s with cond := some uptoSmall }

/-- 'laws.FnExactParseScript', WHERE WHAT IT READS IS OF BULK AT MOST 1048576: true; the input reads as it did. -/
def fnExactParseScriptUptoRow : OpenClaim := { program := "ytkbhcejibcjglaadoor", sum := "42680b2086414f91d6b4bebca8677d447f62237dfa713601530eaf2abf2b714b", func := "loop.example/s01733/laws.FnExactParseScript", spec := "fnExactParseScript", inPlace := ["internal/bytealg.CountString", "internal/bytealg.IndexByteString", "internal/bytealg.IndexString"], recurses := true, named := ["unicode/utf8.first", "unicode/utf8.acceptRanges", "internal/bytealg.MaxLen", "loop.example/s01733/impl.lines"], maps := true, apart := false, laid := [("unicode/utf8.acceptRanges", laid_unicode_utf8_acceptRanges), ("loop.example/s01733/impl.lines", laid_loop_example_s01733_impl_lines), ("unicode/utf8.first", laid_unicode_utf8_first)], narrowed := true }
def FnExactParseScriptUptoSaid : Prop := fnExactParseScriptUptoRow.holds Tryd.pinned (OpenSpec.upto fnExactParseScriptSpec)

end Rows
end Go.Proofs.YtkbhcejibcjglaaDoor

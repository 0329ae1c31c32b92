/- Texts of the claim FnExactApplyEdit, part 18 of 47, joined: WInvWords. No condition beyond those that stand at each. -/
import Derived.Test.YtlecpmgdoomngaaZFnExactApplyEdit17
import Derived.Test.YtlecpmgdoomngaaZFnExactApplyEdit13
section
-- PRINTED BY print.sh 35421559b90ae4d0a3588c463048766b98c2df88dd9212a6774a882060cdf62d: not written by this session
namespace Go.Proofs.YtlecpmgdoomngaaW.PrintWords
open Go.RowKit
end Go.Proofs.YtlecpmgdoomngaaW.PrintWords
namespace Go.Proofs.YtlecpmgdoomngaaW.PrintLast
section
variable {ops : Array Oper} {a : Act} {o og : Oper} {g : Nat} {t : Tmp} {u : Bool}
end
end Go.Proofs.YtlecpmgdoomngaaW.PrintLast
end

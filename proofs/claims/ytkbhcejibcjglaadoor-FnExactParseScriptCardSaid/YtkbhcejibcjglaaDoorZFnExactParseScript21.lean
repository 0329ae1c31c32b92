/- Texts of the claim FnExactParseScript, part 21 of 34, joined: WInvWords. No condition beyond those that stand at each. -/
import Derived.Test.YtkbhcejibcjglaaDoorZFnExactParseScript20
import Derived.Test.YtkbhcejibcjglaaDoorZFnExactParseScript16
section
-- PRINTED BY print.sh 35421559b90ae4d0a3588c463048766b98c2df88dd9212a6774a882060cdf62d: not written by this session
namespace Go.Proofs.YtkbhcejibcjglaaDoorW.PrintWords
open Go.RowKit
end Go.Proofs.YtkbhcejibcjglaaDoorW.PrintWords
namespace Go.Proofs.YtkbhcejibcjglaaDoorW.PrintLast
section
variable {ops : Array Oper} {a : Act} {o og : Oper} {g : Nat} {t : Tmp} {u : Bool}
end
end Go.Proofs.YtkbhcejibcjglaaDoorW.PrintLast
end

-- This session's choice (wip/trimw.py) out of the print's words: what this claim's texts name.
-- PRINTED BY print.sh 35421559b90ae4d0a3588c463048766b98c2df88dd9212a6774a882060cdf62d: not written by this session
import Derived.Test.YtbbffnlefmogbaaWInv
import Derived.Test.YtbbffnlefmogbaaWFootNe
namespace Go.Proofs.YtbbffnlefmogbaaW.PrintWords
open Go.RowKit
end Go.Proofs.YtbbffnlefmogbaaW.PrintWords
namespace Go.Proofs.YtbbffnlefmogbaaW.PrintLast
section
variable {ops : Array Oper} {a : Act} {o og : Oper} {g : Nat} {t : Tmp} {u : Bool}
end
end Go.Proofs.YtbbffnlefmogbaaW.PrintLast

/- The page's example of layer 14 is true. -/
import Derived.Test.YthcmokglgepgjaaX9
namespace Go.Proofs.Ythcmokglgepgjaa.Dead
open Go.RowKit Go.Proofs.Ythcmokglgepgjaa.X Go.Proofs.YthcmokglgepgjaaW.PrintWords Go.Proofs.YthcmokglgepgjaaW.PrintLast Go.Proofs.YthcmokglgepgjaaW.PrintMore
theorem live_is (k : Nat) (hk : 100 ≤ k) : firkinlaw14_live.f k = some true := at_rounds firkinlaw14_live.mono hk (by decide +kernel)
end Go.Proofs.Ythcmokglgepgjaa.Dead

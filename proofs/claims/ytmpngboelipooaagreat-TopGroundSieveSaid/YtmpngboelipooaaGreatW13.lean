/- Part 13 of the road to this seat's statements: lemmas about a small interpreter over the model's code, and about the functions that it is used on. No condition of its own. -/
import Derived.Test.YtmpngboelipooaaGreatW6
set_option linter.all false
section
set_option maxRecDepth 1000000
set_option maxHeartbeats 0
open Go Go.Abs Go.Proofs
namespace Go.Abs.T2
theorem a5u:(((dH 1).drop 0).take 3).all TL=true:=by decide+kernel
theorem a5v:(((dH 2).drop 0).take 4).all TL=true:=by decide+kernel
theorem a5w:(((dH 2).drop 4).take 4).all TL=true:=by decide+kernel
theorem a5x:(((dH 3).drop 0).take 4).all TL=true:=by decide+kernel
theorem a5y:(((dH 3).drop 4).take 4).all TL=true:=by decide+kernel
theorem a5z:(((dH 3).drop 8).take 4).all TL=true:=by decide+kernel
end Go.Abs.T2
end

/- Part 15 of the road to this seat's statements: lemmas about a small interpreter over the model's code, and about the functions that it is used on. No condition of its own. -/
import Derived.Test.YtmpngboelipooaaGreatW6
set_option linter.all false
section
set_option maxRecDepth 1000000
set_option maxHeartbeats 0
open Go Go.Abs Go.Proofs
namespace Go.Abs.T2
theorem a12:(((dH 4).drop 12).take 3).all TL=true:=by decide+kernel
theorem a13:(((dH 4).drop 15).take 3).all TL=true:=by decide+kernel
theorem a14:(((dH 4).drop 18).take 3).all TL=true:=by decide+kernel
theorem a15:(((dH 4).drop 21).take 3).all TL=true:=by decide+kernel
theorem a16:(((dH 4).drop 24).take 3).all TL=true:=by decide+kernel
theorem a17:(((dH 4).drop 27).take 3).all TL=true:=by decide+kernel
end Go.Abs.T2
end

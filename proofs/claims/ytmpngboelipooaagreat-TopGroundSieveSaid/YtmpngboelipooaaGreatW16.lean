/- Part 16 of the road to this seat's statements: lemmas about a small interpreter over the model's code, and about the functions that it is used on. No condition of its own. -/
import Derived.Test.YtmpngboelipooaaGreatW6
set_option linter.all false
section
set_option maxRecDepth 1000000
set_option maxHeartbeats 0
open Go Go.Abs Go.Proofs
namespace Go.Abs.T2
theorem a18:(((dH 4).drop 30).take 3).all TL=true:=by decide+kernel
theorem a19:(((dH 4).drop 33).take 3).all TL=true:=by decide+kernel
theorem a2a:(((dH 4).drop 36).take 3).all TL=true:=by decide+kernel
theorem a2b:(((dH 4).drop 39).take 3).all TL=true:=by decide+kernel
theorem a2c:(((dH 4).drop 42).take 3).all TL=true:=by decide+kernel
theorem a2d:(((dH 4).drop 45).take 3).all TL=true:=by decide+kernel
end Go.Abs.T2
end

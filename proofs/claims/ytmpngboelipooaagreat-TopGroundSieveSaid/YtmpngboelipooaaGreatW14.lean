/- Part 14 of the road to this seat's statements: lemmas about a small interpreter over the model's code, and about the functions that it is used on. No condition of its own. -/
import Derived.Test.YtmpngboelipooaaGreatW6
set_option linter.all false
section
set_option maxRecDepth 1000000
set_option maxHeartbeats 0
open Go Go.Abs Go.Proofs
namespace Go.Abs.T2
theorem a10:(((dH 3).drop 12).take 4).all TL=true:=by decide+kernel
theorem a11:(((dH 3).drop 16).take 4).all TL=true:=by decide+kernel
theorem a5A:(((dH 4).drop 0).take 3).all TL=true:=by decide+kernel
theorem a5B:(((dH 4).drop 3).take 3).all TL=true:=by decide+kernel
theorem a5C:(((dH 4).drop 6).take 3).all TL=true:=by decide+kernel
theorem a5D:(((dH 4).drop 9).take 3).all TL=true:=by decide+kernel
end Go.Abs.T2
end

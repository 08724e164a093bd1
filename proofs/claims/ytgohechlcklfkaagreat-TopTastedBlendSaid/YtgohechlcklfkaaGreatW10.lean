/- Part 10 of the road to this seat's statements: lemmas about a small interpreter over the model's code, and about the functions that it is used on. No condition of its own. -/
import Derived.Test.YtgohechlcklfkaaGreatProg
import Derived.Test.YtgohechlcklfkaaGreatW9
set_option linter.all false
section
open Go Go.Abs Go.Proofs
set_option maxRecDepth 1000000
set_option maxHeartbeats 0
namespace L3
theorem o7:Tryz.prog.follows .mixedOrders=true:=by decide+kernel
def k37:KE:=.mk 16 [] [] (.c 17) []
theorem a3u:Kn Tryz.prog k37:=Fv (Fu:=100000) o7 (T:=[]) trivial 60 (by decide+kernel)
end L3
end

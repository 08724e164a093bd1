/- Part 9 of the road to this seat's statements: lemmas about a small interpreter over the model's code, and about the functions that it is used on. No condition of its own. -/
import Derived.Test.YtmpngboelipooaaGreatW6
set_option linter.all false
section
open Go Go.Abs Go.Proofs
namespace K3
def k37:KE:=.mk 32 [] [] (.c 17) []
theorem a5l:Kn Tryz.prog k37:=aV (Fu:=100000) m4 Z3 SX WW (T:=[]) trivial 60 (by decide+kernel)
end K3
end

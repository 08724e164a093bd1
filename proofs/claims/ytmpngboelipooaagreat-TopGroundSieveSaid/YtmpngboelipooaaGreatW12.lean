/- Part 12 of the road to this seat's statements: lemmas about a small interpreter over the model's code, and about the functions that it is used on. No condition of its own. -/
import Derived.Test.YtmpngboelipooaaGreatW6
set_option linter.all false
section
set_option maxRecDepth 1000000
set_option maxHeartbeats 0
open Go Go.Abs Go.Proofs
namespace Go.Abs.T2
theorem a83:Le 1 LL=true:=by decide+kernel
theorem a84:Le 2 LL=true:=by decide+kernel
theorem a85:Le 3 LL=true:=by decide+kernel
theorem a5p:Le 3 (fun a p b=>LL (true::a) (0::p) (0::b))=true:=by decide+kernel
theorem a5q:Le 3 (fun a p b=>LL (false::a) (0::p) (0::b))=true:=by decide+kernel
theorem a5r:Le 3 (fun a p b=>LL (false::a) (0::p) (1::b))=true:=by decide+kernel
theorem a5s:Le 3 (fun a p b=>LL (false::a) (1::p) (0::b))=true:=by decide+kernel
theorem a5t:Le 3 (fun a p b=>LL (false::a) (1::p) (1::b))=true:=by decide+kernel
end Go.Abs.T2
end

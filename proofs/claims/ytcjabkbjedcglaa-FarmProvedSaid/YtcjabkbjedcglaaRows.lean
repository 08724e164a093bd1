/-
  No cell of these rows narrows 'for every input' (looked for: loops, veiled, ifaces, maps, wideKeys, modest, calm, conditions, laid).
  DERIVED. THE GIVEN ROWS OF THIS SEAT. 13 by the template 'for every input the law returns true; each argument reads behind the call as it read before'; 0 by the template 'total and deterministic' (their statements: YtcjabkbjedcglaaTotals.lean).
  GIVEN WITH THE SEED: the statements are not yours to turn. If you find one false, say at which input.
  Laid BY PROGRAM, IN A SANDBOX (cutbox-rows.mjs): the forced cells as the released guide's own fill.sh prints them over the translation 6ff6e55a979283dc… (all of the seat's roots in one cut). By AI agents, Wed Nov 11 2026. No macro, syntax, notation, axiom, sorry.
-/
import Derived.Test.YtcjabkbjedcglaaChecked
import GoSem.Claim
import GoSem.ClaimJoined
import GoSem.ClaimMapViews
import Derived.JoinedTies
import Derived.KernelRfl
namespace Go.Proofs.Ytcjabkbjedcglaa
/- THE CELL 'sum', in the pinned program and in every row, IS THE sha256 OF THE DUMP (.gsa) THAT YtcjabkbjedcglaaProg.lean LOADS. Nothing in Lean hashes anything: it is a label: what it is worth is what the hold of that sum in a sandbox is worth. -/
noncomputable def Try.pinned : Pinned := { name := "ytcjabkbjedcglaa", sum := "6ff6e55a979283dcbbb76528fa333aba833b9079da0efaa738054aade0f64ce8", checked := Try.checked }
namespace Rows
def none {H : Type} : Left H := { results := [], args := [] }

/-- 'senvylaw08.FarmYears': WHATEVER THE INPUT: true; the input reads as it did. -/
def farmYearsSpec : ChangeSpec := { name := "farmYears", fn := fun _ => fun
  | [d1, d2] => { results := [.lit (.bool true)], args := [d1, d2] }
  | _ => none }
def farmYearsRow : OpenClaim := { program := "ytcjabkbjedcglaa", sum := "6ff6e55a979283dcbbb76528fa333aba833b9079da0efaa738054aade0f64ce8", func := "senvy/senvylaw08.FarmYears", spec := "farmYears", unfollowed := true, recurses := true, plainKeys := false, apart := false }
def FarmYearsSaid : Prop := farmYearsRow.holds Try.pinned (OpenSpec.ofChange farmYearsSpec)

/-- ITS FALSE NEIGHBOUR: 'it returns false'. Refute it at one input. -/
def farmYearsWrong : ChangeSpec := { name := "farmYears", fn := fun _ => fun
  | [d1, d2] => { results := [.lit (.bool false)], args := [d1, d2] }
  | _ => none }
def FarmYearsWrongFalsely : Prop := farmYearsRow.holds Try.pinned (OpenSpec.ofChange farmYearsWrong)

/-- 'senvylaw08.FarmShares': WHATEVER THE INPUT: true; the input reads as it did. -/
def farmSharesSpec : ChangeSpec := { name := "farmShares", fn := fun _ => fun
  | [d1, d2] => { results := [.lit (.bool true)], args := [d1, d2] }
  | _ => none }
def farmSharesRow : OpenClaim := { program := "ytcjabkbjedcglaa", sum := "6ff6e55a979283dcbbb76528fa333aba833b9079da0efaa738054aade0f64ce8", func := "senvy/senvylaw08.FarmShares", spec := "farmShares", unfollowed := true, recurses := true, plainKeys := false, apart := false }
def FarmSharesSaid : Prop := farmSharesRow.holds Try.pinned (OpenSpec.ofChange farmSharesSpec)

/-- ITS FALSE NEIGHBOUR: 'it returns false'. Refute it at one input. -/
def farmSharesWrong : ChangeSpec := { name := "farmShares", fn := fun _ => fun
  | [d1, d2] => { results := [.lit (.bool false)], args := [d1, d2] }
  | _ => none }
def FarmSharesWrongFalsely : Prop := farmSharesRow.holds Try.pinned (OpenSpec.ofChange farmSharesWrong)

/-- 'senvylaw08.FarmDivisors': WHATEVER THE INPUT: true; the input reads as it did. -/
def farmDivisorsSpec : ChangeSpec := { name := "farmDivisors", fn := fun _ => fun
  | [d1, d2] => { results := [.lit (.bool true)], args := [d1, d2] }
  | _ => none }
def farmDivisorsRow : OpenClaim := { program := "ytcjabkbjedcglaa", sum := "6ff6e55a979283dcbbb76528fa333aba833b9079da0efaa738054aade0f64ce8", func := "senvy/senvylaw08.FarmDivisors", spec := "farmDivisors", unfollowed := true, recurses := true, plainKeys := false, apart := false }
def FarmDivisorsSaid : Prop := farmDivisorsRow.holds Try.pinned (OpenSpec.ofChange farmDivisorsSpec)

/-- ITS FALSE NEIGHBOUR: 'it returns false'. Refute it at one input. -/
def farmDivisorsWrong : ChangeSpec := { name := "farmDivisors", fn := fun _ => fun
  | [d1, d2] => { results := [.lit (.bool false)], args := [d1, d2] }
  | _ => none }
def FarmDivisorsWrongFalsely : Prop := farmDivisorsRow.holds Try.pinned (OpenSpec.ofChange farmDivisorsWrong)

/-- 'senvylaw08.FarmSpans': WHATEVER THE INPUT: true; the input reads as it did. -/
def farmSpansSpec : ChangeSpec := { name := "farmSpans", fn := fun _ => fun
  | [d1, d2] => { results := [.lit (.bool true)], args := [d1, d2] }
  | _ => none }
def farmSpansRow : OpenClaim := { program := "ytcjabkbjedcglaa", sum := "6ff6e55a979283dcbbb76528fa333aba833b9079da0efaa738054aade0f64ce8", func := "senvy/senvylaw08.FarmSpans", spec := "farmSpans", unfollowed := true, recurses := true, plainKeys := false, apart := false }
def FarmSpansSaid : Prop := farmSpansRow.holds Try.pinned (OpenSpec.ofChange farmSpansSpec)

/-- ITS FALSE NEIGHBOUR: 'it returns false'. Refute it at one input. -/
def farmSpansWrong : ChangeSpec := { name := "farmSpans", fn := fun _ => fun
  | [d1, d2] => { results := [.lit (.bool false)], args := [d1, d2] }
  | _ => none }
def FarmSpansWrongFalsely : Prop := farmSpansRow.holds Try.pinned (OpenSpec.ofChange farmSpansWrong)

/-- 'senvylaw08.FarmProved': WHATEVER THE INPUT: true; the input reads as it did. -/
def farmProvedSpec : ChangeSpec := { name := "farmProved", fn := fun _ => fun
  | [d1, d2] => { results := [.lit (.bool true)], args := [d1, d2] }
  | _ => none }
def farmProvedRow : OpenClaim := { program := "ytcjabkbjedcglaa", sum := "6ff6e55a979283dcbbb76528fa333aba833b9079da0efaa738054aade0f64ce8", func := "senvy/senvylaw08.FarmProved", spec := "farmProved", unfollowed := true, recurses := true, plainKeys := false, apart := false }
def FarmProvedSaid : Prop := farmProvedRow.holds Try.pinned (OpenSpec.ofChange farmProvedSpec)

/-- ITS FALSE NEIGHBOUR: 'it returns false'. Refute it at one input. -/
def farmProvedWrong : ChangeSpec := { name := "farmProved", fn := fun _ => fun
  | [d1, d2] => { results := [.lit (.bool false)], args := [d1, d2] }
  | _ => none }
def FarmProvedWrongFalsely : Prop := farmProvedRow.holds Try.pinned (OpenSpec.ofChange farmProvedWrong)

/-- 'senvylaw08.FarmQuotas': WHATEVER THE INPUT: true; the input reads as it did. -/
def farmQuotasSpec : ChangeSpec := { name := "farmQuotas", fn := fun _ => fun
  | [d1, d2] => { results := [.lit (.bool true)], args := [d1, d2] }
  | _ => none }
def farmQuotasRow : OpenClaim := { program := "ytcjabkbjedcglaa", sum := "6ff6e55a979283dcbbb76528fa333aba833b9079da0efaa738054aade0f64ce8", func := "senvy/senvylaw08.FarmQuotas", spec := "farmQuotas", unfollowed := true, recurses := true, plainKeys := false, apart := false }
def FarmQuotasSaid : Prop := farmQuotasRow.holds Try.pinned (OpenSpec.ofChange farmQuotasSpec)

/-- ITS FALSE NEIGHBOUR: 'it returns false'. Refute it at one input. -/
def farmQuotasWrong : ChangeSpec := { name := "farmQuotas", fn := fun _ => fun
  | [d1, d2] => { results := [.lit (.bool false)], args := [d1, d2] }
  | _ => none }
def FarmQuotasWrongFalsely : Prop := farmQuotasRow.holds Try.pinned (OpenSpec.ofChange farmQuotasWrong)

/-- 'senvylaw08.FarmCoins': WHATEVER THE INPUT: true; the input reads as it did. -/
def farmCoinsSpec : ChangeSpec := { name := "farmCoins", fn := fun _ => fun
  | [d] => { results := [.lit (.bool true)], args := [d] }
  | _ => none }
def farmCoinsRow : OpenClaim := { program := "ytcjabkbjedcglaa", sum := "6ff6e55a979283dcbbb76528fa333aba833b9079da0efaa738054aade0f64ce8", func := "senvy/senvylaw08.FarmCoins", spec := "farmCoins", unfollowed := true, recurses := true, plainKeys := false, apart := false }
def FarmCoinsSaid : Prop := farmCoinsRow.holds Try.pinned (OpenSpec.ofChange farmCoinsSpec)

/-- ITS FALSE NEIGHBOUR: 'it returns false'. Refute it at one input. -/
def farmCoinsWrong : ChangeSpec := { name := "farmCoins", fn := fun _ => fun
  | [d] => { results := [.lit (.bool false)], args := [d] }
  | _ => none }
def FarmCoinsWrongFalsely : Prop := farmCoinsRow.holds Try.pinned (OpenSpec.ofChange farmCoinsWrong)

/-- 'senvylaw08.FarmJoined': WHATEVER THE INPUT: true; the input reads as it did. -/
def farmJoinedSpec : ChangeSpec := { name := "farmJoined", fn := fun _ => fun
  | [d1, d2, d3] => { results := [.lit (.bool true)], args := [d1, d2, d3] }
  | _ => none }
def farmJoinedRow : OpenClaim := { program := "ytcjabkbjedcglaa", sum := "6ff6e55a979283dcbbb76528fa333aba833b9079da0efaa738054aade0f64ce8", func := "senvy/senvylaw08.FarmJoined", spec := "farmJoined", unfollowed := true, recurses := true, plainKeys := false, apart := false }
def FarmJoinedSaid : Prop := farmJoinedRow.holds Try.pinned (OpenSpec.ofChange farmJoinedSpec)

/-- ITS FALSE NEIGHBOUR: 'it returns false'. Refute it at one input. -/
def farmJoinedWrong : ChangeSpec := { name := "farmJoined", fn := fun _ => fun
  | [d1, d2, d3] => { results := [.lit (.bool false)], args := [d1, d2, d3] }
  | _ => none }
def FarmJoinedWrongFalsely : Prop := farmJoinedRow.holds Try.pinned (OpenSpec.ofChange farmJoinedWrong)

/-- 'senvylaw08.FarmScaled': WHATEVER THE INPUT: true; the input reads as it did. -/
def farmScaledSpec : ChangeSpec := { name := "farmScaled", fn := fun _ => fun
  | [d1, d2] => { results := [.lit (.bool true)], args := [d1, d2] }
  | _ => none }
def farmScaledRow : OpenClaim := { program := "ytcjabkbjedcglaa", sum := "6ff6e55a979283dcbbb76528fa333aba833b9079da0efaa738054aade0f64ce8", func := "senvy/senvylaw08.FarmScaled", spec := "farmScaled", unfollowed := true, recurses := true, plainKeys := false, apart := false }
def FarmScaledSaid : Prop := farmScaledRow.holds Try.pinned (OpenSpec.ofChange farmScaledSpec)

/-- ITS FALSE NEIGHBOUR: 'it returns false'. Refute it at one input. -/
def farmScaledWrong : ChangeSpec := { name := "farmScaled", fn := fun _ => fun
  | [d1, d2] => { results := [.lit (.bool false)], args := [d1, d2] }
  | _ => none }
def FarmScaledWrongFalsely : Prop := farmScaledRow.holds Try.pinned (OpenSpec.ofChange farmScaledWrong)

/-- 'senvylaw08.FarmMore': WHATEVER THE INPUT: true; the input reads as it did. -/
def farmMoreSpec : ChangeSpec := { name := "farmMore", fn := fun _ => fun
  | [d1, d2, d3] => { results := [.lit (.bool true)], args := [d1, d2, d3] }
  | _ => none }
def farmMoreRow : OpenClaim := { program := "ytcjabkbjedcglaa", sum := "6ff6e55a979283dcbbb76528fa333aba833b9079da0efaa738054aade0f64ce8", func := "senvy/senvylaw08.FarmMore", spec := "farmMore", unfollowed := true, recurses := true, plainKeys := false, apart := false }
def FarmMoreSaid : Prop := farmMoreRow.holds Try.pinned (OpenSpec.ofChange farmMoreSpec)

/-- ITS FALSE NEIGHBOUR: 'it returns false'. Refute it at one input. -/
def farmMoreWrong : ChangeSpec := { name := "farmMore", fn := fun _ => fun
  | [d1, d2, d3] => { results := [.lit (.bool false)], args := [d1, d2, d3] }
  | _ => none }
def FarmMoreWrongFalsely : Prop := farmMoreRow.holds Try.pinned (OpenSpec.ofChange farmMoreWrong)

/-- 'senvylaw08.FarmTrue': WHATEVER THE INPUT: true; the input reads as it did. -/
def farmTrueSpec : ChangeSpec := { name := "farmTrue", fn := fun _ => fun
  | [d1, d2, d3] => { results := [.lit (.bool true)], args := [d1, d2, d3] }
  | _ => none }
def farmTrueRow : OpenClaim := { program := "ytcjabkbjedcglaa", sum := "6ff6e55a979283dcbbb76528fa333aba833b9079da0efaa738054aade0f64ce8", func := "senvy/senvylaw08.FarmTrue", spec := "farmTrue", unfollowed := true, recurses := true, plainKeys := false, apart := false }
def FarmTrueSaid : Prop := farmTrueRow.holds Try.pinned (OpenSpec.ofChange farmTrueSpec)

/-- ITS FALSE NEIGHBOUR: 'it returns false'. Refute it at one input. -/
def farmTrueWrong : ChangeSpec := { name := "farmTrue", fn := fun _ => fun
  | [d1, d2, d3] => { results := [.lit (.bool false)], args := [d1, d2, d3] }
  | _ => none }
def FarmTrueWrongFalsely : Prop := farmTrueRow.holds Try.pinned (OpenSpec.ofChange farmTrueWrong)

/-- 'senvylaw08.FarmAlike': WHATEVER THE INPUT: true; the input reads as it did. -/
def farmAlikeSpec : ChangeSpec := { name := "farmAlike", fn := fun _ => fun
  | [d1, d2, d3] => { results := [.lit (.bool true)], args := [d1, d2, d3] }
  | _ => none }
def farmAlikeRow : OpenClaim := { program := "ytcjabkbjedcglaa", sum := "6ff6e55a979283dcbbb76528fa333aba833b9079da0efaa738054aade0f64ce8", func := "senvy/senvylaw08.FarmAlike", spec := "farmAlike", unfollowed := true, recurses := true, plainKeys := false, apart := false }
def FarmAlikeSaid : Prop := farmAlikeRow.holds Try.pinned (OpenSpec.ofChange farmAlikeSpec)

/-- ITS FALSE NEIGHBOUR: 'it returns false'. Refute it at one input. -/
def farmAlikeWrong : ChangeSpec := { name := "farmAlike", fn := fun _ => fun
  | [d1, d2, d3] => { results := [.lit (.bool false)], args := [d1, d2, d3] }
  | _ => none }
def FarmAlikeWrongFalsely : Prop := farmAlikeRow.holds Try.pinned (OpenSpec.ofChange farmAlikeWrong)

/-- 'senvylaw08.FarmKnown': WHATEVER THE INPUT: true; the input reads as it did. -/
def farmKnownSpec : ChangeSpec := { name := "farmKnown", fn := fun _ => fun
  | [] => { results := [.lit (.bool true)], args := [] }
  | _ => none }
def farmKnownRow : OpenClaim := { program := "ytcjabkbjedcglaa", sum := "6ff6e55a979283dcbbb76528fa333aba833b9079da0efaa738054aade0f64ce8", func := "senvy/senvylaw08.FarmKnown", spec := "farmKnown", unfollowed := true, recurses := true, plainKeys := false, apart := false }
def FarmKnownSaid : Prop := farmKnownRow.holds Try.pinned (OpenSpec.ofChange farmKnownSpec)

/-- ITS FALSE NEIGHBOUR: 'it returns false'. Refute it at one input. -/
def farmKnownWrong : ChangeSpec := { name := "farmKnown", fn := fun _ => fun
  | [] => { results := [.lit (.bool false)], args := [] }
  | _ => none }
def FarmKnownWrongFalsely : Prop := farmKnownRow.holds Try.pinned (OpenSpec.ofChange farmKnownWrong)

/- THE SECOND FORM. 'bulk': how many values and letters a reading holds, each counted each time it is reached (what is shared counts as often as it is met; a slice's spare places count too). A statement '..UptoSaid' is the law's where the arguments, and the package variables that the reading takes, are together of bulk at most 1048576: NARROWER than '..Said'. Prove '..Said' where nothing that the law and all that it calls make is longer than what came in: it says more and counts as full. Else prove '..UptoSaid'. A law counts once. -/
mutual
def uptoBulk {H : Type} : DataW H → Nat
  | .lit (.string bytes) => bytes.length + 1
  | .lit _ => 1
  | .nil => 1
  | .ptr d => uptoBulk d + 1
  | .slice elems spare => uptoBulkAll elems + uptoBulkAll spare + 1
  | .agg parts => uptoBulkAll parts + 1
  | .iface _ d => uptoBulk d + 1
  | .map entries => uptoBulkEntries entries + 1
  | .held _ => 1
def uptoBulkAll {H : Type} : List (DataW H) → Nat
  | [] => 0
  | d :: r => uptoBulk d + uptoBulkAll r
def uptoBulkEntries {H : Type} : List (Lit × DataW H) → Nat
  | [] => 0
  | x :: r => uptoBulkEntry x + uptoBulkEntries r
def uptoBulkEntry {H : Type} : Lit × DataW H → Nat
  | (.string bytes, d) => bytes.length + uptoBulk d + 1
  | (_, d) => uptoBulk d + 1
 end
def uptoSmall : (H : Type) → List (DataW H) → Bool := fun _ ds => decide (uptoBulkAll ds ≤ 1048576)
def OpenSpec.upto (s : _root_.Go.ChangeSpec) : _root_.Go.OpenSpec := { _root_.Go.OpenSpec.ofChange s with cond := some uptoSmall }

/-- 'senvylaw08.FarmYears', WHERE WHAT IT READS IS OF BULK AT MOST 1048576: true; the input reads as it did. -/
def farmYearsUptoRow : OpenClaim := { program := "ytcjabkbjedcglaa", sum := "6ff6e55a979283dcbbb76528fa333aba833b9079da0efaa738054aade0f64ce8", func := "senvy/senvylaw08.FarmYears", spec := "farmYears", unfollowed := true, recurses := true, plainKeys := false, apart := false, narrowed := true }
def FarmYearsUptoSaid : Prop := farmYearsUptoRow.holds Try.pinned (OpenSpec.upto farmYearsSpec)

/-- 'senvylaw08.FarmShares', WHERE WHAT IT READS IS OF BULK AT MOST 1048576: true; the input reads as it did. -/
def farmSharesUptoRow : OpenClaim := { program := "ytcjabkbjedcglaa", sum := "6ff6e55a979283dcbbb76528fa333aba833b9079da0efaa738054aade0f64ce8", func := "senvy/senvylaw08.FarmShares", spec := "farmShares", unfollowed := true, recurses := true, plainKeys := false, apart := false, narrowed := true }
def FarmSharesUptoSaid : Prop := farmSharesUptoRow.holds Try.pinned (OpenSpec.upto farmSharesSpec)

/-- 'senvylaw08.FarmDivisors', WHERE WHAT IT READS IS OF BULK AT MOST 1048576: true; the input reads as it did. -/
def farmDivisorsUptoRow : OpenClaim := { program := "ytcjabkbjedcglaa", sum := "6ff6e55a979283dcbbb76528fa333aba833b9079da0efaa738054aade0f64ce8", func := "senvy/senvylaw08.FarmDivisors", spec := "farmDivisors", unfollowed := true, recurses := true, plainKeys := false, apart := false, narrowed := true }
def FarmDivisorsUptoSaid : Prop := farmDivisorsUptoRow.holds Try.pinned (OpenSpec.upto farmDivisorsSpec)

/-- 'senvylaw08.FarmSpans', WHERE WHAT IT READS IS OF BULK AT MOST 1048576: true; the input reads as it did. -/
def farmSpansUptoRow : OpenClaim := { program := "ytcjabkbjedcglaa", sum := "6ff6e55a979283dcbbb76528fa333aba833b9079da0efaa738054aade0f64ce8", func := "senvy/senvylaw08.FarmSpans", spec := "farmSpans", unfollowed := true, recurses := true, plainKeys := false, apart := false, narrowed := true }
def FarmSpansUptoSaid : Prop := farmSpansUptoRow.holds Try.pinned (OpenSpec.upto farmSpansSpec)

/-- 'senvylaw08.FarmProved', WHERE WHAT IT READS IS OF BULK AT MOST 1048576: true; the input reads as it did. -/
def farmProvedUptoRow : OpenClaim := { program := "ytcjabkbjedcglaa", sum := "6ff6e55a979283dcbbb76528fa333aba833b9079da0efaa738054aade0f64ce8", func := "senvy/senvylaw08.FarmProved", spec := "farmProved", unfollowed := true, recurses := true, plainKeys := false, apart := false, narrowed := true }
def FarmProvedUptoSaid : Prop := farmProvedUptoRow.holds Try.pinned (OpenSpec.upto farmProvedSpec)

/-- 'senvylaw08.FarmQuotas', WHERE WHAT IT READS IS OF BULK AT MOST 1048576: true; the input reads as it did. -/
def farmQuotasUptoRow : OpenClaim := { program := "ytcjabkbjedcglaa", sum := "6ff6e55a979283dcbbb76528fa333aba833b9079da0efaa738054aade0f64ce8", func := "senvy/senvylaw08.FarmQuotas", spec := "farmQuotas", unfollowed := true, recurses := true, plainKeys := false, apart := false, narrowed := true }
def FarmQuotasUptoSaid : Prop := farmQuotasUptoRow.holds Try.pinned (OpenSpec.upto farmQuotasSpec)

/-- 'senvylaw08.FarmCoins', WHERE WHAT IT READS IS OF BULK AT MOST 1048576: true; the input reads as it did. -/
def farmCoinsUptoRow : OpenClaim := { program := "ytcjabkbjedcglaa", sum := "6ff6e55a979283dcbbb76528fa333aba833b9079da0efaa738054aade0f64ce8", func := "senvy/senvylaw08.FarmCoins", spec := "farmCoins", unfollowed := true, recurses := true, plainKeys := false, apart := false, narrowed := true }
def FarmCoinsUptoSaid : Prop := farmCoinsUptoRow.holds Try.pinned (OpenSpec.upto farmCoinsSpec)

/-- 'senvylaw08.FarmJoined', WHERE WHAT IT READS IS OF BULK AT MOST 1048576: true; the input reads as it did. -/
def farmJoinedUptoRow : OpenClaim := { program := "ytcjabkbjedcglaa", sum := "6ff6e55a979283dcbbb76528fa333aba833b9079da0efaa738054aade0f64ce8", func := "senvy/senvylaw08.FarmJoined", spec := "farmJoined", unfollowed := true, recurses := true, plainKeys := false, apart := false, narrowed := true }
def FarmJoinedUptoSaid : Prop := farmJoinedUptoRow.holds Try.pinned (OpenSpec.upto farmJoinedSpec)

/-- 'senvylaw08.FarmScaled', WHERE WHAT IT READS IS OF BULK AT MOST 1048576: true; the input reads as it did. -/
def farmScaledUptoRow : OpenClaim := { program := "ytcjabkbjedcglaa", sum := "6ff6e55a979283dcbbb76528fa333aba833b9079da0efaa738054aade0f64ce8", func := "senvy/senvylaw08.FarmScaled", spec := "farmScaled", unfollowed := true, recurses := true, plainKeys := false, apart := false, narrowed := true }
def FarmScaledUptoSaid : Prop := farmScaledUptoRow.holds Try.pinned (OpenSpec.upto farmScaledSpec)

/-- 'senvylaw08.FarmMore', WHERE WHAT IT READS IS OF BULK AT MOST 1048576: true; the input reads as it did. -/
def farmMoreUptoRow : OpenClaim := { program := "ytcjabkbjedcglaa", sum := "6ff6e55a979283dcbbb76528fa333aba833b9079da0efaa738054aade0f64ce8", func := "senvy/senvylaw08.FarmMore", spec := "farmMore", unfollowed := true, recurses := true, plainKeys := false, apart := false, narrowed := true }
def FarmMoreUptoSaid : Prop := farmMoreUptoRow.holds Try.pinned (OpenSpec.upto farmMoreSpec)

/-- 'senvylaw08.FarmTrue', WHERE WHAT IT READS IS OF BULK AT MOST 1048576: true; the input reads as it did. -/
def farmTrueUptoRow : OpenClaim := { program := "ytcjabkbjedcglaa", sum := "6ff6e55a979283dcbbb76528fa333aba833b9079da0efaa738054aade0f64ce8", func := "senvy/senvylaw08.FarmTrue", spec := "farmTrue", unfollowed := true, recurses := true, plainKeys := false, apart := false, narrowed := true }
def FarmTrueUptoSaid : Prop := farmTrueUptoRow.holds Try.pinned (OpenSpec.upto farmTrueSpec)

/-- 'senvylaw08.FarmAlike', WHERE WHAT IT READS IS OF BULK AT MOST 1048576: true; the input reads as it did. -/
def farmAlikeUptoRow : OpenClaim := { program := "ytcjabkbjedcglaa", sum := "6ff6e55a979283dcbbb76528fa333aba833b9079da0efaa738054aade0f64ce8", func := "senvy/senvylaw08.FarmAlike", spec := "farmAlike", unfollowed := true, recurses := true, plainKeys := false, apart := false, narrowed := true }
def FarmAlikeUptoSaid : Prop := farmAlikeUptoRow.holds Try.pinned (OpenSpec.upto farmAlikeSpec)

/-- 'senvylaw08.FarmKnown', WHERE WHAT IT READS IS OF BULK AT MOST 1048576: true; the input reads as it did. -/
def farmKnownUptoRow : OpenClaim := { program := "ytcjabkbjedcglaa", sum := "6ff6e55a979283dcbbb76528fa333aba833b9079da0efaa738054aade0f64ce8", func := "senvy/senvylaw08.FarmKnown", spec := "farmKnown", unfollowed := true, recurses := true, plainKeys := false, apart := false, narrowed := true }
def FarmKnownUptoSaid : Prop := farmKnownUptoRow.holds Try.pinned (OpenSpec.upto farmKnownSpec)

end Rows
end Go.Proofs.Ytcjabkbjedcglaa

/-
  No cell of these rows narrows 'for every input' (looked for: loops, veiled, ifaces, maps, wideKeys, modest, calm, conditions, laid).
  DERIVED. THE GIVEN ROWS OF THIS SEAT. 8 by the template 'for every input the law returns true; each argument reads behind the call as it read before'; 0 by the template 'total and deterministic' (their statements: YtondgnghncpbeaaTotals.lean).
  GIVEN WITH THE SEED: the statements are not yours to turn. If you find one false, say at which input.
  Laid BY PROGRAM, IN A SANDBOX (cutbox-rows.mjs): the forced cells as the released guide's own fill.sh prints them over the translation be86230f013bdc04… (all of the seat's roots in one cut). By AI agents, Wed Nov 11 2026. No macro, syntax, notation, axiom, sorry.
-/
import Derived.Test.YtondgnghncpbeaaChecked
import GoSem.Claim
import GoSem.ClaimJoined
import GoSem.ClaimMapViews
import Derived.JoinedTies
import Derived.KernelRfl
namespace Go.Proofs.Ytondgnghncpbeaa
/- THE CELL 'sum', in the pinned program and in every row, IS THE sha256 OF THE DUMP (.gsa) THAT YtondgnghncpbeaaProg.lean LOADS. Nothing in Lean hashes anything: it is a label: what it is worth is what the hold of that sum in a sandbox is worth. -/
noncomputable def Try.pinned : Pinned := { name := "ytondgnghncpbeaa", sum := "be86230f013bdc048a200eb274c19dcc7b2fa7088983b174d08e295886bb1f03", checked := Try.checked }
namespace Rows
def none {H : Type} : Left H := { results := [], args := [] }

/-- 'senvylaw09.LabelSteps': WHATEVER THE INPUT: true; the input reads as it did. -/
def labelStepsSpec : ChangeSpec := { name := "labelSteps", fn := fun _ => fun
  | [d1, d2, d3, d4] => { results := [.lit (.bool true)], args := [d1, d2, d3, d4] }
  | _ => none }
def labelStepsRow : OpenClaim := { program := "ytondgnghncpbeaa", sum := "be86230f013bdc048a200eb274c19dcc7b2fa7088983b174d08e295886bb1f03", func := "senvy/senvylaw09.LabelSteps", spec := "labelSteps", unfollowed := true, recurses := true, plainKeys := false, apart := false }
def LabelStepsSaid : Prop := labelStepsRow.holds Try.pinned (OpenSpec.ofChange labelStepsSpec)

/-- ITS FALSE NEIGHBOUR: 'it returns false'. Refute it at one input. -/
def labelStepsWrong : ChangeSpec := { name := "labelSteps", fn := fun _ => fun
  | [d1, d2, d3, d4] => { results := [.lit (.bool false)], args := [d1, d2, d3, d4] }
  | _ => none }
def LabelStepsWrongFalsely : Prop := labelStepsRow.holds Try.pinned (OpenSpec.ofChange labelStepsWrong)

/-- 'senvylaw09.LabelMore': WHATEVER THE INPUT: true; the input reads as it did. -/
def labelMoreSpec : ChangeSpec := { name := "labelMore", fn := fun _ => fun
  | [d1, d2, d3, d4] => { results := [.lit (.bool true)], args := [d1, d2, d3, d4] }
  | _ => none }
def labelMoreRow : OpenClaim := { program := "ytondgnghncpbeaa", sum := "be86230f013bdc048a200eb274c19dcc7b2fa7088983b174d08e295886bb1f03", func := "senvy/senvylaw09.LabelMore", spec := "labelMore", unfollowed := true, recurses := true, plainKeys := false, apart := false }
def LabelMoreSaid : Prop := labelMoreRow.holds Try.pinned (OpenSpec.ofChange labelMoreSpec)

/-- ITS FALSE NEIGHBOUR: 'it returns false'. Refute it at one input. -/
def labelMoreWrong : ChangeSpec := { name := "labelMore", fn := fun _ => fun
  | [d1, d2, d3, d4] => { results := [.lit (.bool false)], args := [d1, d2, d3, d4] }
  | _ => none }
def LabelMoreWrongFalsely : Prop := labelMoreRow.holds Try.pinned (OpenSpec.ofChange labelMoreWrong)

/-- 'senvylaw09.LabelReason': WHATEVER THE INPUT: true; the input reads as it did. -/
def labelReasonSpec : ChangeSpec := { name := "labelReason", fn := fun _ => fun
  | [d1, d2, d3, d4] => { results := [.lit (.bool true)], args := [d1, d2, d3, d4] }
  | _ => none }
def labelReasonRow : OpenClaim := { program := "ytondgnghncpbeaa", sum := "be86230f013bdc048a200eb274c19dcc7b2fa7088983b174d08e295886bb1f03", func := "senvy/senvylaw09.LabelReason", spec := "labelReason", unfollowed := true, recurses := true, plainKeys := false, apart := false }
def LabelReasonSaid : Prop := labelReasonRow.holds Try.pinned (OpenSpec.ofChange labelReasonSpec)

/-- ITS FALSE NEIGHBOUR: 'it returns false'. Refute it at one input. -/
def labelReasonWrong : ChangeSpec := { name := "labelReason", fn := fun _ => fun
  | [d1, d2, d3, d4] => { results := [.lit (.bool false)], args := [d1, d2, d3, d4] }
  | _ => none }
def LabelReasonWrongFalsely : Prop := labelReasonRow.holds Try.pinned (OpenSpec.ofChange labelReasonWrong)

/-- 'senvylaw09.LabelKeys': WHATEVER THE INPUT: true; the input reads as it did. -/
def labelKeysSpec : ChangeSpec := { name := "labelKeys", fn := fun _ => fun
  | [d1, d2, d3] => { results := [.lit (.bool true)], args := [d1, d2, d3] }
  | _ => none }
def labelKeysRow : OpenClaim := { program := "ytondgnghncpbeaa", sum := "be86230f013bdc048a200eb274c19dcc7b2fa7088983b174d08e295886bb1f03", func := "senvy/senvylaw09.LabelKeys", spec := "labelKeys", unfollowed := true, recurses := true, plainKeys := false, apart := false }
def LabelKeysSaid : Prop := labelKeysRow.holds Try.pinned (OpenSpec.ofChange labelKeysSpec)

/-- ITS FALSE NEIGHBOUR: 'it returns false'. Refute it at one input. -/
def labelKeysWrong : ChangeSpec := { name := "labelKeys", fn := fun _ => fun
  | [d1, d2, d3] => { results := [.lit (.bool false)], args := [d1, d2, d3] }
  | _ => none }
def LabelKeysWrongFalsely : Prop := labelKeysRow.holds Try.pinned (OpenSpec.ofChange labelKeysWrong)

/-- 'senvylaw09.LabelTaken': WHATEVER THE INPUT: true; the input reads as it did. -/
def labelTakenSpec : ChangeSpec := { name := "labelTaken", fn := fun _ => fun
  | [d1, d2, d3, d4] => { results := [.lit (.bool true)], args := [d1, d2, d3, d4] }
  | _ => none }
def labelTakenRow : OpenClaim := { program := "ytondgnghncpbeaa", sum := "be86230f013bdc048a200eb274c19dcc7b2fa7088983b174d08e295886bb1f03", func := "senvy/senvylaw09.LabelTaken", spec := "labelTaken", unfollowed := true, recurses := true, plainKeys := false, apart := false }
def LabelTakenSaid : Prop := labelTakenRow.holds Try.pinned (OpenSpec.ofChange labelTakenSpec)

/-- ITS FALSE NEIGHBOUR: 'it returns false'. Refute it at one input. -/
def labelTakenWrong : ChangeSpec := { name := "labelTaken", fn := fun _ => fun
  | [d1, d2, d3, d4] => { results := [.lit (.bool false)], args := [d1, d2, d3, d4] }
  | _ => none }
def LabelTakenWrongFalsely : Prop := labelTakenRow.holds Try.pinned (OpenSpec.ofChange labelTakenWrong)

/-- 'senvylaw09.LabelIdle': WHATEVER THE INPUT: true; the input reads as it did. -/
def labelIdleSpec : ChangeSpec := { name := "labelIdle", fn := fun _ => fun
  | [d1, d2, d3] => { results := [.lit (.bool true)], args := [d1, d2, d3] }
  | _ => none }
def labelIdleRow : OpenClaim := { program := "ytondgnghncpbeaa", sum := "be86230f013bdc048a200eb274c19dcc7b2fa7088983b174d08e295886bb1f03", func := "senvy/senvylaw09.LabelIdle", spec := "labelIdle", unfollowed := true, recurses := true, plainKeys := false, apart := false }
def LabelIdleSaid : Prop := labelIdleRow.holds Try.pinned (OpenSpec.ofChange labelIdleSpec)

/-- ITS FALSE NEIGHBOUR: 'it returns false'. Refute it at one input. -/
def labelIdleWrong : ChangeSpec := { name := "labelIdle", fn := fun _ => fun
  | [d1, d2, d3] => { results := [.lit (.bool false)], args := [d1, d2, d3] }
  | _ => none }
def LabelIdleWrongFalsely : Prop := labelIdleRow.holds Try.pinned (OpenSpec.ofChange labelIdleWrong)

/-- 'senvylaw09.LabelTurned': WHATEVER THE INPUT: true; the input reads as it did. -/
def labelTurnedSpec : ChangeSpec := { name := "labelTurned", fn := fun _ => fun
  | [d1, d2, d3, d4] => { results := [.lit (.bool true)], args := [d1, d2, d3, d4] }
  | _ => none }
def labelTurnedRow : OpenClaim := { program := "ytondgnghncpbeaa", sum := "be86230f013bdc048a200eb274c19dcc7b2fa7088983b174d08e295886bb1f03", func := "senvy/senvylaw09.LabelTurned", spec := "labelTurned", unfollowed := true, recurses := true, plainKeys := false, apart := false }
def LabelTurnedSaid : Prop := labelTurnedRow.holds Try.pinned (OpenSpec.ofChange labelTurnedSpec)

/-- ITS FALSE NEIGHBOUR: 'it returns false'. Refute it at one input. -/
def labelTurnedWrong : ChangeSpec := { name := "labelTurned", fn := fun _ => fun
  | [d1, d2, d3, d4] => { results := [.lit (.bool false)], args := [d1, d2, d3, d4] }
  | _ => none }
def LabelTurnedWrongFalsely : Prop := labelTurnedRow.holds Try.pinned (OpenSpec.ofChange labelTurnedWrong)

/-- 'senvylaw09.LabelKnown': WHATEVER THE INPUT: true; the input reads as it did. -/
def labelKnownSpec : ChangeSpec := { name := "labelKnown", fn := fun _ => fun
  | [] => { results := [.lit (.bool true)], args := [] }
  | _ => none }
def labelKnownRow : OpenClaim := { program := "ytondgnghncpbeaa", sum := "be86230f013bdc048a200eb274c19dcc7b2fa7088983b174d08e295886bb1f03", func := "senvy/senvylaw09.LabelKnown", spec := "labelKnown", unfollowed := true, recurses := true, plainKeys := false, apart := false }
def LabelKnownSaid : Prop := labelKnownRow.holds Try.pinned (OpenSpec.ofChange labelKnownSpec)

/-- ITS FALSE NEIGHBOUR: 'it returns false'. Refute it at one input. -/
def labelKnownWrong : ChangeSpec := { name := "labelKnown", fn := fun _ => fun
  | [] => { results := [.lit (.bool false)], args := [] }
  | _ => none }
def LabelKnownWrongFalsely : Prop := labelKnownRow.holds Try.pinned (OpenSpec.ofChange labelKnownWrong)

/- THE SECOND FORM. 'bulk': how many values and letters a reading holds, each counted each time it is reached (what is shared counts as often as it is met; a slice's spare places count too). A statement '..UptoSaid' is the law's where the arguments, and the package variables that the reading takes, are together of bulk at most 1048576: NARROWER than '..Said'. Prove '..Said' where nothing that the law and all that it calls make is longer than what came in: it says more and counts as full. Else prove '..UptoSaid'. A law counts once. -/
mutual
def uptoBulk {H : Type} : DataW H → Nat
  | .lit (.string bytes) => bytes.length + 1
  | .lit _ => 1
  | .nil => 1
  | .ptr d => uptoBulk d + 1
  | .slice elems spare => uptoBulkAll elems + uptoBulkAll spare + 1
  | .agg parts => uptoBulkAll parts + 1
  | .iface _ d => uptoBulk d + 1
  | .map entries => uptoBulkEntries entries + 1
  | .held _ => 1
def uptoBulkAll {H : Type} : List (DataW H) → Nat
  | [] => 0
  | d :: r => uptoBulk d + uptoBulkAll r
def uptoBulkEntries {H : Type} : List (Lit × DataW H) → Nat
  | [] => 0
  | x :: r => uptoBulkEntry x + uptoBulkEntries r
def uptoBulkEntry {H : Type} : Lit × DataW H → Nat
  | (.string bytes, d) => bytes.length + uptoBulk d + 1
  | (_, d) => uptoBulk d + 1
 end
def uptoSmall : (H : Type) → List (DataW H) → Bool := fun _ ds => decide (uptoBulkAll ds ≤ 1048576)
def OpenSpec.upto (s : _root_.Go.ChangeSpec) : _root_.Go.OpenSpec := { _root_.Go.OpenSpec.ofChange s with cond := some uptoSmall }

/-- 'senvylaw09.LabelSteps', WHERE WHAT IT READS IS OF BULK AT MOST 1048576: true; the input reads as it did. -/
def labelStepsUptoRow : OpenClaim := { program := "ytondgnghncpbeaa", sum := "be86230f013bdc048a200eb274c19dcc7b2fa7088983b174d08e295886bb1f03", func := "senvy/senvylaw09.LabelSteps", spec := "labelSteps", unfollowed := true, recurses := true, plainKeys := false, apart := false, narrowed := true }
def LabelStepsUptoSaid : Prop := labelStepsUptoRow.holds Try.pinned (OpenSpec.upto labelStepsSpec)

/-- 'senvylaw09.LabelMore', WHERE WHAT IT READS IS OF BULK AT MOST 1048576: true; the input reads as it did. -/
def labelMoreUptoRow : OpenClaim := { program := "ytondgnghncpbeaa", sum := "be86230f013bdc048a200eb274c19dcc7b2fa7088983b174d08e295886bb1f03", func := "senvy/senvylaw09.LabelMore", spec := "labelMore", unfollowed := true, recurses := true, plainKeys := false, apart := false, narrowed := true }
def LabelMoreUptoSaid : Prop := labelMoreUptoRow.holds Try.pinned (OpenSpec.upto labelMoreSpec)

/-- 'senvylaw09.LabelReason', WHERE WHAT IT READS IS OF BULK AT MOST 1048576: true; the input reads as it did. -/
def labelReasonUptoRow : OpenClaim := { program := "ytondgnghncpbeaa", sum := "be86230f013bdc048a200eb274c19dcc7b2fa7088983b174d08e295886bb1f03", func := "senvy/senvylaw09.LabelReason", spec := "labelReason", unfollowed := true, recurses := true, plainKeys := false, apart := false, narrowed := true }
def LabelReasonUptoSaid : Prop := labelReasonUptoRow.holds Try.pinned (OpenSpec.upto labelReasonSpec)

/-- 'senvylaw09.LabelKeys', WHERE WHAT IT READS IS OF BULK AT MOST 1048576: true; the input reads as it did. -/
def labelKeysUptoRow : OpenClaim := { program := "ytondgnghncpbeaa", sum := "be86230f013bdc048a200eb274c19dcc7b2fa7088983b174d08e295886bb1f03", func := "senvy/senvylaw09.LabelKeys", spec := "labelKeys", unfollowed := true, recurses := true, plainKeys := false, apart := false, narrowed := true }
def LabelKeysUptoSaid : Prop := labelKeysUptoRow.holds Try.pinned (OpenSpec.upto labelKeysSpec)

/-- 'senvylaw09.LabelTaken', WHERE WHAT IT READS IS OF BULK AT MOST 1048576: true; the input reads as it did. -/
def labelTakenUptoRow : OpenClaim := { program := "ytondgnghncpbeaa", sum := "be86230f013bdc048a200eb274c19dcc7b2fa7088983b174d08e295886bb1f03", func := "senvy/senvylaw09.LabelTaken", spec := "labelTaken", unfollowed := true, recurses := true, plainKeys := false, apart := false, narrowed := true }
def LabelTakenUptoSaid : Prop := labelTakenUptoRow.holds Try.pinned (OpenSpec.upto labelTakenSpec)

/-- 'senvylaw09.LabelIdle', WHERE WHAT IT READS IS OF BULK AT MOST 1048576: true; the input reads as it did. -/
def labelIdleUptoRow : OpenClaim := { program := "ytondgnghncpbeaa", sum := "be86230f013bdc048a200eb274c19dcc7b2fa7088983b174d08e295886bb1f03", func := "senvy/senvylaw09.LabelIdle", spec := "labelIdle", unfollowed := true, recurses := true, plainKeys := false, apart := false, narrowed := true }
def LabelIdleUptoSaid : Prop := labelIdleUptoRow.holds Try.pinned (OpenSpec.upto labelIdleSpec)

/-- 'senvylaw09.LabelTurned', WHERE WHAT IT READS IS OF BULK AT MOST 1048576: true; the input reads as it did. -/
def labelTurnedUptoRow : OpenClaim := { program := "ytondgnghncpbeaa", sum := "be86230f013bdc048a200eb274c19dcc7b2fa7088983b174d08e295886bb1f03", func := "senvy/senvylaw09.LabelTurned", spec := "labelTurned", unfollowed := true, recurses := true, plainKeys := false, apart := false, narrowed := true }
def LabelTurnedUptoSaid : Prop := labelTurnedUptoRow.holds Try.pinned (OpenSpec.upto labelTurnedSpec)

/-- 'senvylaw09.LabelKnown', WHERE WHAT IT READS IS OF BULK AT MOST 1048576: true; the input reads as it did. -/
def labelKnownUptoRow : OpenClaim := { program := "ytondgnghncpbeaa", sum := "be86230f013bdc048a200eb274c19dcc7b2fa7088983b174d08e295886bb1f03", func := "senvy/senvylaw09.LabelKnown", spec := "labelKnown", unfollowed := true, recurses := true, plainKeys := false, apart := false, narrowed := true }
def LabelKnownUptoSaid : Prop := labelKnownUptoRow.holds Try.pinned (OpenSpec.upto labelKnownSpec)

end Rows
end Go.Proofs.Ytondgnghncpbeaa

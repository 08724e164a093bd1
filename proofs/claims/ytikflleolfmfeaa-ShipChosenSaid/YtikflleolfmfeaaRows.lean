/-
  No cell of these rows narrows 'for every input' (looked for: loops, veiled, ifaces, maps, wideKeys, modest, calm, conditions, laid).
  DERIVED. THE GIVEN ROWS OF THIS SEAT. 13 by the template 'for every input the law returns true; each argument reads behind the call as it read before'; 0 by the template 'total and deterministic' (their statements: YtikflleolfmfeaaTotals.lean).
  GIVEN WITH THE SEED: the statements are not yours to turn. If you find one false, say at which input.
  Laid BY PROGRAM, IN A SANDBOX (cutbox-rows.mjs): the forced cells as the released guide's own fill.sh prints them over the translation 718e805cc8ae29e9… (all of the seat's roots in one cut). By AI agents, Wed Nov 11 2026. No macro, syntax, notation, axiom, sorry.
-/
import Derived.Test.YtikflleolfmfeaaChecked
import GoSem.Claim
import GoSem.ClaimJoined
import GoSem.ClaimMapViews
import Derived.JoinedTies
import Derived.KernelRfl
namespace Go.Proofs.Ytikflleolfmfeaa
/- THE CELL 'sum', in the pinned program and in every row, IS THE sha256 OF THE DUMP (.gsa) THAT YtikflleolfmfeaaProg.lean LOADS. Nothing in Lean hashes anything: it is a label: what it is worth is what the hold of that sum in a sandbox is worth. -/
noncomputable def Try.pinned : Pinned := { name := "ytikflleolfmfeaa", sum := "718e805cc8ae29e949ae59b007ec1fbbd443e878909079aad0826a2efbcae9a0", checked := Try.checked }
namespace Rows
def none {H : Type} : Left H := { results := [], args := [] }

/-- 'senvylaw07.ShipLoads': WHATEVER THE INPUT: true; the input reads as it did. -/
def shipLoadsSpec : ChangeSpec := { name := "shipLoads", fn := fun _ => fun
  | [d1, d2] => { results := [.lit (.bool true)], args := [d1, d2] }
  | _ => none }
def shipLoadsRow : OpenClaim := { program := "ytikflleolfmfeaa", sum := "718e805cc8ae29e949ae59b007ec1fbbd443e878909079aad0826a2efbcae9a0", func := "senvy/senvylaw07.ShipLoads", spec := "shipLoads", unfollowed := true, recurses := true, plainKeys := false, apart := false }
def ShipLoadsSaid : Prop := shipLoadsRow.holds Try.pinned (OpenSpec.ofChange shipLoadsSpec)

/-- ITS FALSE NEIGHBOUR: 'it returns false'. Refute it at one input. -/
def shipLoadsWrong : ChangeSpec := { name := "shipLoads", fn := fun _ => fun
  | [d1, d2] => { results := [.lit (.bool false)], args := [d1, d2] }
  | _ => none }
def ShipLoadsWrongFalsely : Prop := shipLoadsRow.holds Try.pinned (OpenSpec.ofChange shipLoadsWrong)

/-- 'senvylaw07.ShipFewests': WHATEVER THE INPUT: true; the input reads as it did. -/
def shipFewestsSpec : ChangeSpec := { name := "shipFewests", fn := fun _ => fun
  | [d1, d2] => { results := [.lit (.bool true)], args := [d1, d2] }
  | _ => none }
def shipFewestsRow : OpenClaim := { program := "ytikflleolfmfeaa", sum := "718e805cc8ae29e949ae59b007ec1fbbd443e878909079aad0826a2efbcae9a0", func := "senvy/senvylaw07.ShipFewests", spec := "shipFewests", unfollowed := true, recurses := true, plainKeys := false, apart := false }
def ShipFewestsSaid : Prop := shipFewestsRow.holds Try.pinned (OpenSpec.ofChange shipFewestsSpec)

/-- ITS FALSE NEIGHBOUR: 'it returns false'. Refute it at one input. -/
def shipFewestsWrong : ChangeSpec := { name := "shipFewests", fn := fun _ => fun
  | [d1, d2] => { results := [.lit (.bool false)], args := [d1, d2] }
  | _ => none }
def ShipFewestsWrongFalsely : Prop := shipFewestsRow.holds Try.pinned (OpenSpec.ofChange shipFewestsWrong)

/-- 'senvylaw07.ShipStows': WHATEVER THE INPUT: true; the input reads as it did. -/
def shipStowsSpec : ChangeSpec := { name := "shipStows", fn := fun _ => fun
  | [d1, d2] => { results := [.lit (.bool true)], args := [d1, d2] }
  | _ => none }
def shipStowsRow : OpenClaim := { program := "ytikflleolfmfeaa", sum := "718e805cc8ae29e949ae59b007ec1fbbd443e878909079aad0826a2efbcae9a0", func := "senvy/senvylaw07.ShipStows", spec := "shipStows", unfollowed := true, recurses := true, plainKeys := false, apart := false }
def ShipStowsSaid : Prop := shipStowsRow.holds Try.pinned (OpenSpec.ofChange shipStowsSpec)

/-- ITS FALSE NEIGHBOUR: 'it returns false'. Refute it at one input. -/
def shipStowsWrong : ChangeSpec := { name := "shipStows", fn := fun _ => fun
  | [d1, d2] => { results := [.lit (.bool false)], args := [d1, d2] }
  | _ => none }
def ShipStowsWrongFalsely : Prop := shipStowsRow.holds Try.pinned (OpenSpec.ofChange shipStowsWrong)

/-- 'senvylaw07.ShipLefts': WHATEVER THE INPUT: true; the input reads as it did. -/
def shipLeftsSpec : ChangeSpec := { name := "shipLefts", fn := fun _ => fun
  | [d1, d2] => { results := [.lit (.bool true)], args := [d1, d2] }
  | _ => none }
def shipLeftsRow : OpenClaim := { program := "ytikflleolfmfeaa", sum := "718e805cc8ae29e949ae59b007ec1fbbd443e878909079aad0826a2efbcae9a0", func := "senvy/senvylaw07.ShipLefts", spec := "shipLefts", unfollowed := true, recurses := true, plainKeys := false, apart := false }
def ShipLeftsSaid : Prop := shipLeftsRow.holds Try.pinned (OpenSpec.ofChange shipLeftsSpec)

/-- ITS FALSE NEIGHBOUR: 'it returns false'. Refute it at one input. -/
def shipLeftsWrong : ChangeSpec := { name := "shipLefts", fn := fun _ => fun
  | [d1, d2] => { results := [.lit (.bool false)], args := [d1, d2] }
  | _ => none }
def ShipLeftsWrongFalsely : Prop := shipLeftsRow.holds Try.pinned (OpenSpec.ofChange shipLeftsWrong)

/-- 'senvylaw07.ShipProved': WHATEVER THE INPUT: true; the input reads as it did. -/
def shipProvedSpec : ChangeSpec := { name := "shipProved", fn := fun _ => fun
  | [d1, d2, d3] => { results := [.lit (.bool true)], args := [d1, d2, d3] }
  | _ => none }
def shipProvedRow : OpenClaim := { program := "ytikflleolfmfeaa", sum := "718e805cc8ae29e949ae59b007ec1fbbd443e878909079aad0826a2efbcae9a0", func := "senvy/senvylaw07.ShipProved", spec := "shipProved", unfollowed := true, recurses := true, plainKeys := false, apart := false }
def ShipProvedSaid : Prop := shipProvedRow.holds Try.pinned (OpenSpec.ofChange shipProvedSpec)

/-- ITS FALSE NEIGHBOUR: 'it returns false'. Refute it at one input. -/
def shipProvedWrong : ChangeSpec := { name := "shipProved", fn := fun _ => fun
  | [d1, d2, d3] => { results := [.lit (.bool false)], args := [d1, d2, d3] }
  | _ => none }
def ShipProvedWrongFalsely : Prop := shipProvedRow.holds Try.pinned (OpenSpec.ofChange shipProvedWrong)

/-- 'senvylaw07.ShipFirst': WHATEVER THE INPUT: true; the input reads as it did. -/
def shipFirstSpec : ChangeSpec := { name := "shipFirst", fn := fun _ => fun
  | [d1, d2] => { results := [.lit (.bool true)], args := [d1, d2] }
  | _ => none }
def shipFirstRow : OpenClaim := { program := "ytikflleolfmfeaa", sum := "718e805cc8ae29e949ae59b007ec1fbbd443e878909079aad0826a2efbcae9a0", func := "senvy/senvylaw07.ShipFirst", spec := "shipFirst", unfollowed := true, recurses := true, plainKeys := false, apart := false }
def ShipFirstSaid : Prop := shipFirstRow.holds Try.pinned (OpenSpec.ofChange shipFirstSpec)

/-- ITS FALSE NEIGHBOUR: 'it returns false'. Refute it at one input. -/
def shipFirstWrong : ChangeSpec := { name := "shipFirst", fn := fun _ => fun
  | [d1, d2] => { results := [.lit (.bool false)], args := [d1, d2] }
  | _ => none }
def ShipFirstWrongFalsely : Prop := shipFirstRow.holds Try.pinned (OpenSpec.ofChange shipFirstWrong)

/-- 'senvylaw07.ShipChosen': WHATEVER THE INPUT: true; the input reads as it did. -/
def shipChosenSpec : ChangeSpec := { name := "shipChosen", fn := fun _ => fun
  | [d1, d2] => { results := [.lit (.bool true)], args := [d1, d2] }
  | _ => none }
def shipChosenRow : OpenClaim := { program := "ytikflleolfmfeaa", sum := "718e805cc8ae29e949ae59b007ec1fbbd443e878909079aad0826a2efbcae9a0", func := "senvy/senvylaw07.ShipChosen", spec := "shipChosen", unfollowed := true, recurses := true, plainKeys := false, apart := false }
def ShipChosenSaid : Prop := shipChosenRow.holds Try.pinned (OpenSpec.ofChange shipChosenSpec)

/-- ITS FALSE NEIGHBOUR: 'it returns false'. Refute it at one input. -/
def shipChosenWrong : ChangeSpec := { name := "shipChosen", fn := fun _ => fun
  | [d1, d2] => { results := [.lit (.bool false)], args := [d1, d2] }
  | _ => none }
def ShipChosenWrongFalsely : Prop := shipChosenRow.holds Try.pinned (OpenSpec.ofChange shipChosenWrong)

/-- 'senvylaw07.ShipLeft': WHATEVER THE INPUT: true; the input reads as it did. -/
def shipLeftSpec : ChangeSpec := { name := "shipLeft", fn := fun _ => fun
  | [d1, d2, d3] => { results := [.lit (.bool true)], args := [d1, d2, d3] }
  | _ => none }
def shipLeftRow : OpenClaim := { program := "ytikflleolfmfeaa", sum := "718e805cc8ae29e949ae59b007ec1fbbd443e878909079aad0826a2efbcae9a0", func := "senvy/senvylaw07.ShipLeft", spec := "shipLeft", unfollowed := true, recurses := true, plainKeys := false, apart := false }
def ShipLeftSaid : Prop := shipLeftRow.holds Try.pinned (OpenSpec.ofChange shipLeftSpec)

/-- ITS FALSE NEIGHBOUR: 'it returns false'. Refute it at one input. -/
def shipLeftWrong : ChangeSpec := { name := "shipLeft", fn := fun _ => fun
  | [d1, d2, d3] => { results := [.lit (.bool false)], args := [d1, d2, d3] }
  | _ => none }
def ShipLeftWrongFalsely : Prop := shipLeftRow.holds Try.pinned (OpenSpec.ofChange shipLeftWrong)

/-- 'senvylaw07.ShipOut': WHATEVER THE INPUT: true; the input reads as it did. -/
def shipOutSpec : ChangeSpec := { name := "shipOut", fn := fun _ => fun
  | [d1, d2] => { results := [.lit (.bool true)], args := [d1, d2] }
  | _ => none }
def shipOutRow : OpenClaim := { program := "ytikflleolfmfeaa", sum := "718e805cc8ae29e949ae59b007ec1fbbd443e878909079aad0826a2efbcae9a0", func := "senvy/senvylaw07.ShipOut", spec := "shipOut", unfollowed := true, recurses := true, plainKeys := false, apart := false }
def ShipOutSaid : Prop := shipOutRow.holds Try.pinned (OpenSpec.ofChange shipOutSpec)

/-- ITS FALSE NEIGHBOUR: 'it returns false'. Refute it at one input. -/
def shipOutWrong : ChangeSpec := { name := "shipOut", fn := fun _ => fun
  | [d1, d2] => { results := [.lit (.bool false)], args := [d1, d2] }
  | _ => none }
def ShipOutWrongFalsely : Prop := shipOutRow.holds Try.pinned (OpenSpec.ofChange shipOutWrong)

/-- 'senvylaw07.ShipTurned': WHATEVER THE INPUT: true; the input reads as it did. -/
def shipTurnedSpec : ChangeSpec := { name := "shipTurned", fn := fun _ => fun
  | [d] => { results := [.lit (.bool true)], args := [d] }
  | _ => none }
def shipTurnedRow : OpenClaim := { program := "ytikflleolfmfeaa", sum := "718e805cc8ae29e949ae59b007ec1fbbd443e878909079aad0826a2efbcae9a0", func := "senvy/senvylaw07.ShipTurned", spec := "shipTurned", unfollowed := true, recurses := true, plainKeys := false, apart := false }
def ShipTurnedSaid : Prop := shipTurnedRow.holds Try.pinned (OpenSpec.ofChange shipTurnedSpec)

/-- ITS FALSE NEIGHBOUR: 'it returns false'. Refute it at one input. -/
def shipTurnedWrong : ChangeSpec := { name := "shipTurned", fn := fun _ => fun
  | [d] => { results := [.lit (.bool false)], args := [d] }
  | _ => none }
def ShipTurnedWrongFalsely : Prop := shipTurnedRow.holds Try.pinned (OpenSpec.ofChange shipTurnedWrong)

/-- 'senvylaw07.ShipMore': WHATEVER THE INPUT: true; the input reads as it did. -/
def shipMoreSpec : ChangeSpec := { name := "shipMore", fn := fun _ => fun
  | [d1, d2, d3, d4, d5] => { results := [.lit (.bool true)], args := [d1, d2, d3, d4, d5] }
  | _ => none }
def shipMoreRow : OpenClaim := { program := "ytikflleolfmfeaa", sum := "718e805cc8ae29e949ae59b007ec1fbbd443e878909079aad0826a2efbcae9a0", func := "senvy/senvylaw07.ShipMore", spec := "shipMore", unfollowed := true, recurses := true, plainKeys := false, apart := false }
def ShipMoreSaid : Prop := shipMoreRow.holds Try.pinned (OpenSpec.ofChange shipMoreSpec)

/-- ITS FALSE NEIGHBOUR: 'it returns false'. Refute it at one input. -/
def shipMoreWrong : ChangeSpec := { name := "shipMore", fn := fun _ => fun
  | [d1, d2, d3, d4, d5] => { results := [.lit (.bool false)], args := [d1, d2, d3, d4, d5] }
  | _ => none }
def ShipMoreWrongFalsely : Prop := shipMoreRow.holds Try.pinned (OpenSpec.ofChange shipMoreWrong)

/-- 'senvylaw07.ShipTwo': WHATEVER THE INPUT: true; the input reads as it did. -/
def shipTwoSpec : ChangeSpec := { name := "shipTwo", fn := fun _ => fun
  | [d1, d2] => { results := [.lit (.bool true)], args := [d1, d2] }
  | _ => none }
def shipTwoRow : OpenClaim := { program := "ytikflleolfmfeaa", sum := "718e805cc8ae29e949ae59b007ec1fbbd443e878909079aad0826a2efbcae9a0", func := "senvy/senvylaw07.ShipTwo", spec := "shipTwo", unfollowed := true, recurses := true, plainKeys := false, apart := false }
def ShipTwoSaid : Prop := shipTwoRow.holds Try.pinned (OpenSpec.ofChange shipTwoSpec)

/-- ITS FALSE NEIGHBOUR: 'it returns false'. Refute it at one input. -/
def shipTwoWrong : ChangeSpec := { name := "shipTwo", fn := fun _ => fun
  | [d1, d2] => { results := [.lit (.bool false)], args := [d1, d2] }
  | _ => none }
def ShipTwoWrongFalsely : Prop := shipTwoRow.holds Try.pinned (OpenSpec.ofChange shipTwoWrong)

/-- 'senvylaw07.ShipKnown': WHATEVER THE INPUT: true; the input reads as it did. -/
def shipKnownSpec : ChangeSpec := { name := "shipKnown", fn := fun _ => fun
  | [] => { results := [.lit (.bool true)], args := [] }
  | _ => none }
def shipKnownRow : OpenClaim := { program := "ytikflleolfmfeaa", sum := "718e805cc8ae29e949ae59b007ec1fbbd443e878909079aad0826a2efbcae9a0", func := "senvy/senvylaw07.ShipKnown", spec := "shipKnown", unfollowed := true, recurses := true, plainKeys := false, apart := false }
def ShipKnownSaid : Prop := shipKnownRow.holds Try.pinned (OpenSpec.ofChange shipKnownSpec)

/-- ITS FALSE NEIGHBOUR: 'it returns false'. Refute it at one input. -/
def shipKnownWrong : ChangeSpec := { name := "shipKnown", fn := fun _ => fun
  | [] => { results := [.lit (.bool false)], args := [] }
  | _ => none }
def ShipKnownWrongFalsely : Prop := shipKnownRow.holds Try.pinned (OpenSpec.ofChange shipKnownWrong)

/- THE SECOND FORM. 'bulk': how many values and letters a reading holds, each counted each time it is reached (what is shared counts as often as it is met; a slice's spare places count too). A statement '..UptoSaid' is the law's where the arguments, and the package variables that the reading takes, are together of bulk at most 1048576: NARROWER than '..Said'. Prove '..Said' where nothing that the law and all that it calls make is longer than what came in: it says more and counts as full. Else prove '..UptoSaid'. A law counts once. -/
mutual
def uptoBulk {H : Type} : DataW H → Nat
  | .lit (.string bytes) => bytes.length + 1
  | .lit _ => 1
  | .nil => 1
  | .ptr d => uptoBulk d + 1
  | .slice elems spare => uptoBulkAll elems + uptoBulkAll spare + 1
  | .agg parts => uptoBulkAll parts + 1
  | .iface _ d => uptoBulk d + 1
  | .map entries => uptoBulkEntries entries + 1
  | .held _ => 1
def uptoBulkAll {H : Type} : List (DataW H) → Nat
  | [] => 0
  | d :: r => uptoBulk d + uptoBulkAll r
def uptoBulkEntries {H : Type} : List (Lit × DataW H) → Nat
  | [] => 0
  | x :: r => uptoBulkEntry x + uptoBulkEntries r
def uptoBulkEntry {H : Type} : Lit × DataW H → Nat
  | (.string bytes, d) => bytes.length + uptoBulk d + 1
  | (_, d) => uptoBulk d + 1
 end
def uptoSmall : (H : Type) → List (DataW H) → Bool := fun _ ds => decide (uptoBulkAll ds ≤ 1048576)
def OpenSpec.upto (s : _root_.Go.ChangeSpec) : _root_.Go.OpenSpec := { _root_.Go.OpenSpec.ofChange s with cond := some uptoSmall }

/-- 'senvylaw07.ShipLoads', WHERE WHAT IT READS IS OF BULK AT MOST 1048576: true; the input reads as it did. -/
def shipLoadsUptoRow : OpenClaim := { program := "ytikflleolfmfeaa", sum := "718e805cc8ae29e949ae59b007ec1fbbd443e878909079aad0826a2efbcae9a0", func := "senvy/senvylaw07.ShipLoads", spec := "shipLoads", unfollowed := true, recurses := true, plainKeys := false, apart := false, narrowed := true }
def ShipLoadsUptoSaid : Prop := shipLoadsUptoRow.holds Try.pinned (OpenSpec.upto shipLoadsSpec)

/-- 'senvylaw07.ShipFewests', WHERE WHAT IT READS IS OF BULK AT MOST 1048576: true; the input reads as it did. -/
def shipFewestsUptoRow : OpenClaim := { program := "ytikflleolfmfeaa", sum := "718e805cc8ae29e949ae59b007ec1fbbd443e878909079aad0826a2efbcae9a0", func := "senvy/senvylaw07.ShipFewests", spec := "shipFewests", unfollowed := true, recurses := true, plainKeys := false, apart := false, narrowed := true }
def ShipFewestsUptoSaid : Prop := shipFewestsUptoRow.holds Try.pinned (OpenSpec.upto shipFewestsSpec)

/-- 'senvylaw07.ShipStows', WHERE WHAT IT READS IS OF BULK AT MOST 1048576: true; the input reads as it did. -/
def shipStowsUptoRow : OpenClaim := { program := "ytikflleolfmfeaa", sum := "718e805cc8ae29e949ae59b007ec1fbbd443e878909079aad0826a2efbcae9a0", func := "senvy/senvylaw07.ShipStows", spec := "shipStows", unfollowed := true, recurses := true, plainKeys := false, apart := false, narrowed := true }
def ShipStowsUptoSaid : Prop := shipStowsUptoRow.holds Try.pinned (OpenSpec.upto shipStowsSpec)

/-- 'senvylaw07.ShipLefts', WHERE WHAT IT READS IS OF BULK AT MOST 1048576: true; the input reads as it did. -/
def shipLeftsUptoRow : OpenClaim := { program := "ytikflleolfmfeaa", sum := "718e805cc8ae29e949ae59b007ec1fbbd443e878909079aad0826a2efbcae9a0", func := "senvy/senvylaw07.ShipLefts", spec := "shipLefts", unfollowed := true, recurses := true, plainKeys := false, apart := false, narrowed := true }
def ShipLeftsUptoSaid : Prop := shipLeftsUptoRow.holds Try.pinned (OpenSpec.upto shipLeftsSpec)

/-- 'senvylaw07.ShipProved', WHERE WHAT IT READS IS OF BULK AT MOST 1048576: true; the input reads as it did. -/
def shipProvedUptoRow : OpenClaim := { program := "ytikflleolfmfeaa", sum := "718e805cc8ae29e949ae59b007ec1fbbd443e878909079aad0826a2efbcae9a0", func := "senvy/senvylaw07.ShipProved", spec := "shipProved", unfollowed := true, recurses := true, plainKeys := false, apart := false, narrowed := true }
def ShipProvedUptoSaid : Prop := shipProvedUptoRow.holds Try.pinned (OpenSpec.upto shipProvedSpec)

/-- 'senvylaw07.ShipFirst', WHERE WHAT IT READS IS OF BULK AT MOST 1048576: true; the input reads as it did. -/
def shipFirstUptoRow : OpenClaim := { program := "ytikflleolfmfeaa", sum := "718e805cc8ae29e949ae59b007ec1fbbd443e878909079aad0826a2efbcae9a0", func := "senvy/senvylaw07.ShipFirst", spec := "shipFirst", unfollowed := true, recurses := true, plainKeys := false, apart := false, narrowed := true }
def ShipFirstUptoSaid : Prop := shipFirstUptoRow.holds Try.pinned (OpenSpec.upto shipFirstSpec)

/-- 'senvylaw07.ShipChosen', WHERE WHAT IT READS IS OF BULK AT MOST 1048576: true; the input reads as it did. -/
def shipChosenUptoRow : OpenClaim := { program := "ytikflleolfmfeaa", sum := "718e805cc8ae29e949ae59b007ec1fbbd443e878909079aad0826a2efbcae9a0", func := "senvy/senvylaw07.ShipChosen", spec := "shipChosen", unfollowed := true, recurses := true, plainKeys := false, apart := false, narrowed := true }
def ShipChosenUptoSaid : Prop := shipChosenUptoRow.holds Try.pinned (OpenSpec.upto shipChosenSpec)

/-- 'senvylaw07.ShipLeft', WHERE WHAT IT READS IS OF BULK AT MOST 1048576: true; the input reads as it did. -/
def shipLeftUptoRow : OpenClaim := { program := "ytikflleolfmfeaa", sum := "718e805cc8ae29e949ae59b007ec1fbbd443e878909079aad0826a2efbcae9a0", func := "senvy/senvylaw07.ShipLeft", spec := "shipLeft", unfollowed := true, recurses := true, plainKeys := false, apart := false, narrowed := true }
def ShipLeftUptoSaid : Prop := shipLeftUptoRow.holds Try.pinned (OpenSpec.upto shipLeftSpec)

/-- 'senvylaw07.ShipOut', WHERE WHAT IT READS IS OF BULK AT MOST 1048576: true; the input reads as it did. -/
def shipOutUptoRow : OpenClaim := { program := "ytikflleolfmfeaa", sum := "718e805cc8ae29e949ae59b007ec1fbbd443e878909079aad0826a2efbcae9a0", func := "senvy/senvylaw07.ShipOut", spec := "shipOut", unfollowed := true, recurses := true, plainKeys := false, apart := false, narrowed := true }
def ShipOutUptoSaid : Prop := shipOutUptoRow.holds Try.pinned (OpenSpec.upto shipOutSpec)

/-- 'senvylaw07.ShipTurned', WHERE WHAT IT READS IS OF BULK AT MOST 1048576: true; the input reads as it did. -/
def shipTurnedUptoRow : OpenClaim := { program := "ytikflleolfmfeaa", sum := "718e805cc8ae29e949ae59b007ec1fbbd443e878909079aad0826a2efbcae9a0", func := "senvy/senvylaw07.ShipTurned", spec := "shipTurned", unfollowed := true, recurses := true, plainKeys := false, apart := false, narrowed := true }
def ShipTurnedUptoSaid : Prop := shipTurnedUptoRow.holds Try.pinned (OpenSpec.upto shipTurnedSpec)

/-- 'senvylaw07.ShipMore', WHERE WHAT IT READS IS OF BULK AT MOST 1048576: true; the input reads as it did. -/
def shipMoreUptoRow : OpenClaim := { program := "ytikflleolfmfeaa", sum := "718e805cc8ae29e949ae59b007ec1fbbd443e878909079aad0826a2efbcae9a0", func := "senvy/senvylaw07.ShipMore", spec := "shipMore", unfollowed := true, recurses := true, plainKeys := false, apart := false, narrowed := true }
def ShipMoreUptoSaid : Prop := shipMoreUptoRow.holds Try.pinned (OpenSpec.upto shipMoreSpec)

/-- 'senvylaw07.ShipTwo', WHERE WHAT IT READS IS OF BULK AT MOST 1048576: true; the input reads as it did. -/
def shipTwoUptoRow : OpenClaim := { program := "ytikflleolfmfeaa", sum := "718e805cc8ae29e949ae59b007ec1fbbd443e878909079aad0826a2efbcae9a0", func := "senvy/senvylaw07.ShipTwo", spec := "shipTwo", unfollowed := true, recurses := true, plainKeys := false, apart := false, narrowed := true }
def ShipTwoUptoSaid : Prop := shipTwoUptoRow.holds Try.pinned (OpenSpec.upto shipTwoSpec)

/-- 'senvylaw07.ShipKnown', WHERE WHAT IT READS IS OF BULK AT MOST 1048576: true; the input reads as it did. -/
def shipKnownUptoRow : OpenClaim := { program := "ytikflleolfmfeaa", sum := "718e805cc8ae29e949ae59b007ec1fbbd443e878909079aad0826a2efbcae9a0", func := "senvy/senvylaw07.ShipKnown", spec := "shipKnown", unfollowed := true, recurses := true, plainKeys := false, apart := false, narrowed := true }
def ShipKnownUptoSaid : Prop := shipKnownUptoRow.holds Try.pinned (OpenSpec.upto shipKnownSpec)

end Rows
end Go.Proofs.Ytikflleolfmfeaa

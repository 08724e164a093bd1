/-
  No cell of these rows narrows 'for every input' (looked for: loops, veiled, ifaces, maps, wideKeys, modest, calm, conditions, laid).
  DERIVED. THE GIVEN ROWS OF THIS SEAT. 12 by the template 'for every input the law returns true; each argument reads behind the call as it read before'; 0 by the template 'total and deterministic' (their statements: YtpeplcbngnedbaaTotals.lean).
  GIVEN WITH THE SEED: the statements are not yours to turn. If you find one false, say at which input.
  Laid BY PROGRAM, IN A SANDBOX (cutbox-rows.mjs): the forced cells as the released guide's own fill.sh prints them over the translation 8b69c8c02a57b9f6… (all of the seat's roots in one cut). By AI agents, Wed Nov 11 2026. No macro, syntax, notation, axiom, sorry.
-/
import Derived.Test.YtpeplcbngnedbaaChecked
import GoSem.Claim
import GoSem.ClaimJoined
import GoSem.ClaimMapViews
import Derived.JoinedTies
import Derived.KernelRfl
namespace Go.Proofs.Ytpeplcbngnedbaa
/- THE CELL 'sum', in the pinned program and in every row, IS THE sha256 OF THE DUMP (.gsa) THAT YtpeplcbngnedbaaProg.lean LOADS. Nothing in Lean hashes anything: it is a label: what it is worth is what the hold of that sum in a sandbox is worth. -/
noncomputable def Try.pinned : Pinned := { name := "ytpeplcbngnedbaa", sum := "8b69c8c02a57b9f6ab8b31f59d3dff0b5ef4b34be9b4d9f2b4bb4cdb8ac36b9a", checked := Try.checked }
namespace Rows
def none {H : Type} : Left H := { results := [], args := [] }

/-- 'senvylaw11.KingShelves': WHATEVER THE INPUT: true; the input reads as it did. -/
def kingShelvesSpec : ChangeSpec := { name := "kingShelves", fn := fun _ => fun
  | [d1, d2, d3] => { results := [.lit (.bool true)], args := [d1, d2, d3] }
  | _ => none }
def kingShelvesRow : OpenClaim := { program := "ytpeplcbngnedbaa", sum := "8b69c8c02a57b9f6ab8b31f59d3dff0b5ef4b34be9b4d9f2b4bb4cdb8ac36b9a", func := "senvy/senvylaw11.KingShelves", spec := "kingShelves", unfollowed := true, recurses := true, plainKeys := false, apart := false }
def KingShelvesSaid : Prop := kingShelvesRow.holds Try.pinned (OpenSpec.ofChange kingShelvesSpec)

/-- ITS FALSE NEIGHBOUR: 'it returns false'. Refute it at one input. -/
def kingShelvesWrong : ChangeSpec := { name := "kingShelves", fn := fun _ => fun
  | [d1, d2, d3] => { results := [.lit (.bool false)], args := [d1, d2, d3] }
  | _ => none }
def KingShelvesWrongFalsely : Prop := kingShelvesRow.holds Try.pinned (OpenSpec.ofChange kingShelvesWrong)

/-- 'senvylaw11.KingLists': WHATEVER THE INPUT: true; the input reads as it did. -/
def kingListsSpec : ChangeSpec := { name := "kingLists", fn := fun _ => fun
  | [d] => { results := [.lit (.bool true)], args := [d] }
  | _ => none }
def kingListsRow : OpenClaim := { program := "ytpeplcbngnedbaa", sum := "8b69c8c02a57b9f6ab8b31f59d3dff0b5ef4b34be9b4d9f2b4bb4cdb8ac36b9a", func := "senvy/senvylaw11.KingLists", spec := "kingLists", unfollowed := true, recurses := true, plainKeys := false, apart := false }
def KingListsSaid : Prop := kingListsRow.holds Try.pinned (OpenSpec.ofChange kingListsSpec)

/-- ITS FALSE NEIGHBOUR: 'it returns false'. Refute it at one input. -/
def kingListsWrong : ChangeSpec := { name := "kingLists", fn := fun _ => fun
  | [d] => { results := [.lit (.bool false)], args := [d] }
  | _ => none }
def KingListsWrongFalsely : Prop := kingListsRow.holds Try.pinned (OpenSpec.ofChange kingListsWrong)

/-- 'senvylaw11.KingLooks': WHATEVER THE INPUT: true; the input reads as it did. -/
def kingLooksSpec : ChangeSpec := { name := "kingLooks", fn := fun _ => fun
  | [d1, d2] => { results := [.lit (.bool true)], args := [d1, d2] }
  | _ => none }
def kingLooksRow : OpenClaim := { program := "ytpeplcbngnedbaa", sum := "8b69c8c02a57b9f6ab8b31f59d3dff0b5ef4b34be9b4d9f2b4bb4cdb8ac36b9a", func := "senvy/senvylaw11.KingLooks", spec := "kingLooks", unfollowed := true, recurses := true, plainKeys := false, apart := false }
def KingLooksSaid : Prop := kingLooksRow.holds Try.pinned (OpenSpec.ofChange kingLooksSpec)

/-- ITS FALSE NEIGHBOUR: 'it returns false'. Refute it at one input. -/
def kingLooksWrong : ChangeSpec := { name := "kingLooks", fn := fun _ => fun
  | [d1, d2] => { results := [.lit (.bool false)], args := [d1, d2] }
  | _ => none }
def KingLooksWrongFalsely : Prop := kingLooksRow.holds Try.pinned (OpenSpec.ofChange kingLooksWrong)

/-- 'senvylaw11.KingTrees': WHATEVER THE INPUT: true; the input reads as it did. -/
def kingTreesSpec : ChangeSpec := { name := "kingTrees", fn := fun _ => fun
  | [d1, d2] => { results := [.lit (.bool true)], args := [d1, d2] }
  | _ => none }
def kingTreesRow : OpenClaim := { program := "ytpeplcbngnedbaa", sum := "8b69c8c02a57b9f6ab8b31f59d3dff0b5ef4b34be9b4d9f2b4bb4cdb8ac36b9a", func := "senvy/senvylaw11.KingTrees", spec := "kingTrees", unfollowed := true, recurses := true, plainKeys := false, apart := false }
def KingTreesSaid : Prop := kingTreesRow.holds Try.pinned (OpenSpec.ofChange kingTreesSpec)

/-- ITS FALSE NEIGHBOUR: 'it returns false'. Refute it at one input. -/
def kingTreesWrong : ChangeSpec := { name := "kingTrees", fn := fun _ => fun
  | [d1, d2] => { results := [.lit (.bool false)], args := [d1, d2] }
  | _ => none }
def KingTreesWrongFalsely : Prop := kingTreesRow.holds Try.pinned (OpenSpec.ofChange kingTreesWrong)

/-- 'senvylaw11.KingProved': WHATEVER THE INPUT: true; the input reads as it did. -/
def kingProvedSpec : ChangeSpec := { name := "kingProved", fn := fun _ => fun
  | [d1, d2] => { results := [.lit (.bool true)], args := [d1, d2] }
  | _ => none }
def kingProvedRow : OpenClaim := { program := "ytpeplcbngnedbaa", sum := "8b69c8c02a57b9f6ab8b31f59d3dff0b5ef4b34be9b4d9f2b4bb4cdb8ac36b9a", func := "senvy/senvylaw11.KingProved", spec := "kingProved", unfollowed := true, recurses := true, plainKeys := false, apart := false }
def KingProvedSaid : Prop := kingProvedRow.holds Try.pinned (OpenSpec.ofChange kingProvedSpec)

/-- ITS FALSE NEIGHBOUR: 'it returns false'. Refute it at one input. -/
def kingProvedWrong : ChangeSpec := { name := "kingProved", fn := fun _ => fun
  | [d1, d2] => { results := [.lit (.bool false)], args := [d1, d2] }
  | _ => none }
def KingProvedWrongFalsely : Prop := kingProvedRow.holds Try.pinned (OpenSpec.ofChange kingProvedWrong)

/-- 'senvylaw11.KingTree': WHATEVER THE INPUT: true; the input reads as it did. -/
def kingTreeSpec : ChangeSpec := { name := "kingTree", fn := fun _ => fun
  | [d1, d2] => { results := [.lit (.bool true)], args := [d1, d2] }
  | _ => none }
def kingTreeRow : OpenClaim := { program := "ytpeplcbngnedbaa", sum := "8b69c8c02a57b9f6ab8b31f59d3dff0b5ef4b34be9b4d9f2b4bb4cdb8ac36b9a", func := "senvy/senvylaw11.KingTree", spec := "kingTree", unfollowed := true, recurses := true, plainKeys := false, apart := false }
def KingTreeSaid : Prop := kingTreeRow.holds Try.pinned (OpenSpec.ofChange kingTreeSpec)

/-- ITS FALSE NEIGHBOUR: 'it returns false'. Refute it at one input. -/
def kingTreeWrong : ChangeSpec := { name := "kingTree", fn := fun _ => fun
  | [d1, d2] => { results := [.lit (.bool false)], args := [d1, d2] }
  | _ => none }
def KingTreeWrongFalsely : Prop := kingTreeRow.holds Try.pinned (OpenSpec.ofChange kingTreeWrong)

/-- 'senvylaw11.KingPlayed': WHATEVER THE INPUT: true; the input reads as it did. -/
def kingPlayedSpec : ChangeSpec := { name := "kingPlayed", fn := fun _ => fun
  | [d1, d2, d3] => { results := [.lit (.bool true)], args := [d1, d2, d3] }
  | _ => none }
def kingPlayedRow : OpenClaim := { program := "ytpeplcbngnedbaa", sum := "8b69c8c02a57b9f6ab8b31f59d3dff0b5ef4b34be9b4d9f2b4bb4cdb8ac36b9a", func := "senvy/senvylaw11.KingPlayed", spec := "kingPlayed", unfollowed := true, recurses := true, plainKeys := false, apart := false }
def KingPlayedSaid : Prop := kingPlayedRow.holds Try.pinned (OpenSpec.ofChange kingPlayedSpec)

/-- ITS FALSE NEIGHBOUR: 'it returns false'. Refute it at one input. -/
def kingPlayedWrong : ChangeSpec := { name := "kingPlayed", fn := fun _ => fun
  | [d1, d2, d3] => { results := [.lit (.bool false)], args := [d1, d2, d3] }
  | _ => none }
def KingPlayedWrongFalsely : Prop := kingPlayedRow.holds Try.pinned (OpenSpec.ofChange kingPlayedWrong)

/-- 'senvylaw11.KingSeen': WHATEVER THE INPUT: true; the input reads as it did. -/
def kingSeenSpec : ChangeSpec := { name := "kingSeen", fn := fun _ => fun
  | [d1, d2, d3, d4] => { results := [.lit (.bool true)], args := [d1, d2, d3, d4] }
  | _ => none }
def kingSeenRow : OpenClaim := { program := "ytpeplcbngnedbaa", sum := "8b69c8c02a57b9f6ab8b31f59d3dff0b5ef4b34be9b4d9f2b4bb4cdb8ac36b9a", func := "senvy/senvylaw11.KingSeen", spec := "kingSeen", unfollowed := true, recurses := true, plainKeys := false, apart := false }
def KingSeenSaid : Prop := kingSeenRow.holds Try.pinned (OpenSpec.ofChange kingSeenSpec)

/-- ITS FALSE NEIGHBOUR: 'it returns false'. Refute it at one input. -/
def kingSeenWrong : ChangeSpec := { name := "kingSeen", fn := fun _ => fun
  | [d1, d2, d3, d4] => { results := [.lit (.bool false)], args := [d1, d2, d3, d4] }
  | _ => none }
def KingSeenWrongFalsely : Prop := kingSeenRow.holds Try.pinned (OpenSpec.ofChange kingSeenWrong)

/-- 'senvylaw11.KingMore': WHATEVER THE INPUT: true; the input reads as it did. -/
def kingMoreSpec : ChangeSpec := { name := "kingMore", fn := fun _ => fun
  | [d1, d2, d3] => { results := [.lit (.bool true)], args := [d1, d2, d3] }
  | _ => none }
def kingMoreRow : OpenClaim := { program := "ytpeplcbngnedbaa", sum := "8b69c8c02a57b9f6ab8b31f59d3dff0b5ef4b34be9b4d9f2b4bb4cdb8ac36b9a", func := "senvy/senvylaw11.KingMore", spec := "kingMore", unfollowed := true, recurses := true, plainKeys := false, apart := false }
def KingMoreSaid : Prop := kingMoreRow.holds Try.pinned (OpenSpec.ofChange kingMoreSpec)

/-- ITS FALSE NEIGHBOUR: 'it returns false'. Refute it at one input. -/
def kingMoreWrong : ChangeSpec := { name := "kingMore", fn := fun _ => fun
  | [d1, d2, d3] => { results := [.lit (.bool false)], args := [d1, d2, d3] }
  | _ => none }
def KingMoreWrongFalsely : Prop := kingMoreRow.holds Try.pinned (OpenSpec.ofChange kingMoreWrong)

/-- 'senvylaw11.KingTurned': WHATEVER THE INPUT: true; the input reads as it did. -/
def kingTurnedSpec : ChangeSpec := { name := "kingTurned", fn := fun _ => fun
  | [d1, d2, d3, d4] => { results := [.lit (.bool true)], args := [d1, d2, d3, d4] }
  | _ => none }
def kingTurnedRow : OpenClaim := { program := "ytpeplcbngnedbaa", sum := "8b69c8c02a57b9f6ab8b31f59d3dff0b5ef4b34be9b4d9f2b4bb4cdb8ac36b9a", func := "senvy/senvylaw11.KingTurned", spec := "kingTurned", unfollowed := true, recurses := true, plainKeys := false, apart := false }
def KingTurnedSaid : Prop := kingTurnedRow.holds Try.pinned (OpenSpec.ofChange kingTurnedSpec)

/-- ITS FALSE NEIGHBOUR: 'it returns false'. Refute it at one input. -/
def kingTurnedWrong : ChangeSpec := { name := "kingTurned", fn := fun _ => fun
  | [d1, d2, d3, d4] => { results := [.lit (.bool false)], args := [d1, d2, d3, d4] }
  | _ => none }
def KingTurnedWrongFalsely : Prop := kingTurnedRow.holds Try.pinned (OpenSpec.ofChange kingTurnedWrong)

/-- 'senvylaw11.KingCopied': WHATEVER THE INPUT: true; the input reads as it did. -/
def kingCopiedSpec : ChangeSpec := { name := "kingCopied", fn := fun _ => fun
  | [d1, d2, d3] => { results := [.lit (.bool true)], args := [d1, d2, d3] }
  | _ => none }
def kingCopiedRow : OpenClaim := { program := "ytpeplcbngnedbaa", sum := "8b69c8c02a57b9f6ab8b31f59d3dff0b5ef4b34be9b4d9f2b4bb4cdb8ac36b9a", func := "senvy/senvylaw11.KingCopied", spec := "kingCopied", unfollowed := true, recurses := true, plainKeys := false, apart := false }
def KingCopiedSaid : Prop := kingCopiedRow.holds Try.pinned (OpenSpec.ofChange kingCopiedSpec)

/-- ITS FALSE NEIGHBOUR: 'it returns false'. Refute it at one input. -/
def kingCopiedWrong : ChangeSpec := { name := "kingCopied", fn := fun _ => fun
  | [d1, d2, d3] => { results := [.lit (.bool false)], args := [d1, d2, d3] }
  | _ => none }
def KingCopiedWrongFalsely : Prop := kingCopiedRow.holds Try.pinned (OpenSpec.ofChange kingCopiedWrong)

/-- 'senvylaw11.KingKnown': WHATEVER THE INPUT: true; the input reads as it did. -/
def kingKnownSpec : ChangeSpec := { name := "kingKnown", fn := fun _ => fun
  | [] => { results := [.lit (.bool true)], args := [] }
  | _ => none }
def kingKnownRow : OpenClaim := { program := "ytpeplcbngnedbaa", sum := "8b69c8c02a57b9f6ab8b31f59d3dff0b5ef4b34be9b4d9f2b4bb4cdb8ac36b9a", func := "senvy/senvylaw11.KingKnown", spec := "kingKnown", unfollowed := true, recurses := true, plainKeys := false, apart := false }
def KingKnownSaid : Prop := kingKnownRow.holds Try.pinned (OpenSpec.ofChange kingKnownSpec)

/-- ITS FALSE NEIGHBOUR: 'it returns false'. Refute it at one input. -/
def kingKnownWrong : ChangeSpec := { name := "kingKnown", fn := fun _ => fun
  | [] => { results := [.lit (.bool false)], args := [] }
  | _ => none }
def KingKnownWrongFalsely : Prop := kingKnownRow.holds Try.pinned (OpenSpec.ofChange kingKnownWrong)

/- THE SECOND FORM. 'bulk': how many values and letters a reading holds, each counted each time it is reached (what is shared counts as often as it is met; a slice's spare places count too). A statement '..UptoSaid' is the law's where the arguments, and the package variables that the reading takes, are together of bulk at most 1048576: NARROWER than '..Said'. Prove '..Said' where nothing that the law and all that it calls make is longer than what came in: it says more and counts as full. Else prove '..UptoSaid'. A law counts once. -/
mutual
def uptoBulk {H : Type} : DataW H → Nat
  | .lit (.string bytes) => bytes.length + 1
  | .lit _ => 1
  | .nil => 1
  | .ptr d => uptoBulk d + 1
  | .slice elems spare => uptoBulkAll elems + uptoBulkAll spare + 1
  | .agg parts => uptoBulkAll parts + 1
  | .iface _ d => uptoBulk d + 1
  | .map entries => uptoBulkEntries entries + 1
  | .held _ => 1
def uptoBulkAll {H : Type} : List (DataW H) → Nat
  | [] => 0
  | d :: r => uptoBulk d + uptoBulkAll r
def uptoBulkEntries {H : Type} : List (Lit × DataW H) → Nat
  | [] => 0
  | x :: r => uptoBulkEntry x + uptoBulkEntries r
def uptoBulkEntry {H : Type} : Lit × DataW H → Nat
  | (.string bytes, d) => bytes.length + uptoBulk d + 1
  | (_, d) => uptoBulk d + 1
 end
def uptoSmall : (H : Type) → List (DataW H) → Bool := fun _ ds => decide (uptoBulkAll ds ≤ 1048576)
def OpenSpec.upto (s : _root_.Go.ChangeSpec) : _root_.Go.OpenSpec := { _root_.Go.OpenSpec.ofChange s with cond := some uptoSmall }

/-- 'senvylaw11.KingShelves', WHERE WHAT IT READS IS OF BULK AT MOST 1048576: true; the input reads as it did. -/
def kingShelvesUptoRow : OpenClaim := { program := "ytpeplcbngnedbaa", sum := "8b69c8c02a57b9f6ab8b31f59d3dff0b5ef4b34be9b4d9f2b4bb4cdb8ac36b9a", func := "senvy/senvylaw11.KingShelves", spec := "kingShelves", unfollowed := true, recurses := true, plainKeys := false, apart := false, narrowed := true }
def KingShelvesUptoSaid : Prop := kingShelvesUptoRow.holds Try.pinned (OpenSpec.upto kingShelvesSpec)

/-- 'senvylaw11.KingLists', WHERE WHAT IT READS IS OF BULK AT MOST 1048576: true; the input reads as it did. -/
def kingListsUptoRow : OpenClaim := { program := "ytpeplcbngnedbaa", sum := "8b69c8c02a57b9f6ab8b31f59d3dff0b5ef4b34be9b4d9f2b4bb4cdb8ac36b9a", func := "senvy/senvylaw11.KingLists", spec := "kingLists", unfollowed := true, recurses := true, plainKeys := false, apart := false, narrowed := true }
def KingListsUptoSaid : Prop := kingListsUptoRow.holds Try.pinned (OpenSpec.upto kingListsSpec)

/-- 'senvylaw11.KingLooks', WHERE WHAT IT READS IS OF BULK AT MOST 1048576: true; the input reads as it did. -/
def kingLooksUptoRow : OpenClaim := { program := "ytpeplcbngnedbaa", sum := "8b69c8c02a57b9f6ab8b31f59d3dff0b5ef4b34be9b4d9f2b4bb4cdb8ac36b9a", func := "senvy/senvylaw11.KingLooks", spec := "kingLooks", unfollowed := true, recurses := true, plainKeys := false, apart := false, narrowed := true }
def KingLooksUptoSaid : Prop := kingLooksUptoRow.holds Try.pinned (OpenSpec.upto kingLooksSpec)

/-- 'senvylaw11.KingTrees', WHERE WHAT IT READS IS OF BULK AT MOST 1048576: true; the input reads as it did. -/
def kingTreesUptoRow : OpenClaim := { program := "ytpeplcbngnedbaa", sum := "8b69c8c02a57b9f6ab8b31f59d3dff0b5ef4b34be9b4d9f2b4bb4cdb8ac36b9a", func := "senvy/senvylaw11.KingTrees", spec := "kingTrees", unfollowed := true, recurses := true, plainKeys := false, apart := false, narrowed := true }
def KingTreesUptoSaid : Prop := kingTreesUptoRow.holds Try.pinned (OpenSpec.upto kingTreesSpec)

/-- 'senvylaw11.KingProved', WHERE WHAT IT READS IS OF BULK AT MOST 1048576: true; the input reads as it did. -/
def kingProvedUptoRow : OpenClaim := { program := "ytpeplcbngnedbaa", sum := "8b69c8c02a57b9f6ab8b31f59d3dff0b5ef4b34be9b4d9f2b4bb4cdb8ac36b9a", func := "senvy/senvylaw11.KingProved", spec := "kingProved", unfollowed := true, recurses := true, plainKeys := false, apart := false, narrowed := true }
def KingProvedUptoSaid : Prop := kingProvedUptoRow.holds Try.pinned (OpenSpec.upto kingProvedSpec)

/-- 'senvylaw11.KingTree', WHERE WHAT IT READS IS OF BULK AT MOST 1048576: true; the input reads as it did. -/
def kingTreeUptoRow : OpenClaim := { program := "ytpeplcbngnedbaa", sum := "8b69c8c02a57b9f6ab8b31f59d3dff0b5ef4b34be9b4d9f2b4bb4cdb8ac36b9a", func := "senvy/senvylaw11.KingTree", spec := "kingTree", unfollowed := true, recurses := true, plainKeys := false, apart := false, narrowed := true }
def KingTreeUptoSaid : Prop := kingTreeUptoRow.holds Try.pinned (OpenSpec.upto kingTreeSpec)

/-- 'senvylaw11.KingPlayed', WHERE WHAT IT READS IS OF BULK AT MOST 1048576: true; the input reads as it did. -/
def kingPlayedUptoRow : OpenClaim := { program := "ytpeplcbngnedbaa", sum := "8b69c8c02a57b9f6ab8b31f59d3dff0b5ef4b34be9b4d9f2b4bb4cdb8ac36b9a", func := "senvy/senvylaw11.KingPlayed", spec := "kingPlayed", unfollowed := true, recurses := true, plainKeys := false, apart := false, narrowed := true }
def KingPlayedUptoSaid : Prop := kingPlayedUptoRow.holds Try.pinned (OpenSpec.upto kingPlayedSpec)

/-- 'senvylaw11.KingSeen', WHERE WHAT IT READS IS OF BULK AT MOST 1048576: true; the input reads as it did. -/
def kingSeenUptoRow : OpenClaim := { program := "ytpeplcbngnedbaa", sum := "8b69c8c02a57b9f6ab8b31f59d3dff0b5ef4b34be9b4d9f2b4bb4cdb8ac36b9a", func := "senvy/senvylaw11.KingSeen", spec := "kingSeen", unfollowed := true, recurses := true, plainKeys := false, apart := false, narrowed := true }
def KingSeenUptoSaid : Prop := kingSeenUptoRow.holds Try.pinned (OpenSpec.upto kingSeenSpec)

/-- 'senvylaw11.KingMore', WHERE WHAT IT READS IS OF BULK AT MOST 1048576: true; the input reads as it did. -/
def kingMoreUptoRow : OpenClaim := { program := "ytpeplcbngnedbaa", sum := "8b69c8c02a57b9f6ab8b31f59d3dff0b5ef4b34be9b4d9f2b4bb4cdb8ac36b9a", func := "senvy/senvylaw11.KingMore", spec := "kingMore", unfollowed := true, recurses := true, plainKeys := false, apart := false, narrowed := true }
def KingMoreUptoSaid : Prop := kingMoreUptoRow.holds Try.pinned (OpenSpec.upto kingMoreSpec)

/-- 'senvylaw11.KingTurned', WHERE WHAT IT READS IS OF BULK AT MOST 1048576: true; the input reads as it did. -/
def kingTurnedUptoRow : OpenClaim := { program := "ytpeplcbngnedbaa", sum := "8b69c8c02a57b9f6ab8b31f59d3dff0b5ef4b34be9b4d9f2b4bb4cdb8ac36b9a", func := "senvy/senvylaw11.KingTurned", spec := "kingTurned", unfollowed := true, recurses := true, plainKeys := false, apart := false, narrowed := true }
def KingTurnedUptoSaid : Prop := kingTurnedUptoRow.holds Try.pinned (OpenSpec.upto kingTurnedSpec)

/-- 'senvylaw11.KingCopied', WHERE WHAT IT READS IS OF BULK AT MOST 1048576: true; the input reads as it did. -/
def kingCopiedUptoRow : OpenClaim := { program := "ytpeplcbngnedbaa", sum := "8b69c8c02a57b9f6ab8b31f59d3dff0b5ef4b34be9b4d9f2b4bb4cdb8ac36b9a", func := "senvy/senvylaw11.KingCopied", spec := "kingCopied", unfollowed := true, recurses := true, plainKeys := false, apart := false, narrowed := true }
def KingCopiedUptoSaid : Prop := kingCopiedUptoRow.holds Try.pinned (OpenSpec.upto kingCopiedSpec)

/-- 'senvylaw11.KingKnown', WHERE WHAT IT READS IS OF BULK AT MOST 1048576: true; the input reads as it did. -/
def kingKnownUptoRow : OpenClaim := { program := "ytpeplcbngnedbaa", sum := "8b69c8c02a57b9f6ab8b31f59d3dff0b5ef4b34be9b4d9f2b4bb4cdb8ac36b9a", func := "senvy/senvylaw11.KingKnown", spec := "kingKnown", unfollowed := true, recurses := true, plainKeys := false, apart := false, narrowed := true }
def KingKnownUptoSaid : Prop := kingKnownUptoRow.holds Try.pinned (OpenSpec.upto kingKnownSpec)

end Rows
end Go.Proofs.Ytpeplcbngnedbaa

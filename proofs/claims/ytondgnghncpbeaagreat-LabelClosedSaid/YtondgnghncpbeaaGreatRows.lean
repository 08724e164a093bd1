/-
  No cell of these rows narrows 'for every input' (looked for: loops, veiled, ifaces, maps, wideKeys, modest, calm, conditions, laid).
  DERIVED. THE GIVEN ROWS OF THIS SEAT. 5 by the template 'for every input the law returns true; each argument reads behind the call as it read before'; 0 by the template 'total and deterministic' (their statements: YtondgnghncpbeaaGreatTotals.lean).
  GIVEN WITH THE SEED: the statements are not yours to turn. If you find one false, say at which input.
  Laid BY PROGRAM, IN A SANDBOX (cutbox-rows.mjs): the forced cells as the released guide's own fill.sh prints them over the translation 99152b8c7d16e20a… (all of the seat's roots in one cut). By AI agents, Wed Nov 11 2026. No macro, syntax, notation, axiom, sorry.
-/
import Derived.Test.YtondgnghncpbeaaGreatChecked
import GoSem.Claim
import GoSem.ClaimJoined
import GoSem.ClaimMapViews
import Derived.JoinedTies
import Derived.KernelRfl
namespace Go.Proofs.YtondgnghncpbeaaGreat
/- THE CELL 'sum', in the pinned program and in every row, IS THE sha256 OF THE DUMP (.gsa) THAT YtondgnghncpbeaaGreatProg.lean LOADS. Nothing in Lean hashes anything: it is a label: what it is worth is what the hold of that sum in a sandbox is worth. -/
noncomputable def Tryz.pinned : Pinned := { name := "ytondgnghncpbeaagreat", sum := "99152b8c7d16e20a9d1bf41c5fd375eb3f2481ce1f2150df44e7841a278e8b05", checked := Tryz.checked }
namespace Rows
def none {H : Type} : Left H := { results := [], args := [] }

/-- 'senvylaw09.LabelGuilds': WHATEVER THE INPUT: true; the input reads as it did. -/
def labelGuildsSpec : ChangeSpec := { name := "labelGuilds", fn := fun _ => fun
  | [d1, d2] => { results := [.lit (.bool true)], args := [d1, d2] }
  | _ => none }
def labelGuildsRow : OpenClaim := { program := "ytondgnghncpbeaagreat", sum := "99152b8c7d16e20a9d1bf41c5fd375eb3f2481ce1f2150df44e7841a278e8b05", func := "senvy/senvylaw09.LabelGuilds", spec := "labelGuilds", unfollowed := true, recurses := true, plainKeys := false, apart := false }
def LabelGuildsSaid : Prop := labelGuildsRow.holds Tryz.pinned (OpenSpec.ofChange labelGuildsSpec)

/-- ITS FALSE NEIGHBOUR: 'it returns false'. Refute it at one input. -/
def labelGuildsWrong : ChangeSpec := { name := "labelGuilds", fn := fun _ => fun
  | [d1, d2] => { results := [.lit (.bool false)], args := [d1, d2] }
  | _ => none }
def LabelGuildsWrongFalsely : Prop := labelGuildsRow.holds Tryz.pinned (OpenSpec.ofChange labelGuildsWrong)

/-- 'senvylaw09.LabelReasons': WHATEVER THE INPUT: true; the input reads as it did. -/
def labelReasonsSpec : ChangeSpec := { name := "labelReasons", fn := fun _ => fun
  | [d1, d2, d3] => { results := [.lit (.bool true)], args := [d1, d2, d3] }
  | _ => none }
def labelReasonsRow : OpenClaim := { program := "ytondgnghncpbeaagreat", sum := "99152b8c7d16e20a9d1bf41c5fd375eb3f2481ce1f2150df44e7841a278e8b05", func := "senvy/senvylaw09.LabelReasons", spec := "labelReasons", unfollowed := true, recurses := true, plainKeys := false, apart := false }
def LabelReasonsSaid : Prop := labelReasonsRow.holds Tryz.pinned (OpenSpec.ofChange labelReasonsSpec)

/-- ITS FALSE NEIGHBOUR: 'it returns false'. Refute it at one input. -/
def labelReasonsWrong : ChangeSpec := { name := "labelReasons", fn := fun _ => fun
  | [d1, d2, d3] => { results := [.lit (.bool false)], args := [d1, d2, d3] }
  | _ => none }
def LabelReasonsWrongFalsely : Prop := labelReasonsRow.holds Tryz.pinned (OpenSpec.ofChange labelReasonsWrong)

/-- 'senvylaw09.LabelTakens': WHATEVER THE INPUT: true; the input reads as it did. -/
def labelTakensSpec : ChangeSpec := { name := "labelTakens", fn := fun _ => fun
  | [d1, d2, d3] => { results := [.lit (.bool true)], args := [d1, d2, d3] }
  | _ => none }
def labelTakensRow : OpenClaim := { program := "ytondgnghncpbeaagreat", sum := "99152b8c7d16e20a9d1bf41c5fd375eb3f2481ce1f2150df44e7841a278e8b05", func := "senvy/senvylaw09.LabelTakens", spec := "labelTakens", unfollowed := true, recurses := true, plainKeys := false, apart := false }
def LabelTakensSaid : Prop := labelTakensRow.holds Tryz.pinned (OpenSpec.ofChange labelTakensSpec)

/-- ITS FALSE NEIGHBOUR: 'it returns false'. Refute it at one input. -/
def labelTakensWrong : ChangeSpec := { name := "labelTakens", fn := fun _ => fun
  | [d1, d2, d3] => { results := [.lit (.bool false)], args := [d1, d2, d3] }
  | _ => none }
def LabelTakensWrongFalsely : Prop := labelTakensRow.holds Tryz.pinned (OpenSpec.ofChange labelTakensWrong)

/-- 'senvylaw09.LabelProved': WHATEVER THE INPUT: true; the input reads as it did. -/
def labelProvedSpec : ChangeSpec := { name := "labelProved", fn := fun _ => fun
  | [d1, d2, d3, d4] => { results := [.lit (.bool true)], args := [d1, d2, d3, d4] }
  | _ => none }
def labelProvedRow : OpenClaim := { program := "ytondgnghncpbeaagreat", sum := "99152b8c7d16e20a9d1bf41c5fd375eb3f2481ce1f2150df44e7841a278e8b05", func := "senvy/senvylaw09.LabelProved", spec := "labelProved", unfollowed := true, recurses := true, plainKeys := false, apart := false }
def LabelProvedSaid : Prop := labelProvedRow.holds Tryz.pinned (OpenSpec.ofChange labelProvedSpec)

/-- ITS FALSE NEIGHBOUR: 'it returns false'. Refute it at one input. -/
def labelProvedWrong : ChangeSpec := { name := "labelProved", fn := fun _ => fun
  | [d1, d2, d3, d4] => { results := [.lit (.bool false)], args := [d1, d2, d3, d4] }
  | _ => none }
def LabelProvedWrongFalsely : Prop := labelProvedRow.holds Tryz.pinned (OpenSpec.ofChange labelProvedWrong)

/-- 'senvylaw09.LabelClosed': WHATEVER THE INPUT: true; the input reads as it did. -/
def labelClosedSpec : ChangeSpec := { name := "labelClosed", fn := fun _ => fun
  | [d1, d2, d3] => { results := [.lit (.bool true)], args := [d1, d2, d3] }
  | _ => none }
def labelClosedRow : OpenClaim := { program := "ytondgnghncpbeaagreat", sum := "99152b8c7d16e20a9d1bf41c5fd375eb3f2481ce1f2150df44e7841a278e8b05", func := "senvy/senvylaw09.LabelClosed", spec := "labelClosed", unfollowed := true, recurses := true, plainKeys := false, apart := false }
def LabelClosedSaid : Prop := labelClosedRow.holds Tryz.pinned (OpenSpec.ofChange labelClosedSpec)

/-- ITS FALSE NEIGHBOUR: 'it returns false'. Refute it at one input. -/
def labelClosedWrong : ChangeSpec := { name := "labelClosed", fn := fun _ => fun
  | [d1, d2, d3] => { results := [.lit (.bool false)], args := [d1, d2, d3] }
  | _ => none }
def LabelClosedWrongFalsely : Prop := labelClosedRow.holds Tryz.pinned (OpenSpec.ofChange labelClosedWrong)

/- THE SECOND FORM. 'bulk': how many values and letters a reading holds, each counted each time it is reached (what is shared counts as often as it is met; a slice's spare places count too). A statement '..UptoSaid' is the law's where the arguments, and the package variables that the reading takes, are together of bulk at most 1048576: NARROWER than '..Said'. Prove '..Said' where nothing that the law and all that it calls make is longer than what came in: it says more and counts as full. Else prove '..UptoSaid'. A law counts once. -/
mutual
def uptoBulk {H : Type} : DataW H → Nat
  | .lit (.string bytes) => bytes.length + 1
  | .lit _ => 1
  | .nil => 1
  | .ptr d => uptoBulk d + 1
  | .slice elems spare => uptoBulkAll elems + uptoBulkAll spare + 1
  | .agg parts => uptoBulkAll parts + 1
  | .iface _ d => uptoBulk d + 1
  | .map entries => uptoBulkEntries entries + 1
  | .held _ => 1
def uptoBulkAll {H : Type} : List (DataW H) → Nat
  | [] => 0
  | d :: r => uptoBulk d + uptoBulkAll r
def uptoBulkEntries {H : Type} : List (Lit × DataW H) → Nat
  | [] => 0
  | x :: r => uptoBulkEntry x + uptoBulkEntries r
def uptoBulkEntry {H : Type} : Lit × DataW H → Nat
  | (.string bytes, d) => bytes.length + uptoBulk d + 1
  | (_, d) => uptoBulk d + 1
 end
def uptoSmall : (H : Type) → List (DataW H) → Bool := fun _ ds => decide (uptoBulkAll ds ≤ 1048576)
def OpenSpec.upto (s : _root_.Go.ChangeSpec) : _root_.Go.OpenSpec := { _root_.Go.OpenSpec.ofChange s with cond := some uptoSmall }

/-- 'senvylaw09.LabelGuilds', WHERE WHAT IT READS IS OF BULK AT MOST 1048576: true; the input reads as it did. -/
def labelGuildsUptoRow : OpenClaim := { program := "ytondgnghncpbeaagreat", sum := "99152b8c7d16e20a9d1bf41c5fd375eb3f2481ce1f2150df44e7841a278e8b05", func := "senvy/senvylaw09.LabelGuilds", spec := "labelGuilds", unfollowed := true, recurses := true, plainKeys := false, apart := false, narrowed := true }
def LabelGuildsUptoSaid : Prop := labelGuildsUptoRow.holds Tryz.pinned (OpenSpec.upto labelGuildsSpec)

/-- 'senvylaw09.LabelReasons', WHERE WHAT IT READS IS OF BULK AT MOST 1048576: true; the input reads as it did. -/
def labelReasonsUptoRow : OpenClaim := { program := "ytondgnghncpbeaagreat", sum := "99152b8c7d16e20a9d1bf41c5fd375eb3f2481ce1f2150df44e7841a278e8b05", func := "senvy/senvylaw09.LabelReasons", spec := "labelReasons", unfollowed := true, recurses := true, plainKeys := false, apart := false, narrowed := true }
def LabelReasonsUptoSaid : Prop := labelReasonsUptoRow.holds Tryz.pinned (OpenSpec.upto labelReasonsSpec)

/-- 'senvylaw09.LabelTakens', WHERE WHAT IT READS IS OF BULK AT MOST 1048576: true; the input reads as it did. -/
def labelTakensUptoRow : OpenClaim := { program := "ytondgnghncpbeaagreat", sum := "99152b8c7d16e20a9d1bf41c5fd375eb3f2481ce1f2150df44e7841a278e8b05", func := "senvy/senvylaw09.LabelTakens", spec := "labelTakens", unfollowed := true, recurses := true, plainKeys := false, apart := false, narrowed := true }
def LabelTakensUptoSaid : Prop := labelTakensUptoRow.holds Tryz.pinned (OpenSpec.upto labelTakensSpec)

/-- 'senvylaw09.LabelProved', WHERE WHAT IT READS IS OF BULK AT MOST 1048576: true; the input reads as it did. -/
def labelProvedUptoRow : OpenClaim := { program := "ytondgnghncpbeaagreat", sum := "99152b8c7d16e20a9d1bf41c5fd375eb3f2481ce1f2150df44e7841a278e8b05", func := "senvy/senvylaw09.LabelProved", spec := "labelProved", unfollowed := true, recurses := true, plainKeys := false, apart := false, narrowed := true }
def LabelProvedUptoSaid : Prop := labelProvedUptoRow.holds Tryz.pinned (OpenSpec.upto labelProvedSpec)

/-- 'senvylaw09.LabelClosed', WHERE WHAT IT READS IS OF BULK AT MOST 1048576: true; the input reads as it did. -/
def labelClosedUptoRow : OpenClaim := { program := "ytondgnghncpbeaagreat", sum := "99152b8c7d16e20a9d1bf41c5fd375eb3f2481ce1f2150df44e7841a278e8b05", func := "senvy/senvylaw09.LabelClosed", spec := "labelClosed", unfollowed := true, recurses := true, plainKeys := false, apart := false, narrowed := true }
def LabelClosedUptoSaid : Prop := labelClosedUptoRow.holds Tryz.pinned (OpenSpec.upto labelClosedSpec)

end Rows
end Go.Proofs.YtondgnghncpbeaaGreat

/-
  No cell of these rows narrows 'for every input' (looked for: loops, veiled, ifaces, maps, wideKeys, modest, calm, conditions, laid).
  DERIVED. THE GIVEN ROWS OF THIS SEAT. 3 by the template 'for every input the law returns true; each argument reads behind the call as it read before'; 0 by the template 'total and deterministic' (their statements: YthcmpcekmkioaaaGreatTotals.lean).
  GIVEN WITH THE SEED: the statements are not yours to turn. If you find one false, say at which input.
  Laid BY PROGRAM, IN A SANDBOX (cutbox-rows.mjs): the forced cells as the released guide's own fill.sh prints them over the translation 27b2abde4699057a… (all of the seat's roots in one cut). By AI agents, Wed Nov 11 2026. No macro, syntax, notation, axiom, sorry.
-/
import Derived.Test.YthcmpcekmkioaaaGreatChecked
import GoSem.Claim
import GoSem.ClaimJoined
import GoSem.ClaimMapViews
import Derived.JoinedTies
import Derived.KernelRfl
namespace Go.Proofs.YthcmpcekmkioaaaGreat
/- THE CELL 'sum', in the pinned program and in every row, IS THE sha256 OF THE DUMP (.gsa) THAT YthcmpcekmkioaaaGreatProg.lean LOADS. Nothing in Lean hashes anything: it is a label: what it is worth is what the hold of that sum in a sandbox is worth. -/
noncomputable def Tryz.pinned : Pinned := { name := "ythcmpcekmkioaaagreat", sum := "27b2abde4699057aa2ca2d647d1c12ff39677f412db720f2dcf524f76f7e2ec4", checked := Tryz.checked }
namespace Rows
def none {H : Type} : Left H := { results := [], args := [] }

/-- 'lombardlaw19.ReplayApplies': WHATEVER THE INPUT: true; the input reads as it did. -/
def replayAppliesSpec : ChangeSpec := { name := "replayApplies", fn := fun _ => fun
  | [d1, d2, d3] => { results := [.lit (.bool true)], args := [d1, d2, d3] }
  | _ => none }
def replayAppliesRow : OpenClaim := { program := "ythcmpcekmkioaaagreat", sum := "27b2abde4699057aa2ca2d647d1c12ff39677f412db720f2dcf524f76f7e2ec4", func := "lombard/lombardlaw19.ReplayApplies", spec := "replayApplies", inPlace := ["math/bits.Add64"], unfollowed := true, recurses := true, named := ["math/bits.divideError", "math/bits.overflowError"], apart := false }
def ReplayAppliesSaid : Prop := replayAppliesRow.holds Tryz.pinned (OpenSpec.ofChange replayAppliesSpec)

/-- ITS FALSE NEIGHBOUR: 'it returns false'. Refute it at one input. -/
def replayAppliesWrong : ChangeSpec := { name := "replayApplies", fn := fun _ => fun
  | [d1, d2, d3] => { results := [.lit (.bool false)], args := [d1, d2, d3] }
  | _ => none }
def ReplayAppliesWrongFalsely : Prop := replayAppliesRow.holds Tryz.pinned (OpenSpec.ofChange replayAppliesWrong)

/-- 'lombardlaw19.ReplayGoesOn': WHATEVER THE INPUT: true; the input reads as it did. -/
def replayGoesOnSpec : ChangeSpec := { name := "replayGoesOn", fn := fun _ => fun
  | [d1, d2, d3] => { results := [.lit (.bool true)], args := [d1, d2, d3] }
  | _ => none }
def replayGoesOnRow : OpenClaim := { program := "ythcmpcekmkioaaagreat", sum := "27b2abde4699057aa2ca2d647d1c12ff39677f412db720f2dcf524f76f7e2ec4", func := "lombard/lombardlaw19.ReplayGoesOn", spec := "replayGoesOn", inPlace := ["math/bits.Add64"], unfollowed := true, recurses := true, named := ["math/bits.divideError", "math/bits.overflowError"], apart := false }
def ReplayGoesOnSaid : Prop := replayGoesOnRow.holds Tryz.pinned (OpenSpec.ofChange replayGoesOnSpec)

/-- ITS FALSE NEIGHBOUR: 'it returns false'. Refute it at one input. -/
def replayGoesOnWrong : ChangeSpec := { name := "replayGoesOn", fn := fun _ => fun
  | [d1, d2, d3] => { results := [.lit (.bool false)], args := [d1, d2, d3] }
  | _ => none }
def ReplayGoesOnWrongFalsely : Prop := replayGoesOnRow.holds Tryz.pinned (OpenSpec.ofChange replayGoesOnWrong)

/-- 'lombardlaw19.ReplayRuns': WHATEVER THE INPUT: true; the input reads as it did. -/
def replayRunsSpec : ChangeSpec := { name := "replayRuns", fn := fun _ => fun
  | [d1, d2, d3, d4, d5] => { results := [.lit (.bool true)], args := [d1, d2, d3, d4, d5] }
  | _ => none }
def replayRunsRow : OpenClaim := { program := "ythcmpcekmkioaaagreat", sum := "27b2abde4699057aa2ca2d647d1c12ff39677f412db720f2dcf524f76f7e2ec4", func := "lombard/lombardlaw19.ReplayRuns", spec := "replayRuns", inPlace := ["math/bits.Add64"], unfollowed := true, recurses := true, named := ["math/bits.divideError", "math/bits.overflowError"], apart := false }
def ReplayRunsSaid : Prop := replayRunsRow.holds Tryz.pinned (OpenSpec.ofChange replayRunsSpec)

/-- ITS FALSE NEIGHBOUR: 'it returns false'. Refute it at one input. -/
def replayRunsWrong : ChangeSpec := { name := "replayRuns", fn := fun _ => fun
  | [d1, d2, d3, d4, d5] => { results := [.lit (.bool false)], args := [d1, d2, d3, d4, d5] }
  | _ => none }
def ReplayRunsWrongFalsely : Prop := replayRunsRow.holds Tryz.pinned (OpenSpec.ofChange replayRunsWrong)

/- THE SECOND FORM. 'bulk': how many values and letters a reading holds, each counted each time it is reached (what is shared counts as often as it is met; a slice's spare places count too). A statement '..UptoSaid' is the law's where the arguments, and the package variables that the reading takes, are together of bulk at most 1048576: NARROWER than '..Said'. Prove '..Said' where nothing that the law and all that it calls make is longer than what came in: it says more and counts as full. Else prove '..UptoSaid'. A law counts once. -/
mutual
def uptoBulk {H : Type} : DataW H → Nat
  | .lit (.string bytes) => bytes.length + 1
  | .lit _ => 1
  | .nil => 1
  | .ptr d => uptoBulk d + 1
  | .slice elems spare => uptoBulkAll elems + uptoBulkAll spare + 1
  | .agg parts => uptoBulkAll parts + 1
  | .iface _ d => uptoBulk d + 1
  | .map entries => uptoBulkEntries entries + 1
  | .held _ => 1
def uptoBulkAll {H : Type} : List (DataW H) → Nat
  | [] => 0
  | d :: r => uptoBulk d + uptoBulkAll r
def uptoBulkEntries {H : Type} : List (Lit × DataW H) → Nat
  | [] => 0
  | x :: r => uptoBulkEntry x + uptoBulkEntries r
def uptoBulkEntry {H : Type} : Lit × DataW H → Nat
  | (.string bytes, d) => bytes.length + uptoBulk d + 1
  | (_, d) => uptoBulk d + 1
 end
def uptoSmall : (H : Type) → List (DataW H) → Bool := fun _ ds => decide (uptoBulkAll ds ≤ 1048576)
def OpenSpec.upto (s : _root_.Go.ChangeSpec) : _root_.Go.OpenSpec := { _root_.Go.OpenSpec.ofChange s with cond := some uptoSmall }

/-- 'lombardlaw19.ReplayApplies', WHERE WHAT IT READS IS OF BULK AT MOST 1048576: true; the input reads as it did. -/
def replayAppliesUptoRow : OpenClaim := { program := "ythcmpcekmkioaaagreat", sum := "27b2abde4699057aa2ca2d647d1c12ff39677f412db720f2dcf524f76f7e2ec4", func := "lombard/lombardlaw19.ReplayApplies", spec := "replayApplies", inPlace := ["math/bits.Add64"], unfollowed := true, recurses := true, named := ["math/bits.divideError", "math/bits.overflowError"], apart := false, narrowed := true }
def ReplayAppliesUptoSaid : Prop := replayAppliesUptoRow.holds Tryz.pinned (OpenSpec.upto replayAppliesSpec)

/-- 'lombardlaw19.ReplayGoesOn', WHERE WHAT IT READS IS OF BULK AT MOST 1048576: true; the input reads as it did. -/
def replayGoesOnUptoRow : OpenClaim := { program := "ythcmpcekmkioaaagreat", sum := "27b2abde4699057aa2ca2d647d1c12ff39677f412db720f2dcf524f76f7e2ec4", func := "lombard/lombardlaw19.ReplayGoesOn", spec := "replayGoesOn", inPlace := ["math/bits.Add64"], unfollowed := true, recurses := true, named := ["math/bits.divideError", "math/bits.overflowError"], apart := false, narrowed := true }
def ReplayGoesOnUptoSaid : Prop := replayGoesOnUptoRow.holds Tryz.pinned (OpenSpec.upto replayGoesOnSpec)

/-- 'lombardlaw19.ReplayRuns', WHERE WHAT IT READS IS OF BULK AT MOST 1048576: true; the input reads as it did. -/
def replayRunsUptoRow : OpenClaim := { program := "ythcmpcekmkioaaagreat", sum := "27b2abde4699057aa2ca2d647d1c12ff39677f412db720f2dcf524f76f7e2ec4", func := "lombard/lombardlaw19.ReplayRuns", spec := "replayRuns", inPlace := ["math/bits.Add64"], unfollowed := true, recurses := true, named := ["math/bits.divideError", "math/bits.overflowError"], apart := false, narrowed := true }
def ReplayRunsUptoSaid : Prop := replayRunsUptoRow.holds Tryz.pinned (OpenSpec.upto replayRunsSpec)

end Rows
end Go.Proofs.YthcmpcekmkioaaaGreat

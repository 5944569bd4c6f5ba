/-
  No cell of these rows narrows 'for every input' (looked for: loops, veiled, ifaces, maps, wideKeys, modest, calm, conditions, laid).
  DERIVED. THE GIVEN ROWS OF THIS SEAT. 4 by the template 'for every input the law returns true; each argument reads behind the call as it read before'; 0 by the template 'total and deterministic' (their statements: YtmiafnndoioddaaTotals.lean).
  GIVEN WITH THE SEED: the statements are not yours to turn. If you find one false, say at which input.
  Laid BY PROGRAM, IN A SANDBOX (cutbox-rows.mjs): the forced cells as the released guide's own fill.sh prints them over the translation 86caa13d69776983… (all of the seat's roots in one cut). By AI agents, Wed Nov 11 2026. No macro, syntax, notation, axiom, sorry.
-/
import Derived.Test.YtmiafnndoioddaaChecked
import GoSem.Claim
import GoSem.ClaimJoined
import GoSem.ClaimMapViews
import Derived.JoinedTies
import Derived.KernelRfl
namespace Go.Proofs.Ytmiafnndoioddaa
/- THE CELL 'sum', in the pinned program and in every row, IS THE sha256 OF THE DUMP (.gsa) THAT YtmiafnndoioddaaProg.lean LOADS. Nothing in Lean hashes anything: it is a label: what it is worth is what the hold of that sum in a sandbox is worth. -/
noncomputable def Try.pinned : Pinned := { name := "ytmiafnndoioddaa", sum := "86caa13d69776983bcf39a8b2c59b9b96db142dbea54e19de07b4e07f2d33a59", checked := Try.checked }
namespace Rows
def none {H : Type} : Left H := { results := [], args := [] }

/-- 'lombardlaw16.DisputeEnds': WHATEVER THE INPUT: true; the input reads as it did. -/
def disputeEndsSpec : ChangeSpec := { name := "disputeEnds", fn := fun _ => fun
  | [d1, d2, d3, d4] => { results := [.lit (.bool true)], args := [d1, d2, d3, d4] }
  | _ => none }
def disputeEndsRow : OpenClaim := { program := "ytmiafnndoioddaa", sum := "86caa13d69776983bcf39a8b2c59b9b96db142dbea54e19de07b4e07f2d33a59", func := "lombard/lombardlaw16.DisputeEnds", spec := "disputeEnds", apart := false }
def DisputeEndsSaid : Prop := disputeEndsRow.holds Try.pinned (OpenSpec.ofChange disputeEndsSpec)

/-- ITS FALSE NEIGHBOUR: 'it returns false'. Refute it at one input. -/
def disputeEndsWrong : ChangeSpec := { name := "disputeEnds", fn := fun _ => fun
  | [d1, d2, d3, d4] => { results := [.lit (.bool false)], args := [d1, d2, d3, d4] }
  | _ => none }
def DisputeEndsWrongFalsely : Prop := disputeEndsRow.holds Try.pinned (OpenSpec.ofChange disputeEndsWrong)

/-- 'lombardlaw16.DisputeCounts': WHATEVER THE INPUT: true; the input reads as it did. -/
def disputeCountsSpec : ChangeSpec := { name := "disputeCounts", fn := fun _ => fun
  | [d] => { results := [.lit (.bool true)], args := [d] }
  | _ => none }
def disputeCountsRow : OpenClaim := { program := "ytmiafnndoioddaa", sum := "86caa13d69776983bcf39a8b2c59b9b96db142dbea54e19de07b4e07f2d33a59", func := "lombard/lombardlaw16.DisputeCounts", spec := "disputeCounts", apart := false }
def DisputeCountsSaid : Prop := disputeCountsRow.holds Try.pinned (OpenSpec.ofChange disputeCountsSpec)

/-- ITS FALSE NEIGHBOUR: 'it returns false'. Refute it at one input. -/
def disputeCountsWrong : ChangeSpec := { name := "disputeCounts", fn := fun _ => fun
  | [d] => { results := [.lit (.bool false)], args := [d] }
  | _ => none }
def DisputeCountsWrongFalsely : Prop := disputeCountsRow.holds Try.pinned (OpenSpec.ofChange disputeCountsWrong)

/-- 'lombardlaw16.DisputePlays': WHATEVER THE INPUT: true; the input reads as it did. -/
def disputePlaysSpec : ChangeSpec := { name := "disputePlays", fn := fun _ => fun
  | [d1, d2] => { results := [.lit (.bool true)], args := [d1, d2] }
  | _ => none }
def disputePlaysRow : OpenClaim := { program := "ytmiafnndoioddaa", sum := "86caa13d69776983bcf39a8b2c59b9b96db142dbea54e19de07b4e07f2d33a59", func := "lombard/lombardlaw16.DisputePlays", spec := "disputePlays", unfollowed := true, recurses := true, apart := false }
def DisputePlaysSaid : Prop := disputePlaysRow.holds Try.pinned (OpenSpec.ofChange disputePlaysSpec)

/-- ITS FALSE NEIGHBOUR: 'it returns false'. Refute it at one input. -/
def disputePlaysWrong : ChangeSpec := { name := "disputePlays", fn := fun _ => fun
  | [d1, d2] => { results := [.lit (.bool false)], args := [d1, d2] }
  | _ => none }
def DisputePlaysWrongFalsely : Prop := disputePlaysRow.holds Try.pinned (OpenSpec.ofChange disputePlaysWrong)

/-- 'lombardlaw16.DisputeNil': WHATEVER THE INPUT: true; the input reads as it did. -/
def disputeNilSpec : ChangeSpec := { name := "disputeNil", fn := fun _ => fun
  | [d1, d2] => { results := [.lit (.bool true)], args := [d1, d2] }
  | _ => none }
def disputeNilRow : OpenClaim := { program := "ytmiafnndoioddaa", sum := "86caa13d69776983bcf39a8b2c59b9b96db142dbea54e19de07b4e07f2d33a59", func := "lombard/lombardlaw16.DisputeNil", spec := "disputeNil", apart := false }
def DisputeNilSaid : Prop := disputeNilRow.holds Try.pinned (OpenSpec.ofChange disputeNilSpec)

/-- ITS FALSE NEIGHBOUR: 'it returns false'. Refute it at one input. -/
def disputeNilWrong : ChangeSpec := { name := "disputeNil", fn := fun _ => fun
  | [d1, d2] => { results := [.lit (.bool false)], args := [d1, d2] }
  | _ => none }
def DisputeNilWrongFalsely : Prop := disputeNilRow.holds Try.pinned (OpenSpec.ofChange disputeNilWrong)

/- THE SECOND FORM. 'bulk': how many values and letters a reading holds, each counted each time it is reached (what is shared counts as often as it is met; a slice's spare places count too). A statement '..UptoSaid' is the law's where the arguments, and the package variables that the reading takes, are together of bulk at most 1048576: NARROWER than '..Said'. Prove '..Said' where nothing that the law and all that it calls make is longer than what came in: it says more and counts as full. Else prove '..UptoSaid'. A law counts once. -/
mutual
def uptoBulk {H : Type} : DataW H → Nat
  | .lit (.string bytes) => bytes.length + 1
  | .lit _ => 1
  | .nil => 1
  | .ptr d => uptoBulk d + 1
  | .slice elems spare => uptoBulkAll elems + uptoBulkAll spare + 1
  | .agg parts => uptoBulkAll parts + 1
  | .iface _ d => uptoBulk d + 1
  | .map entries => uptoBulkEntries entries + 1
  | .held _ => 1
def uptoBulkAll {H : Type} : List (DataW H) → Nat
  | [] => 0
  | d :: r => uptoBulk d + uptoBulkAll r
def uptoBulkEntries {H : Type} : List (Lit × DataW H) → Nat
  | [] => 0
  | x :: r => uptoBulkEntry x + uptoBulkEntries r
def uptoBulkEntry {H : Type} : Lit × DataW H → Nat
  | (.string bytes, d) => bytes.length + uptoBulk d + 1
  | (_, d) => uptoBulk d + 1
 end
def uptoSmall : (H : Type) → List (DataW H) → Bool := fun _ ds => decide (uptoBulkAll ds ≤ 1048576)
def OpenSpec.upto (s : _root_.Go.ChangeSpec) : _root_.Go.OpenSpec := { _root_.Go.OpenSpec.ofChange s with cond := some uptoSmall }

/-- 'lombardlaw16.DisputeEnds', WHERE WHAT IT READS IS OF BULK AT MOST 1048576: true; the input reads as it did. -/
def disputeEndsUptoRow : OpenClaim := { program := "ytmiafnndoioddaa", sum := "86caa13d69776983bcf39a8b2c59b9b96db142dbea54e19de07b4e07f2d33a59", func := "lombard/lombardlaw16.DisputeEnds", spec := "disputeEnds", apart := false, narrowed := true }
def DisputeEndsUptoSaid : Prop := disputeEndsUptoRow.holds Try.pinned (OpenSpec.upto disputeEndsSpec)

/-- 'lombardlaw16.DisputeCounts', WHERE WHAT IT READS IS OF BULK AT MOST 1048576: true; the input reads as it did. -/
def disputeCountsUptoRow : OpenClaim := { program := "ytmiafnndoioddaa", sum := "86caa13d69776983bcf39a8b2c59b9b96db142dbea54e19de07b4e07f2d33a59", func := "lombard/lombardlaw16.DisputeCounts", spec := "disputeCounts", apart := false, narrowed := true }
def DisputeCountsUptoSaid : Prop := disputeCountsUptoRow.holds Try.pinned (OpenSpec.upto disputeCountsSpec)

/-- 'lombardlaw16.DisputePlays', WHERE WHAT IT READS IS OF BULK AT MOST 1048576: true; the input reads as it did. -/
def disputePlaysUptoRow : OpenClaim := { program := "ytmiafnndoioddaa", sum := "86caa13d69776983bcf39a8b2c59b9b96db142dbea54e19de07b4e07f2d33a59", func := "lombard/lombardlaw16.DisputePlays", spec := "disputePlays", unfollowed := true, recurses := true, apart := false, narrowed := true }
def DisputePlaysUptoSaid : Prop := disputePlaysUptoRow.holds Try.pinned (OpenSpec.upto disputePlaysSpec)

/-- 'lombardlaw16.DisputeNil', WHERE WHAT IT READS IS OF BULK AT MOST 1048576: true; the input reads as it did. -/
def disputeNilUptoRow : OpenClaim := { program := "ytmiafnndoioddaa", sum := "86caa13d69776983bcf39a8b2c59b9b96db142dbea54e19de07b4e07f2d33a59", func := "lombard/lombardlaw16.DisputeNil", spec := "disputeNil", apart := false, narrowed := true }
def DisputeNilUptoSaid : Prop := disputeNilUptoRow.holds Try.pinned (OpenSpec.upto disputeNilSpec)

end Rows
end Go.Proofs.Ytmiafnndoioddaa

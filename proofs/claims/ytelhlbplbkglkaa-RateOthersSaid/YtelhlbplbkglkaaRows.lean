/-
  No cell of these rows narrows 'for every input' (looked for: loops, veiled, ifaces, maps, wideKeys, modest, calm, conditions, laid).
  DERIVED. THE GIVEN ROWS OF THIS SEAT. 7 by the template 'for every input the law returns true; each argument reads behind the call as it read before'; 0 by the template 'total and deterministic' (their statements: YtelhlbplbkglkaaTotals.lean).
  GIVEN WITH THE SEED: the statements are not yours to turn. If you find one false, say at which input.
  Laid BY PROGRAM, IN A SANDBOX (cutbox-rows.mjs): the forced cells as the released guide's own fill.sh prints them over the translation b159062e8a9ea376… (all of the seat's roots in one cut). By AI agents, Wed Nov 11 2026. No macro, syntax, notation, axiom, sorry.
-/
import Derived.Test.YtelhlbplbkglkaaChecked
import GoSem.Claim
import GoSem.ClaimJoined
import GoSem.ClaimMapViews
import Derived.JoinedTies
import Derived.KernelRfl
namespace Go.Proofs.Ytelhlbplbkglkaa
/- THE CELL 'sum', in the pinned program and in every row, IS THE sha256 OF THE DUMP (.gsa) THAT YtelhlbplbkglkaaProg.lean LOADS. Nothing in Lean hashes anything: it is a label: what it is worth is what the hold of that sum in a sandbox is worth. -/
noncomputable def Try.pinned : Pinned := { name := "ytelhlbplbkglkaa", sum := "b159062e8a9ea376045326def49c27149ba8c8abec780b433c79b74e05fdc2c6", checked := Try.checked }
namespace Rows
def none {H : Type} : Left H := { results := [], args := [] }

/-- 'lombardlaw17.DatedStable': WHATEVER THE INPUT: true; the input reads as it did. -/
def datedStableSpec : ChangeSpec := { name := "datedStable", fn := fun _ => fun
  | [d] => { results := [.lit (.bool true)], args := [d] }
  | _ => none }
def datedStableRow : OpenClaim := { program := "ytelhlbplbkglkaa", sum := "b159062e8a9ea376045326def49c27149ba8c8abec780b433c79b74e05fdc2c6", func := "lombard/lombardlaw17.DatedStable", spec := "datedStable", inPlace := ["slices.overlaps[lombard/api.Event]"], unfollowed := true, recurses := true, apart := false }
def DatedStableSaid : Prop := datedStableRow.holds Try.pinned (OpenSpec.ofChange datedStableSpec)

/-- ITS FALSE NEIGHBOUR: 'it returns false'. Refute it at one input. -/
def datedStableWrong : ChangeSpec := { name := "datedStable", fn := fun _ => fun
  | [d] => { results := [.lit (.bool false)], args := [d] }
  | _ => none }
def DatedStableWrongFalsely : Prop := datedStableRow.holds Try.pinned (OpenSpec.ofChange datedStableWrong)

/-- 'lombardlaw17.DatedPlays': WHATEVER THE INPUT: true; the input reads as it did. -/
def datedPlaysSpec : ChangeSpec := { name := "datedPlays", fn := fun _ => fun
  | [d1, d2, d3, d4] => { results := [.lit (.bool true)], args := [d1, d2, d3, d4] }
  | _ => none }
def datedPlaysRow : OpenClaim := { program := "ytelhlbplbkglkaa", sum := "b159062e8a9ea376045326def49c27149ba8c8abec780b433c79b74e05fdc2c6", func := "lombard/lombardlaw17.DatedPlays", spec := "datedPlays", inPlace := ["slices.overlaps[lombard/api.Event]"], unfollowed := true, recurses := true, apart := false }
def DatedPlaysSaid : Prop := datedPlaysRow.holds Try.pinned (OpenSpec.ofChange datedPlaysSpec)

/-- ITS FALSE NEIGHBOUR: 'it returns false'. Refute it at one input. -/
def datedPlaysWrong : ChangeSpec := { name := "datedPlays", fn := fun _ => fun
  | [d1, d2, d3, d4] => { results := [.lit (.bool false)], args := [d1, d2, d3, d4] }
  | _ => none }
def DatedPlaysWrongFalsely : Prop := datedPlaysRow.holds Try.pinned (OpenSpec.ofChange datedPlaysWrong)

/-- 'lombardlaw17.DatedNil': WHATEVER THE INPUT: true; the input reads as it did. -/
def datedNilSpec : ChangeSpec := { name := "datedNil", fn := fun _ => fun
  | [d1, d2] => { results := [.lit (.bool true)], args := [d1, d2] }
  | _ => none }
def datedNilRow : OpenClaim := { program := "ytelhlbplbkglkaa", sum := "b159062e8a9ea376045326def49c27149ba8c8abec780b433c79b74e05fdc2c6", func := "lombard/lombardlaw17.DatedNil", spec := "datedNil", inPlace := ["slices.overlaps[lombard/api.Event]"], unfollowed := true, recurses := true, apart := false }
def DatedNilSaid : Prop := datedNilRow.holds Try.pinned (OpenSpec.ofChange datedNilSpec)

/-- ITS FALSE NEIGHBOUR: 'it returns false'. Refute it at one input. -/
def datedNilWrong : ChangeSpec := { name := "datedNil", fn := fun _ => fun
  | [d1, d2] => { results := [.lit (.bool false)], args := [d1, d2] }
  | _ => none }
def DatedNilWrongFalsely : Prop := datedNilRow.holds Try.pinned (OpenSpec.ofChange datedNilWrong)

/-- 'lombardlaw17.DatedSorts': WHATEVER THE INPUT: true; the input reads as it did. -/
def datedSortsSpec : ChangeSpec := { name := "datedSorts", fn := fun _ => fun
  | [d] => { results := [.lit (.bool true)], args := [d] }
  | _ => none }
def datedSortsRow : OpenClaim := { program := "ytelhlbplbkglkaa", sum := "b159062e8a9ea376045326def49c27149ba8c8abec780b433c79b74e05fdc2c6", func := "lombard/lombardlaw17.DatedSorts", spec := "datedSorts", inPlace := ["slices.overlaps[lombard/api.Event]"], unfollowed := true, recurses := true, apart := false }
def DatedSortsSaid : Prop := datedSortsRow.holds Try.pinned (OpenSpec.ofChange datedSortsSpec)

/-- ITS FALSE NEIGHBOUR: 'it returns false'. Refute it at one input. -/
def datedSortsWrong : ChangeSpec := { name := "datedSorts", fn := fun _ => fun
  | [d] => { results := [.lit (.bool false)], args := [d] }
  | _ => none }
def DatedSortsWrongFalsely : Prop := datedSortsRow.holds Try.pinned (OpenSpec.ofChange datedSortsWrong)

/-- 'lombardlaw08.RateTells': WHATEVER THE INPUT: true; the input reads as it did. -/
def rateTellsSpec : ChangeSpec := { name := "rateTells", fn := fun _ => fun
  | [d1, d2, d3, d4, d5] => { results := [.lit (.bool true)], args := [d1, d2, d3, d4, d5] }
  | _ => none }
def rateTellsRow : OpenClaim := { program := "ytelhlbplbkglkaa", sum := "b159062e8a9ea376045326def49c27149ba8c8abec780b433c79b74e05fdc2c6", func := "lombard/lombardlaw08.RateTells", spec := "rateTells", unfollowed := true, recurses := true, apart := false }
def RateTellsSaid : Prop := rateTellsRow.holds Try.pinned (OpenSpec.ofChange rateTellsSpec)

/-- ITS FALSE NEIGHBOUR: 'it returns false'. Refute it at one input. -/
def rateTellsWrong : ChangeSpec := { name := "rateTells", fn := fun _ => fun
  | [d1, d2, d3, d4, d5] => { results := [.lit (.bool false)], args := [d1, d2, d3, d4, d5] }
  | _ => none }
def RateTellsWrongFalsely : Prop := rateTellsRow.holds Try.pinned (OpenSpec.ofChange rateTellsWrong)

/-- 'lombardlaw08.RateSteps': WHATEVER THE INPUT: true; the input reads as it did. -/
def rateStepsSpec : ChangeSpec := { name := "rateSteps", fn := fun _ => fun
  | [d1, d2, d3, d4] => { results := [.lit (.bool true)], args := [d1, d2, d3, d4] }
  | _ => none }
def rateStepsRow : OpenClaim := { program := "ytelhlbplbkglkaa", sum := "b159062e8a9ea376045326def49c27149ba8c8abec780b433c79b74e05fdc2c6", func := "lombard/lombardlaw08.RateSteps", spec := "rateSteps", unfollowed := true, recurses := true, apart := false }
def RateStepsSaid : Prop := rateStepsRow.holds Try.pinned (OpenSpec.ofChange rateStepsSpec)

/-- ITS FALSE NEIGHBOUR: 'it returns false'. Refute it at one input. -/
def rateStepsWrong : ChangeSpec := { name := "rateSteps", fn := fun _ => fun
  | [d1, d2, d3, d4] => { results := [.lit (.bool false)], args := [d1, d2, d3, d4] }
  | _ => none }
def RateStepsWrongFalsely : Prop := rateStepsRow.holds Try.pinned (OpenSpec.ofChange rateStepsWrong)

/-- 'lombardlaw08.RateOthers': WHATEVER THE INPUT: true; the input reads as it did. -/
def rateOthersSpec : ChangeSpec := { name := "rateOthers", fn := fun _ => fun
  | [d1, d2, d3, d4] => { results := [.lit (.bool true)], args := [d1, d2, d3, d4] }
  | _ => none }
def rateOthersRow : OpenClaim := { program := "ytelhlbplbkglkaa", sum := "b159062e8a9ea376045326def49c27149ba8c8abec780b433c79b74e05fdc2c6", func := "lombard/lombardlaw08.RateOthers", spec := "rateOthers", unfollowed := true, recurses := true, apart := false }
def RateOthersSaid : Prop := rateOthersRow.holds Try.pinned (OpenSpec.ofChange rateOthersSpec)

/-- ITS FALSE NEIGHBOUR: 'it returns false'. Refute it at one input. -/
def rateOthersWrong : ChangeSpec := { name := "rateOthers", fn := fun _ => fun
  | [d1, d2, d3, d4] => { results := [.lit (.bool false)], args := [d1, d2, d3, d4] }
  | _ => none }
def RateOthersWrongFalsely : Prop := rateOthersRow.holds Try.pinned (OpenSpec.ofChange rateOthersWrong)

/- THE SECOND FORM. 'bulk': how many values and letters a reading holds, each counted each time it is reached (what is shared counts as often as it is met; a slice's spare places count too). A statement '..UptoSaid' is the law's where the arguments, and the package variables that the reading takes, are together of bulk at most 1048576: NARROWER than '..Said'. Prove '..Said' where nothing that the law and all that it calls make is longer than what came in: it says more and counts as full. Else prove '..UptoSaid'. A law counts once. -/
mutual
def uptoBulk {H : Type} : DataW H → Nat
  | .lit (.string bytes) => bytes.length + 1
  | .lit _ => 1
  | .nil => 1
  | .ptr d => uptoBulk d + 1
  | .slice elems spare => uptoBulkAll elems + uptoBulkAll spare + 1
  | .agg parts => uptoBulkAll parts + 1
  | .iface _ d => uptoBulk d + 1
  | .map entries => uptoBulkEntries entries + 1
  | .held _ => 1
def uptoBulkAll {H : Type} : List (DataW H) → Nat
  | [] => 0
  | d :: r => uptoBulk d + uptoBulkAll r
def uptoBulkEntries {H : Type} : List (Lit × DataW H) → Nat
  | [] => 0
  | x :: r => uptoBulkEntry x + uptoBulkEntries r
def uptoBulkEntry {H : Type} : Lit × DataW H → Nat
  | (.string bytes, d) => bytes.length + uptoBulk d + 1
  | (_, d) => uptoBulk d + 1
 end
def uptoSmall : (H : Type) → List (DataW H) → Bool := fun _ ds => decide (uptoBulkAll ds ≤ 1048576)
def OpenSpec.upto (s : _root_.Go.ChangeSpec) : _root_.Go.OpenSpec := { _root_.Go.OpenSpec.ofChange s with cond := some uptoSmall }

/-- 'lombardlaw17.DatedStable', WHERE WHAT IT READS IS OF BULK AT MOST 1048576: true; the input reads as it did. -/
def datedStableUptoRow : OpenClaim := { program := "ytelhlbplbkglkaa", sum := "b159062e8a9ea376045326def49c27149ba8c8abec780b433c79b74e05fdc2c6", func := "lombard/lombardlaw17.DatedStable", spec := "datedStable", inPlace := ["slices.overlaps[lombard/api.Event]"], unfollowed := true, recurses := true, apart := false, narrowed := true }
def DatedStableUptoSaid : Prop := datedStableUptoRow.holds Try.pinned (OpenSpec.upto datedStableSpec)

/-- 'lombardlaw17.DatedPlays', WHERE WHAT IT READS IS OF BULK AT MOST 1048576: true; the input reads as it did. -/
def datedPlaysUptoRow : OpenClaim := { program := "ytelhlbplbkglkaa", sum := "b159062e8a9ea376045326def49c27149ba8c8abec780b433c79b74e05fdc2c6", func := "lombard/lombardlaw17.DatedPlays", spec := "datedPlays", inPlace := ["slices.overlaps[lombard/api.Event]"], unfollowed := true, recurses := true, apart := false, narrowed := true }
def DatedPlaysUptoSaid : Prop := datedPlaysUptoRow.holds Try.pinned (OpenSpec.upto datedPlaysSpec)

/-- 'lombardlaw17.DatedNil', WHERE WHAT IT READS IS OF BULK AT MOST 1048576: true; the input reads as it did. -/
def datedNilUptoRow : OpenClaim := { program := "ytelhlbplbkglkaa", sum := "b159062e8a9ea376045326def49c27149ba8c8abec780b433c79b74e05fdc2c6", func := "lombard/lombardlaw17.DatedNil", spec := "datedNil", inPlace := ["slices.overlaps[lombard/api.Event]"], unfollowed := true, recurses := true, apart := false, narrowed := true }
def DatedNilUptoSaid : Prop := datedNilUptoRow.holds Try.pinned (OpenSpec.upto datedNilSpec)

/-- 'lombardlaw17.DatedSorts', WHERE WHAT IT READS IS OF BULK AT MOST 1048576: true; the input reads as it did. -/
def datedSortsUptoRow : OpenClaim := { program := "ytelhlbplbkglkaa", sum := "b159062e8a9ea376045326def49c27149ba8c8abec780b433c79b74e05fdc2c6", func := "lombard/lombardlaw17.DatedSorts", spec := "datedSorts", inPlace := ["slices.overlaps[lombard/api.Event]"], unfollowed := true, recurses := true, apart := false, narrowed := true }
def DatedSortsUptoSaid : Prop := datedSortsUptoRow.holds Try.pinned (OpenSpec.upto datedSortsSpec)

/-- 'lombardlaw08.RateTells', WHERE WHAT IT READS IS OF BULK AT MOST 1048576: true; the input reads as it did. -/
def rateTellsUptoRow : OpenClaim := { program := "ytelhlbplbkglkaa", sum := "b159062e8a9ea376045326def49c27149ba8c8abec780b433c79b74e05fdc2c6", func := "lombard/lombardlaw08.RateTells", spec := "rateTells", unfollowed := true, recurses := true, apart := false, narrowed := true }
def RateTellsUptoSaid : Prop := rateTellsUptoRow.holds Try.pinned (OpenSpec.upto rateTellsSpec)

/-- 'lombardlaw08.RateSteps', WHERE WHAT IT READS IS OF BULK AT MOST 1048576: true; the input reads as it did. -/
def rateStepsUptoRow : OpenClaim := { program := "ytelhlbplbkglkaa", sum := "b159062e8a9ea376045326def49c27149ba8c8abec780b433c79b74e05fdc2c6", func := "lombard/lombardlaw08.RateSteps", spec := "rateSteps", unfollowed := true, recurses := true, apart := false, narrowed := true }
def RateStepsUptoSaid : Prop := rateStepsUptoRow.holds Try.pinned (OpenSpec.upto rateStepsSpec)

/-- 'lombardlaw08.RateOthers', WHERE WHAT IT READS IS OF BULK AT MOST 1048576: true; the input reads as it did. -/
def rateOthersUptoRow : OpenClaim := { program := "ytelhlbplbkglkaa", sum := "b159062e8a9ea376045326def49c27149ba8c8abec780b433c79b74e05fdc2c6", func := "lombard/lombardlaw08.RateOthers", spec := "rateOthers", unfollowed := true, recurses := true, apart := false, narrowed := true }
def RateOthersUptoSaid : Prop := rateOthersUptoRow.holds Try.pinned (OpenSpec.upto rateOthersSpec)

end Rows
end Go.Proofs.Ytelhlbplbkglkaa

/-
  No cell of these rows narrows 'for every input' (looked for: loops, veiled, ifaces, maps, wideKeys, modest, calm, conditions, laid).
  DERIVED. THE GIVEN ROWS OF THIS SEAT. 4 by the template 'for every input the law returns true; each argument reads behind the call as it read before'; 0 by the template 'total and deterministic' (their statements: YtddmmnkhblcpiaaTotals.lean).
  GIVEN WITH THE SEED: the statements are not yours to turn. If you find one false, say at which input.
  Laid BY PROGRAM, IN A SANDBOX (cutbox-rows.mjs): the forced cells as the released guide's own fill.sh prints them over the translation 1582ddfa38ec7d53… (all of the seat's roots in one cut). By AI agents, Wed Nov 11 2026. No macro, syntax, notation, axiom, sorry.
-/
import Derived.Test.YtddmmnkhblcpiaaChecked
import GoSem.Claim
import GoSem.ClaimJoined
import GoSem.ClaimMapViews
import Derived.JoinedTies
import Derived.KernelRfl
namespace Go.Proofs.Ytddmmnkhblcpiaa
/- THE CELL 'sum', in the pinned program and in every row, IS THE sha256 OF THE DUMP (.gsa) THAT YtddmmnkhblcpiaaProg.lean LOADS. Nothing in Lean hashes anything: it is a label: what it is worth is what the hold of that sum in a sandbox is worth. -/
noncomputable def Try.pinned : Pinned := { name := "ytddmmnkhblcpiaa", sum := "1582ddfa38ec7d53a6114d9760e851fb97bc2ca4ec34eafac4a57bc475be1db0", checked := Try.checked }
namespace Rows
def none {H : Type} : Left H := { results := [], args := [] }

/-- 'lombardlaw12.SeriesSplit': WHATEVER THE INPUT: true; the input reads as it did. -/
def seriesSplitSpec : ChangeSpec := { name := "seriesSplit", fn := fun _ => fun
  | [d1, d2, d3, d4] => { results := [.lit (.bool true)], args := [d1, d2, d3, d4] }
  | _ => none }
def seriesSplitRow : OpenClaim := { program := "ytddmmnkhblcpiaa", sum := "1582ddfa38ec7d53a6114d9760e851fb97bc2ca4ec34eafac4a57bc475be1db0", func := "lombard/lombardlaw12.SeriesSplit", spec := "seriesSplit", inPlace := ["slices.overlaps[lombard/series.turn]", "math/bits.Add64"], apart := false }
def SeriesSplitSaid : Prop := seriesSplitRow.holds Try.pinned (OpenSpec.ofChange seriesSplitSpec)

/-- ITS FALSE NEIGHBOUR: 'it returns false'. Refute it at one input. -/
def seriesSplitWrong : ChangeSpec := { name := "seriesSplit", fn := fun _ => fun
  | [d1, d2, d3, d4] => { results := [.lit (.bool false)], args := [d1, d2, d3, d4] }
  | _ => none }
def SeriesSplitWrongFalsely : Prop := seriesSplitRow.holds Try.pinned (OpenSpec.ofChange seriesSplitWrong)

/-- 'lombardlaw12.SeriesOrder': WHATEVER THE INPUT: true; the input reads as it did. -/
def seriesOrderSpec : ChangeSpec := { name := "seriesOrder", fn := fun _ => fun
  | [d1, d2] => { results := [.lit (.bool true)], args := [d1, d2] }
  | _ => none }
def seriesOrderRow : OpenClaim := { program := "ytddmmnkhblcpiaa", sum := "1582ddfa38ec7d53a6114d9760e851fb97bc2ca4ec34eafac4a57bc475be1db0", func := "lombard/lombardlaw12.SeriesOrder", spec := "seriesOrder", inPlace := ["slices.overlaps[lombard/series.turn]", "math/bits.Add64"], apart := false }
def SeriesOrderSaid : Prop := seriesOrderRow.holds Try.pinned (OpenSpec.ofChange seriesOrderSpec)

/-- ITS FALSE NEIGHBOUR: 'it returns false'. Refute it at one input. -/
def seriesOrderWrong : ChangeSpec := { name := "seriesOrder", fn := fun _ => fun
  | [d1, d2] => { results := [.lit (.bool false)], args := [d1, d2] }
  | _ => none }
def SeriesOrderWrongFalsely : Prop := seriesOrderRow.holds Try.pinned (OpenSpec.ofChange seriesOrderWrong)

/-- 'lombardlaw12.SeriesPlays': WHATEVER THE INPUT: true; the input reads as it did. -/
def seriesPlaysSpec : ChangeSpec := { name := "seriesPlays", fn := fun _ => fun
  | [d1, d2, d3, d4] => { results := [.lit (.bool true)], args := [d1, d2, d3, d4] }
  | _ => none }
def seriesPlaysRow : OpenClaim := { program := "ytddmmnkhblcpiaa", sum := "1582ddfa38ec7d53a6114d9760e851fb97bc2ca4ec34eafac4a57bc475be1db0", func := "lombard/lombardlaw12.SeriesPlays", spec := "seriesPlays", inPlace := ["slices.overlaps[lombard/series.turn]", "math/bits.Add64"], unfollowed := true, recurses := true, apart := false }
def SeriesPlaysSaid : Prop := seriesPlaysRow.holds Try.pinned (OpenSpec.ofChange seriesPlaysSpec)

/-- ITS FALSE NEIGHBOUR: 'it returns false'. Refute it at one input. -/
def seriesPlaysWrong : ChangeSpec := { name := "seriesPlays", fn := fun _ => fun
  | [d1, d2, d3, d4] => { results := [.lit (.bool false)], args := [d1, d2, d3, d4] }
  | _ => none }
def SeriesPlaysWrongFalsely : Prop := seriesPlaysRow.holds Try.pinned (OpenSpec.ofChange seriesPlaysWrong)

/-- 'lombardlaw12.SeriesNil': WHATEVER THE INPUT: true; the input reads as it did. -/
def seriesNilSpec : ChangeSpec := { name := "seriesNil", fn := fun _ => fun
  | [d1, d2, d3] => { results := [.lit (.bool true)], args := [d1, d2, d3] }
  | _ => none }
def seriesNilRow : OpenClaim := { program := "ytddmmnkhblcpiaa", sum := "1582ddfa38ec7d53a6114d9760e851fb97bc2ca4ec34eafac4a57bc475be1db0", func := "lombard/lombardlaw12.SeriesNil", spec := "seriesNil", inPlace := ["math/bits.Add64", "slices.overlaps[lombard/series.turn]"], apart := false }
def SeriesNilSaid : Prop := seriesNilRow.holds Try.pinned (OpenSpec.ofChange seriesNilSpec)

/-- ITS FALSE NEIGHBOUR: 'it returns false'. Refute it at one input. -/
def seriesNilWrong : ChangeSpec := { name := "seriesNil", fn := fun _ => fun
  | [d1, d2, d3] => { results := [.lit (.bool false)], args := [d1, d2, d3] }
  | _ => none }
def SeriesNilWrongFalsely : Prop := seriesNilRow.holds Try.pinned (OpenSpec.ofChange seriesNilWrong)

/- THE SECOND FORM. 'bulk': how many values and letters a reading holds, each counted each time it is reached (what is shared counts as often as it is met; a slice's spare places count too). A statement '..UptoSaid' is the law's where the arguments, and the package variables that the reading takes, are together of bulk at most 1048576: NARROWER than '..Said'. Prove '..Said' where nothing that the law and all that it calls make is longer than what came in: it says more and counts as full. Else prove '..UptoSaid'. A law counts once. -/
mutual
def uptoBulk {H : Type} : DataW H → Nat
  | .lit (.string bytes) => bytes.length + 1
  | .lit _ => 1
  | .nil => 1
  | .ptr d => uptoBulk d + 1
  | .slice elems spare => uptoBulkAll elems + uptoBulkAll spare + 1
  | .agg parts => uptoBulkAll parts + 1
  | .iface _ d => uptoBulk d + 1
  | .map entries => uptoBulkEntries entries + 1
  | .held _ => 1
def uptoBulkAll {H : Type} : List (DataW H) → Nat
  | [] => 0
  | d :: r => uptoBulk d + uptoBulkAll r
def uptoBulkEntries {H : Type} : List (Lit × DataW H) → Nat
  | [] => 0
  | x :: r => uptoBulkEntry x + uptoBulkEntries r
def uptoBulkEntry {H : Type} : Lit × DataW H → Nat
  | (.string bytes, d) => bytes.length + uptoBulk d + 1
  | (_, d) => uptoBulk d + 1
 end
def uptoSmall : (H : Type) → List (DataW H) → Bool := fun _ ds => decide (uptoBulkAll ds ≤ 1048576)
def OpenSpec.upto (s : _root_.Go.ChangeSpec) : _root_.Go.OpenSpec := { _root_.Go.OpenSpec.ofChange s with cond := some uptoSmall }

/-- 'lombardlaw12.SeriesSplit', WHERE WHAT IT READS IS OF BULK AT MOST 1048576: true; the input reads as it did. -/
def seriesSplitUptoRow : OpenClaim := { program := "ytddmmnkhblcpiaa", sum := "1582ddfa38ec7d53a6114d9760e851fb97bc2ca4ec34eafac4a57bc475be1db0", func := "lombard/lombardlaw12.SeriesSplit", spec := "seriesSplit", inPlace := ["slices.overlaps[lombard/series.turn]", "math/bits.Add64"], apart := false, narrowed := true }
def SeriesSplitUptoSaid : Prop := seriesSplitUptoRow.holds Try.pinned (OpenSpec.upto seriesSplitSpec)

/-- 'lombardlaw12.SeriesOrder', WHERE WHAT IT READS IS OF BULK AT MOST 1048576: true; the input reads as it did. -/
def seriesOrderUptoRow : OpenClaim := { program := "ytddmmnkhblcpiaa", sum := "1582ddfa38ec7d53a6114d9760e851fb97bc2ca4ec34eafac4a57bc475be1db0", func := "lombard/lombardlaw12.SeriesOrder", spec := "seriesOrder", inPlace := ["slices.overlaps[lombard/series.turn]", "math/bits.Add64"], apart := false, narrowed := true }
def SeriesOrderUptoSaid : Prop := seriesOrderUptoRow.holds Try.pinned (OpenSpec.upto seriesOrderSpec)

/-- 'lombardlaw12.SeriesPlays', WHERE WHAT IT READS IS OF BULK AT MOST 1048576: true; the input reads as it did. -/
def seriesPlaysUptoRow : OpenClaim := { program := "ytddmmnkhblcpiaa", sum := "1582ddfa38ec7d53a6114d9760e851fb97bc2ca4ec34eafac4a57bc475be1db0", func := "lombard/lombardlaw12.SeriesPlays", spec := "seriesPlays", inPlace := ["slices.overlaps[lombard/series.turn]", "math/bits.Add64"], unfollowed := true, recurses := true, apart := false, narrowed := true }
def SeriesPlaysUptoSaid : Prop := seriesPlaysUptoRow.holds Try.pinned (OpenSpec.upto seriesPlaysSpec)

/-- 'lombardlaw12.SeriesNil', WHERE WHAT IT READS IS OF BULK AT MOST 1048576: true; the input reads as it did. -/
def seriesNilUptoRow : OpenClaim := { program := "ytddmmnkhblcpiaa", sum := "1582ddfa38ec7d53a6114d9760e851fb97bc2ca4ec34eafac4a57bc475be1db0", func := "lombard/lombardlaw12.SeriesNil", spec := "seriesNil", inPlace := ["math/bits.Add64", "slices.overlaps[lombard/series.turn]"], apart := false, narrowed := true }
def SeriesNilUptoSaid : Prop := seriesNilUptoRow.holds Try.pinned (OpenSpec.upto seriesNilSpec)

end Rows
end Go.Proofs.Ytddmmnkhblcpiaa

/-
  No cell of these rows narrows 'for every input' (looked for: loops, veiled, ifaces, maps, wideKeys, modest, calm, conditions, laid).
  DERIVED. THE GIVEN ROWS OF THIS SEAT. 8 by the template 'for every input the law returns true; each argument reads behind the call as it read before'; 0 by the template 'total and deterministic' (their statements: YthcmpcekmkioaaaTotals.lean).
  GIVEN WITH THE SEED: the statements are not yours to turn. If you find one false, say at which input.
  Laid BY PROGRAM, IN A SANDBOX (cutbox-rows.mjs): the forced cells as the released guide's own fill.sh prints them over the translation 1d70e66f1095dcc0… (all of the seat's roots in one cut). By AI agents, Wed Nov 11 2026. No macro, syntax, notation, axiom, sorry.
-/
import Derived.Test.YthcmpcekmkioaaaChecked
import GoSem.Claim
import GoSem.ClaimJoined
import GoSem.ClaimMapViews
import Derived.JoinedTies
import Derived.KernelRfl
namespace Go.Proofs.Ythcmpcekmkioaaa
/- THE CELL 'sum', in the pinned program and in every row, IS THE sha256 OF THE DUMP (.gsa) THAT YthcmpcekmkioaaaProg.lean LOADS. Nothing in Lean hashes anything: it is a label: what it is worth is what the hold of that sum in a sandbox is worth. -/
noncomputable def Try.pinned : Pinned := { name := "ythcmpcekmkioaaa", sum := "1d70e66f1095dcc06348e5f73c50e8bfa967954f1f22c5ec328390fbae9fab68", checked := Try.checked }
namespace Rows
def none {H : Type} : Left H := { results := [], args := [] }

/-- 'lombardlaw19.ReplayOrder': WHATEVER THE INPUT: true; the input reads as it did. -/
def replayOrderSpec : ChangeSpec := { name := "replayOrder", fn := fun _ => fun
  | [d1, d2, d3] => { results := [.lit (.bool true)], args := [d1, d2, d3] }
  | _ => none }
def replayOrderRow : OpenClaim := { program := "ythcmpcekmkioaaa", sum := "1d70e66f1095dcc06348e5f73c50e8bfa967954f1f22c5ec328390fbae9fab68", func := "lombard/lombardlaw19.ReplayOrder", spec := "replayOrder", inPlace := ["math/bits.Add64"], unfollowed := true, recurses := true, named := ["math/bits.divideError", "math/bits.overflowError"], apart := false }
def ReplayOrderSaid : Prop := replayOrderRow.holds Try.pinned (OpenSpec.ofChange replayOrderSpec)

/-- ITS FALSE NEIGHBOUR: 'it returns false'. Refute it at one input. -/
def replayOrderWrong : ChangeSpec := { name := "replayOrder", fn := fun _ => fun
  | [d1, d2, d3] => { results := [.lit (.bool false)], args := [d1, d2, d3] }
  | _ => none }
def ReplayOrderWrongFalsely : Prop := replayOrderRow.holds Try.pinned (OpenSpec.ofChange replayOrderWrong)

/-- 'lombardlaw19.ReplayEmpty': WHATEVER THE INPUT: true; the input reads as it did. -/
def replayEmptySpec : ChangeSpec := { name := "replayEmpty", fn := fun _ => fun
  | [d1, d2] => { results := [.lit (.bool true)], args := [d1, d2] }
  | _ => none }
def replayEmptyRow : OpenClaim := { program := "ythcmpcekmkioaaa", sum := "1d70e66f1095dcc06348e5f73c50e8bfa967954f1f22c5ec328390fbae9fab68", func := "lombard/lombardlaw19.ReplayEmpty", spec := "replayEmpty", inPlace := ["math/bits.Add64"], unfollowed := true, recurses := true, named := ["math/bits.divideError", "math/bits.overflowError"], apart := false }
def ReplayEmptySaid : Prop := replayEmptyRow.holds Try.pinned (OpenSpec.ofChange replayEmptySpec)

/-- ITS FALSE NEIGHBOUR: 'it returns false'. Refute it at one input. -/
def replayEmptyWrong : ChangeSpec := { name := "replayEmpty", fn := fun _ => fun
  | [d1, d2] => { results := [.lit (.bool false)], args := [d1, d2] }
  | _ => none }
def ReplayEmptyWrongFalsely : Prop := replayEmptyRow.holds Try.pinned (OpenSpec.ofChange replayEmptyWrong)

/-- 'lombardlaw19.ReplayGrace': WHATEVER THE INPUT: true; the input reads as it did. -/
def replayGraceSpec : ChangeSpec := { name := "replayGrace", fn := fun _ => fun
  | [d1, d2, d3] => { results := [.lit (.bool true)], args := [d1, d2, d3] }
  | _ => none }
def replayGraceRow : OpenClaim := { program := "ythcmpcekmkioaaa", sum := "1d70e66f1095dcc06348e5f73c50e8bfa967954f1f22c5ec328390fbae9fab68", func := "lombard/lombardlaw19.ReplayGrace", spec := "replayGrace", inPlace := ["math/bits.Add64"], unfollowed := true, recurses := true, named := ["math/bits.divideError", "math/bits.overflowError"], apart := false }
def ReplayGraceSaid : Prop := replayGraceRow.holds Try.pinned (OpenSpec.ofChange replayGraceSpec)

/-- ITS FALSE NEIGHBOUR: 'it returns false'. Refute it at one input. -/
def replayGraceWrong : ChangeSpec := { name := "replayGrace", fn := fun _ => fun
  | [d1, d2, d3] => { results := [.lit (.bool false)], args := [d1, d2, d3] }
  | _ => none }
def ReplayGraceWrongFalsely : Prop := replayGraceRow.holds Try.pinned (OpenSpec.ofChange replayGraceWrong)

/-- 'lombardlaw19.ReplayRates': WHATEVER THE INPUT: true; the input reads as it did. -/
def replayRatesSpec : ChangeSpec := { name := "replayRates", fn := fun _ => fun
  | [d1, d2, d3] => { results := [.lit (.bool true)], args := [d1, d2, d3] }
  | _ => none }
def replayRatesRow : OpenClaim := { program := "ythcmpcekmkioaaa", sum := "1d70e66f1095dcc06348e5f73c50e8bfa967954f1f22c5ec328390fbae9fab68", func := "lombard/lombardlaw19.ReplayRates", spec := "replayRates", inPlace := ["math/bits.Add64"], unfollowed := true, recurses := true, named := ["math/bits.divideError", "math/bits.overflowError"], apart := false }
def ReplayRatesSaid : Prop := replayRatesRow.holds Try.pinned (OpenSpec.ofChange replayRatesSpec)

/-- ITS FALSE NEIGHBOUR: 'it returns false'. Refute it at one input. -/
def replayRatesWrong : ChangeSpec := { name := "replayRates", fn := fun _ => fun
  | [d1, d2, d3] => { results := [.lit (.bool false)], args := [d1, d2, d3] }
  | _ => none }
def ReplayRatesWrongFalsely : Prop := replayRatesRow.holds Try.pinned (OpenSpec.ofChange replayRatesWrong)

/-- 'lombardlaw19.ReplayBack': WHATEVER THE INPUT: true; the input reads as it did. -/
def replayBackSpec : ChangeSpec := { name := "replayBack", fn := fun _ => fun
  | [d1, d2, d3] => { results := [.lit (.bool true)], args := [d1, d2, d3] }
  | _ => none }
def replayBackRow : OpenClaim := { program := "ythcmpcekmkioaaa", sum := "1d70e66f1095dcc06348e5f73c50e8bfa967954f1f22c5ec328390fbae9fab68", func := "lombard/lombardlaw19.ReplayBack", spec := "replayBack", inPlace := ["math/bits.Add64"], unfollowed := true, recurses := true, named := ["math/bits.divideError", "math/bits.overflowError"], apart := false }
def ReplayBackSaid : Prop := replayBackRow.holds Try.pinned (OpenSpec.ofChange replayBackSpec)

/-- ITS FALSE NEIGHBOUR: 'it returns false'. Refute it at one input. -/
def replayBackWrong : ChangeSpec := { name := "replayBack", fn := fun _ => fun
  | [d1, d2, d3] => { results := [.lit (.bool false)], args := [d1, d2, d3] }
  | _ => none }
def ReplayBackWrongFalsely : Prop := replayBackRow.holds Try.pinned (OpenSpec.ofChange replayBackWrong)

/-- 'lombardlaw19.ReplayHolds': WHATEVER THE INPUT: true; the input reads as it did. -/
def replayHoldsSpec : ChangeSpec := { name := "replayHolds", fn := fun _ => fun
  | [d1, d2, d3, d4] => { results := [.lit (.bool true)], args := [d1, d2, d3, d4] }
  | _ => none }
def replayHoldsRow : OpenClaim := { program := "ythcmpcekmkioaaa", sum := "1d70e66f1095dcc06348e5f73c50e8bfa967954f1f22c5ec328390fbae9fab68", func := "lombard/lombardlaw19.ReplayHolds", spec := "replayHolds", inPlace := ["math/bits.Add64"], unfollowed := true, recurses := true, named := ["math/bits.divideError", "math/bits.overflowError"], apart := false }
def ReplayHoldsSaid : Prop := replayHoldsRow.holds Try.pinned (OpenSpec.ofChange replayHoldsSpec)

/-- ITS FALSE NEIGHBOUR: 'it returns false'. Refute it at one input. -/
def replayHoldsWrong : ChangeSpec := { name := "replayHolds", fn := fun _ => fun
  | [d1, d2, d3, d4] => { results := [.lit (.bool false)], args := [d1, d2, d3, d4] }
  | _ => none }
def ReplayHoldsWrongFalsely : Prop := replayHoldsRow.holds Try.pinned (OpenSpec.ofChange replayHoldsWrong)

/-- 'lombardlaw19.ReplayCredit': WHATEVER THE INPUT: true; the input reads as it did. -/
def replayCreditSpec : ChangeSpec := { name := "replayCredit", fn := fun _ => fun
  | [d1, d2, d3, d4] => { results := [.lit (.bool true)], args := [d1, d2, d3, d4] }
  | _ => none }
def replayCreditRow : OpenClaim := { program := "ythcmpcekmkioaaa", sum := "1d70e66f1095dcc06348e5f73c50e8bfa967954f1f22c5ec328390fbae9fab68", func := "lombard/lombardlaw19.ReplayCredit", spec := "replayCredit", inPlace := ["math/bits.Add64"], unfollowed := true, recurses := true, named := ["math/bits.divideError", "math/bits.overflowError"], apart := false }
def ReplayCreditSaid : Prop := replayCreditRow.holds Try.pinned (OpenSpec.ofChange replayCreditSpec)

/-- ITS FALSE NEIGHBOUR: 'it returns false'. Refute it at one input. -/
def replayCreditWrong : ChangeSpec := { name := "replayCredit", fn := fun _ => fun
  | [d1, d2, d3, d4] => { results := [.lit (.bool false)], args := [d1, d2, d3, d4] }
  | _ => none }
def ReplayCreditWrongFalsely : Prop := replayCreditRow.holds Try.pinned (OpenSpec.ofChange replayCreditWrong)

/-- 'lombardlaw19.ReplayRefused': WHATEVER THE INPUT: true; the input reads as it did. -/
def replayRefusedSpec : ChangeSpec := { name := "replayRefused", fn := fun _ => fun
  | [d] => { results := [.lit (.bool true)], args := [d] }
  | _ => none }
def replayRefusedRow : OpenClaim := { program := "ythcmpcekmkioaaa", sum := "1d70e66f1095dcc06348e5f73c50e8bfa967954f1f22c5ec328390fbae9fab68", func := "lombard/lombardlaw19.ReplayRefused", spec := "replayRefused", inPlace := ["math/bits.Add64"], unfollowed := true, recurses := true, named := ["math/bits.divideError", "math/bits.overflowError"], apart := false }
def ReplayRefusedSaid : Prop := replayRefusedRow.holds Try.pinned (OpenSpec.ofChange replayRefusedSpec)

/-- ITS FALSE NEIGHBOUR: 'it returns false'. Refute it at one input. -/
def replayRefusedWrong : ChangeSpec := { name := "replayRefused", fn := fun _ => fun
  | [d] => { results := [.lit (.bool false)], args := [d] }
  | _ => none }
def ReplayRefusedWrongFalsely : Prop := replayRefusedRow.holds Try.pinned (OpenSpec.ofChange replayRefusedWrong)

/- THE SECOND FORM. 'bulk': how many values and letters a reading holds, each counted each time it is reached (what is shared counts as often as it is met; a slice's spare places count too). A statement '..UptoSaid' is the law's where the arguments, and the package variables that the reading takes, are together of bulk at most 1048576: NARROWER than '..Said'. Prove '..Said' where nothing that the law and all that it calls make is longer than what came in: it says more and counts as full. Else prove '..UptoSaid'. A law counts once. -/
mutual
def uptoBulk {H : Type} : DataW H → Nat
  | .lit (.string bytes) => bytes.length + 1
  | .lit _ => 1
  | .nil => 1
  | .ptr d => uptoBulk d + 1
  | .slice elems spare => uptoBulkAll elems + uptoBulkAll spare + 1
  | .agg parts => uptoBulkAll parts + 1
  | .iface _ d => uptoBulk d + 1
  | .map entries => uptoBulkEntries entries + 1
  | .held _ => 1
def uptoBulkAll {H : Type} : List (DataW H) → Nat
  | [] => 0
  | d :: r => uptoBulk d + uptoBulkAll r
def uptoBulkEntries {H : Type} : List (Lit × DataW H) → Nat
  | [] => 0
  | x :: r => uptoBulkEntry x + uptoBulkEntries r
def uptoBulkEntry {H : Type} : Lit × DataW H → Nat
  | (.string bytes, d) => bytes.length + uptoBulk d + 1
  | (_, d) => uptoBulk d + 1
 end
def uptoSmall : (H : Type) → List (DataW H) → Bool := fun _ ds => decide (uptoBulkAll ds ≤ 1048576)
def OpenSpec.upto (s : _root_.Go.ChangeSpec) : _root_.Go.OpenSpec := { _root_.Go.OpenSpec.ofChange s with cond := some uptoSmall }

/-- 'lombardlaw19.ReplayOrder', WHERE WHAT IT READS IS OF BULK AT MOST 1048576: true; the input reads as it did. -/
def replayOrderUptoRow : OpenClaim := { program := "ythcmpcekmkioaaa", sum := "1d70e66f1095dcc06348e5f73c50e8bfa967954f1f22c5ec328390fbae9fab68", func := "lombard/lombardlaw19.ReplayOrder", spec := "replayOrder", inPlace := ["math/bits.Add64"], unfollowed := true, recurses := true, named := ["math/bits.divideError", "math/bits.overflowError"], apart := false, narrowed := true }
def ReplayOrderUptoSaid : Prop := replayOrderUptoRow.holds Try.pinned (OpenSpec.upto replayOrderSpec)

/-- 'lombardlaw19.ReplayEmpty', WHERE WHAT IT READS IS OF BULK AT MOST 1048576: true; the input reads as it did. -/
def replayEmptyUptoRow : OpenClaim := { program := "ythcmpcekmkioaaa", sum := "1d70e66f1095dcc06348e5f73c50e8bfa967954f1f22c5ec328390fbae9fab68", func := "lombard/lombardlaw19.ReplayEmpty", spec := "replayEmpty", inPlace := ["math/bits.Add64"], unfollowed := true, recurses := true, named := ["math/bits.divideError", "math/bits.overflowError"], apart := false, narrowed := true }
def ReplayEmptyUptoSaid : Prop := replayEmptyUptoRow.holds Try.pinned (OpenSpec.upto replayEmptySpec)

/-- 'lombardlaw19.ReplayGrace', WHERE WHAT IT READS IS OF BULK AT MOST 1048576: true; the input reads as it did. -/
def replayGraceUptoRow : OpenClaim := { program := "ythcmpcekmkioaaa", sum := "1d70e66f1095dcc06348e5f73c50e8bfa967954f1f22c5ec328390fbae9fab68", func := "lombard/lombardlaw19.ReplayGrace", spec := "replayGrace", inPlace := ["math/bits.Add64"], unfollowed := true, recurses := true, named := ["math/bits.divideError", "math/bits.overflowError"], apart := false, narrowed := true }
def ReplayGraceUptoSaid : Prop := replayGraceUptoRow.holds Try.pinned (OpenSpec.upto replayGraceSpec)

/-- 'lombardlaw19.ReplayRates', WHERE WHAT IT READS IS OF BULK AT MOST 1048576: true; the input reads as it did. -/
def replayRatesUptoRow : OpenClaim := { program := "ythcmpcekmkioaaa", sum := "1d70e66f1095dcc06348e5f73c50e8bfa967954f1f22c5ec328390fbae9fab68", func := "lombard/lombardlaw19.ReplayRates", spec := "replayRates", inPlace := ["math/bits.Add64"], unfollowed := true, recurses := true, named := ["math/bits.divideError", "math/bits.overflowError"], apart := false, narrowed := true }
def ReplayRatesUptoSaid : Prop := replayRatesUptoRow.holds Try.pinned (OpenSpec.upto replayRatesSpec)

/-- 'lombardlaw19.ReplayBack', WHERE WHAT IT READS IS OF BULK AT MOST 1048576: true; the input reads as it did. -/
def replayBackUptoRow : OpenClaim := { program := "ythcmpcekmkioaaa", sum := "1d70e66f1095dcc06348e5f73c50e8bfa967954f1f22c5ec328390fbae9fab68", func := "lombard/lombardlaw19.ReplayBack", spec := "replayBack", inPlace := ["math/bits.Add64"], unfollowed := true, recurses := true, named := ["math/bits.divideError", "math/bits.overflowError"], apart := false, narrowed := true }
def ReplayBackUptoSaid : Prop := replayBackUptoRow.holds Try.pinned (OpenSpec.upto replayBackSpec)

/-- 'lombardlaw19.ReplayHolds', WHERE WHAT IT READS IS OF BULK AT MOST 1048576: true; the input reads as it did. -/
def replayHoldsUptoRow : OpenClaim := { program := "ythcmpcekmkioaaa", sum := "1d70e66f1095dcc06348e5f73c50e8bfa967954f1f22c5ec328390fbae9fab68", func := "lombard/lombardlaw19.ReplayHolds", spec := "replayHolds", inPlace := ["math/bits.Add64"], unfollowed := true, recurses := true, named := ["math/bits.divideError", "math/bits.overflowError"], apart := false, narrowed := true }
def ReplayHoldsUptoSaid : Prop := replayHoldsUptoRow.holds Try.pinned (OpenSpec.upto replayHoldsSpec)

/-- 'lombardlaw19.ReplayCredit', WHERE WHAT IT READS IS OF BULK AT MOST 1048576: true; the input reads as it did. -/
def replayCreditUptoRow : OpenClaim := { program := "ythcmpcekmkioaaa", sum := "1d70e66f1095dcc06348e5f73c50e8bfa967954f1f22c5ec328390fbae9fab68", func := "lombard/lombardlaw19.ReplayCredit", spec := "replayCredit", inPlace := ["math/bits.Add64"], unfollowed := true, recurses := true, named := ["math/bits.divideError", "math/bits.overflowError"], apart := false, narrowed := true }
def ReplayCreditUptoSaid : Prop := replayCreditUptoRow.holds Try.pinned (OpenSpec.upto replayCreditSpec)

/-- 'lombardlaw19.ReplayRefused', WHERE WHAT IT READS IS OF BULK AT MOST 1048576: true; the input reads as it did. -/
def replayRefusedUptoRow : OpenClaim := { program := "ythcmpcekmkioaaa", sum := "1d70e66f1095dcc06348e5f73c50e8bfa967954f1f22c5ec328390fbae9fab68", func := "lombard/lombardlaw19.ReplayRefused", spec := "replayRefused", inPlace := ["math/bits.Add64"], unfollowed := true, recurses := true, named := ["math/bits.divideError", "math/bits.overflowError"], apart := false, narrowed := true }
def ReplayRefusedUptoSaid : Prop := replayRefusedUptoRow.holds Try.pinned (OpenSpec.upto replayRefusedSpec)

end Rows
end Go.Proofs.Ythcmpcekmkioaaa

/-
  No cell of these rows narrows 'for every input' (looked for: loops, veiled, ifaces, maps, wideKeys, modest, calm, conditions, laid).
  DERIVED. THE GIVEN ROWS OF THIS SEAT. 8 by the template 'for every input the law returns true; each argument reads behind the call as it read before'; 0 by the template 'total and deterministic' (their statements: YtgfkeeicjjbnpaaGreatTotals.lean).
  GIVEN WITH THE SEED: the statements are not yours to turn. If you find one false, say at which input.
  Laid BY PROGRAM, IN A SANDBOX (cutbox-rows.mjs): the forced cells as the released guide's own fill.sh prints them over the translation e5e473a3cdfb6966… (all of the seat's roots in one cut). By AI agents, Wed Nov 11 2026. No macro, syntax, notation, axiom, sorry.
-/
import Derived.Test.YtgfkeeicjjbnpaaGreatChecked
import GoSem.Claim
import GoSem.ClaimJoined
import GoSem.ClaimMapViews
import Derived.JoinedTies
import Derived.KernelRfl
namespace Go.Proofs.YtgfkeeicjjbnpaaGreat
/- THE CELL 'sum', in the pinned program and in every row, IS THE sha256 OF THE DUMP (.gsa) THAT YtgfkeeicjjbnpaaGreatProg.lean LOADS. Nothing in Lean hashes anything: it is a label: what it is worth is what the hold of that sum in a sandbox is worth. -/
noncomputable def Tryz.pinned : Pinned := { name := "ytgfkeeicjjbnpaagreat", sum := "e5e473a3cdfb6966287b8741b54aaaff117f1476994a084e43483a2d3a134865", checked := Tryz.checked }
namespace Rows
def none {H : Type} : Left H := { results := [], args := [] }

/-- 'lombardlaw19.ReplayRuns': WHATEVER THE INPUT: true; the input reads as it did. -/
def replayRunsSpec : ChangeSpec := { name := "replayRuns", fn := fun _ => fun
  | [d1, d2, d3, d4, d5] => { results := [.lit (.bool true)], args := [d1, d2, d3, d4, d5] }
  | _ => none }
def replayRunsRow : OpenClaim := { program := "ytgfkeeicjjbnpaagreat", sum := "e5e473a3cdfb6966287b8741b54aaaff117f1476994a084e43483a2d3a134865", func := "lombard/lombardlaw19.ReplayRuns", spec := "replayRuns", inPlace := ["math/bits.Add64"], unfollowed := true, recurses := true, named := ["math/bits.divideError", "math/bits.overflowError"], apart := false }
def ReplayRunsSaid : Prop := replayRunsRow.holds Tryz.pinned (OpenSpec.ofChange replayRunsSpec)

/-- ITS FALSE NEIGHBOUR: 'it returns false'. Refute it at one input. -/
def replayRunsWrong : ChangeSpec := { name := "replayRuns", fn := fun _ => fun
  | [d1, d2, d3, d4, d5] => { results := [.lit (.bool false)], args := [d1, d2, d3, d4, d5] }
  | _ => none }
def ReplayRunsWrongFalsely : Prop := replayRunsRow.holds Tryz.pinned (OpenSpec.ofChange replayRunsWrong)

/-- 'lombardlaw22.AccountOld': WHATEVER THE INPUT: true; the input reads as it did. -/
def accountOldSpec : ChangeSpec := { name := "accountOld", fn := fun _ => fun
  | [d1, d2] => { results := [.lit (.bool true)], args := [d1, d2] }
  | _ => none }
def accountOldRow : OpenClaim := { program := "ytgfkeeicjjbnpaagreat", sum := "e5e473a3cdfb6966287b8741b54aaaff117f1476994a084e43483a2d3a134865", func := "lombard/lombardlaw22.AccountOld", spec := "accountOld", inPlace := ["math/bits.Add64", "slices.overlaps[lombard/api.Event]"], unfollowed := true, recurses := true, named := ["math/bits.divideError", "math/bits.overflowError"], apart := false }
def AccountOldSaid : Prop := accountOldRow.holds Tryz.pinned (OpenSpec.ofChange accountOldSpec)

/-- ITS FALSE NEIGHBOUR: 'it returns false'. Refute it at one input. -/
def accountOldWrong : ChangeSpec := { name := "accountOld", fn := fun _ => fun
  | [d1, d2] => { results := [.lit (.bool false)], args := [d1, d2] }
  | _ => none }
def AccountOldWrongFalsely : Prop := accountOldRow.holds Tryz.pinned (OpenSpec.ofChange accountOldWrong)

/-- 'lombardlaw22.AccountRestates': WHATEVER THE INPUT: true; the input reads as it did. -/
def accountRestatesSpec : ChangeSpec := { name := "accountRestates", fn := fun _ => fun
  | [d1, d2] => { results := [.lit (.bool true)], args := [d1, d2] }
  | _ => none }
def accountRestatesRow : OpenClaim := { program := "ytgfkeeicjjbnpaagreat", sum := "e5e473a3cdfb6966287b8741b54aaaff117f1476994a084e43483a2d3a134865", func := "lombard/lombardlaw22.AccountRestates", spec := "accountRestates", inPlace := ["math/bits.Add64", "slices.overlaps[lombard/api.Event]"], unfollowed := true, recurses := true, named := ["math/bits.divideError", "math/bits.overflowError"], apart := false }
def AccountRestatesSaid : Prop := accountRestatesRow.holds Tryz.pinned (OpenSpec.ofChange accountRestatesSpec)

/-- ITS FALSE NEIGHBOUR: 'it returns false'. Refute it at one input. -/
def accountRestatesWrong : ChangeSpec := { name := "accountRestates", fn := fun _ => fun
  | [d1, d2] => { results := [.lit (.bool false)], args := [d1, d2] }
  | _ => none }
def AccountRestatesWrongFalsely : Prop := accountRestatesRow.holds Tryz.pinned (OpenSpec.ofChange accountRestatesWrong)

/-- 'lombardlaw22.AccountPlays': WHATEVER THE INPUT: true; the input reads as it did. -/
def accountPlaysSpec : ChangeSpec := { name := "accountPlays", fn := fun _ => fun
  | [d1, d2, d3] => { results := [.lit (.bool true)], args := [d1, d2, d3] }
  | _ => none }
def accountPlaysRow : OpenClaim := { program := "ytgfkeeicjjbnpaagreat", sum := "e5e473a3cdfb6966287b8741b54aaaff117f1476994a084e43483a2d3a134865", func := "lombard/lombardlaw22.AccountPlays", spec := "accountPlays", inPlace := ["math/bits.Add64", "slices.overlaps[lombard/api.Event]"], unfollowed := true, recurses := true, named := ["math/bits.divideError", "math/bits.overflowError"], apart := false }
def AccountPlaysSaid : Prop := accountPlaysRow.holds Tryz.pinned (OpenSpec.ofChange accountPlaysSpec)

/-- ITS FALSE NEIGHBOUR: 'it returns false'. Refute it at one input. -/
def accountPlaysWrong : ChangeSpec := { name := "accountPlays", fn := fun _ => fun
  | [d1, d2, d3] => { results := [.lit (.bool false)], args := [d1, d2, d3] }
  | _ => none }
def AccountPlaysWrongFalsely : Prop := accountPlaysRow.holds Tryz.pinned (OpenSpec.ofChange accountPlaysWrong)

/-- 'lombardlaw26.AuditBooks': WHATEVER THE INPUT: true; the input reads as it did. -/
def auditBooksSpec : ChangeSpec := { name := "auditBooks", fn := fun _ => fun
  | [d1, d2, d3] => { results := [.lit (.bool true)], args := [d1, d2, d3] }
  | _ => none }
def auditBooksRow : OpenClaim := { program := "ytgfkeeicjjbnpaagreat", sum := "e5e473a3cdfb6966287b8741b54aaaff117f1476994a084e43483a2d3a134865", func := "lombard/lombardlaw26.AuditBooks", spec := "auditBooks", inPlace := ["math/bits.Add64", "math.archTrunc", "math.Float64bits", "math.Float64frombits"], unfollowed := true, recurses := true, named := ["math/bits.divideError", "math/bits.overflowError"], apart := false }
def AuditBooksSaid : Prop := auditBooksRow.holds Tryz.pinned (OpenSpec.ofChange auditBooksSpec)

/-- ITS FALSE NEIGHBOUR: 'it returns false'. Refute it at one input. -/
def auditBooksWrong : ChangeSpec := { name := "auditBooks", fn := fun _ => fun
  | [d1, d2, d3] => { results := [.lit (.bool false)], args := [d1, d2, d3] }
  | _ => none }
def AuditBooksWrongFalsely : Prop := auditBooksRow.holds Tryz.pinned (OpenSpec.ofChange auditBooksWrong)

/-- 'lombardlaw26.AuditOutside': WHATEVER THE INPUT: true; the input reads as it did. -/
def auditOutsideSpec : ChangeSpec := { name := "auditOutside", fn := fun _ => fun
  | [d1, d2, d3] => { results := [.lit (.bool true)], args := [d1, d2, d3] }
  | _ => none }
def auditOutsideRow : OpenClaim := { program := "ytgfkeeicjjbnpaagreat", sum := "e5e473a3cdfb6966287b8741b54aaaff117f1476994a084e43483a2d3a134865", func := "lombard/lombardlaw26.AuditOutside", spec := "auditOutside", inPlace := ["math/bits.Add64", "math.archTrunc", "math.Float64bits", "math.Float64frombits"], unfollowed := true, recurses := true, named := ["math/bits.divideError", "math/bits.overflowError"], apart := false }
def AuditOutsideSaid : Prop := auditOutsideRow.holds Tryz.pinned (OpenSpec.ofChange auditOutsideSpec)

/-- ITS FALSE NEIGHBOUR: 'it returns false'. Refute it at one input. -/
def auditOutsideWrong : ChangeSpec := { name := "auditOutside", fn := fun _ => fun
  | [d1, d2, d3] => { results := [.lit (.bool false)], args := [d1, d2, d3] }
  | _ => none }
def AuditOutsideWrongFalsely : Prop := auditOutsideRow.holds Tryz.pinned (OpenSpec.ofChange auditOutsideWrong)

/-- 'lombardlaw26.AuditTells': WHATEVER THE INPUT: true; the input reads as it did. -/
def auditTellsSpec : ChangeSpec := { name := "auditTells", fn := fun _ => fun
  | [d1, d2, d3, d4, d5] => { results := [.lit (.bool true)], args := [d1, d2, d3, d4, d5] }
  | _ => none }
def auditTellsRow : OpenClaim := { program := "ytgfkeeicjjbnpaagreat", sum := "e5e473a3cdfb6966287b8741b54aaaff117f1476994a084e43483a2d3a134865", func := "lombard/lombardlaw26.AuditTells", spec := "auditTells", inPlace := ["math/bits.Add64", "math.archTrunc", "math.Float64bits", "math.Float64frombits", "math/bits.Sub64"], unfollowed := true, recurses := true, named := ["math/bits.divideError", "math/bits.overflowError"], apart := false }
def AuditTellsSaid : Prop := auditTellsRow.holds Tryz.pinned (OpenSpec.ofChange auditTellsSpec)

/-- ITS FALSE NEIGHBOUR: 'it returns false'. Refute it at one input. -/
def auditTellsWrong : ChangeSpec := { name := "auditTells", fn := fun _ => fun
  | [d1, d2, d3, d4, d5] => { results := [.lit (.bool false)], args := [d1, d2, d3, d4, d5] }
  | _ => none }
def AuditTellsWrongFalsely : Prop := auditTellsRow.holds Tryz.pinned (OpenSpec.ofChange auditTellsWrong)

/-- 'lombardlaw26.AuditOff': WHATEVER THE INPUT: true; the input reads as it did. -/
def auditOffSpec : ChangeSpec := { name := "auditOff", fn := fun _ => fun
  | [d1, d2, d3] => { results := [.lit (.bool true)], args := [d1, d2, d3] }
  | _ => none }
def auditOffRow : OpenClaim := { program := "ytgfkeeicjjbnpaagreat", sum := "e5e473a3cdfb6966287b8741b54aaaff117f1476994a084e43483a2d3a134865", func := "lombard/lombardlaw26.AuditOff", spec := "auditOff", inPlace := ["math/bits.Add64", "math.archTrunc", "math.Float64bits", "math.Float64frombits", "math/bits.Sub64"], unfollowed := true, recurses := true, named := ["math/bits.divideError", "math/bits.overflowError"], apart := false }
def AuditOffSaid : Prop := auditOffRow.holds Tryz.pinned (OpenSpec.ofChange auditOffSpec)

/-- ITS FALSE NEIGHBOUR: 'it returns false'. Refute it at one input. -/
def auditOffWrong : ChangeSpec := { name := "auditOff", fn := fun _ => fun
  | [d1, d2, d3] => { results := [.lit (.bool false)], args := [d1, d2, d3] }
  | _ => none }
def AuditOffWrongFalsely : Prop := auditOffRow.holds Tryz.pinned (OpenSpec.ofChange auditOffWrong)

/- THE SECOND FORM. 'bulk': how many values and letters a reading holds, each counted each time it is reached (what is shared counts as often as it is met; a slice's spare places count too). A statement '..UptoSaid' is the law's where the arguments, and the package variables that the reading takes, are together of bulk at most 1048576: NARROWER than '..Said'. Prove '..Said' where nothing that the law and all that it calls make is longer than what came in: it says more and counts as full. Else prove '..UptoSaid'. A law counts once. -/
mutual
def uptoBulk {H : Type} : DataW H → Nat
  | .lit (.string bytes) => bytes.length + 1
  | .lit _ => 1
  | .nil => 1
  | .ptr d => uptoBulk d + 1
  | .slice elems spare => uptoBulkAll elems + uptoBulkAll spare + 1
  | .agg parts => uptoBulkAll parts + 1
  | .iface _ d => uptoBulk d + 1
  | .map entries => uptoBulkEntries entries + 1
  | .held _ => 1
def uptoBulkAll {H : Type} : List (DataW H) → Nat
  | [] => 0
  | d :: r => uptoBulk d + uptoBulkAll r
def uptoBulkEntries {H : Type} : List (Lit × DataW H) → Nat
  | [] => 0
  | x :: r => uptoBulkEntry x + uptoBulkEntries r
def uptoBulkEntry {H : Type} : Lit × DataW H → Nat
  | (.string bytes, d) => bytes.length + uptoBulk d + 1
  | (_, d) => uptoBulk d + 1
 end
def uptoSmall : (H : Type) → List (DataW H) → Bool := fun _ ds => decide (uptoBulkAll ds ≤ 1048576)
def OpenSpec.upto (s : _root_.Go.ChangeSpec) : _root_.Go.OpenSpec := { _root_.Go.OpenSpec.ofChange s with cond := some uptoSmall }

/-- 'lombardlaw19.ReplayRuns', WHERE WHAT IT READS IS OF BULK AT MOST 1048576: true; the input reads as it did. -/
def replayRunsUptoRow : OpenClaim := { program := "ytgfkeeicjjbnpaagreat", sum := "e5e473a3cdfb6966287b8741b54aaaff117f1476994a084e43483a2d3a134865", func := "lombard/lombardlaw19.ReplayRuns", spec := "replayRuns", inPlace := ["math/bits.Add64"], unfollowed := true, recurses := true, named := ["math/bits.divideError", "math/bits.overflowError"], apart := false, narrowed := true }
def ReplayRunsUptoSaid : Prop := replayRunsUptoRow.holds Tryz.pinned (OpenSpec.upto replayRunsSpec)

/-- 'lombardlaw22.AccountOld', WHERE WHAT IT READS IS OF BULK AT MOST 1048576: true; the input reads as it did. -/
def accountOldUptoRow : OpenClaim := { program := "ytgfkeeicjjbnpaagreat", sum := "e5e473a3cdfb6966287b8741b54aaaff117f1476994a084e43483a2d3a134865", func := "lombard/lombardlaw22.AccountOld", spec := "accountOld", inPlace := ["math/bits.Add64", "slices.overlaps[lombard/api.Event]"], unfollowed := true, recurses := true, named := ["math/bits.divideError", "math/bits.overflowError"], apart := false, narrowed := true }
def AccountOldUptoSaid : Prop := accountOldUptoRow.holds Tryz.pinned (OpenSpec.upto accountOldSpec)

/-- 'lombardlaw22.AccountRestates', WHERE WHAT IT READS IS OF BULK AT MOST 1048576: true; the input reads as it did. -/
def accountRestatesUptoRow : OpenClaim := { program := "ytgfkeeicjjbnpaagreat", sum := "e5e473a3cdfb6966287b8741b54aaaff117f1476994a084e43483a2d3a134865", func := "lombard/lombardlaw22.AccountRestates", spec := "accountRestates", inPlace := ["math/bits.Add64", "slices.overlaps[lombard/api.Event]"], unfollowed := true, recurses := true, named := ["math/bits.divideError", "math/bits.overflowError"], apart := false, narrowed := true }
def AccountRestatesUptoSaid : Prop := accountRestatesUptoRow.holds Tryz.pinned (OpenSpec.upto accountRestatesSpec)

/-- 'lombardlaw22.AccountPlays', WHERE WHAT IT READS IS OF BULK AT MOST 1048576: true; the input reads as it did. -/
def accountPlaysUptoRow : OpenClaim := { program := "ytgfkeeicjjbnpaagreat", sum := "e5e473a3cdfb6966287b8741b54aaaff117f1476994a084e43483a2d3a134865", func := "lombard/lombardlaw22.AccountPlays", spec := "accountPlays", inPlace := ["math/bits.Add64", "slices.overlaps[lombard/api.Event]"], unfollowed := true, recurses := true, named := ["math/bits.divideError", "math/bits.overflowError"], apart := false, narrowed := true }
def AccountPlaysUptoSaid : Prop := accountPlaysUptoRow.holds Tryz.pinned (OpenSpec.upto accountPlaysSpec)

/-- 'lombardlaw26.AuditBooks', WHERE WHAT IT READS IS OF BULK AT MOST 1048576: true; the input reads as it did. -/
def auditBooksUptoRow : OpenClaim := { program := "ytgfkeeicjjbnpaagreat", sum := "e5e473a3cdfb6966287b8741b54aaaff117f1476994a084e43483a2d3a134865", func := "lombard/lombardlaw26.AuditBooks", spec := "auditBooks", inPlace := ["math/bits.Add64", "math.archTrunc", "math.Float64bits", "math.Float64frombits"], unfollowed := true, recurses := true, named := ["math/bits.divideError", "math/bits.overflowError"], apart := false, narrowed := true }
def AuditBooksUptoSaid : Prop := auditBooksUptoRow.holds Tryz.pinned (OpenSpec.upto auditBooksSpec)

/-- 'lombardlaw26.AuditOutside', WHERE WHAT IT READS IS OF BULK AT MOST 1048576: true; the input reads as it did. -/
def auditOutsideUptoRow : OpenClaim := { program := "ytgfkeeicjjbnpaagreat", sum := "e5e473a3cdfb6966287b8741b54aaaff117f1476994a084e43483a2d3a134865", func := "lombard/lombardlaw26.AuditOutside", spec := "auditOutside", inPlace := ["math/bits.Add64", "math.archTrunc", "math.Float64bits", "math.Float64frombits"], unfollowed := true, recurses := true, named := ["math/bits.divideError", "math/bits.overflowError"], apart := false, narrowed := true }
def AuditOutsideUptoSaid : Prop := auditOutsideUptoRow.holds Tryz.pinned (OpenSpec.upto auditOutsideSpec)

/-- 'lombardlaw26.AuditTells', WHERE WHAT IT READS IS OF BULK AT MOST 1048576: true; the input reads as it did. -/
def auditTellsUptoRow : OpenClaim := { program := "ytgfkeeicjjbnpaagreat", sum := "e5e473a3cdfb6966287b8741b54aaaff117f1476994a084e43483a2d3a134865", func := "lombard/lombardlaw26.AuditTells", spec := "auditTells", inPlace := ["math/bits.Add64", "math.archTrunc", "math.Float64bits", "math.Float64frombits", "math/bits.Sub64"], unfollowed := true, recurses := true, named := ["math/bits.divideError", "math/bits.overflowError"], apart := false, narrowed := true }
def AuditTellsUptoSaid : Prop := auditTellsUptoRow.holds Tryz.pinned (OpenSpec.upto auditTellsSpec)

/-- 'lombardlaw26.AuditOff', WHERE WHAT IT READS IS OF BULK AT MOST 1048576: true; the input reads as it did. -/
def auditOffUptoRow : OpenClaim := { program := "ytgfkeeicjjbnpaagreat", sum := "e5e473a3cdfb6966287b8741b54aaaff117f1476994a084e43483a2d3a134865", func := "lombard/lombardlaw26.AuditOff", spec := "auditOff", inPlace := ["math/bits.Add64", "math.archTrunc", "math.Float64bits", "math.Float64frombits", "math/bits.Sub64"], unfollowed := true, recurses := true, named := ["math/bits.divideError", "math/bits.overflowError"], apart := false, narrowed := true }
def AuditOffUptoSaid : Prop := auditOffUptoRow.holds Tryz.pinned (OpenSpec.upto auditOffSpec)

end Rows
end Go.Proofs.YtgfkeeicjjbnpaaGreat

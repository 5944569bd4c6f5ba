/-
  No cell of these rows narrows 'for every input' (looked for: loops, veiled, ifaces, maps, wideKeys, modest, calm, conditions, laid).
  DERIVED. THE GIVEN ROWS OF THIS SEAT. 9 by the template 'for every input the law returns true; each argument reads behind the call as it read before'; 0 by the template 'total and deterministic' (their statements: YthffbjldpfionaaGreatTotals.lean).
  GIVEN WITH THE SEED: the statements are not yours to turn. If you find one false, say at which input.
  Laid BY PROGRAM, IN A SANDBOX (cutbox-rows.mjs): the forced cells as the released guide's own fill.sh prints them over the translation bada51e4ff3ae508… (all of the seat's roots in one cut). By AI agents, Wed Nov 11 2026. No macro, syntax, notation, axiom, sorry.
-/
import Derived.Test.YthffbjldpfionaaGreatChecked
import GoSem.Claim
import GoSem.ClaimJoined
import GoSem.ClaimMapViews
import Derived.JoinedTies
import Derived.KernelRfl
namespace Go.Proofs.YthffbjldpfionaaGreat
/- THE CELL 'sum', in the pinned program and in every row, IS THE sha256 OF THE DUMP (.gsa) THAT YthffbjldpfionaaGreatProg.lean LOADS. Nothing in Lean hashes anything: it is a label: what it is worth is what the hold of that sum in a sandbox is worth. -/
noncomputable def Tryz.pinned : Pinned := { name := "ythffbjldpfionaagreat", sum := "bada51e4ff3ae50842dc4e27f2e7f075ee0b2127354dcc48f1e87d0580094dc7", checked := Tryz.checked }
namespace Rows
def none {H : Type} : Left H := { results := [], args := [] }

/-- 'lombardlaw22.AccountLimits': WHATEVER THE INPUT: true; the input reads as it did. -/
def accountLimitsSpec : ChangeSpec := { name := "accountLimits", fn := fun _ => fun
  | [d1, d2, d3] => { results := [.lit (.bool true)], args := [d1, d2, d3] }
  | _ => none }
def accountLimitsRow : OpenClaim := { program := "ythffbjldpfionaagreat", sum := "bada51e4ff3ae50842dc4e27f2e7f075ee0b2127354dcc48f1e87d0580094dc7", func := "lombard/lombardlaw22.AccountLimits", spec := "accountLimits", inPlace := ["math/bits.Add64", "slices.overlaps[lombard/api.Event]"], unfollowed := true, recurses := true, named := ["math/bits.divideError", "math/bits.overflowError"], apart := false }
def AccountLimitsSaid : Prop := accountLimitsRow.holds Tryz.pinned (OpenSpec.ofChange accountLimitsSpec)

/-- ITS FALSE NEIGHBOUR: 'it returns false'. Refute it at one input. -/
def accountLimitsWrong : ChangeSpec := { name := "accountLimits", fn := fun _ => fun
  | [d1, d2, d3] => { results := [.lit (.bool false)], args := [d1, d2, d3] }
  | _ => none }
def AccountLimitsWrongFalsely : Prop := accountLimitsRow.holds Tryz.pinned (OpenSpec.ofChange accountLimitsWrong)

/-- 'lombardlaw22.AccountDisputes': WHATEVER THE INPUT: true; the input reads as it did. -/
def accountDisputesSpec : ChangeSpec := { name := "accountDisputes", fn := fun _ => fun
  | [d1, d2, d3, d4] => { results := [.lit (.bool true)], args := [d1, d2, d3, d4] }
  | _ => none }
def accountDisputesRow : OpenClaim := { program := "ythffbjldpfionaagreat", sum := "bada51e4ff3ae50842dc4e27f2e7f075ee0b2127354dcc48f1e87d0580094dc7", func := "lombard/lombardlaw22.AccountDisputes", spec := "accountDisputes", inPlace := ["math/bits.Add64", "slices.overlaps[lombard/api.Event]"], unfollowed := true, recurses := true, named := ["math/bits.divideError", "math/bits.overflowError"], apart := false }
def AccountDisputesSaid : Prop := accountDisputesRow.holds Tryz.pinned (OpenSpec.ofChange accountDisputesSpec)

/-- ITS FALSE NEIGHBOUR: 'it returns false'. Refute it at one input. -/
def accountDisputesWrong : ChangeSpec := { name := "accountDisputes", fn := fun _ => fun
  | [d1, d2, d3, d4] => { results := [.lit (.bool false)], args := [d1, d2, d3, d4] }
  | _ => none }
def AccountDisputesWrongFalsely : Prop := accountDisputesRow.holds Tryz.pinned (OpenSpec.ofChange accountDisputesWrong)

/-- 'lombardlaw22.AccountRates': WHATEVER THE INPUT: true; the input reads as it did. -/
def accountRatesSpec : ChangeSpec := { name := "accountRates", fn := fun _ => fun
  | [d1, d2, d3] => { results := [.lit (.bool true)], args := [d1, d2, d3] }
  | _ => none }
def accountRatesRow : OpenClaim := { program := "ythffbjldpfionaagreat", sum := "bada51e4ff3ae50842dc4e27f2e7f075ee0b2127354dcc48f1e87d0580094dc7", func := "lombard/lombardlaw22.AccountRates", spec := "accountRates", inPlace := ["math/bits.Add64", "slices.overlaps[lombard/api.Event]"], unfollowed := true, recurses := true, named := ["math/bits.divideError", "math/bits.overflowError"], apart := false }
def AccountRatesSaid : Prop := accountRatesRow.holds Tryz.pinned (OpenSpec.ofChange accountRatesSpec)

/-- ITS FALSE NEIGHBOUR: 'it returns false'. Refute it at one input. -/
def accountRatesWrong : ChangeSpec := { name := "accountRates", fn := fun _ => fun
  | [d1, d2, d3] => { results := [.lit (.bool false)], args := [d1, d2, d3] }
  | _ => none }
def AccountRatesWrongFalsely : Prop := accountRatesRow.holds Tryz.pinned (OpenSpec.ofChange accountRatesWrong)

/-- 'lombardlaw22.AccountKinds': WHATEVER THE INPUT: true; the input reads as it did. -/
def accountKindsSpec : ChangeSpec := { name := "accountKinds", fn := fun _ => fun
  | [d1, d2] => { results := [.lit (.bool true)], args := [d1, d2] }
  | _ => none }
def accountKindsRow : OpenClaim := { program := "ythffbjldpfionaagreat", sum := "bada51e4ff3ae50842dc4e27f2e7f075ee0b2127354dcc48f1e87d0580094dc7", func := "lombard/lombardlaw22.AccountKinds", spec := "accountKinds", inPlace := ["math/bits.Add64", "slices.overlaps[lombard/api.Event]"], unfollowed := true, recurses := true, named := ["math/bits.divideError", "math/bits.overflowError"], apart := false }
def AccountKindsSaid : Prop := accountKindsRow.holds Tryz.pinned (OpenSpec.ofChange accountKindsSpec)

/-- ITS FALSE NEIGHBOUR: 'it returns false'. Refute it at one input. -/
def accountKindsWrong : ChangeSpec := { name := "accountKinds", fn := fun _ => fun
  | [d1, d2] => { results := [.lit (.bool false)], args := [d1, d2] }
  | _ => none }
def AccountKindsWrongFalsely : Prop := accountKindsRow.holds Tryz.pinned (OpenSpec.ofChange accountKindsWrong)

/-- 'lombardlaw22.AccountTicks': WHATEVER THE INPUT: true; the input reads as it did. -/
def accountTicksSpec : ChangeSpec := { name := "accountTicks", fn := fun _ => fun
  | [d1, d2] => { results := [.lit (.bool true)], args := [d1, d2] }
  | _ => none }
def accountTicksRow : OpenClaim := { program := "ythffbjldpfionaagreat", sum := "bada51e4ff3ae50842dc4e27f2e7f075ee0b2127354dcc48f1e87d0580094dc7", func := "lombard/lombardlaw22.AccountTicks", spec := "accountTicks", inPlace := ["math/bits.Add64", "slices.overlaps[lombard/api.Event]"], unfollowed := true, recurses := true, named := ["math/bits.divideError", "math/bits.overflowError"], apart := false }
def AccountTicksSaid : Prop := accountTicksRow.holds Tryz.pinned (OpenSpec.ofChange accountTicksSpec)

/-- ITS FALSE NEIGHBOUR: 'it returns false'. Refute it at one input. -/
def accountTicksWrong : ChangeSpec := { name := "accountTicks", fn := fun _ => fun
  | [d1, d2] => { results := [.lit (.bool false)], args := [d1, d2] }
  | _ => none }
def AccountTicksWrongFalsely : Prop := accountTicksRow.holds Tryz.pinned (OpenSpec.ofChange accountTicksWrong)

/-- 'lombardlaw22.AccountIssued': WHATEVER THE INPUT: true; the input reads as it did. -/
def accountIssuedSpec : ChangeSpec := { name := "accountIssued", fn := fun _ => fun
  | [d1, d2] => { results := [.lit (.bool true)], args := [d1, d2] }
  | _ => none }
def accountIssuedRow : OpenClaim := { program := "ythffbjldpfionaagreat", sum := "bada51e4ff3ae50842dc4e27f2e7f075ee0b2127354dcc48f1e87d0580094dc7", func := "lombard/lombardlaw22.AccountIssued", spec := "accountIssued", inPlace := ["math/bits.Add64", "slices.overlaps[lombard/api.Event]"], unfollowed := true, recurses := true, named := ["math/bits.divideError", "math/bits.overflowError"], apart := false }
def AccountIssuedSaid : Prop := accountIssuedRow.holds Tryz.pinned (OpenSpec.ofChange accountIssuedSpec)

/-- ITS FALSE NEIGHBOUR: 'it returns false'. Refute it at one input. -/
def accountIssuedWrong : ChangeSpec := { name := "accountIssued", fn := fun _ => fun
  | [d1, d2] => { results := [.lit (.bool false)], args := [d1, d2] }
  | _ => none }
def AccountIssuedWrongFalsely : Prop := accountIssuedRow.holds Tryz.pinned (OpenSpec.ofChange accountIssuedWrong)

/-- 'lombardlaw22.AccountBack': WHATEVER THE INPUT: true; the input reads as it did. -/
def accountBackSpec : ChangeSpec := { name := "accountBack", fn := fun _ => fun
  | [d1, d2, d3] => { results := [.lit (.bool true)], args := [d1, d2, d3] }
  | _ => none }
def accountBackRow : OpenClaim := { program := "ythffbjldpfionaagreat", sum := "bada51e4ff3ae50842dc4e27f2e7f075ee0b2127354dcc48f1e87d0580094dc7", func := "lombard/lombardlaw22.AccountBack", spec := "accountBack", inPlace := ["math/bits.Add64", "slices.overlaps[lombard/api.Event]"], unfollowed := true, recurses := true, named := ["math/bits.divideError", "math/bits.overflowError"], apart := false }
def AccountBackSaid : Prop := accountBackRow.holds Tryz.pinned (OpenSpec.ofChange accountBackSpec)

/-- ITS FALSE NEIGHBOUR: 'it returns false'. Refute it at one input. -/
def accountBackWrong : ChangeSpec := { name := "accountBack", fn := fun _ => fun
  | [d1, d2, d3] => { results := [.lit (.bool false)], args := [d1, d2, d3] }
  | _ => none }
def AccountBackWrongFalsely : Prop := accountBackRow.holds Tryz.pinned (OpenSpec.ofChange accountBackWrong)

/-- 'lombardlaw22.AccountRefuses': WHATEVER THE INPUT: true; the input reads as it did. -/
def accountRefusesSpec : ChangeSpec := { name := "accountRefuses", fn := fun _ => fun
  | [d1, d2] => { results := [.lit (.bool true)], args := [d1, d2] }
  | _ => none }
def accountRefusesRow : OpenClaim := { program := "ythffbjldpfionaagreat", sum := "bada51e4ff3ae50842dc4e27f2e7f075ee0b2127354dcc48f1e87d0580094dc7", func := "lombard/lombardlaw22.AccountRefuses", spec := "accountRefuses", inPlace := ["math/bits.Add64", "slices.overlaps[lombard/api.Event]"], unfollowed := true, recurses := true, named := ["math/bits.divideError", "math/bits.overflowError"], apart := false }
def AccountRefusesSaid : Prop := accountRefusesRow.holds Tryz.pinned (OpenSpec.ofChange accountRefusesSpec)

/-- ITS FALSE NEIGHBOUR: 'it returns false'. Refute it at one input. -/
def accountRefusesWrong : ChangeSpec := { name := "accountRefuses", fn := fun _ => fun
  | [d1, d2] => { results := [.lit (.bool false)], args := [d1, d2] }
  | _ => none }
def AccountRefusesWrongFalsely : Prop := accountRefusesRow.holds Tryz.pinned (OpenSpec.ofChange accountRefusesWrong)

/-- 'lombardlaw22.AccountNil': WHATEVER THE INPUT: true; the input reads as it did. -/
def accountNilSpec : ChangeSpec := { name := "accountNil", fn := fun _ => fun
  | [d] => { results := [.lit (.bool true)], args := [d] }
  | _ => none }
def accountNilRow : OpenClaim := { program := "ythffbjldpfionaagreat", sum := "bada51e4ff3ae50842dc4e27f2e7f075ee0b2127354dcc48f1e87d0580094dc7", func := "lombard/lombardlaw22.AccountNil", spec := "accountNil", inPlace := ["math/bits.Add64", "slices.overlaps[lombard/api.Event]"], unfollowed := true, recurses := true, named := ["math/bits.divideError", "math/bits.overflowError"], apart := false }
def AccountNilSaid : Prop := accountNilRow.holds Tryz.pinned (OpenSpec.ofChange accountNilSpec)

/-- ITS FALSE NEIGHBOUR: 'it returns false'. Refute it at one input. -/
def accountNilWrong : ChangeSpec := { name := "accountNil", fn := fun _ => fun
  | [d] => { results := [.lit (.bool false)], args := [d] }
  | _ => none }
def AccountNilWrongFalsely : Prop := accountNilRow.holds Tryz.pinned (OpenSpec.ofChange accountNilWrong)

/- THE SECOND FORM. 'bulk': how many values and letters a reading holds, each counted each time it is reached (what is shared counts as often as it is met; a slice's spare places count too). A statement '..UptoSaid' is the law's where the arguments, and the package variables that the reading takes, are together of bulk at most 1048576: NARROWER than '..Said'. Prove '..Said' where nothing that the law and all that it calls make is longer than what came in: it says more and counts as full. Else prove '..UptoSaid'. A law counts once. -/
mutual
def uptoBulk {H : Type} : DataW H → Nat
  | .lit (.string bytes) => bytes.length + 1
  | .lit _ => 1
  | .nil => 1
  | .ptr d => uptoBulk d + 1
  | .slice elems spare => uptoBulkAll elems + uptoBulkAll spare + 1
  | .agg parts => uptoBulkAll parts + 1
  | .iface _ d => uptoBulk d + 1
  | .map entries => uptoBulkEntries entries + 1
  | .held _ => 1
def uptoBulkAll {H : Type} : List (DataW H) → Nat
  | [] => 0
  | d :: r => uptoBulk d + uptoBulkAll r
def uptoBulkEntries {H : Type} : List (Lit × DataW H) → Nat
  | [] => 0
  | x :: r => uptoBulkEntry x + uptoBulkEntries r
def uptoBulkEntry {H : Type} : Lit × DataW H → Nat
  | (.string bytes, d) => bytes.length + uptoBulk d + 1
  | (_, d) => uptoBulk d + 1
 end
def uptoSmall : (H : Type) → List (DataW H) → Bool := fun _ ds => decide (uptoBulkAll ds ≤ 1048576)
def OpenSpec.upto (s : _root_.Go.ChangeSpec) : _root_.Go.OpenSpec := { _root_.Go.OpenSpec.ofChange s with cond := some uptoSmall }

/-- 'lombardlaw22.AccountLimits', WHERE WHAT IT READS IS OF BULK AT MOST 1048576: true; the input reads as it did. -/
def accountLimitsUptoRow : OpenClaim := { program := "ythffbjldpfionaagreat", sum := "bada51e4ff3ae50842dc4e27f2e7f075ee0b2127354dcc48f1e87d0580094dc7", func := "lombard/lombardlaw22.AccountLimits", spec := "accountLimits", inPlace := ["math/bits.Add64", "slices.overlaps[lombard/api.Event]"], unfollowed := true, recurses := true, named := ["math/bits.divideError", "math/bits.overflowError"], apart := false, narrowed := true }
def AccountLimitsUptoSaid : Prop := accountLimitsUptoRow.holds Tryz.pinned (OpenSpec.upto accountLimitsSpec)

/-- 'lombardlaw22.AccountDisputes', WHERE WHAT IT READS IS OF BULK AT MOST 1048576: true; the input reads as it did. -/
def accountDisputesUptoRow : OpenClaim := { program := "ythffbjldpfionaagreat", sum := "bada51e4ff3ae50842dc4e27f2e7f075ee0b2127354dcc48f1e87d0580094dc7", func := "lombard/lombardlaw22.AccountDisputes", spec := "accountDisputes", inPlace := ["math/bits.Add64", "slices.overlaps[lombard/api.Event]"], unfollowed := true, recurses := true, named := ["math/bits.divideError", "math/bits.overflowError"], apart := false, narrowed := true }
def AccountDisputesUptoSaid : Prop := accountDisputesUptoRow.holds Tryz.pinned (OpenSpec.upto accountDisputesSpec)

/-- 'lombardlaw22.AccountRates', WHERE WHAT IT READS IS OF BULK AT MOST 1048576: true; the input reads as it did. -/
def accountRatesUptoRow : OpenClaim := { program := "ythffbjldpfionaagreat", sum := "bada51e4ff3ae50842dc4e27f2e7f075ee0b2127354dcc48f1e87d0580094dc7", func := "lombard/lombardlaw22.AccountRates", spec := "accountRates", inPlace := ["math/bits.Add64", "slices.overlaps[lombard/api.Event]"], unfollowed := true, recurses := true, named := ["math/bits.divideError", "math/bits.overflowError"], apart := false, narrowed := true }
def AccountRatesUptoSaid : Prop := accountRatesUptoRow.holds Tryz.pinned (OpenSpec.upto accountRatesSpec)

/-- 'lombardlaw22.AccountKinds', WHERE WHAT IT READS IS OF BULK AT MOST 1048576: true; the input reads as it did. -/
def accountKindsUptoRow : OpenClaim := { program := "ythffbjldpfionaagreat", sum := "bada51e4ff3ae50842dc4e27f2e7f075ee0b2127354dcc48f1e87d0580094dc7", func := "lombard/lombardlaw22.AccountKinds", spec := "accountKinds", inPlace := ["math/bits.Add64", "slices.overlaps[lombard/api.Event]"], unfollowed := true, recurses := true, named := ["math/bits.divideError", "math/bits.overflowError"], apart := false, narrowed := true }
def AccountKindsUptoSaid : Prop := accountKindsUptoRow.holds Tryz.pinned (OpenSpec.upto accountKindsSpec)

/-- 'lombardlaw22.AccountTicks', WHERE WHAT IT READS IS OF BULK AT MOST 1048576: true; the input reads as it did. -/
def accountTicksUptoRow : OpenClaim := { program := "ythffbjldpfionaagreat", sum := "bada51e4ff3ae50842dc4e27f2e7f075ee0b2127354dcc48f1e87d0580094dc7", func := "lombard/lombardlaw22.AccountTicks", spec := "accountTicks", inPlace := ["math/bits.Add64", "slices.overlaps[lombard/api.Event]"], unfollowed := true, recurses := true, named := ["math/bits.divideError", "math/bits.overflowError"], apart := false, narrowed := true }
def AccountTicksUptoSaid : Prop := accountTicksUptoRow.holds Tryz.pinned (OpenSpec.upto accountTicksSpec)

/-- 'lombardlaw22.AccountIssued', WHERE WHAT IT READS IS OF BULK AT MOST 1048576: true; the input reads as it did. -/
def accountIssuedUptoRow : OpenClaim := { program := "ythffbjldpfionaagreat", sum := "bada51e4ff3ae50842dc4e27f2e7f075ee0b2127354dcc48f1e87d0580094dc7", func := "lombard/lombardlaw22.AccountIssued", spec := "accountIssued", inPlace := ["math/bits.Add64", "slices.overlaps[lombard/api.Event]"], unfollowed := true, recurses := true, named := ["math/bits.divideError", "math/bits.overflowError"], apart := false, narrowed := true }
def AccountIssuedUptoSaid : Prop := accountIssuedUptoRow.holds Tryz.pinned (OpenSpec.upto accountIssuedSpec)

/-- 'lombardlaw22.AccountBack', WHERE WHAT IT READS IS OF BULK AT MOST 1048576: true; the input reads as it did. -/
def accountBackUptoRow : OpenClaim := { program := "ythffbjldpfionaagreat", sum := "bada51e4ff3ae50842dc4e27f2e7f075ee0b2127354dcc48f1e87d0580094dc7", func := "lombard/lombardlaw22.AccountBack", spec := "accountBack", inPlace := ["math/bits.Add64", "slices.overlaps[lombard/api.Event]"], unfollowed := true, recurses := true, named := ["math/bits.divideError", "math/bits.overflowError"], apart := false, narrowed := true }
def AccountBackUptoSaid : Prop := accountBackUptoRow.holds Tryz.pinned (OpenSpec.upto accountBackSpec)

/-- 'lombardlaw22.AccountRefuses', WHERE WHAT IT READS IS OF BULK AT MOST 1048576: true; the input reads as it did. -/
def accountRefusesUptoRow : OpenClaim := { program := "ythffbjldpfionaagreat", sum := "bada51e4ff3ae50842dc4e27f2e7f075ee0b2127354dcc48f1e87d0580094dc7", func := "lombard/lombardlaw22.AccountRefuses", spec := "accountRefuses", inPlace := ["math/bits.Add64", "slices.overlaps[lombard/api.Event]"], unfollowed := true, recurses := true, named := ["math/bits.divideError", "math/bits.overflowError"], apart := false, narrowed := true }
def AccountRefusesUptoSaid : Prop := accountRefusesUptoRow.holds Tryz.pinned (OpenSpec.upto accountRefusesSpec)

/-- 'lombardlaw22.AccountNil', WHERE WHAT IT READS IS OF BULK AT MOST 1048576: true; the input reads as it did. -/
def accountNilUptoRow : OpenClaim := { program := "ythffbjldpfionaagreat", sum := "bada51e4ff3ae50842dc4e27f2e7f075ee0b2127354dcc48f1e87d0580094dc7", func := "lombard/lombardlaw22.AccountNil", spec := "accountNil", inPlace := ["math/bits.Add64", "slices.overlaps[lombard/api.Event]"], unfollowed := true, recurses := true, named := ["math/bits.divideError", "math/bits.overflowError"], apart := false, narrowed := true }
def AccountNilUptoSaid : Prop := accountNilUptoRow.holds Tryz.pinned (OpenSpec.upto accountNilSpec)

end Rows
end Go.Proofs.YthffbjldpfionaaGreat

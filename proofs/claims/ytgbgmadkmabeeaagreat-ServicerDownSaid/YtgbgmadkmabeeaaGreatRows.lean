/-
  No cell of these rows narrows 'for every input' (looked for: loops, veiled, ifaces, maps, wideKeys, modest, calm, conditions, laid).
  DERIVED. THE GIVEN ROWS OF THIS SEAT. 8 by the template 'for every input the law returns true; each argument reads behind the call as it read before'; 0 by the template 'total and deterministic' (their statements: YtgbgmadkmabeeaaGreatTotals.lean).
  GIVEN WITH THE SEED: the statements are not yours to turn. If you find one false, say at which input.
  Laid BY PROGRAM, IN A SANDBOX (cutbox-rows.mjs): the forced cells as the released guide's own fill.sh prints them over the translation 17901c7737ec829c… (all of the seat's roots in one cut). By AI agents, Wed Nov 11 2026. No macro, syntax, notation, axiom, sorry.
-/
import Derived.Test.YtgbgmadkmabeeaaGreatChecked
import GoSem.Claim
import GoSem.ClaimJoined
import GoSem.ClaimMapViews
import Derived.JoinedTies
import Derived.KernelRfl
namespace Go.Proofs.YtgbgmadkmabeeaaGreat
/- THE CELL 'sum', in the pinned program and in every row, IS THE sha256 OF THE DUMP (.gsa) THAT YtgbgmadkmabeeaaGreatProg.lean LOADS. Nothing in Lean hashes anything: it is a label: what it is worth is what the hold of that sum in a sandbox is worth. -/
noncomputable def Tryz.pinned : Pinned := { name := "ytgbgmadkmabeeaagreat", sum := "17901c7737ec829ccb46bf5e2f243fe5642e06991846bb5a516003b11c26bc01", checked := Tryz.checked }
namespace Rows
def none {H : Type} : Left H := { results := [], args := [] }

/-- 'lombardlaw25.ServicerPacks': WHATEVER THE INPUT: true; the input reads as it did. -/
def servicerPacksSpec : ChangeSpec := { name := "servicerPacks", fn := fun _ => fun
  | [d1, d2] => { results := [.lit (.bool true)], args := [d1, d2] }
  | _ => none }
def servicerPacksRow : OpenClaim := { program := "ytgbgmadkmabeeaagreat", sum := "17901c7737ec829ccb46bf5e2f243fe5642e06991846bb5a516003b11c26bc01", func := "lombard/lombardlaw25.ServicerPacks", spec := "servicerPacks", inPlace := ["math/bits.Add64", "slices.overlaps[lombard/api.Event]"], unfollowed := true, recurses := true, named := ["math/bits.divideError", "math/bits.overflowError"], apart := false }
def ServicerPacksSaid : Prop := servicerPacksRow.holds Tryz.pinned (OpenSpec.ofChange servicerPacksSpec)

/-- ITS FALSE NEIGHBOUR: 'it returns false'. Refute it at one input. -/
def servicerPacksWrong : ChangeSpec := { name := "servicerPacks", fn := fun _ => fun
  | [d1, d2] => { results := [.lit (.bool false)], args := [d1, d2] }
  | _ => none }
def ServicerPacksWrongFalsely : Prop := servicerPacksRow.holds Tryz.pinned (OpenSpec.ofChange servicerPacksWrong)

/-- 'lombardlaw25.ServicerFull': WHATEVER THE INPUT: true; the input reads as it did. -/
def servicerFullSpec : ChangeSpec := { name := "servicerFull", fn := fun _ => fun
  | [d1, d2] => { results := [.lit (.bool true)], args := [d1, d2] }
  | _ => none }
def servicerFullRow : OpenClaim := { program := "ytgbgmadkmabeeaagreat", sum := "17901c7737ec829ccb46bf5e2f243fe5642e06991846bb5a516003b11c26bc01", func := "lombard/lombardlaw25.ServicerFull", spec := "servicerFull", inPlace := ["math/bits.Add64", "slices.overlaps[lombard/api.Event]"], unfollowed := true, recurses := true, named := ["math/bits.divideError", "math/bits.overflowError"], apart := false }
def ServicerFullSaid : Prop := servicerFullRow.holds Tryz.pinned (OpenSpec.ofChange servicerFullSpec)

/-- ITS FALSE NEIGHBOUR: 'it returns false'. Refute it at one input. -/
def servicerFullWrong : ChangeSpec := { name := "servicerFull", fn := fun _ => fun
  | [d1, d2] => { results := [.lit (.bool false)], args := [d1, d2] }
  | _ => none }
def ServicerFullWrongFalsely : Prop := servicerFullRow.holds Tryz.pinned (OpenSpec.ofChange servicerFullWrong)

/-- 'lombardlaw25.ServicerTells': WHATEVER THE INPUT: true; the input reads as it did. -/
def servicerTellsSpec : ChangeSpec := { name := "servicerTells", fn := fun _ => fun
  | [d1, d2] => { results := [.lit (.bool true)], args := [d1, d2] }
  | _ => none }
def servicerTellsRow : OpenClaim := { program := "ytgbgmadkmabeeaagreat", sum := "17901c7737ec829ccb46bf5e2f243fe5642e06991846bb5a516003b11c26bc01", func := "lombard/lombardlaw25.ServicerTells", spec := "servicerTells", inPlace := ["math/bits.Add64", "slices.overlaps[lombard/api.Event]"], unfollowed := true, recurses := true, named := ["math/bits.divideError", "math/bits.overflowError"], apart := false }
def ServicerTellsSaid : Prop := servicerTellsRow.holds Tryz.pinned (OpenSpec.ofChange servicerTellsSpec)

/-- ITS FALSE NEIGHBOUR: 'it returns false'. Refute it at one input. -/
def servicerTellsWrong : ChangeSpec := { name := "servicerTells", fn := fun _ => fun
  | [d1, d2] => { results := [.lit (.bool false)], args := [d1, d2] }
  | _ => none }
def ServicerTellsWrongFalsely : Prop := servicerTellsRow.holds Tryz.pinned (OpenSpec.ofChange servicerTellsWrong)

/-- 'lombardlaw25.ServicerOther': WHATEVER THE INPUT: true; the input reads as it did. -/
def servicerOtherSpec : ChangeSpec := { name := "servicerOther", fn := fun _ => fun
  | [d1, d2] => { results := [.lit (.bool true)], args := [d1, d2] }
  | _ => none }
def servicerOtherRow : OpenClaim := { program := "ytgbgmadkmabeeaagreat", sum := "17901c7737ec829ccb46bf5e2f243fe5642e06991846bb5a516003b11c26bc01", func := "lombard/lombardlaw25.ServicerOther", spec := "servicerOther", inPlace := ["math/bits.Add64", "slices.overlaps[lombard/api.Event]"], unfollowed := true, recurses := true, named := ["math/bits.divideError", "math/bits.overflowError"], apart := false }
def ServicerOtherSaid : Prop := servicerOtherRow.holds Tryz.pinned (OpenSpec.ofChange servicerOtherSpec)

/-- ITS FALSE NEIGHBOUR: 'it returns false'. Refute it at one input. -/
def servicerOtherWrong : ChangeSpec := { name := "servicerOther", fn := fun _ => fun
  | [d1, d2] => { results := [.lit (.bool false)], args := [d1, d2] }
  | _ => none }
def ServicerOtherWrongFalsely : Prop := servicerOtherRow.holds Tryz.pinned (OpenSpec.ofChange servicerOtherWrong)

/-- 'lombardlaw25.ServicerNil': WHATEVER THE INPUT: true; the input reads as it did. -/
def servicerNilSpec : ChangeSpec := { name := "servicerNil", fn := fun _ => fun
  | [d] => { results := [.lit (.bool true)], args := [d] }
  | _ => none }
def servicerNilRow : OpenClaim := { program := "ytgbgmadkmabeeaagreat", sum := "17901c7737ec829ccb46bf5e2f243fe5642e06991846bb5a516003b11c26bc01", func := "lombard/lombardlaw25.ServicerNil", spec := "servicerNil", inPlace := ["math/bits.Add64", "slices.overlaps[lombard/api.Event]"], unfollowed := true, recurses := true, named := ["math/bits.divideError", "math/bits.overflowError"], apart := false }
def ServicerNilSaid : Prop := servicerNilRow.holds Tryz.pinned (OpenSpec.ofChange servicerNilSpec)

/-- ITS FALSE NEIGHBOUR: 'it returns false'. Refute it at one input. -/
def servicerNilWrong : ChangeSpec := { name := "servicerNil", fn := fun _ => fun
  | [d] => { results := [.lit (.bool false)], args := [d] }
  | _ => none }
def ServicerNilWrongFalsely : Prop := servicerNilRow.holds Tryz.pinned (OpenSpec.ofChange servicerNilWrong)

/-- 'lombardlaw25.ServicerWrites': WHATEVER THE INPUT: true; the input reads as it did. -/
def servicerWritesSpec : ChangeSpec := { name := "servicerWrites", fn := fun _ => fun
  | [d] => { results := [.lit (.bool true)], args := [d] }
  | _ => none }
def servicerWritesRow : OpenClaim := { program := "ytgbgmadkmabeeaagreat", sum := "17901c7737ec829ccb46bf5e2f243fe5642e06991846bb5a516003b11c26bc01", func := "lombard/lombardlaw25.ServicerWrites", spec := "servicerWrites", inPlace := ["math/bits.Add64", "slices.overlaps[lombard/api.Event]"], unfollowed := true, recurses := true, named := ["math/bits.divideError", "math/bits.overflowError"], apart := false }
def ServicerWritesSaid : Prop := servicerWritesRow.holds Tryz.pinned (OpenSpec.ofChange servicerWritesSpec)

/-- ITS FALSE NEIGHBOUR: 'it returns false'. Refute it at one input. -/
def servicerWritesWrong : ChangeSpec := { name := "servicerWrites", fn := fun _ => fun
  | [d] => { results := [.lit (.bool false)], args := [d] }
  | _ => none }
def ServicerWritesWrongFalsely : Prop := servicerWritesRow.holds Tryz.pinned (OpenSpec.ofChange servicerWritesWrong)

/-- 'lombardlaw25.ServicerDown': WHATEVER THE INPUT: true; the input reads as it did. -/
def servicerDownSpec : ChangeSpec := { name := "servicerDown", fn := fun _ => fun
  | [d] => { results := [.lit (.bool true)], args := [d] }
  | _ => none }
def servicerDownRow : OpenClaim := { program := "ytgbgmadkmabeeaagreat", sum := "17901c7737ec829ccb46bf5e2f243fe5642e06991846bb5a516003b11c26bc01", func := "lombard/lombardlaw25.ServicerDown", spec := "servicerDown", inPlace := ["math/bits.Add64", "slices.overlaps[lombard/api.Event]"], unfollowed := true, recurses := true, named := ["math/bits.divideError", "math/bits.overflowError"], apart := false }
def ServicerDownSaid : Prop := servicerDownRow.holds Tryz.pinned (OpenSpec.ofChange servicerDownSpec)

/-- ITS FALSE NEIGHBOUR: 'it returns false'. Refute it at one input. -/
def servicerDownWrong : ChangeSpec := { name := "servicerDown", fn := fun _ => fun
  | [d] => { results := [.lit (.bool false)], args := [d] }
  | _ => none }
def ServicerDownWrongFalsely : Prop := servicerDownRow.holds Tryz.pinned (OpenSpec.ofChange servicerDownWrong)

/-- 'lombardlaw25.ServicerPlays': WHATEVER THE INPUT: true; the input reads as it did. -/
def servicerPlaysSpec : ChangeSpec := { name := "servicerPlays", fn := fun _ => fun
  | [d1, d2, d3, d4] => { results := [.lit (.bool true)], args := [d1, d2, d3, d4] }
  | _ => none }
def servicerPlaysRow : OpenClaim := { program := "ytgbgmadkmabeeaagreat", sum := "17901c7737ec829ccb46bf5e2f243fe5642e06991846bb5a516003b11c26bc01", func := "lombard/lombardlaw25.ServicerPlays", spec := "servicerPlays", inPlace := ["math/bits.Add64", "slices.overlaps[lombard/api.Event]"], unfollowed := true, recurses := true, named := ["math/bits.divideError", "math/bits.overflowError"], apart := false }
def ServicerPlaysSaid : Prop := servicerPlaysRow.holds Tryz.pinned (OpenSpec.ofChange servicerPlaysSpec)

/-- ITS FALSE NEIGHBOUR: 'it returns false'. Refute it at one input. -/
def servicerPlaysWrong : ChangeSpec := { name := "servicerPlays", fn := fun _ => fun
  | [d1, d2, d3, d4] => { results := [.lit (.bool false)], args := [d1, d2, d3, d4] }
  | _ => none }
def ServicerPlaysWrongFalsely : Prop := servicerPlaysRow.holds Tryz.pinned (OpenSpec.ofChange servicerPlaysWrong)

/- THE SECOND FORM. 'bulk': how many values and letters a reading holds, each counted each time it is reached (what is shared counts as often as it is met; a slice's spare places count too). A statement '..UptoSaid' is the law's where the arguments, and the package variables that the reading takes, are together of bulk at most 1048576: NARROWER than '..Said'. Prove '..Said' where nothing that the law and all that it calls make is longer than what came in: it says more and counts as full. Else prove '..UptoSaid'. A law counts once. -/
mutual
def uptoBulk {H : Type} : DataW H → Nat
  | .lit (.string bytes) => bytes.length + 1
  | .lit _ => 1
  | .nil => 1
  | .ptr d => uptoBulk d + 1
  | .slice elems spare => uptoBulkAll elems + uptoBulkAll spare + 1
  | .agg parts => uptoBulkAll parts + 1
  | .iface _ d => uptoBulk d + 1
  | .map entries => uptoBulkEntries entries + 1
  | .held _ => 1
def uptoBulkAll {H : Type} : List (DataW H) → Nat
  | [] => 0
  | d :: r => uptoBulk d + uptoBulkAll r
def uptoBulkEntries {H : Type} : List (Lit × DataW H) → Nat
  | [] => 0
  | x :: r => uptoBulkEntry x + uptoBulkEntries r
def uptoBulkEntry {H : Type} : Lit × DataW H → Nat
  | (.string bytes, d) => bytes.length + uptoBulk d + 1
  | (_, d) => uptoBulk d + 1
 end
def uptoSmall : (H : Type) → List (DataW H) → Bool := fun _ ds => decide (uptoBulkAll ds ≤ 1048576)
def OpenSpec.upto (s : _root_.Go.ChangeSpec) : _root_.Go.OpenSpec := { _root_.Go.OpenSpec.ofChange s with cond := some uptoSmall }

/-- 'lombardlaw25.ServicerPacks', WHERE WHAT IT READS IS OF BULK AT MOST 1048576: true; the input reads as it did. -/
def servicerPacksUptoRow : OpenClaim := { program := "ytgbgmadkmabeeaagreat", sum := "17901c7737ec829ccb46bf5e2f243fe5642e06991846bb5a516003b11c26bc01", func := "lombard/lombardlaw25.ServicerPacks", spec := "servicerPacks", inPlace := ["math/bits.Add64", "slices.overlaps[lombard/api.Event]"], unfollowed := true, recurses := true, named := ["math/bits.divideError", "math/bits.overflowError"], apart := false, narrowed := true }
def ServicerPacksUptoSaid : Prop := servicerPacksUptoRow.holds Tryz.pinned (OpenSpec.upto servicerPacksSpec)

/-- 'lombardlaw25.ServicerFull', WHERE WHAT IT READS IS OF BULK AT MOST 1048576: true; the input reads as it did. -/
def servicerFullUptoRow : OpenClaim := { program := "ytgbgmadkmabeeaagreat", sum := "17901c7737ec829ccb46bf5e2f243fe5642e06991846bb5a516003b11c26bc01", func := "lombard/lombardlaw25.ServicerFull", spec := "servicerFull", inPlace := ["math/bits.Add64", "slices.overlaps[lombard/api.Event]"], unfollowed := true, recurses := true, named := ["math/bits.divideError", "math/bits.overflowError"], apart := false, narrowed := true }
def ServicerFullUptoSaid : Prop := servicerFullUptoRow.holds Tryz.pinned (OpenSpec.upto servicerFullSpec)

/-- 'lombardlaw25.ServicerTells', WHERE WHAT IT READS IS OF BULK AT MOST 1048576: true; the input reads as it did. -/
def servicerTellsUptoRow : OpenClaim := { program := "ytgbgmadkmabeeaagreat", sum := "17901c7737ec829ccb46bf5e2f243fe5642e06991846bb5a516003b11c26bc01", func := "lombard/lombardlaw25.ServicerTells", spec := "servicerTells", inPlace := ["math/bits.Add64", "slices.overlaps[lombard/api.Event]"], unfollowed := true, recurses := true, named := ["math/bits.divideError", "math/bits.overflowError"], apart := false, narrowed := true }
def ServicerTellsUptoSaid : Prop := servicerTellsUptoRow.holds Tryz.pinned (OpenSpec.upto servicerTellsSpec)

/-- 'lombardlaw25.ServicerOther', WHERE WHAT IT READS IS OF BULK AT MOST 1048576: true; the input reads as it did. -/
def servicerOtherUptoRow : OpenClaim := { program := "ytgbgmadkmabeeaagreat", sum := "17901c7737ec829ccb46bf5e2f243fe5642e06991846bb5a516003b11c26bc01", func := "lombard/lombardlaw25.ServicerOther", spec := "servicerOther", inPlace := ["math/bits.Add64", "slices.overlaps[lombard/api.Event]"], unfollowed := true, recurses := true, named := ["math/bits.divideError", "math/bits.overflowError"], apart := false, narrowed := true }
def ServicerOtherUptoSaid : Prop := servicerOtherUptoRow.holds Tryz.pinned (OpenSpec.upto servicerOtherSpec)

/-- 'lombardlaw25.ServicerNil', WHERE WHAT IT READS IS OF BULK AT MOST 1048576: true; the input reads as it did. -/
def servicerNilUptoRow : OpenClaim := { program := "ytgbgmadkmabeeaagreat", sum := "17901c7737ec829ccb46bf5e2f243fe5642e06991846bb5a516003b11c26bc01", func := "lombard/lombardlaw25.ServicerNil", spec := "servicerNil", inPlace := ["math/bits.Add64", "slices.overlaps[lombard/api.Event]"], unfollowed := true, recurses := true, named := ["math/bits.divideError", "math/bits.overflowError"], apart := false, narrowed := true }
def ServicerNilUptoSaid : Prop := servicerNilUptoRow.holds Tryz.pinned (OpenSpec.upto servicerNilSpec)

/-- 'lombardlaw25.ServicerWrites', WHERE WHAT IT READS IS OF BULK AT MOST 1048576: true; the input reads as it did. -/
def servicerWritesUptoRow : OpenClaim := { program := "ytgbgmadkmabeeaagreat", sum := "17901c7737ec829ccb46bf5e2f243fe5642e06991846bb5a516003b11c26bc01", func := "lombard/lombardlaw25.ServicerWrites", spec := "servicerWrites", inPlace := ["math/bits.Add64", "slices.overlaps[lombard/api.Event]"], unfollowed := true, recurses := true, named := ["math/bits.divideError", "math/bits.overflowError"], apart := false, narrowed := true }
def ServicerWritesUptoSaid : Prop := servicerWritesUptoRow.holds Tryz.pinned (OpenSpec.upto servicerWritesSpec)

/-- 'lombardlaw25.ServicerDown', WHERE WHAT IT READS IS OF BULK AT MOST 1048576: true; the input reads as it did. -/
def servicerDownUptoRow : OpenClaim := { program := "ytgbgmadkmabeeaagreat", sum := "17901c7737ec829ccb46bf5e2f243fe5642e06991846bb5a516003b11c26bc01", func := "lombard/lombardlaw25.ServicerDown", spec := "servicerDown", inPlace := ["math/bits.Add64", "slices.overlaps[lombard/api.Event]"], unfollowed := true, recurses := true, named := ["math/bits.divideError", "math/bits.overflowError"], apart := false, narrowed := true }
def ServicerDownUptoSaid : Prop := servicerDownUptoRow.holds Tryz.pinned (OpenSpec.upto servicerDownSpec)

/-- 'lombardlaw25.ServicerPlays', WHERE WHAT IT READS IS OF BULK AT MOST 1048576: true; the input reads as it did. -/
def servicerPlaysUptoRow : OpenClaim := { program := "ytgbgmadkmabeeaagreat", sum := "17901c7737ec829ccb46bf5e2f243fe5642e06991846bb5a516003b11c26bc01", func := "lombard/lombardlaw25.ServicerPlays", spec := "servicerPlays", inPlace := ["math/bits.Add64", "slices.overlaps[lombard/api.Event]"], unfollowed := true, recurses := true, named := ["math/bits.divideError", "math/bits.overflowError"], apart := false, narrowed := true }
def ServicerPlaysUptoSaid : Prop := servicerPlaysUptoRow.holds Tryz.pinned (OpenSpec.upto servicerPlaysSpec)

end Rows
end Go.Proofs.YtgbgmadkmabeeaaGreat

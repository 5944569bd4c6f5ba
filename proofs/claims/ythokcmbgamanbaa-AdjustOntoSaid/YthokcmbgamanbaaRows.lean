/-
  No cell of these rows narrows 'for every input' (looked for: loops, veiled, ifaces, maps, wideKeys, modest, calm, conditions, laid).
  DERIVED. THE GIVEN ROWS OF THIS SEAT. 6 by the template 'for every input the law returns true; each argument reads behind the call as it read before'; 0 by the template 'total and deterministic' (their statements: YthokcmbgamanbaaTotals.lean).
  GIVEN WITH THE SEED: the statements are not yours to turn. If you find one false, say at which input.
  Laid BY PROGRAM, IN A SANDBOX (cutbox-rows.mjs): the forced cells as the released guide's own fill.sh prints them over the translation b261d79cd3505744… (all of the seat's roots in one cut). By AI agents, Wed Nov 11 2026. No macro, syntax, notation, axiom, sorry.
-/
import Derived.Test.YthokcmbgamanbaaChecked
import GoSem.Claim
import GoSem.ClaimJoined
import GoSem.ClaimMapViews
import Derived.JoinedTies
import Derived.KernelRfl
namespace Go.Proofs.Ythokcmbgamanbaa
/- THE CELL 'sum', in the pinned program and in every row, IS THE sha256 OF THE DUMP (.gsa) THAT YthokcmbgamanbaaProg.lean LOADS. Nothing in Lean hashes anything: it is a label: what it is worth is what the hold of that sum in a sandbox is worth. -/
noncomputable def Try.pinned : Pinned := { name := "ythokcmbgamanbaa", sum := "b261d79cd3505744deee0d8d42ff50149d551f2592e598526ff9fa7e5216bd6d", checked := Try.checked }
namespace Rows
def none {H : Type} : Left H := { results := [], args := [] }

/-- 'lombardlaw27.ScriptDecodes': WHATEVER THE INPUT: true; the input reads as it did. -/
def scriptDecodesSpec : ChangeSpec := { name := "scriptDecodes", fn := fun _ => fun
  | [d] => { results := [.lit (.bool true)], args := [d] }
  | _ => none }
def scriptDecodesRow : OpenClaim := { program := "ythokcmbgamanbaa", sum := "b261d79cd3505744deee0d8d42ff50149d551f2592e598526ff9fa7e5216bd6d", func := "lombard/lombardlaw27.ScriptDecodes", spec := "scriptDecodes", unfollowed := true, recurses := true, apart := false }
def ScriptDecodesSaid : Prop := scriptDecodesRow.holds Try.pinned (OpenSpec.ofChange scriptDecodesSpec)

/-- ITS FALSE NEIGHBOUR: 'it returns false'. Refute it at one input. -/
def scriptDecodesWrong : ChangeSpec := { name := "scriptDecodes", fn := fun _ => fun
  | [d] => { results := [.lit (.bool false)], args := [d] }
  | _ => none }
def ScriptDecodesWrongFalsely : Prop := scriptDecodesRow.holds Try.pinned (OpenSpec.ofChange scriptDecodesWrong)

/-- 'lombardlaw27.ScriptTail': WHATEVER THE INPUT: true; the input reads as it did. -/
def scriptTailSpec : ChangeSpec := { name := "scriptTail", fn := fun _ => fun
  | [d1, d2] => { results := [.lit (.bool true)], args := [d1, d2] }
  | _ => none }
def scriptTailRow : OpenClaim := { program := "ythokcmbgamanbaa", sum := "b261d79cd3505744deee0d8d42ff50149d551f2592e598526ff9fa7e5216bd6d", func := "lombard/lombardlaw27.ScriptTail", spec := "scriptTail", unfollowed := true, recurses := true, apart := false }
def ScriptTailSaid : Prop := scriptTailRow.holds Try.pinned (OpenSpec.ofChange scriptTailSpec)

/-- ITS FALSE NEIGHBOUR: 'it returns false'. Refute it at one input. -/
def scriptTailWrong : ChangeSpec := { name := "scriptTail", fn := fun _ => fun
  | [d1, d2] => { results := [.lit (.bool false)], args := [d1, d2] }
  | _ => none }
def ScriptTailWrongFalsely : Prop := scriptTailRow.holds Try.pinned (OpenSpec.ofChange scriptTailWrong)

/-- 'lombardlaw20.PageBack': WHATEVER THE INPUT: true; the input reads as it did. -/
def pageBackSpec : ChangeSpec := { name := "pageBack", fn := fun _ => fun
  | [d1, d2, d3] => { results := [.lit (.bool true)], args := [d1, d2, d3] }
  | _ => none }
def pageBackRow : OpenClaim := { program := "ythokcmbgamanbaa", sum := "b261d79cd3505744deee0d8d42ff50149d551f2592e598526ff9fa7e5216bd6d", func := "lombard/lombardlaw20.PageBack", spec := "pageBack", unfollowed := true, recurses := true, apart := false }
def PageBackSaid : Prop := pageBackRow.holds Try.pinned (OpenSpec.ofChange pageBackSpec)

/-- ITS FALSE NEIGHBOUR: 'it returns false'. Refute it at one input. -/
def pageBackWrong : ChangeSpec := { name := "pageBack", fn := fun _ => fun
  | [d1, d2, d3] => { results := [.lit (.bool false)], args := [d1, d2, d3] }
  | _ => none }
def PageBackWrongFalsely : Prop := pageBackRow.holds Try.pinned (OpenSpec.ofChange pageBackWrong)

/-- 'lombardlaw20.PageTurned': WHATEVER THE INPUT: true; the input reads as it did. -/
def pageTurnedSpec : ChangeSpec := { name := "pageTurned", fn := fun _ => fun
  | [d1, d2, d3, d4] => { results := [.lit (.bool true)], args := [d1, d2, d3, d4] }
  | _ => none }
def pageTurnedRow : OpenClaim := { program := "ythokcmbgamanbaa", sum := "b261d79cd3505744deee0d8d42ff50149d551f2592e598526ff9fa7e5216bd6d", func := "lombard/lombardlaw20.PageTurned", spec := "pageTurned", unfollowed := true, recurses := true, apart := false }
def PageTurnedSaid : Prop := pageTurnedRow.holds Try.pinned (OpenSpec.ofChange pageTurnedSpec)

/-- ITS FALSE NEIGHBOUR: 'it returns false'. Refute it at one input. -/
def pageTurnedWrong : ChangeSpec := { name := "pageTurned", fn := fun _ => fun
  | [d1, d2, d3, d4] => { results := [.lit (.bool false)], args := [d1, d2, d3, d4] }
  | _ => none }
def PageTurnedWrongFalsely : Prop := pageTurnedRow.holds Try.pinned (OpenSpec.ofChange pageTurnedWrong)

/-- 'lombardlaw21.AdjustOnto': WHATEVER THE INPUT: true; the input reads as it did. -/
def adjustOntoSpec : ChangeSpec := { name := "adjustOnto", fn := fun _ => fun
  | [d1, d2] => { results := [.lit (.bool true)], args := [d1, d2] }
  | _ => none }
def adjustOntoRow : OpenClaim := { program := "ythokcmbgamanbaa", sum := "b261d79cd3505744deee0d8d42ff50149d551f2592e598526ff9fa7e5216bd6d", func := "lombard/lombardlaw21.AdjustOnto", spec := "adjustOnto", unfollowed := true, recurses := true, apart := false }
def AdjustOntoSaid : Prop := adjustOntoRow.holds Try.pinned (OpenSpec.ofChange adjustOntoSpec)

/-- ITS FALSE NEIGHBOUR: 'it returns false'. Refute it at one input. -/
def adjustOntoWrong : ChangeSpec := { name := "adjustOnto", fn := fun _ => fun
  | [d1, d2] => { results := [.lit (.bool false)], args := [d1, d2] }
  | _ => none }
def AdjustOntoWrongFalsely : Prop := adjustOntoRow.holds Try.pinned (OpenSpec.ofChange adjustOntoWrong)

/-- 'lombardlaw21.AdjustRefused': WHATEVER THE INPUT: true; the input reads as it did. -/
def adjustRefusedSpec : ChangeSpec := { name := "adjustRefused", fn := fun _ => fun
  | [d1, d2] => { results := [.lit (.bool true)], args := [d1, d2] }
  | _ => none }
def adjustRefusedRow : OpenClaim := { program := "ythokcmbgamanbaa", sum := "b261d79cd3505744deee0d8d42ff50149d551f2592e598526ff9fa7e5216bd6d", func := "lombard/lombardlaw21.AdjustRefused", spec := "adjustRefused", unfollowed := true, recurses := true, apart := false }
def AdjustRefusedSaid : Prop := adjustRefusedRow.holds Try.pinned (OpenSpec.ofChange adjustRefusedSpec)

/-- ITS FALSE NEIGHBOUR: 'it returns false'. Refute it at one input. -/
def adjustRefusedWrong : ChangeSpec := { name := "adjustRefused", fn := fun _ => fun
  | [d1, d2] => { results := [.lit (.bool false)], args := [d1, d2] }
  | _ => none }
def AdjustRefusedWrongFalsely : Prop := adjustRefusedRow.holds Try.pinned (OpenSpec.ofChange adjustRefusedWrong)

/- THE SECOND FORM. 'bulk': how many values and letters a reading holds, each counted each time it is reached (what is shared counts as often as it is met; a slice's spare places count too). A statement '..UptoSaid' is the law's where the arguments, and the package variables that the reading takes, are together of bulk at most 1048576: NARROWER than '..Said'. Prove '..Said' where nothing that the law and all that it calls make is longer than what came in: it says more and counts as full. Else prove '..UptoSaid'. A law counts once. -/
mutual
def uptoBulk {H : Type} : DataW H → Nat
  | .lit (.string bytes) => bytes.length + 1
  | .lit _ => 1
  | .nil => 1
  | .ptr d => uptoBulk d + 1
  | .slice elems spare => uptoBulkAll elems + uptoBulkAll spare + 1
  | .agg parts => uptoBulkAll parts + 1
  | .iface _ d => uptoBulk d + 1
  | .map entries => uptoBulkEntries entries + 1
  | .held _ => 1
def uptoBulkAll {H : Type} : List (DataW H) → Nat
  | [] => 0
  | d :: r => uptoBulk d + uptoBulkAll r
def uptoBulkEntries {H : Type} : List (Lit × DataW H) → Nat
  | [] => 0
  | x :: r => uptoBulkEntry x + uptoBulkEntries r
def uptoBulkEntry {H : Type} : Lit × DataW H → Nat
  | (.string bytes, d) => bytes.length + uptoBulk d + 1
  | (_, d) => uptoBulk d + 1
 end
def uptoSmall : (H : Type) → List (DataW H) → Bool := fun _ ds => decide (uptoBulkAll ds ≤ 1048576)
def OpenSpec.upto (s : _root_.Go.ChangeSpec) : _root_.Go.OpenSpec := { _root_.Go.OpenSpec.ofChange s with cond := some uptoSmall }

/-- 'lombardlaw27.ScriptDecodes', WHERE WHAT IT READS IS OF BULK AT MOST 1048576: true; the input reads as it did. -/
def scriptDecodesUptoRow : OpenClaim := { program := "ythokcmbgamanbaa", sum := "b261d79cd3505744deee0d8d42ff50149d551f2592e598526ff9fa7e5216bd6d", func := "lombard/lombardlaw27.ScriptDecodes", spec := "scriptDecodes", unfollowed := true, recurses := true, apart := false, narrowed := true }
def ScriptDecodesUptoSaid : Prop := scriptDecodesUptoRow.holds Try.pinned (OpenSpec.upto scriptDecodesSpec)

/-- 'lombardlaw27.ScriptTail', WHERE WHAT IT READS IS OF BULK AT MOST 1048576: true; the input reads as it did. -/
def scriptTailUptoRow : OpenClaim := { program := "ythokcmbgamanbaa", sum := "b261d79cd3505744deee0d8d42ff50149d551f2592e598526ff9fa7e5216bd6d", func := "lombard/lombardlaw27.ScriptTail", spec := "scriptTail", unfollowed := true, recurses := true, apart := false, narrowed := true }
def ScriptTailUptoSaid : Prop := scriptTailUptoRow.holds Try.pinned (OpenSpec.upto scriptTailSpec)

/-- 'lombardlaw20.PageBack', WHERE WHAT IT READS IS OF BULK AT MOST 1048576: true; the input reads as it did. -/
def pageBackUptoRow : OpenClaim := { program := "ythokcmbgamanbaa", sum := "b261d79cd3505744deee0d8d42ff50149d551f2592e598526ff9fa7e5216bd6d", func := "lombard/lombardlaw20.PageBack", spec := "pageBack", unfollowed := true, recurses := true, apart := false, narrowed := true }
def PageBackUptoSaid : Prop := pageBackUptoRow.holds Try.pinned (OpenSpec.upto pageBackSpec)

/-- 'lombardlaw20.PageTurned', WHERE WHAT IT READS IS OF BULK AT MOST 1048576: true; the input reads as it did. -/
def pageTurnedUptoRow : OpenClaim := { program := "ythokcmbgamanbaa", sum := "b261d79cd3505744deee0d8d42ff50149d551f2592e598526ff9fa7e5216bd6d", func := "lombard/lombardlaw20.PageTurned", spec := "pageTurned", unfollowed := true, recurses := true, apart := false, narrowed := true }
def PageTurnedUptoSaid : Prop := pageTurnedUptoRow.holds Try.pinned (OpenSpec.upto pageTurnedSpec)

/-- 'lombardlaw21.AdjustOnto', WHERE WHAT IT READS IS OF BULK AT MOST 1048576: true; the input reads as it did. -/
def adjustOntoUptoRow : OpenClaim := { program := "ythokcmbgamanbaa", sum := "b261d79cd3505744deee0d8d42ff50149d551f2592e598526ff9fa7e5216bd6d", func := "lombard/lombardlaw21.AdjustOnto", spec := "adjustOnto", unfollowed := true, recurses := true, apart := false, narrowed := true }
def AdjustOntoUptoSaid : Prop := adjustOntoUptoRow.holds Try.pinned (OpenSpec.upto adjustOntoSpec)

/-- 'lombardlaw21.AdjustRefused', WHERE WHAT IT READS IS OF BULK AT MOST 1048576: true; the input reads as it did. -/
def adjustRefusedUptoRow : OpenClaim := { program := "ythokcmbgamanbaa", sum := "b261d79cd3505744deee0d8d42ff50149d551f2592e598526ff9fa7e5216bd6d", func := "lombard/lombardlaw21.AdjustRefused", spec := "adjustRefused", unfollowed := true, recurses := true, apart := false, narrowed := true }
def AdjustRefusedUptoSaid : Prop := adjustRefusedUptoRow.holds Try.pinned (OpenSpec.upto adjustRefusedSpec)

end Rows
end Go.Proofs.Ythokcmbgamanbaa

/-
  DERIVED. GIVEN WITH THE SEED: THE CARDS: each row of YthokcmbgamanbaaDoorRows.lean that lists a variable, with what it lists TIED to the program's text (the seventh form; the later family's looks); each row that meets fmt, with fmt's text TOLD by the authors' own Lean function (tested against real Go, not proved from fmt's source: count such statements apart). THE CARD IS WHAT COUNTS. Prove the row's statement (the work); the ties are given (YthokcmbgamanbaaDoorTie.lean); close each card by the builder's one call (the guide's Derived/Test/ToyasCard.lean, 'card_holds'). Laid BY PROGRAM, IN A SANDBOX (cutbox-door.mjs). By AI agents, Wed Nov 11 2026. No macro, syntax, notation, axiom, sorry.
-/
import Derived.Test.YthokcmbgamanbaaDoorRows
import GoSem.ClaimSeven
namespace Go.Proofs.YthokcmbgamanbaaDoor
namespace Rows

/-- THE TIED CARD OF 'lombardlaw20.PageWrong'. -/
def pageWrongCard : Claim7 := { stood := { row := pageWrongRow, standIns := [], harness := (true, "bd0ae847fcec6e0fbd1128aadf38f5455b66d25740279c40099ea843da5ef44d"), looks := false }, kinds := [], alts := [], laidByText := true, laidKinds := [.data, .data, .data], laidTests := true, laidLooks := .later }
def PageWrongCardSaid : Prop := Claim7.holds Tryd.pinned (.plain (OpenSpec.ofChange pageWrongSpec)) pageWrongCard

/-- THE TIED CARD OF 'lombardlaw20.PageLines'. -/
def pageLinesCard : Claim7 := { stood := { row := pageLinesRow, standIns := [], harness := (true, "bd0ae847fcec6e0fbd1128aadf38f5455b66d25740279c40099ea843da5ef44d"), looks := false }, kinds := [], alts := [], laidByText := true, laidKinds := [.data, .data, .data], laidTests := true, laidLooks := .later }
def PageLinesCardSaid : Prop := Claim7.holds Tryd.pinned (.plain (OpenSpec.ofChange pageLinesSpec)) pageLinesCard

/-- THE TIED CARD OF 'lombardlaw20.PagePacks'. -/
def pagePacksCard : Claim7 := { stood := { row := pagePacksRow, standIns := [], harness := (true, "bd0ae847fcec6e0fbd1128aadf38f5455b66d25740279c40099ea843da5ef44d"), looks := false }, kinds := [], alts := [], laidByText := true, laidKinds := [.data, .data, .data], laidTests := true, laidLooks := .later }
def PagePacksCardSaid : Prop := Claim7.holds Tryd.pinned (.plain (OpenSpec.ofChange pagePacksSpec)) pagePacksCard

/-- THE SECOND FORM's CARD OF 'lombardlaw20.PageWrong'. -/
def pageWrongUptoCard : Claim7 := { stood := { row := pageWrongUptoRow, standIns := [], harness := (true, "bd0ae847fcec6e0fbd1128aadf38f5455b66d25740279c40099ea843da5ef44d"), looks := false }, kinds := [], alts := [], laidByText := true, laidKinds := [.data, .data, .data], laidTests := true, laidLooks := .later }
def PageWrongUptoCardSaid : Prop := Claim7.holds Tryd.pinned (.plain (OpenSpec.upto pageWrongSpec)) pageWrongUptoCard

/-- THE SECOND FORM's CARD OF 'lombardlaw20.PageLines'. -/
def pageLinesUptoCard : Claim7 := { stood := { row := pageLinesUptoRow, standIns := [], harness := (true, "bd0ae847fcec6e0fbd1128aadf38f5455b66d25740279c40099ea843da5ef44d"), looks := false }, kinds := [], alts := [], laidByText := true, laidKinds := [.data, .data, .data], laidTests := true, laidLooks := .later }
def PageLinesUptoCardSaid : Prop := Claim7.holds Tryd.pinned (.plain (OpenSpec.upto pageLinesSpec)) pageLinesUptoCard

/-- THE SECOND FORM's CARD OF 'lombardlaw20.PagePacks'. -/
def pagePacksUptoCard : Claim7 := { stood := { row := pagePacksUptoRow, standIns := [], harness := (true, "bd0ae847fcec6e0fbd1128aadf38f5455b66d25740279c40099ea843da5ef44d"), looks := false }, kinds := [], alts := [], laidByText := true, laidKinds := [.data, .data, .data], laidTests := true, laidLooks := .later }
def PagePacksUptoCardSaid : Prop := Claim7.holds Tryd.pinned (.plain (OpenSpec.upto pagePacksSpec)) pagePacksUptoCard
end Rows
end Go.Proofs.YthokcmbgamanbaaDoor

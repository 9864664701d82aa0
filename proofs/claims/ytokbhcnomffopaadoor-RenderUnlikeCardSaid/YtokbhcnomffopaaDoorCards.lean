/-
  DERIVED. GIVEN WITH THE SEED: THE CARDS: each row of YtokbhcnomffopaaDoorRows.lean that lists a variable, with what it lists TIED to the program's text (the seventh form; the later family's looks); each row that meets fmt, with fmt's text TOLD by the authors' own Lean function (tested against real Go, not proved from fmt's source: count such statements apart). THE CARD IS WHAT COUNTS. Prove the row's statement (the work); the ties are given (YtokbhcnomffopaaDoorTie.lean); close each card by the builder's one call (the guide's Derived/Test/ToyasCard.lean, 'card_holds'). Laid BY PROGRAM, IN A SANDBOX (cutbox-door.mjs). By AI agents, Wed Nov 11 2026. No macro, syntax, notation, axiom, sorry.
-/
import Derived.Test.YtokbhcnomffopaaDoorRows
import GoSem.ClaimSeven
namespace Go.Proofs.YtokbhcnomffopaaDoor
namespace Rows

/-- THE TIED CARD OF 'quillworklaw19.RenderRow'. -/
def renderRowCard : Claim7 := { stood := { row := renderRowRow, standIns := [], harness := (true, "b2a35f6d367f5c8eb0b1031b16f727d3f07e9d018b8e9bbdc7c7e2c0ff5a8acb"), looks := false }, kinds := [], alts := [], laidByText := true, laidKinds := [.data, .pinned], laidTests := true, laidLooks := .later }
def RenderRowCardSaid : Prop := Claim7.holds Tryd.pinned (.plain (OpenSpec.ofChange renderRowSpec)) renderRowCard

/-- THE TIED CARD OF 'quillworklaw19.RenderUnlike'. -/
def renderUnlikeCard : Claim7 := { stood := { row := renderUnlikeRow, standIns := [], harness := (true, "b2a35f6d367f5c8eb0b1031b16f727d3f07e9d018b8e9bbdc7c7e2c0ff5a8acb"), looks := false }, kinds := [], alts := [], laidByText := true, laidKinds := [.data, .pinned], laidTests := true, laidLooks := .later }
def RenderUnlikeCardSaid : Prop := Claim7.holds Tryd.pinned (.plain (OpenSpec.ofChange renderUnlikeSpec)) renderUnlikeCard

/-- THE SECOND FORM's CARD OF 'quillworklaw19.RenderRow'. -/
def renderRowUptoCard : Claim7 := { stood := { row := renderRowUptoRow, standIns := [], harness := (true, "b2a35f6d367f5c8eb0b1031b16f727d3f07e9d018b8e9bbdc7c7e2c0ff5a8acb"), looks := false }, kinds := [], alts := [], laidByText := true, laidKinds := [.data, .pinned], laidTests := true, laidLooks := .later }
def RenderRowUptoCardSaid : Prop := Claim7.holds Tryd.pinned (.plain (OpenSpec.upto renderRowSpec)) renderRowUptoCard

/-- THE SECOND FORM's CARD OF 'quillworklaw19.RenderUnlike'. -/
def renderUnlikeUptoCard : Claim7 := { stood := { row := renderUnlikeUptoRow, standIns := [], harness := (true, "b2a35f6d367f5c8eb0b1031b16f727d3f07e9d018b8e9bbdc7c7e2c0ff5a8acb"), looks := false }, kinds := [], alts := [], laidByText := true, laidKinds := [.data, .pinned], laidTests := true, laidLooks := .later }
def RenderUnlikeUptoCardSaid : Prop := Claim7.holds Tryd.pinned (.plain (OpenSpec.upto renderUnlikeSpec)) renderUnlikeUptoCard
end Rows
end Go.Proofs.YtokbhcnomffopaaDoor

/-
  DERIVED. GIVEN WITH THE SEED: THE CARDS: each row of YtokbhcnomffopaaGreatDoorRows.lean that lists a variable, with what it lists TIED to the program's text (the seventh form; the later family's looks); each row that meets fmt, with fmt's text TOLD by the authors' own Lean function (tested against real Go, not proved from fmt's source: count such statements apart). THE CARD IS WHAT COUNTS. Prove the row's statement (the work); the ties are given (YtokbhcnomffopaaGreatDoorTie.lean); close each card by the builder's one call (the guide's Derived/Test/ToyasCard.lean, 'card_holds'). Laid BY PROGRAM, IN A SANDBOX (cutbox-door.mjs). By AI agents, Wed Nov 11 2026. No macro, syntax, notation, axiom, sorry.
-/
import Derived.Test.YtokbhcnomffopaaGreatDoorRows
import GoSem.ClaimSeven
namespace Go.Proofs.YtokbhcnomffopaaGreatDoor
namespace Rows

/-- THE TIED CARD OF 'quillworklaw19.RenderHost'. -/
def renderHostCard : Claim7 := { stood := { row := renderHostRow, standIns := [], harness := (true, "b79d54f95cbf1f33f01e1f1e23298303b1787279ff25b8b027e7da99582a1e25"), looks := false }, kinds := [], alts := [], laidByText := true, laidKinds := [.data, .pinned], laidTests := true, laidLooks := .later }
def RenderHostCardSaid : Prop := Claim7.holds Tryz.pinned (.plain (OpenSpec.ofChange renderHostSpec)) renderHostCard

/-- THE TIED CARD OF 'quillworklaw19.RenderPoint'. -/
def renderPointCard : Claim7 := { stood := { row := renderPointRow, standIns := [], harness := (true, "b79d54f95cbf1f33f01e1f1e23298303b1787279ff25b8b027e7da99582a1e25"), looks := false }, kinds := [], alts := [], laidByText := true, laidKinds := [.data, .pinned], laidTests := true, laidLooks := .later }
def RenderPointCardSaid : Prop := Claim7.holds Tryz.pinned (.plain (OpenSpec.ofChange renderPointSpec)) renderPointCard

/-- THE TIED CARD OF 'quillworklaw19.RenderTidy'. -/
def renderTidyCard : Claim7 := { stood := { row := renderTidyRow, standIns := [], harness := (true, "b79d54f95cbf1f33f01e1f1e23298303b1787279ff25b8b027e7da99582a1e25"), looks := false }, kinds := [], alts := [], laidByText := true, laidKinds := [.data, .pinned], laidTests := true, laidLooks := .later }
def RenderTidyCardSaid : Prop := Claim7.holds Tryz.pinned (.plain (OpenSpec.ofChange renderTidySpec)) renderTidyCard

/-- THE TIED CARD OF 'quillworklaw19.RenderBack'. -/
def renderBackCard : Claim7 := { stood := { row := renderBackRow, standIns := [], harness := (true, "b79d54f95cbf1f33f01e1f1e23298303b1787279ff25b8b027e7da99582a1e25"), looks := false }, kinds := [], alts := [], laidByText := true, laidKinds := [.data, .pinned], laidTests := true, laidLooks := .later }
def RenderBackCardSaid : Prop := Claim7.holds Tryz.pinned (.plain (OpenSpec.ofChange renderBackSpec)) renderBackCard

/-- THE SECOND FORM's CARD OF 'quillworklaw19.RenderHost'. -/
def renderHostUptoCard : Claim7 := { stood := { row := renderHostUptoRow, standIns := [], harness := (true, "b79d54f95cbf1f33f01e1f1e23298303b1787279ff25b8b027e7da99582a1e25"), looks := false }, kinds := [], alts := [], laidByText := true, laidKinds := [.data, .pinned], laidTests := true, laidLooks := .later }
def RenderHostUptoCardSaid : Prop := Claim7.holds Tryz.pinned (.plain (OpenSpec.upto renderHostSpec)) renderHostUptoCard

/-- THE SECOND FORM's CARD OF 'quillworklaw19.RenderPoint'. -/
def renderPointUptoCard : Claim7 := { stood := { row := renderPointUptoRow, standIns := [], harness := (true, "b79d54f95cbf1f33f01e1f1e23298303b1787279ff25b8b027e7da99582a1e25"), looks := false }, kinds := [], alts := [], laidByText := true, laidKinds := [.data, .pinned], laidTests := true, laidLooks := .later }
def RenderPointUptoCardSaid : Prop := Claim7.holds Tryz.pinned (.plain (OpenSpec.upto renderPointSpec)) renderPointUptoCard

/-- THE SECOND FORM's CARD OF 'quillworklaw19.RenderTidy'. -/
def renderTidyUptoCard : Claim7 := { stood := { row := renderTidyUptoRow, standIns := [], harness := (true, "b79d54f95cbf1f33f01e1f1e23298303b1787279ff25b8b027e7da99582a1e25"), looks := false }, kinds := [], alts := [], laidByText := true, laidKinds := [.data, .pinned], laidTests := true, laidLooks := .later }
def RenderTidyUptoCardSaid : Prop := Claim7.holds Tryz.pinned (.plain (OpenSpec.upto renderTidySpec)) renderTidyUptoCard

/-- THE SECOND FORM's CARD OF 'quillworklaw19.RenderBack'. -/
def renderBackUptoCard : Claim7 := { stood := { row := renderBackUptoRow, standIns := [], harness := (true, "b79d54f95cbf1f33f01e1f1e23298303b1787279ff25b8b027e7da99582a1e25"), looks := false }, kinds := [], alts := [], laidByText := true, laidKinds := [.data, .pinned], laidTests := true, laidLooks := .later }
def RenderBackUptoCardSaid : Prop := Claim7.holds Tryz.pinned (.plain (OpenSpec.upto renderBackSpec)) renderBackUptoCard
end Rows
end Go.Proofs.YtokbhcnomffopaaGreatDoor

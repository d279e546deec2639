/-
  DERIVED. GIVEN WITH THE SEED: THE CARDS: each row of YtihiicjnjhideaaDoorRows.lean that lists a variable, with what it lists TIED to the program's text (the seventh form; the later family's looks); each row that meets fmt, with fmt's text TOLD by the authors' own Lean function (tested against real Go, not proved from fmt's source: count such statements apart). THE CARD IS WHAT COUNTS. Prove the row's statement (the work); the ties are given (YtihiicjnjhideaaDoorTie.lean); close each card by the builder's one call (the guide's Derived/Test/ToyasCard.lean, 'card_holds'). Laid BY PROGRAM, IN A SANDBOX (cutbox-door.mjs). By AI agents, Wed Nov 11 2026. No macro, syntax, notation, axiom, sorry.
-/
import Derived.Test.YtihiicjnjhideaaDoorRows
import GoSem.ClaimSeven
namespace Go.Proofs.YtihiicjnjhideaaDoor
namespace Rows

/-- THE TIED CARD OF 'dowellaw09.CoreRight'. -/
def coreRightCard : Claim7 := { stood := { row := coreRightRow, standIns := [], harness := (true, "d0c5d60bf0e5ad9c0338b077e631e6282b51d23484b2feff10ab3e5e988e44e5"), looks := true }, kinds := [], alts := [], laidByText := true, laidKinds := [.data], laidTests := true, laidLooks := .later }
def CoreRightCardSaid : Prop := Claim7.holds Tryd.pinned (.plain (OpenSpec.ofChange coreRightSpec)) coreRightCard

/-- THE TIED CARD OF 'dowellaw09.CoreLabels'. -/
def coreLabelsCard : Claim7 := { stood := { row := coreLabelsRow, standIns := [], harness := (true, "d0c5d60bf0e5ad9c0338b077e631e6282b51d23484b2feff10ab3e5e988e44e5"), looks := true }, kinds := [], alts := [], laidByText := true, laidKinds := [.data], laidTests := true, laidLooks := .later }
def CoreLabelsCardSaid : Prop := Claim7.holds Tryd.pinned (.plain (OpenSpec.ofChange coreLabelsSpec)) coreLabelsCard

/-- THE TIED CARD OF 'dowellaw09.CoreOrder'. -/
def coreOrderCard : Claim7 := { stood := { row := coreOrderRow, standIns := [], harness := (true, "d0c5d60bf0e5ad9c0338b077e631e6282b51d23484b2feff10ab3e5e988e44e5"), looks := true }, kinds := [], alts := [], laidByText := true, laidKinds := [.data], laidTests := true, laidLooks := .later }
def CoreOrderCardSaid : Prop := Claim7.holds Tryd.pinned (.plain (OpenSpec.ofChange coreOrderSpec)) coreOrderCard

/-- THE TIED CARD OF 'dowellaw09.CoreBack'. -/
def coreBackCard : Claim7 := { stood := { row := coreBackRow, standIns := [], harness := (true, "d0c5d60bf0e5ad9c0338b077e631e6282b51d23484b2feff10ab3e5e988e44e5"), looks := true }, kinds := [], alts := [], laidByText := true, laidKinds := [.data], laidTests := true, laidLooks := .later }
def CoreBackCardSaid : Prop := Claim7.holds Tryd.pinned (.plain (OpenSpec.ofChange coreBackSpec)) coreBackCard

/-- THE SECOND FORM's CARD OF 'dowellaw09.CoreRight'. -/
def coreRightUptoCard : Claim7 := { stood := { row := coreRightUptoRow, standIns := [], harness := (true, "d0c5d60bf0e5ad9c0338b077e631e6282b51d23484b2feff10ab3e5e988e44e5"), looks := true }, kinds := [], alts := [], laidByText := true, laidKinds := [.data], laidTests := true, laidLooks := .later }
def CoreRightUptoCardSaid : Prop := Claim7.holds Tryd.pinned (.plain (OpenSpec.upto coreRightSpec)) coreRightUptoCard

/-- THE SECOND FORM's CARD OF 'dowellaw09.CoreLabels'. -/
def coreLabelsUptoCard : Claim7 := { stood := { row := coreLabelsUptoRow, standIns := [], harness := (true, "d0c5d60bf0e5ad9c0338b077e631e6282b51d23484b2feff10ab3e5e988e44e5"), looks := true }, kinds := [], alts := [], laidByText := true, laidKinds := [.data], laidTests := true, laidLooks := .later }
def CoreLabelsUptoCardSaid : Prop := Claim7.holds Tryd.pinned (.plain (OpenSpec.upto coreLabelsSpec)) coreLabelsUptoCard

/-- THE SECOND FORM's CARD OF 'dowellaw09.CoreOrder'. -/
def coreOrderUptoCard : Claim7 := { stood := { row := coreOrderUptoRow, standIns := [], harness := (true, "d0c5d60bf0e5ad9c0338b077e631e6282b51d23484b2feff10ab3e5e988e44e5"), looks := true }, kinds := [], alts := [], laidByText := true, laidKinds := [.data], laidTests := true, laidLooks := .later }
def CoreOrderUptoCardSaid : Prop := Claim7.holds Tryd.pinned (.plain (OpenSpec.upto coreOrderSpec)) coreOrderUptoCard

/-- THE SECOND FORM's CARD OF 'dowellaw09.CoreBack'. -/
def coreBackUptoCard : Claim7 := { stood := { row := coreBackUptoRow, standIns := [], harness := (true, "d0c5d60bf0e5ad9c0338b077e631e6282b51d23484b2feff10ab3e5e988e44e5"), looks := true }, kinds := [], alts := [], laidByText := true, laidKinds := [.data], laidTests := true, laidLooks := .later }
def CoreBackUptoCardSaid : Prop := Claim7.holds Tryd.pinned (.plain (OpenSpec.upto coreBackSpec)) coreBackUptoCard
end Rows
end Go.Proofs.YtihiicjnjhideaaDoor

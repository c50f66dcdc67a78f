/-
  DERIVED. GIVEN WITH THE SEED: THE CARDS: each row of YteajpebkanamgaaDoorRows.lean that lists a variable, with what it lists TIED to the program's text (the seventh form; the later family's looks); each row that meets fmt, with fmt's text TOLD by the authors' own Lean function (tested against real Go, not proved from fmt's source: count such statements apart). THE CARD IS WHAT COUNTS. Prove the row's statement (the work); the ties are given (YteajpebkanamgaaDoorTie.lean); close each card by the builder's one call (the guide's Derived/Test/ToyasCard.lean, 'card_holds'). Laid BY PROGRAM, IN A SANDBOX (cutbox-door.mjs). By AI agents, Wed Nov 11 2026. No macro, syntax, notation, axiom, sorry.
-/
import Derived.Test.YteajpebkanamgaaDoorRows
import GoSem.ClaimSeven
namespace Go.Proofs.YteajpebkanamgaaDoor
namespace Rows

/-- THE TIED CARD OF 'dovecotelaw16.LogRoom'. -/
def logRoomCard : Claim7 := { stood := { row := logRoomRow, standIns := [], harness := (true, "2a3ca538f52a0dda71efaeb18b1e9968364927d36c037296c4572923869296e5"), looks := false }, kinds := [], alts := [], laidByText := true, laidKinds := [.data], laidTests := true, laidLooks := .later }
def LogRoomCardSaid : Prop := Claim7.holds Tryd.pinned (.plain (OpenSpec.ofChange logRoomSpec)) logRoomCard

/-- THE TIED CARD OF 'dovecotelaw16.LogCompacts'. -/
def logCompactsCard : Claim7 := { stood := { row := logCompactsRow, standIns := [], harness := (true, "2a3ca538f52a0dda71efaeb18b1e9968364927d36c037296c4572923869296e5"), looks := false }, kinds := [], alts := [], laidByText := true, laidKinds := [.data], laidTests := true, laidLooks := .later }
def LogCompactsCardSaid : Prop := Claim7.holds Tryd.pinned (.plain (OpenSpec.ofChange logCompactsSpec)) logCompactsCard

/-- THE TIED CARD OF 'dovecotelaw17.SeenEpochs'. -/
def seenEpochsCard : Claim7 := { stood := { row := seenEpochsRow, standIns := [], harness := (true, "2a3ca538f52a0dda71efaeb18b1e9968364927d36c037296c4572923869296e5"), looks := false }, kinds := [], alts := [], laidByText := true, laidKinds := [.data], laidTests := true, laidLooks := .later }
def SeenEpochsCardSaid : Prop := Claim7.holds Tryd.pinned (.plain (OpenSpec.ofChange seenEpochsSpec)) seenEpochsCard

/-- THE TIED CARD OF 'dovecotelaw17.SeenFull'. -/
def seenFullCard : Claim7 := { stood := { row := seenFullRow, standIns := [], harness := (true, "2a3ca538f52a0dda71efaeb18b1e9968364927d36c037296c4572923869296e5"), looks := false }, kinds := [], alts := [], laidByText := true, laidKinds := [.data], laidTests := true, laidLooks := .later }
def SeenFullCardSaid : Prop := Claim7.holds Tryd.pinned (.plain (OpenSpec.ofChange seenFullSpec)) seenFullCard

/-- THE TIED CARD OF 'dovecotelaw18.BoxesOrder'. -/
def boxesOrderCard : Claim7 := { stood := { row := boxesOrderRow, standIns := [], harness := (true, "2a3ca538f52a0dda71efaeb18b1e9968364927d36c037296c4572923869296e5"), looks := false }, kinds := [], alts := [], laidByText := true, laidKinds := [.data], laidTests := true, laidLooks := .later }
def BoxesOrderCardSaid : Prop := Claim7.holds Tryd.pinned (.plain (OpenSpec.ofChange boxesOrderSpec)) boxesOrderCard

/-- THE SECOND FORM's CARD OF 'dovecotelaw16.LogRoom'. -/
def logRoomUptoCard : Claim7 := { stood := { row := logRoomUptoRow, standIns := [], harness := (true, "2a3ca538f52a0dda71efaeb18b1e9968364927d36c037296c4572923869296e5"), looks := false }, kinds := [], alts := [], laidByText := true, laidKinds := [.data], laidTests := true, laidLooks := .later }
def LogRoomUptoCardSaid : Prop := Claim7.holds Tryd.pinned (.plain (OpenSpec.upto logRoomSpec)) logRoomUptoCard

/-- THE SECOND FORM's CARD OF 'dovecotelaw16.LogCompacts'. -/
def logCompactsUptoCard : Claim7 := { stood := { row := logCompactsUptoRow, standIns := [], harness := (true, "2a3ca538f52a0dda71efaeb18b1e9968364927d36c037296c4572923869296e5"), looks := false }, kinds := [], alts := [], laidByText := true, laidKinds := [.data], laidTests := true, laidLooks := .later }
def LogCompactsUptoCardSaid : Prop := Claim7.holds Tryd.pinned (.plain (OpenSpec.upto logCompactsSpec)) logCompactsUptoCard

/-- THE SECOND FORM's CARD OF 'dovecotelaw17.SeenEpochs'. -/
def seenEpochsUptoCard : Claim7 := { stood := { row := seenEpochsUptoRow, standIns := [], harness := (true, "2a3ca538f52a0dda71efaeb18b1e9968364927d36c037296c4572923869296e5"), looks := false }, kinds := [], alts := [], laidByText := true, laidKinds := [.data], laidTests := true, laidLooks := .later }
def SeenEpochsUptoCardSaid : Prop := Claim7.holds Tryd.pinned (.plain (OpenSpec.upto seenEpochsSpec)) seenEpochsUptoCard

/-- THE SECOND FORM's CARD OF 'dovecotelaw17.SeenFull'. -/
def seenFullUptoCard : Claim7 := { stood := { row := seenFullUptoRow, standIns := [], harness := (true, "2a3ca538f52a0dda71efaeb18b1e9968364927d36c037296c4572923869296e5"), looks := false }, kinds := [], alts := [], laidByText := true, laidKinds := [.data], laidTests := true, laidLooks := .later }
def SeenFullUptoCardSaid : Prop := Claim7.holds Tryd.pinned (.plain (OpenSpec.upto seenFullSpec)) seenFullUptoCard

/-- THE SECOND FORM's CARD OF 'dovecotelaw18.BoxesOrder'. -/
def boxesOrderUptoCard : Claim7 := { stood := { row := boxesOrderUptoRow, standIns := [], harness := (true, "2a3ca538f52a0dda71efaeb18b1e9968364927d36c037296c4572923869296e5"), looks := false }, kinds := [], alts := [], laidByText := true, laidKinds := [.data], laidTests := true, laidLooks := .later }
def BoxesOrderUptoCardSaid : Prop := Claim7.holds Tryd.pinned (.plain (OpenSpec.upto boxesOrderSpec)) boxesOrderUptoCard
end Rows
end Go.Proofs.YteajpebkanamgaaDoor

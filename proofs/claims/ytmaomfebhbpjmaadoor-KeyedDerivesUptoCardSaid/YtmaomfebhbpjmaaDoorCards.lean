/-
  DERIVED. GIVEN WITH THE SEED: THE CARDS: each row of YtmaomfebhbpjmaaDoorRows.lean that lists a variable, with what it lists TIED to the program's text (the seventh form; the later family's looks); each row that meets fmt, with fmt's text TOLD by the authors' own Lean function (tested against real Go, not proved from fmt's source: count such statements apart). THE CARD IS WHAT COUNTS. Prove the row's statement (the work); the ties are given (YtmaomfebhbpjmaaDoorTie.lean); close each card by the builder's one call (the guide's Derived/Test/ToyasCard.lean, 'card_holds'). Laid BY PROGRAM, IN A SANDBOX (cutbox-door.mjs). By AI agents, Wed Nov 11 2026. No macro, syntax, notation, axiom, sorry.
-/
import Derived.Test.YtmaomfebhbpjmaaDoorRows
import GoSem.ClaimSeven
namespace Go.Proofs.YtmaomfebhbpjmaaDoor
namespace Rows

/-- THE TIED CARD OF 'dovecotelaw04.KeyedTags'. -/
def keyedTagsCard : Claim7 := { stood := { row := keyedTagsRow, standIns := [], harness := (true, "0503a5f1984554ff3b0f1e4f67465bdf264227d0db33d7f7946464210fdf5251"), looks := false }, kinds := [], alts := [], laidByText := true, laidKinds := [.data], laidTests := true, laidLooks := .later }
def KeyedTagsCardSaid : Prop := Claim7.holds Tryd.pinned (.plain (OpenSpec.ofChange keyedTagsSpec)) keyedTagsCard

/-- THE TIED CARD OF 'dovecotelaw04.KeyedLong'. -/
def keyedLongCard : Claim7 := { stood := { row := keyedLongRow, standIns := [], harness := (true, "0503a5f1984554ff3b0f1e4f67465bdf264227d0db33d7f7946464210fdf5251"), looks := false }, kinds := [], alts := [], laidByText := true, laidKinds := [.data], laidTests := true, laidLooks := .later }
def KeyedLongCardSaid : Prop := Claim7.holds Tryd.pinned (.plain (OpenSpec.ofChange keyedLongSpec)) keyedLongCard

/-- THE TIED CARD OF 'dovecotelaw04.KeyedCuts'. -/
def keyedCutsCard : Claim7 := { stood := { row := keyedCutsRow, standIns := [], harness := (true, "0503a5f1984554ff3b0f1e4f67465bdf264227d0db33d7f7946464210fdf5251"), looks := false }, kinds := [], alts := [], laidByText := true, laidKinds := [.data], laidTests := true, laidLooks := .later }
def KeyedCutsCardSaid : Prop := Claim7.holds Tryd.pinned (.plain (OpenSpec.ofChange keyedCutsSpec)) keyedCutsCard

/-- THE TIED CARD OF 'dovecotelaw04.KeyedSame'. -/
def keyedSameCard : Claim7 := { stood := { row := keyedSameRow, standIns := [], harness := (true, "0503a5f1984554ff3b0f1e4f67465bdf264227d0db33d7f7946464210fdf5251"), looks := false }, kinds := [], alts := [], laidByText := true, laidKinds := [.data], laidTests := true, laidLooks := .later }
def KeyedSameCardSaid : Prop := Claim7.holds Tryd.pinned (.plain (OpenSpec.ofChange keyedSameSpec)) keyedSameCard

/-- THE TIED CARD OF 'dovecotelaw04.KeyedBlocks'. -/
def keyedBlocksCard : Claim7 := { stood := { row := keyedBlocksRow, standIns := [], harness := (true, "0503a5f1984554ff3b0f1e4f67465bdf264227d0db33d7f7946464210fdf5251"), looks := false }, kinds := [], alts := [], laidByText := true, laidKinds := [.data], laidTests := true, laidLooks := .later }
def KeyedBlocksCardSaid : Prop := Claim7.holds Tryd.pinned (.plain (OpenSpec.ofChange keyedBlocksSpec)) keyedBlocksCard

/-- THE TIED CARD OF 'dovecotelaw04.KeyedDerives'. -/
def keyedDerivesCard : Claim7 := { stood := { row := keyedDerivesRow, standIns := [], harness := (true, "0503a5f1984554ff3b0f1e4f67465bdf264227d0db33d7f7946464210fdf5251"), looks := false }, kinds := [], alts := [], laidByText := true, laidKinds := [.data], laidTests := true, laidLooks := .later }
def KeyedDerivesCardSaid : Prop := Claim7.holds Tryd.pinned (.plain (OpenSpec.ofChange keyedDerivesSpec)) keyedDerivesCard

/-- THE TIED CARD OF 'dovecotelaw04.KeyedStarts'. -/
def keyedStartsCard : Claim7 := { stood := { row := keyedStartsRow, standIns := [], harness := (true, "0503a5f1984554ff3b0f1e4f67465bdf264227d0db33d7f7946464210fdf5251"), looks := false }, kinds := [], alts := [], laidByText := true, laidKinds := [.data], laidTests := true, laidLooks := .later }
def KeyedStartsCardSaid : Prop := Claim7.holds Tryd.pinned (.plain (OpenSpec.ofChange keyedStartsSpec)) keyedStartsCard

/-- THE SECOND FORM's CARD OF 'dovecotelaw04.KeyedTags'. -/
def keyedTagsUptoCard : Claim7 := { stood := { row := keyedTagsUptoRow, standIns := [], harness := (true, "0503a5f1984554ff3b0f1e4f67465bdf264227d0db33d7f7946464210fdf5251"), looks := false }, kinds := [], alts := [], laidByText := true, laidKinds := [.data], laidTests := true, laidLooks := .later }
def KeyedTagsUptoCardSaid : Prop := Claim7.holds Tryd.pinned (.plain (OpenSpec.upto keyedTagsSpec)) keyedTagsUptoCard

/-- THE SECOND FORM's CARD OF 'dovecotelaw04.KeyedLong'. -/
def keyedLongUptoCard : Claim7 := { stood := { row := keyedLongUptoRow, standIns := [], harness := (true, "0503a5f1984554ff3b0f1e4f67465bdf264227d0db33d7f7946464210fdf5251"), looks := false }, kinds := [], alts := [], laidByText := true, laidKinds := [.data], laidTests := true, laidLooks := .later }
def KeyedLongUptoCardSaid : Prop := Claim7.holds Tryd.pinned (.plain (OpenSpec.upto keyedLongSpec)) keyedLongUptoCard

/-- THE SECOND FORM's CARD OF 'dovecotelaw04.KeyedCuts'. -/
def keyedCutsUptoCard : Claim7 := { stood := { row := keyedCutsUptoRow, standIns := [], harness := (true, "0503a5f1984554ff3b0f1e4f67465bdf264227d0db33d7f7946464210fdf5251"), looks := false }, kinds := [], alts := [], laidByText := true, laidKinds := [.data], laidTests := true, laidLooks := .later }
def KeyedCutsUptoCardSaid : Prop := Claim7.holds Tryd.pinned (.plain (OpenSpec.upto keyedCutsSpec)) keyedCutsUptoCard

/-- THE SECOND FORM's CARD OF 'dovecotelaw04.KeyedSame'. -/
def keyedSameUptoCard : Claim7 := { stood := { row := keyedSameUptoRow, standIns := [], harness := (true, "0503a5f1984554ff3b0f1e4f67465bdf264227d0db33d7f7946464210fdf5251"), looks := false }, kinds := [], alts := [], laidByText := true, laidKinds := [.data], laidTests := true, laidLooks := .later }
def KeyedSameUptoCardSaid : Prop := Claim7.holds Tryd.pinned (.plain (OpenSpec.upto keyedSameSpec)) keyedSameUptoCard

/-- THE SECOND FORM's CARD OF 'dovecotelaw04.KeyedBlocks'. -/
def keyedBlocksUptoCard : Claim7 := { stood := { row := keyedBlocksUptoRow, standIns := [], harness := (true, "0503a5f1984554ff3b0f1e4f67465bdf264227d0db33d7f7946464210fdf5251"), looks := false }, kinds := [], alts := [], laidByText := true, laidKinds := [.data], laidTests := true, laidLooks := .later }
def KeyedBlocksUptoCardSaid : Prop := Claim7.holds Tryd.pinned (.plain (OpenSpec.upto keyedBlocksSpec)) keyedBlocksUptoCard

/-- THE SECOND FORM's CARD OF 'dovecotelaw04.KeyedDerives'. -/
def keyedDerivesUptoCard : Claim7 := { stood := { row := keyedDerivesUptoRow, standIns := [], harness := (true, "0503a5f1984554ff3b0f1e4f67465bdf264227d0db33d7f7946464210fdf5251"), looks := false }, kinds := [], alts := [], laidByText := true, laidKinds := [.data], laidTests := true, laidLooks := .later }
def KeyedDerivesUptoCardSaid : Prop := Claim7.holds Tryd.pinned (.plain (OpenSpec.upto keyedDerivesSpec)) keyedDerivesUptoCard

/-- THE SECOND FORM's CARD OF 'dovecotelaw04.KeyedStarts'. -/
def keyedStartsUptoCard : Claim7 := { stood := { row := keyedStartsUptoRow, standIns := [], harness := (true, "0503a5f1984554ff3b0f1e4f67465bdf264227d0db33d7f7946464210fdf5251"), looks := false }, kinds := [], alts := [], laidByText := true, laidKinds := [.data], laidTests := true, laidLooks := .later }
def KeyedStartsUptoCardSaid : Prop := Claim7.holds Tryd.pinned (.plain (OpenSpec.upto keyedStartsSpec)) keyedStartsUptoCard
end Rows
end Go.Proofs.YtmaomfebhbpjmaaDoor

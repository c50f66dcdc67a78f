/-
  DERIVED. GIVEN WITH THE SEED: THE CARDS: each row of YtjkppikpgiageaaDoorRows.lean that lists a variable, with what it lists TIED to the program's text (the seventh form; the later family's looks); each row that meets fmt, with fmt's text TOLD by the authors' own Lean function (tested against real Go, not proved from fmt's source: count such statements apart). THE CARD IS WHAT COUNTS. Prove the row's statement (the work); the ties are given (YtjkppikpgiageaaDoorTie.lean); close each card by the builder's one call (the guide's Derived/Test/ToyasCard.lean, 'card_holds'). Laid BY PROGRAM, IN A SANDBOX (cutbox-door.mjs). By AI agents, Wed Nov 11 2026. No macro, syntax, notation, axiom, sorry.
-/
import Derived.Test.YtjkppikpgiageaaDoorRows
import GoSem.ClaimSeven
namespace Go.Proofs.YtjkppikpgiageaaDoor
namespace Rows

/-- THE TIED CARD OF 'dovecotelaw03.HashSums'. -/
def hashSumsCard : Claim7 := { stood := { row := hashSumsRow, standIns := [], harness := (true, "04cb6f104292c91fa6c6038036e033fc5d46fa846ffa44b8cee0d63fe5400a2b"), looks := false }, kinds := [], alts := [], laidByText := true, laidKinds := [.data], laidTests := true, laidLooks := .later }
def HashSumsCardSaid : Prop := Claim7.holds Tryd.pinned (.plain (OpenSpec.ofChange hashSumsSpec)) hashSumsCard

/-- THE TIED CARD OF 'dovecotelaw03.HashHex'. -/
def hashHexCard : Claim7 := { stood := { row := hashHexRow, standIns := [], harness := (true, "04cb6f104292c91fa6c6038036e033fc5d46fa846ffa44b8cee0d63fe5400a2b"), looks := false }, kinds := [], alts := [], laidByText := true, laidKinds := [.data], laidTests := true, laidLooks := .later }
def HashHexCardSaid : Prop := Claim7.holds Tryd.pinned (.plain (OpenSpec.ofChange hashHexSpec)) hashHexCard

/-- THE TIED CARD OF 'dovecotelaw03.HashCuts'. -/
def hashCutsCard : Claim7 := { stood := { row := hashCutsRow, standIns := [], harness := (true, "04cb6f104292c91fa6c6038036e033fc5d46fa846ffa44b8cee0d63fe5400a2b"), looks := false }, kinds := [], alts := [], laidByText := true, laidKinds := [.data], laidTests := true, laidLooks := .later }
def HashCutsCardSaid : Prop := Claim7.holds Tryd.pinned (.plain (OpenSpec.ofChange hashCutsSpec)) hashCutsCard

/-- THE TIED CARD OF 'dovecotelaw03.HashBound'. -/
def hashBoundCard : Claim7 := { stood := { row := hashBoundRow, standIns := [], harness := (true, "04cb6f104292c91fa6c6038036e033fc5d46fa846ffa44b8cee0d63fe5400a2b"), looks := false }, kinds := [], alts := [], laidByText := true, laidKinds := [.data], laidTests := true, laidLooks := .later }
def HashBoundCardSaid : Prop := Claim7.holds Tryd.pinned (.plain (OpenSpec.ofChange hashBoundSpec)) hashBoundCard

/-- THE TIED CARD OF 'dovecotelaw03.HashDigits'. -/
def hashDigitsCard : Claim7 := { stood := { row := hashDigitsRow, standIns := [], harness := (true, "04cb6f104292c91fa6c6038036e033fc5d46fa846ffa44b8cee0d63fe5400a2b"), looks := false }, kinds := [], alts := [], laidByText := true, laidKinds := [.data], laidTests := true, laidLooks := .later }
def HashDigitsCardSaid : Prop := Claim7.holds Tryd.pinned (.plain (OpenSpec.ofChange hashDigitsSpec)) hashDigitsCard

/-- THE TIED CARD OF 'dovecotelaw03.HashPieces'. -/
def hashPiecesCard : Claim7 := { stood := { row := hashPiecesRow, standIns := [], harness := (true, "04cb6f104292c91fa6c6038036e033fc5d46fa846ffa44b8cee0d63fe5400a2b"), looks := false }, kinds := [], alts := [], laidByText := true, laidKinds := [.data], laidTests := true, laidLooks := .later }
def HashPiecesCardSaid : Prop := Claim7.holds Tryd.pinned (.plain (OpenSpec.ofChange hashPiecesSpec)) hashPiecesCard

/-- THE TIED CARD OF 'dovecotelaw03.HashShort'. -/
def hashShortCard : Claim7 := { stood := { row := hashShortRow, standIns := [], harness := (true, "04cb6f104292c91fa6c6038036e033fc5d46fa846ffa44b8cee0d63fe5400a2b"), looks := false }, kinds := [], alts := [], laidByText := true, laidKinds := [.data], laidTests := true, laidLooks := .later }
def HashShortCardSaid : Prop := Claim7.holds Tryd.pinned (.plain (OpenSpec.ofChange hashShortSpec)) hashShortCard

/-- THE SECOND FORM's CARD OF 'dovecotelaw03.HashSums'. -/
def hashSumsUptoCard : Claim7 := { stood := { row := hashSumsUptoRow, standIns := [], harness := (true, "04cb6f104292c91fa6c6038036e033fc5d46fa846ffa44b8cee0d63fe5400a2b"), looks := false }, kinds := [], alts := [], laidByText := true, laidKinds := [.data], laidTests := true, laidLooks := .later }
def HashSumsUptoCardSaid : Prop := Claim7.holds Tryd.pinned (.plain (OpenSpec.upto hashSumsSpec)) hashSumsUptoCard

/-- THE SECOND FORM's CARD OF 'dovecotelaw03.HashHex'. -/
def hashHexUptoCard : Claim7 := { stood := { row := hashHexUptoRow, standIns := [], harness := (true, "04cb6f104292c91fa6c6038036e033fc5d46fa846ffa44b8cee0d63fe5400a2b"), looks := false }, kinds := [], alts := [], laidByText := true, laidKinds := [.data], laidTests := true, laidLooks := .later }
def HashHexUptoCardSaid : Prop := Claim7.holds Tryd.pinned (.plain (OpenSpec.upto hashHexSpec)) hashHexUptoCard

/-- THE SECOND FORM's CARD OF 'dovecotelaw03.HashCuts'. -/
def hashCutsUptoCard : Claim7 := { stood := { row := hashCutsUptoRow, standIns := [], harness := (true, "04cb6f104292c91fa6c6038036e033fc5d46fa846ffa44b8cee0d63fe5400a2b"), looks := false }, kinds := [], alts := [], laidByText := true, laidKinds := [.data], laidTests := true, laidLooks := .later }
def HashCutsUptoCardSaid : Prop := Claim7.holds Tryd.pinned (.plain (OpenSpec.upto hashCutsSpec)) hashCutsUptoCard

/-- THE SECOND FORM's CARD OF 'dovecotelaw03.HashBound'. -/
def hashBoundUptoCard : Claim7 := { stood := { row := hashBoundUptoRow, standIns := [], harness := (true, "04cb6f104292c91fa6c6038036e033fc5d46fa846ffa44b8cee0d63fe5400a2b"), looks := false }, kinds := [], alts := [], laidByText := true, laidKinds := [.data], laidTests := true, laidLooks := .later }
def HashBoundUptoCardSaid : Prop := Claim7.holds Tryd.pinned (.plain (OpenSpec.upto hashBoundSpec)) hashBoundUptoCard

/-- THE SECOND FORM's CARD OF 'dovecotelaw03.HashDigits'. -/
def hashDigitsUptoCard : Claim7 := { stood := { row := hashDigitsUptoRow, standIns := [], harness := (true, "04cb6f104292c91fa6c6038036e033fc5d46fa846ffa44b8cee0d63fe5400a2b"), looks := false }, kinds := [], alts := [], laidByText := true, laidKinds := [.data], laidTests := true, laidLooks := .later }
def HashDigitsUptoCardSaid : Prop := Claim7.holds Tryd.pinned (.plain (OpenSpec.upto hashDigitsSpec)) hashDigitsUptoCard

/-- THE SECOND FORM's CARD OF 'dovecotelaw03.HashPieces'. -/
def hashPiecesUptoCard : Claim7 := { stood := { row := hashPiecesUptoRow, standIns := [], harness := (true, "04cb6f104292c91fa6c6038036e033fc5d46fa846ffa44b8cee0d63fe5400a2b"), looks := false }, kinds := [], alts := [], laidByText := true, laidKinds := [.data], laidTests := true, laidLooks := .later }
def HashPiecesUptoCardSaid : Prop := Claim7.holds Tryd.pinned (.plain (OpenSpec.upto hashPiecesSpec)) hashPiecesUptoCard

/-- THE SECOND FORM's CARD OF 'dovecotelaw03.HashShort'. -/
def hashShortUptoCard : Claim7 := { stood := { row := hashShortUptoRow, standIns := [], harness := (true, "04cb6f104292c91fa6c6038036e033fc5d46fa846ffa44b8cee0d63fe5400a2b"), looks := false }, kinds := [], alts := [], laidByText := true, laidKinds := [.data], laidTests := true, laidLooks := .later }
def HashShortUptoCardSaid : Prop := Claim7.holds Tryd.pinned (.plain (OpenSpec.upto hashShortSpec)) hashShortUptoCard
end Rows
end Go.Proofs.YtjkppikpgiageaaDoor

/-
  DERIVED. GIVEN WITH THE SEED: THE CARDS: each row of YtlogcgeinbefjaaDoorRows.lean that lists a variable, with what it lists TIED to the program's text (the seventh form; the later family's looks); each row that meets fmt, with fmt's text TOLD by the authors' own Lean function (tested against real Go, not proved from fmt's source: count such statements apart). THE CARD IS WHAT COUNTS. Prove the row's statement (the work); the ties are given (YtlogcgeinbefjaaDoorTie.lean); close each card by the builder's one call (the guide's Derived/Test/ToyasCard.lean, 'card_holds'). Laid BY PROGRAM, IN A SANDBOX (cutbox-door.mjs). By AI agents, Wed Nov 11 2026. No macro, syntax, notation, axiom, sorry.
-/
import Derived.Test.YtlogcgeinbefjaaDoorRows
import GoSem.ClaimSeven
namespace Go.Proofs.YtlogcgeinbefjaaDoor
namespace Rows

/-- THE TIED CARD OF 'dovecotelaw22.PartsCut'. -/
def partsCutCard : Claim7 := { stood := { row := partsCutRow, standIns := [], harness := (true, "0ec2272ddccd49efeaf363c2a1ae086c78d2eb474aa9f45dc5925ffb24683762"), looks := false }, kinds := [], alts := [], laidByText := true, laidKinds := [.data], laidTests := true, laidLooks := .later }
def PartsCutCardSaid : Prop := Claim7.holds Tryd.pinned (.plain (OpenSpec.ofChange partsCutSpec)) partsCutCard

/-- THE TIED CARD OF 'dovecotelaw22.PartsFit'. -/
def partsFitCard : Claim7 := { stood := { row := partsFitRow, standIns := [], harness := (true, "0ec2272ddccd49efeaf363c2a1ae086c78d2eb474aa9f45dc5925ffb24683762"), looks := false }, kinds := [], alts := [], laidByText := true, laidKinds := [.data], laidTests := true, laidLooks := .later }
def PartsFitCardSaid : Prop := Claim7.holds Tryd.pinned (.plain (OpenSpec.ofChange partsFitSpec)) partsFitCard

/-- THE TIED CARD OF 'dovecotelaw22.PartsMixed'. -/
def partsMixedCard : Claim7 := { stood := { row := partsMixedRow, standIns := [], harness := (true, "0ec2272ddccd49efeaf363c2a1ae086c78d2eb474aa9f45dc5925ffb24683762"), looks := false }, kinds := [], alts := [], laidByText := true, laidKinds := [.data], laidTests := true, laidLooks := .later }
def PartsMixedCardSaid : Prop := Claim7.holds Tryd.pinned (.plain (OpenSpec.ofChange partsMixedSpec)) partsMixedCard

/-- THE TIED CARD OF 'dovecotelaw22.PartsTurned'. -/
def partsTurnedCard : Claim7 := { stood := { row := partsTurnedRow, standIns := [], harness := (true, "0ec2272ddccd49efeaf363c2a1ae086c78d2eb474aa9f45dc5925ffb24683762"), looks := false }, kinds := [], alts := [], laidByText := true, laidKinds := [.data], laidTests := true, laidLooks := .later }
def PartsTurnedCardSaid : Prop := Claim7.holds Tryd.pinned (.plain (OpenSpec.ofChange partsTurnedSpec)) partsTurnedCard

/-- THE TIED CARD OF 'dovecotelaw22.PartsJoin'. -/
def partsJoinCard : Claim7 := { stood := { row := partsJoinRow, standIns := [], harness := (true, "0ec2272ddccd49efeaf363c2a1ae086c78d2eb474aa9f45dc5925ffb24683762"), looks := false }, kinds := [], alts := [], laidByText := true, laidKinds := [.data], laidTests := true, laidLooks := .later }
def PartsJoinCardSaid : Prop := Claim7.holds Tryd.pinned (.plain (OpenSpec.ofChange partsJoinSpec)) partsJoinCard

/-- THE TIED CARD OF 'dovecotelaw22.PartsWhole'. -/
def partsWholeCard : Claim7 := { stood := { row := partsWholeRow, standIns := [], harness := (true, "0ec2272ddccd49efeaf363c2a1ae086c78d2eb474aa9f45dc5925ffb24683762"), looks := false }, kinds := [], alts := [], laidByText := true, laidKinds := [.data], laidTests := true, laidLooks := .later }
def PartsWholeCardSaid : Prop := Claim7.holds Tryd.pinned (.plain (OpenSpec.ofChange partsWholeSpec)) partsWholeCard

/-- THE SECOND FORM's CARD OF 'dovecotelaw22.PartsCut'. -/
def partsCutUptoCard : Claim7 := { stood := { row := partsCutUptoRow, standIns := [], harness := (true, "0ec2272ddccd49efeaf363c2a1ae086c78d2eb474aa9f45dc5925ffb24683762"), looks := false }, kinds := [], alts := [], laidByText := true, laidKinds := [.data], laidTests := true, laidLooks := .later }
def PartsCutUptoCardSaid : Prop := Claim7.holds Tryd.pinned (.plain (OpenSpec.upto partsCutSpec)) partsCutUptoCard

/-- THE SECOND FORM's CARD OF 'dovecotelaw22.PartsFit'. -/
def partsFitUptoCard : Claim7 := { stood := { row := partsFitUptoRow, standIns := [], harness := (true, "0ec2272ddccd49efeaf363c2a1ae086c78d2eb474aa9f45dc5925ffb24683762"), looks := false }, kinds := [], alts := [], laidByText := true, laidKinds := [.data], laidTests := true, laidLooks := .later }
def PartsFitUptoCardSaid : Prop := Claim7.holds Tryd.pinned (.plain (OpenSpec.upto partsFitSpec)) partsFitUptoCard

/-- THE SECOND FORM's CARD OF 'dovecotelaw22.PartsMixed'. -/
def partsMixedUptoCard : Claim7 := { stood := { row := partsMixedUptoRow, standIns := [], harness := (true, "0ec2272ddccd49efeaf363c2a1ae086c78d2eb474aa9f45dc5925ffb24683762"), looks := false }, kinds := [], alts := [], laidByText := true, laidKinds := [.data], laidTests := true, laidLooks := .later }
def PartsMixedUptoCardSaid : Prop := Claim7.holds Tryd.pinned (.plain (OpenSpec.upto partsMixedSpec)) partsMixedUptoCard

/-- THE SECOND FORM's CARD OF 'dovecotelaw22.PartsTurned'. -/
def partsTurnedUptoCard : Claim7 := { stood := { row := partsTurnedUptoRow, standIns := [], harness := (true, "0ec2272ddccd49efeaf363c2a1ae086c78d2eb474aa9f45dc5925ffb24683762"), looks := false }, kinds := [], alts := [], laidByText := true, laidKinds := [.data], laidTests := true, laidLooks := .later }
def PartsTurnedUptoCardSaid : Prop := Claim7.holds Tryd.pinned (.plain (OpenSpec.upto partsTurnedSpec)) partsTurnedUptoCard

/-- THE SECOND FORM's CARD OF 'dovecotelaw22.PartsJoin'. -/
def partsJoinUptoCard : Claim7 := { stood := { row := partsJoinUptoRow, standIns := [], harness := (true, "0ec2272ddccd49efeaf363c2a1ae086c78d2eb474aa9f45dc5925ffb24683762"), looks := false }, kinds := [], alts := [], laidByText := true, laidKinds := [.data], laidTests := true, laidLooks := .later }
def PartsJoinUptoCardSaid : Prop := Claim7.holds Tryd.pinned (.plain (OpenSpec.upto partsJoinSpec)) partsJoinUptoCard

/-- THE SECOND FORM's CARD OF 'dovecotelaw22.PartsWhole'. -/
def partsWholeUptoCard : Claim7 := { stood := { row := partsWholeUptoRow, standIns := [], harness := (true, "0ec2272ddccd49efeaf363c2a1ae086c78d2eb474aa9f45dc5925ffb24683762"), looks := false }, kinds := [], alts := [], laidByText := true, laidKinds := [.data], laidTests := true, laidLooks := .later }
def PartsWholeUptoCardSaid : Prop := Claim7.holds Tryd.pinned (.plain (OpenSpec.upto partsWholeSpec)) partsWholeUptoCard
end Rows
end Go.Proofs.YtlogcgeinbefjaaDoor

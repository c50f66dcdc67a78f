/-
  DERIVED. GIVEN WITH THE SEED: THE CARDS: each row of YtjmgkjjcdnaapaaDoorRows.lean that lists a variable, with what it lists TIED to the program's text (the seventh form; the later family's looks); each row that meets fmt, with fmt's text TOLD by the authors' own Lean function (tested against real Go, not proved from fmt's source: count such statements apart). THE CARD IS WHAT COUNTS. Prove the row's statement (the work); the ties are given (YtjmgkjjcdnaapaaDoorTie.lean); close each card by the builder's one call (the guide's Derived/Test/ToyasCard.lean, 'card_holds'). Laid BY PROGRAM, IN A SANDBOX (cutbox-door.mjs). By AI agents, Wed Nov 11 2026. No macro, syntax, notation, axiom, sorry.
-/
import Derived.Test.YtjmgkjjcdnaapaaDoorRows
import GoSem.ClaimSeven
namespace Go.Proofs.YtjmgkjjcdnaapaaDoor
namespace Rows

/-- THE TIED CARD OF 'dovecotelaw20.GateSigns'. -/
def gateSignsCard : Claim7 := { stood := { row := gateSignsRow, standIns := [], harness := (true, "dd519778384f4bdbe73ef9d6e475f227aec523837d002f22b2bcd0e138344e37"), looks := false }, kinds := [], alts := [], laidByText := true, laidKinds := [.data], laidTests := true, laidLooks := .later }
def GateSignsCardSaid : Prop := Claim7.holds Tryd.pinned (.plain (OpenSpec.ofChange gateSignsSpec)) gateSignsCard

/-- THE TIED CARD OF 'dovecotelaw20.GatePlays'. -/
def gatePlaysCard : Claim7 := { stood := { row := gatePlaysRow, standIns := [], harness := (true, "dd519778384f4bdbe73ef9d6e475f227aec523837d002f22b2bcd0e138344e37"), looks := false }, kinds := [], alts := [], laidByText := true, laidKinds := [.data], laidTests := true, laidLooks := .later }
def GatePlaysCardSaid : Prop := Claim7.holds Tryd.pinned (.plain (OpenSpec.ofChange gatePlaysSpec)) gatePlaysCard

/-- THE TIED CARD OF 'dovecotelaw20.GateOnce'. -/
def gateOnceCard : Claim7 := { stood := { row := gateOnceRow, standIns := [], harness := (true, "dd519778384f4bdbe73ef9d6e475f227aec523837d002f22b2bcd0e138344e37"), looks := false }, kinds := [], alts := [], laidByText := true, laidKinds := [.data], laidTests := true, laidLooks := .later }
def GateOnceCardSaid : Prop := Claim7.holds Tryd.pinned (.plain (OpenSpec.ofChange gateOnceSpec)) gateOnceCard

/-- THE TIED CARD OF 'dovecotelaw20.GateApart'. -/
def gateApartCard : Claim7 := { stood := { row := gateApartRow, standIns := [], harness := (true, "dd519778384f4bdbe73ef9d6e475f227aec523837d002f22b2bcd0e138344e37"), looks := false }, kinds := [], alts := [], laidByText := true, laidKinds := [.data], laidTests := true, laidLooks := .later }
def GateApartCardSaid : Prop := Claim7.holds Tryd.pinned (.plain (OpenSpec.ofChange gateApartSpec)) gateApartCard

/-- THE TIED CARD OF 'dovecotelaw20.GateTurned'. -/
def gateTurnedCard : Claim7 := { stood := { row := gateTurnedRow, standIns := [], harness := (true, "dd519778384f4bdbe73ef9d6e475f227aec523837d002f22b2bcd0e138344e37"), looks := false }, kinds := [], alts := [], laidByText := true, laidKinds := [.data], laidTests := true, laidLooks := .later }
def GateTurnedCardSaid : Prop := Claim7.holds Tryd.pinned (.plain (OpenSpec.ofChange gateTurnedSpec)) gateTurnedCard

/-- THE SECOND FORM's CARD OF 'dovecotelaw20.GateSigns'. -/
def gateSignsUptoCard : Claim7 := { stood := { row := gateSignsUptoRow, standIns := [], harness := (true, "dd519778384f4bdbe73ef9d6e475f227aec523837d002f22b2bcd0e138344e37"), looks := false }, kinds := [], alts := [], laidByText := true, laidKinds := [.data], laidTests := true, laidLooks := .later }
def GateSignsUptoCardSaid : Prop := Claim7.holds Tryd.pinned (.plain (OpenSpec.upto gateSignsSpec)) gateSignsUptoCard

/-- THE SECOND FORM's CARD OF 'dovecotelaw20.GatePlays'. -/
def gatePlaysUptoCard : Claim7 := { stood := { row := gatePlaysUptoRow, standIns := [], harness := (true, "dd519778384f4bdbe73ef9d6e475f227aec523837d002f22b2bcd0e138344e37"), looks := false }, kinds := [], alts := [], laidByText := true, laidKinds := [.data], laidTests := true, laidLooks := .later }
def GatePlaysUptoCardSaid : Prop := Claim7.holds Tryd.pinned (.plain (OpenSpec.upto gatePlaysSpec)) gatePlaysUptoCard

/-- THE SECOND FORM's CARD OF 'dovecotelaw20.GateOnce'. -/
def gateOnceUptoCard : Claim7 := { stood := { row := gateOnceUptoRow, standIns := [], harness := (true, "dd519778384f4bdbe73ef9d6e475f227aec523837d002f22b2bcd0e138344e37"), looks := false }, kinds := [], alts := [], laidByText := true, laidKinds := [.data], laidTests := true, laidLooks := .later }
def GateOnceUptoCardSaid : Prop := Claim7.holds Tryd.pinned (.plain (OpenSpec.upto gateOnceSpec)) gateOnceUptoCard

/-- THE SECOND FORM's CARD OF 'dovecotelaw20.GateApart'. -/
def gateApartUptoCard : Claim7 := { stood := { row := gateApartUptoRow, standIns := [], harness := (true, "dd519778384f4bdbe73ef9d6e475f227aec523837d002f22b2bcd0e138344e37"), looks := false }, kinds := [], alts := [], laidByText := true, laidKinds := [.data], laidTests := true, laidLooks := .later }
def GateApartUptoCardSaid : Prop := Claim7.holds Tryd.pinned (.plain (OpenSpec.upto gateApartSpec)) gateApartUptoCard

/-- THE SECOND FORM's CARD OF 'dovecotelaw20.GateTurned'. -/
def gateTurnedUptoCard : Claim7 := { stood := { row := gateTurnedUptoRow, standIns := [], harness := (true, "dd519778384f4bdbe73ef9d6e475f227aec523837d002f22b2bcd0e138344e37"), looks := false }, kinds := [], alts := [], laidByText := true, laidKinds := [.data], laidTests := true, laidLooks := .later }
def GateTurnedUptoCardSaid : Prop := Claim7.holds Tryd.pinned (.plain (OpenSpec.upto gateTurnedSpec)) gateTurnedUptoCard
end Rows
end Go.Proofs.YtjmgkjjcdnaapaaDoor

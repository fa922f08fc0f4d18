/-
  DERIVED. GIVEN WITH THE SEED: THE CARDS: each row of YtlkimpjcgcacdaaGreatDoorRows.lean that lists a variable, with what it lists TIED to the program's text (the seventh form; the later family's looks); each row that meets fmt, with fmt's text TOLD by the authors' own Lean function (tested against real Go, not proved from fmt's source: count such statements apart). THE CARD IS WHAT COUNTS. Prove the row's statement (the work); the ties are given (YtlkimpjcgcacdaaGreatDoorTie.lean); close each card by the builder's one call (the guide's Derived/Test/ToyasCard.lean, 'card_holds'). Laid BY PROGRAM, IN A SANDBOX (cutbox-door.mjs). By AI agents, Wed Nov 11 2026. No macro, syntax, notation, axiom, sorry.
-/
import Derived.Test.YtlkimpjcgcacdaaGreatDoorRows
import GoSem.ClaimSeven
namespace Go.Proofs.YtlkimpjcgcacdaaGreatDoor
namespace Rows

/-- THE TIED CARD OF 'dynamometerlaw8.WorldBreakerMatchesSpec'. -/
def worldBreakerMatchesSpecCard : Claim7 := { stood := { row := worldBreakerMatchesSpecRow, standIns := [], harness := (true, "247250f0754abaee9f4b511b68cb15aebfc2e36d76600153222e173edc14848e"), looks := true }, kinds := [], alts := [], laidByText := true, laidKinds := [.data, .pinned, .data, .data, .data, .pinned, .data, .data, .sentinel, .sentinel], laidTests := true, laidLooks := .later }
def WorldBreakerMatchesSpecCardSaid : Prop := Claim7.holds Tryz.pinned (.plain (OpenSpec.ofChange worldBreakerMatchesSpecSpec)) worldBreakerMatchesSpecCard

/-- THE TIED CARD OF 'dynamometerlaw8.WorldLogMatchesSpec'. -/
def worldLogMatchesSpecCard : Claim7 := { stood := { row := worldLogMatchesSpecRow, standIns := [], harness := (true, "247250f0754abaee9f4b511b68cb15aebfc2e36d76600153222e173edc14848e"), looks := true }, kinds := [], alts := [], laidByText := true, laidKinds := [.data, .pinned, .data, .data, .data, .pinned, .data, .data, .sentinel, .sentinel], laidTests := true, laidLooks := .later }
def WorldLogMatchesSpecCardSaid : Prop := Claim7.holds Tryz.pinned (.plain (OpenSpec.ofChange worldLogMatchesSpecSpec)) worldLogMatchesSpecCard

/-- THE TIED CARD OF 'dynamometerlaw8.WorldAreaIsTimeSpent'. -/
def worldAreaIsTimeSpentCard : Claim7 := { stood := { row := worldAreaIsTimeSpentRow, standIns := [], harness := (true, "247250f0754abaee9f4b511b68cb15aebfc2e36d76600153222e173edc14848e"), looks := true }, kinds := [], alts := [], laidByText := true, laidKinds := [.data, .pinned, .data, .data, .data, .pinned, .data, .data, .sentinel, .sentinel], laidTests := true, laidLooks := .later }
def WorldAreaIsTimeSpentCardSaid : Prop := Claim7.holds Tryz.pinned (.plain (OpenSpec.ofChange worldAreaIsTimeSpentSpec)) worldAreaIsTimeSpentCard

/-- THE SECOND FORM's CARD OF 'dynamometerlaw8.WorldBreakerMatchesSpec'. -/
def worldBreakerMatchesSpecUptoCard : Claim7 := { stood := { row := worldBreakerMatchesSpecUptoRow, standIns := [], harness := (true, "247250f0754abaee9f4b511b68cb15aebfc2e36d76600153222e173edc14848e"), looks := true }, kinds := [], alts := [], laidByText := true, laidKinds := [.data, .pinned, .data, .data, .data, .pinned, .data, .data, .sentinel, .sentinel], laidTests := true, laidLooks := .later }
def WorldBreakerMatchesSpecUptoCardSaid : Prop := Claim7.holds Tryz.pinned (.plain (OpenSpec.upto worldBreakerMatchesSpecSpec)) worldBreakerMatchesSpecUptoCard

/-- THE SECOND FORM's CARD OF 'dynamometerlaw8.WorldLogMatchesSpec'. -/
def worldLogMatchesSpecUptoCard : Claim7 := { stood := { row := worldLogMatchesSpecUptoRow, standIns := [], harness := (true, "247250f0754abaee9f4b511b68cb15aebfc2e36d76600153222e173edc14848e"), looks := true }, kinds := [], alts := [], laidByText := true, laidKinds := [.data, .pinned, .data, .data, .data, .pinned, .data, .data, .sentinel, .sentinel], laidTests := true, laidLooks := .later }
def WorldLogMatchesSpecUptoCardSaid : Prop := Claim7.holds Tryz.pinned (.plain (OpenSpec.upto worldLogMatchesSpecSpec)) worldLogMatchesSpecUptoCard

/-- THE SECOND FORM's CARD OF 'dynamometerlaw8.WorldAreaIsTimeSpent'. -/
def worldAreaIsTimeSpentUptoCard : Claim7 := { stood := { row := worldAreaIsTimeSpentUptoRow, standIns := [], harness := (true, "247250f0754abaee9f4b511b68cb15aebfc2e36d76600153222e173edc14848e"), looks := true }, kinds := [], alts := [], laidByText := true, laidKinds := [.data, .pinned, .data, .data, .data, .pinned, .data, .data, .sentinel, .sentinel], laidTests := true, laidLooks := .later }
def WorldAreaIsTimeSpentUptoCardSaid : Prop := Claim7.holds Tryz.pinned (.plain (OpenSpec.upto worldAreaIsTimeSpentSpec)) worldAreaIsTimeSpentUptoCard
end Rows
end Go.Proofs.YtlkimpjcgcacdaaGreatDoor

/-
  DERIVED. GIVEN WITH THE SEED: THE CARDS: each row of YtgilfdgcimcohaaGreatDoorRows.lean that lists a variable, with what it lists TIED to the program's text (the seventh form; the later family's looks); each row that meets fmt, with fmt's text TOLD by the authors' own Lean function (tested against real Go, not proved from fmt's source: count such statements apart). THE CARD IS WHAT COUNTS. Prove the row's statement (the work); the ties are given (YtgilfdgcimcohaaGreatDoorTie.lean); close each card by the builder's one call (the guide's Derived/Test/ToyasCard.lean, 'card_holds'). Laid BY PROGRAM, IN A SANDBOX (cutbox-door.mjs). By AI agents, Wed Nov 11 2026. No macro, syntax, notation, axiom, sorry.
-/
import Derived.Test.YtgilfdgcimcohaaGreatDoorRows
import GoSem.ClaimSeven
namespace Go.Proofs.YtgilfdgcimcohaaGreatDoor
namespace Rows

/-- THE TIED CARD OF 'dynamometerlaw8.WorldTravelMatchesSpec'. -/
def worldTravelMatchesSpecCard : Claim7 := { stood := { row := worldTravelMatchesSpecRow, standIns := [], harness := (true, "01b95afd9ec3d68d6b75b967a7a070d573566656a4c4194680ab5c70beec7d27"), looks := true }, kinds := [], alts := [], laidByText := true, laidKinds := [.data, .pinned, .data, .data, .data, .pinned, .data, .data, .sentinel, .sentinel], laidTests := true, laidLooks := .later }
def WorldTravelMatchesSpecCardSaid : Prop := Claim7.holds Tryz.pinned (.plain (OpenSpec.ofChange worldTravelMatchesSpecSpec)) worldTravelMatchesSpecCard

/-- THE TIED CARD OF 'dynamometerlaw8.WorldTroubleMatchesSpec'. -/
def worldTroubleMatchesSpecCard : Claim7 := { stood := { row := worldTroubleMatchesSpecRow, standIns := [], harness := (true, "01b95afd9ec3d68d6b75b967a7a070d573566656a4c4194680ab5c70beec7d27"), looks := true }, kinds := [], alts := [], laidByText := true, laidKinds := [.data, .pinned, .data, .data, .data, .pinned, .data, .data, .sentinel, .sentinel], laidTests := true, laidLooks := .later }
def WorldTroubleMatchesSpecCardSaid : Prop := Claim7.holds Tryz.pinned (.plain (OpenSpec.ofChange worldTroubleMatchesSpecSpec)) worldTroubleMatchesSpecCard

/-- THE TIED CARD OF 'dynamometerlaw8.WorldAreaMatchesSpec'. -/
def worldAreaMatchesSpecCard : Claim7 := { stood := { row := worldAreaMatchesSpecRow, standIns := [], harness := (true, "01b95afd9ec3d68d6b75b967a7a070d573566656a4c4194680ab5c70beec7d27"), looks := true }, kinds := [], alts := [], laidByText := true, laidKinds := [.data, .pinned, .data, .data, .data, .pinned, .data, .data, .sentinel, .sentinel], laidTests := true, laidLooks := .later }
def WorldAreaMatchesSpecCardSaid : Prop := Claim7.holds Tryz.pinned (.plain (OpenSpec.ofChange worldAreaMatchesSpecSpec)) worldAreaMatchesSpecCard

/-- THE TIED CARD OF 'dynamometerlaw8.WorldPolicyMatchesSpec'. -/
def worldPolicyMatchesSpecCard : Claim7 := { stood := { row := worldPolicyMatchesSpecRow, standIns := [], harness := (true, "01b95afd9ec3d68d6b75b967a7a070d573566656a4c4194680ab5c70beec7d27"), looks := true }, kinds := [], alts := [], laidByText := true, laidKinds := [.data, .pinned, .data, .data, .data, .pinned, .data, .data, .sentinel, .sentinel], laidTests := true, laidLooks := .later }
def WorldPolicyMatchesSpecCardSaid : Prop := Claim7.holds Tryz.pinned (.plain (OpenSpec.ofChange worldPolicyMatchesSpecSpec)) worldPolicyMatchesSpecCard

/-- THE SECOND FORM's CARD OF 'dynamometerlaw8.WorldTravelMatchesSpec'. -/
def worldTravelMatchesSpecUptoCard : Claim7 := { stood := { row := worldTravelMatchesSpecUptoRow, standIns := [], harness := (true, "01b95afd9ec3d68d6b75b967a7a070d573566656a4c4194680ab5c70beec7d27"), looks := true }, kinds := [], alts := [], laidByText := true, laidKinds := [.data, .pinned, .data, .data, .data, .pinned, .data, .data, .sentinel, .sentinel], laidTests := true, laidLooks := .later }
def WorldTravelMatchesSpecUptoCardSaid : Prop := Claim7.holds Tryz.pinned (.plain (OpenSpec.upto worldTravelMatchesSpecSpec)) worldTravelMatchesSpecUptoCard

/-- THE SECOND FORM's CARD OF 'dynamometerlaw8.WorldTroubleMatchesSpec'. -/
def worldTroubleMatchesSpecUptoCard : Claim7 := { stood := { row := worldTroubleMatchesSpecUptoRow, standIns := [], harness := (true, "01b95afd9ec3d68d6b75b967a7a070d573566656a4c4194680ab5c70beec7d27"), looks := true }, kinds := [], alts := [], laidByText := true, laidKinds := [.data, .pinned, .data, .data, .data, .pinned, .data, .data, .sentinel, .sentinel], laidTests := true, laidLooks := .later }
def WorldTroubleMatchesSpecUptoCardSaid : Prop := Claim7.holds Tryz.pinned (.plain (OpenSpec.upto worldTroubleMatchesSpecSpec)) worldTroubleMatchesSpecUptoCard

/-- THE SECOND FORM's CARD OF 'dynamometerlaw8.WorldAreaMatchesSpec'. -/
def worldAreaMatchesSpecUptoCard : Claim7 := { stood := { row := worldAreaMatchesSpecUptoRow, standIns := [], harness := (true, "01b95afd9ec3d68d6b75b967a7a070d573566656a4c4194680ab5c70beec7d27"), looks := true }, kinds := [], alts := [], laidByText := true, laidKinds := [.data, .pinned, .data, .data, .data, .pinned, .data, .data, .sentinel, .sentinel], laidTests := true, laidLooks := .later }
def WorldAreaMatchesSpecUptoCardSaid : Prop := Claim7.holds Tryz.pinned (.plain (OpenSpec.upto worldAreaMatchesSpecSpec)) worldAreaMatchesSpecUptoCard

/-- THE SECOND FORM's CARD OF 'dynamometerlaw8.WorldPolicyMatchesSpec'. -/
def worldPolicyMatchesSpecUptoCard : Claim7 := { stood := { row := worldPolicyMatchesSpecUptoRow, standIns := [], harness := (true, "01b95afd9ec3d68d6b75b967a7a070d573566656a4c4194680ab5c70beec7d27"), looks := true }, kinds := [], alts := [], laidByText := true, laidKinds := [.data, .pinned, .data, .data, .data, .pinned, .data, .data, .sentinel, .sentinel], laidTests := true, laidLooks := .later }
def WorldPolicyMatchesSpecUptoCardSaid : Prop := Claim7.holds Tryz.pinned (.plain (OpenSpec.upto worldPolicyMatchesSpecSpec)) worldPolicyMatchesSpecUptoCard
end Rows
end Go.Proofs.YtgilfdgcimcohaaGreatDoor

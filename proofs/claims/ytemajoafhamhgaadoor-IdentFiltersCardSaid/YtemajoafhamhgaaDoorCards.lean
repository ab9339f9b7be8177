/-
  DERIVED. GIVEN WITH THE SEED: THE CARDS: each row of YtemajoafhamhgaaDoorRows.lean that lists a variable, with what it lists TIED to the program's text (the seventh form; the later family's looks); each row that meets fmt, with fmt's text TOLD by the authors' own Lean function (tested against real Go, not proved from fmt's source: count such statements apart). THE CARD IS WHAT COUNTS. Prove the row's statement (the work); the ties are given (YtemajoafhamhgaaDoorTie.lean); close each card by the builder's one call (the guide's Derived/Test/ToyasCard.lean, 'card_holds'). Laid BY PROGRAM, IN A SANDBOX (cutbox-door.mjs). By AI agents, Wed Nov 11 2026. No macro, syntax, notation, axiom, sorry.
-/
import Derived.Test.YtemajoafhamhgaaDoorRows
import GoSem.ClaimSeven
namespace Go.Proofs.YtemajoafhamhgaaDoor
namespace Rows

/-- THE TIED CARD OF 'omnibuslaw02.IdentTells'. -/
def identTellsCard : Claim7 := { stood := { row := identTellsRow, standIns := [], harness := (true, "c5925698b3779a5a5308c85cbfc3afd88c15626d5510e864682af00798bf21ef"), looks := false }, kinds := [], alts := [], laidByText := true, laidKinds := [.data], laidTests := true, laidLooks := .later }
def IdentTellsCardSaid : Prop := Claim7.holds Tryd.pinned (.plain (OpenSpec.ofChange identTellsSpec)) identTellsCard

/-- THE TIED CARD OF 'omnibuslaw02.IdentFilters'. -/
def identFiltersCard : Claim7 := { stood := { row := identFiltersRow, standIns := [], harness := (true, "c5925698b3779a5a5308c85cbfc3afd88c15626d5510e864682af00798bf21ef"), looks := false }, kinds := [], alts := [], laidByText := true, laidKinds := [.data], laidTests := true, laidLooks := .later }
def IdentFiltersCardSaid : Prop := Claim7.holds Tryd.pinned (.plain (OpenSpec.ofChange identFiltersSpec)) identFiltersCard

/-- THE TIED CARD OF 'omnibuslaw02.IdentOrder'. -/
def identOrderCard : Claim7 := { stood := { row := identOrderRow, standIns := [], harness := (true, "c5925698b3779a5a5308c85cbfc3afd88c15626d5510e864682af00798bf21ef"), looks := false }, kinds := [], alts := [], laidByText := true, laidKinds := [.data], laidTests := true, laidLooks := .later }
def IdentOrderCardSaid : Prop := Claim7.holds Tryd.pinned (.plain (OpenSpec.ofChange identOrderSpec)) identOrderCard

/-- THE TIED CARD OF 'omnibuslaw02.IdentMasks'. -/
def identMasksCard : Claim7 := { stood := { row := identMasksRow, standIns := [], harness := (true, "c5925698b3779a5a5308c85cbfc3afd88c15626d5510e864682af00798bf21ef"), looks := false }, kinds := [], alts := [], laidByText := true, laidKinds := [.data], laidTests := true, laidLooks := .later }
def IdentMasksCardSaid : Prop := Claim7.holds Tryd.pinned (.plain (OpenSpec.ofChange identMasksSpec)) identMasksCard

/-- THE TIED CARD OF 'omnibuslaw02.IdentKeys'. -/
def identKeysCard : Claim7 := { stood := { row := identKeysRow, standIns := [], harness := (true, "c5925698b3779a5a5308c85cbfc3afd88c15626d5510e864682af00798bf21ef"), looks := false }, kinds := [], alts := [], laidByText := true, laidKinds := [.data], laidTests := true, laidLooks := .later }
def IdentKeysCardSaid : Prop := Claim7.holds Tryd.pinned (.plain (OpenSpec.ofChange identKeysSpec)) identKeysCard

/-- THE TIED CARD OF 'omnibuslaw02.IdentAmong'. -/
def identAmongCard : Claim7 := { stood := { row := identAmongRow, standIns := [], harness := (true, "c5925698b3779a5a5308c85cbfc3afd88c15626d5510e864682af00798bf21ef"), looks := false }, kinds := [], alts := [], laidByText := true, laidKinds := [.data], laidTests := true, laidLooks := .later }
def IdentAmongCardSaid : Prop := Claim7.holds Tryd.pinned (.plain (OpenSpec.ofChange identAmongSpec)) identAmongCard

/-- THE SECOND FORM's CARD OF 'omnibuslaw02.IdentTells'. -/
def identTellsUptoCard : Claim7 := { stood := { row := identTellsUptoRow, standIns := [], harness := (true, "c5925698b3779a5a5308c85cbfc3afd88c15626d5510e864682af00798bf21ef"), looks := false }, kinds := [], alts := [], laidByText := true, laidKinds := [.data], laidTests := true, laidLooks := .later }
def IdentTellsUptoCardSaid : Prop := Claim7.holds Tryd.pinned (.plain (OpenSpec.upto identTellsSpec)) identTellsUptoCard

/-- THE SECOND FORM's CARD OF 'omnibuslaw02.IdentFilters'. -/
def identFiltersUptoCard : Claim7 := { stood := { row := identFiltersUptoRow, standIns := [], harness := (true, "c5925698b3779a5a5308c85cbfc3afd88c15626d5510e864682af00798bf21ef"), looks := false }, kinds := [], alts := [], laidByText := true, laidKinds := [.data], laidTests := true, laidLooks := .later }
def IdentFiltersUptoCardSaid : Prop := Claim7.holds Tryd.pinned (.plain (OpenSpec.upto identFiltersSpec)) identFiltersUptoCard

/-- THE SECOND FORM's CARD OF 'omnibuslaw02.IdentOrder'. -/
def identOrderUptoCard : Claim7 := { stood := { row := identOrderUptoRow, standIns := [], harness := (true, "c5925698b3779a5a5308c85cbfc3afd88c15626d5510e864682af00798bf21ef"), looks := false }, kinds := [], alts := [], laidByText := true, laidKinds := [.data], laidTests := true, laidLooks := .later }
def IdentOrderUptoCardSaid : Prop := Claim7.holds Tryd.pinned (.plain (OpenSpec.upto identOrderSpec)) identOrderUptoCard

/-- THE SECOND FORM's CARD OF 'omnibuslaw02.IdentMasks'. -/
def identMasksUptoCard : Claim7 := { stood := { row := identMasksUptoRow, standIns := [], harness := (true, "c5925698b3779a5a5308c85cbfc3afd88c15626d5510e864682af00798bf21ef"), looks := false }, kinds := [], alts := [], laidByText := true, laidKinds := [.data], laidTests := true, laidLooks := .later }
def IdentMasksUptoCardSaid : Prop := Claim7.holds Tryd.pinned (.plain (OpenSpec.upto identMasksSpec)) identMasksUptoCard

/-- THE SECOND FORM's CARD OF 'omnibuslaw02.IdentKeys'. -/
def identKeysUptoCard : Claim7 := { stood := { row := identKeysUptoRow, standIns := [], harness := (true, "c5925698b3779a5a5308c85cbfc3afd88c15626d5510e864682af00798bf21ef"), looks := false }, kinds := [], alts := [], laidByText := true, laidKinds := [.data], laidTests := true, laidLooks := .later }
def IdentKeysUptoCardSaid : Prop := Claim7.holds Tryd.pinned (.plain (OpenSpec.upto identKeysSpec)) identKeysUptoCard

/-- THE SECOND FORM's CARD OF 'omnibuslaw02.IdentAmong'. -/
def identAmongUptoCard : Claim7 := { stood := { row := identAmongUptoRow, standIns := [], harness := (true, "c5925698b3779a5a5308c85cbfc3afd88c15626d5510e864682af00798bf21ef"), looks := false }, kinds := [], alts := [], laidByText := true, laidKinds := [.data], laidTests := true, laidLooks := .later }
def IdentAmongUptoCardSaid : Prop := Claim7.holds Tryd.pinned (.plain (OpenSpec.upto identAmongSpec)) identAmongUptoCard
end Rows
end Go.Proofs.YtemajoafhamhgaaDoor

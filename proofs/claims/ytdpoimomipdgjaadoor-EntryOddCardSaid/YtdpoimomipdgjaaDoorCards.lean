/-
  DERIVED. GIVEN WITH THE SEED: THE CARDS: each row of YtdpoimomipdgjaaDoorRows.lean that lists a variable, with what it lists TIED to the program's text (the seventh form; the later family's looks); each row that meets fmt, with fmt's text TOLD by the authors' own Lean function (tested against real Go, not proved from fmt's source: count such statements apart). THE CARD IS WHAT COUNTS. Prove the row's statement (the work); the ties are given (YtdpoimomipdgjaaDoorTie.lean); close each card by the builder's one call (the guide's Derived/Test/ToyasCard.lean, 'card_holds'). Laid BY PROGRAM, IN A SANDBOX (cutbox-door.mjs). By AI agents, Wed Nov 11 2026. No macro, syntax, notation, axiom, sorry.
-/
import Derived.Test.YtdpoimomipdgjaaDoorRows
import GoSem.ClaimSeven
namespace Go.Proofs.YtdpoimomipdgjaaDoor
namespace Rows

/-- THE TIED CARD OF 'omnibuslaw06.EntryTells'. -/
def entryTellsCard : Claim7 := { stood := { row := entryTellsRow, standIns := [], harness := (true, "6dda6a6f33361a524ff70b7152716dc28cf79221233f52f8e0f7de8d0f335873"), looks := false }, kinds := [], alts := [], laidByText := true, laidKinds := [.data], laidTests := true, laidLooks := .later }
def EntryTellsCardSaid : Prop := Claim7.holds Tryd.pinned (.plain (OpenSpec.ofChange entryTellsSpec)) entryTellsCard

/-- THE TIED CARD OF 'omnibuslaw06.EntryBack'. -/
def entryBackCard : Claim7 := { stood := { row := entryBackRow, standIns := [], harness := (true, "6dda6a6f33361a524ff70b7152716dc28cf79221233f52f8e0f7de8d0f335873"), looks := false }, kinds := [], alts := [], laidByText := true, laidKinds := [.data], laidTests := true, laidLooks := .later }
def EntryBackCardSaid : Prop := Claim7.holds Tryd.pinned (.plain (OpenSpec.ofChange entryBackSpec)) entryBackCard

/-- THE TIED CARD OF 'omnibuslaw06.EntryMembers'. -/
def entryMembersCard : Claim7 := { stood := { row := entryMembersRow, standIns := [], harness := (true, "6dda6a6f33361a524ff70b7152716dc28cf79221233f52f8e0f7de8d0f335873"), looks := false }, kinds := [], alts := [], laidByText := true, laidKinds := [.data], laidTests := true, laidLooks := .later }
def EntryMembersCardSaid : Prop := Claim7.holds Tryd.pinned (.plain (OpenSpec.ofChange entryMembersSpec)) entryMembersCard

/-- THE TIED CARD OF 'omnibuslaw06.EntryLengths'. -/
def entryLengthsCard : Claim7 := { stood := { row := entryLengthsRow, standIns := [], harness := (true, "6dda6a6f33361a524ff70b7152716dc28cf79221233f52f8e0f7de8d0f335873"), looks := false }, kinds := [], alts := [], laidByText := true, laidKinds := [.data], laidTests := true, laidLooks := .later }
def EntryLengthsCardSaid : Prop := Claim7.holds Tryd.pinned (.plain (OpenSpec.ofChange entryLengthsSpec)) entryLengthsCard

/-- THE TIED CARD OF 'omnibuslaw06.EntryOdd'. -/
def entryOddCard : Claim7 := { stood := { row := entryOddRow, standIns := [], harness := (true, "6dda6a6f33361a524ff70b7152716dc28cf79221233f52f8e0f7de8d0f335873"), looks := false }, kinds := [], alts := [], laidByText := true, laidKinds := [.data], laidTests := true, laidLooks := .later }
def EntryOddCardSaid : Prop := Claim7.holds Tryd.pinned (.plain (OpenSpec.ofChange entryOddSpec)) entryOddCard

/-- THE TIED CARD OF 'omnibuslaw06.EntryRows'. -/
def entryRowsCard : Claim7 := { stood := { row := entryRowsRow, standIns := [], harness := (true, "6dda6a6f33361a524ff70b7152716dc28cf79221233f52f8e0f7de8d0f335873"), looks := false }, kinds := [], alts := [], laidByText := true, laidKinds := [.data], laidTests := true, laidLooks := .later }
def EntryRowsCardSaid : Prop := Claim7.holds Tryd.pinned (.plain (OpenSpec.ofChange entryRowsSpec)) entryRowsCard

/-- THE SECOND FORM's CARD OF 'omnibuslaw06.EntryTells'. -/
def entryTellsUptoCard : Claim7 := { stood := { row := entryTellsUptoRow, standIns := [], harness := (true, "6dda6a6f33361a524ff70b7152716dc28cf79221233f52f8e0f7de8d0f335873"), looks := false }, kinds := [], alts := [], laidByText := true, laidKinds := [.data], laidTests := true, laidLooks := .later }
def EntryTellsUptoCardSaid : Prop := Claim7.holds Tryd.pinned (.plain (OpenSpec.upto entryTellsSpec)) entryTellsUptoCard

/-- THE SECOND FORM's CARD OF 'omnibuslaw06.EntryBack'. -/
def entryBackUptoCard : Claim7 := { stood := { row := entryBackUptoRow, standIns := [], harness := (true, "6dda6a6f33361a524ff70b7152716dc28cf79221233f52f8e0f7de8d0f335873"), looks := false }, kinds := [], alts := [], laidByText := true, laidKinds := [.data], laidTests := true, laidLooks := .later }
def EntryBackUptoCardSaid : Prop := Claim7.holds Tryd.pinned (.plain (OpenSpec.upto entryBackSpec)) entryBackUptoCard

/-- THE SECOND FORM's CARD OF 'omnibuslaw06.EntryMembers'. -/
def entryMembersUptoCard : Claim7 := { stood := { row := entryMembersUptoRow, standIns := [], harness := (true, "6dda6a6f33361a524ff70b7152716dc28cf79221233f52f8e0f7de8d0f335873"), looks := false }, kinds := [], alts := [], laidByText := true, laidKinds := [.data], laidTests := true, laidLooks := .later }
def EntryMembersUptoCardSaid : Prop := Claim7.holds Tryd.pinned (.plain (OpenSpec.upto entryMembersSpec)) entryMembersUptoCard

/-- THE SECOND FORM's CARD OF 'omnibuslaw06.EntryLengths'. -/
def entryLengthsUptoCard : Claim7 := { stood := { row := entryLengthsUptoRow, standIns := [], harness := (true, "6dda6a6f33361a524ff70b7152716dc28cf79221233f52f8e0f7de8d0f335873"), looks := false }, kinds := [], alts := [], laidByText := true, laidKinds := [.data], laidTests := true, laidLooks := .later }
def EntryLengthsUptoCardSaid : Prop := Claim7.holds Tryd.pinned (.plain (OpenSpec.upto entryLengthsSpec)) entryLengthsUptoCard

/-- THE SECOND FORM's CARD OF 'omnibuslaw06.EntryOdd'. -/
def entryOddUptoCard : Claim7 := { stood := { row := entryOddUptoRow, standIns := [], harness := (true, "6dda6a6f33361a524ff70b7152716dc28cf79221233f52f8e0f7de8d0f335873"), looks := false }, kinds := [], alts := [], laidByText := true, laidKinds := [.data], laidTests := true, laidLooks := .later }
def EntryOddUptoCardSaid : Prop := Claim7.holds Tryd.pinned (.plain (OpenSpec.upto entryOddSpec)) entryOddUptoCard

/-- THE SECOND FORM's CARD OF 'omnibuslaw06.EntryRows'. -/
def entryRowsUptoCard : Claim7 := { stood := { row := entryRowsUptoRow, standIns := [], harness := (true, "6dda6a6f33361a524ff70b7152716dc28cf79221233f52f8e0f7de8d0f335873"), looks := false }, kinds := [], alts := [], laidByText := true, laidKinds := [.data], laidTests := true, laidLooks := .later }
def EntryRowsUptoCardSaid : Prop := Claim7.holds Tryd.pinned (.plain (OpenSpec.upto entryRowsSpec)) entryRowsUptoCard
end Rows
end Go.Proofs.YtdpoimomipdgjaaDoor

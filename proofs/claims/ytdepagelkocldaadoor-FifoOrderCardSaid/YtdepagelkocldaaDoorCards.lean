/-
  DERIVED. GIVEN WITH THE SEED: THE CARDS: each row of YtdepagelkocldaaDoorRows.lean that lists a variable, with what it lists TIED to the program's text (the seventh form; the later family's looks); each row that meets fmt, with fmt's text TOLD by the authors' own Lean function (tested against real Go, not proved from fmt's source: count such statements apart). THE CARD IS WHAT COUNTS. Prove the row's statement (the work); the ties are given (YtdepagelkocldaaDoorTie.lean); close each card by the builder's one call (the guide's Derived/Test/ToyasCard.lean, 'card_holds'). Laid BY PROGRAM, IN A SANDBOX (cutbox-door.mjs). By AI agents, Wed Nov 11 2026. No macro, syntax, notation, axiom, sorry.
-/
import Derived.Test.YtdepagelkocldaaDoorRows
import GoSem.ClaimSeven
namespace Go.Proofs.YtdepagelkocldaaDoor
namespace Rows

/-- THE TIED CARD OF 'omnibuslaw14.FifoTells'. -/
def fifoTellsCard : Claim7 := { stood := { row := fifoTellsRow, standIns := [], harness := (true, "a6055dc52031f7db3739c0cf35117957a79254e19aab1e35ad2c6732991098ba"), looks := false }, kinds := [], alts := [], laidByText := true, laidKinds := [.data], laidTests := true, laidLooks := .later }
def FifoTellsCardSaid : Prop := Claim7.holds Tryd.pinned (.plain (OpenSpec.ofChange fifoTellsSpec)) fifoTellsCard

/-- THE TIED CARD OF 'omnibuslaw14.FifoOrder'. -/
def fifoOrderCard : Claim7 := { stood := { row := fifoOrderRow, standIns := [], harness := (true, "a6055dc52031f7db3739c0cf35117957a79254e19aab1e35ad2c6732991098ba"), looks := false }, kinds := [], alts := [], laidByText := true, laidKinds := [.data], laidTests := true, laidLooks := .later }
def FifoOrderCardSaid : Prop := Claim7.holds Tryd.pinned (.plain (OpenSpec.ofChange fifoOrderSpec)) fifoOrderCard

/-- THE TIED CARD OF 'omnibuslaw14.FifoRoom'. -/
def fifoRoomCard : Claim7 := { stood := { row := fifoRoomRow, standIns := [], harness := (true, "a6055dc52031f7db3739c0cf35117957a79254e19aab1e35ad2c6732991098ba"), looks := false }, kinds := [], alts := [], laidByText := true, laidKinds := [.data], laidTests := true, laidLooks := .later }
def FifoRoomCardSaid : Prop := Claim7.holds Tryd.pinned (.plain (OpenSpec.ofChange fifoRoomSpec)) fifoRoomCard

/-- THE TIED CARD OF 'omnibuslaw14.FifoCounts'. -/
def fifoCountsCard : Claim7 := { stood := { row := fifoCountsRow, standIns := [], harness := (true, "a6055dc52031f7db3739c0cf35117957a79254e19aab1e35ad2c6732991098ba"), looks := false }, kinds := [], alts := [], laidByText := true, laidKinds := [.data], laidTests := true, laidLooks := .later }
def FifoCountsCardSaid : Prop := Claim7.holds Tryd.pinned (.plain (OpenSpec.ofChange fifoCountsSpec)) fifoCountsCard

/-- THE TIED CARD OF 'omnibuslaw14.FifoTaken'. -/
def fifoTakenCard : Claim7 := { stood := { row := fifoTakenRow, standIns := [], harness := (true, "a6055dc52031f7db3739c0cf35117957a79254e19aab1e35ad2c6732991098ba"), looks := false }, kinds := [], alts := [], laidByText := true, laidKinds := [.data], laidTests := true, laidLooks := .later }
def FifoTakenCardSaid : Prop := Claim7.holds Tryd.pinned (.plain (OpenSpec.ofChange fifoTakenSpec)) fifoTakenCard

/-- THE SECOND FORM's CARD OF 'omnibuslaw14.FifoTells'. -/
def fifoTellsUptoCard : Claim7 := { stood := { row := fifoTellsUptoRow, standIns := [], harness := (true, "a6055dc52031f7db3739c0cf35117957a79254e19aab1e35ad2c6732991098ba"), looks := false }, kinds := [], alts := [], laidByText := true, laidKinds := [.data], laidTests := true, laidLooks := .later }
def FifoTellsUptoCardSaid : Prop := Claim7.holds Tryd.pinned (.plain (OpenSpec.upto fifoTellsSpec)) fifoTellsUptoCard

/-- THE SECOND FORM's CARD OF 'omnibuslaw14.FifoOrder'. -/
def fifoOrderUptoCard : Claim7 := { stood := { row := fifoOrderUptoRow, standIns := [], harness := (true, "a6055dc52031f7db3739c0cf35117957a79254e19aab1e35ad2c6732991098ba"), looks := false }, kinds := [], alts := [], laidByText := true, laidKinds := [.data], laidTests := true, laidLooks := .later }
def FifoOrderUptoCardSaid : Prop := Claim7.holds Tryd.pinned (.plain (OpenSpec.upto fifoOrderSpec)) fifoOrderUptoCard

/-- THE SECOND FORM's CARD OF 'omnibuslaw14.FifoRoom'. -/
def fifoRoomUptoCard : Claim7 := { stood := { row := fifoRoomUptoRow, standIns := [], harness := (true, "a6055dc52031f7db3739c0cf35117957a79254e19aab1e35ad2c6732991098ba"), looks := false }, kinds := [], alts := [], laidByText := true, laidKinds := [.data], laidTests := true, laidLooks := .later }
def FifoRoomUptoCardSaid : Prop := Claim7.holds Tryd.pinned (.plain (OpenSpec.upto fifoRoomSpec)) fifoRoomUptoCard

/-- THE SECOND FORM's CARD OF 'omnibuslaw14.FifoCounts'. -/
def fifoCountsUptoCard : Claim7 := { stood := { row := fifoCountsUptoRow, standIns := [], harness := (true, "a6055dc52031f7db3739c0cf35117957a79254e19aab1e35ad2c6732991098ba"), looks := false }, kinds := [], alts := [], laidByText := true, laidKinds := [.data], laidTests := true, laidLooks := .later }
def FifoCountsUptoCardSaid : Prop := Claim7.holds Tryd.pinned (.plain (OpenSpec.upto fifoCountsSpec)) fifoCountsUptoCard

/-- THE SECOND FORM's CARD OF 'omnibuslaw14.FifoTaken'. -/
def fifoTakenUptoCard : Claim7 := { stood := { row := fifoTakenUptoRow, standIns := [], harness := (true, "a6055dc52031f7db3739c0cf35117957a79254e19aab1e35ad2c6732991098ba"), looks := false }, kinds := [], alts := [], laidByText := true, laidKinds := [.data], laidTests := true, laidLooks := .later }
def FifoTakenUptoCardSaid : Prop := Claim7.holds Tryd.pinned (.plain (OpenSpec.upto fifoTakenSpec)) fifoTakenUptoCard
end Rows
end Go.Proofs.YtdepagelkocldaaDoor

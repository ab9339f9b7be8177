/-
  NARROWER THAN 'FOR EVERY INPUT', by the rows' own cells (each row's printed sentence says how): FifoTells: laid · FifoOrder: laid · FifoRoom: laid · FifoCounts: laid · FifoTaken: laid.
  DERIVED. THE GIVEN ROWS OF THIS SEAT. 5 by the template 'for every input the law returns true; each argument reads behind the call as it read before'; 0 by the template 'total and deterministic' (their statements: YtdepagelkocldaaDoorTotals.lean).
  GIVEN WITH THE SEED: the statements are not yours to turn. If you find one false, say at which input.
  Laid BY PROGRAM, IN A SANDBOX (cutbox-rows.mjs): the forced cells as the released guide's own fill.sh prints them over the translation 6e19b1967f6fba63… (all of the seat's roots in one cut). By AI agents, Wed Nov 11 2026. No macro, syntax, notation, axiom, sorry.
-/
import Derived.Test.YtdepagelkocldaaDoorChecked
import GoSem.Claim
import GoSem.ClaimJoined
import GoSem.ClaimMapViews
import Derived.JoinedTies
import Derived.KernelRfl
namespace Go.Proofs.YtdepagelkocldaaDoor
/- THE CELL 'sum', in the pinned program and in every row, IS THE sha256 OF THE DUMP (.gsa) THAT YtdepagelkocldaaDoorProg.lean LOADS. Nothing in Lean hashes anything: it is a label: what it is worth is what the hold of that sum in a sandbox is worth. -/
noncomputable def Tryd.pinned : Pinned := { name := "ytdepagelkocldaadoor", sum := "6e19b1967f6fba633411c2c11c3bae569fbf567f82b024d289de9ec355340063", checked := Tryd.checked }
namespace Rows
def none {H : Type} : Left H := { results := [], args := [] }

/- WHAT THE LISTED PACKAGE-LEVEL VARIABLES READ AS WHEN THE CALL BEGINS. Each datum BY PROGRAM (the guide's laid-datum.mjs) off the statement by which the dump's own 'gosem.cut.vars' lays the variable. In a bare row this is a premise. The card (YtdepagelkocldaaDoorCards.lean) ties it to the program's text. -/
def laid_omnibus_ident_greatest {H : Type} : DataW H := .agg [.lit (.int .i64 2047), .lit (.int .i64 536870911)]

/-- 'omnibuslaw14.FifoTells': WHATEVER THE INPUT: true; the input reads as it did. -/
def fifoTellsSpec : ChangeSpec := { name := "fifoTells", fn := fun _ => fun
  | [d1, d2, d3, d4, d5, d6, d7, d8, d9] => { results := [.lit (.bool true)], args := [d1, d2, d3, d4, d5, d6, d7, d8, d9] }
  | _ => none }
def fifoTellsRow : OpenClaim := { program := "ytdepagelkocldaadoor", sum := "6e19b1967f6fba633411c2c11c3bae569fbf567f82b024d289de9ec355340063", func := "omnibus/omnibuslaw14.FifoTells", spec := "fifoTells", unfollowed := true, recurses := true, named := ["omnibus/ident.greatest"], apart := false, laid := [("omnibus/ident.greatest", laid_omnibus_ident_greatest)] }
def FifoTellsSaid : Prop := fifoTellsRow.holds Tryd.pinned (OpenSpec.ofChange fifoTellsSpec)

/-- ITS FALSE NEIGHBOUR: 'it returns false'. Refute it at one input. -/
def fifoTellsWrong : ChangeSpec := { name := "fifoTells", fn := fun _ => fun
  | [d1, d2, d3, d4, d5, d6, d7, d8, d9] => { results := [.lit (.bool false)], args := [d1, d2, d3, d4, d5, d6, d7, d8, d9] }
  | _ => none }
def FifoTellsWrongFalsely : Prop := fifoTellsRow.holds Tryd.pinned (OpenSpec.ofChange fifoTellsWrong)

/-- 'omnibuslaw14.FifoOrder': WHATEVER THE INPUT: true; the input reads as it did. -/
def fifoOrderSpec : ChangeSpec := { name := "fifoOrder", fn := fun _ => fun
  | [d1, d2, d3, d4] => { results := [.lit (.bool true)], args := [d1, d2, d3, d4] }
  | _ => none }
def fifoOrderRow : OpenClaim := { program := "ytdepagelkocldaadoor", sum := "6e19b1967f6fba633411c2c11c3bae569fbf567f82b024d289de9ec355340063", func := "omnibus/omnibuslaw14.FifoOrder", spec := "fifoOrder", unfollowed := true, recurses := true, named := ["omnibus/ident.greatest"], apart := false, laid := [("omnibus/ident.greatest", laid_omnibus_ident_greatest)] }
def FifoOrderSaid : Prop := fifoOrderRow.holds Tryd.pinned (OpenSpec.ofChange fifoOrderSpec)

/-- ITS FALSE NEIGHBOUR: 'it returns false'. Refute it at one input. -/
def fifoOrderWrong : ChangeSpec := { name := "fifoOrder", fn := fun _ => fun
  | [d1, d2, d3, d4] => { results := [.lit (.bool false)], args := [d1, d2, d3, d4] }
  | _ => none }
def FifoOrderWrongFalsely : Prop := fifoOrderRow.holds Tryd.pinned (OpenSpec.ofChange fifoOrderWrong)

/-- 'omnibuslaw14.FifoRoom': WHATEVER THE INPUT: true; the input reads as it did. -/
def fifoRoomSpec : ChangeSpec := { name := "fifoRoom", fn := fun _ => fun
  | [d1, d2, d3] => { results := [.lit (.bool true)], args := [d1, d2, d3] }
  | _ => none }
def fifoRoomRow : OpenClaim := { program := "ytdepagelkocldaadoor", sum := "6e19b1967f6fba633411c2c11c3bae569fbf567f82b024d289de9ec355340063", func := "omnibus/omnibuslaw14.FifoRoom", spec := "fifoRoom", unfollowed := true, recurses := true, named := ["omnibus/ident.greatest"], apart := false, laid := [("omnibus/ident.greatest", laid_omnibus_ident_greatest)] }
def FifoRoomSaid : Prop := fifoRoomRow.holds Tryd.pinned (OpenSpec.ofChange fifoRoomSpec)

/-- ITS FALSE NEIGHBOUR: 'it returns false'. Refute it at one input. -/
def fifoRoomWrong : ChangeSpec := { name := "fifoRoom", fn := fun _ => fun
  | [d1, d2, d3] => { results := [.lit (.bool false)], args := [d1, d2, d3] }
  | _ => none }
def FifoRoomWrongFalsely : Prop := fifoRoomRow.holds Tryd.pinned (OpenSpec.ofChange fifoRoomWrong)

/-- 'omnibuslaw14.FifoCounts': WHATEVER THE INPUT: true; the input reads as it did. -/
def fifoCountsSpec : ChangeSpec := { name := "fifoCounts", fn := fun _ => fun
  | [d1, d2, d3, d4, d5] => { results := [.lit (.bool true)], args := [d1, d2, d3, d4, d5] }
  | _ => none }
def fifoCountsRow : OpenClaim := { program := "ytdepagelkocldaadoor", sum := "6e19b1967f6fba633411c2c11c3bae569fbf567f82b024d289de9ec355340063", func := "omnibus/omnibuslaw14.FifoCounts", spec := "fifoCounts", unfollowed := true, recurses := true, named := ["omnibus/ident.greatest"], apart := false, laid := [("omnibus/ident.greatest", laid_omnibus_ident_greatest)] }
def FifoCountsSaid : Prop := fifoCountsRow.holds Tryd.pinned (OpenSpec.ofChange fifoCountsSpec)

/-- ITS FALSE NEIGHBOUR: 'it returns false'. Refute it at one input. -/
def fifoCountsWrong : ChangeSpec := { name := "fifoCounts", fn := fun _ => fun
  | [d1, d2, d3, d4, d5] => { results := [.lit (.bool false)], args := [d1, d2, d3, d4, d5] }
  | _ => none }
def FifoCountsWrongFalsely : Prop := fifoCountsRow.holds Tryd.pinned (OpenSpec.ofChange fifoCountsWrong)

/-- 'omnibuslaw14.FifoTaken': WHATEVER THE INPUT: true; the input reads as it did. -/
def fifoTakenSpec : ChangeSpec := { name := "fifoTaken", fn := fun _ => fun
  | [d1, d2, d3, d4] => { results := [.lit (.bool true)], args := [d1, d2, d3, d4] }
  | _ => none }
def fifoTakenRow : OpenClaim := { program := "ytdepagelkocldaadoor", sum := "6e19b1967f6fba633411c2c11c3bae569fbf567f82b024d289de9ec355340063", func := "omnibus/omnibuslaw14.FifoTaken", spec := "fifoTaken", unfollowed := true, recurses := true, named := ["omnibus/ident.greatest"], apart := false, laid := [("omnibus/ident.greatest", laid_omnibus_ident_greatest)] }
def FifoTakenSaid : Prop := fifoTakenRow.holds Tryd.pinned (OpenSpec.ofChange fifoTakenSpec)

/-- ITS FALSE NEIGHBOUR: 'it returns false'. Refute it at one input. -/
def fifoTakenWrong : ChangeSpec := { name := "fifoTaken", fn := fun _ => fun
  | [d1, d2, d3, d4] => { results := [.lit (.bool false)], args := [d1, d2, d3, d4] }
  | _ => none }
def FifoTakenWrongFalsely : Prop := fifoTakenRow.holds Tryd.pinned (OpenSpec.ofChange fifoTakenWrong)

/- THE SECOND FORM. 'bulk': how many values and letters a reading holds, each counted each time it is reached (what is shared counts as often as it is met; a slice's spare places count too). A statement '..UptoSaid' is the law's where the arguments, and the package variables that the reading takes, are together of bulk at most 1048576: NARROWER than '..Said'. Prove '..Said' where nothing that the law and all that it calls make is longer than what came in: it says more and counts as full. Else prove '..UptoSaid'. A law counts once. -/
mutual
def uptoBulk {H : Type} : DataW H → Nat
  | .lit (.string bytes) => bytes.length + 1
  | .lit _ => 1
  | .nil => 1
  | .ptr d => uptoBulk d + 1
  | .slice elems spare => uptoBulkAll elems + uptoBulkAll spare + 1
  | .agg parts => uptoBulkAll parts + 1
  | .iface _ d => uptoBulk d + 1
  | .map entries => uptoBulkEntries entries + 1
  | .held _ => 1
def uptoBulkAll {H : Type} : List (DataW H) → Nat
  | [] => 0
  | d :: r => uptoBulk d + uptoBulkAll r
def uptoBulkEntries {H : Type} : List (Lit × DataW H) → Nat
  | [] => 0
  | x :: r => uptoBulkEntry x + uptoBulkEntries r
def uptoBulkEntry {H : Type} : Lit × DataW H → Nat
  | (.string bytes, d) => bytes.length + uptoBulk d + 1
  | (_, d) => uptoBulk d + 1
 end
def uptoSmall : (H : Type) → List (DataW H) → Bool := fun _ ds => decide (uptoBulkAll ds ≤ 1048576)
def OpenSpec.upto (s : _root_.Go.ChangeSpec) : _root_.Go.OpenSpec := { _root_.Go.OpenSpec.ofChange s with cond := some uptoSmall }

/-- 'omnibuslaw14.FifoTells', WHERE WHAT IT READS IS OF BULK AT MOST 1048576: true; the input reads as it did. -/
def fifoTellsUptoRow : OpenClaim := { program := "ytdepagelkocldaadoor", sum := "6e19b1967f6fba633411c2c11c3bae569fbf567f82b024d289de9ec355340063", func := "omnibus/omnibuslaw14.FifoTells", spec := "fifoTells", unfollowed := true, recurses := true, named := ["omnibus/ident.greatest"], apart := false, laid := [("omnibus/ident.greatest", laid_omnibus_ident_greatest)], narrowed := true }
def FifoTellsUptoSaid : Prop := fifoTellsUptoRow.holds Tryd.pinned (OpenSpec.upto fifoTellsSpec)

/-- 'omnibuslaw14.FifoOrder', WHERE WHAT IT READS IS OF BULK AT MOST 1048576: true; the input reads as it did. -/
def fifoOrderUptoRow : OpenClaim := { program := "ytdepagelkocldaadoor", sum := "6e19b1967f6fba633411c2c11c3bae569fbf567f82b024d289de9ec355340063", func := "omnibus/omnibuslaw14.FifoOrder", spec := "fifoOrder", unfollowed := true, recurses := true, named := ["omnibus/ident.greatest"], apart := false, laid := [("omnibus/ident.greatest", laid_omnibus_ident_greatest)], narrowed := true }
def FifoOrderUptoSaid : Prop := fifoOrderUptoRow.holds Tryd.pinned (OpenSpec.upto fifoOrderSpec)

/-- 'omnibuslaw14.FifoRoom', WHERE WHAT IT READS IS OF BULK AT MOST 1048576: true; the input reads as it did. -/
def fifoRoomUptoRow : OpenClaim := { program := "ytdepagelkocldaadoor", sum := "6e19b1967f6fba633411c2c11c3bae569fbf567f82b024d289de9ec355340063", func := "omnibus/omnibuslaw14.FifoRoom", spec := "fifoRoom", unfollowed := true, recurses := true, named := ["omnibus/ident.greatest"], apart := false, laid := [("omnibus/ident.greatest", laid_omnibus_ident_greatest)], narrowed := true }
def FifoRoomUptoSaid : Prop := fifoRoomUptoRow.holds Tryd.pinned (OpenSpec.upto fifoRoomSpec)

/-- 'omnibuslaw14.FifoCounts', WHERE WHAT IT READS IS OF BULK AT MOST 1048576: true; the input reads as it did. -/
def fifoCountsUptoRow : OpenClaim := { program := "ytdepagelkocldaadoor", sum := "6e19b1967f6fba633411c2c11c3bae569fbf567f82b024d289de9ec355340063", func := "omnibus/omnibuslaw14.FifoCounts", spec := "fifoCounts", unfollowed := true, recurses := true, named := ["omnibus/ident.greatest"], apart := false, laid := [("omnibus/ident.greatest", laid_omnibus_ident_greatest)], narrowed := true }
def FifoCountsUptoSaid : Prop := fifoCountsUptoRow.holds Tryd.pinned (OpenSpec.upto fifoCountsSpec)

/-- 'omnibuslaw14.FifoTaken', WHERE WHAT IT READS IS OF BULK AT MOST 1048576: true; the input reads as it did. -/
def fifoTakenUptoRow : OpenClaim := { program := "ytdepagelkocldaadoor", sum := "6e19b1967f6fba633411c2c11c3bae569fbf567f82b024d289de9ec355340063", func := "omnibus/omnibuslaw14.FifoTaken", spec := "fifoTaken", unfollowed := true, recurses := true, named := ["omnibus/ident.greatest"], apart := false, laid := [("omnibus/ident.greatest", laid_omnibus_ident_greatest)], narrowed := true }
def FifoTakenUptoSaid : Prop := fifoTakenUptoRow.holds Tryd.pinned (OpenSpec.upto fifoTakenSpec)

end Rows
end Go.Proofs.YtdepagelkocldaaDoor

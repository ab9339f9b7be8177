/-
  NARROWER THAN 'FOR EVERY INPUT', by the rows' own cells (each row's printed sentence says how): IdentTells: laid · IdentFilters: laid · IdentOrder: laid · IdentMasks: laid · IdentKeys: laid · IdentAmong: laid.
  DERIVED. THE GIVEN ROWS OF THIS SEAT. 6 by the template 'for every input the law returns true; each argument reads behind the call as it read before'; 0 by the template 'total and deterministic' (their statements: YtemajoafhamhgaaDoorTotals.lean).
  GIVEN WITH THE SEED: the statements are not yours to turn. If you find one false, say at which input.
  Laid BY PROGRAM, IN A SANDBOX (cutbox-rows.mjs): the forced cells as the released guide's own fill.sh prints them over the translation bc821fe3817573b8… (all of the seat's roots in one cut). By AI agents, Wed Nov 11 2026. No macro, syntax, notation, axiom, sorry.
-/
import Derived.Test.YtemajoafhamhgaaDoorChecked
import GoSem.Claim
import GoSem.ClaimJoined
import GoSem.ClaimMapViews
import Derived.JoinedTies
import Derived.KernelRfl
namespace Go.Proofs.YtemajoafhamhgaaDoor
/- THE CELL 'sum', in the pinned program and in every row, IS THE sha256 OF THE DUMP (.gsa) THAT YtemajoafhamhgaaDoorProg.lean LOADS. Nothing in Lean hashes anything: it is a label: what it is worth is what the hold of that sum in a sandbox is worth. -/
noncomputable def Tryd.pinned : Pinned := { name := "ytemajoafhamhgaadoor", sum := "bc821fe3817573b852098e3329dba2e794631eb4db04ff17031e998f140b9821", checked := Tryd.checked }
namespace Rows
def none {H : Type} : Left H := { results := [], args := [] }

/- WHAT THE LISTED PACKAGE-LEVEL VARIABLES READ AS WHEN THE CALL BEGINS. Each datum BY PROGRAM (the guide's laid-datum.mjs) off the statement by which the dump's own 'gosem.cut.vars' lays the variable. In a bare row this is a premise. The card (YtemajoafhamhgaaDoorCards.lean) ties it to the program's text. -/
def laid_omnibus_ident_greatest {H : Type} : DataW H := .agg [.lit (.int .i64 2047), .lit (.int .i64 536870911)]

/-- 'omnibuslaw02.IdentTells': WHATEVER THE INPUT: true; the input reads as it did. -/
def identTellsSpec : ChangeSpec := { name := "identTells", fn := fun _ => fun
  | [d1, d2, d3, d4] => { results := [.lit (.bool true)], args := [d1, d2, d3, d4] }
  | _ => none }
def identTellsRow : OpenClaim := { program := "ytemajoafhamhgaadoor", sum := "bc821fe3817573b852098e3329dba2e794631eb4db04ff17031e998f140b9821", func := "omnibus/omnibuslaw02.IdentTells", spec := "identTells", unfollowed := true, recurses := true, named := ["omnibus/ident.greatest"], apart := false, laid := [("omnibus/ident.greatest", laid_omnibus_ident_greatest)] }
def IdentTellsSaid : Prop := identTellsRow.holds Tryd.pinned (OpenSpec.ofChange identTellsSpec)

/-- ITS FALSE NEIGHBOUR: 'it returns false'. Refute it at one input. -/
def identTellsWrong : ChangeSpec := { name := "identTells", fn := fun _ => fun
  | [d1, d2, d3, d4] => { results := [.lit (.bool false)], args := [d1, d2, d3, d4] }
  | _ => none }
def IdentTellsWrongFalsely : Prop := identTellsRow.holds Tryd.pinned (OpenSpec.ofChange identTellsWrong)

/-- 'omnibuslaw02.IdentFilters': WHATEVER THE INPUT: true; the input reads as it did. -/
def identFiltersSpec : ChangeSpec := { name := "identFilters", fn := fun _ => fun
  | [d1, d2] => { results := [.lit (.bool true)], args := [d1, d2] }
  | _ => none }
def identFiltersRow : OpenClaim := { program := "ytemajoafhamhgaadoor", sum := "bc821fe3817573b852098e3329dba2e794631eb4db04ff17031e998f140b9821", func := "omnibus/omnibuslaw02.IdentFilters", spec := "identFilters", unfollowed := true, recurses := true, named := ["omnibus/ident.greatest"], apart := false, laid := [("omnibus/ident.greatest", laid_omnibus_ident_greatest)] }
def IdentFiltersSaid : Prop := identFiltersRow.holds Tryd.pinned (OpenSpec.ofChange identFiltersSpec)

/-- ITS FALSE NEIGHBOUR: 'it returns false'. Refute it at one input. -/
def identFiltersWrong : ChangeSpec := { name := "identFilters", fn := fun _ => fun
  | [d1, d2] => { results := [.lit (.bool false)], args := [d1, d2] }
  | _ => none }
def IdentFiltersWrongFalsely : Prop := identFiltersRow.holds Tryd.pinned (OpenSpec.ofChange identFiltersWrong)

/-- 'omnibuslaw02.IdentOrder': WHATEVER THE INPUT: true; the input reads as it did. -/
def identOrderSpec : ChangeSpec := { name := "identOrder", fn := fun _ => fun
  | [d1, d2, d3, d4] => { results := [.lit (.bool true)], args := [d1, d2, d3, d4] }
  | _ => none }
def identOrderRow : OpenClaim := { program := "ytemajoafhamhgaadoor", sum := "bc821fe3817573b852098e3329dba2e794631eb4db04ff17031e998f140b9821", func := "omnibus/omnibuslaw02.IdentOrder", spec := "identOrder", unfollowed := true, recurses := true, named := ["omnibus/ident.greatest"], apart := false, laid := [("omnibus/ident.greatest", laid_omnibus_ident_greatest)] }
def IdentOrderSaid : Prop := identOrderRow.holds Tryd.pinned (OpenSpec.ofChange identOrderSpec)

/-- ITS FALSE NEIGHBOUR: 'it returns false'. Refute it at one input. -/
def identOrderWrong : ChangeSpec := { name := "identOrder", fn := fun _ => fun
  | [d1, d2, d3, d4] => { results := [.lit (.bool false)], args := [d1, d2, d3, d4] }
  | _ => none }
def IdentOrderWrongFalsely : Prop := identOrderRow.holds Tryd.pinned (OpenSpec.ofChange identOrderWrong)

/-- 'omnibuslaw02.IdentMasks': WHATEVER THE INPUT: true; the input reads as it did. -/
def identMasksSpec : ChangeSpec := { name := "identMasks", fn := fun _ => fun
  | [d1, d2, d3, d4, d5] => { results := [.lit (.bool true)], args := [d1, d2, d3, d4, d5] }
  | _ => none }
def identMasksRow : OpenClaim := { program := "ytemajoafhamhgaadoor", sum := "bc821fe3817573b852098e3329dba2e794631eb4db04ff17031e998f140b9821", func := "omnibus/omnibuslaw02.IdentMasks", spec := "identMasks", unfollowed := true, recurses := true, named := ["omnibus/ident.greatest"], apart := false, laid := [("omnibus/ident.greatest", laid_omnibus_ident_greatest)] }
def IdentMasksSaid : Prop := identMasksRow.holds Tryd.pinned (OpenSpec.ofChange identMasksSpec)

/-- ITS FALSE NEIGHBOUR: 'it returns false'. Refute it at one input. -/
def identMasksWrong : ChangeSpec := { name := "identMasks", fn := fun _ => fun
  | [d1, d2, d3, d4, d5] => { results := [.lit (.bool false)], args := [d1, d2, d3, d4, d5] }
  | _ => none }
def IdentMasksWrongFalsely : Prop := identMasksRow.holds Tryd.pinned (OpenSpec.ofChange identMasksWrong)

/-- 'omnibuslaw02.IdentKeys': WHATEVER THE INPUT: true; the input reads as it did. -/
def identKeysSpec : ChangeSpec := { name := "identKeys", fn := fun _ => fun
  | [d1, d2, d3] => { results := [.lit (.bool true)], args := [d1, d2, d3] }
  | _ => none }
def identKeysRow : OpenClaim := { program := "ytemajoafhamhgaadoor", sum := "bc821fe3817573b852098e3329dba2e794631eb4db04ff17031e998f140b9821", func := "omnibus/omnibuslaw02.IdentKeys", spec := "identKeys", unfollowed := true, recurses := true, named := ["omnibus/ident.greatest"], apart := false, laid := [("omnibus/ident.greatest", laid_omnibus_ident_greatest)] }
def IdentKeysSaid : Prop := identKeysRow.holds Tryd.pinned (OpenSpec.ofChange identKeysSpec)

/-- ITS FALSE NEIGHBOUR: 'it returns false'. Refute it at one input. -/
def identKeysWrong : ChangeSpec := { name := "identKeys", fn := fun _ => fun
  | [d1, d2, d3] => { results := [.lit (.bool false)], args := [d1, d2, d3] }
  | _ => none }
def IdentKeysWrongFalsely : Prop := identKeysRow.holds Tryd.pinned (OpenSpec.ofChange identKeysWrong)

/-- 'omnibuslaw02.IdentAmong': WHATEVER THE INPUT: true; the input reads as it did. -/
def identAmongSpec : ChangeSpec := { name := "identAmong", fn := fun _ => fun
  | [d1, d2, d3] => { results := [.lit (.bool true)], args := [d1, d2, d3] }
  | _ => none }
def identAmongRow : OpenClaim := { program := "ytemajoafhamhgaadoor", sum := "bc821fe3817573b852098e3329dba2e794631eb4db04ff17031e998f140b9821", func := "omnibus/omnibuslaw02.IdentAmong", spec := "identAmong", unfollowed := true, recurses := true, named := ["omnibus/ident.greatest"], apart := false, laid := [("omnibus/ident.greatest", laid_omnibus_ident_greatest)] }
def IdentAmongSaid : Prop := identAmongRow.holds Tryd.pinned (OpenSpec.ofChange identAmongSpec)

/-- ITS FALSE NEIGHBOUR: 'it returns false'. Refute it at one input. -/
def identAmongWrong : ChangeSpec := { name := "identAmong", fn := fun _ => fun
  | [d1, d2, d3] => { results := [.lit (.bool false)], args := [d1, d2, d3] }
  | _ => none }
def IdentAmongWrongFalsely : Prop := identAmongRow.holds Tryd.pinned (OpenSpec.ofChange identAmongWrong)

/- THE SECOND FORM. 'bulk': how many values and letters a reading holds, each counted each time it is reached (what is shared counts as often as it is met; a slice's spare places count too). A statement '..UptoSaid' is the law's where the arguments, and the package variables that the reading takes, are together of bulk at most 1048576: NARROWER than '..Said'. Prove '..Said' where nothing that the law and all that it calls make is longer than what came in: it says more and counts as full. Else prove '..UptoSaid'. A law counts once. -/
mutual
def uptoBulk {H : Type} : DataW H → Nat
  | .lit (.string bytes) => bytes.length + 1
  | .lit _ => 1
  | .nil => 1
  | .ptr d => uptoBulk d + 1
  | .slice elems spare => uptoBulkAll elems + uptoBulkAll spare + 1
  | .agg parts => uptoBulkAll parts + 1
  | .iface _ d => uptoBulk d + 1
  | .map entries => uptoBulkEntries entries + 1
  | .held _ => 1
def uptoBulkAll {H : Type} : List (DataW H) → Nat
  | [] => 0
  | d :: r => uptoBulk d + uptoBulkAll r
def uptoBulkEntries {H : Type} : List (Lit × DataW H) → Nat
  | [] => 0
  | x :: r => uptoBulkEntry x + uptoBulkEntries r
def uptoBulkEntry {H : Type} : Lit × DataW H → Nat
  | (.string bytes, d) => bytes.length + uptoBulk d + 1
  | (_, d) => uptoBulk d + 1
 end
def uptoSmall : (H : Type) → List (DataW H) → Bool := fun _ ds => decide (uptoBulkAll ds ≤ 1048576)
def OpenSpec.upto (s : _root_.Go.ChangeSpec) : _root_.Go.OpenSpec := { _root_.Go.OpenSpec.ofChange s with cond := some uptoSmall }

/-- 'omnibuslaw02.IdentTells', WHERE WHAT IT READS IS OF BULK AT MOST 1048576: true; the input reads as it did. -/
def identTellsUptoRow : OpenClaim := { program := "ytemajoafhamhgaadoor", sum := "bc821fe3817573b852098e3329dba2e794631eb4db04ff17031e998f140b9821", func := "omnibus/omnibuslaw02.IdentTells", spec := "identTells", unfollowed := true, recurses := true, named := ["omnibus/ident.greatest"], apart := false, laid := [("omnibus/ident.greatest", laid_omnibus_ident_greatest)], narrowed := true }
def IdentTellsUptoSaid : Prop := identTellsUptoRow.holds Tryd.pinned (OpenSpec.upto identTellsSpec)

/-- 'omnibuslaw02.IdentFilters', WHERE WHAT IT READS IS OF BULK AT MOST 1048576: true; the input reads as it did. -/
def identFiltersUptoRow : OpenClaim := { program := "ytemajoafhamhgaadoor", sum := "bc821fe3817573b852098e3329dba2e794631eb4db04ff17031e998f140b9821", func := "omnibus/omnibuslaw02.IdentFilters", spec := "identFilters", unfollowed := true, recurses := true, named := ["omnibus/ident.greatest"], apart := false, laid := [("omnibus/ident.greatest", laid_omnibus_ident_greatest)], narrowed := true }
def IdentFiltersUptoSaid : Prop := identFiltersUptoRow.holds Tryd.pinned (OpenSpec.upto identFiltersSpec)

/-- 'omnibuslaw02.IdentOrder', WHERE WHAT IT READS IS OF BULK AT MOST 1048576: true; the input reads as it did. -/
def identOrderUptoRow : OpenClaim := { program := "ytemajoafhamhgaadoor", sum := "bc821fe3817573b852098e3329dba2e794631eb4db04ff17031e998f140b9821", func := "omnibus/omnibuslaw02.IdentOrder", spec := "identOrder", unfollowed := true, recurses := true, named := ["omnibus/ident.greatest"], apart := false, laid := [("omnibus/ident.greatest", laid_omnibus_ident_greatest)], narrowed := true }
def IdentOrderUptoSaid : Prop := identOrderUptoRow.holds Tryd.pinned (OpenSpec.upto identOrderSpec)

/-- 'omnibuslaw02.IdentMasks', WHERE WHAT IT READS IS OF BULK AT MOST 1048576: true; the input reads as it did. -/
def identMasksUptoRow : OpenClaim := { program := "ytemajoafhamhgaadoor", sum := "bc821fe3817573b852098e3329dba2e794631eb4db04ff17031e998f140b9821", func := "omnibus/omnibuslaw02.IdentMasks", spec := "identMasks", unfollowed := true, recurses := true, named := ["omnibus/ident.greatest"], apart := false, laid := [("omnibus/ident.greatest", laid_omnibus_ident_greatest)], narrowed := true }
def IdentMasksUptoSaid : Prop := identMasksUptoRow.holds Tryd.pinned (OpenSpec.upto identMasksSpec)

/-- 'omnibuslaw02.IdentKeys', WHERE WHAT IT READS IS OF BULK AT MOST 1048576: true; the input reads as it did. -/
def identKeysUptoRow : OpenClaim := { program := "ytemajoafhamhgaadoor", sum := "bc821fe3817573b852098e3329dba2e794631eb4db04ff17031e998f140b9821", func := "omnibus/omnibuslaw02.IdentKeys", spec := "identKeys", unfollowed := true, recurses := true, named := ["omnibus/ident.greatest"], apart := false, laid := [("omnibus/ident.greatest", laid_omnibus_ident_greatest)], narrowed := true }
def IdentKeysUptoSaid : Prop := identKeysUptoRow.holds Tryd.pinned (OpenSpec.upto identKeysSpec)

/-- 'omnibuslaw02.IdentAmong', WHERE WHAT IT READS IS OF BULK AT MOST 1048576: true; the input reads as it did. -/
def identAmongUptoRow : OpenClaim := { program := "ytemajoafhamhgaadoor", sum := "bc821fe3817573b852098e3329dba2e794631eb4db04ff17031e998f140b9821", func := "omnibus/omnibuslaw02.IdentAmong", spec := "identAmong", unfollowed := true, recurses := true, named := ["omnibus/ident.greatest"], apart := false, laid := [("omnibus/ident.greatest", laid_omnibus_ident_greatest)], narrowed := true }
def IdentAmongUptoSaid : Prop := identAmongUptoRow.holds Tryd.pinned (OpenSpec.upto identAmongSpec)

end Rows
end Go.Proofs.YtemajoafhamhgaaDoor

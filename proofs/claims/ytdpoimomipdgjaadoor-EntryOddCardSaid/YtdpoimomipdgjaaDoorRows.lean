/-
  NARROWER THAN 'FOR EVERY INPUT', by the rows' own cells (each row's printed sentence says how): EntryTells: laid · EntryBack: laid · EntryMembers: laid · EntryLengths: laid · EntryOdd: laid · EntryRows: laid.
  DERIVED. THE GIVEN ROWS OF THIS SEAT. 6 by the template 'for every input the law returns true; each argument reads behind the call as it read before'; 0 by the template 'total and deterministic' (their statements: YtdpoimomipdgjaaDoorTotals.lean).
  GIVEN WITH THE SEED: the statements are not yours to turn. If you find one false, say at which input.
  Laid BY PROGRAM, IN A SANDBOX (cutbox-rows.mjs): the forced cells as the released guide's own fill.sh prints them over the translation 3fe9edfa6817d93b… (all of the seat's roots in one cut). By AI agents, Wed Nov 11 2026. No macro, syntax, notation, axiom, sorry.
-/
import Derived.Test.YtdpoimomipdgjaaDoorChecked
import GoSem.Claim
import GoSem.ClaimJoined
import GoSem.ClaimMapViews
import Derived.JoinedTies
import Derived.KernelRfl
namespace Go.Proofs.YtdpoimomipdgjaaDoor
/- THE CELL 'sum', in the pinned program and in every row, IS THE sha256 OF THE DUMP (.gsa) THAT YtdpoimomipdgjaaDoorProg.lean LOADS. Nothing in Lean hashes anything: it is a label: what it is worth is what the hold of that sum in a sandbox is worth. -/
noncomputable def Tryd.pinned : Pinned := { name := "ytdpoimomipdgjaadoor", sum := "3fe9edfa6817d93b7137f98b54f5033bfca808cbcfd5a370d2bd8a12ce7fc5e6", checked := Tryd.checked }
namespace Rows
def none {H : Type} : Left H := { results := [], args := [] }

/- WHAT THE LISTED PACKAGE-LEVEL VARIABLES READ AS WHEN THE CALL BEGINS. Each datum BY PROGRAM (the guide's laid-datum.mjs) off the statement by which the dump's own 'gosem.cut.vars' lays the variable. In a bare row this is a premise. The card (YtdpoimomipdgjaaDoorCards.lean) ties it to the program's text. -/
def laid_omnibus_ident_greatest {H : Type} : DataW H := .agg [.lit (.int .i64 2047), .lit (.int .i64 536870911)]

/-- 'omnibuslaw06.EntryTells': WHATEVER THE INPUT: true; the input reads as it did. -/
def entryTellsSpec : ChangeSpec := { name := "entryTells", fn := fun _ => fun
  | [d1, d2, d3, d4, d5, d6, d7, d8] => { results := [.lit (.bool true)], args := [d1, d2, d3, d4, d5, d6, d7, d8] }
  | _ => none }
def entryTellsRow : OpenClaim := { program := "ytdpoimomipdgjaadoor", sum := "3fe9edfa6817d93b7137f98b54f5033bfca808cbcfd5a370d2bd8a12ce7fc5e6", func := "omnibus/omnibuslaw06.EntryTells", spec := "entryTells", unfollowed := true, recurses := true, named := ["omnibus/ident.greatest"], apart := false, laid := [("omnibus/ident.greatest", laid_omnibus_ident_greatest)] }
def EntryTellsSaid : Prop := entryTellsRow.holds Tryd.pinned (OpenSpec.ofChange entryTellsSpec)

/-- ITS FALSE NEIGHBOUR: 'it returns false'. Refute it at one input. -/
def entryTellsWrong : ChangeSpec := { name := "entryTells", fn := fun _ => fun
  | [d1, d2, d3, d4, d5, d6, d7, d8] => { results := [.lit (.bool false)], args := [d1, d2, d3, d4, d5, d6, d7, d8] }
  | _ => none }
def EntryTellsWrongFalsely : Prop := entryTellsRow.holds Tryd.pinned (OpenSpec.ofChange entryTellsWrong)

/-- 'omnibuslaw06.EntryBack': WHATEVER THE INPUT: true; the input reads as it did. -/
def entryBackSpec : ChangeSpec := { name := "entryBack", fn := fun _ => fun
  | [d1, d2, d3, d4, d5, d6] => { results := [.lit (.bool true)], args := [d1, d2, d3, d4, d5, d6] }
  | _ => none }
def entryBackRow : OpenClaim := { program := "ytdpoimomipdgjaadoor", sum := "3fe9edfa6817d93b7137f98b54f5033bfca808cbcfd5a370d2bd8a12ce7fc5e6", func := "omnibus/omnibuslaw06.EntryBack", spec := "entryBack", unfollowed := true, recurses := true, named := ["omnibus/ident.greatest"], apart := false, laid := [("omnibus/ident.greatest", laid_omnibus_ident_greatest)] }
def EntryBackSaid : Prop := entryBackRow.holds Tryd.pinned (OpenSpec.ofChange entryBackSpec)

/-- ITS FALSE NEIGHBOUR: 'it returns false'. Refute it at one input. -/
def entryBackWrong : ChangeSpec := { name := "entryBack", fn := fun _ => fun
  | [d1, d2, d3, d4, d5, d6] => { results := [.lit (.bool false)], args := [d1, d2, d3, d4, d5, d6] }
  | _ => none }
def EntryBackWrongFalsely : Prop := entryBackRow.holds Tryd.pinned (OpenSpec.ofChange entryBackWrong)

/-- 'omnibuslaw06.EntryMembers': WHATEVER THE INPUT: true; the input reads as it did. -/
def entryMembersSpec : ChangeSpec := { name := "entryMembers", fn := fun _ => fun
  | [d1, d2, d3] => { results := [.lit (.bool true)], args := [d1, d2, d3] }
  | _ => none }
def entryMembersRow : OpenClaim := { program := "ytdpoimomipdgjaadoor", sum := "3fe9edfa6817d93b7137f98b54f5033bfca808cbcfd5a370d2bd8a12ce7fc5e6", func := "omnibus/omnibuslaw06.EntryMembers", spec := "entryMembers", unfollowed := true, recurses := true, named := ["omnibus/ident.greatest"], apart := false, laid := [("omnibus/ident.greatest", laid_omnibus_ident_greatest)] }
def EntryMembersSaid : Prop := entryMembersRow.holds Tryd.pinned (OpenSpec.ofChange entryMembersSpec)

/-- ITS FALSE NEIGHBOUR: 'it returns false'. Refute it at one input. -/
def entryMembersWrong : ChangeSpec := { name := "entryMembers", fn := fun _ => fun
  | [d1, d2, d3] => { results := [.lit (.bool false)], args := [d1, d2, d3] }
  | _ => none }
def EntryMembersWrongFalsely : Prop := entryMembersRow.holds Tryd.pinned (OpenSpec.ofChange entryMembersWrong)

/-- 'omnibuslaw06.EntryLengths': WHATEVER THE INPUT: true; the input reads as it did. -/
def entryLengthsSpec : ChangeSpec := { name := "entryLengths", fn := fun _ => fun
  | [d1, d2, d3, d4, d5] => { results := [.lit (.bool true)], args := [d1, d2, d3, d4, d5] }
  | _ => none }
def entryLengthsRow : OpenClaim := { program := "ytdpoimomipdgjaadoor", sum := "3fe9edfa6817d93b7137f98b54f5033bfca808cbcfd5a370d2bd8a12ce7fc5e6", func := "omnibus/omnibuslaw06.EntryLengths", spec := "entryLengths", unfollowed := true, recurses := true, named := ["omnibus/ident.greatest"], apart := false, laid := [("omnibus/ident.greatest", laid_omnibus_ident_greatest)] }
def EntryLengthsSaid : Prop := entryLengthsRow.holds Tryd.pinned (OpenSpec.ofChange entryLengthsSpec)

/-- ITS FALSE NEIGHBOUR: 'it returns false'. Refute it at one input. -/
def entryLengthsWrong : ChangeSpec := { name := "entryLengths", fn := fun _ => fun
  | [d1, d2, d3, d4, d5] => { results := [.lit (.bool false)], args := [d1, d2, d3, d4, d5] }
  | _ => none }
def EntryLengthsWrongFalsely : Prop := entryLengthsRow.holds Tryd.pinned (OpenSpec.ofChange entryLengthsWrong)

/-- 'omnibuslaw06.EntryOdd': WHATEVER THE INPUT: true; the input reads as it did. -/
def entryOddSpec : ChangeSpec := { name := "entryOdd", fn := fun _ => fun
  | [d1, d2, d3, d4] => { results := [.lit (.bool true)], args := [d1, d2, d3, d4] }
  | _ => none }
def entryOddRow : OpenClaim := { program := "ytdpoimomipdgjaadoor", sum := "3fe9edfa6817d93b7137f98b54f5033bfca808cbcfd5a370d2bd8a12ce7fc5e6", func := "omnibus/omnibuslaw06.EntryOdd", spec := "entryOdd", unfollowed := true, recurses := true, named := ["omnibus/ident.greatest"], apart := false, laid := [("omnibus/ident.greatest", laid_omnibus_ident_greatest)] }
def EntryOddSaid : Prop := entryOddRow.holds Tryd.pinned (OpenSpec.ofChange entryOddSpec)

/-- ITS FALSE NEIGHBOUR: 'it returns false'. Refute it at one input. -/
def entryOddWrong : ChangeSpec := { name := "entryOdd", fn := fun _ => fun
  | [d1, d2, d3, d4] => { results := [.lit (.bool false)], args := [d1, d2, d3, d4] }
  | _ => none }
def EntryOddWrongFalsely : Prop := entryOddRow.holds Tryd.pinned (OpenSpec.ofChange entryOddWrong)

/-- 'omnibuslaw06.EntryRows': WHATEVER THE INPUT: true; the input reads as it did. -/
def entryRowsSpec : ChangeSpec := { name := "entryRows", fn := fun _ => fun
  | [d1, d2, d3, d4] => { results := [.lit (.bool true)], args := [d1, d2, d3, d4] }
  | _ => none }
def entryRowsRow : OpenClaim := { program := "ytdpoimomipdgjaadoor", sum := "3fe9edfa6817d93b7137f98b54f5033bfca808cbcfd5a370d2bd8a12ce7fc5e6", func := "omnibus/omnibuslaw06.EntryRows", spec := "entryRows", unfollowed := true, recurses := true, named := ["omnibus/ident.greatest"], apart := false, laid := [("omnibus/ident.greatest", laid_omnibus_ident_greatest)] }
def EntryRowsSaid : Prop := entryRowsRow.holds Tryd.pinned (OpenSpec.ofChange entryRowsSpec)

/-- ITS FALSE NEIGHBOUR: 'it returns false'. Refute it at one input. -/
def entryRowsWrong : ChangeSpec := { name := "entryRows", fn := fun _ => fun
  | [d1, d2, d3, d4] => { results := [.lit (.bool false)], args := [d1, d2, d3, d4] }
  | _ => none }
def EntryRowsWrongFalsely : Prop := entryRowsRow.holds Tryd.pinned (OpenSpec.ofChange entryRowsWrong)

/- THE SECOND FORM. 'bulk': how many values and letters a reading holds, each counted each time it is reached (what is shared counts as often as it is met; a slice's spare places count too). A statement '..UptoSaid' is the law's where the arguments, and the package variables that the reading takes, are together of bulk at most 1048576: NARROWER than '..Said'. Prove '..Said' where nothing that the law and all that it calls make is longer than what came in: it says more and counts as full. Else prove '..UptoSaid'. A law counts once. -/
mutual
def uptoBulk {H : Type} : DataW H → Nat
  | .lit (.string bytes) => bytes.length + 1
  | .lit _ => 1
  | .nil => 1
  | .ptr d => uptoBulk d + 1
  | .slice elems spare => uptoBulkAll elems + uptoBulkAll spare + 1
  | .agg parts => uptoBulkAll parts + 1
  | .iface _ d => uptoBulk d + 1
  | .map entries => uptoBulkEntries entries + 1
  | .held _ => 1
def uptoBulkAll {H : Type} : List (DataW H) → Nat
  | [] => 0
  | d :: r => uptoBulk d + uptoBulkAll r
def uptoBulkEntries {H : Type} : List (Lit × DataW H) → Nat
  | [] => 0
  | x :: r => uptoBulkEntry x + uptoBulkEntries r
def uptoBulkEntry {H : Type} : Lit × DataW H → Nat
  | (.string bytes, d) => bytes.length + uptoBulk d + 1
  | (_, d) => uptoBulk d + 1
 end
def uptoSmall : (H : Type) → List (DataW H) → Bool := fun _ ds => decide (uptoBulkAll ds ≤ 1048576)
def OpenSpec.upto (s : _root_.Go.ChangeSpec) : _root_.Go.OpenSpec := { _root_.Go.OpenSpec.ofChange s with cond := some uptoSmall }

/-- 'omnibuslaw06.EntryTells', WHERE WHAT IT READS IS OF BULK AT MOST 1048576: true; the input reads as it did. -/
def entryTellsUptoRow : OpenClaim := { program := "ytdpoimomipdgjaadoor", sum := "3fe9edfa6817d93b7137f98b54f5033bfca808cbcfd5a370d2bd8a12ce7fc5e6", func := "omnibus/omnibuslaw06.EntryTells", spec := "entryTells", unfollowed := true, recurses := true, named := ["omnibus/ident.greatest"], apart := false, laid := [("omnibus/ident.greatest", laid_omnibus_ident_greatest)], narrowed := true }
def EntryTellsUptoSaid : Prop := entryTellsUptoRow.holds Tryd.pinned (OpenSpec.upto entryTellsSpec)

/-- 'omnibuslaw06.EntryBack', WHERE WHAT IT READS IS OF BULK AT MOST 1048576: true; the input reads as it did. -/
def entryBackUptoRow : OpenClaim := { program := "ytdpoimomipdgjaadoor", sum := "3fe9edfa6817d93b7137f98b54f5033bfca808cbcfd5a370d2bd8a12ce7fc5e6", func := "omnibus/omnibuslaw06.EntryBack", spec := "entryBack", unfollowed := true, recurses := true, named := ["omnibus/ident.greatest"], apart := false, laid := [("omnibus/ident.greatest", laid_omnibus_ident_greatest)], narrowed := true }
def EntryBackUptoSaid : Prop := entryBackUptoRow.holds Tryd.pinned (OpenSpec.upto entryBackSpec)

/-- 'omnibuslaw06.EntryMembers', WHERE WHAT IT READS IS OF BULK AT MOST 1048576: true; the input reads as it did. -/
def entryMembersUptoRow : OpenClaim := { program := "ytdpoimomipdgjaadoor", sum := "3fe9edfa6817d93b7137f98b54f5033bfca808cbcfd5a370d2bd8a12ce7fc5e6", func := "omnibus/omnibuslaw06.EntryMembers", spec := "entryMembers", unfollowed := true, recurses := true, named := ["omnibus/ident.greatest"], apart := false, laid := [("omnibus/ident.greatest", laid_omnibus_ident_greatest)], narrowed := true }
def EntryMembersUptoSaid : Prop := entryMembersUptoRow.holds Tryd.pinned (OpenSpec.upto entryMembersSpec)

/-- 'omnibuslaw06.EntryLengths', WHERE WHAT IT READS IS OF BULK AT MOST 1048576: true; the input reads as it did. -/
def entryLengthsUptoRow : OpenClaim := { program := "ytdpoimomipdgjaadoor", sum := "3fe9edfa6817d93b7137f98b54f5033bfca808cbcfd5a370d2bd8a12ce7fc5e6", func := "omnibus/omnibuslaw06.EntryLengths", spec := "entryLengths", unfollowed := true, recurses := true, named := ["omnibus/ident.greatest"], apart := false, laid := [("omnibus/ident.greatest", laid_omnibus_ident_greatest)], narrowed := true }
def EntryLengthsUptoSaid : Prop := entryLengthsUptoRow.holds Tryd.pinned (OpenSpec.upto entryLengthsSpec)

/-- 'omnibuslaw06.EntryOdd', WHERE WHAT IT READS IS OF BULK AT MOST 1048576: true; the input reads as it did. -/
def entryOddUptoRow : OpenClaim := { program := "ytdpoimomipdgjaadoor", sum := "3fe9edfa6817d93b7137f98b54f5033bfca808cbcfd5a370d2bd8a12ce7fc5e6", func := "omnibus/omnibuslaw06.EntryOdd", spec := "entryOdd", unfollowed := true, recurses := true, named := ["omnibus/ident.greatest"], apart := false, laid := [("omnibus/ident.greatest", laid_omnibus_ident_greatest)], narrowed := true }
def EntryOddUptoSaid : Prop := entryOddUptoRow.holds Tryd.pinned (OpenSpec.upto entryOddSpec)

/-- 'omnibuslaw06.EntryRows', WHERE WHAT IT READS IS OF BULK AT MOST 1048576: true; the input reads as it did. -/
def entryRowsUptoRow : OpenClaim := { program := "ytdpoimomipdgjaadoor", sum := "3fe9edfa6817d93b7137f98b54f5033bfca808cbcfd5a370d2bd8a12ce7fc5e6", func := "omnibus/omnibuslaw06.EntryRows", spec := "entryRows", unfollowed := true, recurses := true, named := ["omnibus/ident.greatest"], apart := false, laid := [("omnibus/ident.greatest", laid_omnibus_ident_greatest)], narrowed := true }
def EntryRowsUptoSaid : Prop := entryRowsUptoRow.holds Tryd.pinned (OpenSpec.upto entryRowsSpec)

end Rows
end Go.Proofs.YtdpoimomipdgjaaDoor

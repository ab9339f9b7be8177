/-
  No cell of these rows narrows 'for every input' (looked for: loops, veiled, ifaces, maps, wideKeys, modest, calm, conditions, laid).
  DERIVED. THE GIVEN ROWS OF THIS SEAT. 6 by the template 'for every input the law returns true; each argument reads behind the call as it read before'; 0 by the template 'total and deterministic' (their statements: YtnhgnidpoiolgaaTotals.lean).
  GIVEN WITH THE SEED: the statements are not yours to turn. If you find one false, say at which input.
  Laid BY PROGRAM, IN A SANDBOX (cutbox-rows.mjs): the forced cells as the released guide's own fill.sh prints them over the translation e10586a5ff3b93a2… (all of the seat's roots in one cut). By AI agents, Wed Nov 11 2026. No macro, syntax, notation, axiom, sorry.
-/
import Derived.Test.YtnhgnidpoiolgaaChecked
import GoSem.Claim
import GoSem.ClaimJoined
import GoSem.ClaimMapViews
import Derived.JoinedTies
import Derived.KernelRfl
namespace Go.Proofs.Ytnhgnidpoiolgaa
/- THE CELL 'sum', in the pinned program and in every row, IS THE sha256 OF THE DUMP (.gsa) THAT YtnhgnidpoiolgaaProg.lean LOADS. Nothing in Lean hashes anything: it is a label: what it is worth is what the hold of that sum in a sandbox is worth. -/
noncomputable def Try.pinned : Pinned := { name := "ytnhgnidpoiolgaa", sum := "e10586a5ff3b93a229592f0b85834a84090b04a30069ad4989b4520e9af9a04c", checked := Try.checked }
namespace Rows
def none {H : Type} : Left H := { results := [], args := [] }

/-- 'omnibuslaw08.SchedTells': WHATEVER THE INPUT: true; the input reads as it did. -/
def schedTellsSpec : ChangeSpec := { name := "schedTells", fn := fun _ => fun
  | [d1, d2, d3, d4, d5, d6, d7, d8] => { results := [.lit (.bool true)], args := [d1, d2, d3, d4, d5, d6, d7, d8] }
  | _ => none }
def schedTellsRow : OpenClaim := { program := "ytnhgnidpoiolgaa", sum := "e10586a5ff3b93a229592f0b85834a84090b04a30069ad4989b4520e9af9a04c", func := "omnibus/omnibuslaw08.SchedTells", spec := "schedTells", unfollowed := true, recurses := true, apart := false }
def SchedTellsSaid : Prop := schedTellsRow.holds Try.pinned (OpenSpec.ofChange schedTellsSpec)

/-- ITS FALSE NEIGHBOUR: 'it returns false'. Refute it at one input. -/
def schedTellsWrong : ChangeSpec := { name := "schedTells", fn := fun _ => fun
  | [d1, d2, d3, d4, d5, d6, d7, d8] => { results := [.lit (.bool false)], args := [d1, d2, d3, d4, d5, d6, d7, d8] }
  | _ => none }
def SchedTellsWrongFalsely : Prop := schedTellsRow.holds Try.pinned (OpenSpec.ofChange schedTellsWrong)

/-- 'omnibuslaw08.SchedBack': WHATEVER THE INPUT: true; the input reads as it did. -/
def schedBackSpec : ChangeSpec := { name := "schedBack", fn := fun _ => fun
  | [d1, d2, d3, d4, d5] => { results := [.lit (.bool true)], args := [d1, d2, d3, d4, d5] }
  | _ => none }
def schedBackRow : OpenClaim := { program := "ytnhgnidpoiolgaa", sum := "e10586a5ff3b93a229592f0b85834a84090b04a30069ad4989b4520e9af9a04c", func := "omnibus/omnibuslaw08.SchedBack", spec := "schedBack", unfollowed := true, recurses := true, apart := false }
def SchedBackSaid : Prop := schedBackRow.holds Try.pinned (OpenSpec.ofChange schedBackSpec)

/-- ITS FALSE NEIGHBOUR: 'it returns false'. Refute it at one input. -/
def schedBackWrong : ChangeSpec := { name := "schedBack", fn := fun _ => fun
  | [d1, d2, d3, d4, d5] => { results := [.lit (.bool false)], args := [d1, d2, d3, d4, d5] }
  | _ => none }
def SchedBackWrongFalsely : Prop := schedBackRow.holds Try.pinned (OpenSpec.ofChange schedBackWrong)

/-- 'omnibuslaw08.SchedTurns': WHATEVER THE INPUT: true; the input reads as it did. -/
def schedTurnsSpec : ChangeSpec := { name := "schedTurns", fn := fun _ => fun
  | [d1, d2, d3, d4, d5] => { results := [.lit (.bool true)], args := [d1, d2, d3, d4, d5] }
  | _ => none }
def schedTurnsRow : OpenClaim := { program := "ytnhgnidpoiolgaa", sum := "e10586a5ff3b93a229592f0b85834a84090b04a30069ad4989b4520e9af9a04c", func := "omnibus/omnibuslaw08.SchedTurns", spec := "schedTurns", unfollowed := true, recurses := true, apart := false }
def SchedTurnsSaid : Prop := schedTurnsRow.holds Try.pinned (OpenSpec.ofChange schedTurnsSpec)

/-- ITS FALSE NEIGHBOUR: 'it returns false'. Refute it at one input. -/
def schedTurnsWrong : ChangeSpec := { name := "schedTurns", fn := fun _ => fun
  | [d1, d2, d3, d4, d5] => { results := [.lit (.bool false)], args := [d1, d2, d3, d4, d5] }
  | _ => none }
def SchedTurnsWrongFalsely : Prop := schedTurnsRow.holds Try.pinned (OpenSpec.ofChange schedTurnsWrong)

/-- 'omnibuslaw08.SchedLater': WHATEVER THE INPUT: true; the input reads as it did. -/
def schedLaterSpec : ChangeSpec := { name := "schedLater", fn := fun _ => fun
  | [d1, d2, d3, d4, d5, d6, d7] => { results := [.lit (.bool true)], args := [d1, d2, d3, d4, d5, d6, d7] }
  | _ => none }
def schedLaterRow : OpenClaim := { program := "ytnhgnidpoiolgaa", sum := "e10586a5ff3b93a229592f0b85834a84090b04a30069ad4989b4520e9af9a04c", func := "omnibus/omnibuslaw08.SchedLater", spec := "schedLater", unfollowed := true, recurses := true, apart := false }
def SchedLaterSaid : Prop := schedLaterRow.holds Try.pinned (OpenSpec.ofChange schedLaterSpec)

/-- ITS FALSE NEIGHBOUR: 'it returns false'. Refute it at one input. -/
def schedLaterWrong : ChangeSpec := { name := "schedLater", fn := fun _ => fun
  | [d1, d2, d3, d4, d5, d6, d7] => { results := [.lit (.bool false)], args := [d1, d2, d3, d4, d5, d6, d7] }
  | _ => none }
def SchedLaterWrongFalsely : Prop := schedLaterRow.holds Try.pinned (OpenSpec.ofChange schedLaterWrong)

/-- 'omnibuslaw08.SchedAll': WHATEVER THE INPUT: true; the input reads as it did. -/
def schedAllSpec : ChangeSpec := { name := "schedAll", fn := fun _ => fun
  | [d1, d2, d3, d4, d5] => { results := [.lit (.bool true)], args := [d1, d2, d3, d4, d5] }
  | _ => none }
def schedAllRow : OpenClaim := { program := "ytnhgnidpoiolgaa", sum := "e10586a5ff3b93a229592f0b85834a84090b04a30069ad4989b4520e9af9a04c", func := "omnibus/omnibuslaw08.SchedAll", spec := "schedAll", unfollowed := true, recurses := true, apart := false }
def SchedAllSaid : Prop := schedAllRow.holds Try.pinned (OpenSpec.ofChange schedAllSpec)

/-- ITS FALSE NEIGHBOUR: 'it returns false'. Refute it at one input. -/
def schedAllWrong : ChangeSpec := { name := "schedAll", fn := fun _ => fun
  | [d1, d2, d3, d4, d5] => { results := [.lit (.bool false)], args := [d1, d2, d3, d4, d5] }
  | _ => none }
def SchedAllWrongFalsely : Prop := schedAllRow.holds Try.pinned (OpenSpec.ofChange schedAllWrong)

/-- 'omnibuslaw08.SchedOdd': WHATEVER THE INPUT: true; the input reads as it did. -/
def schedOddSpec : ChangeSpec := { name := "schedOdd", fn := fun _ => fun
  | [d1, d2, d3, d4, d5] => { results := [.lit (.bool true)], args := [d1, d2, d3, d4, d5] }
  | _ => none }
def schedOddRow : OpenClaim := { program := "ytnhgnidpoiolgaa", sum := "e10586a5ff3b93a229592f0b85834a84090b04a30069ad4989b4520e9af9a04c", func := "omnibus/omnibuslaw08.SchedOdd", spec := "schedOdd", unfollowed := true, recurses := true, apart := false }
def SchedOddSaid : Prop := schedOddRow.holds Try.pinned (OpenSpec.ofChange schedOddSpec)

/-- ITS FALSE NEIGHBOUR: 'it returns false'. Refute it at one input. -/
def schedOddWrong : ChangeSpec := { name := "schedOdd", fn := fun _ => fun
  | [d1, d2, d3, d4, d5] => { results := [.lit (.bool false)], args := [d1, d2, d3, d4, d5] }
  | _ => none }
def SchedOddWrongFalsely : Prop := schedOddRow.holds Try.pinned (OpenSpec.ofChange schedOddWrong)

/- THE SECOND FORM. 'bulk': how many values and letters a reading holds, each counted each time it is reached (what is shared counts as often as it is met; a slice's spare places count too). A statement '..UptoSaid' is the law's where the arguments, and the package variables that the reading takes, are together of bulk at most 1048576: NARROWER than '..Said'. Prove '..Said' where nothing that the law and all that it calls make is longer than what came in: it says more and counts as full. Else prove '..UptoSaid'. A law counts once. -/
mutual
def uptoBulk {H : Type} : DataW H → Nat
  | .lit (.string bytes) => bytes.length + 1
  | .lit _ => 1
  | .nil => 1
  | .ptr d => uptoBulk d + 1
  | .slice elems spare => uptoBulkAll elems + uptoBulkAll spare + 1
  | .agg parts => uptoBulkAll parts + 1
  | .iface _ d => uptoBulk d + 1
  | .map entries => uptoBulkEntries entries + 1
  | .held _ => 1
def uptoBulkAll {H : Type} : List (DataW H) → Nat
  | [] => 0
  | d :: r => uptoBulk d + uptoBulkAll r
def uptoBulkEntries {H : Type} : List (Lit × DataW H) → Nat
  | [] => 0
  | x :: r => uptoBulkEntry x + uptoBulkEntries r
def uptoBulkEntry {H : Type} : Lit × DataW H → Nat
  | (.string bytes, d) => bytes.length + uptoBulk d + 1
  | (_, d) => uptoBulk d + 1
 end
def uptoSmall : (H : Type) → List (DataW H) → Bool := fun _ ds => decide (uptoBulkAll ds ≤ 1048576)
def OpenSpec.upto (s : _root_.Go.ChangeSpec) : _root_.Go.OpenSpec := { _root_.Go.OpenSpec.ofChange s with cond := some uptoSmall }

/-- 'omnibuslaw08.SchedTells', WHERE WHAT IT READS IS OF BULK AT MOST 1048576: true; the input reads as it did. -/
def schedTellsUptoRow : OpenClaim := { program := "ytnhgnidpoiolgaa", sum := "e10586a5ff3b93a229592f0b85834a84090b04a30069ad4989b4520e9af9a04c", func := "omnibus/omnibuslaw08.SchedTells", spec := "schedTells", unfollowed := true, recurses := true, apart := false, narrowed := true }
def SchedTellsUptoSaid : Prop := schedTellsUptoRow.holds Try.pinned (OpenSpec.upto schedTellsSpec)

/-- 'omnibuslaw08.SchedBack', WHERE WHAT IT READS IS OF BULK AT MOST 1048576: true; the input reads as it did. -/
def schedBackUptoRow : OpenClaim := { program := "ytnhgnidpoiolgaa", sum := "e10586a5ff3b93a229592f0b85834a84090b04a30069ad4989b4520e9af9a04c", func := "omnibus/omnibuslaw08.SchedBack", spec := "schedBack", unfollowed := true, recurses := true, apart := false, narrowed := true }
def SchedBackUptoSaid : Prop := schedBackUptoRow.holds Try.pinned (OpenSpec.upto schedBackSpec)

/-- 'omnibuslaw08.SchedTurns', WHERE WHAT IT READS IS OF BULK AT MOST 1048576: true; the input reads as it did. -/
def schedTurnsUptoRow : OpenClaim := { program := "ytnhgnidpoiolgaa", sum := "e10586a5ff3b93a229592f0b85834a84090b04a30069ad4989b4520e9af9a04c", func := "omnibus/omnibuslaw08.SchedTurns", spec := "schedTurns", unfollowed := true, recurses := true, apart := false, narrowed := true }
def SchedTurnsUptoSaid : Prop := schedTurnsUptoRow.holds Try.pinned (OpenSpec.upto schedTurnsSpec)

/-- 'omnibuslaw08.SchedLater', WHERE WHAT IT READS IS OF BULK AT MOST 1048576: true; the input reads as it did. -/
def schedLaterUptoRow : OpenClaim := { program := "ytnhgnidpoiolgaa", sum := "e10586a5ff3b93a229592f0b85834a84090b04a30069ad4989b4520e9af9a04c", func := "omnibus/omnibuslaw08.SchedLater", spec := "schedLater", unfollowed := true, recurses := true, apart := false, narrowed := true }
def SchedLaterUptoSaid : Prop := schedLaterUptoRow.holds Try.pinned (OpenSpec.upto schedLaterSpec)

/-- 'omnibuslaw08.SchedAll', WHERE WHAT IT READS IS OF BULK AT MOST 1048576: true; the input reads as it did. -/
def schedAllUptoRow : OpenClaim := { program := "ytnhgnidpoiolgaa", sum := "e10586a5ff3b93a229592f0b85834a84090b04a30069ad4989b4520e9af9a04c", func := "omnibus/omnibuslaw08.SchedAll", spec := "schedAll", unfollowed := true, recurses := true, apart := false, narrowed := true }
def SchedAllUptoSaid : Prop := schedAllUptoRow.holds Try.pinned (OpenSpec.upto schedAllSpec)

/-- 'omnibuslaw08.SchedOdd', WHERE WHAT IT READS IS OF BULK AT MOST 1048576: true; the input reads as it did. -/
def schedOddUptoRow : OpenClaim := { program := "ytnhgnidpoiolgaa", sum := "e10586a5ff3b93a229592f0b85834a84090b04a30069ad4989b4520e9af9a04c", func := "omnibus/omnibuslaw08.SchedOdd", spec := "schedOdd", unfollowed := true, recurses := true, apart := false, narrowed := true }
def SchedOddUptoSaid : Prop := schedOddUptoRow.holds Try.pinned (OpenSpec.upto schedOddSpec)

end Rows
end Go.Proofs.Ytnhgnidpoiolgaa

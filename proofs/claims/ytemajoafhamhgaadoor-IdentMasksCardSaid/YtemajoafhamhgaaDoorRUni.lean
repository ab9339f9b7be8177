/- The makes of elements that the program's slices have, as plain data, and their types' numbers. -/
import Derived.Test.YtemajoafhamhgaaDoorRx
import Derived.Test.YtemajoafhamhgaaDoorProg
namespace Go.Proofs.YtemajoafhamhgaaDoor.X
open Go Go.RX Go.RowKit Go.Proofs

structure Filter where
  ext : Bool
  code : Int
  mask : Int
structure Msg where
  ext : Bool
  id : Int
  sender : Int
  inc : Int
  seq : Int
  number : Int
  data : ByteArray
structure Slot where
  node : Int
  ticks : Int
structure Piece where
  seq : Int
  at_ : Int
  of_ : Int
  bytes : ByteArray
structure Entry where
  term : Int
  epoch : Int
  members : Int
  incs : List Int
  msgs : List Msg
structure Fault where
  kind : Int
  at_ : Int
  mask : Int
structure A2 where
  a : Int
  b : Int
structure A3 where
  a : Int
  b : Int
  c : Int
structure A4 where
  a : Int
  b : Int
  c : Int
  d : Int
structure A6 where
  a : Int
  b : Int
  c : Int
  d : Int
  e : Int
  f : Int
structure Fifo where
  limit : Int
  lost : Int
  msgs : List Msg
structure Plan where
  slots : List Slot
  cycle : Int
structure Spot where
  cycle : Int
  round : Int
  slot : Int
  tick : Int
structure Gather where
  inc : Int
  seq : Int
  parts : List ByteArray
structure Ballot where
  term : Int
  vote : Int
  role : Int
  grants : Int
  wait : Int
  leader : Int

inductive Kind where
  | int | bool | u8 | str | filter | msg | slot | piece | entry | fault | a2 | a3 | a4 | a6 | fifo | plan | spot | gather | ballot | filters | a3s | ints
  deriving DecidableEq
def KT : Kind → Type
  | .int => Int
  | .bool => Bool
  | .u8 => Int
  | .str => ByteArray
  | .filter => Filter
  | .msg => Msg
  | .slot => Slot
  | .piece => Piece
  | .entry => Entry
  | .fault => Fault
  | .a2 => A2
  | .a3 => A3
  | .a4 => A4
  | .a6 => A6
  | .fifo => Fifo
  | .plan => Plan
  | .spot => Spot
  | .gather => Gather
  | .ballot => Ballot
  | .filters => List Filter
  | .a3s => List A3
  | .ints => List Int
abbrev Cell := CV Kind KT
def encMsg (x : Msg) : List Cell := [.v (.bool x.ext), .v (.int .i64 x.id), .v (.int .i64 x.sender), .v (.int .i64 x.inc), .v (.int .i64 x.seq), .v (.int .i64 x.number), .v (.string x.data)]
def enc : (c : Kind) → KT c → List Cell
  | .int, (x : Int) => [.v (.int .i64 x)]
  | .bool, (x : Bool) => [.v (.bool x)]
  | .u8, (x : Int) => [.v (.int .u8 x)]
  | .str, (x : ByteArray) => [.v (.string x)]
  | .filter, (x : Filter) => [.v (.bool x.ext), .v (.int .i64 x.code), .v (.int .i64 x.mask)]
  | .msg, (x : Msg) => [.v (.bool x.ext), .v (.int .i64 x.id), .v (.int .i64 x.sender), .v (.int .i64 x.inc), .v (.int .i64 x.seq), .v (.int .i64 x.number), .v (.string x.data)]
  | .slot, (x : Slot) => [.v (.int .i64 x.node), .v (.int .i64 x.ticks)]
  | .piece, (x : Piece) => [.v (.int .i64 x.seq), .v (.int .i64 x.at_), .v (.int .i64 x.of_), .v (.string x.bytes)]
  | .entry, (x : Entry) => [.v (.int .i64 x.term), .v (.int .i64 x.epoch), .v (.int .i64 x.members), .sl .int x.incs, .sl .msg x.msgs]
  | .fault, (x : Fault) => [.v (.int .i64 x.kind), .v (.int .i64 x.at_), .v (.int .i64 x.mask)]
  | .a2, (x : A2) => [.v (.int .i64 x.a), .v (.int .i64 x.b)]
  | .a3, (x : A3) => [.v (.int .i64 x.a), .v (.int .i64 x.b), .v (.int .i64 x.c)]
  | .a4, (x : A4) => [.v (.int .i64 x.a), .v (.int .i64 x.b), .v (.int .i64 x.c), .v (.int .i64 x.d)]
  | .a6, (x : A6) => [.v (.int .i64 x.a), .v (.int .i64 x.b), .v (.int .i64 x.c), .v (.int .i64 x.d), .v (.int .i64 x.e), .v (.int .i64 x.f)]
  | .fifo, (x : Fifo) => [.v (.int .i64 x.limit), .v (.int .i64 x.lost), .sl .msg x.msgs]
  | .plan, (x : Plan) => [.sl .slot x.slots, .v (.int .i64 x.cycle)]
  | .spot, (x : Spot) => [.v (.int .i64 x.cycle), .v (.int .i64 x.round), .v (.int .i64 x.slot), .v (.int .i64 x.tick)]
  | .gather, (x : Gather) => [.v (.int .i64 x.inc), .v (.int .i64 x.seq), .sl .str x.parts]
  | .ballot, (x : Ballot) => [.v (.int .i64 x.term), .v (.int .i64 x.vote), .v (.int .i64 x.role), .v (.int .i64 x.grants), .v (.int .i64 x.wait), .v (.int .i64 x.leader)]
  | .filters, (x : List Filter) => [.sl .filter x]
  | .a3s, (x : List A3) => [.sl .a3 x]
  | .ints, (x : List Int) => [.sl .int x]
def back (c : Kind) (l : List Cell) : Option (KT c) :=
  match c with
  | .int => match l with | [.v (.int .i64 x)] => some x | _ => none
  | .bool => match l with | [.v (.bool x)] => some x | _ => none
  | .u8 => match l with | [.v (.int .u8 x)] => some x | _ => none
  | .str => match l with | [.v (.string x)] => some x | _ => none
  | .filter => match l with | [.v (.bool a), .v (.int .i64 b), .v (.int .i64 c)] => some (⟨a, b, c⟩ : Filter) | _ => none
  | .msg => match l with | [.v (.bool a), .v (.int .i64 b), .v (.int .i64 c), .v (.int .i64 d), .v (.int .i64 e), .v (.int .i64 f), .v (.string g)] => some (⟨a, b, c, d, e, f, g⟩ : Msg) | _ => none
  | .slot => match l with | [.v (.int .i64 a), .v (.int .i64 b)] => some (⟨a, b⟩ : Slot) | _ => none
  | .piece => match l with | [.v (.int .i64 a), .v (.int .i64 b), .v (.int .i64 c), .v (.string d)] => some (⟨a, b, c, d⟩ : Piece) | _ => none
  | .entry => match l with | [.v (.int .i64 a), .v (.int .i64 b), .v (.int .i64 c), .sl .int d, .sl .msg e] => some (⟨a, b, c, d, e⟩ : Entry) | _ => none
  | .fault => match l with | [.v (.int .i64 a), .v (.int .i64 b), .v (.int .i64 c)] => some (⟨a, b, c⟩ : Fault) | _ => none
  | .a2 => match l with | [.v (.int .i64 a), .v (.int .i64 b)] => some (⟨a, b⟩ : A2) | _ => none
  | .a3 => match l with | [.v (.int .i64 a), .v (.int .i64 b), .v (.int .i64 c)] => some (⟨a, b, c⟩ : A3) | _ => none
  | .a4 => match l with | [.v (.int .i64 a), .v (.int .i64 b), .v (.int .i64 c), .v (.int .i64 d)] => some (⟨a, b, c, d⟩ : A4) | _ => none
  | .a6 => match l with | [.v (.int .i64 a), .v (.int .i64 b), .v (.int .i64 c), .v (.int .i64 d), .v (.int .i64 e), .v (.int .i64 f)] => some (⟨a, b, c, d, e, f⟩ : A6) | _ => none
  | .fifo => match l with | [.v (.int .i64 a), .v (.int .i64 b), .sl .msg c] => some (⟨a, b, c⟩ : Fifo) | _ => none
  | .plan => match l with | [.sl .slot a, .v (.int .i64 b)] => some (⟨a, b⟩ : Plan) | _ => none
  | .spot => match l with | [.v (.int .i64 a), .v (.int .i64 b), .v (.int .i64 c), .v (.int .i64 d)] => some (⟨a, b, c, d⟩ : Spot) | _ => none
  | .gather => match l with | [.v (.int .i64 a), .v (.int .i64 b), .sl .str c] => some (⟨a, b, c⟩ : Gather) | _ => none
  | .ballot => match l with | [.v (.int .i64 a), .v (.int .i64 b), .v (.int .i64 c), .v (.int .i64 d), .v (.int .i64 e), .v (.int .i64 f)] => some (⟨a, b, c, d, e, f⟩ : Ballot) | _ => none
  | .filters => match l with | [.sl .filter a] => some (show List Filter from a) | _ => none
  | .a3s => match l with | [.sl .a3 a] => some (show List A3 from a) | _ => none
  | .ints => match l with | [.sl .int a] => some (show List Int from a) | _ => none
def dfltMsg : Msg := ⟨false, 0, 0, 0, 0, 0, .empty⟩
def dflt : (c : Kind) → KT c
  | .int => (0 : Int)
  | .bool => false
  | .u8 => (0 : Int)
  | .str => ByteArray.empty
  | .filter => (⟨false, 0, 0⟩ : Filter)
  | .msg => (⟨false, 0, 0, 0, 0, 0, .empty⟩ : Msg)
  | .slot => (⟨0, 0⟩ : Slot)
  | .piece => (⟨0, 0, 0, .empty⟩ : Piece)
  | .entry => (⟨0, 0, 0, [], []⟩ : Entry)
  | .fault => (⟨0, 0, 0⟩ : Fault)
  | .a2 => (⟨0, 0⟩ : A2)
  | .a3 => (⟨0, 0, 0⟩ : A3)
  | .a4 => (⟨0, 0, 0, 0⟩ : A4)
  | .a6 => (⟨0, 0, 0, 0, 0, 0⟩ : A6)
  | .fifo => (⟨0, 0, []⟩ : Fifo)
  | .plan => (⟨[], 0⟩ : Plan)
  | .spot => (⟨0, 0, 0, 0⟩ : Spot)
  | .gather => (⟨0, 0, []⟩ : Gather)
  | .ballot => (⟨0, 0, 0, 0, 0, 0⟩ : Ballot)
  | .filters => ([] : List Filter)
  | .a3s => ([] : List A3)
  | .ints => ([] : List Int)
def ksize : Kind → Nat
  | .int | .bool | .u8 | .str | .filters | .a3s | .ints => 1
  | .filter | .fault | .a3 | .fifo | .gather => 3
  | .msg => 7
  | .slot | .a2 | .plan => 2
  | .piece | .a4 | .spot => 4
  | .entry => 5
  | .a6 | .ballot => 6
theorem back_enc (c : Kind) (l : List Cell) (x : KT c) (h : back c l = some x) : enc c x = l := by
  cases c <;> (simp only [back] at h; split at h <;> first | (cases h; rfl) | cases h | contradiction)
def U : Uni where
  C := Kind
  dec := inferInstance
  T := KT
  dflt := dflt
  size := ksize
  enc := enc
  back := back
  backEnc := back_enc
  encSize := fun c x => by cases c <;> rfl
/-- The elements' types. -/
def tyList : List (Nat × Kind) := [(3, .int), (4, .bool), (5, .u8), (9, .str), (40, .filter), (1000000, .msg), (1000000, .slot), (1000000, .piece), (1000000, .entry), (1000000, .fault), (60, .a2), (49, .a3), (1000000, .a4), (1000000, .a6), (1000000, .fifo), (1000000, .plan), (1000000, .spot), (1000000, .gather), (1000000, .ballot), (37, .filters), (1000000, .a3s), (1000000, .ints)]
def ty (t : TypeId) : Option Kind := RX.look t tyList

/-! ### Small words -/
theorem wf64 {n : Int} (h : (Lit.int .i64 n).wf = true) : -9223372036854775808 ≤ n ∧ n ≤ 9223372036854775807 := by
  simp [Lit.wf, IntKind.min, IntKind.max, IntKind.bits, IntKind.signed] at h
  omega
theorem w64 {x : Int} (h : -9223372036854775808 ≤ x ∧ x ≤ 9223372036854775807) : wrap64 x = x := by unfold wrap64; omega
theorem wr64 (x : Int) : IntKind.wrap IntKind.i64 x = wrap64 x := by rw [IntKind.wrap_i64]; unfold wrap64; omega
def in64 (n : Int) : Prop := -9223372036854775808 ≤ n ∧ n ≤ 9223372036854775807
end Go.Proofs.YtemajoafhamhgaaDoor.X

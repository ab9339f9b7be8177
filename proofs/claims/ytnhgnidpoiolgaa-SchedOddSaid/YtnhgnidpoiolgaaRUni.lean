/- The makes of elements that the program's slices have, as plain data, and their types' numbers. -/
import Derived.Test.YtnhgnidpoiolgaaRx
import Derived.Test.YtnhgnidpoiolgaaProg
namespace Go.Proofs.Ytnhgnidpoiolgaa.X
open Go Go.RX Go.RowKit Go.Proofs

structure Filter where
  ext : Bool
  code : Int
  mask : Int
structure Msg where
  ext : Bool
  id : Int
  sender : Int
  inc : Int
  seq : Int
  number : Int
  data : ByteArray
  deriving DecidableEq
structure Slot where
  node : Int
  ticks : Int
structure Piece where
  seq : Int
  at_ : Int
  of_ : Int
  bytes : ByteArray
  deriving DecidableEq
structure Entry where
  term : Int
  epoch : Int
  members : Int
  incs : List Int
  msgs : List Msg
structure Fault where
  kind : Int
  at_ : Int
  mask : Int
structure A2 where
  a : Int
  b : Int
structure A3 where
  a : Int
  b : Int
  c : Int
structure A4 where
  a : Int
  b : Int
  c : Int
  d : Int
structure A6 where
  a : Int
  b : Int
  c : Int
  d : Int
  e : Int
  f : Int
structure Fifo where
  limit : Int
  lost : Int
  msgs : List Msg
structure Plan where
  slots : List Slot
  cycle : Int
structure Spot where
  cycle : Int
  round : Int
  slot : Int
  tick : Int
structure Gather where
  inc : Int
  seq : Int
  parts : List ByteArray
structure Ballot where
  term : Int
  vote : Int
  role : Int
  grants : Int
  wait : Int
  leader : Int

inductive Kind where
  | int | bool | u8 | str | filter | msg | slot | piece | entry | fault | a2 | a3 | a4 | a6 | fifo | plan | spot | gather | ballot | filters | a3s | ints
  deriving DecidableEq
def KT : Kind → Type
  | .int => Int
  | .bool => Bool
  | .u8 => Int
  | .str => ByteArray
  | .filter => Filter
  | .msg => Msg
  | .slot => Slot
  | .piece => Piece
  | .entry => Entry
  | .fault => Fault
  | .a2 => A2
  | .a3 => A3
  | .a4 => A4
  | .a6 => A6
  | .fifo => Fifo
  | .plan => Plan
  | .spot => Spot
  | .gather => Gather
  | .ballot => Ballot
  | .filters => List Filter
  | .a3s => List A3
  | .ints => List Int
abbrev Cell := CV Kind KT
def encMsg (x : Msg) : List Cell := [.v (.bool x.ext), .v (.int .i64 x.id), .v (.int .i64 x.sender), .v (.int .i64 x.inc), .v (.int .i64 x.seq), .v (.int .i64 x.number), .v (.string x.data)]
def enc : (c : Kind) → KT c → List Cell
  | .int, (x : Int) => [.v (.int .i64 x)]
  | .bool, (x : Bool) => [.v (.bool x)]
  | .u8, (x : Int) => [.v (.int .u8 x)]
  | .str, (x : ByteArray) => [.v (.string x)]
  | .filter, (x : Filter) => [.v (.bool x.ext), .v (.int .i64 x.code), .v (.int .i64 x.mask)]
  | .msg, (x : Msg) => [.v (.bool x.ext), .v (.int .i64 x.id), .v (.int .i64 x.sender), .v (.int .i64 x.inc), .v (.int .i64 x.seq), .v (.int .i64 x.number), .v (.string x.data)]
  | .slot, (x : Slot) => [.v (.int .i64 x.node), .v (.int .i64 x.ticks)]
  | .piece, (x : Piece) => [.v (.int .i64 x.seq), .v (.int .i64 x.at_), .v (.int .i64 x.of_), .v (.string x.bytes)]
  | .entry, (x : Entry) => [.v (.int .i64 x.term), .v (.int .i64 x.epoch), .v (.int .i64 x.members), .sl .int x.incs, .sl .msg x.msgs]
  | .fault, (x : Fault) => [.v (.int .i64 x.kind), .v (.int .i64 x.at_), .v (.int .i64 x.mask)]
  | .a2, (x : A2) => [.v (.int .i64 x.a), .v (.int .i64 x.b)]
  | .a3, (x : A3) => [.v (.int .i64 x.a), .v (.int .i64 x.b), .v (.int .i64 x.c)]
  | .a4, (x : A4) => [.v (.int .i64 x.a), .v (.int .i64 x.b), .v (.int .i64 x.c), .v (.int .i64 x.d)]
  | .a6, (x : A6) => [.v (.int .i64 x.a), .v (.int .i64 x.b), .v (.int .i64 x.c), .v (.int .i64 x.d), .v (.int .i64 x.e), .v (.int .i64 x.f)]
  | .fifo, (x : Fifo) => [.v (.int .i64 x.limit), .v (.int .i64 x.lost), .sl .msg x.msgs]
  | .plan, (x : Plan) => [.sl .slot x.slots, .v (.int .i64 x.cycle)]
  | .spot, (x : Spot) => [.v (.int .i64 x.cycle), .v (.int .i64 x.round), .v (.int .i64 x.slot), .v (.int .i64 x.tick)]
  | .gather, (x : Gather) => [.v (.int .i64 x.inc), .v (.int .i64 x.seq), .sl .str x.parts]
  | .ballot, (x : Ballot) => [.v (.int .i64 x.term), .v (.int .i64 x.vote), .v (.int .i64 x.role), .v (.int .i64 x.grants), .v (.int .i64 x.wait), .v (.int .i64 x.leader)]
  | .filters, (x : List Filter) => [.sl .filter x]
  | .a3s, (x : List A3) => [.sl .a3 x]
  | .ints, (x : List Int) => [.sl .int x]
def back (c : Kind) (l : List Cell) : Option (KT c) :=
  match c with
  | .int => match l with | [.v (.int .i64 x)] => some x | _ => none
  | .bool => match l with | [.v (.bool x)] => some x | _ => none
  | .u8 => match l with | [.v (.int .u8 x)] => some x | _ => none
  | .str => match l with | [.v (.string x)] => some x | _ => none
  | .filter => match l with | [.v (.bool a), .v (.int .i64 b), .v (.int .i64 c)] => some (⟨a, b, c⟩ : Filter) | _ => none
  | .msg => match l with | [.v (.bool a), .v (.int .i64 b), .v (.int .i64 c), .v (.int .i64 d), .v (.int .i64 e), .v (.int .i64 f), .v (.string g)] => some (⟨a, b, c, d, e, f, g⟩ : Msg) | _ => none
  | .slot => match l with | [.v (.int .i64 a), .v (.int .i64 b)] => some (⟨a, b⟩ : Slot) | _ => none
  | .piece => match l with | [.v (.int .i64 a), .v (.int .i64 b), .v (.int .i64 c), .v (.string d)] => some (⟨a, b, c, d⟩ : Piece) | _ => none
  | .entry => match l with | [.v (.int .i64 a), .v (.int .i64 b), .v (.int .i64 c), .sl .int d, .sl .msg e] => some (⟨a, b, c, d, e⟩ : Entry) | _ => none
  | .fault => match l with | [.v (.int .i64 a), .v (.int .i64 b), .v (.int .i64 c)] => some (⟨a, b, c⟩ : Fault) | _ => none
  | .a2 => match l with | [.v (.int .i64 a), .v (.int .i64 b)] => some (⟨a, b⟩ : A2) | _ => none
  | .a3 => match l with | [.v (.int .i64 a), .v (.int .i64 b), .v (.int .i64 c)] => some (⟨a, b, c⟩ : A3) | _ => none
  | .a4 => match l with | [.v (.int .i64 a), .v (.int .i64 b), .v (.int .i64 c), .v (.int .i64 d)] => some (⟨a, b, c, d⟩ : A4) | _ => none
  | .a6 => match l with | [.v (.int .i64 a), .v (.int .i64 b), .v (.int .i64 c), .v (.int .i64 d), .v (.int .i64 e), .v (.int .i64 f)] => some (⟨a, b, c, d, e, f⟩ : A6) | _ => none
  | .fifo => match l with | [.v (.int .i64 a), .v (.int .i64 b), .sl .msg c] => some (⟨a, b, c⟩ : Fifo) | _ => none
  | .plan => match l with | [.sl .slot a, .v (.int .i64 b)] => some (⟨a, b⟩ : Plan) | _ => none
  | .spot => match l with | [.v (.int .i64 a), .v (.int .i64 b), .v (.int .i64 c), .v (.int .i64 d)] => some (⟨a, b, c, d⟩ : Spot) | _ => none
  | .gather => match l with | [.v (.int .i64 a), .v (.int .i64 b), .sl .str c] => some (⟨a, b, c⟩ : Gather) | _ => none
  | .ballot => match l with | [.v (.int .i64 a), .v (.int .i64 b), .v (.int .i64 c), .v (.int .i64 d), .v (.int .i64 e), .v (.int .i64 f)] => some (⟨a, b, c, d, e, f⟩ : Ballot) | _ => none
  | .filters => match l with | [.sl .filter a] => some (show List Filter from a) | _ => none
  | .a3s => match l with | [.sl .a3 a] => some (show List A3 from a) | _ => none
  | .ints => match l with | [.sl .int a] => some (show List Int from a) | _ => none
def dfltMsg : Msg := ⟨false, 0, 0, 0, 0, 0, .empty⟩
def dflt : (c : Kind) → KT c
  | .int => (0 : Int)
  | .bool => false
  | .u8 => (0 : Int)
  | .str => ByteArray.empty
  | .filter => (⟨false, 0, 0⟩ : Filter)
  | .msg => (⟨false, 0, 0, 0, 0, 0, .empty⟩ : Msg)
  | .slot => (⟨0, 0⟩ : Slot)
  | .piece => (⟨0, 0, 0, .empty⟩ : Piece)
  | .entry => (⟨0, 0, 0, [], []⟩ : Entry)
  | .fault => (⟨0, 0, 0⟩ : Fault)
  | .a2 => (⟨0, 0⟩ : A2)
  | .a3 => (⟨0, 0, 0⟩ : A3)
  | .a4 => (⟨0, 0, 0, 0⟩ : A4)
  | .a6 => (⟨0, 0, 0, 0, 0, 0⟩ : A6)
  | .fifo => (⟨0, 0, []⟩ : Fifo)
  | .plan => (⟨[], 0⟩ : Plan)
  | .spot => (⟨0, 0, 0, 0⟩ : Spot)
  | .gather => (⟨0, 0, []⟩ : Gather)
  | .ballot => (⟨0, 0, 0, 0, 0, 0⟩ : Ballot)
  | .filters => ([] : List Filter)
  | .a3s => ([] : List A3)
  | .ints => ([] : List Int)
def ksize : Kind → Nat
  | .int | .bool | .u8 | .str | .filters | .a3s | .ints => 1
  | .filter | .fault | .a3 | .fifo | .gather => 3
  | .msg => 7
  | .slot | .a2 | .plan => 2
  | .piece | .a4 | .spot => 4
  | .entry => 5
  | .a6 | .ballot => 6
theorem back_enc (c : Kind) (l : List Cell) (x : KT c) (h : back c l = some x) : enc c x = l := by
  cases c <;> (simp only [back] at h; split at h <;> first | (cases h; rfl) | cases h | contradiction)
/-- Makes without slices in them. -/
def flatK : Kind → Bool
  | .entry | .fifo | .plan | .gather | .filters | .a3s | .ints => false
  | _ => true
def isV : Cell → Bool
  | .v _ => true
  | _ => false
theorem flat_ok (c : Kind) (x : KT c) (cv : Cell) (h : flatK c = true) (hm : cv ∈ enc c x) : ∃ v, cv = .v v := by
  have h1 : (enc c x).all isV = true := by cases c <;> first | rfl | cases h
  have h2 := List.all_eq_true.mp h1 cv hm
  cases cv with
  | v x => exact ⟨x, rfl⟩
  | sl c l => cases h2
def U : Uni where
  C := Kind
  dec := inferInstance
  T := KT
  dflt := dflt
  size := ksize
  enc := enc
  back := back
  backEnc := back_enc
  encSize := fun c x => by cases c <;> rfl
  u8 := .u8
  toI := fun x => x
  ofI := fun x => x
  u8enc := fun _ => rfl
  toOf := fun _ => rfl
  u8size := rfl
  flat := flatK
  flatOk := flat_ok
/-- The elements' types. -/
def tyList : List (Nat × Kind) := [(3, .int), (4, .bool), (5, .u8), (9, .str), (1000000, .filter), (1000000, .msg), (45, .slot), (1000000, .piece), (1000000, .entry), (1000000, .fault), (1000000, .a2), (1000000, .a3), (1000000, .a4), (1000000, .a6), (1000000, .fifo), (25, .plan), (27, .spot), (1000000, .gather), (1000000, .ballot), (1000000, .filters), (1000000, .a3s), (22, .ints)]
def ty (t : TypeId) : Option Kind := RX.look t tyList

/-! ### Small words -/
def d_int : Int := 0
def d_bool : Bool := false
def d_u8 : Int := 0
def d_str : ByteArray := ByteArray.empty
def d_filter : Filter := ⟨false, 0, 0⟩
def d_msg : Msg := dfltMsg
def d_slot : Slot := ⟨0, 0⟩
def d_piece : Piece := ⟨0, 0, 0, .empty⟩
def d_entry : Entry := ⟨0, 0, 0, [], []⟩
def d_fault : Fault := ⟨0, 0, 0⟩
def d_a2 : A2 := ⟨0, 0⟩
def d_a3 : A3 := ⟨0, 0, 0⟩
def d_a4 : A4 := ⟨0, 0, 0, 0⟩
def d_a6 : A6 := ⟨0, 0, 0, 0, 0, 0⟩
def d_fifo : Fifo := ⟨0, 0, []⟩
def d_plan : Plan := ⟨[], 0⟩
def d_spot : Spot := ⟨0, 0, 0, 0⟩
def d_gather : Gather := ⟨0, 0, []⟩
def d_ballot : Ballot := ⟨0, 0, 0, 0, 0, 0⟩
def d_filters : List Filter := []
def d_a3s : List A3 := []
def d_ints : List Int := []
theorem getD_at {α : Type} (l : List α) (k : Nat) (d : α) (h : k < l.length) : l.getD (Int.toNat (k : Int)) d = l[k] := by
  rw [Int.toNat_natCast, List.getD_eq_getElem?_getD, List.getElem?_eq_getElem h]; rfl
theorem wf64 {n : Int} (h : (Lit.int .i64 n).wf = true) : -9223372036854775808 ≤ n ∧ n ≤ 9223372036854775807 := by
  simp [Lit.wf, IntKind.min, IntKind.max, IntKind.bits, IntKind.signed] at h
  omega
theorem w64 {x : Int} (h : -9223372036854775808 ≤ x ∧ x ≤ 9223372036854775807) : wrap64 x = x := by unfold wrap64; omega
theorem wr64 (x : Int) : IntKind.wrap IntKind.i64 x = wrap64 x := by rw [IntKind.wrap_i64]; unfold wrap64; omega
theorem ba_beq (s t : ByteArray) : (s == t) = decide (s = t) := by
  obtain ⟨a⟩ := s
  obtain ⟨b⟩ := t
  have h : (ByteArray.mk a == ByteArray.mk b) = (a == b) := rfl
  rw [h]
  by_cases c : a = b
  · subst c; simp
  · rw [decide_eq_false (fun q => c (by cases q; rfl))]; simpa using c
theorem ba_refl (s : ByteArray) : (s == s) = true := by rw [ba_beq]; simp
/-- A text's bytes, as a slice has them. -/
def bytesI (s : ByteArray) : List Int := s.data.toList.map fun x => (x.toNat : Int)
theorem bytesI_len (s : ByteArray) : (bytesI s).length = s.size := by simp [bytesI]
theorem bytesI_at (s : ByteArray) (k : Nat) (d : Int) (h : k < s.size) : (bytesI s).getD (Int.toNat (k : Int)) d = bt s (k : Int) := by
  have hks : k < s.data.size := h
  rw [getD_at (bytesI s) k _ (by rw [bytesI_len]; exact h)]
  unfold bt
  rw [Int.toNat_natCast, dif_pos h]
  simp [bytesI]
  rfl
def in64 (n : Int) : Prop := -9223372036854775808 ≤ n ∧ n ≤ 9223372036854775807
/-- What is known of an argument's elements. -/
def okMsg (x : Msg) : Prop := in64 x.id ∧ in64 x.sender ∧ in64 x.inc ∧ in64 x.seq ∧ in64 x.number ∧ x.data.size ≤ maxLen
def okSlot (x : Slot) : Prop := in64 x.node ∧ in64 x.ticks
def okK : (c : Kind) → KT c → Prop
  | .int, (x : Int) => in64 x
  | .bool, _ => True
  | .u8, (x : Int) => (Lit.int .u8 x).wf = true
  | .str, (x : ByteArray) => x.size ≤ maxLen
  | .filter, (x : Filter) => in64 x.code ∧ in64 x.mask
  | .msg, (x : Msg) => okMsg x
  | .slot, (x : Slot) => okSlot x
  | .piece, (x : Piece) => in64 x.seq ∧ in64 x.at_ ∧ in64 x.of_ ∧ x.bytes.size ≤ maxLen
  | .entry, (x : Entry) => in64 x.term ∧ in64 x.epoch ∧ in64 x.members ∧ (∀ y ∈ x.incs, in64 y) ∧ (∀ y ∈ x.msgs, okMsg y)
  | .fault, (x : Fault) => in64 x.kind ∧ in64 x.at_ ∧ in64 x.mask
  | .a2, (x : A2) => in64 x.a ∧ in64 x.b
  | .a3, (x : A3) => in64 x.a ∧ in64 x.b ∧ in64 x.c
  | .a4, (x : A4) => in64 x.a ∧ in64 x.b ∧ in64 x.c ∧ in64 x.d
  | .a6, (x : A6) => in64 x.a ∧ in64 x.b ∧ in64 x.c ∧ in64 x.d ∧ in64 x.e ∧ in64 x.f
  | .fifo, (x : Fifo) => in64 x.limit ∧ in64 x.lost ∧ (∀ y ∈ x.msgs, okMsg y)
  | .plan, (x : Plan) => (∀ y ∈ x.slots, okSlot y) ∧ in64 x.cycle
  | .spot, (x : Spot) => in64 x.cycle ∧ in64 x.round ∧ in64 x.slot ∧ in64 x.tick
  | .gather, (x : Gather) => in64 x.inc ∧ in64 x.seq ∧ (∀ y ∈ x.parts, y.size ≤ maxLen)
  | .ballot, (x : Ballot) => in64 x.term ∧ in64 x.vote ∧ in64 x.role ∧ in64 x.grants ∧ in64 x.wait ∧ in64 x.leader
  | .filters, _ => True
  | .a3s, (x : List A3) => ∀ y ∈ x, in64 y.a ∧ in64 y.b ∧ in64 y.c
  | .ints, (x : List Int) => ∀ y ∈ x, in64 y
end Go.Proofs.Ytnhgnidpoiolgaa.X

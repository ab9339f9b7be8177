/- Runs of Go functions over states that are told by numbers, truth values, texts and lists; each such run is proved to be the machine's. No condition beside those that each theorem states. -/
import Derived.WalkKit
import Derived.Below
import Derived.KernelRfl
import Derived.Laws.BytesArg
import Derived.Laws.ComplexArith
import Derived.Laws.StructEq
import Derived.Laws.Small
import Derived.RangeFuncRecord
import Derived.ChangeKeysEq
/- Symbolic runs of Go functions, read as plain propositions: what a run comes to (definitions alone; that the machine does so is proved in the texts that follow). -/
namespace Go.RX
open Go.RowKit

/-- A string's byte. -/
def bt (s : ByteArray) (i : Int) : Int := if h : i.toNat < s.size then ((s[i.toNat]'h).toNat : Int) else 0

/-- A cell of data: one value without addresses, or a slice of elements of a known make. -/
inductive CV (C : Type) (T : C → Type) where
  | v (x : Value)
  | sl (c : C) (l : List (T c))

/-- The makes of elements that slices have. -/
structure Uni where
  C : Type
  dec : DecidableEq C
  T : C → Type
  dflt : (c : C) → T c
  size : C → Nat
  enc : (c : C) → T c → List (CV C T)
  back : (c : C) → List (CV C T) → Option (T c)
  backEnc : ∀ c l x, back c l = some x → enc c x = l
  encSize : ∀ c x, (enc c x).length = size c
  u8 : C
  toI : T u8 → Int
  ofI : Int → T u8
  u8enc : ∀ x, enc u8 x = [.v (.int .u8 (toI x))]
  toOf : ∀ n, toI (ofI n) = n
  u8size : size u8 = 1
  flat : C → Bool := fun _ => false
  flatOk : ∀ c x cv, flat c = true → cv ∈ enc c x → ∃ v, cv = .v v := by intro _ _ _ h; cases h

inductive Atom where
  | v (x : Value)
  | ptr (id off : Nat)
  | el (fid i sz off : Nat)
  | sl (fid : Nat)
  | fn (f : Nat) (caps : List (Nat × Nat))
  | gl (g off : Nat)
  | av (id off n : Nat)
  | yl (id : Nat)
  | junk

inductive SV where
  | one (a : Atom)
  | agg (l : List Atom)
  | tup (l : List (Bool × List Atom))

/-- A temporary: what it holds, or what it holds if another one (d) is 'want'. -/
inductive TV where
  | pl (x : SV)
  | opt (d : Nat) (want : Bool) (x : SV)

structure Row (U : Uni) where
  c : U.C
  l : List (U.T c)
  own : Bool

/-- How a text is left. -/
inductive Ctl where
  | normal | ret | exit (id : Nat) | panic (v : SV) | goto (l : Nat)

/-- Where a range over a function stands; a row that is written in (its key: 1000000000 and the row's number). -/
inductive RS (U : Uni) where
  | ready | busy | done (c : Ctl) | row (c : U.C) (l : List (U.T c))

structure St (U : Uni) where
  tmps : List TV
  heap : List (Nat × TypeId × List Atom)
  rows : List (Nat × Row U)
  next : Nat
  log : List (Nat × Nat × Nat) := []
  recs : List (Nat × RS U) := []

inductive Upd (U : Uni) where
  | none
  | box (t : TypeId) (cs : List Atom)
  | set (id off : Nat) (cs : List Atom)
  | rows (l : List (Nat × Row U))
  | grow (old : Nat) (l : List (Nat × Row U))

/-- Data as an argument or a result: an aggregate or one cell. -/
structure D (U : Uni) where
  agg : Bool
  cs : List (CV U.C U.T)

inductive Out (U : Uni) where
  | one (d : D U)
  | tup (ds : List (D U))

structure Res (U : Uni) where
  pre : Option Prop
  out : Out U

abbrev Spec (U : Uni) := List (D U) → Option (Res U)
/-- The contracts, by functions' numbers; the makes of elements, by types' numbers. -/
structure Con (U : Uni) where
  c : Nat → Option (Spec U)
  ty : TypeId → Option U.C
  gl : Nat → Option (List Value)

/-- A contract that asks for a function. -/
def isF (n : Nat) : Value → Bool
  | .func (.func k) a b => Nat.beq k n && Nat.beq a.size 0 && Nat.beq b.size 0
  | _ => false
def onF (n : Nat) (v : Value) {U : Uni} (r : Option (Res U)) : Option (Res U) := match isF n v with | true => r | false => none
theorem onF_is {n : Nat} {v : Value} {U : Uni} {r : Option (Res U)} {x : Res U} (h : onF n v r = some x) : v = .func (.func n) #[] #[] ∧ r = some x := by
  unfold onF at h
  split at h
  · rename_i hv
    refine ⟨?_, h⟩
    unfold isF at hv
    split at hv
    · simp only [Bool.and_eq_true] at hv
      rw [Nat.eq_of_beq_eq_true hv.1.1, Array.eq_empty_of_size_eq_zero (Nat.eq_of_beq_eq_true hv.1.2), Array.eq_empty_of_size_eq_zero (Nat.eq_of_beq_eq_true hv.2)]
    · cases hv
  · cases h

def mem (i : Nat) : List Nat → Bool
  | [] => false
  | j :: r => if i = j then true else mem i r

def look {α : Type} (k : Nat) : List (Nat × α) → Option α
  | [] => none
  | (j, x) :: r => if j = k then some x else look k r

section
variable (P : Program) {U : Uni} (Γ : Con U)

/-- A value of one cell, by sight. -/
def oneV : Value → Bool
  | .agg _ | .tuple _ => false
  | _ => true

def ofConst (v : Value) : SV := match v with
  | .agg cs => if cs.toList.all oneV then .agg (cs.toList.map Atom.v) else .one .junk
  | v => .one (.v v)

def St.ev (s : St U) : Operand → SV
  | .tmp t => match s.tmps.getD t (.pl (.one .junk)) with | .pl x => x | .opt _ _ _ => .one .junk
  | .const v => ofConst v
  | .global g => .one (.gl g 0)
  | .func f => .one (.fn f [])

def SV.cells : SV → Option (List Atom)
  | .one (.v x) => if oneV x then some [.v x] else none
  | .one .junk => none
  | .one a => some [a]
  | .agg l => some l
  | _ => none

def tySize (t : TypeId) : Option Nat := (P.info? t).map (·.size)
def tyAgg (t : TypeId) : Option Bool := match P.underlying t with
  | some (.struct _) | some (.array _ _) => some true
  | some _ => some false
  | none => none

structure Ran (U : Uni) where
  ob : Option Prop
  v : SV
  u : Upd U

def ran (v : SV) : Option (Ran U) := some ⟨none, v, .none⟩
def ranV (x : Value) : Option (Ran U) := ran (.one (.v x))

/-- Cells of data as atoms, new rows for what are slices. -/
def atomsOf (kx : Nat) : List (CV U.C U.T) → Nat → List Atom × List (Nat × Row U)
  | [], _ => ([], [])
  | .v x :: r, j => match atomsOf kx r j with | (as, rs) => (.v x :: as, rs)
  | .sl c l :: r, j => match atomsOf kx r (j + 1) with | (as, rs) => (.sl (16 * kx + j) :: as, (16 * kx + j, ⟨c, l, false⟩) :: rs)

def rowsU (l : List (Nat × Row U)) : Upd U := match l with | [] => .none | l => .rows l

/-- An atom as data. -/
def cvOf (s : St U) : Atom → Option (CV U.C U.T)
  | .v x => if oneV x then some (.v x) else none
  | .sl fid => match look fid s.rows with | some r => some (.sl r.c r.l) | none => none
  | .fn f [] => some (.v (.func (.func f) #[] #[]))
  | _ => none
def cvsOf (s : St U) : List Atom → Option (List (CV U.C U.T))
  | [] => some []
  | a :: r => match cvOf s a with
    | some x => match cvsOf s r with | some y => some (x :: y) | none => none
    | none => none
/-- The types of a value's cells; n: how deep structs stand in structs. -/
def cellTys : Nat → TypeId → List TypeId
  | 0, t => [t]
  | n + 1, t => match P.underlying t with
    | some (.struct fs) => fs.toList.flatMap fun f => cellTys n f.type
    | some (.array k e) => (List.replicate k (cellTys n e)).flatten
    | _ => [t]
/-- nil, as a slice of its type, is a row without elements. -/
def nilRow (t : TypeId) (x : CV U.C U.T) : CV U.C U.T := match x with
  | .v (.slice none 0 0) => match P.underlying t with
    | some (.slice e) => match Γ.ty e with | some c => .sl c [] | none => .v (.slice none 0 0)
    | _ => .v (.slice none 0 0)
  | x => x
def nilRows : List TypeId → List (CV U.C U.T) → List (CV U.C U.T)
  | t :: ts, x :: xs => nilRow P Γ t x :: nilRows ts xs
  | _, xs => xs
def dOf (s : St U) (t : TypeId) : SV → Option (D U)
  | .one a => match cvOf s a with | some x => some ⟨false, nilRows P Γ (cellTys P 4 t) [x]⟩ | none => none
  | .agg l => match cvsOf s l with | some x => some ⟨true, nilRows P Γ (cellTys P 4 t) x⟩ | none => none
  | _ => none
def dsOf (s : St U) : List Operand → List TypeId → Option (List (D U))
  | [], _ => some []
  | a :: r, t :: ts => match dOf P Γ s t (s.ev a) with
    | some x => match dsOf s r ts with | some y => some (x :: y) | none => none
    | none => none
  | _, _ => none

def outs (kx : Nat) : List (D U) → Nat → List (Bool × List Atom) × List (Nat × Row U)
  | [], _ => ([], [])
  | d :: r, j => match atomsOf kx d.cs j with
    | (as, rs) => match outs kx r (j + rs.length) with | (x, rs') => ((d.agg, as) :: x, rs ++ rs')
def outOf (kx : Nat) : Out U → Option (SV × List (Nat × Row U))
  | .one d => match atomsOf kx d.cs 0 with
    | (as, rs) => match d.agg with
      | true => some (.agg as, rs)
      | false => match as with | [a] => some (.one a, rs) | _ => none
  | .tup ds => match outs kx ds 0 with | (x, rs) => some (.tup x, rs)

def binI (op : BinOp) (k : IntKind) (x y : Int) : Option (Option Prop × Value) := match op with
  | .add => match k with | .i64 => some (none, .int .i64 (wrap64 (x + y))) | k => some (none, .int k (k.wrap (x + y)))
  | .sub => match k with | .i64 => some (none, .int .i64 (wrap64 (x - y))) | k => some (none, .int k (k.wrap (x - y)))
  | .mul => match k with | .i64 => some (none, .int .i64 (wrap64 (x * y))) | k => some (none, .int k (k.wrap (x * y)))
  | .quo => match k with | .i64 => some (some (y ≠ 0), .int .i64 (wrap64 (Int.tdiv x y))) | k => some (some (y ≠ 0), .int k (k.wrap (Int.tdiv x y)))
  | .rem => some (some (y ≠ 0), .int k (Int.tmod x y))
  | .and => some (none, .int k (bits .and k x y))
  | .or => some (none, .int k (bits .or k x y))
  | .xor => some (none, .int k (bits .xor k x y))
  | .andNot => some (none, .int k (bits .andNot k x y))
  | .eql => some (none, .bool (x == y))
  | .neq => some (none, .bool (x != y))
  | .lss => some (none, .bool (decide (x < y)))
  | .leq => some (none, .bool (decide (x ≤ y)))
  | .gtr => some (none, .bool (decide (y < x)))
  | .geq => some (none, .bool (decide (y ≤ x)))
  | _ => none

def negI (k : IntKind) (a : Int) : Value := match k with | .i64 => .int .i64 (wrap64 (0 - a)) | k => .int k (k.wrap (0 - a))

def cmpB (op : BinOp) (r : Bool) : Option (Ran U) := match op with
  | .eql => ranV (.bool r)
  | .neq => ranV (.bool (!r))
  | _ => none

/-- The bits of a float operation; a float as a whole number. -/
def fA (op : BinOp) (k : FloatKind) (x y : Nat) : Nat := (floatBits op k x y).getD 0
def fI (s : FloatKind) (b : Nat) (k : IntKind) : Int := (floatToIntVal s b k).getD 0
def fOn (op : BinOp) (k : FloatKind) (x y : Nat) : Bool := (floatBits op k x y).isSome
def fIn (s : FloatKind) (b : Nat) (k : IntKind) : Bool := (floatToIntVal s b k).isSome
theorem fA_is {op : BinOp} {k : FloatKind} {x y : Nat} (h : fOn op k x y = true) : floatBits op k x y = some (fA op k x y) := by
  unfold fOn at h; unfold fA
  cases e : floatBits op k x y with
  | none => rw [e] at h; cases h
  | some r => rfl
theorem fI_is {s : FloatKind} {b : Nat} {k : IntKind} (h : fIn s b k = true) : floatToIntVal s b k = some (fI s b k) := by
  unfold fIn at h; unfold fI
  cases e : floatToIntVal s b k with
  | none => rw [e] at h; cases h
  | some r => rfl

/-- Are two cells the same, by the type's field. -/
def atomEq : TypeDesc → Atom → Atom → Option Bool
  | .int _, .v (.int k a), .v (.int k' b) => if k = k' then some (a == b) else none
  | .bool, .v (.bool a), .v (.bool b) => some (a == b)
  | .string, .v (.string a), .v (.string b) => some (a == b)
  | _, _, _ => none

def andB (a b : Option Bool) : Option Bool := match a, b with | some x, some y => some (x && y) | _, _ => none

/-- Are two structs' fields the same. -/
def fieldsEq (se : TypeId → List Atom → List Atom → Option Bool) : List Field → List Atom → List Atom → Option Bool
  | [], _, _ => some true
  | f :: r, a, b => if f.name = "_" then none else match tySize P f.type, tyAgg P f.type with
    | some z, some g => match se f.type ((a.drop f.offset).take (if g then z else 1)) ((b.drop f.offset).take (if g then z else 1)) with
      | some x => match r with
        | [] => some x
        | r => match fieldsEq se r a b with | some y => some (x && y) | none => none
      | none => none
    | _, _ => none
/-- Are two arrays' elements the same. -/
def itemsEq (se : List Atom → List Atom → Option Bool) (z : Nat) (g : Bool) : List Nat → List Atom → List Atom → Option Bool
  | [], _, _ => some true
  | i :: r, a, b => match se ((a.drop (i * z)).take (if g then z else 1)) ((b.drop (i * z)).take (if g then z else 1)) with
    | some x => match r with
      | [] => some x
      | r => match itemsEq se z g r a b with | some y => some (x && y) | none => none
    | none => none
/-- Are two structs the same: field by field; n: how deep structs stand in structs. -/
def structEq : Nat → TypeId → List Atom → List Atom → Option Bool
  | 0, _, _, _ => none
  | n + 1, t, a, b => match P.underlying t with
    | some (.struct fs) => if P.stoodInHeld t then none else fieldsEq P (structEq n) fs.toList a b
    | some (.array k e) => match tySize P e, tyAgg P e with
      | some z, some g => itemsEq (structEq n e) z g (List.range k) a b
      | _, _ => none
    | some d => match a, b with | [x], [y] => atomEq d x y | _, _ => none
    | none => none

def isTmp (x : Operand) (d : Nat) : Bool := match x with | .tmp e => decide (e = d) | _ => false

/-- The operand behind a guard of its own. -/
def St.evo (s : St U) (dc : Operand) (want : Bool) : Operand → SV
  | .tmp t => match s.tmps.getD t (.pl (.one .junk)) with
    | .pl x => x
    | .opt d w x => if isTmp dc d && (w == want) then x else .one .junk
  | x => s.ev x

def pickB (dc : Operand) (cb : Bool) (s : St U) (a b : Operand) : Option (Ran U) := match a, b with
  | a, .const (.bool false) => match s.evo dc true a with
    | .one (.v (.bool x)) => ranV (.bool (cb && x))
    | _ => none
  | .const (.bool true), b => match s.evo dc false b with
    | .one (.v (.bool x)) => ranV (.bool (cb || x))
    | _ => none
  | _, _ => none

/-- What a value of a made thing is filled with. -/
def zeroAtoms (t : TypeId) : Option (List Atom) := match P.info? t with
  | some i => match i.zero with | some z => if z.cells.toList.all oneV then some (z.cells.toList.map Atom.v) else none | none => none
  | none => none

def setCells {α : Type} : List α → Nat → List α → List α
  | cs, 0, new => new ++ cs.drop new.length
  | c :: cs, n + 1, new => c :: setCells cs n new
  | [], _ + 1, _ => []

/-- Fill cells part by part. -/
def fillA (place : Nat → Option (Nat × Nat)) : List Atom → List (Nat × List Atom) → Option (List Atom)
  | cells, [] => some cells
  | cells, (i, cs) :: r => match place i with
    | some (off, size) => if cs.length = size ∧ off + size ≤ cells.length then fillA place (setCells cells off cs) r else none
    | none => none
def partsOf (s : St U) : List (Nat × Operand) → Option (List (Nat × List Atom))
  | [] => some []
  | (i, x) :: r => match (s.ev x).cells with
    | some cs => match partsOf s r with | some y => some ((i, cs) :: y) | none => none
    | none => none

def litNat : Int → Nat := Int.toNat

/-- A bound of a cut. -/
def bnd (s : St U) : Option Operand → Option (Option Int)
  | none => some none
  | some x => match s.ev x with | .one (.v (.int _ k)) => some (some k) | _ => none
/-- A text cut. -/
def cutS (b : ByteArray) : Option Int → Option Int → Prop × ByteArray
  | none, none => (True, b.extract 0 b.size)
  | none, some h => (0 ≤ h ∧ h ≤ (b.size : Int), b.extract 0 h.toNat)
  | some l, none => (0 ≤ l ∧ l ≤ (b.size : Int), b.extract l.toNat b.size)
  | some l, some h => (0 ≤ l ∧ l ≤ h ∧ h ≤ (b.size : Int), b.extract l.toNat h.toNat)
/-- A slice cut. -/
def cutL {α : Type} (l : List α) : Option Int → Option Int → Prop × List α
  | none, none => (True, l)
  | none, some h => (0 ≤ h ∧ h ≤ (l.length : Int), l.take h.toNat)
  | some lo, none => (0 ≤ lo ∧ lo ≤ (l.length : Int), l.drop lo.toNat)
  | some lo, some h => (0 ≤ lo ∧ lo ≤ h ∧ h ≤ (l.length : Int), (l.take h.toNat).drop lo.toNat)
def repA (z : List Atom) : Nat → List Atom
  | 0 => []
  | n + 1 => z ++ repA z n
/-- Elements out of their cells. -/
def elemsOf (c : U.C) (z : Nat) : Nat → List (CV U.C U.T) → Option (List (U.T c))
  | 0, _ => some []
  | n + 1, l => match U.back c (l.take z) with
    | some x => match elemsOf c z n (l.drop z) with | some r => some (x :: r) | none => none
    | none => none

/-- An element's type, as slices that are made have it: how many cells. -/
def elemOK (e : TypeId) : Option Nat := match P.info? e with
  | some i => match i.zero with
    | some z => if z.cells.size = i.size ∧ 0 < i.size ∧ i.bytes ≤ 100000000 then some i.size else none
    | none => none
  | none => none
def rowOf (s : St U) (e : TypeId) : SV → Option (Option Nat × Row U)
  | .one (.sl fid) => match look fid s.rows with | some r => some (some fid, r) | none => none
  | .one (.v (.slice none 0 0)) => match Γ.ty e with | some c => some (none, ⟨c, [], true⟩) | none => none
  | _ => none
/-- A row that is written in. -/
def xAt (s : St U) (fid : Nat) : Option (Row U) := match look (fid + 1000000000) s.recs with
  | some (.row c l) => some ⟨c, l, false⟩
  | _ => none
def rowX (s : St U) (fid : Nat) : Option (Row U) := match xAt s fid with
  | some r => some r
  | none => look fid s.rows
def castL (c d : U.C) (l : List (U.T c)) : Option (List (U.T d)) := match U.dec c d with
  | .isTrue h => some (h ▸ l)
  | .isFalse _ => none
def ptrsOf (s : St U) : List Operand → Option (List (Nat × Nat))
  | [] => some []
  | x :: r => match s.ev x with
    | .one (.ptr id off) => match ptrsOf s r with | some l => some ((id, off) :: l) | none => none
    | _ => none
def growU (old : Option Nat) (l : List (Nat × Row U)) : Upd U := match old with | some f => .grow f l | none => .rows l
def u8sOf : List Atom → Option (List Int)
  | [] => some []
  | .v (.int .u8 x) :: r => match u8sOf r with | some l => some (x :: l) | none => none
  | _ => none
def bytesU (b : ByteArray) : List (U.T U.u8) := b.data.toList.map fun x => U.ofI (x.toNat : Int)

def rval (s : St U) (kx : Nat) (o : Oper) : Option (Ran U) := match o.op with
  | .nilCheck x => match s.ev x with
    | .one (.ptr id off) => ran (.one (.ptr id off))
    | .one (.el fid i sz off) => ran (.one (.el fid i sz off))
    | .one (.gl g off) => ran (.one (.gl g off))
    | .one (.fn f caps) => ran (.one (.fn f caps))
    | _ => none
  | .makeFunc (.func f) first caps => match first.toList, ptrsOf s caps.toList with
    | [], some l => ran (.one (.fn f l))
    | _, _ => none
  | .makeSlice t l c => match P.underlying t, s.ev l, s.ev c with
    | some (.slice e), .one (.v (.int _ n)), .one (.v (.int _ m)) => match Γ.ty e, elemOK P e, zeroAtoms P e with
      | some c, some z, some zs => if z = U.size c then match cvsOf s zs with
          | some cvs => match U.back c cvs with
            | some x => some ⟨some (n = m ∧ 0 ≤ n ∧ n ≤ 1000000), .one (.sl (16 * kx)), .rows [(16 * kx, ⟨c, List.replicate n.toNat x, true⟩)]⟩
            | none => none
          | none => none
        else none
      | _, _, _ => none
    | _, _, _ => none
  | .slice t x lo hi none => match P.underlying t, s.ev x, bnd s lo, bnd s hi with
    | some .string, .one (.v (.string b)), some l, some h => match cutS b l h with | (ob, y) => some ⟨some ob, .one (.v (.string y)), .none⟩
    | some (.array n e), .one (.ptr id off), some none, some none => match tySize P e with
      | some 1 => ran (.one (.av id off n))
      | _ => none
    | some (.slice e), .one (.sl fid), some l, some h => match look fid s.rows, tySize P e with
      | some r, some z => if z = U.size r.c then match cutL r.l l h with | (ob, y) => some ⟨some ob, .one (.sl (16 * kx)), .rows [(16 * kx, ⟨r.c, y, false⟩)]⟩ else none
      | _, _ => none
    | _, _, _, _ => none
  | .buildSlice t 0 parts => match P.underlying t, parts.toList with
    | some (.slice e), [] => match Γ.ty e, tySize P e with
      | some c, some z => if z = U.size c then some ⟨none, .one (.sl (16 * kx)), .rows [(16 * kx, ⟨c, [], true⟩)]⟩ else none
      | _, _ => none
    | _, _ => none
  | .buildSlice t len parts => match P.underlying t with
    | some (.slice e) => match Γ.ty e, tySize P e, zeroAtoms P e, partsOf s parts.toList with
      | some c, some z, some zs, some ps => if z = U.size c ∧ 0 < len * z ∧ len * z ≤ 16777216 ∧ zs.length = z then match fillA (fun i => some (i * z, z)) (repA zs len) ps with
          | some cs => match cvsOf s cs with
            | some cvs => match elemsOf c z len cvs with
              | some l => some ⟨none, .one (.sl (16 * kx)), .rows [(16 * kx, ⟨c, l, true⟩)]⟩
              | none => none
            | none => none
          | none => none
        else none
      | none, some 1, some [z0], some ps => if 0 < len ∧ len ≤ 16777216 then match fillA (fun i => some (i * 1, 1)) (repA [z0] len) ps with
          | some cs => some ⟨none, .one (.av kx 0 len), .box e cs⟩
          | none => none
        else none
      | _, _, _, _ => none
    | _ => none
  | .move x | .assign x => ran (s.ev x)
  | .pick c a b => match s.ev c with
    | .one (.v (.bool cb)) => pickB c cb s a b
    | _ => none
  | .box t x => match (s.ev x).cells with
    | some cs => some ⟨none, .one (.ptr kx 0), .box t cs⟩
    | none => none
  | .alloc t => match zeroAtoms P t with
    | some cs => some ⟨none, .one (.ptr kx 0), .box t cs⟩
    | none => none
  | .build t parts => match P.underlying t, zeroAtoms P t, partsOf s parts.toList with
    | some (.struct fs), some z, some ps => if fs.toList.all (fun f => (tySize P f.type).isSome) then match fillA (fun i => match fs[i]? with
          | some f => match tySize P f.type with | some n => some (f.offset, n) | none => none
          | none => none) z ps with
        | some cs => ran (.agg cs)
        | none => none
      else none
    | some (.array _ e), some z, some ps => match tySize P e with
      | some n => match fillA (fun i => some (i * n, n)) z ps with
        | some cs => ran (.agg cs)
        | none => none
      | none => none
    | _, _, _ => none
  | .fieldAddr t x f => match P.underlying t with
    | some (.struct fs) => match fs[f]? with
      | some fd => match tySize P fd.type with
        | some (_ + 1) => match s.ev x with
          | .one (.ptr id off) => ran (.one (.ptr id (off + fd.offset)))
          | .one (.el fid i sz off) => ran (.one (.el fid i sz (off + fd.offset)))
          | _ => none
        | _ => none
      | none => none
    | _ => none
  | .load t x => match s.ev x, tySize P t, tyAgg P t with
    | .one (.ptr id off), some n, some true => match look id s.heap with
      | some (_, cs) => if ((cs.drop off).take n).length = n then ran (.agg ((cs.drop off).take n)) else none
      | none => none
    | .one (.ptr id off), some _, some false => match look id s.heap with
      | some (_, cs) => match cs[off]? with | some a => ran (.one a) | none => none
      | none => none
    | .one (.gl g off), some _, some false => match Γ.gl g with
      | some vs => match vs[off]? with | some x => ranV x | none => none
      | none => none
    | .one (.el fid i sz off), some n, some true => match rowX s fid with
      | some r => if sz = U.size r.c ∧ off + n ≤ U.size r.c then match atomsOf kx (((U.enc r.c (r.l.getD i (U.dflt r.c))).drop off).take n) 0 with
          | (as, rs) => if rs.length ≤ 16 then some ⟨none, .agg as, rowsU rs⟩ else none
        else none
      | none => none
    | .one (.el fid i sz off), some _, some false => match rowX s fid with
      | some r => if sz = U.size r.c then match (U.enc r.c (r.l.getD i (U.dflt r.c)))[off]? with
          | some (.v x) => ranV x
          | some (.sl c l) => some ⟨none, .one (.sl (16 * kx)), .rows [(16 * kx, ⟨c, l, false⟩)]⟩
          | none => none
        else none
      | none => none
    | _, _, _ => none
  | .store t x y => match s.ev x, (s.ev y).cells, tySize P t with
    | .one (.ptr id off), some cs, some n => match look id s.heap with
      | some (_, old) => if cs.length = n ∧ off + n ≤ old.length then some ⟨none, .one .junk, .set id off cs⟩ else none
      | none => none
    | _, _, _ => none
  | .extract x i => match s.ev x with
    | .tup l => match l[i]? with
      | some (false, [a]) => ran (.one a)
      | some (true, as) => ran (.agg as)
      | _ => none
    | _ => none
  | .field t x f => match P.underlying t, s.ev x with
    | some (.struct fs), .agg cs => match fs[f]? with
      | some fd => match tySize P fd.type, tyAgg P fd.type with
        | some n, some true => ran (.agg ((cs.drop fd.offset).take n))
        | some _, some false => match cs[fd.offset]? with | some a => ran (.one a) | none => none
        | _, _ => none
      | none => none
    | _, _ => none
  | .indexAddr t x i => match P.underlying t, s.ev x, s.ev i with
    | some (.array n e), .one (.ptr id off), .one (.v (.int _ k)) => match tySize P e with
      | some z => some ⟨some (0 ≤ k ∧ k < (n : Int)), .one (.ptr id (off + litNat k * z)), .none⟩
      | none => none
    | some (.array n e), .one (.gl g off), .one (.v (.int _ k)) => match tySize P e with
      | some z => some ⟨some (0 ≤ k ∧ k < (n : Int)), .one (.gl g (off + litNat k * z)), .none⟩
      | none => none
    | some (.array n e), .one (.el fid j sz off), .one (.v (.int _ k)) => match tySize P e with
      | some z => some ⟨some (0 ≤ k ∧ k < (n : Int)), .one (.el fid j sz (off + litNat k * z)), .none⟩
      | none => none
    | some (.slice e), .one (.sl fid), .one (.v (.int _ k)) => match tySize P e, rowX s fid with
      | some z, some r => if z = U.size r.c then some ⟨some (0 ≤ k ∧ k < (r.l.length : Int)), .one (.el fid k.toNat z 0), .none⟩ else none
      | _, _ => none
    | some (.slice e), .one (.av id off n), .one (.v (.int _ k)) => match tySize P e with
      | some 1 => some ⟨some (0 ≤ k ∧ k < (n : Int)), .one (.ptr id (off + litNat k)), .none⟩
      | _ => none
    | _, _, _ => none
  | .index t x i => match P.underlying t, s.ev x, s.ev i with
    | some .string, .one (.v (.string b)), .one (.v (.int _ k)) => some ⟨some (0 ≤ k ∧ k < (b.size : Int)), .one (.v (.int .u8 (bt b k))), .none⟩
    | some (.array n e), .agg cs, .one (.v (.int _ k)) => match tySize P e, tyAgg P e with
      | some z, some true => some ⟨some (0 ≤ k ∧ k < (n : Int)), .agg ((cs.drop (litNat k * z)).take z), .none⟩
      | some z, some false => match cs[litNat k * z]? with | some a => some ⟨some (0 ≤ k ∧ k < (n : Int)), .one a, .none⟩ | none => none
      | _, _ => none
    | _, _, _ => none
  | .binOp op t x y _ => match s.ev x, s.ev y with
    | .one (.v (.int k a)), .one (.v (.int k' b)) => match op with
      | .shl => some ⟨some (0 ≤ b), .one (.v (.int k (k.wrap (a * 2 ^ min b.toNat k.bits)))), .none⟩
      | .shr => some ⟨some (0 ≤ b), .one (.v (.int k (a.fdiv (2 ^ min b.toNat k.bits)))), .none⟩
      | op => if k = k' then match binI op k a b with | some (ob, v) => some ⟨ob, .one (.v v), .none⟩ | none => none else none
    | .one (.v (.bool a)), .one (.v (.bool b)) => match P.underlying t with | some .bool => cmpB op (a == b) | _ => none
    | .one (.v (.string a)), .one (.v (.string b)) => match op with | .add => some ⟨some (a.size + b.size ≤ 9223372036854775807), .one (.v (.string (a ++ b))), .none⟩ | op => cmpB op (a == b)
    | .agg a, .agg b => match P.eqGuardType P.depth t, tyAgg P t, structEq P 4 t a b with
      | false, some true, some r => cmpB op r
      | _, _, _ => none
    | .one (.v (.complex k a b)), .one (.v (.complex k' c d)) => match op with
      | .add => if k = k' then some ⟨some (fOn .add k a c = true ∧ fOn .add k b d = true), .one (.v (.complex k (fA .add k a c) (fA .add k b d))), .none⟩ else none
      | _ => none
    | .one (.v (.float k a)), .one (.v (.float k' b)) => match op with
      | .add => if k = k' then some ⟨some (fOn .add k a b = true), .one (.v (.float k (fA .add k a b))), .none⟩ else none
      | .mul => if k = k' then some ⟨some (fOn .mul k a b = true), .one (.v (.float k (fA .mul k a b))), .none⟩ else none
      | _ => none
    | _, _ => none
  | .unOp op _ x => match s.ev x with
    | .one (.v (.bool a)) => match op with | .not => ranV (.bool (!a)) | _ => none
    | .one (.v (.int k a)) => match op with | .neg => ranV (negI k a) | _ => none
    | _ => none
  | .convert a b x => match P.underlying a, P.underlying b, s.ev x with
    | some _, some (.int k), .one (.v (.int _ n)) => ranV (.int k (k.wrap n))
    | some .string, some .string, .one (.v (.string b)) => ranV (.string b)
    | some .string, some (.slice e), .one (.v (.string b)) => match P.underlying e, Γ.ty e with
      | some (.int .u8), some c => match U.dec c U.u8 with
        | .isTrue _ => some ⟨some (b.size ≤ 1000000), .one (.sl (16 * kx)), .rows [(16 * kx, ⟨U.u8, bytesU b, true⟩)]⟩
        | .isFalse _ => none
      | _, _ => none
    | some (.slice e), some .string, .one (.av id off n) => match P.underlying e, look id s.heap with
      | some (.int .u8), some (_, cs) => match u8sOf ((cs.drop off).take n) with
        | some l => if l.length = n then ranV (.string (strOfNums l)) else none
        | none => none
      | _, _ => none
    | some (.slice e), some .string, .one (.sl fid) => match P.underlying e, look fid s.rows with
      | some (.int .u8), some r => match castL r.c U.u8 r.l with
        | some l => ranV (.string (strOfNums (l.map U.toI)))
        | none => none
      | _, _ => none
    | some _, some (.float k), .one (.v (.int _ n)) => ranV (.float k (floatOfInt k n))
    | some _, some (.int k), .one (.v (.float q b)) => some ⟨some (fIn q b k = true), .one (.v (.int k (fI q b k))), .none⟩
    | _, _, _ => none
  | .call c => match c.callee with
    | .value (.func f) => match Γ.c f with
      | some g => match dsOf P Γ s c.args.toList c.argTypes.toList with
        | some ds => match g ds with
          | some r => match outOf kx r.out with
            | some (v, rs) => if rs.length ≤ 16 then some ⟨r.pre, v, rowsU rs⟩ else none
            | none => none
          | none => none
        | none => none
      | none => none
    | .builtin .len => match c.args.toList, c.argTypes.toList with
      | [x], [t] => match P.underlying t, s.ev x with
        | some (.slice _), .one (.sl fid) => match rowX s fid with | some r => ranV (.int .i64 (r.l.length : Int)) | none => none
        | some .string, .one (.v (.string b)) => ranV (.int .i64 (b.size : Int))
        | some (.slice _), .one (.v (.slice none 0 0)) => ranV (.int .i64 0)
        | some (.slice _), .one (.av _ _ n) => ranV (.int .i64 (n : Int))
        | _, _ => none
      | _, _ => none
    | .builtin .append => match c.args.toList, c.argTypes.toList with
      | [x, y], [t, t'] => if t = t' then match P.underlying t with
          | some (.slice e) => match elemOK P e, rowOf Γ s e (s.ev x), rowOf Γ s e (s.ev y) with
            | some z, some (old, r1), some (_, r2) => match castL r2.c r1.c r2.l, r1.own && decide (z = U.size r1.c) with
              | some l2, true => some ⟨some (r1.l.length + r2.l.length ≤ 1000000), .one (.sl (16 * kx)), growU old [(16 * kx, ⟨r1.c, r1.l ++ l2, true⟩)]⟩
              | _, _ => none
            | _, _, _ => none
          | _ => none
        else match P.underlying t, P.underlying t', s.ev y with
          | some (.slice e), some .string, .one (.v (.string b)) => match elemOK P e, rowOf Γ s e (s.ev x) with
            | some z, some (old, r1) => match castL U.u8 r1.c (bytesU b), r1.own && decide (z = U.size r1.c) with
              | some l2, true => some ⟨some (r1.l.length + b.size ≤ 1000000), .one (.sl (16 * kx)), growU old [(16 * kx, ⟨r1.c, r1.l ++ l2, true⟩)]⟩
              | _, _ => none
            | _, _ => none
          | _, _, _ => none
      | _, _ => none
    | .builtin .min => match c.args.toList with
      | [x, y] => match s.ev x, s.ev y with
        | .one (.v (.int k a)), .one (.v (.int _ b)) => ranV (.int k (if b < a then b else a))
        | _, _ => none
      | _ => none
    | .builtin .max => match c.args.toList with
      | [x, y] => match s.ev x, s.ev y with
        | .one (.v (.int k a)), .one (.v (.int _ b)) => ranV (.int k (if b > a then b else a))
        | _, _ => none
      | _ => none
    | .builtin .complex => match c.args.toList with
      | [x, y] => match s.ev x, s.ev y with
        | .one (.v (.float k a)), .one (.v (.float k' b)) => if k = k' then ranV (.complex k a b) else none
        | _, _ => none
      | _ => none
    | .builtin .real => match c.args.toList with
      | [x] => match s.ev x with
        | .one (.v (.complex k a _)) => ranV (.float k a)
        | _ => none
      | _ => none
    | .builtin .imag => match c.args.toList with
      | [x] => match s.ev x with
        | .one (.v (.complex k _ b)) => ranV (.float k b)
        | _ => none
      | _ => none
    | _ => none
  | _ => none

def refers (d : Nat) : TV → Bool
  | .opt e _ _ => decide (e = d)
  | _ => false
def St.put (s : St U) (d : Option Tmp) (v : TV) : St U := match d with
  | some d => { s with tmps := s.tmps.set d v }
  | none => s
def putOK (s : St U) (d : Option Tmp) : Bool := match d with
  | some d => s.tmps.all (fun x => !refers d x)
  | none => true
def upd1 (id : Nat) (f : List Atom → List Atom) : List (Nat × TypeId × List Atom) → List (Nat × TypeId × List Atom)
  | [] => []
  | (j, t, cs) :: r => if j = id then (j, t, f cs) :: r else (j, t, cs) :: upd1 id f r
/-- A row that is the call's own no longer. -/
def disown (fid : Nat) : List (Nat × Row U) → List (Nat × Row U)
  | [] => []
  | (j, r) :: rs => if j = fid then (j, ⟨r.c, r.l, false⟩) :: rs else (j, r) :: disown fid rs
def St.app (s : St U) (kx : Nat) : Upd U → St U
  | .none => s
  | .grow old l => { s with rows := l ++ disown old s.rows }
  | .box t cs => { s with heap := (kx, t, cs) :: s.heap }
  | .set id off cs => { s with heap := upd1 id (fun old => setCells old off cs) s.heap, log := (id, off, cs.length) :: s.log }
  | .rows l => { s with rows := l ++ s.rows }

/-- When an operation behind a guard is carried out. -/
def guardB (s : St U) : Nat → Nat → Bool → Option Bool
  | 0, _, _ => none
  | n + 1, d, want => match s.tmps.getD d (.pl (.one .junk)) with
    | .pl (.one (.v (.bool b))) => some (match want with | true => b | false => !b)
    | .opt e w (.one (.v (.bool b))) => match guardB s n e w with
      | some g => some (g && (match want with | true => b | false => !b))
      | none => none
    | _ => none
/-- The temporaries as one sees them behind a guard. -/
def seenTV (d : Nat) (want : Bool) : TV → TV
  | .opt e w x => if e = d ∧ w = want then .pl x else .opt e w x
  | x => x
def seen (d : Nat) (want : Bool) (s : St U) : St U := { s with tmps := s.tmps.map (seenTV d want) }

def impP (g : Bool) : Option Prop → Option Prop
  | none => none
  | some p => some (g = true → p)
def dstOf (ops : Array Oper) (j : Nat) : Option Nat := match ops[j]? with | some o => o.dst | none => none

/-- Rows that are there if the operation is carried out. -/
def condR (g : Bool) : List (Nat × Row U) → List (Nat × Row U)
  | [] => []
  | (i, r) :: l => (i, ⟨r.c, if g = true then r.l else [], r.own && g⟩) :: condR g l
def condOK (kx : Nat) : List (Nat × Row U) → Bool
  | [] => true
  | (i, _) :: l => decide (16 * kx ≤ i) && decide (i < 16 * kx + 16) && l.all (fun x => decide (x.1 ≠ i)) && condOK kx l
def otherDst (x : Option Tmp) (d : Nat) : Bool := match x with | some e => decide (e ≠ d) | none => true

/-- One operation of a region: what must hold, what the temporary holds, what is made. -/
def rstepE (ops : Array Oper) (s : St U) (kx : Nat) (o : Oper) : Option (Option Prop × TV × Upd U) := match o.guard with
  | none => match rval P Γ s kx o with
    | some r => some (r.ob, .pl r.v, r.u)
    | none => none
  | some (j, want) => match dstOf ops j with
    | some d => match guardB s 8 d want, otherDst o.dst d with
      | some g, true => match rval P Γ (seen d want s) kx o with
        | some ⟨ob, v, .none⟩ => some (impP g ob, .opt d want v, .none)
        | some ⟨ob, v, .rows l⟩ => if condOK kx l then some (impP g ob, .opt d want v, .rows (condR g l)) else none
        | _ => none
      | _, _ => none
    | none => none
def rowsIn : Upd U → Option (List (Nat × Row U))
  | .rows l => some l
  | .grow _ l => some l
  | _ => none
def fidsOK (b : Nat) (u : Upd U) : Bool := match rowsIn u with
  | some l => l.all fun x => decide (16 * b ≤ x.1) && decide (x.1 < 16 * b + 16)
  | none => true
/-- A store is within its block. -/
def setOK (s : St U) : Upd U → Bool
  | .set id off cs => match look id s.heap with
    | some (_, old) => Nat.ble (off + cs.length) old.length
    | none => Nat.ble s.next id
  | _ => true
def rstep (ops : Array Oper) (s : St U) (kx : Nat) (o : Oper) : Option (Option Prop × St U) :=
  if putOK s o.dst then match rstepE P Γ ops s kx o with
    | some (ob, v, u) => match fidsOK kx u && setOK s u with
      | true => some (ob, (s.app kx u).put o.dst v)
      | false => none
    | none => none
  else none

def andP : Option Prop → Prop → Prop
  | none, q => q
  | some p, q => p ∧ q

def clear (s : St U) : St U := { s with tmps := s.tmps.map fun x => match x with | .opt _ _ _ => .pl (.one .junk) | x => x }

/-- What is called: a function; a range's body. -/
inductive Cal where
  | fn (f : Nat)
  | yl (id : Nat)
/-- What a call of a function that is read where it stands comes to: the rounds around, the function, what it is handed, the state, what goes on, and what does if it panics. -/
abbrev Inl (U : Uni) := List Nat → Cal → List SV → St U → (SV → St U → Prop) → (SV → St U → Prop) → Option Prop
/-- The bodies of ranges over functions. -/
abbrev YH (U : Uni) := Nat → List Nat → List SV → St U → (SV → St U → Prop) → (SV → St U → Prop) → Option Prop
/-- One of some few numbers. -/
def splitI (k : Int) (f : Nat → Prop) : Nat → Prop
  | 0 => True
  | n + 1 => (k = (n : Int) → f n) ∧ splitI k f n
def sv2 (l : List (Nat × Nat)) : List SV := l.map fun p => .one (.ptr p.1 p.2)
/-- Some value of a type, where none is asked for. -/
def anySV (t : TypeId) : SV := match P.underlying t with
  | some .bool => .one (.v (.bool false))
  | some (.int k) => .one (.v (.int k 0))
  | some .string => .one (.v (.string ByteArray.empty))
  | _ => .one .junk
def calFn (f : Nat) (a b : Array Value) : Option (Cal × List SV) := match Nat.beq a.size 0 && Nat.beq b.size 0 with | true => some (.fn f, []) | false => none
def calOf : SV → Option (Cal × List SV)
  | .one (.fn f caps) => some (.fn f, sv2 caps)
  | .one (.v (.func (.func f) a b)) => calFn f a b
  | .one (.yl id) => some (.yl id, [])
  | _ => none
def conHas : Cal → Bool
  | .fn f => match Γ.c f with | some _ => true | none => false
  | .yl _ => false
/-! ### Rows that are written in -/
def xOn : Bool := match Γ.gl 999999998 with | some _ => true | none => false
def setRec (id : Nat) (x : RS U) : List (Nat × RS U) → List (Nat × RS U)
  | [] => []
  | (j, y) :: r => match decide (j = id) with | true => (j, x) :: setRec id x r | false => (j, y) :: setRec id x r
def dropRec (id : Nat) : List (Nat × RS U) → List (Nat × RS U)
  | [] => []
  | (j, y) :: r => match decide (j = id) with | true => dropRec id r | false => (j, y) :: dropRec id r
def vsOf : List Atom → Option (List Value)
  | [] => some []
  | .v x :: r => match oneV x with
    | true => match vsOf r with | some l => some (x :: l) | none => none
    | false => none
  | _ => none
def cvV (x : Value) : CV U.C U.T := .v x
/-- A store into an element. -/
def xStore (s : St U) (t : TypeId) (x y : Operand) (Kn : TV → St U → Prop) : Option Prop := match s.ev x with
  | .one (.el fid i sz off) => match xAt s fid, (s.ev y).cells, tySize P t with
    | some r, some cs, some n => match vsOf cs, decide (sz = U.size r.c ∧ cs.length = n ∧ off + n ≤ U.size r.c) with
      | some vs, true => match U.back r.c (setCells (U.enc r.c (r.l.getD i (U.dflt r.c))) off (vs.map cvV)) with
        | some z => some (Kn (.pl (.one .junk)) { s with next := s.next + 1, recs := setRec (fid + 1000000000) (.row r.c (r.l.set i z)) s.recs })
        | none => none
      | _, _ => none
    | _, _, _ => none
  | _ => none
/-- A slice is made: it will be written in. -/
def xMake (s : St U) (t : TypeId) (l c : Operand) (Kn : TV → St U → Prop) : Option Prop := match P.underlying t, s.ev l, s.ev c with
  | some (.slice e), .one (.v (.int _ n)), .one (.v (.int _ m)) => match Γ.ty e, elemOK P e, zeroAtoms P e with
    | some c, some z, some zs => match decide (z = U.size c) && U.flat c, vsOf zs with
      | true, some vs => match U.back c (vs.map cvV) with
        | some x => some ((n = m ∧ 0 ≤ n ∧ n ≤ 1000000) ∧ Kn (.pl (.one (.sl (16 * s.next)))) { s with next := s.next + 1, recs := (16 * s.next + 1000000000, .row c (List.replicate n.toNat x)) :: s.recs })
        | none => none
      | _, _ => none
    | _, _, _ => none
  | _, _, _ => none
/-- A slice without elements, and not nil. -/
def xBuild0 (s : St U) (t : TypeId) (len : Nat) (parts : Array (Nat × Operand)) (Kn : TV → St U → Prop) : Option Prop := match len, P.underlying t, parts.toList with
  | 0, some (.slice e), [] => match Γ.ty e, tySize P e with
    | some c, some z => match decide (z = U.size c) && U.flat c with
      | true => some (Kn (.pl (.one (.sl (16 * s.next)))) { s with next := s.next + 1, recs := (16 * s.next + 1000000000, .row c []) :: s.recs })
      | false => none
    | _, _ => none
  | _, _, _ => none
/-- What is appended to: a row that is written in, or nil. -/
def xDest (s : St U) (e : TypeId) : SV → Option (Option Nat × Row U)
  | .one (.sl fid) => match xAt s fid with | some r => some (some fid, r) | none => none
  | .one (.v (.slice none 0 0)) => match Γ.ty e with | some c => some (none, ⟨c, [], false⟩) | none => none
  | _ => none
def xSrc (s : St U) (e : TypeId) : SV → Option (Row U)
  | .one (.sl fid) => rowX s fid
  | .one (.v (.slice none 0 0)) => match Γ.ty e with | some c => some ⟨c, [], false⟩ | none => none
  | _ => none
def xDrop (old : Option Nat) (recs : List (Nat × RS U)) : List (Nat × RS U) := match old with | some f => dropRec (f + 1000000000) recs | none => recs
def xAppend (s : St U) (x y : Operand) (t t' : TypeId) (Kn : TV → St U → Prop) : Option Prop := match decide (t = t'), P.underlying t with
  | true, some (.slice e) => match elemOK P e, xDest Γ s e (s.ev x), xSrc Γ s e (s.ev y) with
    | some z, some (old, r1), some r2 => match castL r2.c r1.c r2.l, decide (z = U.size r1.c) && U.flat r1.c with
      | some l2, true => some ((r1.l.length + l2.length ≤ 1000000) ∧ Kn (.pl (.one (.sl (16 * s.next)))) { s with next := s.next + 1, recs := (16 * s.next + 1000000000, .row r1.c (r1.l ++ l2)) :: xDrop old s.recs })
      | _, _ => none
    | _, _, _ => none
  | _, _ => none
/-- The rows that are written in, as rows. -/
def xRows : List (Nat × RS U) → List (Nat × Row U)
  | [] => []
  | (k, .row c l) :: r => match Nat.ble 1000000000 k with | true => (k - 1000000000, ⟨c, l, false⟩) :: xRows r | false => xRows r
  | _ :: r => xRows r
/-- A call by contract that is handed such rows, and gives none back. -/
def xCall (s : St U) (f : Nat) (c : Call) (Kn : TV → St U → Prop) : Option Prop := match Γ.c f with
  | some g => match dsOf P Γ { s with rows := s.rows ++ xRows s.recs } c.args.toList c.argTypes.toList with
    | some ds => match g ds with
      | some r => match outOf s.next r.out with
        | some (v, []) => some (andP r.pre (Kn (.pl v) { s with next := s.next + 1 }))
        | _ => none
      | none => none
    | none => none
  | none => none
/-- Such a row becomes a row as all others are. -/
def freeze1 (fid : Nat) (s : St U) : St U := match xAt s fid with
  | some r => { s with rows := (fid, ⟨r.c, r.l, true⟩) :: s.rows, recs := dropRec (fid + 1000000000) s.recs, log := (fid / 16, 0, 0) :: s.log }
  | none => s
def freezeL : List Nat → St U → St U
  | [], s => s
  | f :: r, s => freezeL r (freeze1 f s)
def slsA (s : St U) : List Atom → List Nat
  | [] => []
  | .sl fid :: r => match xAt s fid with | some _ => fid :: slsA s r | none => slsA s r
  | _ :: r => slsA s r
def slsV (s : St U) : SV → List Nat
  | .one a => slsA s [a]
  | .agg l => slsA s l
  | .tup _ => []
def slsO (s : St U) : List Operand → List Nat
  | [] => []
  | x :: r => slsV s (s.ev x) ++ slsO s r
/-- All of them. -/
def xKeys : List (Nat × RS U) → List Nat
  | [] => []
  | (k, .row _ _) :: r => (k - 1000000000) :: xKeys r
  | _ :: r => xKeys r
def freezeAll (s : St U) : St U := freezeL (xKeys s.recs) s
/-- Those that an operation speaks of (under a guard: all). -/
def slsG (s : St U) (o : Oper) : List Nat := match o.guard with
  | none => slsO s o.op.operands.toList
  | some _ => xKeys s.recs
def xSpecial (s : St U) (o : Oper) (Kn : TV → St U → Prop) : Option Prop := match xOn Γ with
  | false => none
  | true => match o.op with
    | .store t x y => xStore P s t x y Kn
    | .makeSlice t l c => xMake P Γ s t l c Kn
    | .buildSlice t len parts => xBuild0 P Γ s t len parts Kn
    | .call c => match c.callee with
      | .builtin .append => match c.args.toList, c.argTypes.toList with
        | [x, y], [t, t'] => xAppend P Γ s x y t t' Kn
        | _, _ => none
      | .value (.func f) => xCall P Γ s f c Kn
      | _ => none
    | _ => none
/-- Operations after which the run goes on in several ways, or in another function's text. -/
def special0 (I : Inl U) (st : List Nat) (ops : Array Oper) (s : St U) (o : Oper) (Kn : TV → St U → Prop) (Kp : SV → St U → Prop) : Option Prop := match o.guard with
  | some (j, want) => match o.op with
    | .call c => match c.callee with
      | .value x => match dstOf ops j with
        | some d => match guardB s 8 d want, otherDst o.dst d with
          | some g, true => match calOf ((seen d want s).ev x) with
            | some (cal, ex) => match conHas Γ cal with
              | true => none
              | false => match I st cal (c.args.toList.map (seen d want s).ev ++ ex) s (fun v s' => Kn (.opt d want v) s') Kp with
                | some p => some ((g = true → p) ∧ (g = false → Kn (.opt d want (anySV P o.type)) { s with next := s.next + 1 }))
                | none => none
            | none => none
          | _, _ => none
        | none => none
      | _ => none
    | _ => none
  | none => match o.op with
    | .call c => match c.callee with
      | .value x => match calOf (s.ev x) with
        | some (cal, ex) => match conHas Γ cal with
          | true => none
          | false => I st cal (c.args.toList.map s.ev ++ ex) s (fun v s' => Kn (.pl v) s') Kp
        | none => none
      | _ => none
    | .binOp op t x y _ => match P.underlying t with
      | some (.slice _) => match s.ev x, s.ev y with
        | .one (.sl fid), .one (.v (.slice none 0 0)) => match look fid s.rows with
          | some r => match op with
            | .eql => some (∀ b : Bool, (b = true → r.l = []) → Kn (.pl (.one (.v (.bool b)))) { s with next := s.next + 1 })
            | .neq => some (∀ b : Bool, (b = true → r.l = []) → Kn (.pl (.one (.v (.bool (!b))))) { s with next := s.next + 1 })
            | _ => none
          | none => none
        | _, _ => none
      | _ => none
    | .indexAddr t x (.tmp j) => match P.underlying t, s.ev x, s.ev (.tmp j) with
      | some (.array n e), .one (.ptr id off), .one (.v (.int _ k)) => match Γ.gl 999999999, Nat.ble n 4, tySize P e with
        | some _, true, some z => some ((0 ≤ k ∧ k < (n : Int)) ∧ splitI k (fun m => Kn (.pl (.one (.ptr id (off + m * z)))) { s with next := s.next + 1 }) n)
        | _, _, _ => none
      | _, _, _ => none
    | .slice t x (some lo) none none => match P.underlying t, s.ev x, s.ev lo with
      | some (.slice _), .one (.sl fid), .one (.v (.int _ k)) => match look fid s.rows, tySize P (P.elem t) with
        | some r, some z => match r.own && decide (z = U.size r.c) with
          | true => some ((0 ≤ k ∧ k ≤ (r.l.length : Int)) ∧ Kn (.pl (.one (.sl (16 * s.next)))) { s.app s.next (.grow fid [(16 * s.next, ⟨r.c, r.l.drop k.toNat, true⟩)]) with next := s.next + 1 })
          | false => none
        | _, _ => none
      | _, _, _ => none
    | _ => none

/-- A store by a temporary by which, elsewhere, rows are written in: as any other store. -/
def plainStore (o : Oper) : Bool := match o.op, o.dst with
  | .store _ (.tmp t) _, none => xOn Γ && (match Γ.gl (990000000 + t) with | some _ => true | none => false)
  | _, _ => false
def xPlain (s : St U) (o : Oper) (Kn : TV → St U → Prop) : Option Prop := match plainStore Γ o with
  | false => none
  | true => match rval P Γ s s.next o with
    | some r => match fidsOK s.next r.u && setOK s r.u with
      | true => some (andP r.ob (Kn (.pl r.v) { s.app s.next r.u with next := (s.app s.next r.u).next + 1 }))
      | false => none
    | none => none
def special (I : Inl U) (st : List Nat) (ops : Array Oper) (s : St U) (o : Oper) (Kn : TV → St U → Prop) (Kp : SV → St U → Prop) : Option Prop := match special0 P Γ I st ops s o Kn Kp with
  | some p => some p
  | none => match o.guard with
    | none => match xSpecial P Γ s o Kn with
      | some p => some p
      | none => xPlain P Γ s o Kn
    | some _ => none

def thenPut (d : Option Tmp) (f : St U → Prop) (v : TV) (s' : St U) : Prop := match putOK s' d with
  | true => f (s'.put d v)
  | false => False
def runOps (I : Inl U) (st : List Nat) (ops : Array Oper) : List Oper → St U → (Ctl → St U → Prop) → Prop
  | [], s, K => K .normal (clear s)
  | o :: r, s, K => match special P Γ I st ops s o (thenPut o.dst fun s' => runOps I st ops r s' K) (fun v s' => K (.panic v) (clear s')) with
    | some p => p
    | none => match rstep P Γ ops s s.next o with
      | some (ob, s') => andP ob (runOps I st ops r { s' with next := s'.next + 1 } K)
      | none => match xOn Γ, slsG s o with
        | true, f :: fs => match special P Γ I st ops (freezeL (f :: fs) s) o (thenPut o.dst fun s' => runOps I st ops r s' K) (fun v s' => K (.panic v) (clear s')) with
          | some p => p
          | none => match rstep P Γ ops (freezeL (f :: fs) s) s.next o with
            | some (ob, s') => andP ob (runOps I st ops r { s' with next := s'.next + 1 } K)
            | none => False
        | _, _ => False

/-! ### Regions whose order is open -/
structure Eff (U : Uni) where
  dst : Option Tmp
  v : TV
  u : Upd U
def putT (t : List TV) (d : Option Tmp) (v : TV) : List TV := match d with | some d => t.set d v | none => t
def tmpsOf (Dn : Nat → Bool) : List (Eff U) → Nat → List TV → List TV
  | [], _, t => t
  | e :: r, k, t => tmpsOf Dn r (k + 1) (match Dn k with | true => putT t e.dst e.v | false => t)
def boxesOf (b : Nat) (Dn : Nat → Bool) : List (Eff U) → Nat → List (Nat × TypeId × List Atom) → List (Nat × TypeId × List Atom)
  | [], _, h => h
  | e :: r, k, h => boxesOf b Dn r (k + 1) (match Dn k, e.u with | true, .box t cs => (b + k, t, cs) :: h | _, _ => h)
def setStep (d : Bool) (u : Upd U) (h : List (Nat × TypeId × List Atom)) : List (Nat × TypeId × List Atom) := match d, u with | true, .set id off cs => upd1 id (fun old => setCells old off cs) h | _, _ => h
def setsOf (Dn : Nat → Bool) : List (Eff U) → Nat → List (Nat × TypeId × List Atom) → List (Nat × TypeId × List Atom)
  | [], _, h => h
  | e :: r, k, h => setsOf Dn r (k + 1) (setStep (Dn k) e.u h)
def rowStep (d : Bool) (u : Upd U) (h : List (Nat × Row U)) : List (Nat × Row U) := match d, rowsIn u with | true, some l => l ++ h | _, _ => h
def growsOf : Upd U → Option Nat
  | .grow old _ => some old
  | _ => none
def disStep (d : Bool) (u : Upd U) (h : List (Nat × Row U)) : List (Nat × Row U) := match d with
  | true => match growsOf u with | some old => disown old h | none => h
  | false => h
def disOf (Dn : Nat → Bool) : List (Eff U) → Nat → List (Nat × Row U) → List (Nat × Row U)
  | [], _, h => h
  | e :: r, k, h => disOf Dn r (k + 1) (disStep (Dn k) e.u h)
def rowsOf (Dn : Nat → Bool) : List (Eff U) → Nat → List (Nat × Row U) → List (Nat × Row U)
  | [], _, h => h
  | e :: r, k, h => rowsOf Dn r (k + 1) (rowStep (Dn k) e.u h)
/-- The state when the operations of Dn have come up. -/
def stOf (Dn : Nat → Bool) (effs : List (Eff U)) (s : St U) : St U := ⟨tmpsOf Dn effs 0 s.tmps, setsOf Dn effs 0 (boxesOf s.next Dn effs 0 s.heap), disOf Dn effs 0 (rowsOf Dn effs 0 s.rows), s.next, s.log, s.recs⟩
def logsOf : List (Eff U) → List (Nat × Nat × Nat)
  | [] => []
  | e :: r => match e.u with | .set id off cs => (id, off, cs.length) :: logsOf r | _ => logsOf r

/-- Which operations come ahead of an operation (bits). -/
def maskOf (masks : List Nat) : List Edge → Nat
  | [] => 0
  | e :: r => match Region.binds .any e with
    | true => (1 <<< e.on) ||| (masks.getD e.on 0) ||| maskOf masks r
    | false => maskOf masks r
def edgesOK (k : Nat) : List Edge → Bool
  | [] => true
  | e :: r => (match Region.binds .any e with | true => decide (e.on < k) | false => true) && edgesOK k r
def looks (x : Operand) : List Nat := match x with | .tmp t => [t] | _ => []
def looksL : List Operand → List Nat
  | [] => []
  | x :: r => looks x ++ looksL r
def usesHeap (o : Oper) : Bool := match o.op with | .load _ _ | .store _ _ _ | .box _ _ | .alloc _ | .convert _ _ _ | .buildSlice _ _ _ => true | _ => false
def isStore (o : Oper) : Bool := match o.op with | .store _ _ _ => true | _ => false
def isApp (o : Oper) : Bool := match o.op with
  | .call c => match c.callee with | .builtin .append => true | _ => false
  | _ => false
def guardDst (ops : Array Oper) (o : Oper) : Option Nat := match o.guard with | some (j, _) => dstOf ops j | none => none
def guardOK (o : Oper) (m : Nat) : Bool := match o.guard with | some (j, _) => m.testBit j | none => true
/-- Two operations, neither of them ahead of the other one, don't see each other. x (number i, mask m) against y (number k, mask n). -/
def pairOK (ops : Array Oper) (i m : Nat) (x : Oper) (k n : Nat) (y : Oper) : Bool :=
  (i == k) ||
  ((match x.dst, y.dst with | some d, some e => decide (d ≠ e) | _, _ => true) &&
   (n.testBit i || m.testBit k || (match x.dst with | some d => !mem d (looksL y.op.operands.toList) | none => true)) &&
   (match x.dst, guardDst ops y with | some d, some e => decide (d ≠ e) || n.testBit i | _, _ => true) &&
   true &&
   (!(isApp y && isApp x) || n.testBit i || m.testBit k))
def allPairs (ops : Array Oper) (i m : Nat) (x : Oper) : List Oper → List Nat → Nat → Bool
  | y :: r, n :: ns, k => pairOK ops i m x k n y && allPairs ops i m x r ns (k + 1)
  | _, _, _ => true
def pairsOK (ops : Array Oper) (l : List Oper) (ms : List Nat) : List Oper → List Nat → Nat → Bool
  | x :: r, m :: ns, i => allPairs ops i m x l ms 0 && guardOK x m && pairsOK ops l ms r ns (i + 1)
  | _, _, _ => true
def masksOf : List Oper → List Nat → List Nat
  | [], acc => acc
  | o :: r, acc => masksOf r (acc ++ [maskOf acc o.after.toList])
def edgesAll : List Oper → Nat → Bool
  | [], _ => true
  | o :: r, k => edgesOK k o.after.toList && edgesAll r (k + 1)
def drawOK (ops : Array Oper) (ms : List Nat) : Bool := edgesAll ops.toList 0 && pairsOK ops ops.toList ms ops.toList ms 0
/-- The row that grows lay there before the region, or comes of an operation ahead (n: the region's first number; m: what is ahead). -/
def growOK (n m : Nat) : Upd U → Bool
  | .grow old _ => decide (old < 16 * n) || m.testBit (old / 16 - n)
  | .set id _ _ => decide (id < n) || m.testBit (id - n)
  | _ => true
def updOK (o : Oper) : Upd U → Bool
  | .set _ _ _ => isStore o
  | .box _ _ => usesHeap o
  | .grow _ _ => isApp o
  | _ => true
def isPl : TV → Bool | .pl _ => true | _ => false
/-- Which block an operation looks at (under a guard: any). -/
def adrOf (o : Oper) : Option Operand := match o.op with | .load _ x => some x | .store _ x _ => some x | .convert _ _ x => some x | _ => none
def touch0 (s : St U) (o : Oper) (id : Nat) : Bool := match adrOf o with
  | some x => match s.ev x with | .one (.ptr id' _) => id' == id | .one (.av id' _ _) => id' == id | _ => false
  | none => false
def touch (s : St U) (o : Oper) (id : Nat) : Bool := match o.guard with | some _ => true | none => touch0 s o id
/-- A store, and one that looks at its block: one of them is ahead of the other one. -/
def heapPair (s : St U) (ms : List Nat) (full : List (Eff U)) (i : Nat) (o : Oper) : List (Eff U) → Nat → Bool
  | e :: r, k => (match e.u with | .set id _ _ => (i == k) || (ms.getD k 0).testBit i || (ms.getD i 0).testBit k || !touch (stOf (ms.getD i 0).testBit full s) o id | _ => true) && heapPair s ms full i o r (k + 1)
  | [], _ => true
def heapOK (E : Nat → Bool) (s : St U) (ms : List Nat) (full : List (Eff U)) : List Oper → Nat → Bool
  | o :: r, i => (!E i || !usesHeap o || heapPair s ms full i o full 0) && heapOK E s ms full r (i + 1)
  | [], _ => true
def dumE : Eff U := ⟨none, .pl (.one .junk), .none⟩

/-- The operations of E in the order of the text, each over what must have come up ahead of it; then all of them. -/
def runDraw (ops : Array Oper) (s : St U) (E : Nat → Bool) (all : List Nat) : List Oper → List Nat → Nat → List (Eff U) → (List (Eff U) → Prop) → Prop
  | o :: r, m :: ms, i, effs, K => match E i with
    | true => match rstepE P Γ ops (stOf (fun k => m.testBit k) effs s) (s.next + i) o with
      | some (ob, v, u) => match fidsOK (s.next + i) u && updOK o u && growOK s.next m u && setOK s u with
        | true => andP ob (runDraw ops s E all r ms (i + 1) (effs ++ [⟨o.dst, v, u⟩]) K)
        | false => False
      | none => False
    | false => runDraw ops s E all r ms (i + 1) (effs ++ [dumE]) K
  | [], _, _, effs, K => match heapOK E s all effs ops.toList 0 with
    | true => K effs
    | false => False
  | _, _, _, _, _ => False

/-- A call that is read where it stands. -/
def callHere (o : Oper) : Bool := match o.op with
  | .call c => match c.callee with
    | .value (.func f) => match Γ.c f with | some _ => false | none => true
    | .value (.tmp _) => true
    | .builtin .append => xOn Γ && o.guard.isNone && (match o.dst with | some d => (match Γ.gl (995000000 + d) with | some _ => false | none => true) | none => true)
    | _ => false
  | .makeSlice _ _ _ => xOn Γ && o.guard.isNone
  | .store _ (.tmp t) _ => o.guard.isNone && (match Γ.gl (990000000 + t) with | some _ => true | none => false)
  | _ => false
def nextCall (Z : Nat) : List Oper → Nat → Option Nat
  | [], _ => none
  | o :: r, i => match callHere Γ o && !Z.testBit i with | true => some i | false => nextCall Z r (i + 1)
/-- What may come up ahead of the call c. -/
def early (Z : Nat) (c : Option Nat) (ms : List Nat) (i : Nat) : Bool := !Z.testBit i && (match c with | none => true | some c => !(i == c) && !(ms.getD i 0).testBit c)
/-- What may come up ahead of the call c, or behind it. -/
def freeX (Z c : Nat) (ms : List Nat) (i : Nat) : Bool := early Z (some c) ms i && !(ms.getD c 0).testBit i
def belowA (n : Nat) : Atom → Bool
  | .v _ => true
  | .ptr id _ => decide (id < n)
  | .el fid _ _ _ => decide (fid < 16 * n)
  | .sl fid => decide (fid < 16 * n)
  | .fn _ caps => caps.all fun p => decide (p.1 < n)
  | .gl _ _ => true
  | .av id _ _ => decide (id < n)
  | .yl id => decide (id < n)
  | .junk => true
def belowSV (n : Nat) : SV → Bool
  | .one a => belowA n a
  | .agg l => l.all (belowA n)
  | .tup _ => false
def xOK (n : Nat) (X : Nat → Bool) : List (Eff U) → Nat → Bool
  | [], _ => true
  | e :: r, i => (match X i with | true => (match e.u, e.v with | .none, .pl x => belowSV n x | _, _ => false) | false => true) && xOK n X r (i + 1)
def oldOf (X : Nat → Bool) : List (Eff U) → Nat → List (Nat × SV)
  | [], _ => []
  | e :: r, i => match X i, e.v with | true, .pl x => (i, x) :: oldOf X r (i + 1) | _, _ => oldOf X r (i + 1)
def junkX (X : Nat → Bool) : List (Eff U) → Nat → List TV → List TV
  | [], _, t => t
  | e :: r, i, t => junkX X r (i + 1) (match X i, e.dst with | true, some d => t.set d (.pl (.one .junk)) | _, _ => t)
/-- Where the call stands; X: what may come up behind it is not looked at. -/
def midSt (s : St U) (X : Nat → Bool) (m : Nat) (effs : List (Eff U)) (n : Nat) : St U :=
  { stOf m.testBit effs s with tmps := junkX X effs 0 (stOf m.testBit effs s).tmps, next := s.next + n, log := logsOf effs ++ s.log }
def atomSame : Atom → Atom → Option Prop
  | .v x, .v y => some (x = y)
  | .sl f, .sl g => match decide (f = g) with | true => none | false => some False
  | .ptr a b, .ptr c d => match decide (a = c) && decide (b = d) with | true => none | false => some False
  | .gl a b, .gl c d => match decide (a = c) && decide (b = d) with | true => none | false => some False
  | .el a b c d, .el a' b' c' d' => match decide (a = a') && decide (c = c') && decide (d = d') with | true => some (b = b') | false => some False
  | _, _ => some False
def andO : Option Prop → Option Prop → Option Prop
  | none, q => q
  | some p, none => some p
  | some p, some q => some (p ∧ q)
def atomsSame : List Atom → List Atom → Option Prop
  | [], [] => none
  | a :: r, b :: r' => andO (atomSame a b) (atomsSame r r')
  | _, _ => some False
def svSame : SV → SV → Option Prop
  | .one a, .one b => atomSame a b
  | .agg l, .agg l' => atomsSame l l'
  | _, _ => some False
/-- What was told of operations ahead of the call is told of them behind it. -/
def sameOld (effs : List (Eff U)) : List (Nat × SV) → Option Prop
  | [] => none
  | (i, x) :: r => match effs[i]? with
    | some ⟨_, .pl y, .none⟩ => andO (svSame x y) (sameOld effs r)
    | _ => some False
def baseOK (s : St U) (Z : Nat) : List Oper → Nat → Bool
  | [], _ => true
  | o :: r, i => (Z.testBit i || putOK s o.dst) && baseOK s Z r (i + 1)
def isBox : Upd U → Bool
  | .box _ _ => true
  | _ => false
def boxAt (effs : List (Eff U)) (k : Nat) : Bool := match effs[k]? with | some e => isBox e.u | none => false
/-- Which new blocks, among those that may come up on either side of the call, are there at the call: each choice. -/
def boxMasks (X : Nat → Bool) : List (Eff U) → Nat → Nat → List Nat
  | [], _, m => [m]
  | e :: r, i, m => match X i && isBox e.u with
    | true => boxMasks X r (i + 1) (m ||| (1 <<< i)) ++ boxMasks X r (i + 1) m
    | false => boxMasks X r (i + 1) m
/-- What else may come up on either side of the call. -/
def freeY (Z c : Nat) (ms : List Nat) (effs : List (Eff U)) (m i : Nat) : Bool := early Z (some c) ms i && !m.testBit i && !boxAt effs i
def allV : List Nat → (Nat → Prop) → Prop
  | [], _ => True
  | [m], f => f m
  | m :: r, f => f m ∧ allV r f
/-- The calls come one behind the other. -/
def chainOK (Z c : Nat) (ms : List Nat) : List Oper → Nat → Bool
  | [], _ => true
  | o :: r, i => (!callHere Γ o || Z.testBit i || (i == c) || (ms.getD i 0).testBit c) && chainOK Z c ms r (i + 1)
/-- Part by part, from call to call. Z: what has come up; old: what was told of operations that may stand on either side. -/
def drawC (I : Inl U) (st : List Nat) (ops : Array Oper) (ms : List Nat) (K : Ctl → St U → Prop) : Nat → Nat → List (Nat × SV) → St U → Prop
  | 0, _, _, _ => False
  | n + 1, Z, old, s => match baseOK s Z ops.toList 0 with
    | false => False
    | true => match nextCall Γ Z ops.toList 0 with
      | none => runDraw P Γ ops s (early Z none ms) ms ops.toList ms 0 [] fun effs => andP (sameOld effs old) (K .normal (clear { stOf (fun _ => true) effs s with next := s.next + ops.size, log := logsOf effs ++ s.log }))
      | some c => match chainOK Γ Z c ms ops.toList 0 with
        | false => False
        | true => runDraw P Γ ops s (early Z (some c) ms) ms ops.toList ms 0 [] fun effs => andP (sameOld effs old) (allV (boxMasks (freeX Z c ms) effs 0 (ms.getD c 0)) fun m => match xOK (s.next + ops.size) (freeY Z c ms effs m) effs 0, ops[c]? with
          | true, some o => match special P Γ I ((3000000 + c) :: st) ops (midSt s (freeY Z c ms effs m) m effs ops.size) o (thenPut o.dst fun s2 => drawC I st ops ms K n (Z ||| m ||| (1 <<< c)) (oldOf (freeY Z c ms effs m) effs 0) s2) (fun v s' => K (.panic v) (clear s')) with
            | some p => p
            | none => False
          | _, _ => False)
def runRegion (I : Inl U) (st : List Nat) (ops : Array Oper) (s : St U) (K : Ctl → St U → Prop) : Prop := match P.follows .mixedOrders && drawOK ops (masksOf ops.toList []) with
  | true => drawC P Γ I st ops (masksOf ops.toList []) K 24 0 [] s
  | false => False

def thenK (nx : St U → Prop) (K : Ctl → St U → Prop) : Ctl → St U → Prop
  | .normal, s => nx s
  | e, s => K e s
def blockK (id : Nat) (K : Ctl → St U → Prop) : Ctl → St U → Prop
  | .exit j, s => if j = id then K .normal s else K (.exit j) s
  | e, s => K e s

/-! ### Loops -/
/-- What a round's head is told to hold: temporaries, cells of blocks (t: the temporary that points there; id: the block), rows. -/
inductive Mod (U : Uni) where
  | tv (t : Nat) (v : Value)
  | tr (t : Nat) (c : U.C) (l : List (U.T c)) (own : Bool)
  | cv (t off : Nat) (v : Value)
  | cr (t off : Nat) (c : U.C) (l : List (U.T c)) (own : Bool)
  | cj (t off : Nat)
  /-- A row that is written in, by the temporary, or the cell, that holds it: its elements; cx: it is another one. -/
  | xt (t : Nat) (c : U.C) (l : List (U.T c))
  | xc (t off : Nat) (c : U.C) (l : List (U.T c))
  | cx (t off : Nat) (c : U.C) (l : List (U.T c))
/-- What a call that is read where it stands comes to, whatever its way: ins: the cells (argument, offset) that are looked at; go: of what stands there, what stands there behind the call (argument, offset, value), and the results. -/
structure Cut where
  ins : List (Nat × Nat)
  go : List Value → List (Nat × Nat × Value) × List (Bool × List Value)
/-- N: how many rounds at most; mods: what the head of round k holds. -/
structure Ann (U : Uni) where
  N : Nat
  mods : Nat → List (Mod U)
  inv : Nat → Prop := fun _ => True
  un : Option Nat := none
  cut : Option Cut := none
  join : Bool := false
/-- By the rounds of the loops around, and the loop's first region. -/
abbrev Anns (U : Uni) := List Nat → Nat → Option (Ann U)

def firstReg : Code → Option Nat
  | .region id _ _ => some id
  | .seq a b => match firstReg a with | some x => some x | none => firstReg b
  | .cond _ a b => match firstReg a with | some x => some x | none => firstReg b
  | .block _ c => firstReg c
  | .loop c => firstReg c
  | .scope c => firstReg c
  | _ => none
def dsts : List Oper → List Nat
  | [] => []
  | o :: r => match o.dst with | some d => d :: dsts r | none => dsts r
def writes : Code → List Nat
  | .region _ ops _ => dsts ops.toList
  | .seq a b => writes a ++ writes b
  | .cond _ a b => writes a ++ writes b
  | .block _ c => writes c
  | .loop c => writes c
  | .scope c => writes c
  | _ => []
def mem2 (i k : Nat) : List (Nat × Nat) → Bool
  | [] => false
  | (j, l) :: r => if i = j ∧ k = l then true else mem2 i k r

def cleanA (n : Nat) : Atom → Atom
  | .v x => .v x
  | .ptr id off => if id < n then .ptr id off else .junk
  | .el fid i sz off => if fid < 16 * n then .el fid i sz off else .junk
  | .sl fid => if fid < 16 * n then .sl fid else .junk
  | .fn f caps => if caps.all (fun p => decide (p.1 < n)) then .fn f caps else .junk
  | .gl g off => .gl g off
  | .av id off m => if id < n then .av id off m else .junk
  | .yl id => if id < n then .yl id else .junk
  | .junk => .junk
def cleanSV (n : Nat) : SV → SV
  | .one a => .one (cleanA n a)
  | .agg l => .agg (l.map (cleanA n))
  | .tup _ => .one .junk
def cleanT (n : Nat) (W : List Nat) : Nat → List TV → List TV
  | _, [] => []
  | i, x :: r => (if mem i W then .pl (.one .junk) else match x with | .pl x => .pl (cleanSV n x) | .opt _ _ _ => .pl (.one .junk)) :: cleanT n W (i + 1) r
def cleanC (n : Nat) (M : List (Nat × Nat)) (id : Nat) : Nat → List Atom → List Atom
  | _, [] => []
  | j, x :: r => (if mem2 id j M then .junk else cleanA n x) :: cleanC n M id (j + 1) r
def cleanH (n : Nat) (M : List (Nat × Nat)) : List (Nat × TypeId × List Atom) → List (Nat × TypeId × List Atom)
  | [] => []
  | (id, t, cs) :: r => if id < n then (id, t, cleanC n M id 0 cs) :: cleanH n M r else cleanH n M r
def cleanR (n : Nat) : List (Nat × Row U) → List (Nat × Row U)
  | [] => []
  | (fid, r) :: rs => if fid < 16 * n then (fid, ⟨r.c, r.l, false⟩) :: cleanR n rs else cleanR n rs
/-- What a round leaves as it was. -/
def base (n : Nat) (W : List Nat) (M : List (Nat × Nat)) (s : St U) : St U := ⟨cleanT n W 0 s.tmps, cleanH n M s.heap, cleanR n s.rows, n, [], []⟩

/-- Where a temporary points; from 1000000 on: a block by its number. -/
def ptrOf (s : St U) (t : Nat) : Option (Nat × Nat) := match Nat.ble 1000000 t with
  | true => some (t - 1000000, 0)
  | false => match s.ev (.tmp t) with | .one (.ptr id off) => some (id, off) | _ => none
/-- The cells that the mods speak of. -/
def modCells (s : St U) : List (Mod U) → List (Nat × Nat)
  | [] => []
  | .cv t off _ :: r | .cr t off _ _ _ :: r | .cj t off :: r | .cx t off _ _ :: r => match ptrOf s t with
    | some (id, o) => (id, o + off) :: modCells s r
    | none => modCells s r
  | _ :: r => modCells s r
def setAt (l : List Atom) (i : Nat) (x : Atom) : List Atom := l.set i x
/-- The head's state: what is left as it was, and the mods. e: the state in which the pointers are looked up. -/
def addMods (e : St U) : List (Mod U) → Nat → St U → St U
  | [], _, h => h
  | .tv t v :: r, k, h => addMods e r (k + 1) { h with tmps := h.tmps.set t (.pl (.one (.v v))) }
  | .tr t c l own :: r, k, h => addMods e r (k + 1) { h with tmps := h.tmps.set t (.pl (.one (.sl (16 * k)))), rows := (16 * k, ⟨c, l, own⟩) :: h.rows }
  | .cv t off v :: r, k, h => match ptrOf e t with
    | some (id, o) => addMods e r (k + 1) { h with heap := upd1 id (fun cs => setAt cs (o + off) (.v v)) h.heap }
    | none => addMods e r (k + 1) h
  | .cr t off c l own :: r, k, h => match ptrOf e t with
    | some (id, o) => addMods e r (k + 1) { h with heap := upd1 id (fun cs => setAt cs (o + off) (.sl (16 * k))) h.heap, rows := (16 * k, ⟨c, l, own⟩) :: h.rows }
    | none => addMods e r (k + 1) h
  | .cj _ _ :: r, k, h => addMods e r (k + 1) h
  | .xt _ _ _ :: r, k, h => addMods e r (k + 1) h
  | .xc _ _ _ _ :: r, k, h => addMods e r (k + 1) h
  | .cx t off _ _ :: r, k, h => match ptrOf e t with
    | some (id, o) => addMods e r (k + 1) { h with heap := upd1 id (fun cs => setAt cs (o + off) (.sl (16 * k))) h.heap }
    | none => addMods e r (k + 1) h
/-- The row that a mod speaks of. -/
def xAtom : Option Atom → Option Nat
  | some (.sl fid) => some fid
  | _ => none
def xSource (e s : St U) : Mod U → Option Nat
  | .xt t _ _ => match s.ev (.tmp t) with | .one a => xAtom (some a) | _ => none
  | .xc t off _ _ | .cx t off _ _ => match ptrOf e t with
    | some (id, o) => match look id s.heap with | some (_, cs) => xAtom cs[o + off]? | none => none
    | none => none
  | _ => none
/-- What a cell holds. -/
def xCell (e s : St U) (t off : Nat) : Option Atom := match ptrOf e t with
  | some (id, o) => match look id s.heap with | some (_, cs) => cs[o + off]? | none => none
  | none => none
def xSources (e s : St U) : List (Mod U) → List Nat
  | [] => []
  | m :: r => match xSource e s m with | some f => f :: xSources e s r | none => xSources e s r
/-- The records but for some rows, and for what is newer. -/
def keepX (n : Nat) (fs : List Nat) : List (Nat × RS U) → List (Nat × RS U)
  | [] => []
  | (k, .row c l) :: r => match mem (k - 1000000000) fs || !(Nat.ble 1000000000 k) || Nat.ble (16 * n) (k - 1000000000) with | true => keepX n fs r | false => (k, .row c l) :: keepX n fs r
  | x :: r => x :: keepX n fs r
/-- The rows that the mods tell of. -/
def newX (e : St U) : List (Mod U) → Nat → List (Nat × RS U)
  | [], _ => []
  | .xt t c l :: r, k => match xSource e e (.xt t c l) with | some f => (f + 1000000000, .row c l) :: newX e r (k + 1) | none => newX e r (k + 1)
  | .xc t off c l :: r, k => match xSource e e (.xc t off c l) with | some f => (f + 1000000000, .row c l) :: newX e r (k + 1) | none => newX e r (k + 1)
  | .cx _ _ c l :: r, k => (16 * k + 1000000000, .row c l) :: newX e r (k + 1)
  | _ :: r, k => newX e r (k + 1)
def recsHead (e : St U) (ms : List (Mod U)) : List (Nat × RS U) := newX e ms e.next ++ keepX e.next (xSources e e ms) e.recs
def headOf (W : List Nat) (s : St U) (ms : List (Mod U)) : St U :=
  { addMods s ms s.next (base s.next W (modCells s ms) s) with next := s.next + ms.length, log := [], recs := recsHead s ms }
/-- What the mods write. -/
def mcLog : List (Nat × Nat) → List (Nat × Nat × Nat)
  | [] => []
  | (id, o) :: r => (id, o, 1) :: mcLog r
def within2 (id off : Nat) (M : List (Nat × Nat)) : Nat → Bool
  | 0 => true
  | n + 1 => mem2 id (off + n) M && within2 id off M n
/-- All that was written is among some cells, or newer. -/
def covers (n : Nat) (M : List (Nat × Nat)) : List (Nat × Nat × Nat) → Bool
  | [] => true
  | (id, off, len) :: r => (match Nat.ble n id with | true => true | false => (match len with | 0 => false | _ + 1 => within2 id off M len)) && covers n M r
def modsOK (W : List Nat) : List (Mod U) → Bool
  | [] => true
  | .tv t _ :: r => mem t W && modsOK W r
  | .tr t _ _ _ :: r => mem t W && modsOK W r
  | _ :: r => modsOK W r

def rowIs (r : Row U) (c : U.C) (l : List (U.T c)) : Prop := match U.dec r.c c with
  | .isTrue h => h ▸ r.l = l
  | .isFalse _ => False
def atomIs (s : St U) (a : Atom) (c : U.C) (l : List (U.T c)) (own : Bool) : Prop := match a with
  | .sl fid => match look fid s.rows with
    | some r => (match own with | true => (match r.own with | true => True | false => False) | false => True) ∧ rowIs r c l
    | none => False
  | .v (.slice none 0 0) => l = []
  | _ => False
/-- The block of an owned row, by its number here. -/
def ownsOf (e s : St U) : Mod U → List Nat
  | .tr t _ _ true => match s.ev (.tmp t) with | .one (.sl fid) => [fid] | _ => []
  | .cr t off _ _ true => match ptrOf e t with
    | some (id, o) => match look id s.heap with
      | some (_, cs) => match cs[o + off]? with | some (.sl fid) => [fid] | _ => []
      | none => []
    | none => []
  | _ => []
def ownsAll (e s : St U) : List (Mod U) → List Nat
  | [] => []
  | m :: r => ownsOf e s m ++ ownsAll e s r
def nodup : List Nat → Bool
  | [] => true
  | x :: r => !mem x r && nodup r
/-- What a state must say so that it is the head told by the mods; e: the state in which the pointers are looked up. -/
def fitMods (e s : St U) : List (Mod U) → Prop
  | [] => True
  | [m] => fit1 m
  | m :: r => fit1 m ∧ fitMods e s r
where
  fit1 : Mod U → Prop
    | .tv t v => match s.ev (.tmp t) with | .one (.v x) => x = v | _ => False
    | .tr t c l own => match s.ev (.tmp t) with | .one a => atomIs s a c l own | _ => False
    | .cv t off v => match ptrOf e t with
      | some (id, o) => match look id s.heap with
        | some (_, cs) => match cs[o + off]? with | some (.v x) => x = v | _ => False
        | none => False
      | none => False
    | .cr t off c l own => match ptrOf e t with
      | some (id, o) => match look id s.heap with
        | some (_, cs) => match cs[o + off]? with | some a => atomIs s a c l own | none => False
        | none => False
      | none => False
    | .cj _ _ => True
    | .xt t c l => fitX (xSource e s (.xt t c l)) c l
    | .xc t off c l => fitX (xSource e s (.xc t off c l)) c l
    | .cx t off c l => match xCell e s t off with
      | some (.v (.slice none 0 0)) => (match U.flat c with | true => l = [] | false => False)
      | _ => fitX (xSource e s (.cx t off c l)) c l
  fitX (f : Option Nat) (c : U.C) (l : List (U.T c)) : Prop := match f with
    | some fid => match xAt s fid with | some r => rowIs r c l | none => False
    | none => False

def rsEq : RS U → RS U → Bool
  | .ready, .ready => true
  | .busy, .busy => true
  | .row c _, .row c' _ => match U.dec c c' with | .isTrue _ => true | .isFalse _ => false
  | _, _ => false
/-- The ranges stand as they did; the rows that are written in are those that there were. -/
def recsEq : List (Nat × RS U) → List (Nat × RS U) → Bool
  | [], [] => true
  | (i, x) :: a, (j, y) :: b => (match decide (i = j), rsEq x y with | true, true => recsEq a b | _, _ => false)
  | _, _ => false
/-- .. with the same elements. -/
def recsP : List (Nat × RS U) → List (Nat × RS U) → Option Prop
  | (_, .row c l) :: a, (_, .row c' l') :: b => andO (some (rowIs ⟨c, l, true⟩ c' l')) (recsP a b)
  | _ :: a, _ :: b => recsP a b
  | _, _ => none
/-- A row that stays where it is told of is the one that it was. -/
def sameX (e s : St U) : List (Mod U) → Bool
  | [] => true
  | .xt t c l :: r => (match xSource e s (.xt t c l), xSource e e (.xt t c l) with | some a, some b => Nat.beq a b && decide (a < 16 * e.next) | _, _ => false) && sameX e s r
  | .xc t off c l :: r => (match xSource e s (.xc t off c l), xSource e e (.xc t off c l) with | some a, some b => Nat.beq a b && decide (a < 16 * e.next) | _, _ => false) && sameX e s r
  | _ :: r => sameX e s r
/-- The records at the round's end are those of the head. -/
def recsFit0 (e s : St U) (ms : List (Mod U)) : Bool := nodup (xSources e s ms) && sameX e s ms
def recsFit (e s : St U) (ms : List (Mod U)) : Bool := recsFit0 e s ms && recsEq (keepX e.next (xSources e s ms) s.recs) (keepX e.next (xSources e e ms) e.recs)
def recsFitP (e s : St U) (ms : List (Mod U)) : Option Prop := recsP (keepX e.next (xSources e s ms) s.recs) (keepX e.next (xSources e e ms) e.recs)
/-- The round's end, or where the loop is left. -/
def loopK (_ : List Nat) (e : St U) (an : Ann U) (k : Nat) (K : Ctl → St U → Prop) : Ctl → St U → Prop
  | .normal, s => k < an.N ∧ an.inv (k + 1) ∧ (match nodup (ownsAll e s (an.mods (k + 1))) && covers e.next (modCells e (an.mods (k + 1))) (s.log ++ mcLog (modCells e (an.mods k))) && recsFit e s (an.mods (k + 1)) with | true => andP (recsFitP e s (an.mods (k + 1))) (fitMods e s (an.mods (k + 1))) | false => False)
  | c, s => K c { s with log := s.log ++ (mcLog (modCells e (an.mods k)) ++ e.log) }

/-- Where a text's ways come to one: ahead of a text (4000000 and its first region). -/
def joinOf (An : Anns U) (st : List Nat) (b : Code) : Option (Ann U) := match firstReg b with
  | some key => match An st (4000000 + key) with
    | some an => match an.join with | true => some an | false => none
    | none => none
  | none => none
def joinK (e : St U) (an : Ann U) (K : Ctl → St U → Prop) : Ctl → St U → Prop
  | .normal, s => (match nodup (ownsAll e s (an.mods 0)) && covers e.next (modCells e (an.mods 0)) s.log && recsFit e s (an.mods 0) with | true => andP (recsFitP e s (an.mods 0)) (fitMods e s (an.mods 0)) | false => False)
  | c, s => K c { s with log := s.log ++ e.log }
def joinHead (W : List Nat) (s : St U) (ms : List (Mod U)) : St U := { headOf W s ms with log := mcLog (modCells s ms) ++ s.log }
/-- A loop whose rounds are gone through one by one. -/
def unrollK (f : St U → (Ctl → St U → Prop) → Prop) : Nat → St U → (Ctl → St U → Prop) → Prop
  | 0, _, _ => False
  | m + 1, s, K => f s (thenK (fun s' => unrollK f m s' K) K)
def setPs : List Nat → List SV → List TV → List TV
  | p :: ps, x :: xs, t => setPs ps xs (t.set p (.pl x))
  | _, _, t => t
def two {α : Type _} (x y : α) : Nat → α
  | 0 => x
  | _ => y
/-- Behind a round's body. -/
def afterBody (id : Nat) (s : St U) (Kn : SV → St U → Prop) : Ctl → St U → Prop := fun ctl s3 => match look id s3.recs with
  | some .busy => (match ctl with
    | .normal => Kn (.one (.v (.bool true))) { s3 with tmps := cleanT s.next [] 0 s.tmps, recs := setRec id .ready s3.recs }
    | .ret => Kn (.one (.v (.bool false))) { s3 with tmps := cleanT s.next [] 0 s.tmps, recs := setRec id (.done .ret) s3.recs }
    | .exit i => Kn (.one (.v (.bool false))) { s3 with tmps := cleanT s.next [] 0 s.tmps, recs := setRec id (.done (.exit i)) s3.recs }
    | .panic _ => False
    | .goto _ => False)
  | _ => False
/-- Behind what is assigned. -/
def afterAssign (X : List Nat → St U → (Ctl → St U → Prop) → Prop) (id : Nat) (st : List Nat) (s : St U) (Kn : SV → St U → Prop) : Ctl → St U → Prop := fun ctl s2 => match ctl with
  | .normal => (match look id s2.recs with
    | some .ready => X st { s2 with recs := setRec id .busy s2.recs, next := s2.next + 1 } (afterBody id s Kn)
    | _ => False)
  | _ => False
/-- The body of a range over a function, as what is called. id: its record; T: the caller's temporaries; X: how its texts are run (0: what is assigned). -/
def roundH (X : Nat → List Nat → St U → (Ctl → St U → Prop) → Prop) (id : Nat) (T : List TV) (ps : List Nat) (Y : YH U) : YH U := fun id' st args s Kn Kp => match decide (id' = id) with
  | false => Y id' st args s Kn Kp
  | true => match look id s.recs, decide (args.length = ps.length) with
    | some .ready, true => some (X 0 (2000000 :: st) { s with tmps := setPs ps args T, next := s.next + 1 } (afterAssign (X 1) id (2000000 :: st) s Kn))
    | _, _ => none
/-- What follows the range. -/
def rangeK (id : Nat) (K : Ctl → St U → Prop) : SV → St U → Prop := fun _ s => match look id s.recs with
  | some .ready => K .normal { s with recs := dropRec id s.recs }
  | some (.done .ret) => K .ret { s with recs := dropRec id s.recs }
  | some (.done (.exit i)) => K (.exit i) { s with recs := dropRec id s.recs }
  | _ => False
/-- Ahead of some regions the rows that are written in become rows as all others are. -/
def frzAt (id : Nat) (s : St U) : St U := freezeL (match Γ.gl (980000000 + id) with | some _ => xKeys s.recs | none => []) s
/-- The run of a text: what must hold so that K holds wherever it ends. rd: is it a range's body. -/
def exec (J : YH U → Inl U) (Y : YH U) (An : Anns U) : Code → Bool → List Nat → St U → (Ctl → St U → Prop) → Prop
  | .skip, _, _, s, K => K .normal s
  | .region _ ops false, _, st, s, K => runOps P Γ (J Y) st ops ops.toList s K
  | .region id ops true, _, st, s, K => runRegion P Γ (J Y) st ops (frzAt Γ id s) K
  | .seq a b, rd, st, s, K => match joinOf An st b with
    | none => exec J Y An a rd st s (thenK (fun s' => exec J Y An b rd st s' K) K)
    | some an => exec J Y An a rd st { s with log := [] } (joinK s an K) ∧ (match modsOK (writes a) (an.mods 0) with | true => exec J Y An b rd st (joinHead (writes a) s (an.mods 0)) K | false => False)
  | .cond c a b, rd, st, s, K => match s.ev c with
    | .one (.v (.bool t)) => (t = true → exec J Y An a rd st s K) ∧ (t = false → exec J Y An b rd st s K)
    | _ => False
  | .block id c, rd, st, s, K => exec J Y An c rd st s (blockK id K)
  | .exit id, _, _, s, K => K (.exit id) s
  | .label _, _, _, s, K => K .normal s
  | .goto l, _, _, s, K => K (.goto l) s
  | .ret, _, _, s, K => K .ret s
  | .loop c, rd, st, s, K => match firstReg c with
    | some key => match An st key with
      | some an => (match an.un with
      | some m => unrollK (fun s K => exec J Y An c rd st s K) m s K
      | none => an.inv 0 ∧ (match nodup (ownsAll s s (an.mods 0)) && recsFit0 s s (an.mods 0) with | true => fitMods s s (an.mods 0) | false => False) ∧ ∀ k, k ≤ an.N → an.inv k → (match modsOK (writes c) (an.mods k) with | true => exec J Y An c rd (k :: st) (headOf (writes c) s (an.mods k)) (loopK (writes c) s an k K) | false => False))
      | none => False
    | none => False
  | .rangeFunc g ps assign body, rd, st, s, K => match rd, calOf (s.ev g) with
    | false, some (.fn f, ex) => match conHas Γ (.fn f) with
      | true => False
      | false => match J (roundH (two (fun st s K => exec J Y An assign true st s K) (fun st s K => exec J Y An body true st s K)) s.next (cleanT s.next [] 0 s.tmps) ps.toList Y) st (.fn f) (.one (.yl s.next) :: ex) { s with next := s.next + 1, recs := (s.next, .ready) :: s.recs } (rangeK s.next K) (fun _ _ => False) with
        | some p => p
        | none => False
    | _, _ => False
  | _, _, _, _, _ => False

/-! ### A function -/
def resSV (s : St U) : ResultVar → Option SV
  | .tmp t => some (s.ev (.tmp t))
  | .cell a t => match s.ev (.tmp a), tySize P t, tyAgg P t with
    | .one (.ptr id off), some n, some g => match look id s.heap with
      | some (_, cs) => match g with
        | true => if ((cs.drop off).take n).length = n then some (.agg ((cs.drop off).take n)) else none
        | false => match cs[off]? with | some a => some (.one a) | none => none
      | none => none
    | _, _, _ => none
def resDs (s : St U) : List ResultVar → List TypeId → Option (List (D U))
  | [], _ => some []
  | x :: r, t :: ts => match resSV P s x with
    | some v => match dOf P Γ s t v with
      | some d => match resDs s r ts with | some ds => some (d :: ds) | none => none
      | none => none
    | none => none
  | _, _ => none
def outRes (s : St U) (l : List ResultVar) (ts : List TypeId) : Option (Out U) := match resDs P Γ s l ts with
  | some [d] => some (.one d)
  | some ds => some (.tup ds)
  | none => none
/-! ### A function that is read where it is called -/
def partOf : SV → Option (Bool × List Atom)
  | .one a => some (false, [a])
  | .agg l => some (true, l)
  | .tup _ => none
def partsR (s : St U) : List ResultVar → Option (List (Bool × List Atom))
  | [] => some []
  | x :: r => match resSV P s x with
    | some v => match partOf v with
      | some p => match partsR s r with | some l => some (p :: l) | none => none
      | none => none
    | none => none
def retSV (s : St U) : List ResultVar → Option SV
  | [x] => resSV P s x
  | l => match partsR P s l with | some ps => some (.tup ps) | none => none
/-- The caller goes on, its temporaries as they were. -/
def backK (fn : Func) (s : St U) (Kn Kp : SV → St U → Prop) : Ctl → St U → Prop
  | .exit _, _ => False
  | .goto _, _ => False
  | .panic v, s' => Kp v { s' with tmps := cleanT s.next [] 0 s.tmps }
  | _, s' => match retSV P s' fn.results.toList with
    | some v => Kn v { s' with tmps := cleanT s.next [] 0 s.tmps }
    | none => False
def entryT (fn : Func) (args : List SV) : List TV := args.map .pl ++ List.replicate (fn.ntmps - args.length) (.pl (.one .junk))
def partsSame : List (Bool × List Atom) → List (Bool × List Atom) → Option Prop
  | [], [] => none
  | (b, l) :: r, (b', l') :: r' => match decide (b = b') with
    | true => andO (atomsSame l l') (partsSame r r')
    | false => some False
  | _, _ => some False
def svSameT : SV → SV → Option Prop
  | .tup l, .tup l' => partsSame l l'
  | x, y => svSame x y
def resOf : List (Bool × List Value) → SV
  | [(false, [x])] => .one (.v x)
  | [(true, l)] => .agg (l.map Atom.v)
  | l => .tup (l.map fun p => (p.1, p.2.map Atom.v))
def cutIns (s : St U) (args : List SV) : List (Nat × Nat) → Option (List Value)
  | [] => some []
  | (i, off) :: r => match args[i]? with
    | some (.one (.ptr id o)) => match look id s.heap with
      | some (_, cs) => match cs[o + off]? with
        | some (.v x) => match cutIns s args r with | some l => some (x :: l) | none => none
        | _ => none
      | none => none
    | some (.one (.v x)) => match cutIns s args r with | some l => some (x :: l) | none => none
    | _ => none
def cutMods (args : List SV) : List (Nat × Nat × Value) → Option (List (Mod U))
  | [] => some []
  | (i, off, v) :: r => match args[i]? with
    | some (.one (.ptr id o)) => match cutMods args r with | some l => some (.cv (1000000 + id) (o + off) v :: l) | none => none
    | _ => none
def cleanRK (n : Nat) : List (Nat × Row U) → List (Nat × Row U)
  | [] => []
  | (fid, r) :: rs => if fid < 16 * n then (fid, r) :: cleanRK n rs else cleanRK n rs
/-- As base, but that rows stay one's own. -/
def baseK (n : Nat) (M : List (Nat × Nat)) (s : St U) : St U := ⟨cleanT n [] 0 s.tmps, cleanH n M s.heap, cleanRK n s.rows, n, [], []⟩
def boolEq : Bool → Bool → Bool
  | true, true => true
  | false, false => true
  | _, _ => false
/-- The rows that were there are one's own, as they were. -/
def flagsEq : List (Nat × Row U) → List (Nat × Row U) → Bool
  | [], [] => true
  | (_, x) :: a, (_, y) :: b => boolEq x.own y.own && flagsEq a b
  | _, _ => false
/-- Behind the call all ways are one. -/
def cutHead (s : St U) (ms : List (Mod U)) : St U := { addMods s ms s.next (baseK s.next (modCells s ms) s) with next := s.next + ms.length, log := mcLog (modCells s ms) ++ s.log, recs := keepX s.next [] s.recs }
def cutFit (s : St U) (ms : List (Mod U)) (r : List (Bool × List Value)) (v : SV) (s' : St U) : Prop :=
  andP (svSameT v (resOf r)) (match covers s.next (modCells s ms) s'.log && recsEq (keepX s.next [] s'.recs) (keepX s.next [] s.recs) && flagsEq (cleanRK s.next s'.rows) (cleanRK s.next s.rows) with | true => andP (recsP (keepX s.next [] s'.recs) (keepX s.next [] s.recs)) (fitMods s s' ms) | false => False)
def onlyCv : List (Mod U) → Bool
  | [] => true
  | .cv _ _ _ :: r => onlyCv r
  | _ => false
def cutI (An : Anns U) (f : Nat) (st : List Nat) (args : List SV) (s : St U) (X : St U → (SV → St U → Prop) → (SV → St U → Prop) → Prop) (Kn Kp : SV → St U → Prop) : Option Prop := match An st (2000000 + f) with
  | some an => match an.cut with
    | some ct => match cutIns s args ct.ins with
      | some vs => match ct.go vs with
        | (outs, r) => match cutMods (U := U) args outs with
          | some ms => match onlyCv ms with
            | true => some (X { s with log := [] } (cutFit s ms r) (fun v s' => Kp v { s' with log := s'.log ++ s.log }) ∧ Kn (resOf r) (cutHead s ms))
            | false => none
          | none => none
      | none => none
    | none => some (X s Kn Kp)
  | none => some (X s Kn Kp)
/-- May it be called: it has a text. -/
def callable (n : Nat) : Bool := match P.funcs[n]? with
  | some fn => !(fn.name == "runtime.NumGoroutine") && fn.body.isSome
  | none => false
def inl (An : Anns U) : Nat → YH U → Inl U
  | 0, Y => fun st cal args s Kn Kp => match cal with
    | .yl id => Y id st args s Kn Kp
    | .fn _ => none
  | n + 1, Y => fun st cal args s Kn Kp => match cal with
    | .yl id => Y id st args s Kn Kp
    | .fn f => match callable P f, P.funcs[f]? with
      | true, some fn => match fn.body with
        | some c => cutI An f st args s (fun s Kn Kp => exec P Γ (inl An n) Y An c false ((1000000 + f) :: st) { s with tmps := entryT fn args, next := s.next + 1 } (backK P fn s Kn Kp)) Kn Kp
        | none => none
      | _, _ => none
def noY : YH U := fun _ _ _ _ _ _ => none

def argSV (d : D U) (as : List Atom) : SV := match d.agg with
  | true => .agg as
  | false => match as with | [a] => .one a | _ => .one .junk
def initArgs : List (D U) → Nat → List TV × List (Nat × Row U)
  | [], _ => ([], [])
  | d :: r, j => match atomsOf j d.cs 0 with
    | (as, rs) => match initArgs r (j + 1) with
      | (xs, rs') => (.pl (argSV d as) :: xs, rs ++ rs')
def initOK : List (D U) → Nat → Bool
  | [], _ => true
  | d :: r, j => match atomsOf j d.cs 0 with
    | (_, rs) => decide (rs.length ≤ 16) && initOK r (j + 1)
def initSt (fn : Func) (ds : List (D U)) : St U := match initArgs ds 0 with
  | (xs, rs) => ⟨xs ++ List.replicate (fn.ntmps - ds.length) (.pl (.one .junk)), [], rs, ds.length, [], []⟩
def retK (fn : Func) (Q : Out U → Prop) : Ctl → St U → Prop
  | .exit _, _ => False
  | .goto _, _ => False
  | .panic _, _ => False
  | _, s => match outRes P Γ (freezeAll s) fn.results.toList fn.resultTypes.toList with
    | some out => Q out
    | none => False
/-- The first label of a text's spine. -/
def labelOf : Code → Option Nat
  | .seq a b => match labelOf a with | some l => some l | none => labelOf b
  | .label l => some l
  | _ => none
/-- As loopK, for jumps. -/
def gotoK (l : Nat) (e : St U) (an : Ann U) (k : Nat) (K : Ctl → St U → Prop) : Ctl → St U → Prop
  | .goto l', s => (match decide (l' = l) with
    | true => k < an.N ∧ an.inv (k + 1) ∧ (match nodup (ownsAll e s (an.mods (k + 1))) && covers e.next (modCells e (an.mods (k + 1))) (s.log ++ mcLog (modCells e (an.mods k))) && recsFit e s (an.mods (k + 1)) with | true => andP (recsFitP e s (an.mods (k + 1))) (fitMods e s (an.mods (k + 1))) | false => False)
    | false => False)
  | c, s => K c { s with log := s.log ++ (mcLog (modCells e (an.mods k)) ++ e.log) }
/-- At the first jump: what holds at each, and each pass. -/
def jumpK (X : List Nat → St U → (Ctl → St U → Prop) → Prop) (W : List Nat) (l : Nat) (st : List Nat) (an : Ann U) (K : Ctl → St U → Prop) : Ctl → St U → Prop
  | .goto l', s => (match decide (l' = l) with
    | true => an.inv 0 ∧ (match nodup (ownsAll s s (an.mods 0)) && recsFit0 s s (an.mods 0) with | true => fitMods s s (an.mods 0) | false => False) ∧ ∀ k, k ≤ an.N → an.inv k → (match modsOK W (an.mods k) with | true => X (k :: st) (headOf W s (an.mods k)) (gotoK l s an k K) | false => False)
    | false => False)
  | c, s => K c s
/-- Ends a text in such a one. -/
def jumpy : Code → Bool
  | .scope _ => true
  | .seq _ b => jumpy b
  | _ => false
/-- A text that ends in one in which the run jumps back to one label (An: 5000000 and the label). -/
def execS (J : YH U → Inl U) (Y : YH U) (An : Anns U) : Code → Bool → List Nat → St U → (Ctl → St U → Prop) → Prop
  | .scope c, rd, st, s, K => match labelOf c with
    | some l => match findLabel c l with
      | some rest => match An st (5000000 + l) with
        | some an => exec P Γ J Y An c rd st s (jumpK (fun st s K => exec P Γ J Y An rest rd st s K) (writes rest) l st an K)
        | none => False
      | none => False
    | none => False
  | .seq a b, rd, st, s, K => match jumpy b with
    | true => exec P Γ J Y An a rd st s (thenK (fun s' => execS J Y An b rd st s' K) K)
    | false => exec P Γ J Y An (.seq a b) rd st s K
  | c, rd, st, s, K => exec P Γ J Y An c rd st s K
/-- What must hold so that the function's call on such data comes to data of which Q holds. -/
def fnVC (An : Anns U) (fn : Func) (ds : List (D U)) (Q : Out U → Prop) : Prop := match fn.body with
  | some c => match initOK ds 0 with
    | true => execS P Γ (inl P Γ An 12) noY An c false [] (initSt fn ds) (retK P Γ fn Q)
    | false => False
  | none => False

end
end Go.RX

/- Symbolic runs of Go functions: how a symbolic state stands to the machine's world, and what keeps that. -/
namespace Go.RX
open Go.RowKit

/-- Blocks, rows; o: what lies in blocks that are no cells. -/
structure Nu where
  b : Nat → Option Nat
  f : Nat → Option Value
  o : Nat → Option Obj := fun _ => none

def Nu.le (a b : Nu) : Prop := (∀ k x, a.b k = some x → b.b k = some x) ∧ (∀ k x, a.f k = some x → b.f k = some x) ∧ (∀ k x, a.o k = some x → b.o k = some x)
theorem Nu.le_refl (a : Nu) : a.le a := ⟨fun _ _ h => h, fun _ _ h => h, fun _ _ h => h⟩
theorem Nu.le_trans {a b c : Nu} (h : a.le b) (k : b.le c) : a.le c := ⟨fun i x e => k.1 i x (h.1 i x e), fun i x e => k.2.1 i x (h.2.1 i x e), fun i x e => k.2.2 i x (h.2.2 i x e)⟩
def held : Obj → Prop
  | .loop _ => True
  | .deferred _ => True
  | .cells _ _ fz => fz = (0, 0)
  | _ => False
def isC : Obj → Bool
  | .cells _ _ _ => true
  | _ => false

/-- What an atom stands for. -/
def Den (ν : Nu) : Atom → Value → Prop
  | .v x, y => y = x
  | .ptr id off, y => ∃ b, ν.b id = some b ∧ y = .pointer (some ⟨b, off, none⟩)
  | .el fid i sz off, y => ∃ ad n c, ν.f fid = some (.slice (some ad) n c) ∧ i < n ∧ ad.spot = none ∧ y = .pointer (some ⟨ad.block, ad.off + (i * sz + off), none⟩)
  | .sl fid, y => ν.f fid = some y ∧ oneV y = true
  | .fn f caps, y => ∃ cs : List Value, y = .func (.func f) #[] cs.toArray ∧ cs.length = caps.length ∧ ∀ (j : Nat) (p : Nat × Nat), caps[j]? = some p → ∃ b, ν.b p.1 = some b ∧ cs[j]? = some (Value.pointer (some ⟨b, p.2, none⟩))
  | .gl g off, y => y = .pointer (some ⟨g, off, none⟩)
  | .av id off n, y => ∃ b, ν.b id = some b ∧ y = .slice (some ⟨b, off, none⟩) n n
  | .yl id, y => ∃ l, ν.b id = some l ∧ y = .func (.yield l) #[] #[]
  | .junk, _ => True

def DenL (ν : Nu) (l : List Atom) (r : List Value) : Prop := l.length = r.length ∧ (∀ v ∈ r, oneV v = true) ∧ ∀ (j : Nat) a y, l[j]? = some a → r[j]? = some y → Den ν a y

def DenC (ν : Nu) (agg : Bool) (l : List Atom) (y : Value) : Prop := match agg with
  | true => ∃ arr : Array Value, y = .agg arr ∧ DenL ν l arr.toList
  | false => ∃ a, l = [a] ∧ Den ν a y

def DenSV (ν : Nu) : SV → Value → Prop
  | .one a, y => Den ν a y
  | .agg l, y => ∃ arr : Array Value, y = .agg arr ∧ DenL ν l arr.toList
  | .tup l, y => ∃ arr : Array Value, y = .tuple arr ∧ l.length = arr.size ∧ ∀ (j : Nat) x z, l[j]? = some x → arr[j]? = some z → DenC ν x.1 x.2 z
def DenTV (ν : Nu) (T : Array Value) : TV → Value → Prop
  | .pl x, y => DenSV ν x y
  | .opt d want x, y => (T.getD d undef = .bool want → DenSV ν x y) ∧ (T.getD d undef ≠ .bool want → y = undef)

theorem Den.mono {ν ν' : Nu} (h : ν.le ν') {a : Atom} {y : Value} (d : Den ν a y) : Den ν' a y := by
  cases a with
  | v x => exact (show y = x from d)
  | ptr id off => obtain ⟨b, e, r⟩ := d; exact ⟨b, h.1 _ _ e, r⟩
  | el fid i sz off => obtain ⟨ad, n, c, e, r⟩ := d; exact ⟨ad, n, c, h.2.1 _ _ e, r⟩
  | sl fid => exact ⟨h.2.1 _ _ d.1, d.2⟩
  | fn f caps =>
    obtain ⟨cs, e, l, r⟩ := d
    exact ⟨cs, e, l, fun j p hp => by obtain ⟨b, e1, e2⟩ := r j p hp; exact ⟨b, h.1 _ _ e1, e2⟩⟩
  | gl g off => exact d
  | av id off n => obtain ⟨b, e, r⟩ := d; exact ⟨b, h.1 _ _ e, r⟩
  | yl id => obtain ⟨b, e, r⟩ := d; exact ⟨b, h.1 _ _ e, r⟩
  | junk => exact True.intro
theorem DenL.mono {ν ν' : Nu} (h : ν.le ν') {l : List Atom} {r : List Value} (d : DenL ν l r) : DenL ν' l r := ⟨d.1, d.2.1, fun j a y e1 e2 => (d.2.2 j a y e1 e2).mono h⟩
theorem DenC.mono {ν ν' : Nu} (h : ν.le ν') {g : Bool} {l : List Atom} {y : Value} (d : DenC ν g l y) : DenC ν' g l y := by
  cases g with
  | true => obtain ⟨arr, e, r⟩ := d; exact ⟨arr, e, r.mono h⟩
  | false => obtain ⟨a, e, r⟩ := d; exact ⟨a, e, r.mono h⟩
theorem DenSV.mono {ν ν' : Nu} (h : ν.le ν') {x : SV} {y : Value} (d : DenSV ν x y) : DenSV ν' x y := by
  cases x with
  | one a => exact Den.mono h d
  | agg l => obtain ⟨arr, e, r⟩ := d; exact ⟨arr, e, r.mono h⟩
  | tup l => obtain ⟨arr, e, l1, r⟩ := d; exact ⟨arr, e, l1, fun j x z e1 e2 => (r j x z e1 e2).mono h⟩
theorem DenTV.mono {ν ν' : Nu} (h : ν.le ν') {T : Array Value} {x : TV} {y : Value} (d : DenTV ν T x y) : DenTV ν' T x y := by
  cases x with
  | pl x => exact DenSV.mono h d
  | opt d0 want x => exact ⟨fun e => DenSV.mono h (d.1 e), d.2⟩

/-! ### Slices that are read -/
def CVDen {C : Type} {T : C → Type} (R : (w : World) → (v : Value) → (c : C) → List (T c) → Prop) (w : World) : CV C T → Value → Prop
  | .v x, y => y = x ∧ oneV x = true
  | .sl c l, y => R w y c l
/-- The slice reads as the list, F: the cells that are looked at; d: how deep slices stand in slices. -/
def Reads (U : Uni) (F : Nat → Nat → Prop) : Nat → World → Value → (c : U.C) → List (U.T c) → Prop
  | 0, _, _, _, _ => False
  | d + 1, w, v, c, l => ∃ A n cap, v = .slice A n cap ∧ l.length = n ∧ n ≤ cap ∧ cap ≤ maxLen ∧
      (0 < n → ∃ ad, A = some ad ∧ ad.spot = none ∧ ∀ i (hi : i < l.length) j cv, (U.enc c l[i])[j]? = some cv →
        F ad.block (ad.off + (i * U.size c + j)) ∧ ∃ y, w.cell? ⟨ad.block, ad.off + (i * U.size c + j), none⟩ = some y ∧ CVDen (Reads U F d) w cv y)

theorem Reads.keep {U : Uni} {F F' : Nat → Nat → Prop} {w w' : World} (hF : ∀ b o, F b o → F' b o) (hc : ∀ b o, F b o → w'.cell? ⟨b, o, none⟩ = w.cell? ⟨b, o, none⟩) :
    ∀ {d : Nat} {v : Value} {c : U.C} {l : List (U.T c)}, Reads U F d w v c l → Reads U F' d w' v c l := by
  intro d
  induction d with
  | zero => intro v c l h; exact h.elim
  | succ d ih =>
    rintro v c l ⟨A, n, cap, e1, e2, e3, e4, h⟩
    refine ⟨A, n, cap, e1, e2, e3, e4, fun hn => ?_⟩
    obtain ⟨ad, ea, es, h⟩ := h hn
    refine ⟨ad, ea, es, fun i hi j cv hcv => ?_⟩
    obtain ⟨h1, y, h2, h3⟩ := h i hi j cv hcv
    refine ⟨hF _ _ h1, y, (hc _ _ h1).trans h2, ?_⟩
    cases cv with
    | v x => exact h3
    | sl c' l' => exact ih h3
theorem Reads.slice {U : Uni} {F : Nat → Nat → Prop} {d : Nat} {w : World} {v : Value} {c : U.C} {l : List (U.T c)} (h : Reads U F d w v c l) : ∃ A n cap, v = .slice A n cap ∧ l.length = n := by
  cases d with
  | zero => exact h.elim
  | succ d => obtain ⟨A, n, cap, e1, e2, _⟩ := h; exact ⟨A, n, cap, e1, e2⟩
theorem Reads.oneV {U : Uni} {F : Nat → Nat → Prop} {d : Nat} {w : World} {v : Value} {c : U.C} {l : List (U.T c)} (h : Reads U F d w v c l) : RX.oneV v = true := by
  obtain ⟨A, n, cap, rfl, _⟩ := h.slice; rfl
theorem Reads.up {U : Uni} {F : Nat → Nat → Prop} {w : World} : ∀ {d : Nat} {v : Value} {c : U.C} {l : List (U.T c)}, Reads U F d w v c l → Reads U F (d + 1) w v c l := by
  intro d
  induction d with
  | zero => intro v c l h; exact h.elim
  | succ d ih =>
    rintro v c l ⟨A, n, cap, e1, e2, e3, e4, h⟩
    refine ⟨A, n, cap, e1, e2, e3, e4, fun hn => ?_⟩
    obtain ⟨ad, ea, es, h⟩ := h hn
    refine ⟨ad, ea, es, fun i hi j cv hcv => ?_⟩
    obtain ⟨h1, y, h2, h3⟩ := h i hi j cv hcv
    refine ⟨h1, y, h2, ?_⟩
    cases cv with
    | v x => exact h3
    | sl c' l' => exact ih h3
/-- Some depth. -/
def Rd (U : Uni) (F : Nat → Nat → Prop) (w : World) (v : Value) (c : U.C) (l : List (U.T c)) : Prop := ∃ d, Reads U F d w v c l
theorem Rd.keep {U : Uni} {F F' : Nat → Nat → Prop} {w w' : World} (hF : ∀ b o, F b o → F' b o) (hc : ∀ b o, F b o → w'.cell? ⟨b, o, none⟩ = w.cell? ⟨b, o, none⟩)
    {v : Value} {c : U.C} {l : List (U.T c)} (h : Rd U F w v c l) : Rd U F' w' v c l := by obtain ⟨d, h⟩ := h; exact ⟨d, h.keep hF hc⟩
theorem Rd.oneV {U : Uni} {F : Nat → Nat → Prop} {w : World} {v : Value} {c : U.C} {l : List (U.T c)} (h : Rd U F w v c l) : RX.oneV v = true := by obtain ⟨d, h⟩ := h; exact h.oneV
theorem Rd.slice {U : Uni} {F : Nat → Nat → Prop} {w : World} {v : Value} {c : U.C} {l : List (U.T c)} (h : Rd U F w v c l) : ∃ A n cap, v = .slice A n cap ∧ l.length = n := by obtain ⟨d, h⟩ := h; exact h.slice
/-- The element's cells. -/
theorem Rd.elem {U : Uni} {F : Nat → Nat → Prop} {w : World} {ad : Addr} {n cap : Nat} {c : U.C} {l : List (U.T c)} (h : Rd U F w (.slice (some ad) n cap) c l) (i : Nat) (hi : i < n) (j : Nat) (cv : CV U.C U.T)
    (hj : (U.enc c (l.getD i (U.dflt c)))[j]? = some cv) : ∃ y, w.cell? ⟨ad.block, ad.off + (i * U.size c + j), none⟩ = some y ∧ CVDen (Rd U F) w cv y := by
  obtain ⟨d, h⟩ := h
  cases d with
  | zero => exact h.elim
  | succ d =>
    obtain ⟨A, n', cap', e1, e2, e3, e4, h⟩ := h
    cases e1
    obtain ⟨ad', ea, es, h⟩ := h (by omega)
    cases ea
    have hi' : i < l.length := by omega
    rw [List.getD_eq_getElem?_getD, List.getElem?_eq_getElem hi', Option.getD_some] at hj
    obtain ⟨_, y, h2, h3⟩ := h i hi' j cv hj
    refine ⟨y, h2, ?_⟩
    cases cv with
    | v x => exact h3
    | sl c' l' => exact ⟨d, h3⟩
theorem Rd.spot {U : Uni} {F : Nat → Nat → Prop} {w : World} {ad : Addr} {n cap : Nat} {c : U.C} {l : List (U.T c)} (h : Rd U F w (.slice (some ad) n cap) c l) (hn : 0 < n) : ad.spot = none := by
  obtain ⟨d, h⟩ := h
  cases d with
  | zero => exact h.elim
  | succ d =>
    obtain ⟨A, n', cap', e1, e2, e3, e4, h⟩ := h
    cases e1
    obtain ⟨ad', ea, es, h⟩ := h hn
    cases ea
    exact es
theorem Rd.some {U : Uni} {F : Nat → Nat → Prop} {w : World} {A : Option Addr} {n cap : Nat} {c : U.C} {l : List (U.T c)} (h : Rd U F w (.slice A n cap) c l) (hn : 0 < n) : ∃ ad, A = some ad := by
  obtain ⟨d, h⟩ := h
  cases d with
  | zero => exact h.elim
  | succ d =>
    obtain ⟨A', n', cap', e1, e2, e3, e4, h⟩ := h
    cases e1
    obtain ⟨ad', ea, es, h⟩ := h hn
    exact ⟨_, ea⟩

/-! ### The state and the world -/
/-- No cell is frozen. -/
def NoFz (fz : Nat × Nat) (n : Nat) : Prop := ∀ j, j < n → ¬ (fz.1 ≤ j ∧ j < fz.2)
theorem NoFz.zero (n : Nat) : NoFz (0, 0) n := fun _ _ h => absurd h.2 (Nat.not_lt_zero _)
theorem NoFz.beyond (n : Nat) : NoFz (n, n + 1) n := fun j hj h => by have := h.1; dsimp only at this; omega
/-- A slice of the call's own: behind its elements nothing is looked at. -/
def Owned (U : Uni) (w0 w : World) (F : Nat → Nat → Prop) (v : Value) (c : U.C) (n : Nat) : Prop :=
  (v = .slice none 0 0 ∧ n = 0) ∨ ∃ g off cap e cur fz, v = .slice (some ⟨g, off, none⟩) n cap ∧ w0.heap.size ≤ g ∧ w.heap[g]? = some (.cells cur e fz) ∧ NoFz fz cur.size ∧ n ≤ cap ∧ cap ≤ maxLen ∧ off + cap * U.size c ≤ cur.size ∧ ∀ o, off + n * U.size c ≤ o → o < off + cap * U.size c → ¬ F g o

structure Sim (U : Uni) (w0 : World) (F0 : Nat → Nat → Prop) (Fr : Nat → Prop) (heap : List (Nat × TypeId × List Atom)) (rows : List (Nat × Row U)) (w : World) (ν : Nu) (F : Nat → Nat → Prop) : Prop where
  below : Below w0.heap.size w0 w
  box : ∀ id t cs, look id heap = some (t, cs) → ∃ b arr, ν.b id = some b ∧ w0.heap.size ≤ b ∧ w.heap[b]? = some (.cells arr t (0, 0)) ∧ DenL ν cs arr.toList ∧ ∀ o, ¬ F b o
  inj : ∀ id id' b, (look id heap).isSome → (look id' heap).isSome → ν.b id = some b → ν.b id' = some b → id = id'
  lt : ∀ b o, F b o → b < w.heap.size
  row : ∀ fid r, look fid rows = some r → ∃ v, ν.f fid = some v ∧ Rd U F w v r.c r.l ∧ (r.own = true → Owned U w0 w F v r.c r.l.length)
  apart : ∀ fid r v id b, look fid rows = some r → r.own = true → ν.f fid = some v → (look id heap).isSome → ν.b id = some b → v.ownBlock ≠ some b
  apart2 : ∀ fid r v fid' r' v' b, look fid rows = some r → r.own = true → ν.f fid = some v → look fid' rows = some r' → r'.own = true → ν.f fid' = some v' → v.ownBlock = some b → v'.ownBlock = some b → fid = fid'
  free : ∀ k, Fr k → ν.b k = none ∧ ∀ j, j < 16 → ν.f (16 * k + j) = none
  sub : ∀ b o, F0 b o → F b o
  new : ∀ b o, F b o → F0 b o ∨ w0.heap.size ≤ b
  hold : ∀ l x, ν.o l = some x → w0.heap.size ≤ l ∧ w.heap[l]? = some x ∧ held x
  hx : ∀ l x, ν.o l = some x → isC x = true → (∀ o, ¬ F l o) ∧ (∀ id, (look id heap).isSome → ν.b id ≠ some l) ∧ ∀ fid r v, look fid rows = some r → r.own = true → ν.f fid = some v → v.ownBlock ≠ some l

def TOk (ν : Nu) (t : List TV) (T : Array Value) : Prop := t.length = T.size ∧ ∀ (j : Nat) x, t[j]? = some x → DenTV ν T x (T.getD j undef)
theorem TOk.mono {ν ν' : Nu} (h : ν.le ν') {t : List TV} {T : Array Value} (k : TOk ν t T) : TOk ν' t T := ⟨k.1, fun j x e => (k.2 j x e).mono h⟩

theorem getD_set_ne' (T : Array Value) (d j : Nat) (y : Value) (e : d ≠ j) : (T.setIfInBounds d y).getD j undef = T.getD j undef := by
  simp [e]
theorem getD_set_eq' (T : Array Value) (d : Nat) (y : Value) (h : d < T.size) : (T.setIfInBounds d y).getD d undef = y := by simp [h]

/-! ### The records -/
def codeOf : Ctl → Option Code
  | .ret => some .ret
  | .exit i => some (.exit i)
  | _ => none
/-- A range's record stands as it is told. -/
def RecAt {U : Uni} (r : Loop) : RS U → Prop
  | .ready => r.state = .ready ∧ r.pending = none
  | .busy => r.state = .busy
  | .done c => r.state = .done ∧ ∃ q, codeOf c = some q ∧ r.pending = some q
  | .row _ _ => False
/-- A row that is written in: nobody else looks at its block. -/
def XRow (U : Uni) (ν : Nu) (v : Value) (c : U.C) (l : List (U.T c)) : Prop := U.flat c = true ∧ ((v = .slice none 0 0 ∧ l = []) ∨ ∃ g off cap t arr, v = .slice (some ⟨g, off, none⟩) l.length cap ∧ ν.o g = some (.cells arr t (0, 0)) ∧ l.length ≤ cap ∧ cap ≤ maxLen ∧ off + cap * U.size c ≤ arr.size ∧
  ∀ i (hi : i < l.length) j cv, (U.enc c l[i])[j]? = some cv → ∃ x, cv = .v x ∧ oneV x = true ∧ arr[off + (i * U.size c + j)]? = some x)
def RecIs {U : Uni} (ν : Nu) (id : Nat) : RS U → Prop
  | .row c l => 1000000000 ≤ id ∧ ∃ v, ν.f (id - 1000000000) = some v ∧ XRow U ν v c l
  | x => ∃ l r, ν.b id = some l ∧ ν.o l = some (.loop r) ∧ RecAt r x
/-- Where a record lies. -/
def blkOf {U : Uni} (ν : Nu) (id : Nat) : RS U → Option Nat
  | .row _ _ => (ν.f (id - 1000000000)).bind Value.ownBlock
  | _ => ν.b id
def RecsOk {U : Uni} (ν : Nu) (recs : List (Nat × RS U)) : Prop := (∀ id x, (id, x) ∈ recs → RecIs ν id x) ∧ ∀ id id' x x' l, (id, x) ∈ recs → (id', x') ∈ recs → blkOf ν id x = some l → blkOf ν id' x' = some l → id = id'
theorem look_mem {α : Type} {k : Nat} {x : α} : ∀ {l : List (Nat × α)}, look k l = some x → (k, x) ∈ l
  | [], h => by cases h
  | (j, y) :: r, h => by
    simp only [look] at h
    split at h
    · rename_i e; subst e; cases h; exact List.mem_cons_self ..
    · exact List.mem_cons_of_mem _ (look_mem h)
theorem XRow.mono {U : Uni} {ν ν' : Nu} (h : ν.le ν') {v : Value} {c : U.C} {l : List (U.T c)} (k : XRow U ν v c l) : XRow U ν' v c l := by
  refine ⟨k.1, ?_⟩
  rcases k.2 with q | ⟨g, off, cap, t, arr, e1, e2, e3⟩
  · exact .inl q
  · exact .inr ⟨g, off, cap, t, arr, e1, h.2.2 _ _ e2, e3⟩
theorem RecIs.mono {U : Uni} {ν ν' : Nu} (h : ν.le ν') {id : Nat} {x : RS U} (k : RecIs ν id x) : RecIs ν' id x ∧ blkOf ν' id x = blkOf ν id x := by
  cases x with
  | row c l =>
    obtain ⟨e0, v, e1, e2⟩ := k
    refine ⟨⟨e0, v, h.2.1 _ _ e1, e2.mono h⟩, ?_⟩
    simp only [blkOf, e1, h.2.1 _ _ e1]
  | ready => obtain ⟨l, r, e1, e2, e3⟩ := k; exact ⟨⟨l, r, h.1 _ _ e1, h.2.2 _ _ e2, e3⟩, (h.1 _ _ e1).trans e1.symm⟩
  | busy => obtain ⟨l, r, e1, e2, e3⟩ := k; exact ⟨⟨l, r, h.1 _ _ e1, h.2.2 _ _ e2, e3⟩, (h.1 _ _ e1).trans e1.symm⟩
  | done c => obtain ⟨l, r, e1, e2, e3⟩ := k; exact ⟨⟨l, r, h.1 _ _ e1, h.2.2 _ _ e2, e3⟩, (h.1 _ _ e1).trans e1.symm⟩
theorem RecsOk.mono {U : Uni} {ν ν' : Nu} (h : ν.le ν') {recs : List (Nat × RS U)} (k : RecsOk ν recs) : RecsOk ν' recs :=
  ⟨fun id x e => ((k.1 id x e).mono h).1, fun id id' x x' l e e' q q' => k.2 id id' x x' l e e' (((k.1 id x e).mono h).2 ▸ q) (((k.1 id' x' e').mono h).2 ▸ q')⟩
/-- A row that is written in, as it stands. -/
theorem xAt_is {U : Uni} {ν : Nu} {s : St U} (k : RecsOk ν s.recs) {fid : Nat} {r : Row U} (h : xAt s fid = some r) : (fid + 1000000000, RS.row r.c r.l) ∈ s.recs ∧ r.own = false ∧ ∃ v, ν.f fid = some v ∧ XRow U ν v r.c r.l := by
  unfold xAt at h
  split at h
  · rename_i c l hl
    cases h
    have hm := look_mem hl
    obtain ⟨_, v, e1, e2⟩ := k.1 _ _ hm
    rw [Nat.add_sub_cancel] at e1
    exact ⟨hm, rfl, v, e1, e2⟩
  · cases h
/-- A row's elements, whatever row it is. -/
def RowEl (U : Uni) (F : Nat → Nat → Prop) (w : World) (v : Value) (c : U.C) (l : List (U.T c)) : Prop := ∃ A cap, v = .slice A l.length cap ∧ l.length ≤ cap ∧ cap ≤ maxLen ∧ (0 < l.length → ∃ ad, A = some ad ∧ ad.spot = none ∧ ∀ i (_ : i < l.length) j cv, (U.enc c (l.getD i (U.dflt c)))[j]? = some cv → ∃ y, w.cell? ⟨ad.block, ad.off + (i * U.size c + j), none⟩ = some y ∧ CVDen (Rd U F) w cv y)
theorem Rd.el {U : Uni} {F : Nat → Nat → Prop} {w : World} {v : Value} {c : U.C} {l : List (U.T c)} (h : Rd U F w v c l) : RowEl U F w v c l := by
  have h0 := h
  obtain ⟨d, h'⟩ := h
  cases d with
  | zero => exact h'.elim
  | succ d =>
    obtain ⟨A, n, cap, e1, e2, e3, e4, h2⟩ := h'
    subst e1
    subst e2
    refine ⟨A, cap, rfl, e3, e4, fun hn => ?_⟩
    obtain ⟨ad, ea, es, _⟩ := h2 hn
    subst ea
    exact ⟨ad, rfl, es, fun i hi j cv hj => h0.elem i hi j cv hj⟩
theorem rowX_el {U : Uni} {w0 w : World} {F0 F : Nat → Nat → Prop} {Fr : Nat → Prop} {ν : Nu} {s : St U} (hs : Sim U w0 F0 Fr s.heap s.rows w ν F) (k : RecsOk ν s.recs) {fid : Nat} {r : Row U} (h : rowX s fid = some r) : ∃ v, ν.f fid = some v ∧ RowEl U F w v r.c r.l := by
  unfold rowX at h
  split at h
  · rename_i r' hl
    cases h
    obtain ⟨_, _, v, e1, e2, e3⟩ := xAt_is k hl
    refine ⟨v, e1, ?_⟩
    rcases e3 with ⟨rfl, e4⟩ | ⟨g, off, cap, t, arr, rfl, q2, q3, q4, q5, q6⟩
    · rw [e4]; exact ⟨none, 0, rfl, Nat.le_refl _, Nat.zero_le _, fun q => absurd q (Nat.lt_irrefl _)⟩
    · refine ⟨_, cap, rfl, q3, q4, fun _ => ⟨_, rfl, rfl, fun i hi j cv hj => ?_⟩⟩
      rw [List.getD_eq_getElem?_getD, List.getElem?_eq_getElem hi, Option.getD_some] at hj
      obtain ⟨x, rfl, p1, p2⟩ := q6 i hi j cv hj
      exact ⟨x, by simp [World.cell?, (hs.hold g _ q2).2.1, p2], rfl, p1⟩
  · obtain ⟨v, e1, e2, _⟩ := hs.row fid _ h
    exact ⟨v, e1, e2.el⟩

/-- One more temporary is written; nobody's guard looks at it. -/
theorem TOk.put {ν : Nu} {U : Uni} {s : St U} {T : Array Value} (k : TOk ν s.tmps T) (d : Option Tmp) (hd : putOK s d = true) {x : TV} {y : Value} {defers : List Deferred} (hx : DenTV ν (Act.put ⟨T, defers⟩ d y).tmps x y) :
    TOk ν (s.put d x).tmps ((Act.put ⟨T, defers⟩ d y).tmps) := by
  cases d with
  | none => exact k
  | some d =>
    refine ⟨by simp [St.put, Act.put, k.1], fun j z hz => ?_⟩
    simp only [St.put] at hz
    simp only [Act.put] at hx ⊢
    rw [List.getElem?_set] at hz
    by_cases e : d = j
    · subst e
      rw [if_pos rfl] at hz
      by_cases hl : d < s.tmps.length
      · rw [if_pos hl] at hz
        cases hz
        rw [getD_set_eq' _ _ _ (by rw [← k.1]; exact hl)]
        exact hx
      · rw [if_neg hl] at hz; cases hz
    · rw [if_neg e] at hz
      rw [getD_set_ne' _ _ _ _ e]
      have h1 := k.2 j z hz
      have hm : z ∈ s.tmps := List.mem_of_getElem? hz
      have hr : refers d z = false := by
        have := List.all_eq_true.mp hd z hm
        simpa using this
      cases z with
      | pl a => exact h1
      | opt e0 w0 z0 =>
        have he : d ≠ e0 := by
          intro c
          simp [refers, c] at hr
        refine ⟨fun c => h1.1 ?_, fun c => h1.2 ?_⟩
        · rw [getD_set_ne' _ _ _ _ he] at c; exact c
        · rw [getD_set_ne' _ _ _ _ he] at c; exact c

theorem TOk.ev {ν : Nu} {U : Uni} {s : St U} {T : Array Value} {defers : List Deferred} (k : TOk ν s.tmps T) (x : Operand) : DenSV ν (s.ev x) (Act.eval ⟨T, defers⟩ x) := by
  cases x with
  | tmp t =>
    simp only [St.ev, Act.eval]
    rw [List.getD_eq_getElem?_getD]
    cases h : s.tmps[t]? with
    | none => exact True.intro
    | some z =>
      have := k.2 t z h
      cases z with
      | pl a => exact this
      | opt _ _ _ => exact True.intro
  | const v =>
    simp only [St.ev, Act.eval, ofConst]
    split
    · rename_i cs
      split
      · rename_i h1
        refine ⟨cs, rfl, by simp, fun v hv => List.all_eq_true.mp h1 v hv, fun j a y e1 e2 => ?_⟩
        rw [List.getElem?_map] at e1
        rw [e2] at e1
        cases e1
        exact rfl
      · exact True.intro
    · exact (rfl : v = v)
  | global g => exact rfl
  | func f => exact ⟨[], rfl, rfl, fun j p h => by simp at h⟩
end Go.RX

/- Symbolic runs of Go functions: new blocks, stores and new rows keep how the state stands to the world. -/
namespace Go.RX
open Go.RowKit

theorem look_cons {α : Type} (k j : Nat) (x : α) (r : List (Nat × α)) : look k ((j, x) :: r) = if j = k then some x else look k r := rfl
theorem look_append {α : Type} (k : Nat) : ∀ (a b : List (Nat × α)), look k (a ++ b) = match look k a with | some x => some x | none => look k b
  | [], b => rfl
  | (j, x) :: r, b => by
    show (if j = k then some x else look k (r ++ b)) = match (if j = k then some x else look k r) with | some x => some x | none => look k b
    by_cases h : j = k
    · rw [if_pos h, if_pos h]
    · rw [if_neg h, if_neg h]; exact look_append k r b

variable {U : Uni} {w0 : World} {F0 : Nat → Nat → Prop} {Fr : Nat → Prop} {heap : List (Nat × TypeId × List Atom)} {rows : List (Nat × Row U)} {w : World} {ν : Nu} {F : Nat → Nat → Prop}

theorem Sim.fr (h : Sim U w0 F0 Fr heap rows w ν F) {Fr' : Nat → Prop} (hf : ∀ k, Fr' k → Fr k) : Sim U w0 F0 Fr' heap rows w ν F :=
  ⟨h.below, h.box, h.inj, h.lt, h.row, h.apart, h.apart2, fun k hk => h.free k (hf k hk), h.sub, h.new, h.hold, h.hx⟩
theorem Sim.holdLt (h : Sim U w0 F0 Fr heap rows w ν F) {l : Nat} {x : Obj} (e : ν.o l = some x) : l < w.heap.size := (Array.getElem?_eq_some_iff.mp (h.hold l x e).2.1).1

theorem cell_of_block {w w' : World} {b : Nat} (h : w'.heap[b]? = w.heap[b]?) (o : Nat) : w'.cell? ⟨b, o, none⟩ = w.cell? ⟨b, o, none⟩ := by
  simp only [World.cell?, h]

theorem Owned.keep {w w' : World} {F F' : Nat → Nat → Prop} {v : Value} {c : U.C} {n : Nat} (h : Owned U w0 w F v c n) (hb : ∀ b, v.ownBlock = some b → w'.heap[b]? = w.heap[b]?) (hF : ∀ b, v.ownBlock = some b → ∀ o, F' b o → F b o) : Owned U w0 w' F' v c n := by
  rcases h with h | ⟨g, off, cap, e, cur, fz, hv, h1, h2, h3, h4, h5, h6, h7⟩
  · exact .inl h
  · have hg : v.ownBlock = some g := by rw [hv]; rfl
    exact .inr ⟨g, off, cap, e, cur, fz, hv, h1, (hb g hg).trans h2, h3, h4, h5, h6, fun o ho ho2 q => h7 o ho ho2 (hF g hg o q)⟩
theorem Owned.cells {w : World} {F : Nat → Nat → Prop} {v : Value} {c : U.C} {n : Nat} (h : Owned U w0 w F v c n) {b : Nat} (hb : v.ownBlock = some b) : ∃ cur e fz, w.heap[b]? = some (.cells cur e fz) := by
  rcases h with ⟨rfl, _⟩ | ⟨g, off, cap, e, cur, fz, hv, h1, h2, _⟩
  · simp [Value.ownBlock] at hb
  · rw [hv] at hb
    have : g = b := by simpa [Value.ownBlock] using hb
    subst this
    exact ⟨cur, e, fz, h2⟩
theorem Owned.lt {w : World} {F : Nat → Nat → Prop} {v : Value} {c : U.C} {n : Nat} (h : Owned U w0 w F v c n) {b : Nat} (hb : v.ownBlock = some b) : b < w.heap.size := by
  obtain ⟨cur, e, fz, h2⟩ := h.cells hb
  exact (Array.getElem?_eq_some_iff.mp h2).1

theorem alloc_heap_old (w : World) (o : Obj) {b : Nat} (h : b < w.heap.size) : (w.alloc o).heap[b]? = w.heap[b]? := Below.heap_alloc w o b h
theorem alloc_heap_new (w : World) (o : Obj) : (w.alloc o).heap[w.heap.size]? = some o := heap_alloc_new w o

def Nu.setB (ν : Nu) (k x : Nat) : Nu := ⟨fun j => if j = k then some x else ν.b j, ν.f, ν.o⟩
def Nu.setF (ν : Nu) (k : Nat) (v : Value) : Nu := ⟨ν.b, fun j => if j = k then some v else ν.f j, ν.o⟩
theorem Nu.le_setB {ν : Nu} {k x : Nat} (h : ν.b k = none) : ν.le (ν.setB k x) := ⟨fun j y e => by
  show (if j = k then some x else ν.b j) = some y
  by_cases c : j = k
  · subst c; rw [h] at e; cases e
  · rw [if_neg c]; exact e, fun _ _ e => e, fun _ _ e => e⟩
theorem Nu.le_setF {ν : Nu} {k : Nat} {v : Value} (h : ν.f k = none) : ν.le (ν.setF k v) := ⟨fun _ _ e => e, fun j y e => by
  show (if j = k then some v else ν.f j) = some y
  by_cases c : j = k
  · subst c; rw [h] at e; cases e
  · rw [if_neg c]; exact e, fun _ _ e => e⟩

/-- A new block of the call's own. -/
theorem Sim.alloc (h : Sim U w0 F0 Fr heap rows w ν F) {k : Nat} (hk : Fr k) {t : TypeId} {cs : List Atom} {arr : Array Value} (hd : DenL ν cs arr.toList) :
    Sim U w0 F0 (fun j => Fr j ∧ j ≠ k) ((k, t, cs) :: heap) rows (w.alloc (.cells arr t)) (ν.setB k w.heap.size) F := by
  have hn := (h.free k hk).1
  have hle : ν.le (ν.setB k w.heap.size) := Nu.le_setB hn
  have hself : (ν.setB k w.heap.size).b k = some w.heap.size := if_pos rfl
  have hother : ∀ {j b}, j ≠ k → (ν.setB k w.heap.size).b j = some b → ν.b j = some b := fun {j b} hj e => by
    have : (if j = k then some w.heap.size else ν.b j) = some b := e
    rw [if_neg hj] at this; exact this
  have hlook : ∀ {id}, (look id heap).isSome → ∃ b, ν.b id = some b ∧ b < w.heap.size := fun {id} e => by
    obtain ⟨⟨t', cs'⟩, e'⟩ := Option.isSome_iff_exists.mp e
    obtain ⟨b, arr, e1, _, e2, _⟩ := h.box id t' cs' e'
    exact ⟨b, e1, (Array.getElem?_eq_some_iff.mp e2).1⟩
  have hsz := h.below.size
  refine ⟨?_, ?_, ?_, ?_, ?_, ?_, ?_, ?_, h.sub, h.new, fun l x e => by obtain ⟨a1, a2, a3⟩ := h.hold l x e; exact ⟨a1, (alloc_heap_old _ _ (Array.getElem?_eq_some_iff.mp a2).1).trans a2, a3⟩, fun l x e hc => ⟨(h.hx l x e hc).1, fun id hid q => by
    rw [look_cons] at hid
    by_cases c : k = id
    · subst c
      rw [hself] at q
      cases q
      have := h.holdLt e
      omega
    · rw [if_neg c] at hid
      exact (h.hx l x e hc).2.1 id hid (hother (Ne.symm c) q), (h.hx l x e hc).2.2⟩⟩
  · exact Below.alloc h.below hsz _
  · intro id t' cs' e
    rw [look_cons] at e
    by_cases c : k = id
    · subst c
      rw [if_pos rfl] at e
      cases e
      exact ⟨w.heap.size, arr, hself, hsz, alloc_heap_new _ _, hd.mono hle, fun o c => by have := h.lt _ _ c; omega⟩
    · rw [if_neg c] at e
      obtain ⟨b, arr', e1, e2, e3, e4, e6⟩ := h.box id t' cs' e
      exact ⟨b, arr', hle.1 _ _ e1, e2, by rw [alloc_heap_old _ _ (Array.getElem?_eq_some_iff.mp e3).1]; exact e3, e4.mono hle, e6⟩
  · intro id id' b l l' e e'
    rw [look_cons] at l l'
    by_cases c : id = k
    · by_cases c' : id' = k
      · exact c.trans c'.symm
      · subst c
        rw [if_neg (Ne.symm c')] at l'
        obtain ⟨b', e1, e2⟩ := hlook l'
        have := hother c' e'
        rw [this] at e1
        cases e1
        rw [hself] at e
        cases e
        omega
    · rw [if_neg (Ne.symm c)] at l
      by_cases c' : id' = k
      · subst c'
        obtain ⟨b', e1, e2⟩ := hlook l
        rw [hother c e] at e1
        cases e1
        rw [hself] at e'
        cases e'
        omega
      · rw [if_neg (Ne.symm c')] at l'
        exact h.inj id id' b l l' (hother c e) (hother c' e')
  · intro b o e
    have := h.lt b o e
    rw [World.size_alloc]; omega
  · intro fid r e
    obtain ⟨v, e1, e2, e3⟩ := h.row fid r e
    refine ⟨v, hle.2.1 _ _ e1, e2.keep (fun _ _ x => x) (fun b o x => cell_of_block (alloc_heap_old _ _ (h.lt b o x)) o), fun ho => ?_⟩
    have := e3 ho
    exact this.keep (fun b hb => alloc_heap_old _ _ (this.lt hb)) (fun _ _ _ q => q)
  · intro fid r v id b e1 e2 e3 l e4
    rw [look_cons] at l
    by_cases c : id = k
    · subst c
      rw [hself] at e4
      cases e4
      intro hb
      obtain ⟨v', f1, f2, f3⟩ := h.row fid r e1
      have f4 : v' = v := Option.some.inj (f1.symm.trans e3)
      subst f4
      have := (f3 e2).lt hb
      omega
    · rw [if_neg (Ne.symm c)] at l
      exact h.apart fid r v id b e1 e2 e3 l (hother c e4)
  · exact h.apart2
  · intro j ⟨hj, hne⟩
    refine ⟨?_, (h.free j hj).2⟩
    show (if j = k then some w.heap.size else ν.b j) = none
    rw [if_neg hne]; exact (h.free j hj).1

theorem look_upd1 (id : Nat) (f : List Atom → List Atom) (j : Nat) : ∀ heap : List (Nat × TypeId × List Atom), look j (upd1 id f heap) = if j = id then (look j heap).map fun x => (x.1, f x.2) else look j heap
  | [] => by simp [upd1, look]
  | (i, t, cs) :: r => by
    unfold upd1
    by_cases h : i = id
    · rw [if_pos h, look_cons, look_cons]
      by_cases c : i = j
      · rw [if_pos c, if_pos c, if_pos (c.symm.trans h)]; rfl
      · rw [if_neg c, if_neg c, if_neg (fun e => c (h.trans e.symm))]
    · rw [if_neg h, look_cons, look_cons]
      by_cases c : i = j
      · rw [if_pos c, if_pos c, if_neg (fun e => h (c.trans e))]
      · rw [if_neg c, if_neg c]; exact look_upd1 id f j r

/-- A store into a block of the call's own. -/
theorem Sim.store (h : Sim U w0 F0 Fr heap rows w ν F) {id : Nat} {t : TypeId} {cs : List Atom} (hl : look id heap = some (t, cs)) {b : Nat} (hb : ν.b id = some b) {w' : World} (hos : w'.os = w.os) (htp : w'.tape = w.tape) (hout : w'.output = w.output) (hsz : w'.heap.size = w.heap.size)
    {arr' : Array Value} (hw : w'.heap[b]? = some (.cells arr' t (0, 0))) (hne : ∀ k, k ≠ b → w'.heap[k]? = w.heap[k]?) {f : List Atom → List Atom} (hd : DenL ν (f cs) arr'.toList) :
    Sim U w0 F0 Fr (upd1 id f heap) rows w' ν F := by
  obtain ⟨b', arr, g1, g2, g3, g4, g6⟩ := h.box id t cs hl
  have : b' = b := Option.some.inj (g1.symm.trans hb)
  subst this
  have hsome : ∀ {j}, (look j (upd1 id f heap)).isSome → (look j heap).isSome := fun {j} e => by
    rw [look_upd1] at e
    by_cases c : j = id
    · rw [if_pos c] at e; cases hh : look j heap with
      | none => rw [hh] at e; cases e
      | some x => rfl
    · rw [if_neg c] at e; exact e
  refine ⟨?_, ?_, ?_, ?_, ?_, ?_, ?_, h.free, h.sub, h.new, fun l x e => by obtain ⟨a1, a2, a3⟩ := h.hold l x e; exact ⟨a1, (hne l (fun q => by subst q; rw [g3] at a2; cases a2; exact (h.hx _ _ e rfl).2.1 id (by rw [hl]; rfl) hb)).trans a2, a3⟩, fun l x e hc => ⟨(h.hx l x e hc).1, fun j hj => (h.hx l x e hc).2.1 j (hsome hj), (h.hx l x e hc).2.2⟩⟩
  · exact h.below.trans ⟨hos, htp, hout, by omega, fun k hk => hne k (by omega)⟩
  · intro j t' cs' e
    rw [look_upd1] at e
    by_cases c : j = id
    · subst c
      rw [if_pos rfl, hl] at e
      cases e
      exact ⟨b', arr', hb, g2, hw, hd, g6⟩
    · rw [if_neg c] at e
      obtain ⟨b2, arr2, e1, e2, e3, e4, e6⟩ := h.box j t' cs' e
      have hbb : b2 ≠ b' := fun q => c (h.inj j id b' (by rw [e]; rfl) (by rw [hl]; rfl) (by rw [e1, q]) hb)
      exact ⟨b2, arr2, e1, e2, (hne b2 hbb).trans e3, e4, e6⟩
  · intro j j' b2 l l' e e'
    exact h.inj j j' b2 (hsome l) (hsome l') e e'
  · intro b2 o e
    rw [hsz]; exact h.lt b2 o e
  · intro fid r e
    obtain ⟨v, e1, e2, e3⟩ := h.row fid r e
    refine ⟨v, e1, e2.keep (fun _ _ x => x) (fun b2 o x => cell_of_block (hne b2 (fun q => by subst q; exact g6 o x)) o), fun ho => ?_⟩
    have := e3 ho
    refine this.keep (fun b2 hb2 => hne b2 (fun q => ?_)) (fun _ _ _ q => q)
    subst q
    exact h.apart fid r v id b2 e ho e1 (by rw [hl]; rfl) hb hb2
  · intro fid r v j b2 e1 e2 e3 l e4
    exact h.apart fid r v j b2 e1 e2 e3 (hsome l) e4
  · exact h.apart2

/-- A call that leaves what was there as it was. -/
theorem Sim.grow (h : Sim U w0 F0 Fr heap rows w ν F) {w' : World} {F' : Nat → Nat → Prop} (hb : Below w.heap.size w w') (hF : ∀ b o, F b o → F' b o) (hF' : ∀ b o, F' b o → F b o ∨ w.heap.size ≤ b) (hlt : ∀ b o, F' b o → b < w'.heap.size) :
    Sim U w0 F0 Fr heap rows w' ν F' := by
  have hsz := h.below.size
  refine ⟨h.below.trans (hb.mono hsz), ?_, h.inj, hlt, ?_, h.apart, h.apart2, h.free, fun b o x => hF b o (h.sub b o x), fun b o x => ?_, fun l x e => by obtain ⟨a1, a2, a3⟩ := h.hold l x e; exact ⟨a1, (hb.block l (Array.getElem?_eq_some_iff.mp a2).1).trans a2, a3⟩, fun l x e hc => ⟨fun o q => by
    rcases hF' l o q with c | c
    · exact (h.hx l x e hc).1 o c
    · have := h.holdLt e; omega, (h.hx l x e hc).2⟩⟩
  · intro id t cs e
    obtain ⟨b, arr, e1, e2, e3, e4, e6⟩ := h.box id t cs e
    have hlt' := (Array.getElem?_eq_some_iff.mp e3).1
    refine ⟨b, arr, e1, e2, (hb.block b hlt').trans e3, e4, fun o c => ?_⟩
    rcases hF' b o c with c | c
    · exact e6 o c
    · omega
  · intro fid r e
    obtain ⟨v, e1, e2, e3⟩ := h.row fid r e
    refine ⟨v, e1, e2.keep hF (fun b o x => cell_of_block (hb.block b (h.lt b o x)) o), fun ho => ?_⟩
    have q := e3 ho
    refine q.keep (fun b hb2 => hb.block b (q.lt hb2)) (fun b hb2 o c => ?_)
    rcases hF' b o c with c | c
    · exact c
    · have := q.lt hb2; omega
  · rcases hF' b o x with c | c
    · exact h.new b o c
    · exact .inr (by omega)

theorem Sim.drew (h : Sim U w0 F0 Fr heap rows w ν F) : Sim U w0 F0 Fr heap rows w.drew ν F :=
  h.grow (w' := w.drew) ⟨rfl, rfl, rfl, Nat.le_refl _, fun _ _ => rfl⟩ (fun _ _ x => x) (fun _ _ x => .inl x) (fun b o x => h.lt b o x)

/-- One more row that is read. -/
theorem Sim.addRow (h : Sim U w0 F0 Fr heap rows w ν F) {fid : Nat} (hn : ν.f fid = none) (hfr : ∀ k j, Fr k → j < 16 → 16 * k + j ≠ fid) {v : Value} {c : U.C} {l : List (U.T c)} (hr : Rd U F w v c l) :
    Sim U w0 F0 Fr heap ((fid, ⟨c, l, false⟩) :: rows) w (ν.setF fid v) F := by
  have hle : ν.le (ν.setF fid v) := Nu.le_setF hn
  have hself : (ν.setF fid v).f fid = some v := if_pos rfl
  have hother : ∀ {j x}, j ≠ fid → (ν.setF fid v).f j = some x → ν.f j = some x := fun {j x} hj e => by
    have : (if j = fid then some v else ν.f j) = some x := e
    rw [if_neg hj] at this; exact this
  have hl : ∀ {j r}, look j ((fid, (⟨c, l, false⟩ : Row U)) :: rows) = some r → r.own = true → j ≠ fid ∧ look j rows = some r := fun {j r} e ho => by
    rw [look_cons] at e
    by_cases q : fid = j
    · rw [if_pos q] at e; cases e; cases ho
    · rw [if_neg q] at e; exact ⟨fun x => q x.symm, e⟩
  refine ⟨h.below, ?_, h.inj, h.lt, ?_, ?_, ?_, ?_, h.sub, h.new, h.hold, fun l' x e hc => ⟨(h.hx l' x e hc).1, (h.hx l' x e hc).2.1, fun j r v' e1 e2 e3 => by
    obtain ⟨q, e1⟩ := hl e1 e2
    exact (h.hx l' x e hc).2.2 j r v' e1 e2 (hother q e3)⟩⟩
  · intro id t cs e
    obtain ⟨b, arr, e1, e2, e3, e4, e5⟩ := h.box id t cs e
    exact ⟨b, arr, hle.1 _ _ e1, e2, e3, e4.mono hle, e5⟩
  · intro j r e
    rw [look_cons] at e
    by_cases q : fid = j
    · subst q
      rw [if_pos rfl] at e
      cases e
      exact ⟨v, hself, hr, fun ho => by cases ho⟩
    · rw [if_neg q] at e
      obtain ⟨v', e1, e2⟩ := h.row j r e
      exact ⟨v', hle.2.1 _ _ e1, e2⟩
  · intro j r v' id b e1 e2 e3 e4 e5
    obtain ⟨q, e1⟩ := hl e1 e2
    exact h.apart j r v' id b e1 e2 (hother q e3) e4 e5
  · intro j r v1 j' r' v2 b e1 e2 e3 e4 e5 e6 e7 e8
    obtain ⟨q, e1⟩ := hl e1 e2
    obtain ⟨q', e4⟩ := hl e4 e5
    exact h.apart2 j r v1 j' r' v2 b e1 e2 (hother q e3) e4 e5 (hother q' e6) e7 e8
  · intro k hk
    refine ⟨(h.free k hk).1, fun j hj => ?_⟩
    show (if 16 * k + j = fid then some v else ν.f (16 * k + j)) = none
    rw [if_neg (hfr k j hk hj)]
    exact (h.free k hk).2 j hj

/-- One more row, of the call's own or not. -/
theorem Sim.addRow' (h : Sim U w0 F0 Fr heap rows w ν F) {fid : Nat} (hn : ν.f fid = none) (hfr : ∀ k j, Fr k → j < 16 → 16 * k + j ≠ fid) {v : Value} {c : U.C} {l : List (U.T c)} (hr : Rd U F w v c l) {own : Bool}
    (ho : own = true → Owned U w0 w F v c l.length ∧ ∀ b, v.ownBlock = some b → (∀ id, (look id heap).isSome → ν.b id ≠ some b) ∧ (∀ fid' r' v', look fid' rows = some r' → r'.own = true → ν.f fid' = some v' → v'.ownBlock ≠ some b) ∧ ∀ x, ν.o b = some x → isC x = false) :
    Sim U w0 F0 Fr heap ((fid, ⟨c, l, own⟩) :: rows) w (ν.setF fid v) F := by
  have hle : ν.le (ν.setF fid v) := Nu.le_setF hn
  have hself : (ν.setF fid v).f fid = some v := if_pos rfl
  have hother : ∀ {j x}, j ≠ fid → (ν.setF fid v).f j = some x → ν.f j = some x := fun {j x} hj e => by
    have : (if j = fid then some v else ν.f j) = some x := e
    rw [if_neg hj] at this; exact this
  have hl : ∀ {j r}, look j ((fid, (⟨c, l, own⟩ : Row U)) :: rows) = some r → (j = fid ∧ r = ⟨c, l, own⟩) ∨ (j ≠ fid ∧ look j rows = some r) := fun {j r} e => by
    rw [look_cons] at e
    by_cases q : fid = j
    · rw [if_pos q] at e; cases e; exact .inl ⟨q.symm, rfl⟩
    · rw [if_neg q] at e; exact .inr ⟨fun x => q x.symm, e⟩
  refine ⟨h.below, ?_, h.inj, h.lt, ?_, ?_, ?_, ?_, h.sub, h.new, h.hold, fun l' x e hc => ⟨(h.hx l' x e hc).1, (h.hx l' x e hc).2.1, fun j r v' e1 e2 e3 hb => by
    rcases hl e1 with ⟨rfl, rfl⟩ | ⟨q, e1⟩
    · rw [hself] at e3
      cases e3
      have := ((ho e2).2 l' hb).2.2 x e
      rw [this] at hc; cases hc
    · exact (h.hx l' x e hc).2.2 j r v' e1 e2 (hother q e3) hb⟩⟩
  · intro id t cs e
    obtain ⟨b, arr, e1, e2, e3, e4, e5⟩ := h.box id t cs e
    exact ⟨b, arr, hle.1 _ _ e1, e2, e3, e4.mono hle, e5⟩
  · intro j r e
    rcases hl e with ⟨rfl, rfl⟩ | ⟨q, e⟩
    · exact ⟨v, hself, hr, fun x => (ho x).1⟩
    · obtain ⟨v', e1, e2⟩ := h.row j r e
      exact ⟨v', hle.2.1 _ _ e1, e2⟩
  · intro j r v' id b e1 e2 e3 e4 e5
    rcases hl e1 with ⟨rfl, rfl⟩ | ⟨q, e1⟩
    · rw [hself] at e3
      cases e3
      intro hb
      exact ((ho e2).2 b hb).1 id e4 e5
    · exact h.apart j r v' id b e1 e2 (hother q e3) e4 e5
  · intro j r v1 j' r' v2 b e1 e2 e3 e4 e5 e6 e7 e8
    rcases hl e1 with ⟨rfl, rfl⟩ | ⟨q, e1'⟩
    · rcases hl e4 with ⟨rfl, rfl⟩ | ⟨q', e4'⟩
      · rfl
      · rw [hself] at e3
        cases e3
        exact absurd e8 (((ho e2).2 b e7).2.1 j' r' v2 e4' e5 (hother q' e6))
    · rcases hl e4 with ⟨rfl, rfl⟩ | ⟨q', e4'⟩
      · rw [hself] at e6
        cases e6
        exact absurd e7 (((ho e5).2 b e8).2.1 j r v1 e1' e2 (hother q e3))
      · exact h.apart2 j r v1 j' r' v2 b e1' e2 (hother q e3) e4' e5 (hother q' e6) e7 e8
  · intro k hk
    refine ⟨(h.free k hk).1, fun j hj => ?_⟩
    show (if 16 * k + j = fid then some v else ν.f (16 * k + j)) = none
    rw [if_neg (hfr k j hk hj)]
    exact (h.free k hk).2 j hj

/-- Cells of data as atoms. -/
theorem Sim.atoms {kx : Nat} : ∀ (cs : List (CV U.C U.T)) (j : Nat) {as : List Atom} {rs : List (Nat × Row U)} (ys : List Value) {rows : List (Nat × Row U)} {ν : Nu},
    Sim U w0 F0 Fr heap rows w ν F → ¬ Fr kx → atomsOf kx cs j = (as, rs) → (∀ i, j ≤ i → i < j + rs.length → ν.f (16 * kx + i) = none) → j + rs.length ≤ 16 →
    cs.length = ys.length → (∀ (i : Nat) cv y, cs[i]? = some cv → ys[i]? = some y → CVDen (Rd U F) w cv y) →
    ∃ ν', ν.le ν' ∧ Sim U w0 F0 Fr heap (rs ++ rows) w ν' F ∧ DenL ν' as ys ∧ (∀ i, i < j ∨ j + rs.length ≤ i → ν'.f (16 * kx + i) = ν.f (16 * kx + i))
  | [], j, as, rs, ys, rows, ν, h, hk, e, hn, hj, hlen, hy => by
    cases e
    refine ⟨ν, ν.le_refl, h, ⟨hlen, fun v hv => by cases ys with | nil => simp at hv | cons _ _ => simp at hlen, fun i a y e => by simp at e⟩, fun _ _ => rfl⟩
  | .v x :: cs, j, as, rs, ys, rows, ν, h, hk, e, hn, hj, hlen, hy => by
    obtain ⟨y, ys, rfl⟩ : ∃ y ys', ys = y :: ys' := by cases ys with | nil => simp at hlen | cons y ys' => exact ⟨y, ys', rfl⟩
    unfold atomsOf at e
    cases e' : atomsOf kx cs j with
    | mk as' rs' =>
      rw [e'] at e
      cases e
      obtain ⟨ν', g1, g2, g3, g4⟩ := Sim.atoms cs j ys h hk e' hn hj (by simpa using hlen) (fun i cv y a b => hy (i + 1) cv y (by simpa using a) (by simpa using b))
      refine ⟨ν', g1, g2, ⟨by simp [g3.1], fun v hv => ?_, fun i a z ea ez => ?_⟩, g4⟩
      · rcases List.mem_cons.mp hv with hv | hv
        · subst hv; have := hy 0 (.v x) v rfl rfl; rw [this.1]; exact this.2
        · exact g3.2.1 v hv
      cases i with
      | zero => simp at ea ez; subst ea; subst ez; exact (hy 0 (.v x) y rfl rfl).1
      | succ i => exact g3.2.2 i a z (by simpa using ea) (by simpa using ez)
  | .sl c l :: cs, j, as, rs, ys, rows, ν, h, hk, e, hn, hj, hlen, hy => by
    obtain ⟨y, ys, rfl⟩ : ∃ y ys', ys = y :: ys' := by cases ys with | nil => simp at hlen | cons y ys' => exact ⟨y, ys', rfl⟩
    unfold atomsOf at e
    cases e' : atomsOf kx cs (j + 1) with
    | mk as' rs' =>
      rw [e'] at e
      cases e
      simp only [List.length_cons] at hj hn
      have hr : Rd U F w y c l := hy 0 (.sl c l) y rfl rfl
      -- the others first, over the rows as they are; then this one
      obtain ⟨ν', g1, g2, g3, g4⟩ := Sim.atoms cs (j + 1) ys h hk e' (fun i hi hi' => hn i (by omega) (by omega)) (by omega) (by simpa using hlen) (fun i cv y a b => hy (i + 1) cv y (by simpa using a) (by simpa using b))
      have hfree : ν'.f (16 * kx + j) = none := (g4 j (.inl (by omega))).trans (hn j (Nat.le_refl _) (by omega))
      have g5 := g2.addRow (fid := 16 * kx + j) hfree (fun k i hk' hi q => by
        have : k = kx := by omega
        subst this; exact hk hk') hr
      refine ⟨ν'.setF (16 * kx + j) y, Nu.le_trans g1 (Nu.le_setF hfree), g5, ⟨by simp [g3.1], fun v hv => ?_, fun i a z ea ez => ?_⟩, fun i hi => ?_⟩
      · rcases List.mem_cons.mp hv with hv | hv
        · subst hv; exact hr.oneV
        · exact g3.2.1 v hv
      · cases i with
        | zero =>
          simp at ea ez; subst ea; subst ez
          exact ⟨if_pos rfl, hr.oneV⟩
        | succ i => exact (g3.2.2 i a z (by simpa using ea) (by simpa using ez)).mono (Nu.le_setF hfree)
      · show (if 16 * kx + i = 16 * kx + j then some y else ν'.f (16 * kx + i)) = _
        simp only [List.length_cons] at hi
        rw [if_neg (by omega)]
        exact g4 i (by omega)
end Go.RX

/- Symbolic runs of Go functions: each operation on numbers, truth values, texts and structs does what is told of it. -/
namespace Go.RX
open Go.RowKit
set_option linter.unusedSimpArgs false
set_option linter.unusedVariables false

def obOK : Option Prop → Prop
  | none => True
  | some p => p

/-- The frames that a run goes through: of functions (none), and of ranges' rounds. -/
def fenceOf (r : Option Nat) : Fence := { Fence.wide with round := r }
theorem callsIn_fence {r : Option Nat} {n : Nat} {P : Program} {f : FuncId} {args : Array Value} {w : World} {R : Ending → World → Prop} (h : Calls P f args w R) : CallsIn (fenceOf r) n P f args w R :=
  ⟨trivial, fun cs _ => let ⟨e, w', fr, x, s, y⟩ := h cs; ⟨e, w', fr, x, comesIn_wide.2 s, y⟩⟩
theorem room_fence (r : Option Nat) (n : Nat) : (fenceOf r).room n := fun _ h => by simp [fenceOf, Fence.wide] at h
theorem roundIn_fence {r r' : Option Nat} {n : Nat} {P : Program} {l : Nat} {f : FuncId} {tmps : Array Value} {assign body : Code} {w : World} {R : Ending → World → Prop} (h : RoundIn (fenceOf r) n P l f tmps assign body w R) : RoundIn (fenceOf r') n P l f tmps assign body w R :=
  ⟨trivial, fun c cs _ => h.2 c cs (room_fence r _)⟩
theorem not_defer {P : Program} {o : Oper} {a : Act} {w w' : World} {n : Next} (h : (execOp a.eval o).run P w = .ok n w') (hn : ∀ d, n ≠ .defer d) : ∀ c, o.op ≠ .defer c := by
  intro c hc
  simp only [execOp, hc, Sem.run_bind] at h
  cases hr : (resolve a.eval c o.type).run P w with
  | ok d w1 =>
    rw [hr] at h
    simp [Result.andThen] at h
    exact hn d h.1.symm
  | halt x w1 => rw [hr] at h; simp [Result.andThen] at h
/-- The operation comes to a value and a world of which R holds. -/
def Fin (P : Program) (o : Oper) (a : Act) (w : World) (R : Value → World → Prop) : Prop :=
  ∀ (r : Option Nat) (next : Act → World → Prop) (Q : Exit → Act → World → Prop), (∀ y w', R y w' → next (a.put o.dst y) w') → o.wpIn (fenceOf r) 0 P a w next Q
/-- The same, or it panics. -/
def FinP (P : Program) (o : Oper) (a : Act) (w : World) (R Rp : Value → World → Prop) : Prop :=
  ∀ (r : Option Nat) (next : Act → World → Prop) (Q : Exit → Act → World → Prop), (∀ y w', R y w' → next (a.put o.dst y) w') → (∀ y w', Rp y w' → Q (.panic [{ v := y, recovered := false }]) a w') → o.wpIn (fenceOf r) 0 P a w next Q
theorem wpIn_run {P : Program} {o : Oper} {a : Act} {w w' : World} {n : Next} (h : (execOp a.eval o).run P w = .ok n w') (hn : ∀ d, n ≠ .defer d) {r : Option Nat} {next : Act → World → Prop} {Q : Exit → Act → World → Prop} (k : o.uponIn (fenceOf r) 0 P a next Q (.ok n w')) : o.wpIn (fenceOf r) 0 P a w next Q := by
  refine ⟨fun _ _ => trivial, ?_⟩
  rw [Oper.semAt_eq _ _ _ (not_defer h hn), h]
  exact k
theorem Fin.value {P : Program} {o : Oper} {a : Act} {w w' : World} {R : Value → World → Prop} {y : Value} (h : (execOp a.eval o).run P w = .ok (.value y) w') (r : R y w') : Fin P o a w R :=
  fun _ next Q hn => wpIn_run h (fun d c => by cases c) (hn y w' r)
theorem Fin.skip {P : Program} {o : Oper} {a : Act} {w w' : World} {R : Value → World → Prop} (h : (execOp a.eval o).run P w = .ok .skip w') (r : R undef w') : Fin P o a w R :=
  fun _ next Q hn => wpIn_run h (fun d c => by cases c) (hn undef w' r)
theorem Fin.call {P : Program} {o : Oper} {a : Act} {w w' : World} {R : Value → World → Prop} {f : FuncId} {args : Array Value} (h : (execOp a.eval o).run P w = .ok (.enter f args) w')
    (hc : Calls P f args w' fun e w'' => ∃ y, e = .returned y ∧ R y w'') : Fin P o a w R :=
  fun _ next Q hn => wpIn_run h (fun d c => by cases c) ⟨fun q => by simp [fenceOf, Fence.wide] at q, callsIn_fence (hc.mono fun e w'' ⟨y, he, hr⟩ => by subst he; exact hn y w'' hr)⟩
/-- How a call ends: it returns, or it panics. -/
def Ends (R Rp : Value → World → Prop) : Ending → World → Prop := fun e w => (∃ y, e = .returned y ∧ R y w) ∨ ∃ y, e = .panicked [{ v := y, recovered := false }] ∧ Rp y w
theorem FinP.call {P : Program} {o : Oper} {a : Act} {w w' : World} {R Rp : Value → World → Prop} {f : FuncId} {args : Array Value} (h : (execOp a.eval o).run P w = .ok (.enter f args) w')
    (hc : Calls P f args w' (Ends R Rp)) : FinP P o a w R Rp :=
  fun _ next Q hn hq => wpIn_run h (fun d c => by cases c) ⟨fun q => by simp [fenceOf, Fence.wide] at q, callsIn_fence (hc.mono fun e w'' he => by
    rcases he with ⟨y, rfl, hr⟩ | ⟨y, rfl, hr⟩
    · exact hn y w'' hr
    · exact hq y w'' hr)⟩
theorem FinP.round {P : Program} {o : Oper} {a : Act} {w w' : World} {R Rp : Value → World → Prop} {l : Nat} {f : FuncId} {tmps : Array Value} {assign body : Code} (h : (execOp a.eval o).run P w = .ok (.round l f tmps assign body) w')
    (hc : RoundIn (fenceOf none) 0 P l f tmps assign body w' (Ends R Rp)) : FinP P o a w R Rp :=
  fun _ next Q hn hq => wpIn_run h (fun d c => by cases c) ⟨fun q => by simp [fenceOf, Fence.wide] at q, (roundIn_fence hc).mono fun e w'' he => by
    rcases he with ⟨y, rfl, hr⟩ | ⟨y, rfl, hr⟩
    · exact hn y w'' hr
    · exact hq y w'' hr⟩
theorem Fin.p {P : Program} {o : Oper} {a : Act} {w : World} {R Rp : Value → World → Prop} (h : Fin P o a w R) : FinP P o a w R Rp := fun r next Q hn _ => h r next Q hn

theorem wrap64_eq (n : Int) : IntKind.i64.wrap n = wrap64 n := IntWalk.i64_left n

theorem binI_run {P : Program} {op : BinOp} {t : TypeId} {x y : Operand} {k : IntKind} {a b : Int} {ob : Option Prop} {v : Value} (h : binI op k a b = some (ob, v)) (ho : obOK ob) (w : World) :
    (do eqGuard op t x y (.int k a) (.int k b); binOp op t (.int k a) (.int k b) : Sem Value).run P w = .ok v w ∧ oneV v = true := by
  cases op <;> simp only [binI] at h <;> first | (cases h; done) | skip
  all_goals first
    | (cases k <;> simp only [Option.some.injEq, Prod.mk.injEq] at h <;> obtain ⟨rfl, rfl⟩ := h <;> simp [binOp, eqGuard_at_int, Op.intArith, oneV, wrap64_eq]; done)
    | (cases k <;> simp only [Option.some.injEq, Prod.mk.injEq] at h <;> obtain ⟨rfl, rfl⟩ := h <;> have ho' : b ≠ 0 := ho <;> simp [binOp, eqGuard_at_int, Op.intDiv, oneV, wrap64_eq, ho']; done)
    | (simp only [Option.some.injEq, Prod.mk.injEq] at h; obtain ⟨rfl, rfl⟩ := h; have ho' : b ≠ 0 := ho; simp [binOp, eqGuard_at_int, Op.intDiv, oneV, wrap64_eq, ho']; done)
    | (simp only [Option.some.injEq, Prod.mk.injEq] at h; obtain ⟨rfl, rfl⟩ := h; simp [binOp, eqGuard_at_int, Op.intCmp, oneV]; done)
    | (simp only [Option.some.injEq, Prod.mk.injEq] at h; obtain ⟨rfl, rfl⟩ := h; simp [binOp, eqGuard_at_int, oneV, intBits_and, intBits_or, intBits_xor, intBits_andNot]; done)

section
variable {P : Program} {U : Uni} {Γ : Con U} {s : St U} {kx : Nat} {o : Oper} {r : Ran U} {w0 w : World} {F0 : Nat → Nat → Prop} {Fr : Nat → Prop} {ν : Nu} {F : Nat → Nat → Prop} {a : Act}

/-- What stands behind an operation. -/
def Post (U : Uni) (w0 : World) (F0 : Nat → Nat → Prop) (Fr : Nat → Prop) (ν : Nu) (kx : Nat) (s : St U) (v : SV) (u : Upd U) : Value → World → Prop := fun y w' =>
  ∃ ν' F', ν.le ν' ∧ Sim U w0 F0 (fun k => Fr k ∧ k ≠ kx) (s.app kx u).heap (s.app kx u).rows w' ν' F' ∧ DenSV ν' v y

theorem fin_pure (hs : Sim U w0 F0 Fr s.heap s.rows w ν F) {v : SV} {y : Value} (hr : (execOp a.eval o).run P w = .ok (.value y) w) (hd : DenSV ν v y) : Fin P o a w (Post U w0 F0 Fr ν kx s v .none) :=
  Fin.value hr ⟨ν, F, ν.le_refl, hs.fr fun _ h => h.1, hd⟩

theorem den_v {x y : Value} (h : DenSV ν (.one (.v x)) y) : y = x := h

theorem run_op {α : Type} {x : Sem α} {y : α} {w w' : World} (h : x.run P w = .ok y w') (f : α → Next) : (do pure (f (← x)) : Sem Next).run P w = .ok (f y) w' := by
  simp [h]

theorem op_move (x : Operand) (hop : o.op = .move x ∨ o.op = .assign x) (h : rval P Γ s kx o = some r) (hs : Sim U w0 F0 Fr s.heap s.rows w ν F) (ht : TOk ν s.tmps a.tmps) : Fin P o a w (Post U w0 F0 Fr ν kx s r.v r.u) := by
  have e : (execOp a.eval o).run P w = .ok (.value (a.eval x)) w := by rcases hop with hop | hop <;> simp [execOp, hop]
  have e' : r = ⟨none, s.ev x, .none⟩ := by rcases hop with hop | hop <;> (simp only [rval, hop, ran, Option.some.injEq] at h; exact h.symm)
  subst e'
  exact fin_pure hs e (TOk.ev (defers := a.defers) ht x)

theorem evo_den {dc : Operand} {want : Bool} {cb : Bool} (hc : a.eval dc = .bool cb) (hw : cb = want) (ht : TOk ν s.tmps a.tmps) (x : Operand) : DenSV ν (s.evo dc want x) (a.eval x) := by
  cases x with
  | tmp t =>
    simp only [St.evo]
    rw [List.getD_eq_getElem?_getD]
    cases h : s.tmps[t]? with
    | none => exact True.intro
    | some z =>
      have k := ht.2 t z h
      cases z with
      | pl z => exact k
      | opt d w z =>
        simp only [Option.getD_some]
        split
        · rename_i hh
          simp only [Bool.and_eq_true, beq_iff_eq] at hh
          obtain ⟨h1, h2⟩ := hh
          apply k.1
          cases dc with
          | tmp e =>
            simp only [isTmp, decide_eq_true_eq] at h1
            subst h1; subst h2; subst hw
            exact hc
          | _ => simp [isTmp] at h1
        · exact True.intro
  | const v => exact TOk.ev (defers := a.defers) ht (.const v)
  | global g => exact TOk.ev (defers := a.defers) ht (.global g)
  | func f => exact TOk.ev (defers := a.defers) ht (.func f)

theorem op_pick (c x y : Operand) (hop : o.op = .pick c x y) (h : rval P Γ s kx o = some r) (hs : Sim U w0 F0 Fr s.heap s.rows w ν F) (ht : TOk ν s.tmps a.tmps) : Fin P o a w (Post U w0 F0 Fr ν kx s r.v r.u) := by
  simp only [rval, hop] at h
  split at h
  · rename_i cb hc
    have hc' : a.eval c = .bool cb := by have := TOk.ev (defers := a.defers) ht c; rw [hc] at this; exact this
    have e : (execOp a.eval o).run P w = .ok (.value (if cb then a.eval x else a.eval y)) w := by simp [execOp, hop, hc', asBool]
    unfold pickB at h
    split at h
    · split at h
      · rename_i x' hx
        simp only [ranV, ran, Option.some.injEq] at h
        subst h
        refine fin_pure hs e ?_
        cases cb with
        | false => simp [Act.eval]; exact rfl
        | true =>
          have := evo_den hc' rfl ht x
          rw [hx] at this
          have : a.eval x = .bool x' := this
          simp [this]; exact rfl
      · cases h
    · split at h
      · rename_i x' hx
        simp only [ranV, ran, Option.some.injEq] at h
        subst h
        refine fin_pure hs e ?_
        cases cb with
        | true => simp [Act.eval]; exact rfl
        | false =>
          have := evo_den hc' rfl ht y
          rw [hx] at this
          have : a.eval y = .bool x' := this
          simp [this]; exact rfl
      · cases h
    · cases h
  · cases h

theorem op_binInt (hs : Sim U w0 F0 Fr s.heap s.rows w ν F) {op : BinOp} {t : TypeId} {x y : Operand} {t2 : TypeId} (hop : o.op = .binOp op t x y t2) {k : IntKind} {b c : Int} {ob : Option Prop} {v : Value} (hx : a.eval x = .int k b) (hy : a.eval y = .int k c)
    (h : binI op k b c = some (ob, v)) (ho : obOK ob) : Fin P o a w (Post U w0 F0 Fr ν kx s (.one (.v v)) .none) := by
  have hb := binI_run (P := P) (t := t) (x := x) (y := y) h ho w
  refine fin_pure hs (y := v) ?_ rfl
  simp only [execOp, hop, hx, hy]
  exact run_op hb.1 Next.value
end
end Go.RX

/- Symbolic runs of Go functions: the operations on memory and structs, and the calls, do what is told of them. -/
namespace Go.RX
open Go.RowKit
set_option linter.unusedSimpArgs false
set_option linter.unusedVariables false

section
variable {P : Program} {U : Uni} {Γ : Con U} {s : St U} {kx : Nat} {o : Oper} {r : Ran U} {w0 w : World} {F0 : Nat → Nat → Prop} {Fr : Nat → Prop} {ν : Nu} {F : Nat → Nat → Prop} {a : Act}

theorem run_sizeOf {t : TypeId} {n : Nat} (h : tySize P t = some n) (w : World) : (sizeOf t).run P w = .ok n w := by
  unfold tySize at h
  cases e : P.info? t with
  | none => rw [e] at h; cases h
  | some i => rw [e] at h; cases h; simp [sizeOf, typeInfo, e]
theorem run_isAgg {t : TypeId} {g : Bool} (h : tyAgg P t = some g) (w : World) : (isAgg t).run P w = .ok g w := by
  unfold tyAgg at h
  unfold isAgg
  split at h
  · rename_i fs e; cases h; simp [run_underlying e]
  · rename_i n e' e; cases h; simp [run_underlying e]
  · rename_i d h1 h2 e
    cases h
    simp only [Sem.run_bind, run_underlying e, Result.andThen_ok]
    cases d <;> first | rfl | exact absurd rfl (h1 _) | exact absurd rfl (h2 _ _)
  · cases h

theorem cells_one {y : Value} (h : oneV y = true) : y.cells = #[y] := by cases y <;> first | rfl | cases h
theorem Den.oneV {x : Atom} {y : Value} (d : Den ν x y) (hx : ∀ v, x = .v v → RX.oneV v = true) (hj : x ≠ .junk) : RX.oneV y = true := by
  cases x with
  | v x => have : y = x := d; subst this; exact hx _ rfl
  | ptr id off => obtain ⟨b, _, rfl⟩ := d; rfl
  | el fid i sz off => obtain ⟨ad, n, c, _, _, _, rfl⟩ := d; rfl
  | sl fid => exact d.2
  | fn f caps => obtain ⟨cs, rfl, _⟩ := d; rfl
  | av id off n => obtain ⟨b, _, rfl⟩ := d; rfl
  | yl id => obtain ⟨b, _, rfl⟩ := d; rfl
  | gl g off => have : y = .pointer (some ⟨g, off, none⟩) := d; subst this; rfl
  | junk => exact absurd rfl hj
theorem cells_den {x : SV} {cs : List Atom} {y : Value} (h : x.cells = some cs) (d : DenSV ν x y) : DenL ν cs y.cells.toList := by
  cases x with
  | one x =>
    have key : ∀ {x : Atom}, Den ν x y → RX.oneV y = true → DenL ν [x] y.cells.toList := fun {x} d h1 => by
      rw [cells_one h1]
      refine ⟨rfl, fun v hv => ?_, fun j b z e1 e2 => ?_⟩
      · simp at hv; subst hv; exact h1
      · cases j with
        | zero => simp at e1 e2; subst e1; subst e2; exact d
        | succ j => simp at e1
    have d : Den ν x y := d
    cases x with
    | v x =>
      simp only [SV.cells] at h
      split at h
      · rename_i h1
        cases h
        exact key d (Den.oneV d (fun v e => by cases e; exact h1) (fun e => by cases e))
      · cases h
    | junk => simp [SV.cells] at h
    | ptr id off => simp [SV.cells] at h; subst h; exact key d (Den.oneV d (fun v e => by cases e) (fun e => by cases e))
    | el fid i sz off => simp [SV.cells] at h; subst h; exact key d (Den.oneV d (fun v e => by cases e) (fun e => by cases e))
    | sl fid => simp [SV.cells] at h; subst h; exact key d (Den.oneV d (fun v e => by cases e) (fun e => by cases e))
    | yl id => simp [SV.cells] at h; subst h; exact key d (Den.oneV d (fun v e => by cases e) (fun e => by cases e))
    | av id off n => simp [SV.cells] at h; subst h; exact key d (Den.oneV d (fun v e => by cases e) (fun e => by cases e))
    | gl g off => simp [SV.cells] at h; subst h; exact key d (Den.oneV d (fun v e => by cases e) (fun e => by cases e))
    | fn f caps => simp [SV.cells] at h; subst h; exact key d (Den.oneV d (fun v e => by cases e) (fun e => by cases e))
  | agg l => simp [SV.cells] at h; subst h; obtain ⟨arr, rfl, q⟩ := d; exact q
  | tup l => simp [SV.cells] at h

theorem newVar_run (t : TypeId) (y : Value) (w : World) : (newVar t y).run P w = .ok ⟨w.heap.size, 0, none⟩ (w.alloc (.cells y.cells t)) := by
  simp [newVar, newRow]

theorem fin_box (hs : Sim U w0 F0 Fr s.heap s.rows w ν F) (hk : Fr kx) {t : TypeId} {cs : List Atom} {y : Value} (hd : DenL ν cs y.cells.toList)
    (hr : (execOp a.eval o).run P w = .ok (.value (.pointer (some ⟨w.heap.size, 0, none⟩))) (w.alloc (.cells y.cells t))) : Fin P o a w (Post U w0 F0 Fr ν kx s (.one (.ptr kx 0)) (.box t cs)) := by
  refine Fin.value hr ⟨ν.setB kx w.heap.size, F, Nu.le_setB (hs.free kx hk).1, hs.alloc hk hd, ?_⟩
  exact ⟨w.heap.size, if_pos rfl, rfl⟩

theorem op_box (hs : Sim U w0 F0 Fr s.heap s.rows w ν F) (hk : Fr kx) (ht : TOk ν s.tmps a.tmps) {t : TypeId} {x : Operand} (hop : o.op = .box t x) (h : rval P Γ s kx o = some r) : Fin P o a w (Post U w0 F0 Fr ν kx s r.v r.u) := by
  simp only [rval, hop] at h
  split at h
  · rename_i cs hc
    cases h
    refine fin_box hs hk (y := a.eval x) (cells_den hc (TOk.ev (defers := a.defers) ht x)) ?_
    simp [execOp, hop, Instr.box, newVar_run]
  · cases h

theorem zero_den {t : TypeId} {cs : List Atom} (h : zeroAtoms P t = some cs) : ∃ z : Value, (∀ w : World, (zeroValue t).run P w = .ok z w) ∧ DenL ν cs z.cells.toList ∧ z.cells.size = cs.length := by
  unfold zeroAtoms at h
  split at h
  · rename_i i hi
    split at h
    · rename_i z hz
      split at h
      · rename_i h1
        cases h
        refine ⟨z, fun w => by simp [zeroValue, typeInfo, hi, hz], ⟨by simp, fun v hv => List.all_eq_true.mp h1 v hv, fun j b y e1 e2 => ?_⟩, by simp⟩
        rw [List.getElem?_map, e2] at e1
        cases e1
        exact rfl
      · cases h
    · cases h
  · cases h

theorem op_alloc (hs : Sim U w0 F0 Fr s.heap s.rows w ν F) (hk : Fr kx) (ht : TOk ν s.tmps a.tmps) {t : TypeId} (hop : o.op = .alloc t) (h : rval P Γ s kx o = some r) : Fin P o a w (Post U w0 F0 Fr ν kx s r.v r.u) := by
  simp only [rval, hop] at h
  split at h
  · rename_i cs hc
    cases h
    obtain ⟨z, hz, hd, _⟩ := zero_den (ν := ν) hc
    refine fin_box hs hk (y := z) hd ?_
    simp [execOp, hop, Instr.alloc, hz, newVar_run]
  · cases h

theorem add_at (b off n : Nat) : (Addr.add ⟨b, off, none⟩ n) = ⟨b, off + n, none⟩ := by
  unfold Addr.add
  split
  · rename_i h; subst h; rfl
  · rfl

theorem op_fieldAddr (hs : Sim U w0 F0 Fr s.heap s.rows w ν F) (hk : Fr kx) (ht : TOk ν s.tmps a.tmps) {t : TypeId} {x : Operand} {f : Nat} (hop : o.op = .fieldAddr t x f) (h : rval P Γ s kx o = some r) : Fin P o a w (Post U w0 F0 Fr ν kx s r.v r.u) := by
  simp only [rval, hop] at h
  split at h
  · rename_i fs hu
    split at h
    · rename_i fd hf
      split at h
      · rename_i n hn
        have hx := TOk.ev (defers := a.defers) ht x
        have hrun : ∀ (b off : Nat), a.eval x = .pointer (some ⟨b, off, none⟩) → (execOp a.eval o).run P w = .ok (.value (.pointer (some ⟨b, off + fd.offset, none⟩))) w := fun b off e => by
          simp [execOp, hop, Instr.fieldAt, run_underlying hu, hf, e, Instr.sureAddr, fieldPlace, run_sizeOf hn, add_at]
        split at h
        · rename_i id off hx'
          cases h
          rw [hx'] at hx
          obtain ⟨b, e1, e2⟩ := hx
          exact fin_pure hs (hrun b off e2) ⟨b, e1, rfl⟩
        · rename_i fid i sz off hx'
          cases h
          rw [hx'] at hx
          obtain ⟨ad, n, c, e1, e2, e3, e4⟩ := hx
          refine fin_pure hs (hrun ad.block (ad.off + (i * sz + off)) e4) ⟨ad, n, c, e1, e2, e3, ?_⟩
          rw [Nat.add_assoc, Nat.add_assoc]
        · cases h
      · cases h
    · cases h
  · cases h

theorem loadCells_run (b off : Nat) (w : World) : ∀ (vs : List Value) (i : Nat) (acc : Array Value), (∀ (j : Nat) v, vs[j]? = some v → w.cell? ⟨b, off + (i + j), none⟩ = some v) →
    (loadCellsFrom ⟨b, off, none⟩ i vs.length acc).run P w = .ok (acc ++ vs.toArray) w
  | [], i, acc, h => by simp [loadCellsFrom]
  | v :: vs, i, acc, h => by
    have h0 := h 0 v rfl
    simp only [Nat.add_zero] at h0
    simp only [List.length_cons, loadCellsFrom, Sem.run_bind, run_load, add_at, h0, Result.andThen_ok]
    rw [loadCells_run b off w vs (i + 1) (acc.push v) (fun j u e => by have := h (j + 1) u (by simpa using e); rw [show i + 1 + j = i + (j + 1) by omega]; exact this)]
    simp

theorem load_run {t : TypeId} {n : Nat} (hn : tySize P t = some n) {g : Bool} (hg : tyAgg P t = some g) {b off : Nat} {vs : List Value} (hl : vs.length = if g then n else 1) (h : ∀ (j : Nat) v, vs[j]? = some v → w.cell? ⟨b, off + j, none⟩ = some v) :
    (Instr.loadAt t (.pointer (some ⟨b, off, none⟩))).run P w = .ok (if g then .agg vs.toArray else vs.headD undef) w := by
  cases g with
  | true =>
    have hl' : vs.length = n := hl
    have := loadCells_run (P := P) b off w vs 0 #[] (fun j v e => by rw [Nat.zero_add]; exact h j v e)
    rw [hl'] at this
    simp [Instr.loadAt, Instr.sureAddr, loadVar, run_isAgg hg, run_sizeOf hn, loadCells, this]
  | false =>
    obtain ⟨v, rfl⟩ : ∃ v, vs = [v] := by
      cases vs with
      | nil => simp at hl
      | cons v r => cases r with | nil => exact ⟨v, rfl⟩ | cons _ _ => simp at hl
    have := h 0 v rfl
    simp only [Nat.add_zero] at this
    simp [Instr.loadAt, Instr.sureAddr, loadVar, run_isAgg hg, this]

theorem run_load_op {t : TypeId} {x : Operand} (hop : o.op = .load t x) {y : Value} (h : (Instr.loadAt t (a.eval x)).run P w = .ok y w) : (execOp a.eval o).run P w = .ok (.value y) w := by
  simp [execOp, hop, h]

theorem cell_at {w : World} {b : Nat} {arr : Array Value} {t : TypeId} {fz : Nat × Nat} (h : w.heap[b]? = some (.cells arr t fz)) (i : Nat) : w.cell? ⟨b, i, none⟩ = arr[i]? := by simp [World.cell?, h]

theorem getElem?_drop_take {α : Type} (l : List α) (off n j : Nat) : ((l.drop off).take n)[j]? = if j < n then l[off + j]? else none := by
  rw [List.getElem?_take]
  split
  · rw [List.getElem?_drop]
  · rfl

theorem DenL.sub {l : List Atom} {r : List Value} (h : DenL ν l r) (off n : Nat) : DenL ν ((l.drop off).take n) ((r.drop off).take n) := by
  refine ⟨by simp [h.1], fun v hv => h.2.1 v (List.mem_of_mem_drop (List.mem_of_mem_take hv)), fun j a y e1 e2 => ?_⟩
  rw [getElem?_drop_take] at e1 e2
  split at e1
  · rename_i hj; rw [if_pos hj] at e2; exact h.2.2 _ a y e1 e2
  · cases e1

/-- The package's variables that are told. -/
def GlOk (G : World → Prop) (Γ : Con U) : Prop := ∀ w, G w → ∀ g vs, Γ.gl g = some vs → ∀ (j : Nat) v, vs[j]? = some v → oneV v = true ∧ w.cell? ⟨g, j, none⟩ = some v

theorem op_load (hs : Sim U w0 F0 Fr s.heap s.rows w ν F) (hrk : RecsOk ν s.recs) (hk : Fr kx) (ht : TOk ν s.tmps a.tmps) {G : World → Prop} (hG : G w) (hgl : GlOk G Γ) {t : TypeId} {x : Operand} (hop : o.op = .load t x) (h : rval P Γ s kx o = some r) : Fin P o a w (Post U w0 F0 Fr ν kx s r.v r.u) := by
  simp only [rval, hop] at h
  have hx := TOk.ev (defers := a.defers) ht x
  split at h
  · rename_i id off n e1 hn hg
    rw [e1] at hx
    obtain ⟨b, eb, ex⟩ := hx
    split at h
    · rename_i t' cs hl
      obtain ⟨b', arr, g1, g2, g3, g4, g6⟩ := hs.box id t' cs hl
      obtain rfl : b' = b := Option.some.inj (g1.symm.trans eb)
      split at h
      · rename_i hlen
        cases h
        have hlen' : ((arr.toList.drop off).take n).length = n := by
          have : ((cs.drop off).take n).length = ((arr.toList.drop off).take n).length := by simp [g4.1]
          rw [← this]; exact hlen
        have hrun := load_run (P := P) hn hg (b := b') (off := off) (vs := (arr.toList.drop off).take n) (w := w) (by rw [if_pos rfl]; exact hlen') (fun j v e => by
          rw [getElem?_drop_take] at e
          split at e
          · rw [cell_at g3]; simpa using e
          · cases e)
        rw [if_pos rfl] at hrun
        refine fin_pure hs (run_load_op hop (by rw [ex]; exact hrun)) ⟨_, rfl, ?_⟩
        exact g4.sub off n
      · cases h
    · cases h
  · rename_i id off n e1 hn hg
    rw [e1] at hx
    obtain ⟨b, eb, ex⟩ := hx
    split at h
    · rename_i t' cs hl
      obtain ⟨b', arr, g1, g2, g3, g4, g6⟩ := hs.box id t' cs hl
      obtain rfl : b' = b := Option.some.inj (g1.symm.trans eb)
      split at h
      · rename_i at_ hat
        cases h
        have hlt : off < arr.toList.length := by rw [← g4.1]; exact (List.getElem?_eq_some_iff.mp hat).1
        have hy : arr.toList[off]? = some arr.toList[off] := List.getElem?_eq_getElem hlt
        have hrun := load_run (P := P) hn hg (b := b') (off := off) (vs := [arr.toList[off]]) (w := w) rfl (fun j v e => by
          cases j with
          | zero => simp at e; subst e; rw [cell_at g3]; first | (simp; done) | simpa using hy
          | succ j => simp at e)
        exact fin_pure hs (run_load_op hop (by rw [ex]; exact hrun)) (g4.2.2 off at_ _ hat hy)
      · cases h
    · cases h
  · rename_i g off n e1 hn hg
    rw [e1] at hx
    have hx : a.eval x = .pointer (some ⟨g, off, none⟩) := hx
    split at h
    · rename_i vs hvs
      split at h
      · rename_i v hv
        cases h
        obtain ⟨q1, q2⟩ := hgl w hG g vs hvs off v hv
        have hrun := load_run (P := P) hn hg (b := g) (off := off) (vs := [v]) (w := w) rfl (fun j y e => by
          cases j with
          | zero => simp at e; subst e; exact q2
          | succ j => simp at e)
        exact fin_pure hs (run_load_op hop (by rw [hx]; exact hrun)) rfl
      · cases h
    · cases h
  · rename_i fid i sz off n e1 hn hg
    rw [e1] at hx
    obtain ⟨ad, m, c, eb, hi, hsp, ex⟩ := hx
    split at h
    · rename_i rw_ hl
      split at h
      · rename_i hle
        obtain ⟨v, f1, f2⟩ := rowX_el hs hrk hl
        obtain rfl : v = .slice (some ad) m c := Option.some.inj (f1.symm.trans eb)
        obtain ⟨A', cap', fe, _, _, f2⟩ := f2
        cases fe
        obtain ⟨ad', fe, _, f2⟩ := f2 (by omega)
        cases fe
        obtain ⟨hsz, hle⟩ := hle
        subst hsz
        have hcell : ∀ k, k < n → ∃ cv y, (U.enc rw_.c (rw_.l.getD i (U.dflt rw_.c)))[off + k]? = some cv ∧ w.cell? ⟨ad.block, ad.off + (i * U.size rw_.c + off) + k, none⟩ = some y ∧ CVDen (Rd U F) w cv y := fun k hk => by
          have hlt : off + k < (U.enc rw_.c (rw_.l.getD i (U.dflt rw_.c))).length := by rw [U.encSize]; omega
          obtain ⟨y, q1, q2⟩ := f2 i hi (off + k) _ (List.getElem?_eq_getElem hlt)
          exact ⟨_, y, List.getElem?_eq_getElem hlt, by rw [show ad.off + (i * U.size rw_.c + off) + k = ad.off + (i * U.size rw_.c + (off + k)) by omega]; exact q1, q2⟩
        let vs : List Value := (List.range n).map fun k => (w.cell? ⟨ad.block, ad.off + (i * U.size rw_.c + off) + k, none⟩).getD undef
        have hvl : vs.length = n := by simp [vs]
        have hv : ∀ (j : Nat) v, vs[j]? = some v → j < n ∧ w.cell? ⟨ad.block, ad.off + (i * U.size rw_.c + off) + j, none⟩ = some v := fun j v e => by
          have hj : j < n := by rw [← hvl]; exact (List.getElem?_eq_some_iff.mp e).1
          refine ⟨hj, ?_⟩
          obtain ⟨cv, y, _, q1, _⟩ := hcell j hj
          simp only [vs, List.getElem?_map, List.getElem?_range hj, Option.map_some, q1, Option.getD_some, Option.some.injEq] at e
          rw [q1, e]
        have hrun := load_run (P := P) hn hg (b := ad.block) (off := ad.off + (i * U.size rw_.c + off)) (vs := vs) (w := w) (by rw [if_pos rfl]; exact hvl) (fun j v e => (hv j v e).2)
        rw [if_pos rfl] at hrun
        cases hat : atomsOf kx (((U.enc rw_.c (rw_.l.getD i (U.dflt rw_.c))).drop off).take n) 0 with
        | mk as rs =>
          simp only [hat] at h
          split at h
          · rename_i h16
            cases h
            obtain ⟨ν', g1, g2, g3, _⟩ := Sim.atoms (Fr := fun k => Fr k ∧ k ≠ kx) (kx := kx) _ 0 vs (hs.fr fun _ h => h.1) (fun h => h.2 rfl) hat (fun i _ hi => (hs.free kx hk).2 i (by omega)) (by omega)
              (by simp only [hvl, List.length_take, List.length_drop, U.encSize]; omega) (fun j cv y q1 q2 => by
                rw [getElem?_drop_take] at q1
                obtain ⟨hj, q3⟩ := hv j y q2
                rw [if_pos hj] at q1
                obtain ⟨cv', y', p1, p2, p3⟩ := hcell j hj
                rw [q1] at p1
                cases p1
                rw [q3] at p2
                cases p2
                exact p3)
            refine Fin.value (run_load_op hop (by rw [ex]; exact hrun)) ⟨ν', F, g1, ?_, ⟨_, rfl, g3⟩⟩
            cases rs with
            | nil => exact g2
            | cons x rs => exact g2
          · cases h
      · cases h
    · cases h
  · rename_i fid i sz off n e1 hn hg
    rw [e1] at hx
    obtain ⟨ad, m, c, eb, hi, hsp, ex⟩ := hx
    split at h
    · rename_i rw_ hl
      split at h
      · rename_i hsz
        subst hsz
        obtain ⟨v, f1, f2⟩ := rowX_el hs hrk hl
        obtain rfl : v = .slice (some ad) m c := Option.some.inj (f1.symm.trans eb)
        obtain ⟨A', cap', fe, _, _, f2⟩ := f2
        cases fe
        obtain ⟨ad', fe, _, f2⟩ := f2 (by omega)
        cases fe
        split at h
        · rename_i x' hcv
          cases h
          obtain ⟨y, q1, q2⟩ := f2 i hi off _ hcv
          obtain ⟨rfl, _⟩ : y = x' ∧ _ := q2
          have hrun := load_run (P := P) hn hg (b := ad.block) (off := ad.off + (i * U.size rw_.c + off)) (vs := [y]) (w := w) rfl (fun j v e => by
            cases j with
            | zero => simp at e; subst e; exact q1
            | succ j => simp at e)
          exact fin_pure hs (run_load_op hop (by rw [ex]; exact hrun)) rfl
        · rename_i c' l' hcv
          cases h
          obtain ⟨y, q1, q2⟩ := f2 i hi off _ hcv
          have q2 : Rd U F w y c' l' := q2
          have hrun := load_run (P := P) hn hg (b := ad.block) (off := ad.off + (i * U.size rw_.c + off)) (vs := [y]) (w := w) rfl (fun j v e => by
            cases j with
            | zero => simp at e; subst e; exact q1
            | succ j => simp at e)
          have hn0 : ν.f (16 * kx) = none := (hs.free kx hk).2 0 (by omega)
          refine Fin.value (run_load_op hop (by rw [ex]; exact hrun)) ⟨ν.setF (16 * kx) y, F, Nu.le_setF hn0, ?_, ⟨if_pos rfl, q2.oneV⟩⟩
          exact (hs.fr (Fr' := fun k => Fr k ∧ k ≠ kx) fun _ h => h.1).addRow hn0 (fun k j hk' hj q => hk'.2 (by omega)) q2
        · cases h
      · cases h
    · cases h
  · cases h
end
end Go.RX

/- Symbolic runs of Go functions: stores, builds, indexes, parts, numbers' and texts' operations do what is told of them. -/
namespace Go.RX
open Go.RowKit
set_option linter.unusedSimpArgs false
set_option linter.unusedVariables false

theorem setCells_length {α : Type} : ∀ (l : List α) (off : Nat) (new : List α), off + new.length ≤ l.length → (setCells l off new).length = l.length
  | l, 0, new, h => by simp [setCells]; omega
  | c :: l, n + 1, new, h => by simp [setCells]; exact setCells_length l n new (by simp at h; omega)
  | [], n + 1, new, h => by simp at h
theorem setCells_get {α : Type} : ∀ (l : List α) (off : Nat) (new : List α), off + new.length ≤ l.length → ∀ j, (setCells l off new)[j]? = if off ≤ j ∧ j < off + new.length then new[j - off]? else l[j]?
  | l, 0, new, h, j => by
    simp only [setCells, Nat.zero_le, true_and, Nat.zero_add, Nat.sub_zero]
    rw [List.getElem?_append]
    split
    · rfl
    · rw [List.getElem?_drop]; congr 1; omega
  | c :: l, n + 1, new, h, 0 => by simp [setCells]
  | c :: l, n + 1, new, h, j + 1 => by
    simp only [setCells, List.getElem?_cons_succ]
    rw [setCells_get l n new (by simp at h; omega) j]
    by_cases q : n ≤ j ∧ j < n + new.length
    · rw [if_pos q, if_pos (by omega)]; congr 1; omega
    · rw [if_neg q, if_neg (by omega)]
  | [], n + 1, new, h, j => by simp at h

theorem DenL.set {ν : Nu} {l new : List Atom} {r vs : List Value} (h : DenL ν l r) (k : DenL ν new vs) {off : Nat} (hl : off + new.length ≤ l.length) {r' : List Value} (hr : r'.length = r.length) (hg : ∀ j, r'[j]? = if off ≤ j ∧ j < off + vs.length then vs[j - off]? else r[j]?) : DenL ν (setCells l off new) r' := by
  refine ⟨by rw [setCells_length l off new hl, hr, h.1], fun v hv => ?_, fun j a y e1 e2 => ?_⟩
  · obtain ⟨j, hj⟩ := List.getElem?_of_mem hv
    rw [hg] at hj
    split at hj
    · exact k.2.1 v (List.mem_of_getElem? hj)
    · exact h.2.1 v (List.mem_of_getElem? hj)
  · rw [setCells_get l off new hl] at e1
    rw [hg, ← k.1] at e2
    split at e1
    · rename_i q; rw [if_pos q] at e2; exact k.2.2 _ a y e1 e2
    · rename_i q; rw [if_neg q] at e2; exact h.2.2 _ a y e1 e2

section
variable {P : Program} {U : Uni} {Γ : Con U} {s : St U} {kx : Nat} {o : Oper} {r : Ran U} {w0 w : World} {F0 : Nat → Nat → Prop} {Fr : Nat → Prop} {ν : Nu} {F : Nat → Nat → Prop} {a : Act}

theorem setCell_heap {w : World} {b : Nat} {arr : Array Value} {t : TypeId} {fz : Nat × Nat} (h : w.heap[b]? = some (.cells arr t fz)) (i : Nat) (v : Value) : (w.setCell ⟨b, i, none⟩ v).heap[b]? = some (.cells (arr.setIfInBounds i v) t fz) := by
  simp [World.setCell, Array.getElem?_modify, h]

theorem storeCells_run (b off : Nat) {t : TypeId} {fz : Nat × Nat} : ∀ (vs : List Value) (i : Nat) (w : World) (arr : Array Value), w.heap[b]? = some (.cells arr t fz) → NoFz fz arr.size → (∀ v ∈ vs, oneV v = true) → off + (i + vs.length) ≤ arr.size →
    ∃ (w' : World) (arr' : Array Value), (storeCells ⟨b, off, none⟩ vs i).run P w = .ok () w' ∧ w'.os = w.os ∧ w'.tape = w.tape ∧ w'.output = w.output ∧ w'.heap.size = w.heap.size ∧ w'.heap[b]? = some (.cells arr' t fz) ∧ (∀ k, k ≠ b → w'.heap[k]? = w.heap[k]?) ∧
      arr'.size = arr.size ∧ ∀ j, arr'[j]? = if off + i ≤ j ∧ j < off + i + vs.length then vs[j - (off + i)]? else arr[j]?
  | [], i, w, arr, hb, _, h1, hl => ⟨w, arr, rfl, rfl, rfl, rfl, rfl, hb, fun _ _ => rfl, rfl, fun j => by rw [if_neg (by simp)]⟩
  | v :: vs, i, w, arr, hb, hz, h1, hl => by
    simp only [List.length_cons] at hl
    have hc : w.cell? ⟨b, off + i, none⟩ = some arr[off + i] := by rw [cell_at hb, Array.getElem?_eq_getElem]
    have hf : w.frozen? ⟨b, off + i, none⟩ = false := by
      have := hz (off + i) (by omega)
      simp only [World.frozen?, hb]
      obtain ⟨lo, hi⟩ := fz
      simp only [Bool.and_eq_false_iff, decide_eq_false_iff_not]
      by_cases q : lo ≤ off + i
      · exact .inr fun q2 => this ⟨q, q2⟩
      · exact .inl q
    have hv : v.oneCell' = true := by have := h1 v (List.mem_cons_self ..); cases v <;> first | rfl | (simp [oneV] at this)
    have hst : (store ⟨b, off + i, none⟩ v).run P w = .ok () (w.setCell ⟨b, off + i, none⟩ v) := by rw [run_store P w _ v _ hv, hc]; simp [hf]
    obtain ⟨w', arr', g1, g2, g3, g4, g5, g6, g7, g8, g9⟩ := storeCells_run b off vs (i + 1) (w.setCell ⟨b, off + i, none⟩ v) _ (setCell_heap hb (off + i) v) (by simpa using hz) (fun u hu => h1 u (List.mem_cons_of_mem _ hu)) (by simp; omega)
    refine ⟨w', arr', ?_, g2, g3, g4, by rw [g5, World.size_setCell], g6, fun k hk => (g7 k hk).trans (Below.heap_setCell w _ _ k hk), by rw [g8]; simp, fun j => ?_⟩
    · simp only [storeCells, Sem.run_bind, add_at, hst, Result.andThen_ok]
      exact g1
    · rw [g9]
      by_cases q : off + (i + 1) ≤ j ∧ j < off + (i + 1) + vs.length
      · rw [if_pos q, if_pos (by simp; omega)]
        rw [show j - (off + i) = (j - (off + (i + 1))) + 1 by omega, List.getElem?_cons_succ]
      · rw [if_neg q]
        by_cases e : j = off + i
        · subst e
          have hlt : off + i < arr.size := by omega
          rw [if_pos (by simp), Nat.sub_self]
          simp [hlt]
        · rw [if_neg (by simp; omega)]
          simp [Array.getElem?_setIfInBounds, Ne.symm e]

theorem op_store (hs : Sim U w0 F0 Fr s.heap s.rows w ν F) (hk : Fr kx) (ht : TOk ν s.tmps a.tmps) {t : TypeId} {x y : Operand} (hop : o.op = .store t x y) (h : rval P Γ s kx o = some r) : Fin P o a w (Post U w0 F0 Fr ν kx s r.v r.u) := by
  simp only [rval, hop] at h
  have hx := TOk.ev (defers := a.defers) ht x
  split at h
  · rename_i id off cs n e1 hcs hn
    rw [e1] at hx
    obtain ⟨b, eb, ex⟩ := hx
    have hd := cells_den hcs (TOk.ev (defers := a.defers) ht y)
    split at h
    · rename_i t' old hl
      split at h
      · rename_i hlen
        obtain ⟨hlen, hle⟩ := hlen
        cases h
        obtain ⟨b', arr, g1, g2, g3, g4, g6⟩ := hs.box id t' old hl
        obtain rfl : b' = b := Option.some.inj (g1.symm.trans eb)
        have hsz : (a.eval y).cells.toList.length = n := by rw [← hd.1]; exact hlen
        have hao : arr.toList.length = old.length := g4.1.symm
        obtain ⟨w', arr', q1, q2, q3, q4, q5, q6, q7, q8, q9⟩ := storeCells_run (P := P) b' off (a.eval y).cells.toList 0 w arr g3 (NoFz.zero _) hd.2.1 (by rw [Nat.zero_add, hsz]; simp at hao; omega)
        have hrun : (execOp a.eval o).run P w = .ok .skip w' := by
          have hz : (a.eval y).cells.size = n := by simpa using hsz
          simp [execOp, hop, Instr.storeAt, ex, Instr.sureAddr, storeVar, run_sizeOf hn, hz, q1]
        refine Fin.skip hrun ⟨ν, F, ν.le_refl, ?_, True.intro⟩
        refine (hs.fr (Fr' := fun k => Fr k ∧ k ≠ kx) fun _ h => h.1).store hl eb q2 q3 q4 q5 q6 q7 ?_
        refine g4.set hd (by rw [hlen]; exact hle) (by simp [q8]) (fun j => ?_)
        have := q9 j
        simp only [Nat.add_zero] at this
        simpa using this
      · cases h
    · cases h
  · cases h

theorem op_extract (hs : Sim U w0 F0 Fr s.heap s.rows w ν F) (ht : TOk ν s.tmps a.tmps) {x : Operand} {i : Nat} (hop : o.op = .extract x i) (h : rval P Γ s kx o = some r) : Fin P o a w (Post U w0 F0 Fr ν kx s r.v r.u) := by
  simp only [rval, hop] at h
  have hx := TOk.ev (defers := a.defers) ht x
  split at h
  · rename_i l e1
    rw [e1] at hx
    obtain ⟨arr, ex, hl, hd⟩ := hx
    split at h
    · rename_i at_ hi
      cases h
      have hlt : i < arr.size := by rw [← hl]; exact (List.getElem?_eq_some_iff.mp hi).1
      have := hd i _ arr[i] hi (Array.getElem?_eq_getElem hlt)
      obtain ⟨z, e, d⟩ := this
      cases e
      exact fin_pure hs (y := arr[i]) (by simp [execOp, hop, Instr.extract, ex, Array.getElem?_eq_getElem hlt]) d
    · rename_i as hi
      cases h
      have hlt : i < arr.size := by rw [← hl]; exact (List.getElem?_eq_some_iff.mp hi).1
      have := hd i _ arr[i] hi (Array.getElem?_eq_getElem hlt)
      exact fin_pure hs (y := arr[i]) (by simp [execOp, hop, Instr.extract, ex, Array.getElem?_eq_getElem hlt]) this
    · cases h
  · cases h

theorem part_agg {t : TypeId} {n : Nat} (hn : tySize P t = some n) (hg : tyAgg P t = some true) (arr : Array Value) (off : Nat) : (part t arr off).run P w = .ok (.agg (arr.extract off (off + n))) w := by
  simp [part, run_isAgg hg, run_sizeOf hn]
theorem part_one {t : TypeId} (hg : tyAgg P t = some false) (arr : Array Value) (off : Nat) {v : Value} (h : arr[off]? = some v) : (part t arr off).run P w = .ok v w := by
  simp [part, run_isAgg hg, h]
theorem extract_toList (arr : Array Value) (off n : Nat) : (arr.extract off (off + n)).toList = (arr.toList.drop off).take n := by simp

theorem op_field (hs : Sim U w0 F0 Fr s.heap s.rows w ν F) (ht : TOk ν s.tmps a.tmps) {t : TypeId} {x : Operand} {f : Nat} (hop : o.op = .field t x f) (h : rval P Γ s kx o = some r) : Fin P o a w (Post U w0 F0 Fr ν kx s r.v r.u) := by
  simp only [rval, hop] at h
  have hx := TOk.ev (defers := a.defers) ht x
  split at h
  · rename_i fs cs hu e1
    rw [e1] at hx
    obtain ⟨arr, ex, hd⟩ := hx
    split at h
    · rename_i fd hf
      split at h
      · rename_i n hn hg
        cases h
        refine fin_pure hs (y := .agg (arr.extract fd.offset (fd.offset + n))) ?_ ⟨_, rfl, by rw [extract_toList]; exact hd.sub _ _⟩
        simp [execOp, hop, Instr.field, run_underlying hu, hf, ex, asAgg, part_agg hn hg]
      · rename_i n hn hg
        split at h
        · rename_i at_ hat
          cases h
          have hlt : fd.offset < arr.toList.length := by rw [← hd.1]; exact (List.getElem?_eq_some_iff.mp hat).1
          have hy : arr[fd.offset]? = some arr[fd.offset] := Array.getElem?_eq_getElem (by simpa using hlt)
          refine fin_pure hs (y := arr[fd.offset]) ?_ (hd.2.2 _ _ _ hat (by first | (simp; done) | simpa using hy))
          simp [execOp, hop, Instr.field, run_underlying hu, hf, ex, asAgg, part_one hg arr _ hy]
        · cases h
      · cases h
    · cases h
  · cases h

theorem run_indexAt_arr {t e : TypeId} {n : Nat} (hu : P.underlying t = some (.array n e)) {z : Nat} (hz : tySize P e = some z) {b off : Nat} {kd : IntKind} {k : Int} (h : 0 ≤ k ∧ k < (n : Int)) :
    (Instr.indexAt t (.pointer (some ⟨b, off, none⟩)) (.int kd k)).run P w = .ok (.pointer (some ⟨b, off + k.toNat * z, none⟩)) w := by
  simp [Instr.indexAt, asIntOf, run_underlying hu, Instr.sureAddr, h, run_sizeOf hz, add_at]
theorem run_indexAt_sl {t e : TypeId} (hu : P.underlying t = some (.slice e)) {z : Nat} (hz : tySize P e = some z) {ad : Addr} {n c : Nat} {kd : IntKind} {k : Int} (h : 0 ≤ k ∧ k < (n : Int)) :
    (Instr.indexAt t (.slice (some ad) n c) (.int kd k)).run P w = .ok (.pointer (some (ad.add (k.toNat * z)))) w := by
  simp [Instr.indexAt, asIntOf, run_underlying hu, h, run_sizeOf hz]

theorem op_indexAddr (hs : Sim U w0 F0 Fr s.heap s.rows w ν F) (hrk : RecsOk ν s.recs) (ht : TOk ν s.tmps a.tmps) {t : TypeId} {x i : Operand} (hop : o.op = .indexAddr t x i) (h : rval P Γ s kx o = some r) (ho : obOK r.ob) : Fin P o a w (Post U w0 F0 Fr ν kx s r.v r.u) := by
  simp only [rval, hop] at h
  have hx := TOk.ev (defers := a.defers) ht x
  have hi := TOk.ev (defers := a.defers) ht i
  split at h
  · rename_i n e id off kd k hu e1 e2
    rw [e1] at hx; rw [e2] at hi
    obtain ⟨b, eb, ex⟩ := hx
    have hi : a.eval i = .int kd k := hi
    split at h
    · rename_i z hz
      cases h
      exact fin_pure hs (y := .pointer (some ⟨b, off + k.toNat * z, none⟩)) (by simp [execOp, hop, ex, hi, run_indexAt_arr hu hz ho]) ⟨b, eb, rfl⟩
    · cases h
  · rename_i n e g off kd k hu e1 e2
    rw [e1] at hx; rw [e2] at hi
    have hx : a.eval x = .pointer (some ⟨g, off, none⟩) := hx
    have hi : a.eval i = .int kd k := hi
    split at h
    · rename_i z hz
      cases h
      exact fin_pure hs (y := .pointer (some ⟨g, off + k.toNat * z, none⟩)) (by simp [execOp, hop, hx, hi, run_indexAt_arr hu hz ho]) rfl
    · cases h
  · rename_i n e fid j sz off kd k hu e1 e2
    rw [e1] at hx; rw [e2] at hi
    obtain ⟨ad, m, c, eb, hj, hsp, ex⟩ := hx
    have hi : a.eval i = .int kd k := hi
    split at h
    · rename_i z hz
      cases h
      refine fin_pure hs (y := .pointer (some ⟨ad.block, ad.off + (j * sz + off) + k.toNat * z, none⟩)) (by simp [execOp, hop, ex, hi, run_indexAt_arr hu hz ho]) ⟨ad, m, c, eb, hj, hsp, ?_⟩
      rw [Nat.add_assoc, Nat.add_assoc]; rfl
    · cases h
  · rename_i e fid kd k hu e1 e2
    rw [e1] at hx; rw [e2] at hi
    have hi : a.eval i = .int kd k := hi
    obtain ⟨hf, _⟩ := hx
    split at h
    · rename_i z rw_ hz hl
      split at h
      · rename_i hzz
        subst hzz
        cases h
        obtain ⟨v, f1, f2⟩ := rowX_el hs hrk hl
        have ho : 0 ≤ k ∧ k < (rw_.l.length : Int) := ho
        obtain ⟨A, cap, rfl, _, _, f3⟩ := f2
        obtain ⟨ad, rfl, hsp, _⟩ := f3 (by omega)
        generalize hlen : rw_.l.length = n at f1 f3 ho
        have ex : a.eval x = .slice (some ad) n cap := Option.some.inj (hf.symm.trans f1)
        have hkn : 0 ≤ k ∧ k < (n : Int) := by omega
        refine fin_pure hs (y := .pointer (some (ad.add (k.toNat * U.size rw_.c)))) (by simp [execOp, hop, ex, hi, run_indexAt_sl (w := w) hu hz (ad := ad) (c := cap) (kd := kd) hkn]) ⟨ad, n, cap, f1, by omega, hsp, ?_⟩
        obtain ⟨ab, ao, as⟩ := ad
        have : as = none := hsp
        subst this
        rw [add_at]
        rfl
      · cases h
    · cases h
  · rename_i e id off n kd k hu e1 e2
    rw [e1] at hx; rw [e2] at hi
    obtain ⟨b, eb, ex⟩ := hx
    have ex : a.eval x = .slice (some ⟨b, off, none⟩) n n := ex
    have hi : a.eval i = .int kd k := hi
    split at h
    · rename_i hz
      cases h
      refine fin_pure hs (y := .pointer (some ((⟨b, off, none⟩ : Addr).add (k.toNat * 1)))) (by simp [execOp, hop, ex, hi, run_indexAt_sl (w := w) hu hz (ad := ⟨b, off, none⟩) (c := n) (kd := kd) ho]) ⟨b, eb, ?_⟩
      rw [add_at, Nat.mul_one]; rfl
    · cases h
  · cases h

theorem op_index (hs : Sim U w0 F0 Fr s.heap s.rows w ν F) (ht : TOk ν s.tmps a.tmps) {t : TypeId} {x i : Operand} (hop : o.op = .index t x i) (h : rval P Γ s kx o = some r) (ho : obOK r.ob) : Fin P o a w (Post U w0 F0 Fr ν kx s r.v r.u) := by
  simp only [rval, hop] at h
  have hx := TOk.ev (defers := a.defers) ht x
  have hi := TOk.ev (defers := a.defers) ht i
  split at h
  · rename_i b kd k hu e1 e2
    rw [e1] at hx; rw [e2] at hi
    have hi : a.eval i = .int kd k := hi
    have ex : a.eval x = .string b := hx
    cases h
    have ho : 0 ≤ k ∧ k < (b.size : Int) := ho
    have hlt : k.toNat < b.size := by omega
    refine fin_pure hs (y := .int .u8 (bt b k)) ?_ rfl
    simp [execOp, hop, ex, hi, Instr.index, asIntOf, run_underlying hu, ho.1, hlt, bt, getElem?_pos]
  · rename_i n e cs kd k hu e1 e2
    rw [e1] at hx; rw [e2] at hi
    have hi : a.eval i = .int kd k := hi
    obtain ⟨arr, ex, hd⟩ := hx
    split at h
    · rename_i z hz hg
      cases h
      refine fin_pure hs (y := .agg (arr.extract (k.toNat * z) (k.toNat * z + z))) ?_ ⟨_, rfl, by rw [extract_toList]; exact hd.sub _ _⟩
      have ho : 0 ≤ k ∧ k < (n : Int) := ho
      simp [execOp, hop, ex, hi, Instr.index, asIntOf, run_underlying hu, ho, run_sizeOf hz, part_agg hz hg]
    · rename_i z hz hg
      split at h
      · rename_i at_ hat
        cases h
        have ho : 0 ≤ k ∧ k < (n : Int) := ho
        have hlt : k.toNat * z < arr.toList.length := by rw [← hd.1]; exact (List.getElem?_eq_some_iff.mp hat).1
        have hy : arr[k.toNat * z]? = some arr[k.toNat * z] := Array.getElem?_eq_getElem (by simpa using hlt)
        refine fin_pure hs (y := arr[k.toNat * z]) ?_ (hd.2.2 _ _ _ hat (by rw [Array.getElem?_toList]; exact hy))
        simp [execOp, hop, ex, hi, Instr.index, asIntOf, run_underlying hu, ho, run_sizeOf hz, part_one hg arr _ hy]
      · cases h
    · cases h
  · cases h
end
end Go.RX

/- Symbolic runs of Go functions: comparisons, builds, conversions and small builtins do what is told of them. -/
namespace Go.RX
open Go.RowKit
set_option linter.unusedSimpArgs false
set_option linter.unusedVariables false

section
variable {P : Program} {U : Uni} {Γ : Con U} {s : St U} {kx : Nat} {o : Oper} {r : Ran U} {w0 w : World} {F0 : Nat → Nat → Prop} {Fr : Nat → Prop} {ν : Nu} {F : Nat → Nat → Prop} {a : Act}

theorem fieldsOf_eq {t : TypeId} {fs : Array Field} (h : P.underlying t = some (.struct fs)) : P.fieldsOf t = fs := by simp [Program.fieldsOf, h]

/-- What 'structEq' says of a pair of values of a type. -/
def EqAt (P : Program) (ν : Nu) (n : Nat) : Prop := ∀ (t : TypeId) (x y : List Atom) (b : Bool), structEq P n t x y = some b → ∀ (d : Nat) (w : World), n ≤ d →
  (∀ xs ys : Array Value, tyAgg P t = some true → DenL ν x xs.toList → DenL ν y ys.toList → (Op.equalIn d t (.agg xs) (.agg ys)).run P w = .ok b w) ∧
  (∀ u v : Value, tyAgg P t = some false → DenL ν x [u] → DenL ν y [v] → (Op.equalIn d t u v).run P w = .ok b w)

theorem part_run {t : TypeId} {z : Nat} {g : Bool} (hz : tySize P t = some z) (hg : tyAgg P t = some g) {l : List Atom} {arr : Array Value} (h : DenL ν l arr.toList) (off : Nat) (hl : g = false → off < l.length) (w : World) :
    ∃ v : Value, (part t arr off).run P w = .ok v w ∧ (g = true → ∃ xs : Array Value, v = .agg xs ∧ DenL ν ((l.drop off).take z) xs.toList) ∧ (g = false → DenL ν ((l.drop off).take 1) [v]) := by
  cases g with
  | true => exact ⟨_, part_agg hz hg arr off, fun _ => ⟨_, rfl, by rw [extract_toList]; exact h.sub _ _⟩, fun e => by cases e⟩
  | false =>
    have hlt : off < arr.toList.length := by rw [← h.1]; exact hl rfl
    have hy : arr[off]? = some arr[off] := Array.getElem?_eq_getElem (by simpa using hlt)
    refine ⟨arr[off], part_one hg arr off hy, fun e => (by cases e), fun _ => ?_⟩
    have := h.sub off 1
    have e : (arr.toList.drop off).take 1 = [arr[off]] := by
      rw [List.drop_eq_getElem_cons hlt]; simp
    rw [e] at this
    exact this

theorem atomEq_some {d : TypeDesc} {x y : Atom} {b : Bool} (h : atomEq d x y = some b) {u v : Value} (hx : Den ν x u) (hy : Den ν y v) {t : TypeId} (ht : P.underlying t = some d) (n : Nat) (w : World) : (Op.equalIn (n + 1) t u v).run P w = .ok b w := by
  unfold atomEq at h
  split at h
  · rename_i k' k a k2 b'
    split at h
    · rename_i hk
      subst hk
      cases h
      have hx : u = .int k a := hx
      have hy : v = .int k b' := hy
      subst hx; subst hy
      exact run_equalIn_int w n t k _ a b' ht
    · cases h
  · cases h
    rename_i a b'
    have hx : u = .bool a := hx
    have hy : v = .bool b' := hy
    subst hx; subst hy
    exact run_equalIn_bool' w n t a b' ht
  · cases h
    rename_i a b'
    have hx : u = .string a := hx
    have hy : v = .string b' := hy
    subst hx; subst hy
    rw [beq_toListBytes]
    exact run_equalIn_string w n t a b' ht
  · cases h

theorem fieldsEq_run {n : Nat} (ih : EqAt P ν n) {d : Nat} (hd : n ≤ d) : ∀ (fs : List Field) (x y : List Atom) (b : Bool), fieldsEq P (structEq P n) fs x y = some b → ∀ (xs ys : Array Value) (w : World), DenL ν x xs.toList → DenL ν y ys.toList →
    (Op.eqFields d xs ys fs).run P w = .ok b w
  | [], x, y, b, h, xs, ys, w, hx, hy => by cases h; simp [Op.eqFields]
  | f :: fs, x, y, b, h, xs, ys, w, hx, hy => by
    simp only [fieldsEq] at h
    split at h
    · cases h
    · rename_i hname
      split at h
      · rename_i z g hz hg
        split at h
        · rename_i b1 hb1
          have hl : ∀ l : List Atom, g = false → structEq P n f.type ((l.drop f.offset).take (if g then z else 1)) ((l.drop f.offset).take (if g then z else 1)) = structEq P n f.type ((l.drop f.offset).take (if g then z else 1)) ((l.drop f.offset).take (if g then z else 1)) := fun _ _ => rfl
          have hlen : g = false → f.offset < x.length ∧ f.offset < y.length := fun hg' => by
            subst hg'
            cases n with
            | zero => simp [structEq] at hb1
            | succ n =>
              simp only [structEq, Bool.false_eq_true, if_false] at hb1
              split at hb1
              · rename_i fs' hu
                simp [tyAgg, hu] at hg
              · rename_i k' e' hu
                simp [tyAgg, hu] at hg
              · split at hb1
                · rename_i d' u v e1 e2
                  have l1 : ((x.drop f.offset).take 1).length = 1 := by rw [e1]; rfl
                  have l2 : ((y.drop f.offset).take 1).length = 1 := by rw [e2]; rfl
                  simp at l1 l2
                  omega
                · cases hb1
              · cases hb1
          obtain ⟨u, pu, qu, ru⟩ := part_run hz hg hx f.offset (fun h => (hlen h).1) w
          obtain ⟨v, pv, qv, rv⟩ := part_run hz hg hy f.offset (fun h => (hlen h).2) w
          have heq : (Op.equalIn d f.type u v).run P w = .ok b1 w := by
            cases g with
            | true =>
              obtain ⟨us, rfl, hus⟩ := qu rfl
              obtain ⟨vs, rfl, hvs⟩ := qv rfl
              exact (ih f.type _ _ b1 hb1 d w hd).1 us vs hg hus hvs
            | false => exact (ih f.type _ _ b1 hb1 d w hd).2 u v hg (ru rfl) (rv rfl)
          have step : ∀ b2, (Op.eqFields d xs ys fs).run P w = .ok b2 w → (Op.eqFields d xs ys (f :: fs)).run P w = .ok (b1 && b2) w := fun b2 h2 => by
            simp only [Op.eqFields, Sem.run_bind, Sem.run_ite]
            rw [if_pos (by simpa using hname)]
            simp only [pu, Result.andThen_ok, pv, heq]
            cases b1 with
            | false => simp
            | true => simp [h2]
          cases fs with
          | nil =>
            cases h
            have := step true (by simp [Op.eqFields])
            simpa using this
          | cons f' fs' =>
            simp only at h
            split at h
            · rename_i b2 hb2
              cases h
              exact step b2 (fieldsEq_run ih hd (f' :: fs') x y b2 hb2 xs ys w hx hy)
            · cases h
        · cases h
      · cases h

theorem itemsEq_run {n : Nat} (ih : EqAt P ν n) {d : Nat} (hd : n ≤ d) {e : TypeId} {z : Nat} {g : Bool} (hz : tySize P e = some z) (hg : tyAgg P e = some g) : ∀ (is : List Nat) (x y : List Atom) (b : Bool), itemsEq (structEq P n e) z g is x y = some b → ∀ (xs ys : Array Value) (w : World), DenL ν x xs.toList → DenL ν y ys.toList →
    (Op.eqItems d e z xs ys is).run P w = .ok b w
  | [], x, y, b, h, xs, ys, w, hx, hy => by cases h; simp [Op.eqItems]
  | i :: is, x, y, b, h, xs, ys, w, hx, hy => by
    simp only [itemsEq] at h
    split at h
    · rename_i b1 hb1
      have hlen : g = false → i * z < x.length ∧ i * z < y.length := fun hg' => by
        subst hg'
        cases n with
        | zero => simp [structEq] at hb1
        | succ n =>
          simp only [structEq, Bool.false_eq_true, if_false] at hb1
          split at hb1
          · rename_i fs' hu
            simp [tyAgg, hu] at hg
          · rename_i k' e' hu
            simp [tyAgg, hu] at hg
          · split at hb1
            · rename_i d' u v e1 e2
              have l1 : ((x.drop (i * z)).take 1).length = 1 := by rw [e1]; rfl
              have l2 : ((y.drop (i * z)).take 1).length = 1 := by rw [e2]; rfl
              simp at l1 l2
              omega
            · cases hb1
          · cases hb1
      obtain ⟨u, pu, qu, ru⟩ := part_run hz hg hx (i * z) (fun h => (hlen h).1) w
      obtain ⟨v, pv, qv, rv⟩ := part_run hz hg hy (i * z) (fun h => (hlen h).2) w
      have heq : (Op.equalIn d e u v).run P w = .ok b1 w := by
        cases g with
        | true =>
          obtain ⟨us, rfl, hus⟩ := qu rfl
          obtain ⟨vs, rfl, hvs⟩ := qv rfl
          exact (ih e _ _ b1 hb1 d w hd).1 us vs hg hus hvs
        | false => exact (ih e _ _ b1 hb1 d w hd).2 u v hg (ru rfl) (rv rfl)
      have step : ∀ b2, (Op.eqItems d e z xs ys is).run P w = .ok b2 w → (Op.eqItems d e z xs ys (i :: is)).run P w = .ok (b1 && b2) w := fun b2 h2 => by
        simp only [Op.eqItems, Sem.run_bind, pu, Result.andThen_ok, pv, heq]
        cases b1 with
        | false => simp
        | true => simp [h2]
      cases is with
      | nil =>
        cases h
        have := step true (by simp [Op.eqItems])
        simpa using this
      | cons f' fs' =>
        simp only at h
        split at h
        · rename_i b2 hb2
          cases h
          exact step b2 (itemsEq_run ih hd hz hg (f' :: fs') x y b2 hb2 xs ys w hx hy)
        · cases h
    · cases h

theorem structEq_run : ∀ n, EqAt P ν n
  | 0 => fun t x y b h => by simp [structEq] at h
  | n + 1 => fun t x y b h d w hd => by
    obtain ⟨d, rfl⟩ : ∃ e, d = e + 1 := ⟨d - 1, by omega⟩
    simp only [structEq] at h
    split at h
    · rename_i fs hu
      split at h
      · cases h
      · rename_i hp
        have hp : P.stoodInHeld t = false := by simpa using hp
        refine ⟨fun xs ys _ hx hy => ?_, fun u v hg => ?_⟩
        · rw [run_equalIn_struct w d t xs ys (by rw [fieldsOf_eq hu]; exact hu) hp, fieldsOf_eq hu]
          exact fieldsEq_run (structEq_run n) (by omega) fs.toList x y b h xs ys w hx hy
        · simp [tyAgg, hu] at hg
    · rename_i k e hu
      split at h
      · rename_i z g hz hg'
        refine ⟨fun xs ys _ hx hy => ?_, fun u v hg => ?_⟩
        · obtain ⟨i, hi, hiz⟩ := Option.map_eq_some_iff.mp hz
          have hc : P.cellsOf e = z := by simp [Program.cellsOf, hi, hiz]
          rw [run_equalIn_array w d xs ys hu hi, hc]
          exact itemsEq_run (structEq_run n) (by omega) hz hg' (List.range k) x y b h xs ys w hx hy
        · simp [tyAgg, hu] at hg
      · cases h
    · rename_i d' hne hne2 hu
      split at h
      · rename_i x' y'
        refine ⟨fun xs ys hg => ?_, fun u v _ hx hy => ?_⟩
        · -- an array is told by no pair of single cells
          unfold tyAgg at hg
          rw [hu] at hg
          cases d' <;> first | (simp at hg; done) | (simp [atomEq] at h; done)
        · exact atomEq_some h (hx.2.2 0 _ _ rfl rfl) (hy.2.2 0 _ _ rfl rfl) hu d w
      · cases h
    · cases h
end
end Go.RX

/- Symbolic runs of Go functions: every operation that is told does what is told of it. -/
namespace Go.RX
open Go.RowKit
set_option linter.unusedSimpArgs false
set_option linter.unusedVariables false

section
variable {P : Program} {U : Uni} {Γ : Con U} {s : St U} {kx : Nat} {o : Oper} {r : Ran U} {w0 w : World} {F0 : Nat → Nat → Prop} {Fr : Nat → Prop} {ν : Nu} {F : Nat → Nat → Prop} {a : Act}

theorem op_binOp (hs : Sim U w0 F0 Fr s.heap s.rows w ν F) (ht : TOk ν s.tmps a.tmps) {op : BinOp} {t t2 : TypeId} {x y : Operand} (hop : o.op = .binOp op t x y t2) (h : rval P Γ s kx o = some r) (ho : obOK r.ob) : Fin P o a w (Post U w0 F0 Fr ν kx s r.v r.u) := by
  simp only [rval, hop] at h
  have hx := TOk.ev (defers := a.defers) ht x
  have hy := TOk.ev (defers := a.defers) ht y
  split at h
  · rename_i k b k' c e1 e2
    rw [e1] at hx; rw [e2] at hy
    have hx : a.eval x = .int k b := hx
    have hy : a.eval y = .int k' c := hy
    split at h
    · cases h
      have ho : 0 ≤ c := ho
      refine fin_pure hs (y := .int k (k.wrap (b * 2 ^ min c.toNat k.bits))) ?_ rfl
      have hn : ¬ c < 0 := by omega
      simp [execOp, hop, hx, hy, eqGuard_at_int, binOp, Op.shift, hn]
    · cases h
      have ho : 0 ≤ c := ho
      refine fin_pure hs (y := .int k (b.fdiv (2 ^ min c.toNat k.bits))) ?_ rfl
      have hn : ¬ c < 0 := by omega
      simp [execOp, hop, hx, hy, eqGuard_at_int, binOp, Op.shift, hn]
    · split at h
      · rename_i hk
        subst hk
        split at h
        · rename_i ob v hb
          cases h
          exact op_binInt hs hop hx hy hb ho
        · cases h
      · cases h
  · rename_i b c e1 e2
    rw [e1] at hx; rw [e2] at hy
    have hx : a.eval x = .bool b := hx
    have hy : a.eval y = .bool c := hy
    split at h
    · rename_i hu
      unfold cmpB at h
      split at h
      · cases h
        exact fin_pure hs (y := .bool (b == c)) (by simp [execOp, hop, hx, hy, eqGuard_at_bool, run_eql_bool w t b c hu]) rfl
      · cases h
        exact fin_pure hs (y := .bool (!(b == c))) (by simp [execOp, hop, hx, hy, eqGuard_at_bool, run_neq_bool w t b c hu]) rfl
      · cases h
    · cases h
  · rename_i b c e1 e2
    rw [e1] at hx; rw [e2] at hy
    have hx : a.eval x = .string b := hx
    have hy : a.eval y = .string c := hy
    split at h
    · cases h
      have ho : b.size + c.size ≤ 9223372036854775807 := ho
      refine fin_pure hs (y := .string (b ++ c)) ?_ rfl
      have hn : ¬ (((b.size + c.size : Nat) : Int) > 9223372036854775807) := by omega
      simp [execOp, hop, hx, hy, eqGuard_at_string, binOp, Op.stringOp]
      omega
    · unfold cmpB at h
      split at h
      · cases h
        refine fin_pure hs (y := .bool (b == c)) ?_ rfl
        simp [execOp, hop, hx, hy, eqGuard_at_string, binOp, Op.stringOp, beq_toListBytes]
      · cases h
        refine fin_pure hs (y := .bool (!(b == c))) ?_ rfl
        simp [execOp, hop, hx, hy, eqGuard_at_string, binOp, Op.stringOp, beq_toListBytes]
      · cases h
  · rename_i b c e1 e2
    rw [e1] at hx; rw [e2] at hy
    obtain ⟨xs, hx, hxs⟩ := hx
    obtain ⟨ys, hy, hys⟩ := hy
    split at h
    · rename_i r0 hm hg hse
      have heq := (structEq_run (P := P) (ν := ν) 4 t b c r0 hse 10000 w (by omega)).1 xs ys hg hxs hys
      unfold cmpB at h
      split at h
      · cases h
        exact fin_pure hs (y := .bool r0) (by simp [execOp, hop, hx, hy, run_eqGuard_agg w .eql t x y xs ys hm, run_eql_struct, heq]) rfl
      · cases h
        exact fin_pure hs (y := .bool (!r0)) (by simp [execOp, hop, hx, hy, run_eqGuard_agg w .neq t x y xs ys hm, run_neq_struct, heq]) rfl
      · cases h
    · cases h
  · rename_i k b c k' d e e1 e2
    rw [e1] at hx; rw [e2] at hy
    have hx : a.eval x = .complex k b c := hx
    have hy : a.eval y = .complex k' d e := hy
    split at h
    · split at h
      · rename_i hk
        subst hk
        cases h
        have ho : fOn .add k b d = true ∧ fOn .add k c e = true := ho
        have hsum : cSumBits .add k b c d e = some (fA .add k b d, fA .add k c e) := by
          unfold cSumBits
          rw [fA_is ho.1, fA_is ho.2]; rfl
        refine fin_pure hs (y := .complex k (fA .add k b d) (fA .add k c e)) ?_ rfl
        simp [execOp, hop, hx, hy, eqGuard_at_complex, run_complex_sum w .add (.inl rfl) t k b c d e _ _ hsum]
      · cases h
    · cases h
  · rename_i k b k' c e1 e2
    rw [e1] at hx; rw [e2] at hy
    have hx : a.eval x = .float k b := hx
    have hy : a.eval y = .float k' c := hy
    split at h
    · split at h
      · rename_i hk
        subst hk
        cases h
        have ho : fOn .add k b c = true := ho
        refine fin_pure hs (y := .float k (fA .add k b c)) ?_ rfl
        simp [execOp, hop, hx, hy, eqGuard_at_float, run_float_arith w .add t k b c _ (fA_is ho)]
      · cases h
    · split at h
      · rename_i hk
        subst hk
        cases h
        have ho : fOn .mul k b c = true := ho
        refine fin_pure hs (y := .float k (fA .mul k b c)) ?_ rfl
        simp [execOp, hop, hx, hy, eqGuard_at_float, run_float_arith w .mul t k b c _ (fA_is ho)]
      · cases h
    · cases h
  · cases h

theorem op_unOp (hs : Sim U w0 F0 Fr s.heap s.rows w ν F) (ht : TOk ν s.tmps a.tmps) {op : UnOp} {t : TypeId} {x : Operand} (hop : o.op = .unOp op t x) (h : rval P Γ s kx o = some r) : Fin P o a w (Post U w0 F0 Fr ν kx s r.v r.u) := by
  simp only [rval, hop] at h
  have hx := TOk.ev (defers := a.defers) ht x
  split at h
  · rename_i b e1
    rw [e1] at hx
    have hx : a.eval x = .bool b := hx
    split at h
    · cases h
      exact fin_pure hs (y := .bool (!b)) (by simp [execOp, hop, hx, Op.unary]) rfl
    · cases h
  · rename_i k b e1
    rw [e1] at hx
    have hx : a.eval x = .int k b := hx
    split at h
    · cases h
      refine fin_pure hs (y := negI k b) ?_ rfl
      have : negI k b = .int k (k.wrap (0 - b)) := by cases k <;> simp [negI, wrap64_eq]
      rw [this]
      simp [execOp, hop, hx, Op.unary, Op.intArith]
    · cases h
  · cases h

/-- A new block that is a row of the call's own. -/
theorem newOwn (hs : Sim U w0 F0 Fr s.heap s.rows w ν F) (hk : Fr kx) {c : U.C} {l : List (U.T c)} {cells : Array Value} {e : TypeId} {cap : Nat} {w1 : World} {own : Bool} {fz : Nat × Nat} (hfz : own = true → NoFz fz cells.size) (hw1 : w1.heap = w.heap) (hb1 : Below w.heap.size w w1)
    (hsz : cells.size = cap * U.size c) (hle : l.length ≤ cap) (hcap : cap ≤ maxLen) (hcell : ∃ d, ∀ (i : Nat) (hi : i < l.length) (j : Nat) cv, (U.enc c l[i])[j]? = some cv → ∃ y, cells[i * U.size c + j]? = some y ∧ CVDen (Reads U F d) w cv y) :
    ∃ ν' F', ν.le ν' ∧ Sim U w0 F0 (fun k => Fr k ∧ k ≠ kx) s.heap ((16 * kx, (⟨c, l, own⟩ : Row U)) :: s.rows) (w1.alloc (.cells cells e fz)) ν' F' ∧ DenSV ν' (.one (.sl (16 * kx))) (.slice (some ⟨w.heap.size, 0, none⟩) l.length cap) := by
  have hs1 : w1.heap.size = w.heap.size := by rw [hw1]
  have hb : Below w.heap.size w (w1.alloc (.cells cells e fz)) := hb1.alloc (by omega) _
  have hnew : (w1.alloc (.cells cells e fz)).heap[w.heap.size]? = some (.cells cells e fz) := by have := alloc_heap_new w1 (.cells cells e fz); rwa [hs1] at this
  have hs' := hs.grow (w' := w1.alloc (.cells cells e fz)) (F' := fun b o => F b o ∨ (b = w.heap.size ∧ o < l.length * U.size c)) hb (fun _ _ x => .inl x) (fun b o x => by rcases x with x | x; exact .inl x; exact .inr (by omega)) (fun b o x => by
    rw [World.size_alloc]
    rcases x with x | x
    · have := hs.lt b o x; omega
    · omega)
  obtain ⟨d, hd⟩ := hcell
  have hrd : Rd U (fun b o => F b o ∨ (b = w.heap.size ∧ o < l.length * U.size c)) (w1.alloc (.cells cells e fz)) (.slice (some ⟨w.heap.size, 0, none⟩) l.length cap) c l := by
    refine ⟨d + 1, _, l.length, cap, rfl, rfl, hle, hcap, fun hn => ⟨_, rfl, rfl, fun i hi j cv hcv => ?_⟩⟩
    have hj : j < U.size c := by have := (List.getElem?_eq_some_iff.mp hcv).1; rwa [U.encSize] at this
    refine ⟨.inr ⟨rfl, ?_⟩, ?_⟩
    · have : (i + 1) * U.size c ≤ l.length * U.size c := Nat.mul_le_mul_right _ hi
      rw [Nat.succ_mul] at this
      show 0 + (i * U.size c + j) < l.length * U.size c
      omega
    · obtain ⟨y, q1, q2⟩ := hd i hi j cv hcv
      refine ⟨y, ?_, ?_⟩
      · rw [cell_at hnew, Nat.zero_add]; exact q1
      · cases cv with
        | v x => exact q2
        | sl c0 l0 => exact Reads.keep (fun _ _ x => .inl x) (fun b o x => cell_of_block (hb.block b (hs.lt b o x)) o) q2
  have hn0 : ν.f (16 * kx) = none := by have := (hs.free kx hk).2 0 (by omega); simpa using this
  have hsz0 := hs.below.size
  refine ⟨ν.setF (16 * kx) _, _, Nu.le_setF hn0, (hs'.fr (Fr' := fun k => Fr k ∧ k ≠ kx) fun _ h => h.1).addRow' hn0 (fun k j hk' hj e => hk'.2 (by omega)) hrd (own := own) (fun hown => ⟨.inr ⟨w.heap.size, 0, cap, e, cells, fz, rfl, hsz0, hnew, hfz hown, hle, hcap, by rw [hsz, Nat.zero_add]; exact Nat.le_refl _, fun o ho _ => ?_⟩, fun b hb2 => ?_⟩), ⟨if_pos rfl, rfl⟩⟩
  · rintro (x | x)
    · have := hs.lt _ _ x; omega
    · omega
  · simp only [Value.ownBlock, Option.some.injEq] at hb2
    subst hb2
    refine ⟨fun id hid hb3 => ?_, fun fid' r' v' g1 g2 g3 g4 => ?_, fun x hx => absurd (hs.holdLt hx) (Nat.lt_irrefl _)⟩
    · obtain ⟨⟨t', cs'⟩, e'⟩ := Option.isSome_iff_exists.mp hid
      obtain ⟨b, arr, e1, _, e2, _⟩ := hs.box id t' cs' e'
      rw [hb3] at e1; cases e1
      have := (Array.getElem?_eq_some_iff.mp e2).1; omega
    · obtain ⟨v, e1, _, e3⟩ := hs.row fid' r' g1
      rw [g3] at e1; cases e1
      have := (e3 g2).lt g4; omega
theorem u8sOf_is : ∀ (l : List Atom) (xs : List Int), u8sOf l = some xs → l = xs.map fun x => Atom.v (.int .u8 x)
  | [], xs, h => by cases h; rfl
  | x :: l, xs, h => by
    unfold u8sOf at h
    split at h
    · rename_i h0; cases h0
    · rename_i y r h0
      cases h0
      split at h
      · rename_i l' hl'
        cases h
        rw [u8sOf_is _ l' hl']; rfl
      · cases h
    · cases h
/-- A text as bytes. -/
theorem conv_bytes (hs : Sim U w0 F0 Fr s.heap s.rows w ν F) (hk : Fr kx) {t t2 e : TypeId} {x : Operand} (hop : o.op = .convert t t2 x) {b : ByteArray} (hx : a.eval x = .string b) (hu : P.underlying t = some .string) (hv : P.underlying t2 = some (.slice e)) (hue : P.underlying e = some (.int .u8))
    (ho : b.size ≤ 1000000) : Fin P o a w (Post U w0 F0 Fr ν kx s (.one (.sl (16 * kx))) (.rows [(16 * kx, ⟨U.u8, bytesU b, true⟩)])) := by
  have hlen : (bytesU (U := U) b).length = b.size := by simp [bytesU]
  have hge := grownCap_ge w b.size 0 e
  have hml : grownCap w b.size 0 e ≤ maxLen := grownCap_le_maxLen w b.size 0 e (Nat.le_trans ho (by decide))
  have hds : b.data.size = b.size := rfl
  obtain ⟨ν', F', q1, q2, q3⟩ := newOwn (own := true) (fz := ((bytesRow b (grownCap w b.size 0 e)).size, (bytesRow b (grownCap w b.size 0 e)).size + 1)) hs hk (c := U.u8) (l := bytesU b) (cells := bytesRow b (grownCap w b.size 0 e)) (e := e) (cap := grownCap w b.size 0 e) (w1 := w.drew) (fun _ => NoFz.beyond _) rfl (Below.refl _ _).drew
    (by rw [U.u8size, Nat.mul_one]; simp [bytesRow, hds]; omega) (by rw [hlen]; exact hge) hml ⟨0, fun i hi j cv hcv => by
      have hi' : i < b.data.size := by rw [hlen] at hi; exact hi
      have hj : j < 1 := by have := (List.getElem?_eq_some_iff.mp hcv).1; rwa [U.encSize, U.u8size] at this
      obtain rfl : j = 0 := by omega
      have he : (bytesU (U := U) b)[i] = U.ofI (b.data[i].toNat : Int) := by simp [bytesU]
      rw [he, U.u8enc, U.toOf] at hcv
      simp at hcv
      subst hcv
      refine ⟨.int .u8 (b.data[i].toNat : Int), ?_, rfl, rfl⟩
      rw [U.u8size, Nat.mul_one, Nat.add_zero]
      unfold bytesRow
      rw [Array.getElem?_append_left (by simpa using hi'), Array.getElem?_map, Array.getElem?_eq_getElem hi']
      rfl⟩
  rw [hlen] at q3
  refine Fin.value ?_ ⟨ν', F', q1, q2, q3⟩
  simp only [execOp, hop, hx]
  exact run_op (run_bytes_of_string w t t2 e b hu hv hue) _
/-- Bytes as a text. -/
theorem conv_text (hs : Sim U w0 F0 Fr s.heap s.rows w ν F) {t t2 e : TypeId} {x : Operand} (hop : o.op = .convert t t2 x) {fid : Nat} (hx : DenSV ν (.one (.sl fid)) (a.eval x)) (hu : P.underlying t = some (.slice e)) (hv : P.underlying t2 = some .string) (hue : P.underlying e = some (.int .u8))
    {r1 : Row U} (hl : look fid s.rows = some r1) {l : List (U.T U.u8)} (hcl : castL r1.c U.u8 r1.l = some l) : Fin P o a w (Post U w0 F0 Fr ν kx s (.one (.v (.string (strOfNums (l.map U.toI))))) .none) := by
  obtain ⟨v, f1, f2, _⟩ := hs.row fid r1 hl
  obtain ⟨c, l1, own⟩ := r1
  unfold castL at hcl
  split at hcl
  · rename_i hc _
    simp only at hc hcl f2
    subst hc
    simp only [Option.some.injEq] at hcl
    subst hcl
    have ex : a.eval x = v := Option.some.inj (hx.1.symm.trans f1)
    obtain ⟨A, n, cap, rfl, hn⟩ := f2.slice
    refine fin_pure hs (y := .string (strOfNums (l1.map U.toI))) ?_ rfl
    simp only [execOp, hop, ex]
    refine run_op ?_ Next.value
    cases A with
    | none =>
      have h0 : n = 0 := by
        rcases Nat.eq_zero_or_pos n with h | h
        · exact h
        · obtain ⟨ad, h⟩ := f2.some h; cases h
      have : l1 = [] := List.eq_nil_of_length_eq_zero (by omega)
      subst this
      rw [run_convert_bytes_nil w t e hu hue n cap t2 hv]
      rfl
    | some ad =>
      rcases Nat.eq_zero_or_pos n with h | h
      · have : l1 = [] := List.eq_nil_of_length_eq_zero (by omega)
        subst this
        subst h
        obtain ⟨bb, off, sp⟩ := ad
        rw [run_convert_bytes_string w t t2 e _ 0 cap hu hue hv, run_bytesToString w _ 0 cap [] (by simp [loadCells, loadCellsFrom])]
        rfl
      · have hsp := f2.spot h
        obtain ⟨bb, off, sp⟩ := ad
        have : sp = none := hsp
        subst this
        refine run_convert_bytes_arg w t e hu hue bb off n cap (l1.map U.toI) (by simpa using hn) (fun i hi => ?_) t2 hv
        obtain ⟨y, q1, q2⟩ := f2.elem i hi 0 (.v (.int .u8 (U.toI (l1.getD i (U.dflt U.u8))))) (by rw [U.u8enc]; rfl)
        have q2 := q2.1
        subst q2
        rw [U.u8size, Nat.mul_one, Nat.add_zero] at q1
        rw [q1]
        have hi' : i < l1.length := by omega
        simp [List.getD_eq_getElem?_getD, List.getElem?_eq_getElem hi']
  · cases hcl
theorem op_convert (hs : Sim U w0 F0 Fr s.heap s.rows w ν F) (hk : Fr kx) (ht : TOk ν s.tmps a.tmps) {t t2 : TypeId} {x : Operand} (hop : o.op = .convert t t2 x) (h : rval P Γ s kx o = some r) (ho : obOK r.ob) : Fin P o a w (Post U w0 F0 Fr ν kx s r.v r.u) := by
  simp only [rval, hop] at h
  have hx := TOk.ev (defers := a.defers) ht x
  split at h
  · rename_i d k k' n hu hv e1
    rw [e1] at hx
    have hx : a.eval x = .int k' n := hx
    cases h
    refine fin_pure hs (y := .int k (k.wrap n)) ?_ rfl
    cases d <;> simp [execOp, hop, hx, convert, run_underlying hu, run_underlying hv, Conv.intToInt]
  · rename_i b hu hv e1
    rw [e1] at hx
    have hx : a.eval x = .string b := hx
    cases h
    refine fin_pure hs (y := .string b) ?_ rfl
    simp [execOp, hop, hx, convert, run_underlying hu, run_underlying hv]
  · rename_i e b hu hv e1
    rw [e1] at hx
    have hx : a.eval x = .string b := hx
    split at h
    · rename_i c hue hc
      split at h
      · cases h
        exact conv_bytes hs hk hop hx hu hv hue ho
      · cases h
    · cases h
  · rename_i e id off n hu hv e1
    rw [e1] at hx
    obtain ⟨b, eb, ex⟩ := hx
    split at h
    · rename_i t' cs hue hl
      split at h
      · rename_i l hl8
        split at h
        · rename_i hlen
          cases h
          obtain ⟨b', arr, g1, g2, g3, g4, g6⟩ := hs.box id t' cs hl
          obtain rfl : b' = b := Option.some.inj (g1.symm.trans eb)
          have hd := g4.sub off n
          have e8 := u8sOf_is _ _ hl8
          refine fin_pure hs (y := .string (strOfNums l)) ?_ rfl
          simp only [execOp, hop, ex]
          refine run_op ?_ Next.value
          refine run_convert_bytes_arg w t e hu hue b' off n n l hlen (fun i hi => ?_) t2 hv
          rw [cell_at g3]
          have hc : ((cs.drop off).take n)[i]? = some (.v (.int .u8 (l.getD i 0))) := by
            rw [e8, List.getElem?_map, List.getElem?_eq_getElem (by omega), List.getD_eq_getElem?_getD, List.getElem?_eq_getElem (by omega)]; rfl
          have hlt : i < ((arr.toList.drop off).take n).length := by rw [← hd.1]; exact (List.getElem?_eq_some_iff.mp hc).1
          have := hd.2.2 i _ _ hc (List.getElem?_eq_getElem hlt)
          have e9 : ((arr.toList.drop off).take n)[i]? = some ((arr.toList.drop off).take n)[i] := List.getElem?_eq_getElem hlt
          rw [getElem?_drop_take, if_pos hi] at e9
          rw [← Array.getElem?_toList, e9]
          exact congrArg some this
        · cases h
      · cases h
    · cases h
  · rename_i e fid hu hv e1
    rw [e1] at hx
    split at h
    · rename_i r1 hue hl
      split at h
      · rename_i l hcl
        cases h
        exact conv_text hs hop hx hu hv hue hl hcl
      · cases h
    · cases h
  · rename_i d k k' n hu hv e1
    rw [e1] at hx
    have hx : a.eval x = .int k' n := hx
    cases h
    refine fin_pure hs (y := .float k (floatOfInt k n)) ?_ rfl
    cases d <;> simp [execOp, hop, hx, convert, run_underlying hu, run_underlying hv, Conv.intToFloat, floatOfInt]
  · rename_i d k q b hu hv e1
    rw [e1] at hx
    have hx : a.eval x = .float q b := hx
    cases h
    have ho : fIn q b k = true := ho
    have hr := run_convert_float_int (P := P) w t t2 q k b _ (by rw [hu]; rfl) hv (fI_is ho)
    refine fin_pure hs (y := .int k (fI q b k)) ?_ rfl
    simp [execOp, hop, hx, hr]
  · cases h

theorem resolve_builtin {b : Builtin} {c : Call} (hc : c.callee = .builtin b) (t : TypeId) (w : World) : ∃ consts, (resolve a.eval c t).run P w = .ok { target := .builtin b c.argTypes t consts, args := c.args.map a.eval } w := by
  refine ⟨c.args.map (fun | .const _ => true | _ => false), ?_⟩
  simp [resolve, hc]
  intro x _
  cases x <;> rfl

theorem op_len (hs : Sim U w0 F0 Fr s.heap s.rows w ν F) (hrk : RecsOk ν s.recs) (ht : TOk ν s.tmps a.tmps) {c : Call} (hop : o.op = .call c) (hc : c.callee = .builtin .len) (h : rval P Γ s kx o = some r) : Fin P o a w (Post U w0 F0 Fr ν kx s r.v r.u) := by
  simp only [rval, hop, hc] at h
  obtain ⟨consts, hres⟩ := resolve_builtin (P := P) (a := a) hc o.type w
  split at h
  · rename_i x t ea et
    have ea : c.args = #[x] := by rw [← Array.toList_inj]; simpa using ea
    have et : c.argTypes = #[t] := by rw [← Array.toList_inj]; simpa using et
    have hx := TOk.ev (defers := a.defers) ht x
    have hrun : ∀ {v : Value}, (Builtin.len_ #[t] o.type #[a.eval x]).run P w = .ok v w → (execOp a.eval o).run P w = .ok (.value v) w := fun {v} hv => by
      simp only [execOp, hop, Sem.run_bind, hres, Result.andThen_ok, invoke, builtin, et, ea, List.map_toArray, List.map_cons, List.map_nil, hv]
      rfl
    split at h
    · rename_i e fid hu e1
      rw [e1] at hx
      split at h
      · rename_i rw_ hl
        cases h
        obtain ⟨v, f1, f2⟩ := rowX_el hs hrk hl
        obtain ⟨A, cap, rfl, _⟩ := f2
        have ex : a.eval x = .slice A rw_.l.length cap := Option.some.inj (hx.1.symm.trans f1)
        refine fin_pure hs (y := .int .i64 (rw_.l.length : Int)) (hrun ?_) rfl
        simp [Builtin.len_, run_underlying hu, ex, goInt]
      · cases h
    · rename_i b hu e1
      rw [e1] at hx
      have hx : a.eval x = .string b := hx
      cases h
      refine fin_pure hs (y := .int .i64 (b.size : Int)) (hrun ?_) rfl
      simp [Builtin.len_, run_underlying hu, hx, goInt]
    · rename_i e hu e1
      rw [e1] at hx
      have hx : a.eval x = .slice none 0 0 := hx
      cases h
      refine fin_pure hs (y := .int .i64 0) (hrun ?_) rfl
      simp [Builtin.len_, run_underlying hu, hx, goInt]
    · rename_i e id off n hu e1
      rw [e1] at hx
      obtain ⟨b, eb, ex⟩ := hx
      have ex : a.eval x = .slice (some ⟨b, off, none⟩) n n := ex
      cases h
      refine fin_pure hs (y := .int .i64 (n : Int)) (hrun ?_) rfl
      simp [Builtin.len_, run_underlying hu, ex, goInt]
    · cases h
  · cases h

theorem op_min (hs : Sim U w0 F0 Fr s.heap s.rows w ν F) (ht : TOk ν s.tmps a.tmps) {c : Call} (hop : o.op = .call c) (hc : c.callee = .builtin .min) (h : rval P Γ s kx o = some r) : Fin P o a w (Post U w0 F0 Fr ν kx s r.v r.u) := by
  simp only [rval, hop, hc] at h
  obtain ⟨consts, hres⟩ := resolve_builtin (P := P) (a := a) hc o.type w
  split at h
  · rename_i x y ea
    have ea : c.args = #[x, y] := by rw [← Array.toList_inj]; simpa using ea
    have hx := TOk.ev (defers := a.defers) ht x
    have hy := TOk.ev (defers := a.defers) ht y
    split at h
    · rename_i k b k' d e1 e2
      rw [e1] at hx; rw [e2] at hy
      have hx : a.eval x = .int k b := hx
      have hy : a.eval y = .int k' d := hy
      cases h
      refine fin_pure hs (y := .int k (if d < b then d else b)) ?_ rfl
      simp only [execOp, hop, Sem.run_bind, hres, Result.andThen_ok, invoke, builtin, ea, List.map_toArray, List.map_cons, List.map_nil, hx, hy, run_min_int2]
      rfl
    · cases h
  · cases h
theorem op_max (hs : Sim U w0 F0 Fr s.heap s.rows w ν F) (ht : TOk ν s.tmps a.tmps) {c : Call} (hop : o.op = .call c) (hc : c.callee = .builtin .max) (h : rval P Γ s kx o = some r) : Fin P o a w (Post U w0 F0 Fr ν kx s r.v r.u) := by
  simp only [rval, hop, hc] at h
  obtain ⟨consts, hres⟩ := resolve_builtin (P := P) (a := a) hc o.type w
  split at h
  · rename_i x y ea
    have ea : c.args = #[x, y] := by rw [← Array.toList_inj]; simpa using ea
    have hx := TOk.ev (defers := a.defers) ht x
    have hy := TOk.ev (defers := a.defers) ht y
    split at h
    · rename_i k b k' d e1 e2
      rw [e1] at hx; rw [e2] at hy
      have hx : a.eval x = .int k b := hx
      have hy : a.eval y = .int k' d := hy
      cases h
      refine fin_pure hs (y := .int k (if d > b then d else b)) ?_ rfl
      simp only [execOp, hop, Sem.run_bind, hres, Result.andThen_ok, invoke, builtin, ea, List.map_toArray, List.map_cons, List.map_nil, hx, hy, run_max_int2]
      rfl
    · cases h
  · cases h

theorem run_complex2 (w : World) (ts : Array TypeId) (t : TypeId) (k : FloatKind) (x y : Nat) : (Builtin.complex_ ts t #[.float k x, .float k y]).run P w = .ok (.complex k x y) w := by
  show (if k = k then pure (Value.complex k x y) else stuck "complex: parts of different kinds" : Sem Value).run P w = _
  rw [if_pos rfl]; rfl
theorem run_real1 (w : World) (ts : Array TypeId) (t : TypeId) (k : FloatKind) (x y : Nat) : (Builtin.real_ ts t #[.complex k x y]).run P w = .ok (.float k x) w := rfl
theorem run_imag1 (w : World) (ts : Array TypeId) (t : TypeId) (k : FloatKind) (x y : Nat) : (Builtin.imag_ ts t #[.complex k x y]).run P w = .ok (.float k y) w := rfl
theorem op_complex (hs : Sim U w0 F0 Fr s.heap s.rows w ν F) (ht : TOk ν s.tmps a.tmps) {c : Call} (hop : o.op = .call c) (hc : c.callee = .builtin .complex) (h : rval P Γ s kx o = some r) : Fin P o a w (Post U w0 F0 Fr ν kx s r.v r.u) := by
  simp only [rval, hop, hc] at h
  obtain ⟨consts, hres⟩ := resolve_builtin (P := P) (a := a) hc o.type w
  split at h
  · rename_i x y ea
    have ea : c.args = #[x, y] := by rw [← Array.toList_inj]; simpa using ea
    have hx := TOk.ev (defers := a.defers) ht x
    have hy := TOk.ev (defers := a.defers) ht y
    split at h
    · rename_i k b k' d e1 e2
      rw [e1] at hx; rw [e2] at hy
      have hx : a.eval x = .float k b := hx
      have hy : a.eval y = .float k' d := hy
      split at h
      · rename_i hk
        subst hk
        cases h
        refine fin_pure hs (y := .complex k b d) ?_ rfl
        simp only [execOp, hop, Sem.run_bind, hres, Result.andThen_ok, invoke, builtin, ea, List.map_toArray, List.map_cons, List.map_nil, hx, hy, run_complex2]
        rfl
      · cases h
    · cases h
  · cases h
theorem op_real (hs : Sim U w0 F0 Fr s.heap s.rows w ν F) (ht : TOk ν s.tmps a.tmps) {c : Call} (hop : o.op = .call c) (hc : c.callee = .builtin .real) (h : rval P Γ s kx o = some r) : Fin P o a w (Post U w0 F0 Fr ν kx s r.v r.u) := by
  simp only [rval, hop, hc] at h
  obtain ⟨consts, hres⟩ := resolve_builtin (P := P) (a := a) hc o.type w
  split at h
  · rename_i x ea
    have ea : c.args = #[x] := by rw [← Array.toList_inj]; simpa using ea
    have hx := TOk.ev (defers := a.defers) ht x
    split at h
    · rename_i k b d e1
      rw [e1] at hx
      have hx : a.eval x = .complex k b d := hx
      cases h
      refine fin_pure hs (y := .float k b) ?_ rfl
      simp only [execOp, hop, Sem.run_bind, hres, Result.andThen_ok, invoke, builtin, ea, List.map_toArray, List.map_cons, List.map_nil, hx, run_real1]
      rfl
    · cases h
  · cases h
theorem op_imag (hs : Sim U w0 F0 Fr s.heap s.rows w ν F) (ht : TOk ν s.tmps a.tmps) {c : Call} (hop : o.op = .call c) (hc : c.callee = .builtin .imag) (h : rval P Γ s kx o = some r) : Fin P o a w (Post U w0 F0 Fr ν kx s r.v r.u) := by
  simp only [rval, hop, hc] at h
  obtain ⟨consts, hres⟩ := resolve_builtin (P := P) (a := a) hc o.type w
  split at h
  · rename_i x ea
    have ea : c.args = #[x] := by rw [← Array.toList_inj]; simpa using ea
    have hx := TOk.ev (defers := a.defers) ht x
    split at h
    · rename_i k b d e1
      rw [e1] at hx
      have hx : a.eval x = .complex k b d := hx
      cases h
      refine fin_pure hs (y := .float k d) ?_ rfl
      simp only [execOp, hop, Sem.run_bind, hres, Result.andThen_ok, invoke, builtin, ea, List.map_toArray, List.map_cons, List.map_nil, hx, run_imag1]
      rfl
    · cases h
  · cases h

/-! ### Build -/
theorem foldl_set (off : Nat) : ∀ (v : List Value) (i : Nat) (arr : Array Value), off + (i + v.length) ≤ arr.size → ((v.zipIdx i).foldl (fun cs (x : Value × Nat) => cs.setIfInBounds (off + x.2) x.1) arr).size = arr.size ∧
    ∀ j, ((v.zipIdx i).foldl (fun cs (x : Value × Nat) => cs.setIfInBounds (off + x.2) x.1) arr)[j]? = if off + i ≤ j ∧ j < off + i + v.length then v[j - (off + i)]? else arr[j]?
  | [], i, arr, h => ⟨rfl, fun j => by rw [if_neg (by simp)]; rfl⟩
  | v :: vs, i, arr, h => by
    simp only [List.length_cons] at h
    simp only [List.zipIdx_cons, List.foldl_cons]
    obtain ⟨h1, h2⟩ := foldl_set off vs (i + 1) (arr.setIfInBounds (off + i) v) (by simp; omega)
    refine ⟨by rw [h1]; simp, fun j => ?_⟩
    rw [h2]
    by_cases q : off + (i + 1) ≤ j ∧ j < off + (i + 1) + vs.length
    · rw [if_pos q, if_pos (by simp; omega)]
      rw [show j - (off + i) = (j - (off + (i + 1))) + 1 by omega, List.getElem?_cons_succ]
    · rw [if_neg q]
      by_cases e : j = off + i
      · subst e
        have hlt : off + i < arr.size := by omega
        rw [if_pos (by simp), Nat.sub_self]
        simp [hlt]
      · rw [if_neg (by simp; omega)]
        simp [Array.getElem?_setIfInBounds, Ne.symm e]

theorem foldl_arr (v : Array Value) (off : Nat) (arr : Array Value) : (v.zipIdx.foldl (fun cs (x : Value × Nat) => cs.setIfInBounds (off + x.2) x.1) arr) = (v.toList.zipIdx.foldl (fun cs (x : Value × Nat) => cs.setIfInBounds (off + x.2) x.1) arr) := by
  rw [← Array.foldl_toList, Array.toList_zipIdx]

theorem fill_den {place place' : Nat → Option (Nat × Nat)} (hp : ∀ i x, place i = some x → place' i = some x) : ∀ (ps : List (Nat × List Atom)) (vs : List (Nat × Value)) (z cs : List Atom) (zr : Array Value),
    fillA place z ps = some cs → DenL ν z zr.toList → ps.length = vs.length → (∀ (j : Nat) p v, ps[j]? = some p → vs[j]? = some v → p.1 = v.1 ∧ DenL ν p.2 v.2.cells.toList) →
    ∃ cells : Array Value, Instr.fill place' zr vs = some cells ∧ DenL ν cs cells.toList
  | [], vs, z, cs, zr, h, hz, hl, hd => by
    cases vs with
    | nil => cases h; exact ⟨zr, rfl, hz⟩
    | cons _ _ => simp at hl
  | (i, c) :: ps, vs, z, cs, zr, h, hz, hl, hd => by
    cases vs with
    | nil => simp at hl
    | cons v vs =>
      obtain ⟨vi, v⟩ := v
      obtain ⟨e1, e2⟩ := hd 0 _ _ rfl rfl
      have e1 : i = vi := e1
      have e2 : DenL ν c v.cells.toList := e2
      subst e1
      simp only [fillA] at h
      split at h
      · rename_i off size hpl
        split at h
        · rename_i hq
          obtain ⟨hq1, hq2⟩ := hq
          have hcs : v.cells.size = size := by have := e2.1; simp at this; omega
          have hzs : zr.size = z.length := by have := hz.1; simp at this; omega
          obtain ⟨f1, f2⟩ := foldl_set off v.cells.toList 0 zr (by simp; omega)
          rw [← foldl_arr] at f1 f2
          simp only [Instr.fill, hp _ _ hpl]
          rw [if_neg (by simp; omega)]
          refine fill_den hp ps vs (setCells z off c) cs _ h ?_ (by simpa using hl) (fun j p u a b => hd (j + 1) p u (by simpa using a) (by simpa using b))
          refine hz.set e2 (by show off + c.length ≤ _; rw [hq1]; exact hq2) (by rw [Array.length_toList, Array.length_toList]; exact f1) (fun j => ?_)
          have := f2 j
          simp only [Nat.add_zero] at this
          simp only [Array.getElem?_toList] at this ⊢
          exact this
        · cases h
      · cases h

theorem parts_den (ht : TOk ν s.tmps a.tmps) : ∀ (l : List (Nat × Operand)) (ps : List (Nat × List Atom)), partsOf s l = some ps → ps.length = l.length ∧
    ∀ (j : Nat) p v, ps[j]? = some p → (l.map fun (i, x) => (i, a.eval x))[j]? = some v → p.1 = v.1 ∧ DenL ν p.2 v.2.cells.toList
  | [], ps, h => by cases h; exact ⟨rfl, fun j p v e => by simp at e⟩
  | (i, x) :: l, ps, h => by
    simp only [partsOf] at h
    split at h
    · rename_i cs hc
      split at h
      · rename_i y hy
        cases h
        obtain ⟨h1, h2⟩ := parts_den ht l y hy
        refine ⟨by simp [h1], fun j p v e1 e2 => ?_⟩
        cases j with
        | zero =>
          simp at e1 e2
          subst e1; subst e2
          exact ⟨rfl, cells_den hc (TOk.ev (defers := a.defers) ht x)⟩
        | succ j => exact h2 j p v (by simpa using e1) (by simpa using e2)
      · cases h
    · cases h

theorem mapM_run (w : World) : ∀ (fs : List Field), (∀ f ∈ fs, (tySize P f.type).isSome = true) → (fs.mapM (m := Sem) fun f => do pure (f.offset, ← sizeOf f.type)).run P w = .ok (fs.map fun f => (f.offset, (tySize P f.type).getD 0)) w
  | [], h => by simp
  | f :: fs, h => by
    obtain ⟨n, hn⟩ := Option.isSome_iff_exists.mp (h f (List.mem_cons_self ..))
    simp only [List.mapM_cons, Sem.run_bind, run_sizeOf hn, Result.andThen_ok, Sem.run_pure, mapM_run w fs (fun g hg => h g (List.mem_cons_of_mem _ hg)), List.map_cons, hn, Option.getD_some]

theorem zero_size {t : TypeId} {cs : List Atom} (h : zeroAtoms P t = some cs) : ∃ z : Value, (∀ w : World, (zeroValue t).run P w = .ok z w) ∧ DenL ν cs z.cells.toList := by
  obtain ⟨z, h1, h2, _⟩ := zero_den (ν := ν) h; exact ⟨z, h1, h2⟩

theorem op_build (hs : Sim U w0 F0 Fr s.heap s.rows w ν F) (ht : TOk ν s.tmps a.tmps) {t : TypeId} {parts : Array (Nat × Operand)} (hop : o.op = .build t parts) (h : rval P Γ s kx o = some r) : Fin P o a w (Post U w0 F0 Fr ν kx s r.v r.u) := by
  simp only [rval, hop] at h
  split at h
  · rename_i fs z ps hu hz hp
    split at h
    · rename_i hall
      split at h
      · rename_i cs hf
        cases h
        obtain ⟨zv, z1, z2⟩ := zero_size (ν := ν) hz
        obtain ⟨p1, p2⟩ := parts_den (a := a) ht parts.toList ps hp
        have hall : ∀ f ∈ fs.toList, (tySize P f.type).isSome = true := fun f hf => List.all_eq_true.mp hall f hf
        have hm := mapM_run (P := P) w fs.toList hall
        obtain ⟨cells, c1, c2⟩ := fill_den (place' := fun i => ((fs.toList.map fun f => (f.offset, (tySize P f.type).getD 0)).toArray)[i]?) (fun i x e => by
          split at e
          · rename_i f hfi
            split at e
            · rename_i n hn
              cases e
              simp [hfi, hn]
            · cases e
          · cases e) ps (parts.toList.map fun (i, x) => (i, a.eval x)) z cs zv.cells hf z2 (by simp [p1]) p2
        refine fin_pure hs (y := .agg cells) ?_ ⟨cells, rfl, c2⟩
        have hmap : (fs.mapM (m := Sem) fun f => do pure (f.offset, ← sizeOf f.type)).run P w = .ok (fs.toList.map fun f => (f.offset, (tySize P f.type).getD 0)).toArray w := by
          rw [Array.mapM_eq_mapM_toList]
          simp only [Sem.run_map, hm, Result.andThen_ok]
        simp only [execOp, hop, Instr.build, Sem.run_bind, z1, Result.andThen_ok, run_underlying hu, hmap]
        simp only [Array.toList_map] at c1 ⊢
        simp only [c1]
        rfl
      · cases h
    · cases h
  · rename_i n e z ps hu hz hp
    split at h
    · rename_i m hm
      split at h
      · rename_i cs hf
        cases h
        obtain ⟨zv, z1, z2⟩ := zero_size (ν := ν) hz
        obtain ⟨p1, p2⟩ := parts_den (a := a) ht parts.toList ps hp
        obtain ⟨cells, c1, c2⟩ := fill_den (place' := fun i => some (i * m, m)) (fun i x e => e) ps (parts.toList.map fun (i, x) => (i, a.eval x)) z cs zv.cells hf z2 (by simp [p1]) p2
        refine fin_pure hs (y := .agg cells) ?_ ⟨cells, rfl, c2⟩
        simp only [execOp, hop, Instr.build, Sem.run_bind, z1, Result.andThen_ok, run_underlying hu, run_sizeOf hm]
        simp only [Array.toList_map] at c1 ⊢
        simp only [c1]
        rfl
      · cases h
    · cases h
  · cases h
end
end Go.RX

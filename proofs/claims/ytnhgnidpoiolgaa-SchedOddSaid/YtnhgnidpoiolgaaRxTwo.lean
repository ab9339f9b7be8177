/- Runs of Go functions over states that are told by numbers, truth values, texts and lists; each such run is proved to be the machine's. No condition beside those that each theorem states. -/
import Derived.Test.YtnhgnidpoiolgaaRxOne
import Derived.Laws.OwnMore
import Derived.Laws.IdiomStrings
import Derived.Great.BuildSlice
import Derived.Deep.AppendSrc
import Derived.Laws.Slices
import Derived.Laws.Strings2
import Derived.TacticsIn
import Derived.OrdersIn
/- Symbolic runs of Go functions: slices that are made, and that grow. -/
namespace Go.RX
open Go.RowKit
set_option linter.unusedSimpArgs false
set_option linter.unusedVariables false

section
variable {P : Program} {U : Uni} {Γ : Con U} {s : St U} {kx : Nat} {o : Oper} {r : Ran U} {w0 w : World} {F0 : Nat → Nat → Prop} {Fr : Nat → Prop} {ν : Nu} {F : Nat → Nat → Prop} {a : Act} {heap : List (Nat × TypeId × List Atom)} {rows : List (Nat × Row U)}

theorem look_disown (old fid : Nat) : ∀ rows : List (Nat × Row U), look fid (disown old rows) = (look fid rows).map fun r => if fid = old then ⟨r.c, r.l, false⟩ else r
  | [] => rfl
  | (j, r) :: rs => by
    unfold disown
    by_cases h : j = old
    · rw [if_pos h, look_cons, look_cons]
      by_cases c : j = fid
      · rw [if_pos c, if_pos c, Option.map_some, if_pos (c.symm.trans h)]
      · rw [if_neg c, if_neg c]
        cases look fid rs with
        | none => rfl
        | some x => rw [Option.map_some, if_neg (fun e => c (h.trans e.symm))]
    · rw [if_neg h, look_cons, look_cons]
      by_cases c : j = fid
      · rw [if_pos c, if_pos c, Option.map_some, if_neg (fun e => h (c.trans e))]
      · rw [if_neg c, if_neg c]; exact look_disown old fid rs

/-- A row is the call's own no longer. -/
theorem Sim.disown (h : Sim U w0 F0 Fr heap rows w ν F) (old : Nat) : Sim U w0 F0 Fr heap (disown old rows) w ν F := by
  have hl : ∀ {fid r}, look fid (RX.disown old rows) = some r → ∃ r0, look fid rows = some r0 ∧ (r.own = true → r0.own = true ∧ fid ≠ old) ∧ (r = r0 ∨ r = ⟨r0.c, r0.l, false⟩) := fun {fid r} e => by
    rw [look_disown] at e
    cases hh : look fid rows with
    | none => rw [hh] at e; cases e
    | some r0 =>
      rw [hh, Option.map_some] at e
      by_cases c : fid = old
      · rw [if_pos c] at e; cases e; exact ⟨r0, rfl, fun q => (by cases q), .inr rfl⟩
      · rw [if_neg c] at e; cases e; exact ⟨_, rfl, fun q => ⟨q, c⟩, .inl rfl⟩
  refine ⟨h.below, h.box, h.inj, h.lt, ?_, ?_, ?_, h.free, h.sub, h.new, h.hold, fun l x e hc => ⟨(h.hx l x e hc).1, (h.hx l x e hc).2.1, fun fid r v e1 e2 => by obtain ⟨r0, q1, q4, _⟩ := hl e1; exact (h.hx l x e hc).2.2 fid r0 v q1 (q4 e2).1⟩⟩
  · intro fid r e
    obtain ⟨r0, q1, q4, q5⟩ := hl e
    obtain ⟨v, e1, e2, e3⟩ := h.row fid r0 q1
    rcases q5 with rfl | rfl
    · exact ⟨v, e1, e2, e3⟩
    · exact ⟨v, e1, e2, fun c => by cases c⟩
  · intro fid r v id b e1 e2
    obtain ⟨r0, q1, q4, _⟩ := hl e1
    exact h.apart fid r0 v id b q1 (q4 e2).1
  · intro fid r v fid' r' v' b e1 e2 e3 e4 e5
    obtain ⟨r0, q1, q4, _⟩ := hl e1
    obtain ⟨r0', q1', q4', _⟩ := hl e4
    exact h.apart2 fid r0 v fid' r0' v' b q1 (q4 e2).1 e3 q1' (q4' e5).1

/-- The cells of a slice that is read, one behind the other. -/
theorem rd_cells {ad : Addr} {n cap : Nat} {c : U.C} {l : List (U.T c)} (h : Rd U F w (.slice (some ad) n cap) c l) :
    ∃ d, ∃ news : List Value, news.length = n * U.size c ∧ (∀ (j : Nat) u, news[j]? = some u → w.cell? (ad.add j) = some u ∧ oneV u = true) ∧
      ∀ (i : Nat) (hi : i < l.length) (j : Nat) cv, (U.enc c l[i])[j]? = some cv → ∃ y, news[i * U.size c + j]? = some y ∧ CVDen (Reads U F d) w cv y := by
  obtain ⟨d, h⟩ := h
  cases d with
  | zero => exact h.elim
  | succ d =>
    obtain ⟨A, n', cap', e1, e2, e3, e4, h⟩ := h
    cases e1
    rcases Nat.eq_zero_or_pos n with h0 | h0
    · subst h0
      exact ⟨0, [], by simp, fun j u e => by simp at e, fun i hi => by omega⟩
    · obtain ⟨ad', ea, es, h⟩ := h h0
      cases ea
      obtain ⟨bb, off, sp⟩ := ad
      have : sp = none := es
      subst this
      have hcell : ∀ k, k < n * U.size c → ∃ y, w.cell? ⟨bb, off + k, none⟩ = some y ∧ oneV y = true := fun k hk => by
        have hz : 0 < U.size c := by
          rcases Nat.eq_zero_or_pos (U.size c) with q | q
          · rw [q, Nat.mul_zero] at hk; omega
          · exact q
        have hi : k / U.size c < l.length := by rw [e2]; exact Nat.div_lt_of_lt_mul (by rwa [Nat.mul_comm])
        have hj : k % U.size c < (U.enc c l[k / U.size c]).length := by rw [U.encSize]; exact Nat.mod_lt _ hz
        obtain ⟨_, y, q1, q2⟩ := h (k / U.size c) hi (k % U.size c) _ (List.getElem?_eq_getElem hj)
        rw [Nat.div_add_mod'] at q1
        refine ⟨y, q1, ?_⟩
        cases hcv : (U.enc c l[k / U.size c])[k % U.size c] with
        | v x => rw [hcv] at q2; obtain ⟨rfl, q⟩ := q2; exact q
        | sl c0 l0 => rw [hcv] at q2; have q2 : Reads U F d w y c0 l0 := q2; exact q2.oneV
      refine ⟨d, (List.range (n * U.size c)).map fun k => (w.cell? ⟨bb, off + k, none⟩).getD undef, by simp, fun j u e => ?_, fun i hi j cv hcv => ?_⟩
      · have hj : j < n * U.size c := by have := (List.getElem?_eq_some_iff.mp e).1; simpa using this
        obtain ⟨y, q1, q2⟩ := hcell j hj
        simp only [List.getElem?_map, List.getElem?_range hj, Option.map_some, q1, Option.getD_some, Option.some.injEq] at e
        subst e
        exact ⟨by rw [add_at]; exact q1, q2⟩
      · obtain ⟨_, y, q1, q2⟩ := h i hi j cv hcv
        have hj : j < U.size c := by have := (List.getElem?_eq_some_iff.mp hcv).1; rwa [U.encSize] at this
        have hk : i * U.size c + j < n * U.size c := by
          have : (i + 1) * U.size c ≤ n * U.size c := Nat.mul_le_mul_right _ (by omega)
          rw [Nat.succ_mul] at this; omega
        refine ⟨y, ?_, q2⟩
        simp only [List.getElem?_map, List.getElem?_range hk, Option.map_some, q1, Option.getD_some]

/-- What is appended, told of all elements. -/
theorem both_cells {c : U.C} {l l2 : List (U.T c)} {xs news : List Value} {d1 d2 : Nat} (hx : xs.length = l.length * U.size c)
    (h1 : ∀ (i : Nat) (hi : i < l.length) (j : Nat) cv, (U.enc c l[i])[j]? = some cv → ∃ y, xs[i * U.size c + j]? = some y ∧ CVDen (Reads U F d1) w cv y)
    (h2 : ∀ (i : Nat) (hi : i < l2.length) (j : Nat) cv, (U.enc c l2[i])[j]? = some cv → ∃ y, news[i * U.size c + j]? = some y ∧ CVDen (Reads U F d2) w cv y) :
    ∃ d, ∀ (i : Nat) (hi : i < (l ++ l2).length) (j : Nat) cv, (U.enc c (l ++ l2)[i])[j]? = some cv → ∃ y, (xs ++ news)[i * U.size c + j]? = some y ∧ CVDen (Reads U F d) w cv y := by
  have up : ∀ {a b : Nat} {cv : CV U.C U.T} {y : Value}, a ≤ b → CVDen (Reads U F a) w cv y → CVDen (Reads U F b) w cv y := fun {a b cv y} hab h => by
    induction b with
    | zero => have : a = 0 := by omega
              subst this; exact h
    | succ b ih =>
      by_cases e : a = b + 1
      · subst e; exact h
      · have := ih (by omega)
        cases cv with
        | v x => exact this
        | sl c0 l0 => exact Reads.up this
  refine ⟨d1 + d2, fun i hi j cv hcv => ?_⟩
  by_cases hl : i < l.length
  · rw [List.getElem_append_left hl] at hcv
    obtain ⟨y, q1, q2⟩ := h1 i hl j cv hcv
    exact ⟨y, by rw [List.getElem?_append_left (List.getElem?_eq_some_iff.mp q1).1]; exact q1, up (by omega) q2⟩
  · have hi2 : i - l.length < l2.length := by rw [List.length_append] at hi; omega
    rw [List.getElem_append_right (by omega)] at hcv
    obtain ⟨y, q1, q2⟩ := h2 (i - l.length) hi2 j cv hcv
    have e : i * U.size c + j = xs.length + ((i - l.length) * U.size c + j) := by
      rw [hx]
      have : i * U.size c = l.length * U.size c + (i - l.length) * U.size c := by rw [← Nat.add_mul]; congr 1; omega
      omega
    refine ⟨y, ?_, up (by omega) q2⟩
    rw [e, List.getElem?_append_right (Nat.le_add_right _ _), Nat.add_sub_cancel_left]
    exact q1

/-- A row's block is written behind what is read of it; the row that is longer takes its place. -/
theorem Sim.longer (hs : Sim U w0 F0 Fr heap rows w ν F) {fid : Nat} (hn : ν.f fid = none) (hfr : ∀ k j, Fr k → j < 16 → 16 * k + j ≠ fid) {c : U.C} {l L : List (U.T c)} {e : TypeId} {g off cap : Nat} {fz : Nat × Nat} {cur cur' : Array Value} {w' : World}
    (hg : w.heap[g]? = some (.cells cur e fz)) (hfz : NoFz fz cur.size) (hos : w'.os = w.os) (htp : w'.tape = w.tape) (hout : w'.output = w.output) (hwz : w'.heap.size = w.heap.size) (hnew : w'.heap[g]? = some (.cells cur' e fz)) (hoth : ∀ k, k ≠ g → w'.heap[k]? = w.heap[k]?)
    (hbase : w0.heap.size ≤ g) (hbox : ∀ id, (look id heap).isSome → ν.b id ≠ some g) (hrow : ∀ fid' r' v', look fid' rows = some r' → r'.own = true → ν.f fid' = some v' → v'.ownBlock ≠ some g) (hxg : ∀ x, ν.o g = some x → isC x = false)
    (hF : ∀ o, off + l.length * U.size c ≤ o → o < off + cap * U.size c → ¬ F g o) (hsz : cur'.size = cur.size) (hcs : off + cap * U.size c ≤ cur.size) (hlL : l.length ≤ L.length) (hle : L.length ≤ cap) (hcap : cap ≤ maxLen) (hsame : ∀ o, (o < off + l.length * U.size c ∨ off + cap * U.size c ≤ o) → cur'[o]? = cur[o]?)
    (hcell : ∃ d, ∀ (i : Nat) (hi : i < L.length) (j : Nat) cv, (U.enc c L[i])[j]? = some cv → ∃ y, cur'[off + (i * U.size c + j)]? = some y ∧ CVDen (Reads U F d) w cv y) :
    ∃ ν' F', ν.le ν' ∧ Sim U w0 F0 Fr heap ((fid, (⟨c, L, true⟩ : Row U)) :: rows) w' ν' F' ∧ DenSV ν' (.one (.sl fid)) (.slice (some ⟨g, off, none⟩) L.length cap) := by
  have hcellsame : ∀ b o, F b o → w'.cell? ⟨b, o, none⟩ = w.cell? ⟨b, o, none⟩ := fun b o hb => by
    by_cases c' : b = g
    · subst c'
      have ho : o < off + l.length * U.size c ∨ off + cap * U.size c ≤ o := by
        rcases Nat.lt_or_ge o (off + l.length * U.size c) with q | q
        · exact .inl q
        · rcases Nat.lt_or_ge o (off + cap * U.size c) with q2 | q2
          · exact absurd hb (hF o q q2)
          · exact .inr q2
      rw [cell_at hnew, cell_at hg, hsame o ho]
    · exact cell_of_block (hoth b c') o
  have hgs : g < w.heap.size := (Array.getElem?_eq_some_iff.mp hg).1
  have hs' : Sim U w0 F0 Fr heap rows w' ν (fun b o => F b o ∨ (b = g ∧ o < off + L.length * U.size c)) := by
    refine ⟨hs.below.trans ⟨hos, htp, hout, by omega, fun k hk => hoth k (by omega)⟩, ?_, hs.inj, ?_, ?_, hs.apart, hs.apart2, hs.free, fun b o x => .inl (hs.sub b o x), ?_, fun l x e => by obtain ⟨a1, a2, a3⟩ := hs.hold l x e; exact ⟨a1, (hoth l (fun q => by subst q; rw [hg] at a2; cases a2; have := hxg _ e; cases this)).trans a2, a3⟩, fun l' x e hc => ⟨fun o q => (by
      rcases q with q | q
      · exact (hs.hx l' x e hc).1 o q
      · rw [q.1] at e; rw [hxg x e] at hc; cases hc), (hs.hx l' x e hc).2⟩⟩
    · intro id t cs el
      obtain ⟨b, arr, e1, e2, e3, e4, e5⟩ := hs.box id t cs el
      have hne : b ≠ g := fun q => hbox id (by rw [el]; rfl) (by rw [e1, q])
      exact ⟨b, arr, e1, e2, (hoth b hne).trans e3, e4, fun o x => by rcases x with x | x; exact e5 o x; exact hne x.1⟩
    · intro b o x
      rw [hwz]
      rcases x with x | x
      · exact hs.lt b o x
      · omega
    · intro fid' r' el
      obtain ⟨v, e1, e2, e3⟩ := hs.row fid' r' el
      refine ⟨v, e1, e2.keep (fun _ _ x => .inl x) hcellsame, fun ho => ?_⟩
      have hne := hrow fid' r' v el ho e1
      refine (e3 ho).keep (fun b hb => hoth b (fun q => hne (by rw [hb, q]))) (fun b hb o x => ?_)
      rcases x with x | x
      · exact x
      · exact absurd (by rw [hb, x.1]) hne
    · intro b o x
      rcases x with x | x
      · exact hs.new b o x
      · exact .inr (by omega)
  obtain ⟨d, hd⟩ := hcell
  have hrd : Rd U (fun b o => F b o ∨ (b = g ∧ o < off + L.length * U.size c)) w' (.slice (some ⟨g, off, none⟩) L.length cap) c L := by
    refine ⟨d + 1, _, L.length, cap, rfl, rfl, hle, hcap, fun _ => ⟨_, rfl, rfl, fun i hi j cv hcv => ?_⟩⟩
    have hj : j < U.size c := by have := (List.getElem?_eq_some_iff.mp hcv).1; rwa [U.encSize] at this
    refine ⟨.inr ⟨rfl, ?_⟩, ?_⟩
    · have : (i + 1) * U.size c ≤ L.length * U.size c := Nat.mul_le_mul_right _ hi
      rw [Nat.succ_mul] at this
      show off + (i * U.size c + j) < off + L.length * U.size c
      omega
    · obtain ⟨y, q1, q2⟩ := hd i hi j cv hcv
      refine ⟨y, ?_, ?_⟩
      · rw [cell_at hnew]; exact q1
      · cases cv with
        | v x => exact q2
        | sl c0 l0 => exact Reads.keep (fun _ _ x => .inl x) hcellsame q2
  refine ⟨ν.setF fid _, _, Nu.le_setF hn, hs'.addRow' hn hfr hrd (own := true) (fun _ => ⟨.inr ⟨g, off, cap, e, cur', fz, rfl, hbase, hnew, by rw [hsz]; exact hfz, hle, hcap, by rw [hsz]; exact hcs, fun o ho ho2 => ?_⟩, fun b hb2 => ?_⟩), ⟨if_pos rfl, rfl⟩⟩
  · rintro (x | x)
    · exact hF o (Nat.le_trans (Nat.add_le_add_left (Nat.mul_le_mul_right _ hlL) _) ho) ho2 x
    · omega
  · simp only [Value.ownBlock, Option.some.injEq] at hb2
    subst hb2
    exact ⟨hbox, hrow, hxg⟩

def OldOk (s : St U) (ν : Nu) (r1 : Row U) (v : Value) : Option Nat → Prop
  | some f => look f s.rows = some r1 ∧ ν.f f = some v
  | none => v = .slice none 0 0 ∧ r1.l = [] ∧ r1.own = true
theorem castL_is {c d : U.C} {l : List (U.T c)} {l2 : List (U.T d)} (h : castL c d l = some l2) : ∃ hc : c = d, hc ▸ l = l2 := by
  unfold castL at h
  split at h
  · rename_i hc _
    exact ⟨hc, Option.some.inj h⟩
  · cases h
theorem rowOf_den (hs : Sim U w0 F0 Fr s.heap s.rows w ν F) {e : TypeId} {X : SV} {old : Option Nat} {r1 : Row U} (h : rowOf Γ s e X = some (old, r1)) {v : Value} (d : DenSV ν X v) :
    Rd U F w v r1.c r1.l ∧ OldOk s ν r1 v old := by
  unfold rowOf at h
  split at h
  · rename_i fid
    split at h
    · rename_i r0 hl
      cases h
      obtain ⟨v', e1, e2, _⟩ := hs.row fid r1 hl
      obtain rfl : v = v' := Option.some.inj (d.1.symm.trans e1)
      exact ⟨e2, hl, e1⟩
    · cases h
  · split at h
    · cases h
      have d : v = .slice none 0 0 := d
      subst d
      exact ⟨⟨1, none, 0, 0, rfl, rfl, Nat.le_refl _, Nat.zero_le _, fun h => absurd h (Nat.lt_irrefl _)⟩, rfl, rfl, rfl⟩
    · cases h
  · cases h

/-- 'append' where there is room: the block's own type may be another one's. -/
theorem run_append_in (t tx ty e : TypeId) (i : TypeInfo) (ht : P.underlying t = some (.slice e)) (hi : P.info? e = some i)
    (g off sLen sCap : Nat) {w' : World} {y : Value} {m : Nat} {news : List Value} (hs : Src P i.size tx y m news w)
    (hroom : sLen + m ≤ sCap) (hst : (storeCells ⟨g, off + sLen * i.size, none⟩ news).run P w = .ok () w') :
    (Builtin.append_ #[t, tx] ty #[.slice (some ⟨g, off, none⟩) sLen sCap, y]).run P w = .ok (.slice (some ⟨g, off, none⟩) (sLen + m) sCap) w' := by
  rcases hs.kind with ⟨e2, hk⟩ | hk <;> simp [Builtin.append_, run_underlying ht, run_underlying hk, sizeOf, typeInfo, hi, hs.len, hroom, hs.cells, Addr.add_lit, hst]
theorem run_append_none (t tx ty e : TypeId) (i : TypeInfo) (ht : P.underlying t = some (.slice e)) (hi : P.info? e = some i) (A : Option Addr) (n cap : Nat) (h : n ≤ cap) {y : Value} (hs : Src P i.size tx y 0 [] w) :
    (Builtin.append_ #[t, tx] ty #[.slice A n cap, y]).run P w = .ok (.slice A n cap) w := by
  rcases hs.kind with ⟨e2, hk⟩ | hk <;> cases A <;> simp [Builtin.append_, run_underlying ht, run_underlying hk, sizeOf, typeInfo, hi, hs.len, hs.cells, h, storeCells]
theorem elemOK_is {e : TypeId} {z : Nat} (h : elemOK P e = some z) : ∃ i zv, P.info? e = some i ∧ i.zero = some zv ∧ i.size = z ∧ zv.cells.size = z ∧ 0 < z ∧ i.bytes ≤ 100000000 := by
  unfold elemOK at h
  split at h
  · rename_i i hi
    split at h
    · rename_i zv hz
      split at h
      · rename_i q
        cases h
        exact ⟨i, zv, hi, hz, rfl, q.1, q.2.1, q.2.2⟩
      · cases h
    · cases h
  · cases h
/-- What is appended to a row of the call's own, told of what the second argument yields. -/
theorem append_core (hs : Sim U w0 F0 Fr s.heap s.rows w ν F) (hk : Fr kx) {t t' e : TypeId} (hu : P.underlying t = some (.slice e)) {z : Nat} (hz : elemOK P e = some z) {c2 : U.C} (hzc : z = U.size c2) {l1 l2' : List (U.T c2)} {old : Option Nat} {A : Option Addr} {n cap : Nat} (x1 : Rd U F w (.slice A n cap) c2 l1)
    (x2 : OldOk s ν ⟨c2, l1, true⟩ (.slice A n cap) old) (ho : l1.length + l2'.length ≤ 1000000) {vy : Value} {news : List Value} (hsrc : Src P (U.size c2) t' vy l2'.length news w) {d2 : Nat}
    (n3 : ∀ (k : Nat) (hk : k < l2'.length) (j : Nat) cv, (U.enc c2 l2'[k])[j]? = some cv → ∃ y, news[k * U.size c2 + j]? = some y ∧ CVDen (Reads U F d2) w cv y)
    (step : ∀ {v' : Value} {w' : World}, (Builtin.append_ #[t, t'] o.type #[Value.slice A n cap, vy]).run P w = .ok v' w' → (execOp a.eval o).run P w = .ok (.value v') w') :
    Fin P o a w (Post U w0 F0 Fr ν kx s (.one (.sl (16 * kx))) (growU old [(16 * kx, (⟨c2, l1 ++ l2', true⟩ : Row U))])) := by
  obtain ⟨i, zv, hi, hzv, hsz, hzs, hpos, hby⟩ := elemOK_is hz
  have hm : (1000000 : Nat) ≤ maxLen := by decide
  obtain ⟨_, _, _, hn0, hn⟩ := x1.slice
  cases hn0
  obtain ⟨d1, A', n', cap', q1, q2, q3, q4, q5⟩ : ∃ d1, ∃ A' n' cap', Value.slice A n cap = .slice A' n' cap' ∧ l1.length = n' ∧ n' ≤ cap' ∧ cap' ≤ maxLen ∧ True := by
    obtain ⟨d, hd⟩ := x1
    cases d with
    | zero => exact hd.elim
    | succ d => obtain ⟨A', n', cap', e1, e2, e3, e4, _⟩ := hd; exact ⟨d, A', n', cap', e1, e2, e3, e4, trivial⟩
  cases q1
  -- the rows behind: the old one is nobody's
  obtain ⟨rows', hrows', hsR, hn0, hfresh⟩ : ∃ rows', ((s.app kx (growU old [(16 * kx, (⟨c2, l1 ++ l2', true⟩ : Row U))])).rows = (16 * kx, ⟨c2, l1 ++ l2', true⟩) :: rows') ∧ Sim U w0 F0 Fr s.heap rows' w ν F ∧ ν.f (16 * kx) = none ∧
      (∀ g, (Value.slice A n cap).ownBlock = some g → (∀ id, (look id s.heap).isSome → ν.b id ≠ some g) ∧ (∀ fid' r' v', look fid' rows' = some r' → r'.own = true → ν.f fid' = some v' → v'.ownBlock ≠ some g) ∧ ∀ x, ν.o g = some x → isC x = false) := by
    have hn0 : ν.f (16 * kx) = none := by have := (hs.free kx hk).2 0 (by omega); simpa using this
    cases old with
    | none =>
      refine ⟨s.rows, rfl, hs, hn0, fun g hg => ?_⟩
      rw [x2.1] at hg
      cases hg
    | some f =>
      refine ⟨disown f s.rows, rfl, hs.disown f, hn0, fun g hg => ⟨fun id hid hb => hs.apart f _ _ id g x2.1 rfl x2.2 hid hb hg, fun fid' r' v' e1 e2 e3 e4 => ?_, fun x hx => (by
        cases hc : isC x with
        | false => rfl
        | true => exact absurd hg ((hs.hx g x hx hc).2.2 f _ _ x2.1 rfl x2.2))⟩⟩
      rw [look_disown] at e1
      cases hh : look fid' s.rows with
      | none => rw [hh] at e1; cases e1
      | some r0 =>
        rw [hh, Option.map_some] at e1
        by_cases cf : fid' = f
        · rw [if_pos cf] at e1; cases e1; cases e2
        · rw [if_neg cf] at e1; cases e1
          exact cf (hs.apart2 f _ _ fid' _ v' g x2.1 rfl x2.2 hh e2 e3 hg e4).symm
  have hheap' : (s.app kx (growU old [(16 * kx, (⟨c2, l1 ++ l2', true⟩ : Row U))])).heap = s.heap := by cases old <;> rfl
  have hownx : Owned U w0 w F (.slice A n cap) c2 l1.length := by
    cases old with
    | none =>
      have e0 : l1 = [] := x2.2.1
      rw [x2.1, e0]; exact .inl ⟨rfl, rfl⟩
    | some f =>
      obtain ⟨v', e1, e2, e3⟩ := hs.row f _ x2.1
      have : v' = .slice A n cap := Option.some.inj (e1.symm.trans x2.2)
      rw [← this]; exact e3 rfl
  have fin : ∀ {v' : Value} {w' : World}, (Builtin.append_ #[t, t'] o.type #[Value.slice A n cap, vy]).run P w = .ok v' w' →
      (∃ ν' F', ν.le ν' ∧ Sim U w0 F0 (fun k => Fr k ∧ k ≠ kx) s.heap ((16 * kx, (⟨c2, l1 ++ l2', true⟩ : Row U)) :: rows') w' ν' F' ∧ DenSV ν' (.one (.sl (16 * kx))) v') →
      Fin P o a w (Post U w0 F0 Fr ν kx s (.one (.sl (16 * kx))) (growU old [(16 * kx, (⟨c2, l1 ++ l2', true⟩ : Row U))])) := fun {v' w'} hr ⟨ν', F', g1, g2, g3⟩ =>
    Fin.value (step hr) ⟨ν', F', g1, by rw [hheap', hrows']; exact g2, g3⟩
  have hfr : ∀ k j, (Fr k ∧ k ≠ kx) → j < 16 → 16 * k + j ≠ 16 * kx := fun k j hk' hj e => hk'.2 (by omega)
  subst hn
  have hzc' : i.size = U.size c2 := by rw [hsz, hzc]
  have hsrc' : Src P i.size t' vy l2'.length news w := by rw [hzc']; exact hsrc
  have n1 : news.length = l2'.length * U.size c2 := hsrc.newsLen
  by_cases hm0 : l2'.length = 0
  · have hnil : l2' = [] := List.eq_nil_of_length_eq_zero hm0
    subst hnil
    have hnews : news = [] := List.eq_nil_of_length_eq_zero (by simpa using n1)
    subst hnews
    exact fin (run_append_none t t' o.type e i hu hi A _ cap q3 hsrc') ⟨ν.setF (16 * kx) _, F, Nu.le_setF hn0, (hsR.fr fun _ h => h.1).addRow' hn0 hfr (by rw [List.append_nil]; exact x1) (own := true) (fun _ => ⟨by rw [List.append_nil]; exact hownx, fun b hb => hfresh b hb⟩), ⟨if_pos rfl, rfl⟩⟩
  · have hbb : ∀ k : Nat, k ≤ 1000000 → k * i.bytes ≤ 140737488355328 := fun k hk' => Nat.le_trans (Nat.mul_le_mul hk' hby) (by decide)
    have hbb2 : ∀ n cap : Nat, n ≤ 1000000 → cap < n → Builtin.nextslicecap n cap * i.bytes ≤ 281474976710656 := fun n cap h1 h2 => growslice_fits h2 (hbb _ h1)
    rcases hownx with ⟨hv0, hl0⟩ | ⟨g, off, cap', et, cur, fz, hv0, hbg, hg, hnz, hnc, hcm, hcs, hFx⟩
    · simp only [Value.slice.injEq] at hv0
      obtain ⟨rfl, -, rfl⟩ := hv0
      have hnil : l1 = [] := List.eq_nil_of_length_eq_zero hl0
      subst hnil
      have hr := run_append_grow_src (P := P) w t t' o.type e i zv hu hi hzv none 0 0 [] (by simpa using run_firstCells_none w.drew i.size 0 0 0) vy l2'.length news hsrc' (by omega) (by omega) (hbb2 _ _ (by simpa using ho) (by omega))
      simp only [Nat.zero_add] at hr
      obtain ⟨ν', F', g1, g2, g3⟩ := newOwn (s := { s with rows := rows' }) (own := true) (fz := (0, 0)) hsR hk (c := c2) (l := [] ++ l2') (cells := ([] ++ news).toArray ++ Builtin.zeroCells zv.cells (grownCap w l2'.length 0 e - l2'.length)) (e := e) (cap := grownCap w l2'.length 0 e) (w1 := w.drew) (fun _ => NoFz.zero _) rfl (Below.refl _ _).drew
        (by have := grownCap_ge w l2'.length 0 e; simp only [Array.size_append, List.size_toArray, List.length_append, size_zeroCells, n1, hzs, ← hzc, ← Nat.add_mul, List.length_nil, Nat.zero_add]; congr 1; omega) (by simpa using grownCap_ge w l2'.length 0 e) (grownCap_le_maxLen w _ 0 e (by omega)) ⟨d2, fun k hk' j cv hcv => by
          obtain ⟨y0, p1, p2⟩ := n3 k (by simpa using hk') j cv (by simpa using hcv)
          refine ⟨y0, ?_, p2⟩
          have hlt := (List.getElem?_eq_some_iff.mp p1).1
          rw [Array.getElem?_append_left (by simpa using hlt)]
          simpa using p1⟩
      exact fin hr ⟨ν', F', g1, g2, by simpa using g3⟩
    · simp only [Value.slice.injEq] at hv0
      obtain ⟨rfl, -, rfl⟩ := hv0
      obtain ⟨d1, xs, hxl, hcx, n4⟩ := rd_cells x1
      obtain ⟨dd, hboth⟩ := both_cells hxl n4 n3
      by_cases hroom : l1.length + l2'.length ≤ cap
      · have hcapm : (l1.length + l2'.length) * U.size c2 ≤ cap * U.size c2 := Nat.mul_le_mul_right _ hroom
        rw [Nat.add_mul] at hcapm
        have hone : ∀ u ∈ news, RX.oneV u = true := fun u hu' => by have := hsrc.one u hu'; cases u <;> first | rfl | cases this
        obtain ⟨w', cur', k1, k2, k3, k4, k5, k6, k7, k8, k9⟩ := storeCells_run (P := P) g (off + l1.length * i.size) news 0 w cur hg hnz hone (by rw [n1, hzc']; omega)
        simp only [Nat.add_zero] at k9
        have hr := run_append_in (P := P) (w := w) t t' o.type e i hu hi g off l1.length cap hsrc' hroom k1
        rw [hzc'] at k9
        obtain ⟨f1, f2, f3⟩ := hfresh g rfl
        obtain ⟨ν', F', g1, g2, g3⟩ := Sim.longer (hsR.fr (Fr' := fun k => Fr k ∧ k ≠ kx) fun _ h => h.1) hn0 hfr (c := c2) (l := l1) (L := l1 ++ l2') (cur' := cur') (cap := cap) hg hnz k2 k3 k4 k5 k6 k7 hbg f1 f2 f3 hFx k8 hcs (by simp) (by simpa using hroom) hcm (fun o' ho' => by
            rw [k9, if_neg (by rw [n1]; omega)]) ⟨dd, fun k hk' j cv hcv => by
            obtain ⟨y0, p1, p2⟩ := hboth k hk' j cv hcv
            refine ⟨y0, ?_, p2⟩
            rw [k9]
            by_cases q : k * U.size c2 + j < xs.length
            · rw [List.getElem?_append_left q] at p1
              rw [if_neg (by rw [hxl] at q; omega)]
              have := (hcx _ _ p1).1
              rw [add_at, cell_at hg] at this
              exact this
            · rw [List.getElem?_append_right (by omega)] at p1
              have hlt := (List.getElem?_eq_some_iff.mp p1).1
              rw [hxl] at q p1 hlt
              rw [if_pos (by omega), ← p1]
              congr 1; omega⟩
        exact fin hr ⟨ν', F', g1, g2, by simpa using g3⟩
      · have hr := run_append_grow_src (P := P) w t t' o.type e i zv hu hi hzv (some ⟨g, off, none⟩) l1.length cap xs (run_firstCells_some w.drew i.size l1.length ⟨g, off, none⟩ l1.length cap xs (by rw [hxl, hzc']) (fun j u hj => by simpa using (hcx j u hj).1)) vy l2'.length news hsrc' (by omega) (by omega) (hbb2 _ _ (by omega) (by omega))
        have hge := grownCap_ge w (l1.length + l2'.length) cap e
        obtain ⟨ν', F', g1, g2, g3⟩ := newOwn (s := { s with rows := rows' }) (own := true) (fz := (0, 0)) hsR hk (c := c2) (l := l1 ++ l2') (cells := (xs ++ news).toArray ++ Builtin.zeroCells zv.cells (grownCap w (l1.length + l2'.length) cap e - (l1.length + l2'.length))) (e := e) (cap := grownCap w (l1.length + l2'.length) cap e) (w1 := w.drew) (fun _ => NoFz.zero _) rfl (Below.refl _ _).drew
          (by simp only [Array.size_append, List.size_toArray, List.length_append, size_zeroCells, n1, hxl, hzs, ← hzc, ← Nat.add_mul]; congr 1; omega) (by simpa using hge) (grownCap_le_maxLen w _ cap e (by omega)) ⟨dd, fun k hk' j cv hcv => by
            obtain ⟨y0, p1, p2⟩ := hboth k hk' j cv hcv
            refine ⟨y0, ?_, p2⟩
            have hlt := (List.getElem?_eq_some_iff.mp p1).1
            rw [List.length_append] at hlt
            rw [Array.getElem?_append_left (by simpa using hlt)]
            simpa using p1⟩
        exact fin hr ⟨ν', F', g1, g2, by simpa using g3⟩

theorem op_append (hs : Sim U w0 F0 Fr s.heap s.rows w ν F) (hk : Fr kx) (ht : TOk ν s.tmps a.tmps) {c : Call} (hop : o.op = .call c) (hc : c.callee = .builtin .append) (h : rval P Γ s kx o = some r) (ho : obOK r.ob) : Fin P o a w (Post U w0 F0 Fr ν kx s r.v r.u) := by
  simp only [rval, hop, hc] at h
  split at h
  · rename_i x y t t' hargs htys
    have hca : c.args = #[x, y] := by rw [← Array.toArray_toList (xs := c.args), hargs]
    have hta : c.argTypes = #[t, t'] := by rw [← Array.toArray_toList (xs := c.argTypes), htys]
    have step : ∀ {vx vy v' : Value} {w' : World}, a.eval x = vx → a.eval y = vy → (Builtin.append_ #[t, t'] o.type #[vx, vy]).run P w = .ok v' w' → (execOp a.eval o).run P w = .ok (.value v') w' := fun {vx vy v' w'} e1 e2 hr => by
      simp only [execOp, hop, resolve, hc, invoke, builtin, Sem.run_bind, Sem.run_pure, Result.andThen_ok, hca, hta, List.map_toArray, List.map_cons, List.map_nil, e1, e2, hr]
    split at h
    · rename_i htt
      subst htt
      split at h
      · rename_i e hu
        split at h
        · rename_i z old r1 old2 r2 hz hx hy
          split at h
          · rename_i l2 hcl hcond
            cases h
            simp only [Bool.and_eq_true, decide_eq_true_eq] at hcond
            obtain ⟨hown, hzc⟩ := hcond
            have dx := TOk.ev (defers := a.defers) ht x
            have dy := TOk.ev (defers := a.defers) ht y
            obtain ⟨x1, x2⟩ := rowOf_den hs hx dx
            obtain ⟨y1, _⟩ := rowOf_den hs hy dy
            obtain ⟨c1, l1, own1⟩ := r1
            obtain ⟨c2, l2', own2⟩ := r2
            simp only at hown hzc hcl x1 x2 y1 ho
            subst hown
            obtain ⟨rfl, rfl⟩ := castL_is hcl
            have ho : l1.length + l2'.length ≤ 1000000 := ho
            obtain ⟨A, n, cap, hvx, hn⟩ := x1.slice
            obtain ⟨A2, m, cap2, hvy, hm2⟩ := y1.slice
            rw [hvx] at x1 x2
            rw [hvy] at y1
            subst hm2
            cases A2 with
            | none =>
              have h0 : l2'.length = 0 := by
                rcases Nat.eq_zero_or_pos l2'.length with q | q
                · exact q
                · obtain ⟨ad, q⟩ := y1.some q; cases q
              have hnil : l2' = [] := List.eq_nil_of_length_eq_zero h0
              subst hnil
              exact append_core hs hk hu hz hzc x1 x2 ho (Src.ofNil w hu cap2) (d2 := 0) (fun k hk => absurd hk (Nat.not_lt_zero _)) (step hvx hvy)
            | some ad =>
              obtain ⟨d2, news, n1, n2, n3⟩ := rd_cells y1
              have hone : ∀ u ∈ news, u.oneCell' = true := fun u hu' => by
                obtain ⟨j, hj⟩ := List.getElem?_of_mem hu'
                have := (n2 j u hj).2
                cases u <;> first | rfl | cases this
              exact append_core hs hk hu hz hzc x1 x2 ho (Src.ofSlice w hu ad l2'.length cap2 news n1 (fun j u hj => (n2 j u hj).1) hone) n3 (step hvx hvy)
          · cases h
        · cases h
      · cases h
    · split at h
      · rename_i e b hu hu' ey
        split at h
        · rename_i z old r1 hz hx
          split at h
          · rename_i l2 hcl hcond
            cases h
            simp only [Bool.and_eq_true, decide_eq_true_eq] at hcond
            obtain ⟨hown, hzc⟩ := hcond
            have dx := TOk.ev (defers := a.defers) ht x
            have dy := TOk.ev (defers := a.defers) ht y
            rw [ey] at dy
            have dy : a.eval y = .string b := dy
            obtain ⟨x1, x2⟩ := rowOf_den hs hx dx
            obtain ⟨c1, l1, own1⟩ := r1
            simp only at hown hzc hcl x1 x2 ho
            subst hown
            obtain ⟨rfl, rfl⟩ := castL_is hcl
            have hbl : (bytesU (U := U) b).length = b.size := by
              unfold bytesU
              rw [List.length_map, Array.length_toList]
              rfl
            have ho : l1.length + b.size ≤ 1000000 := ho
            obtain ⟨A, n, cap, hvx, hn⟩ := x1.slice
            rw [hvx] at x1 x2
            have hsrc := Src.ofString (P := P) w hu' b
            rw [← hbl, ← U.u8size] at hsrc
            refine append_core hs hk hu hz hzc x1 x2 (l2' := bytesU b) (by rw [hbl]; exact ho) hsrc (d2 := 0) (fun k hk' j cv hcv => ?_) (step hvx dy)
            simp only [bytesU, List.getElem_map, U.u8enc, U.toOf] at hcv
            rw [U.u8size, Nat.mul_one]
            cases j with
            | zero =>
              simp at hcv
              subst hcv
              rw [hbl] at hk'
              refine ⟨_, ?_, rfl, rfl⟩
              unfold byteCells
              rw [Nat.add_zero, List.getElem?_map, List.getElem?_eq_getElem (by rw [Array.length_toList]; exact hk')]
              rfl
            | succ j => simp at hcv
          · cases h
        · cases h
      · cases h
  · cases h

theorem op_nilCheck (hs : Sim U w0 F0 Fr s.heap s.rows w ν F) (ht : TOk ν s.tmps a.tmps) {x : Operand} (hop : o.op = .nilCheck x) (h : rval P Γ s kx o = some r) : Fin P o a w (Post U w0 F0 Fr ν kx s r.v r.u) := by
  simp only [rval, hop] at h
  have hx := TOk.ev (defers := a.defers) ht x
  split at h
  · rename_i id off e1
    cases h
    rw [e1] at hx
    obtain ⟨b, eb, ex⟩ := hx
    exact fin_pure hs (y := .pointer (some ⟨b, off, none⟩)) (by simp [execOp, hop, ex]) ⟨b, eb, rfl⟩
  · rename_i fid i sz off e1
    cases h
    rw [e1] at hx
    obtain ⟨ad, m, c, eb, hj, hsp, ex⟩ := hx
    exact fin_pure hs (y := .pointer (some ⟨ad.block, ad.off + (i * sz + off), none⟩)) (by simp [execOp, hop, ex]) ⟨ad, m, c, eb, hj, hsp, rfl⟩
  · rename_i g off e1
    cases h
    rw [e1] at hx
    have hx : a.eval x = .pointer (some ⟨g, off, none⟩) := hx
    exact fin_pure hs (y := .pointer (some ⟨g, off, none⟩)) (by simp [execOp, hop, hx]) rfl
  · rename_i f caps e1
    cases h
    rw [e1] at hx
    obtain ⟨cs, ex, hl, hc⟩ := hx
    exact fin_pure hs (y := .func (.func f) #[] cs.toArray) (by simp [execOp, hop, ex]) ⟨cs, rfl, hl, hc⟩
  · cases h

theorem ptrs_den (ht : TOk ν s.tmps a.tmps) : ∀ (l : List Operand) (ps : List (Nat × Nat)), ptrsOf s l = some ps → (l.map a.eval).length = ps.length ∧ ∀ (j : Nat) (p : Nat × Nat), ps[j]? = some p → ∃ b, ν.b p.1 = some b ∧ (l.map a.eval)[j]? = some (Value.pointer (some ⟨b, p.2, none⟩))
  | [], ps, h => by cases h; exact ⟨rfl, fun j p e => by simp at e⟩
  | x :: l, ps, h => by
    simp only [ptrsOf] at h
    split at h
    · rename_i id off e1
      split at h
      · rename_i ps' hps
        cases h
        obtain ⟨q1, q2⟩ := ptrs_den ht l ps' hps
        refine ⟨by simpa using q1, fun j p e => ?_⟩
        cases j with
        | zero =>
          simp at e
          subst e
          have hx := TOk.ev (defers := a.defers) ht x
          rw [e1] at hx
          obtain ⟨b, eb, ex⟩ := hx
          have ex : a.eval x = .pointer (some ⟨b, off, none⟩) := ex
          exact ⟨b, eb, by simp [ex]⟩
        | succ j => simpa using q2 j p (by simpa using e)
      · cases h
    · cases h
theorem op_makeFunc (hs : Sim U w0 F0 Fr s.heap s.rows w ν F) (ht : TOk ν s.tmps a.tmps) {fn : Fn} {first caps : Array Operand} (hop : o.op = .makeFunc fn first caps) (h : rval P Γ s kx o = some r) : Fin P o a w (Post U w0 F0 Fr ν kx s r.v r.u) := by
  cases fn with
  | func f =>
    simp only [rval, hop] at h
    split at h
    · rename_i l hf hp
      cases h
      obtain ⟨q1, q2⟩ := ptrs_den (a := a) ht caps.toList l hp
      have hf0 : first = #[] := by rw [← Array.toArray_toList (xs := first), hf]
      refine fin_pure hs (y := .func (.func f) #[] (caps.toList.map a.eval).toArray) ?_ ⟨caps.toList.map a.eval, rfl, q1, q2⟩
      simp only [execOp, hop, hf0]
      simp [Instr.makeFunc]
      rw [← Array.toList_map, Array.toArray_toList]
    · cases h
  | _ => simp [rval, hop] at h

theorem cvs_v : ∀ (l : List Value) (cvs : List (CV U.C U.T)), cvsOf s (l.map Atom.v) = some cvs → cvs = l.map CV.v ∧ ∀ v ∈ l, oneV v = true
  | [], cvs, h => by cases h; exact ⟨rfl, fun v h => by simp at h⟩
  | v :: l, cvs, h => by
    simp only [List.map_cons, cvsOf] at h
    split at h
    · rename_i x hx
      simp only [cvOf] at hx
      split at hx
      · rename_i h1
        cases hx
        split at h
        · rename_i y hy
          cases h
          obtain ⟨q1, q2⟩ := cvs_v l y hy
          exact ⟨by rw [q1]; rfl, fun u hu => by rcases List.mem_cons.mp hu with rfl | hu; exact h1; exact q2 u hu⟩
        · cases h
      · cases hx
    · cases h

theorem op_makeSlice (hs : Sim U w0 F0 Fr s.heap s.rows w ν F) (hk : Fr kx) (ht : TOk ν s.tmps a.tmps) {t : TypeId} {l c : Operand} (hop : o.op = .makeSlice t l c) (h : rval P Γ s kx o = some r) (ho : obOK r.ob) : Fin P o a w (Post U w0 F0 Fr ν kx s r.v r.u) := by
  simp only [rval, hop] at h
  have hl := TOk.ev (defers := a.defers) ht l
  have hc := TOk.ev (defers := a.defers) ht c
  split at h
  · rename_i e k1 n k2 m hu e1 e2
    rw [e1] at hl; rw [e2] at hc
    have hl : a.eval l = .int k1 n := hl
    have hc : a.eval c = .int k2 m := hc
    split at h
    · rename_i cc z zs hcc hz hzs
      split at h
      · rename_i hzc
        split at h
        · rename_i cvs hcvs
          split at h
          · rename_i x0 hx0
            cases h
            obtain ⟨hnm, hn0, hn1⟩ : n = m ∧ 0 ≤ n ∧ n ≤ 1000000 := ho
            subst hnm
            obtain ⟨i, zv, hi, hzv, hsz, hzz, hpos, hby⟩ := elemOK_is hz
            unfold zeroAtoms at hzs
            rw [hi] at hzs
            simp only [hzv] at hzs
            split at hzs
            · rename_i hall
              cases hzs
              obtain ⟨q1, q2⟩ := cvs_v zv.cells.toList cvs hcvs
              have henc := U.backEnc cc cvs x0 hx0
              obtain ⟨nn, rfl⟩ := Int.eq_ofNat_of_zero_le hn0
              have hn2 : nn ≤ 1000000 := by omega
              have hm : (1000000 : Nat) ≤ maxLen := by decide
              have hb : (i.bytes : Int) * (nn : Int) ≤ 281474976710656 := by
                have : i.bytes * nn ≤ 100000000 * 1000000 := Nat.mul_le_mul hby hn2
                have h2 : ((i.bytes * nn : Nat) : Int) ≤ 281474976710656 := by omega
                rwa [Int.natCast_mul] at h2
              have hr := run_make (P := P) w t e i zv hu hi hzv k1 k2 nn nn (by omega) (Int.le_refl _) hb (by omega)
              simp only [Int.toNat_natCast] at hr
              obtain ⟨ν', F', g1, g2, g3⟩ := newOwn (own := true) (fz := (0, 0)) hs hk (c := cc) (l := List.replicate nn x0) (cells := madeCells zv.cells (nn * i.size)) (e := e) (cap := nn) (w1 := w) (fun _ => NoFz.zero _) rfl (Below.refl _ _)
                (by rw [size_madeCells, hsz, hzc]) (by simp) (by omega) ⟨0, fun k hk' j cv hcv => by
                  simp only [List.getElem_replicate] at hcv
                  rw [henc, q1, List.getElem?_map] at hcv
                  obtain ⟨v, hv, rfl⟩ := Option.map_eq_some_iff.mp hcv
                  have hj : j < zv.cells.size := by have := (List.getElem?_eq_some_iff.mp hv).1; simpa using this
                  have hk2 : k < nn := by simpa using hk'
                  have hlt : k * U.size cc + j < nn * i.size := by
                    have : (k + 1) * U.size cc ≤ nn * U.size cc := Nat.mul_le_mul_right _ hk2
                    rw [Nat.succ_mul] at this
                    rw [hsz, hzc]; omega
                  refine ⟨v, ?_, rfl, q2 v (List.mem_of_getElem? hv)⟩
                  unfold madeCells
                  rw [Array.getElem?_map, Array.getElem?_eq_getElem (by simpa using hlt)]
                  simp only [Array.getElem_range, Option.map_some]
                  have hmod : (k * U.size cc + j) % zv.cells.size = j := by
                    rw [hzz, hzc, Nat.mul_comm, Nat.mul_add_mod]
                    exact Nat.mod_eq_of_lt (by rw [← hzc, ← hzz]; exact hj)
                  rw [hmod, getElem!_pos zv.cells j hj]
                  rw [Array.getElem?_toList, Array.getElem?_eq_getElem hj] at hv
                  exact hv⟩
              refine Fin.value (y := .slice (some ⟨w.heap.size, 0, none⟩) nn nn) ?_ ⟨ν', F', g1, by simpa [St.app] using g2, by simpa using g3⟩
              simp only [execOp, hop, hl, hc]
              exact run_op hr _
            · cases hzs
          · cases h
        · cases h
      · cases h
    · cases h
  · cases h
theorem op_buildNone (hs : Sim U w0 F0 Fr s.heap s.rows w ν F) (hk : Fr kx) (ht : TOk ν s.tmps a.tmps) {t : TypeId} {parts : Array (Nat × Operand)} (hop : o.op = .buildSlice t 0 parts) (h : rval P Γ s kx o = some r) : Fin P o a w (Post U w0 F0 Fr ν kx s r.v r.u) := by
  simp only [rval, hop] at h
  split at h
  · rename_i e hu hp
    split at h
    · rename_i c z hc hz
      split at h
      · rename_i hzc
        cases h
        obtain ⟨ie, hie, hsz⟩ := Option.map_eq_some_iff.mp hz
        have hp0 : parts = #[] := by rw [← Array.toArray_toList (xs := parts), hp]
        obtain ⟨ν', F', g1, g2, g3⟩ := newOwn (own := true) (fz := (0, 0)) hs hk (c := c) (l := []) (cells := #[]) (e := e) (cap := 0) (w1 := w) (fun _ => NoFz.zero _) rfl (Below.refl _ _) (by simp) (by simp) (by simp [maxLen]) ⟨0, fun k hk' => by simp at hk'⟩
        refine Fin.value (y := .slice (some ⟨w.heap.size, 0, none⟩) 0 0) ?_ ⟨ν', F', g1, g2, g3⟩
        simp only [execOp, hop, hp0]
        refine run_op (w' := w.alloc (.cells #[] e)) ?_ _
        simp [Instr.buildSlice, run_underlying hu, sizeOf, typeInfo, hie, Instr.fill, newRow]
        have e0 : (Array.range 0 : Array Nat) = #[] := by apply Array.ext <;> simp
        rw [e0, Array.map_empty]
      · cases h
    · cases h
  · cases h
end
end Go.RX

/- Symbolic runs of Go functions: calls by contract; every operation that is told does what is told of it. -/
namespace Go.RX
open Go.RowKit
set_option linter.unusedSimpArgs false
set_option linter.unusedVariables false

def CVL (U : Uni) (F : Nat → Nat → Prop) (w : World) (cs : List (CV U.C U.T)) (ys : List Value) : Prop :=
  cs.length = ys.length ∧ ∀ (j : Nat) cv y, cs[j]? = some cv → ys[j]? = some y → CVDen (Rd U F) w cv y
def DDen (U : Uni) (F : Nat → Nat → Prop) (w : World) (d : D U) (y : Value) : Prop := match d.agg with
  | true => ∃ arr : Array Value, y = .agg arr ∧ CVL U F w d.cs arr.toList
  | false => ∃ cv, d.cs = [cv] ∧ CVDen (Rd U F) w cv y
def OutDen (U : Uni) (F : Nat → Nat → Prop) (w : World) : Out U → Value → Prop
  | .one d, y => DDen U F w d y
  | .tup ds, y => ∃ arr : Array Value, y = .tuple arr ∧ ds.length = arr.size ∧ ∀ (j : Nat) d v, ds[j]? = some d → arr[j]? = some v → DDen U F w d v

/-- The contract: on such data the call returns such data, and what was there stays as it was. -/
def ConOk (P : Program) (U : Uni) (G : World → Prop) (n : Nat) (g : Spec U) : Prop := callable P n = true ∧
  ∀ ds r, g ds = some r → obOK r.pre → ∀ (w : World) (F : Nat → Nat → Prop) (args : Array Value), G w → (∀ b o, F b o → b < w.heap.size) → ds.length = args.size →
    (∀ (j : Nat) d v, ds[j]? = some d → args[j]? = some v → DDen U F w d v) →
    Calls P n args w fun e w' => ∃ y, e = .returned y ∧ ∃ F' : Nat → Nat → Prop, Below w.heap.size w w' ∧ (∀ b o, F b o → F' b o) ∧ (∀ b o, F' b o → F b o ∨ w.heap.size ≤ b) ∧ (∀ b o, F' b o → b < w'.heap.size) ∧ OutDen U F' w' r.out y

/-- All that is told: contracts, and the package's variables. -/
structure COk (P : Program) (U : Uni) (G : World → Prop) (Γ : Con U) : Prop where
  con : ∀ n g, Γ.c n = some g → ConOk P U G n g
  gl : GlOk G Γ

section
variable {P : Program} {U : Uni} {Γ : Con U} {s : St U} {kx : Nat} {o : Oper} {r : Ran U} {w0 w : World} {F0 : Nat → Nat → Prop} {Fr : Nat → Prop} {ν : Nu} {F : Nat → Nat → Prop} {a : Act}

theorem cvOf_den (hs : Sim U w0 F0 Fr s.heap s.rows w ν F) {x : Atom} {cv : CV U.C U.T} (h : cvOf s x = some cv) {y : Value} (d : Den ν x y) : CVDen (Rd U F) w cv y := by
  cases x with
  | v x =>
    simp only [cvOf] at h
    split at h
    · rename_i h1; cases h; exact ⟨d, h1⟩
    · cases h
  | sl fid =>
    simp only [cvOf] at h
    split at h
    · rename_i rw_ hl
      cases h
      obtain ⟨v, f1, f2, _⟩ := hs.row fid rw_ hl
      obtain rfl : v = y := Option.some.inj (f1.symm.trans d.1)
      exact f2
    · cases h
  | fn f caps =>
    cases caps with
    | nil =>
      have h : some (CV.v (.func (.func f) #[] #[])) = some cv := h
      cases h
      obtain ⟨cs, e, l, _⟩ := d
      have : cs = [] := List.eq_nil_of_length_eq_zero l
      subst this
      exact ⟨e, rfl⟩
    | cons p r => have h : (none : Option (CV U.C U.T)) = some cv := h; cases h
  | _ => simp [cvOf] at h
theorem cvsOf_den (hs : Sim U w0 F0 Fr s.heap s.rows w ν F) : ∀ (l : List Atom) (cs : List (CV U.C U.T)), cvsOf s l = some cs → ∀ ys : List Value, DenL ν l ys → CVL U F w cs ys
  | [], cs, h, ys, d => by cases h; exact ⟨d.1, fun j cv y e => by simp at e⟩
  | x :: l, cs, h, ys, d => by
    obtain ⟨y, ys, rfl⟩ : ∃ y ys', ys = y :: ys' := by cases ys with | nil => have := d.1; simp at this | cons y ys' => exact ⟨y, ys', rfl⟩
    simp only [cvsOf] at h
    split at h
    · rename_i cv hc
      split at h
      · rename_i cs' hcs
        cases h
        have d' : DenL ν l ys := ⟨by have := d.1; simpa using this, fun v hv => d.2.1 v (List.mem_cons_of_mem _ hv), fun j a z e1 e2 => d.2.2 (j + 1) a z (by simpa using e1) (by simpa using e2)⟩
        obtain ⟨q1, q2⟩ := cvsOf_den hs l cs' hcs ys d'
        refine ⟨by simp [q1], fun j c z e1 e2 => ?_⟩
        cases j with
        | zero => simp at e1 e2; subst e1; subst e2; exact cvOf_den hs hc (d.2.2 0 x y rfl rfl)
        | succ j => exact q2 j c z (by simpa using e1) (by simpa using e2)
      · cases h
    · cases h
theorem nilRow_den {t : TypeId} {cv : CV U.C U.T} {y : Value} (h : CVDen (Rd U F) w cv y) : CVDen (Rd U F) w (nilRow P Γ t cv) y := by
  unfold nilRow
  split
  · split
    · split
      · rename_i c hc
        obtain ⟨rfl, _⟩ := h
        exact ⟨1, none, 0, 0, rfl, rfl, Nat.le_refl _, by simp [maxLen], fun h => absurd h (by omega)⟩
      · exact h
    · exact h
  · exact h
theorem nilRows_length : ∀ (ts : List TypeId) (cs : List (CV U.C U.T)), (nilRows P Γ ts cs).length = cs.length
  | [], cs => by cases cs <;> rfl
  | t :: ts, [] => rfl
  | t :: ts, x :: xs => by simp [nilRows, nilRows_length ts xs]
theorem nilRows_den : ∀ (ts : List TypeId) (cs : List (CV U.C U.T)) (ys : List Value), CVL U F w cs ys → CVL U F w (nilRows P Γ ts cs) ys
  | [], cs, ys, h => by cases cs <;> exact h
  | t :: ts, [], ys, h => h
  | t :: ts, x :: xs, [], h => by have := h.1; simp at this
  | t :: ts, x :: xs, y :: ys, h => by
    have ih := nilRows_den ts xs ys ⟨by have := h.1; simpa using this, fun j cv z e1 e2 => h.2 (j + 1) cv z (by simpa using e1) (by simpa using e2)⟩
    refine ⟨by rw [nilRows_length]; exact h.1, fun j cv z e1 e2 => ?_⟩
    simp only [nilRows] at e1
    cases j with
    | zero => simp at e1 e2; subst e1; subst e2; exact nilRow_den (h.2 0 x y rfl rfl)
    | succ j => exact ih.2 j cv z (by simpa using e1) (by simpa using e2)
theorem dOf_den (hs : Sim U w0 F0 Fr s.heap s.rows w ν F) {t : TypeId} {x : SV} {d : D U} (h : dOf P Γ s t x = some d) {y : Value} (k : DenSV ν x y) : DDen U F w d y := by
  cases x with
  | one x =>
    simp only [dOf] at h
    split at h
    · rename_i cv hc
      cases h
      have h1 : CVL U F w [cv] [y] := ⟨rfl, fun j c z e1 e2 => by
        cases j with
        | zero => simp at e1 e2; subst e1; subst e2; exact cvOf_den hs hc k
        | succ j => simp at e1⟩
      have h2 := nilRows_den (P := P) (Γ := Γ) (cellTys P 4 t) [cv] [y] h1
      have hl := nilRows_length (P := P) (Γ := Γ) (cellTys P 4 t) [cv]
      obtain ⟨c, hc'⟩ : ∃ c, nilRows P Γ (cellTys P 4 t) [cv] = [c] := by
        cases hh : nilRows P Γ (cellTys P 4 t) [cv] with
        | nil => rw [hh] at hl; simp at hl
        | cons c r => cases r with | nil => exact ⟨c, rfl⟩ | cons _ _ => rw [hh] at hl; simp at hl
      exact ⟨c, hc', h2.2 0 c y (by rw [hc']; rfl) rfl⟩
    · cases h
  | agg l =>
    simp only [dOf] at h
    split at h
    · rename_i cs hc
      cases h
      obtain ⟨arr, rfl, q⟩ := k
      exact ⟨arr, rfl, nilRows_den _ _ _ (cvsOf_den hs l cs hc _ q)⟩
    · cases h
  | tup l => simp [dOf] at h
theorem dsOf_den (hs : Sim U w0 F0 Fr s.heap s.rows w ν F) (ht : TOk ν s.tmps a.tmps) : ∀ (l : List Operand) (ts : List TypeId) (ds : List (D U)), dsOf P Γ s l ts = some ds → ds.length = l.length ∧ ∀ (j : Nat) d v, ds[j]? = some d → (l.map a.eval)[j]? = some v → DDen U F w d v
  | [], ts, ds, h => by
    have h : some [] = some ds := by cases ts <;> exact h
    cases h; exact ⟨rfl, fun j d v e => by simp at e⟩
  | x :: l, [], ds, h => by cases h
  | x :: l, t :: ts, ds, h => by
    simp only [dsOf] at h
    split at h
    · rename_i d hd
      split at h
      · rename_i ds' hds
        cases h
        obtain ⟨q1, q2⟩ := dsOf_den hs ht l ts ds' hds
        refine ⟨by simp [q1], fun j c z e1 e2 => ?_⟩
        cases j with
        | zero => simp at e1 e2; subst e1; subst e2; exact dOf_den hs hd (TOk.ev (defers := a.defers) ht x)
        | succ j => exact q2 j c z (by simpa using e1) (by simpa using e2)
      · cases h
    · cases h

/-- Data as it comes out of a call: its cells. -/
theorem DDen.cells {d : D U} {y : Value} (h : DDen U F w d y) : ∃ ys : List Value, CVL U F w d.cs ys ∧ (d.agg = true → ∃ arr : Array Value, y = .agg arr ∧ arr.toList = ys) ∧ (d.agg = false → ys = [y]) := by
  unfold DDen at h
  cases hg : d.agg with
  | true => rw [hg] at h; obtain ⟨arr, e, q⟩ := h; exact ⟨arr.toList, q, fun _ => ⟨arr, e, rfl⟩, fun e => by cases e⟩
  | false =>
    rw [hg] at h
    obtain ⟨cv, e, q⟩ := h
    refine ⟨[y], ⟨by rw [e]; rfl, fun j c z e1 e2 => ?_⟩, fun e => (by cases e), fun _ => rfl⟩
    rw [e] at e1
    cases j with
    | zero => simp at e1 e2; subst e1; subst e2; exact q
    | succ j => simp at e1

theorem outs_den {kx : Nat} : ∀ (ds : List (D U)) (j : Nat) {x : List (Bool × List Atom)} {rs : List (Nat × Row U)} (ys : List Value) {rows : List (Nat × Row U)} {ν : Nu}, Sim U w0 F0 Fr s.heap rows w ν F → ¬ Fr kx →
    outs kx ds j = (x, rs) → (∀ i, j ≤ i → i < j + rs.length → ν.f (16 * kx + i) = none) → j + rs.length ≤ 16 → ds.length = ys.length → (∀ (i : Nat) d v, ds[i]? = some d → ys[i]? = some v → DDen U F w d v) →
    ∃ ν', ν.le ν' ∧ Sim U w0 F0 Fr s.heap (rs ++ rows) w ν' F ∧ x.length = ys.length ∧ (∀ (i : Nat) c v, x[i]? = some c → ys[i]? = some v → DenC ν' c.1 c.2 v) ∧ (∀ i, i < j ∨ j + rs.length ≤ i → ν'.f (16 * kx + i) = ν.f (16 * kx + i))
  | [], j, x, rs, ys, rows, ν, h, hk, e, hn, hj, hl, hd => by
    cases e
    exact ⟨ν, ν.le_refl, h, hl, fun i c v e => by simp at e, fun _ _ => rfl⟩
  | d :: ds, j, x, rs, ys, rows, ν, h, hk, e, hn, hj, hl, hd => by
    obtain ⟨y, ys, rfl⟩ : ∃ y ys', ys = y :: ys' := by cases ys with | nil => simp at hl | cons y ys' => exact ⟨y, ys', rfl⟩
    unfold outs at e
    cases e1 : atomsOf kx d.cs j with
    | mk as rs1 =>
      simp only [e1] at e
      cases e2 : outs kx ds (j + rs1.length) with
      | mk x2 rs2 =>
        simp only [e2] at e
        cases e
        simp only [List.length_append] at hj hn
        obtain ⟨ν2, a1, a2, a3, a4, a5⟩ := outs_den ds (j + rs1.length) ys h hk e2 (fun i hi hi' => hn i (by omega) (by omega)) (by omega) (by simpa using hl) (fun i d v p q => hd (i + 1) d v (by simpa using p) (by simpa using q))
        obtain ⟨zs, c1, c2, c3⟩ := (hd 0 d y rfl rfl).cells
        obtain ⟨ν3, b1, b2, b3, b4⟩ := Sim.atoms (kx := kx) d.cs j zs a2 hk e1 (fun i hi hi' => (a5 i (.inl hi')).trans (hn i hi (by omega))) (by omega) c1.1 c1.2
        refine ⟨ν3, Nu.le_trans a1 b1, by rw [List.append_assoc]; exact b2, by simp [a3], fun i c v p q => ?_, fun i hi => ?_⟩
        · cases i with
          | zero =>
            simp at p q
            subst p; subst q
            show DenC ν3 d.agg as y
            cases hg : d.agg with
            | true =>
              obtain ⟨arr, e, ea⟩ := c2 hg
              subst e
              rw [← ea] at b3
              exact ⟨arr, rfl, b3⟩
            | false =>
              have := c3 hg
              subst this
              obtain ⟨x1, rfl⟩ : ∃ x1, as = [x1] := by
                have := b3.1
                cases as with
                | nil => simp at this
                | cons x1 r => cases r with | nil => exact ⟨x1, rfl⟩ | cons _ _ => simp at this
              exact ⟨x1, rfl, b3.2.2 0 x1 _ rfl rfl⟩
          | succ i => exact (a4 i c v (by simpa using p) (by simpa using q)).mono b1
        · simp only [List.length_append] at hi
          exact (b4 i (by omega)).trans (a5 i (by omega))

theorem outOf_den {kx : Nat} {out : Out U} {x : SV} {rs : List (Nat × Row U)} {rows : List (Nat × Row U)} {y : Value} (h : Sim U w0 F0 Fr s.heap rows w ν F) (hk : ¬ Fr kx) (hn : ∀ i, i < 16 → ν.f (16 * kx + i) = none) (e : outOf kx out = some (x, rs)) (hj : rs.length ≤ 16)
    (hd : OutDen U F w out y) : ∃ ν', ν.le ν' ∧ Sim U w0 F0 Fr s.heap (rs ++ rows) w ν' F ∧ DenSV ν' x y := by
  cases out with
  | one d =>
    simp only [outOf] at e
    cases e1 : atomsOf kx d.cs 0 with
    | mk as rs1 =>
      simp only [e1] at e
      obtain ⟨zs, c1, c2, c3⟩ := DDen.cells hd
      split at e
      · rename_i hg
        cases e
        obtain ⟨ν3, b1, b2, b3, b4⟩ := Sim.atoms (kx := kx) d.cs 0 zs h hk e1 (fun i hi hi' => hn i (by omega)) (by omega) c1.1 c1.2
        obtain ⟨arr, ea, eb⟩ := c2 hg
        exact ⟨ν3, b1, b2, ⟨arr, ea, by rw [eb]; exact b3⟩⟩
      · rename_i hg
        split at e
        · rename_i a1
          cases e
          obtain ⟨ν3, b1, b2, b3, b4⟩ := Sim.atoms (kx := kx) d.cs 0 zs h hk e1 (fun i hi hi' => hn i (by omega)) (by omega) c1.1 c1.2
          have := c3 hg
          subst this
          exact ⟨ν3, b1, b2, b3.2.2 0 a1 _ rfl rfl⟩
        · cases e
  | tup ds =>
    simp only [outOf] at e
    cases e1 : outs kx ds 0 with
    | mk x1 rs1 =>
      simp only [e1] at e
      cases e
      obtain ⟨arr, ea, el, ed⟩ := hd
      obtain ⟨ν2, a1, a2, a3, a4, a5⟩ := outs_den ds 0 arr.toList h hk e1 (fun i hi hi' => hn i (by omega)) (by omega) (by simpa using el) (fun i d v p q => ed i d v p (by simpa using q))
      exact ⟨ν2, a1, a2, arr, ea, by simpa using a3, fun i c v p q => a4 i c v p (by simpa using q)⟩

theorem resolve_func {n : Nat} {c : Call} (hc : c.callee = .value (.func n)) (t : TypeId) (w : World) : (resolve a.eval c t).run P w = .ok { target := .fn (.func n) #[], args := c.args.map a.eval } w := by
  simp [resolve, hc, Act.eval, Deferred.ofValue]

theorem callFunc_run {n : Nat} (h : callable P n = true) (args : Array Value) (w : World) : (callFunc n args).run P w = .ok (.enter n args) w := by
  unfold callable at h
  split at h
  · rename_i fn hf
    simp only [Bool.and_eq_true, Bool.not_eq_true', beq_eq_false_iff_ne, ne_eq] at h
    obtain ⟨h1, h2⟩ := h
    have h3 : fn.body.isNone = false := by cases hb : fn.body <;> simp_all
    simp [callFunc, hf, h1, h3]
    intro hb
    rw [hb] at h2
    cases h2
  · cases h

theorem op_call (hs : Sim U w0 F0 Fr s.heap s.rows w ν F) (hk : Fr kx) (ht : TOk ν s.tmps a.tmps) {G : World → Prop} (hG : G w) (hΓ : COk P U G Γ) {c : Call} {n : Nat} (hop : o.op = .call c) (hc : c.callee = .value (.func n))
    (h : rval P Γ s kx o = some r) (ho : obOK r.ob) : Fin P o a w (Post U w0 F0 Fr ν kx s r.v r.u) := by
  simp only [rval, hop, hc] at h
  split at h
  · rename_i g hg
    split at h
    · rename_i ds hds
      split at h
      · rename_i r1 hr1
        split at h
        · rename_i v rs hout
          split at h
          · rename_i h16
            cases h
            obtain ⟨hcall, hcon⟩ := hΓ.con n g hg
            obtain ⟨q1, q2⟩ := dsOf_den (a := a) hs ht c.args.toList c.argTypes.toList ds hds
            refine Fin.call (f := n) (args := c.args.map a.eval) (w' := w) ?_ ?_
            · simp only [execOp, hop, Sem.run_bind, resolve_func hc, Result.andThen_ok, invoke]
              simp only [Array.append_empty]
              exact callFunc_run hcall _ w
            · refine (hcon ds r1 hr1 ho w F (c.args.map a.eval) hG hs.lt (by simp [q1]) (fun j d v e1 e2 => q2 j d v e1 (by simpa [← Array.getElem?_toList] using e2))).mono ?_
              rintro e w' ⟨y, rfl, F', hb, f1, f2, f3, hd⟩
              refine ⟨y, rfl, ?_⟩
              have hs' : Sim U w0 F0 (fun k => Fr k ∧ k ≠ kx) s.heap s.rows w' ν F' := (hs.grow hb f1 f2 f3).fr fun _ h => h.1
              obtain ⟨ν', a1, a2, a3⟩ := outOf_den (s := s) hs' (fun h => h.2 rfl) (fun i hi => (hs.free kx hk).2 i hi) hout h16 hd
              refine ⟨ν', F', a1, ?_, a3⟩
              cases rs with
              | nil => exact a2
              | cons x rs => exact a2
          · cases h
        · cases h
      · cases h
    · cases h
  · cases h

/-! ### Cuts, and slices that are written out -/
theorem bnd_den (ht : TOk ν s.tmps a.tmps) {x : Option Operand} {l : Option Int} (h : bnd s x = some l) :
    (l = none ∧ x = none) ∨ ∃ k kd y, l = some k ∧ x = some y ∧ a.eval y = .int kd k := by
  cases x with
  | none => cases h; exact .inl ⟨rfl, rfl⟩
  | some y =>
    have hy := TOk.ev (defers := a.defers) ht y
    simp only [bnd] at h
    split at h
    · rename_i kd k e
      cases h
      rw [e] at hy
      exact .inr ⟨k, kd, y, rfl, rfl, hy⟩
    · cases h
theorem Rd.cut {A : Option Addr} {n cap : Nat} {c : U.C} {l : List (U.T c)} (h : Rd U F w (.slice A n cap) c l) (lo hi : Nat) (h1 : lo ≤ hi) (h2 : hi ≤ n) : Rd U F w (sliced A lo hi cap (U.size c)) c ((l.take hi).drop lo) := by
  obtain ⟨d, h⟩ := h
  cases d with
  | zero => exact h.elim
  | succ d =>
    obtain ⟨A', n', cap', e1, e2, e3, e4, h⟩ := h
    cases e1
    refine ⟨d + 1, _, hi - lo, cap - lo, rfl, by simp; omega, by omega, by omega, fun hn => ?_⟩
    obtain ⟨ad, ea, es, h5⟩ := h (by omega)
    subst ea
    obtain ⟨b, off, sp⟩ := ad
    cases es
    refine ⟨⟨b, off + lo * U.size c, none⟩, ?_, rfl, fun i hi' j cv hcv => ?_⟩
    · rw [if_neg (by omega)]
      show Option.some (Addr.add ⟨b, off, Option.none⟩ (lo * U.size c)) = _
      rw [add_at]
    · have hlen : i < hi - lo := by simp at hi'; omega
      have hlt : lo + i < l.length := by omega
      have hget : ((l.take hi).drop lo)[i] = l[lo + i] := by simp
      rw [hget] at hcv
      have q := h5 (lo + i) hlt j cv hcv
      have eo : off + ((lo + i) * U.size c + j) = off + lo * U.size c + (i * U.size c + j) := by rw [Nat.add_mul]; omega
      simp only [eo] at q
      exact q
/-- The cut of a slice of the call's own is the call's own. -/
theorem Owned.cut {A : Option Addr} {n cap : Nat} {c : U.C} (h : Owned U w0 w F (.slice A n cap) c n) (lo : Nat) (h1 : lo ≤ n) (hz : n ≤ cap) :
    Owned U w0 w F (sliced A lo n cap (U.size c)) c (n - lo) ∧ ∀ b, (sliced A lo n cap (U.size c)).ownBlock = some b → (Value.slice A n cap).ownBlock = some b := by
  rcases h with ⟨h0, hn⟩ | ⟨g, off, cap', e, cur, fz, hv, hb, hg, hf, hnc, hcm, hcs, hF⟩
  · cases h0
    have : lo = 0 := by omega
    subst this
    exact ⟨.inl ⟨rfl, rfl⟩, fun b hb => hb⟩
  · cases hv
    by_cases c0 : cap = lo
    · refine ⟨.inr ⟨g, off, 0, e, cur, fz, ?_, hb, hg, hf, by omega, by simp [maxLen], ?_, fun o ho ho2 => ?_⟩, fun b hb => ?_⟩
      · simp only [sliced, if_pos c0]
        subst c0
        rw [Nat.sub_self]
      · rw [Nat.zero_mul]
        exact Nat.le_trans (Nat.add_le_add_left (Nat.zero_le _) _) hcs
      · rw [Nat.zero_mul] at ho2
        have := Nat.le_add_right off ((n - lo) * U.size c)
        omega
      · simp only [sliced, if_pos c0] at hb
        cases hb; rfl
    · have e1 : lo * U.size c + (cap - lo) * U.size c = cap * U.size c := by rw [← Nat.add_mul]; congr 1; omega
      have e2 : lo * U.size c + (n - lo) * U.size c = n * U.size c := by rw [← Nat.add_mul]; congr 1; omega
      refine ⟨.inr ⟨g, off + lo * U.size c, cap - lo, e, cur, fz, ?_, hb, hg, hf, by omega, by omega, by omega, fun o ho ho2 => hF o (by omega) (by omega)⟩, fun b hb => ?_⟩
      · simp only [sliced, if_neg c0]
        show Value.slice (some (Addr.add ⟨g, off, none⟩ (lo * U.size c))) _ _ = _
        rw [add_at]
      · simp only [sliced, if_neg c0] at hb
        rw [show Option.map (fun x : Addr => x.add (lo * U.size c)) (some ⟨g, off, none⟩) = some ⟨g, off + lo * U.size c, none⟩ from congrArg some (add_at ..)] at hb
        cases hb; rfl
/-- The tail of a slice of the call's own takes its place. -/
theorem op_tail (hs : Sim U w0 F0 Fr s.heap s.rows w ν F) (hk : Fr kx) (ht : TOk ν s.tmps a.tmps) {t e : TypeId} {x lo : Operand} (hop : o.op = .slice t x (some lo) none none) (hu : P.underlying t = some (.slice e)) {fid : Nat} {kd : IntKind} {k : Int} (e1 : s.ev x = .one (.sl fid)) (e2 : s.ev lo = .one (.v (.int kd k)))
    {rw_ : Row U} {z : Nat} (hl : look fid s.rows = some rw_) (hz : tySize P (P.elem t) = some z) (ho : rw_.own = true) (hzc : z = U.size rw_.c) (hb : 0 ≤ k ∧ k ≤ (rw_.l.length : Int)) :
    Fin P o a w (Post U w0 F0 Fr ν kx s (.one (.sl (16 * kx))) (.grow fid [(16 * kx, ⟨rw_.c, rw_.l.drop k.toNat, true⟩)])) := by
  have hx := TOk.ev (defers := a.defers) ht x
  rw [e1] at hx
  have hlo := TOk.ev (defers := a.defers) ht lo
  rw [e2] at hlo
  have hlo : a.eval lo = .int kd k := hlo
  obtain ⟨v, hv, hrd, hown⟩ := hs.row _ _ hl
  have ev : a.eval x = v := by
    have hd : Den ν (.sl fid) (a.eval x) := hx
    have := hd.1; rw [hv] at this; exact (Option.some.inj this).symm
  obtain ⟨A, n, cap, rfl, hn⟩ := hrd.slice
  have hnc : n ≤ cap := by
    obtain ⟨d, q⟩ := hrd
    cases d with
    | zero => exact q.elim
    | succ d => obtain ⟨_, _, _, q1, _, q2, _⟩ := q; cases q1; exact q2
  have hel : P.elem t = e := by simp [Program.elem, hu]
  have hu' : P.underlying t = some (.slice (P.elem t)) := by rw [hel]; exact hu
  have hsz : (sizeOf (P.elem t)).run P w = .ok z w := run_sizeOf hz w
  have hrd' := hrd.cut k.toNat n (by omega) (Nat.le_refl _)
  have hO := hown ho
  rw [hn] at hO
  obtain ⟨o1, o2⟩ := hO.cut k.toNat (by omega) hnc
  rw [show (rw_.l.take n).drop k.toNat = rw_.l.drop k.toNat by rw [← hn, List.take_length]] at hrd'
  rw [← hzc] at hrd' o1 o2
  have hn0 : ν.f (16 * kx) = none := by have := (hs.free kx hk).2 0 (by omega); simpa using this
  refine Fin.value (w' := w) (y := sliced A k.toNat n cap z) ?_ ⟨ν.setF (16 * kx) (sliced A k.toNat n cap z), F, Nu.le_setF hn0, ?_, ?_⟩
  · simp only [execOp, hop, ev, Option.map_none, Option.map_some, hlo]
    refine run_op ?_ _
    rw [run_sliceAt_slice w t _ _ _ _ hu', run_slice_l w t A n cap hu' kd k hb.1 (by omega), hsz]; rfl
  · refine ((hs.disown fid).fr (Fr' := fun k => Fr k ∧ k ≠ kx) fun _ h => h.1).addRow' hn0 (fun k j hk' hj e => hk'.2 (by omega)) hrd' (own := true) fun _ => ⟨?_, fun b hb => ⟨fun id hid hb2 => hs.apart fid _ _ id b hl ho hv hid hb2 (o2 b hb), fun fid' r' v' c1 c2 c3 c4 => ?_, fun x hx => (by
        cases hc : isC x with
        | false => rfl
        | true => exact absurd (o2 b hb) ((hs.hx b x hx hc).2.2 fid _ _ hl ho hv))⟩⟩
    · rw [List.length_drop, hn]; exact o1
    · rw [look_disown] at c1
      cases hh : look fid' s.rows with
      | none => rw [hh] at c1; cases c1
      | some r0 =>
        rw [hh, Option.map_some] at c1
        by_cases cf : fid' = fid
        · rw [if_pos cf] at c1; cases c1; cases c2
        · rw [if_neg cf] at c1; cases c1
          exact cf (hs.apart2 fid _ _ fid' _ v' b hl ho hv hh c2 c3 (o2 b hb) c4).symm
  · exact ⟨if_pos rfl, hrd'.oneV⟩
theorem op_slice (hs : Sim U w0 F0 Fr s.heap s.rows w ν F) (hk : Fr kx) (ht : TOk ν s.tmps a.tmps) {t : TypeId} {x : Operand} {lo hi mx : Option Operand} (hop : o.op = .slice t x lo hi mx) (h : rval P Γ s kx o = some r) (ho : obOK r.ob) : Fin P o a w (Post U w0 F0 Fr ν kx s r.v r.u) := by
  cases mx with
  | some m => simp [rval, hop] at h
  | none =>
    simp only [rval, hop] at h
    have hx := TOk.ev (defers := a.defers) ht x
    split at h
    · rename_i b l hh hu e1 e2 e3
      rw [e1] at hx
      have ex : a.eval x = .string b := hx
      cases h
      rcases bnd_den (a := a) ht e2 with ⟨rfl, rfl⟩ | ⟨kl, kdl, yl, rfl, rfl, el⟩ <;> rcases bnd_den (a := a) ht e3 with ⟨rfl, rfl⟩ | ⟨kh, kdh, yh, rfl, rfl, eh⟩
      · refine fin_pure hs (y := .string (b.extract 0 b.size)) ?_ rfl
        simp only [execOp, hop, ex, Option.map_none]
        exact run_op (by rw [run_sliceAt_string w t _ _ _ _ hu, run_slice_string_all w t b hu]) _
      · have ho : 0 ≤ kh ∧ kh ≤ (b.size : Int) := ho
        refine fin_pure hs (y := .string (b.extract 0 kh.toNat)) ?_ rfl
        simp only [execOp, hop, ex, Option.map_none, Option.map_some, eh]
        exact run_op (by rw [run_sliceAt_string w t _ _ _ _ hu, run_slice_string_h w t b hu kdh kh ho.1 ho.2]) _
      · have ho : 0 ≤ kl ∧ kl ≤ (b.size : Int) := ho
        refine fin_pure hs (y := .string (b.extract kl.toNat b.size)) ?_ rfl
        simp only [execOp, hop, ex, Option.map_none, Option.map_some, el]
        exact run_op (by rw [run_sliceAt_string w t _ _ _ _ hu, run_slice_string_l w t b hu kdl kl ho.1 ho.2]) _
      · have ho : 0 ≤ kl ∧ kl ≤ kh ∧ kh ≤ (b.size : Int) := ho
        refine fin_pure hs (y := .string (b.extract kl.toNat kh.toNat)) ?_ rfl
        simp only [execOp, hop, ex, Option.map_none, Option.map_some, el, eh]
        exact run_op (by rw [run_sliceAt_string w t _ _ _ _ hu, run_slice_string w t b kdl kdh kl kh hu ho.1 ho.2.1 ho.2.2]) _
    · rename_i n e id off hu e1 e2 e3
      rw [e1] at hx
      obtain ⟨b, eb, ex⟩ := hx
      split at h
      · rename_i hz
        cases h
        have hlo : lo = none := by rcases bnd_den (a := a) ht e2 with ⟨_, q⟩ | ⟨kl, kdl, yl, q, _, _⟩; exact q; cases q
        have hhi : hi = none := by rcases bnd_den (a := a) ht e3 with ⟨_, q⟩ | ⟨kl, kdl, yl, q, _, _⟩; exact q; cases q
        subst hlo; subst hhi
        refine fin_pure hs (y := .slice (some ⟨b, off, none⟩) n n) ?_ ⟨b, eb, rfl⟩
        simp only [execOp, hop, ex, Option.map_none]
        refine run_op (y := Value.slice (some ⟨b, off, none⟩) n n) ?_ Next.value
        simp [Instr.sliceAt, run_underlying hu, Instr.sureAddr, Instr.sliceBounds, run_sizeOf hz, add_at]
      · cases h
    · rename_i e fid l hh hu e1 e2 e3
      rw [e1] at hx
      split at h
      · rename_i rw_ z hl hz
        by_cases hzc : z = U.size rw_.c
        · simp only [if_pos hzc] at h
          cases h
          obtain ⟨v, hv, hrd, _⟩ := hs.row _ _ hl
          have ev : a.eval x = v := by
            have hd : Den ν (.sl fid) (a.eval x) := hx
            have := hd.1; rw [hv] at this; exact (Option.some.inj this).symm
          obtain ⟨A, n, cap, rfl, hn⟩ := hrd.slice
          have hnc : n ≤ cap := by
            obtain ⟨d, q⟩ := hrd
            cases d with
            | zero => exact q.elim
            | succ d => obtain ⟨_, _, _, q1, _, q2, _⟩ := q; cases q1; exact q2
          have hel : P.elem t = e := by simp [Program.elem, hu]
          have hu' : P.underlying t = some (.slice (P.elem t)) := by rw [hel]; exact hu
          have hsz : (sizeOf (P.elem t)).run P w = .ok z w := by rw [hel]; exact run_sizeOf hz w
          have fin : ∀ (lo' hi' : Nat) (l' : List (U.T rw_.c)), lo' ≤ hi' → hi' ≤ n → l' = (rw_.l.take hi').drop lo' →
              (Instr.sliceAt t (.slice A n cap) (lo.map a.eval) (hi.map a.eval) none).run P w = .ok (sliced A lo' hi' cap z) w →
              Fin P o a w (Post U w0 F0 Fr ν kx s (.one (.sl (16 * kx))) (.rows [(16 * kx, ⟨rw_.c, l', false⟩)])) := by
            intro lo' hi' l' g1 g2 g3 g4
            subst g3
            have hrd' := hrd.cut lo' hi' g1 g2
            rw [← hzc] at hrd'
            have hn0 : ν.f (16 * kx) = none := by have := (hs.free kx hk).2 0 (by omega); simpa using this
            refine Fin.value (w' := w) (y := sliced A lo' hi' cap z) ?_ ⟨ν.setF (16 * kx) (sliced A lo' hi' cap z), F, Nu.le_setF hn0, ?_, ?_⟩
            · simp only [execOp, hop, ev, Option.map_none]
              exact run_op g4 _
            · exact (hs.fr (Fr' := fun k => Fr k ∧ k ≠ kx) fun _ h => h.1).addRow hn0 (fun k j hk' hj e => hk'.2 (by omega)) hrd'
            · exact ⟨if_pos rfl, hrd'.oneV⟩
          rcases bnd_den (a := a) ht e2 with ⟨rfl, rfl⟩ | ⟨kl, kdl, yl, rfl, rfl, el⟩ <;> rcases bnd_den (a := a) ht e3 with ⟨rfl, rfl⟩ | ⟨kh, kdh, yh, rfl, rfl, eh⟩
          · refine fin 0 n _ (by omega) (by omega) (by simp [cutL, ← hn]) ?_
            simp only [Option.map_none]
            rw [run_sliceAt_slice w t _ _ _ _ hu', run_slice_all w t A n cap hu', hsz]; rfl
          · have ho : 0 ≤ kh ∧ kh ≤ (rw_.l.length : Int) := ho
            refine fin 0 kh.toNat _ (by omega) (by omega) (by simp [cutL]) ?_
            simp only [Option.map_none, Option.map_some, eh]
            rw [run_sliceAt_slice w t _ _ _ _ hu', run_slice_h w t A n cap hu' kdh kh ho.1 (by omega), hsz]; rfl
          · have ho : 0 ≤ kl ∧ kl ≤ (rw_.l.length : Int) := ho
            refine fin kl.toNat n _ (by omega) (by omega) (by simp [cutL, ← hn]) ?_
            simp only [Option.map_none, Option.map_some, el]
            rw [run_sliceAt_slice w t _ _ _ _ hu', run_slice_l w t A n cap hu' kdl kl ho.1 (by omega), hsz]; rfl
          · have ho : 0 ≤ kl ∧ kl ≤ kh ∧ kh ≤ (rw_.l.length : Int) := ho
            refine fin kl.toNat kh.toNat _ (by omega) (by omega) (by simp [cutL]) ?_
            simp only [Option.map_none, Option.map_some, el, eh]
            rw [run_sliceAt_slice w t _ _ _ _ hu', run_slice_lh w t A n cap hu' kdl kdh kl kh ho.1 ho.2.1 (by omega), hsz]; rfl
        · simp only [if_neg hzc] at h; cases h
      · cases h
    · cases h

theorem repA_length (z : List Atom) (n : Nat) : (repA z n).length = n * z.length := by
  induction n with
  | zero => simp [repA]
  | succ n ih => rw [repA, List.length_append, ih, Nat.succ_mul, Nat.add_comm]
theorem repA_get (z : List Atom) (hz : 0 < z.length) : ∀ (n j : Nat), j < n * z.length → (repA z n)[j]? = z[j % z.length]? := by
  intro n
  induction n with
  | zero => intro j h; omega
  | succ n ih =>
    intro j h
    rw [repA]
    rw [Nat.succ_mul] at h
    by_cases hj : j < z.length
    · rw [List.getElem?_append_left hj, Nat.mod_eq_of_lt hj]
    · rw [List.getElem?_append_right (by omega), ih _ (by omega)]
      congr 1
      exact (Nat.mod_eq_sub_mod (by omega)).symm
theorem elemsOf_get (c : U.C) (z : Nat) : ∀ (n : Nat) (cvs : List (CV U.C U.T)) (l : List (U.T c)), elemsOf c z n cvs = some l → l.length = n ∧ ∀ i (hi : i < l.length), U.enc c l[i] = (cvs.drop (i * z)).take z := by
  intro n
  induction n with
  | zero => intro cvs l h; cases h; exact ⟨rfl, fun i hi => absurd hi (Nat.not_lt_zero _)⟩
  | succ n ih =>
    intro cvs l h
    rw [elemsOf] at h
    split at h
    · rename_i x hx
      split at h
      · rename_i r hr
        cases h
        obtain ⟨q1, q2⟩ := ih _ _ hr
        refine ⟨by simp [q1], fun i hi => ?_⟩
        cases i with
        | zero => simpa using U.backEnc c _ x hx
        | succ i =>
          have := q2 i (by simpa using hi)
          simp only [List.getElem_cons_succ]
          rw [this, List.drop_drop, Nat.succ_mul, Nat.add_comm z]
      · cases h
    · cases h
theorem Reads.le {d d' : Nat} (h : d ≤ d') {v : Value} {c : U.C} {l : List (U.T c)} (k : Reads U F d w v c l) : Reads U F d' w v c l := by
  induction d' with
  | zero => have : d = 0 := by omega
            subst this; exact k
  | succ d' ih =>
    by_cases e : d = d' + 1
    · subst e; exact k
    · exact (ih (by omega)).up
theorem CVL.depth : ∀ (cs : List (CV U.C U.T)) (ys : List Value), CVL U F w cs ys → ∃ d, ∀ (j : Nat) cv y, cs[j]? = some cv → ys[j]? = some y → CVDen (Reads U F d) w cv y := by
  intro cs
  induction cs with
  | nil => intro ys _; exact ⟨0, fun j cv y e => by simp at e⟩
  | cons c cs ih =>
    intro ys h
    cases ys with
    | nil => exact ⟨0, fun j cv y e1 e2 => by simp at e2⟩
    | cons y ys =>
      obtain ⟨d, hd⟩ := ih ys ⟨by have := h.1; simpa using this, fun j cv z e1 e2 => h.2 (j + 1) cv z (by simpa using e1) (by simpa using e2)⟩
      have h0 := h.2 0 c y rfl rfl
      cases c with
      | v x =>
        refine ⟨d, fun j cv z e1 e2 => ?_⟩
        cases j with
        | zero => simp at e1 e2; subst e1; subst e2; exact h0
        | succ j => exact hd j cv z (by simpa using e1) (by simpa using e2)
      | sl c0 l0 =>
        obtain ⟨d0, q0⟩ := h0
        refine ⟨d + d0, fun j cv z e1 e2 => ?_⟩
        cases j with
        | zero => simp at e1 e2; subst e1; subst e2; exact Reads.le (by omega) q0
        | succ j =>
          have := hd j cv z (by simpa using e1) (by simpa using e2)
          cases cv with
          | v x => exact this
          | sl c1 l1 => exact Reads.le (by omega) this
theorem fill_size {place : Nat → Option (Nat × Nat)} : ∀ (ps : List (Nat × Value)) (arr cells : Array Value) (_ : True), Instr.fill place arr ps = some cells → cells.size = arr.size
  | [], arr, cells, _, h => by simp only [Instr.fill, Option.some.injEq] at h; rw [h]
  | (i, v) :: ps, arr, cells, _, h => by
    simp only [Instr.fill] at h
    split at h
    · cases h
    · rename_i off size hp
      split at h
      · cases h
      · rename_i hc
        rw [fill_size ps _ _ trivial h, foldl_arr]
        simp only [Bool.or_eq_true, decide_eq_true_eq, not_or, bne_iff_ne, ne_eq] at hc
        exact (foldl_set off v.cells.toList 0 arr (by simp at hc ⊢; omega)).1
theorem op_buildSlice (hs : Sim U w0 F0 Fr s.heap s.rows w ν F) (hk : Fr kx) (ht : TOk ν s.tmps a.tmps) {t : TypeId} {len : Nat} {parts : Array (Nat × Operand)} (hop : o.op = .buildSlice t len parts) (h : rval P Γ s kx o = some r) : Fin P o a w (Post U w0 F0 Fr ν kx s r.v r.u) := by
  cases len with
  | zero => exact op_buildNone hs hk ht hop h
  | succ len0 =>
  simp only [rval, hop] at h
  generalize hL : len0 + 1 = len at h hop
  split at h
  · rename_i e hu
    split at h
    · rename_i c z zs ps hc hz hzs hps
      split at h
      · rename_i hcond
        obtain ⟨k1, k2, k3, k4⟩ := hcond
        split at h
        · rename_i cs hf
          split at h
          · rename_i cvs hcv
            split at h
            · rename_i l hel
              cases h
              -- the type's row
              obtain ⟨ie, hie, hsz⟩ := Option.map_eq_some_iff.mp hz
              unfold zeroAtoms at hzs
              rw [hie] at hzs
              simp only at hzs
              split at hzs
              · rename_i zv hzv
                by_cases hall : zv.cells.toList.all oneV = true
                · rw [if_pos hall] at hzs
                  cases hzs
                  have hzl : zv.cells.size = z := by simpa using k4
                  have hpos : 0 < z := by
                    rcases Nat.eq_zero_or_pos z with e0 | e0
                    · subst e0; simp at k2
                    · exact e0
                  obtain ⟨p1, p2⟩ := parts_den (a := a) ht parts.toList ps hps
                  have hzd : DenL ν (repA (zv.cells.toList.map Atom.v) len) ((Array.range (len * z)).map (zv.cells[· % zv.cells.size]!)).toList := by
                    refine ⟨by rw [repA_length]; simp [hzl], fun v hv => ?_, fun j x y e1 e2 => ?_⟩
                    · simp only [Array.toList_map, List.mem_map] at hv
                      obtain ⟨i, _, rfl⟩ := hv
                      have hlt : i % zv.cells.size < zv.cells.size := Nat.mod_lt _ (by omega)
                      rw [getElem!_pos zv.cells _ hlt]
                      exact List.all_eq_true.mp hall _ (by simp)
                    · have hj : j < len * z := by
                        have := (List.getElem?_eq_some_iff.mp e2).1
                        simpa using this
                      rw [repA_get _ (by simp; omega) _ _ (by simpa [hzl] using hj)] at e1
                      simp only [List.length_map, Array.length_toList, List.getElem?_map] at e1
                      have hlt : j % zv.cells.size < zv.cells.size := Nat.mod_lt _ (by omega)
                      simp only [Array.getElem?_toList, Array.getElem?_eq_getElem hlt, Option.map_some, Option.some.injEq] at e1
                      subst e1
                      simp only [Array.getElem?_toList, Array.getElem?_map] at e2
                      rw [Array.getElem?_eq_getElem (by simpa using hj)] at e2
                      simp only [Array.getElem_range, Option.map_some, Option.some.injEq] at e2
                      rw [getElem!_pos zv.cells (j % zv.cells.size) hlt] at e2
                      exact e2.symm
                  obtain ⟨cells, c1, c2⟩ := fill_den (place' := fun i => some (i * z, z)) (fun i x e => e) ps (parts.toList.map fun (i, x) => (i, a.eval x)) _ cs _ hf hzd (by simp [p1]) p2
                  have hrun := run_buildSlice (P := P) w t e len (parts.map fun (i, x) => (i, a.eval x)) cells ie zv hu hie hzv (by rw [hsz]; omega) (by rw [hsz]; omega) (by rw [hsz, Array.toList_map]; exact c1)
                  -- the new block
                  have hcsz : cells.size = len * U.size c := by rw [← k1, fill_size _ _ _ trivial c1]; simp
                  have hcvl : CVL U F w cvs cells.toList := cvsOf_den hs cs cvs hcv _ c2
                  obtain ⟨d, hd⟩ := hcvl.depth
                  obtain ⟨g1, g2⟩ := elemsOf_get c z len cvs l hel
                  have hcl : len ≤ maxLen := by
                    have : len ≤ len * z := Nat.le_mul_of_pos_right _ hpos
                    have : (16777216 : Nat) ≤ maxLen := by decide
                    omega
                  obtain ⟨ν', F', b1, b2, b3⟩ := newOwn (own := true) (fz := (0, 0)) hs hk (c := c) (l := l) (cells := cells) (e := e) (cap := len) (w1 := w) (fun _ => NoFz.zero _) rfl (Below.refl _ _) hcsz (by omega) hcl ⟨d, fun i hi j cv hcv => by
                    rw [g2 i hi, getElem?_drop_take] at hcv
                    split at hcv
                    · have hlt : i * z + j < cells.toList.length := by rw [← hcvl.1]; exact (List.getElem?_eq_some_iff.mp hcv).1
                      refine ⟨cells.toList[i * z + j], ?_, hd _ _ _ hcv (List.getElem?_eq_getElem hlt)⟩
                      rw [← k1, ← Array.getElem?_toList]
                      exact List.getElem?_eq_getElem hlt
                    · cases hcv⟩
                  refine Fin.value (w' := w.alloc (.cells cells e)) (y := .slice (some ⟨w.heap.size, 0, none⟩) len len) ?_ ⟨ν', F', b1, b2, by rw [g1] at b3; exact b3⟩
                  simp only [execOp, hop]
                  exact run_op hrun _
                · rw [if_neg hall] at hzs; cases hzs
              · cases hzs
            · cases h
          · cases h
        · cases h
      · cases h
    · rename_i z0 ps hc hz hzs hps
      split at h
      · rename_i hcond
        obtain ⟨k2, k3⟩ := hcond
        split at h
        · rename_i cs hf
          cases h
          obtain ⟨ie, hie, hsz⟩ := Option.map_eq_some_iff.mp hz
          unfold zeroAtoms at hzs
          rw [hie] at hzs
          simp only at hzs
          split at hzs
          · rename_i zv hzv
            by_cases hall : zv.cells.toList.all oneV = true
            · rw [if_pos hall] at hzs
              have hzs : zv.cells.toList.map Atom.v = [z0] := Option.some.inj hzs
              have hzl : zv.cells.size = 1 := by
                have := congrArg List.length hzs
                simpa using this
              obtain ⟨p1, p2⟩ := parts_den (a := a) ht parts.toList ps hps
              have hzd : DenL ν (repA [z0] len) ((Array.range (len * 1)).map (zv.cells[· % zv.cells.size]!)).toList := by
                rw [← hzs]
                refine ⟨by rw [repA_length]; simp [hzl], fun v hv => ?_, fun j x y e1 e2 => ?_⟩
                · simp only [Array.toList_map, List.mem_map] at hv
                  obtain ⟨i, _, rfl⟩ := hv
                  have hlt : i % zv.cells.size < zv.cells.size := Nat.mod_lt _ (by omega)
                  rw [getElem!_pos zv.cells _ hlt]
                  exact List.all_eq_true.mp hall _ (by simp)
                · have hj : j < len * 1 := by
                    have := (List.getElem?_eq_some_iff.mp e2).1
                    simpa using this
                  rw [repA_get _ (by simp; omega) _ _ (by simpa [hzl] using hj)] at e1
                  simp only [List.length_map, Array.length_toList, List.getElem?_map] at e1
                  have hlt : j % zv.cells.size < zv.cells.size := Nat.mod_lt _ (by omega)
                  simp only [Array.getElem?_toList, Array.getElem?_eq_getElem hlt, Option.map_some, Option.some.injEq] at e1
                  subst e1
                  simp only [Array.getElem?_toList, Array.getElem?_map] at e2
                  rw [Array.getElem?_eq_getElem (by simpa using hj)] at e2
                  simp only [Array.getElem_range, Option.map_some, Option.some.injEq] at e2
                  rw [getElem!_pos zv.cells (j % zv.cells.size) hlt] at e2
                  exact e2.symm
              obtain ⟨cells, c1, c2⟩ := fill_den (place' := fun i => some (i * 1, 1)) (fun i x e => e) ps (parts.toList.map fun (i, x) => (i, a.eval x)) _ cs _ hf hzd (by simp [p1]) p2
              have hrun := run_buildSlice (P := P) w t e len (parts.map fun (i, x) => (i, a.eval x)) cells ie zv hu hie hzv (by rw [hsz]; omega) (by rw [hsz]; omega) (by rw [hsz, Array.toList_map]; exact c1)
              have hn := (hs.free kx hk).1
              refine Fin.value (w' := w.alloc (.cells cells e)) (y := .slice (some ⟨w.heap.size, 0, none⟩) len len) ?_ ⟨ν.setB kx w.heap.size, F, Nu.le_setB hn, hs.alloc hk c2, w.heap.size, if_pos rfl, rfl⟩
              simp only [execOp, hop]
              exact run_op hrun _
            · rw [if_neg hall] at hzs; cases hzs
          · cases hzs
        · cases h
      · cases h
    · cases h
  · cases h

/-- Every operation that is told does what is told of it. -/
theorem rval_sound (h : rval P Γ s kx o = some r) (ho : obOK r.ob) (hs : Sim U w0 F0 Fr s.heap s.rows w ν F) (hrk : RecsOk ν s.recs) (hk : Fr kx) (ht : TOk ν s.tmps a.tmps) {G : World → Prop} (hG : G w) (hΓ : COk P U G Γ) : Fin P o a w (Post U w0 F0 Fr ν kx s r.v r.u) := by
  cases hop : o.op with
  | move x => exact op_move x (.inl hop) h hs ht
  | assign x => exact op_move x (.inr hop) h hs ht
  | pick c x y => exact op_pick c x y hop h hs ht
  | alloc t => exact op_alloc hs hk ht hop h
  | box t x => exact op_box hs hk ht hop h
  | build t ps => exact op_build hs ht hop h
  | load t x => exact op_load hs hrk hk ht hG hΓ.gl hop h
  | store t x y => exact op_store hs hk ht hop h
  | binOp op t x y t2 => exact op_binOp hs ht hop h ho
  | unOp op t x => exact op_unOp hs ht hop h
  | convert t t2 x => exact op_convert hs hk ht hop h ho
  | fieldAddr t x f => exact op_fieldAddr hs hk ht hop h
  | field t x f => exact op_field hs ht hop h
  | indexAddr t x i => exact op_indexAddr hs hrk ht hop h ho
  | index t x i => exact op_index hs ht hop h ho
  | extract x i => exact op_extract hs ht hop h
  | slice t x lo hi mx => exact op_slice hs hk ht hop h ho
  | buildSlice t len ps => exact op_buildSlice hs hk ht hop h
  | nilCheck x => exact op_nilCheck hs ht hop h
  | makeFunc fn first caps => exact op_makeFunc hs ht hop h
  | makeSlice t l c => exact op_makeSlice hs hk ht hop h ho
  | call c =>
    cases hc : c.callee with
    | value f =>
      cases f with
      | func n => exact op_call hs hk ht hG hΓ hop hc h ho
      | _ => simp [rval, hop, hc] at h
    | invoke x m => simp [rval, hop, hc] at h
    | builtin b =>
      cases b with
      | len => exact op_len hs hrk ht hop hc h
      | append => exact op_append hs hk ht hop hc h ho
      | min => exact op_min hs ht hop hc h
      | max => exact op_max hs ht hop hc h
      | complex => exact op_complex hs ht hop hc h
      | real => exact op_real hs ht hop hc h
      | imag => exact op_imag hs ht hop hc h
      | _ => simp [rval, hop, hc] at h
  | _ => simp [rval, hop] at h
end
end Go.RX

/- Symbolic runs of Go functions: rows that are written in. -/
namespace Go.RX
open Go.RowKit
set_option linter.unusedSimpArgs false
set_option linter.unusedVariables false

section
variable {P : Program} {U : Uni} {Γ : Con U} {w0 w : World} {F0 : Nat → Nat → Prop} {s : St U} {Fr : Nat → Prop} {heap : List (Nat × TypeId × List Atom)} {rows : List (Nat × Row U)} {ν ν' : Nu} {F : Nat → Nat → Prop} {a : Act} {o : Oper}

/-! ### Blocks and rows alone -/
def Nu.lb (a b : Nu) : Prop := (∀ k x, a.b k = some x → b.b k = some x) ∧ ∀ k x, a.f k = some x → b.f k = some x
theorem Den.lb (h : ν.lb ν') {x : Atom} {y : Value} (d : Den ν x y) : Den ν' x y := by
  have : Den ⟨ν'.b, ν'.f, ν.o⟩ x y := Den.mono (ν := ν) (ν' := ⟨ν'.b, ν'.f, ν.o⟩) ⟨h.1, h.2, fun _ _ e => e⟩ d
  cases x <;> exact this
theorem DenL.lb (h : ν.lb ν') {l : List Atom} {r : List Value} (d : DenL ν l r) : DenL ν' l r := ⟨d.1, d.2.1, fun j a y e1 e2 => (d.2.2 j a y e1 e2).lb h⟩
theorem DenC.lb (h : ν.lb ν') {g : Bool} {l : List Atom} {y : Value} (d : DenC ν g l y) : DenC ν' g l y := by
  cases g with
  | true => obtain ⟨arr, e, r⟩ := d; exact ⟨arr, e, r.lb h⟩
  | false => obtain ⟨a, e, r⟩ := d; exact ⟨a, e, r.lb h⟩
theorem DenSV.lb (h : ν.lb ν') {x : SV} {y : Value} (d : DenSV ν x y) : DenSV ν' x y := by
  cases x with
  | one a => exact Den.lb h d
  | agg l => obtain ⟨arr, e, r⟩ := d; exact ⟨arr, e, r.lb h⟩
  | tup l => obtain ⟨arr, e, l1, r⟩ := d; exact ⟨arr, e, l1, fun j x z e1 e2 => (r j x z e1 e2).lb h⟩
theorem DenTV.lb (h : ν.lb ν') {T : Array Value} {x : TV} {y : Value} (d : DenTV ν T x y) : DenTV ν' T x y := by
  cases x with
  | pl x => exact DenSV.lb h d
  | opt d0 want x => exact ⟨fun e => DenSV.lb h (d.1 e), d.2⟩
theorem TOk.lb (h : ν.lb ν') {t : List TV} {T : Array Value} (k : TOk ν t T) : TOk ν' t T := ⟨k.1, fun j x e => (k.2 j x e).lb h⟩
/-- Another telling of what lies in blocks that are no cells. -/
def Nu.setO (ν : Nu) (o : Nat → Option Obj) : Nu := ⟨ν.b, ν.f, o⟩
theorem Nu.lb_setO (ν : Nu) (o : Nat → Option Obj) : ν.lb (ν.setO o) := ⟨fun _ _ e => e, fun _ _ e => e⟩
theorem Sim.setO (h : Sim U w0 F0 Fr heap rows w ν F) {o : Nat → Option Obj} (ho : ∀ l x, o l = some x → w0.heap.size ≤ l ∧ w.heap[l]? = some x ∧ held x)
    (hx : ∀ l x, o l = some x → isC x = true → (∀ o, ¬ F l o) ∧ (∀ id, (look id heap).isSome → ν.b id ≠ some l) ∧ ∀ fid r v, look fid rows = some r → r.own = true → ν.f fid = some v → v.ownBlock ≠ some l) : Sim U w0 F0 Fr heap rows w (ν.setO o) F :=
  ⟨h.below, fun id t cs e => by obtain ⟨b, arr, e1, e2, e3, e4, e5⟩ := h.box id t cs e; exact ⟨b, arr, e1, e2, e3, e4.lb (ν.lb_setO o), e5⟩, h.inj, h.lt, h.row, h.apart, h.apart2, h.free, h.sub, h.new, ho, hx⟩
theorem Sim.setB (h : Sim U w0 F0 Fr heap rows w ν F) {k : Nat} (hk : Fr k) (x : Nat) : Sim U w0 F0 (fun j => Fr j ∧ j ≠ k) heap rows w (ν.setB k x) F := by
  have hn := (h.free k hk).1
  have hle : ν.le (ν.setB k x) := Nu.le_setB hn
  have hne : ∀ {id}, (look id heap).isSome → id ≠ k := fun {id} e q => by
    subst q
    obtain ⟨⟨t', cs'⟩, e'⟩ := Option.isSome_iff_exists.mp e
    obtain ⟨b, arr, e1, _⟩ := h.box id t' cs' e'
    rw [hn] at e1; cases e1
  have hb : ∀ {id}, id ≠ k → (ν.setB k x).b id = ν.b id := fun {id} q => if_neg q
  refine ⟨h.below, fun id t cs e => ?_, fun id id' b l l' e e' => ?_, h.lt, h.row, fun fid r v id b e1 e2 e3 e4 e5 => ?_, h.apart2, fun j hj => ⟨(hb hj.2).trans (h.free j hj.1).1, (h.free j hj.1).2⟩, h.sub, h.new, h.hold, fun l y e hc => ⟨(h.hx l y e hc).1, fun id hid q => (h.hx l y e hc).2.1 id hid (by rw [hb (hne hid)] at q; exact q), (h.hx l y e hc).2.2⟩⟩
  · obtain ⟨b, arr, e1, e2, e3, e4, e5⟩ := h.box id t cs e
    exact ⟨b, arr, hle.1 _ _ e1, e2, e3, e4.mono hle, e5⟩
  · rw [hb (hne l)] at e
    rw [hb (hne l')] at e'
    exact h.inj id id' b l l' e e'
  · rw [hb (hne e4)] at e5
    exact h.apart fid r v id b e1 e2 e3 e4 e5
/-- A block that is held becomes another one. -/
theorem Sim.putAt (h : Sim U w0 F0 Fr heap rows w ν F) {l : Nat} {x : Obj} (hx : ν.o l = some x) {x' : Obj} (hh : held x') (hk : isC x' = isC x) {w' : World} (hos : w'.os = w.os) (htp : w'.tape = w.tape) (hout : w'.output = w.output) (hsz : w'.heap.size = w.heap.size) (hsame : w'.heap[l]? = some x') (hoth : ∀ k, k ≠ l → w'.heap[k]? = w.heap[k]?)
    {o : Nat → Option Obj} (ho : ∀ k y, o k = some y → k ≠ l → ν.o k = some y) (hl : ∀ y, o l = some y → y = x') : Sim U w0 F0 Fr heap rows w' (ν.setO o) F := by
  obtain ⟨hb, hw, hhx⟩ := h.hold l x hx
  have hlt : l < w.heap.size := (Array.getElem?_eq_some_iff.mp hw).1
  have hne : ∀ {b o}, F b o → b = l → isC x = false := fun {b o} q c => by
    cases hc : isC x with
    | false => rfl
    | true => subst c; exact absurd q ((h.hx _ _ hx hc).1 o)
  have hcell : ∀ b o, F b o → w'.cell? ⟨b, o, none⟩ = w.cell? ⟨b, o, none⟩ := fun b o q => by
    by_cases c : b = l
    · have h0 := hne q c
      subst c
      have h1 := hk.trans h0
      simp only [World.cell?, hsame, hw]
      cases x <;> cases x' <;> first | rfl | (exact hhx.elim) | (exact hh.elim) | (cases h1; done) | (cases h0; done)
    · exact cell_of_block (hoth b c) o
  have hcb : ∀ {b : Nat} {arr : Array Value} {t : TypeId} {z : Nat × Nat}, w.heap[b]? = some (.cells arr t z) → (isC x = true → b ≠ l) → b ≠ l := fun {b arr t z} e g q => by
    have q' := q
    subst q
    rw [hw] at e
    cases e
    exact g rfl q'
  have hlb := ν.lb_setO o
  refine ⟨h.below.trans ⟨hos, htp, hout, by omega, fun k hk => hoth k (by omega)⟩, fun id t cs e => ?_, h.inj, fun b o e => by rw [hsz]; exact h.lt b o e, fun fid r e => ?_, h.apart, h.apart2, h.free, h.sub, h.new, fun k y e => ?_, fun k y e hc => ?_⟩
  · obtain ⟨b, arr, e1, e2, e3, e4, e5⟩ := h.box id t cs e
    exact ⟨b, arr, e1, e2, (hoth b (hcb e3 fun hc q => (h.hx l x hx hc).2.1 id (by rw [e]; rfl) (by rw [e1, q]))).trans e3, e4.lb hlb, e5⟩
  · obtain ⟨v, e1, e2, e3⟩ := h.row fid r e
    refine ⟨v, e1, e2.keep (fun _ _ x => x) hcell, fun hown => ?_⟩
    have q := e3 hown
    refine q.keep (fun b hb2 => ?_) (fun _ _ _ x => x)
    obtain ⟨cur, e', fz, hh2⟩ := q.cells hb2
    exact hoth b (hcb hh2 fun hc q2 => (h.hx l x hx hc).2.2 fid r v e hown e1 (by rw [hb2, q2]))
  · by_cases c : k = l
    · subst c
      rw [hl y e]
      exact ⟨hb, hsame, hh⟩
    · obtain ⟨a1, a2, a3⟩ := h.hold k y (ho k y e c)
      exact ⟨a1, (hoth k c).trans a2, a3⟩
  · by_cases c : k = l
    · subst c
      rw [hl y e] at hc
      exact h.hx k x hx (hk.symm.trans hc)
    · exact h.hx k y (ho k y e c) hc
theorem Sim.putObj (h : Sim U w0 F0 Fr heap rows w ν F) {l : Nat} {x : Obj} (hx : ν.o l = some x) {x' : Obj} (hh : held x') (hk : isC x' = isC x) {o : Nat → Option Obj} (ho : ∀ k y, o k = some y → k ≠ l → ν.o k = some y) (hl : ∀ y, o l = some y → y = x') : Sim U w0 F0 Fr heap rows (w.putObj l x') (ν.setO o) F :=
  h.putAt (w' := w.putObj l x') hx hh hk rfl rfl rfl (by simp) (World.putObj_heap_same (h.holdLt hx)) (fun k hk => World.putObj_heap_other hk) ho hl
/-- A block that is held is new. -/
theorem Sim.newObj (h : Sim U w0 F0 Fr heap rows w ν F) {x : Obj} (hx : held x) : Sim U w0 F0 Fr heap rows (w.alloc x) (ν.setO fun k => if k = w.heap.size then some x else ν.o k) F := by
  have h1 : Sim U w0 F0 Fr heap rows (w.alloc x) ν F := h.grow (Below.alloc (Below.refl _ w) (Nat.le_refl _) x) (fun _ _ q => q) (fun _ _ q => .inl q) (fun b o q => by rw [World.size_alloc]; exact Nat.lt_succ_of_lt (h.lt b o q))
  refine h1.setO (fun l y e => ?_) (fun l y e hc => ?_)
  · by_cases c : l = w.heap.size
    · subst c
      rw [if_pos rfl] at e
      cases e
      exact ⟨h.below.size, World.alloc_heap_new w x, hx⟩
    · rw [if_neg c] at e
      exact h1.hold l y e
  · by_cases c : l = w.heap.size
    · subst c
      refine ⟨fun o q => absurd (h.lt _ _ q) (Nat.lt_irrefl _), fun id hid q => ?_, fun fid r v e1 e2 e3 q => ?_⟩
      · obtain ⟨⟨t', cs'⟩, e'⟩ := Option.isSome_iff_exists.mp hid
        obtain ⟨b, arr, g1, _, g2, _⟩ := h.box id t' cs' e'
        rw [q] at g1
        cases g1
        exact absurd (Array.getElem?_eq_some_iff.mp g2).1 (Nat.lt_irrefl _)
      · obtain ⟨v', g1, _, g3⟩ := h.row fid r e1
        rw [e3] at g1
        cases g1
        exact absurd ((g3 e2).lt q) (Nat.lt_irrefl _)
    · rw [if_neg c] at e
      exact h1.hx l y e hc

/-- A range's record is the same but for where it stands. -/
def recLe (x y : Obj) : Prop := x = y ∨ ∃ r st pe, x = .loop r ∧ y = .loop { r with state := st, pending := pe }
theorem recLe.refl (x : Obj) : recLe x x := .inl rfl
theorem recLe.trans {x y z : Obj} (h : recLe x y) (k : recLe y z) : recLe x z := by
  rcases h with rfl | ⟨r, st, pe, rfl, rfl⟩
  · exact k
  · rcases k with rfl | ⟨r', st', pe', e, rfl⟩
    · exact .inr ⟨r, st, pe, rfl, rfl⟩
    · cases e; exact .inr ⟨r, st', pe', rfl, rfl⟩
/-- What is below a number stays. -/
def Nu.leN (n : Nat) (a b : Nu) : Prop := (∀ k, k < n → ∀ x, a.b k = some x → b.b k = some x) ∧ (∀ k, k < 16 * n → ∀ x, a.f k = some x → b.f k = some x) ∧ ∀ k x, a.o k = some x → isC x = false → ∃ y, b.o k = some y ∧ recLe x y
theorem Nu.le.leN {a b : Nu} (h : a.le b) (n : Nat) : a.leN n b := ⟨fun k _ x e => h.1 k x e, fun k _ x e => h.2.1 k x e, fun k x e _ => ⟨x, h.2.2 k x e, recLe.refl x⟩⟩
theorem recLe.isC {x y : Obj} (h : recLe x y) : isC y = isC x := by
  rcases h with rfl | ⟨r, st, pe, rfl, rfl⟩ <;> rfl
theorem Nu.leN_trans {n : Nat} {a b c : Nu} (h : a.leN n b) (k : b.leN n c) : a.leN n c := ⟨fun i hi x e => k.1 i hi x (h.1 i hi x e), fun i hi x e => k.2.1 i hi x (h.2.1 i hi x e), fun i x e hc => by
  obtain ⟨y, e1, l1⟩ := h.2.2 i x e hc
  obtain ⟨z, e2, l2⟩ := k.2.2 i y e1 (l1.isC.trans hc)
  exact ⟨z, e2, l1.trans l2⟩⟩
theorem Nu.leN_mono {n m : Nat} {a b : Nu} (h : a.leN m b) (hn : n ≤ m) : a.leN n b := ⟨fun i hi x e => h.1 i (by omega) x e, fun i hi x e => h.2.1 i (by omega) x e, h.2.2⟩

/-! ### The records of rows -/
theorem mem_setRec {id : Nat} {x : RS U} : ∀ {l : List (Nat × RS U)} {p : Nat × RS U}, p ∈ setRec id x l → p = (id, x) ∨ (p.1 ≠ id ∧ p ∈ l)
  | [], p, h => by cases h
  | (j, y) :: l, p, h => by
    simp only [setRec] at h
    by_cases c : j = id
    · simp only [c, decide_true] at h
      rcases List.mem_cons.mp h with rfl | h
      · exact .inl rfl
      · rcases mem_setRec h with q | q
        · exact .inl q
        · exact .inr ⟨q.1, List.mem_cons_of_mem _ q.2⟩
    · simp only [c, decide_false] at h
      rcases List.mem_cons.mp h with rfl | h
      · exact .inr ⟨c, List.mem_cons_self ..⟩
      · rcases mem_setRec h with q | q
        · exact .inl q
        · exact .inr ⟨q.1, List.mem_cons_of_mem _ q.2⟩
theorem mem_dropRec {id : Nat} : ∀ {l : List (Nat × RS U)} {p : Nat × RS U}, p ∈ dropRec id l → p.1 ≠ id ∧ p ∈ l
  | [], p, h => by cases h
  | (j, y) :: l, p, h => by
    simp only [dropRec] at h
    by_cases c : j = id
    · simp only [c, decide_true] at h
      exact ⟨(mem_dropRec h).1, List.mem_cons_of_mem _ (mem_dropRec h).2⟩
    · simp only [c, decide_false] at h
      rcases List.mem_cons.mp h with rfl | h
      · exact ⟨c, List.mem_cons_self ..⟩
      · exact ⟨(mem_dropRec h).1, List.mem_cons_of_mem _ (mem_dropRec h).2⟩
theorem RecIs.blk {id : Nat} {x : RS U} (k : RecIs ν id x) : (∃ g, blkOf ν id x = some g ∧ ∃ y, ν.o g = some y) ∨ blkOf ν id x = none := by
  cases x with
  | row c l =>
    obtain ⟨_, v, e1, _, q | ⟨g, off, cap, t, arr, e2, e3, _⟩⟩ := k
    · refine .inr ?_
      simp only [blkOf, e1, q.1]; rfl
    · refine .inl ⟨g, ?_, _, e3⟩
      simp only [blkOf, e1, e2]; rfl
  | ready => obtain ⟨l, r, e1, e2, _⟩ := k; exact .inl ⟨l, e1, _, e2⟩
  | busy => obtain ⟨l, r, e1, e2, _⟩ := k; exact .inl ⟨l, e1, _, e2⟩
  | done c => obtain ⟨l, r, e1, e2, _⟩ := k; exact .inl ⟨l, e1, _, e2⟩
/-- The same blocks and rows; a block that this record does not speak of is another one. -/
theorem RecIs.off {id : Nat} {x : RS U} (k : RecIs ν id x) (hle : ν.lb ν') {G : Nat → Prop} (ho : ∀ g, ¬ G g → ν'.o g = ν.o g) (hg : ∀ g, blkOf ν id x = some g → ¬ G g) : RecIs ν' id x ∧ blkOf ν' id x = blkOf ν id x := by
  cases x with
  | row c l =>
    obtain ⟨e0, v, e1, e2, e3⟩ := k
    have hb : blkOf ν id (.row c l : RS U) = v.ownBlock := by simp only [blkOf, e1]; rfl
    refine ⟨⟨e0, v, hle.2 _ _ e1, e2, ?_⟩, by simp only [blkOf, e1, hle.2 _ _ e1]⟩
    rcases e3 with q | ⟨g, off, cap, t, arr, q1, q2, q3⟩
    · exact .inl q
    · exact .inr ⟨g, off, cap, t, arr, q1, (ho g (hg g (hb.trans (by rw [q1]; rfl)))).trans q2, q3⟩
  | ready => obtain ⟨l, r, e1, e2, e3⟩ := k; exact ⟨⟨l, r, hle.1 _ _ e1, (ho l (hg l e1)).trans e2, e3⟩, (hle.1 _ _ e1).trans e1.symm⟩
  | busy => obtain ⟨l, r, e1, e2, e3⟩ := k; exact ⟨⟨l, r, hle.1 _ _ e1, (ho l (hg l e1)).trans e2, e3⟩, (hle.1 _ _ e1).trans e1.symm⟩
  | done c => obtain ⟨l, r, e1, e2, e3⟩ := k; exact ⟨⟨l, r, hle.1 _ _ e1, (ho l (hg l e1)).trans e2, e3⟩, (hle.1 _ _ e1).trans e1.symm⟩
/-- Some of the records, what they speak of as it was, and perhaps one more. -/
theorem RecsOk.but {recs recs' : List (Nat × RS U)} (k : RecsOk ν recs) (hle : ν.lb ν') {G : Nat → Prop} (ho : ∀ g, ¬ G g → ν'.o g = ν.o g) (extra : Option (Nat × RS U)) (hsub : ∀ p ∈ recs', extra = some p ∨ (p ∈ recs ∧ ∀ g, blkOf ν p.1 p.2 = some g → ¬ G g))
    (he : ∀ p, extra = some p → RecIs ν' p.1 p.2 ∧ ∀ g, blkOf ν' p.1 p.2 = some g → ∀ q ∈ recs', blkOf ν q.1 q.2 = some g → extra = some q ∨ q ∉ recs ∨ G g) : RecsOk ν' recs' := by
  have old : ∀ p ∈ recs', extra ≠ some p → p ∈ recs ∧ RecIs ν' p.1 p.2 ∧ blkOf ν' p.1 p.2 = blkOf ν p.1 p.2 ∧ ∀ g, blkOf ν p.1 p.2 = some g → ¬ G g := fun p hp hne => by
    rcases hsub p hp with q | ⟨q1, q2⟩
    · exact absurd q hne
    · obtain ⟨r1, r2⟩ := (k.1 p.1 p.2 q1).off hle ho q2
      exact ⟨q1, r1, r2, q2⟩
  refine ⟨fun id x e => ?_, fun id id' x x' g e e' q q' => ?_⟩
  · by_cases c : extra = some (id, x)
    · exact (he _ c).1
    · exact (old _ e c).2.1
  · by_cases c : extra = some (id, x)
    · by_cases c' : extra = some (id', x')
      · rw [c] at c'; cases c'; rfl
      · obtain ⟨r1, _, r2, r3⟩ := old _ e' c'
        have q0 : blkOf ν id' x' = some g := r2 ▸ q'
        rcases (he _ c).2 g q _ e' q0 with z | z | z
        · exact absurd z c'
        · exact absurd r1 z
        · exact absurd z (r3 g q0)
    · obtain ⟨r1, _, r2, r3⟩ := old _ e c
      have q0 : blkOf ν id x = some g := r2 ▸ q
      by_cases c' : extra = some (id', x')
      · rcases (he _ c').2 g q' _ e q0 with z | z | z
        · exact absurd z c
        · exact absurd r1 z
        · exact absurd z (r3 g q0)
      · obtain ⟨r1', _, r2', _⟩ := old _ e' c'
        exact k.2 id id' x x' g r1 r1' q0 (r2' ▸ q')

/-! ### What comes of operations on such rows -/
/-- A state that follows, in full. -/
def XPost (U : Uni) (w0 : World) (F0 : Nat → Nat → Prop) (ν : Nu) (a : Act) (n : Nat) (s' : St U) (v : SV) : Value → World → Prop := fun y w' =>
  ∃ ν' F', Sim U w0 F0 (fun k => s'.next ≤ k) s'.heap s'.rows w' ν' F' ∧ ν.leN n ν' ∧ RecsOk ν' s'.recs ∧ TOk ν' s'.tmps a.tmps ∧ DenSV ν' v y
theorem leN_setO {n : Nat} {o : Nat → Option Obj} (ho : ∀ k x, ν.o k = some x → isC x = false → o k = some x) : ν.leN n (ν.setO o) :=
  ⟨fun _ _ _ e => e, fun _ _ _ e => e, fun k x e hc => ⟨x, ho k x e hc, recLe.refl x⟩⟩
theorem flat_v {c : U.C} (h : U.flat c = true) {x : U.T c} {j : Nat} {cv : CV U.C U.T} (e : (U.enc c x)[j]? = some cv) : ∃ v, cv = .v v := U.flatOk c x cv h (List.mem_of_getElem? e)
theorem vsOf_is : ∀ {l : List Atom} {vs : List Value}, vsOf l = some vs → l = vs.map Atom.v ∧ ∀ v ∈ vs, oneV v = true
  | [], vs, h => by cases h; exact ⟨rfl, fun v hv => by cases hv⟩
  | x :: l, vs, h => by
    cases x with
    | v x =>
      simp only [vsOf] at h
      split at h
      · rename_i h1
        split at h
        · rename_i r hr
          cases h
          obtain ⟨q1, q2⟩ := vsOf_is hr
          exact ⟨by rw [q1]; rfl, fun v hv => by
            rcases List.mem_cons.mp hv with rfl | hv
            · exact h1
            · exact q2 v hv⟩
        · cases h
      · cases h
    | _ => cases h
theorem x_store (hs : Sim U w0 F0 (fun k => s.next ≤ k) s.heap s.rows w ν F) (hrk : RecsOk ν s.recs) (ht : TOk ν s.tmps a.tmps) {t : TypeId} {x y : Operand} (hop : o.op = .store t x y) {Kn : TV → St U → Prop} {p : Prop} (h : xStore P s t x y Kn = some p) (hp : p) :
    ∃ v s', Kn (.pl v) s' ∧ s.next ≤ s'.next ∧ Fin P o a w (XPost U w0 F0 ν a s.next s' v) := by
  unfold xStore at h
  have hx := TOk.ev (defers := a.defers) ht x
  split at h
  · rename_i fid i sz off e1
    rw [e1] at hx
    obtain ⟨ad, n0, c0, ef, hi, hsp, ex⟩ := hx
    split at h
    · rename_i r cs n hat hcs hn
      have hd := cells_den hcs (TOk.ev (defers := a.defers) ht y)
      split at h
      · rename_i vs hvs hcond
        split at h
        · rename_i z hz
          cases h
          obtain ⟨rfl, hlen, hle⟩ := of_decide_eq_true hcond
          obtain ⟨rc, rl, ro⟩ := r
          obtain ⟨hm, _, v0, ev, hfl, hv⟩ := xAt_is hrk hat
          simp only at hm ev hfl hv hz hle hp
          obtain ⟨hcv, hone⟩ := vsOf_is hvs
          subst hcv
          have hvl : vs.length = n := by simpa using hlen
          have hav : (a.eval y).cells.toList = vs := by
            refine List.ext_getElem (by rw [← hd.1]; simp) fun j h1 h2 => ?_
            have := hd.2.2 j (.v vs[j]) _ (by simp [h2]) (List.getElem?_eq_getElem h1)
            exact this
          rw [ef] at ev
          cases ev
          rcases hv with ⟨q, _⟩ | ⟨g, off0, cap, t0, arr, hv, ho, hlc, hcm, hcs2, hcell⟩
          · cases q
          cases hv
          have henc := U.backEnc rc _ z hz
          have hsc : i * U.size rc + off + n ≤ c0 * U.size rc := by
            have : (i + 1) * U.size rc ≤ c0 * U.size rc := Nat.mul_le_mul_right _ (by omega)
            rw [Nat.succ_mul] at this
            omega
          have hg := (hs.hold g _ ho).2.1
          obtain ⟨w', arr', q1, q2, q3, q4, q5, q6, q7, q8, q9⟩ := storeCells_run (P := P) g (off0 + (i * U.size rc + off)) vs 0 w arr hg (NoFz.zero _) hone (by rw [Nat.zero_add, hvl]; omega)
          simp only [Nat.add_zero] at q9
          have hrun : (execOp a.eval o).run P w = .ok .skip w' := by
            have hzz : (a.eval y).cells.size = n := by rw [← Array.length_toList, hav]; exact hvl
            simp [execOp, hop, Instr.storeAt, ex, Instr.sureAddr, storeVar, run_sizeOf hn, hzz, hav, q1]
          have hsim := hs.putAt ho (x' := .cells arr' t0 (0, 0)) rfl rfl q2 q3 q4 q5 q6 q7 (o := fun k => if k = g then some (.cells arr' t0 (0, 0)) else ν.o k) (fun k y e c => by rw [if_neg c] at e; exact e) (fun y e => by rw [if_pos rfl] at e; exact (Option.some.inj e).symm)
          have hle1 := ν.lb_setO (fun k => if k = g then some (.cells arr' t0 (0, 0)) else ν.o k)
          refine ⟨_, _, hp, Nat.le_succ _, Fin.skip hrun ⟨_, F, hsim.fr (fun k hk => Nat.le_trans (Nat.le_succ _) hk), leN_setO (fun k x e hc => ?_), ?_, ht.lb hle1, True.intro⟩⟩
          · by_cases c : k = g
            · subst c; rw [ho] at e; cases e; cases hc
            · exact (if_neg c).trans e
          · have hblk : blkOf ν (fid + 1000000000) (.row rc rl : RS U) = some g := by
              simp only [blkOf, Nat.add_sub_cancel, ef]; rfl
            refine hrk.but hle1 (G := fun k => k = g) (fun k hk => if_neg hk) (some (fid + 1000000000, .row rc (rl.set i z))) (fun q hq => ?_) (fun q hq => ?_)
            · rcases mem_setRec hq with rfl | ⟨c1, c2⟩
              · exact .inl rfl
              · refine .inr ⟨c2, fun g' e e' => c1 ?_⟩
                subst e'
                exact hrk.2 q.1 _ q.2 _ _ c2 hm e hblk
            · cases hq
              refine ⟨⟨by omega, _, by rw [Nat.add_sub_cancel]; exact ef, hfl, .inr ⟨g, off0, c0, t0, arr', by rw [List.length_set], if_pos rfl, by rw [List.length_set]; exact hlc, hcm, by rw [q8]; exact hcs2, fun k hk j cv hcv => ?_⟩⟩, fun g' e q hq e' => ?_⟩
              · rw [List.length_set] at hk
                have hj : j < U.size rc := by have := (List.getElem?_eq_some_iff.mp hcv).1; rwa [U.encSize] at this
                obtain ⟨vv, rfl⟩ := flat_v hfl hcv
                by_cases c : i = k
                · subst c
                  rw [List.getElem_set_self, henc, setCells_get _ _ _ (by rw [U.encSize, List.length_map, hvl]; exact hle)] at hcv
                  rw [List.length_map, hvl] at hcv
                  by_cases c2 : off ≤ j ∧ j < off + n
                  · rw [if_pos c2, List.getElem?_map] at hcv
                    obtain ⟨u, hu, hu2⟩ := Option.map_eq_some_iff.mp hcv
                    have hu2 : u = vv := by unfold cvV at hu2; cases hu2; rfl
                    subst hu2
                    refine ⟨u, rfl, hone u (List.mem_of_getElem? hu), ?_⟩
                    rw [q9, if_pos (by omega), ← hu]
                    congr 1; omega
                  · rw [if_neg c2, List.getD_eq_getElem?_getD, List.getElem?_eq_getElem hk, Option.getD_some] at hcv
                    obtain ⟨u, hu, hu1, hu2⟩ := hcell i hk j _ hcv
                    cases hu
                    refine ⟨vv, rfl, hu1, ?_⟩
                    rw [q9, if_neg (by omega)]
                    exact hu2
                · rw [List.getElem_set_ne c] at hcv
                  obtain ⟨u, hu, hu1, hu2⟩ := hcell k hk j _ hcv
                  cases hu
                  refine ⟨vv, rfl, hu1, ?_⟩
                  rw [q9, if_neg ?_]
                  · exact hu2
                  · intro hh
                    rcases Nat.lt_or_gt_of_ne c with c2 | c2
                    · have : (i + 1) * U.size rc ≤ k * U.size rc := Nat.mul_le_mul_right _ c2
                      rw [Nat.succ_mul] at this; omega
                    · have : (k + 1) * U.size rc ≤ i * U.size rc := Nat.mul_le_mul_right _ c2
                      rw [Nat.succ_mul] at this; omega
              · refine .inr (.inr ?_)
                simp only [blkOf, Nat.add_sub_cancel] at e
                have : (ν.f fid).bind Value.ownBlock = some g' := e
                rw [ef] at this
                exact (Option.some.inj this).symm
        · cases h
      · cases h
    · cases h
  · cases h
theorem Sim.setF (h : Sim U w0 F0 Fr heap rows w ν F) {fid : Nat} (hn : ν.f fid = none) (v : Value) : Sim U w0 F0 (fun k => Fr k ∧ ∀ j, j < 16 → 16 * k + j ≠ fid) heap rows w (ν.setF fid v) F := by
  have hle : ν.le (ν.setF fid v) := Nu.le_setF hn
  have hne : ∀ {f r}, look f rows = some r → f ≠ fid := fun {f r} e q => by
    subst q
    obtain ⟨v', e1, _⟩ := h.row f r e
    rw [hn] at e1; cases e1
  have hb : ∀ {f}, f ≠ fid → (ν.setF fid v).f f = ν.f f := fun {f} q => if_neg q
  refine ⟨h.below, fun id t cs e => ?_, h.inj, h.lt, fun f r e => ?_, fun f r v' id b e1 e2 e3 => ?_, fun f r v1 f' r' v2 b e1 e2 e3 e4 e5 e6 => ?_, fun k hk => ⟨(h.free k hk.1).1, fun j hj => (if_neg (hk.2 j hj)).trans ((h.free k hk.1).2 j hj)⟩, h.sub, h.new, h.hold, fun l y e hc => ⟨(h.hx l y e hc).1, (h.hx l y e hc).2.1, fun f r v' e1 e2 e3 => ?_⟩⟩
  · obtain ⟨b, arr, e1, e2, e3, e4, e5⟩ := h.box id t cs e
    exact ⟨b, arr, e1, e2, e3, e4.mono hle, e5⟩
  · obtain ⟨v', e1, e2⟩ := h.row f r e
    exact ⟨v', hle.2.1 _ _ e1, e2⟩
  · rw [hb (hne e1)] at e3
    exact h.apart f r v' id b e1 e2 e3
  · rw [hb (hne e1)] at e3
    rw [hb (hne e4)] at e6
    exact h.apart2 f r v1 f' r' v2 b e1 e2 e3 e4 e5 e6
  · rw [hb (hne e1)] at e3
    exact (h.hx l y e hc).2.2 f r v' e1 e2 e3
theorem Nu.lb_setF {k : Nat} {v : Value} (h : ν.f k = none) : ν.lb (ν.setF k v) := ⟨(Nu.le_setF h).1, (Nu.le_setF h).2.1⟩
theorem Nu.lb_trans {a b c : Nu} (h : a.lb b) (k : b.lb c) : a.lb c := ⟨fun i x e => k.1 i x (h.1 i x e), fun i x e => k.2 i x (h.2 i x e)⟩
theorem leN_setF {n k : Nat} {v : Value} (h : ν.f k = none) : ν.leN n (ν.setF k v) := (Nu.le_setF h).leN n
/-- A new block that is a row to be written in. -/
theorem x_new (hs : Sim U w0 F0 (fun k => s.next ≤ k) s.heap s.rows w ν F) (hrk : RecsOk ν s.recs) (ht : TOk ν s.tmps a.tmps) {c : U.C} {l : List (U.T c)} (hfl : U.flat c = true) {cells : Array Value} {e : TypeId} {cap : Nat} (hsz : cells.size = cap * U.size c) (hle : l.length ≤ cap) (hcap : cap ≤ maxLen)
    (hcell : ∀ i (hi : i < l.length) j cv, (U.enc c l[i])[j]? = some cv → ∃ x, cv = .v x ∧ oneV x = true ∧ cells[i * U.size c + j]? = some x) {recs' : List (Nat × RS U)} (hsub : ∀ p ∈ recs', p ∈ s.recs) :
    ∃ ν', Sim U w0 F0 (fun k => s.next + 1 ≤ k) s.heap s.rows (w.alloc (.cells cells e (0, 0))) ν' F ∧ ν.leN s.next ν' ∧ RecsOk ν' ((16 * s.next + 1000000000, .row c l) :: recs') ∧ TOk ν' s.tmps a.tmps ∧ DenSV ν' (.one (.sl (16 * s.next))) (.slice (some ⟨w.heap.size, 0, none⟩) l.length cap) := by
  have hn0 : ν.f (16 * s.next) = none := (hs.free s.next (Nat.le_refl _)).2 0 (by omega)
  have hnone : ν.o w.heap.size = none := by
    cases hh : ν.o w.heap.size with
    | none => rfl
    | some y => exact absurd (hs.holdLt hh) (Nat.lt_irrefl _)
  let o1 : Nat → Option Obj := fun k => if k = w.heap.size then some (.cells cells e (0, 0)) else ν.o k
  let v : Value := .slice (some ⟨w.heap.size, 0, none⟩) l.length cap
  have h1 : Sim U w0 F0 (fun k => s.next ≤ k) s.heap s.rows (w.alloc (.cells cells e (0, 0))) (ν.setO o1) F := hs.newObj (x := .cells cells e (0, 0)) rfl
  have h2 := h1.setF (fid := 16 * s.next) hn0 v
  have hle1 : ν.le ((ν.setO o1).setF (16 * s.next) v) := ⟨fun _ _ e => e, (Nu.le_setF (ν := ν.setO o1) hn0).2.1, fun k x e => by
    by_cases q : k = w.heap.size
    · subst q; rw [hnone] at e; cases e
    · exact (if_neg q).trans e⟩
  have hk := hrk.mono hle1
  have hself : ((ν.setO o1).setF (16 * s.next) v).f (16 * s.next) = some v := if_pos rfl
  refine ⟨_, h2.fr fun k hk => ⟨Nat.le_trans (Nat.le_succ _) hk, fun j hj => by omega⟩, hle1.leN _, ?_, ht.mono hle1, ⟨hself, rfl⟩⟩
  refine hk.but (ν' := (ν.setO o1).setF (16 * s.next) v) ⟨fun _ _ e => e, fun _ _ e => e⟩ (G := fun _ => False) (fun _ _ => rfl) (some (16 * s.next + 1000000000, .row c l)) (fun p hp => ?_) (fun p hp => ?_)
  · rcases List.mem_cons.mp hp with rfl | hp
    · exact .inl rfl
    · exact .inr ⟨hsub p hp, fun _ _ q => q⟩
  · cases hp
    refine ⟨⟨by omega, v, by rw [Nat.add_sub_cancel]; exact hself, hfl, .inr ⟨w.heap.size, 0, cap, e, cells, rfl, if_pos rfl, hle, hcap, by rw [hsz, Nat.zero_add]; exact Nat.le_refl _, fun i hi j cv hcv => ?_⟩⟩, fun g e1 q hq e2 => ?_⟩
    · obtain ⟨x, q1, q2, q3⟩ := hcell i hi j cv hcv
      exact ⟨x, q1, q2, by rw [Nat.zero_add]; exact q3⟩
    · rcases List.mem_cons.mp hq with rfl | hq
      · exact .inl rfl
      · refine .inr (.inl fun _ => ?_)
        have hg : w.heap.size = g := by
          simp only [blkOf, Nat.add_sub_cancel, hself] at e1
          exact Option.some.inj e1
        subst hg
        have hi := hrk.1 q.1 q.2 (hsub q hq)
        rw [(hi.mono hle1).2] at e2
        rcases hi.blk with ⟨g', q1, y, q2⟩ | q1
        · rw [e2] at q1; cases q1; rw [hnone] at q2; cases q2
        · rw [e2] at q1; cases q1
theorem x_make (hs : Sim U w0 F0 (fun k => s.next ≤ k) s.heap s.rows w ν F) (hrk : RecsOk ν s.recs) (ht : TOk ν s.tmps a.tmps) {t : TypeId} {l c : Operand} (hop : o.op = .makeSlice t l c) {Kn : TV → St U → Prop} {p : Prop} (h : xMake P Γ s t l c Kn = some p) (hp : p) :
    ∃ v s', Kn (.pl v) s' ∧ s.next ≤ s'.next ∧ Fin P o a w (XPost U w0 F0 ν a s.next s' v) := by
  unfold xMake at h
  have hl := TOk.ev (defers := a.defers) ht l
  have hc := TOk.ev (defers := a.defers) ht c
  split at h
  · rename_i e k1 n k2 m hu e1 e2
    rw [e1] at hl; rw [e2] at hc
    have hl : a.eval l = .int k1 n := hl
    have hc : a.eval c = .int k2 m := hc
    split at h
    · rename_i cc z zs hcc hz hzs
      split at h
      · rename_i vs hcond hvs
        split at h
        · rename_i x0 hx0
          cases h
          obtain ⟨⟨hnm, hn0, hn1⟩, hkn⟩ := hp
          subst hnm
          simp only [Bool.and_eq_true, decide_eq_true_eq] at hcond
          obtain ⟨hzc, hfl⟩ := hcond
          obtain ⟨i, zv, hi, hzv, hsz, hzz, hpos, hby⟩ := elemOK_is hz
          unfold zeroAtoms at hzs
          rw [hi] at hzs
          simp only [hzv] at hzs
          split at hzs
          · rename_i hall
            cases hzs
            obtain ⟨q1, q2⟩ := vsOf_is hvs
            have q1 : zv.cells.toList = vs := (List.map_inj_right (fun x y e => by cases e; rfl)).mp q1
            have henc := U.backEnc cc _ x0 hx0
            obtain ⟨nn, rfl⟩ := Int.eq_ofNat_of_zero_le hn0
            have hn2 : nn ≤ 1000000 := by omega
            have hm : (1000000 : Nat) ≤ maxLen := by decide
            have hb : (i.bytes : Int) * (nn : Int) ≤ 281474976710656 := by
              have : i.bytes * nn ≤ 100000000 * 1000000 := Nat.mul_le_mul hby hn2
              have h2 : ((i.bytes * nn : Nat) : Int) ≤ 281474976710656 := by omega
              rwa [Int.natCast_mul] at h2
            have hr := run_make (P := P) w t e i zv hu hi hzv k1 k2 nn nn (by omega) (Int.le_refl _) hb (by omega)
            simp only [Int.toNat_natCast] at hr hkn
            obtain ⟨ν', g1, g2, g3, g4, g5⟩ := x_new (a := a) hs hrk ht (c := cc) (l := List.replicate nn x0) hfl (cells := madeCells zv.cells (nn * i.size)) (e := e) (cap := nn) (by rw [size_madeCells, hsz, hzc]) (by simp) (by omega) (fun k hk' j cv hcv => by
                simp only [List.getElem_replicate] at hcv
                rw [henc, List.getElem?_map, ← q1] at hcv
                obtain ⟨v, hv, rfl⟩ := Option.map_eq_some_iff.mp hcv
                have hj : j < zv.cells.size := by have := (List.getElem?_eq_some_iff.mp hv).1; simpa using this
                have hk2 : k < nn := by simpa using hk'
                have hlt : k * U.size cc + j < nn * i.size := by
                  have : (k + 1) * U.size cc ≤ nn * U.size cc := Nat.mul_le_mul_right _ hk2
                  rw [Nat.succ_mul] at this
                  rw [hsz, hzc]; omega
                refine ⟨v, rfl, q2 v (by rw [← q1]; exact List.mem_of_getElem? hv), ?_⟩
                unfold madeCells
                rw [Array.getElem?_map, Array.getElem?_eq_getElem (by simpa using hlt)]
                simp only [Array.getElem_range, Option.map_some]
                have hmod : (k * U.size cc + j) % zv.cells.size = j := by
                  rw [hzz, hzc, Nat.mul_comm, Nat.mul_add_mod]
                  exact Nat.mod_eq_of_lt (by rw [← hzc, ← hzz]; exact hj)
                rw [hmod, getElem!_pos zv.cells j hj]
                rw [Array.getElem?_toList, Array.getElem?_eq_getElem hj] at hv
                exact hv) (recs' := s.recs) (fun p hp => hp)
            refine ⟨_, _, hkn, Nat.le_succ _, Fin.value (y := .slice (some ⟨w.heap.size, 0, none⟩) nn nn) ?_ ⟨ν', F, g1, g2, g3, g4, by simpa using g5⟩⟩
            simp only [execOp, hop, hl, hc]
            exact run_op hr _
          · cases hzs
        · cases h
      · cases h
    · cases h
  · cases h
/-- The elements' cells, one behind the other. -/
theorem el_cells {ad : Addr} {cap : Nat} {c : U.C} {l : List (U.T c)} (h : RowEl U F w (.slice (some ad) l.length cap) c l) :
    ∃ news : List Value, news.length = l.length * U.size c ∧ (∀ (j : Nat) u, news[j]? = some u → w.cell? (ad.add j) = some u ∧ oneV u = true) ∧
      ∀ (i : Nat) (hi : i < l.length) (j : Nat) cv, (U.enc c l[i])[j]? = some cv → ∃ y, news[i * U.size c + j]? = some y ∧ CVDen (Rd U F) w cv y := by
  obtain ⟨A, cap', e1, _, _, h⟩ := h
  cases e1
  rcases Nat.eq_zero_or_pos l.length with h0 | h0
  · exact ⟨[], by simp [h0], fun j u e => by simp at e, fun i hi => by omega⟩
  obtain ⟨ad', e1, es, h⟩ := h h0
  cases e1
  obtain ⟨bb, off, sp⟩ := ad
  have : sp = none := es
  subst this
  have h' : ∀ i (hi : i < l.length) j cv, (U.enc c l[i])[j]? = some cv → ∃ y, w.cell? ⟨bb, off + (i * U.size c + j), none⟩ = some y ∧ CVDen (Rd U F) w cv y := fun i hi j cv hcv => h i hi j cv (by rw [List.getD_eq_getElem?_getD, List.getElem?_eq_getElem hi, Option.getD_some]; exact hcv)
  have hcell : ∀ k, k < l.length * U.size c → ∃ y, w.cell? ⟨bb, off + k, none⟩ = some y ∧ oneV y = true := fun k hk => by
    have hz : 0 < U.size c := by
      rcases Nat.eq_zero_or_pos (U.size c) with q | q
      · rw [q, Nat.mul_zero] at hk; omega
      · exact q
    have hi : k / U.size c < l.length := Nat.div_lt_of_lt_mul (by rwa [Nat.mul_comm])
    have hj : k % U.size c < (U.enc c l[k / U.size c]).length := by rw [U.encSize]; exact Nat.mod_lt _ hz
    obtain ⟨y, q1, q2⟩ := h' (k / U.size c) hi (k % U.size c) _ (List.getElem?_eq_getElem hj)
    rw [Nat.div_add_mod'] at q1
    refine ⟨y, q1, ?_⟩
    cases hcv : (U.enc c l[k / U.size c])[k % U.size c] with
    | v x => rw [hcv] at q2; obtain ⟨rfl, q⟩ := q2; exact q
    | sl c0 l0 => rw [hcv] at q2; have q2 : Rd U F w y c0 l0 := q2; exact q2.oneV
  refine ⟨(List.range (l.length * U.size c)).map fun k => (w.cell? ⟨bb, off + k, none⟩).getD undef, by simp, fun j u e => ?_, fun i hi j cv hcv => ?_⟩
  · have hj : j < l.length * U.size c := by have := (List.getElem?_eq_some_iff.mp e).1; simpa using this
    obtain ⟨y, q1, q2⟩ := hcell j hj
    simp only [List.getElem?_map, List.getElem?_range hj, Option.map_some, q1, Option.getD_some, Option.some.injEq] at e
    subst e
    exact ⟨by rw [add_at]; exact q1, q2⟩
  · obtain ⟨y, q1, q2⟩ := h' i hi j cv hcv
    have hj : j < U.size c := by have := (List.getElem?_eq_some_iff.mp hcv).1; rwa [U.encSize] at this
    have hk : i * U.size c + j < l.length * U.size c := by
      have : (i + 1) * U.size c ≤ l.length * U.size c := Nat.mul_le_mul_right _ (by omega)
      rw [Nat.succ_mul] at this; omega
    refine ⟨y, ?_, q2⟩
    simp only [List.getElem?_map, List.getElem?_range hk, Option.map_some, q1, Option.getD_some]
theorem both_x {c : U.C} {l l2 : List (U.T c)} {xs news : List Value} (hx : xs.length = l.length * U.size c)
    (h1 : ∀ (i : Nat) (hi : i < l.length) (j : Nat) cv, (U.enc c l[i])[j]? = some cv → ∃ x, cv = .v x ∧ oneV x = true ∧ xs[i * U.size c + j]? = some x)
    (h2 : ∀ (i : Nat) (hi : i < l2.length) (j : Nat) cv, (U.enc c l2[i])[j]? = some cv → ∃ x, cv = .v x ∧ oneV x = true ∧ news[i * U.size c + j]? = some x) :
    ∀ (i : Nat) (hi : i < (l ++ l2).length) (j : Nat) cv, (U.enc c (l ++ l2)[i])[j]? = some cv → ∃ x, cv = .v x ∧ oneV x = true ∧ (xs ++ news)[i * U.size c + j]? = some x := fun i hi j cv hcv => by
  by_cases hl : i < l.length
  · rw [List.getElem_append_left hl] at hcv
    obtain ⟨y, q1, q2, q3⟩ := h1 i hl j cv hcv
    exact ⟨y, q1, q2, by rw [List.getElem?_append_left (List.getElem?_eq_some_iff.mp q3).1]; exact q3⟩
  · have hi2 : i - l.length < l2.length := by rw [List.length_append] at hi; omega
    rw [List.getElem_append_right (by omega)] at hcv
    obtain ⟨y, q1, q2, q3⟩ := h2 (i - l.length) hi2 j cv hcv
    have e : i * U.size c + j = xs.length + ((i - l.length) * U.size c + j) := by
      rw [hx]
      have : i * U.size c = l.length * U.size c + (i - l.length) * U.size c := by rw [← Nat.add_mul]; congr 1; omega
      omega
    refine ⟨y, q1, q2, ?_⟩
    rw [e, List.getElem?_append_right (Nat.le_add_right _ _), Nat.add_sub_cancel_left]
    exact q3
theorem flat_den {c : U.C} (hfl : U.flat c = true) {x : U.T c} {j : Nat} {cv : CV U.C U.T} (e : (U.enc c x)[j]? = some cv) {y : Value} (d : CVDen (Rd U F) w cv y) : cv = .v y ∧ oneV y = true := by
  obtain ⟨v, rfl⟩ := flat_v hfl e
  obtain ⟨rfl, q⟩ := d
  exact ⟨rfl, q⟩
theorem xSrc_el (hs : Sim U w0 F0 Fr s.heap s.rows w ν F) (hrk : RecsOk ν s.recs) {e : TypeId} {X : SV} {r : Row U} (h : xSrc Γ s e X = some r) {v : Value} (d : DenSV ν X v) : RowEl U F w v r.c r.l := by
  unfold xSrc at h
  split at h
  · obtain ⟨v', e1, e2⟩ := rowX_el hs hrk h
    obtain rfl : v = v' := Option.some.inj (d.1.symm.trans e1)
    exact e2
  · split at h
    · cases h
      have d : v = .slice none 0 0 := d
      subst d
      exact ⟨none, 0, rfl, Nat.le_refl _, Nat.zero_le _, fun q => absurd q (Nat.lt_irrefl _)⟩
    · cases h
  · cases h
/-- What is appended to: where it lies. -/
def DestIs (ν : Nu) (s : St U) (r : Row U) (v : Value) : Option Nat → Prop
  | some f => (f + 1000000000, RS.row r.c r.l) ∈ s.recs ∧ ν.f f = some v ∧ XRow U ν v r.c r.l
  | none => v = .slice none 0 0 ∧ r.l = []
theorem xDest_is (hrk : RecsOk ν s.recs) {e : TypeId} {X : SV} {old : Option Nat} {r : Row U} (h : xDest Γ s e X = some (old, r)) {v : Value} (d : DenSV ν X v) : DestIs ν s r v old := by
  unfold xDest at h
  split at h
  · rename_i fid
    split at h
    · rename_i r0 hr
      cases h
      obtain ⟨q1, _, v', q2, q3⟩ := xAt_is hrk hr
      obtain rfl : v = v' := Option.some.inj (d.1.symm.trans q2)
      exact ⟨q1, q2, q3⟩
    · cases h
  · split at h
    · cases h
      exact ⟨d, rfl⟩
    · cases h
  · cases h
theorem xDrop_sub {old : Option Nat} {recs : List (Nat × RS U)} : ∀ p ∈ xDrop old recs, p ∈ recs ∧ ∀ f, old = some f → p.1 ≠ f + 1000000000 := fun p hp => by
  cases old with
  | none => exact ⟨hp, fun f e => by cases e⟩
  | some f => exact ⟨(mem_dropRec hp).2, fun f' e => by cases e; exact (mem_dropRec hp).1⟩
/-- The row takes another number, its block perhaps written in. -/
theorem x_same (hs : Sim U w0 F0 (fun k => s.next ≤ k) s.heap s.rows w ν F) (hrk : RecsOk ν s.recs) (ht : TOk ν s.tmps a.tmps) {o1 : Nat → Option Obj} {g : Nat} (ho1 : ∀ k, k ≠ g → o1 k = ν.o k) (hcell : ∀ x, ν.o g = some x → isC x = true) {w' : World} (hs' : Sim U w0 F0 (fun k => s.next ≤ k) s.heap s.rows w' (ν.setO o1) F)
    {c : U.C} {l : List (U.T c)} {v : Value} (hone : oneV v = true) (hv : v.ownBlock = none ∨ v.ownBlock = some g) (hx : XRow U (ν.setO o1) v c l) {recs' : List (Nat × RS U)} (hsub : ∀ p ∈ recs', p ∈ s.recs ∧ blkOf ν p.1 p.2 ≠ some g) :
    ∃ ν', Sim U w0 F0 (fun k => s.next + 1 ≤ k) s.heap s.rows w' ν' F ∧ ν.leN s.next ν' ∧ RecsOk ν' ((16 * s.next + 1000000000, .row c l) :: recs') ∧ TOk ν' s.tmps a.tmps ∧ DenSV ν' (.one (.sl (16 * s.next))) v := by
  have hn0 : ν.f (16 * s.next) = none := (hs.free s.next (Nat.le_refl _)).2 0 (by omega)
  have h2 := hs'.setF (fid := 16 * s.next) hn0 v
  have hlb : ν.lb ((ν.setO o1).setF (16 * s.next) v) := Nu.lb_trans (ν.lb_setO o1) (Nu.lb_setF (ν := ν.setO o1) hn0)
  have hself : ((ν.setO o1).setF (16 * s.next) v).f (16 * s.next) = some v := if_pos rfl
  refine ⟨_, h2.fr fun k hk => ⟨Nat.le_trans (Nat.le_succ _) hk, fun j hj => by omega⟩, Nu.leN_trans (leN_setO (o := o1) fun k x e hc => ?_) (leN_setF (ν := ν.setO o1) hn0), ?_, ht.lb hlb, ⟨hself, hone⟩⟩
  · by_cases q : k = g
    · subst q; rw [hcell x e] at hc; cases hc
    · exact (ho1 k q).trans e
  · refine hrk.but hlb (G := fun k => k = g) (fun k hk => ho1 k hk) (some (16 * s.next + 1000000000, .row c l)) (fun p hp => ?_) (fun p hp => ?_)
    · rcases List.mem_cons.mp hp with rfl | hp
      · exact .inl rfl
      · exact .inr ⟨(hsub p hp).1, fun g' e e' => (hsub p hp).2 (by rw [e, e'])⟩
    · cases hp
      refine ⟨⟨by omega, v, by rw [Nat.add_sub_cancel]; exact hself, hx⟩, fun g' e1 q hq e2 => ?_⟩
      have hg : v.ownBlock = some g' := by
        simp only [blkOf, Nat.add_sub_cancel, hself] at e1
        exact e1
      rcases hv with q0 | q0
      · rw [q0] at hg; cases hg
      · rw [q0] at hg; cases hg; exact .inr (.inr rfl)
theorem x_append (hs : Sim U w0 F0 (fun k => s.next ≤ k) s.heap s.rows w ν F) (hrk : RecsOk ν s.recs) (ht : TOk ν s.tmps a.tmps) {c : Call} (hop : o.op = .call c) (hc : c.callee = .builtin .append) {x y : Operand} {t t' : TypeId} (hargs : c.args.toList = [x, y]) (htys : c.argTypes.toList = [t, t']) {Kn : TV → St U → Prop} {p : Prop} (h : xAppend P Γ s x y t t' Kn = some p) (hp : p) :
    ∃ v s', Kn (.pl v) s' ∧ s.next ≤ s'.next ∧ Fin P o a w (XPost U w0 F0 ν a s.next s' v) := by
  unfold xAppend at h
  have hca : c.args = #[x, y] := by rw [← Array.toArray_toList (xs := c.args), hargs]
  have hta : c.argTypes = #[t, t'] := by rw [← Array.toArray_toList (xs := c.argTypes), htys]
  have step : ∀ {vx vy v' : Value} {w' : World}, a.eval x = vx → a.eval y = vy → (Builtin.append_ #[t, t'] o.type #[vx, vy]).run P w = .ok v' w' → (execOp a.eval o).run P w = .ok (.value v') w' := fun {vx vy v' w'} e1 e2 hr => by
    simp only [execOp, hop, resolve, hc, invoke, builtin, Sem.run_bind, Sem.run_pure, Result.andThen_ok, hca, hta, List.map_toArray, List.map_cons, List.map_nil, e1, e2, hr]
  split at h
  · rename_i e htt hu
    have htt : t = t' := of_decide_eq_true htt
    subst htt
    split at h
    · rename_i z old r1 r2 hz hx hy
      split at h
      · rename_i l2 hcl hcond
        cases h
        obtain ⟨ho, hkn⟩ := hp
        simp only [Bool.and_eq_true, decide_eq_true_eq] at hcond
        obtain ⟨hzc, hfl⟩ := hcond
        have dx := TOk.ev (defers := a.defers) ht x
        have dy := TOk.ev (defers := a.defers) ht y
        have x2 := xDest_is hrk hx dx
        have y1 := xSrc_el hs hrk hy dy
        obtain ⟨c1, l1, own1⟩ := r1
        obtain ⟨c2, l2', own2⟩ := r2
        simp only at hzc hfl hcl x2 y1 ho hkn
        obtain ⟨rfl, rfl⟩ := castL_is hcl
        simp only at hzc hfl hcl x2 y1 ho hkn
        have ho : l1.length + l2'.length ≤ 1000000 := ho
        obtain ⟨i, zv, hi, hzv, hsz, hzs, hpos, hby⟩ := elemOK_is hz
        have hzc' : i.size = U.size c2 := by rw [hsz, hzc]
        have hm : (1000000 : Nat) ≤ maxLen := by decide
        -- the second argument
        obtain ⟨vy, hvy⟩ : ∃ vy, a.eval y = vy := ⟨_, rfl⟩
        rw [hvy] at y1
        obtain ⟨news, n1, hsrc, n3⟩ : ∃ news : List Value, news.length = l2'.length * U.size c2 ∧ Src P (U.size c2) t vy l2'.length news w ∧ ∀ (k : Nat) (hk : k < l2'.length) (j : Nat) cv, (U.enc c2 l2'[k])[j]? = some cv → ∃ x, cv = .v x ∧ oneV x = true ∧ news[k * U.size c2 + j]? = some x := by
          have y1' := y1
          obtain ⟨A2, cap2, rfl, q1, q2, q3⟩ := y1
          cases A2 with
          | none =>
            have h0 : l2'.length = 0 := by
              rcases Nat.eq_zero_or_pos l2'.length with q | q
              · exact q
              · obtain ⟨ad, q, _⟩ := q3 q; cases q
            have hnil : l2' = [] := List.eq_nil_of_length_eq_zero h0
            subst hnil
            exact ⟨[], by simp, Src.ofNil w hu cap2, fun k hk => absurd hk (Nat.not_lt_zero _)⟩
          | some ad =>
            obtain ⟨news, n1, n2, n3⟩ := el_cells y1'
            have hone : ∀ u ∈ news, u.oneCell' = true := fun u hu' => by
              obtain ⟨j, hj⟩ := List.getElem?_of_mem hu'
              have := (n2 j u hj).2
              cases u <;> first | rfl | cases this
            refine ⟨news, n1, Src.ofSlice w hu ad l2'.length cap2 news n1 (fun j u hj => (n2 j u hj).1) hone, fun k hk j cv hcv => ?_⟩
            obtain ⟨y0, p1, p2⟩ := n3 k hk j cv hcv
            obtain ⟨p3, p4⟩ := flat_den hfl hcv p2
            exact ⟨y0, p3, p4, p1⟩
        have hsrc' : Src P i.size t vy l2'.length news w := by rw [hzc']; exact hsrc
        have hbb : ∀ k : Nat, k ≤ 1000000 → k * i.bytes ≤ 140737488355328 := fun k hk' => Nat.le_trans (Nat.mul_le_mul hk' hby) (by decide)
        have hbb2 : ∀ n cap : Nat, n ≤ 1000000 → cap < n → Builtin.nextslicecap n cap * i.bytes ≤ 281474976710656 := fun n cap h1 h2 => growslice_fits h2 (hbb _ h1)
        have hdr : ∀ p ∈ xDrop old s.recs, p ∈ s.recs := fun p hp => (xDrop_sub p hp).1
        -- a new block
        have fresh : ∀ (xs : List Value) (cap : Nat) {A : Option Addr} (hA : a.eval x = .slice A l1.length cap), xs.length = l1.length * U.size c2 → (∀ (i : Nat) (hi : i < l1.length) (j : Nat) cv, (U.enc c2 l1[i])[j]? = some cv → ∃ x, cv = .v x ∧ oneV x = true ∧ xs[i * U.size c2 + j]? = some x) →
            (Builtin.append_ #[t, t] o.type #[.slice A l1.length cap, vy]).run P w = .ok (.slice (some ⟨w.heap.size, 0, none⟩) (l1.length + l2'.length) (grownCap w (l1.length + l2'.length) cap e)) (w.drew.alloc (.cells ((xs ++ news).toArray ++ Builtin.zeroCells zv.cells (grownCap w (l1.length + l2'.length) cap e - (l1.length + l2'.length))) e (0, 0))) →
            ∃ v s', Kn (.pl v) s' ∧ s.next ≤ s'.next ∧ Fin P o a w (XPost U w0 F0 ν a s.next s' v) := fun xs cap A hA hxl hxs hr => by
          have hge := grownCap_ge w (l1.length + l2'.length) cap e
          obtain ⟨ν', g1, g2, g3, g4, g5⟩ := x_new (a := a) hs.drew hrk ht (c := c2) (l := l1 ++ l2') hfl (cells := (xs ++ news).toArray ++ Builtin.zeroCells zv.cells (grownCap w (l1.length + l2'.length) cap e - (l1.length + l2'.length))) (e := e) (cap := grownCap w (l1.length + l2'.length) cap e)
            (by simp only [Array.size_append, List.size_toArray, List.length_append, size_zeroCells, n1, hxl, hzs, ← hzc, ← Nat.add_mul]; congr 1; omega) (by simpa using hge) (grownCap_le_maxLen w _ cap e (by omega)) (fun k hk' j cv hcv => by
              obtain ⟨x0, p1, p2, p3⟩ := both_x hxl hxs n3 k hk' j cv hcv
              refine ⟨x0, p1, p2, ?_⟩
              have hlt := (List.getElem?_eq_some_iff.mp p3).1
              rw [List.length_append] at hlt
              rw [Array.getElem?_append_left (by simpa using hlt)]
              simpa using p3) (recs' := xDrop old s.recs) hdr
          exact ⟨_, _, hkn, Nat.le_succ _, Fin.value (step hA hvy hr) ⟨ν', F, g1, g2, g3, g4, by rw [List.length_append] at g5; exact g5⟩⟩
        by_cases hm0 : l2'.length = 0
        · -- nothing is appended
          have hnil : l2' = [] := List.eq_nil_of_length_eq_zero hm0
          subst hnil
          have hnews : news = [] := List.eq_nil_of_length_eq_zero (by simpa using n1)
          subst hnews
          obtain ⟨vx, hvx⟩ : ∃ vx, a.eval x = vx := ⟨_, rfl⟩
          rw [hvx] at x2
          have key : ∃ A n cap, vx = .slice A n cap ∧ n ≤ cap ∧ XRow U ν vx c2 l1 ∧ ∀ p ∈ xDrop old s.recs, p ∈ s.recs ∧ ∀ g, vx.ownBlock = some g → blkOf ν p.1 p.2 ≠ some g := by
            cases old with
            | none =>
              obtain ⟨rfl, q⟩ := x2
              exact ⟨none, 0, 0, rfl, Nat.le_refl _, ⟨hfl, .inl ⟨rfl, q⟩⟩, fun p hp => ⟨hp, fun g e => by cases e⟩⟩
            | some f =>
              obtain ⟨q1, q2, q3⟩ := x2
              have sub : ∀ p ∈ xDrop (some f) s.recs, p ∈ s.recs ∧ ∀ g, vx.ownBlock = some g → blkOf ν p.1 p.2 ≠ some g := fun p hp => by
                obtain ⟨r1, r2⟩ := mem_dropRec hp
                refine ⟨r2, fun g e e2 => r1 (hrk.2 p.1 _ p.2 _ g r2 q1 e2 ?_)⟩
                simp only [blkOf, Nat.add_sub_cancel, q2]; exact e
              rcases q3.2 with ⟨rfl, q⟩ | ⟨g, off, cap, t0, arr, rfl, r⟩
              · exact ⟨none, 0, 0, rfl, Nat.le_refl _, q3, sub⟩
              · exact ⟨_, _, _, rfl, r.2.1, q3, sub⟩
          obtain ⟨A, n, cap, rfl, hnc, hxr, hsub⟩ := key
          have hr := run_append_none (P := P) (w := w) t t o.type e i hu hi A n cap hnc hsrc'
          cases hob : (Value.slice A n cap).ownBlock with
          | none =>
            -- nil
            obtain ⟨ν', g1, g2, g3, g4, g5⟩ := x_same (a := a) hs hrk ht (o1 := ν.o) (g := w.heap.size) (fun _ _ => rfl) (fun x hx => absurd (hs.holdLt hx) (Nat.lt_irrefl _)) (w' := w) hs (c := c2) (l := l1 ++ []) (v := .slice A n cap) rfl (.inl hob) (by rw [List.append_nil]; exact hxr) (recs' := xDrop old s.recs) (fun p hp => ⟨(hsub p hp).1, fun e2 => by
                have hi := hrk.1 p.1 p.2 (hsub p hp).1
                rcases hi.blk with ⟨g', q1, y, q2⟩ | q1
                · rw [e2] at q1; cases q1; exact absurd (hs.holdLt q2) (Nat.lt_irrefl _)
                · rw [e2] at q1; cases q1⟩)
            exact ⟨_, _, hkn, Nat.le_succ _, Fin.value (step hvx hvy hr) ⟨ν', F, g1, g2, g3, g4, g5⟩⟩
          | some g =>
            obtain ⟨ν', g1, g2, g3, g4, g5⟩ := x_same (a := a) hs hrk ht (o1 := ν.o) (g := g) (fun _ _ => rfl) (fun x hx => by
                rcases hxr.2 with ⟨q, _⟩ | ⟨g', off, cap', t0, arr, q, q2, _⟩
                · rw [q] at hob; cases hob
                · rw [q] at hob; cases hob; rw [q2] at hx; cases hx; rfl) (w' := w) hs (c := c2) (l := l1 ++ []) (v := .slice A n cap) rfl (.inr hob) (by rw [List.append_nil]; exact hxr) (recs' := xDrop old s.recs) (fun p hp => ⟨(hsub p hp).1, (hsub p hp).2 g hob⟩)
            exact ⟨_, _, hkn, Nat.le_succ _, Fin.value (step hvx hvy hr) ⟨ν', F, g1, g2, g3, g4, g5⟩⟩
        · -- nil, or a row
          have nilCase : a.eval x = .slice none 0 0 → l1 = [] → ∃ v s', Kn (.pl v) s' ∧ s.next ≤ s'.next ∧ Fin P o a w (XPost U w0 F0 ν a s.next s' v) := fun hv0 hnil => by
            subst hnil
            have hr := run_append_grow_src (P := P) w t t o.type e i zv hu hi hzv none 0 0 [] (by simpa using run_firstCells_none w.drew i.size 0 0 0) vy l2'.length news hsrc' (by omega) (by omega) (hbb2 _ _ (by simpa using ho) (by omega))
            exact fresh [] 0 hv0 (by simp) (fun i hi => absurd hi (Nat.not_lt_zero _)) hr
          have rowCase : ∀ f, old = some f → ∃ v s', Kn (.pl v) s' ∧ s.next ≤ s'.next ∧ Fin P o a w (XPost U w0 F0 ν a s.next s' v) := fun f hold => by
            subst hold
            obtain ⟨q1, q2, q3, q4⟩ := x2
            rcases q4 with ⟨q, q'⟩ | ⟨g, off, cap, t0, arr, hvx, ho1, hlc, hcm, hcs, hcell⟩
            · exact nilCase q q'
            · have hlc : l1.length ≤ cap := hlc
              have hcs : off + cap * U.size c2 ≤ arr.size := hcs
              have hg := (hs.hold g _ ho1).2.1
              let xs : List Value := (arr.toList.drop off).take (l1.length * U.size c2)
              have hcap' : l1.length * U.size c2 ≤ cap * U.size c2 := Nat.mul_le_mul_right _ hlc
              have hxl : xs.length = l1.length * U.size c2 := by simp only [xs, List.length_take, List.length_drop, Array.length_toList]; omega
              have hxat : ∀ (j : Nat), j < l1.length * U.size c2 → xs[j]? = arr[off + j]? := fun j hj => by
                simp only [xs]
                rw [getElem?_drop_take, if_pos hj, Array.getElem?_toList]
              have hidx : ∀ {i j : Nat}, i < l1.length → j < U.size c2 → i * U.size c2 + j < l1.length * U.size c2 := fun {i j} hi hj => by
                have : (i + 1) * U.size c2 ≤ l1.length * U.size c2 := Nat.mul_le_mul_right _ hi
                rw [Nat.succ_mul] at this; omega
              have hxs : ∀ (i : Nat) (hi : i < l1.length) (j : Nat) cv, (U.enc c2 l1[i])[j]? = some cv → ∃ x, cv = .v x ∧ oneV x = true ∧ xs[i * U.size c2 + j]? = some x := fun i hi j cv hcv => by
                obtain ⟨x0, p1, p2, p3⟩ := hcell i hi j cv hcv
                have hj : j < U.size c2 := by have := (List.getElem?_eq_some_iff.mp hcv).1; rwa [U.encSize] at this
                exact ⟨x0, p1, p2, by rw [hxat _ (hidx hi hj)]; exact p3⟩
              by_cases hroom : l1.length + l2'.length ≤ cap
              · have hcapm : (l1.length + l2'.length) * U.size c2 ≤ cap * U.size c2 := Nat.mul_le_mul_right _ hroom
                rw [Nat.add_mul] at hcapm
                have hone : ∀ u ∈ news, RX.oneV u = true := fun u hu' => by have := hsrc.one u hu'; cases u <;> first | rfl | cases this
                obtain ⟨w', arr', k1, k2, k3, k4, k5, k6, k7, k8, k9⟩ := storeCells_run (P := P) g (off + l1.length * i.size) news 0 w arr hg (NoFz.zero _) hone (by rw [n1, hzc']; omega)
                simp only [Nat.add_zero] at k9
                have hr := run_append_in (P := P) (w := w) t t o.type e i hu hi g off l1.length cap hsrc' hroom k1
                rw [hzc'] at k9
                have hsim := hs.putAt ho1 (x' := .cells arr' t0 (0, 0)) rfl rfl k2 k3 k4 k5 k6 k7 (o := fun k => if k = g then some (.cells arr' t0 (0, 0)) else ν.o k) (fun k y e c => by rw [if_neg c] at e; exact e) (fun y e => by rw [if_pos rfl] at e; exact (Option.some.inj e).symm)
                obtain ⟨ν', g1, g2, g3, g4, g5⟩ := x_same (a := a) hs hrk ht (o1 := fun k => if k = g then some (.cells arr' t0 (0, 0)) else ν.o k) (g := g) (fun k hk => if_neg hk) (fun x hx => by rw [ho1] at hx; cases hx; rfl) (w' := w') hsim (c := c2) (l := l1 ++ l2') (v := .slice (some ⟨g, off, none⟩) (l1.length + l2'.length) cap) rfl (.inr rfl)
                  ⟨hfl, .inr ⟨g, off, cap, t0, arr', by rw [List.length_append], if_pos rfl, by rw [List.length_append]; exact hroom, hcm, by rw [k8]; exact hcs, fun k hk j cv hcv => by
                    obtain ⟨x0, p1, p2, p3⟩ := both_x hxl hxs n3 k hk j cv hcv
                    refine ⟨x0, p1, p2, ?_⟩
                    rw [k9]
                    by_cases q : k * U.size c2 + j < xs.length
                    · rw [List.getElem?_append_left q, hxat _ (by rw [← hxl]; exact q)] at p3
                      rw [if_neg (by rw [hxl] at q; omega)]
                      exact p3
                    · rw [List.getElem?_append_right (by omega)] at p3
                      have hlt := (List.getElem?_eq_some_iff.mp p3).1
                      rw [hxl] at q p3 hlt
                      rw [if_pos (by omega), ← p3]
                      congr 1; omega⟩⟩ (recs' := xDrop (some f) s.recs) (fun p hp => by
                    obtain ⟨r1, r2⟩ := mem_dropRec hp
                    refine ⟨r2, fun e2 => r1 (hrk.2 p.1 _ p.2 _ g r2 q1 e2 ?_)⟩
                    simp only [blkOf, Nat.add_sub_cancel, q2, hvx]; rfl)
                exact ⟨_, _, hkn, Nat.le_succ _, Fin.value (step hvx hvy hr) ⟨ν', F, g1, g2, g3, g4, g5⟩⟩
              · have hr := run_append_grow_src (P := P) w t t o.type e i zv hu hi hzv (some ⟨g, off, none⟩) l1.length cap xs (run_firstCells_some w.drew i.size l1.length ⟨g, off, none⟩ l1.length cap xs (by rw [hxl, hzc']) (fun j u hj => by
                    have hlt := (List.getElem?_eq_some_iff.mp hj).1
                    rw [hxl] at hlt
                    rw [hxat j hlt] at hj
                    rw [add_at]
                    have : w.drew.cell? ⟨g, off + j, none⟩ = w.cell? ⟨g, off + j, none⟩ := rfl
                    rw [this, cell_at hg]; exact hj)) vy l2'.length news hsrc' (by omega) (by omega) (hbb2 _ _ (by omega) (by omega))
                exact fresh xs cap hvx hxl hxs hr
          cases old with
          | none => exact nilCase x2.1 x2.2
          | some f => exact rowCase f rfl
      · cases h
    · cases h
  · cases h
/-! ### Such rows as rows -/
theorem xrow_reads {g off cap : Nat} {t0 : TypeId} {arr : Array Value} {c : U.C} {l : List (U.T c)} (hg : w.heap[g]? = some (.cells arr t0 (0, 0))) (hlc : l.length ≤ cap) (hcm : cap ≤ maxLen) (hcell : ∀ i (hi : i < l.length) j cv, (U.enc c l[i])[j]? = some cv → ∃ x, cv = .v x ∧ oneV x = true ∧ arr[off + (i * U.size c + j)]? = some x)
    {F' : Nat → Nat → Prop} (hF : ∀ o, off ≤ o → o < off + l.length * U.size c → F' g o) : Rd U F' w (.slice (some ⟨g, off, none⟩) l.length cap) c l := by
  refine ⟨1, _, _, _, rfl, rfl, hlc, hcm, fun _ => ⟨_, rfl, rfl, fun i hi j cv hcv => ?_⟩⟩
  have hj : j < U.size c := by have := (List.getElem?_eq_some_iff.mp hcv).1; rwa [U.encSize] at this
  obtain ⟨x, rfl, q1, q2⟩ := hcell i hi j cv hcv
  refine ⟨hF _ (Nat.le_add_right _ _) ?_, x, by rw [cell_at hg]; exact q2, rfl, q1⟩
  have : (i + 1) * U.size c ≤ l.length * U.size c := Nat.mul_le_mul_right _ hi
  rw [Nat.succ_mul] at this
  show off + (i * U.size c + j) < _
  omega
theorem freeze1_ok (hs : Sim U w0 F0 Fr s.heap s.rows w ν F) (hrk : RecsOk ν s.recs) (fid : Nat) :
    ∃ ν' F', Sim U w0 F0 Fr (freeze1 fid s).heap (freeze1 fid s).rows w ν' F' ∧ ν.lb ν' ∧ (∀ n, ν.leN n ν') ∧ RecsOk ν' (freeze1 fid s).recs := by
  unfold freeze1
  split
  · rename_i r hat
    obtain ⟨c, l, ow⟩ := r
    obtain ⟨hm, _, v, ev, hfl, hv⟩ := xAt_is hrk hat
    simp only at hm ev hfl hv ⊢
    have hl : ∀ {j r}, look j ((fid, (⟨c, l, true⟩ : Row U)) :: s.rows) = some r → (j = fid ∧ r = ⟨c, l, true⟩) ∨ (j ≠ fid ∧ look j s.rows = some r) := fun {j r} e => by
      rw [look_cons] at e
      by_cases q : fid = j
      · rw [if_pos q] at e; cases e; exact .inl ⟨q.symm, rfl⟩
      · rw [if_neg q] at e; exact .inr ⟨fun x => q x.symm, e⟩
    rcases hv with ⟨rfl, rfl⟩ | ⟨g, off, cap, t0, arr, rfl, ho, hlc, hcm, hcs, hcell⟩
    · -- nil
      refine ⟨ν, F, ⟨hs.below, hs.box, hs.inj, hs.lt, fun j r e => ?_, fun j r v' id b e1 e2 e3 e4 e5 => ?_, fun j r v1 j' r' v2 b e1 e2 e3 e4 e5 e6 e7 e8 => ?_, hs.free, hs.sub, hs.new, hs.hold, fun g x e hc => ⟨(hs.hx g x e hc).1, (hs.hx g x e hc).2.1, fun j r v' e1 e2 e3 => ?_⟩⟩, ⟨fun _ _ e => e, fun _ _ e => e⟩, fun n => ν.le_refl.leN n, ?_⟩
      · rcases hl e with ⟨rfl, rfl⟩ | ⟨q, e⟩
        · exact ⟨_, ev, ⟨1, none, 0, 0, rfl, rfl, Nat.le_refl _, Nat.zero_le _, fun h => absurd h (Nat.lt_irrefl _)⟩, fun _ => .inl ⟨rfl, rfl⟩⟩
        · exact hs.row j r e
      · rcases hl e1 with ⟨rfl, rfl⟩ | ⟨q, e1⟩
        · rw [ev] at e3; cases e3; intro c; cases c
        · exact hs.apart j r v' id b e1 e2 e3 e4 e5
      · rcases hl e1 with ⟨rfl, rfl⟩ | ⟨q, e1⟩
        · rw [ev] at e3; cases e3; cases e7
        · rcases hl e4 with ⟨rfl, rfl⟩ | ⟨q', e4⟩
          · rw [ev] at e6; cases e6; cases e8
          · exact hs.apart2 j r v1 j' r' v2 b e1 e2 e3 e4 e5 e6 e7 e8
      · rcases hl e1 with ⟨rfl, rfl⟩ | ⟨q, e1⟩
        · rw [ev] at e3; cases e3; intro c; cases c
        · exact (hs.hx g x e hc).2.2 j r v' e1 e2 e3
      · exact hrk.but (ν' := ν) ⟨fun _ _ e => e, fun _ _ e => e⟩ (G := fun _ => False) (fun _ _ => rfl) none (fun p hp => .inr ⟨(mem_dropRec hp).2, fun _ _ q => q⟩) (fun p e => by cases e)
    · have hg := (hs.hold g _ ho).2.1
      obtain ⟨x1, x2, x3⟩ := hs.hx g _ ho rfl
      let o1 : Nat → Option Obj := fun k => if k = g then none else ν.o k
      have hle := ν.lb_setO o1
      refine ⟨ν.setO o1, fun b o => F b o ∨ (b = g ∧ off ≤ o ∧ o < off + l.length * U.size c), ⟨hs.below, fun id t cs e => ?_, hs.inj, fun b o e => ?_, fun j r e => ?_, fun j r v' id b e1 e2 e3 e4 e5 => ?_, fun j r v1 j' r' v2 b e1 e2 e3 e4 e5 e6 e7 e8 => ?_, hs.free, fun b o e => .inl (hs.sub b o e), fun b o e => ?_, fun k x e => ?_, fun k x e hc => ?_⟩, hle, fun n => leN_setO fun k x e hc => ?_, ?_⟩
      · obtain ⟨b, arr', e1, e2, e3, e4, e5⟩ := hs.box id t cs e
        exact ⟨b, arr', e1, e2, e3, e4.lb hle, fun o q => by
          rcases q with q | q
          · exact e5 o q
          · exact x2 id (by rw [e]; rfl) (by rw [e1, q.1])⟩
      · rcases e with e | e
        · exact hs.lt b o e
        · rw [e.1]; exact hs.holdLt ho
      · rcases hl e with ⟨rfl, rfl⟩ | ⟨q, e⟩
        · refine ⟨_, ev, xrow_reads hg hlc hcm hcell (fun o h1 h2 => .inr ⟨rfl, h1, h2⟩), fun _ => .inr ⟨g, off, cap, t0, arr, (0, 0), rfl, (hs.hold g _ ho).1, hg, NoFz.zero _, hlc, hcm, hcs, fun o h1 h2 q => ?_⟩⟩
          rcases q with q | q
          · exact x1 o q
          · have h1 : off + l.length * U.size c ≤ o := h1
            omega
        · obtain ⟨v', e1, e2, e3⟩ := hs.row j r e
          refine ⟨v', e1, e2.keep (fun _ _ q => .inl q) (fun _ _ _ => rfl), fun hown => (e3 hown).keep (fun _ _ => rfl) (fun b hb o q => ?_)⟩
          rcases q with q | q
          · exact q
          · exact absurd (by rw [hb, q.1]) (x3 j r v' e hown e1)
      · rcases hl e1 with ⟨rfl, rfl⟩ | ⟨q, e1⟩
        · have e3 : ν.f j = some v' := e3
          rw [ev] at e3; cases e3
          intro hb
          cases hb
          exact x2 id e4 e5
        · exact hs.apart j r v' id b e1 e2 e3 e4 e5
      · rcases hl e1 with ⟨rfl, rfl⟩ | ⟨q, e1'⟩
        · have e3 : ν.f j = some v1 := e3
          rw [ev] at e3; cases e3
          rcases hl e4 with ⟨rfl, rfl⟩ | ⟨q', e4⟩
          · rfl
          · cases e7
            exact absurd e8 (x3 j' r' v2 e4 e5 e6)
        · rcases hl e4 with ⟨rfl, rfl⟩ | ⟨q', e4⟩
          · have e6 : ν.f j' = some v2 := e6
            rw [ev] at e6; cases e6
            cases e8
            exact absurd e7 (x3 j r v1 e1' e2 e3)
          · exact hs.apart2 j r v1 j' r' v2 b e1' e2 e3 e4 e5 e6 e7 e8
      · rcases e with e | e
        · exact hs.new b o e
        · rw [e.1]; exact .inr (hs.hold g _ ho).1
      · by_cases q : k = g
        · subst q
          have e : (if k = k then none else ν.o k) = some x := e
          rw [if_pos rfl] at e; cases e
        · exact hs.hold k x ((if_neg q).symm.trans e)
      · by_cases q : k = g
        · subst q
          have e : (if k = k then none else ν.o k) = some x := e
          rw [if_pos rfl] at e; cases e
        · have e : ν.o k = some x := (if_neg q).symm.trans e
          refine ⟨fun o z => ?_, (hs.hx k x e hc).2.1, fun j r v' e1 e2 e3 => ?_⟩
          · rcases z with z | z
            · exact (hs.hx k x e hc).1 o z
            · exact q z.1
          · rcases hl e1 with ⟨rfl, rfl⟩ | ⟨_, e1⟩
            · have e3 : ν.f j = some v' := e3
              rw [ev] at e3; cases e3
              intro hb; cases hb; exact q rfl
            · exact (hs.hx k x e hc).2.2 j r v' e1 e2 e3
      · by_cases q : k = g
        · subst q; rw [ho] at e; cases e; cases hc
        · exact (if_neg q).trans e
      · refine hrk.but hle (G := fun k => k = g) (fun k hk => if_neg hk) none (fun p hp => ?_) (fun p e => by cases e)
        obtain ⟨r1, r2⟩ := mem_dropRec hp
        refine .inr ⟨r2, fun g' e e' => r1 ?_⟩
        subst e'
        refine hrk.2 p.1 _ p.2 _ g' r2 hm e ?_
        simp only [blkOf, Nat.add_sub_cancel, ev]; rfl
  · exact ⟨ν, F, hs, ⟨fun _ _ e => e, fun _ _ e => e⟩, fun n => ν.le_refl.leN n, hrk⟩
theorem freeze1_rest (fid : Nat) : (freeze1 fid s).tmps = s.tmps ∧ (freeze1 fid s).next = s.next := by
  unfold freeze1; split <;> exact ⟨rfl, rfl⟩
theorem freezeL_rest : ∀ (l : List Nat) (s : St U), (freezeL l s).tmps = s.tmps ∧ (freezeL l s).next = s.next
  | [], s => ⟨rfl, rfl⟩
  | f :: l, s => by
    obtain ⟨a1, a2⟩ := freezeL_rest l (freeze1 f s)
    obtain ⟨b1, b2⟩ := freeze1_rest (s := s) f
    exact ⟨a1.trans b1, a2.trans b2⟩
theorem freezeL_ok : ∀ (l : List Nat) {s : St U} {ν : Nu} {F : Nat → Nat → Prop}, Sim U w0 F0 Fr s.heap s.rows w ν F → RecsOk ν s.recs →
    ∃ ν' F', Sim U w0 F0 Fr (freezeL l s).heap (freezeL l s).rows w ν' F' ∧ ν.lb ν' ∧ (∀ n, ν.leN n ν') ∧ RecsOk ν' (freezeL l s).recs
  | [], s, ν, F, hs, hrk => ⟨ν, F, hs, ⟨fun _ _ e => e, fun _ _ e => e⟩, fun n => ν.le_refl.leN n, hrk⟩
  | f :: l, s, ν, F, hs, hrk => by
    obtain ⟨ν1, F1, a1, a2, a3, a4⟩ := freeze1_ok hs hrk f
    obtain ⟨ν2, F2, b1, b2, b3, b4⟩ := freezeL_ok l a1 a4
    exact ⟨ν2, F2, b1, Nu.lb_trans a2 b2, fun n => Nu.leN_trans (a3 n) (b3 n), b4⟩

/-! ### Calls by contract that are handed such rows -/
theorem look_xRows {fid : Nat} {r : Row U} : ∀ {l : List (Nat × RS U)}, look fid (xRows l) = some r → r.own = false ∧ (fid + 1000000000, RS.row r.c r.l) ∈ l
  | [], h => by cases h
  | (k, x) :: l, h => by
    cases x with
    | row c lr =>
      simp only [xRows] at h
      cases hb : Nat.ble 1000000000 k with
      | false =>
        rw [hb] at h
        obtain ⟨q1, q2⟩ := look_xRows h
        exact ⟨q1, List.mem_cons_of_mem _ q2⟩
      | true =>
        rw [hb] at h
        simp only [look] at h
        split at h
        · rename_i e
          cases h
          have hk := Nat.le_of_ble_eq_true hb
          refine ⟨rfl, ?_⟩
          have : fid + 1000000000 = k := by omega
          rw [this]; exact List.mem_cons_self ..
        · obtain ⟨q1, q2⟩ := look_xRows h
          exact ⟨q1, List.mem_cons_of_mem _ q2⟩
    | ready => obtain ⟨q1, q2⟩ := look_xRows (l := l) h; exact ⟨q1, List.mem_cons_of_mem _ q2⟩
    | busy => obtain ⟨q1, q2⟩ := look_xRows (l := l) h; exact ⟨q1, List.mem_cons_of_mem _ q2⟩
    | done c => obtain ⟨q1, q2⟩ := look_xRows (l := l) h; exact ⟨q1, List.mem_cons_of_mem _ q2⟩
/-- All of them as rows that are read. -/
theorem thaw_ok (hs : Sim U w0 F0 Fr s.heap s.rows w ν F) (hrk : RecsOk ν s.recs) :
    ∃ ν' F', Sim U w0 F0 Fr s.heap (s.rows ++ xRows s.recs) w ν' F' ∧ ν.lb ν' := by
  let o1 : Nat → Option Obj := fun k => match ν.o k with | some x => (match isC x with | true => none | false => some x) | none => none
  have ho : ∀ {k x}, o1 k = some x → ν.o k = some x ∧ isC x = false := fun {k x} e => by
    simp only [o1] at e
    split at e
    · rename_i y hy
      split at e
      · cases e
      · rename_i hc; cases e; exact ⟨hy, hc⟩
    · cases e
  have hle := ν.lb_setO o1
  have hH : ∀ {b o}, (F b o ∨ ∃ x, ν.o b = some x ∧ isC x = true) → F b o ∨ ∃ x, ν.o b = some x ∧ isC x = true := fun h => h
  have hown : ∀ {j r}, look j (s.rows ++ xRows s.recs) = some r → (look j s.rows = some r) ∨ (r.own = false ∧ (j + 1000000000, RS.row r.c r.l) ∈ s.recs) := fun {j r} e => by
    rw [look_append] at e
    split at e
    · rename_i hh; rw [hh]; exact .inl e
    · exact .inr (look_xRows e)
  refine ⟨ν.setO o1, fun b o => F b o ∨ ∃ x, ν.o b = some x ∧ isC x = true, ⟨hs.below, fun id t cs e => ?_, hs.inj, fun b o e => ?_, fun j r e => ?_, fun j r v' id b e1 e2 e3 e4 e5 => ?_, fun j r v1 j' r' v2 b e1 e2 e3 e4 e5 e6 e7 e8 => ?_, hs.free, fun b o e => .inl (hs.sub b o e), fun b o e => ?_, fun k x e => hs.hold k x (ho e).1, fun k x e hc => ?_⟩, hle⟩
  · obtain ⟨b, arr', e1, e2, e3, e4, e5⟩ := hs.box id t cs e
    exact ⟨b, arr', e1, e2, e3, e4.lb hle, fun o q => by
      rcases q with q | ⟨x, q1, q2⟩
      · exact e5 o q
      · exact (hs.hx b x q1 q2).2.1 id (by rw [e]; rfl) e1⟩
  · rcases e with e | ⟨x, e, _⟩
    · exact hs.lt b o e
    · exact hs.holdLt e
  · rcases hown e with e | ⟨e1, e2⟩
    · obtain ⟨v', e1, e2, e3⟩ := hs.row j r e
      refine ⟨v', e1, e2.keep (fun _ _ q => .inl q) (fun _ _ _ => rfl), fun hown => (e3 hown).keep (fun _ _ => rfl) (fun b hb o q => ?_)⟩
      rcases q with q | ⟨x, q1, q2⟩
      · exact q
      · exact absurd hb ((hs.hx b x q1 q2).2.2 j r v' e hown e1)
    · obtain ⟨_, v, ev, hfl, hv⟩ := hrk.1 _ _ e2
      rw [Nat.add_sub_cancel] at ev
      refine ⟨v, ev, ?_, fun c => by rw [e1] at c; cases c⟩
      rcases hv with ⟨rfl, q⟩ | ⟨g, off, cap, t0, arr, rfl, ho', hlc, hcm, hcs, hcell⟩
      · rw [q]; exact ⟨1, none, 0, 0, rfl, rfl, Nat.le_refl _, Nat.zero_le _, fun h => absurd h (Nat.lt_irrefl _)⟩
      · exact xrow_reads (hs.hold g _ ho').2.1 hlc hcm hcell (fun o _ _ => .inr ⟨_, ho', rfl⟩)
  · rcases hown e1 with e1 | ⟨q, _⟩
    · exact hs.apart j r v' id b e1 e2 e3 e4 e5
    · rw [q] at e2; cases e2
  · rcases hown e1 with e1 | ⟨q, _⟩
    · rcases hown e4 with e4 | ⟨q, _⟩
      · exact hs.apart2 j r v1 j' r' v2 b e1 e2 e3 e4 e5 e6 e7 e8
      · rw [q] at e5; cases e5
    · rw [q] at e2; cases e2
  · rcases e with e | ⟨x, e, _⟩
    · exact hs.new b o e
    · exact .inr (hs.hold b x e).1
  · have := (ho e).2
    rw [this] at hc; cases hc
theorem atomsOf_v {kx : Nat} : ∀ (cs : List (CV U.C U.T)) (j : Nat) {as : List Atom}, atomsOf kx cs j = (as, []) → ∀ x ∈ as, ∃ v, x = Atom.v v
  | [], j, as, h => by cases h; exact fun x hx => by cases hx
  | .v y :: cs, j, as, h => by
    unfold atomsOf at h
    cases e : atomsOf kx cs j with
    | mk as' rs' =>
      rw [e] at h
      cases h
      exact fun x hx => by
        rcases List.mem_cons.mp hx with rfl | hx
        · exact ⟨_, rfl⟩
        · exact atomsOf_v cs j e x hx
  | .sl c l :: cs, j, as, h => by
    unfold atomsOf at h
    cases e : atomsOf kx cs (j + 1) with
    | mk as' rs' => rw [e] at h; cases h
theorem DenL_allv {ν ν' : Nu} {l : List Atom} {r : List Value} (h : ∀ x ∈ l, ∃ v, x = Atom.v v) (d : DenL ν l r) : DenL ν' l r :=
  ⟨d.1, d.2.1, fun j x y e1 e2 => by
    obtain ⟨v, rfl⟩ := h x (List.mem_of_getElem? e1)
    exact d.2.2 j _ y e1 e2⟩
theorem outs_v {kx : Nat} : ∀ (ds : List (D U)) (j : Nat) {x : List (Bool × List Atom)}, outs kx ds j = (x, []) → ∀ p ∈ x, ∀ z ∈ p.2, ∃ v, z = Atom.v v
  | [], j, x, h => by cases h; exact fun p hp => by cases hp
  | d :: ds, j, x, h => by
    unfold outs at h
    cases e1 : atomsOf kx d.cs j with
    | mk as rs1 =>
      simp only [e1] at h
      cases e2 : outs kx ds (j + rs1.length) with
      | mk x2 rs2 =>
        simp only [e2, Prod.mk.injEq, List.append_eq_nil_iff] at h
        obtain ⟨rfl, rfl, rfl⟩ := h
        exact fun p hp => by
          rcases List.mem_cons.mp hp with rfl | hp
          · exact atomsOf_v d.cs j e1
          · exact outs_v ds _ e2 p hp
theorem outOf_v {kx : Nat} {out : Out U} {x : SV} (e : outOf kx out = some (x, [])) {ν ν' : Nu} {y : Value} (d : DenSV ν x y) : DenSV ν' x y := by
  cases out with
  | one d1 =>
    simp only [outOf] at e
    cases e1 : atomsOf kx d1.cs 0 with
    | mk as rs1 =>
      simp only [e1] at e
      split at e
      · cases e
        obtain ⟨arr, q1, q2⟩ := d
        exact ⟨arr, q1, DenL_allv (atomsOf_v _ _ e1) q2⟩
      · split at e
        · cases e
          obtain ⟨v, rfl⟩ := atomsOf_v _ _ e1 _ (List.mem_cons_self ..)
          exact d
        · cases e
  | tup ds =>
    simp only [outOf] at e
    cases e1 : outs kx ds 0 with
    | mk x1 rs1 =>
      simp only [e1] at e
      cases e
      obtain ⟨arr, q1, q2, q3⟩ := d
      refine ⟨arr, q1, q2, fun j p z p1 p2 => ?_⟩
      have hv := outs_v ds 0 e1 p (List.mem_of_getElem? p1)
      have := q3 j p z p1 p2
      unfold DenC at this ⊢
      cases hp : p.1 with
      | true => rw [hp] at this; obtain ⟨arr2, r1, r2⟩ := this; exact ⟨arr2, r1, DenL_allv hv r2⟩
      | false =>
        rw [hp] at this
        obtain ⟨b, r1, r2⟩ := this
        obtain ⟨v, rfl⟩ := hv b (by rw [r1]; exact List.mem_cons_self ..)
        exact ⟨_, r1, r2⟩
theorem x_call (hs : Sim U w0 F0 (fun k => s.next ≤ k) s.heap s.rows w ν F) (hrk : RecsOk ν s.recs) (ht : TOk ν s.tmps a.tmps) {G : World → Prop} (hG : G w) (hΓ : COk P U G Γ) {c : Call} {n : Nat} (hop : o.op = .call c) (hc : c.callee = .value (.func n)) {Kn : TV → St U → Prop} {p : Prop} (h : xCall P Γ s n c Kn = some p) (hp : p) :
    ∃ v s', Kn (.pl v) s' ∧ s.next ≤ s'.next ∧ Fin P o a w (XPost U w0 F0 ν a s.next s' v) := by
  unfold xCall at h
  split at h
  · rename_i g hg
    split at h
    · rename_i ds hds
      split at h
      · rename_i r1 hr1
        split at h
        · rename_i v hout
          cases h
          have hpre : obOK r1.pre := by cases hh : r1.pre with | none => exact True.intro | some q => rw [hh] at hp; exact hp.1
          have hkn : Kn (.pl v) { s with next := s.next + 1 } := by cases hh : r1.pre with | none => rw [hh] at hp; exact hp | some q => rw [hh] at hp; exact hp.2
          obtain ⟨ν2, F2, t1, t2⟩ := thaw_ok hs hrk
          obtain ⟨hcall, hcon⟩ := hΓ.con n g hg
          obtain ⟨q1, q2⟩ := dsOf_den (a := a) (s := { s with rows := s.rows ++ xRows s.recs }) t1 (ht.lb t2) c.args.toList c.argTypes.toList ds hds
          refine ⟨_, _, hkn, Nat.le_succ _, Fin.call (f := n) (args := c.args.map a.eval) (w' := w) ?_ ?_⟩
          · simp only [execOp, hop, Sem.run_bind, resolve_func hc, Result.andThen_ok, invoke]
            simp only [Array.append_empty]
            exact callFunc_run hcall _ w
          · refine (hcon ds r1 hr1 hpre w F2 (c.args.map a.eval) hG t1.lt (by simp [q1]) (fun j d v e1 e2 => q2 j d v e1 (by simpa [← Array.getElem?_toList] using e2))).mono ?_
            rintro e w' ⟨y, rfl, F', hb, f1, f2, f3, hd⟩
            refine ⟨y, rfl, ?_⟩
            have hs' : Sim U w0 F0 (fun k => s.next ≤ k) s.heap s.rows w' ν F := hs.grow hb (fun _ _ x => x) (fun _ _ x => .inl x) (fun b o x => Nat.lt_of_lt_of_le (hs.lt b o x) hb.size)
            have ht' : Sim U w0 F0 (fun k => s.next ≤ k ∧ k ≠ s.next) s.heap (s.rows ++ xRows s.recs) w' ν2 F' := (t1.grow hb f1 f2 f3).fr fun _ h => h.1
            obtain ⟨ν', a1, a2, a3⟩ := outOf_den (s := s) ht' (fun h => h.2 rfl) (fun i hi => (t1.free s.next (Nat.le_refl _)).2 i hi) hout (Nat.zero_le _) hd
            exact ⟨ν, F, hs'.fr (fun k hk => Nat.le_trans (Nat.le_succ _) hk), ν.le_refl.leN _, hrk, ht, outOf_v hout a3⟩
        · cases h
      · cases h
    · cases h
  · cases h
theorem x_build0 (hs : Sim U w0 F0 (fun k => s.next ≤ k) s.heap s.rows w ν F) (hrk : RecsOk ν s.recs) (ht : TOk ν s.tmps a.tmps) {t : TypeId} {len : Nat} {parts : Array (Nat × Operand)} (hop : o.op = .buildSlice t len parts) {Kn : TV → St U → Prop} {p : Prop} (h : xBuild0 P Γ s t len parts Kn = some p) (hp : p) :
    ∃ v s', Kn (.pl v) s' ∧ s.next ≤ s'.next ∧ Fin P o a w (XPost U w0 F0 ν a s.next s' v) := by
  unfold xBuild0 at h
  split at h
  · rename_i e hu hpl
    split at h
    · rename_i c z hc hz
      split at h
      · rename_i hcond
        cases h
        simp only [Bool.and_eq_true, decide_eq_true_eq] at hcond
        obtain ⟨ie, hie, hsz⟩ := Option.map_eq_some_iff.mp hz
        have hp0 : parts = #[] := by rw [← Array.toArray_toList (xs := parts), hpl]
        obtain ⟨ν', g1, g2, g3, g4, g5⟩ := x_new (a := a) hs hrk ht (c := c) (l := []) hcond.2 (cells := #[]) (e := e) (cap := 0) (by simp) (by simp) (by simp [maxLen]) (fun k hk' => absurd hk' (Nat.not_lt_zero _)) (recs' := s.recs) (fun p hp => hp)
        refine ⟨_, _, hp, Nat.le_succ _, Fin.value (y := .slice (some ⟨w.heap.size, 0, none⟩) 0 0) ?_ ⟨ν', F, g1, g2, g3, g4, g5⟩⟩
        simp only [execOp, hop, hp0]
        refine run_op (w' := w.alloc (.cells #[] e)) ?_ _
        simp [Instr.buildSlice, run_underlying hu, sizeOf, typeInfo, hie, Instr.fill, newRow]
        have e0 : (Array.range 0 : Array Nat) = #[] := by apply Array.ext <;> simp
        rw [e0, Array.map_empty]
      · cases h
    · cases h
  · cases h
/-- Operations on rows that are written in do what is told of them. -/
theorem xSpecial_sound (hs : Sim U w0 F0 (fun k => s.next ≤ k) s.heap s.rows w ν F) (hrk : RecsOk ν s.recs) (ht : TOk ν s.tmps a.tmps) {G : World → Prop} (hG : G w) (hΓ : COk P U G Γ) {Kn : TV → St U → Prop} {p : Prop} (h : xSpecial P Γ s o Kn = some p) (hp : p) :
    ∃ v s', Kn (.pl v) s' ∧ s.next ≤ s'.next ∧ Fin P o a w (XPost U w0 F0 ν a s.next s' v) := by
  unfold xSpecial at h
  split at h
  · cases h
  · split at h
    · rename_i t x y hop; exact x_store hs hrk ht hop h hp
    · rename_i t l c hop; exact x_make hs hrk ht hop h hp
    · rename_i t len parts hop; exact x_build0 hs hrk ht hop h hp
    · rename_i c hop
      split at h
      · rename_i hc
        split at h
        · rename_i x y t t' hargs htys; exact x_append hs hrk ht hop hc hargs htys h hp
        · cases h
      · rename_i f hc; exact x_call hs hrk ht hG hΓ hop hc h hp
      · cases h
    · cases h
end
end Go.RX

/- Symbolic runs of Go functions: an operation behind a guard, and regions that keep the order of the text. -/
namespace Go.RX
open Go.RowKit
set_option linter.unusedSimpArgs false
set_option linter.unusedVariables false

section
variable {P : Program} {U : Uni} {Γ : Con U} {s s' : St U} {kx : Nat} {o : Oper} {r : Ran U} {w0 w : World} {F0 : Nat → Nat → Prop} {Fr : Nat → Prop} {ν : Nu} {F : Nat → Nat → Prop} {a : Act} {ops : Array Oper}

theorem tmps_app (u : Upd U) : (s.app kx u).tmps = s.tmps := by cases u <;> rfl
theorem next_app (u : Upd U) : (s.app kx u).next = s.next := by cases u <;> rfl
theorem recs_app (u : Upd U) : (s.app kx u).recs = s.recs := by cases u <;> rfl
theorem recs_put (d : Option Tmp) (v : TV) : (s.put d v).recs = s.recs := by cases d <;> rfl

theorem undef_ne (b : Bool) : ¬ (undef : Value) = .bool b := by unfold undef; intro c; cases c

theorem guardB_spec (ht : TOk ν s.tmps a.tmps) : ∀ (n d : Nat) (want g : Bool), guardB s n d want = some g → (g = true ↔ a.tmps.getD d undef = .bool want)
  | 0, d, want, g, h => by cases h
  | n + 1, d, want, g, h => by
    simp only [guardB] at h
    have key : ∀ x, s.tmps.getD d (.pl (.one .junk)) = x → x ≠ .pl (.one .junk) → DenTV ν a.tmps x (a.tmps.getD d undef) := fun x e hx => by
      rw [List.getD_eq_getElem?_getD] at e
      cases hh : s.tmps[d]? with
      | none => rw [hh] at e; exact absurd e.symm hx
      | some z => rw [hh] at e; cases e; exact ht.2 d z hh
    split at h
    · rename_i b e
      have := key _ e (by simp)
      have this : a.tmps.getD d undef = .bool b := this
      cases h
      rw [this]
      cases want <;> cases b <;> simp
    · rename_i e w b e1
      have := key _ e1 (by simp)
      obtain ⟨h1, h2⟩ := this
      split at h
      · rename_i g0 hg0
        cases h
        have ih := guardB_spec ht n e w g0 hg0
        by_cases q : a.tmps.getD e undef = .bool w
        · have q1 : a.tmps.getD d undef = .bool b := h1 q
          have q2 : g0 = true := ih.mpr q
          rw [q1, q2]
          cases want <;> cases b <;> simp
        · have q1 : a.tmps.getD d undef = undef := h2 q
          have q2 : g0 = false := by cases g0 <;> simp_all
          rw [q1, q2]
          exact ⟨fun c => by simp at c, fun c => absurd c (undef_ne _)⟩
      · cases h
    · cases h

theorem seen_ok (ht : TOk ν s.tmps a.tmps) {d : Nat} {want : Bool} (h : a.tmps.getD d undef = .bool want) : TOk ν (seen d want s).tmps a.tmps := by
  refine ⟨by simp [seen, ht.1], fun j x e => ?_⟩
  simp only [seen, List.getElem?_map] at e
  cases hh : s.tmps[j]? with
  | none => rw [hh] at e; cases e
  | some z =>
    rw [hh] at e
    cases e
    have k := ht.2 j z hh
    cases z with
    | pl x => exact k
    | opt e w x =>
      simp only [seenTV]
      split
      · rename_i q
        obtain ⟨rfl, rfl⟩ := q
        exact k.1 h
      · exact k

theorem wanted_guard {j : Nat} {want : Bool} {d : Nat} (hg : o.guard = some (j, want)) (hd : dstOf ops j = some d) : Region.wanted o (yielded ops a.tmps) = true ↔ a.tmps.getD d undef = .bool want := by
  unfold dstOf at hd
  split at hd
  · rename_i o' ho'
    simp only [Region.wanted, hg, yielded, ho', Option.bind_some, hd]
    rw [Array.getD_eq_getD_getElem?]
    cases hh : a.tmps[d]? with
    | none => simp [undef_ne]
    | some v => cases v <;> simp
  · cases hd

/-- One operation of a region. -/
theorem condR_true : ∀ (l : List (Nat × Row U)), condR true l = l := by
  intro l
  induction l with
  | nil => rfl
  | cons x l ih => obtain ⟨i, c, l0, own⟩ := x; simp only [condR, ih, Bool.and_true, if_true]
theorem Rd.nil (c : U.C) : Rd U F w (.slice none 0 0) c [] := ⟨1, none, 0, 0, rfl, rfl, Nat.le_refl _, Nat.zero_le _, fun h => absurd h (Nat.lt_irrefl _)⟩
theorem Sim.addNils {heap : List (Nat × TypeId × List Atom)} {rows : List (Nat × Row U)} (h : Sim U w0 F0 Fr heap rows w ν F) (hk : ¬ Fr kx) : ∀ (l : List (Nat × Row U)), condOK kx l = true → (∀ j, j < 16 → ν.f (16 * kx + j) = none) →
    ∃ ν', ν.le ν' ∧ Sim U w0 F0 Fr heap (condR false l ++ rows) w ν' F ∧ ∀ i, l.all (fun x => decide (x.1 ≠ i)) = true → ν'.f i = ν.f i := by
  intro l
  induction l with
  | nil => intro _ _; exact ⟨ν, ν.le_refl, h, fun _ _ => rfl⟩
  | cons x l ih =>
    obtain ⟨i, r⟩ := x
    intro hc hn
    simp only [condOK, Bool.and_eq_true, decide_eq_true_eq] at hc
    obtain ⟨⟨⟨c1, c2⟩, c3⟩, c4⟩ := hc
    obtain ⟨ν', le, q1, q2⟩ := ih c4 hn
    have hi : ν'.f i = none := by
      rw [q2 i c3]
      have := hn (i - 16 * kx) (by omega)
      rwa [show 16 * kx + (i - 16 * kx) = i by omega] at this
    have q3 := q1.addRow (fid := i) hi (fun k j hk' hj e => by
      have : k = kx := by omega
      subst this; exact hk hk') (Rd.nil r.c)
    refine ⟨ν'.setF i (.slice none 0 0), Nu.le_trans le (Nu.le_setF hi), ?_, fun j hj => ?_⟩
    · have e : condR false ((i, r) :: l) ++ rows = (i, (⟨r.c, [], false⟩ : Row U)) :: (condR false l ++ rows) := by simp [condR]
      rw [e]; exact q3
    · simp only [List.all_cons, Bool.and_eq_true, decide_eq_true_eq] at hj
      show (if j = i then Option.some (Value.slice none 0 0) else ν'.f j) = ν.f j
      rw [if_neg (fun e => hj.1 e.symm)]
      exact q2 j hj.2
theorem rstepE_sound {ob : Option Prop} {tv : TV} {u : Upd U} (h : rstepE P Γ ops s kx o = some (ob, tv, u)) (hput : putOK s o.dst = true) (ho : obOK ob) (hs : Sim U w0 F0 Fr s.heap s.rows w ν F) (hrk : RecsOk ν s.recs) (hk : Fr kx) (ht : TOk ν s.tmps a.tmps) {G : World → Prop} (hG : G w) (hΓ : COk P U G Γ)
    {rf : Option Nat} {next : Act → World → Prop} {Q : Exit → Act → World → Prop}
    (hn : ∀ a' w' ν' F', a'.defers = a.defers → ν.le ν' → Sim U w0 F0 (fun k => Fr k ∧ k ≠ kx) (s.app kx u).heap (s.app kx u).rows w' ν' F' → TOk ν' ((s.app kx u).put o.dst tv).tmps a'.tmps → next a' w') :
    (Region.wanted o (yielded ops a.tmps) = true → o.wpIn (fenceOf rf) 0 P a w next Q) ∧ (Region.wanted o (yielded ops a.tmps) = false → next (a.put o.dst undef) w) := by
  have hdef : ∀ y, (a.put o.dst y).defers = a.defers := fun y => by cases hd : o.dst <;> simp [Act.put]
  unfold rstepE at h
  split at h
  · rename_i hg
    split at h
    · rename_i r hr
      cases h
      refine ⟨fun _ => ?_, fun e => by simp [Region.wanted, hg] at e⟩
      refine rval_sound hr ho hs hrk hk ht hG hΓ rf next Q ?_
      rintro y w' ⟨ν', F', l, q1, q2⟩
      refine hn _ w' ν' F' (hdef y) l q1 ?_
      have ht' : TOk ν' (s.app kx r.u).tmps a.tmps := by rw [tmps_app]; exact ht.mono l
      have hput' : putOK (s.app kx r.u) o.dst = true := by
        have : putOK (s.app kx r.u) o.dst = putOK s o.dst := by unfold putOK; rw [tmps_app]
        rw [this]; exact hput
      exact TOk.put ht' o.dst hput' (x := .pl r.v) (y := y) (defers := a.defers) q2
    · cases h
  · rename_i j want hg
    split at h
    · rename_i d hd
      split at h
      · rename_i g hgb hoth
        have hspec := guardB_spec ht 8 d want g hgb
        have hw := wanted_guard (a := a) hg hd
        split at h
        · rename_i ob' v hr
          cases h
          have hgetd : ∀ y, (a.put o.dst y).tmps.getD d undef = a.tmps.getD d undef := fun y => by
            cases hdd : o.dst with
            | none => rfl
            | some e =>
              simp only [Act.put]
              rw [hdd] at hoth
              exact getD_set_ne' _ _ _ _ (by simpa [otherDst] using hoth)
          refine ⟨fun e => ?_, fun e => ?_⟩
          · have e1 := hw.mp e
            have hgt := hspec.mpr e1
            have ho' : obOK ob' := by
              cases ob' with
              | none => exact True.intro
              | some p => exact ho hgt
            have hs' : Sim U w0 F0 Fr (seen d want s).heap (seen d want s).rows w ν F := hs
            refine rval_sound (s := seen d want s) hr ho' hs' hrk hk (seen_ok ht e1) hG hΓ rf next Q ?_
            rintro y w' ⟨ν', F', l, q1, q2⟩
            refine hn _ w' ν' F' (hdef y) l q1 ?_
            refine TOk.put (s := s) (ht.mono l) o.dst hput (x := .opt d want v) (y := y) (defers := a.defers) ⟨fun _ => q2, fun c => ?_⟩
            exact absurd ((hgetd y).trans e1) c
          · have e1 : ¬ a.tmps.getD d undef = .bool want := fun c => by rw [hw.mpr c] at e; cases e
            refine hn _ w ν F (hdef undef) ν.le_refl (hs.fr fun _ h => h.1) ?_
            exact TOk.put (s := s) ht o.dst hput (x := .opt d want v) (y := undef) (defers := a.defers) ⟨fun c => absurd ((hgetd undef).symm.trans c) e1, fun _ => rfl⟩
        · rename_i ob' v l hr
          by_cases hcond : condOK kx l = true
          · rw [if_pos hcond] at h
            cases h
            have hgetd : ∀ y, (a.put o.dst y).tmps.getD d undef = a.tmps.getD d undef := fun y => by
              cases hdd : o.dst with
              | none => rfl
              | some e =>
                simp only [Act.put]
                rw [hdd] at hoth
                exact getD_set_ne' _ _ _ _ (by simpa [otherDst] using hoth)
            refine ⟨fun e => ?_, fun e => ?_⟩
            · have e1 := hw.mp e
              have hgt := hspec.mpr e1
              have ho' : obOK ob' := by
                cases ob' with
                | none => exact True.intro
                | some p => exact ho hgt
              subst hgt
              rw [condR_true] at hn
              have hs' : Sim U w0 F0 Fr (seen d want s).heap (seen d want s).rows w ν F := hs
              refine rval_sound (s := seen d want s) hr ho' hs' hrk hk (seen_ok ht e1) hG hΓ rf next Q ?_
              rintro y w' ⟨ν', F', le, q1, q2⟩
              refine hn _ w' ν' F' (hdef y) le q1 ?_
              refine TOk.put (s := s.app kx (.rows l)) (ht.mono le) o.dst hput (x := .opt d want v) (y := y) (defers := a.defers) ⟨fun _ => q2, fun c => ?_⟩
              exact absurd ((hgetd y).trans e1) c
            · have e1 : ¬ a.tmps.getD d undef = .bool want := fun c => by rw [hw.mpr c] at e; cases e
              have hgf : g = false := by
                cases hg2 : g with
                | false => rfl
                | true => exact absurd (hspec.mp hg2) e1
              subst hgf
              obtain ⟨ν', le, q1, _⟩ := (hs.fr (Fr' := fun k => Fr k ∧ k ≠ kx) fun _ h => h.1).addNils (kx := kx) (fun h => h.2 rfl) l hcond (fun j hj => (hs.free kx hk).2 j hj)
              refine hn _ w ν' F (hdef undef) le q1 ?_
              exact TOk.put (s := s.app kx (.rows (condR false l))) (ht.mono le) o.dst hput (x := .opt d want v) (y := undef) (defers := a.defers) ⟨fun c => absurd ((hgetd undef).symm.trans c) e1, fun _ => rfl⟩
          · rw [if_neg hcond] at h; cases h
        · cases h
      · cases h
    · cases h

theorem heap_put (d : Option Tmp) (v : TV) : (s.put d v).heap = s.heap := by cases d <;> rfl
theorem rows_put (d : Option Tmp) (v : TV) : (s.put d v).rows = s.rows := by cases d <;> rfl
theorem rstep_sound {ob : Option Prop} (h : rstep P Γ ops s kx o = some (ob, s')) (ho : obOK ob) (hs : Sim U w0 F0 Fr s.heap s.rows w ν F) (hrk : RecsOk ν s.recs) (hk : Fr kx) (ht : TOk ν s.tmps a.tmps) {G : World → Prop} (hG : G w) (hΓ : COk P U G Γ)
    {rf : Option Nat} {next : Act → World → Prop} {Q : Exit → Act → World → Prop}
    (hn : ∀ a' w' ν' F', a'.defers = a.defers → ν.le ν' → Sim U w0 F0 (fun k => Fr k ∧ k ≠ kx) s'.heap s'.rows w' ν' F' → TOk ν' s'.tmps a'.tmps → next a' w') :
    (Region.wanted o (yielded ops a.tmps) = true → o.wpIn (fenceOf rf) 0 P a w next Q) ∧ (Region.wanted o (yielded ops a.tmps) = false → next (a.put o.dst undef) w) := by
  unfold rstep at h
  split at h
  · rename_i hput
    split at h
    · rename_i ob' v u hr
      split at h
      rotate_left
      · cases h
      cases h
      refine rstepE_sound hr hput ho hs hrk hk ht hG hΓ fun a' w' ν' F' e1 e2 e3 e4 => hn a' w' ν' F' e1 e2 ?_ e4
      rw [heap_put, rows_put]; exact e3
    · cases h
  · cases h

theorem rstep_next {ob : Option Prop} (h : rstep P Γ ops s kx o = some (ob, s')) : s'.next = s.next := by
  unfold rstep at h
  have hp : ∀ (s : St U) d v, (s.put d v).next = s.next := fun s d v => by cases d <;> rfl
  split at h
  · split at h
    · split at h
      · cases h; rw [hp, next_app]
      · cases h
    · cases h
  · cases h

theorem rstep_recs {ob : Option Prop} (h : rstep P Γ ops s kx o = some (ob, s')) : s'.recs = s.recs := by
  unfold rstep at h
  split at h
  · split at h
    · split at h
      · cases h; rw [recs_put, recs_app]
      · cases h
    · cases h
  · cases h

/-- What the callers hold: it hangs on what is below a number. -/
structure Frm where
  n : Nat
  R : Nu → Prop
  st : ∀ ν ν', ν.leN n ν' → R ν → R ν'
  fresh : Nat → Prop
  frs : ∀ ν D, R ν → (∀ x, ν.o D = some x → isC x = true) → fresh D
def Frm.none : Frm := ⟨0, fun _ => True, fun _ _ _ h => h, fun _ => True, fun _ _ _ _ => trivial⟩
def markOf (D : Nat) : Deferred := { target := .collected D, args := #[] }
/-- The deferred calls are marks of ranges over functions; fresh: what was not there when the function was called. -/
def Marks (fresh : Nat → Prop) (ν : Nu) (ds : List Deferred) : Prop := ∃ l : List Nat, ds = l.map markOf ∧ l.Nodup ∧ ∀ D ∈ l, ν.o D = some (.deferred (some [])) ∧ fresh D
theorem Marks.nil (fresh : Nat → Prop) (ν : Nu) : Marks fresh ν [] := ⟨[], rfl, List.nodup_nil, fun D h => by cases h⟩
theorem Marks.leN {fresh : Nat → Prop} {n : Nat} {ν ν' : Nu} (h : ν.leN n ν') {ds : List Deferred} (k : Marks fresh ν ds) : Marks fresh ν' ds := by
  obtain ⟨l, e, hn, ho⟩ := k
  refine ⟨l, e, hn, fun D hD => ?_⟩
  obtain ⟨y, e1, e2⟩ := h.2.2 D _ (ho D hD).1 rfl
  rcases e2 with rfl | ⟨r, _, _, e3, _⟩
  · exact ⟨e1, (ho D hD).2⟩
  · cases e3
/-- What the callers hold; the ranges' records; the marks. -/
def Frm.RR (fr : Frm) (recs : List (Nat × RS U)) (ds : List Deferred) (ν : Nu) : Prop := fr.R ν ∧ RecsOk ν recs ∧ Marks fr.fresh ν ds
theorem Frm.RR.le {fr : Frm} {recs : List (Nat × RS U)} {ds : List Deferred} {ν ν' : Nu} (h : ν.le ν') (k : fr.RR recs ds ν) : fr.RR recs ds ν' := ⟨fr.st _ _ (h.leN _) k.1, k.2.1.mono h, k.2.2.leN (h.leN 0)⟩
/-- How the state stands to the machine between two statements. -/
def SimS (U : Uni) (w0 : World) (F0 : Nat → Nat → Prop) (fr : Frm) (s : St U) (a : Act) (w : World) : Prop := fr.n ≤ s.next ∧ ∃ ν F, Sim U w0 F0 (fun k => s.next ≤ k) s.heap s.rows w ν F ∧ TOk ν s.tmps a.tmps ∧ fr.RR s.recs a.defers ν
def CtlIs (ν : Nu) : Ctl → Exit → Prop
  | .normal, e => e = .normal
  | .ret, e => e = .ret
  | .exit i, e => e = .exit i
  | .goto l, e => e = .goto l
  | .panic v, e => ∃ y, e = .panic [{ v := y, recovered := false }] ∧ DenSV ν v y
/-- The same where a text is left. -/
def SimC (U : Uni) (w0 : World) (F0 : Nat → Nat → Prop) (fr : Frm) (s : St U) (a : Act) (w : World) (ctl : Ctl) (e : Exit) : Prop := fr.n ≤ s.next ∧ ∃ ν F, Sim U w0 F0 (fun k => s.next ≤ k) s.heap s.rows w ν F ∧ TOk ν s.tmps a.tmps ∧ fr.RR s.recs a.defers ν ∧ CtlIs ν ctl e
theorem SimS.normal {fr : Frm} {w : World} {a : Act} {s : St U} (h : SimS U w0 F0 fr s a w) : SimC U w0 F0 fr s a w .normal .normal := by
  obtain ⟨h1, ν, F, h2, h3, h4⟩ := h
  exact ⟨h1, ν, F, h2, h3, h4, rfl⟩
theorem SimC.toS {fr : Frm} {w : World} {a : Act} {s : St U} {ctl : Ctl} {e : Exit} (h : SimC U w0 F0 fr s a w ctl e) : SimS U w0 F0 fr s a w := by
  obtain ⟨h1, ν, F, h2, h3, h4, _⟩ := h
  exact ⟨h1, ν, F, h2, h3, h4⟩

theorem clear_ok {t : List TV} {T : Array Value} (h : TOk ν t T) : TOk ν (t.map fun x => match x with | .opt _ _ _ => .pl (.one .junk) | x => x) T := by
  refine ⟨by simp [h.1], fun j x e => ?_⟩
  rw [List.getElem?_map] at e
  cases hh : t[j]? with
  | none => rw [hh] at e; cases e
  | some z =>
    rw [hh] at e
    cases e
    cases z with
    | pl x => exact h.2 j _ hh
    | opt _ _ _ => exact True.intro

theorem andP_left {p : Option Prop} {q : Prop} (h : andP p q) : obOK p := by cases p with | none => exact True.intro | some p => exact h.1
theorem andP_right {p : Option Prop} {q : Prop} (h : andP p q) : q := by cases p with | none => exact h | some p => exact h.2

/-- Where a call has come back to. -/
def Back (U : Uni) (w0 : World) (F0 : Nat → Nat → Prop) (fr : Frm) (T : Array Value) (Kn : SV → St U → Prop) : Value → World → Prop := fun y w' =>
  ∃ v s' ν' F', Kn v s' ∧ Sim U w0 F0 (fun k => s'.next ≤ k) s'.heap s'.rows w' ν' F' ∧ fr.n ≤ s'.next ∧ fr.R ν' ∧ RecsOk ν' s'.recs ∧ TOk ν' s'.tmps T ∧ DenSV ν' v y
/-- What is called ends so. -/
def CalOk (P : Program) (ν : Nu) (vs : List Value) (w : World) (R : Ending → World → Prop) : Cal → Prop
  | .fn f => callable P f = true ∧ Calls P f vs.toArray w R
  | .yl id => ∃ l f tmps assign body, ν.b id = some l ∧ (Instr.yield l vs.toArray).run P w = .ok (.round l f tmps assign body) w ∧ RoundIn (fenceOf none) 0 P l f tmps assign body w R
/-- A call that is read where it stands does what is told of it; YR: what the frame must hold. -/
def InlOk (P : Program) (U : Uni) (w0 : World) (F0 : Nat → Nat → Prop) (YR : Nu → Prop) (I : Inl U) : Prop := ∀ st cal args s Kn Kp p, I st cal args s Kn Kp = some p → p → ∀ (fr : Frm) (T : Array Value) (w : World) (ν : Nu) (F : Nat → Nat → Prop) (vs : List Value), (∀ ν, fr.R ν → YR ν) →
  Sim U w0 F0 (fun k => s.next ≤ k) s.heap s.rows w ν F → fr.n ≤ s.next → fr.R ν → RecsOk ν s.recs → TOk ν s.tmps T → args.length = vs.length → (∀ (j : Nat) x v, args[j]? = some x → vs[j]? = some v → DenSV ν x v) →
  CalOk P ν vs w (Ends (Back U w0 F0 fr T Kn) (Back U w0 F0 fr T Kp)) cal
/-- Bodies of ranges do what is told of them. -/
def YOk (P : Program) (U : Uni) (w0 : World) (F0 : Nat → Nat → Prop) (YR : Nu → Prop) (Y : YH U) : Prop := InlOk P U w0 F0 YR fun st cal args s Kn Kp => match cal with
  | .yl id => Y id st args s Kn Kp
  | .fn _ => none

theorem sv2_den {f : Nat} {caps : List (Nat × Nat)} {v : Value} (h : DenSV ν (.one (.fn f caps)) v) : ∃ cs : List Value, v = .func (.func f) #[] cs.toArray ∧ (sv2 caps).length = cs.length ∧ ∀ (j : Nat) x y, (sv2 caps)[j]? = some x → cs[j]? = some y → DenSV ν x y := by
  obtain ⟨cs, rfl, hl, hc⟩ := h
  refine ⟨cs, rfl, by simp [sv2, hl], fun j x y e1 e2 => ?_⟩
  simp only [sv2, List.getElem?_map] at e1
  obtain ⟨p, hp, rfl⟩ := Option.map_eq_some_iff.mp e1
  obtain ⟨b, e3, e4⟩ := hc j p hp
  rw [e4] at e2
  cases e2
  exact ⟨b, e3, rfl⟩

theorem eq_nil_at (d : Nat) {t e : TypeId} (hu : P.underlying t = some (.slice e)) (A : Option Addr) (n cap : Nat) (w : World) : (Op.equalIn (d + 1) t (.slice A n cap) (.slice none 0 0)).run P w = .ok A.isNone w := by
  cases A <;> simp [Op.equalIn, run_underlying hu]
theorem eq_nil_run {t e : TypeId} (hu : P.underlying t = some (.slice e)) (A : Option Addr) (n cap : Nat) (w : World) : (Op.equal t (.slice A n cap) (.slice none 0 0)).run P w = .ok A.isNone w := eq_nil_at 9999 hu A n cap w
theorem calFn_is {f : Nat} {x y : Array Value} {cal : Cal} {ex : List SV} (h : calFn f x y = some (cal, ex)) : cal = .fn f ∧ ex = [] ∧ x = #[] ∧ y = #[] := by
  unfold calFn at h
  cases hz : Nat.beq x.size 0 && Nat.beq y.size 0 with
  | false => rw [hz] at h; cases h
  | true =>
    rw [hz] at h
    cases h
    simp only [Bool.and_eq_true] at hz
    exact ⟨rfl, rfl, Array.eq_empty_of_size_eq_zero (Nat.eq_of_beq_eq_true hz.1), Array.eq_empty_of_size_eq_zero (Nat.eq_of_beq_eq_true hz.2)⟩
/-- What is called, as a value. -/
theorem calOf_den {x : SV} {cal : Cal} {ex : List SV} (h : calOf x = some (cal, ex)) {v : Value} (d : DenSV ν x v) :
    ∃ cs : List Value, ex.length = cs.length ∧ (∀ (j : Nat) x y, ex[j]? = some x → cs[j]? = some y → DenSV ν x y) ∧ (match cal with
      | .fn f => v = .func (.func f) #[] cs.toArray
      | .yl id => cs = [] ∧ ∃ l, ν.b id = some l ∧ v = .func (.yield l) #[] #[]) := by
  unfold calOf at h
  split at h
  · rename_i f caps
    cases h
    obtain ⟨cs, hv, q1, q2⟩ := sv2_den d
    exact ⟨cs, q1, q2, hv⟩
  · rename_i f x y
    obtain ⟨rfl, rfl, rfl, rfl⟩ := calFn_is h
    exact ⟨[], rfl, fun j x y e => by simp at e, d⟩
  · rename_i id
    cases h
    obtain ⟨l, e1, e2⟩ := d
    exact ⟨[], rfl, fun j x y e => by simp at e, rfl, l, e1, e2⟩
  · cases h
/-- A call that is read where it stands, as an operation. -/
theorem inl_fin {I : Inl U} {w0 : World} {F0 : Nat → Nat → Prop} {YR : Nu → Prop} (hI : InlOk P U w0 F0 YR I) {st : List Nat} {s s2 : St U} {o : Oper} {Kn Kp : SV → St U → Prop} {c : Call} {x : Operand} {cal : Cal} {ex : List SV} (hop : o.op = .call c) (hc : c.callee = .value x) (hx : calOf (s2.ev x) = some (cal, ex))
    {p : Prop} (h : I st cal (c.args.toList.map s2.ev ++ ex) s Kn Kp = some p) (hp : p) {fr : Frm} (hY : ∀ ν, fr.R ν → YR ν) {a : Act} {w : World} {ν : Nu} {F : Nat → Nat → Prop}
    (hs : Sim U w0 F0 (fun k => s.next ≤ k) s.heap s.rows w ν F) (hn : fr.n ≤ s.next) (hR : fr.RR s.recs a.defers ν) (ht : TOk ν s.tmps a.tmps) (ht2 : TOk ν s2.tmps a.tmps) :
    FinP P o a w (fun y w' => ∃ v s' ν' F', Kn v s' ∧ Sim U w0 F0 (fun k => s'.next ≤ k) s'.heap s'.rows w' ν' F' ∧ fr.n ≤ s'.next ∧ fr.RR s'.recs a.defers ν' ∧ TOk ν' s'.tmps a.tmps ∧ DenSV ν' v y)
      (fun y w' => ∃ v s' ν' F', Kp v s' ∧ Sim U w0 F0 (fun k => s'.next ≤ k) s'.heap s'.rows w' ν' F' ∧ fr.n ≤ s'.next ∧ fr.RR s'.recs a.defers ν' ∧ TOk ν' s'.tmps a.tmps ∧ DenSV ν' v y) := by
  have dx := TOk.ev (defers := a.defers) ht2 x
  obtain ⟨cs, q1, q2, hv⟩ := calOf_den hx dx
  have hargs : ∀ (j : Nat) y v, (c.args.toList.map s2.ev ++ ex)[j]? = some y → (c.args.toList.map a.eval ++ cs)[j]? = some v → DenSV ν y v := fun j y v e1 e2 => by
    rw [List.getElem?_append] at e1 e2
    simp only [List.length_map] at e1 e2
    split at e1
    · rename_i hlt
      rw [if_pos hlt] at e2
      rw [List.getElem?_map] at e1 e2
      obtain ⟨z, hz, rfl⟩ := Option.map_eq_some_iff.mp e1
      rw [hz] at e2
      cases e2
      exact TOk.ev (defers := a.defers) ht2 z
    · rename_i hge
      rw [if_neg hge] at e2
      exact q2 _ y v e1 e2
  have conv : ∀ {K : SV → St U → Prop} {y w'}, Back U w0 F0 ⟨fr.n, fun ν => fr.R ν ∧ Marks fr.fresh ν a.defers, fun ν ν' l h => ⟨fr.st ν ν' l h.1, h.2.leN l⟩, fr.fresh, fun ν D h e => fr.frs ν D h.1 e⟩ a.tmps K y w' → ∃ v s' ν' F', K v s' ∧ Sim U w0 F0 (fun k => s'.next ≤ k) s'.heap s'.rows w' ν' F' ∧ fr.n ≤ s'.next ∧ fr.RR s'.recs a.defers ν' ∧ TOk ν' s'.tmps a.tmps ∧ DenSV ν' v y := fun {K y w'} h => by
    obtain ⟨v, s', ν', F', k1, k2, k3, ⟨k4, k5⟩, k6, k7, k8⟩ := h
    exact ⟨v, s', ν', F', k1, k2, k3, ⟨k4, k6, k5⟩, k7, k8⟩
  have hcal := hI st cal _ s Kn Kp p h hp ⟨fr.n, fun ν => fr.R ν ∧ Marks fr.fresh ν a.defers, fun ν ν' l h => ⟨fr.st ν ν' l h.1, h.2.leN l⟩, fr.fresh, fun ν D h e => fr.frs ν D h.1 e⟩ a.tmps w ν F (c.args.toList.map a.eval ++ cs) (fun ν h => hY ν h.1) hs hn ⟨hR.1, hR.2.2⟩ hR.2.1 ht (by simp [q1]) hargs
  have ends : ∀ e w', Ends (Back U w0 F0 ⟨fr.n, fun ν => fr.R ν ∧ Marks fr.fresh ν a.defers, fun ν ν' l h => ⟨fr.st ν ν' l h.1, h.2.leN l⟩, fr.fresh, fun ν D h e => fr.frs ν D h.1 e⟩ a.tmps Kn) (Back U w0 F0 ⟨fr.n, fun ν => fr.R ν ∧ Marks fr.fresh ν a.defers, fun ν ν' l h => ⟨fr.st ν ν' l h.1, h.2.leN l⟩, fr.fresh, fun ν D h e => fr.frs ν D h.1 e⟩ a.tmps Kp) e w' → Ends (fun y w' => ∃ v s' ν' F', Kn v s' ∧ Sim U w0 F0 (fun k => s'.next ≤ k) s'.heap s'.rows w' ν' F' ∧ fr.n ≤ s'.next ∧ fr.RR s'.recs a.defers ν' ∧ TOk ν' s'.tmps a.tmps ∧ DenSV ν' v y)
      (fun y w' => ∃ v s' ν' F', Kp v s' ∧ Sim U w0 F0 (fun k => s'.next ≤ k) s'.heap s'.rows w' ν' F' ∧ fr.n ≤ s'.next ∧ fr.RR s'.recs a.defers ν' ∧ TOk ν' s'.tmps a.tmps ∧ DenSV ν' v y) e w' := fun e w' h => by
    rcases h with ⟨y, e1, e2⟩ | ⟨y, e1, e2⟩
    · exact .inl ⟨y, e1, conv e2⟩
    · exact .inr ⟨y, e1, conv e2⟩
  have e1 : (c.args.toList.map a.eval ++ cs).toArray = c.args.map a.eval ++ cs.toArray := by
    rw [← Array.toList_map]
    apply Array.ext'
    simp
  cases cal with
  | fn f =>
    have hv : a.eval x = .func (.func f) #[] cs.toArray := hv
    obtain ⟨hcall, hcalls⟩ := hcal
    refine FinP.call (f := f) (args := (c.args.toList.map a.eval ++ cs).toArray) (w' := w) ?_ (hcalls.mono ends)
    rw [e1]
    simp only [execOp, hop, Sem.run_bind, resolve, hc, hv, Deferred.ofValue, Sem.run_pure, Result.andThen_ok, invoke]
    simp only [Array.empty_append]
    exact callFunc_run hcall _ w
  | yl id =>
    obtain ⟨rfl, l, hl, hv⟩ := hv
    have hv : a.eval x = .func (.yield l) #[] #[] := hv
    obtain ⟨l', f, tmps, assign, body, hl', hy, hro⟩ := hcal
    have : l' = l := Option.some.inj (hl'.symm.trans hl)
    subst this
    refine FinP.round (l := l') (f := f) (tmps := tmps) (assign := assign) (body := body) (w' := w) ?_ (hro.mono ends)
    rw [List.append_nil] at e1 hy
    simp only [execOp, hop, Sem.run_bind, resolve, hc, hv, Deferred.ofValue, Sem.run_pure, Result.andThen_ok, invoke]
    simp only [Array.empty_append]
    have : (c.args.toList.map a.eval).toArray = c.args.map a.eval := by rw [e1]; simp
    rw [← this]; exact hy

theorem splitI_at {k : Int} {f : Nat → Prop} : ∀ {n : Nat}, splitI k f n → ∀ {m : Nat}, m < n → k = (m : Int) → f m
  | 0, _, m, h, _ => absurd h (Nat.not_lt_zero _)
  | n + 1, h, m, hm, e => by
    by_cases c : m = n
    · subst c; exact h.1 e
    · exact splitI_at h.2 (by omega) e
theorem splitI_mono {k : Int} {f g : Nat → Prop} (hfg : ∀ m, f m → g m) : ∀ {n : Nat}, splitI k f n → splitI k g n
  | 0, _ => True.intro
  | n + 1, h => ⟨fun e => hfg _ (h.1 e), splitI_mono hfg h.2⟩
theorem special0_sound {I : Inl U} {w0 : World} {F0 : Nat → Nat → Prop} {YR : Nu → Prop} (hI : InlOk P U w0 F0 YR I) {st : List Nat} {s : St U} {o : Oper} {Kn : TV → St U → Prop} {Kp : SV → St U → Prop} {p : Prop} (h : special0 P Γ I st ops s o Kn Kp = some p) (hp : p) {fr : Frm} (hY : ∀ ν, fr.R ν → YR ν) {a : Act} {w : World} {ν : Nu} {F : Nat → Nat → Prop}
    (hs : Sim U w0 F0 (fun k => s.next ≤ k) s.heap s.rows w ν F) (hn : fr.n ≤ s.next) (hR : fr.RR s.recs a.defers ν) (ht : TOk ν s.tmps a.tmps) {rf : Option Nat} {next : Act → World → Prop} {Q : Exit → Act → World → Prop}
    (hnext : ∀ (y : Value) w' tv s' ν' F', Kn tv s' → Sim U w0 F0 (fun k => s'.next ≤ k) s'.heap s'.rows w' ν' F' → fr.n ≤ s'.next → fr.RR s'.recs a.defers ν' → TOk ν' s'.tmps a.tmps → (DenTV ν' (a.put o.dst y).tmps tv y) → next (a.put o.dst y) w')
    (hpan : ∀ (y : Value) w' v s' ν' F', Kp v s' → Sim U w0 F0 (fun k => s'.next ≤ k) s'.heap s'.rows w' ν' F' → fr.n ≤ s'.next → fr.RR s'.recs a.defers ν' → TOk ν' s'.tmps a.tmps → DenSV ν' v y → Q (.panic [{ v := y, recovered := false }]) a w') :
    (Region.wanted o (yielded ops a.tmps) = true → o.wpIn (fenceOf rf) 0 P a w next Q) ∧ (Region.wanted o (yielded ops a.tmps) = false → next (a.put o.dst undef) w) := by
  have plain : ∀ {R : Value → World → Prop}, o.guard = none → Fin P o a w R → (∀ y w', R y w' → next (a.put o.dst y) w') → (Region.wanted o (yielded ops a.tmps) = true → o.wpIn (fenceOf rf) 0 P a w next Q) ∧ (Region.wanted o (yielded ops a.tmps) = false → next (a.put o.dst undef) w) := fun {R} hg hf hr =>
    ⟨fun _ => hf rf next Q hr, fun e => by simp [Region.wanted, hg] at e⟩
  unfold special0 at h
  split at h
  · rename_i j want hg
    split at h
    · rename_i c hop
      split at h
      · rename_i x hc
        split at h
        · rename_i d hd
          split at h
          · rename_i g hgb hoth
            split at h
            · rename_i cal ex hx
              split at h
              · cases h
              · split at h
                · rename_i p' hI'
                  cases h
                  obtain ⟨hp1, hp2⟩ := hp
                  have hspec := guardB_spec ht 8 d want g hgb
                  have hw := wanted_guard (a := a) hg hd
                  have hdne : ∀ y : Value, (a.put o.dst y).tmps.getD d undef = a.tmps.getD d undef := fun y => by
                    cases hdst : o.dst with
                    | none => simp [Act.put]
                    | some e =>
                      have : e ≠ d := by rw [hdst] at hoth; simpa [otherDst] using hoth
                      simp only [Act.put]
                      exact getD_set_ne' _ _ _ _ this
                  refine ⟨fun e => ?_, fun e => ?_⟩
                  · have hT : a.tmps.getD d undef = .bool want := hw.mp e
                    have hg1 : g = true := hspec.mpr hT
                    have hfin := inl_fin hI (s2 := seen d want s) hop hc hx hI' (hp1 hg1) hY (a := a) hs hn hR ht (seen_ok ht hT)
                    refine hfin rf next Q ?_ ?_
                    · rintro y w' ⟨v, s', ν', F', k1, k2, k3, k4, k5, k6⟩
                      exact hnext y w' _ s' ν' F' k1 k2 k3 k4 k5 ⟨fun _ => k6, fun c => absurd ((hdne y).trans hT) c⟩
                    · rintro y w' ⟨v, s', ν', F', k1, k2, k3, k4, k5, k6⟩
                      exact hpan y w' v s' ν' F' k1 k2 k3 k4 k5 k6
                  · have hT : ¬ a.tmps.getD d undef = .bool want := fun q => by rw [hw.mpr q] at e; cases e
                    have hg0 : g = false := by cases hgg : g with | false => rfl | true => exact absurd (hspec.mp hgg) hT
                    exact hnext undef w _ _ ν F (hp2 hg0) (hs.fr fun k hk => Nat.le_trans (Nat.le_succ _) hk) (Nat.le_trans hn (Nat.le_succ _)) hR ht ⟨fun c => absurd ((hdne undef).symm.trans c) hT, fun _ => rfl⟩
                · cases h
            · cases h
          · cases h
        · cases h
      · cases h
    · cases h
  · rename_i hg
    split at h
    · rename_i c hop
      split at h
      · rename_i x hc
        split at h
        · rename_i cal ex hx
          split at h
          · cases h
          · refine ⟨fun _ => (inl_fin hI (s2 := s) hop hc hx h hp hY hs hn hR ht ht) rf next Q ?_ ?_, fun e => by simp [Region.wanted, hg] at e⟩
            · rintro y w' ⟨v, s', ν', F', k1, k2, k3, k4, k5, k6⟩
              exact hnext y w' _ s' ν' F' k1 k2 k3 k4 k5 k6
            · rintro y w' ⟨v, s', ν', F', k1, k2, k3, k4, k5, k6⟩
              exact hpan y w' v s' ν' F' k1 k2 k3 k4 k5 k6
        · cases h
      · cases h
    · rename_i op t x y t2 hop
      split at h
      · rename_i e hu
        split at h
        · rename_i fid hx hy
          split at h
          · rename_i r hl
            have dx := TOk.ev (defers := a.defers) ht x
            have dy := TOk.ev (defers := a.defers) ht y
            rw [hx] at dx
            rw [hy] at dy
            have dy : a.eval y = .slice none 0 0 := dy
            obtain ⟨v, f1, f2, _⟩ := hs.row fid r hl
            have hv : a.eval x = v := Option.some.inj (dx.1.symm.trans f1)
            obtain ⟨A, n, cap, rfl, hlen⟩ := f2.slice
            have hA : A.isNone = true → r.l = [] := fun q => by
              cases A with
              | some ad => cases q
              | none =>
                rcases Nat.eq_zero_or_pos n with h0 | h0
                · exact List.eq_nil_of_length_eq_zero (by omega)
                · obtain ⟨ad, h1⟩ := f2.some h0; cases h1
            have back : ∀ (b : Bool), Kn (.pl (.one (.v (.bool b)))) { s with next := s.next + 1 } → next (a.put o.dst (.bool b)) w := fun b hk =>
              hnext (.bool b) w _ _ ν F hk (hs.fr fun k hk => Nat.le_trans (Nat.le_succ _) hk) (Nat.le_trans hn (Nat.le_succ _)) hR ht rfl
            split at h
            · cases h
              refine plain hg (R := fun y w' => y = .bool A.isNone ∧ w' = w) (Fin.value (y := .bool A.isNone) (w' := w) ?_ ⟨rfl, rfl⟩) (fun y w' ⟨e1, e2⟩ => by subst e1; subst e2; exact back _ (hp A.isNone hA))
              simp only [execOp, hop, hv, dy]
              simp only [binOp, eqGuard, Sem.run_bind, eq_nil_run hu]
              simp
            · cases h
              refine plain hg (R := fun y w' => y = .bool (!A.isNone) ∧ w' = w) (Fin.value (y := .bool (!A.isNone)) (w' := w) ?_ ⟨rfl, rfl⟩) (fun y w' ⟨e1, e2⟩ => by subst e1; subst e2; exact back _ (hp A.isNone hA))
              simp only [execOp, hop, hv, dy]
              simp only [binOp, eqGuard, Sem.run_bind, eq_nil_run hu]
              simp
            · cases h
          · cases h
        · cases h
      · cases h
    · rename_i t x j hop
      split at h
      · rename_i n e id off kd k hu e1 e2
        split at h
        · rename_i _ z _ hn4 hz
          cases h
          obtain ⟨hb, hsp⟩ := hp
          have hr : rval P Γ s s.next o = some ⟨some (0 ≤ k ∧ k < (n : Int)), .one (.ptr id (off + litNat k * z)), .none⟩ := by
            simp only [rval, hop, hu, e1, e2, hz]
          have hk : k = ((litNat k : Nat) : Int) := by unfold litNat; omega
          have hlt : litNat k < n := by unfold litNat; omega
          have hkn : Kn (.pl (.one (.ptr id (off + litNat k * z)))) { s with next := s.next + 1 } := splitI_at hsp hlt hk
          refine plain hg (op_indexAddr hs hR.2.1 ht hop hr hb) ?_
          rintro y w' ⟨ν', F', k1, k2, k3⟩
          exact hnext y w' _ _ ν' F' hkn (k2.fr fun q hq => ⟨Nat.le_trans (Nat.le_succ _) hq, by have hq : s.next + 1 ≤ q := hq; show q ≠ s.next; omega⟩) (Nat.le_trans hn (Nat.le_succ _)) (Frm.RR.le k1 hR) (ht.mono k1) k3
        · cases h
      · cases h
    · rename_i t x lo hop
      split at h
      · rename_i e fid kd k hu e1 e2
        split at h
        · rename_i r z hl hz
          split at h
          · rename_i hoz
            cases h
            obtain ⟨hb, hkn⟩ := hp
            have hoz := (Bool.and_eq_true_iff.mp hoz)
            refine plain hg (op_tail hs (Nat.le_refl _) ht hop hu e1 e2 hl hz hoz.1 (of_decide_eq_true hoz.2) hb) ?_
            rintro y w' ⟨ν', F', k1, k2, k3⟩
            exact hnext y w' _ _ ν' F' hkn (k2.fr fun q hq => ⟨Nat.le_trans (Nat.le_succ _) hq, by have hq : s.next + 1 ≤ q := hq; show q ≠ s.next; omega⟩) (Nat.le_trans hn (Nat.le_succ _)) (Frm.RR.le k1 hR) (ht.mono k1) k3
          · cases h
        · cases h
      · cases h
    · cases h

theorem special_sound {I : Inl U} {w0 : World} {F0 : Nat → Nat → Prop} {YR : Nu → Prop} (hI : InlOk P U w0 F0 YR I) {st : List Nat} {s : St U} {o : Oper} {Kn : TV → St U → Prop} {Kp : SV → St U → Prop} {p : Prop} (h : special P Γ I st ops s o Kn Kp = some p) (hp : p) {fr : Frm} (hY : ∀ ν, fr.R ν → YR ν) {a : Act} {w : World} {ν : Nu} {F : Nat → Nat → Prop}
    (hs : Sim U w0 F0 (fun k => s.next ≤ k) s.heap s.rows w ν F) (hn : fr.n ≤ s.next) (hR : fr.RR s.recs a.defers ν) (ht : TOk ν s.tmps a.tmps) {G : World → Prop} (hG : G w) (hΓ : COk P U G Γ) {rf : Option Nat} {next : Act → World → Prop} {Q : Exit → Act → World → Prop}
    (hnext : ∀ (y : Value) w' tv s' ν' F', Kn tv s' → Sim U w0 F0 (fun k => s'.next ≤ k) s'.heap s'.rows w' ν' F' → fr.n ≤ s'.next → fr.RR s'.recs a.defers ν' → TOk ν' s'.tmps a.tmps → (DenTV ν' (a.put o.dst y).tmps tv y) → next (a.put o.dst y) w')
    (hpan : ∀ (y : Value) w' v s' ν' F', Kp v s' → Sim U w0 F0 (fun k => s'.next ≤ k) s'.heap s'.rows w' ν' F' → fr.n ≤ s'.next → fr.RR s'.recs a.defers ν' → TOk ν' s'.tmps a.tmps → DenSV ν' v y → Q (.panic [{ v := y, recovered := false }]) a w') :
    (Region.wanted o (yielded ops a.tmps) = true → o.wpIn (fenceOf rf) 0 P a w next Q) ∧ (Region.wanted o (yielded ops a.tmps) = false → next (a.put o.dst undef) w) := by
  unfold special at h
  split at h
  · rename_i p' h0
    cases h
    exact special0_sound hI h0 hp hY hs hn hR ht hnext hpan
  · split at h
    · rename_i hg
      split at h
      · rename_i p' h0
        cases h
        obtain ⟨v, s', k1, k2, k3⟩ := xSpecial_sound (a := a) hs hR.2.1 ht hG hΓ h0 hp
        refine ⟨fun _ => k3 rf next Q ?_, fun e => by simp [Region.wanted, hg] at e⟩
        rintro y w' ⟨ν', F', q1, q2, q3, q4, q5⟩
        exact hnext y w' _ s' ν' F' k1 q1 (Nat.le_trans hn k2) ⟨fr.st ν ν' (Nu.leN_mono q2 hn) hR.1, q3, hR.2.2.leN q2⟩ q4 q5
      · unfold xPlain at h
        split at h
        · cases h
        · split at h
          · rename_i r hr
            split at h
            · cases h
              refine ⟨fun _ => rval_sound hr (andP_left hp) hs hR.2.1 (Nat.le_refl _) ht hG hΓ rf next Q ?_, fun e => by simp [Region.wanted, hg] at e⟩
              rintro y w' ⟨ν', F', l, q1, q2⟩
              have hnx : (s.app s.next r.u).next = s.next := next_app ..
              exact hnext y w' _ _ ν' F' (andP_right hp) (q1.fr fun k hk => by have hk : (s.app s.next r.u).next + 1 ≤ k := hk; rw [hnx] at hk; exact ⟨by omega, by omega⟩) (by show fr.n ≤ (s.app s.next r.u).next + 1; rw [hnx]; omega) (by show fr.RR (s.app s.next r.u).recs _ ν'; rw [recs_app]; exact Frm.RR.le l hR) (by show TOk ν' (s.app s.next r.u).tmps a.tmps; rw [tmps_app]; exact ht.mono l) q2
            · cases h
          · cases h
    · cases h

theorem runOps_sound {I : Inl U} {w0 : World} {F0 : Nat → Nat → Prop} {YR : Nu → Prop} {fr : Frm} (hI : InlOk P U w0 F0 YR I) (hY : ∀ ν, fr.R ν → YR ν) {st : List Nat} {G : World → Prop} (hG : ∀ w, Below w0.heap.size w0 w → G w) (hΓ : COk P U G Γ) {rf : Option Nat} {Q : Exit → Act → World → Prop} {K : Ctl → St U → Prop} :
    ∀ (l : List Oper) (s : St U) (a : Act) (w : World) (ν : Nu) (F : Nat → Nat → Prop), runOps P Γ I st ops l s K → fr.n ≤ s.next → Sim U w0 F0 (fun k => s.next ≤ k) s.heap s.rows w ν F → TOk ν s.tmps a.tmps → fr.RR s.recs a.defers ν →
      (∀ ctl s' a' w' e, K ctl s' → SimC U w0 F0 fr s' a' w' ctl e → Q e a' w') → wpListIn (fenceOf rf) 0 P ops Q l a w
  | [], s, a, w, ν, F, h, hn, hs, ht, hR, hK => hK _ _ a w .normal h ⟨hn, ν, F, hs, clear_ok ht, hR, rfl⟩
  | o :: l, s, a, w, ν, F, h, hn, hs, ht, hR, hK => by
    have hdef : ∀ y, (a.put o.dst y).defers = a.defers := fun y => by cases hd : o.dst <;> simp [Act.put]
    have first : ∀ {s : St U} {ν : Nu} {F : Nat → Nat → Prop} {p : Prop}, fr.n ≤ s.next → Sim U w0 F0 (fun k => s.next ≤ k) s.heap s.rows w ν F → TOk ν s.tmps a.tmps → fr.RR s.recs a.defers ν → special P Γ I st ops s o (thenPut o.dst fun s' => runOps P Γ I st ops l s' K) (fun v s' => K (.panic v) (clear s')) = some p → p → wpListIn (fenceOf rf) 0 P ops Q (o :: l) a w := fun {s ν F p} hn hs ht hR hsp h => by
      have := special_sound (rf := rf) (Q := Q) (next := wpListIn (fenceOf rf) 0 P ops Q l) hI hsp h hY hs hn hR ht (hG w hs.below) hΓ (fun y w' tv s' ν' F' k1 k2 k3 k4 k5 k6 => by
        unfold thenPut at k1
        split at k1
        · rename_i hput
          have hnx : (s'.put o.dst tv).next = s'.next := by cases o.dst <;> rfl
          refine runOps_sound hI hY hG hΓ l (s'.put o.dst tv) _ w' ν' F' k1 (by rw [hnx]; exact k3) (by rw [hnx, heap_put, rows_put]; exact k2) (TOk.put k5 o.dst hput (x := tv) (y := y) (defers := a.defers) k6) (by rw [recs_put, hdef]; exact k4) hK
        · exact k1.elim) (fun y w' v s' ν' F' k1 k2 k3 k4 k5 k6 => hK _ _ a w' _ k1 ⟨k3, ν', F', k2, clear_ok k5, k4, y, rfl, k6⟩)
      unfold wpListIn
      cases hw : Region.wanted o (yielded ops a.tmps) with
      | true => rw [if_pos rfl]; exact this.1 hw
      | false => rw [if_neg (by decide)]; exact ⟨fun _ _ => trivial, this.2 hw⟩
    have second : ∀ {s : St U} {ν : Nu} {F : Nat → Nat → Prop} {ob : Option Prop} {s' : St U}, fr.n ≤ s.next → Sim U w0 F0 (fun k => s.next ≤ k) s.heap s.rows w ν F → TOk ν s.tmps a.tmps → fr.RR s.recs a.defers ν → rstep P Γ ops s s.next o = some (ob, s') → andP ob (runOps P Γ I st ops l { s' with next := s'.next + 1 } K) → wpListIn (fenceOf rf) 0 P ops Q (o :: l) a w := fun {s ν F ob s'} hn hs ht hR hr h => by
        have hnx := rstep_next hr
        have := rstep_sound (a := a) (rf := rf) (Q := Q) (next := wpListIn (fenceOf rf) 0 P ops Q l) hr (andP_left h) hs hR.2.1 (Nat.le_refl _) ht (hG w hs.below) hΓ (fun a' w' ν' F' e1 e2 e3 e4 =>
          runOps_sound hI hY hG hΓ l { s' with next := s'.next + 1 } a' w' ν' F' (andP_right h) (by show fr.n ≤ s'.next + 1; rw [hnx]; omega) (e3.fr fun k hk => by have hk : s'.next + 1 ≤ k := hk; rw [hnx] at hk; exact ⟨by omega, by omega⟩) e4 (by show fr.RR s'.recs a'.defers ν'; rw [rstep_recs hr, e1]; exact Frm.RR.le e2 hR) hK)
        unfold wpListIn
        cases hw : Region.wanted o (yielded ops a.tmps) with
        | true => rw [if_pos rfl]; exact this.1 hw
        | false => rw [if_neg (by decide)]; exact ⟨fun _ _ => trivial, this.2 hw⟩
    simp only [runOps] at h
    split at h
    · rename_i p hsp
      exact first hn hs ht hR hsp h
    · split at h
      · rename_i ob s' hr
        exact second hn hs ht hR hr h
      · split at h
        · rename_i f fs hon hfs
          obtain ⟨ν1, F1, q1, q2, q3, q4⟩ := freezeL_ok (f :: fs) hs hR.2.1
          obtain ⟨r1, r2⟩ := freezeL_rest (f :: fs) s
          have hs1 : Sim U w0 F0 (fun k => (freezeL (f :: fs) s).next ≤ k) (freezeL (f :: fs) s).heap (freezeL (f :: fs) s).rows w ν1 F1 := by rw [r2]; exact q1
          have ht1 : TOk ν1 (freezeL (f :: fs) s).tmps a.tmps := by rw [r1]; exact ht.lb q2
          have hn1 : fr.n ≤ (freezeL (f :: fs) s).next := by rw [r2]; exact hn
          have hR1 : fr.RR (freezeL (f :: fs) s).recs a.defers ν1 := ⟨fr.st _ _ (q3 _) hR.1, q4, hR.2.2.leN (q3 0)⟩
          split at h
          · rename_i p hsp
            exact first hn1 hs1 ht1 hR1 hsp h
          · split at h
            · rename_i ob s' hr
              rw [← r2] at hr
              exact second hn1 hs1 ht1 hR1 hr h
            · exact h.elim
        · exact h.elim
end
end Go.RX

/- Symbolic runs of Go functions: what a loop's head is told to hold. -/
namespace Go.RX
open Go.RowKit
set_option linter.unusedSimpArgs false
set_option linter.unusedVariables false

section
variable {P : Program} {U : Uni} {Γ : Con U} {w0 w : World} {F0 : Nat → Nat → Prop} {An : Anns U} {s : St U} {Fr : Nat → Prop} {heap : List (Nat × TypeId × List Atom)} {rows : List (Nat × Row U)} {ν : Nu} {F : Nat → Nat → Prop} {a : Act}

/-! ### What is left of a state -/
def Nu.cut (ν : Nu) (n : Nat) : Nu := ⟨fun k => if k < n then ν.b k else none, fun k => if k < 16 * n then ν.f k else none, ν.o⟩
theorem Nu.cut_b {ν : Nu} {n k : Nat} (h : k < n) : (ν.cut n).b k = ν.b k := if_pos h
theorem Nu.cut_f {ν : Nu} {n k : Nat} (h : k < 16 * n) : (ν.cut n).f k = ν.f k := if_pos h

theorem clean_den {n : Nat} {x : Atom} {y : Value} (d : Den ν x y) : Den (ν.cut n) (cleanA n x) y := by
  cases x with
  | v x => exact d
  | ptr id off =>
    simp only [cleanA]
    split
    · rename_i h; obtain ⟨b, e, r⟩ := d; exact ⟨b, (Nu.cut_b h).trans e, r⟩
    · exact True.intro
  | el fid i sz off =>
    simp only [cleanA]
    split
    · rename_i h; obtain ⟨ad, m, c, e, r⟩ := d; exact ⟨ad, m, c, (Nu.cut_f h).trans e, r⟩
    · exact True.intro
  | sl fid =>
    simp only [cleanA]
    split
    · rename_i h; exact ⟨(Nu.cut_f h).trans d.1, d.2⟩
    · exact True.intro
  | fn f caps =>
    simp only [cleanA]
    split
    · rename_i h
      obtain ⟨cs, e, l, r⟩ := d
      refine ⟨cs, e, l, fun j p hp => ?_⟩
      obtain ⟨b, e1, e2⟩ := r j p hp
      have := List.all_eq_true.mp h p (List.mem_of_getElem? hp)
      exact ⟨b, (Nu.cut_b (by simpa using this)).trans e1, e2⟩
    · exact True.intro
  | gl g off => exact d
  | av id off m =>
    simp only [cleanA]
    split
    · rename_i h; obtain ⟨b, e, r⟩ := d; exact ⟨b, (Nu.cut_b h).trans e, r⟩
    · exact True.intro
  | yl id =>
    simp only [cleanA]
    split
    · rename_i h; obtain ⟨b, e, r⟩ := d; exact ⟨b, (Nu.cut_b h).trans e, r⟩
    · exact True.intro
  | junk => exact True.intro
theorem clean_denL {n : Nat} {l : List Atom} {r : List Value} (d : DenL ν l r) : DenL (ν.cut n) (l.map (cleanA n)) r := by
  refine ⟨by simp [d.1], d.2.1, fun j x y e1 e2 => ?_⟩
  rw [List.getElem?_map] at e1
  cases hh : l[j]? with
  | none => rw [hh] at e1; cases e1
  | some z => rw [hh] at e1; cases e1; exact clean_den (d.2.2 j z y hh e2)
theorem clean_denSV {n : Nat} {x : SV} {y : Value} (d : DenSV ν x y) : DenSV (ν.cut n) (cleanSV n x) y := by
  cases x with
  | one x => exact clean_den d
  | agg l => obtain ⟨arr, e, q⟩ := d; exact ⟨arr, e, clean_denL q⟩
  | tup l => exact True.intro
theorem cleanT_get {n : Nat} {W : List Nat} : ∀ (t : List TV) (i j : Nat), (cleanT n W i t)[j]? = (t[j]?).map fun x => (if mem (i + j) W then .pl (.one .junk) else match x with | .pl x => .pl (cleanSV n x) | .opt _ _ _ => .pl (.one .junk))
  | [], i, j => by simp [cleanT]
  | x :: t, i, 0 => by simp only [cleanT, List.getElem?_cons_zero, Option.map_some, Nat.add_zero]; first | done | (cases x <;> rfl)
  | x :: t, i, j + 1 => by
    simp only [cleanT, List.getElem?_cons_succ]
    rw [cleanT_get t (i + 1) j, show i + 1 + j = i + (j + 1) by omega]
theorem cleanT_length {n : Nat} {W : List Nat} : ∀ (t : List TV) (i : Nat), (cleanT n W i t).length = t.length
  | [], i => rfl
  | x :: t, i => by simp [cleanT, cleanT_length t (i + 1)]
theorem cleanT_ok {n : Nat} {W : List Nat} {t : List TV} {T : Array Value} (h : TOk ν t T) : TOk (ν.cut n) (cleanT n W 0 t) T := by
  refine ⟨by rw [cleanT_length, h.1], fun j x e => ?_⟩
  rw [cleanT_get] at e
  cases hh : t[j]? with
  | none => rw [hh] at e; cases e
  | some z =>
    rw [hh] at e
    cases e
    have k := h.2 j z hh
    dsimp only
    split
    · exact True.intro
    · cases z with
      | pl x => exact clean_denSV k
      | opt _ _ _ => exact True.intro
theorem cleanC_get {n : Nat} {M : List (Nat × Nat)} {id : Nat} : ∀ (cs : List Atom) (i j : Nat), (cleanC n M id i cs)[j]? = (cs[j]?).map fun x => (if mem2 id (i + j) M then .junk else cleanA n x)
  | [], i, j => by simp [cleanC]
  | x :: t, i, 0 => by simp [cleanC]
  | x :: t, i, j + 1 => by
    simp only [cleanC, List.getElem?_cons_succ]
    rw [cleanC_get t (i + 1) j, show i + 1 + j = i + (j + 1) by omega]
theorem cleanC_length {n : Nat} {M : List (Nat × Nat)} {id : Nat} : ∀ (cs : List Atom) (i : Nat), (cleanC n M id i cs).length = cs.length
  | [], i => rfl
  | x :: t, i => by simp [cleanC, cleanC_length t (i + 1)]
theorem cleanC_den {n : Nat} {M : List (Nat × Nat)} {id : Nat} {cs : List Atom} {r : List Value} (d : DenL ν cs r) : DenL (ν.cut n) (cleanC n M id 0 cs) r := by
  refine ⟨by rw [cleanC_length, d.1], d.2.1, fun j x y e1 e2 => ?_⟩
  rw [cleanC_get] at e1
  cases hh : cs[j]? with
  | none => rw [hh] at e1; cases e1
  | some z =>
    rw [hh] at e1
    cases e1
    dsimp only
    split
    · exact True.intro
    · exact clean_den (d.2.2 j z y hh e2)
theorem look_cleanH {n : Nat} {M : List (Nat × Nat)} (id : Nat) : ∀ heap : List (Nat × TypeId × List Atom), look id (cleanH n M heap) = if id < n then (look id heap).map fun x => (x.1, cleanC n M id 0 x.2) else none
  | [] => by simp [cleanH, look]
  | (j, t, cs) :: r => by
    simp only [cleanH]
    have ih := look_cleanH (n := n) (M := M) id r
    by_cases h : j < n
    · rw [if_pos h, look_cons, look_cons]
      by_cases e : j = id
      · subst e; rw [if_pos rfl, if_pos rfl, if_pos h]; rfl
      · rw [if_neg e, if_neg e]; exact ih
    · rw [if_neg h, ih, look_cons]
      by_cases e : j = id
      · subst e; rw [if_neg h, if_neg h]
      · rw [if_neg e]
theorem look_cleanR {n : Nat} (fid : Nat) : ∀ rows : List (Nat × Row U), look fid (cleanR n rows) = if fid < 16 * n then (look fid rows).map fun r => ⟨r.c, r.l, false⟩ else none
  | [] => by simp [cleanR, look]
  | (j, r) :: rs => by
    simp only [cleanR]
    have ih := look_cleanR (n := n) fid rs
    by_cases h : j < 16 * n
    · rw [if_pos h, look_cons, look_cons]
      by_cases e : j = fid
      · subst e; rw [if_pos rfl, if_pos rfl, if_pos h]; rfl
      · rw [if_neg e, if_neg e]; exact ih
    · rw [if_neg h, ih, look_cons]
      by_cases e : j = fid
      · subst e; rw [if_neg h, if_neg h]
      · rw [if_neg e]

theorem base_ok {n : Nat} {W : List Nat} {M : List (Nat × Nat)} (hs : Sim U w0 F0 Fr s.heap s.rows w ν F) (ht : TOk ν s.tmps a.tmps) :
    Sim U w0 F0 (fun k => n ≤ k) (base n W M s).heap (base n W M s).rows w (ν.cut n) F ∧ TOk (ν.cut n) (base n W M s).tmps a.tmps := by
  refine ⟨⟨hs.below, ?_, ?_, hs.lt, ?_, ?_, ?_, ?_, hs.sub, hs.new, hs.hold, fun l x e hc => ⟨(hs.hx l x e hc).1, fun id hid q => ?_, fun fid r v e1 e2 => ?_⟩⟩, cleanT_ok ht⟩
  rotate_left 6
  · simp only [base, look_cleanH] at hid
    split at hid
    · rename_i h
      rw [Nu.cut_b h] at q
      exact (hs.hx l x e hc).2.1 id (by simpa using hid) q
    · cases hid
  · simp only [base, look_cleanR] at e1
    split at e1
    · cases hh : look fid s.rows with
      | none => rw [hh] at e1; cases e1
      | some x => rw [hh] at e1; cases e1; cases e2
    · cases e1
  · intro id t cs e
    simp only [base, look_cleanH] at e
    split at e
    · rename_i h
      cases hh : look id s.heap with
      | none => rw [hh] at e; cases e
      | some x =>
        obtain ⟨t', cs'⟩ := x
        rw [hh] at e
        cases e
        obtain ⟨b, arr, e1, e2, e3, e4, e5⟩ := hs.box id t' cs' hh
        exact ⟨b, arr, (Nu.cut_b h).trans e1, e2, e3, cleanC_den e4, e5⟩
    · cases e
  · intro id id' b l l' e e'
    simp only [base, look_cleanH] at l l'
    split at l
    · rename_i h
      split at l'
      · rename_i h'
        rw [Nu.cut_b h] at e
        rw [Nu.cut_b h'] at e'
        exact hs.inj id id' b (by simpa using l) (by simpa using l') e e'
      · cases l'
    · cases l
  · intro fid r e
    simp only [base, look_cleanR] at e
    split at e
    · rename_i h
      cases hh : look fid s.rows with
      | none => rw [hh] at e; cases e
      | some x =>
        rw [hh] at e
        cases e
        obtain ⟨v, e1, e2, _⟩ := hs.row fid x hh
        exact ⟨v, (Nu.cut_f h).trans e1, e2, fun c => by cases c⟩
    · cases e
  · intro fid r v id b e1 e2
    simp only [base, look_cleanR] at e1
    split at e1
    · cases hh : look fid s.rows with
      | none => rw [hh] at e1; cases e1
      | some x => rw [hh] at e1; cases e1; cases e2
    · cases e1
  · intro fid r v fid' r' v' b e1 e2
    simp only [base, look_cleanR] at e1
    split at e1
    · cases hh : look fid s.rows with
      | none => rw [hh] at e1; cases e1
      | some x => rw [hh] at e1; cases e1; cases e2
    · cases e1
  · intro k hk
    refine ⟨if_neg (by omega), fun j hj => if_neg (by omega)⟩

/-! ### The mods -/
theorem mem_iff (i : Nat) : ∀ l : List Nat, mem i l = true ↔ i ∈ l
  | [] => by simp [mem]
  | j :: r => by
    simp only [mem, List.mem_cons]
    by_cases h : i = j
    · simp [h]
    · rw [if_neg h]; simp [h, mem_iff i r]
theorem nodup_iff : ∀ l : List Nat, nodup l = true → l.Nodup
  | [], _ => List.nodup_nil
  | x :: r, h => by
    simp only [nodup, Bool.and_eq_true, Bool.not_eq_true'] at h
    refine List.nodup_cons.mpr ⟨fun c => ?_, nodup_iff r h.2⟩
    rw [(mem_iff x r).mpr c] at h
    cases h.1

/-- What an atom that is told to be a row is. -/
theorem atomIs_den (hs : Sim U w0 F0 Fr s.heap s.rows w ν F) {x : Atom} {c : U.C} {l : List (U.T c)} {own : Bool} (h : atomIs s x c l own) {y : Value} (d : Den ν x y) :
    Rd U F w y c l ∧ oneV y = true ∧ (own = true → Owned U w0 w F y c l.length) ∧ (y = .slice none 0 0 ∨ ∃ fid r, x = .sl fid ∧ look fid s.rows = some r ∧ ν.f fid = some y ∧ (own = true → r.own = true)) := by
  unfold atomIs at h
  split at h
  · rename_i fid
    split at h
    · rename_i r hl
      obtain ⟨h1, h2⟩ := h
      obtain ⟨v, f1, f2, f3⟩ := hs.row fid r hl
      obtain rfl : v = y := Option.some.inj (f1.symm.trans d.1)
      have hown : own = true → r.own = true := fun e => by
        subst e
        simp only at h1
        cases hr : r.own with
        | true => rfl
        | false => rw [hr] at h1; exact h1.elim
      unfold rowIs at h2
      split at h2
      · rename_i hc _
        obtain ⟨rc, rl, ro⟩ := r
        simp only at hc h2 f2 f3 hown
        subst hc
        subst h2
        exact ⟨f2, d.2, fun e => f3 (hown e), .inr ⟨fid, _, rfl, hl, d.1, hown⟩⟩
      · exact h2.elim
    · exact h.elim
  · subst h
    have d : y = .slice none 0 0 := d
    subst d
    refine ⟨⟨1, none, 0, 0, rfl, rfl, Nat.le_refl _, by simp [maxLen], fun h => absurd h (by omega)⟩, rfl, fun _ => ?_, .inl rfl⟩
    exact .inl ⟨rfl, rfl⟩
  · exact h.elim

theorem putOK_pl {s : St U} (t : Nat) (h : ∀ x ∈ s.tmps, ∃ y, x = TV.pl y) : putOK s (some t) = true := by
  refine List.all_eq_true.mpr fun x hx => ?_
  obtain ⟨y, rfl⟩ := h x hx
  rfl
end
end Go.RX

/- Symbolic runs of Go functions: a state that fits a loop's head is the head. -/
namespace Go.RX
open Go.RowKit
set_option linter.unusedSimpArgs false
set_option linter.unusedVariables false

section
variable {P : Program} {U : Uni} {Γ : Con U} {w0 w : World} {F0 : Nat → Nat → Prop} {An : Anns U} {s e0 : St U} {Fr : Nat → Prop} {heap : List (Nat × TypeId × List Atom)} {rows : List (Nat × Row U)} {ν : Nu} {F : Nat → Nat → Prop} {a : Act}

theorem TOk.setSame {t : List TV} {T : Array Value} (k : TOk ν t T) (i : Nat) {x : TV} (hx : DenTV ν T x (T.getD i undef)) : TOk ν (t.set i x) T := by
  refine ⟨by simp [k.1], fun j z hz => ?_⟩
  rw [List.getElem?_set] at hz
  by_cases c : i = j
  · subst c
    rw [if_pos rfl] at hz
    split at hz
    · cases hz; exact hx
    · cases hz
  · rw [if_neg c] at hz; exact k.2 j z hz

theorem upd1_none {id : Nat} {f : List Atom → List Atom} : ∀ {heap : List (Nat × TypeId × List Atom)}, look id heap = none → upd1 id f heap = heap
  | [], _ => rfl
  | (j, t, cs) :: r, h => by
    rw [look_cons] at h
    by_cases c : j = id
    · rw [if_pos c] at h; cases h
    · rw [if_neg c] at h
      unfold upd1
      rw [if_neg c, upd1_none h]

theorem fitMods_cons {m : Mod U} {r : List (Mod U)} (h : fitMods e0 s (m :: r)) : fitMods.fit1 e0 s m ∧ fitMods e0 s r := by
  cases r with
  | nil => exact ⟨h, True.intro⟩
  | cons m' r => exact h

structure HInv (U : Uni) (w0 : World) (F0 : Nat → Nat → Prop) (s : St U) (ν : Nu) (a : Act) (w : World) (F : Nat → Nat → Prop) (k : Nat) (L : List Nat) (h : St U) (μ : Nu) : Prop where
  sim : Sim U w0 F0 (fun q => k ≤ q) h.heap h.rows w μ F
  tok : TOk μ h.tmps a.tmps
  bx : ∀ id, (look id h.heap).isSome → (look id s.heap).isSome ∧ ∃ b, ν.b id = some b ∧ μ.b id = some b
  own : ∀ fid r v, look fid h.rows = some r → r.own = true → μ.f fid = some v → v.ownBlock = none ∨ ∃ f' ∈ L, ∃ r', look f' s.rows = some r' ∧ r'.own = true ∧ ν.f f' = some v
  oe : μ.o = ν.o

theorem HInv.cell (hs : Sim U w0 F0 Fr s.heap s.rows w ν F) {k : Nat} {L : List Nat} {h : St U} {μ : Nu} (H : HInv U w0 F0 s ν a w F k L h μ) {id i : Nat} {t : TypeId} {cs : List Atom} (hl : look id s.heap = some (t, cs)) {x : Atom} (hx : cs[i]? = some x)
    (z : Atom) (hz : ∀ y, Den ν x y → Den μ z y) : HInv U w0 F0 s ν a w F k L { h with heap := upd1 id (fun cs => setAt cs i z) h.heap } μ := by
  cases hh : look id h.heap with
  | none => rw [upd1_none hh]; exact H
  | some q =>
    obtain ⟨t', cs'⟩ := q
    obtain ⟨_, b, e1, e2⟩ := H.bx id (by rw [hh]; rfl)
    obtain ⟨b1, arr1, p1, p2, p3, p4, p5⟩ := H.sim.box id t' cs' hh
    obtain ⟨b2, arr2, q1, q2, q3, q4, q5⟩ := hs.box id t cs hl
    obtain rfl : b1 = b := Option.some.inj (p1.symm.trans e2)
    obtain rfl : b2 = b1 := Option.some.inj (q1.symm.trans e1)
    rw [p3] at q3
    cases q3
    have hd : DenL μ (setAt cs' i z) arr1.toList := by
      refine ⟨by simp [setAt, p4.1], p4.2.1, fun j x' y g1 g2 => ?_⟩
      simp only [setAt] at g1
      rw [List.getElem?_set] at g1
      by_cases c : i = j
      · subst c
        rw [if_pos rfl] at g1
        split at g1
        · cases g1; exact hz y (q4.2.2 i x y hx g2)
        · cases g1
      · rw [if_neg c] at g1; exact p4.2.2 j x' y g1 g2
    refine ⟨H.sim.store hh p1 rfl rfl rfl rfl p3 (fun _ _ => rfl) hd, H.tok, fun j hj => H.bx j ?_, H.own, H.oe⟩
    rw [look_upd1] at hj
    split at hj
    · simpa using hj
    · exact hj

theorem HInv.addRow (hs : Sim U w0 F0 Fr s.heap s.rows w ν F) {k : Nat} {L : List Nat} {h : St U} {μ : Nu} (H : HInv U w0 F0 s ν a w F k L h μ) {x : Atom} {c : U.C} {l : List (U.T c)} {own : Bool} (hx : atomIs s x c l own) {y : Value} (d : Den ν x y)
    (hL : own = true → ∀ fid, x = .sl fid → fid ∉ L) : ∃ L', (∀ f, f ∈ L' ↔ f ∈ L ∨ (own = true ∧ x = .sl f)) ∧ HInv U w0 F0 s ν a w F (k + 1) L' { h with rows := (16 * k, ⟨c, l, own⟩) :: h.rows } (μ.setF (16 * k) y) ∧ μ.le (μ.setF (16 * k) y) ∧ oneV y = true := by
  obtain ⟨r1, r2, r3, r4⟩ := atomIs_den hs hx d
  have hfree : μ.f (16 * k) = none := (H.sim.free k (Nat.le_refl _)).2 0 (by omega)
  have hsim := (H.sim.fr (Fr' := fun q => k + 1 ≤ q) fun q hq => by omega).addRow' (fid := 16 * k) hfree (fun q j hq hj e => by omega) r1 (own := own) (fun ho => by
    refine ⟨r3 ho, fun b hb => ?_⟩
    rcases r4 with rfl | ⟨fid, r, rfl, hl, hf, hown⟩
    · simp [Value.ownBlock] at hb
    · refine ⟨fun id hid hb2 => ?_, fun fid' r' v' g1 g2 g3 g4 => ?_, fun x hx => (by
          rw [H.oe] at hx
          cases hc : isC x with
          | false => rfl
          | true => exact absurd hb ((hs.hx b x hx hc).2.2 fid r y hl (hown ho) hf))⟩
      · obtain ⟨q1, b', q2, q3⟩ := H.bx id hid
        rw [hb2] at q3
        cases q3
        exact hs.apart fid r y id b hl (hown ho) hf q1 q2 hb
      · rcases H.own fid' r' v' g1 g2 g3 with q | ⟨f', q1, r'', q2, q3, q4⟩
        · rw [g4] at q; cases q
        · have := hs.apart2 fid r y f' r'' v' b hl (hown ho) hf q2 q3 q4 hb g4
          subst this
          exact hL ho fid rfl q1)
  have hle : μ.le (μ.setF (16 * k) y) := Nu.le_setF hfree
  refine ⟨(match own, x with | true, .sl f => f :: L | _, _ => L), fun f => ?_, ⟨hsim, H.tok.mono hle, fun id hid => H.bx id hid, fun fid r v g1 g2 g3 => ?_, H.oe⟩, hle, r2⟩
  · cases own <;> cases x <;> simp
    exact ⟨fun q => q.symm.imp id Eq.symm, fun q => q.symm.imp Eq.symm id⟩
  · simp only [look_cons] at g1
    by_cases q : 16 * k = fid
    · rw [if_pos q] at g1
      cases g1
      have e : (μ.setF (16 * k) y).f fid = some y := if_pos q.symm
      rw [e] at g3
      cases g3
      rcases r4 with rfl | ⟨fid', r', rfl, hl, hf, hown⟩
      · exact .inl rfl
      · have g2 : own = true := g2
        subst g2
        exact .inr ⟨fid', by simp, r', hl, hown rfl, hf⟩
    · rw [if_neg q] at g1
      have e : (μ.setF (16 * k) y).f fid = μ.f fid := if_neg (fun c => q c.symm)
      rw [e] at g3
      rcases H.own fid r v g1 g2 g3 with q' | ⟨f', q1, q2⟩
      · exact .inl q'
      · refine .inr ⟨f', ?_, q2⟩
        cases own <;> cases x <;> simp [q1]

/-- A row that the mods tell of: its source, or none. -/
def XOne (s : St U) (ν μ : Nu) (p : Nat × RS U) (f : Option Nat) : Prop := ∃ c l y, p.2 = RS.row c l ∧ 1000000000 ≤ p.1 ∧ μ.f (p.1 - 1000000000) = some y ∧ XRow U ν y c l ∧ (match f with
  | some f => ν.f f = some y ∧ (f + 1000000000, RS.row c l) ∈ s.recs
  | none => y.ownBlock = none)
/-- The rows that the mods tell of are those of the state. -/
def XPr (s : St U) (ν μ : Nu) : List (Nat × RS U) → List Nat → Prop
  | [], _ => True
  | p :: ps, fs => (XOne s ν μ p none ∧ XPr s ν μ ps fs) ∨ ∃ f fs', fs = f :: fs' ∧ XOne s ν μ p (some f) ∧ XPr s ν μ ps fs'
def XP (e0 s : St U) (ν : Nu) (ms : List (Mod U)) (k : Nat) (μ : Nu) : Prop := XPr s ν μ (newX e0 ms k) (xSources e0 s ms)
theorem XPr.at_ {μ : Nu} : ∀ {new : List (Nat × RS U)} {fs : List Nat}, XPr s ν μ new fs → ∀ p ∈ new, XOne s ν μ p none ∨ ∃ f ∈ fs, XOne s ν μ p (some f)
  | p :: ps, fs, h, q, hq => by
    rcases h with ⟨h1, h2⟩ | ⟨f, fs', rfl, h1, h2⟩
    · rcases List.mem_cons.mp hq with rfl | hq
      · exact .inl h1
      · exact h2.at_ q hq
    · rcases List.mem_cons.mp hq with rfl | hq
      · exact .inr ⟨f, List.mem_cons_self .., h1⟩
      · rcases h2.at_ q hq with z | ⟨f', z1, z2⟩
        · exact .inl z
        · exact .inr ⟨f', List.mem_cons_of_mem _ z1, z2⟩
theorem rowIs_eq {r : Row U} {c : U.C} {l : List (U.T c)} (h : rowIs r c l) : (RS.row r.c r.l : RS U) = RS.row c l := by
  unfold rowIs at h
  split at h
  · rename_i hc _
    obtain ⟨rc, rl, ro⟩ := r
    simp only at hc h
    subst hc
    subst h
    rfl
  · exact h.elim
theorem fitX_is (hrk : RecsOk ν s.recs) {f : Option Nat} {c : U.C} {l : List (U.T c)} (h : fitMods.fitX s f c l) : ∃ fid y, f = some fid ∧ (fid + 1000000000, RS.row c l) ∈ s.recs ∧ ν.f fid = some y ∧ XRow U ν y c l := by
  unfold fitMods.fitX at h
  split at h
  · rename_i fid
    split at h
    · rename_i r hr
      obtain ⟨q1, _, y, q2, q3⟩ := xAt_is hrk hr
      have := rowIs_eq h
      rw [this] at q1
      refine ⟨fid, y, rfl, q1, q2, ?_⟩
      obtain ⟨_, y', p1, p2⟩ := hrk.1 _ _ q1
      rw [Nat.add_sub_cancel, q2] at p1
      cases p1
      exact p2
    · exact h.elim
  · exact h.elim
theorem sameX_tail {m : Mod U} {ms : List (Mod U)} (h : sameX e0 s (m :: ms) = true) : sameX e0 s ms = true := by
  cases m <;> first | exact h | exact (Bool.and_eq_true_iff.mp h).2
theorem sameX_head {a b : Option Nat} {n : Nat} (h : (match a, b with | some a, some b => Nat.beq a b && decide (a < 16 * n) | _, _ => false) = true) : ∃ f, a = some f ∧ b = some f ∧ f < 16 * n := by
  cases a with
  | none => cases h
  | some a =>
    cases b with
    | none => cases h
    | some b =>
      simp only [Bool.and_eq_true, decide_eq_true_eq] at h
      obtain rfl := Nat.eq_of_beq_eq_true h.1
      exact ⟨a, rfl, rfl, h.2⟩
theorem addMods_ok (hs : Sim U w0 F0 Fr s.heap s.rows w ν F) (hrk : RecsOk ν s.recs) (ht : TOk ν s.tmps a.tmps) : ∀ (ms : List (Mod U)) (k : Nat) (h : St U) (L : List Nat) (μ : Nu), HInv U w0 F0 s ν a w F k L h μ → fitMods e0 s ms → (∀ f ∈ L, f ∉ ownsAll e0 s ms) → (ownsAll e0 s ms).Nodup → sameX e0 s ms = true → (∀ f, f < 16 * e0.next → ∀ y, ν.f f = some y → μ.f f = some y) →
    ∃ μ', μ.le μ' ∧ Sim U w0 F0 (fun q => k + ms.length ≤ q) (addMods e0 ms k h).heap (addMods e0 ms k h).rows w μ' F ∧ TOk μ' (addMods e0 ms k h).tmps a.tmps ∧ μ'.o = ν.o ∧ XP e0 s ν ms k μ'
  | [], k, h, L, μ, H, hf, hL, hN, _, _ => ⟨μ, μ.le_refl, H.sim, H.tok, H.oe, True.intro⟩
  | m :: ms, k, h, L, μ, H, hf, hL, hN, hX, hμ => by
    obtain ⟨f1, f2⟩ := fitMods_cons hf
    simp only [ownsAll] at hL hN
    have hN2 := (List.nodup_append.mp hN).2.1
    have hdis := (List.nodup_append.mp hN).2.2
    have hX2 := sameX_tail hX
    have step0 : ∀ (h' : St U) (L' : List Nat) (μ' : Nu), μ.le μ' → HInv U w0 F0 s ν a w F (k + 1) L' h' μ' → (∀ f ∈ L', f ∈ L ∨ f ∈ ownsOf e0 s m) → ∃ μ'', μ'.le μ'' ∧ μ.le μ'' ∧ Sim U w0 F0 (fun q => k + (m :: ms).length ≤ q) (addMods e0 ms (k + 1) h').heap (addMods e0 ms (k + 1) h').rows w μ'' F ∧ TOk μ'' (addMods e0 ms (k + 1) h').tmps a.tmps ∧ μ''.o = ν.o ∧ XP e0 s ν ms (k + 1) μ'' := fun h' L' μ' hle H' hL' => by
      obtain ⟨μ'', g0, g1, g2, g3, g4⟩ := addMods_ok hs hrk ht ms (k + 1) h' L' μ' H' f2 (fun f hf c => by
        rcases hL' f hf with q | q
        · exact hL f q (List.mem_append.mpr (.inr c))
        · exact hdis f q f c rfl) hN2 hX2 (fun f hlt y e => hle.2.1 _ _ (hμ f hlt y e))
      exact ⟨μ'', g0, Nu.le_trans hle g0, g1.fr fun q hq => by simp only [List.length_cons] at hq; omega, g2, g3, g4⟩
    have step : ∀ (h' : St U) (L' : List Nat) (μ' : Nu), μ.le μ' → HInv U w0 F0 s ν a w F (k + 1) L' h' μ' → (∀ f ∈ L', f ∈ L ∨ f ∈ ownsOf e0 s m) → (∀ μ'', XP e0 s ν ms (k + 1) μ'' → XP e0 s ν (m :: ms) k μ'') → ∃ μ'', μ.le μ'' ∧ Sim U w0 F0 (fun q => k + (m :: ms).length ≤ q) (addMods e0 ms (k + 1) h').heap (addMods e0 ms (k + 1) h').rows w μ'' F ∧ TOk μ'' (addMods e0 ms (k + 1) h').tmps a.tmps ∧ μ''.o = ν.o ∧ XP e0 s ν (m :: ms) k μ'' := fun h' L' μ' hle H' hL' hxp => by
      obtain ⟨μ'', _, g0, g1, g2, g3, g4⟩ := step0 h' L' μ' hle H' hL'
      exact ⟨μ'', g0, g1, g2, g3, hxp _ g4⟩
    -- a row that stays
    have xstay : ∀ {c : U.C} {l : List (U.T c)} {sr : Option Nat}, addMods e0 (m :: ms) k h = addMods e0 ms (k + 1) h → newX e0 (m :: ms) k = (match xSource e0 e0 m with | some f => (f + 1000000000, RS.row c l) :: newX e0 ms (k + 1) | none => newX e0 ms (k + 1)) → sr = xSource e0 s m → fitMods.fitX s sr c l → (∃ f, xSource e0 s m = some f ∧ xSource e0 e0 m = some f ∧ f < 16 * e0.next) →
        ∃ μ', μ.le μ' ∧ Sim U w0 F0 (fun q => k + (m :: ms).length ≤ q) (addMods e0 (m :: ms) k h).heap (addMods e0 (m :: ms) k h).rows w μ' F ∧ TOk μ' (addMods e0 (m :: ms) k h).tmps a.tmps ∧ μ'.o = ν.o ∧ XP e0 s ν (m :: ms) k μ' := fun {c l sr} q1 q2 q3 q4 ⟨f, q5, q6, q7⟩ => by
      subst q3
      obtain ⟨fid, y, p1, p2, p3, p4⟩ := fitX_is hrk q4
      rw [q5] at p1
      cases p1
      obtain ⟨μ'', g00, g0, g1, g2, g3, g4⟩ := step0 h L μ μ.le_refl ⟨H.sim.fr fun q hq => by omega, H.tok, H.bx, H.own, H.oe⟩ (fun f q => .inl q)
      rw [q1]
      refine ⟨μ'', g0, g1, g2, g3, ?_⟩
      unfold XP
      rw [q2, q6]
      simp only [xSources, q5]
      exact .inr ⟨f, _, rfl, ⟨c, l, y, rfl, Nat.le_add_left _ _, by rw [Nat.add_sub_cancel]; exact g0.2.1 _ _ (hμ f q7 y p3), p4, p3, p2⟩, g4⟩
    have bump : ∀ {h : St U}, HInv U w0 F0 s ν a w F k L h μ → HInv U w0 F0 s ν a w F (k + 1) L h μ := fun {h} H => ⟨H.sim.fr fun q hq => by omega, H.tok, H.bx, H.own, H.oe⟩
    cases m with
    | tv t v =>
      simp only [fitMods.fit1] at f1
      simp only [addMods]
      split at f1
      · rename_i x hx
        subst f1
        have d := TOk.ev (defers := a.defers) ht (.tmp t)
        rw [hx] at d
        have H' := bump H
        exact step _ L μ μ.le_refl ⟨H'.sim, H'.tok.setSame t d, H'.bx, H'.own, H'.oe⟩ (fun f q => .inl q) (fun _ q => q)
      · exact f1.elim
    | tr t c l own =>
      simp only [fitMods.fit1] at f1
      simp only [addMods]
      split at f1
      · rename_i x hx
        have d := TOk.ev (defers := a.defers) ht (.tmp t)
        rw [hx] at d
        obtain ⟨L', g1, g2, g3, g4⟩ := H.addRow hs f1 (y := a.tmps.getD t undef) d (fun ho fid e c => hL fid c (by subst ho; subst e; simp [ownsOf, hx]))
        refine step _ L' _ g3 ⟨g2.sim, g2.tok.setSame t ⟨if_pos rfl, g4⟩, g2.bx, g2.own, g2.oe⟩ (fun f q => ?_) (fun _ q => q)
        rcases (g1 f).mp q with q | ⟨q1, q2⟩
        · exact .inl q
        · subst q1; subst q2; exact .inr (by simp [ownsOf, hx])
      · exact f1.elim
    | cv t off v =>
      simp only [fitMods.fit1] at f1
      simp only [addMods]
      split at f1
      · rename_i id o hp
        split at f1
        · rename_i t' cs hl
          split at f1
          · rename_i x hx
            subst f1
            exact step _ L μ μ.le_refl (bump (H.cell hs hl hx (.v x) (fun y d => d))) (fun f q => .inl q) (fun _ q => q)
          · exact f1.elim
        · exact f1.elim
      · exact f1.elim
    | cr t off c l own =>
      simp only [fitMods.fit1] at f1
      simp only [addMods]
      split at f1
      · rename_i id o hp
        split at f1
        · rename_i t' cs hl
          split at f1
          · rename_i x hx
            obtain ⟨b, arr, p1, p2, p3, p4, p5⟩ := hs.box id t' cs hl
            have hlt : o + off < arr.toList.length := by rw [← p4.1]; exact (List.getElem?_eq_some_iff.mp hx).1
            have d := p4.2.2 (o + off) x _ hx (List.getElem?_eq_getElem hlt)
            obtain ⟨L', g1, g2, g3, g4⟩ := H.addRow hs f1 d (fun ho fid e c => hL fid c (by subst ho; subst e; simp [ownsOf, hp, hl, hx]))
            -- the cell's value is the row's
            have H2 : HInv U w0 F0 s ν a w F (k + 1) L' { h with heap := upd1 id (fun cs => setAt cs (o + off) (.sl (16 * k))) h.heap, rows := (16 * k, ⟨c, l, own⟩) :: h.rows } (μ.setF (16 * k) arr.toList[o + off]) := by
              have := cellRow hs g2 hl p1 p3 hlt g4
              exact this
            refine step _ L' _ g3 H2 (fun f q => ?_) (fun _ q => q)
            rcases (g1 f).mp q with q | ⟨q1, q2⟩
            · exact .inl q
            · subst q1; subst q2; exact .inr (by simp [ownsOf, hp, hl, hx])
          · exact f1.elim
        · exact f1.elim
      · exact f1.elim
    | cj t off =>
      simp only [addMods]
      exact step _ L μ μ.le_refl (bump H) (fun f q => .inl q) (fun _ q => q)
    | xt t c l => exact xstay (c := c) (l := l) rfl rfl rfl f1 (sameX_head (Bool.and_eq_true_iff.mp hX).1)
    | xc t off c l => exact xstay (c := c) (l := l) rfl rfl rfl f1 (sameX_head (Bool.and_eq_true_iff.mp hX).1)
    | cx t off c l =>
      -- the cell's value
      have key : ∀ {id o : Nat} {t' : TypeId} {cs : List Atom} {x : Atom}, ptrOf e0 t = some (id, o) → look id s.heap = some (t', cs) → cs[o + off]? = some x → ∃ y, oneV y = true ∧ Den ν x y ∧ ∃ μ'', μ.le μ'' ∧ μ''.f (16 * k) = some y ∧ Sim U w0 F0 (fun q => k + (Mod.cx t off c l :: ms).length ≤ q) (addMods e0 (.cx t off c l :: ms) k h).heap (addMods e0 (.cx t off c l :: ms) k h).rows w μ'' F ∧ TOk μ'' (addMods e0 (.cx t off c l :: ms) k h).tmps a.tmps ∧ μ''.o = ν.o ∧ XP e0 s ν ms (k + 1) μ'' := fun {id o t' cs x} hp hl hcell => by
        obtain ⟨b, arr, e1, e2, e3, e4, e5⟩ := hs.box id t' cs hl
        have hlt : o + off < arr.toList.length := by rw [← e4.1]; exact (List.getElem?_eq_some_iff.mp hcell).1
        have d := e4.2.2 (o + off) _ _ hcell (List.getElem?_eq_getElem hlt)
        have h1 : oneV arr.toList[o + off] = true := e4.2.1 _ (List.getElem_mem hlt)
        have hfree : μ.f (16 * k) = none := (H.sim.free k (Nat.le_refl _)).2 0 (by omega)
        have hle : μ.le (μ.setF (16 * k) arr.toList[o + off]) := Nu.le_setF hfree
        have H1 : HInv U w0 F0 s ν a w F (k + 1) L h (μ.setF (16 * k) arr.toList[o + off]) := by
          refine ⟨(H.sim.setF (fid := 16 * k) hfree _).fr fun q hq => ⟨by omega, fun j hj => by omega⟩, H.tok.mono hle, fun id hid => H.bx id hid, fun f r v g1 g2 g3 => ?_, H.oe⟩
          have hne : f ≠ 16 * k := fun q => by
            subst q
            obtain ⟨v', z1, _⟩ := H.sim.row _ _ g1
            rw [hfree] at z1; cases z1
          exact H.own f r v g1 g2 ((if_neg hne).symm.trans g3)
        have H2 := cellRow hs H1 hl e1 e3 hlt h1
        obtain ⟨μ'', g00, g0, g1, g2, g3, g4⟩ := step0 _ L _ hle H2 (fun f q => .inl q)
        refine ⟨_, h1, d, μ'', g0, g00.2.1 _ _ (if_pos rfl), ?_, ?_, g3, g4⟩
        · simp only [addMods, hp]; exact g1
        · simp only [addMods, hp]; exact g2
      have hcx : ∀ x, xCell e0 s t off = some x → ∃ id o t' cs, ptrOf e0 t = some (id, o) ∧ look id s.heap = some (t', cs) ∧ cs[o + off]? = some x := fun x hx => by
        unfold xCell at hx
        split at hx
        · rename_i id o hp
          split at hx
          · rename_i t' cs hl; exact ⟨id, o, t', cs, hp, hl, hx⟩
          · cases hx
        · cases hx
      have hsrc : xSource e0 s (.cx t off c l) = xAtom (xCell e0 s t off) := by
        simp only [xSource, xCell]
        cases ptrOf e0 t with
        | none => rfl
        | some q =>
          obtain ⟨id, o⟩ := q
          simp only
          cases look id s.heap with
          | none => rfl
          | some q => rfl
      simp only [fitMods.fit1] at f1
      split at f1
      · rename_i hx
        split at f1
        · rename_i hfl
          subst f1
          obtain ⟨id, o, t', cs, hp, hl, hcell⟩ := hcx _ hx
          obtain ⟨y, _, d, μ'', g0, gy, g1, g2, g3, g4⟩ := key hp hl hcell
          have d : y = .slice none 0 0 := d
          subst d
          refine ⟨μ'', g0, g1, g2, g3, ?_⟩
          unfold XP
          have hn : xSource e0 s (.cx t off c []) = none := by rw [hsrc, hx]; rfl
          simp only [xSources, hn, newX]
          exact .inl ⟨⟨c, [], _, rfl, Nat.le_add_left _ _, by rw [Nat.add_sub_cancel]; exact gy, ⟨hfl, .inl ⟨rfl, rfl⟩⟩, rfl⟩, g4⟩
        · exact f1.elim
      · obtain ⟨fid, y0, p1, p2, p3, p4⟩ := fitX_is hrk f1
        have hxa : xAtom (xCell e0 s t off) = some fid := hsrc ▸ p1
        have hx : xCell e0 s t off = some (.sl fid) := by
          unfold xAtom at hxa
          split at hxa
          · rename_i fid' hh; cases hxa; exact hh
          · cases hxa
        obtain ⟨id, o, t', cs, hp, hl, hcell⟩ := hcx _ hx
        obtain ⟨y, _, d, μ'', g0, gy, g1, g2, g3, g4⟩ := key hp hl hcell
        have hy : y = y0 := Option.some.inj (d.1.symm.trans p3)
        subst hy
        refine ⟨μ'', g0, g1, g2, g3, ?_⟩
        unfold XP
        simp only [xSources, p1, newX]
        exact .inr ⟨fid, _, rfl, ⟨c, l, y, rfl, Nat.le_add_left _ _, by rw [Nat.add_sub_cancel]; exact gy, p4, p3, p2⟩, g4⟩
where
  cellRow (hs : Sim U w0 F0 Fr s.heap s.rows w ν F) {k : Nat} {L : List Nat} {h : St U} {μ : Nu} {id i b : Nat} {t' : TypeId} {cs : List Atom} {arr : Array Value} {hlt : i < arr.toList.length}
      (H : HInv U w0 F0 s ν a w F (k + 1) L h (μ.setF (16 * k) arr.toList[i])) (hl : look id s.heap = some (t', cs)) (p1 : ν.b id = some b) (p3 : w.heap[b]? = some (.cells arr t' (0, 0))) (hlt' : i < arr.toList.length) (h1 : oneV arr.toList[i] = true) :
      HInv U w0 F0 s ν a w F (k + 1) L { h with heap := upd1 id (fun cs => setAt cs i (.sl (16 * k))) h.heap } (μ.setF (16 * k) arr.toList[i]) := by
    cases hh : look id h.heap with
    | none => rw [upd1_none hh]; exact H
    | some q =>
      obtain ⟨t2, cs'⟩ := q
      obtain ⟨_, b', e1, e2⟩ := H.bx id (by rw [hh]; rfl)
      obtain ⟨b1, arr1, q1, q2, q3, q4, q5⟩ := H.sim.box id t2 cs' hh
      obtain rfl : b1 = b' := Option.some.inj (q1.symm.trans e2)
      obtain rfl : b = b1 := Option.some.inj (p1.symm.trans e1)
      rw [p3] at q3
      cases q3
      have hd : DenL (μ.setF (16 * k) arr.toList[i]) (setAt cs' i (.sl (16 * k))) arr.toList := by
        refine ⟨by simp [setAt, q4.1], q4.2.1, fun j x' y g1 g2 => ?_⟩
        simp only [setAt] at g1
        rw [List.getElem?_set] at g1
        by_cases c : i = j
        · subst c
          rw [if_pos rfl] at g1
          split at g1
          · cases g1
            rw [List.getElem?_eq_getElem hlt] at g2
            cases g2
            exact ⟨if_pos rfl, h1⟩
          · cases g1
        · rw [if_neg c] at g1; exact q4.2.2 j x' y g1 g2
      refine ⟨H.sim.store hh q1 rfl rfl rfl rfl p3 (fun _ _ => rfl) hd, H.tok, fun j hj => H.bx j ?_, H.own, H.oe⟩
      simp only [look_upd1] at hj
      split at hj
      · simpa using hj
      · exact hj

def isRow : RS U → Bool
  | .row _ _ => true
  | _ => false
theorem recs_lt (hs : Sim U w0 F0 (fun k => s.next ≤ k) s.heap s.rows w ν F) {recs : List (Nat × RS U)} (hR : RecsOk ν recs) {id : Nat} {x : RS U} (h : (id, x) ∈ recs) (hx : isRow x = false) : id < s.next := by
  have key : ∀ {l : Nat}, ν.b id = some l → id < s.next := fun {l} e1 => by
    rcases Nat.lt_or_ge id s.next with q | q
    · exact q
    · rw [(hs.free id q).1] at e1; cases e1
  have := hR.1 id x h
  cases x with
  | row c l => cases hx
  | ready => obtain ⟨l, r, e1, _⟩ := this; exact key e1
  | busy => obtain ⟨l, r, e1, _⟩ := this; exact key e1
  | done c => obtain ⟨l, r, e1, _⟩ := this; exact key e1
theorem mem_keepX {n : Nat} {fs : List Nat} : ∀ {l : List (Nat × RS U)} {p : Nat × RS U}, p ∈ keepX n fs l → p ∈ l ∧ (isRow p.2 = true → 1000000000 ≤ p.1 ∧ p.1 - 1000000000 < 16 * n ∧ p.1 - 1000000000 ∉ fs)
  | [], p, h => by cases h
  | (k, x) :: l, p, h => by
    have rest : p ∈ keepX n fs l → p ∈ (k, x) :: l ∧ (isRow p.2 = true → 1000000000 ≤ p.1 ∧ p.1 - 1000000000 < 16 * n ∧ p.1 - 1000000000 ∉ fs) := fun q => ⟨List.mem_cons_of_mem _ (mem_keepX q).1, (mem_keepX q).2⟩
    cases x with
    | row c r =>
      simp only [keepX] at h
      split at h
      · exact rest h
      · rename_i hb
        rcases List.mem_cons.mp h with rfl | h
        · simp only [Bool.or_eq_false_iff, Bool.not_eq_false'] at hb
          obtain ⟨⟨h1, h2⟩, h3⟩ := hb
          refine ⟨List.mem_cons_self .., fun _ => ⟨Nat.le_of_ble_eq_true h2, ?_, fun c => ?_⟩⟩
          · have : ¬ (16 * n ≤ k - 1000000000) := fun q => by rw [Nat.ble_eq_true_of_le q] at h3; cases h3
            show k - 1000000000 < _
            omega
          · have c : k - 1000000000 ∈ fs := c
            rw [(mem_iff _ _).mpr c] at h1; cases h1
        · exact rest h
    | ready => rcases List.mem_cons.mp h with rfl | h; exact ⟨List.mem_cons_self .., fun c => by cases c⟩; exact rest h
    | busy => rcases List.mem_cons.mp h with rfl | h; exact ⟨List.mem_cons_self .., fun c => by cases c⟩; exact rest h
    | done c => rcases List.mem_cons.mp h with rfl | h; exact ⟨List.mem_cons_self .., fun c => by cases c⟩; exact rest h
theorem nodup_at {l : List Nat} (h : l.Nodup) {i j x : Nat} (hi : l[i]? = some x) (hj : l[j]? = some x) : i = j := by
  induction l generalizing i j with
  | nil => simp at hi
  | cons y l ih =>
    obtain ⟨h1, h2⟩ := List.nodup_cons.mp h
    cases i with
    | zero =>
      cases j with
      | zero => rfl
      | succ j => simp at hi hj; subst hi; exact absurd (List.mem_of_getElem? hj) h1
    | succ i =>
      cases j with
      | zero => simp at hi hj; subst hj; exact absurd (List.mem_of_getElem? hi) h1
      | succ j => exact congrArg (· + 1) (ih h2 (by simpa using hi) (by simpa using hj))
/-- What is kept of the records, and the rows that the mods tell of. -/
theorem head_recs {n : Nat} {fs : List Nat} {new : List (Nat × RS U)} {μ : Nu} (hRe : RecsOk ν s.recs) (hb : ∀ k, k < n → ∀ x, ν.b k = some x → μ.b k = some x) (hf : ∀ k, k < 16 * n → ∀ x, ν.f k = some x → μ.f k = some x) (ho : μ.o = ν.o)
    (hlt : ∀ id x, (id, x) ∈ keepX n fs s.recs → isRow x = false → id < n) (hnd : fs.Nodup)
    (hX : XPr s ν μ new fs) : RecsOk μ (new ++ keepX n fs s.recs) := by
  have xr : ∀ {y : Value} {c : U.C} {l : List (U.T c)}, XRow U ν y c l → XRow U μ y c l := fun {y c l} h => by
    refine ⟨h.1, ?_⟩
    rcases h.2 with q | ⟨g, off, cap, t, arr, e1, e2, e3⟩
    · exact .inl q
    · exact .inr ⟨g, off, cap, t, arr, e1, by rw [ho]; exact e2, e3⟩
  -- what is kept
  have old : ∀ id x, (id, x) ∈ keepX n fs s.recs → (id, x) ∈ s.recs ∧ RecIs μ id x ∧ blkOf μ id x = blkOf ν id x := fun id x e => by
    obtain ⟨q1, q2⟩ := mem_keepX e
    have h0 := hRe.1 id x q1
    refine ⟨q1, ?_⟩
    cases x with
    | row c l =>
      obtain ⟨e0, v, e1, e2⟩ := h0
      have e3 := hf _ (q2 rfl).2.1 _ e1
      exact ⟨⟨e0, v, e3, xr e2⟩, by simp only [blkOf, e1, e3]⟩
    | ready => obtain ⟨l, r, e1, e2, e3⟩ := h0; have e4 := hb id (hlt id _ e rfl) l e1; exact ⟨⟨l, r, e4, by rw [ho]; exact e2, e3⟩, e4.trans e1.symm⟩
    | busy => obtain ⟨l, r, e1, e2, e3⟩ := h0; have e4 := hb id (hlt id _ e rfl) l e1; exact ⟨⟨l, r, e4, by rw [ho]; exact e2, e3⟩, e4.trans e1.symm⟩
    | done c => obtain ⟨l, r, e1, e2, e3⟩ := h0; have e4 := hb id (hlt id _ e rfl) l e1; exact ⟨⟨l, r, e4, by rw [ho]; exact e2, e3⟩, e4.trans e1.symm⟩
  have one : ∀ {p f}, XOne s ν μ p f → RecIs μ p.1 p.2 ∧ ∀ g, blkOf μ p.1 p.2 = some g → ∃ fid c l y, f = some fid ∧ p.2 = RS.row c l ∧ XRow U ν y c l ∧ ν.f fid = some y ∧ y.ownBlock = some g ∧ blkOf ν (fid + 1000000000) (RS.row c l : RS U) = some g ∧ (fid + 1000000000, RS.row c l) ∈ s.recs := fun {p f} h => by
    obtain ⟨c, l, y, q2, q3, q4, q5, q6⟩ := h
    obtain ⟨k, x⟩ := p
    simp only at q2 q3 q4
    subst q2
    refine ⟨⟨q3, y, q4, xr q5⟩, fun g e => ?_⟩
    simp only [blkOf, q4] at e
    have e : y.ownBlock = some g := e
    cases f with
    | none => have q6 : y.ownBlock = none := q6; rw [e] at q6; cases q6
    | some fid =>
      obtain ⟨q6, q7⟩ := q6
      exact ⟨fid, c, l, y, rfl, rfl, q5, q6, e, by simp only [blkOf, Nat.add_sub_cancel, q6]; exact e, q7⟩
  have isNew : ∀ p, p ∈ new → RecIs μ p.1 p.2 ∧ ∀ g, blkOf μ p.1 p.2 = some g → ∃ f c l y, f ∈ fs ∧ XRow U ν y c l ∧ ν.f f = some y ∧ y.ownBlock = some g ∧ blkOf ν (f + 1000000000) (RS.row c l : RS U) = some g ∧ (f + 1000000000, RS.row c l) ∈ s.recs := fun p hp => by
    rcases hX.at_ p hp with h | ⟨f, hf, h⟩
    · refine ⟨(one h).1, fun g e => ?_⟩
      obtain ⟨fid, c, l, y, q, _⟩ := (one h).2 g e
      cases q
    · refine ⟨(one h).1, fun g e => ?_⟩
      obtain ⟨fid, c, l, y, q, _, z1, z2, z3, z4, z5⟩ := (one h).2 g e
      cases q
      exact ⟨f, c, l, y, hf, z1, z2, z3, z4, z5⟩
  have both : ∀ (new : List (Nat × RS U)) (fs : List Nat), XPr s ν μ new fs → fs.Nodup → ∀ p ∈ new, ∀ p' ∈ new, ∀ g, blkOf μ p.1 p.2 = some g → blkOf μ p'.1 p'.2 = some g → p.1 = p'.1 := by
    intro new
    induction new with
    | nil => intro fs _ _ p hp; cases hp
    | cons q qs ih =>
      intro fs h hnd p hp p' hp' g e e'
      have clash : ∀ {f fs' z}, fs = f :: fs' → XOne s ν μ q (some f) → XPr s ν μ qs fs' → z ∈ qs → blkOf μ q.1 q.2 = some g → blkOf μ z.1 z.2 = some g → False := fun {f fs' z} hfs h1 h2 hz e1 e2 => by
        subst hfs
        obtain ⟨fid, c, l, y, z0, _, _, _, _, z4, z5⟩ := (one h1).2 g e1
        cases z0
        rcases h2.at_ z hz with h3 | ⟨f', hf', h3⟩
        · obtain ⟨_, _, _, _, z, _⟩ := (one h3).2 g e2; cases z
        · obtain ⟨fid', c', l', y', z0', _, _, _, _, z4', z5'⟩ := (one h3).2 g e2
          cases z0'
          have := hRe.2 _ _ _ _ g z5 z5' z4 z4'
          have : f = f' := by omega
          subst this
          exact (List.nodup_cons.mp hnd).1 hf'
      rcases h with ⟨h1, h2⟩ | ⟨f, fs', hfs, h1, h2⟩
      · have none1 : blkOf μ q.1 q.2 = some g → False := fun e1 => by obtain ⟨_, _, _, _, z, _⟩ := (one h1).2 g e1; cases z
        rcases List.mem_cons.mp hp with rfl | hp
        · exact (none1 e).elim
        · rcases List.mem_cons.mp hp' with rfl | hp'
          · exact (none1 e').elim
          · exact ih fs h2 hnd p hp p' hp' g e e'
      · rcases List.mem_cons.mp hp with rfl | hp2
        · rcases List.mem_cons.mp hp' with rfl | hp3
          · rfl
          · exact (clash hfs h1 h2 hp3 e e').elim
        · rcases List.mem_cons.mp hp' with rfl | hp3
          · exact (clash hfs h1 h2 hp2 e' e).elim
          · subst hfs
            exact ih fs' h2 (List.nodup_cons.mp hnd).2 p hp2 p' hp3 g e e'
  have mixed : ∀ p, p ∈ new → ∀ id x, (id, x) ∈ keepX n fs s.recs → ∀ g, blkOf μ p.1 p.2 = some g → blkOf μ id x = some g → False := fun p hp id x e g q q' => by
    obtain ⟨f, c, l, v, r1, z2, z1, z0, r4, r5⟩ := (isNew p hp).2 g q
    obtain ⟨o1, _, o3⟩ := old id x e
    rw [o3] at q'
    have hid := hRe.2 id _ x _ g o1 r5 q' r4
    cases hx : isRow x with
    | true =>
      have := ((mem_keepX e).2 hx).2.2
      rw [hid] at this
      exact this (by show f + 1000000000 - 1000000000 ∈ fs; rw [Nat.add_sub_cancel]; exact r1)
    | false =>
      rcases z2.2 with ⟨rfl, _⟩ | ⟨g', off, cap, t, arr, rfl, z3, _⟩
      · cases z0
      · cases z0
        have := hRe.1 id x o1
        cases x with
        | row c l => cases hx
        | ready => obtain ⟨l, r, e1, e2, _⟩ := this; have q' : ν.b id = some g' := q'; rw [e1] at q'; cases q'; rw [z3] at e2; cases e2
        | busy => obtain ⟨l, r, e1, e2, _⟩ := this; have q' : ν.b id = some g' := q'; rw [e1] at q'; cases q'; rw [z3] at e2; cases e2
        | done c => obtain ⟨l, r, e1, e2, _⟩ := this; have q' : ν.b id = some g' := q'; rw [e1] at q'; cases q'; rw [z3] at e2; cases e2
  refine ⟨fun id x e => ?_, fun id id' x x' g e e' q q' => ?_⟩
  · rcases List.mem_append.mp e with e | e
    · exact (isNew _ e).1
    · exact (old id x e).2.1
  · rcases List.mem_append.mp e with e | e
    · rcases List.mem_append.mp e' with e' | e'
      · exact both new fs hX hnd _ e _ e' g q q'
      · exact (mixed _ e id' x' e' g q q').elim
    · rcases List.mem_append.mp e' with e' | e'
      · exact (mixed _ e' id x e g q' q).elim
      · obtain ⟨o1, _, o2⟩ := old id x e
        obtain ⟨o1', _, o2'⟩ := old id' x' e'
        exact hRe.2 id id' x x' g o1 o1' (o2 ▸ q) (o2' ▸ q')
/-- A state that fits the head is the head. -/
theorem head_ok {W : List Nat} {ms : List (Mod U)} {fr : Frm} (hfe : fr.n ≤ e0.next) (h : SimS U w0 F0 fr s a w) (hb : base e0.next W (modCells e0 ms) s = base e0.next W (modCells e0 ms) e0) (hf : fitMods e0 s ms) (hn : nodup (ownsAll e0 s ms) = true) (hre : keepX e0.next (xSources e0 s ms) s.recs = keepX e0.next (xSources e0 e0 ms) e0.recs) (hr0 : recsFit0 e0 s ms = true) (hlt : ∀ id x, (id, x) ∈ e0.recs → isRow x = false → id < e0.next) : SimS U w0 F0 fr (headOf W e0 ms) a w := by
  obtain ⟨hnx, ν, F, hs, ht, hR, hRe, hM⟩ := h
  obtain ⟨b1, b2⟩ := base_ok (n := e0.next) (W := W) (M := modCells e0 ms) hs ht
  have hr0 := Bool.and_eq_true_iff.mp hr0
  obtain ⟨μ, g0, g1, g2, g3, g4⟩ := addMods_ok (e0 := e0) hs hRe ht ms e0.next (base e0.next W (modCells e0 ms) s) [] (ν.cut e0.next) ⟨b1, b2, fun id hid => (by
      simp only [base, look_cleanH] at hid
      split at hid
      · rename_i hlt
        have hid : (look id s.heap).isSome := by simpa using hid
        obtain ⟨⟨t, cs⟩, e⟩ := Option.isSome_iff_exists.mp hid
        obtain ⟨b, arr, e1, _⟩ := hs.box id t cs e
        exact ⟨hid, b, e1, (Nu.cut_b hlt).trans e1⟩
      · cases hid), fun fid r v e1 e2 => (by
      simp only [base, look_cleanR] at e1
      split at e1
      · cases hh : look fid s.rows with
        | none => rw [hh] at e1; cases e1
        | some x => rw [hh] at e1; cases e1; cases e2
      · cases e1), rfl⟩ hf (fun f hf => by cases hf) (nodup_iff _ hn) hr0.2 (fun f hlt y e => (Nu.cut_f hlt).trans e)
  rw [hb] at g1 g2
  have hle : ν.leN e0.next μ := Nu.leN_trans (b := ν.cut e0.next) ⟨fun k hk x e => (Nu.cut_b hk).trans e, fun k hk x e => (Nu.cut_f hk).trans e, fun k x e _ => ⟨x, e, recLe.refl x⟩⟩ (g0.leN _)
  refine ⟨Nat.le_trans hfe (Nat.le_add_right _ _), μ, F, g1, g2, fr.st ν μ (Nu.leN_mono hle hfe) hR, ?_, hM.leN hle⟩
  show RecsOk μ (newX e0 ms e0.next ++ keepX e0.next (xSources e0 e0 ms) e0.recs)
  rw [← hre]
  refine head_recs hRe hle.1 hle.2.1 g3 (fun id x e hx => ?_) (nodup_iff _ hr0.1) g4
  rw [hre] at e
  exact hlt id x (mem_keepX e).1 hx
/-! ### A head in which rows stay one's own -/
theorem look_cleanRK {n : Nat} (fid : Nat) : ∀ rows : List (Nat × Row U), look fid (cleanRK n rows) = if fid < 16 * n then look fid rows else none
  | [] => by simp [cleanRK, look]
  | (j, r) :: rs => by
    simp only [cleanRK]
    have ih := look_cleanRK (n := n) fid rs
    by_cases h : j < 16 * n
    · rw [if_pos h, look_cons, look_cons]
      by_cases e : j = fid
      · subst e; rw [if_pos rfl, if_pos rfl, if_pos h]
      · rw [if_neg e, if_neg e]; exact ih
    · rw [if_neg h, ih, look_cons]
      by_cases e : j = fid
      · subst e; rw [if_neg h, if_neg h]
      · rw [if_neg e]
theorem baseK_ok {n : Nat} {M : List (Nat × Nat)} (hs : Sim U w0 F0 Fr s.heap s.rows w ν F) (ht : TOk ν s.tmps a.tmps) :
    Sim U w0 F0 (fun k => n ≤ k) (baseK n M s).heap (baseK n M s).rows w (ν.cut n) F ∧ TOk (ν.cut n) (baseK n M s).tmps a.tmps := by
  obtain ⟨b1, b2⟩ := base_ok (n := n) (W := []) (M := M) hs ht
  have lk : ∀ {fid r}, look fid (baseK n M s).rows = some r → fid < 16 * n ∧ look fid s.rows = some r := fun {fid r} e => by
    simp only [baseK, look_cleanRK] at e
    split at e
    · rename_i h; exact ⟨h, e⟩
    · cases e
  have lh : ∀ {id}, (look id (baseK n M s).heap).isSome → id < n ∧ (look id s.heap).isSome := fun {id} e => by
    simp only [baseK, look_cleanH] at e
    split at e
    · rename_i h; exact ⟨h, by simpa using e⟩
    · cases e
  refine ⟨⟨b1.below, b1.box, b1.inj, b1.lt, fun fid r e => ?_, fun fid r v id b e1 e2 e3 e4 e5 => ?_, fun fid r v fid' r' v' b e1 e2 e3 e4 e5 e6 e7 e8 => ?_, b1.free, b1.sub, b1.new, b1.hold, fun l x e hc => ⟨(b1.hx l x e hc).1, (b1.hx l x e hc).2.1, fun fid r v e1 e2 e3 => ?_⟩⟩, b2⟩
  rotate_left 3
  · obtain ⟨h, e1⟩ := lk e1
    rw [Nu.cut_f h] at e3
    exact (hs.hx l x e hc).2.2 fid r v e1 e2 e3
  · obtain ⟨h, e⟩ := lk e
    obtain ⟨v, q1, q2, q3⟩ := hs.row fid r e
    exact ⟨v, (Nu.cut_f h).trans q1, q2, q3⟩
  · obtain ⟨h, e1⟩ := lk e1
    obtain ⟨h', e4⟩ := lh e4
    rw [Nu.cut_f h] at e3
    rw [Nu.cut_b h'] at e5
    exact hs.apart fid r v id b e1 e2 e3 e4 e5
  · obtain ⟨h, e1⟩ := lk e1
    obtain ⟨h', e4⟩ := lk e4
    rw [Nu.cut_f h] at e3
    rw [Nu.cut_f h'] at e6
    exact hs.apart2 fid r v fid' r' v' b e1 e2 e3 e4 e5 e6 e7 e8
theorem onlyCv_owns {e s : St U} : ∀ {ms : List (Mod U)}, onlyCv ms = true → ownsAll e s ms = []
  | [], _ => rfl
  | m :: ms, h => by
    cases m with
    | cv t off v => simp only [ownsAll, ownsOf, List.nil_append]; exact onlyCv_owns (ms := ms) h
    | _ => cases h
theorem onlyCv_same {e s : St U} : ∀ {ms : List (Mod U)}, onlyCv ms = true → sameX e s ms = true
  | [], _ => rfl
  | m :: ms, h => by
    cases m with
    | cv t off v => exact onlyCv_same (ms := ms) h
    | _ => cases h
theorem onlyCv_mods {W : List Nat} : ∀ {ms : List (Mod U)}, onlyCv ms = true → modsOK W ms = true
  | [], _ => rfl
  | m :: ms, h => by
    cases m with
    | cv t off v => exact onlyCv_mods (ms := ms) h
    | _ => cases h
theorem cleanR_erase {n : Nat} : ∀ l : List (Nat × Row U), cleanR n l = (cleanRK n l).map fun p => (p.1, (⟨p.2.c, p.2.l, false⟩ : Row U))
  | [] => rfl
  | (fid, r) :: l => by
    simp only [cleanR, cleanRK]
    split
    · rw [List.map_cons, cleanR_erase l]
    · exact cleanR_erase l
theorem boolEq_is {a b : Bool} (h : boolEq a b = true) : a = b := by cases a <;> cases b <;> first | rfl | cases h
theorem flags_same : ∀ {A B : List (Nat × Row U)}, A.map (fun p => (p.1, (⟨p.2.c, p.2.l, false⟩ : Row U))) = B.map (fun p => (p.1, (⟨p.2.c, p.2.l, false⟩ : Row U))) → flagsEq A B = true → A = B
  | [], [], _, _ => rfl
  | [], _ :: _, h, _ => by cases h
  | _ :: _, [], h, _ => by cases h
  | (i, ⟨c, l, o⟩) :: A, (j, ⟨c', l', o'⟩) :: B, h, hf => by
    simp only [List.map_cons, List.cons.injEq, Prod.mk.injEq, Row.mk.injEq] at h
    simp only [flagsEq, Bool.and_eq_true] at hf
    obtain ⟨⟨h1, h2, h3, _⟩, h4⟩ := h
    subst h1; subst h2
    have h3 := eq_of_heq h3
    subst h3
    have := boolEq_is hf.1
    subst this
    rw [flags_same h4 hf.2]
theorem baseK_eq {n : Nat} {M : List (Nat × Nat)} (h : base n [] M s = base n [] M e0) (hf : flagsEq (cleanRK n s.rows) (cleanRK n e0.rows) = true) : baseK n M s = baseK n M e0 := by
  unfold base at h
  simp only [St.mk.injEq] at h
  obtain ⟨h1, h2, h3, _⟩ := h
  rw [cleanR_erase, cleanR_erase] at h3
  unfold baseK
  rw [h1, h2, flags_same h3 hf]
theorem head_okK {ms : List (Mod U)} {fr : Frm} (hfe : fr.n ≤ e0.next) (h : SimS U w0 F0 fr s a w) (hb : baseK e0.next (modCells e0 ms) s = baseK e0.next (modCells e0 ms) e0) (hf : fitMods e0 s ms) (hn : onlyCv ms = true) (hre : keepX e0.next [] s.recs = keepX e0.next [] e0.recs) (hlt : ∀ id x, (id, x) ∈ e0.recs → isRow x = false → id < e0.next) : SimS U w0 F0 fr (cutHead e0 ms) a w := by
  obtain ⟨hnx, ν, F, hs, ht, hR, hRe, hM⟩ := h
  obtain ⟨b1, b2⟩ := baseK_ok (n := e0.next) (M := modCells e0 ms) hs ht
  obtain ⟨μ, g0, g1, g2, g3, _⟩ := addMods_ok (e0 := e0) hs hRe ht ms e0.next (baseK e0.next (modCells e0 ms) s) (s.rows.map (·.1)) (ν.cut e0.next) ⟨b1, b2, fun id hid => (by
      simp only [baseK, look_cleanH] at hid
      split at hid
      · rename_i hlt
        have hid : (look id s.heap).isSome := by simpa using hid
        obtain ⟨⟨t, cs⟩, e⟩ := Option.isSome_iff_exists.mp hid
        obtain ⟨b, arr, e1, _⟩ := hs.box id t cs e
        exact ⟨hid, b, e1, (Nu.cut_b hlt).trans e1⟩
      · cases hid), fun fid r v e1 e2 e3 => (by
      simp only [baseK, look_cleanRK] at e1
      split at e1
      · rename_i hlt
        rw [Nu.cut_f hlt] at e3
        refine .inr ⟨fid, ?_, r, e1, e2, e3⟩
        have : ∀ (l : List (Nat × Row U)), look fid l = some r → fid ∈ l.map (·.1) := by
          intro l
          induction l with
          | nil => intro c; cases c
          | cons x l ih =>
            intro c
            rw [look_cons] at c
            split at c
            · rename_i e; rw [← e]; exact List.mem_cons_self ..
            · exact List.mem_cons_of_mem _ (ih c)
        exact this _ e1
      · cases e1), rfl⟩ hf (fun f _ => by rw [onlyCv_owns hn]; exact fun c => by cases c) (by rw [onlyCv_owns hn]; exact List.nodup_nil) (onlyCv_same hn) (fun f hlt y e => (Nu.cut_f hlt).trans e)
  rw [hb] at g1 g2
  have hle : ν.leN e0.next μ := Nu.leN_trans (b := ν.cut e0.next) ⟨fun k hk x e => (Nu.cut_b hk).trans e, fun k hk x e => (Nu.cut_f hk).trans e, fun k x e _ => ⟨x, e, recLe.refl x⟩⟩ (g0.leN _)
  refine ⟨Nat.le_trans hfe (Nat.le_add_right _ _), μ, F, g1, g2, fr.st ν μ (Nu.leN_mono hle hfe) hR, ?_, hM.leN hle⟩
  show RecsOk μ (keepX e0.next [] e0.recs)
  rw [← hre]
  refine head_recs (new := []) hRe hle.1 hle.2.1 g3 (fun id x e hx => ?_) List.nodup_nil True.intro
  rw [hre] at e
  exact hlt id x (mem_keepX e).1 hx
end
end Go.RX

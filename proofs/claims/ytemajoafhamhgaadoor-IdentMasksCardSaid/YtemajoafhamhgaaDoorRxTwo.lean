/- Runs of Go functions over states that are told by numbers, truth values, texts and lists; each such run is proved to be the machine's. No condition beside those that each theorem states. -/
import Derived.Test.YtemajoafhamhgaaDoorRxOne
/- Symbolic runs of Go functions: an operation behind a guard, and regions that keep the order of the text. -/
namespace Go.RX
open Go.RowKit
set_option linter.unusedSimpArgs false
set_option linter.unusedVariables false

section
variable {P : Program} {U : Uni} {Γ : Con U} {s s' : St U} {kx : Nat} {o : Oper} {r : Ran U} {w0 w : World} {F0 : Nat → Nat → Prop} {Fr : Nat → Prop} {ν : Nu} {F : Nat → Nat → Prop} {a : Act} {ops : Array Oper}

theorem tmps_app (u : Upd U) : (s.app kx u).tmps = s.tmps := by cases u <;> rfl
theorem next_app (u : Upd U) : (s.app kx u).next = s.next := by cases u <;> rfl

theorem undef_ne (b : Bool) : ¬ (undef : Value) = .bool b := by unfold undef; intro c; cases c

theorem guardB_spec (ht : TOk ν s.tmps a.tmps) : ∀ (n d : Nat) (want g : Bool), guardB s n d want = some g → (g = true ↔ a.tmps.getD d undef = .bool want)
  | 0, d, want, g, h => by cases h
  | n + 1, d, want, g, h => by
    simp only [guardB] at h
    have key : ∀ x, s.tmps.getD d (.pl (.one .junk)) = x → x ≠ .pl (.one .junk) → DenTV ν a.tmps x (a.tmps.getD d undef) := fun x e hx => by
      rw [List.getD_eq_getElem?_getD] at e
      cases hh : s.tmps[d]? with
      | none => rw [hh] at e; exact absurd e.symm hx
      | some z => rw [hh] at e; cases e; exact ht.2 d z hh
    split at h
    · rename_i b e
      have := key _ e (by simp)
      have this : a.tmps.getD d undef = .bool b := this
      cases h
      rw [this]
      cases want <;> cases b <;> simp
    · rename_i e w b e1
      have := key _ e1 (by simp)
      obtain ⟨h1, h2⟩ := this
      split at h
      · rename_i g0 hg0
        cases h
        have ih := guardB_spec ht n e w g0 hg0
        by_cases q : a.tmps.getD e undef = .bool w
        · have q1 : a.tmps.getD d undef = .bool b := h1 q
          have q2 : g0 = true := ih.mpr q
          rw [q1, q2]
          cases want <;> cases b <;> simp
        · have q1 : a.tmps.getD d undef = undef := h2 q
          have q2 : g0 = false := by cases g0 <;> simp_all
          rw [q1, q2]
          exact ⟨fun c => by simp at c, fun c => absurd c (undef_ne _)⟩
      · cases h
    · cases h

theorem seen_ok (ht : TOk ν s.tmps a.tmps) {d : Nat} {want : Bool} (h : a.tmps.getD d undef = .bool want) : TOk ν (seen d want s).tmps a.tmps := by
  refine ⟨by simp [seen, ht.1], fun j x e => ?_⟩
  simp only [seen, List.getElem?_map] at e
  cases hh : s.tmps[j]? with
  | none => rw [hh] at e; cases e
  | some z =>
    rw [hh] at e
    cases e
    have k := ht.2 j z hh
    cases z with
    | pl x => exact k
    | opt e w x =>
      simp only [seenTV]
      split
      · rename_i q
        obtain ⟨rfl, rfl⟩ := q
        exact k.1 h
      · exact k

theorem wanted_guard {j : Nat} {want : Bool} {d : Nat} (hg : o.guard = some (j, want)) (hd : dstOf ops j = some d) : Region.wanted o (yielded ops a.tmps) = true ↔ a.tmps.getD d undef = .bool want := by
  unfold dstOf at hd
  split at hd
  · rename_i o' ho'
    simp only [Region.wanted, hg, yielded, ho', Option.bind_some, hd]
    rw [Array.getD_eq_getD_getElem?]
    cases hh : a.tmps[d]? with
    | none => simp [undef_ne]
    | some v => cases v <;> simp
  · cases hd

/-- One operation of a region. -/
theorem condR_true : ∀ (l : List (Nat × Row U)), condR true l = l := by
  intro l
  induction l with
  | nil => rfl
  | cons x l ih => obtain ⟨i, c, l0, own⟩ := x; simp only [condR, ih, Bool.and_true, if_true]
theorem Rd.nil (c : U.C) : Rd U F w (.slice none 0 0) c [] := ⟨1, none, 0, 0, rfl, rfl, Nat.le_refl _, Nat.zero_le _, fun h => absurd h (Nat.lt_irrefl _)⟩
theorem Sim.addNils {heap : List (Nat × TypeId × List Atom)} {rows : List (Nat × Row U)} (h : Sim U w0 F0 Fr heap rows w ν F) (hk : ¬ Fr kx) : ∀ (l : List (Nat × Row U)), condOK kx l = true → (∀ j, j < 16 → ν.f (16 * kx + j) = none) →
    ∃ ν', ν.le ν' ∧ Sim U w0 F0 Fr heap (condR false l ++ rows) w ν' F ∧ ∀ i, l.all (fun x => decide (x.1 ≠ i)) = true → ν'.f i = ν.f i := by
  intro l
  induction l with
  | nil => intro _ _; exact ⟨ν, ν.le_refl, h, fun _ _ => rfl⟩
  | cons x l ih =>
    obtain ⟨i, r⟩ := x
    intro hc hn
    simp only [condOK, Bool.and_eq_true, decide_eq_true_eq] at hc
    obtain ⟨⟨⟨c1, c2⟩, c3⟩, c4⟩ := hc
    obtain ⟨ν', le, q1, q2⟩ := ih c4 hn
    have hi : ν'.f i = none := by
      rw [q2 i c3]
      have := hn (i - 16 * kx) (by omega)
      rwa [show 16 * kx + (i - 16 * kx) = i by omega] at this
    have q3 := q1.addRow (fid := i) hi (fun k j hk' hj e => by
      have : k = kx := by omega
      subst this; exact hk hk') (Rd.nil r.c)
    refine ⟨ν'.setF i (.slice none 0 0), Nu.le_trans le (Nu.le_setF hi), ?_, fun j hj => ?_⟩
    · have e : condR false ((i, r) :: l) ++ rows = (i, (⟨r.c, [], false⟩ : Row U)) :: (condR false l ++ rows) := by simp [condR]
      rw [e]; exact q3
    · simp only [List.all_cons, Bool.and_eq_true, decide_eq_true_eq] at hj
      show (if j = i then Option.some (Value.slice none 0 0) else ν'.f j) = ν.f j
      rw [if_neg (fun e => hj.1 e.symm)]
      exact q2 j hj.2
theorem rstepE_sound {ob : Option Prop} {tv : TV} {u : Upd U} (h : rstepE P Γ ops s kx o = some (ob, tv, u)) (hput : putOK s o.dst = true) (ho : obOK ob) (hs : Sim U w0 F0 Fr s.heap s.rows w ν F) (hk : Fr kx) (ht : TOk ν s.tmps a.tmps) {G : World → Prop} (hG : G w) (hΓ : ∀ n g, Γ.c n = some g → ConOk P U G n g)
    {next : Act → World → Prop} {Q : Exit → Act → World → Prop}
    (hn : ∀ a' w' ν' F', a'.defers = a.defers → ν.le ν' → Sim U w0 F0 (fun k => Fr k ∧ k ≠ kx) (s.app kx u).heap (s.app kx u).rows w' ν' F' → TOk ν' ((s.app kx u).put o.dst tv).tmps a'.tmps → next a' w') :
    (Region.wanted o (yielded ops a.tmps) = true → o.wp P a w next Q) ∧ (Region.wanted o (yielded ops a.tmps) = false → next (a.put o.dst undef) w) := by
  have hdef : ∀ y, (a.put o.dst y).defers = a.defers := fun y => by cases hd : o.dst <;> simp [Act.put]
  unfold rstepE at h
  split at h
  · rename_i hg
    split at h
    · rename_i r hr
      cases h
      refine ⟨fun _ => ?_, fun e => by simp [Region.wanted, hg] at e⟩
      refine rval_sound hr ho hs hk ht hG hΓ next Q ?_
      rintro y w' ⟨ν', F', l, q1, q2⟩
      refine hn _ w' ν' F' (hdef y) l q1 ?_
      have ht' : TOk ν' (s.app kx r.u).tmps a.tmps := by rw [tmps_app]; exact ht.mono l
      have hput' : putOK (s.app kx r.u) o.dst = true := by
        have : putOK (s.app kx r.u) o.dst = putOK s o.dst := by unfold putOK; rw [tmps_app]
        rw [this]; exact hput
      exact TOk.put ht' o.dst hput' (x := .pl r.v) (y := y) (defers := a.defers) q2
    · cases h
  · rename_i j want hg
    split at h
    · rename_i d hd
      split at h
      · rename_i g hgb hoth
        have hspec := guardB_spec ht 8 d want g hgb
        have hw := wanted_guard (a := a) hg hd
        split at h
        · rename_i ob' v hr
          cases h
          have hgetd : ∀ y, (a.put o.dst y).tmps.getD d undef = a.tmps.getD d undef := fun y => by
            cases hdd : o.dst with
            | none => rfl
            | some e =>
              simp only [Act.put]
              rw [hdd] at hoth
              exact getD_set_ne' _ _ _ _ (by simpa [otherDst] using hoth)
          refine ⟨fun e => ?_, fun e => ?_⟩
          · have e1 := hw.mp e
            have hgt := hspec.mpr e1
            have ho' : obOK ob' := by
              cases ob' with
              | none => exact True.intro
              | some p => exact ho hgt
            have hs' : Sim U w0 F0 Fr (seen d want s).heap (seen d want s).rows w ν F := hs
            refine rval_sound (s := seen d want s) hr ho' hs' hk (seen_ok ht e1) hG hΓ next Q ?_
            rintro y w' ⟨ν', F', l, q1, q2⟩
            refine hn _ w' ν' F' (hdef y) l q1 ?_
            refine TOk.put (s := s) (ht.mono l) o.dst hput (x := .opt d want v) (y := y) (defers := a.defers) ⟨fun _ => q2, fun c => ?_⟩
            exact absurd ((hgetd y).trans e1) c
          · have e1 : ¬ a.tmps.getD d undef = .bool want := fun c => by rw [hw.mpr c] at e; cases e
            refine hn _ w ν F (hdef undef) ν.le_refl (hs.fr fun _ h => h.1) ?_
            exact TOk.put (s := s) ht o.dst hput (x := .opt d want v) (y := undef) (defers := a.defers) ⟨fun c => absurd ((hgetd undef).symm.trans c) e1, fun _ => rfl⟩
        · rename_i ob' v l hr
          by_cases hcond : condOK kx l = true
          · rw [if_pos hcond] at h
            cases h
            have hgetd : ∀ y, (a.put o.dst y).tmps.getD d undef = a.tmps.getD d undef := fun y => by
              cases hdd : o.dst with
              | none => rfl
              | some e =>
                simp only [Act.put]
                rw [hdd] at hoth
                exact getD_set_ne' _ _ _ _ (by simpa [otherDst] using hoth)
            refine ⟨fun e => ?_, fun e => ?_⟩
            · have e1 := hw.mp e
              have hgt := hspec.mpr e1
              have ho' : obOK ob' := by
                cases ob' with
                | none => exact True.intro
                | some p => exact ho hgt
              subst hgt
              rw [condR_true] at hn
              have hs' : Sim U w0 F0 Fr (seen d want s).heap (seen d want s).rows w ν F := hs
              refine rval_sound (s := seen d want s) hr ho' hs' hk (seen_ok ht e1) hG hΓ next Q ?_
              rintro y w' ⟨ν', F', le, q1, q2⟩
              refine hn _ w' ν' F' (hdef y) le q1 ?_
              refine TOk.put (s := s.app kx (.rows l)) (ht.mono le) o.dst hput (x := .opt d want v) (y := y) (defers := a.defers) ⟨fun _ => q2, fun c => ?_⟩
              exact absurd ((hgetd y).trans e1) c
            · have e1 : ¬ a.tmps.getD d undef = .bool want := fun c => by rw [hw.mpr c] at e; cases e
              have hgf : g = false := by
                cases hg2 : g with
                | false => rfl
                | true => exact absurd (hspec.mp hg2) e1
              subst hgf
              obtain ⟨ν', le, q1, _⟩ := (hs.fr (Fr' := fun k => Fr k ∧ k ≠ kx) fun _ h => h.1).addNils (kx := kx) (fun h => h.2 rfl) l hcond (fun j hj => (hs.free kx hk).2 j hj)
              refine hn _ w ν' F (hdef undef) le q1 ?_
              exact TOk.put (s := s.app kx (.rows (condR false l))) (ht.mono le) o.dst hput (x := .opt d want v) (y := undef) (defers := a.defers) ⟨fun c => absurd ((hgetd undef).symm.trans c) e1, fun _ => rfl⟩
          · rw [if_neg hcond] at h; cases h
        · cases h
      · cases h
    · cases h

theorem heap_put (d : Option Tmp) (v : TV) : (s.put d v).heap = s.heap := by cases d <;> rfl
theorem rows_put (d : Option Tmp) (v : TV) : (s.put d v).rows = s.rows := by cases d <;> rfl
theorem rstep_sound {ob : Option Prop} (h : rstep P Γ ops s kx o = some (ob, s')) (ho : obOK ob) (hs : Sim U w0 F0 Fr s.heap s.rows w ν F) (hk : Fr kx) (ht : TOk ν s.tmps a.tmps) {G : World → Prop} (hG : G w) (hΓ : ∀ n g, Γ.c n = some g → ConOk P U G n g)
    {next : Act → World → Prop} {Q : Exit → Act → World → Prop}
    (hn : ∀ a' w' ν' F', a'.defers = a.defers → ν.le ν' → Sim U w0 F0 (fun k => Fr k ∧ k ≠ kx) s'.heap s'.rows w' ν' F' → TOk ν' s'.tmps a'.tmps → next a' w') :
    (Region.wanted o (yielded ops a.tmps) = true → o.wp P a w next Q) ∧ (Region.wanted o (yielded ops a.tmps) = false → next (a.put o.dst undef) w) := by
  unfold rstep at h
  split at h
  · rename_i hput
    split at h
    · rename_i ob' v u hr
      cases h
      refine rstepE_sound hr hput ho hs hk ht hG hΓ fun a' w' ν' F' e1 e2 e3 e4 => hn a' w' ν' F' e1 e2 ?_ e4
      rw [heap_put, rows_put]; exact e3
    · cases h
  · cases h

theorem rstep_next {ob : Option Prop} (h : rstep P Γ ops s kx o = some (ob, s')) : s'.next = s.next := by
  unfold rstep at h
  have hp : ∀ (s : St U) d v, (s.put d v).next = s.next := fun s d v => by cases d <;> rfl
  split at h
  · split at h
    · cases h; rw [hp, next_app]
    · cases h
  · cases h

/-- How the state stands to the machine between two statements. -/
def SimS (U : Uni) (w0 : World) (F0 : Nat → Nat → Prop) (s : St U) (a : Act) (w : World) : Prop := a.defers = [] ∧ ∃ ν F, Sim U w0 F0 (fun k => s.next ≤ k) s.heap s.rows w ν F ∧ TOk ν s.tmps a.tmps

theorem clear_ok {t : List TV} {T : Array Value} (h : TOk ν t T) : TOk ν (t.map fun x => match x with | .opt _ _ _ => .pl (.one .junk) | x => x) T := by
  refine ⟨by simp [h.1], fun j x e => ?_⟩
  rw [List.getElem?_map] at e
  cases hh : t[j]? with
  | none => rw [hh] at e; cases e
  | some z =>
    rw [hh] at e
    cases e
    cases z with
    | pl x => exact h.2 j _ hh
    | opt _ _ _ => exact True.intro

theorem andP_left {p : Option Prop} {q : Prop} (h : andP p q) : obOK p := by cases p with | none => exact True.intro | some p => exact h.1
theorem andP_right {p : Option Prop} {q : Prop} (h : andP p q) : q := by cases p with | none => exact h | some p => exact h.2

theorem runOps_sound {G : World → Prop} (hG : ∀ w, Below w0.heap.size w0 w → G w) (hΓ : ∀ n g, Γ.c n = some g → ConOk P U G n g) {Q : Exit → Act → World → Prop} {K : St U → Prop} :
    ∀ (l : List Oper) (i : Nat) (s : St U) (a : Act) (w : World) (ν : Nu) (F : Nat → Nat → Prop), runOps P Γ ops l i s K → a.defers = [] → Sim U w0 F0 (fun k => s.next + i ≤ k) s.heap s.rows w ν F → TOk ν s.tmps a.tmps →
      (∀ s' a' w', K s' → SimS U w0 F0 s' a' w' → Q .normal a' w') → wpList P ops Q l a w
  | [], i, s, a, w, ν, F, h, hd, hs, ht, hK => hK _ a w h ⟨hd, ν, F, hs, clear_ok ht⟩
  | o :: l, i, s, a, w, ν, F, h, hd, hs, ht, hK => by
    simp only [runOps] at h
    split at h
    · rename_i ob s' hr
      have hn := rstep_next hr
      have := rstep_sound (a := a) (Q := Q) (next := wpList P ops Q l) hr (andP_left h) hs (Nat.le_refl _) ht (hG w hs.below) hΓ (fun a' w' ν' F' e1 e2 e3 e4 =>
        runOps_sound hG hΓ l (i + 1) s' a' w' ν' F' (andP_right h) (e1.trans hd) (e3.fr fun k hk => by rw [hn] at hk; exact ⟨by omega, by omega⟩) e4 hK)
      unfold wpList
      cases hw : Region.wanted o (yielded ops a.tmps) with
      | true => rw [if_pos rfl]; exact .inl (this.1 hw)
      | false => rw [if_neg (by decide)]; exact this.2 hw
    · exact h.elim
end
end Go.RX

/- Symbolic runs of Go functions: what a loop's head is told to hold. -/
namespace Go.RX
open Go.RowKit
set_option linter.unusedSimpArgs false
set_option linter.unusedVariables false

section
variable {P : Program} {U : Uni} {Γ : Con U} {w0 w : World} {F0 : Nat → Nat → Prop} {An : Anns U} {s : St U} {Fr : Nat → Prop} {heap : List (Nat × TypeId × List Atom)} {rows : List (Nat × Row U)} {ν : Nu} {F : Nat → Nat → Prop} {a : Act}

/-- One more row, of the call's own or not. -/
theorem Sim.addRow' (h : Sim U w0 F0 Fr heap rows w ν F) {fid : Nat} (hn : ν.f fid = none) (hfr : ∀ k j, Fr k → j < 16 → 16 * k + j ≠ fid) {v : Value} {c : U.C} {l : List (U.T c)} (hr : Rd U F w v c l) {own : Bool}
    (ho : own = true → Owned U w0 w F v c l.length ∧ ∀ b, v.ownBlock = some b → (∀ id, (look id heap).isSome → ν.b id ≠ some b) ∧ ∀ fid' r' v', look fid' rows = some r' → r'.own = true → ν.f fid' = some v' → v'.ownBlock ≠ some b) :
    Sim U w0 F0 Fr heap ((fid, ⟨c, l, own⟩) :: rows) w (ν.setF fid v) F := by
  have hle : ν.le (ν.setF fid v) := Nu.le_setF hn
  have hself : (ν.setF fid v).f fid = some v := if_pos rfl
  have hother : ∀ {j x}, j ≠ fid → (ν.setF fid v).f j = some x → ν.f j = some x := fun {j x} hj e => by
    have : (if j = fid then some v else ν.f j) = some x := e
    rw [if_neg hj] at this; exact this
  have hl : ∀ {j r}, look j ((fid, (⟨c, l, own⟩ : Row U)) :: rows) = some r → (j = fid ∧ r = ⟨c, l, own⟩) ∨ (j ≠ fid ∧ look j rows = some r) := fun {j r} e => by
    rw [look_cons] at e
    by_cases q : fid = j
    · rw [if_pos q] at e; cases e; exact .inl ⟨q.symm, rfl⟩
    · rw [if_neg q] at e; exact .inr ⟨fun x => q x.symm, e⟩
  refine ⟨h.below, ?_, h.inj, h.lt, ?_, ?_, ?_, ?_, h.sub, h.new⟩
  · intro id t cs e
    obtain ⟨b, arr, e1, e2, e3, e4, e5⟩ := h.box id t cs e
    exact ⟨b, arr, hle.1 _ _ e1, e2, e3, e4.mono hle, e5⟩
  · intro j r e
    rcases hl e with ⟨rfl, rfl⟩ | ⟨q, e⟩
    · exact ⟨v, hself, hr, fun x => (ho x).1⟩
    · obtain ⟨v', e1, e2⟩ := h.row j r e
      exact ⟨v', hle.2 _ _ e1, e2⟩
  · intro j r v' id b e1 e2 e3 e4 e5
    rcases hl e1 with ⟨rfl, rfl⟩ | ⟨q, e1⟩
    · rw [hself] at e3
      cases e3
      intro hb
      exact ((ho e2).2 b hb).1 id e4 e5
    · exact h.apart j r v' id b e1 e2 (hother q e3) e4 e5
  · intro j r v1 j' r' v2 b e1 e2 e3 e4 e5 e6 e7 e8
    rcases hl e1 with ⟨rfl, rfl⟩ | ⟨q, e1'⟩
    · rcases hl e4 with ⟨rfl, rfl⟩ | ⟨q', e4'⟩
      · rfl
      · rw [hself] at e3
        cases e3
        exact absurd e8 (((ho e2).2 b e7).2 j' r' v2 e4' e5 (hother q' e6))
    · rcases hl e4 with ⟨rfl, rfl⟩ | ⟨q', e4'⟩
      · rw [hself] at e6
        cases e6
        exact absurd e7 (((ho e5).2 b e8).2 j r v1 e1' e2 (hother q e3))
      · exact h.apart2 j r v1 j' r' v2 b e1' e2 (hother q e3) e4' e5 (hother q' e6) e7 e8
  · intro k hk
    refine ⟨(h.free k hk).1, fun j hj => ?_⟩
    show (if 16 * k + j = fid then some v else ν.f (16 * k + j)) = none
    rw [if_neg (hfr k j hk hj)]
    exact (h.free k hk).2 j hj

/-! ### What is left of a state -/
def Nu.cut (ν : Nu) (n : Nat) : Nu := ⟨fun k => if k < n then ν.b k else none, fun k => if k < 16 * n then ν.f k else none⟩
theorem Nu.cut_b {ν : Nu} {n k : Nat} (h : k < n) : (ν.cut n).b k = ν.b k := if_pos h
theorem Nu.cut_f {ν : Nu} {n k : Nat} (h : k < 16 * n) : (ν.cut n).f k = ν.f k := if_pos h

theorem clean_den {n : Nat} {x : Atom} {y : Value} (d : Den ν x y) : Den (ν.cut n) (cleanA n x) y := by
  cases x with
  | v x => exact d
  | ptr id off =>
    simp only [cleanA]
    split
    · rename_i h; obtain ⟨b, e, r⟩ := d; exact ⟨b, (Nu.cut_b h).trans e, r⟩
    · exact True.intro
  | el fid i sz off =>
    simp only [cleanA]
    split
    · rename_i h; obtain ⟨ad, m, c, e, r⟩ := d; exact ⟨ad, m, c, (Nu.cut_f h).trans e, r⟩
    · exact True.intro
  | sl fid =>
    simp only [cleanA]
    split
    · rename_i h; exact ⟨(Nu.cut_f h).trans d.1, d.2⟩
    · exact True.intro
  | fn f caps =>
    simp only [cleanA]
    split
    · rename_i h
      obtain ⟨cs, e, l, r⟩ := d
      refine ⟨cs, e, l, fun j p hp => ?_⟩
      obtain ⟨b, e1, e2⟩ := r j p hp
      have := List.all_eq_true.mp h p (List.mem_of_getElem? hp)
      exact ⟨b, (Nu.cut_b (by simpa using this)).trans e1, e2⟩
    · exact True.intro
  | junk => exact True.intro
theorem clean_denL {n : Nat} {l : List Atom} {r : List Value} (d : DenL ν l r) : DenL (ν.cut n) (l.map (cleanA n)) r := by
  refine ⟨by simp [d.1], d.2.1, fun j x y e1 e2 => ?_⟩
  rw [List.getElem?_map] at e1
  cases hh : l[j]? with
  | none => rw [hh] at e1; cases e1
  | some z => rw [hh] at e1; cases e1; exact clean_den (d.2.2 j z y hh e2)
theorem clean_denSV {n : Nat} {x : SV} {y : Value} (d : DenSV ν x y) : DenSV (ν.cut n) (cleanSV n x) y := by
  cases x with
  | one x => exact clean_den d
  | agg l => obtain ⟨arr, e, q⟩ := d; exact ⟨arr, e, clean_denL q⟩
  | tup l => exact True.intro
theorem cleanT_get {n : Nat} {W : List Nat} : ∀ (t : List TV) (i j : Nat), (cleanT n W i t)[j]? = (t[j]?).map fun x => (if mem (i + j) W then .pl (.one .junk) else match x with | .pl x => .pl (cleanSV n x) | .opt _ _ _ => .pl (.one .junk))
  | [], i, j => by simp [cleanT]
  | x :: t, i, 0 => by simp only [cleanT, List.getElem?_cons_zero, Option.map_some, Nat.add_zero]; first | done | (cases x <;> rfl)
  | x :: t, i, j + 1 => by
    simp only [cleanT, List.getElem?_cons_succ]
    rw [cleanT_get t (i + 1) j, show i + 1 + j = i + (j + 1) by omega]
theorem cleanT_length {n : Nat} {W : List Nat} : ∀ (t : List TV) (i : Nat), (cleanT n W i t).length = t.length
  | [], i => rfl
  | x :: t, i => by simp [cleanT, cleanT_length t (i + 1)]
theorem cleanT_ok {n : Nat} {W : List Nat} {t : List TV} {T : Array Value} (h : TOk ν t T) : TOk (ν.cut n) (cleanT n W 0 t) T := by
  refine ⟨by rw [cleanT_length, h.1], fun j x e => ?_⟩
  rw [cleanT_get] at e
  cases hh : t[j]? with
  | none => rw [hh] at e; cases e
  | some z =>
    rw [hh] at e
    cases e
    have k := h.2 j z hh
    dsimp only
    split
    · exact True.intro
    · cases z with
      | pl x => exact clean_denSV k
      | opt _ _ _ => exact True.intro
theorem cleanC_get {n : Nat} {M : List (Nat × Nat)} {id : Nat} : ∀ (cs : List Atom) (i j : Nat), (cleanC n M id i cs)[j]? = (cs[j]?).map fun x => (if mem2 id (i + j) M then .junk else cleanA n x)
  | [], i, j => by simp [cleanC]
  | x :: t, i, 0 => by simp [cleanC]
  | x :: t, i, j + 1 => by
    simp only [cleanC, List.getElem?_cons_succ]
    rw [cleanC_get t (i + 1) j, show i + 1 + j = i + (j + 1) by omega]
theorem cleanC_length {n : Nat} {M : List (Nat × Nat)} {id : Nat} : ∀ (cs : List Atom) (i : Nat), (cleanC n M id i cs).length = cs.length
  | [], i => rfl
  | x :: t, i => by simp [cleanC, cleanC_length t (i + 1)]
theorem cleanC_den {n : Nat} {M : List (Nat × Nat)} {id : Nat} {cs : List Atom} {r : List Value} (d : DenL ν cs r) : DenL (ν.cut n) (cleanC n M id 0 cs) r := by
  refine ⟨by rw [cleanC_length, d.1], d.2.1, fun j x y e1 e2 => ?_⟩
  rw [cleanC_get] at e1
  cases hh : cs[j]? with
  | none => rw [hh] at e1; cases e1
  | some z =>
    rw [hh] at e1
    cases e1
    dsimp only
    split
    · exact True.intro
    · exact clean_den (d.2.2 j z y hh e2)
theorem look_cleanH {n : Nat} {M : List (Nat × Nat)} (id : Nat) : ∀ heap : List (Nat × TypeId × List Atom), look id (cleanH n M heap) = if id < n then (look id heap).map fun x => (x.1, cleanC n M id 0 x.2) else none
  | [] => by simp [cleanH, look]
  | (j, t, cs) :: r => by
    simp only [cleanH]
    have ih := look_cleanH (n := n) (M := M) id r
    by_cases h : j < n
    · rw [if_pos h, look_cons, look_cons]
      by_cases e : j = id
      · subst e; rw [if_pos rfl, if_pos rfl, if_pos h]; rfl
      · rw [if_neg e, if_neg e]; exact ih
    · rw [if_neg h, ih, look_cons]
      by_cases e : j = id
      · subst e; rw [if_neg h, if_neg h]
      · rw [if_neg e]
theorem look_cleanR {n : Nat} (fid : Nat) : ∀ rows : List (Nat × Row U), look fid (cleanR n rows) = if fid < 16 * n then (look fid rows).map fun r => ⟨r.c, r.l, false⟩ else none
  | [] => by simp [cleanR, look]
  | (j, r) :: rs => by
    simp only [cleanR]
    have ih := look_cleanR (n := n) fid rs
    by_cases h : j < 16 * n
    · rw [if_pos h, look_cons, look_cons]
      by_cases e : j = fid
      · subst e; rw [if_pos rfl, if_pos rfl, if_pos h]; rfl
      · rw [if_neg e, if_neg e]; exact ih
    · rw [if_neg h, ih, look_cons]
      by_cases e : j = fid
      · subst e; rw [if_neg h, if_neg h]
      · rw [if_neg e]

theorem base_ok {n : Nat} {W : List Nat} {M : List (Nat × Nat)} (hs : Sim U w0 F0 Fr s.heap s.rows w ν F) (ht : TOk ν s.tmps a.tmps) :
    Sim U w0 F0 (fun k => n ≤ k) (base n W M s).heap (base n W M s).rows w (ν.cut n) F ∧ TOk (ν.cut n) (base n W M s).tmps a.tmps := by
  refine ⟨⟨hs.below, ?_, ?_, hs.lt, ?_, ?_, ?_, ?_, hs.sub, hs.new⟩, cleanT_ok ht⟩
  · intro id t cs e
    simp only [base, look_cleanH] at e
    split at e
    · rename_i h
      cases hh : look id s.heap with
      | none => rw [hh] at e; cases e
      | some x =>
        obtain ⟨t', cs'⟩ := x
        rw [hh] at e
        cases e
        obtain ⟨b, arr, e1, e2, e3, e4, e5⟩ := hs.box id t' cs' hh
        exact ⟨b, arr, (Nu.cut_b h).trans e1, e2, e3, cleanC_den e4, e5⟩
    · cases e
  · intro id id' b l l' e e'
    simp only [base, look_cleanH] at l l'
    split at l
    · rename_i h
      split at l'
      · rename_i h'
        rw [Nu.cut_b h] at e
        rw [Nu.cut_b h'] at e'
        exact hs.inj id id' b (by simpa using l) (by simpa using l') e e'
      · cases l'
    · cases l
  · intro fid r e
    simp only [base, look_cleanR] at e
    split at e
    · rename_i h
      cases hh : look fid s.rows with
      | none => rw [hh] at e; cases e
      | some x =>
        rw [hh] at e
        cases e
        obtain ⟨v, e1, e2, _⟩ := hs.row fid x hh
        exact ⟨v, (Nu.cut_f h).trans e1, e2, fun c => by cases c⟩
    · cases e
  · intro fid r v id b e1 e2
    simp only [base, look_cleanR] at e1
    split at e1
    · cases hh : look fid s.rows with
      | none => rw [hh] at e1; cases e1
      | some x => rw [hh] at e1; cases e1; cases e2
    · cases e1
  · intro fid r v fid' r' v' b e1 e2
    simp only [base, look_cleanR] at e1
    split at e1
    · cases hh : look fid s.rows with
      | none => rw [hh] at e1; cases e1
      | some x => rw [hh] at e1; cases e1; cases e2
    · cases e1
  · intro k hk
    refine ⟨if_neg (by omega), fun j hj => if_neg (by omega)⟩

/-! ### The mods -/
theorem mem_iff (i : Nat) : ∀ l : List Nat, mem i l = true ↔ i ∈ l
  | [] => by simp [mem]
  | j :: r => by
    simp only [mem, List.mem_cons]
    by_cases h : i = j
    · simp [h]
    · rw [if_neg h]; simp [h, mem_iff i r]
theorem nodup_iff : ∀ l : List Nat, nodup l = true → l.Nodup
  | [], _ => List.nodup_nil
  | x :: r, h => by
    simp only [nodup, Bool.and_eq_true, Bool.not_eq_true'] at h
    refine List.nodup_cons.mpr ⟨fun c => ?_, nodup_iff r h.2⟩
    rw [(mem_iff x r).mpr c] at h
    cases h.1

/-- What an atom that is told to be a row is. -/
theorem atomIs_den (hs : Sim U w0 F0 Fr s.heap s.rows w ν F) {x : Atom} {c : U.C} {l : List (U.T c)} {own : Bool} (h : atomIs s x c l own) {y : Value} (d : Den ν x y) :
    Rd U F w y c l ∧ oneV y = true ∧ (own = true → Owned U w0 w F y c l.length) ∧ (y = .slice none 0 0 ∨ ∃ fid r, x = .sl fid ∧ look fid s.rows = some r ∧ ν.f fid = some y ∧ (own = true → r.own = true)) := by
  unfold atomIs at h
  split at h
  · rename_i fid
    split at h
    · rename_i r hl
      obtain ⟨h1, h2⟩ := h
      obtain ⟨v, f1, f2, f3⟩ := hs.row fid r hl
      obtain rfl : v = y := Option.some.inj (f1.symm.trans d.1)
      have hown : own = true → r.own = true := fun e => by
        subst e
        simp only at h1
        cases hr : r.own with
        | true => rfl
        | false => rw [hr] at h1; exact h1.elim
      unfold rowIs at h2
      split at h2
      · rename_i hc _
        obtain ⟨rc, rl, ro⟩ := r
        simp only at hc h2 f2 f3 hown
        subst hc
        subst h2
        exact ⟨f2, d.2, fun e => f3 (hown e), .inr ⟨fid, _, rfl, hl, d.1, hown⟩⟩
      · exact h2.elim
    · exact h.elim
  · subst h
    have d : y = .slice none 0 0 := d
    subst d
    refine ⟨⟨1, none, 0, 0, rfl, rfl, Nat.le_refl _, by simp [maxLen], fun h => absurd h (by omega)⟩, rfl, fun _ => ?_, .inl rfl⟩
    exact ⟨0, [], w.ownsRow_nil w0.heap.size 0 (U.size c), fun b hb => by simp [Value.ownBlock] at hb⟩
  · exact h.elim

theorem putOK_pl {s : St U} (t : Nat) (h : ∀ x ∈ s.tmps, ∃ y, x = TV.pl y) : putOK s (some t) = true := by
  refine List.all_eq_true.mpr fun x hx => ?_
  obtain ⟨y, rfl⟩ := h x hx
  rfl
end
end Go.RX

/- Symbolic runs of Go functions: a state that fits a loop's head is the head. -/
namespace Go.RX
open Go.RowKit
set_option linter.unusedSimpArgs false
set_option linter.unusedVariables false

section
variable {P : Program} {U : Uni} {Γ : Con U} {w0 w : World} {F0 : Nat → Nat → Prop} {An : Anns U} {s e0 : St U} {Fr : Nat → Prop} {heap : List (Nat × TypeId × List Atom)} {rows : List (Nat × Row U)} {ν : Nu} {F : Nat → Nat → Prop} {a : Act}

theorem TOk.setSame {t : List TV} {T : Array Value} (k : TOk ν t T) (i : Nat) {x : TV} (hx : DenTV ν T x (T.getD i undef)) : TOk ν (t.set i x) T := by
  refine ⟨by simp [k.1], fun j z hz => ?_⟩
  rw [List.getElem?_set] at hz
  by_cases c : i = j
  · subst c
    rw [if_pos rfl] at hz
    split at hz
    · cases hz; exact hx
    · cases hz
  · rw [if_neg c] at hz; exact k.2 j z hz

theorem upd1_none {id : Nat} {f : List Atom → List Atom} : ∀ {heap : List (Nat × TypeId × List Atom)}, look id heap = none → upd1 id f heap = heap
  | [], _ => rfl
  | (j, t, cs) :: r, h => by
    rw [look_cons] at h
    by_cases c : j = id
    · rw [if_pos c] at h; cases h
    · rw [if_neg c] at h
      unfold upd1
      rw [if_neg c, upd1_none h]

theorem fitMods_cons {m : Mod U} {r : List (Mod U)} (h : fitMods e0 s (m :: r)) : fitMods.fit1 e0 s m ∧ fitMods e0 s r := by
  cases r with
  | nil => exact ⟨h, True.intro⟩
  | cons m' r => exact h

structure HInv (U : Uni) (w0 : World) (F0 : Nat → Nat → Prop) (s : St U) (ν : Nu) (a : Act) (w : World) (F : Nat → Nat → Prop) (k : Nat) (L : List Nat) (h : St U) (μ : Nu) : Prop where
  sim : Sim U w0 F0 (fun q => k ≤ q) h.heap h.rows w μ F
  tok : TOk μ h.tmps a.tmps
  bx : ∀ id, (look id h.heap).isSome → (look id s.heap).isSome ∧ ∃ b, ν.b id = some b ∧ μ.b id = some b
  own : ∀ fid r v, look fid h.rows = some r → r.own = true → μ.f fid = some v → v.ownBlock = none ∨ ∃ f' ∈ L, ∃ r', look f' s.rows = some r' ∧ r'.own = true ∧ ν.f f' = some v

theorem HInv.cell (hs : Sim U w0 F0 Fr s.heap s.rows w ν F) {k : Nat} {L : List Nat} {h : St U} {μ : Nu} (H : HInv U w0 F0 s ν a w F k L h μ) {id i : Nat} {t : TypeId} {cs : List Atom} (hl : look id s.heap = some (t, cs)) {x : Atom} (hx : cs[i]? = some x)
    (z : Atom) (hz : ∀ y, Den ν x y → Den μ z y) : HInv U w0 F0 s ν a w F k L { h with heap := upd1 id (fun cs => setAt cs i z) h.heap } μ := by
  cases hh : look id h.heap with
  | none => rw [upd1_none hh]; exact H
  | some q =>
    obtain ⟨t', cs'⟩ := q
    obtain ⟨_, b, e1, e2⟩ := H.bx id (by rw [hh]; rfl)
    obtain ⟨b1, arr1, p1, p2, p3, p4, p5⟩ := H.sim.box id t' cs' hh
    obtain ⟨b2, arr2, q1, q2, q3, q4, q5⟩ := hs.box id t cs hl
    obtain rfl : b1 = b := Option.some.inj (p1.symm.trans e2)
    obtain rfl : b2 = b1 := Option.some.inj (q1.symm.trans e1)
    rw [p3] at q3
    cases q3
    have hd : DenL μ (setAt cs' i z) arr1.toList := by
      refine ⟨by simp [setAt, p4.1], p4.2.1, fun j x' y g1 g2 => ?_⟩
      simp only [setAt] at g1
      rw [List.getElem?_set] at g1
      by_cases c : i = j
      · subst c
        rw [if_pos rfl] at g1
        split at g1
        · cases g1; exact hz y (q4.2.2 i x y hx g2)
        · cases g1
      · rw [if_neg c] at g1; exact p4.2.2 j x' y g1 g2
    refine ⟨H.sim.store hh p1 rfl rfl rfl rfl p3 (fun _ _ => rfl) hd, H.tok, fun j hj => H.bx j ?_, H.own⟩
    rw [look_upd1] at hj
    split at hj
    · simpa using hj
    · exact hj

theorem HInv.addRow (hs : Sim U w0 F0 Fr s.heap s.rows w ν F) {k : Nat} {L : List Nat} {h : St U} {μ : Nu} (H : HInv U w0 F0 s ν a w F k L h μ) {x : Atom} {c : U.C} {l : List (U.T c)} {own : Bool} (hx : atomIs s x c l own) {y : Value} (d : Den ν x y)
    (hL : own = true → ∀ fid, x = .sl fid → fid ∉ L) : ∃ L', (∀ f, f ∈ L' ↔ f ∈ L ∨ (own = true ∧ x = .sl f)) ∧ HInv U w0 F0 s ν a w F (k + 1) L' { h with rows := (16 * k, ⟨c, l, own⟩) :: h.rows } (μ.setF (16 * k) y) ∧ μ.le (μ.setF (16 * k) y) ∧ oneV y = true := by
  obtain ⟨r1, r2, r3, r4⟩ := atomIs_den hs hx d
  have hfree : μ.f (16 * k) = none := (H.sim.free k (Nat.le_refl _)).2 0 (by omega)
  have hsim := (H.sim.fr (Fr' := fun q => k + 1 ≤ q) fun q hq => by omega).addRow' (fid := 16 * k) hfree (fun q j hq hj e => by omega) r1 (own := own) (fun ho => by
    refine ⟨r3 ho, fun b hb => ?_⟩
    rcases r4 with rfl | ⟨fid, r, rfl, hl, hf, hown⟩
    · simp [Value.ownBlock] at hb
    · refine ⟨fun id hid hb2 => ?_, fun fid' r' v' g1 g2 g3 g4 => ?_⟩
      · obtain ⟨q1, b', q2, q3⟩ := H.bx id hid
        rw [hb2] at q3
        cases q3
        exact hs.apart fid r y id b hl (hown ho) hf q1 q2 hb
      · rcases H.own fid' r' v' g1 g2 g3 with q | ⟨f', q1, r'', q2, q3, q4⟩
        · rw [g4] at q; cases q
        · have := hs.apart2 fid r y f' r'' v' b hl (hown ho) hf q2 q3 q4 hb g4
          subst this
          exact hL ho fid rfl q1)
  have hle : μ.le (μ.setF (16 * k) y) := Nu.le_setF hfree
  refine ⟨(match own, x with | true, .sl f => f :: L | _, _ => L), fun f => ?_, ⟨hsim, H.tok.mono hle, fun id hid => H.bx id hid, fun fid r v g1 g2 g3 => ?_⟩, hle, r2⟩
  · cases own <;> cases x <;> simp
    exact ⟨fun q => q.symm.imp id Eq.symm, fun q => q.symm.imp Eq.symm id⟩
  · simp only [look_cons] at g1
    by_cases q : 16 * k = fid
    · rw [if_pos q] at g1
      cases g1
      have e : (μ.setF (16 * k) y).f fid = some y := if_pos q.symm
      rw [e] at g3
      cases g3
      rcases r4 with rfl | ⟨fid', r', rfl, hl, hf, hown⟩
      · exact .inl rfl
      · have g2 : own = true := g2
        subst g2
        exact .inr ⟨fid', by simp, r', hl, hown rfl, hf⟩
    · rw [if_neg q] at g1
      have e : (μ.setF (16 * k) y).f fid = μ.f fid := if_neg (fun c => q c.symm)
      rw [e] at g3
      rcases H.own fid r v g1 g2 g3 with q' | ⟨f', q1, q2⟩
      · exact .inl q'
      · refine .inr ⟨f', ?_, q2⟩
        cases own <;> cases x <;> simp [q1]

theorem addMods_ok (hs : Sim U w0 F0 Fr s.heap s.rows w ν F) (ht : TOk ν s.tmps a.tmps) : ∀ (ms : List (Mod U)) (k : Nat) (h : St U) (L : List Nat) (μ : Nu), HInv U w0 F0 s ν a w F k L h μ → fitMods e0 s ms → (∀ f ∈ L, f ∉ ownsAll e0 s ms) → (ownsAll e0 s ms).Nodup →
    ∃ μ', Sim U w0 F0 (fun q => k + ms.length ≤ q) (addMods e0 ms k h).heap (addMods e0 ms k h).rows w μ' F ∧ TOk μ' (addMods e0 ms k h).tmps a.tmps
  | [], k, h, L, μ, H, hf, hL, hN => ⟨μ, H.sim, H.tok⟩
  | m :: ms, k, h, L, μ, H, hf, hL, hN => by
    obtain ⟨f1, f2⟩ := fitMods_cons hf
    simp only [ownsAll] at hL hN
    have hN2 := (List.nodup_append.mp hN).2.1
    have hdis := (List.nodup_append.mp hN).2.2
    have conv : ∀ {x y : Nat} {Q : Nat → Prop}, x = y → (fun q => x ≤ q) = (fun q => y ≤ q) := fun {x y Q} e => by rw [e]
    have step : ∀ (h' : St U) (L' : List Nat) (μ' : Nu), HInv U w0 F0 s ν a w F (k + 1) L' h' μ' → (∀ f ∈ L', f ∈ L ∨ f ∈ ownsOf e0 s m) → ∃ μ'', Sim U w0 F0 (fun q => k + (m :: ms).length ≤ q) (addMods e0 ms (k + 1) h').heap (addMods e0 ms (k + 1) h').rows w μ'' F ∧ TOk μ'' (addMods e0 ms (k + 1) h').tmps a.tmps := fun h' L' μ' H' hL' => by
      obtain ⟨μ'', g1, g2⟩ := addMods_ok hs ht ms (k + 1) h' L' μ' H' f2 (fun f hf c => by
        rcases hL' f hf with q | q
        · exact hL f q (List.mem_append.mpr (.inr c))
        · exact hdis f q f c rfl) hN2
      exact ⟨μ'', g1.fr fun q hq => by simp only [List.length_cons] at hq; omega, g2⟩
    have bump : ∀ {h : St U}, HInv U w0 F0 s ν a w F k L h μ → HInv U w0 F0 s ν a w F (k + 1) L h μ := fun {h} H => ⟨H.sim.fr fun q hq => by omega, H.tok, H.bx, H.own⟩
    cases m with
    | tv t v =>
      simp only [fitMods.fit1] at f1
      simp only [addMods]
      split at f1
      · rename_i x hx
        subst f1
        have d := TOk.ev (defers := a.defers) ht (.tmp t)
        rw [hx] at d
        have H' := bump H
        exact step _ L μ ⟨H'.sim, H'.tok.setSame t d, H'.bx, H'.own⟩ (fun f q => .inl q)
      · exact f1.elim
    | tr t c l own =>
      simp only [fitMods.fit1] at f1
      simp only [addMods]
      split at f1
      · rename_i x hx
        have d := TOk.ev (defers := a.defers) ht (.tmp t)
        rw [hx] at d
        obtain ⟨L', g1, g2, g3, g4⟩ := H.addRow hs f1 (y := a.tmps.getD t undef) d (fun ho fid e c => hL fid c (by subst ho; subst e; simp [ownsOf, hx]))
        refine step _ L' _ ⟨g2.sim, g2.tok.setSame t ⟨if_pos rfl, g4⟩, g2.bx, g2.own⟩ (fun f q => ?_)
        rcases (g1 f).mp q with q | ⟨q1, q2⟩
        · exact .inl q
        · subst q1; subst q2; exact .inr (by simp [ownsOf, hx])
      · exact f1.elim
    | cv t off v =>
      simp only [fitMods.fit1] at f1
      simp only [addMods]
      split at f1
      · rename_i id o hp
        split at f1
        · rename_i t' cs hl
          split at f1
          · rename_i x hx
            subst f1
            exact step _ L μ (bump (H.cell hs hl hx (.v x) (fun y d => d))) (fun f q => .inl q)
          · exact f1.elim
        · exact f1.elim
      · exact f1.elim
    | cr t off c l own =>
      simp only [fitMods.fit1] at f1
      simp only [addMods]
      split at f1
      · rename_i id o hp
        split at f1
        · rename_i t' cs hl
          split at f1
          · rename_i x hx
            obtain ⟨b, arr, p1, p2, p3, p4, p5⟩ := hs.box id t' cs hl
            have hlt : o + off < arr.toList.length := by rw [← p4.1]; exact (List.getElem?_eq_some_iff.mp hx).1
            have d := p4.2.2 (o + off) x _ hx (List.getElem?_eq_getElem hlt)
            obtain ⟨L', g1, g2, g3, g4⟩ := H.addRow hs f1 d (fun ho fid e c => hL fid c (by subst ho; subst e; simp [ownsOf, hp, hl, hx]))
            -- the cell's value is the row's
            have H2 : HInv U w0 F0 s ν a w F (k + 1) L' { h with heap := upd1 id (fun cs => setAt cs (o + off) (.sl (16 * k))) h.heap, rows := (16 * k, ⟨c, l, own⟩) :: h.rows } (μ.setF (16 * k) arr.toList[o + off]) := by
              have := cellRow hs g2 hl p1 p3 hlt g4
              exact this
            refine step _ L' _ H2 (fun f q => ?_)
            rcases (g1 f).mp q with q | ⟨q1, q2⟩
            · exact .inl q
            · subst q1; subst q2; exact .inr (by simp [ownsOf, hp, hl, hx])
          · exact f1.elim
        · exact f1.elim
      · exact f1.elim
    | cj t off =>
      simp only [addMods]
      exact step _ L μ (bump H) (fun f q => .inl q)
where
  cellRow (hs : Sim U w0 F0 Fr s.heap s.rows w ν F) {k : Nat} {L : List Nat} {h : St U} {μ : Nu} {c : U.C} {l : List (U.T c)} {own : Bool} {id i b : Nat} {t' : TypeId} {cs : List Atom} {arr : Array Value} {hlt : i < arr.toList.length}
      (H : HInv U w0 F0 s ν a w F (k + 1) L { h with rows := (16 * k, ⟨c, l, own⟩) :: h.rows } (μ.setF (16 * k) arr.toList[i])) (hl : look id s.heap = some (t', cs)) (p1 : ν.b id = some b) (p3 : w.heap[b]? = some (.cells arr t' (0, 0))) (hlt' : i < arr.toList.length) (h1 : oneV arr.toList[i] = true) :
      HInv U w0 F0 s ν a w F (k + 1) L { h with heap := upd1 id (fun cs => setAt cs i (.sl (16 * k))) h.heap, rows := (16 * k, ⟨c, l, own⟩) :: h.rows } (μ.setF (16 * k) arr.toList[i]) := by
    cases hh : look id h.heap with
    | none => rw [upd1_none hh]; exact H
    | some q =>
      obtain ⟨t2, cs'⟩ := q
      obtain ⟨_, b', e1, e2⟩ := H.bx id (by show (look id h.heap).isSome; rw [hh]; rfl)
      obtain ⟨b1, arr1, q1, q2, q3, q4, q5⟩ := H.sim.box id t2 cs' hh
      obtain rfl : b1 = b' := Option.some.inj (q1.symm.trans e2)
      obtain rfl : b = b1 := Option.some.inj (p1.symm.trans e1)
      rw [p3] at q3
      cases q3
      have hd : DenL (μ.setF (16 * k) arr.toList[i]) (setAt cs' i (.sl (16 * k))) arr.toList := by
        refine ⟨by simp [setAt, q4.1], q4.2.1, fun j x' y g1 g2 => ?_⟩
        simp only [setAt] at g1
        rw [List.getElem?_set] at g1
        by_cases c : i = j
        · subst c
          rw [if_pos rfl] at g1
          split at g1
          · cases g1
            rw [List.getElem?_eq_getElem hlt] at g2
            cases g2
            exact ⟨if_pos rfl, h1⟩
          · cases g1
        · rw [if_neg c] at g1; exact q4.2.2 j x' y g1 g2
      refine ⟨H.sim.store hh q1 rfl rfl rfl rfl p3 (fun _ _ => rfl) hd, H.tok, fun j hj => H.bx j ?_, H.own⟩
      simp only [look_upd1] at hj
      split at hj
      · simpa using hj
      · exact hj

/-- A state that fits the head is the head. -/
theorem head_ok {W : List Nat} {ms : List (Mod U)} (h : SimS U w0 F0 s a w) (hb : base e0.next W (modCells e0 ms) s = base e0.next W (modCells e0 ms) e0) (hf : fitMods e0 s ms) (hn : nodup (ownsAll e0 s ms) = true) : SimS U w0 F0 (headOf W e0 ms) a w := by
  obtain ⟨hd, ν, F, hs, ht⟩ := h
  obtain ⟨b1, b2⟩ := base_ok (n := e0.next) (W := W) (M := modCells e0 ms) hs ht
  obtain ⟨μ, g1, g2⟩ := addMods_ok (e0 := e0) hs ht ms e0.next (base e0.next W (modCells e0 ms) s) [] (ν.cut e0.next) ⟨b1, b2, fun id hid => (by
      simp only [base, look_cleanH] at hid
      split at hid
      · rename_i hlt
        have hid : (look id s.heap).isSome := by simpa using hid
        obtain ⟨⟨t, cs⟩, e⟩ := Option.isSome_iff_exists.mp hid
        obtain ⟨b, arr, e1, _⟩ := hs.box id t cs e
        exact ⟨hid, b, e1, (Nu.cut_b hlt).trans e1⟩
      · cases hid), fun fid r v e1 e2 => (by
      simp only [base, look_cleanR] at e1
      split at e1
      · cases hh : look fid s.rows with
        | none => rw [hh] at e1; cases e1
        | some x => rw [hh] at e1; cases e1; cases e2
      · cases e1)⟩ hf (fun f hf => by cases hf) (nodup_iff _ hn)
  rw [hb] at g1 g2
  exact ⟨hd, μ, F, g1, g2⟩
end
end Go.RX

/- Symbolic runs of Go functions: what an operation comes to hangs on what it looks at alone. -/
namespace Go.RX
open Go.RowKit
set_option linter.unusedSimpArgs false
set_option linter.unusedVariables false

section
variable {P : Program} {U : Uni} {Γ : Con U} {s s' : St U} {kx : Nat} {o : Oper} {r : Ran U}

theorem mem_looksL {x : Operand} {t : Nat} (ht : t ∈ looks x) : ∀ {l : List Operand}, x ∈ l → t ∈ looksL l
  | y :: l, h => by
    simp only [looksL, List.mem_append]
    rcases List.mem_cons.mp h with rfl | h
    · exact .inl ht
    · exact .inr (mem_looksL ht h)

def TmpsAt (s s' : St U) (l : List Nat) : Prop := ∀ t ∈ l, s'.tmps.getD t (.pl (.one .junk)) = s.tmps.getD t (.pl (.one .junk))
def RowsUp (s s' : St U) : Prop := ∀ fid r, look fid s.rows = some r → look fid s'.rows = some r
def HeapUp (s s' : St U) : Prop := ∀ id x, look id s.heap = some x → look id s'.heap = some x

theorem ev_eq {l : List Operand} (h : TmpsAt s s' (looksL l)) {x : Operand} (hx : x ∈ l) : s'.ev x = s.ev x := by
  cases x with
  | tmp t => simp only [St.ev, h t (mem_looksL (x := .tmp t) (by simp [looks]) hx)]
  | _ => rfl
theorem evo_eq {l : List Operand} (h : TmpsAt s s' (looksL l)) {x : Operand} (hx : x ∈ l) (dc : Operand) (want : Bool) : s'.evo dc want x = s.evo dc want x := by
  cases x with
  | tmp t => simp only [St.evo, h t (mem_looksL (x := .tmp t) (by simp [looks]) hx)]
  | _ => rfl

theorem cvOf_up (hr : RowsUp s s') {x : Atom} {c : CV U.C U.T} (h : cvOf s x = some c) : cvOf s' x = some c := by
  cases x with
  | sl fid =>
    simp only [cvOf] at h ⊢
    split at h
    · rename_i r hl; rw [hr _ _ hl]; exact h
    · cases h
  | v x => exact h
  | _ => cases h
theorem cvsOf_up (hr : RowsUp s s') : ∀ {l : List Atom} {cs : List (CV U.C U.T)}, cvsOf s l = some cs → cvsOf s' l = some cs
  | [], cs, h => h
  | x :: l, cs, h => by
    simp only [cvsOf] at h ⊢
    split at h
    · rename_i c hc
      split at h
      · rename_i y hy; rw [cvOf_up hr hc, cvsOf_up hr hy]; exact h
      · cases h
    · cases h
theorem dOf_up (hr : RowsUp s s') {t : TypeId} {x : SV} {d : D U} (h : dOf P Γ s t x = some d) : dOf P Γ s' t x = some d := by
  cases x with
  | one x =>
    simp only [dOf] at h ⊢
    split at h
    · rename_i c hc; rw [cvOf_up hr hc]; exact h
    · cases h
  | agg l =>
    simp only [dOf] at h ⊢
    split at h
    · rename_i c hc; rw [cvsOf_up hr hc]; exact h
    · cases h
  | tup l => cases h
theorem dsOf_up (hr : RowsUp s s') : ∀ {l : List Operand} {ts : List TypeId} {ds : List (D U)}, TmpsAt s s' (looksL l) → dsOf P Γ s l ts = some ds → dsOf P Γ s' l ts = some ds
  | [], ts, ds, ht, h => by cases ts <;> exact h
  | x :: l, [], ds, ht, h => by cases h
  | x :: l, t :: ts, ds, ht, h => by
    simp only [dsOf] at h ⊢
    rw [ev_eq ht (List.mem_cons_self ..)]
    split at h
    · rename_i d hd
      split at h
      · rename_i y hy
        rw [dOf_up hr hd, dsOf_up hr (fun t hm => ht t (by simp only [looksL, List.mem_append]; exact .inr hm)) hy]; exact h
      · cases h
    · cases h
theorem partsOf_up : ∀ {l : List (Nat × Operand)} {ps : List (Nat × List Atom)}, TmpsAt s s' (looksL (l.map (·.2))) → partsOf s l = some ps → partsOf s' l = some ps
  | [], ps, ht, h => h
  | (i, x) :: l, ps, ht, h => by
    simp only [partsOf] at h ⊢
    simp only [List.map_cons] at ht
    rw [ev_eq ht (List.mem_cons_self ..)]
    split at h
    · rename_i cs hc
      split at h
      · rename_i y hy
        rw [partsOf_up (fun t hm => ht t (by simp only [looksL, List.mem_append]; exact .inr hm)) hy]; exact h
      · cases h
    · cases h

theorem pickB_up {c x y : Operand} {l : List Operand} (ht : TmpsAt s s' (looksL l)) (hx : x ∈ l) (hy : y ∈ l) (cb : Bool) : pickB c cb s' x y = pickB c cb s x y := by
  have e1 : s'.evo c true x = s.evo c true x := evo_eq ht hx _ _
  have e2 : s'.evo c false y = s.evo c false y := evo_eq ht hy _ _
  unfold pickB
  split <;> simp only [e1, e2]

theorem rval_up (ht : TmpsAt s s' (looksL o.op.operands.toList)) (hh : usesHeap o = true → HeapUp s s') (hr : RowsUp s s') (h : rval P Γ s kx o = some r) : rval P Γ s' kx o = some r := by
  have hev : ∀ x ∈ o.op.operands.toList, s'.ev x = s.ev x := fun x hx => ev_eq ht hx
  cases hop : o.op with
  | move x => simp only [rval, hop] at h ⊢; rw [hev x (by simp [hop, Op.operands])]; exact h
  | assign x => simp only [rval, hop] at h ⊢; rw [hev x (by simp [hop, Op.operands])]; exact h
  | pick c x y =>
    simp only [rval, hop] at h ⊢
    rw [hev c (by simp [hop, Op.operands])]
    split at h
    · rename_i cb hc
      rw [pickB_up ht (by simp [hop, Op.operands]) (by simp [hop, Op.operands])]
      exact h
    · cases h
  | alloc t => simp only [rval, hop] at h ⊢; exact h
  | box t x => simp only [rval, hop] at h ⊢; rw [hev x (by simp [hop, Op.operands])]; exact h
  | build t ps =>
    simp only [rval, hop] at h ⊢
    have hp : ∀ y, partsOf s ps.toList = some y → partsOf s' ps.toList = some y := fun y hy => partsOf_up (fun t hm => ht t (by simpa [hop, Op.operands] using hm)) hy
    split at h
    · rename_i fs z y hu hz hy
      rw [hp y hy, hu, hz]; exact h
    · rename_i n e z y hu hz hy
      rw [hp y hy, hu, hz]; exact h
    · cases h
  | load t x =>
    simp only [rval, hop] at h ⊢
    have hh := hh (by simp [usesHeap, hop])
    rw [hev x (by simp [hop, Op.operands])]
    split at h
    · rename_i id off n e1 e2 e3
      (try simp only [e1, e2, e3])
      split at h
      · rename_i t' cs hl; rw [hh _ _ hl]; exact h
      · cases h
    · rename_i id off n e1 e2 e3
      (try simp only [e1, e2, e3])
      split at h
      · rename_i t' cs hl; rw [hh _ _ hl]; exact h
      · cases h
    · rename_i fid i sz off n e1 e2 e3
      (try simp only [e1, e2, e3])
      split at h
      · rename_i rw_ hl; rw [hr _ _ hl]; exact h
      · cases h
    · rename_i fid i sz off n e1 e2 e3
      (try simp only [e1, e2, e3])
      split at h
      · rename_i rw_ hl; rw [hr _ _ hl]; exact h
      · cases h
    · cases h
  | store t x y =>
    simp only [rval, hop] at h ⊢
    have hh := hh (by simp [usesHeap, hop])
    rw [hev x (by simp [hop, Op.operands]), hev y (by simp [hop, Op.operands])]
    split at h
    · rename_i id off cs n e1 e2 e3
      (try simp only [e1, e2, e3])
      split at h
      · rename_i t' cs hl; rw [hh _ _ hl]; exact h
      · cases h
    · cases h
  | binOp op t x y t2 => simp only [rval, hop] at h ⊢; rw [hev x (by simp [hop, Op.operands]), hev y (by simp [hop, Op.operands])]; exact h
  | unOp op t x => simp only [rval, hop] at h ⊢; rw [hev x (by simp [hop, Op.operands])]; exact h
  | convert t t2 x => simp only [rval, hop] at h ⊢; rw [hev x (by simp [hop, Op.operands])]; exact h
  | fieldAddr t x f => simp only [rval, hop] at h ⊢; rw [hev x (by simp [hop, Op.operands])]; exact h
  | field t x f => simp only [rval, hop] at h ⊢; rw [hev x (by simp [hop, Op.operands])]; exact h
  | indexAddr t x i =>
    simp only [rval, hop] at h ⊢
    rw [hev x (by simp [hop, Op.operands]), hev i (by simp [hop, Op.operands])]
    split at h
    · rename_i e1 e2 e3; (try simp only [e1, e2, e3]); exact h
    · rename_i e1 e2 e3; (try simp only [e1, e2, e3]); exact h
    · rename_i e fid kd k e1 e2 e3
      (try simp only [e1, e2, e3])
      split at h
      · rename_i z rw_ e4 hl; simp only [e4, hr _ _ hl]; exact h
      · cases h
    · cases h
  | index t x i => simp only [rval, hop] at h ⊢; rw [hev x (by simp [hop, Op.operands]), hev i (by simp [hop, Op.operands])]; exact h
  | extract x i => simp only [rval, hop] at h ⊢; rw [hev x (by simp [hop, Op.operands])]; exact h
  | call c =>
    have hargs : ∀ x ∈ c.args.toList, x ∈ o.op.operands.toList := fun x hx => by simp [hop, Op.operands, Call.operands] at hx ⊢; exact .inr hx
    have hsub : ∀ t ∈ looksL c.args.toList, t ∈ looksL o.op.operands.toList := by
      have : ∀ (l : List Operand), (∀ x ∈ l, x ∈ o.op.operands.toList) → ∀ t ∈ looksL l, t ∈ looksL o.op.operands.toList := by
        intro l
        induction l with
        | nil => intro _ t ht; simp [looksL] at ht
        | cons x l ih =>
          intro hl t ht
          simp only [looksL, List.mem_append] at ht
          rcases ht with ht | ht
          · exact mem_looksL ht (hl x (List.mem_cons_self ..))
          · exact ih (fun y hy => hl y (List.mem_cons_of_mem _ hy)) t ht
      exact this _ hargs
    cases hc : c.callee with
    | value f =>
      cases f with
      | func n =>
        simp only [rval, hop, hc] at h ⊢
        split at h
        · rename_i g hg
          split at h
          · rename_i ds hds
            rw [dsOf_up hr (fun t hm => ht t (hsub t hm)) hds]
            exact h
          · cases h
        · cases h
      | _ => simp [rval, hop, hc] at h
    | invoke x m => simp [rval, hop, hc] at h
    | builtin b =>
      cases b with
      | len =>
        simp only [rval, hop, hc] at h ⊢
        split at h
        · rename_i x t e1 e2
          (try simp only [e1, e2])
          rw [hev x (hargs x (by rw [e1]; simp))]
          split at h
          · rename_i e fid e3 e4
            (try simp only [e3, e4])
            split at h
            · rename_i rw_ hl; simp only [hr _ _ hl]; exact h
            · cases h
          · rename_i b' e3 e4; (try simp only [e3, e4]); exact h
          · rename_i e e3 e4; (try simp only [e3, e4]); exact h
          · cases h
        · cases h
      | min =>
        simp only [rval, hop, hc] at h ⊢
        split at h
        · rename_i x y e1
          (try simp only [e1])
          rw [hev x (hargs x (by rw [e1]; simp)), hev y (hargs y (by rw [e1]; simp))]
          exact h
        · cases h
      | max =>
        simp only [rval, hop, hc] at h ⊢
        split at h
        · rename_i x y e1
          (try simp only [e1])
          rw [hev x (hargs x (by rw [e1]; simp)), hev y (hargs y (by rw [e1]; simp))]
          exact h
        · cases h
      | _ => simp [rval, hop, hc] at h
  | buildSlice t len ps =>
    simp only [rval, hop] at h ⊢
    have hp : ∀ y, partsOf s ps.toList = some y → partsOf s' ps.toList = some y := fun y hy => partsOf_up (fun t hm => ht t (by simpa [hop, Op.operands] using hm)) hy
    split at h
    · rename_i e hu
      try rw [hu]
      try simp only
      split at h
      · rename_i c z zs y hc hz hzs hy
        rw [hc, hz, hzs, hp y hy]
        simp only
        split at h
        · rename_i hcond
          rw [if_pos hcond]
          split at h
          · rename_i cs hf
            try rw [hf]
            try simp only
            split at h
            · rename_i cvs hcv
              rw [cvsOf_up hr hcv]
              exact h
            · cases h
          · cases h
        · cases h
      · cases h
    · cases h
  | slice t x lo hi mx =>
    cases mx with
    | some m => simp [rval, hop] at h
    | none =>
      simp only [rval, hop] at h ⊢
      have hb : ∀ y : Option Operand, (∀ z, y = some z → z ∈ o.op.operands.toList) → bnd s' y = bnd s y := fun y hy => by
        cases y with
        | none => rfl
        | some z => simp only [bnd]; rw [hev z (hy z rfl)]
      rw [hev x (by simp [hop, Op.operands]), hb lo (fun z e => by subst e; simp [hop, Op.operands]), hb hi (fun z e => by subst e; simp [hop, Op.operands])]
      split at h
      · rename_i b l hh_ hu e1 e2 e3
        (try simp only [hu, e1, e2, e3])
        exact h
      · rename_i e fid l hh_ hu e1 e2 e3
        (try simp only [hu, e1, e2, e3])
        split at h
        · rename_i rw_ z hl hz
          rw [hr _ _ hl]
          (try simp only [hz])
          exact h
        · cases h
      · cases h
  | _ => simp [rval, hop] at h
end
end Go.RX

/- Symbolic runs of Go functions: regions whose order is open: what has come up, whatever the order, is told by the set of what has come up. -/
namespace Go.RX
open Go.RowKit
set_option linter.unusedSimpArgs false
set_option linter.unusedVariables false

section
variable {P : Program} {U : Uni} {Γ : Con U} {s s' : St U} {kx : Nat} {o : Oper}

/-! ### Lookups -/
theorem putT_length (t : List TV) (d : Option Tmp) (v : TV) : (putT t d v).length = t.length := by cases d <;> simp [putT]
theorem putT_ne {t : List TV} {d : Option Tmp} {v : TV} {j : Nat} (h : d ≠ some j) : (putT t d v)[j]? = t[j]? := by
  cases d with
  | none => rfl
  | some d =>
    have : d ≠ j := fun c => h (by rw [c])
    simp [putT, List.getElem?_set, this]
theorem tmpsOf_length (D : Nat → Bool) : ∀ (l : List (Eff U)) (k : Nat) (t : List TV), (tmpsOf D l k t).length = t.length
  | [], k, t => rfl
  | e :: l, k, t => by
    simp only [tmpsOf]
    rw [tmpsOf_length D l]
    split
    · exact putT_length ..
    · rfl
theorem tmpsOf_agree {D D' : Nat → Bool} {j : Nat} : ∀ (l : List (Eff U)) (k : Nat) (t t' : List TV), t[j]? = t'[j]? → (∀ (i : Nat) e, l[i]? = some e → D (k + i) ≠ D' (k + i) → e.dst ≠ some j) → t.length = t'.length → (tmpsOf D l k t)[j]? = (tmpsOf D' l k t')[j]?
  | [], k, t, t', h, _, _ => h
  | e :: l, k, t, t', h, hd, hl => by
    simp only [tmpsOf]
    refine tmpsOf_agree l (k + 1) _ _ ?_ (fun i e' he hne => hd (i + 1) e' (by simpa using he) (by rw [show k + (i + 1) = k + 1 + i by omega]; exact hne)) ?_
    · have h0 := hd 0 e rfl
      simp only [Nat.add_zero] at h0
      cases h1 : D k <;> cases h2 : D' k
      · exact h
      · dsimp only; rw [putT_ne (h0 (by rw [h1, h2]; decide))]; exact h
      · dsimp only; rw [putT_ne (h0 (by rw [h1, h2]; decide))]; exact h
      · dsimp only
        cases hdst : e.dst with
        | none => exact h
        | some d =>
          simp only [putT, List.getElem?_set, hl]
          rw [h]
    · split <;> split <;> simp [putT_length, hl]
theorem tmpsOf_at {D : Nat → Bool} {i0 d : Nat} {e0 : Eff U} : ∀ (l : List (Eff U)) (k : Nat) (t : List TV), l[i0]? = some e0 → e0.dst = some d → D (k + i0) = true → (∀ (i : Nat) e, l[i]? = some e → i ≠ i0 → e.dst ≠ some d) → d < t.length → (tmpsOf D l k t)[d]? = some e0.v
  | [], k, t, h, _, _, _, _ => by simp at h
  | e :: l, k, t, h, hd, hD, hne, hlt => by
    simp only [tmpsOf]
    cases i0 with
    | zero =>
      simp at h
      subst h
      simp only [Nat.add_zero] at hD
      rw [hD]
      have := tmpsOf_agree (D := D) (D' := fun _ => false) (j := d) l (k + 1) (putT t e.dst e.v) (putT t e.dst e.v) rfl (fun i e' he _ => hne (i + 1) e' (by simpa using he) (by omega)) rfl
      rw [this]
      have hnone : ∀ (l : List (Eff U)) (k : Nat) (t : List TV), tmpsOf (fun _ => false) l k t = t := by
        intro l
        induction l with
        | nil => intro k t; rfl
        | cons e l ih => intro k t; simp only [tmpsOf]; exact ih _ _
      rw [hnone, hd]
      simp [putT, hlt]
    | succ i0 =>
      refine tmpsOf_at l (k + 1) _ (by simpa using h) hd (by rw [show k + 1 + i0 = k + (i0 + 1) by omega]; exact hD) (fun i e' he hi => hne (i + 1) e' (by simpa using he) (by omega)) ?_
      split
      · rw [putT_length]; exact hlt
      · exact hlt

theorem boxesOf_agree {b : Nat} {D D' : Nat → Bool} {id : Nat} : ∀ (l : List (Eff U)) (k : Nat) (h h' : List (Nat × TypeId × List Atom)), look id h = look id h' → (∀ (i : Nat) e, l[i]? = some e → D (k + i) ≠ D' (k + i) → (∃ t cs, e.u = .box t cs) → id ≠ b + (k + i)) → look id (boxesOf b D l k h) = look id (boxesOf b D' l k h')
  | [], k, h, h', e, _ => e
  | x :: l, k, h, h', e, hd => by
    simp only [boxesOf]
    refine boxesOf_agree l (k + 1) _ _ ?_ (fun i e' he hne hb => by have := hd (i + 1) e' (by simpa using he) (by rw [show k + (i + 1) = k + 1 + i by omega]; exact hne) hb; omega)
    have h0 := hd 0 x rfl
    simp only [Nat.add_zero] at h0
    cases h1 : D k <;> cases h2 : D' k
    · exact e
    · cases hu : x.u with
      | box t cs => dsimp only; rw [look_cons, if_neg (fun c => h0 (by rw [h1, h2]; decide) ⟨t, cs, hu⟩ c.symm)]; exact e
      | _ => exact e
    · cases hu : x.u with
      | box t cs => dsimp only; rw [look_cons, if_neg (fun c => h0 (by rw [h1, h2]; decide) ⟨t, cs, hu⟩ c.symm)]; exact e
      | _ => exact e
    · cases hu : x.u with
      | box t cs => dsimp only; rw [look_cons, look_cons, e]
      | _ => exact e
theorem boxesOf_at {b : Nat} {D : Nat → Bool} {i0 : Nat} {e0 : Eff U} {t : TypeId} {cs : List Atom} : ∀ (l : List (Eff U)) (k : Nat) (h : List (Nat × TypeId × List Atom)), l[i0]? = some e0 → e0.u = .box t cs → D (k + i0) = true → look (b + (k + i0)) (boxesOf b D l k h) = some (t, cs)
  | [], k, h, e, _, _ => by simp at e
  | x :: l, k, h, e, hu, hD => by
    simp only [boxesOf]
    cases i0 with
    | zero =>
      simp at e
      subst e
      simp only [Nat.add_zero] at hD ⊢
      rw [hD, hu]
      rw [boxesOf_agree (D' := fun _ => false) l (k + 1) _ ((b + k, t, cs) :: h) rfl (fun i e' _ _ _ => by omega)]
      have hnone : ∀ (l : List (Eff U)) (k : Nat) (h : List (Nat × TypeId × List Atom)), boxesOf b (fun _ => false) l k h = h := by
        intro l
        induction l with
        | nil => intro k h; rfl
        | cons e l ih => intro k h; simp only [boxesOf]; exact ih _ _
      rw [hnone, look_cons, if_pos rfl]
    | succ i0 =>
      have := boxesOf_at (b := b) (D := D) l (k + 1) (match D k, x.u with | true, .box t cs => (b + k, t, cs) :: h | _, _ => h) (by simpa using e) hu (by rw [show k + 1 + i0 = k + (i0 + 1) by omega]; exact hD)
      rw [show k + 1 + i0 = k + (i0 + 1) by omega] at this
      exact this
theorem boxesOf_cases {b : Nat} {D : Nat → Bool} {id : Nat} : ∀ (l : List (Eff U)) (k : Nat) (h : List (Nat × TypeId × List Atom)), look id (boxesOf b D l k h) = look id h ∨ ∃ (i : Nat) (e : Eff U) (t : TypeId) (cs : List Atom), l[i]? = some e ∧ D (k + i) = true ∧ e.u = .box t cs ∧ id = b + (k + i)
  | [], k, h => .inl rfl
  | x :: l, k, h => by
    simp only [boxesOf]
    rcases boxesOf_cases (b := b) (D := D) (id := id) l (k + 1) (match D k, x.u with | true, .box t cs => (b + k, t, cs) :: h | _, _ => h) with q | ⟨i, e, t, cs, q1, q2, q3, q4⟩
    · cases h1 : D k
      · rw [h1] at q; exact .inl q
      · cases hu : x.u with
        | box t cs =>
          rw [h1, hu] at q
          dsimp only at q
          rw [look_cons] at q
          by_cases c : b + k = id
          · exact .inr ⟨0, x, t, cs, rfl, by simpa using h1, hu, by omega⟩
          · rw [if_neg c] at q; exact .inl q
        | _ => rw [h1, hu] at q; exact .inl q
    · exact .inr ⟨i + 1, e, t, cs, by simpa using q1, by rw [show k + (i + 1) = k + 1 + i by omega]; exact q2, q3, by omega⟩

theorem setsOf_none {D : Nat → Bool} : ∀ (l : List (Eff U)) (k : Nat) (h : List (Nat × TypeId × List Atom)), (∀ (i : Nat) e id off cs, l[i]? = some e → e.u = .set id off cs → D (k + i) = false) → setsOf D l k h = h
  | [], k, h, _ => rfl
  | x :: l, k, h, hn => by
    simp only [setsOf]
    have h0 := hn 0 x
    simp only [Nat.add_zero] at h0
    have : setStep (D k) x.u h = h := by
      unfold setStep
      cases h1 : D k
      · rfl
      · cases hu : x.u with
        | set id off cs => have := h0 id off cs rfl hu; rw [h1] at this; cases this
        | _ => rfl
    rw [this]
    exact setsOf_none l (k + 1) h (fun i e id off cs a c => by have := hn (i + 1) e id off cs (by simpa using a) c; rw [show k + 1 + i = k + (i + 1) by omega]; exact this)
theorem setsOf_one {D : Nat → Bool} {j0 : Nat} {e0 : Eff U} {id off : Nat} {cs : List Atom} : ∀ (l : List (Eff U)) (k : Nat) (h : List (Nat × TypeId × List Atom)), l[j0]? = some e0 → e0.u = .set id off cs → D (k + j0) = true →
    (∀ (i : Nat) e id off cs, l[i]? = some e → e.u = .set id off cs → i ≠ j0 → D (k + i) = false) → setsOf D l k h = upd1 id (fun old => setCells old off cs) h
  | [], k, h, e, _, _, _ => by simp at e
  | x :: l, k, h, e, hu, hD, hn => by
    simp only [setsOf]
    cases j0 with
    | zero =>
      simp at e
      subst e
      simp only [Nat.add_zero] at hD
      rw [hD, hu]
      exact setsOf_none l (k + 1) _ (fun i e id off cs a c => by have := hn (i + 1) e id off cs (by simpa using a) c (by omega); rw [show k + 1 + i = k + (i + 1) by omega]; exact this)
    | succ j0 =>
      have h0 := hn 0 x
      simp only [Nat.add_zero] at h0
      have : setStep (D k) x.u h = h := by
        unfold setStep
        cases h1 : D k
        · rfl
        · cases hu : x.u with
          | set id off cs => have := h0 id off cs rfl hu (by omega); rw [h1] at this; cases this
          | _ => rfl
      rw [this]
      exact setsOf_one l (k + 1) h (by simpa using e) hu (by rw [show k + 1 + j0 = k + (j0 + 1) by omega]; exact hD) (fun i e id off cs a c hi => by have := hn (i + 1) e id off cs (by simpa using a) c (by omega); rw [show k + 1 + i = k + (i + 1) by omega]; exact this)

/-- The rows that an operation of number q makes bear numbers of its own. -/
theorem fidsOK_look {b : Nat} {l : List (Nat × Row U)} (h : fidsOK b (.rows l) = true) {fid : Nat} (hf : ¬ (16 * b ≤ fid ∧ fid < 16 * b + 16)) (h' : List (Nat × Row U)) : look fid (l ++ h') = look fid h' := by
  rw [look_append]
  have : look fid l = none := by
    simp only [fidsOK] at h
    induction l with
    | nil => rfl
    | cons x l ih =>
      simp only [List.all_cons, Bool.and_eq_true, decide_eq_true_eq] at h
      obtain ⟨j, r⟩ := x
      rw [look_cons, if_neg (fun c => hf (by have := h.1; simp only at this; omega))]
      exact ih h.2
  rw [this]
theorem rowsOf_agree {b : Nat} {D D' : Nat → Bool} {fid : Nat} : ∀ (l : List (Eff U)) (k : Nat) (h h' : List (Nat × Row U)), look fid h = look fid h' → (∀ (i : Nat) e, l[i]? = some e → fidsOK (b + (k + i)) e.u = true) →
    (∀ (i : Nat) e, l[i]? = some e → D (k + i) ≠ D' (k + i) → (∃ l', e.u = .rows l') → ¬ (16 * (b + (k + i)) ≤ fid ∧ fid < 16 * (b + (k + i)) + 16)) → look fid (rowsOf D l k h) = look fid (rowsOf D' l k h')
  | [], k, h, h', e, _, _ => e
  | x :: l, k, h, h', e, hf, hd => by
    simp only [rowsOf]
    refine rowsOf_agree (b := b) l (k + 1) _ _ ?_ (fun i e' he => by have := hf (i + 1) e' (by simpa using he); rw [show k + 1 + i = k + (i + 1) by omega]; exact this) (fun i e' he hne => by have := hd (i + 1) e' (by simpa using he) (by rw [show k + (i + 1) = k + 1 + i by omega]; exact hne); rw [show k + 1 + i = k + (i + 1) by omega]; exact this)
    have h0 := hd 0 x rfl
    have f0 := hf 0 x rfl
    simp only [Nat.add_zero] at h0 f0
    unfold rowStep
    cases h1 : D k <;> cases h2 : D' k
    · exact e
    · cases hu : x.u with
      | rows l' => dsimp only; rw [hu] at f0; rw [fidsOK_look f0 (h0 (by rw [h1, h2]; decide) ⟨_, hu⟩)]; exact e
      | _ => exact e
    · cases hu : x.u with
      | rows l' => dsimp only; rw [hu] at f0; rw [fidsOK_look f0 (h0 (by rw [h1, h2]; decide) ⟨_, hu⟩)]; exact e
      | _ => exact e
    · cases hu : x.u with
      | rows l' => dsimp only; rw [look_append, look_append, e]
      | _ => exact e
theorem rowsOf_at {b : Nat} {D : Nat → Bool} {i0 fid : Nat} {e0 : Eff U} {l0 : List (Nat × Row U)} : ∀ (l : List (Eff U)) (k : Nat) (h : List (Nat × Row U)), l[i0]? = some e0 → e0.u = .rows l0 → D (k + i0) = true → (∀ (i : Nat) e, l[i]? = some e → fidsOK (b + (k + i)) e.u = true) →
    (16 * (b + (k + i0)) ≤ fid ∧ fid < 16 * (b + (k + i0)) + 16) → look fid (rowsOf D l k h) = look fid (l0 ++ h)
  | [], k, h, e, _, _, _, _ => by simp at e
  | x :: l, k, h, e, hu, hD, hf, hr => by
    simp only [rowsOf]
    have hf' : ∀ (i : Nat) e, l[i]? = some e → fidsOK (b + (k + 1 + i)) e.u = true := fun i e' he => by have := hf (i + 1) e' (by simpa using he); rw [show k + 1 + i = k + (i + 1) by omega]; exact this
    cases i0 with
    | zero =>
      simp at e
      subst e
      simp only [Nat.add_zero] at hD hr
      rw [hD, hu]
      rw [rowsOf_agree (b := b) (D' := fun _ => false) l (k + 1) (rowStep true (.rows l0) h) (l0 ++ h) rfl hf' (fun i e' _ _ _ => by omega)]
      have hnone : ∀ (l : List (Eff U)) (k : Nat) (h : List (Nat × Row U)), rowsOf (fun _ => false) l k h = h := by
        intro l
        induction l with
        | nil => intro k h; rfl
        | cons e l ih => intro k h; simp only [rowsOf]; exact ih _ _
      rw [hnone]
    | succ i0 =>
      have f0 := hf 0 x rfl
      simp only [Nat.add_zero] at f0
      have hx : look fid (rowStep (D k) x.u h) = look fid h := by
        unfold rowStep
        cases h1 : D k
        · rfl
        · cases hxu : x.u with
          | rows l' => dsimp only; rw [hxu] at f0; exact fidsOK_look f0 (by omega) h
          | _ => rfl
      rw [rowsOf_at (b := b) l (k + 1) _ (by simpa using e) hu (by rw [show k + 1 + i0 = k + (i0 + 1) by omega]; exact hD) hf' (by rw [show k + 1 + i0 = k + (i0 + 1) by omega]; exact hr)]
      rw [look_append, look_append, hx]
end
end Go.RX

/- Symbolic runs of Go functions: regions whose order is open. -/
namespace Go.RX
open Go.RowKit
set_option linter.unusedSimpArgs false
set_option linter.unusedVariables false

section
variable {P : Program} {U : Uni} {Γ : Con U} {s : St U} {ops : Array Oper} {w0 w : World} {F0 : Nat → Nat → Prop} {Fr : Nat → Prop} {ν : Nu} {F : Nat → Nat → Prop} {a : Act}

theorem Sim.congr {heap heap' : List (Nat × TypeId × List Atom)} {rows rows' : List (Nat × Row U)} (h : Sim U w0 F0 Fr heap rows w ν F) (hh : ∀ id, look id heap' = look id heap) (hr : ∀ fid, look fid rows' = look fid rows) : Sim U w0 F0 Fr heap' rows' w ν F :=
  ⟨h.below, fun id t cs e => h.box id t cs ((hh id).symm.trans e), fun id id' b l l' => h.inj id id' b (by rw [← hh]; exact l) (by rw [← hh]; exact l'), h.lt, fun fid r e => h.row fid r ((hr fid).symm.trans e),
    fun fid r v id b e1 e2 e3 e4 => h.apart fid r v id b ((hr fid).symm.trans e1) e2 e3 (by rw [← hh]; exact e4), fun fid r v fid' r' v' b e1 e2 e3 e4 => h.apart2 fid r v fid' r' v' b ((hr fid).symm.trans e1) e2 e3 ((hr fid').symm.trans e4), h.free, h.sub, h.new⟩

/-! ### Who comes ahead of whom -/
theorem maskOf_bit {ms : List Nat} {j : Nat} : ∀ (l : List Edge), (maskOf ms l).testBit j = true ↔ ∃ e ∈ l, Region.binds .any e = true ∧ (e.on = j ∨ (ms.getD e.on 0).testBit j = true)
  | [] => by simp [maskOf]
  | e :: l => by
    have ih := maskOf_bit (ms := ms) (j := j) l
    simp only [maskOf]
    cases hb : Region.binds .any e with
    | true =>
      simp only [Nat.testBit_or, Bool.or_eq_true, List.mem_cons, exists_eq_or_imp, hb, true_and, ih]
      rw [Nat.one_shiftLeft, Nat.testBit_two_pow]
      simp
    | false =>
      simp only [List.mem_cons, exists_eq_or_imp, hb, ih]
      simp
theorem masksOf_spec : ∀ (l : List Oper) (acc : List Nat), (masksOf l acc).length = acc.length + l.length ∧ (masksOf l acc).take acc.length = acc ∧
    ∀ (i : Nat) o, l[i]? = some o → (masksOf l acc)[acc.length + i]? = some (maskOf ((masksOf l acc).take (acc.length + i)) o.after.toList)
  | [], acc => ⟨rfl, by simp [masksOf], fun i o e => by simp at e⟩
  | o :: l, acc => by
    obtain ⟨h1, h2, h3⟩ := masksOf_spec l (acc ++ [maskOf acc o.after.toList])
    simp only [masksOf]
    simp only [List.length_append, List.length_cons, List.length_nil] at h1 h2 h3
    have h4 : (masksOf l (acc ++ [maskOf acc o.after.toList])).take acc.length = acc := by
      have := congrArg (List.take acc.length) h2
      rw [List.take_take] at this
      simpa using this
    refine ⟨by rw [h1]; simp; omega, h4, fun i o' e => ?_⟩
    cases i with
    | zero =>
      simp at e
      subst e
      simp only [Nat.add_zero]
      rw [h4]
      have := congrArg (fun l => l[acc.length]?) h2
      simpa [List.getElem?_take] using this
    | succ i =>
      have := h3 i o' (by simpa using e)
      rw [show acc.length + (0 + 1) + i = acc.length + (i + 1) by omega] at this
      exact this

theorem edgesOK_lt {k : Nat} {l : List Edge} (h : edgesOK k l = true) : ∀ e ∈ l, Region.binds .any e = true → e.on < k := by
  induction l with
  | nil => intro e he; cases he
  | cons x l ih =>
    intro e he hb
    simp only [edgesOK, Bool.and_eq_true] at h
    rcases List.mem_cons.mp he with rfl | he
    · have := h.1; rw [hb] at this; simpa using this
    · exact ih h.2 e he hb
theorem edgesAll_lt {l : List Oper} : ∀ {k : Nat}, edgesAll l k = true → ∀ (i : Nat) o, l[i]? = some o → ∀ e ∈ o.after.toList, Region.binds .any e = true → e.on < k + i := by
  induction l with
  | nil => intro k h i o ho; simp at ho
  | cons x l ih =>
    intro k h i o ho e he hb
    simp only [edgesAll, Bool.and_eq_true] at h
    cases i with
    | zero => simp at ho; subst ho; have := edgesOK_lt h.1 e he hb; omega
    | succ i => have := ih h.2 i o (by simpa using ho) e he hb; omega
theorem allPairs_spec {i m : Nat} {x : Oper} : ∀ {l : List Oper} {ms : List Nat} {k : Nat}, allPairs ops i m x l ms k = true → ∀ (j : Nat) y n, l[j]? = some y → ms[j]? = some n → pairOK ops i m x (k + j) n y = true
  | [], ms, k, h, j, y, n, e, _ => by simp at e
  | y' :: l, [], k, h, j, y, n, _, e => by simp at e
  | y' :: l, n' :: ms, k, h, j, y, n, e, e' => by
    simp only [allPairs, Bool.and_eq_true] at h
    cases j with
    | zero => simp at e e'; subst e; subst e'; exact h.1
    | succ j => have := allPairs_spec h.2 j y n (by simpa using e) (by simpa using e'); rw [show k + 1 + j = k + (j + 1) by omega] at this; exact this
theorem pairsOK_spec {L : List Oper} {M : List Nat} : ∀ {l : List Oper} {ms : List Nat} {i : Nat}, pairsOK ops L M l ms i = true → ∀ (j : Nat) x m, l[j]? = some x → ms[j]? = some m → guardOK x m = true ∧ ∀ (k : Nat) y n, L[k]? = some y → M[k]? = some n → pairOK ops (i + j) m x k n y = true
  | [], ms, i, h, j, x, m, e, _ => by simp at e
  | x' :: l, [], i, h, j, x, m, _, e => by simp at e
  | x' :: l, m' :: ms, i, h, j, x, m, e, e' => by
    simp only [pairsOK, Bool.and_eq_true] at h
    cases j with
    | zero =>
      simp at e e'; subst e; subst e'
      refine ⟨h.1.2, fun k y n e1 e2 => ?_⟩
      have := allPairs_spec h.1.1 k y n e1 e2
      simpa using this
    | succ j =>
      have := pairsOK_spec h.2 j x m (by simpa using e) (by simpa using e')
      rw [show i + 1 + j = i + (j + 1) by omega] at this
      exact this

structure DF (P : Program) (Γ : Con U) (ops : Array Oper) (s : St U) (effs : List (Eff U)) (mk : Nat → Nat) : Prop where
  len : effs.length = ops.size
  bit : ∀ (i : Nat) o, ops[i]? = some o → ∀ j, (mk i).testBit j = true ↔ ∃ e ∈ o.after, Region.binds .any e = true ∧ (e.on = j ∨ (mk e.on).testBit j = true)
  lt : ∀ (i : Nat) o, ops[i]? = some o → ∀ e ∈ o.after, Region.binds .any e = true → e.on < i
  pair : ∀ (i k : Nat) x y, ops[i]? = some x → ops[k]? = some y → pairOK ops i (mk i) x k (mk k) y = true
  grd : ∀ (i : Nat) x, ops[i]? = some x → guardOK x (mk i) = true
  pl : ∀ x ∈ s.tmps, isPl x = true
  step : ∀ (i : Nat) o, ops[i]? = some o → ∃ e ob, effs[i]? = some e ∧ e.dst = o.dst ∧ rstepE P Γ ops (stOf (mk i).testBit effs s) (s.next + i) o = some (ob, e.v, e.u) ∧ obOK ob ∧ fidsOK (s.next + i) e.u = true ∧ updOK o e.u = true

variable {effs : List (Eff U)} {mk : Nat → Nat}
theorem DF.bit_lt (h : DF P Γ ops s effs mk) : ∀ (i : Nat), i < ops.size → ∀ j, (mk i).testBit j = true → j < i := by
  intro i
  induction i using Nat.strongRecOn with
  | _ i ih =>
    intro hi j hj
    obtain ⟨e, he, hb, hc⟩ := (h.bit i _ (Array.getElem?_eq_getElem hi) j).mp hj
    have := h.lt i _ (Array.getElem?_eq_getElem hi) e he hb
    rcases hc with rfl | hc
    · exact this
    · have := ih e.on this (by omega) j hc; omega
theorem DF.trans (h : DF P Γ ops s effs mk) : ∀ (i : Nat), i < ops.size → ∀ j l, (mk i).testBit j = true → (mk j).testBit l = true → (mk i).testBit l = true := by
  intro i
  induction i using Nat.strongRecOn with
  | _ i ih =>
    intro hi j l hj hl
    obtain ⟨e, he, hb, hc⟩ := (h.bit i _ (Array.getElem?_eq_getElem hi) j).mp hj
    have hlt := h.lt i _ (Array.getElem?_eq_getElem hi) e he hb
    refine (h.bit i _ (Array.getElem?_eq_getElem hi) l).mpr ⟨e, he, hb, .inr ?_⟩
    rcases hc with rfl | hc
    · exact hl
    · exact ih e.on hlt (by omega) j l hc hl
/-- What has come up is closed: whatever comes ahead of it has. -/
def Closed (ops : Array Oper) (D : Nat → Bool) : Prop := ∀ (i : Nat) o, ops[i]? = some o → D i = true → ∀ e ∈ o.after, Region.binds .any e = true → D e.on = true
theorem DF.closed (h : DF P Γ ops s effs mk) {D : Nat → Bool} (hD : Closed ops D) : ∀ (i : Nat), i < ops.size → D i = true → ∀ j, (mk i).testBit j = true → D j = true := by
  intro i
  induction i using Nat.strongRecOn with
  | _ i ih =>
    intro hi hDi j hj
    obtain ⟨e, he, hb, hc⟩ := (h.bit i _ (Array.getElem?_eq_getElem hi) j).mp hj
    have hlt := h.lt i _ (Array.getElem?_eq_getElem hi) e he hb
    have hDe := hD i _ (Array.getElem?_eq_getElem hi) hDi e he hb
    rcases hc with rfl | hc
    · exact hDe
    · exact ih e.on hlt (by omega) hDe j hc
theorem DF.eff (h : DF P Γ ops s effs mk) {i : Nat} {e : Eff U} (he : effs[i]? = some e) : ∃ o ob, ops[i]? = some o ∧ e.dst = o.dst ∧ rstepE P Γ ops (stOf (mk i).testBit effs s) (s.next + i) o = some (ob, e.v, e.u) ∧ fidsOK (s.next + i) e.u = true ∧ updOK o e.u = true := by
  have hi : i < ops.size := by rw [← h.len]; exact (List.getElem?_eq_some_iff.mp he).1
  obtain ⟨e', ob, q1, q2, q3, q4, q5, q6⟩ := h.step i _ (Array.getElem?_eq_getElem hi)
  rw [he] at q1
  cases q1
  exact ⟨_, ob, Array.getElem?_eq_getElem hi, q2, q3, q5, q6⟩
/-- No two operations write one temporary. -/
theorem DF.dst_ne (h : DF P Γ ops s effs mk) {i k : Nat} {e e' : Eff U} (he : effs[i]? = some e) (he' : effs[k]? = some e') (hne : i ≠ k) {d : Nat} (hd : e.dst = some d) : e'.dst ≠ some d := by
  intro c
  obtain ⟨o, ob, q1, q2, _⟩ := h.eff he
  obtain ⟨o', ob', p1, p2, _⟩ := h.eff he'
  have := h.pair i k o o' q1 p1
  simp only [pairOK, Bool.or_eq_true, beq_iff_eq, hne, false_or, Bool.and_eq_true] at this
  have := this.1.1.1
  rw [← q2, ← p2, hd, c] at this
  simp at this
/-- An operation that has come up, and is not ahead of i (nor i of it), writes nothing that i looks at. -/
theorem DF.apart (h : DF P Γ ops s effs mk) {D : Nat → Bool} (hD : Closed ops D) {i k : Nat} {o : Oper} (ho : ops[i]? = some o) (hi : D i = false) (hk : D k = true) (hb : (mk i).testBit k = false) {e : Eff U} (he : effs[k]? = some e) {t : Nat} (ht : t ∈ looksL o.op.operands.toList) : e.dst ≠ some t := by
  intro c
  obtain ⟨x, ob, q1, q2, _⟩ := h.eff he
  have hks : k < ops.size := (Array.getElem?_eq_some_iff.mp q1).1
  have hne : k ≠ i := fun e => by rw [e, hi] at hk; cases hk
  have hni : (mk k).testBit i = false := by
    cases hh : (mk k).testBit i with
    | false => rfl
    | true => have := h.closed hD k hks hk i hh; rw [hi] at this; cases this
  have := h.pair k i x o q1 ho
  simp only [pairOK, Bool.or_eq_true, beq_iff_eq, hne, false_or, Bool.and_eq_true, hb, hni, Bool.false_eq_true] at this
  have := this.1.1.2
  rw [← q2, c] at this
  simp only [Bool.not_eq_true'] at this
  rw [(mem_iff t _).mpr ht] at this
  cases this

theorem DF.tmps_agree (h : DF P Γ ops s effs mk) {D : Nat → Bool} (hD : Closed ops D) {i : Nat} {o : Oper} (ho : ops[i]? = some o) (hi : D i = false) (hB : ∀ j, (mk i).testBit j = true → D j = true) {t : Nat}
    (ht : ∀ (k : Nat) e, effs[k]? = some e → D k = true → (mk i).testBit k = false → e.dst ≠ some t) : (stOf D effs s).tmps.getD t (.pl (.one .junk)) = (stOf (mk i).testBit effs s).tmps.getD t (.pl (.one .junk)) := by
  simp only [stOf, List.getD_eq_getElem?_getD]
  rw [tmpsOf_agree (D := D) (D' := (mk i).testBit) effs 0 s.tmps s.tmps rfl (fun k e he hne => ?_) rfl]
  simp only [Nat.zero_add] at hne
  cases h1 : D k with
  | true => exact ht k e he h1 (by cases h2 : (mk i).testBit k with | false => rfl | true => rw [h1, h2] at hne; exact absurd rfl hne)
  | false =>
    cases h2 : (mk i).testBit k with
    | true => have := hB k h2; rw [h1] at this; cases this
    | false => rw [h1, h2] at hne; exact absurd rfl hne

/-- No store has come up while one that uses the blocks has not. -/
theorem DF.noSet (h : DF P Γ ops s effs mk) {D : Nat → Bool} (hD : Closed ops D) {i : Nat} {o : Oper} (ho : ops[i]? = some o) (hu : usesHeap o = true) (hi : D i = false) : ∀ (k : Nat) e id off cs, effs[k]? = some e → e.u = .set id off cs → D (0 + k) = false := by
  intro k e id off cs he hset
  rw [Nat.zero_add]
  cases hk : D k with
  | false => rfl
  | true =>
    obtain ⟨x, ob, q1, q2, _, _, q5⟩ := h.eff he
    rw [hset] at q5
    have q5 : isStore x = true := q5
    have hne : i ≠ k := fun e => by rw [← e, hi] at hk; cases hk
    have := h.pair i k o x ho q1
    simp only [pairOK, Bool.or_eq_true, beq_iff_eq, hne, false_or, Bool.and_eq_true, q5, hu, Bool.and_self, Bool.not_true, Bool.false_eq_true] at this
    have := h.closed hD k (Array.getElem?_eq_some_iff.mp q1).1 hk i this.2
    rw [hi] at this; cases this
/-- There is one store at most. -/
theorem DF.oneSet (h : DF P Γ ops s effs mk) {j k : Nat} {e e' : Eff U} {id off id' off' : Nat} {cs cs' : List Atom} (he : effs[j]? = some e) (hu : e.u = .set id off cs) (he' : effs[k]? = some e') (hu' : e'.u = .set id' off' cs') : j = k := by
  obtain ⟨x, ob, q1, q2, _, _, q5⟩ := h.eff he
  obtain ⟨y, ob', p1, p2, _, _, p5⟩ := h.eff he'
  rw [hu] at q5
  rw [hu'] at p5
  have q5 : isStore x = true := q5
  have p5 : isStore y = true := p5
  have ux : ∀ z : Oper, isStore z = true → usesHeap z = true := fun z hz => by
    unfold isStore at hz
    unfold usesHeap
    split at hz
    · rename_i e; rw [e]
    · cases hz
  by_cases hne : j = k
  · exact hne
  · have a1 := h.pair j k x y q1 p1
    have a2 := h.pair k j y x p1 q1
    simp only [pairOK, Bool.or_eq_true, beq_iff_eq, hne, false_or, Bool.and_eq_true, p5, ux x q5, Bool.and_self, Bool.not_true, Bool.false_eq_true] at a1
    simp only [pairOK, Bool.or_eq_true, beq_iff_eq, Ne.symm hne, false_or, Bool.and_eq_true, q5, ux y p5, Bool.and_self, Bool.not_true, Bool.false_eq_true] at a2
    have l1 := h.bit_lt k (Array.getElem?_eq_some_iff.mp p1).1 j a1.2
    have l2 := h.bit_lt j (Array.getElem?_eq_some_iff.mp q1).1 k a2.2
    omega

theorem guardB_up (h : DF P Γ ops s effs mk) {D : Nat → Bool} (hD : Closed ops D) {i : Nat} {o : Oper} (ho : ops[i]? = some o) (hi : D i = false) (hB : ∀ j, (mk i).testBit j = true → D j = true) :
    ∀ (n d : Nat) (want g : Bool), (∃ j e, (mk i).testBit j = true ∧ effs[j]? = some e ∧ e.dst = some d) → guardB (stOf (mk i).testBit effs s) n d want = some g → guardB (stOf D effs s) n d want = some g
  | 0, d, want, g, _, hg => by cases hg
  | n + 1, d, want, g, ⟨j, e, hj, he, hd⟩, hg => by
    have hjs : j < ops.size := by rw [← h.len]; exact (List.getElem?_eq_some_iff.mp he).1
    have hsame := h.tmps_agree hD ho hi hB (t := d) (fun k e' he' hk hb => h.dst_ne he he' (fun c => by rw [← c, hj] at hb; cases hb) hd)
    simp only [guardB] at hg ⊢
    rw [hsame]
    split at hg
    · exact hg
    · rename_i e1 w1 b1 hopt
      -- what stands there is what operation j told
      have hv : e.v = .opt e1 w1 (.one (.v (.bool b1))) := by
        by_cases hlt : d < s.tmps.length
        · have := tmpsOf_at (D := (mk i).testBit) (i0 := j) (d := d) effs 0 s.tmps he hd (by rw [Nat.zero_add]; exact hj) (fun k e' he' hne => h.dst_ne he he' (Ne.symm hne) hd) hlt
          simp only [stOf, List.getD_eq_getElem?_getD] at hopt
          rw [this] at hopt
          exact hopt
        · have hl : (stOf (mk i).testBit effs s).tmps.length ≤ d := by simp only [stOf, tmpsOf_length]; omega
          rw [List.getD_eq_getElem?_getD, List.getElem?_eq_none hl] at hopt
          cases hopt
      obtain ⟨x, ob, q1, q2, q3, _, _⟩ := h.eff he
      have hg2 : ∃ j' e', (mk i).testBit j' = true ∧ effs[j']? = some e' ∧ e'.dst = some e1 := by
        unfold rstepE at q3
        split at q3
        · split at q3
          · simp only [Option.some.injEq, Prod.mk.injEq] at q3
            have := q3.2.1
            rw [hv] at this
            cases this
          · cases q3
        · rename_i j' want' hgd
          split at q3
          · rename_i d' hd'
            split at q3
            · split at q3
              · simp only [Option.some.injEq, Prod.mk.injEq] at q3
                have := q3.2.1
                rw [hv] at this
                cases this
                have hgk := h.grd j x q1
                simp only [guardOK, hgd] at hgk
                have hj's := h.bit_lt j hjs j' hgk
                have hj't : j' < ops.size := by omega
                obtain ⟨e', ob', r1, r2, _⟩ := h.step j' _ (Array.getElem?_eq_getElem hj't)
                refine ⟨j', e', h.trans i (Array.getElem?_eq_some_iff.mp ho).1 j j' hj hgk, r1, ?_⟩
                unfold dstOf at hd'
                rw [Array.getElem?_eq_getElem hj't] at hd'
                rw [r2]; exact hd'
              · split at q3
                · simp only [Option.some.injEq, Prod.mk.injEq] at q3
                  have := q3.2.1
                  rw [hv] at this
                  cases this
                  have hgk := h.grd j x q1
                  simp only [guardOK, hgd] at hgk
                  have hj's := h.bit_lt j hjs j' hgk
                  have hj't : j' < ops.size := by omega
                  obtain ⟨e', ob', r1, r2, _⟩ := h.step j' _ (Array.getElem?_eq_getElem hj't)
                  refine ⟨j', e', h.trans i (Array.getElem?_eq_some_iff.mp ho).1 j j' hj hgk, r1, ?_⟩
                  unfold dstOf at hd'
                  rw [Array.getElem?_eq_getElem hj't] at hd'
                  rw [r2]; exact hd'
                · cases q3
              · cases q3
            · cases q3
          · cases q3
      split at hg
      · rename_i g0 hg0
        rw [guardB_up h hD ho hi hB n e1 w1 g0 hg2 hg0]
        exact hg
      · cases hg
    · cases hg
end
end Go.RX

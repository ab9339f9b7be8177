/- Runs of Go functions over states that are told by numbers, truth values, texts and lists; each such run is proved to be the machine's. No condition beside those that each theorem states. -/
import Derived.Test.YtnhgnidpoiolgaaRxTwo
import Derived.Orders
/- Symbolic runs of Go functions: what an operation comes to hangs on what it looks at alone. -/
namespace Go.RX
open Go.RowKit
set_option linter.unusedSimpArgs false
set_option linter.unusedVariables false

section
variable {P : Program} {U : Uni} {Γ : Con U} {s s' : St U} {kx : Nat} {o : Oper} {r : Ran U}

theorem mem_looksL {x : Operand} {t : Nat} (ht : t ∈ looks x) : ∀ {l : List Operand}, x ∈ l → t ∈ looksL l
  | y :: l, h => by
    simp only [looksL, List.mem_append]
    rcases List.mem_cons.mp h with rfl | h
    · exact .inl ht
    · exact .inr (mem_looksL ht h)

def TmpsAt (s s' : St U) (l : List Nat) : Prop := ∀ t ∈ l, s'.tmps.getD t (.pl (.one .junk)) = s.tmps.getD t (.pl (.one .junk))
def RowsUp (s s' : St U) : Prop := ∀ fid r, look fid s.rows = some r → look fid s'.rows = some r
/-- The same, but for whose they are. -/
def RowsW (s s' : St U) : Prop := ∀ fid r, look fid s.rows = some r → ∃ b, look fid s'.rows = some ⟨r.c, r.l, b⟩
def HeapUp (s s' : St U) : Prop := ∀ id x, look id s.heap = some x → look id s'.heap = some x

theorem ev_eq {l : List Operand} (h : TmpsAt s s' (looksL l)) {x : Operand} (hx : x ∈ l) : s'.ev x = s.ev x := by
  cases x with
  | tmp t => simp only [St.ev, h t (mem_looksL (x := .tmp t) (by simp [looks]) hx)]
  | _ => rfl
theorem evo_eq {l : List Operand} (h : TmpsAt s s' (looksL l)) {x : Operand} (hx : x ∈ l) (dc : Operand) (want : Bool) : s'.evo dc want x = s.evo dc want x := by
  cases x with
  | tmp t => simp only [St.evo, h t (mem_looksL (x := .tmp t) (by simp [looks]) hx)]
  | _ => rfl

theorem cvOf_up (hr : RowsW s s') {x : Atom} {c : CV U.C U.T} (h : cvOf s x = some c) : cvOf s' x = some c := by
  cases x with
  | sl fid =>
    simp only [cvOf] at h ⊢
    split at h
    · rename_i r hl; obtain ⟨b, hb⟩ := hr _ _ hl; rw [hb]; exact h
    · cases h
  | v x => exact h
  | fn f caps => cases caps with
    | nil => exact h
    | cons _ _ => cases h
  | _ => cases h
theorem cvsOf_up (hr : RowsW s s') : ∀ {l : List Atom} {cs : List (CV U.C U.T)}, cvsOf s l = some cs → cvsOf s' l = some cs
  | [], cs, h => h
  | x :: l, cs, h => by
    simp only [cvsOf] at h ⊢
    split at h
    · rename_i c hc
      split at h
      · rename_i y hy; rw [cvOf_up hr hc, cvsOf_up hr hy]; exact h
      · cases h
    · cases h
theorem dOf_up (hr : RowsW s s') {t : TypeId} {x : SV} {d : D U} (h : dOf P Γ s t x = some d) : dOf P Γ s' t x = some d := by
  cases x with
  | one x =>
    simp only [dOf] at h ⊢
    split at h
    · rename_i c hc; rw [cvOf_up hr hc]; exact h
    · cases h
  | agg l =>
    simp only [dOf] at h ⊢
    split at h
    · rename_i c hc; rw [cvsOf_up hr hc]; exact h
    · cases h
  | tup l => cases h
theorem dsOf_up (hr : RowsW s s') : ∀ {l : List Operand} {ts : List TypeId} {ds : List (D U)}, TmpsAt s s' (looksL l) → dsOf P Γ s l ts = some ds → dsOf P Γ s' l ts = some ds
  | [], ts, ds, ht, h => by cases ts <;> exact h
  | x :: l, [], ds, ht, h => by cases h
  | x :: l, t :: ts, ds, ht, h => by
    simp only [dsOf] at h ⊢
    rw [ev_eq ht (List.mem_cons_self ..)]
    split at h
    · rename_i d hd
      split at h
      · rename_i y hy
        rw [dOf_up hr hd, dsOf_up hr (fun t hm => ht t (by simp only [looksL, List.mem_append]; exact .inr hm)) hy]; exact h
      · cases h
    · cases h
theorem partsOf_up : ∀ {l : List (Nat × Operand)} {ps : List (Nat × List Atom)}, TmpsAt s s' (looksL (l.map (·.2))) → partsOf s l = some ps → partsOf s' l = some ps
  | [], ps, ht, h => h
  | (i, x) :: l, ps, ht, h => by
    simp only [partsOf] at h ⊢
    simp only [List.map_cons] at ht
    rw [ev_eq ht (List.mem_cons_self ..)]
    split at h
    · rename_i cs hc
      split at h
      · rename_i y hy
        rw [partsOf_up (fun t hm => ht t (by simp only [looksL, List.mem_append]; exact .inr hm)) hy]; exact h
      · cases h
    · cases h

theorem pickB_up {c x y : Operand} {l : List Operand} (ht : TmpsAt s s' (looksL l)) (hx : x ∈ l) (hy : y ∈ l) (cb : Bool) : pickB c cb s' x y = pickB c cb s x y := by
  have e1 : s'.evo c true x = s.evo c true x := evo_eq ht hx _ _
  have e2 : s'.evo c false y = s.evo c false y := evo_eq ht hy _ _
  unfold pickB
  split <;> simp only [e1, e2]

theorem rowOf_up {e : TypeId} {X : SV} (hr : RowsUp s s') {x : Option Nat × Row U} (h : rowOf Γ s e X = some x) : rowOf Γ s' e X = some x := by
  unfold rowOf at h ⊢
  split at h
  · split at h
    · rename_i r0 hl; simp only [hr _ _ hl]; exact h
    · cases h
  · exact h
  · cases h
theorem ptrsOf_up : ∀ {l : List Operand} {ps : List (Nat × Nat)}, TmpsAt s s' (looksL l) → ptrsOf s l = some ps → ptrsOf s' l = some ps
  | [], ps, ht, h => h
  | x :: l, ps, ht, h => by
    simp only [ptrsOf] at h ⊢
    rw [ev_eq ht (List.mem_cons_self ..)]
    split at h
    · split at h
      · rename_i y hy
        rw [ptrsOf_up (fun t hm => ht t (by simp only [looksL, List.mem_append]; exact .inr hm)) hy]; exact h
      · cases h
    · cases h
theorem rowX_up (hr : RowsW s s') (hrc : s'.recs = s.recs) {fid : Nat} {r : Row U} (h : rowX s fid = some r) : ∃ b, rowX s' fid = some ⟨r.c, r.l, b⟩ := by
  have hx : xAt s' fid = xAt s fid := by unfold xAt; rw [hrc]
  unfold rowX at h ⊢
  rw [hx]
  split at h
  · rename_i r' hl; cases h; exact ⟨r.own, by first | rfl | rw [hl]⟩
  · rename_i hl; obtain ⟨b, hb⟩ := hr _ _ h; exact ⟨b, by first | exact hb | (rw [hl]; exact hb)⟩
theorem rval_up (hrc : s'.recs = s.recs) (ht : TmpsAt s s' (looksL o.op.operands.toList)) (hh : ∀ id x, touch0 s o id = true → look id s.heap = some x → look id s'.heap = some x) (hr : RowsW s s') (happ : isApp o = true → RowsUp s s') (h : rval P Γ s kx o = some r) : rval P Γ s' kx o = some r := by
  have hev : ∀ x ∈ o.op.operands.toList, s'.ev x = s.ev x := fun x hx => ev_eq ht hx
  cases hop : o.op with
  | move x => simp only [rval, hop] at h ⊢; rw [hev x (by simp [hop, Op.operands])]; exact h
  | assign x => simp only [rval, hop] at h ⊢; rw [hev x (by simp [hop, Op.operands])]; exact h
  | pick c x y =>
    simp only [rval, hop] at h ⊢
    rw [hev c (by simp [hop, Op.operands])]
    split at h
    · rename_i cb hc
      rw [pickB_up ht (by simp [hop, Op.operands]) (by simp [hop, Op.operands])]
      exact h
    · cases h
  | alloc t => simp only [rval, hop] at h ⊢; exact h
  | box t x => simp only [rval, hop] at h ⊢; rw [hev x (by simp [hop, Op.operands])]; exact h
  | build t ps =>
    simp only [rval, hop] at h ⊢
    have hp : ∀ y, partsOf s ps.toList = some y → partsOf s' ps.toList = some y := fun y hy => partsOf_up (fun t hm => ht t (by simpa [hop, Op.operands] using hm)) hy
    split at h
    · rename_i fs z y hu hz hy
      rw [hp y hy, hu, hz]; exact h
    · rename_i n e z y hu hz hy
      rw [hp y hy, hu, hz]; exact h
    · cases h
  | load t x =>
    simp only [rval, hop] at h ⊢
    rw [hev x (by simp [hop, Op.operands])]
    split at h
    · rename_i id off n e1 e2 e3
      (try simp only [e1, e2, e3])
      split at h
      · rename_i t' cs hl; rw [hh _ _ (by simp [touch0, adrOf, hop, e1]) hl]; exact h
      · cases h
    · rename_i id off n e1 e2 e3
      (try simp only [e1, e2, e3])
      split at h
      · rename_i t' cs hl; rw [hh _ _ (by simp [touch0, adrOf, hop, e1]) hl]; exact h
      · cases h
    · rename_i g off n e1 e2 e3
      (try simp only [e1, e2, e3])
      exact h
    · rename_i fid i sz off n e1 e2 e3
      (try simp only [e1, e2, e3])
      split at h
      · rename_i rw_ hl; obtain ⟨b, hb⟩ := rowX_up hr hrc hl; rw [hb]; exact h
      · cases h
    · rename_i fid i sz off n e1 e2 e3
      (try simp only [e1, e2, e3])
      split at h
      · rename_i rw_ hl; obtain ⟨b, hb⟩ := rowX_up hr hrc hl; rw [hb]; exact h
      · cases h
    · cases h
  | store t x y =>
    simp only [rval, hop] at h ⊢
    rw [hev x (by simp [hop, Op.operands]), hev y (by simp [hop, Op.operands])]
    split at h
    · rename_i id off cs n e1 e2 e3
      (try simp only [e1, e2, e3])
      split at h
      · rename_i t' cs hl; rw [hh _ _ (by simp [touch0, adrOf, hop, e1]) hl]; exact h
      · cases h
    · cases h
  | binOp op t x y t2 => simp only [rval, hop] at h ⊢; rw [hev x (by simp [hop, Op.operands]), hev y (by simp [hop, Op.operands])]; exact h
  | unOp op t x => simp only [rval, hop] at h ⊢; rw [hev x (by simp [hop, Op.operands])]; exact h
  | convert t t2 x =>
    simp only [rval, hop] at h ⊢
    rw [hev x (by simp [hop, Op.operands])]
    split at h
    · rename_i e1 e2 e3; (try simp only [e1, e2, e3]); exact h
    · rename_i e1 e2 e3; (try simp only [e1, e2, e3]); exact h
    · rename_i e1 e2 e3; (try simp only [e1, e2, e3]); exact h
    · rename_i e id off n e1 e2 e3
      (try simp only [e1, e2, e3])
      split at h
      · rename_i t' cs e4 hl; simp only [e4, hh _ _ (by simp [touch0, adrOf, hop, e3]) hl]; exact h
      · cases h
    · rename_i e fid e1 e2 e3
      (try simp only [e1, e2, e3])
      split at h
      · rename_i rw_ e4 hl; obtain ⟨b, hb⟩ := hr _ _ hl; simp only [e4, hb]; exact h
      · cases h
    · rename_i e1 e2 e3; (try simp only [e1, e2, e3]); exact h
    · rename_i e1 e2 e3; (try simp only [e1, e2, e3]); exact h
    · cases h
  | nilCheck x => simp only [rval, hop] at h ⊢; rw [hev x (by simp [hop, Op.operands])]; exact h
  | makeFunc fn first caps =>
    cases fn with
    | func f =>
      simp only [rval, hop] at h ⊢
      split at h
      · rename_i l e1 e2
        have hsub : TmpsAt s s' (looksL caps.toList) := by
          have : ∀ (l : List Operand), (∀ x ∈ l, x ∈ o.op.operands.toList) → TmpsAt s s' (looksL l) := by
            intro l
            induction l with
            | nil => intro _ t ht; simp [looksL] at ht
            | cons x l ih =>
              intro hl t ht'
              simp only [looksL, List.mem_append] at ht'
              rcases ht' with ht' | ht'
              · exact ht t (mem_looksL ht' (hl x (List.mem_cons_self ..)))
              · exact ih (fun y hy => hl y (List.mem_cons_of_mem _ hy)) t ht'
          exact this _ fun x hx => by simp [hop, Op.operands] at hx ⊢; exact .inr hx
        simp only [e1, ptrsOf_up hsub e2]; exact h
      · cases h
    | _ => simp [rval, hop] at h
  | makeSlice t l c =>
    simp only [rval, hop] at h ⊢
    rw [hev l (by simp [hop, Op.operands]), hev c (by simp [hop, Op.operands])]
    split at h
    · rename_i e1 e2 e3
      (try simp only [e1, e2, e3])
      split at h
      · rename_i e4 e5 e6
        (try simp only [e4, e5, e6])
        split at h
        · rename_i hcond
          rw [if_pos hcond]
          split at h
          · rename_i cvs hcv
            rw [cvsOf_up hr hcv]; exact h
          · cases h
        · cases h
      · cases h
    · cases h
  | fieldAddr t x f => simp only [rval, hop] at h ⊢; rw [hev x (by simp [hop, Op.operands])]; exact h
  | field t x f => simp only [rval, hop] at h ⊢; rw [hev x (by simp [hop, Op.operands])]; exact h
  | indexAddr t x i =>
    simp only [rval, hop] at h ⊢
    rw [hev x (by simp [hop, Op.operands]), hev i (by simp [hop, Op.operands])]
    split at h
    · rename_i e1 e2 e3; (try simp only [e1, e2, e3]); exact h
    · rename_i e1 e2 e3; (try simp only [e1, e2, e3]); exact h
    · rename_i e1 e2 e3; (try simp only [e1, e2, e3]); exact h
    · rename_i e fid kd k e1 e2 e3
      (try simp only [e1, e2, e3])
      split at h
      · rename_i z rw_ e4 hl; obtain ⟨b, hb⟩ := rowX_up hr hrc hl; simp only [e4, hb]; exact h
      · cases h
    · rename_i e1 e2 e3; (try simp only [e1, e2, e3]); exact h
    · cases h
  | index t x i => simp only [rval, hop] at h ⊢; rw [hev x (by simp [hop, Op.operands]), hev i (by simp [hop, Op.operands])]; exact h
  | extract x i => simp only [rval, hop] at h ⊢; rw [hev x (by simp [hop, Op.operands])]; exact h
  | call c =>
    have hargs : ∀ x ∈ c.args.toList, x ∈ o.op.operands.toList := fun x hx => by simp [hop, Op.operands, Call.operands] at hx ⊢; exact .inr hx
    have hsub : ∀ t ∈ looksL c.args.toList, t ∈ looksL o.op.operands.toList := by
      have : ∀ (l : List Operand), (∀ x ∈ l, x ∈ o.op.operands.toList) → ∀ t ∈ looksL l, t ∈ looksL o.op.operands.toList := by
        intro l
        induction l with
        | nil => intro _ t ht; simp [looksL] at ht
        | cons x l ih =>
          intro hl t ht
          simp only [looksL, List.mem_append] at ht
          rcases ht with ht | ht
          · exact mem_looksL ht (hl x (List.mem_cons_self ..))
          · exact ih (fun y hy => hl y (List.mem_cons_of_mem _ hy)) t ht
      exact this _ hargs
    cases hc : c.callee with
    | value f =>
      cases f with
      | func n =>
        simp only [rval, hop, hc] at h ⊢
        split at h
        · rename_i g hg
          split at h
          · rename_i ds hds
            rw [dsOf_up hr (fun t hm => ht t (hsub t hm)) hds]
            exact h
          · cases h
        · cases h
      | _ => simp [rval, hop, hc] at h
    | invoke x m => simp [rval, hop, hc] at h
    | builtin b =>
      cases b with
      | len =>
        simp only [rval, hop, hc] at h ⊢
        split at h
        · rename_i x t e1 e2
          (try simp only [e1, e2])
          rw [hev x (hargs x (by rw [e1]; simp))]
          split at h
          · rename_i e fid e3 e4
            (try simp only [e3, e4])
            split at h
            · rename_i rw_ hl; obtain ⟨b, hb⟩ := rowX_up hr hrc hl; simp only [hb]; exact h
            · cases h
          · rename_i b' e3 e4; (try simp only [e3, e4]); exact h
          · rename_i e e3 e4; (try simp only [e3, e4]); exact h
          · rename_i e id off n e3 e4; (try simp only [e3, e4]); exact h
          · cases h
        · cases h
      | append =>
        have hru := happ (by simp [isApp, hop, hc])
        simp only [rval, hop, hc] at h ⊢
        split at h
        · rename_i x y t t' e1 e2
          rw [hev x (hargs x (by rw [e1]; simp)), hev y (hargs y (by rw [e1]; simp))]
          split at h
          · rename_i htt
            rw [if_pos htt]
            split at h
            · rename_i e hu
              split at h
              · rename_i z old r1 old2 r2 hz hx hy
                simp only [hz, rowOf_up hru hx, rowOf_up hru hy]; exact h
              · cases h
            · cases h
          · rename_i htt
            rw [if_neg htt]
            split at h
            · rename_i e b hu hu' ey
              try simp only [hu, hu', ey]
              split at h
              · rename_i z old r1 hz hx
                simp only [hz, rowOf_up hru hx]; exact h
              · cases h
            · cases h
        · cases h
      | min =>
        simp only [rval, hop, hc] at h ⊢
        split at h
        · rename_i x y e1
          (try simp only [e1])
          rw [hev x (hargs x (by rw [e1]; simp)), hev y (hargs y (by rw [e1]; simp))]
          exact h
        · cases h
      | max =>
        simp only [rval, hop, hc] at h ⊢
        split at h
        · rename_i x y e1
          (try simp only [e1])
          rw [hev x (hargs x (by rw [e1]; simp)), hev y (hargs y (by rw [e1]; simp))]
          exact h
        · cases h
      | complex =>
        simp only [rval, hop, hc] at h ⊢
        split at h
        · rename_i x y e1
          (try simp only [e1])
          rw [hev x (hargs x (by rw [e1]; simp)), hev y (hargs y (by rw [e1]; simp))]
          exact h
        · cases h
      | real =>
        simp only [rval, hop, hc] at h ⊢
        split at h
        · rename_i x e1
          (try simp only [e1])
          rw [hev x (hargs x (by rw [e1]; simp))]
          exact h
        · cases h
      | imag =>
        simp only [rval, hop, hc] at h ⊢
        split at h
        · rename_i x e1
          (try simp only [e1])
          rw [hev x (hargs x (by rw [e1]; simp))]
          exact h
        · cases h
      | _ => simp [rval, hop, hc] at h
  | buildSlice t len0 ps =>
    cases len0 with
    | zero => simp only [rval, hop] at h ⊢; exact h
    | succ len1 =>
    simp only [rval, hop] at h ⊢
    generalize len1 + 1 = len at h ⊢
    have hp : ∀ y, partsOf s ps.toList = some y → partsOf s' ps.toList = some y := fun y hy => partsOf_up (fun t hm => ht t (by simpa [hop, Op.operands] using hm)) hy
    split at h
    · rename_i e hu
      try rw [hu]
      try simp only
      split at h
      · rename_i c z zs y hc hz hzs hy
        rw [hc, hz, hzs, hp y hy]
        simp only
        split at h
        · rename_i hcond
          rw [if_pos hcond]
          split at h
          · rename_i cs hf
            try rw [hf]
            try simp only
            split at h
            · rename_i cvs hcv
              rw [cvsOf_up hr hcv]
              exact h
            · cases h
          · cases h
        · cases h
      · rename_i z0 y hc hz hzs hy
        rw [hc, hz, hzs, hp y hy]
        exact h
      · cases h
    · cases h
  | slice t x lo hi mx =>
    cases mx with
    | some m => simp [rval, hop] at h
    | none =>
      simp only [rval, hop] at h ⊢
      have hb : ∀ y : Option Operand, (∀ z, y = some z → z ∈ o.op.operands.toList) → bnd s' y = bnd s y := fun y hy => by
        cases y with
        | none => rfl
        | some z => simp only [bnd]; rw [hev z (hy z rfl)]
      rw [hev x (by simp [hop, Op.operands]), hb lo (fun z e => by subst e; simp [hop, Op.operands]), hb hi (fun z e => by subst e; simp [hop, Op.operands])]
      split at h
      · rename_i b l hh_ hu e1 e2 e3
        (try simp only [hu, e1, e2, e3])
        exact h
      · rename_i n e id off hu e1 e2 e3
        (try simp only [hu, e1, e2, e3])
        exact h
      · rename_i e fid l hh_ hu e1 e2 e3
        (try simp only [hu, e1, e2, e3])
        split at h
        · rename_i rw_ z hl hz
          obtain ⟨b, hb⟩ := hr _ _ hl
          rw [hb]
          (try simp only [hz])
          exact h
        · cases h
      · cases h
  | _ => simp [rval, hop] at h
end
end Go.RX

/- Symbolic runs of Go functions: regions whose order is open: what has come up, whatever the order, is told by the set of what has come up. -/
namespace Go.RX
open Go.RowKit
set_option linter.unusedSimpArgs false
set_option linter.unusedVariables false

section
variable {P : Program} {U : Uni} {Γ : Con U} {s s' : St U} {kx : Nat} {o : Oper}

/-! ### Lookups -/
theorem putT_length (t : List TV) (d : Option Tmp) (v : TV) : (putT t d v).length = t.length := by cases d <;> simp [putT]
theorem putT_ne {t : List TV} {d : Option Tmp} {v : TV} {j : Nat} (h : d ≠ some j) : (putT t d v)[j]? = t[j]? := by
  cases d with
  | none => rfl
  | some d =>
    have : d ≠ j := fun c => h (by rw [c])
    simp [putT, List.getElem?_set, this]
theorem tmpsOf_length (D : Nat → Bool) : ∀ (l : List (Eff U)) (k : Nat) (t : List TV), (tmpsOf D l k t).length = t.length
  | [], k, t => rfl
  | e :: l, k, t => by
    simp only [tmpsOf]
    rw [tmpsOf_length D l]
    split
    · exact putT_length ..
    · rfl
theorem tmpsOf_agree {D D' : Nat → Bool} {j : Nat} : ∀ (l : List (Eff U)) (k : Nat) (t t' : List TV), t[j]? = t'[j]? → (∀ (i : Nat) e, l[i]? = some e → D (k + i) ≠ D' (k + i) → e.dst ≠ some j) → t.length = t'.length → (tmpsOf D l k t)[j]? = (tmpsOf D' l k t')[j]?
  | [], k, t, t', h, _, _ => h
  | e :: l, k, t, t', h, hd, hl => by
    simp only [tmpsOf]
    refine tmpsOf_agree l (k + 1) _ _ ?_ (fun i e' he hne => hd (i + 1) e' (by simpa using he) (by rw [show k + (i + 1) = k + 1 + i by omega]; exact hne)) ?_
    · have h0 := hd 0 e rfl
      simp only [Nat.add_zero] at h0
      cases h1 : D k <;> cases h2 : D' k
      · exact h
      · dsimp only; rw [putT_ne (h0 (by rw [h1, h2]; decide))]; exact h
      · dsimp only; rw [putT_ne (h0 (by rw [h1, h2]; decide))]; exact h
      · dsimp only
        cases hdst : e.dst with
        | none => exact h
        | some d =>
          simp only [putT, List.getElem?_set, hl]
          rw [h]
    · split <;> split <;> simp [putT_length, hl]
theorem tmpsOf_at {D : Nat → Bool} {i0 d : Nat} {e0 : Eff U} : ∀ (l : List (Eff U)) (k : Nat) (t : List TV), l[i0]? = some e0 → e0.dst = some d → D (k + i0) = true → (∀ (i : Nat) e, l[i]? = some e → i ≠ i0 → e.dst ≠ some d) → d < t.length → (tmpsOf D l k t)[d]? = some e0.v
  | [], k, t, h, _, _, _, _ => by simp at h
  | e :: l, k, t, h, hd, hD, hne, hlt => by
    simp only [tmpsOf]
    cases i0 with
    | zero =>
      simp at h
      subst h
      simp only [Nat.add_zero] at hD
      rw [hD]
      have := tmpsOf_agree (D := D) (D' := fun _ => false) (j := d) l (k + 1) (putT t e.dst e.v) (putT t e.dst e.v) rfl (fun i e' he _ => hne (i + 1) e' (by simpa using he) (by omega)) rfl
      rw [this]
      have hnone : ∀ (l : List (Eff U)) (k : Nat) (t : List TV), tmpsOf (fun _ => false) l k t = t := by
        intro l
        induction l with
        | nil => intro k t; rfl
        | cons e l ih => intro k t; simp only [tmpsOf]; exact ih _ _
      rw [hnone, hd]
      simp [putT, hlt]
    | succ i0 =>
      refine tmpsOf_at l (k + 1) _ (by simpa using h) hd (by rw [show k + 1 + i0 = k + (i0 + 1) by omega]; exact hD) (fun i e' he hi => hne (i + 1) e' (by simpa using he) (by omega)) ?_
      split
      · rw [putT_length]; exact hlt
      · exact hlt

theorem boxesOf_agree {b : Nat} {D D' : Nat → Bool} {id : Nat} : ∀ (l : List (Eff U)) (k : Nat) (h h' : List (Nat × TypeId × List Atom)), look id h = look id h' → (∀ (i : Nat) e, l[i]? = some e → D (k + i) ≠ D' (k + i) → (∃ t cs, e.u = .box t cs) → id ≠ b + (k + i)) → look id (boxesOf b D l k h) = look id (boxesOf b D' l k h')
  | [], k, h, h', e, _ => e
  | x :: l, k, h, h', e, hd => by
    simp only [boxesOf]
    refine boxesOf_agree l (k + 1) _ _ ?_ (fun i e' he hne hb => by have := hd (i + 1) e' (by simpa using he) (by rw [show k + (i + 1) = k + 1 + i by omega]; exact hne) hb; omega)
    have h0 := hd 0 x rfl
    simp only [Nat.add_zero] at h0
    cases h1 : D k <;> cases h2 : D' k
    · exact e
    · cases hu : x.u with
      | box t cs => dsimp only; rw [look_cons, if_neg (fun c => h0 (by rw [h1, h2]; decide) ⟨t, cs, hu⟩ c.symm)]; exact e
      | _ => exact e
    · cases hu : x.u with
      | box t cs => dsimp only; rw [look_cons, if_neg (fun c => h0 (by rw [h1, h2]; decide) ⟨t, cs, hu⟩ c.symm)]; exact e
      | _ => exact e
    · cases hu : x.u with
      | box t cs => dsimp only; rw [look_cons, look_cons, e]
      | _ => exact e
theorem boxesOf_at {b : Nat} {D : Nat → Bool} {i0 : Nat} {e0 : Eff U} {t : TypeId} {cs : List Atom} : ∀ (l : List (Eff U)) (k : Nat) (h : List (Nat × TypeId × List Atom)), l[i0]? = some e0 → e0.u = .box t cs → D (k + i0) = true → look (b + (k + i0)) (boxesOf b D l k h) = some (t, cs)
  | [], k, h, e, _, _ => by simp at e
  | x :: l, k, h, e, hu, hD => by
    simp only [boxesOf]
    cases i0 with
    | zero =>
      simp at e
      subst e
      simp only [Nat.add_zero] at hD ⊢
      rw [hD, hu]
      rw [boxesOf_agree (D' := fun _ => false) l (k + 1) _ ((b + k, t, cs) :: h) rfl (fun i e' _ _ _ => by omega)]
      have hnone : ∀ (l : List (Eff U)) (k : Nat) (h : List (Nat × TypeId × List Atom)), boxesOf b (fun _ => false) l k h = h := by
        intro l
        induction l with
        | nil => intro k h; rfl
        | cons e l ih => intro k h; simp only [boxesOf]; exact ih _ _
      rw [hnone, look_cons, if_pos rfl]
    | succ i0 =>
      have := boxesOf_at (b := b) (D := D) l (k + 1) (match D k, x.u with | true, .box t cs => (b + k, t, cs) :: h | _, _ => h) (by simpa using e) hu (by rw [show k + 1 + i0 = k + (i0 + 1) by omega]; exact hD)
      rw [show k + 1 + i0 = k + (i0 + 1) by omega] at this
      exact this
theorem boxesOf_cases {b : Nat} {D : Nat → Bool} {id : Nat} : ∀ (l : List (Eff U)) (k : Nat) (h : List (Nat × TypeId × List Atom)), look id (boxesOf b D l k h) = look id h ∨ ∃ (i : Nat) (e : Eff U) (t : TypeId) (cs : List Atom), l[i]? = some e ∧ D (k + i) = true ∧ e.u = .box t cs ∧ id = b + (k + i)
  | [], k, h => .inl rfl
  | x :: l, k, h => by
    simp only [boxesOf]
    rcases boxesOf_cases (b := b) (D := D) (id := id) l (k + 1) (match D k, x.u with | true, .box t cs => (b + k, t, cs) :: h | _, _ => h) with q | ⟨i, e, t, cs, q1, q2, q3, q4⟩
    · cases h1 : D k
      · rw [h1] at q; exact .inl q
      · cases hu : x.u with
        | box t cs =>
          rw [h1, hu] at q
          dsimp only at q
          rw [look_cons] at q
          by_cases c : b + k = id
          · exact .inr ⟨0, x, t, cs, rfl, by simpa using h1, hu, by omega⟩
          · rw [if_neg c] at q; exact .inl q
        | _ => rw [h1, hu] at q; exact .inl q
    · exact .inr ⟨i + 1, e, t, cs, by simpa using q1, by rw [show k + (i + 1) = k + 1 + i by omega]; exact q2, q3, by omega⟩

theorem setsOf_none {D : Nat → Bool} : ∀ (l : List (Eff U)) (k : Nat) (h : List (Nat × TypeId × List Atom)), (∀ (i : Nat) e id off cs, l[i]? = some e → e.u = .set id off cs → D (k + i) = false) → setsOf D l k h = h
  | [], k, h, _ => rfl
  | x :: l, k, h, hn => by
    simp only [setsOf]
    have h0 := hn 0 x
    simp only [Nat.add_zero] at h0
    have : setStep (D k) x.u h = h := by
      unfold setStep
      cases h1 : D k
      · rfl
      · cases hu : x.u with
        | set id off cs => have := h0 id off cs rfl hu; rw [h1] at this; cases this
        | _ => rfl
    rw [this]
    exact setsOf_none l (k + 1) h (fun i e id off cs a c => by have := hn (i + 1) e id off cs (by simpa using a) c; rw [show k + 1 + i = k + (i + 1) by omega]; exact this)
theorem setsOf_one {D : Nat → Bool} {j0 : Nat} {e0 : Eff U} {id off : Nat} {cs : List Atom} : ∀ (l : List (Eff U)) (k : Nat) (h : List (Nat × TypeId × List Atom)), l[j0]? = some e0 → e0.u = .set id off cs → D (k + j0) = true →
    (∀ (i : Nat) e id off cs, l[i]? = some e → e.u = .set id off cs → i ≠ j0 → D (k + i) = false) → setsOf D l k h = upd1 id (fun old => setCells old off cs) h
  | [], k, h, e, _, _, _ => by simp at e
  | x :: l, k, h, e, hu, hD, hn => by
    simp only [setsOf]
    cases j0 with
    | zero =>
      simp at e
      subst e
      simp only [Nat.add_zero] at hD
      rw [hD, hu]
      exact setsOf_none l (k + 1) _ (fun i e id off cs a c => by have := hn (i + 1) e id off cs (by simpa using a) c (by omega); rw [show k + 1 + i = k + (i + 1) by omega]; exact this)
    | succ j0 =>
      have h0 := hn 0 x
      simp only [Nat.add_zero] at h0
      have : setStep (D k) x.u h = h := by
        unfold setStep
        cases h1 : D k
        · rfl
        · cases hu : x.u with
          | set id off cs => have := h0 id off cs rfl hu (by omega); rw [h1] at this; cases this
          | _ => rfl
      rw [this]
      exact setsOf_one l (k + 1) h (by simpa using e) hu (by rw [show k + 1 + j0 = k + (j0 + 1) by omega]; exact hD) (fun i e id off cs a c hi => by have := hn (i + 1) e id off cs (by simpa using a) c (by omega); rw [show k + 1 + i = k + (i + 1) by omega]; exact this)

/-- The rows that an operation of number q makes bear numbers of its own. -/
theorem fidsOK_look {b : Nat} {u : Upd U} {l : List (Nat × Row U)} (hu : rowsIn u = some l) (h : fidsOK b u = true) {fid : Nat} (hf : ¬ (16 * b ≤ fid ∧ fid < 16 * b + 16)) (h' : List (Nat × Row U)) : look fid (l ++ h') = look fid h' := by
  rw [look_append]
  have : look fid l = none := by
    unfold fidsOK at h
    rw [hu] at h
    simp only at h
    clear hu
    induction l with
    | nil => rfl
    | cons x l ih =>
      simp only [List.all_cons, Bool.and_eq_true, decide_eq_true_eq] at h
      obtain ⟨j, r⟩ := x
      rw [look_cons, if_neg (fun c => hf (by have := h.1; simp only at this; omega))]
      exact ih h.2
  rw [this]
theorem rowsOf_agree {b : Nat} {D D' : Nat → Bool} {fid : Nat} : ∀ (l : List (Eff U)) (k : Nat) (h h' : List (Nat × Row U)), look fid h = look fid h' → (∀ (i : Nat) e, l[i]? = some e → fidsOK (b + (k + i)) e.u = true) →
    (∀ (i : Nat) e, l[i]? = some e → D (k + i) ≠ D' (k + i) → (∃ l', rowsIn e.u = some l') → ¬ (16 * (b + (k + i)) ≤ fid ∧ fid < 16 * (b + (k + i)) + 16)) → look fid (rowsOf D l k h) = look fid (rowsOf D' l k h')
  | [], k, h, h', e, _, _ => e
  | x :: l, k, h, h', e, hf, hd => by
    simp only [rowsOf]
    refine rowsOf_agree (b := b) l (k + 1) _ _ ?_ (fun i e' he => by have := hf (i + 1) e' (by simpa using he); rw [show k + 1 + i = k + (i + 1) by omega]; exact this) (fun i e' he hne => by have := hd (i + 1) e' (by simpa using he) (by rw [show k + (i + 1) = k + 1 + i by omega]; exact hne); rw [show k + 1 + i = k + (i + 1) by omega]; exact this)
    have h0 := hd 0 x rfl
    have f0 := hf 0 x rfl
    simp only [Nat.add_zero] at h0 f0
    unfold rowStep
    cases h1 : D k <;> cases h2 : D' k
    · exact e
    · cases hu : rowsIn x.u with
      | some l' => dsimp only; rw [fidsOK_look hu f0 (h0 (by rw [h1, h2]; decide) ⟨_, hu⟩)]; exact e
      | none => exact e
    · cases hu : rowsIn x.u with
      | some l' => dsimp only; rw [fidsOK_look hu f0 (h0 (by rw [h1, h2]; decide) ⟨_, hu⟩)]; exact e
      | none => exact e
    · cases hu : rowsIn x.u with
      | some l' => dsimp only; rw [look_append, look_append, e]
      | none => exact e
theorem rowsOf_at {b : Nat} {D : Nat → Bool} {i0 fid : Nat} {e0 : Eff U} {l0 : List (Nat × Row U)} : ∀ (l : List (Eff U)) (k : Nat) (h : List (Nat × Row U)), l[i0]? = some e0 → rowsIn e0.u = some l0 → D (k + i0) = true → (∀ (i : Nat) e, l[i]? = some e → fidsOK (b + (k + i)) e.u = true) →
    (16 * (b + (k + i0)) ≤ fid ∧ fid < 16 * (b + (k + i0)) + 16) → look fid (rowsOf D l k h) = look fid (l0 ++ h)
  | [], k, h, e, _, _, _, _ => by simp at e
  | x :: l, k, h, e, hu, hD, hf, hr => by
    simp only [rowsOf]
    have hf' : ∀ (i : Nat) e, l[i]? = some e → fidsOK (b + (k + 1 + i)) e.u = true := fun i e' he => by have := hf (i + 1) e' (by simpa using he); rw [show k + 1 + i = k + (i + 1) by omega]; exact this
    cases i0 with
    | zero =>
      simp at e
      subst e
      simp only [Nat.add_zero] at hD hr
      have hst : rowStep (D k) x.u h = l0 ++ h := by unfold rowStep; rw [hD, hu]
      rw [hst]
      rw [rowsOf_agree (b := b) (D' := fun _ => false) l (k + 1) (l0 ++ h) (l0 ++ h) rfl hf' (fun i e' _ _ _ => by omega)]
      have hnone : ∀ (l : List (Eff U)) (k : Nat) (h : List (Nat × Row U)), rowsOf (fun _ => false) l k h = h := by
        intro l
        induction l with
        | nil => intro k h; rfl
        | cons e l ih => intro k h; simp only [rowsOf]; exact ih _ _
      rw [hnone]
    | succ i0 =>
      have f0 := hf 0 x rfl
      simp only [Nat.add_zero] at f0
      have hx : look fid (rowStep (D k) x.u h) = look fid h := by
        unfold rowStep
        cases h1 : D k
        · rfl
        · cases hxu : rowsIn x.u with
          | some l' => dsimp only; exact fidsOK_look hxu f0 (by omega) h
          | none => rfl
      rw [rowsOf_at (b := b) l (k + 1) _ (by simpa using e) hu (by rw [show k + 1 + i0 = k + (i0 + 1) by omega]; exact hD) hf' (by rw [show k + 1 + i0 = k + (i0 + 1) by omega]; exact hr)]
      rw [look_append, look_append, hx]

/-- Whose rows have become nobody's. -/
def disB (D : Nat → Bool) : List (Eff U) → Nat → Nat → Bool
  | [], _, _ => false
  | e :: r, k, fid => (match D k with | true => (match growsOf e.u with | some old => decide (fid = old) | none => false) | false => false) || disB D r (k + 1) fid
theorem look_disOf {D : Nat → Bool} {fid : Nat} : ∀ (l : List (Eff U)) (k : Nat) (h : List (Nat × Row U)), look fid (disOf D l k h) = (look fid h).map fun r => if disB D l k fid = true then ⟨r.c, r.l, false⟩ else r
  | [], k, h => by simp [disOf, disB]
  | x :: l, k, h => by
    simp only [disOf, disB]
    rw [look_disOf l (k + 1)]
    unfold disStep
    rcases Bool.eq_false_or_eq_true (D k) with h1 | h1
    · rcases Option.eq_none_or_eq_some (growsOf x.u) with hu | ⟨old, hu⟩
      · simp only [h1, hu, Bool.false_or]
      · simp only [h1, hu]
        rw [look_disown]
        cases look fid h with
        | none => rfl
        | some r =>
          simp only [Option.map_some, Bool.or_eq_true, decide_eq_true_eq]
          by_cases c : fid = old
          · rw [if_pos c, if_pos (Or.inl c)]; split <;> rfl
          · rw [if_neg c]; simp only [c, false_or]
    · simp only [h1, Bool.false_or]
theorem disB_iff {D : Nat → Bool} {fid : Nat} : ∀ (l : List (Eff U)) (k : Nat), disB D l k fid = true ↔ ∃ (i : Nat) (e : Eff U) (l' : List (Nat × Row U)), l[i]? = some e ∧ D (k + i) = true ∧ e.u = .grow fid l'
  | [], k => by simp [disB]
  | x :: l, k => by
    simp only [disB, Bool.or_eq_true, disB_iff l (k + 1)]
    constructor
    · rintro (h | ⟨i, e, l', h1, h2, h3⟩)
      · split at h
        · rename_i hD
          split at h
          · rename_i old hg
            simp only [decide_eq_true_eq] at h
            subst h
            unfold growsOf at hg
            split at hg
            · rename_i old l0 hu
              cases hg
              exact ⟨0, x, l0, rfl, hD, hu⟩
            · cases hg
          · cases h
        · cases h
      · exact ⟨i + 1, e, l', by simpa using h1, by rw [show k + (i + 1) = k + 1 + i by omega]; exact h2, h3⟩
    · rintro ⟨i, e, l', h1, h2, h3⟩
      cases i with
      | zero =>
        simp at h1
        subst h1
        left
        rw [Nat.add_zero] at h2
        rw [h2, h3]
        simp [growsOf]
      | succ i => exact .inr ⟨i, e, l', by simpa using h1, by rw [show k + 1 + i = k + (i + 1) by omega]; exact h2, h3⟩

/-! ### Stores, one behind the other -/
def stepG (d : Bool) (u : Upd U) (id : Nat) (cs : List Atom) : List Atom := match d with
  | true => match u with
    | .set id' off new => if id = id' then setCells cs off new else cs
    | _ => cs
  | false => cs
def gOf (D : Nat → Bool) : List (Eff U) → Nat → Nat → List Atom → List Atom
  | [], _, _, cs => cs
  | e :: r, k, id, cs => gOf D r (k + 1) id (stepG (D k) e.u id cs)
theorem look_setsOf {D : Nat → Bool} {id : Nat} : ∀ (l : List (Eff U)) (k : Nat) (h : List (Nat × TypeId × List Atom)), look id (setsOf D l k h) = (look id h).map fun x => (x.1, gOf D l k id x.2)
  | [], k, h => by simp [setsOf, gOf]
  | e :: l, k, h => by
    simp only [setsOf, gOf]
    rw [look_setsOf l (k + 1)]
    unfold setStep stepG
    cases h1 : D k with
    | false => rfl
    | true =>
      cases hu : e.u with
      | set id' off cs =>
        simp only
        rw [look_upd1]
        by_cases c : id = id'
        · rw [if_pos c, Option.map_map]
          simp only [if_pos c]
          rfl
        · rw [if_neg c]
          simp only [if_neg c]
      | _ => rfl
theorem gOf_congr {D D' : Nat → Bool} {id : Nat} : ∀ (l : List (Eff U)) (k : Nat) (cs : List Atom), (∀ (i : Nat) e off new, l[i]? = some e → e.u = .set id off new → D (k + i) = D' (k + i)) → gOf D l k id cs = gOf D' l k id cs
  | [], k, cs, _ => rfl
  | e :: l, k, cs, h => by
    simp only [gOf]
    have hs : stepG (D k) e.u id cs = stepG (D' k) e.u id cs := by
      unfold stepG
      cases hu : e.u with
      | set id' off new =>
        by_cases c : id = id'
        · subst c
          have := h 0 e off new rfl hu
          simp only [Nat.add_zero] at this
          rw [this]
        · cases D k <;> cases D' k <;> simp [c]
      | _ => cases D k <;> cases D' k <;> rfl
    rw [hs]
    exact gOf_congr l (k + 1) _ fun i e' off new h1 h2 => by have := h (i + 1) e' off new (by simpa using h1) h2; rw [show k + 1 + i = k + (i + 1) by omega]; exact this
theorem gOf_none {D : Nat → Bool} {id : Nat} : ∀ (l : List (Eff U)) (k : Nat) (cs : List Atom), (∀ (i : Nat) e off new, l[i]? = some e → e.u = .set id off new → D (k + i) = false) → gOf D l k id cs = cs
  | [], k, cs, _ => rfl
  | e :: l, k, cs, h => by
    simp only [gOf]
    have hs : stepG (D k) e.u id cs = cs := by
      unfold stepG
      cases hd : D k with
      | false => rfl
      | true =>
        cases hu : e.u with
        | set id' off new =>
          by_cases c : id = id'
          · subst c
            have := h 0 e off new rfl hu
            simp only [Nat.add_zero] at this
            rw [hd] at this; cases this
          · simp only [if_neg c]
        | _ => rfl
    rw [hs]
    exact gOf_none l (k + 1) cs fun i e' off new h1 h2 => by have := h (i + 1) e' off new (by simpa using h1) h2; rw [show k + 1 + i = k + (i + 1) by omega]; exact this
/-- A store behind all others that have come up. -/
theorem gOf_last {D D' : Nat → Bool} {id i0 : Nat} {e0 : Eff U} : ∀ (l : List (Eff U)) (k : Nat) (cs : List Atom), l[i0]? = some e0 → D (k + i0) = false → D' (k + i0) = true → (∀ q, q ≠ k + i0 → D' q = D q) → (∀ (i : Nat) e off new, l[i]? = some e → e.u = .set id off new → i0 < i → D (k + i) = false) →
    gOf D' l k id cs = stepG true e0.u id (gOf D l k id cs)
  | [], k, cs, h, _, _, _, _ => by simp at h
  | e :: l, k, cs, h, h1, h2, h3, h4 => by
    simp only [gOf]
    cases i0 with
    | zero =>
      simp at h
      subst h
      simp only [Nat.add_zero] at h1 h2 h3
      rw [h1, h2]
      have hno : ∀ (i : Nat) e' off new, l[i]? = some e' → e'.u = .set id off new → D (k + 1 + i) = false := fun i e' off new a b => by
        have := h4 (i + 1) e' off new (by simpa using a) b (by omega)
        rw [show k + 1 + i = k + (i + 1) by omega]; exact this
      have e1 : ∀ cs, gOf D l (k + 1) id cs = cs := fun cs => gOf_none l (k + 1) cs fun i e' off new a b => hno i e' off new a b
      have e2 : ∀ cs, gOf D' l (k + 1) id cs = cs := fun cs => gOf_none l (k + 1) cs fun i e' off new a b => by rw [h3 _ (by omega)]; exact hno i e' off new a b
      rw [e1, e2]
      rfl
    | succ i0 =>
      rw [h3 k (by omega)]
      exact gOf_last l (k + 1) _ (by simpa using h) (by rw [show k + 1 + i0 = k + (i0 + 1) by omega]; exact h1) (by rw [show k + 1 + i0 = k + (i0 + 1) by omega]; exact h2) (fun q hq => h3 q (by omega)) (fun i e' off new a b c => by
        have := h4 (i + 1) e' off new (by simpa using a) b (by omega)
        rw [show k + 1 + i = k + (i + 1) by omega]; exact this)
end
end Go.RX

/- Symbolic runs of Go functions: regions whose order is open. -/
namespace Go.RX
open Go.RowKit
set_option linter.unusedSimpArgs false
set_option linter.unusedVariables false

section
variable {P : Program} {U : Uni} {Γ : Con U} {s : St U} {ops : Array Oper} {w0 w : World} {F0 : Nat → Nat → Prop} {Fr : Nat → Prop} {ν : Nu} {F : Nat → Nat → Prop} {a : Act}

theorem Sim.congr {heap heap' : List (Nat × TypeId × List Atom)} {rows rows' : List (Nat × Row U)} (h : Sim U w0 F0 Fr heap rows w ν F) (hh : ∀ id, look id heap' = look id heap) (hr : ∀ fid, look fid rows' = look fid rows) : Sim U w0 F0 Fr heap' rows' w ν F :=
  ⟨h.below, fun id t cs e => h.box id t cs ((hh id).symm.trans e), fun id id' b l l' => h.inj id id' b (by rw [← hh]; exact l) (by rw [← hh]; exact l'), h.lt, fun fid r e => h.row fid r ((hr fid).symm.trans e),
    fun fid r v id b e1 e2 e3 e4 => h.apart fid r v id b ((hr fid).symm.trans e1) e2 e3 (by rw [← hh]; exact e4), fun fid r v fid' r' v' b e1 e2 e3 e4 => h.apart2 fid r v fid' r' v' b ((hr fid).symm.trans e1) e2 e3 ((hr fid').symm.trans e4), h.free, h.sub, h.new, h.hold, fun l x e hc => ⟨(h.hx l x e hc).1, fun id hid => (h.hx l x e hc).2.1 id (by rw [← hh]; exact hid), fun fid r v e1 => (h.hx l x e hc).2.2 fid r v ((hr fid).symm.trans e1)⟩⟩

/-! ### Who comes ahead of whom -/
theorem maskOf_bit {ms : List Nat} {j : Nat} : ∀ (l : List Edge), (maskOf ms l).testBit j = true ↔ ∃ e ∈ l, Region.binds .any e = true ∧ (e.on = j ∨ (ms.getD e.on 0).testBit j = true)
  | [] => by simp [maskOf]
  | e :: l => by
    have ih := maskOf_bit (ms := ms) (j := j) l
    simp only [maskOf]
    cases hb : Region.binds .any e with
    | true =>
      simp only [Nat.testBit_or, Bool.or_eq_true, List.mem_cons, exists_eq_or_imp, hb, true_and, ih]
      rw [Nat.one_shiftLeft, Nat.testBit_two_pow]
      simp
    | false =>
      simp only [List.mem_cons, exists_eq_or_imp, hb, ih]
      simp
theorem masksOf_spec : ∀ (l : List Oper) (acc : List Nat), (masksOf l acc).length = acc.length + l.length ∧ (masksOf l acc).take acc.length = acc ∧
    ∀ (i : Nat) o, l[i]? = some o → (masksOf l acc)[acc.length + i]? = some (maskOf ((masksOf l acc).take (acc.length + i)) o.after.toList)
  | [], acc => ⟨rfl, by simp [masksOf], fun i o e => by simp at e⟩
  | o :: l, acc => by
    obtain ⟨h1, h2, h3⟩ := masksOf_spec l (acc ++ [maskOf acc o.after.toList])
    simp only [masksOf]
    simp only [List.length_append, List.length_cons, List.length_nil] at h1 h2 h3
    have h4 : (masksOf l (acc ++ [maskOf acc o.after.toList])).take acc.length = acc := by
      have := congrArg (List.take acc.length) h2
      rw [List.take_take] at this
      simpa using this
    refine ⟨by rw [h1]; simp; omega, h4, fun i o' e => ?_⟩
    cases i with
    | zero =>
      simp at e
      subst e
      simp only [Nat.add_zero]
      rw [h4]
      have := congrArg (fun l => l[acc.length]?) h2
      simpa [List.getElem?_take] using this
    | succ i =>
      have := h3 i o' (by simpa using e)
      rw [show acc.length + (0 + 1) + i = acc.length + (i + 1) by omega] at this
      exact this

theorem edgesOK_lt {k : Nat} {l : List Edge} (h : edgesOK k l = true) : ∀ e ∈ l, Region.binds .any e = true → e.on < k := by
  induction l with
  | nil => intro e he; cases he
  | cons x l ih =>
    intro e he hb
    simp only [edgesOK, Bool.and_eq_true] at h
    rcases List.mem_cons.mp he with rfl | he
    · have := h.1; rw [hb] at this; simpa using this
    · exact ih h.2 e he hb
theorem edgesAll_lt {l : List Oper} : ∀ {k : Nat}, edgesAll l k = true → ∀ (i : Nat) o, l[i]? = some o → ∀ e ∈ o.after.toList, Region.binds .any e = true → e.on < k + i := by
  induction l with
  | nil => intro k h i o ho; simp at ho
  | cons x l ih =>
    intro k h i o ho e he hb
    simp only [edgesAll, Bool.and_eq_true] at h
    cases i with
    | zero => simp at ho; subst ho; have := edgesOK_lt h.1 e he hb; omega
    | succ i => have := ih h.2 i o (by simpa using ho) e he hb; omega
theorem allPairs_spec {i m : Nat} {x : Oper} : ∀ {l : List Oper} {ms : List Nat} {k : Nat}, allPairs ops i m x l ms k = true → ∀ (j : Nat) y n, l[j]? = some y → ms[j]? = some n → pairOK ops i m x (k + j) n y = true
  | [], ms, k, h, j, y, n, e, _ => by simp at e
  | y' :: l, [], k, h, j, y, n, _, e => by simp at e
  | y' :: l, n' :: ms, k, h, j, y, n, e, e' => by
    simp only [allPairs, Bool.and_eq_true] at h
    cases j with
    | zero => simp at e e'; subst e; subst e'; exact h.1
    | succ j => have := allPairs_spec h.2 j y n (by simpa using e) (by simpa using e'); rw [show k + 1 + j = k + (j + 1) by omega] at this; exact this
theorem pairsOK_spec {L : List Oper} {M : List Nat} : ∀ {l : List Oper} {ms : List Nat} {i : Nat}, pairsOK ops L M l ms i = true → ∀ (j : Nat) x m, l[j]? = some x → ms[j]? = some m → guardOK x m = true ∧ ∀ (k : Nat) y n, L[k]? = some y → M[k]? = some n → pairOK ops (i + j) m x k n y = true
  | [], ms, i, h, j, x, m, e, _ => by simp at e
  | x' :: l, [], i, h, j, x, m, _, e => by simp at e
  | x' :: l, m' :: ms, i, h, j, x, m, e, e' => by
    simp only [pairsOK, Bool.and_eq_true] at h
    cases j with
    | zero =>
      simp at e e'; subst e; subst e'
      refine ⟨h.1.2, fun k y n e1 e2 => ?_⟩
      have := allPairs_spec h.1.1 k y n e1 e2
      simpa using this
    | succ j =>
      have := pairsOK_spec h.2 j x m (by simpa using e) (by simpa using e')
      rw [show i + 1 + j = i + (j + 1) by omega] at this
      exact this

structure DF (P : Program) (Γ : Con U) (ops : Array Oper) (s : St U) (effs : List (Eff U)) (mk : Nat → Nat) (Z E : Nat → Bool) : Prop where
  len : effs.length = ops.size
  bit : ∀ (i : Nat) o, ops[i]? = some o → ∀ j, (mk i).testBit j = true ↔ ∃ e ∈ o.after, Region.binds .any e = true ∧ (e.on = j ∨ (mk e.on).testBit j = true)
  lt : ∀ (i : Nat) o, ops[i]? = some o → ∀ e ∈ o.after, Region.binds .any e = true → e.on < i
  pair : ∀ (i k : Nat) x y, ops[i]? = some x → ops[k]? = some y → pairOK ops i (mk i) x k (mk k) y = true
  grd : ∀ (i : Nat) x, ops[i]? = some x → guardOK x (mk i) = true
  bs : ∀ (i : Nat) o, ops[i]? = some o → Z i = false → putOK s o.dst = true
  dum : ∀ (i : Nat) e, effs[i]? = some e → E i = false → e = dumE
  ze : ∀ (i : Nat), E i = true → Z i = false
  ecl : ∀ (i : Nat), i < ops.size → E i = true → ∀ j, (mk i).testBit j = true → E j = true ∨ Z j = true
  step : ∀ (i : Nat) o, ops[i]? = some o → E i = true → ∃ e ob, effs[i]? = some e ∧ e.dst = o.dst ∧ rstepE P Γ ops (stOf (mk i).testBit effs s) (s.next + i) o = some (ob, e.v, e.u) ∧ obOK ob ∧ fidsOK (s.next + i) e.u = true ∧ updOK o e.u = true ∧ growOK s.next (mk i) e.u = true
  far : ∀ (i : Nat) o, ops[i]? = some o → E i = true → usesHeap o = true → ∀ (k : Nat) e id off cs, effs[k]? = some e → e.u = .set id off cs → i = k ∨ (mk k).testBit i = true ∨ (mk i).testBit k = true ∨ touch (stOf (mk i).testBit effs s) o id = false

variable {effs : List (Eff U)} {mk : Nat → Nat} {Z E : Nat → Bool}
theorem DF.bit_lt (h : DF P Γ ops s effs mk Z E) : ∀ (i : Nat), i < ops.size → ∀ j, (mk i).testBit j = true → j < i := by
  intro i
  induction i using Nat.strongRecOn with
  | _ i ih =>
    intro hi j hj
    obtain ⟨e, he, hb, hc⟩ := (h.bit i _ (Array.getElem?_eq_getElem hi) j).mp hj
    have := h.lt i _ (Array.getElem?_eq_getElem hi) e he hb
    rcases hc with rfl | hc
    · exact this
    · have := ih e.on this (by omega) j hc; omega
theorem DF.trans (h : DF P Γ ops s effs mk Z E) : ∀ (i : Nat), i < ops.size → ∀ j l, (mk i).testBit j = true → (mk j).testBit l = true → (mk i).testBit l = true := by
  intro i
  induction i using Nat.strongRecOn with
  | _ i ih =>
    intro hi j l hj hl
    obtain ⟨e, he, hb, hc⟩ := (h.bit i _ (Array.getElem?_eq_getElem hi) j).mp hj
    have hlt := h.lt i _ (Array.getElem?_eq_getElem hi) e he hb
    refine (h.bit i _ (Array.getElem?_eq_getElem hi) l).mpr ⟨e, he, hb, .inr ?_⟩
    rcases hc with rfl | hc
    · exact hl
    · exact ih e.on hlt (by omega) j l hc hl
/-- What has come up is closed: whatever comes ahead of it has. -/
def Closed (ops : Array Oper) (D : Nat → Bool) : Prop := ∀ (i : Nat) o, ops[i]? = some o → D i = true → ∀ e ∈ o.after, Region.binds .any e = true → D e.on = true
theorem DF.closed (h : DF P Γ ops s effs mk Z E) {D : Nat → Bool} (hD : Closed ops D) : ∀ (i : Nat), i < ops.size → D i = true → ∀ j, (mk i).testBit j = true → D j = true := by
  intro i
  induction i using Nat.strongRecOn with
  | _ i ih =>
    intro hi hDi j hj
    obtain ⟨e, he, hb, hc⟩ := (h.bit i _ (Array.getElem?_eq_getElem hi) j).mp hj
    have hlt := h.lt i _ (Array.getElem?_eq_getElem hi) e he hb
    have hDe := hD i _ (Array.getElem?_eq_getElem hi) hDi e he hb
    rcases hc with rfl | hc
    · exact hDe
    · exact ih e.on hlt (by omega) hDe j hc
/-- What has an effect is carried out here. -/
theorem DF.live (h : DF P Γ ops s effs mk Z E) {i : Nat} {e : Eff U} (he : effs[i]? = some e) (hl : e.dst ≠ none ∨ e.u ≠ .none) : E i = true := by
  cases hE : E i with
  | true => rfl
  | false =>
    have := h.dum i e he hE
    subst this
    rcases hl with c | c <;> exact absurd rfl c
theorem DF.liveD (h : DF P Γ ops s effs mk Z E) {i d : Nat} {e : Eff U} (he : effs[i]? = some e) (hd : e.dst = some d) : E i = true := h.live he (.inl (by rw [hd]; exact fun c => by cases c))
theorem DF.liveU (h : DF P Γ ops s effs mk Z E) {i : Nat} {e : Eff U} {u : Upd U} (he : effs[i]? = some e) (hd : e.u = u) (hu : u ≠ .none) : E i = true := h.live he (.inr (by rw [hd]; exact hu))
theorem DF.eff (h : DF P Γ ops s effs mk Z E) {i : Nat} {e : Eff U} (he : effs[i]? = some e) (hE : E i = true) : ∃ o ob, ops[i]? = some o ∧ e.dst = o.dst ∧ rstepE P Γ ops (stOf (mk i).testBit effs s) (s.next + i) o = some (ob, e.v, e.u) ∧ fidsOK (s.next + i) e.u = true ∧ updOK o e.u = true ∧ growOK s.next (mk i) e.u = true := by
  have hi : i < ops.size := by rw [← h.len]; exact (List.getElem?_eq_some_iff.mp he).1
  obtain ⟨e', ob, q1, q2, q3, q4, q5, q6⟩ := h.step i _ (Array.getElem?_eq_getElem hi) hE
  rw [he] at q1
  cases q1
  exact ⟨_, ob, Array.getElem?_eq_getElem hi, q2, q3, q5, q6⟩
/-- No two operations write one temporary. -/
theorem DF.dst_ne (h : DF P Γ ops s effs mk Z E) {i k : Nat} {e e' : Eff U} (he : effs[i]? = some e) (he' : effs[k]? = some e') (hne : i ≠ k) {d : Nat} (hd : e.dst = some d) : e'.dst ≠ some d := by
  intro c
  obtain ⟨o, ob, q1, q2, _⟩ := h.eff he (h.liveD he hd)
  obtain ⟨o', ob', p1, p2, _⟩ := h.eff he' (h.liveD he' c)
  have := h.pair i k o o' q1 p1
  simp only [pairOK, Bool.or_eq_true, beq_iff_eq, hne, false_or, Bool.and_eq_true] at this
  have := this.1.1.1.1
  rw [← q2, ← p2, hd, c] at this
  simp at this
/-- An operation that has come up, and is not ahead of i (nor i of it), writes nothing that i looks at. -/
theorem DF.apart (h : DF P Γ ops s effs mk Z E) {D : Nat → Bool} (hD : Closed ops D) {i k : Nat} {o : Oper} (ho : ops[i]? = some o) (hi : D i = false) (hk : D k = true) (hb : (mk i).testBit k = false) {e : Eff U} (he : effs[k]? = some e) {t : Nat} (ht : t ∈ looksL o.op.operands.toList) : e.dst ≠ some t := by
  intro c
  obtain ⟨x, ob, q1, q2, _⟩ := h.eff he (h.liveD he c)
  have hks : k < ops.size := (Array.getElem?_eq_some_iff.mp q1).1
  have hne : k ≠ i := fun e => by rw [e, hi] at hk; cases hk
  have hni : (mk k).testBit i = false := by
    cases hh : (mk k).testBit i with
    | false => rfl
    | true => have := h.closed hD k hks hk i hh; rw [hi] at this; cases this
  have := h.pair k i x o q1 ho
  simp only [pairOK, Bool.or_eq_true, beq_iff_eq, hne, false_or, Bool.and_eq_true, hb, hni, Bool.false_eq_true] at this
  have := this.1.1.1.2
  rw [← q2, c] at this
  simp only [Bool.not_eq_true'] at this
  rw [(mem_iff t _).mpr ht] at this
  cases this

theorem DF.tmps_agree (h : DF P Γ ops s effs mk Z E) {D : Nat → Bool} (hD : Closed ops D) {i : Nat} {o : Oper} (ho : ops[i]? = some o) (hi : D i = false) (hB : ∀ j, (mk i).testBit j = true → D j = true) {t : Nat}
    (ht : ∀ (k : Nat) e, effs[k]? = some e → D k = true → (mk i).testBit k = false → e.dst ≠ some t) : (stOf D effs s).tmps.getD t (.pl (.one .junk)) = (stOf (mk i).testBit effs s).tmps.getD t (.pl (.one .junk)) := by
  simp only [stOf, List.getD_eq_getElem?_getD]
  rw [tmpsOf_agree (D := D) (D' := (mk i).testBit) effs 0 s.tmps s.tmps rfl (fun k e he hne => ?_) rfl]
  simp only [Nat.zero_add] at hne
  cases h1 : D k with
  | true => exact ht k e he h1 (by cases h2 : (mk i).testBit k with | false => rfl | true => rw [h1, h2] at hne; exact absurd rfl hne)
  | false =>
    cases h2 : (mk i).testBit k with
    | true => have := hB k h2; rw [h1] at this; cases this
    | false => rw [h1, h2] at hne; exact absurd rfl hne

/-- The stores that have come up, while one that looks at their block has not, are those ahead of it. -/
theorem DF.setsSame (h : DF P Γ ops s effs mk Z E) {D : Nat → Bool} (hD : Closed ops D) {i : Nat} {o : Oper} (ho : ops[i]? = some o) (hE : E i = true) (hu : usesHeap o = true) (hi : D i = false) (hB : ∀ j, (mk i).testBit j = true → D j = true) {id : Nat} (ht : touch (stOf (mk i).testBit effs s) o id = true) : ∀ (k : Nat) e off cs, effs[k]? = some e → e.u = .set id off cs → D k = (mk i).testBit k := by
  intro k e off cs he hset
  cases hm : (mk i).testBit k with
  | true => exact hB k hm
  | false =>
    cases hk : D k with
    | false => rfl
    | true =>
      obtain ⟨x, ob, q1, q2, _, _, q5⟩ := h.eff he (h.liveU he hset (fun c => by cases c))
      have hne : i ≠ k := fun e => by rw [← e, hi] at hk; cases hk
      rcases h.far i o ho hE hu k e id off cs he hset with c | c | c | c
      · exact absurd c hne
      · have := h.closed hD k (Array.getElem?_eq_some_iff.mp q1).1 hk i c
        rw [hi] at this; cases this
      · rw [hm] at c; cases c
      · rw [ht] at c; cases c
/-- What has come up writes into no block that an operation makes that has not. -/
theorem DF.setNew (h : DF P Γ ops s effs mk Z E) {D : Nat → Bool} (hD : Closed ops D) {i : Nat} (hi : D i = false) : ∀ (k : Nat) e off cs, effs[k]? = some e → e.u = .set (s.next + i) off cs → D k = false := by
  intro k e off cs he hset
  cases hk : D k with
  | false => rfl
  | true =>
    obtain ⟨x, ob, q1, q2, q3, q4, q5⟩ := h.eff he (h.liveU he hset (fun c => by cases c))
    have := q5.2
    rw [hset] at this
    simp only [growOK, Bool.or_eq_true, decide_eq_true_eq] at this
    rcases this with c | c
    · omega
    · rw [show s.next + i - s.next = i by omega] at c
      have := h.closed hD k (Array.getElem?_eq_some_iff.mp q1).1 hk i c
      rw [hi] at this; cases this
/-- An operation that has come up, and lets a row grow, is ahead of each other one that does. -/
theorem DF.oneApp (h : DF P Γ ops s effs mk Z E) {D : Nat → Bool} (hD : Closed ops D) {i : Nat} {o : Oper} (ho : ops[i]? = some o) (ha : isApp o = true) (hi : D i = false) {k : Nat} {e : Eff U} {old : Nat} {l : List (Nat × Row U)} (he : effs[k]? = some e) (hu : e.u = .grow old l) (hk : D k = true) : (mk i).testBit k = true := by
  obtain ⟨x, ob, q1, q2, _, _, q5⟩ := h.eff he (h.liveU he hu (fun c => by cases c))
  rw [hu] at q5
  have q5 : isApp x = true := q5.1
  have hne : i ≠ k := fun e => by rw [← e, hi] at hk; cases hk
  have := h.pair i k o x ho q1
  simp only [pairOK, Bool.or_eq_true, beq_iff_eq, hne, false_or, Bool.and_eq_true, q5, ha, Bool.and_self, Bool.not_true, Bool.false_eq_true] at this
  rcases this.2 with c | c
  · have := h.closed hD k (Array.getElem?_eq_some_iff.mp q1).1 hk i c
    rw [hi] at this; cases this
  · exact c
/-- What has come up lets no row grow that an operation makes that has not. -/
theorem DF.disNew (h : DF P Γ ops s effs mk Z E) {D : Nat → Bool} (hD : Closed ops D) {i : Nat} (hi : D i = false) {fid : Nat} (hf : 16 * (s.next + i) ≤ fid ∧ fid < 16 * (s.next + i) + 16) : disB D effs 0 fid = false := by
  cases hh : disB D effs 0 fid with
  | false => rfl
  | true =>
    obtain ⟨k, e, l, h1, h2, h3⟩ := (disB_iff effs 0).mp hh
    rw [Nat.zero_add] at h2
    obtain ⟨x, ob, q1, q2, q3, q4, q5⟩ := h.eff h1 (h.liveU h1 h3 (fun c => by cases c))
    have := q5.2
    rw [h3] at this
    simp only [growOK, Bool.or_eq_true, decide_eq_true_eq] at this
    rcases this with c | c
    · omega
    · rw [show fid / 16 - s.next = i by omega] at c
      have := h.closed hD k (Array.getElem?_eq_some_iff.mp q1).1 h2 i c
      rw [hi] at this; cases this

/-- A temporary that nothing here writes. -/
def Untold (effs : List (Eff U)) (d : Nat) : Prop := ∀ (k : Nat) e, effs[k]? = some e → e.dst ≠ some d
theorem Untold.getD {D : Nat → Bool} {d : Nat} (h : Untold effs d) : (stOf D effs s).tmps.getD d (.pl (.one .junk)) = s.tmps.getD d (.pl (.one .junk)) := by
  simp only [stOf, List.getD_eq_getElem?_getD]
  have := tmpsOf_agree (D := D) (D' := fun _ => false) (j := d) effs 0 s.tmps s.tmps rfl (fun k e he hne => h k e he) rfl
  have hnone : ∀ (l : List (Eff U)) (k : Nat) (t : List TV), tmpsOf (fun _ => false) l k t = t := by
    intro l
    induction l with
    | nil => intro k t; rfl
    | cons e l ih => intro k t; simp only [tmpsOf]; exact ih _ _
  rw [hnone] at this
  rw [this]
theorem guardB_base {D D' : Nat → Bool} (hput : ∀ (k : Nat) e, effs[k]? = some e → putOK s e.dst = true) : ∀ (n d : Nat) (want : Bool), Untold effs d → guardB (stOf D effs s) n d want = guardB (stOf D' effs s) n d want
  | 0, d, want, _ => rfl
  | n + 1, d, want, hd => by
    have hh : (stOf D effs s).tmps.getD d (.pl (.one .junk)) = (stOf D' effs s).tmps.getD d (.pl (.one .junk)) := hd.getD.trans hd.getD.symm
    simp only [guardB]
    rw [hh]
    split
    · rfl
    · rename_i e w b hopt
      rw [hd.getD] at hopt
      have hu : Untold effs e := fun k x hx c => by
        have h1 := hput k x hx
        rw [c] at h1
        have hm : TV.opt e w (.one (.v (.bool b))) ∈ s.tmps := by
          rw [List.getD_eq_getElem?_getD] at hopt
          cases hq : s.tmps[d]? with
          | none => rw [hq] at hopt; cases hopt
          | some z => rw [hq] at hopt; cases hopt; exact List.mem_of_getElem? hq
        have := List.all_eq_true.mp h1 _ hm
        simp [refers] at this
      rw [guardB_base hput n e w hu]
    · rfl
theorem DF.putE (h : DF P Γ ops s effs mk Z E) (k : Nat) (e : Eff U) (he : effs[k]? = some e) : RX.putOK s e.dst = true := by
  cases hE : E k with
  | false => have := h.dum k e he hE; subst this; rfl
  | true =>
    obtain ⟨o, ob, q1, q2, _⟩ := h.eff he hE
    rw [q2]; exact h.bs k o q1 (h.ze k hE)
/-- What an operation ahead writes is told here, or was told before. -/
theorem DF.ahead (h : DF P Γ ops s effs mk Z E) {i : Nat} (hi : i < ops.size) (hE : E i = true) {j d : Nat} (hj : (mk i).testBit j = true) (hd : dstOf ops j = some d) : (∃ e, effs[j]? = some e ∧ e.dst = some d) ∨ Untold effs d := by
  have hjs : j < ops.size := by have := h.bit_lt i hi j hj; omega
  have hdj : ops[j].dst = some d := by
    unfold dstOf at hd
    rw [Array.getElem?_eq_getElem hjs] at hd
    exact hd
  rcases h.ecl i hi hE j hj with c | c
  · obtain ⟨e', ob', r1, r2, _⟩ := h.step j _ (Array.getElem?_eq_getElem hjs) c
    exact .inl ⟨e', r1, by rw [r2]; exact hdj⟩
  · refine .inr fun k e he hk => ?_
    have hEk := h.liveD he hk
    obtain ⟨o, ob, q1, q2, _⟩ := h.eff he hEk
    have hne : j ≠ k := fun q => by subst q; rw [h.ze j hEk] at c; cases c
    have := h.pair j k _ o (Array.getElem?_eq_getElem hjs) q1
    simp only [pairOK, Bool.or_eq_true, beq_iff_eq, hne, false_or, Bool.and_eq_true] at this
    have := this.1.1.1.1
    rw [hdj, ← q2, hk] at this
    simp at this

theorem guardB_up (h : DF P Γ ops s effs mk Z E) {D : Nat → Bool} (hD : Closed ops D) {i : Nat} {o : Oper} (ho : ops[i]? = some o) (hEi : E i = true) (hi : D i = false) (hB : ∀ j, (mk i).testBit j = true → D j = true) :
    ∀ (n d : Nat) (want g : Bool), ((∃ j e, (mk i).testBit j = true ∧ effs[j]? = some e ∧ e.dst = some d) ∨ Untold effs d) → guardB (stOf (mk i).testBit effs s) n d want = some g → guardB (stOf D effs s) n d want = some g
  | 0, d, want, g, _, hg => by cases hg
  | n + 1, d, want, g, .inr hu, hg => by rw [guardB_base h.putE (n + 1) d want hu (D' := (mk i).testBit)]; exact hg
  | n + 1, d, want, g, .inl ⟨j, e, hj, he, hd⟩, hg => by
    have his : i < ops.size := (Array.getElem?_eq_some_iff.mp ho).1
    have hjs : j < ops.size := by rw [← h.len]; exact (List.getElem?_eq_some_iff.mp he).1
    have hEj := h.liveD he hd
    have hsame := h.tmps_agree hD ho hi hB (t := d) (fun k e' he' hk hb => h.dst_ne he he' (fun c => by rw [← c, hj] at hb; cases hb) hd)
    simp only [guardB] at hg ⊢
    rw [hsame]
    split at hg
    · exact hg
    · rename_i e1 w1 b1 hopt
      -- what stands there is what operation j told
      have hv : e.v = .opt e1 w1 (.one (.v (.bool b1))) := by
        by_cases hlt : d < s.tmps.length
        · have := tmpsOf_at (D := (mk i).testBit) (i0 := j) (d := d) effs 0 s.tmps he hd (by rw [Nat.zero_add]; exact hj) (fun k e' he' hne => h.dst_ne he he' (Ne.symm hne) hd) hlt
          simp only [stOf, List.getD_eq_getElem?_getD] at hopt
          rw [this] at hopt
          exact hopt
        · have hl : (stOf (mk i).testBit effs s).tmps.length ≤ d := by simp only [stOf, tmpsOf_length]; omega
          rw [List.getD_eq_getElem?_getD, List.getElem?_eq_none hl] at hopt
          cases hopt
      obtain ⟨x, ob, q1, q2, q3, _, _⟩ := h.eff he hEj
      have fin : ∀ j' want', x.guard = some (j', want') → dstOf ops j' = some e1 → ((∃ j' e', (mk i).testBit j' = true ∧ effs[j']? = some e' ∧ e'.dst = some e1) ∨ Untold effs e1) := fun j' want' hgd hd' => by
        have hgk := h.grd j x q1
        simp only [guardOK, hgd] at hgk
        rcases h.ahead hjs hEj hgk hd' with ⟨e', r1, r2⟩ | c
        · exact .inl ⟨j', e', h.trans i his j j' hj hgk, r1, r2⟩
        · exact .inr c
      have hg2 : (∃ j' e', (mk i).testBit j' = true ∧ effs[j']? = some e' ∧ e'.dst = some e1) ∨ Untold effs e1 := by
        unfold rstepE at q3
        split at q3
        · split at q3
          · simp only [Option.some.injEq, Prod.mk.injEq] at q3
            have := q3.2.1
            rw [hv] at this
            cases this
          · cases q3
        · rename_i j' want' hgd
          split at q3
          · rename_i d' hd'
            split at q3
            · split at q3
              · simp only [Option.some.injEq, Prod.mk.injEq] at q3
                have := q3.2.1
                rw [hv] at this
                cases this
                exact fin j' _ hgd hd'
              · split at q3
                · simp only [Option.some.injEq, Prod.mk.injEq] at q3
                  have := q3.2.1
                  rw [hv] at this
                  cases this
                  exact fin j' _ hgd hd'
                · cases q3
              · cases q3
            · cases q3
          · cases q3
      split at hg
      · rename_i g0 hg0
        rw [guardB_up h hD ho hEi hi hB n e1 w1 g0 hg2 hg0]
        exact hg
      · cases hg
    · cases hg
end
end Go.RX

/- Symbolic runs of Go functions: regions whose order is open do what is told of them, in whatever order. -/
namespace Go.RX
open Go.RowKit
set_option linter.unusedSimpArgs false
set_option linter.unusedVariables false

section
variable {P : Program} {U : Uni} {Γ : Con U} {s : St U} {ops : Array Oper} {w0 w : World} {F0 : Nat → Nat → Prop} {Fr : Nat → Prop} {ν : Nu} {F : Nat → Nat → Prop} {a : Act} {effs : List (Eff U)} {mk : Nat → Nat} {Z E : Nat → Bool}

theorem seen_tmps {s s' : St U} {l : List Nat} (h : TmpsAt s s' l) (d : Nat) (want : Bool) : TmpsAt (seen d want s) (seen d want s') l := by
  intro t ht
  have := h t ht
  simp only [seen, List.getD_eq_getElem?_getD, List.getElem?_map] at this ⊢
  have key : ∀ x : Option TV, (x.map (seenTV d want)).getD (.pl (.one .junk)) = seenTV d want (x.getD (.pl (.one .junk))) := fun x => by cases x <;> rfl
  rw [key, key, this]

theorem touch0_uses {s : St U} {o : Oper} {id : Nat} (h : touch0 s o id = true) : usesHeap o = true := by
  unfold touch0 adrOf at h
  unfold usesHeap
  cases hop : o.op <;> simp [hop] at h ⊢
/-- What a store writes into it looks at. -/
theorem store_touch {s : St U} {kx : Nat} {o : Oper} {ob : Option Prop} {v : TV} {id off : Nat} {cs : List Atom} (h : rstepE P Γ ops s kx o = some (ob, v, .set id off cs)) (hst : isStore o = true) : touch s o id = true := by
  unfold touch
  cases hg : o.guard with
  | some q => rfl
  | none =>
    simp only [rstepE, hg] at h
    split at h
    · rename_i r hr
      simp only [Option.some.injEq, Prod.mk.injEq] at h
      unfold isStore at hst
      split at hst
      · rename_i t x y hop
        simp only [rval, hop] at hr
        split at hr
        · rename_i id' off' cs' n e1 e2 e3
          split at hr
          · rename_i t' old hl
            split at hr
            · cases hr
              have := h.2.2
              cases this
              simp [touch0, adrOf, hop, e1]
            · cases hr
          · cases hr
        · cases hr
      · cases hst
    · cases h
theorem DF.fidsE (h : DF P Γ ops s effs mk Z E) (k : Nat) (e : Eff U) (he : effs[k]? = some e) : fidsOK (s.next + k) e.u = true := by
  cases hE : E k with
  | false => have := h.dum k e he hE; subst this; rfl
  | true => obtain ⟨_, _, _, _, _, q, _⟩ := h.eff he hE; exact q
theorem DF.up (h : DF P Γ ops s effs mk Z E) {D : Nat → Bool} (hD : Closed ops D) {i : Nat} {o : Oper} (ho : ops[i]? = some o) (hEi : E i = true) (hi : D i = false) (hB : ∀ j, (mk i).testBit j = true → D j = true)
    (hfr1 : ∀ k, k < ops.size → look (s.next + k) s.heap = none) (hfr2 : ∀ fid, 16 * s.next ≤ fid → look fid s.rows = none) {r : Option Prop × TV × Upd U} (hr : rstepE P Γ ops (stOf (mk i).testBit effs s) (s.next + i) o = some r) : rstepE P Γ ops (stOf D effs s) (s.next + i) o = some r := by
  have his : i < ops.size := (Array.getElem?_eq_some_iff.mp ho).1
  have ht : TmpsAt (stOf (mk i).testBit effs s) (stOf D effs s) (looksL o.op.operands.toList) := fun t ht => h.tmps_agree hD ho hi hB (fun k e he hk hb => h.apart hD ho hi hk hb he ht)
  have hfids : ∀ (k : Nat) e, effs[k]? = some e → fidsOK (s.next + (0 + k)) e.u = true := fun k e he => by rw [Nat.zero_add]; exact h.fidsE k e he
  have hrows0 : ∀ fid r, look fid (rowsOf (mk i).testBit effs 0 s.rows) = some r → look fid (rowsOf D effs 0 s.rows) = some r := fun fid r hl => by
    rw [← hl]
    refine rowsOf_agree (b := s.next) effs 0 s.rows s.rows rfl hfids (fun k e he hne hx hrange => ?_)
    simp only [Nat.zero_add] at hne hrange
    -- k has come up, and is not ahead of i: its rows are not among those that are looked at
    have hkD : D k = true ∧ (mk i).testBit k = false := by
      cases h1 : D k <;> cases h2 : (mk i).testBit k
      · rw [h1, h2] at hne; exact absurd rfl hne
      · have := hB k h2; rw [h1] at this; cases this
      · exact ⟨rfl, rfl⟩
      · rw [h1, h2] at hne; exact absurd rfl hne
    have : look fid (rowsOf (mk i).testBit effs 0 s.rows) = look fid s.rows := by
      have := rowsOf_agree (b := s.next) (D := (mk i).testBit) (D' := fun _ => false) (fid := fid) effs 0 s.rows s.rows rfl hfids (fun k' e' he' hne' hx' hr' => by
        simp only [Nat.zero_add] at hne' hr'
        have : k' = k := by omega
        subst this
        rw [hkD.2] at hne'
        exact hne' rfl)
      rw [this]
      have hnone : ∀ (l : List (Eff U)) (k : Nat) (h : List (Nat × Row U)), rowsOf (fun _ => false) l k h = h := by
        intro l
        induction l with
        | nil => intro k h; rfl
        | cons e l ih => intro k h; simp only [rowsOf]; exact ih _ _
      rw [hnone]
    rw [this, hfr2 fid (by omega)] at hl
    cases hl
  have hrows : RowsW (stOf (mk i).testBit effs s) (stOf D effs s) := fun fid r hl => by
    simp only [stOf] at hl ⊢
    rw [look_disOf] at hl ⊢
    obtain ⟨r0, h0, h1⟩ := Option.map_eq_some_iff.mp hl
    rw [hrows0 fid r0 h0, Option.map_some]
    have key : ∀ (b : Bool), ∃ o, (if b = true then (⟨r0.c, r0.l, false⟩ : Row U) else r0) = ⟨r0.c, r0.l, o⟩ := fun b => by cases b <;> exact ⟨_, rfl⟩
    obtain ⟨b1, e1⟩ := key (disB (mk i).testBit effs 0 fid)
    obtain ⟨b2, e2⟩ := key (disB D effs 0 fid)
    rw [e1] at h1
    subst h1
    exact ⟨b2, by rw [e2]⟩
  have happ : isApp o = true → RowsUp (stOf (mk i).testBit effs s) (stOf D effs s) := fun ha fid r hl => by
    simp only [stOf] at hl ⊢
    rw [look_disOf] at hl ⊢
    obtain ⟨r0, h0, h1⟩ := Option.map_eq_some_iff.mp hl
    rw [hrows0 fid r0 h0, Option.map_some, ← h1]
    have hsame : disB D effs 0 fid = disB (mk i).testBit effs 0 fid := by
      cases c : disB (mk i).testBit effs 0 fid with
      | true =>
        obtain ⟨k, e, l, q1, q2, q3⟩ := (disB_iff effs 0).mp c
        exact (disB_iff effs 0).mpr ⟨k, e, l, q1, by rw [Nat.zero_add] at q2 ⊢; exact hB k q2, q3⟩
      | false =>
        cases c2 : disB D effs 0 fid with
        | false => rfl
        | true =>
          obtain ⟨k, e, l, q1, q2, q3⟩ := (disB_iff effs 0).mp c2
          rw [Nat.zero_add] at q2
          have := (disB_iff (D := (mk i).testBit) (fid := fid) effs 0).mpr ⟨k, e, l, q1, by rw [Nat.zero_add]; exact h.oneApp hD ho ha hi q1 q3 q2, q3⟩
          rw [c] at this; cases this
    rw [hsame]
  have hheap : ∀ id x, usesHeap o = true → touch (stOf (mk i).testBit effs s) o id = true → look id (stOf (mk i).testBit effs s).heap = some x → look id (stOf D effs s).heap = some x := fun id x hu htc hl => by
    have hsame := h.setsSame hD ho hEi hu hi hB htc
    simp only [stOf] at hl ⊢
    rw [look_setsOf] at hl ⊢
    obtain ⟨x0, hl0, hx⟩ := Option.map_eq_some_iff.mp hl
    have hg : ∀ cs, gOf D effs 0 id cs = gOf (mk i).testBit effs 0 id cs := fun cs => gOf_congr effs 0 cs fun k e off new a b => by rw [Nat.zero_add]; exact hsame k e off new a b
    suffices hbx : look id (boxesOf s.next D effs 0 s.heap) = look id (boxesOf s.next (mk i).testBit effs 0 s.heap) by
      rw [hbx, hl0, Option.map_some, hg, ← hx]
    clear hl hx hg
    have hl := hl0
    clear hl0
    refine boxesOf_agree effs 0 s.heap s.heap rfl (fun k e he hne hb hid => ?_)
    simp only [Nat.zero_add] at hne hid
    have hkD : D k = true ∧ (mk i).testBit k = false := by
      cases h1 : D k <;> cases h2 : (mk i).testBit k
      · rw [h1, h2] at hne; exact absurd rfl hne
      · have := hB k h2; rw [h1] at this; cases this
      · exact ⟨rfl, rfl⟩
      · rw [h1, h2] at hne; exact absurd rfl hne
    have hks : k < ops.size := by rw [← h.len]; exact (List.getElem?_eq_some_iff.mp he).1
    rcases boxesOf_cases (b := s.next) (D := (mk i).testBit) (id := id) effs 0 s.heap with q | ⟨k', e', t, cs, q1, q2, q3, q4⟩
    · rw [q, hid, hfr1 k hks] at hl; cases hl
    · simp only [Nat.zero_add] at q2 q4
      have : k' = k := by omega
      subst this
      rw [hkD.2] at q2; cases q2
  unfold rstepE at hr ⊢
  split at hr
  · rename_i hg
    split at hr
    · rename_i r' hr'
      rw [rval_up (show (stOf D effs s).recs = (stOf (mk i).testBit effs s).recs from rfl) ht (fun id x q => hheap id x (touch0_uses q) (by simpa only [touch, hg] using q)) hrows happ hr']; exact hr
    · cases hr
  · rename_i j want hg
    split at hr
    · rename_i d hd
      have hgk := h.grd i o ho
      simp only [guardOK, hg] at hgk
      have hah : (∃ j e, (mk i).testBit j = true ∧ effs[j]? = some e ∧ e.dst = some d) ∨ Untold effs d := by
        rcases h.ahead his hEi hgk hd with ⟨e', r1, r2⟩ | c
        · exact .inl ⟨j, e', hgk, r1, r2⟩
        · exact .inr c
      split at hr
      · rename_i g hgb hoth
        rw [guardB_up h hD ho hEi hi hB 8 d want g hah hgb, hoth]
        dsimp only
        split at hr
        · rename_i ob v hrv
          rw [rval_up (s := seen d want (stOf (mk i).testBit effs s)) (s' := seen d want (stOf D effs s)) rfl (seen_tmps ht d want) (fun id x q => hheap id x (touch0_uses q) (by simp only [touch, hg])) hrows happ hrv]
          exact hr
        · rename_i ob v l hrv
          rw [rval_up (s := seen d want (stOf (mk i).testBit effs s)) (s' := seen d want (stOf D effs s)) rfl (seen_tmps ht d want) (fun id x q => hheap id x (touch0_uses q) (by simp only [touch, hg])) hrows happ hrv]
          exact hr
        · cases hr
      · cases hr
    · cases hr

theorem DF.putOK (h : DF P Γ ops s effs mk Z E) {D : Nat → Bool} (hD : Closed ops D) {i : Nat} {o : Oper} (ho : ops[i]? = some o) (hEi : E i = true) (hi : D i = false) : putOK (stOf D effs s) o.dst = true := by
  cases hd : o.dst with
  | none => rfl
  | some d =>
    refine List.all_eq_true.mpr fun x hx => ?_
    cases x with
    | pl x => rfl
    | opt e0 w0 z =>
      simp only [refers, Bool.not_eq_true', decide_eq_false_iff_not]
      intro c
      subst c
      -- where it stands there, an operation behind that guard has put it
      obtain ⟨t, ht⟩ := List.getElem?_of_mem hx
      have hts : t < s.tmps.length := by have := (List.getElem?_eq_some_iff.mp ht).1; simpa [stOf, tmpsOf_length] using this
      have hbase := h.bs i o ho (h.ze i hEi)
      have key : ∃ (k : Nat) (e : Eff U), effs[k]? = some e ∧ D k = true ∧ e.dst = some t := by
        apply Classical.byContradiction
        intro hno
        have := tmpsOf_agree (D := D) (D' := fun _ => false) (j := t) effs 0 s.tmps s.tmps rfl (fun k e he hne c => by
          simp only [Nat.zero_add] at hne
          exact hno ⟨k, e, he, by cases hh : D k with | true => rfl | false => rw [hh] at hne; exact absurd rfl hne, c⟩) rfl
        have hnone : ∀ (l : List (Eff U)) (k : Nat) (t : List TV), tmpsOf (fun _ => false) l k t = t := by
          intro l
          induction l with
          | nil => intro k t; rfl
          | cons e l ih => intro k t; simp only [tmpsOf]; exact ih _ _
        rw [hnone] at this
        simp only [stOf] at ht
        rw [this] at ht
        rw [hd] at hbase
        have := List.all_eq_true.mp hbase _ (List.mem_of_getElem? ht)
        simp [refers] at this
      obtain ⟨k, e, he, hk, het⟩ := key
      have hv : e.v = .opt e0 w0 z := by
        have := tmpsOf_at (D := D) (i0 := k) (d := t) effs 0 s.tmps he het (by rw [Nat.zero_add]; exact hk) (fun k' e' he' hne => h.dst_ne he he' (Ne.symm hne) het) hts
        simp only [stOf] at ht
        rw [this] at ht
        exact Option.some.inj ht
      obtain ⟨x, ob, q1, q2, q3, _, _⟩ := h.eff he (h.liveD he het)
      have hgd : guardDst ops x = some e0 := by
        unfold rstepE at q3
        split at q3
        · split at q3
          · simp only [Option.some.injEq, Prod.mk.injEq] at q3
            have := q3.2.1
            rw [hv] at this
            cases this
          · cases q3
        · rename_i j' want' hgd
          split at q3
          · rename_i d' hd'
            split at q3
            · split at q3
              · simp only [Option.some.injEq, Prod.mk.injEq] at q3
                have := q3.2.1
                rw [hv] at this
                cases this
                simp only [guardDst, hgd]; exact hd'
              · split at q3
                · simp only [Option.some.injEq, Prod.mk.injEq] at q3
                  have := q3.2.1
                  rw [hv] at this
                  cases this
                  simp only [guardDst, hgd]; exact hd'
                · cases q3
              · cases q3
            · cases q3
          · cases q3
      have hne : i ≠ k := fun c => by rw [← c, hi] at hk; cases hk
      have := h.pair i k o x ho q1
      simp only [pairOK, Bool.or_eq_true, beq_iff_eq, hne, false_or, Bool.and_eq_true, hd, hgd] at this
      have := this.1.1.2
      simp only [ne_eq, not_true_eq_false, decide_false, Bool.false_eq_true, false_or] at this
      have := h.closed hD k (Array.getElem?_eq_some_iff.mp q1).1 hk i this
      rw [hi] at this; cases this

def addD (D : Nat → Bool) (i : Nat) : Nat → Bool := fun k => if k = i then true else D k

/-- One more has come up. -/
theorem DF.add (h : DF P Γ ops s effs mk Z E) {D : Nat → Bool} (hD : Closed ops D) {i : Nat} {o : Oper} {e : Eff U} (ho : ops[i]? = some o) (hEi : E i = true) (hi : D i = false) (hBi : ∀ j, (mk i).testBit j = true → D j = true) (he : effs[i]? = some e) (hfr2 : ∀ fid, 16 * s.next ≤ fid → look fid s.rows = none) :
    (stOf (addD D i) effs s).tmps = (putT (stOf D effs s).tmps e.dst e.v) ∧ (∀ id, look id (stOf (addD D i) effs s).heap = look id ((stOf D effs s).app (s.next + i) e.u).heap) ∧ (∀ fid, look fid (stOf (addD D i) effs s).rows = look fid ((stOf D effs s).app (s.next + i) e.u).rows) := by
  have hself : addD D i i = true := if_pos rfl
  have hoth : ∀ {k}, addD D i k ≠ D k → k = i := fun {k} hne => by
    unfold addD at hne
    split at hne
    · assumption
    · exact absurd rfl hne
  have hfids : ∀ (k : Nat) e, effs[k]? = some e → fidsOK (s.next + (0 + k)) e.u = true := fun k e he => by rw [Nat.zero_add]; exact h.fidsE k e he
  obtain ⟨x, ob, q1, q2, q3, q4, q5⟩ := h.eff he hEi
  rw [ho] at q1
  cases q1
  refine ⟨?_, ?_, ?_⟩
  · refine List.ext_getElem? fun t => ?_
    simp only [stOf]
    by_cases hd : e.dst = some t
    · by_cases hlt : t < s.tmps.length
      · rw [tmpsOf_at (D := addD D i) (i0 := i) effs 0 s.tmps he hd (by rw [Nat.zero_add]; exact hself) (fun k e' he' hne => h.dst_ne he he' (Ne.symm hne) hd) hlt, hd]
        simp [putT, tmpsOf_length, hlt]
      · rw [List.getElem?_eq_none (by rw [tmpsOf_length]; omega), List.getElem?_eq_none (by rw [putT_length, tmpsOf_length]; omega)]
    · rw [putT_ne hd]
      refine tmpsOf_agree effs 0 s.tmps s.tmps rfl (fun k e' he' hne c => ?_) rfl
      simp only [Nat.zero_add] at hne
      have := hoth hne
      subst this
      rw [he] at he'
      cases he'
      exact hd c
  · intro id
    simp only [stOf]
    have boxes : ∀ id, (∀ t cs, e.u = .box t cs → id ≠ s.next + i) → look id (boxesOf s.next (addD D i) effs 0 s.heap) = look id (boxesOf s.next D effs 0 s.heap) := fun id hne0 =>
      boxesOf_agree effs 0 s.heap s.heap rfl (fun k e' he' hne hb => by
        simp only [Nat.zero_add] at hne ⊢
        have := hoth hne
        subst this
        rw [he] at he'
        cases he'
        obtain ⟨t, cs, hb⟩ := hb
        exact hne0 t cs hb)
    have hDo : ∀ q, q ≠ i → addD D i q = D q := fun q hq => by unfold addD; rw [if_neg hq]
    have gsame : (∀ id off cs, e.u ≠ .set id off cs) → ∀ id cs, gOf (addD D i) effs 0 id cs = gOf D effs 0 id cs := fun hns id cs => gOf_congr effs 0 cs fun k e' off new a b => by
      rw [Nat.zero_add]
      by_cases c : k = i
      · subst c; rw [he] at a; cases a; exact absurd b (hns _ _ _)
      · exact hDo k c
    have plain : (∀ id off cs, e.u ≠ .set id off cs) → (∀ t cs, e.u ≠ .box t cs) → look id (setsOf (addD D i) effs 0 (boxesOf s.next (addD D i) effs 0 s.heap)) = look id (setsOf D effs 0 (boxesOf s.next D effs 0 s.heap)) := fun hns hnb => by
      rw [look_setsOf, look_setsOf, boxes id (fun t cs c => absurd c (hnb t cs))]
      congr 1
      funext x
      rw [gsame hns]
    cases hu : e.u with
    | none => exact plain (fun _ _ _ c => by rw [hu] at c; cases c) (fun _ _ c => by rw [hu] at c; cases c)
    | rows l => exact plain (fun _ _ _ c => by rw [hu] at c; cases c) (fun _ _ c => by rw [hu] at c; cases c)
    | grow old l => exact plain (fun _ _ _ c => by rw [hu] at c; cases c) (fun _ _ c => by rw [hu] at c; cases c)
    | box t cs =>
      have hns : ∀ id off cs, e.u ≠ .set id off cs := fun _ _ _ c => by rw [hu] at c; cases c
      simp only [St.app]
      rw [look_setsOf, look_cons]
      by_cases c : s.next + i = id
      · rw [if_pos c, ← c]
        have := boxesOf_at (b := s.next) (D := addD D i) (i0 := i) effs 0 s.heap he hu (by rw [Nat.zero_add]; exact hself)
        rw [Nat.zero_add] at this
        rw [this, Option.map_some, gsame hns, gOf_none effs 0 cs fun k e' off new a b => by rw [Nat.zero_add]; exact h.setNew hD hi k e' off new a b]
      · rw [if_neg c, look_setsOf, boxes id (fun _ _ _ c' => c c'.symm)]
        congr 1
        funext x
        rw [gsame hns]
    | set id' off cs =>
      have hst : isStore o = true := by rw [hu] at q5; exact q5.1
      have huse : usesHeap o = true := by
        unfold isStore at hst
        unfold usesHeap
        split at hst
        · rename_i e; rw [e]
        · cases hst
      simp only [St.app]
      rw [look_setsOf, look_upd1, look_setsOf, boxes id (fun t cs' c => by rw [hu] at c; cases c)]
      have hlast : ∀ x, gOf (addD D i) effs 0 id x = stepG true e.u id (gOf D effs 0 id x) := fun x => by
        by_cases c : id = id'
        · subst c
          refine gOf_last effs 0 x he (by rw [Nat.zero_add]; exact hi) (by rw [Nat.zero_add]; exact hself) (fun q hq => hDo q (by omega)) (fun k e' off'' new a b hlt => ?_)
          rw [Nat.zero_add]
          cases hk : D k with
          | false => rfl
          | true =>
            have := h.setsSame hD ho hEi huse hi hBi (id := id) (store_touch (by rw [← hu]; exact q3) hst) k e' off'' new a b
            rw [hk] at this
            have := h.bit_lt i (Array.getElem?_eq_some_iff.mp ho).1 k this.symm
            omega
        · rw [hu]
          have : stepG true (Upd.set id' off cs : Upd U) id (gOf D effs 0 id x) = gOf D effs 0 id x := by simp [stepG, c]
          rw [this]
          refine gOf_congr effs 0 x fun k e' off'' new a b => ?_
          rw [Nat.zero_add]
          by_cases c2 : k = i
          · subst c2
            rw [he] at a
            cases a
            rw [hu] at b
            cases b
            exact absurd rfl c
          · exact hDo k c2
      cases look id (boxesOf s.next D effs 0 s.heap) with
      | none => by_cases c : id = id' <;> simp [c]
      | some x =>
        simp only [Option.map_some]
        rw [hlast, hu]
        by_cases c : id = id' <;> simp [stepG, c]
  · intro fid
    simp only [stOf]
    have agree : (∀ l, rowsIn e.u = some l → ¬ (16 * (s.next + i) ≤ fid ∧ fid < 16 * (s.next + i) + 16)) → look fid (rowsOf (addD D i) effs 0 s.rows) = look fid (rowsOf D effs 0 s.rows) := fun hr =>
      rowsOf_agree (b := s.next) effs 0 s.rows s.rows rfl hfids (fun k e' he' hne hx => by
        simp only [Nat.zero_add] at hne ⊢
        have := hoth hne
        subst this
        rw [he] at he'
        cases he'
        obtain ⟨l, hl⟩ := hx
        exact hr l hl)
    have made : ∀ l, rowsIn e.u = some l → look fid (rowsOf (addD D i) effs 0 s.rows) = look fid (l ++ rowsOf D effs 0 s.rows) := fun l hu => by
      by_cases hr : 16 * (s.next + i) ≤ fid ∧ fid < 16 * (s.next + i) + 16
      · rw [rowsOf_at (b := s.next) effs 0 s.rows he hu (by rw [Nat.zero_add]; exact hself) hfids (by rw [Nat.zero_add]; exact hr)]
        rw [look_append, look_append]
        have : look fid (rowsOf D effs 0 s.rows) = look fid s.rows := by
          have := rowsOf_agree (b := s.next) (D := D) (D' := fun _ => false) (fid := fid) effs 0 s.rows s.rows rfl hfids (fun k' e' he' hne' hx' hr' => by
            simp only [Nat.zero_add] at hne' hr'
            have : k' = i := by omega
            subst this
            rw [hi] at hne'
            exact hne' rfl)
          rw [this]
          have hnone : ∀ (l : List (Eff U)) (k : Nat) (h : List (Nat × Row U)), rowsOf (fun _ => false) l k h = h := by
            intro l
            induction l with
            | nil => intro k h; rfl
            | cons e l ih => intro k h; simp only [rowsOf]; exact ih _ _
          rw [hnone]
        rw [this]
      · rw [fidsOK_look hu q4 hr]
        exact agree (fun l' hl' => hr)
    have disI : (∀ old l, e.u ≠ .grow old l) → disB (addD D i) effs 0 fid = disB D effs 0 fid := fun hng => by
      cases c : disB D effs 0 fid with
      | true =>
        obtain ⟨k, e', l, p1, p2, p3⟩ := (disB_iff effs 0).mp c
        refine (disB_iff effs 0).mpr ⟨k, e', l, p1, ?_, p3⟩
        rw [Nat.zero_add] at p2 ⊢
        unfold addD; split
        · rfl
        · exact p2
      | false =>
        cases c2 : disB (addD D i) effs 0 fid with
        | false => rfl
        | true =>
          obtain ⟨k, e', l, p1, p2, p3⟩ := (disB_iff effs 0).mp c2
          rw [Nat.zero_add] at p2
          have hk : D k = true := by
            unfold addD at p2
            split at p2
            · rename_i ck; subst ck; rw [he] at p1; cases p1; exact absurd p3 (hng _ _)
            · exact p2
          have := (disB_iff (D := D) (fid := fid) effs 0).mpr ⟨k, e', l, p1, by rw [Nat.zero_add]; exact hk, p3⟩
          rw [c] at this; cases this
    have inl : ∀ {l : List (Nat × Row U)} {r : Row U}, rowsIn e.u = some l → look fid l = some r → 16 * (s.next + i) ≤ fid ∧ fid < 16 * (s.next + i) + 16 := fun {l r} hu hl => by
      apply Classical.byContradiction
      intro hr
      have := fidsOK_look hu q4 hr []
      rw [List.append_nil, hl] at this
      cases this
    rw [look_disOf]
    cases hu : e.u with
    | none => rw [disI (fun _ _ c => by rw [hu] at c; cases c), agree (fun l' hl' => by rw [hu] at hl'; cases hl')]; exact (look_disOf ..).symm
    | box t cs => rw [disI (fun _ _ c => by rw [hu] at c; cases c), agree (fun l' hl' => by rw [hu] at hl'; cases hl')]; exact (look_disOf ..).symm
    | set id' off cs => rw [disI (fun _ _ c => by rw [hu] at c; cases c), agree (fun l' hl' => by rw [hu] at hl'; cases hl')]; exact (look_disOf ..).symm
    | rows l =>
      have hin : rowsIn e.u = some l := by rw [hu]; rfl
      rw [disI (fun _ _ c => by rw [hu] at c; cases c), made l hin]
      simp only [St.app]
      rw [look_append, look_append, look_disOf]
      cases hl : look fid l with
      | some r => simp only [Option.map_some, h.disNew hD hi (inl hin hl), Bool.false_eq_true, if_false]
      | none => rfl
    | grow old l =>
      have hin : rowsIn e.u = some l := by rw [hu]; rfl
      have happ := q5.1
      rw [hu] at happ
      have hadd : ∀ fid, disB (addD D i) effs 0 fid = (decide (fid = old) || disB D effs 0 fid) := fun fid => by
        rw [Bool.eq_iff_iff, Bool.or_eq_true, decide_eq_true_eq, disB_iff, disB_iff]
        constructor
        · rintro ⟨k, e', l', p1, p2, p3⟩
          rw [Nat.zero_add] at p2
          unfold addD at p2
          split at p2
          · rename_i ck; subst ck; rw [he] at p1; cases p1; rw [hu] at p3; cases p3; exact .inl rfl
          · exact .inr ⟨k, e', l', p1, by rw [Nat.zero_add]; exact p2, p3⟩
        · rintro (rfl | ⟨k, e', l', p1, p2, p3⟩)
          · exact ⟨i, e, l, he, by rw [Nat.zero_add]; exact hself, hu⟩
          · rw [Nat.zero_add] at p2
            exact ⟨k, e', l', p1, by rw [Nat.zero_add]; unfold addD; split; rfl; exact p2, p3⟩
      rw [hadd, made l hin]
      simp only [St.app]
      rw [look_append, look_append, look_disown, look_disOf]
      cases hl : look fid l with
      | some r =>
        have hr := inl hin hl
        have hold : fid ≠ old := fun c => by
          have := q5.2
          rw [hu] at this
          simp only [growOK, Bool.or_eq_true, decide_eq_true_eq] at this
          rcases this with q | q
          · omega
          · rw [show old / 16 - s.next = i by omega] at q
            have := h.bit_lt i (Array.getElem?_eq_some_iff.mp ho).1 i q; omega
        simp only [Option.map_some, h.disNew hD hi hr, hold, decide_false, Bool.or_self, Bool.false_eq_true, if_false]
      | none =>
        simp only
        cases look fid (rowsOf D effs 0 s.rows) with
        | none => rfl
        | some r =>
          simp only [Option.map_some, Bool.or_eq_true, decide_eq_true_eq]
          by_cases c : fid = old
          · rw [if_pos (Or.inl c), if_pos c]
            have key : ∀ (b : Bool), (⟨r.c, r.l, false⟩ : Row U) = ⟨(if b = true then (⟨r.c, r.l, false⟩ : Row U) else r).c, (if b = true then (⟨r.c, r.l, false⟩ : Row U) else r).l, false⟩ := fun b => by cases b <;> rfl
            exact congrArg some (key _)
          · simp only [c, false_or, if_false]
end
end Go.RX

/- Symbolic runs of Go functions: a region whose order is open, as a text. -/
namespace Go.RX
open Go.RowKit
set_option linter.unusedSimpArgs false
set_option linter.unusedVariables false

section
variable {P : Program} {U : Uni} {Γ : Con U} {s : St U} {ops : Array Oper} {w0 w : World} {F0 : Nat → Nat → Prop} {Fr : Nat → Prop} {ν : Nu} {F : Nat → Nat → Prop} {a : Act} {effs : List (Eff U)} {mk : Nat → Nat} {Z E : Nat → Bool}

theorem tmpsOf_false {D : Nat → Bool} : ∀ (l : List (Eff U)) (k : Nat) (t : List TV), (∀ i, i < l.length → D (k + i) = false) → tmpsOf D l k t = t
  | [], k, t, _ => rfl
  | e :: l, k, t, h => by
    have h0 := h 0 (by simp)
    simp only [Nat.add_zero] at h0
    simp only [tmpsOf, h0]
    exact tmpsOf_false l (k + 1) t (fun i hi => by have := h (i + 1) (by simpa using hi); rw [show k + 1 + i = k + (i + 1) by omega]; exact this)
theorem boxesOf_false {b : Nat} {D : Nat → Bool} : ∀ (l : List (Eff U)) (k : Nat) (t : List (Nat × TypeId × List Atom)), (∀ i, i < l.length → D (k + i) = false) → boxesOf b D l k t = t
  | [], k, t, _ => rfl
  | e :: l, k, t, h => by
    have h0 := h 0 (by simp)
    simp only [Nat.add_zero] at h0
    simp only [boxesOf, h0]
    exact boxesOf_false l (k + 1) t (fun i hi => by have := h (i + 1) (by simpa using hi); rw [show k + 1 + i = k + (i + 1) by omega]; exact this)
theorem rowsOf_false {D : Nat → Bool} : ∀ (l : List (Eff U)) (k : Nat) (t : List (Nat × Row U)), (∀ i, i < l.length → D (k + i) = false) → rowsOf D l k t = t
  | [], k, t, _ => rfl
  | e :: l, k, t, h => by
    have h0 := h 0 (by simp)
    simp only [Nat.add_zero] at h0
    simp only [rowsOf, h0, rowStep]
    exact rowsOf_false l (k + 1) t (fun i hi => by have := h (i + 1) (by simpa using hi); rw [show k + 1 + i = k + (i + 1) by omega]; exact this)
theorem disOf_false {D : Nat → Bool} : ∀ (l : List (Eff U)) (k : Nat) (t : List (Nat × Row U)), (∀ i, i < l.length → D (k + i) = false) → disOf D l k t = t
  | [], k, t, _ => rfl
  | e :: l, k, t, h => by
    have h0 := h 0 (by simp)
    simp only [Nat.add_zero] at h0
    simp only [disOf, h0, disStep]
    exact disOf_false l (k + 1) t (fun i hi => by have := h (i + 1) (by simpa using hi); rw [show k + 1 + i = k + (i + 1) by omega]; exact this)
theorem disOf_append {D : Nat → Bool} : ∀ (l l' : List (Eff U)) (k : Nat) (t : List (Nat × Row U)), disOf D (l ++ l') k t = disOf D l' (k + l.length) (disOf D l k t)
  | [], l', k, t => rfl
  | e :: l, l', k, t => by simp only [List.cons_append, disOf, List.length_cons]; rw [disOf_append l l' (k + 1), show k + 1 + l.length = k + (l.length + 1) by omega]
theorem setsOf_false {D : Nat → Bool} (l : List (Eff U)) (k : Nat) (t : List (Nat × TypeId × List Atom)) (h : ∀ i, i < l.length → D (k + i) = false) : setsOf D l k t = t :=
  setsOf_none l k t (fun i e id off cs he _ => h i (List.getElem?_eq_some_iff.mp he).1)
theorem tmpsOf_append {D : Nat → Bool} : ∀ (l l' : List (Eff U)) (k : Nat) (t : List TV), tmpsOf D (l ++ l') k t = tmpsOf D l' (k + l.length) (tmpsOf D l k t)
  | [], l', k, t => rfl
  | e :: l, l', k, t => by simp only [List.cons_append, tmpsOf, List.length_cons]; rw [tmpsOf_append l l' (k + 1), show k + 1 + l.length = k + (l.length + 1) by omega]
theorem boxesOf_append {b : Nat} {D : Nat → Bool} : ∀ (l l' : List (Eff U)) (k : Nat) (t : List (Nat × TypeId × List Atom)), boxesOf b D (l ++ l') k t = boxesOf b D l' (k + l.length) (boxesOf b D l k t)
  | [], l', k, t => rfl
  | e :: l, l', k, t => by simp only [List.cons_append, boxesOf, List.length_cons]; rw [boxesOf_append l l' (k + 1), show k + 1 + l.length = k + (l.length + 1) by omega]
theorem setsOf_append {D : Nat → Bool} : ∀ (l l' : List (Eff U)) (k : Nat) (t : List (Nat × TypeId × List Atom)), setsOf D (l ++ l') k t = setsOf D l' (k + l.length) (setsOf D l k t)
  | [], l', k, t => rfl
  | e :: l, l', k, t => by simp only [List.cons_append, setsOf, List.length_cons]; rw [setsOf_append l l' (k + 1), show k + 1 + l.length = k + (l.length + 1) by omega]
theorem rowsOf_append {D : Nat → Bool} : ∀ (l l' : List (Eff U)) (k : Nat) (t : List (Nat × Row U)), rowsOf D (l ++ l') k t = rowsOf D l' (k + l.length) (rowsOf D l k t)
  | [], l', k, t => rfl
  | e :: l, l', k, t => by simp only [List.cons_append, rowsOf, List.length_cons]; rw [rowsOf_append l l' (k + 1), show k + 1 + l.length = k + (l.length + 1) by omega]
theorem stOf_prefix {D : Nat → Bool} (l l' : List (Eff U)) (h : ∀ k, l.length ≤ k → D k = false) : stOf D (l ++ l') s = stOf D l s := by
  have h' : ∀ i, i < l'.length → D (0 + l.length + i) = false := fun i _ => h _ (by omega)
  simp only [stOf]
  rw [tmpsOf_append, boxesOf_append, setsOf_append, rowsOf_append, tmpsOf_false l' _ _ h', boxesOf_false l' _ _ h', setsOf_false l' _ _ h', rowsOf_false l' _ _ h', disOf_append, disOf_false l' _ _ h']

theorem tmpsOf_congr {D D' : Nat → Bool} : ∀ (l : List (Eff U)) (k : Nat) (t : List TV), (∀ i, i < l.length → D (k + i) = D' (k + i)) → tmpsOf D l k t = tmpsOf D' l k t
  | [], k, t, _ => rfl
  | e :: l, k, t, h => by
    have h0 := h 0 (by simp)
    simp only [Nat.add_zero] at h0
    simp only [tmpsOf, h0]
    exact tmpsOf_congr l (k + 1) _ (fun i hi => by have := h (i + 1) (by simpa using hi); rw [show k + 1 + i = k + (i + 1) by omega]; exact this)
theorem boxesOf_congr {b : Nat} {D D' : Nat → Bool} : ∀ (l : List (Eff U)) (k : Nat) (t : List (Nat × TypeId × List Atom)), (∀ i, i < l.length → D (k + i) = D' (k + i)) → boxesOf b D l k t = boxesOf b D' l k t
  | [], k, t, _ => rfl
  | e :: l, k, t, h => by
    have h0 := h 0 (by simp)
    simp only [Nat.add_zero] at h0
    simp only [boxesOf, h0]
    exact boxesOf_congr l (k + 1) _ (fun i hi => by have := h (i + 1) (by simpa using hi); rw [show k + 1 + i = k + (i + 1) by omega]; exact this)
theorem setsOf_congr {D D' : Nat → Bool} : ∀ (l : List (Eff U)) (k : Nat) (t : List (Nat × TypeId × List Atom)), (∀ i, i < l.length → D (k + i) = D' (k + i)) → setsOf D l k t = setsOf D' l k t
  | [], k, t, _ => rfl
  | e :: l, k, t, h => by
    have h0 := h 0 (by simp)
    simp only [Nat.add_zero] at h0
    simp only [setsOf, h0]
    exact setsOf_congr l (k + 1) _ (fun i hi => by have := h (i + 1) (by simpa using hi); rw [show k + 1 + i = k + (i + 1) by omega]; exact this)
theorem rowsOf_congr {D D' : Nat → Bool} : ∀ (l : List (Eff U)) (k : Nat) (t : List (Nat × Row U)), (∀ i, i < l.length → D (k + i) = D' (k + i)) → rowsOf D l k t = rowsOf D' l k t
  | [], k, t, _ => rfl
  | e :: l, k, t, h => by
    have h0 := h 0 (by simp)
    simp only [Nat.add_zero] at h0
    simp only [rowsOf, h0]
    exact rowsOf_congr l (k + 1) _ (fun i hi => by have := h (i + 1) (by simpa using hi); rw [show k + 1 + i = k + (i + 1) by omega]; exact this)
theorem disOf_congr {D D' : Nat → Bool} : ∀ (l : List (Eff U)) (k : Nat) (t : List (Nat × Row U)), (∀ i, i < l.length → D (k + i) = D' (k + i)) → disOf D l k t = disOf D' l k t
  | [], k, t, _ => rfl
  | e :: l, k, t, h => by
    have h0 := h 0 (by simp)
    simp only [Nat.add_zero] at h0
    simp only [disOf, h0]
    exact disOf_congr l (k + 1) _ (fun i hi => by have := h (i + 1) (by simpa using hi); rw [show k + 1 + i = k + (i + 1) by omega]; exact this)
theorem stOf_congr {D D' : Nat → Bool} (h : ∀ i, i < effs.length → D i = D' i) : stOf D effs s = stOf D' effs s := by
  have h' : ∀ i, i < effs.length → D (0 + i) = D' (0 + i) := fun i hi => by rw [Nat.zero_add]; exact h i hi
  simp only [stOf]
  rw [tmpsOf_congr effs 0 _ h', boxesOf_congr effs 0 _ h', setsOf_congr effs 0 _ h', rowsOf_congr effs 0 _ h', disOf_congr effs 0 _ h']

theorem heapPair_spec {ms : List Nat} {full : List (Eff U)} {i : Nat} {o : Oper} : ∀ {l : List (Eff U)} {k0 : Nat}, heapPair s ms full i o l k0 = true → ∀ (k : Nat) e id off cs, l[k]? = some e → e.u = .set id off cs →
    i = k0 + k ∨ (ms.getD (k0 + k) 0).testBit i = true ∨ (ms.getD i 0).testBit (k0 + k) = true ∨ touch (stOf (ms.getD i 0).testBit full s) o id = false
  | [], k0, h, k, e, id, off, cs, he, hs => by simp at he
  | x :: l, k0, h, k, e, id, off, cs, he, hs => by
    simp only [heapPair, Bool.and_eq_true] at h
    cases k with
    | zero =>
      simp at he
      subst he
      have := h.1
      rw [hs] at this
      simp only [Bool.or_eq_true, beq_iff_eq, Bool.not_eq_true'] at this
      rcases this with ((c | c) | c) | c
      · exact .inl c
      · exact .inr (.inl c)
      · exact .inr (.inr (.inl c))
      · exact .inr (.inr (.inr c))
    | succ k =>
      have := heapPair_spec h.2 k e id off cs (by simpa using he) hs
      rw [show k0 + 1 + k = k0 + (k + 1) by omega] at this
      exact this
theorem heapOK_at {E : Nat → Bool} {ms : List Nat} {full : List (Eff U)} : ∀ {l : List Oper} {i0 : Nat}, heapOK E s ms full l i0 = true → ∀ (i : Nat) o, l[i]? = some o → E (i0 + i) = true → usesHeap o = true → heapPair s ms full (i0 + i) o full 0 = true
  | [], i0, h, i, o, ho, _, hu => by simp at ho
  | x :: l, i0, h, i, o, ho, hE, hu => by
    simp only [heapOK, Bool.and_eq_true] at h
    cases i with
    | zero =>
      simp at ho
      subst ho
      have := h.1
      rw [Nat.add_zero] at hE
      rw [hu, hE] at this
      simpa using this
    | succ i =>
      have := heapOK_at h.2 i o (by simpa using ho) (by rw [show i0 + 1 + i = i0 + (i + 1) by omega]; exact hE) hu
      rw [show i0 + 1 + i = i0 + (i + 1) by omega] at this
      exact this
theorem heapOK_spec {E : Nat → Bool} {ms : List Nat} {full : List (Eff U)} {l : List Oper} (h : heapOK E s ms full l 0 = true) (i : Nat) (o : Oper) (ho : l[i]? = some o) (hE : E i = true) (hu : usesHeap o = true) (k : Nat) (e : Eff U) (id off : Nat) (cs : List Atom) (he : full[k]? = some e) (hs : e.u = .set id off cs) :
    i = k ∨ (ms.getD k 0).testBit i = true ∨ (ms.getD i 0).testBit k = true ∨ touch (stOf (ms.getD i 0).testBit full s) o id = false := by
  have := heapOK_at h i o ho (by rw [Nat.zero_add]; exact hE) hu
  rw [Nat.zero_add] at this
  have := heapPair_spec this k e id off cs he hs
  rwa [Nat.zero_add] at this
theorem boxesOf_congrU {b : Nat} {D D' : Nat → Bool} : ∀ (l : List (Eff U)) (k : Nat) (t : List (Nat × TypeId × List Atom)), (∀ (i : Nat) e, l[i]? = some e → D (k + i) ≠ D' (k + i) → e.u = .none) → boxesOf b D l k t = boxesOf b D' l k t
  | [], k, t, _ => rfl
  | e :: l, k, t, h => by
    have h0 := h 0 e rfl
    simp only [Nat.add_zero] at h0
    have ih := fun t => boxesOf_congrU (b := b) l (k + 1) t (fun i e he hne => h (i + 1) e (by simpa using he) (by rw [show k + (i + 1) = k + 1 + i by omega]; exact hne))
    simp only [boxesOf]
    by_cases c : D k = D' k
    · rw [c]; exact ih _
    · rw [h0 c]; cases D k <;> cases D' k <;> exact ih _
theorem setsOf_congrU {D D' : Nat → Bool} : ∀ (l : List (Eff U)) (k : Nat) (t : List (Nat × TypeId × List Atom)), (∀ (i : Nat) e, l[i]? = some e → D (k + i) ≠ D' (k + i) → e.u = .none) → setsOf D l k t = setsOf D' l k t
  | [], k, t, _ => rfl
  | e :: l, k, t, h => by
    have h0 := h 0 e rfl
    simp only [Nat.add_zero] at h0
    have ih := fun t => setsOf_congrU l (k + 1) t (fun i e he hne => h (i + 1) e (by simpa using he) (by rw [show k + (i + 1) = k + 1 + i by omega]; exact hne))
    simp only [setsOf, setStep]
    by_cases c : D k = D' k
    · rw [c]; exact ih _
    · rw [h0 c]; cases D k <;> cases D' k <;> exact ih _
theorem rowsOf_congrU {D D' : Nat → Bool} : ∀ (l : List (Eff U)) (k : Nat) (t : List (Nat × Row U)), (∀ (i : Nat) e, l[i]? = some e → D (k + i) ≠ D' (k + i) → e.u = .none) → rowsOf D l k t = rowsOf D' l k t
  | [], k, t, _ => rfl
  | e :: l, k, t, h => by
    have h0 := h 0 e rfl
    simp only [Nat.add_zero] at h0
    have ih := fun t => rowsOf_congrU l (k + 1) t (fun i e he hne => h (i + 1) e (by simpa using he) (by rw [show k + (i + 1) = k + 1 + i by omega]; exact hne))
    simp only [rowsOf, rowStep]
    by_cases c : D k = D' k
    · rw [c]; exact ih _
    · rw [h0 c]; cases D k <;> cases D' k <;> exact ih _
theorem disOf_congrU {D D' : Nat → Bool} : ∀ (l : List (Eff U)) (k : Nat) (t : List (Nat × Row U)), (∀ (i : Nat) e, l[i]? = some e → D (k + i) ≠ D' (k + i) → e.u = .none) → disOf D l k t = disOf D' l k t
  | [], k, t, _ => rfl
  | e :: l, k, t, h => by
    have h0 := h 0 e rfl
    simp only [Nat.add_zero] at h0
    have ih := fun t => disOf_congrU l (k + 1) t (fun i e he hne => h (i + 1) e (by simpa using he) (by rw [show k + (i + 1) = k + 1 + i by omega]; exact hne))
    simp only [disOf, disStep]
    by_cases c : D k = D' k
    · rw [c]; exact ih _
    · rw [h0 c]; cases D k <;> cases D' k <;> exact ih _
/-- What has no effect on blocks and rows is told of temporaries alone. -/
theorem stOf_congrU {D D' : Nat → Bool} (effs : List (Eff U)) (h : ∀ (k : Nat) e, effs[k]? = some e → D k ≠ D' k → e.u = .none) : (stOf D effs s).heap = (stOf D' effs s).heap ∧ (stOf D effs s).rows = (stOf D' effs s).rows := by
  have h' : ∀ (i : Nat) e, effs[i]? = some e → D (0 + i) ≠ D' (0 + i) → e.u = .none := fun i e he hne => by rw [Nat.zero_add] at hne; exact h i e he hne
  constructor
  · simp only [stOf]; rw [boxesOf_congrU effs 0 _ h', setsOf_congrU effs 0 _ h']
  · simp only [stOf]; rw [rowsOf_congrU effs 0 _ h', disOf_congrU effs 0 _ h']
theorem stOf_none (effs : List (Eff U)) : stOf (fun _ => false) effs s = s := by
  simp only [stOf]
  rw [tmpsOf_false _ _ _ (fun _ _ => rfl), boxesOf_false _ _ _ (fun _ _ => rfl), setsOf_false _ _ _ (fun _ _ => rfl), rowsOf_false _ _ _ (fun _ _ => rfl), disOf_false _ _ _ (fun _ _ => rfl)]

theorem runDraw_facts {E : Nat → Bool} {all : List Nat} {K : List (Eff U) → Prop} : ∀ (l : List Oper) (ms : List Nat) (i : Nat) (pre : List (Eff U)), runDraw P Γ ops s E all l ms i pre K → pre.length = i → (∀ (j m : Nat), ms[j]? = some m → ∀ b, m.testBit b = true → b < i + j) →
    ∃ full : List (Eff U), (∃ rest, full = pre ++ rest ∧ rest.length = l.length) ∧ heapOK E s all full ops.toList 0 = true ∧ K full ∧
      ∀ (j : Nat) o m, l[j]? = some o → ms[j]? = some m → (E (i + j) = true → ∃ e ob, full[i + j]? = some e ∧ e.dst = o.dst ∧ rstepE P Γ ops (stOf m.testBit full s) (s.next + (i + j)) o = some (ob, e.v, e.u) ∧ obOK ob ∧ fidsOK (s.next + (i + j)) e.u = true ∧ updOK o e.u = true ∧ growOK s.next m e.u = true) ∧ (E (i + j) = false → full[i + j]? = some dumE)
  | [], ms, i, pre, h, hp, hm => by
    have h : (match heapOK E s all pre ops.toList 0 with
      | true => K pre
      | false => False) := by cases ms <;> exact h
    split at h
    · rename_i hk
      exact ⟨pre, ⟨[], by simp, rfl⟩, hk, h, fun j o m e => by simp at e⟩
    · exact h.elim
  | o :: l, [], i, pre, h, hp, hm => (show False from h).elim
  | o :: l, m :: ms, i, pre, h, hp, hm => by
    simp only [runDraw] at h
    cases hE : E i with
    | false =>
      rw [hE] at h
      obtain ⟨full, ⟨rest, f1, f2⟩, f0, f3, f4⟩ := runDraw_facts l ms (i + 1) (pre ++ [dumE]) h (by simp [hp]) (fun j m' e b hb => by have := hm (j + 1) m' (by simpa using e) b hb; omega)
      refine ⟨full, ⟨dumE :: rest, by rw [f1]; simp, by simp [f2]⟩, f0, f3, fun j o' m' e1 e2 => ?_⟩
      cases j with
      | zero =>
        refine ⟨fun c => (by rw [Nat.add_zero, hE] at c; cases c), fun _ => ?_⟩
        rw [f1, List.append_assoc, Nat.add_zero, ← hp]; simp
      | succ j =>
        have := f4 j o' m' (by simpa using e1) (by simpa using e2)
        rw [show i + 1 + j = i + (j + 1) by omega] at this
        exact this
    | true =>
    rw [hE] at h
    dsimp only at h
    split at h
    · rename_i ob v u hr
      split at h
      · rename_i hok
        simp only [Bool.and_eq_true] at hok
        obtain ⟨full, ⟨rest, f1, f2⟩, f0, f3, f4⟩ := runDraw_facts l ms (i + 1) (pre ++ [⟨o.dst, v, u⟩]) (andP_right h) (by simp [hp]) (fun j m' e b hb => by have := hm (j + 1) m' (by simpa using e) b hb; omega)
        refine ⟨full, ⟨⟨o.dst, v, u⟩ :: rest, by rw [f1]; simp, by simp [f2]⟩, f0, f3, fun j o' m' e1 e2 => ?_⟩
        cases j with
        | zero =>
          simp at e1 e2
          subst e1; subst e2
          refine ⟨fun _ => ⟨⟨o.dst, v, u⟩, ob, ?_, rfl, ?_, andP_left h, hok.1.1.1, hok.1.1.2, hok.1.2⟩, fun c => (by rw [Nat.add_zero, hE] at c; cases c)⟩
          · rw [f1, List.append_assoc, Nat.add_zero, ← hp]; simp
          · have : full = pre ++ (⟨o.dst, v, u⟩ :: rest) := by rw [f1]; simp
            rw [this, stOf_prefix pre _ (fun k hk => ?_)]
            · exact hr
            · cases hb : m.testBit k with
              | false => rfl
              | true => have := hm 0 m rfl k hb; omega
        | succ j =>
          have := f4 j o' m' (by simpa using e1) (by simpa using e2)
          rw [show i + 1 + j = i + (j + 1) by omega] at this
          exact this
      · exact h.elim
    · exact h.elim

/-! ### Whatever the order -/
def cnt (D : Nat → Bool) : Nat → Nat
  | 0 => 0
  | n + 1 => cnt D n + (match D n with | true => 0 | false => 1)
theorem cnt_add {D : Nat → Bool} {i : Nat} (hi : D i = false) : ∀ n, (i < n → cnt (addD D i) n + 1 = cnt D n) ∧ (n ≤ i → cnt (addD D i) n = cnt D n)
  | 0 => ⟨fun h => by omega, fun _ => rfl⟩
  | n + 1 => by
    obtain ⟨h1, h2⟩ := cnt_add hi n
    simp only [cnt]
    refine ⟨fun h => ?_, fun h => ?_⟩
    · by_cases c : n = i
      · subst c
        have : addD D n n = true := if_pos rfl
        rw [this, hi, h2 (Nat.le_refl _)]
        rfl
      · have : addD D i n = D n := if_neg c
        rw [this]
        have := h1 (by omega)
        omega
    · have : addD D i n = D n := if_neg (by omega)
      rw [this, h2 (by omega)]
theorem cnt_zero {D : Nat → Bool} : ∀ n, cnt D n = 0 → ∀ i, i < n → D i = true
  | 0, h, i, hi => by omega
  | n + 1, h, i, hi => by
    simp only [cnt] at h
    by_cases c : i = n
    · subst c
      cases hh : D i with
      | true => rfl
      | false => rw [hh] at h; simp at h
    · exact cnt_zero n (by omega) i (by omega)

/-- What is known of a region's order. -/
structure DStat (ops : Array Oper) (ms : List Nat) : Prop where
  len : ms.length = ops.size
  bit : ∀ (i : Nat) o, ops[i]? = some o → ∀ j, (ms.getD i 0).testBit j = true ↔ ∃ e ∈ o.after, Region.binds .any e = true ∧ (e.on = j ∨ (ms.getD e.on 0).testBit j = true)
  lt : ∀ (i : Nat) o, ops[i]? = some o → ∀ e ∈ o.after, Region.binds .any e = true → e.on < i
  blt : ∀ (i : Nat), i < ops.size → ∀ j, (ms.getD i 0).testBit j = true → j < i
  pair : ∀ (i k : Nat) x y, ops[i]? = some x → ops[k]? = some y → pairOK ops i (ms.getD i 0) x k (ms.getD k 0) y = true
  grd : ∀ (i : Nat) x, ops[i]? = some x → guardOK x (ms.getD i 0) = true
theorem DStat.trans {ms : List Nat} (h : DStat ops ms) : ∀ (i : Nat), i < ops.size → ∀ j l, (ms.getD i 0).testBit j = true → (ms.getD j 0).testBit l = true → (ms.getD i 0).testBit l = true := by
  intro i
  induction i using Nat.strongRecOn with
  | _ i ih =>
    intro hi j l hj hl
    obtain ⟨e, he, hb, hc⟩ := (h.bit i _ (Array.getElem?_eq_getElem hi) j).mp hj
    have hlt := h.lt i _ (Array.getElem?_eq_getElem hi) e he hb
    refine (h.bit i _ (Array.getElem?_eq_getElem hi) l).mpr ⟨e, he, hb, .inr ?_⟩
    rcases hc with rfl | hc
    · exact hl
    · exact ih e.on hlt (by omega) j l hc hl
theorem drawOK_stat (hd : drawOK ops (masksOf ops.toList []) = true) : DStat ops (masksOf ops.toList []) := by
  simp only [drawOK, Bool.and_eq_true] at hd
  obtain ⟨hed, hpr⟩ := hd
  obtain ⟨m1, m2, m3⟩ := masksOf_spec ops.toList []
  simp only [List.length_nil, Nat.zero_add, Array.length_toList] at m1 m3
  have hM : ∀ (i : Nat), i < ops.size → (masksOf ops.toList [])[i]? = some ((masksOf ops.toList []).getD i 0) := fun i hi => by
    rw [List.getD_eq_getElem?_getD, List.getElem?_eq_getElem (by rw [m1]; exact hi)]; rfl
  have hlt : ∀ (i : Nat) o, ops[i]? = some o → ∀ e ∈ o.after, Region.binds .any e = true → e.on < i := fun i o ho e he hb => by
    have := edgesAll_lt hed i o (by simpa using ho) e (by simpa using he) hb; omega
  have hbit : ∀ (i : Nat) o, ops[i]? = some o → ∀ j, ((masksOf ops.toList []).getD i 0).testBit j = true ↔ ∃ e ∈ o.after, Region.binds .any e = true ∧ (e.on = j ∨ ((masksOf ops.toList []).getD e.on 0).testBit j = true) := fun i o ho j => by
    have hi : i < ops.size := (Array.getElem?_eq_some_iff.mp ho).1
    have := m3 i o (by simpa using ho)
    rw [hM i hi] at this
    rw [Option.some.inj this, maskOf_bit]
    constructor
    · rintro ⟨e, he, hb, hc⟩
      refine ⟨e, by simpa using he, hb, hc.imp (fun q => q) fun q => ?_⟩
      have hl := hlt i o ho e (by simpa using he) hb
      rw [List.getD_eq_getElem?_getD, List.getElem?_take, if_pos hl, ← List.getD_eq_getElem?_getD] at q
      exact q
    · rintro ⟨e, he, hb, hc⟩
      refine ⟨e, by simpa using he, hb, hc.imp (fun q => q) fun q => ?_⟩
      have hl := hlt i o ho e he hb
      rw [List.getD_eq_getElem?_getD, List.getElem?_take, if_pos hl, ← List.getD_eq_getElem?_getD]
      exact q
  have hblt : ∀ (i : Nat), i < ops.size → ∀ j, ((masksOf ops.toList []).getD i 0).testBit j = true → j < i := by
    intro i
    induction i using Nat.strongRecOn with
    | _ i ih =>
      intro hi j hj
      obtain ⟨e, he, hb, hc⟩ := (hbit i _ (Array.getElem?_eq_getElem hi) j).mp hj
      have := hlt i _ (Array.getElem?_eq_getElem hi) e he hb
      rcases hc with rfl | hc
      · exact this
      · have := ih e.on this (by omega) j hc; omega
  refine ⟨m1, hbit, hlt, hblt, fun i k x y hx hy => ?_, fun i x hx => ?_⟩
  · have hi := (Array.getElem?_eq_some_iff.mp hx).1
    have hk := (Array.getElem?_eq_some_iff.mp hy).1
    have := (pairsOK_spec hpr i x _ (by simpa using hx) (hM i hi)).2 k y _ (by simpa using hy) (hM k hk)
    rw [Nat.zero_add] at this; exact this
  · have hi := (Array.getElem?_eq_some_iff.mp hx).1
    exact (pairsOK_spec hpr i x _ (by simpa using hx) (hM i hi)).1
theorem baseOK_at {Zm : Nat} : ∀ {l : List Oper} {i0 : Nat}, baseOK s Zm l i0 = true → ∀ (i : Nat) o, l[i]? = some o → Zm.testBit (i0 + i) = false → putOK s o.dst = true
  | [], i0, h, i, o, ho, _ => by simp at ho
  | x :: l, i0, h, i, o, ho, hz => by
    simp only [baseOK, Bool.and_eq_true, Bool.or_eq_true] at h
    cases i with
    | zero =>
      simp at ho
      subst ho
      rw [Nat.add_zero] at hz
      rcases h.1 with c | c
      · rw [hz] at c; cases c
      · exact c
    | succ i => exact baseOK_at h.2 i o (by simpa using ho) (by rw [show i0 + 1 + i = i0 + (i + 1) by omega]; exact hz)
theorem early_z {Zm : Nat} {c : Option Nat} {ms : List Nat} {i : Nat} (h : early Zm c ms i = true) : Zm.testBit i = false := by
  simp only [early, Bool.and_eq_true, Bool.not_eq_true'] at h; exact h.1
theorem early_cl {ms : List Nat} (hS : DStat ops ms) {Zm : Nat} {c : Option Nat} (i : Nat) (hi : i < ops.size) (h : early Zm c ms i = true) (j : Nat) (hj : (ms.getD i 0).testBit j = true) : early Zm c ms j = true ∨ Zm.testBit j = true := by
  cases hz : Zm.testBit j with
  | true => exact .inr rfl
  | false =>
    refine .inl ?_
    cases c with
    | none => simp [early, hz]
    | some c =>
      simp only [early, Bool.and_eq_true, Bool.not_eq_true', beq_eq_false_iff_ne] at h ⊢
      refine ⟨hz, fun e => ?_, ?_⟩
      · subst e; rw [hj] at h; exact absurd h.2.2 (by decide)
      · cases hh : (ms.getD j 0).testBit c with
        | false => rfl
        | true => have := hS.trans i hi j c hj hh; rw [this] at h; exact absurd h.2.2 (by decide)
/-- A part of the region, carried out. -/
theorem part_DF {ms : List Nat} (hS : DStat ops ms) {Zm : Nat} {c : Option Nat} (hb : baseOK s Zm ops.toList 0 = true) {K : List (Eff U) → Prop} (h : runDraw P Γ ops s (early Zm c ms) ms ops.toList ms 0 [] K) :
    ∃ effs, DF P Γ ops s effs (fun i => ms.getD i 0) Zm.testBit (early Zm c ms) ∧ K effs := by
  have hM : ∀ (i : Nat), i < ops.size → ms[i]? = some (ms.getD i 0) := fun i hi => by
    rw [List.getD_eq_getElem?_getD, List.getElem?_eq_getElem (by rw [hS.len]; exact hi)]; rfl
  obtain ⟨full, ⟨rest, f1, f2⟩, f0, f3, f4⟩ := runDraw_facts ops.toList ms 0 [] h rfl (fun j m e b hb => by
    have hj : j < ops.size := by have := (List.getElem?_eq_some_iff.mp e).1; rw [hS.len] at this; exact this
    rw [hM j hj] at e
    cases e
    have := hS.blt j hj b hb; omega)
  simp only [List.nil_append] at f1
  subst f1
  simp only [Nat.zero_add, Array.length_toList] at f2 f4
  refine ⟨full, ⟨f2, hS.bit, hS.lt, hS.pair, hS.grd, fun i o ho hz => baseOK_at hb i o (by simpa using ho) (by rw [Nat.zero_add]; exact hz), fun i e he hE => ?_, fun i hE => early_z hE, fun i hi hE j hj => early_cl hS i hi hE j hj, fun i o ho hE => ?_, fun i o ho hE hu k e id off cs he hset => heapOK_spec f0 i o (by simpa using ho) hE hu k e id off cs he hset⟩, f3⟩
  · have hi : i < ops.size := by rw [← f2]; exact (List.getElem?_eq_some_iff.mp he).1
    have := (f4 i _ _ (by rw [Array.getElem?_toList]; exact Array.getElem?_eq_getElem hi) (hM i hi)).2 hE
    rw [he] at this
    exact Option.some.inj this
  · have hi := (Array.getElem?_eq_some_iff.mp ho).1
    exact (f4 i o _ (by simpa using ho) (hM i hi)).1 hE
theorem nextCall_at {Zm : Nat} : ∀ {l : List Oper} {i c : Nat}, nextCall Γ Zm l i = some c → ∃ o, i ≤ c ∧ l[c - i]? = some o ∧ callHere Γ o = true ∧ Zm.testBit c = false
  | [], i, c, h => by cases h
  | o :: l, i, c, h => by
    simp only [nextCall] at h
    split at h
    · rename_i hc
      cases h
      simp only [Bool.and_eq_true, Bool.not_eq_true'] at hc
      exact ⟨o, Nat.le_refl _, by simp, hc.1, hc.2⟩
    · obtain ⟨o', q1, q2, q3⟩ := nextCall_at h
      exact ⟨o', by omega, by rw [show c - i = (c - (i + 1)) + 1 by omega]; simpa using q2, q3⟩
theorem chainOK_at {Zm c : Nat} {ms : List Nat} : ∀ {l : List Oper} {i0 : Nat}, chainOK Γ Zm c ms l i0 = true → ∀ (i : Nat) o, l[i]? = some o → callHere Γ o = true → Zm.testBit (i0 + i) = false → i0 + i ≠ c → (ms.getD (i0 + i) 0).testBit c = true
  | [], i0, h, i, o, ho, _, _, _ => by simp at ho
  | x :: l, i0, h, i, o, ho, hc, hz, hne => by
    simp only [chainOK, Bool.and_eq_true, Bool.or_eq_true, Bool.not_eq_true', beq_iff_eq] at h
    cases i with
    | zero =>
      simp at ho
      subst ho
      rw [Nat.add_zero] at hz hne ⊢
      rcases h.1 with ((q | q) | q) | q
      · rw [hc] at q; cases q
      · rw [hz] at q; cases q
      · exact absurd q hne
      · exact q
    | succ i =>
      have := chainOK_at h.2 i o (by simpa using ho) hc (by rw [show i0 + 1 + i = i0 + (i + 1) by omega]; exact hz) (by omega)
      rw [show i0 + 1 + i = i0 + (i + 1) by omega] at this
      exact this
theorem xOK_spec {n : Nat} {X : Nat → Bool} : ∀ {l : List (Eff U)} {i : Nat}, xOK n X l i = true → ∀ (k : Nat) e, l[k]? = some e → X (i + k) = true → e.u = .none ∧ ∃ x, e.v = .pl x ∧ belowSV n x = true
  | [], i, h, k, e, he, _ => by simp at he
  | y :: l, i, h, k, e, he, hX => by
    simp only [xOK, Bool.and_eq_true] at h
    cases k with
    | zero =>
      simp at he
      subst he
      have h1 := h.1
      rw [Nat.add_zero] at hX
      rw [hX] at h1
      dsimp only at h1
      split at h1
      · rename_i x e1 e2; exact ⟨e1, x, e2, h1⟩
      · cases h1
    | succ k => exact xOK_spec h.2 k e (by simpa using he) (by rw [show i + 1 + k = i + (k + 1) by omega]; exact hX)
theorem oldOf_mem {X : Nat → Bool} : ∀ {l : List (Eff U)} {i k : Nat} {e : Eff U} {x : SV}, l[k]? = some e → X (i + k) = true → e.v = .pl x → (i + k, x) ∈ oldOf X l i
  | [], i, k, e, x, he, _, _ => by simp at he
  | y :: l, i, k, e, x, he, hX, hv => by
    cases k with
    | zero =>
      simp at he
      subst he
      rw [Nat.add_zero] at hX ⊢
      simp only [oldOf, hX, hv]
      exact List.mem_cons_self ..
    | succ k =>
      have := oldOf_mem (i := i + 1) (k := k) (x := x) (by simpa using he) (by rw [show i + 1 + k = i + (k + 1) by omega]; exact hX) hv
      rw [show i + 1 + k = i + (k + 1) by omega] at this
      simp only [oldOf]
      split
      · exact List.mem_cons_of_mem _ this
      · exact this
theorem obOK_andO {p q : Option Prop} (h : obOK (andO p q)) : obOK p ∧ obOK q := by
  cases p with
  | none => exact ⟨True.intro, h⟩
  | some p => cases q with
    | none => exact ⟨h, True.intro⟩
    | some q => exact h
theorem atomSame_is {x y : Atom} (h : obOK (atomSame x y)) : x = y := by
  unfold atomSame at h
  split at h
  · have h : _ = _ := h; rw [h]
  · split at h
    · rename_i e; rw [of_decide_eq_true e]
    · exact (show False from h).elim
  · split at h
    · rename_i e; simp only [Bool.and_eq_true, decide_eq_true_eq] at e; rw [e.1, e.2]
    · exact (show False from h).elim
  · split at h
    · rename_i e; simp only [Bool.and_eq_true, decide_eq_true_eq] at e; rw [e.1, e.2]
    · exact (show False from h).elim
  · split at h
    · rename_i e; simp only [Bool.and_eq_true, decide_eq_true_eq] at e; have h : _ = _ := h; rw [e.1.1, e.1.2, e.2, h]
    · exact (show False from h).elim
  · exact (show False from h).elim
theorem atomsSame_is : ∀ {l l' : List Atom}, obOK (atomsSame l l') → l = l'
  | [], [], _ => rfl
  | a :: r, b :: r', h => by
    obtain ⟨h1, h2⟩ := obOK_andO h
    rw [atomSame_is h1, atomsSame_is h2]
  | [], _ :: _, h => (show False from h).elim
  | _ :: _, [], h => (show False from h).elim
theorem svSame_is {x y : SV} (h : obOK (svSame x y)) : x = y := by
  unfold svSame at h
  split at h
  · rw [atomSame_is h]
  · rw [atomsSame_is h]
  · exact (show False from h).elim
theorem sameOld_is {effs : List (Eff U)} : ∀ {l : List (Nat × SV)}, obOK (sameOld effs l) → ∀ i x, (i, x) ∈ l → ∃ d, effs[i]? = some ⟨d, .pl x, .none⟩
  | [], _, i, x, hm => by cases hm
  | (j, y) :: l, h, i, x, hm => by
    simp only [sameOld] at h
    split at h
    · rename_i d z he
      obtain ⟨h1, h2⟩ := obOK_andO h
      rcases List.mem_cons.mp hm with e | hm
      · cases e
        rw [svSame_is h1]
        exact ⟨d, he⟩
      · exact sameOld_is h2 i x hm
    · exact (show False from h).elim
theorem belowA_leN {n : Nat} {ν ν' : Nu} (h : ν.leN n ν') {a : Atom} {y : Value} (hb : belowA n a = true) (d : Den ν a y) : Den ν' a y := by
  cases a with
  | v x => exact d
  | ptr id off => obtain ⟨b, e, r⟩ := d; exact ⟨b, h.1 _ (of_decide_eq_true hb) _ e, r⟩
  | el fid i sz off => obtain ⟨ad, n, c, e, r⟩ := d; exact ⟨ad, n, c, h.2.1 _ (of_decide_eq_true hb) _ e, r⟩
  | sl fid => exact ⟨h.2.1 _ (of_decide_eq_true hb) _ d.1, d.2⟩
  | fn f caps =>
    obtain ⟨cs, e, l, r⟩ := d
    refine ⟨cs, e, l, fun j p hp => ?_⟩
    obtain ⟨b, e1, e2⟩ := r j p hp
    have := List.all_eq_true.mp hb p (List.mem_of_getElem? hp)
    exact ⟨b, h.1 _ (of_decide_eq_true this) _ e1, e2⟩
  | gl g off => exact d
  | av id off n => obtain ⟨b, e, r⟩ := d; exact ⟨b, h.1 _ (of_decide_eq_true hb) _ e, r⟩
  | yl id => obtain ⟨b, e, r⟩ := d; exact ⟨b, h.1 _ (of_decide_eq_true hb) _ e, r⟩
  | junk => exact True.intro
theorem belowSV_leN {n : Nat} {ν ν' : Nu} (h : ν.leN n ν') {x : SV} {y : Value} (hb : belowSV n x = true) (d : DenSV ν x y) : DenSV ν' x y := by
  cases x with
  | one a => exact belowA_leN h hb d
  | agg l =>
    obtain ⟨arr, e, q1, q2, q3⟩ := d
    exact ⟨arr, e, q1, q2, fun j a y e1 e2 => belowA_leN h (List.all_eq_true.mp hb a (List.mem_of_getElem? e1)) (q3 j a y e1 e2)⟩
  | tup l => cases hb
theorem junkX_length {X : Nat → Bool} : ∀ (l : List (Eff U)) (k : Nat) (t : List TV), (junkX X l k t).length = t.length
  | [], k, t => rfl
  | e :: l, k, t => by
    simp only [junkX]
    rw [junkX_length l (k + 1)]
    split
    · simp
    · rfl
theorem junkX_spec {X : Nat → Bool} : ∀ (l : List (Eff U)) (k : Nat) (t : List TV) (j : Nat) (x : TV), (junkX X l k t)[j]? = some x → x = .pl (.one .junk) ∨ ((∀ (i : Nat) e, l[i]? = some e → X (k + i) = true → e.dst ≠ some j) ∧ t[j]? = some x)
  | [], k, t, j, x, h => .inr ⟨fun i e he => by simp at he, h⟩
  | e :: l, k, t, j, x, h => by
    simp only [junkX] at h
    rcases junkX_spec l (k + 1) _ j x h with q | ⟨q1, q2⟩
    · exact .inl q
    · have rest : (X k = true → e.dst ≠ some j) → ∀ (i : Nat) e', (e :: l)[i]? = some e' → X (k + i) = true → e'.dst ≠ some j := fun h0 i e' he hX => by
        cases i with
        | zero => simp at he; subst he; exact h0 hX
        | succ i => exact q1 i e' (by simpa using he) (by rw [show k + 1 + i = k + (i + 1) by omega]; exact hX)
      split at q2
      · rename_i d hXk hd
        rw [List.getElem?_set] at q2
        split at q2
        · rename_i c
          subst c
          split at q2
          · exact .inl (Option.some.inj q2).symm
          · cases q2
        · rename_i c
          exact .inr ⟨rest fun _ => by rw [hd]; exact fun e => c (Option.some.inj e), q2⟩
      · rename_i hno
        refine .inr ⟨rest fun hX hd => ?_, q2⟩
        exact hno j hX hd
theorem sim_fresh (s1 : Sim U w0 F0 (fun k => s.next ≤ k) s.heap s.rows w ν F) : (∀ k, k < ops.size → look (s.next + k) s.heap = none) ∧ ∀ fid, 16 * s.next ≤ fid → look fid s.rows = none := by
  refine ⟨fun k _ => ?_, fun fid hf => ?_⟩
  · cases hh : look (s.next + k) s.heap with
    | none => rfl
    | some x =>
      obtain ⟨b, arr, e1, _⟩ := s1.box (s.next + k) x.1 x.2 hh
      rw [(s1.free (s.next + k) (Nat.le_add_right _ _)).1] at e1
      cases e1
  · cases hh : look fid s.rows with
    | none => rfl
    | some x =>
      obtain ⟨v, e1, _⟩ := s1.row fid x hh
      have := (s1.free (fid / 16) (by omega)).2 (fid % 16) (by omega)
      rw [show 16 * (fid / 16) + fid % 16 = fid by omega] at this
      rw [this] at e1
      cases e1

structure DInv (U : Uni) (w0 : World) (F0 : Nat → Nat → Prop) (fr : Frm) (ops : Array Oper) (Z E : Nat → Bool) (s : St U) (effs : List (Eff U)) (listed : Array Bool) (a : Act) (w : World) : Prop where
  size : listed.size = ops.size
  closed : Closed ops fun k => listed.getD k false
  zin : ∀ k, k < ops.size → Z k = true → listed.getD k false = true
  lz : ∀ k, listed.getD k false = true → Z k = true ∨ E k = true
  sim : ∃ ν F, Sim U w0 F0 (fun q => s.next + ops.size ≤ q ∨ ∃ k, k < ops.size ∧ q = s.next + k ∧ listed.getD k false = false) (stOf (fun k => listed.getD k false) effs s).heap (stOf (fun k => listed.getD k false) effs s).rows w ν F ∧ TOk ν (stOf (fun k => listed.getD k false) effs s).tmps a.tmps ∧ fr.RR s.recs a.defers ν

/-- A part of a region, and what follows. -/
structure Part (P : Program) {U : Uni} (Γ : Con U) (I : Inl U) (st : List Nat) (ops : Array Oper) (ms : List Nat) (K : Ctl → St U → Prop) (n Zm : Nat) (s : St U) (effs : List (Eff U)) (c : Option Nat) : Prop where
  df : DF P Γ ops s effs (fun i => ms.getD i 0) Zm.testBit (early Zm c ms)
  nc : nextCall Γ Zm ops.toList 0 = c
  go : match c with
    | none => K .normal (clear { stOf (fun _ => true) effs s with next := s.next + ops.size, log := logsOf effs ++ s.log })
    | some c => chainOK Γ Zm c ms ops.toList 0 = true ∧ allV (boxMasks (freeX Zm c ms) effs 0 (ms.getD c 0)) fun m => xOK (s.next + ops.size) (freeY Zm c ms effs m) effs 0 = true ∧ ∃ o p, ops[c]? = some o ∧ special P Γ I ((3000000 + c) :: st) ops (midSt s (freeY Zm c ms effs m) m effs ops.size) o (thenPut o.dst fun s2 => drawC P Γ I st ops ms K n (Zm ||| m ||| (1 <<< c)) (oldOf (freeY Zm c ms effs m) effs 0) s2) (fun v s' => K (.panic v) (clear s')) = some p ∧ p
theorem allV_mp {f g : Nat → Prop} : ∀ {l : List Nat}, allV l f → (∀ m, f m → g m) → allV l g
  | [], _, _ => True.intro
  | [m], h, k => k m h
  | m :: m' :: r, h, k => ⟨k m h.1, allV_mp (l := m' :: r) h.2 k⟩
theorem allV_at {f : Nat → Prop} : ∀ {l : List Nat}, allV l f → ∀ m ∈ l, f m
  | [], _, m, hm => by cases hm
  | [x], h, m, hm => by rcases List.mem_singleton.mp hm with rfl; exact h
  | x :: y :: r, h, m, hm => by
    rcases List.mem_cons.mp hm with rfl | hm
    · exact h.1
    · exact allV_at (l := y :: r) h.2 m hm
theorem one_bit {m i k : Nat} : (m ||| (1 <<< i)).testBit k = true ↔ m.testBit k = true ∨ k = i := by
  rw [Nat.testBit_or, Nat.one_shiftLeft, Nat.testBit_two_pow, Bool.or_eq_true, decide_eq_true_eq]
  exact or_congr Iff.rfl eq_comm
/-- Of the choices there is the one that is so. -/
theorem boxMasks_ex {X D : Nat → Bool} : ∀ (l : List (Eff U)) (i m : Nat), ∃ m' ∈ boxMasks X l i m, ∀ k, m'.testBit k = true ↔ m.testBit k = true ∨ ∃ (j : Nat) (e : Eff U), l[j]? = some e ∧ k = i + j ∧ X k = true ∧ isBox e.u = true ∧ D k = true
  | [], i, m => ⟨m, List.mem_singleton.mpr rfl, fun k => ⟨fun h => .inl h, fun h => h.elim (fun h => h) fun ⟨j, e, h, _⟩ => by simp at h⟩⟩
  | y :: r, i, m => by
    have skip : ∀ m, (X i && isBox y.u && D i) = false → (∃ m' ∈ boxMasks X r (i + 1) m, ∀ k, m'.testBit k = true ↔ m.testBit k = true ∨ ∃ (j : Nat) (e : Eff U), (y :: r)[j]? = some e ∧ k = i + j ∧ X k = true ∧ isBox e.u = true ∧ D k = true) := fun m hb => by
      obtain ⟨m', h1, h2⟩ := boxMasks_ex (X := X) (D := D) r (i + 1) m
      refine ⟨m', h1, fun k => (h2 k).trans ⟨fun h => h.imp (fun h => h) fun ⟨j, e, q1, q2, q3⟩ => ⟨j + 1, e, by simpa using q1, by omega, q3⟩, fun h => h.imp (fun h => h) fun ⟨j, e, q1, q2, q3, q4, q5⟩ => ?_⟩⟩
      cases j with
      | zero =>
        simp at q1
        subst q1
        rw [Nat.add_zero] at q2
        subst q2
        rw [q3, q4, q5] at hb; cases hb
      | succ j => exact ⟨j, e, by simpa using q1, by omega, q3, q4, q5⟩
    simp only [boxMasks]
    cases hx : (X i && isBox y.u) with
    | false => exact skip m (by rw [hx]; rfl)
    | true =>
      cases hd : D i with
      | false =>
        obtain ⟨m', h1, h2⟩ := skip m (by rw [hx, hd]; rfl)
        exact ⟨m', List.mem_append_right _ h1, h2⟩
      | true =>
        obtain ⟨m', h1, h2⟩ := boxMasks_ex (X := X) (D := D) r (i + 1) (m ||| (1 <<< i))
        have hx := Bool.and_eq_true_iff.mp hx
        refine ⟨m', List.mem_append_left _ h1, fun k => (h2 k).trans ?_⟩
        rw [one_bit]
        constructor
        · rintro ((h | h) | ⟨j, e, q1, q2, q3⟩)
          · exact .inl h
          · subst h; exact .inr ⟨0, y, rfl, rfl, hx.1, hx.2, hd⟩
          · exact .inr ⟨j + 1, e, by simpa using q1, by omega, q3⟩
        · rintro (h | ⟨j, e, q1, q2, q3⟩)
          · exact .inl (.inl h)
          · cases j with
            | zero => exact .inl (.inr (by omega))
            | succ j => exact .inr ⟨j, e, by simpa using q1, by omega, q3⟩
theorem drawC_part {I : Inl U} {st : List Nat} {ms : List Nat} (hS : DStat ops ms) {K : Ctl → St U → Prop} {n Zm : Nat} {old : List (Nat × SV)} (h : drawC P Γ I st ops ms K n Zm old s) : ∃ n' c effs, Part P Γ I st ops ms K n' Zm s effs c ∧ obOK (sameOld effs old) := by
  cases n with
  | zero => exact (show False from h).elim
  | succ n =>
    unfold drawC at h
    split at h
    · exact h.elim
    · rename_i hb
      split at h
      · rename_i hc
        obtain ⟨effs, hDF, hK⟩ := part_DF hS hb h
        exact ⟨n, none, effs, ⟨hDF, hc, andP_right hK⟩, andP_left hK⟩
      · rename_i c hc
        split at h
        · exact h.elim
        · rename_i hch
          obtain ⟨effs, hDF, hK⟩ := part_DF hS hb h
          have hK2 := andP_right hK
          refine ⟨n, some c, effs, ⟨hDF, hc, hch, allV_mp hK2 fun m hK2 => ?_⟩, andP_left hK⟩
          split at hK2
          · rename_i o hx ho
            split at hK2
            · rename_i p hsp
              exact ⟨hx, o, p, ho, hsp, hK2⟩
            · exact hK2.elim
          · exact hK2.elim

theorem or_bit {a b c k : Nat} : (a ||| b ||| (1 <<< c)).testBit k = true ↔ a.testBit k = true ∨ b.testBit k = true ∨ c = k := by
  rw [Nat.testBit_or, Nat.testBit_or, Nat.one_shiftLeft, Nat.testBit_two_pow]
  simp [or_assoc]

theorem draw_any {I : Inl U} {YR : Nu → Prop} (hI : InlOk P U w0 F0 YR I) {fr : Frm} (hY : ∀ ν, fr.R ν → YR ν) {st : List Nat} {ms : List Nat} (hS : DStat ops ms) {G : World → Prop} (hG : ∀ w, Below w0.heap.size w0 w → G w) (hΓ : COk P U G Γ)
    {rf : Option Nat} {K : Ctl → St U → Prop} {Q : Exit → Act → World → Prop} (hQ : ∀ ctl s' a' w' e, K ctl s' → SimC U w0 F0 fr s' a' w' ctl e → Q e a' w') :
    ∀ (fuel : Nat) (n Zm : Nat) (s : St U) (effs : List (Eff U)) (c : Option Nat) (listed : Array Bool) (a : Act) (w : World), Part P Γ I st ops ms K n Zm s effs c → fr.n ≤ s.next → (∀ k, k < ops.size → look (s.next + k) s.heap = none) → (∀ fid, 16 * s.next ≤ fid → look fid s.rows = none) →
      cnt (fun k => listed.getD k false) ops.size ≤ fuel → DInv U w0 F0 fr ops Zm.testBit (early Zm c ms) s effs listed a w → wpAnyIn (fenceOf rf) 0 P .any ops Q fuel listed a w := by
  have done : ∀ (n Zm : Nat) (s : St U) (effs : List (Eff U)) (c : Option Nat) (listed : Array Bool) (a : Act) (w : World), Part P Γ I st ops ms K n Zm s effs c → fr.n ≤ s.next → DInv U w0 F0 fr ops Zm.testBit (early Zm c ms) s effs listed a w → Region.ready .any ops listed = [] → Q .normal a w := fun n Zm s effs c listed a w HP hfn H hr => by
    have h := HP.df
    have hall : ∀ i, i < ops.size → listed.getD i false = true := by
      intro i
      induction i using Nat.strongRecOn with
      | _ i ih =>
        intro hi
        cases hh : listed.getD i false with
        | true => rfl
        | false =>
          have : i ∈ Region.ready .any ops listed := by
            rw [mem_ready]
            refine ⟨?_, _, Array.getElem?_eq_getElem hi, fun e he hb => ih e.on (h.lt i _ (Array.getElem?_eq_getElem hi) e he hb) (by have := h.lt i _ (Array.getElem?_eq_getElem hi) e he hb; omega)⟩
            have hl : i < listed.size := by rw [H.size]; exact hi
            rw [Array.getD_eq_getD_getElem?, Array.getElem?_eq_getElem hl] at hh ⊢
            exact hh
          rw [hr] at this; cases this
    cases c with
    | some c =>
      obtain ⟨o, q1, q2, q3, q4⟩ := nextCall_at HP.nc
      simp only [Nat.sub_zero, Array.getElem?_toList] at q2
      have hc : c < ops.size := (Array.getElem?_eq_some_iff.mp q2).1
      rcases H.lz c (hall c hc) with q | q
      · rw [q4] at q; cases q
      · simp [early] at q
    | none =>
    obtain ⟨ν, F, h1, h2, hR⟩ := H.sim
    have hst : stOf (fun k => listed.getD k false) effs s = stOf (fun _ => true) effs s := stOf_congr fun i hi => hall i (by rw [← h.len]; exact hi)
    rw [hst] at h1 h2
    refine hQ .normal _ a w .normal HP.go ⟨Nat.le_trans hfn (Nat.le_add_right _ _), ν, F, ?_, clear_ok h2, hR, rfl⟩
    exact h1.fr fun k hk => .inl hk
  intro fuel
  induction fuel with
  | zero =>
    intro n Zm s effs c listed a w HP hfn hfr1 hfr2 hc H
    have hall := cnt_zero ops.size (by omega : cnt (fun k => listed.getD k false) ops.size = 0)
    have hr : Region.ready .any ops listed = [] := by
      cases hh : Region.ready .any ops listed with
      | nil => rfl
      | cons i r =>
        have : i ∈ Region.ready .any ops listed := by rw [hh]; exact List.mem_cons_self ..
        obtain ⟨q1, o, q2, q3⟩ := mem_ready.mp this
        have hi : i < ops.size := (Array.getElem?_eq_some_iff.mp q2).1
        have := hall i hi
        have hl : i < listed.size := by rw [H.size]; exact hi
        rw [Array.getD_eq_getD_getElem?, Array.getElem?_eq_getElem hl] at q1 this
        simp at q1 this
        rw [q1] at this; cases this
    exact ⟨hr, done n Zm s effs c listed a w HP hfn H hr⟩
  | succ fuel ih =>
    intro n Zm s effs c listed a w HP hfn hfr1 hfr2 hc H
    have h := HP.df
    refine ⟨done n Zm s effs c listed a w HP hfn H, fun i hi => ?_⟩
    obtain ⟨q1, o, q2, q3⟩ := mem_ready.mp hi
    have his : i < ops.size := (Array.getElem?_eq_some_iff.mp q2).1
    have hl : i < listed.size := by rw [H.size]; exact his
    have hDi : listed.getD i false = false := by
      rw [Array.getD_eq_getD_getElem?, Array.getElem?_eq_getElem hl] at q1 ⊢
      exact q1
    obtain ⟨ν, F, h1, h2, hR⟩ := H.sim
    have hB : ∀ j, (ms.getD i 0).testBit j = true → listed.getD j false = true := fun j hj => by
      obtain ⟨ed, he, hb, hc⟩ := (h.bit i o q2 j).mp hj
      rcases hc with rfl | hc
      · exact q3 ed he hb
      · exact h.closed H.closed ed.on (by have := h.lt i o q2 ed he hb; omega) (q3 ed he hb) j hc
    have hset : (fun k => (listed.setIfInBounds i true).getD k false) = addD (fun k => listed.getD k false) i := by
      funext k
      unfold addD
      by_cases c : k = i
      · subst c; rw [if_pos rfl]; simp [hl]
      · rw [if_neg c]; exact getD_set_ne false (Ne.symm c)
    have hget : ∀ k, (listed.setIfInBounds i true).getD k false = addD (fun k => listed.getD k false) i k := fun k => congrFun hset k
    have hcnt : cnt (fun k => (listed.setIfInBounds i true).getD k false) ops.size ≤ fuel := by
      rw [hset]
      have := (cnt_add (D := fun k => listed.getD k false) hDi ops.size).1 his
      omega
    have hclosed : Closed ops fun k => (listed.setIfInBounds i true).getD k false := by
      rw [hset]
      intro k o' ho' hk ed hed hb
      unfold addD at hk ⊢
      split at hk
      · rename_i c
        subst c
        rw [q2] at ho'
        cases ho'
        split
        · rfl
        · exact q3 ed hed hb
      · split
        · rfl
        · exact H.closed k o' ho' hk ed hed hb
    have hZi : Zm.testBit i = false := by
      cases hz : Zm.testBit i with
      | false => rfl
      | true => have := H.zin i his hz; rw [hDi] at this; cases this
    have wanted : ∀ {next : Act → World → Prop}, ((Region.wanted o (yielded ops a.tmps) = true → o.wpIn (fenceOf rf) 0 P a w next Q) ∧ (Region.wanted o (yielded ops a.tmps) = false → next (a.put o.dst undef) w)) → (∀ a w, next a w ↔ wpAnyIn (fenceOf rf) 0 P .any ops Q fuel (listed.setIfInBounds i true) a w) → wpOpIn (fenceOf rf) 0 P ops Q i (wpAnyIn (fenceOf rf) 0 P .any ops Q fuel (listed.setIfInBounds i true)) a w := fun {next} hstep hn => by
      have : next = wpAnyIn (fenceOf rf) 0 P .any ops Q fuel (listed.setIfInBounds i true) := funext fun a => funext fun w => propext (hn a w)
      subst this
      unfold wpOpIn
      simp only [q2]
      cases hw : Region.wanted o (yielded ops a.tmps) with
      | true => simp only [if_true]; exact hstep.1 hw
      | false => simp only [Bool.false_eq_true, if_false]; exact ⟨fun _ _ => trivial, hstep.2 hw⟩
    by_cases hic : c = some i
    · -- the call
      subst hic
      obtain ⟨hch, hgo⟩ := HP.go
      obtain ⟨m, hm1, hm2⟩ := boxMasks_ex (X := freeX Zm i ms) (D := fun k => listed.getD k false) effs 0 (ms.getD i 0)
      obtain ⟨hx, o', p, ho', hsp, hp⟩ := allV_at hgo m hm1
      rw [q2] at ho'
      cases ho'
      have hBm : ∀ k, m.testBit k = true → listed.getD k false = true := fun k hk => by
        rcases (hm2 k).mp hk with q | ⟨_, _, _, _, _, _, q⟩
        · exact hB k q
        · exact q
      have hsub : ∀ k, (ms.getD i 0).testBit k = true → m.testBit k = true := fun k hk => (hm2 k).mpr (.inl hk)
      have hEf : ∀ k, listed.getD k false = true → m.testBit k = false → Zm.testBit k = true ∨ freeY Zm i ms effs m k = true := fun k hk hb => by
        rcases H.lz k hk with q | q
        · exact .inl q
        · refine .inr ?_
          have hbx : boxAt effs k = false := by
            cases hbx : boxAt effs k with
            | false => rfl
            | true =>
              unfold boxAt at hbx
              split at hbx
              · rename_i e he
                have hmi : (ms.getD i 0).testBit k = false := by
                  cases hh : (ms.getD i 0).testBit k with
                  | false => rfl
                  | true => rw [hsub k hh] at hb; cases hb
                have : m.testBit k = true := (hm2 k).mpr (.inr ⟨k, e, he, (Nat.zero_add k).symm, by simp only [freeX, q, hmi]; rfl, hbx, hk⟩)
                rw [hb] at this; cases this
              · cases hbx
          simp only [freeY, q, hb, hbx]; rfl
      have hsameU := stOf_congrU (s := s) (D := fun k => listed.getD k false) (D' := m.testBit) effs fun k e he hne => by
        cases h1 : listed.getD k false with
        | false =>
          cases h2 : m.testBit k with
          | false => simp only [h1, h2] at hne; exact absurd rfl hne
          | true => have := hBm k h2; rw [h1] at this; cases this
        | true =>
          cases h2 : m.testBit k with
          | true => simp only [h1, h2] at hne; exact absurd rfl hne
          | false =>
            rcases hEf k h1 h2 with q | q
            · have : early Zm (some i) ms k = false := by simp [early, q]
              have := h.dum k e he this; subst this; rfl
            · exact (xOK_spec hx k e he (by rw [Nat.zero_add]; exact q)).1
      obtain ⟨mid, hmid⟩ : ∃ md, md = midSt s (freeY Zm i ms effs m) m effs ops.size := ⟨_, rfl⟩
      have hmh : mid.heap = (stOf (fun k => listed.getD k false) effs s).heap := by rw [hmid, hsameU.1]; rfl
      have hmr : mid.rows = (stOf (fun k => listed.getD k false) effs s).rows := by rw [hmid, hsameU.2]; rfl
      have hmn : mid.next = s.next + ops.size := by rw [hmid]; rfl
      have hmrec : mid.recs = s.recs := by rw [hmid]; rfl
      have hmt : TOk ν mid.tmps a.tmps := by
        rw [hmid]
        refine ⟨?_, fun j x e => ?_⟩
        · show (junkX _ effs 0 (stOf _ effs s).tmps).length = _
          rw [junkX_length, ← h2.1]
          simp only [stOf, tmpsOf_length]
        · rcases junkX_spec effs 0 _ j x e with q | ⟨q4, q5⟩
          · subst q; exact True.intro
          · refine h2.2 j x ?_
            rw [← q5]
            simp only [stOf]
            refine tmpsOf_agree effs 0 s.tmps s.tmps rfl (fun k e' he' hne cd => ?_) rfl
            simp only [Nat.zero_add] at hne
            cases h3 : listed.getD k false with
            | false =>
              cases h4 : m.testBit k with
              | false => rw [h3, h4] at hne; exact absurd rfl hne
              | true => have := hBm k h4; rw [h3] at this; cases this
            | true =>
              cases h4 : m.testBit k with
              | true => rw [h3, h4] at hne; exact absurd rfl hne
              | false =>
                rcases hEf k h3 h4 with q | q
                · have : early Zm (some i) ms k = false := by simp [early, q]
                  have := h.dum k e' he' this; subst this; cases cd
                · exact q4 k e' he' (by rw [Nat.zero_add]; exact q) cd
      let XD : Nu → Prop := fun ν' => ∀ (k : Nat) (e : Eff U) (d : Nat) (x : SV), effs[k]? = some e → listed.getD k false = true → freeY Zm i ms effs m k = true → e.dst = some d → d < a.tmps.size → e.v = .pl x → DenSV ν' x (a.tmps.getD d undef)
      let fr' : Frm := ⟨s.next + ops.size, fun ν' => fr.R ν' ∧ XD ν', fun ν1 ν2 hle q => ⟨fr.st ν1 ν2 (Nu.leN_mono hle (Nat.le_trans hfn (Nat.le_add_right _ _))) q.1, fun k e d x e1 e2 e3 e4 e5 e6 => by
        obtain ⟨_, x', e7, e8⟩ := xOK_spec hx k e e1 (by rw [Nat.zero_add]; exact e3)
        rw [e6] at e7
        cases e7
        exact belowSV_leN hle e8 (q.2 k e d x e1 e2 e3 e4 e5 e6)⟩, fr.fresh, fun ν D q e => fr.frs ν D q.1 e⟩
      have hXD : XD ν := fun k e d x e1 e2 e3 e4 e5 e6 => by
        have hlt : d < s.tmps.length := by have := h2.1; simp only [stOf, tmpsOf_length] at this; omega
        have := tmpsOf_at (D := fun k => listed.getD k false) (i0 := k) (d := d) effs 0 s.tmps e1 e4 (by rw [Nat.zero_add]; exact e2) (fun k' e' he' hne => h.dst_ne e1 he' (Ne.symm hne) e4) hlt
        have := h2.2 d _ (by simp only [stOf]; exact this)
        rw [e6] at this
        exact this
      rw [← hmid] at hsp
      have hstep := special_sound (rf := rf) (Q := Q) (next := wpAnyIn (fenceOf rf) 0 P .any ops Q fuel (listed.setIfInBounds i true)) hI hsp hp (fr := fr') (fun ν q => hY ν q.1) (a := a) (w := w) (ν := ν) (F := F)
        (by rw [hmh, hmr]; exact h1.fr fun k hk => .inl (by rw [hmn] at hk; exact hk)) (by rw [hmn]; exact Nat.le_refl _) (by rw [hmrec]; exact ⟨⟨hR.1, hXD⟩, hR.2⟩) hmt (hG w h1.below) hΓ
        (fun y w' tv s' ν' F' k1 k2 k3 k4 k5 k6 => by
          unfold thenPut at k1
          split at k1
          · rename_i hput
            have hnx : (s'.put o.dst tv).next = s'.next := by cases o.dst <;> rfl
            have hrc : (s'.put o.dst tv).recs = s'.recs := by cases o.dst <;> rfl
            have hdef : (a.put o.dst y).defers = a.defers := by cases o.dst <;> rfl
            have hsz : (a.put o.dst y).tmps.size = a.tmps.size := by cases o.dst <;> simp [Act.put]
            have hT2 : TOk ν' (s'.put o.dst tv).tmps (a.put o.dst y).tmps := TOk.put k5 o.dst hput (x := tv) (y := y) (defers := a.defers) k6
            obtain ⟨n', c', effs', HP', hold⟩ := drawC_part hS k1
            have h' := HP'.df
            have k2' : Sim U w0 F0 (fun k => (s'.put o.dst tv).next ≤ k) (s'.put o.dst tv).heap (s'.put o.dst tv).rows w' ν' F' := by rw [hnx, heap_put, rows_put]; exact k2
            obtain ⟨g1, g2⟩ := sim_fresh (ops := ops) k2'
            -- what has come up, and is told anew
            have hnew : ∀ k, (listed.setIfInBounds i true).getD k false = true → (Zm ||| m ||| (1 <<< i)).testBit k = true ∨ (listed.getD k false = true ∧ freeY Zm i ms effs m k = true) := fun k hk => by
              rw [hget k] at hk
              rw [or_bit]
              unfold addD at hk
              split at hk
              · rename_i e; exact .inl (.inr (.inr e.symm))
              · cases hb : m.testBit k with
                | true => exact .inl (.inr (.inl rfl))
                | false =>
                  rcases hEf k hk hb with q | q
                  · exact .inl (.inl q)
                  · exact .inr ⟨hk, q⟩
            have hxe : ∀ k, k < ops.size → listed.getD k false = true → freeY Zm i ms effs m k = true → ∃ e x d, effs[k]? = some e ∧ e.v = .pl x ∧ effs'[k]? = some ⟨d, .pl x, .none⟩ := fun k hk hk1 hk2 => by
              have hle : k < effs.length := by rw [h.len]; exact hk
              obtain ⟨_, x, e1, _⟩ := xOK_spec hx k _ (List.getElem?_eq_getElem hle) (by rw [Nat.zero_add]; exact hk2)
              have := oldOf_mem (X := freeY Zm i ms effs m) (i := 0) (List.getElem?_eq_getElem hle) (by rw [Nat.zero_add]; exact hk2) e1
              rw [Nat.zero_add] at this
              obtain ⟨d, e2⟩ := sameOld_is hold k x this
              exact ⟨_, x, d, List.getElem?_eq_getElem hle, e1, e2⟩
            have huN : ∀ (k : Nat) e, effs'[k]? = some e → (listed.setIfInBounds i true).getD k false = true → e.u = .none := fun k e he hk => by
              have hks : k < ops.size := by rw [← h'.len]; exact (List.getElem?_eq_some_iff.mp he).1
              rcases hnew k hk with q | ⟨q4, q5⟩
              · have : early (Zm ||| m ||| (1 <<< i)) c' ms k = false := by simp only [early, q]; rfl
                have := h'.dum k e he this; subst this; rfl
              · obtain ⟨e0, x, d, _, _, e2⟩ := hxe k hks q4 q5
                rw [he] at e2
                cases e2
                rfl
            have hU := stOf_congrU (s := s'.put o.dst tv) (D := fun k => (listed.setIfInBounds i true).getD k false) (D' := fun _ => false) effs' fun k e he hne => by
              cases hk : (listed.setIfInBounds i true).getD k false with
              | false => rw [hk] at hne; exact absurd rfl hne
              | true => exact huN k e he hk
            rw [stOf_none] at hU
            refine ih n' (Zm ||| m ||| (1 <<< i)) (s'.put o.dst tv) effs' c' (listed.setIfInBounds i true) _ w' HP' (by rw [hnx]; exact Nat.le_trans (Nat.le_trans hfn (Nat.le_add_right _ _)) k3) g1 g2 hcnt ⟨by simp [H.size], hclosed, fun k hk hz => ?_, fun k hk => ?_, ν', F', ?_, ?_, ?_⟩
            · rw [hget k]
              rw [or_bit] at hz
              unfold addD
              split
              · rfl
              · rename_i hne
                rcases hz with q | q | q
                · exact H.zin k hk q
                · exact hBm k q
                · exact absurd q.symm hne
            · rcases hnew k hk with q | ⟨q4, q5⟩
              · exact .inl q
              · refine .inr ?_
                have hkl : k < ops.size := by
                  apply Classical.byContradiction
                  intro hge
                  have : listed.getD k false = false := by
                    rw [Array.getD_eq_getD_getElem?, Array.getElem?_eq_none (by rw [H.size]; omega)]; rfl
                  rw [q4] at this; cases this
                have q6 : early Zm (some i) ms k = true := by simp only [freeY, Bool.and_eq_true] at q5; exact q5.1.1
                have q7 : m.testBit k = false := by simp only [freeY, Bool.and_eq_true, Bool.not_eq_true'] at q5; exact q5.1.2
                have q8 : k ≠ i ∧ (ms.getD k 0).testBit i = false := by simp only [early, Bool.and_eq_true, Bool.not_eq_true', beq_eq_false_iff_ne] at q6; exact q6.2
                have qz : (Zm ||| m ||| (1 <<< i)).testBit k = false := by
                  cases hh : (Zm ||| m ||| (1 <<< i)).testBit k with
                  | false => rfl
                  | true =>
                    rw [or_bit] at hh
                    rcases hh with q | q | q
                    · rw [early_z q6] at q; cases q
                    · rw [q7] at q; cases q
                    · exact absurd q.symm q8.1
                cases hc' : c' with
                | none => simp only [early, qz]; rfl
                | some c2 =>
                  obtain ⟨o2, p1, p2, p3, p4⟩ := nextCall_at (hc' ▸ HP'.nc)
                  simp only [Nat.sub_zero] at p2
                  have p5 : Zm.testBit c2 = false := by
                    cases hh : Zm.testBit c2 with
                    | false => rfl
                    | true => rw [or_bit.mpr (.inl hh)] at p4; cases p4
                  have p6 : c2 ≠ i := fun e => by rw [or_bit.mpr (.inr (.inr e.symm))] at p4; cases p4
                  have p7 := chainOK_at hch c2 o2 p2 p3 (by rw [Nat.zero_add]; exact p5) (by rw [Nat.zero_add]; exact p6)
                  rw [Nat.zero_add] at p7
                  simp only [early, qz, Bool.not_false, Bool.true_and, Bool.and_eq_true, Bool.not_eq_true', beq_eq_false_iff_ne]
                  refine ⟨fun e => ?_, ?_⟩
                  · subst e; rw [p7] at q8; exact absurd q8.2 (by decide)
                  · cases hh : (ms.getD k 0).testBit c2 with
                    | false => rfl
                    | true => have := hS.trans k hkl c2 i hh p7; rw [this] at q8; exact absurd q8.2 (by decide)
            · rw [hU.1, hU.2]
              refine k2'.fr fun q hq => ?_
              rcases hq with hq | ⟨k, _, hq, _⟩ <;> omega
            · refine ⟨?_, fun j x e => ?_⟩
              · rw [← hT2.1]; simp only [stOf, tmpsOf_length]
              · have hjl : j < (s'.put o.dst tv).tmps.length := by have := (List.getElem?_eq_some_iff.mp e).1; simpa only [stOf, tmpsOf_length] using this
                by_cases hw : ∃ (k : Nat) (ek : Eff U), effs'[k]? = some ek ∧ (listed.setIfInBounds i true).getD k false = true ∧ ek.dst = some j
                · obtain ⟨k, ek, e1, e2, e3⟩ := hw
                  have := tmpsOf_at (D := fun k => (listed.setIfInBounds i true).getD k false) (i0 := k) (d := j) effs' 0 (s'.put o.dst tv).tmps e1 e3 (by rw [Nat.zero_add]; exact e2) (fun k' e' he' hne => h'.dst_ne e1 he' (Ne.symm hne) e3) hjl
                  simp only [stOf] at e
                  rw [this] at e
                  cases e
                  have hks : k < ops.size := by rw [← h'.len]; exact (List.getElem?_eq_some_iff.mp e1).1
                  have hEk := h'.liveD e1 e3
                  have hzk := early_z hEk
                  rcases hnew k e2 with q | ⟨q4, q5⟩
                  · rw [hzk] at q; cases q
                  · obtain ⟨e0, x0, d0, e4, e5, e6⟩ := hxe k hks q4 q5
                    rw [e1] at e6
                    cases e6
                    obtain ⟨ok, obk, r1, r2, _⟩ := h'.eff e1 hEk
                    have hEk0 : early Zm (some i) ms k = true := by simp only [freeY, Bool.and_eq_true] at q5; exact q5.1.1
                    obtain ⟨ok', obk', r1', r2', _⟩ := h.eff e4 hEk0
                    rw [r1] at r1'
                    cases r1'
                    have e7 : e0.dst = some j := by rw [r2', ← r2]; exact e3
                    have hne : j ∉ (match o.dst with | some d => [d] | none => []) := fun hm => by
                      have := hS.pair k i ok o r1 q2
                      have hki : k ≠ i := by simp only [early, Bool.and_eq_true, Bool.not_eq_true', beq_eq_false_iff_ne] at hEk0; exact hEk0.2.1
                      simp only [pairOK, Bool.or_eq_true, beq_iff_eq, hki, false_or, Bool.and_eq_true] at this
                      have := this.1.1.1.1
                      rw [← r2', e7] at this
                      cases hod : o.dst with
                      | none => rw [hod] at hm; cases hm
                      | some d => rw [hod] at hm this; rcases List.mem_singleton.mp hm with rfl; simp at this
                    have hsame : (a.put o.dst y).tmps.getD j undef = a.tmps.getD j undef := by
                      cases hod : o.dst with
                      | none => rfl
                      | some d =>
                        simp only [Act.put]
                        refine getD_set_ne' _ _ _ _ fun e => hne ?_
                        rw [hod, e]; exact List.mem_singleton.mpr rfl
                    show DenSV ν' x0 _
                    rw [hsame]
                    exact k4.1.2 k e0 j x0 e4 q4 q5 e7 (by have := hT2.1; rw [hsz] at this; omega) e5
                · refine hT2.2 j x ?_
                  rw [← e]
                  simp only [stOf]
                  have := tmpsOf_agree (D := fun k => (listed.setIfInBounds i true).getD k false) (D' := fun _ => false) (j := j) effs' 0 (s'.put o.dst tv).tmps (s'.put o.dst tv).tmps rfl (fun k e' he' hne cd => by
                    simp only [Nat.zero_add] at hne
                    exact hw ⟨k, e', he', by cases hh : (listed.setIfInBounds i true).getD k false with | true => rfl | false => rw [hh] at hne; exact absurd rfl hne, cd⟩) rfl
                  rw [this, tmpsOf_false _ _ _ (fun _ _ => rfl)]
            · rw [hrc, hdef]; exact ⟨k4.1.1, k4.2⟩
          · exact k1.elim)
        (fun y w' v s' ν' F' k1 k2 k3 k4 k5 k6 => hQ _ _ a w' _ k1 ⟨Nat.le_trans (Nat.le_trans hfn (Nat.le_add_right _ _)) k3, ν', F', k2, clear_ok k5, ⟨k4.1.1, k4.2⟩, y, rfl, k6⟩)
      exact wanted hstep fun _ _ => Iff.rfl
    · -- another one
      have hEi : early Zm c ms i = true := by
        cases hcc : c with
        | none => simp [early, hZi]
        | some c0 =>
          have hne : i ≠ c0 := fun e => hic (by rw [hcc, e])
          have hb : (ms.getD i 0).testBit c0 = false := by
            cases hh : (ms.getD i 0).testBit c0 with
            | false => rfl
            | true =>
              have h5 := hB c0 hh
              obtain ⟨o2, p1, p2, p3, p4⟩ := nextCall_at (hcc ▸ HP.nc)
              rcases H.lz c0 h5 with q | q
              · rw [p4] at q; cases q
              · rw [hcc] at q; simp [early] at q
          simp only [early, hZi, Bool.not_false, Bool.true_and, Bool.and_eq_true, Bool.not_eq_true', beq_eq_false_iff_ne]
          exact ⟨hne, hb⟩
      obtain ⟨e, ob, e1, e2, e3, e4, e5, e6, e7⟩ := h.step i o q2 hEi
      have hup := h.up H.closed q2 hEi hDi hB hfr1 hfr2 e3
      have hput := h.putOK H.closed q2 hEi hDi
      have hadd := h.add H.closed q2 hEi hDi hB e1 hfr2
      have hstep := rstepE_sound (rf := rf) (Q := Q) (next := wpAnyIn (fenceOf rf) 0 P .any ops Q fuel (listed.setIfInBounds i true)) hup hput e4 h1 hR.2.1 (.inr ⟨i, his, rfl, hDi⟩) h2 (hG w h1.below) hΓ (fun a' w' ν' F' d1 d2 d3 d4 => by
        refine ih n Zm s effs c (listed.setIfInBounds i true) a' w' HP hfn hfr1 hfr2 hcnt ⟨by simp [H.size], hclosed, fun k hk hz => ?_, fun k hk => ?_, ν', F', ?_, ?_, by rw [d1]; exact Frm.RR.le d2 hR⟩
        · rw [hget k]
          unfold addD
          split
          · rfl
          · exact H.zin k hk hz
        · rw [hget k] at hk
          unfold addD at hk
          split at hk
          · rename_i c; subst c; exact .inr hEi
          · exact H.lz k hk
        · rw [hset]
          refine (d3.fr fun q hq => ?_).congr hadd.2.1 hadd.2.2
          rcases hq with hq | ⟨k, hk1, hk2, hk3⟩
          · exact ⟨.inl hq, by omega⟩
          · rw [hget k] at hk3
            unfold addD at hk3
            split at hk3
            · cases hk3
            · rename_i c; exact ⟨.inr ⟨k, hk1, hk2, hk3⟩, by omega⟩
        · rw [hset, hadd.1]
          have : (((stOf (fun k => listed.getD k false) effs s).app (s.next + i) e.u).put o.dst e.v).tmps = putT (stOf (fun k => listed.getD k false) effs s).tmps o.dst e.v := by
            cases hd : o.dst with
            | none => exact tmps_app _
            | some d => simp only [St.put, putT, tmps_app]
          rw [this] at d4
          rw [e2]
          exact d4)
      exact wanted hstep fun _ _ => Iff.rfl

theorem runRegion_sound {I : Inl U} {YR : Nu → Prop} (hI : InlOk P U w0 F0 YR I) {fr : Frm} (hY : ∀ ν, fr.R ν → YR ν) {st : List Nat} {G : World → Prop} (hG : ∀ w, Below w0.heap.size w0 w → G w) (hΓ : COk P U G Γ) {rf : Option Nat} {K : Ctl → St U → Prop} {Q : Exit → Act → World → Prop} (h : runRegion P Γ I st ops s K) (hs : SimS U w0 F0 fr s a w)
    (hQ : ∀ ctl s' a' w' e, K ctl s' → SimC U w0 F0 fr s' a' w' ctl e → Q e a' w') (id : Nat) : (Code.region id ops true).wpIn (fenceOf rf) 0 P Q a w := by
  unfold runRegion at h
  split at h
  · rename_i hall
    simp only [Bool.and_eq_true] at hall
    obtain ⟨hm, hd⟩ := hall
    have hS := drawOK_stat hd
    obtain ⟨hfn, ν, F, s1, s2, hR⟩ := hs
    obtain ⟨n, c, effs, HP, _⟩ := drawC_part hS h
    obtain ⟨hfr1, hfr2⟩ := sim_fresh (ops := ops) s1
    have hg0 : ∀ k, (Array.replicate ops.size false).getD k false = false := fun k => by
      rw [Array.getD_eq_getD_getElem?, Array.getElem?_replicate]; split <;> rfl
    have hf : (fun k => (Array.replicate ops.size false).getD k false) = fun _ => false := funext hg0
    refine wpIn_region_any hm (draw_any hI hY hS hG hΓ hQ ops.size n 0 s effs c _ a _ HP hfn hfr1 hfr2 ?_ ⟨by simp, fun i o ho hi => (by dsimp only at hi; rw [hg0] at hi; cases hi), fun k _ hz => by simp at hz, fun k hk => (by rw [hg0] at hk; cases hk), ν, F, ?_, ?_, hR⟩)
    · have : ∀ (D : Nat → Bool) n, cnt D n ≤ n := by
        intro D n
        induction n with
        | zero => exact Nat.le_refl _
        | succ n ih => simp only [cnt]; split <;> omega
      exact this _ _
    · rw [hf, stOf_none]
      refine (s1.fr fun q hq => ?_).drew
      rcases hq with hq | ⟨k, hk1, hk2, _⟩
      · show s.next ≤ q; omega
      · show s.next ≤ q; omega
    · rw [hf, stOf_none]
      exact s2
  · exact h.elim
end
end Go.RX

/- Runs of Go functions over states that are told by numbers, truth values, texts and lists; each such run is proved to be the machine's. No condition beside those that each theorem states. -/
import Derived.Test.YtnhgnidpoiolgaaRxThree
import Derived.LoopNIn
import Derived.Deep.LoopGhost
import Derived.ChangeArms
import Derived.OpenShut
import Derived.WideShapes
/- Symbolic runs of Go functions: what a run leaves as it was. -/
namespace Go.RX
open Go.RowKit
set_option linter.unusedSimpArgs false
set_option linter.unusedVariables false

section
variable {P : Program} {U : Uni} {Γ : Con U} {An : Anns U} {s s' : St U}

theorem cleanA_two {n m : Nat} (h : n ≤ m) (x : Atom) : cleanA n (cleanA m x) = cleanA n x := by
  cases x with
  | v x => rfl
  | gl g off => rfl
  | junk => rfl
  | av id off k =>
    simp only [cleanA]
    by_cases c : id < m
    · rw [if_pos c]
    · rw [if_neg c, if_neg (by omega)]
  | yl id =>
    simp only [cleanA]
    by_cases c : id < m
    · rw [if_pos c]
    · rw [if_neg c, if_neg (by omega)]
  | ptr id off =>
    simp only [cleanA]
    by_cases c : id < m
    · rw [if_pos c]
    · rw [if_neg c, if_neg (by omega)]
  | el fid i sz off =>
    simp only [cleanA]
    by_cases c : fid < 16 * m
    · rw [if_pos c]
    · rw [if_neg c, if_neg (by omega)]
  | sl fid =>
    simp only [cleanA]
    by_cases c : fid < 16 * m
    · rw [if_pos c]
    · rw [if_neg c, if_neg (by omega)]
  | fn f caps =>
    simp only [cleanA]
    by_cases c : caps.all (fun p => decide (p.1 < m)) = true
    · rw [if_pos c]
    · have c2 : ¬ caps.all (fun p => decide (p.1 < n)) = true := by
        intro q
        apply c
        rw [List.all_eq_true] at q ⊢
        intro p hp
        have := q p hp
        simp only [decide_eq_true_eq] at this ⊢
        omega
      rw [if_neg c, if_neg c2]
theorem cleanSV_two {n m : Nat} (h : n ≤ m) (x : SV) : cleanSV n (cleanSV m x) = cleanSV n x := by
  cases x with
  | one a => simp only [cleanSV, cleanA_two h]
  | agg l => simp only [cleanSV, List.map_map]; congr 1; exact List.map_congr_left fun a _ => cleanA_two h a
  | tup l => rfl
def cT (n : Nat) (x : TV) : TV := match x with | .pl x => .pl (cleanSV n x) | .opt _ _ _ => .pl (.one .junk)
theorem cleanT_at {n : Nat} {W : List Nat} : ∀ (t : List TV) (i j : Nat), (cleanT n W i t)[j]? = (t[j]?).map fun x => if mem (i + j) W then .pl (.one .junk) else cT n x := fun t i j => cleanT_get t i j
/-- Temporaries that differ where they may. -/
theorem cleanT_same {n : Nat} {W : List Nat} {t t' : List TV} (h : ∀ j, mem j W = false → (t[j]?).map (cT n) = (t'[j]?).map (cT n)) (hl : t.length = t'.length) : cleanT n W 0 t = cleanT n W 0 t' := by
  refine List.ext_getElem? fun j => ?_
  rw [cleanT_at, cleanT_at, Nat.zero_add]
  cases hm : mem j W with
  | true =>
    simp only [if_true]
    by_cases c : j < t.length
    · rw [List.getElem?_eq_getElem c, List.getElem?_eq_getElem (by omega)]; rfl
    · rw [List.getElem?_eq_none (by omega), List.getElem?_eq_none (by omega)]
  | false => simpa using h j hm
theorem cT_two {n m : Nat} (h : n ≤ m) (x : TV) : cT n (cT m x) = cT n x := by
  cases x with
  | pl x => simp only [cT, cleanSV_two h]
  | opt _ _ _ => rfl
theorem cleanT_two {n m : Nat} (h : n ≤ m) {W W' : List Nat} (hW : ∀ d, mem d W = true → mem d W' = true) (t : List TV) : cleanT n W' 0 (cleanT m W 0 t) = cleanT n W' 0 t := by
  refine cleanT_same (fun j hj => ?_) (cleanT_length ..)
  rw [cleanT_at, Nat.zero_add]
  have : mem j W = false := by
    cases c : mem j W with
    | false => rfl
    | true => rw [hW j c] at hj; cases hj
  rw [this]
  cases t[j]? with
  | none => rfl
  | some x => simp only [Option.map_some, Bool.false_eq_true, if_false, cT_two h]
theorem cleanR_two {n m : Nat} (h : n ≤ m) : ∀ l : List (Nat × Row U), cleanR n (cleanR m l) = cleanR n l
  | [] => rfl
  | (fid, r) :: l => by
    simp only [cleanR]
    by_cases c : fid < 16 * n
    · rw [if_pos (by omega : fid < 16 * m)]
      simp only [cleanR]
      rw [if_pos c, if_pos c, cleanR_two h l]
    · rw [if_neg c]
      by_cases d : fid < 16 * m
      · rw [if_pos d]; simp only [cleanR]; rw [if_neg c, cleanR_two h l]
      · rw [if_neg d, cleanR_two h l]
theorem cleanR_new {n kx : Nat} (hn : n ≤ kx) : ∀ (l rest : List (Nat × Row U)), (l.all fun x => decide (16 * kx ≤ x.1) && decide (x.1 < 16 * kx + 16)) = true → cleanR n (l ++ rest) = cleanR n rest
  | [], rest, _ => rfl
  | (fid, r) :: l, rest, h => by
    simp only [List.all_cons, Bool.and_eq_true, decide_eq_true_eq] at h
    simp only [List.cons_append, cleanR]
    rw [if_neg (by omega), cleanR_new hn l rest h.2]
theorem cleanR_disown {n : Nat} (old : Nat) : ∀ l : List (Nat × Row U), cleanR n (disown old l) = cleanR n l
  | [] => rfl
  | (fid, r) :: l => by
    simp only [disown]
    by_cases c : fid = old
    · rw [if_pos c]; simp only [cleanR]
    · rw [if_neg c]; simp only [cleanR, cleanR_disown old l]

theorem mem2_iff (i k : Nat) : ∀ l : List (Nat × Nat), mem2 i k l = true ↔ (i, k) ∈ l
  | [] => by simp [mem2]
  | (j, m) :: r => by
    simp only [mem2, List.mem_cons, Prod.mk.injEq]
    by_cases h : i = j ∧ k = m
    · rw [if_pos h]; simp [h]
    · rw [if_neg h]; simp [h, mem2_iff i k r]
theorem within2_at {id off : Nat} {M : List (Nat × Nat)} : ∀ (len j : Nat), within2 id off M len = true → off ≤ j → j < off + len → mem2 id j M = true
  | 0, j, _, _, _ => by omega
  | len + 1, j, h, h1, h2 => by
    simp only [within2, Bool.and_eq_true] at h
    by_cases c : j = off + len
    · subst c; exact h.1
    · exact within2_at len j h.2 h1 (by omega)
theorem covers_append {n : Nat} {M : List (Nat × Nat)} : ∀ (a b : List (Nat × Nat × Nat)), covers n M (a ++ b) = true ↔ covers n M a = true ∧ covers n M b = true
  | [], b => by simp [covers]
  | (id, off, len) :: a, b => by
    simp only [List.cons_append, covers, Bool.and_eq_true, covers_append a b]
    exact and_assoc.symm
theorem covers_mc {n : Nat} {M : List (Nat × Nat)} : ∀ (l : List (Nat × Nat)), covers n M (mcLog l) = true → ∀ id o, (id, o) ∈ l → id < n → mem2 id o M = true
  | [], _, id, o, h, _ => by cases h
  | (i, k) :: l, h, id, o, hm, hn => by
    simp only [mcLog, covers, Bool.and_eq_true] at h
    rcases List.mem_cons.mp hm with e | hm
    · cases e
      have h1 := h.1
      split at h1
      · rename_i hb; have := Nat.le_of_ble_eq_true hb; omega
      · exact within2_at 1 k h1 (Nat.le_refl _) (by omega)
    · exact covers_mc l h.2 id o hm hn

theorem cleanC_at {n : Nat} {M : List (Nat × Nat)} {id : Nat} (cs : List Atom) (j : Nat) : (cleanC n M id 0 cs)[j]? = (cs[j]?).map fun x => if mem2 id j M then .junk else cleanA n x := by
  rw [cleanC_get, Nat.zero_add]
theorem cleanC_same {n : Nat} {M : List (Nat × Nat)} {id : Nat} {cs cs' : List Atom} (hl : cs.length = cs'.length) (h : ∀ j, mem2 id j M = false → (cs[j]?).map (cleanA n) = (cs'[j]?).map (cleanA n)) : cleanC n M id 0 cs = cleanC n M id 0 cs' := by
  refine List.ext_getElem? fun j => ?_
  rw [cleanC_at, cleanC_at]
  cases hm : mem2 id j M with
  | true =>
    simp only [if_true]
    by_cases c : j < cs.length
    · rw [List.getElem?_eq_getElem c, List.getElem?_eq_getElem (by omega)]; rfl
    · rw [List.getElem?_eq_none (by omega), List.getElem?_eq_none (by omega)]
  | false => simpa using h j hm
/-- Blocks that differ where they may. -/
theorem cleanH_upd {n : Nat} {M : List (Nat × Nat)} {id : Nat} {f : List Atom → List Atom} (h : id < n → ∀ cs, cleanC n M id 0 (f cs) = cleanC n M id 0 cs) : ∀ l : List (Nat × TypeId × List Atom), cleanH n M (upd1 id f l) = cleanH n M l
  | [] => rfl
  | (j, t, cs) :: l => by
    simp only [upd1]
    by_cases c : j = id
    · subst c
      rw [if_pos rfl]
      simp only [cleanH]
      by_cases d : j < n
      · rw [if_pos d, if_pos d, h d cs]
      · rw [if_neg d, if_neg d]
    · rw [if_neg c]
      simp only [cleanH]
      rw [cleanH_upd h l]
theorem setCells_len' {α : Type} : ∀ (l : List α) (off : Nat) (new : List α), (∀ j, ¬ (off ≤ j ∧ j < off + new.length) → (setCells l off new)[j]? = l[j]?) ∧ (off + new.length ≤ l.length → (setCells l off new).length = l.length) := fun l off new => by
  refine ⟨fun j hj => ?_, setCells_length l off new⟩
  induction off generalizing l j with
  | zero =>
    simp only [setCells]
    rw [List.getElem?_append_right (by omega), List.getElem?_drop]
    congr 1; omega
  | succ off ih =>
    cases l with
    | nil => rfl
    | cons c l =>
      simp only [setCells]
      cases j with
      | zero => rfl
      | succ j => simpa using ih l j (by omega)
theorem cleanH_two {n m : Nat} (h : n ≤ m) {M M' : List (Nat × Nat)} (hM : ∀ id o, id < n → mem2 id o M = true → mem2 id o M' = true) : ∀ l : List (Nat × TypeId × List Atom), cleanH n M' (cleanH m M l) = cleanH n M' l
  | [] => rfl
  | (id, t, cs) :: l => by
    simp only [cleanH]
    by_cases c : id < n
    · rw [if_pos (by omega : id < m)]
      simp only [cleanH]
      rw [if_pos c, if_pos c, cleanH_two h hM l]
      congr 3
      refine cleanC_same (cleanC_length ..) fun j hj => ?_
      rw [cleanC_at]
      have : mem2 id j M = false := by
        cases q : mem2 id j M with
        | false => rfl
        | true => rw [hM id j c q] at hj; cases hj
      rw [this]
      cases cs[j]? with
      | none => rfl
      | some x => simp only [Option.map_some, Bool.false_eq_true, if_false, cleanA_two h]
    · rw [if_neg c]
      by_cases d : id < m
      · rw [if_pos d]; simp only [cleanH]; rw [if_neg c, cleanH_two h hM l]
      · rw [if_neg d, cleanH_two h hM l]

/-- What is left as it was between two states; W: which temporaries are written. -/
def Kept (s s' : St U) (W : List Nat) : Prop := s.next ≤ s'.next ∧ ∃ L, s'.log = L ++ s.log ∧ ∀ n M W', n ≤ s.next → (∀ d ∈ W, mem d W' = true) → covers n M L = true → base n W' M s' = base n W' M s
theorem Kept.refl (s : St U) (W : List Nat) : Kept s s W := ⟨Nat.le_refl _, [], rfl, fun _ _ _ _ _ _ => rfl⟩
theorem Kept.trans {a b c : St U} {W1 W2 W : List Nat} (h : Kept a b W1) (k : Kept b c W2) (h1 : ∀ d ∈ W1, d ∈ W) (h2 : ∀ d ∈ W2, d ∈ W) : Kept a c W := by
  obtain ⟨q1, L1, q2, q3⟩ := h
  obtain ⟨p1, L2, p2, p3⟩ := k
  refine ⟨Nat.le_trans q1 p1, L2 ++ L1, by rw [p2, q2, List.append_assoc], fun n M W' hn hW hc => ?_⟩
  rw [covers_append] at hc
  exact (p3 n M W' (Nat.le_trans hn q1) (fun d hd => hW d (h2 d hd)) hc.1).trans (q3 n M W' hn (fun d hd => hW d (h1 d hd)) hc.2)
theorem base_eq {n : Nat} {W : List Nat} {M : List (Nat × Nat)} (h1 : cleanT n W 0 s.tmps = cleanT n W 0 s'.tmps) (h2 : cleanH n M s.heap = cleanH n M s'.heap) (h3 : cleanR n s.rows = cleanR n s'.rows) : base n W M s = base n W M s' := by
  unfold base; rw [h1, h2, h3]
theorem cT_clear (n : Nat) (t : List TV) (j : Nat) : ((t.map fun x => match x with | .opt _ _ _ => TV.pl (.one .junk) | x => x)[j]?).map (cT n) = (t[j]?).map (cT n) := by
  rw [List.getElem?_map]
  cases t[j]? with
  | none => rfl
  | some x => cases x <;> rfl
theorem Kept.clear (s : St U) (W : List Nat) : Kept s (clear s) W := ⟨Nat.le_refl _, [], rfl, fun n M W' _ _ _ => base_eq (cleanT_same (fun j _ => cT_clear n s.tmps j) (by simp [RX.clear])) rfl rfl⟩
theorem Kept.next (s : St U) (W : List Nat) {m : Nat} (h : s.next ≤ m) : Kept s { s with next := m } W := ⟨h, [], rfl, fun _ _ _ _ _ _ => rfl⟩
theorem set_cT {n : Nat} {t : List TV} {d : Nat} {v : TV} {j : Nat} (h : d ≠ j) : ((t.set d v)[j]?).map (cT n) = (t[j]?).map (cT n) := by rw [List.getElem?_set, if_neg h]
theorem Kept.put (s : St U) (d : Option Tmp) (v : TV) : Kept s (s.put d v) (match d with | some d => [d] | none => []) := by
  cases d with
  | none => exact Kept.refl s _
  | some d =>
    refine ⟨Nat.le_refl _, [], rfl, fun n M W' _ hW _ => base_eq (cleanT_same (fun j hj => set_cT fun e => ?_) (by simp [St.put])) rfl rfl⟩
    subst e
    rw [hW d (by simp)] at hj; cases hj
theorem cleanH_new {n kx : Nat} (h : n ≤ kx) {M : List (Nat × Nat)} {t : TypeId} {cs : List Atom} (l : List (Nat × TypeId × List Atom)) : cleanH n M ((kx, t, cs) :: l) = cleanH n M l := by
  simp only [cleanH]; rw [if_neg (by omega)]
theorem cleanH_set {n id off : Nat} {cs : List Atom} {M : List (Nat × Nat)} (hc : covers n M [(id, off, cs.length)] = true) (l : List (Nat × TypeId × List Atom)) (hl : ∀ t old, look id l = some (t, old) → off + cs.length ≤ old.length) : cleanH n M (upd1 id (fun old => setCells old off cs) l) = cleanH n M l := by
  induction l with
  | nil => rfl
  | cons x l ih =>
    obtain ⟨j, t, old⟩ := x
    simp only [upd1]
    by_cases c : j = id
    · subst c
      rw [if_pos rfl]
      simp only [cleanH]
      by_cases d : j < n
      · rw [if_pos d, if_pos d]
        congr 3
        have hle := hl t old (by rw [look_cons, if_pos rfl])
        obtain ⟨q1, q2⟩ := setCells_len' old off cs
        refine cleanC_same (q2 hle) fun k hk => ?_
        rw [q1 k fun ⟨a, b⟩ => ?_]
        simp only [covers, Bool.and_true] at hc
        split at hc
        · rename_i hb; have := Nat.le_of_ble_eq_true hb; omega
        · split at hc
          · cases hc
          · rename_i m hm
            rw [hm] at hc
            rw [within2_at _ k hc a (by omega)] at hk; cases hk
      · rw [if_neg d, if_neg d]
    · rw [if_neg c]
      simp only [cleanH]
      rw [ih fun t' o' hm => hl t' o' (by rw [look_cons, if_neg c]; exact hm)]

/-! ### What goes on may be told more of -/
theorem rowsIn_app {kx : Nat} {u : Upd U} (hf : fidsOK kx u = true) {n : Nat} (hn : n ≤ kx) : cleanR n (s.app kx u).rows = cleanR n s.rows := by
  unfold fidsOK at hf
  cases u with
  | rows l => exact cleanR_new hn l s.rows hf
  | grow old l => exact (cleanR_new hn l (disown old s.rows) hf).trans (cleanR_disown old s.rows)
  | _ => rfl
theorem Kept.app {kx : Nat} {u : Upd U} (hk : s.next ≤ kx) (hf : fidsOK kx u = true) (hs : setOK s u = true) : Kept s (s.app kx u) [] := by
  have hnx : (s.app kx u).next = s.next := by cases u <;> rfl
  refine ⟨by rw [hnx]; exact Nat.le_refl _, (match u with | .set id off cs => [(id, off, cs.length)] | _ => []), by cases u <;> rfl, fun n M W' hn _ hc => ?_⟩
  have hr := rowsIn_app (s := s) hf (Nat.le_trans hn hk)
  refine base_eq (by cases u <;> rfl) ?_ hr
  cases u with
  | box t cs => exact cleanH_new (Nat.le_trans hn hk) _
  | set id off cs =>
    by_cases hid : id < n
    · refine cleanH_set hc _ fun t old hl => ?_
      simp only [setOK, hl] at hs
      exact Nat.le_of_ble_eq_true hs
    · exact cleanH_upd (fun c => absurd c hid) _
  | _ => rfl
theorem rstep_kept {ops : Array Oper} {o : Oper} {ob : Option Prop} (h : rstep P Γ ops s s.next o = some (ob, s')) : Kept s s' (match o.dst with | some d => [d] | none => []) := by
  unfold rstep at h
  split at h
  · split at h
    · rename_i ob' v u hr
      split at h
      · rename_i hok
        cases h
        simp only [Bool.and_eq_true] at hok
        exact (Kept.app (Nat.le_refl _) hok.1 hok.2).trans (Kept.put _ o.dst v) (fun d hd => by cases hd) (fun d hd => hd)
      · cases h
    · cases h
  · cases h

/-- A call that is read where it stands: what goes on may be told what it leaves as it was. -/
def InlG (I : Inl U) : Prop := ∀ st cal args (s : St U) Kn Kp p, I st cal args s Kn Kp = some p → p → ∀ Kn' Kp' : SV → St U → Prop, (∀ v s', Kn v s' → Kept s s' [] → Kn' v s') → (∀ v s', Kp v s' → Kept s s' [] → Kp' v s') → ∃ p', I st cal args s Kn' Kp' = some p' ∧ p'

def InlN (I : Inl U) : Prop := ∀ st cal args (s : St U) Kn Kp Kn' Kp', I st cal args s Kn Kp = none → I st cal args s Kn' Kp' = none
theorem special0_g {I : Inl U} (hI : InlG I) (hN : InlN I) {st : List Nat} {ops : Array Oper} {o : Oper} {Kn Kn' : TV → St U → Prop} {Kp Kp' : SV → St U → Prop} {p : Prop} (h : special0 P Γ I st ops s o Kn Kp = some p) (hp : p) (hK : ∀ v s', Kn v s' → Kept s s' [] → Kn' v s') (hKp : ∀ v s', Kp v s' → Kept s s' [] → Kp' v s') : ∃ p', special0 P Γ I st ops s o Kn' Kp' = some p' ∧ p' := by
  unfold special0 at h ⊢
  split at h
  · rename_i j want hg
    split at h
    · rename_i c hop
      split at h
      · rename_i x hc
        split at h
        · rename_i d hd
          split at h
          · rename_i g hgb hoth
            split at h
            · rename_i cal ex hx
              split at h
              · cases h
              · rename_i hcon
                split at h
                · rename_i p' hI'
                  cases h
                  obtain ⟨hp1, hp2⟩ := hp
                  have hsome : ∃ p2, I st cal (c.args.toList.map (seen d want s).ev ++ ex) s (fun v s' => Kn' (.opt d want v) s') Kp' = some p2 ∧ (g = true → p2) := by
                    cases hg' : g with
                    | true =>
                      obtain ⟨p2, e1, e2⟩ := hI _ _ _ _ _ _ _ hI' (hp1 hg') (fun v s' => Kn' (.opt d want v) s') Kp' (fun v s' k q => hK _ s' k q) hKp
                      exact ⟨p2, e1, fun _ => e2⟩
                    | false =>
                      cases hq : I st cal (c.args.toList.map (seen d want s).ev ++ ex) s (fun v s' => Kn' (.opt d want v) s') Kp' with
                      | some p2 => exact ⟨p2, rfl, fun c => by cases c⟩
                      | none => have := hN _ _ _ _ _ _ (fun v s' => Kn (.opt d want v) s') Kp hq; rw [hI'] at this; cases this
                  obtain ⟨p2, e1, e2⟩ := hsome
                  rw [e1]
                  exact ⟨_, rfl, e2, fun hg0 => hK _ _ (hp2 hg0) (Kept.next s [] (Nat.le_succ _))⟩
                · cases h
            · cases h
          · cases h
        · cases h
      · cases h
    · cases h
  · rename_i hg
    split at h
    · rename_i c hop
      split at h
      · rename_i x hc
        split at h
        · rename_i cal ex hx
          split at h
          · cases h
          · rename_i hcon
            try simp only [hx, hcon]
            exact hI _ _ _ _ _ _ _ h hp _ _ (fun v s' k q => hK (.pl v) s' k q) hKp
        · cases h
      · cases h
    · rename_i op t x y t2 hop
      split at h
      · rename_i e hu
        split at h
        · rename_i fid hx hy
          split at h
          · rename_i r hl
            try simp only [hu, hx, hy, hl]
            split at h
            · cases h
              exact ⟨_, rfl, fun b hb => hK _ _ (hp b hb) (Kept.next s [] (Nat.le_succ _))⟩
            · cases h
              exact ⟨_, rfl, fun b hb => hK _ _ (hp b hb) (Kept.next s [] (Nat.le_succ _))⟩
            · cases h
          · cases h
        · cases h
      · cases h
    · rename_i t x j hop
      split at h
      · rename_i n e id off kd k hu e1 e2
        try simp only [hu, e1, e2]
        split at h
        · rename_i _ z hgl hn4 hz
          try simp only [hgl, hn4, hz]
          cases h
          exact ⟨_, rfl, hp.1, splitI_mono (fun m hm => hK _ _ hm (Kept.next s [] (Nat.le_succ _))) hp.2⟩
        · cases h
      · cases h
    · rename_i t x lo hop
      split at h
      · rename_i e fid kd k hu e1 e2
        try simp only [hu, e1, e2]
        split at h
        · rename_i r z hl hz
          try simp only [hl, hz]
          split at h
          · rename_i hoz
            try simp only [hoz]
            cases h
            refine ⟨_, rfl, hp.1, hK _ _ hp.2 ?_⟩
            exact (Kept.app (u := .grow fid [(16 * s.next, ⟨r.c, r.l.drop k.toNat, true⟩)]) (Nat.le_refl _) (by simp [fidsOK, rowsIn]) rfl).trans (Kept.next _ [] (Nat.le_succ _)) (fun d hd => by cases hd) (fun d hd => by cases hd)
          · cases h
        · cases h
      · cases h
    · cases h
theorem special0_none {I : Inl U} (hI : InlN I) {st : List Nat} {ops : Array Oper} {o : Oper} {Kn Kn' : TV → St U → Prop} {Kp Kp' : SV → St U → Prop} (h : special0 P Γ I st ops s o Kn Kp = none) : special0 P Γ I st ops s o Kn' Kp' = none := by
  unfold special0 at h ⊢
  split at h
  · split at h
    · split at h
      · split at h
        · split at h
          · split at h
            · split at h
              · rfl
              · split at h
                · cases h
                · rename_i hI'
                  rw [hI _ _ _ _ _ _ _ _ hI']
            · rfl
          · rfl
        · rfl
      · rfl
    · rfl
  · split at h
    · split at h
      · split at h
        · split at h
          · rfl
          · exact hI _ _ _ _ _ _ _ _ h
        · rfl
      · rfl
    · split at h
      · split at h
        · split at h
          · split at h
            · cases h
            · cases h
            · rfl
          · rfl
        · rfl
      · rfl
    · split at h
      · split at h
        · cases h
        · rfl
      · rfl
    · split at h
      · split at h
        · split at h
          · cases h
          · rfl
        · rfl
      · rfl
    · rfl

theorem keptX (s : St U) (r : List (Nat × RS U)) : Kept s { s with next := s.next + 1, recs := r } [] := ⟨Nat.le_succ _, [], rfl, fun _ _ _ _ _ _ => rfl⟩
theorem xSpecial_g {o : Oper} {Kn Kn' : TV → St U → Prop} {p : Prop} (h : xSpecial P Γ s o Kn = some p) (hp : p) (hK : ∀ v s', Kn v s' → Kept s s' [] → Kn' v s') : ∃ p', xSpecial P Γ s o Kn' = some p' ∧ p' := by
  unfold xSpecial at h ⊢
  split at h
  · cases h
  · split at h
    · rename_i t x y hop
      unfold xStore at h ⊢
      split at h
      · split at h
        · split at h
          · split at h
            · cases h
              exact ⟨_, rfl, hK _ _ hp (keptX s _)⟩
            · cases h
          · cases h
        · cases h
      · cases h
    · rename_i t l c hop
      unfold xMake at h ⊢
      split at h
      · split at h
        · split at h
          · split at h
            · cases h
              exact ⟨_, rfl, hp.1, hK _ _ hp.2 (keptX s _)⟩
            · cases h
          · cases h
        · cases h
      · cases h
    · rename_i t len parts hop
      unfold xBuild0 at h ⊢
      split at h
      · split at h
        · split at h
          · cases h
            exact ⟨_, rfl, hK _ _ hp (keptX s _)⟩
          · cases h
        · cases h
      · cases h
    · rename_i c hop
      split at h
      · split at h
        · unfold xAppend at h ⊢
          split at h
          · split at h
            · split at h
              · cases h
                exact ⟨_, rfl, hp.1, hK _ _ hp.2 (keptX s _)⟩
              · cases h
            · cases h
          · cases h
        · cases h
      · unfold xCall at h ⊢
        split at h
        · split at h
          · split at h
            · split at h
              · cases h
                refine ⟨_, rfl, ?_⟩
                rename_i r _ _ _ _
                cases hpre : r.pre with
                | none => rw [hpre] at hp; exact hK _ _ hp (keptX s _)
                | some q => rw [hpre] at hp; exact ⟨hp.1, hK _ _ hp.2 (keptX s _)⟩
              · cases h
            · cases h
          · cases h
        · cases h
      · cases h
    · cases h
theorem xSpecial_none {o : Oper} {Kn Kn' : TV → St U → Prop} (h : xSpecial P Γ s o Kn = none) : xSpecial P Γ s o Kn' = none := by
  unfold xSpecial at h ⊢
  split at h
  · rfl
  · split at h
    · unfold xStore at h ⊢
      split at h
      · split at h
        · split at h
          · split at h
            · cases h
            · rfl
          · rfl
        · rfl
      · rfl
    · unfold xMake at h ⊢
      split at h
      · split at h
        · split at h
          · split at h
            · cases h
            · rfl
          · rfl
        · rfl
      · rfl
    · unfold xBuild0 at h ⊢
      split at h
      · split at h
        · split at h
          · cases h
          · rfl
        · rfl
      · rfl
    · split at h
      · split at h
        · unfold xAppend at h ⊢
          split at h
          · split at h
            · split at h
              · cases h
              · rfl
            · rfl
          · rfl
        · rfl
      · unfold xCall at h ⊢
        split at h
        · split at h
          · split at h
            · split at h
              · cases h
              · rfl
            · rfl
          · rfl
        · rfl
      · rfl
    · rfl
theorem andP_imp {ob : Option Prop} {q q' : Prop} (h : andP ob q) (f : q → q') : andP ob q' := by
  cases ob with
  | none => exact f h
  | some p => exact ⟨h.1, f h.2⟩
theorem special_g {I : Inl U} (hI : InlG I) (hN : InlN I) {st : List Nat} {ops : Array Oper} {o : Oper} {Kn Kn' : TV → St U → Prop} {Kp Kp' : SV → St U → Prop} {p : Prop} (h : special P Γ I st ops s o Kn Kp = some p) (hp : p) (hK : ∀ v s', Kn v s' → Kept s s' [] → Kn' v s') (hKp : ∀ v s', Kp v s' → Kept s s' [] → Kp' v s') : ∃ p', special P Γ I st ops s o Kn' Kp' = some p' ∧ p' := by
  unfold special at h ⊢
  cases h0 : special0 P Γ I st ops s o Kn Kp with
  | some q =>
    rw [h0] at h
    cases h
    obtain ⟨p', e1, e2⟩ := special0_g hI hN h0 hp hK hKp
    rw [e1]; exact ⟨_, rfl, e2⟩
  | none =>
    rw [h0] at h
    rw [special0_none hN h0]
    simp only at h ⊢
    split at h
    · cases hx : xSpecial P Γ s o Kn with
      | some q =>
        rw [hx] at h
        cases h
        obtain ⟨p', e1, e2⟩ := xSpecial_g hx hp hK
        rw [e1]; exact ⟨_, rfl, e2⟩
      | none =>
        rw [hx] at h
        rw [xSpecial_none hx]
        simp only at h ⊢
        unfold xPlain at h ⊢
        split at h
        · cases h
        · split at h
          · rename_i r hr
            split at h
            · rename_i hok
              cases h
              simp only [Bool.and_eq_true] at hok
              refine ⟨_, rfl, andP_imp hp fun q => hK _ _ q ?_⟩
              exact (Kept.app (Nat.le_refl _) hok.1 hok.2).trans (Kept.next _ [] (Nat.le_succ _)) (fun d hd => by cases hd) (fun d hd => by cases hd)
            · cases h
          · cases h
    · cases h
theorem special_none {I : Inl U} (hI : InlN I) {st : List Nat} {ops : Array Oper} {o : Oper} {Kn Kn' : TV → St U → Prop} {Kp Kp' : SV → St U → Prop} (h : special P Γ I st ops s o Kn Kp = none) : special P Γ I st ops s o Kn' Kp' = none := by
  unfold special at h ⊢
  cases h0 : special0 P Γ I st ops s o Kn Kp with
  | some q => rw [h0] at h; cases h
  | none =>
    rw [h0] at h
    rw [special0_none hI h0]
    simp only at h ⊢
    split at h
    · cases hx : xSpecial P Γ s o Kn with
      | some q => rw [hx] at h; cases h
      | none =>
        rw [hx] at h
        rw [xSpecial_none hx]
        simp only at h ⊢
        unfold xPlain at h ⊢
        split at h
        · rfl
        · split at h
          · split at h
            · cases h
            · rfl
          · rfl
    · rfl
theorem freeze1_kept (fid : Nat) (s : St U) : Kept s (freeze1 fid s) [] := by
  unfold freeze1
  split
  · refine ⟨Nat.le_refl _, [(fid / 16, 0, 0)], rfl, fun n M W' _ _ hc => base_eq rfl rfl ?_⟩
    simp only [covers, Bool.and_true] at hc
    split at hc
    · rename_i hb
      have := Nat.le_of_ble_eq_true hb
      show cleanR n ((fid, _) :: s.rows) = cleanR n s.rows
      simp only [cleanR]
      rw [if_neg (by omega)]
    · cases hc
  · exact Kept.refl s _
theorem freezeL_kept : ∀ (l : List Nat) (s : St U), Kept s (freezeL l s) []
  | [], s => Kept.refl s _
  | f :: l, s => (freeze1_kept f s).trans (freezeL_kept l (freeze1 f s)) (fun d hd => by cases hd) (fun d hd => by cases hd)

theorem runOps_g {I : Inl U} (hI : InlG I) (hN : InlN I) {st : List Nat} {ops : Array Oper} : ∀ (l : List Oper) (s : St U) (K K' : Ctl → St U → Prop), runOps P Γ I st ops l s K → (∀ ctl s', K ctl s' → Kept s s' (dsts l) → K' ctl s') → runOps P Γ I st ops l s K'
  | [], s, K, K', h, hK => hK _ _ h (Kept.clear s _)
  | o :: l, s, K, K', h, hK => by
    have hdst : ∀ {a b : St U} {W}, Kept a b (match o.dst with | some d => [d] | none => []) → (∀ d ∈ W, d ∈ dsts (o :: l)) → ∀ {c : St U}, Kept b c W → Kept a c (dsts (o :: l)) := fun {a b W} h1 hW {c} h2 => h1.trans h2 (fun d hd => by
      cases hd' : o.dst with
      | none => rw [hd'] at hd; cases hd
      | some d0 => rw [hd'] at hd; simp only [dsts, hd']; rcases List.mem_singleton.mp hd with rfl; exact List.mem_cons_self ..) hW
    have hsub : ∀ d ∈ dsts l, d ∈ dsts (o :: l) := fun d hd => by
      simp only [dsts]; cases o.dst with
      | none => exact hd
      | some d0 => exact List.mem_cons_of_mem _ hd
    simp only [runOps] at h ⊢
    cases hsp : special P Γ I st ops s o (thenPut o.dst fun s' => runOps P Γ I st ops l s' K) (fun v s' => K (.panic v) (clear s')) with
    | some p =>
      rw [hsp] at h
      obtain ⟨p', e1, e2⟩ := special_g hI hN hsp h (Kn' := thenPut o.dst fun s' => runOps P Γ I st ops l s' K') (Kp' := fun v s' => K' (.panic v) (clear s')) (fun v s1 hk hkept => by
        unfold thenPut at hk ⊢
        cases hput : putOK s1 o.dst with
        | false => rw [hput] at hk; exact hk.elim
        | true =>
          rw [hput] at hk
          refine runOps_g hI hN l _ K K' hk fun ctl s' k q => hK ctl s' k ?_
          refine Kept.trans hkept (hdst (Kept.put s1 o.dst v) hsub q) (fun d hd => by cases hd) (fun d hd => hd))
        (fun v s1 hk hkept => hK _ _ hk (hkept.trans (Kept.clear s1 []) (fun d hd => by cases hd) (fun d hd => by cases hd)))
      rw [e1]; exact e2
    | none =>
      rw [hsp] at h
      rw [special_none hN (Kn' := thenPut o.dst fun s' => runOps P Γ I st ops l s' K') (Kp' := fun v s' => K' (.panic v) (clear s')) hsp]
      simp only at h ⊢
      split at h
      · rename_i ob s' hr
        have hk := rstep_kept hr
        have : ∀ {p : Prop} {q q' : Prop}, andP ob q → (q → q') → andP ob q' := fun {p q q'} h f => by
          cases ob with
          | none => exact f h
          | some p => exact ⟨h.1, f h.2⟩
        refine this (p := True) h fun h => runOps_g hI hN l _ K K' h fun ctl s1 k q => hK ctl s1 k ?_
        exact hdst (hk.trans (Kept.next s' [] (Nat.le_succ _)) (fun d hd => hd) (fun d hd => by cases hd)) hsub q
      · cases hon : xOn Γ with
        | false => rw [hon] at h; exact h.elim
        | true =>
          rw [hon] at h
          cases hfs : slsG s o with
          | nil => rw [hfs] at h; exact h.elim
          | cons f fs =>
            rw [hfs] at h
            simp only at h ⊢
            have hfz := freezeL_kept (f :: fs) s
            cases hsp : special P Γ I st ops (freezeL (f :: fs) s) o (thenPut o.dst fun s' => runOps P Γ I st ops l s' K) (fun v s' => K (.panic v) (clear s')) with
            | some p =>
              rw [hsp] at h
              obtain ⟨p', e1, e2⟩ := special_g hI hN hsp h (Kn' := thenPut o.dst fun s' => runOps P Γ I st ops l s' K') (Kp' := fun v s' => K' (.panic v) (clear s')) (fun v s1 hk hkept => by
                have hkept := hfz.trans (W := []) hkept (fun d hd => by cases hd) (fun d hd => by cases hd)
                unfold thenPut at hk ⊢
                cases hput : putOK s1 o.dst with
                | false => rw [hput] at hk; exact hk.elim
                | true =>
                  rw [hput] at hk
                  refine runOps_g hI hN l _ K K' hk fun ctl s' k q => hK ctl s' k ?_
                  refine Kept.trans hkept (hdst (Kept.put s1 o.dst v) hsub q) (fun d hd => by cases hd) (fun d hd => hd))
                (fun v s1 hk hkept => hK _ _ hk ((hfz.trans (W := []) hkept (fun d hd => by cases hd) (fun d hd => by cases hd)).trans (Kept.clear s1 []) (fun d hd => by cases hd) (fun d hd => by cases hd)))
              rw [e1]; exact e2
            | none =>
              rw [hsp] at h
              rw [special_none hN (Kn' := thenPut o.dst fun s' => runOps P Γ I st ops l s' K') (Kp' := fun v s' => K' (.panic v) (clear s')) hsp]
              simp only at h ⊢
              split at h
              · rename_i ob s' hr
                have hr' := hr
                rw [← (freezeL_rest (f :: fs) s).2] at hr'
                have hk := rstep_kept hr'
                have hk := hfz.trans (W := (match o.dst with | some d => [d] | none => [])) hk (fun d hd => by cases hd) (fun d hd => hd)
                have : ∀ {p : Prop} {q q' : Prop}, andP ob q → (q → q') → andP ob q' := fun {p q q'} h f => by
                  cases ob with
                  | none => exact f h
                  | some p => exact ⟨h.1, f h.2⟩
                refine this (p := True) h fun h => runOps_g hI hN l _ K K' h fun ctl s1 k q => hK ctl s1 k ?_
                exact hdst (hk.trans (Kept.next s' [] (Nat.le_succ _)) (fun d hd => hd) (fun d hd => by cases hd)) hsub q
              · exact h.elim

/-! ### Regions whose order is open -/
theorem rows_kept {D : Nat → Bool} {n b : Nat} (hn : n ≤ b) : ∀ (l : List (Eff U)) (k : Nat) (h : List (Nat × Row U)), (∀ (i : Nat) e, l[i]? = some e → fidsOK (b + (k + i)) e.u = true) → cleanR n (rowsOf D l k h) = cleanR n h
  | [], k, h, _ => rfl
  | e :: l, k, h, hf => by
    simp only [rowsOf]
    rw [rows_kept hn l (k + 1) _ fun i e' he => by have := hf (i + 1) e' (by simpa using he); rw [show k + 1 + i = k + (i + 1) by omega]; exact this]
    have h0 := hf 0 e rfl
    unfold fidsOK at h0
    unfold rowStep
    cases D k with
    | false => rfl
    | true =>
    cases hu : rowsIn e.u with
    | none => rfl
    | some l' => rw [hu] at h0; exact cleanR_new (kx := b + (k + 0)) (by omega) l' h h0
theorem dis_kept {D : Nat → Bool} {n : Nat} : ∀ (l : List (Eff U)) (k : Nat) (h : List (Nat × Row U)), cleanR n (disOf D l k h) = cleanR n h
  | [], k, h => rfl
  | e :: l, k, h => by
    simp only [disOf]
    rw [dis_kept l (k + 1)]
    unfold disStep
    cases D k with
    | false => rfl
    | true =>
    cases growsOf e.u with
    | none => rfl
    | some old => exact cleanR_disown old h
theorem boxes_kept {D : Nat → Bool} {n b : Nat} (hn : n ≤ b) {M : List (Nat × Nat)} : ∀ (l : List (Eff U)) (k : Nat) (h : List (Nat × TypeId × List Atom)), cleanH n M (boxesOf b D l k h) = cleanH n M h ∧ ∀ id, id < b → look id (boxesOf b D l k h) = look id h
  | [], k, h => ⟨rfl, fun _ _ => rfl⟩
  | e :: l, k, h => by
    have ih := fun h' => boxes_kept (D := D) hn (M := M) l (k + 1) h'
    simp only [boxesOf]
    cases D k with
    | false => exact ih h
    | true =>
    cases hu : e.u with
    | box t cs =>
      obtain ⟨q1, q2⟩ := ih ((b + k, t, cs) :: h)
      exact ⟨q1.trans (cleanH_new (kx := b + k) (by omega) h), fun id hid => (q2 id hid).trans (by rw [look_cons, if_neg (by omega)])⟩
    | none => exact ih h
    | set _ _ _ => exact ih h
    | rows _ => exact ih h
    | grow _ _ => exact ih h
theorem sets_kept {D : Nat → Bool} {n : Nat} {M : List (Nat × Nat)} (hn : n ≤ s.next) : ∀ (l : List (Eff U)) (k : Nat) (h : List (Nat × TypeId × List Atom)), (∀ e ∈ l, setOK s e.u = true) → covers n M (logsOf l) = true → (∀ id, id < s.next → (look id h).map (fun x => x.2.length) = (look id s.heap).map (fun x => x.2.length)) →
    cleanH n M (setsOf D l k h) = cleanH n M h
  | [], k, h, _, _, _ => rfl
  | e :: l, k, h, hs, hc, hl => by
    simp only [setsOf]
    have h0 := hs e (List.mem_cons_self ..)
    have hrest := fun e' he => hs e' (List.mem_cons_of_mem _ he)
    cases hDk : D k with
    | false =>
      have hc' : covers n M (logsOf l) = true := by
        cases hu : e.u with
        | set id off cs =>
          simp only [logsOf, hu] at hc
          rw [show (id, off, cs.length) :: logsOf l = [(id, off, cs.length)] ++ logsOf l from rfl, covers_append] at hc
          exact hc.2
        | none => simp only [logsOf, hu] at hc; exact hc
        | box _ _ => simp only [logsOf, hu] at hc; exact hc
        | rows _ => simp only [logsOf, hu] at hc; exact hc
        | grow _ _ => simp only [logsOf, hu] at hc; exact hc
      exact sets_kept hn l (k + 1) h hrest hc' hl
    | true =>
    cases hu : e.u with
    | set id off cs =>
      simp only [logsOf, hu] at hc
      rw [show (id, off, cs.length) :: logsOf l = [(id, off, cs.length)] ++ logsOf l from rfl, covers_append] at hc
      have hstep : setStep true (.set id off cs : Upd U) h = upd1 id (fun old => setCells old off cs) h := rfl
      rw [hstep]
      have hlen : ∀ t old, id < s.next → look id h = some (t, old) → off + cs.length ≤ old.length := fun t old hid hlk => by
        have e1 := hl id hid
        rw [hlk] at e1
        rw [hu] at h0
        simp only [setOK] at h0
        cases hls : look id s.heap with
        | none => rw [hls] at e1; cases e1
        | some x =>
          obtain ⟨t', old'⟩ := x
          rw [hls] at e1 h0
          simp only [Option.map_some, Option.some.injEq] at e1
          have := Nat.le_of_ble_eq_true h0
          omega
      rw [sets_kept hn l (k + 1) _ hrest hc.2 fun id' hid' => ?_]
      · by_cases hid : id < n
        · exact cleanH_set hc.1 _ fun t old hlk => hlen t old (by omega) hlk
        · exact cleanH_upd (fun c => absurd c hid) _
      · rw [look_upd1]
        by_cases c : id' = id
        · subst c
          rw [if_pos rfl, ← hl id' hid']
          cases hlk : look id' h with
          | none => rfl
          | some x => obtain ⟨t, old⟩ := x; simp only [Option.map_some, setCells_length _ _ _ (hlen t old hid' hlk)]
        · rw [if_neg c]; exact hl id' hid'
    | none => simp only [logsOf, hu] at hc; exact sets_kept hn l (k + 1) h hrest hc hl
    | box _ _ => simp only [logsOf, hu] at hc; exact sets_kept hn l (k + 1) h hrest hc hl
    | rows _ => simp only [logsOf, hu] at hc; exact sets_kept hn l (k + 1) h hrest hc hl
    | grow _ _ => simp only [logsOf, hu] at hc; exact sets_kept hn l (k + 1) h hrest hc hl
theorem tmps_kept {n : Nat} {W : List Nat} : ∀ (l : List (Eff U)) (k : Nat) (t : List TV), (∀ e ∈ l, ∀ d, e.dst = some d → mem d W = true) → cleanT n W 0 (tmpsOf (fun _ => true) l k t) = cleanT n W 0 t
  | [], k, t, _ => rfl
  | e :: l, k, t, h => by
    simp only [tmpsOf]
    rw [tmps_kept l (k + 1) _ fun e' he => h e' (List.mem_cons_of_mem _ he)]
    have h0 := h e (List.mem_cons_self ..)
    cases hd : e.dst with
    | none => rfl
    | some d =>
      refine cleanT_same (fun j hj => set_cT fun c => ?_) (by simp [putT])
      subst c
      rw [h0 d hd] at hj; cases hj
theorem stOf_kept {W : List Nat} {effs : List (Eff U)} {tm : List TV} {nx : Nat} (hnx : s.next ≤ nx) (D : Nat → Bool)
    (htm : ∀ (n : Nat) W', n ≤ s.next → (∀ d ∈ W, mem d W' = true) → cleanT n W' 0 tm = cleanT n W' 0 s.tmps)
    (he : ∀ (j : Nat) e, effs[j]? = some e → fidsOK (s.next + j) e.u = true ∧ setOK s e.u = true) : Kept s { stOf D effs s with tmps := tm, next := nx, log := logsOf effs ++ s.log } W := by
  refine ⟨hnx, logsOf effs, rfl, fun n M W' hn hW hc => ?_⟩
  have hmem : ∀ e ∈ effs, ∃ j : Nat, effs[j]? = some e := fun e hm => List.getElem?_of_mem hm
  obtain ⟨b1, b2⟩ := boxes_kept (D := D) (b := s.next) hn (M := M) effs 0 s.heap
  refine base_eq (htm n W' hn hW) ?_ ?_
  · refine (sets_kept hn effs 0 _ (fun e hm => by obtain ⟨j, hj⟩ := hmem e hm; exact (he j e hj).2) hc (fun id hid => by rw [b2 id hid])).trans b1
  · exact (dis_kept effs 0 _).trans (rows_kept (b := s.next) hn effs 0 s.rows fun j e hj => by rw [Nat.zero_add]; exact (he j e hj).1)
theorem runDraw_g {ops : Array Oper} {W : List Nat} {E : Nat → Bool} {all : List Nat} : ∀ (l : List Oper) (ms : List Nat) (i : Nat) (effs : List (Eff U)) (K K' : List (Eff U) → Prop), effs.length = i → (∀ (j : Nat) e, effs[j]? = some e → fidsOK (s.next + j) e.u = true ∧ setOK s e.u = true ∧ (∀ d, e.dst = some d → d ∈ W) ∧ (E j = false → e = dumE)) → (∀ o ∈ l, ∀ d, o.dst = some d → d ∈ W) →
    runDraw P Γ ops s E all l ms i effs K → (∀ effs', K effs' → (∀ (j : Nat) e, effs'[j]? = some e → fidsOK (s.next + j) e.u = true ∧ setOK s e.u = true ∧ (∀ d, e.dst = some d → d ∈ W) ∧ (E j = false → e = dumE)) → K' effs') → runDraw P Γ ops s E all l ms i effs K'
  | [], ms, i, effs, K, K', hi, he, hl, h, hK => by
    have e1 : ∀ K : List (Eff U) → Prop, runDraw P Γ ops s E all [] ms i effs K = (match heapOK E s all effs ops.toList 0 with
      | true => K effs
      | false => False) := fun K => by cases ms <;> rfl
    rw [e1] at h ⊢
    cases hk : heapOK E s all effs ops.toList 0 with
    | false => rw [hk] at h; exact h.elim
    | true => rw [hk] at h; exact hK _ h he
  | o :: l, [], i, effs, K, K', hi, he, hl, h, hK => (show False from h).elim
  | o :: l, m :: ms, i, effs, K, K', hi, he, hl, h, hK => by
    simp only [runDraw] at h ⊢
    cases hEi : E i with
    | false =>
      rw [hEi] at h
      refine runDraw_g l ms (i + 1) _ K K' (by simp [hi]) (fun j e hj => ?_) (fun o' ho' => hl o' (List.mem_cons_of_mem _ ho')) h hK
      rw [List.getElem?_append] at hj
      split at hj
      · exact he j e hj
      · rename_i hge
        cases hj0 : j - effs.length with
        | zero =>
          rw [hj0] at hj
          simp at hj
          subst hj
          exact ⟨rfl, rfl, fun d hd => (by cases hd), fun _ => rfl⟩
        | succ q => rw [hj0] at hj; simp at hj
    | true =>
    rw [hEi] at h
    dsimp only at h ⊢
    split at h
    · rename_i ob v u hr
      split at h
      · rename_i hok
        have this : ∀ {q q' : Prop}, andP ob q → (q → q') → andP ob q' := fun {q q'} h f => by
          cases ob with
          | none => exact f h
          | some p => exact ⟨h.1, f h.2⟩
        refine this h fun h => runDraw_g l ms (i + 1) _ K K' (by simp [hi]) (fun j e hj => ?_) (fun o' ho' => hl o' (List.mem_cons_of_mem _ ho')) h hK
        rw [List.getElem?_append] at hj
        split at hj
        · exact he j e hj
        · rename_i hge
          simp only [Bool.and_eq_true] at hok
          cases hj0 : j - effs.length with
          | zero =>
            rw [hj0] at hj
            simp at hj
            subst hj
            have : j = i := by omega
            subst this
            exact ⟨hok.1.1.1, hok.2, fun d hd => hl o (List.mem_cons_self ..) d hd, fun c => by rw [hEi] at c; cases c⟩
          | succ q => rw [hj0] at hj; simp at hj
      · exact h.elim
    · exact h.elim
theorem junk_kept {n : Nat} {W : List Nat} {X : Nat → Bool} : ∀ (l : List (Eff U)) (k : Nat) (t : List TV), (∀ e ∈ l, ∀ d, e.dst = some d → mem d W = true) → cleanT n W 0 (junkX X l k t) = cleanT n W 0 t
  | [], k, t, _ => rfl
  | e :: l, k, t, h => by
    simp only [junkX]
    rw [junk_kept l (k + 1) _ fun e' he => h e' (List.mem_cons_of_mem _ he)]
    have h0 := h e (List.mem_cons_self ..)
    split
    · rename_i d _ hd
      refine cleanT_same (fun j hj => ?_) (by simp)
      rw [List.getElem?_set, if_neg]
      intro c
      subst c
      rw [h0 d hd] at hj; cases hj
    · rfl
theorem tmps_keptD {n : Nat} {W : List Nat} {D : Nat → Bool} : ∀ (l : List (Eff U)) (k : Nat) (t : List TV), (∀ e ∈ l, ∀ d, e.dst = some d → mem d W = true) → cleanT n W 0 (tmpsOf D l k t) = cleanT n W 0 t
  | [], k, t, _ => rfl
  | e :: l, k, t, h => by
    simp only [tmpsOf]
    rw [tmps_keptD l (k + 1) _ fun e' he => h e' (List.mem_cons_of_mem _ he)]
    have h0 := h e (List.mem_cons_self ..)
    cases D k with
    | false => rfl
    | true =>
    cases hd : e.dst with
    | none => rfl
    | some d =>
      refine cleanT_same (fun j hj => set_cT fun c => ?_) (by simp [putT])
      subst c
      rw [h0 d hd] at hj; cases hj
theorem dsts_mem (l : List Oper) (o : Oper) (h : o ∈ l) (d : Nat) (hd : o.dst = some d) : d ∈ dsts l := by
  induction l with
  | nil => cases h
  | cons x l ih =>
    simp only [dsts]
    rcases List.mem_cons.mp h with e | h
    · subst e; rw [hd]; exact List.mem_cons_self ..
    · have := ih h
      cases x.dst with
      | none => exact this
      | some _ => exact List.mem_cons_of_mem _ this
theorem allV_imp {f g : Nat → Prop} : ∀ {l : List Nat}, allV l f → (∀ m ∈ l, f m → g m) → allV l g
  | [], _, _ => True.intro
  | [m], h, k => k m (List.mem_singleton.mpr rfl) h
  | m :: m' :: r, h, k => ⟨k m (List.mem_cons_self ..) h.1, allV_imp (l := m' :: r) h.2 fun x hx => k x (List.mem_cons_of_mem _ hx)⟩
theorem drawC_g {I : Inl U} (hI : InlG I) (hN : InlN I) {st : List Nat} {ops : Array Oper} {ms : List Nat} {K K' : Ctl → St U → Prop} : ∀ (n Z : Nat) (old : List (Nat × SV)) (s s0 : St U), Kept s0 s (dsts ops.toList) → drawC P Γ I st ops ms K n Z old s → (∀ ctl s', K ctl s' → Kept s0 s' (dsts ops.toList) → K' ctl s') → drawC P Γ I st ops ms K' n Z old s
  | 0, Z, old, s, s0, hs0, h, hK => (show False from h).elim
  | n + 1, Z, old, s, s0, hs0, h, hK => by
    unfold drawC at h ⊢
    have hd0 : ∀ o ∈ ops.toList, ∀ d, o.dst = some d → d ∈ dsts ops.toList := fun o ho d hd => dsts_mem _ o ho d hd
    cases hb : baseOK s Z ops.toList 0 with
    | false => rw [hb] at h; exact h.elim
    | true =>
    rw [hb] at h
    dsimp only at h ⊢
    have tall : ∀ {X : Nat → Bool} {D : Nat → Bool} {effs : List (Eff U)}, (∀ (j : Nat) e, effs[j]? = some e → ∀ d, e.dst = some d → d ∈ dsts ops.toList) → ∀ (n : Nat) W', n ≤ s.next → (∀ d ∈ dsts ops.toList, mem d W' = true) → cleanT n W' 0 (tmpsOf D effs 0 s.tmps) = cleanT n W' 0 s.tmps ∧ cleanT n W' 0 (junkX X effs 0 (tmpsOf D effs 0 s.tmps)) = cleanT n W' 0 s.tmps := fun {X D effs} he n W' hn hW => by
      have hh : ∀ e ∈ effs, ∀ d, e.dst = some d → mem d W' = true := fun e hm d hd => by
        obtain ⟨j, hj⟩ := List.getElem?_of_mem hm; exact hW d (he j e hj d hd)
      have h1 := tmps_keptD (n := n) (D := D) effs 0 s.tmps hh
      exact ⟨h1, (junk_kept (X := X) effs 0 _ hh).trans h1⟩
    cases hc : nextCall Γ Z ops.toList 0 with
    | none =>
      rw [hc] at h
      dsimp only at h ⊢
      refine runDraw_g ops.toList _ 0 [] _ _ rfl (fun j e hj => by simp at hj) hd0 h fun effs h he => andP_imp h fun h => hK _ _ h ?_
      have hk : Kept s { stOf (fun _ => true) effs s with next := s.next + ops.size, log := logsOf effs ++ s.log } (dsts ops.toList) := stOf_kept (tm := tmpsOf (fun _ => true) effs 0 s.tmps) (Nat.le_add_right _ _) (fun _ => true) (fun n W' hn hW => (tall (X := fun _ => false) (fun j e hj d hd => (he j e hj).2.2.1 d hd) n W' hn hW).1) (fun j e hj => ⟨(he j e hj).1, (he j e hj).2.1⟩)
      exact (hs0.trans hk (fun d hd => hd) (fun d hd => hd)).trans (Kept.clear _ _) (fun d hd => hd) (fun d hd => hd)
    | some c =>
      rw [hc] at h
      dsimp only at h ⊢
      cases hch : chainOK Γ Z c ms ops.toList 0 with
      | false => rw [hch] at h; exact h.elim
      | true =>
      rw [hch] at h
      dsimp only at h ⊢
      refine runDraw_g ops.toList _ 0 [] _ _ rfl (fun j e hj => by simp at hj) hd0 h fun effs h he => andP_imp h fun h => ?_
      refine allV_imp h fun m _ h => ?_
      cases hx : xOK (s.next + ops.size) (freeY Z c ms effs m) effs 0 with
      | false => rw [hx] at h; exact h.elim
      | true =>
      rw [hx] at h
      cases ho : ops[c]? with
      | none => rw [ho] at h; exact h.elim
      | some o =>
      rw [ho] at h
      dsimp only at h ⊢
      have hmid : Kept s (midSt s (freeY Z c ms effs m) m effs ops.size) (dsts ops.toList) := by
        exact stOf_kept (Nat.le_add_right _ _) _ (fun n W' hn hW => (tall (fun j e hj d hd => (he j e hj).2.2.1 d hd) n W' hn hW).2) (fun j e hj => ⟨(he j e hj).1, (he j e hj).2.1⟩)
      cases hsp : special P Γ I ((3000000 + c) :: st) ops (midSt s (freeY Z c ms effs m) m effs ops.size) o (thenPut o.dst fun s2 => drawC P Γ I st ops ms K n (Z ||| m ||| (1 <<< c)) (oldOf (freeY Z c ms effs m) effs 0) s2) (fun v s' => K (.panic v) (clear s')) with
      | none => rw [hsp] at h; exact h.elim
      | some p =>
      rw [hsp] at h
      have hs1 := hs0.trans hmid (fun d hd => hd) (fun d hd => hd)
      obtain ⟨p', e1, e2⟩ := special_g hI hN hsp h (Kn' := thenPut o.dst fun s2 => drawC P Γ I st ops ms K' n (Z ||| m ||| (1 <<< c)) (oldOf (freeY Z c ms effs m) effs 0) s2) (Kp' := fun v s' => K' (.panic v) (clear s')) (fun v s1 hk hkept => by
        unfold thenPut at hk ⊢
        cases hput : putOK s1 o.dst with
        | false => rw [hput] at hk; exact hk.elim
        | true =>
          rw [hput] at hk
          refine drawC_g hI hN n _ _ _ s0 ?_ hk hK
          have q1 := hs1.trans hkept (fun d hd => hd) (fun d hd => by cases hd)
          refine q1.trans (Kept.put s1 o.dst v) (fun d hd => hd) (fun d hd => ?_)
          cases hod : o.dst with
          | none => rw [hod] at hd; cases hd
          | some d0 => rw [hod] at hd; rcases List.mem_singleton.mp hd with rfl; exact hd0 o (List.mem_of_getElem? (by rw [Array.getElem?_toList]; exact ho)) _ hod)
        (fun v s1 hk hkept => hK _ _ hk ((hs1.trans hkept (fun d hd => hd) (fun d hd => by cases hd)).trans (Kept.clear s1 []) (fun d hd => hd) (fun d hd => by cases hd)))
      rw [e1]; exact e2
theorem runRegion_g {I : Inl U} (hI : InlG I) (hN : InlN I) {st : List Nat} {ops : Array Oper} {K K' : Ctl → St U → Prop} (h : runRegion P Γ I st ops s K) (hK : ∀ ctl s', K ctl s' → Kept s s' (dsts ops.toList) → K' ctl s') : runRegion P Γ I st ops s K' := by
  unfold runRegion at h ⊢
  split at h
  · exact drawC_g hI hN 24 0 [] s s (Kept.refl s _) h hK
  · exact h.elim

/-! ### Texts -/
theorem addMods_keeps {e0 : St U} {W : List Nat} {n : Nat} {M : List (Nat × Nat)} (hW : True) : ∀ (ms : List (Mod U)) (k : Nat) (h : St U) (W' : List Nat), modsOK W ms = true → (∀ d, mem d W = true → mem d W' = true) → n ≤ k → covers n M (mcLog (modCells e0 ms)) = true →
    cleanT n W' 0 (addMods e0 ms k h).tmps = cleanT n W' 0 h.tmps ∧ cleanH n M (addMods e0 ms k h).heap = cleanH n M h.heap ∧ cleanR n (addMods e0 ms k h).rows = cleanR n h.rows
  | [], k, h, W', _, _, _, _ => ⟨rfl, rfl, rfl⟩
  | m :: ms, k, h, W', hm, hs, hn, hc => by
    have row : ∀ {c : U.C} {l : List (U.T c)} {own : Bool} (r : List (Nat × Row U)), cleanR n ((16 * k, (⟨c, l, own⟩ : Row U)) :: r) = cleanR n r := fun {c l own} r => by
      simp only [cleanR]; rw [if_neg (by omega)]
    have cell : ∀ {id o : Nat} {x : Atom} (l : List (Nat × TypeId × List Atom)), (id < n → mem2 id o M = true) → cleanH n M (upd1 id (fun cs => setAt cs o x) l) = cleanH n M l := fun {id o x} l hmem => by
      refine cleanH_upd (fun hid cs => cleanC_same (by simp [setAt]) fun j hj => ?_) l
      unfold setAt
      rw [List.getElem?_set, if_neg]
      intro c
      subst c
      rw [hmem hid] at hj; cases hj
    cases m with
    | tv t v =>
      simp only [modsOK, Bool.and_eq_true] at hm
      obtain ⟨q1, q2, q3⟩ := addMods_keeps hW ms (k + 1) { h with tmps := h.tmps.set t (.pl (.one (.v v))) } W' hm.2 hs (by omega) hc
      refine ⟨q1.trans (cleanT_same (fun j hj => set_cT fun c => ?_) (by simp)), q2, q3⟩
      subst c
      rw [hs t hm.1] at hj; cases hj
    | tr t c l own =>
      simp only [modsOK, Bool.and_eq_true] at hm
      obtain ⟨q1, q2, q3⟩ := addMods_keeps hW ms (k + 1) { h with tmps := h.tmps.set t (.pl (.one (.sl (16 * k)))), rows := (16 * k, ⟨c, l, own⟩) :: h.rows } W' hm.2 hs (by omega) hc
      refine ⟨q1.trans (cleanT_same (fun j hj => set_cT fun c => ?_) (by simp)), q2, q3.trans (row _)⟩
      subst c
      rw [hs t hm.1] at hj; cases hj
    | cv t off v =>
      simp only [addMods]
      cases hp : ptrOf e0 t with
      | none =>
        simp only [modCells, hp] at hc
        exact addMods_keeps hW ms (k + 1) h W' hm hs (by omega) hc
      | some p =>
        obtain ⟨id, o⟩ := p
        simp only [modCells, hp] at hc
        have hmem := covers_mc _ hc id (o + off) (List.mem_cons_self ..)
        rw [show mcLog ((id, o + off) :: modCells e0 ms) = [(id, o + off, 1)] ++ mcLog (modCells e0 ms) from rfl, covers_append] at hc
        obtain ⟨q1, q2, q3⟩ := addMods_keeps hW ms (k + 1) { h with heap := upd1 id (fun cs => setAt cs (o + off) (.v v)) h.heap } W' hm hs (by omega) hc.2
        exact ⟨q1, q2.trans (cell _ hmem), q3⟩
    | cr t off c l own =>
      simp only [addMods]
      cases hp : ptrOf e0 t with
      | none =>
        simp only [modCells, hp] at hc
        exact addMods_keeps hW ms (k + 1) h W' hm hs (by omega) hc
      | some p =>
        obtain ⟨id, o⟩ := p
        simp only [modCells, hp] at hc
        have hmem := covers_mc _ hc id (o + off) (List.mem_cons_self ..)
        rw [show mcLog ((id, o + off) :: modCells e0 ms) = [(id, o + off, 1)] ++ mcLog (modCells e0 ms) from rfl, covers_append] at hc
        obtain ⟨q1, q2, q3⟩ := addMods_keeps hW ms (k + 1) { h with heap := upd1 id (fun cs => setAt cs (o + off) (.sl (16 * k))) h.heap, rows := (16 * k, ⟨c, l, own⟩) :: h.rows } W' hm hs (by omega) hc.2
        exact ⟨q1, q2.trans (cell _ hmem), q3.trans (row _)⟩
    | cj t off =>
      simp only [addMods]
      have hc' : covers n M (mcLog (modCells e0 ms)) = true := by
        simp only [modCells] at hc
        split at hc
        · rename_i id o hp
          rw [show mcLog ((id, o + off) :: modCells e0 ms) = [(id, o + off, 1)] ++ mcLog (modCells e0 ms) from rfl, covers_append] at hc
          exact hc.2
        · exact hc
      exact addMods_keeps hW ms (k + 1) h W' hm hs (by omega) hc'
    | xt t c l => exact addMods_keeps hW ms (k + 1) h W' hm hs (by omega) hc
    | xc t off c l => exact addMods_keeps hW ms (k + 1) h W' hm hs (by omega) hc
    | cx t off c l =>
      simp only [addMods]
      cases hp : ptrOf e0 t with
      | none =>
        simp only [modCells, hp] at hc
        exact addMods_keeps hW ms (k + 1) h W' hm hs (by omega) hc
      | some p =>
        obtain ⟨id, o⟩ := p
        simp only [modCells, hp] at hc
        have hmem := covers_mc _ hc id (o + off) (List.mem_cons_self ..)
        rw [show mcLog ((id, o + off) :: modCells e0 ms) = [(id, o + off, 1)] ++ mcLog (modCells e0 ms) from rfl, covers_append] at hc
        obtain ⟨q1, q2, q3⟩ := addMods_keeps hW ms (k + 1) { h with heap := upd1 id (fun cs => setAt cs (o + off) (.sl (16 * k))) h.heap } W' hm hs (by omega) hc.2
        exact ⟨q1, q2.trans (cell _ hmem), q3⟩
theorem head_keeps {W : List Nat} {ms : List (Mod U)} (hm : modsOK W ms = true) {n : Nat} {M : List (Nat × Nat)} {W' : List Nat} (hn : n ≤ s.next) (hW : ∀ d, mem d W = true → mem d W' = true) (hc : covers n M (mcLog (modCells s ms)) = true) : base n W' M (headOf W s ms) = base n W' M s := by
  obtain ⟨q1, q2, q3⟩ := addMods_keeps (e0 := s) (M := M) trivial ms s.next (base s.next W (modCells s ms) s) W' hm hW hn hc
  refine base_eq (q1.trans (cleanT_two hn hW _)) (q2.trans (cleanH_two hn (fun id o hid h => ?_) _)) (q3.trans (cleanR_two hn _))
  exact covers_mc _ hc id o ((mem2_iff id o _).mp h) hid

/-- What ranges' bodies are asked. -/
def yInl (Y : YH U) : Inl U := fun st cal args s Kn Kp => match cal with
  | .yl id => Y id st args s Kn Kp
  | .fn _ => none
def YG (Y : YH U) : Prop := InlG (yInl Y) ∧ InlN (yInl Y)
def JG (J : YH U → Inl U) : Prop := ∀ Y, YG Y → InlG (J Y) ∧ InlN (J Y)
/-- A frame's temporaries are laid aside, and taken up again. -/
theorem Kept.frame {s' : St U} {W : List Nat} {nx : Nat} {T : List TV} {rc : List (Nat × RS U)} (hnx : s.next ≤ nx) (q : Kept { s with tmps := T, next := nx, recs := rc } s' W) (rc' : List (Nat × RS U)) : Kept s { s' with tmps := cleanT s.next [] 0 s.tmps, recs := rc' } [] := by
  obtain ⟨q1, L, q2, q3⟩ := q
  refine ⟨Nat.le_trans hnx q1, L, q2, fun n M W' hn hW hc => ?_⟩
  have := q3 n M W (Nat.le_trans hn hnx) (fun d hd => (mem_iff d _).mpr hd) hc
  unfold base at this ⊢
  simp only [St.mk.injEq, and_true] at this
  obtain ⟨_, e2, e3⟩ := this
  rw [e2, e3, cleanT_two hn (fun d hd => by cases hd)]
theorem Kept.recs {a b : St U} {W : List Nat} (h : Kept a b W) (r : List (Nat × RS U)) : Kept a { b with recs := r } W := h
theorem afterBody_g {id : Nat} {Kn Kn' : SV → St U → Prop} {W : List Nat} {T : List TV} (hK : ∀ v s', Kn v s' → Kept s s' [] → Kn' v s') : ∀ ctl s3, afterBody id s Kn ctl s3 → Kept { s with tmps := T, next := s.next + 1 } s3 W → afterBody id s Kn' ctl s3 := by
  intro ctl s3 h q
  unfold afterBody at h ⊢
  cases hl : look id s3.recs with
  | none => rw [hl] at h; exact h.elim
  | some x =>
    rw [hl] at h
    cases x with
    | ready => exact h.elim
    | done c => exact h.elim
    | row c l => exact h.elim
    | busy =>
      cases ctl with
      | normal => exact hK _ _ h (Kept.frame (rc := s.recs) (Nat.le_succ _) q _)
      | ret => exact hK _ _ h (Kept.frame (rc := s.recs) (Nat.le_succ _) q _)
      | exit i => exact hK _ _ h (Kept.frame (rc := s.recs) (Nat.le_succ _) q _)
      | goto l => exact h.elim
      | panic v => exact h.elim
theorem afterAssign_g {X : List Nat → St U → (Ctl → St U → Prop) → Prop} {W0 W : List Nat} (hX : ∀ st (s : St U) K K', X st s K → (∀ ctl s', K ctl s' → Kept s s' W → K' ctl s') → X st s K') {id : Nat} {st : List Nat} {Kn Kn' : SV → St U → Prop} {T : List TV} (hK : ∀ v s', Kn v s' → Kept s s' [] → Kn' v s') :
    ∀ ctl s2, afterAssign X id st s Kn ctl s2 → Kept { s with tmps := T, next := s.next + 1 } s2 W0 → afterAssign X id st s Kn' ctl s2 := by
  intro ctl s2 h q
  unfold afterAssign at h ⊢
  cases ctl with
  | normal =>
    dsimp only at h ⊢
    cases hl : look id s2.recs with
    | none => rw [hl] at h; exact h.elim
    | some x =>
      rw [hl] at h
      cases x with
      | busy => exact h.elim
      | done c => exact h.elim
      | row c l => exact h.elim
      | ready =>
        dsimp only at h ⊢
        refine hX _ _ _ _ h fun ctl s3 k3 q3 => afterBody_g (W := W0 ++ W) (T := T) hK ctl s3 k3 ?_
        have q3' : Kept { s2 with next := s2.next + 1 } s3 W := q3
        exact (q.trans (Kept.next s2 [] (Nat.le_succ _)) (fun d hd => hd) (fun d hd => by cases hd)).trans q3' (fun d hd => List.mem_append.mpr (.inl hd)) (fun d hd => List.mem_append.mpr (.inr hd))
  | ret => exact h
  | exit i => exact h
  | goto l => exact h
  | panic v => exact h
theorem roundH_g {X : Nat → List Nat → St U → (Ctl → St U → Prop) → Prop} {W : Nat → List Nat} (hX : ∀ i st (s : St U) K K', X i st s K → (∀ ctl s', K ctl s' → Kept s s' (W i) → K' ctl s') → X i st s K') (id : Nat) (T : List TV) (ps : List Nat) {Y : YH U} (hY : YG Y) : YG (roundH X id T ps Y) := by
  refine ⟨fun st cal args s Kn Kp p h hp Kn' Kp' hK hKp => ?_, fun st cal args s Kn Kp Kn' Kp' h => ?_⟩
  · cases cal with
    | fn f => cases h
    | yl id' =>
      simp only [yInl, roundH] at h ⊢
      cases hid : decide (id' = id) with
      | false =>
        rw [hid] at h
        exact hY.1 st (.yl id') args s Kn Kp p h hp Kn' Kp' hK hKp
      | true =>
        rw [hid] at h
        dsimp only at h ⊢
        split at h
        · rename_i hl hlen
          cases h
          exact ⟨_, rfl, hX 0 _ _ _ _ hp fun ctl s2 k q => afterAssign_g (W0 := W 0) (W := W 1) (T := setPs ps args T) (hX 1) hK ctl s2 k q⟩
        · cases h
  · cases cal with
    | fn f => rfl
    | yl id' =>
      simp only [yInl, roundH] at h ⊢
      cases hid : decide (id' = id) with
      | false =>
        rw [hid] at h
        exact hY.2 st (.yl id') args s Kn Kp Kn' Kp' h
      | true =>
        rw [hid] at h
        dsimp only at h ⊢
        split at h
        · cases h
        · rfl
theorem rangeK_g {id : Nat} {K K' : Ctl → St U → Prop} {s1 : St U} (hs : s.next ≤ s1.next) (hlog : s1.log = s.log) (hb : ∀ n W M, base n W M s1 = base n W M s) {W : List Nat} (hK : ∀ ctl s', K ctl s' → Kept s s' W → K' ctl s') : ∀ v s', rangeK id K v s' → Kept s1 s' [] → rangeK id K' v s' := by
  intro v s' h q
  have hk : ∀ r, Kept s { s' with recs := r } W := fun r => by
    obtain ⟨q1, L, q2, q3⟩ := q
    refine ⟨Nat.le_trans hs q1, L, q2.trans (by rw [hlog]), fun n M W' hn hW hc => ?_⟩
    exact (q3 n M W' (Nat.le_trans hn hs) (fun d hd => by cases hd) hc).trans (hb n W' M)
  unfold rangeK at h ⊢
  split at h
  · rename_i e; try simp only [e]
    exact hK _ _ h (hk _)
  · rename_i e; try simp only [e]
    exact hK _ _ h (hk _)
  · rename_i i e; try simp only [e]
    exact hK _ _ h (hk _)
  · exact h.elim
theorem Kept.log {s' : St U} {W : List Nat} (h : Kept { s with log := [] } s' W) : Kept s { s' with log := s'.log ++ s.log } W := by
  obtain ⟨q1, L, q2, q3⟩ := h
  have q2 : s'.log = L ++ [] := q2
  rw [List.append_nil] at q2
  exact ⟨q1, L, by rw [q2], fun n M W' hn hW hc => q3 n M W' hn hW hc⟩
theorem joinHead_kept {W : List Nat} {ms : List (Mod U)} (hm : modsOK W ms = true) : Kept s (joinHead W s ms) W :=
  ⟨Nat.le_add_right _ _, mcLog (modCells s ms), rfl, fun n M W' hn hW hc => head_keeps hm hn (fun d hd => hW d ((mem_iff d _).mp hd)) hc⟩
theorem exec_g {J : YH U → Inl U} (hJ : JG J) {Y : YH U} (hY : YG Y) : ∀ (c : Code) (rd : Bool) (st : List Nat) (s : St U) (K K' : Ctl → St U → Prop), exec P Γ J Y An c rd st s K → (∀ ctl s', K ctl s' → Kept s s' (writes c) → K' ctl s') → exec P Γ J Y An c rd st s K' := by
  have hI := (hJ Y hY).1
  have hN := (hJ Y hY).2
  intro c
  induction c with
  | skip => intro rd st s K K' h hK; exact hK .normal s h (Kept.refl s _)
  | region id ops draw =>
    intro rd st s K K' h hK
    cases draw with
    | true =>
      have h : runRegion P Γ (J Y) st ops (frzAt Γ id s) K := h
      show runRegion P Γ (J Y) st ops (frzAt Γ id s) K'
      exact runRegion_g hI hN h fun ctl s' k q => hK ctl s' k ((freezeL_kept _ s).trans q (fun d hd => by cases hd) (fun d hd => hd))
    | false => exact runOps_g hI hN ops.toList s K K' h fun ctl s' k q => hK ctl s' k q
  | seq x y ihx ihy =>
    intro rd st s K K' h hK
    simp only [exec] at h ⊢
    cases hj : joinOf An st y with
    | some an =>
      rw [hj] at h
      dsimp only at h ⊢
      have hl : ∀ d ∈ writes x, d ∈ writes (.seq x y) := fun d hd => List.mem_append.mpr (.inl hd)
      have hr : ∀ d ∈ writes y, d ∈ writes (.seq x y) := fun d hd => List.mem_append.mpr (.inr hd)
      obtain ⟨h1, h2⟩ := h
      refine ⟨ihx rd st _ _ _ h1 fun ctl s' k q => ?_, ?_⟩
      · have out : Kept s { s' with log := s'.log ++ s.log } (writes (.seq x y)) := (Kept.log q).trans (Kept.refl _ []) hl (fun d hd => by cases hd)
        cases ctl with
        | normal => exact k
        | ret => exact hK .ret _ k out
        | exit id => exact hK (.exit id) _ k out
        | goto id => exact hK (.goto id) _ k out
        | panic v => exact hK (.panic v) _ k out
      · cases hm : modsOK (writes x) (an.mods 0) with
        | false => rw [hm] at h2; exact h2.elim
        | true =>
          rw [hm] at h2
          exact ihy rd st _ K K' h2 fun ctl' s2 k2 q2 => hK ctl' s2 k2 ((joinHead_kept hm).trans q2 hl hr)
    | none =>
    rw [hj] at h
    dsimp only at h ⊢
    refine ihx rd st s _ _ h fun ctl s' k q => ?_
    have hl : ∀ d ∈ writes x, d ∈ writes (.seq x y) := fun d hd => List.mem_append.mpr (.inl hd)
    have hr : ∀ d ∈ writes y, d ∈ writes (.seq x y) := fun d hd => List.mem_append.mpr (.inr hd)
    have out : Kept s s' (writes (.seq x y)) := q.trans (Kept.refl s' []) hl (fun d hd => by cases hd)
    cases ctl with
    | normal => exact ihy rd st s' K K' k fun ctl' s2 k2 q2 => hK ctl' s2 k2 (q.trans q2 hl hr)
    | ret => exact hK .ret s' k out
    | exit id => exact hK (.exit id) s' k out
    | goto id => exact hK (.goto id) s' k out
    | panic v => exact hK (.panic v) s' k out
  | cond x a b iha ihb =>
    intro rd st s K K' h hK
    simp only [exec] at h ⊢
    have hl : ∀ d ∈ writes a, d ∈ writes (.cond x a b) := fun d hd => List.mem_append.mpr (.inl hd)
    have hr : ∀ d ∈ writes b, d ∈ writes (.cond x a b) := fun d hd => List.mem_append.mpr (.inr hd)
    split at h
    · exact ⟨fun q => iha rd st s K K' (h.1 q) fun ctl s' k z => hK ctl s' k (z.trans (Kept.refl s' []) hl (fun d hd => by cases hd)), fun q => ihb rd st s K K' (h.2 q) fun ctl s' k z => hK ctl s' k (z.trans (Kept.refl s' []) hr (fun d hd => by cases hd))⟩
    · exact h.elim
  | block id c ih =>
    intro rd st s K K' h hK
    refine ih rd st s _ _ h fun ctl s' k q => ?_
    cases ctl with
    | normal => exact hK .normal s' k q
    | goto l => exact hK (.goto l) s' k q
    | ret => exact hK .ret s' k q
    | panic v => exact hK (.panic v) s' k q
    | exit j =>
      simp only [blockK] at k ⊢
      split at k
      · rename_i e; try rw [if_pos e]
        exact hK .normal s' k q
      · rename_i e; try rw [if_neg e]
        exact hK (.exit j) s' k q
  | exit id => intro rd st s K K' h hK; exact hK (.exit id) s h (Kept.refl s _)
  | goto l => intro rd st s K K' h hK; exact hK (.goto l) s h (Kept.refl s _)
  | label l => intro rd st s K K' h hK; exact hK .normal s h (Kept.refl s _)
  | ret => intro rd st s K K' h hK; exact hK .ret s h (Kept.refl s _)
  | loop c ih =>
    intro rd st s K K' h hK
    simp only [exec] at h ⊢
    split at h
    · rename_i key hkey
      split at h
      · rename_i an han
        split at h
        · rename_i m hm
          have key : ∀ m (s : St U) (K K' : Ctl → St U → Prop), unrollK (fun s K => exec P Γ J Y An c rd st s K) m s K → (∀ ctl s', K ctl s' → Kept s s' (writes c) → K' ctl s') → unrollK (fun s K => exec P Γ J Y An c rd st s K) m s K' := by
            intro m
            induction m with
            | zero => intro s K K' h _; exact h.elim
            | succ m ihm =>
              intro s K K' h hK
              refine ih rd st s _ _ h fun ctl s' k q => ?_
              cases ctl with
              | normal => exact ihm s' K K' k fun ctl' s2 k2 q2 => hK ctl' s2 k2 (q.trans q2 (fun d hd => hd) (fun d hd => hd))
              | ret => exact hK .ret s' k q
              | exit id => exact hK (.exit id) s' k q
              | goto id => exact hK (.goto id) s' k q
              | panic v => exact hK (.panic v) s' k q
          try simp only [hm]
          exact key m s K K' h hK
        rename_i hun
        try simp only [hun]
        obtain ⟨h1, h2, h3⟩ := h
        refine ⟨h1, h2, fun k hk hik => ?_⟩
        have h4 := h3 k hk hik
        split at h4
        · rename_i hm
          refine ih rd (k :: st) _ _ _ h4 fun ctl s' kk q => ?_
          have out : ∀ ctl, K ctl { s' with log := s'.log ++ (mcLog (modCells s (an.mods k)) ++ s.log) } → K' ctl { s' with log := s'.log ++ (mcLog (modCells s (an.mods k)) ++ s.log) } := fun ctl kk => hK ctl _ kk (by
            obtain ⟨q1, L, q2, q3⟩ := q
            have q2 : s'.log = L ++ [] := q2
            rw [List.append_nil] at q2
            refine ⟨Nat.le_trans (Nat.le_add_right s.next _) q1, L ++ mcLog (modCells s (an.mods k)), by show s'.log ++ (_ ++ s.log) = _; rw [q2, List.append_assoc], fun n M W' hn hW hc => ?_⟩
            rw [covers_append] at hc
            have hWW : ∀ d, mem d (writes c) = true → mem d W' = true := fun d hd => hW d ((mem_iff d _).mp hd)
            exact (q3 n M W' (Nat.le_trans hn (Nat.le_add_right s.next _)) hW hc.1).trans (head_keeps hm hn hWW hc.2))
          cases ctl with
          | normal => exact kk
          | ret => exact out .ret kk
          | exit id => exact out (.exit id) kk
          | goto id => exact out (.goto id) kk
          | panic v => exact out (.panic v) kk
        · exact h4.elim
      · exact h.elim
    · exact h.elim
  | rangeFunc g ps assign body iha ihb =>
    intro rd st s K K' h hK
    simp only [exec] at h ⊢
    split at h
    · rename_i f ex hf
      try simp only [hf]
      split at h
      · exact h.elim
      · rename_i hcon
        try simp only [hcon]
        split at h
        · rename_i p hp
          have hYr : YG (roundH (two (fun st s K => exec P Γ J Y An assign true st s K) (fun st s K => exec P Γ J Y An body true st s K)) s.next (cleanT s.next [] 0 s.tmps) ps.toList Y) :=
            roundH_g (W := two (writes assign) (writes body)) (fun c st s K K' h hK => by
              cases c with
              | zero => exact iha true st s K K' h hK
              | succ c => exact ihb true st s K K' h hK) _ _ _ hY
          obtain ⟨p', e1, e2⟩ := (hJ _ hYr).1 _ _ _ _ _ _ _ hp h (rangeK s.next K') (fun _ _ => False) (rangeK_g (s := s) (s1 := { s with next := s.next + 1, recs := (s.next, .ready) :: s.recs }) (Nat.le_succ _) rfl (fun _ _ _ => rfl) hK) (fun _ _ c _ => c)
          rw [e1]
          exact e2
        · exact h.elim
    · exact h.elim
  | _ => intro rd st s K K' h hK; exact (show False from h).elim

theorem backK_kept {fn : Func} {Kn Kn' Kp Kp' : SV → St U → Prop} {nx : Nat} {T : List TV} {W : List Nat} (hnx : s.next ≤ nx) (hK : ∀ v s', Kn v s' → Kept s s' [] → Kn' v s') (hKp : ∀ v s', Kp v s' → Kept s s' [] → Kp' v s') : ∀ ctl s', backK P fn s Kn Kp ctl s' → Kept { s with tmps := T, next := nx } s' W → backK P fn s Kn' Kp' ctl s' := by
  intro ctl s' h q
  have key : Kept s { s' with tmps := cleanT s.next [] 0 s.tmps } [] := Kept.frame (rc := s.recs) hnx q s'.recs
  cases ctl with
  | exit id => exact h
  | goto id => exact h
  | panic v => exact hKp v _ h key
  | normal =>
    simp only [backK] at h ⊢
    split at h
    · exact hK _ _ h key
    · exact h
  | ret =>
    simp only [backK] at h ⊢
    split at h
    · exact hK _ _ h key
    · exact h
theorem cleanR_K {n m : Nat} (h : n ≤ m) : ∀ l : List (Nat × Row U), cleanR n (cleanRK m l) = cleanR n l
  | [] => rfl
  | (fid, r) :: l => by
    simp only [cleanRK]
    by_cases c : fid < 16 * m
    · rw [if_pos c]; simp only [cleanR]; rw [cleanR_K h l]
    · rw [if_neg c, cleanR_K h l]; simp only [cleanR]; rw [if_neg (by omega)]
theorem cutHead_kept {ms : List (Mod U)} (hm : onlyCv ms = true) : Kept s (cutHead s ms) [] :=
  ⟨Nat.le_add_right _ _, mcLog (modCells s ms), rfl, fun n M W' hn hW hc => by
    obtain ⟨q1, q2, q3⟩ := addMods_keeps (e0 := s) (M := M) trivial ms s.next (baseK s.next (modCells s ms) s) W' (onlyCv_mods (W := []) hm) (fun d hd => by cases hd) hn hc
    refine base_eq (q1.trans (cleanT_two hn (fun d hd => by cases hd) _)) (q2.trans (cleanH_two hn (fun id o hid h => ?_) _)) (q3.trans (cleanR_K hn _))
    exact covers_mc _ hc id o ((mem2_iff id o _).mp h) hid⟩
theorem cutI_g {f : Nat} {st : List Nat} {args : List SV} {X : St U → (SV → St U → Prop) → (SV → St U → Prop) → Prop} (hX : ∀ (s : St U) Kn Kp Kn' Kp', X s Kn Kp → (∀ v s', Kn v s' → Kept s s' [] → Kn' v s') → (∀ v s', Kp v s' → Kept s s' [] → Kp' v s') → X s Kn' Kp')
    {Kn Kp : SV → St U → Prop} {p : Prop} (h : cutI An f st args s X Kn Kp = some p) (hp : p) {Kn' Kp' : SV → St U → Prop} (hK : ∀ v s', Kn v s' → Kept s s' [] → Kn' v s') (hKp : ∀ v s', Kp v s' → Kept s s' [] → Kp' v s') : ∃ p', cutI An f st args s X Kn' Kp' = some p' ∧ p' := by
  unfold cutI at h ⊢
  split at h
  · rename_i an e1
    split at h
    · rename_i ct e2
      split at h
      · rename_i vs e3
        split at h
        rename_i outs r e4
        split at h
        · rename_i ms e5
          split at h
          · rename_i e6
            cases h
            refine ⟨_, rfl, hX _ _ _ _ _ hp.1 (fun v s' k _ => k) (fun v s' k q => hKp v _ k (Kept.log q)), hK _ _ hp.2 (cutHead_kept e6)⟩
          · cases h
        · cases h
      · cases h
    · cases h; exact ⟨_, rfl, hX _ _ _ _ _ hp hK hKp⟩
  · cases h; exact ⟨_, rfl, hX _ _ _ _ _ hp hK hKp⟩
theorem cutI_none {f : Nat} {st : List Nat} {args : List SV} {X : St U → (SV → St U → Prop) → (SV → St U → Prop) → Prop} {Kn Kp Kn' Kp' : SV → St U → Prop} (h : cutI An f st args s X Kn Kp = none) : cutI An f st args s X Kn' Kp' = none := by
  unfold cutI at h ⊢
  split at h
  · split at h
    · split at h
      · split at h
        split at h
        · split at h
          · cases h
          · rfl
        · rfl
      · rfl
    · cases h
  · cases h
theorem inl_g : ∀ n, JG (inl P Γ An n)
  | 0 => fun Y hY => by
    refine ⟨fun st cal args s Kn Kp p h hp Kn' Kp' hK hKp => ?_, fun st cal args s Kn Kp Kn' Kp' h => ?_⟩
    · cases cal with
      | fn f => cases h
      | yl id => exact hY.1 st (.yl id) args s Kn Kp p h hp Kn' Kp' hK hKp
    · cases cal with
      | fn f => rfl
      | yl id => exact hY.2 st (.yl id) args s Kn Kp Kn' Kp' h
  | n + 1 => fun Y hY => by
    refine ⟨fun st cal args s Kn Kp p h hp Kn' Kp' hK hKp => ?_, fun st cal args s Kn Kp Kn' Kp' h => ?_⟩
    · cases cal with
      | yl id => exact hY.1 st (.yl id) args s Kn Kp p h hp Kn' Kp' hK hKp
      | fn f =>
        simp only [inl] at h ⊢
        split at h
        · rename_i fn hcall hf
          split at h
          · rename_i c hb
            try simp only [hb]
            refine cutI_g ?_ h hp hK hKp
            intro s Kn Kp Kn' Kp' hp hK hKp
            exact exec_g (inl_g n) hY c _ _ _ _ _ hp fun ctl s' k q => backK_kept (Nat.le_succ _) hK hKp ctl s' k q
          · cases h
        · cases h
    · cases cal with
      | yl id => exact hY.2 st (.yl id) args s Kn Kp Kn' Kp' h
      | fn f =>
        simp only [inl] at h ⊢
        split at h
        · split at h
          · exact cutI_none h
          · rfl
        · rfl
theorem noY_g : YG (noY : YH U) := ⟨fun st cal args s Kn Kp p h => (by cases cal <;> cases h), fun st cal args s Kn Kp Kn' Kp' h => (by cases cal <;> rfl)⟩
end
end Go.RX

/- Symbolic runs of Go functions: ranges over functions: their records, and the marks that they leave. -/
namespace Go.RX
open Go.RowKit
set_option linter.unusedSimpArgs false
set_option linter.unusedVariables false

section
variable {P : Program} {U : Uni} {Γ : Con U} {w0 w : World} {F0 : Nat → Nat → Prop} {An : Anns U} {s : St U} {Fr : Nat → Prop} {heap : List (Nat × TypeId × List Atom)} {rows : List (Nat × Row U)} {ν ν' : Nu} {F : Nat → Nat → Prop} {a : Act}

/-! ### The marks -/
theorem leaves_marks {fn : Func} {tmps : Array Value} {R : Ending → World → Prop} {u : FrameMode} (hu : u ≠ .run) : ∀ (l : List Nat) (w : World) (ν : Nu), l.Nodup → (∀ D ∈ l, ν.o D = some (.deferred (some []))) → Sim U w0 F0 Fr heap rows w ν F →
    (∀ w' ν', Sim U w0 F0 Fr heap rows w' ν' F → ν'.b = ν.b → ν'.f = ν.f → (∀ k, k ∉ l → ν'.o k = ν.o k) → LeavesIn Fence.wide 0 P fn tmps R [] u w') → LeavesInM Fence.wide 0 P fn tmps R (l.map markOf) u w
  | [], w, ν, _, _, hs, hR => hR w ν hs rfl rfl (fun _ _ => rfl)
  | D :: l, w, ν, hn, ho, hs, hR => by
    have hD := ho D (List.mem_cons_self ..)
    obtain ⟨hn1, hn2⟩ := List.nodup_cons.mp hn
    refine ⟨hu, .inl ⟨D, w.putObj D (.deferred none), rfl, run_takeDeferred (hs.hold D _ hD).2.1, ?_⟩⟩
    refine leaves_marks hu l (w.putObj D (.deferred none)) (ν.setO fun k => if k = D then none else ν.o k) hn2 (fun D' hD' => ?_) (hs.putObj hD (x' := .deferred none) trivial rfl (fun k y e c => by rw [if_neg c] at e; exact e) (fun y e => by rw [if_pos rfl] at e; cases e)) fun w' ν' k1 k2 k3 k4 => hR w' ν' k1 k2 k3 fun k hk => ?_
    · have : D' ≠ D := fun c => hn1 (c ▸ hD')
      exact (if_neg this).trans (ho D' (List.mem_cons_of_mem _ hD'))
    · have h1 : k ≠ D := fun c => hk (c ▸ List.mem_cons_self ..)
      exact (k4 k fun c => hk (List.mem_cons_of_mem _ c)).trans (if_neg h1)

/-! ### The records -/
theorem look_setRec {id : Nat} {x : RS U} (j : Nat) : ∀ l : List (Nat × RS U), look j (setRec id x l) = if j = id then (look j l).map fun _ => x else look j l
  | [] => by simp [setRec, look]
  | (k, y) :: l => by
    simp only [setRec]
    by_cases c : k = id
    · subst c
      simp only [decide_true]
      rw [look_cons, look_cons, look_setRec j l]
      by_cases d : k = j
      · subst d; rw [if_pos rfl, if_pos rfl, if_pos rfl]; rfl
      · rw [if_neg d, if_neg d]
    · simp only [c, decide_false]
      rw [look_cons, look_cons, look_setRec j l]
      by_cases d : k = j
      · subst d; rw [if_pos rfl, if_pos rfl, if_neg c]
      · rw [if_neg d, if_neg d]
theorem look_dropRec {id : Nat} (j : Nat) : ∀ l : List (Nat × RS U), look j (dropRec id l) = if j = id then none else look j l
  | [] => by simp [dropRec, look]
  | (k, y) :: l => by
    simp only [dropRec]
    by_cases c : k = id
    · subst c
      simp only [decide_true]
      rw [look_dropRec j l, look_cons]
      by_cases d : k = j
      · subst d; rw [if_pos rfl, if_pos rfl]
      · rw [if_neg d]
    · simp only [c, decide_false]
      rw [look_cons, look_cons, look_dropRec j l]
      by_cases d : k = j
      · subst d; rw [if_pos rfl, if_pos rfl, if_neg c]
      · rw [if_neg d, if_neg d]
theorem recsEq_is : ∀ {a b : List (Nat × RS U)}, recsEq a b = true → obOK (recsP a b) → a = b
  | [], [], _, _ => rfl
  | [], _ :: _, h, _ => by cases h
  | _ :: _, [], h, _ => by cases h
  | (i, x) :: a, (j, y) :: b, h, hp => by
    simp only [recsEq] at h
    split at h
    · rename_i h1 h2
      have h1 := of_decide_eq_true h1
      subst h1
      have key : x = y ∧ obOK (recsP a b) := by
        cases x with
        | ready => cases y with
          | ready => exact ⟨rfl, hp⟩
          | _ => cases h2
        | busy => cases y with
          | busy => exact ⟨rfl, hp⟩
          | _ => cases h2
        | done c => cases y <;> cases h2
        | row c l => cases y with
          | row c' l' =>
            simp only [recsP] at hp
            cases hr : recsP a b with
            | none => rw [hr] at hp; exact ⟨rowIs_eq (r := ⟨c, l, true⟩) hp, True.intro⟩
            | some q => rw [hr] at hp; exact ⟨rowIs_eq (r := ⟨c, l, true⟩) hp.1, hp.2⟩
          | _ => cases h2
      rw [key.1, recsEq_is h key.2]
    · cases h
/-- A record stands anew: its object is another one. -/
theorem RecsOk.set {recs : List (Nat × RS U)} (k : RecsOk ν recs) {id : Nat} {l : Nat} {r : Loop} (hl : ν.b id = some l) {x : RS U} (hs : ∃ y, look id recs = some y ∧ isRow y = false) (hr : RecAt r x) :
    RecsOk (ν.setO fun j => if j = l then some (.loop r) else ν.o j) (setRec id x recs) := by
  obtain ⟨y, hy, hy2⟩ := hs
  have hm := look_mem hy
  have hblk : blkOf ν id y = some l := by cases y <;> first | exact hl | cases hy2
  refine k.but (ν.lb_setO _) (G := fun j => j = l) (fun j hj => if_neg hj) (some (id, x)) (fun p hp => ?_) (fun p hp => ?_)
  · rcases mem_setRec hp with rfl | ⟨q1, q2⟩
    · exact .inl rfl
    · exact .inr ⟨q2, fun g e e' => q1 (by subst e'; exact k.2 p.1 id p.2 y g q2 hm e hblk)⟩
  · cases hp
    refine ⟨?_, fun g e q _ _ => .inr (.inr ?_)⟩
    · cases x with
      | row c l => exact hr.elim
      | ready => exact ⟨l, r, hl, if_pos rfl, hr⟩
      | busy => exact ⟨l, r, hl, if_pos rfl, hr⟩
      | done c => exact ⟨l, r, hl, if_pos rfl, hr⟩
    · have e : ν.b id = some g := by cases x <;> first | exact e | exact hr.elim
      rw [hl] at e
      exact (Option.some.inj e).symm
theorem RecsOk.drop {recs : List (Nat × RS U)} (k : RecsOk ν recs) {id l : Nat} (hl : ν.b id = some l) (hs : ∃ y, look id recs = some y ∧ isRow y = false) (y : Obj) : RecsOk (ν.setO fun j => if j = l then some y else ν.o j) (dropRec id recs) := by
  obtain ⟨z, hy, hy2⟩ := hs
  have hm := look_mem hy
  have hblk : blkOf ν id z = some l := by cases z <;> first | exact hl | cases hy2
  refine k.but (ν.lb_setO _) (G := fun j => j = l) (fun j hj => if_neg hj) none (fun p hp => ?_) (fun p hp => by cases hp)
  obtain ⟨q1, q2⟩ := mem_dropRec hp
  exact .inr ⟨q2, fun g e e' => q1 (by subst e'; exact k.2 p.1 id p.2 z g q2 hm e hblk)⟩
theorem leN_setRec {n l : Nat} {r : Loop} (h : ν.o l = some (.loop r)) (st : LoopState) (pe : Option Code) : ν.leN n (ν.setO fun j => if j = l then some (.loop { r with state := st, pending := pe }) else ν.o j) :=
  ⟨fun _ _ _ e => e, fun _ _ _ e => e, fun k x e _ => by
    by_cases c : k = l
    · subst c
      rw [h] at e
      cases e
      exact ⟨_, if_pos rfl, .inr ⟨r, st, pe, rfl, rfl⟩⟩
    · exact ⟨x, (if_neg c).trans e, recLe.refl x⟩⟩
theorem setPl {t : List TV} {T : Array Value} (k : TOk ν t T) (hp : ∀ x ∈ t, ∃ y, x = TV.pl y) (p : Nat) {x : SV} {v : Value} (d : DenSV ν x v) : TOk ν (t.set p (.pl x)) (T.setIfInBounds p v) ∧ ∀ z ∈ t.set p (.pl x), ∃ y, z = TV.pl y := by
  refine ⟨⟨by simp [k.1], fun j z e => ?_⟩, fun z hz => ?_⟩
  · rw [List.getElem?_set] at e
    by_cases c : p = j
    · subst c
      rw [if_pos rfl] at e
      split at e
      · rename_i hlt
        cases e
        rw [getD_set_eq' _ _ _ (by rw [← k.1]; exact hlt)]
        exact d
      · cases e
    · rw [if_neg c] at e
      rw [getD_set_ne' _ _ _ _ c]
      obtain ⟨y, rfl⟩ := hp z (List.mem_of_getElem? e)
      exact k.2 j _ e
  · rcases List.mem_or_eq_of_mem_set hz with q | q
    · exact hp z q
    · exact ⟨x, q⟩
theorem setPs_ok : ∀ (ps : List Nat) (xs : List SV) (vs : List Value) (t : List TV) (T : Array Value), TOk ν t T → (∀ x ∈ t, ∃ y, x = TV.pl y) → xs.length = vs.length → (∀ (j : Nat) x v, xs[j]? = some x → vs[j]? = some v → DenSV ν x v) →
    TOk ν (setPs ps xs t) ((ps.zip vs).foldl (fun t (p : Nat × Value) => t.setIfInBounds p.1 p.2) T)
  | [], xs, vs, t, T, k, _, _, _ => by cases xs <;> exact k
  | p :: ps, [], vs, t, T, k, _, hl, _ => by
    have : vs = [] := by cases vs with | nil => rfl | cons _ _ => cases hl
    subst this; exact k
  | p :: ps, x :: xs, [], t, T, k, _, hl, _ => by cases hl
  | p :: ps, x :: xs, v :: vs, t, T, k, hp, hl, hd => by
    obtain ⟨k1, k2⟩ := setPl k hp p (hd 0 x v rfl rfl)
    exact setPs_ok ps xs vs _ _ k1 k2 (by simpa using hl) fun j x v e1 e2 => hd (j + 1) x v (by simpa using e1) (by simpa using e2)
theorem cleanT_pl {n : Nat} (t : List TV) : ∀ x ∈ cleanT n [] 0 t, ∃ y, x = TV.pl y := by
  intro x hx
  obtain ⟨j, hj⟩ := List.getElem?_of_mem hx
  rw [cleanT_at] at hj
  cases hh : t[j]? with
  | none => rw [hh] at hj; cases hj
  | some z =>
    rw [hh] at hj
    cases hj
    cases z with
    | pl x => exact ⟨_, rfl⟩
    | opt _ _ _ => exact ⟨_, rfl⟩
end
end Go.RX

/- Symbolic runs of Go functions: texts, and whole functions. -/
namespace Go.RX
open Go.RowKit
set_option linter.unusedSimpArgs false
set_option linter.unusedVariables false

section
variable {P : Program} {U : Uni} {Γ : Con U} {w0 : World} {F0 : Nat → Nat → Prop} {An : Anns U}

/-- A result's value. -/
def resSem (T : Array Value) : ResultVar → Sem Value
  | .tmp t => pure (T.getD t undef)
  | .cell c t => do loadVar t (← asAddr (T.getD c undef))

/-- What reads calls where they stand does so whatever ranges' bodies there are. -/
def JOk (P : Program) (U : Uni) (w0 : World) (F0 : Nat → Nat → Prop) (J : YH U → Inl U) : Prop := ∀ (YR : Nu → Prop) (Y : YH U), YOk P U w0 F0 YR Y → YG Y → InlOk P U w0 F0 YR (J Y)

theorem wpIn_loop_ghost {F : Fence} {n : Nat} {Q : Exit → Act → World → Prop} {a : Act} {w : World} {c : Code} (I : Nat → Act → World → Prop) (n₀ : Nat) (h₀ : I n₀ a w)
    (round : ∀ n' a w, I n' a w → c.wpIn F n P (Exit.then (fun a' w' => ∃ k, k < n' ∧ I k a' w') Q) a w) : (Code.loop c).wpIn F n P Q a w := by
  refine wpIn_loop (fun a w => ∃ n, I n a w) (fun a w => leastOf (fun n => I n a w)) ⟨n₀, h₀⟩ ?_
  intro a w hI
  refine wpIn_mono (round _ a w (leastOf_spec hI).1) ?_
  intro e a' w' hq
  cases e with
  | normal =>
    obtain ⟨n', hlt, hI'⟩ := hq
    exact show (∃ n, I n a' w') ∧ leastOf (fun n => I n a' w') < leastOf (fun n => I n a w) from ⟨⟨n', hI'⟩, Nat.lt_of_le_of_lt ((leastOf_spec ⟨n', hI'⟩).2 n' hI') hlt⟩
  | exit id => exact hq
  | goto l => exact hq
  | ret => exact hq
  | panic ch => exact hq
  | outgrown => exact hq

/-- What a text's run is asked to be. -/
def ExecOk (P : Program) {U : Uni} (w0 : World) (F0 : Nat → Nat → Prop) (YR : Nu → Prop) (rd : Bool) (X : List Nat → St U → (Ctl → St U → Prop) → Prop) (c : Code) : Prop :=
  ∀ (fr : Frm), (∀ ν, fr.R ν → YR ν) → ∀ (rf : Option Nat), rf.isSome = rd → ∀ (st : List Nat) (s : St U) (K : Ctl → St U → Prop) (a : Act) (w : World) (Q : Exit → Act → World → Prop), X st s K → SimS U w0 F0 fr s a w →
    (∀ ctl s' a' w' e, K ctl s' → SimC U w0 F0 fr s' a' w' ctl e → Q e a' w') → c.wpIn (fenceOf rf) 0 P Q a w

/-- The bodies of ranges, with one more. -/
theorem round_ok {YR : Nu → Prop} {Y : YH U} (hY : YOk P U w0 F0 YR Y) {assign body : Code} {XA XB : List Nat → St U → (Ctl → St U → Prop) → Prop} (hA : ExecOk P w0 F0 YR true XA assign) (hB : ExecOk P w0 F0 YR true XB body)
    {id : Nat} {T : List TV} {ps : Array Tmp} {ν1 : Nu} {l : Nat} {rec : Loop} (hl : ν1.b id = some l) (hrec : ν1.o l = some (.loop rec)) (h1 : rec.params = ps) (h2 : rec.assign = assign) (h3 : rec.body = body) (hT : TOk (ν1.cut id) T rec.tmps) (hTp : ∀ x ∈ T, ∃ y, x = TV.pl y) :
    YOk P U w0 F0 (fun ν => YR ν ∧ ν1.leN (id + 1) ν) (roundH (two XA XB) id T ps.toList Y) := by
  intro st cal args s Kn Kp p h hp fr T' w ν F vs hfr hs hn hR hRe ht hlen hd
  cases cal with
  | fn f => cases h
  | yl id' =>
    simp only [roundH] at h
    cases hid : decide (id' = id) with
    | false =>
      rw [hid] at h
      exact hY st (.yl id') args s Kn Kp p h hp fr T' w ν F vs (fun ν hν => (hfr ν hν).1) hs hn hR hRe ht hlen hd
    | true =>
      rw [hid] at h
      have hid := of_decide_eq_true hid
      subst hid
      dsimp only at h
      split at h
      · rename_i hlk hle
        cases h
        have hle := of_decide_eq_true hle
        have hν1 := (hfr ν hR).2
        have hlt : id' < s.next := recs_lt hs hRe (look_mem hlk) rfl
        obtain ⟨l', r, e1, e2, e3⟩ := hRe.1 id' _ (look_mem hlk)
        have hl' := hν1.1 id' (Nat.lt_succ_self _) l hl
        have : l' = l := Option.some.inj (e1.symm.trans hl')
        subst this
        obtain ⟨y0, e4, e5⟩ := hν1.2.2 l' _ hrec rfl
        rw [e2] at e4
        cases e4
        have hr : ∃ q pe, r = { rec with state := q, pending := pe } := by
          rcases e5 with e5 | ⟨r0, q, pe, e6, e7⟩
          · cases e5; exact ⟨rec.state, rec.pending, rfl⟩
          · cases e6; cases e7; exact ⟨q, pe, rfl⟩
        obtain ⟨q0, pe0, rfl⟩ := hr
        have hheap := (hs.hold l' _ e2).2.1
        have hvs : vs.toArray.size = rec.params.size := by
          rw [h1, List.size_toArray, ← hlen, hle, Array.length_toList]
        refine ⟨l', rec.fn, (rec.params.zip vs.toArray).foldl (fun tmps (t, a) => tmps.setIfInBounds t a) rec.tmps, assign, body, e1, ?_, ?_⟩
        · have := run_yield (P := P) (args := vs.toArray) hheap (by simpa using hvs)
          rw [this]
          simp only [h2, h3]
        · -- the round
          have hT2 : TOk ν T rec.tmps := hT.lb ⟨fun k x e => (by
            by_cases c : k < id'
            · rw [Nu.cut_b c] at e; exact hν1.1 k (by omega) x e
            · have : (ν1.cut id').b k = none := if_neg c
              rw [this] at e; cases e), fun k x e => (by
            by_cases c : k < 16 * id'
            · rw [Nu.cut_f c] at e; exact hν1.2.1 k (by omega) x e
            · have : (ν1.cut id').f k = none := if_neg c
              rw [this] at e; cases e)⟩
          have hT3 := setPs_ok ps.toList args vs T rec.tmps hT2 hTp hlen hd
          have hfold : (rec.params.zip vs.toArray).foldl (fun tmps (t, a) => tmps.setIfInBounds t a) rec.tmps = (ps.toList.zip vs).foldl (fun t (p : Nat × Value) => t.setIfInBounds p.1 p.2) rec.tmps := by
            rw [h1, ← Array.foldl_toList, Array.toList_zip]
          let fr2 : Frm := ⟨s.next, fun ν' => fr.R ν' ∧ ν.leN s.next ν', fun a b hab q => ⟨fr.st a b (Nu.leN_mono hab hn) q.1, Nu.leN_trans q.2 hab⟩, fun D => ∀ x, ν.o D = some x → isC x = true, fun ν' D q e x hh => (by
            cases hc : isC x with
            | true => rfl
            | false => obtain ⟨y, q1, q2⟩ := q.2.2.2 D x hh hc; have := e y q1; rw [q2.isC, hc] at this; cases this)⟩
          have hYR : ∀ ν', fr2.R ν' → YR ν' := fun ν' q => (hfr ν' q.1).1
          refine roundIn_of_wpIn trivial ?_
          show assign.wpIn (fenceOf (some l')) 0 P _ _ w
          refine hA fr2 hYR (some l') rfl _ _ _ _ w _ hp ⟨Nat.le_succ _, ν, F, hs.fr (fun k hk => Nat.le_trans (Nat.le_succ _) hk), ?_, ⟨hR, fun k _ x e => e, fun k _ x e => e, fun k x e _ => ⟨x, e, recLe.refl x⟩⟩, hRe, Marks.nil _ _⟩ ?_
          · rw [hfold]; exact hT3
          · rintro ctl s2 a2 w2 e hk ⟨n2, ν2, F2, c1, c2, ⟨⟨c3, c3'⟩, c4, c5⟩, c6⟩
            unfold afterAssign at hk
            cases ctl with
            | ret => exact hk.elim
            | exit i => exact hk.elim
            | goto l => exact hk.elim
            | panic v => exact hk.elim
            | normal =>
              have c6 : e = .normal := c6
              subst c6
              dsimp only at hk
              split at hk
              · rename_i hlk2
                have b2 : ν2.b id' = some l' := c3'.1 id' hlt l' e1
                obtain ⟨l2, r2, g1, g2, g3, g4⟩ := c4.1 id' _ (look_mem hlk2)
                have : l2 = l' := Option.some.inj (g1.symm.trans b2)
                subst this
                refine ⟨_, run_beginRound (c1.hold l2 _ g2).2.1 g3, ?_⟩
                show body.wpIn (fenceOf (some l2)) 0 P _ _ _
                have le2 : ν2.leN s.next (ν2.setO fun j => if j = l2 then some (.loop { r2 with state := .busy }) else ν2.o j) := leN_setRec (pe := r2.pending) g2 .busy
                refine hB fr2 hYR (some l2) rfl _ _ _ _ _ _ hk ⟨Nat.le_trans n2 (Nat.le_succ _), _, F2, (c1.fr (fun k hk => Nat.le_trans (Nat.le_succ _) hk)).putObj g2 (x' := .loop { r2 with state := .busy }) trivial rfl (fun k y e c => by rw [if_neg c] at e; exact e) (fun y e => by rw [if_pos rfl] at e; exact (Option.some.inj e).symm), c2.lb (Nu.lb_setO _ _), ⟨fr.st _ _ (Nu.leN_mono le2 hn) c3, Nu.leN_trans c3' le2⟩, c4.set b2 ⟨_, hlk2, rfl⟩ rfl, c5.leN le2⟩ ?_
                rintro ctl s3 a3 w3 e hk3 ⟨n3, ν3, F3, d1, d2, ⟨⟨d3, d3'⟩, d4, d5⟩, d6⟩
                unfold afterBody at hk3
                split at hk3
                · rename_i hlk3
                  have b3 : ν3.b id' = some l2 := d3'.1 id' hlt l2 e1
                  obtain ⟨l3, r3, g5, g6, g7⟩ := d4.1 id' _ (look_mem hlk3)
                  have : l3 = l2 := Option.some.inj (g5.symm.trans b3)
                  subst this
                  have hh3 := (d1.hold l3 _ g6).2.1
                  have fin : ∀ (jump : Option Code) (x : RS U), RecAt { r3 with state := if jump.isNone then .ready else .done, pending := jump } x → Kn (.one (.v (.bool jump.isNone))) { s3 with tmps := cleanT s.next [] 0 s.tmps, recs := setRec id' x s3.recs } →
                      ∃ v w', (Instr.endRound l3 jump).run P w3 = .ok v w' ∧ Ends (Back U w0 F0 fr T' Kn) (Back U w0 F0 fr T' Kp) (.returned v) w' := fun jump x hx hkn => by
                    have le3 : ν3.leN s.next (ν3.setO fun j => if j = l3 then some (.loop { r3 with state := if jump.isNone then .ready else .done, pending := jump }) else ν3.o j) := leN_setRec g6 _ _
                    refine ⟨_, _, run_endRound jump hh3, .inl ⟨.bool jump.isNone, rfl, _, _, _, F3, hkn, d1.putObj g6 (x' := .loop { r3 with state := if jump.isNone then .ready else .done, pending := jump }) trivial rfl (fun k y e c => by rw [if_neg c] at e; exact e) (fun y e => by rw [if_pos rfl] at e; exact (Option.some.inj e).symm), Nat.le_trans hn n3, fr.st _ _ (Nu.leN_mono le3 hn) d3, d4.set b3 ⟨_, hlk3, rfl⟩ hx, ?_, rfl⟩⟩
                    have hc := cleanT_ok (n := s.next) (W := []) ht
                    have lall := Nu.leN_trans d3' le3
                    exact hc.lb ⟨fun k x e => (by
                      by_cases c : k < s.next
                      · rw [Nu.cut_b c] at e; exact lall.1 k c x e
                      · have : (ν.cut s.next).b k = none := if_neg c
                        rw [this] at e; cases e), fun k x e => (by
                      by_cases c : k < 16 * s.next
                      · rw [Nu.cut_f c] at e; exact lall.2.1 k c x e
                      · have : (ν.cut s.next).f k = none := if_neg c
                        rw [this] at e; cases e)⟩
                  cases ctl with
                  | normal =>
                    have d6 : e = .normal := d6
                    subst d6
                    exact fin none .ready ⟨rfl, rfl⟩ hk3
                  | ret =>
                    have d6 : e = .ret := d6
                    subst d6
                    exact fin (some .ret) (.done .ret) ⟨rfl, _, rfl, rfl⟩ hk3
                  | exit i =>
                    have d6 : e = .exit i := d6
                    subst d6
                    exact fin (some (.exit i)) (.done (.exit i)) ⟨rfl, _, rfl, rfl⟩ hk3
                  | goto l => exact hk3.elim
                  | panic v => exact hk3.elim
                · exact hk3.elim
              · exact hk.elim
      · cases h

theorem exec_sound {J : YH U → Inl U} (hJ : JOk P U w0 F0 J) (hJg : JG J) {YR : Nu → Prop} {Y : YH U} (hY : YOk P U w0 F0 YR Y) (hYg : YG Y) {G : World → Prop} (hG : ∀ w, Below w0.heap.size w0 w → G w) (hΓ : COk P U G Γ) :
    ∀ (c : Code) (rd : Bool), ExecOk P w0 F0 YR rd (fun st s K => exec P Γ J Y An c rd st s K) c := by
  have hI := hJ YR Y hY hYg
  intro c
  induction c with
  | skip => intro rd fr hfr rf hrf st s K a w Q h hs hK; exact wpIn_skip (hK .normal s a w _ h hs.normal)
  | region id ops draw =>
    intro rd fr hfr rf hrf st s K a w Q h hs hK
    cases draw with
    | true =>
      have h : runRegion P Γ (J Y) st ops (frzAt Γ id s) K := h
      obtain ⟨l, hl⟩ : ∃ l, frzAt Γ id s = freezeL l s := ⟨_, rfl⟩
      rw [hl] at h
      obtain ⟨hn, ν, F, h1, h2, hR⟩ := hs
      obtain ⟨ν1, F1, q1, q2, q3, q4⟩ := freezeL_ok l h1 hR.2.1
      obtain ⟨r1, r2⟩ := freezeL_rest l s
      exact runRegion_sound hI hfr hG hΓ h ⟨by rw [r2]; exact hn, ν1, F1, by rw [r2]; exact q1, by rw [r1]; exact h2.lb q2, ⟨fr.st _ _ (q3 _) hR.1, q4, hR.2.2.leN (q3 0)⟩⟩ (fun ctl s' a' w' e k q => hK ctl s' a' w' e k q) id
    | false =>
      obtain ⟨hn, ν, F, h1, h2, hR⟩ := hs
      exact wpIn_region_list (runOps_sound hI hfr hG hΓ ops.toList s a w ν F h hn h1 h2 hR fun ctl s' a' w' e k q => hK ctl s' a' w' e k q)
  | seq x y ihx ihy =>
    intro rd fr hfr rf hrf st s K a w Q h hs hK
    simp only [exec] at h
    cases hj : joinOf An st y with
    | some an =>
      rw [hj] at h
      obtain ⟨h1, h2⟩ := h
      have hfe : fr.n ≤ s.next := hs.1
      have hrl : ∀ id x, (id, x) ∈ s.recs → isRow x = false → id < s.next := by
        obtain ⟨_, ν, F, h1, _, _, h3, _⟩ := hs
        exact fun id x e hx => recs_lt h1 h3 e hx
      split at h2
      · rename_i hm
        have h1' := exec_g hJg hYg x rd st { s with log := [] } _ (fun ctl s' => joinK s an K ctl s' ∧ Kept { s with log := [] } s' (writes x)) h1 fun ctl s' q1 q2 => ⟨q1, q2⟩
        refine wpIn_seq (ihx rd fr hfr rf hrf st { s with log := [] } _ a w _ h1' hs fun ctl s' a' w' e ⟨k, kk⟩ q => ?_)
        have out : ∀ (l : List (Nat × Nat × Nat)), SimC U w0 F0 fr { s' with log := l } a' w' ctl e := fun l => q
        cases ctl with
        | normal =>
          have he : e = .normal := by obtain ⟨_, _, _, _, _, _, he⟩ := q; exact he
          subst he
          unfold joinK at k
          dsimp only at k
          cases hn : (nodup (ownsAll s s' (an.mods 0)) && covers s.next (modCells s (an.mods 0)) s'.log && recsFit s s' (an.mods 0)) with
          | true =>
            rw [hn] at k
            simp only [Bool.and_eq_true] at hn
            obtain ⟨⟨hn1, hn2⟩, hn3⟩ := hn
            obtain ⟨_, L, p1, p2⟩ := kk
            have p1 : s'.log = L ++ [] := p1
            rw [List.append_nil] at p1
            rw [p1] at hn2
            have hb := p2 s.next (modCells s (an.mods 0)) (writes x) (Nat.le_refl _) (fun d hd => (mem_iff d _).mpr hd) hn2
            have hh : SimS U w0 F0 fr (joinHead (writes x) s (an.mods 0)) a' w' := head_ok (e0 := s) (s := s') hfe q.toS hb (andP_right k) hn1 (recsEq_is (Bool.and_eq_true_iff.mp hn3).2 (andP_left k)) (Bool.and_eq_true_iff.mp hn3).1 hrl
            exact ihy rd fr hfr rf hrf st _ K a' w' Q h2 hh hK
          | false => rw [hn] at k; exact (show False from k).elim
        | ret =>
          have he : e = .ret := by obtain ⟨_, _, _, _, _, _, he⟩ := q; exact he
          subst he
          exact hK .ret _ a' w' _ k (out _)
        | exit id =>
          have he : e = .exit id := by obtain ⟨_, _, _, _, _, _, he⟩ := q; exact he
          subst he
          exact hK (.exit id) _ a' w' _ k (out _)
        | goto id =>
          have he : e = .goto id := by obtain ⟨_, _, _, _, _, _, he⟩ := q; exact he
          subst he
          exact hK (.goto id) _ a' w' _ k (out _)
        | panic v =>
          have he : ∃ y, e = .panic [{ v := y, recovered := false }] := by obtain ⟨_, _, _, _, _, _, y, he, _⟩ := q; exact ⟨y, he⟩
          obtain ⟨y, rfl⟩ := he
          exact hK (.panic v) _ a' w' _ k (out _)
      · exact h2.elim
    | none =>
    rw [hj] at h
    refine wpIn_seq (ihx rd fr hfr rf hrf st s _ a w _ h hs fun ctl s' a' w' e k q => ?_)
    cases ctl with
    | normal =>
      have he : e = .normal := by obtain ⟨_, _, _, _, _, _, he⟩ := q; exact he
      subst he
      exact ihy rd fr hfr rf hrf st s' K a' w' Q k q.toS hK
    | ret =>
      have he : e = .ret := by obtain ⟨_, _, _, _, _, _, he⟩ := q; exact he
      subst he
      exact hK .ret s' a' w' _ k q
    | exit id =>
      have he : e = .exit id := by obtain ⟨_, _, _, _, _, _, he⟩ := q; exact he
      subst he
      exact hK (.exit id) s' a' w' _ k q
    | goto id =>
      have he : e = .goto id := by obtain ⟨_, _, _, _, _, _, he⟩ := q; exact he
      subst he
      exact hK (.goto id) s' a' w' _ k q
    | panic v =>
      have he : ∃ y, e = .panic [{ v := y, recovered := false }] := by obtain ⟨_, _, _, _, _, _, y, he, _⟩ := q; exact ⟨y, he⟩
      obtain ⟨y, rfl⟩ := he
      exact hK (.panic v) s' a' w' _ k q
  | cond x c d ihc ihd =>
    intro rd fr hfr rf hrf st s K a w Q h hs hK
    simp only [exec] at h
    split at h
    · rename_i t e
      obtain ⟨hn, ν, F, h1, h2, hR⟩ := hs
      have hx := TOk.ev (defers := a.defers) h2 x
      rw [e] at hx
      have hx : a.eval x = .bool t := hx
      exact wpIn_cond_split hx (fun q => ihc rd fr hfr rf hrf st s K a w Q (h.1 q) ⟨hn, ν, F, h1, h2, hR⟩ hK) (fun q => ihd rd fr hfr rf hrf st s K a w Q (h.2 q) ⟨hn, ν, F, h1, h2, hR⟩ hK)
    · exact h.elim
  | block id c ih =>
    intro rd fr hfr rf hrf st s K a w Q h hs hK
    refine wpIn_block (ih rd fr hfr rf hrf st s _ a w _ h hs fun ctl s' a' w' e k q => ?_)
    cases ctl with
    | normal =>
      have he : e = .normal := by obtain ⟨_, _, _, _, _, _, he⟩ := q; exact he
      subst he
      exact hK .normal s' a' w' _ k q
    | ret =>
      have he : e = .ret := by obtain ⟨_, _, _, _, _, _, he⟩ := q; exact he
      subst he
      exact hK .ret s' a' w' _ k q
    | panic v =>
      have he : ∃ y, e = .panic [{ v := y, recovered := false }] := by obtain ⟨_, _, _, _, _, _, y, he, _⟩ := q; exact ⟨y, he⟩
      obtain ⟨y, rfl⟩ := he
      exact hK (.panic v) s' a' w' _ k q
    | goto l =>
      have he : e = .goto l := by obtain ⟨_, _, _, _, _, _, he⟩ := q; exact he
      subst he
      exact hK (.goto l) s' a' w' _ k q
    | exit j =>
      have he : e = .exit j := by obtain ⟨_, _, _, _, _, _, he⟩ := q; exact he
      subst he
      simp only [blockK] at k
      simp only [Exit.inBlock]
      split at k
      · rename_i e; rw [if_pos e]; exact hK .normal s' a' w' _ k q.toS.normal
      · rename_i e; rw [if_neg e]; exact hK (.exit j) s' a' w' _ k q
  | exit id =>
    intro rd fr hfr rf hrf st s K a w Q h hs hK
    obtain ⟨hn, ν, F, h1, h2, hR⟩ := hs
    exact wpIn_exit (hK (.exit id) s a w _ h ⟨hn, ν, F, h1, h2, hR, rfl⟩)
  | goto id =>
    intro rd fr hfr rf hrf st s K a w Q h hs hK
    obtain ⟨hn, ν, F, h1, h2, hR⟩ := hs
    exact wpIn_goto (hK (.goto id) s a w _ h ⟨hn, ν, F, h1, h2, hR, rfl⟩)
  | label l =>
    intro rd fr hfr rf hrf st s K a w Q h hs hK
    exact wpIn_label (hK .normal s a w _ h hs.normal)
  | ret =>
    intro rd fr hfr rf hrf st s K a w Q h hs hK
    obtain ⟨hn, ν, F, h1, h2, hR⟩ := hs
    exact wpIn_ret (hK .ret s a w _ h ⟨hn, ν, F, h1, h2, hR, rfl⟩)
  | loop c ih =>
    intro rd fr hfr rf hrf st s K a w Q h hs hK
    simp only [exec] at h
    split at h
    · rename_i key hkey
      split at h
      · rename_i an han
        split at h
        · rename_i m hm
          have key : ∀ m (s : St U) (K : Ctl → St U → Prop) (a : Act) (w : World), unrollK (fun s K => exec P Γ J Y An c rd st s K) m s K → SimS U w0 F0 fr s a w → (∀ ctl s' a' w' e, K ctl s' → SimC U w0 F0 fr s' a' w' ctl e → Q e a' w') → Code.roundsIn (fenceOf rf) 0 P c Q m a w := by
            intro m
            induction m with
            | zero => intro s K a w h _ _; exact h.elim
            | succ m ihm =>
              intro s K a w h hs hK
              rw [roundsIn_succ]
              refine ih rd fr hfr rf hrf st s _ a w _ h hs fun ctl s' a' w' e k q => ?_
              cases ctl with
              | normal =>
                have he : e = .normal := by obtain ⟨_, _, _, _, _, _, he⟩ := q; exact he
                subst he
                exact ihm s' K a' w' k q.toS hK
              | ret =>
                have he : e = .ret := by obtain ⟨_, _, _, _, _, _, he⟩ := q; exact he
                subst he
                exact hK .ret s' a' w' _ k q
              | exit id =>
                have he : e = .exit id := by obtain ⟨_, _, _, _, _, _, he⟩ := q; exact he
                subst he
                exact hK (.exit id) s' a' w' _ k q
              | goto id =>
                have he : e = .goto id := by obtain ⟨_, _, _, _, _, _, he⟩ := q; exact he
                subst he
                exact hK (.goto id) s' a' w' _ k q
              | panic v =>
                have he : ∃ y, e = .panic [{ v := y, recovered := false }] := by obtain ⟨_, _, _, _, _, _, y, he, _⟩ := q; exact ⟨y, he⟩
                obtain ⟨y, rfl⟩ := he
                exact hK (.panic v) s' a' w' _ k q
          exact wpIn_loop_rounds m (key m s K a w h hs hK)
        obtain ⟨hi0, h0, hr⟩ := h
        have hfe : fr.n ≤ s.next := hs.1
        have hrl : ∀ id x, (id, x) ∈ s.recs → isRow x = false → id < s.next := by
          obtain ⟨_, ν, F, h1, _, _, h3, _⟩ := hs
          exact fun id x e hx => recs_lt h1 h3 e hx
        have start : SimS U w0 F0 fr (headOf (writes c) s (an.mods 0)) a w := by
          split at h0
          · rename_i hn; exact head_ok hfe hs rfl h0 (Bool.and_eq_true_iff.mp hn).1 rfl (Bool.and_eq_true_iff.mp hn).2 hrl
          · exact h0.elim
        refine wpIn_loop_ghost (fun n a w => ∃ k, k ≤ an.N ∧ n = an.N - k ∧ an.inv k ∧ SimS U w0 F0 fr (headOf (writes c) s (an.mods k)) a w) an.N ⟨0, by omega, by omega, hi0, start⟩ ?_
        rintro n a1 w1 ⟨k, hk, rfl, hik, hS⟩
        have hr1 := hr k hk hik
        split at hr1
        · rename_i hm
          have hr2 := exec_g hJg hYg c rd (k :: st) _ _ (fun ctl s' => loopK (writes c) s an k K ctl s' ∧ Kept (headOf (writes c) s (an.mods k)) s' (writes c)) hr1 fun ctl s' q1 q2 => ⟨q1, q2⟩
          refine ih rd fr hfr rf hrf (k :: st) _ _ a1 w1 _ hr2 hS fun ctl s' a' w' e ⟨q1, q3⟩ q2 => ?_
          have out : ∀ (l : List (Nat × Nat × Nat)), SimC U w0 F0 fr { s' with log := l } a' w' ctl e := fun l => q2
          cases ctl with
          | normal =>
            have he : e = .normal := by obtain ⟨_, _, _, _, _, _, he⟩ := q2; exact he
            subst he
            obtain ⟨hlt, hi1, hf⟩ := q1
            refine ⟨an.N - (k + 1), by omega, k + 1, by omega, rfl, hi1, ?_⟩
            split at hf
            · rename_i hn
              simp only [Bool.and_eq_true] at hn
              obtain ⟨⟨hn1, hn2⟩, hn3⟩ := hn
              rw [covers_append] at hn2
              obtain ⟨_, L, p1, p2⟩ := q3
              have p1 : s'.log = L ++ [] := p1
              rw [List.append_nil] at p1
              rw [p1] at hn2
              have hb := (p2 s.next (modCells s (an.mods (k + 1))) (writes c) (Nat.le_add_right _ _) (fun d hd => (mem_iff d _).mpr hd) hn2.1).trans (head_keeps hm (Nat.le_refl _) (fun d hd => hd) hn2.2)
              exact head_ok hfe q2.toS hb (andP_right hf) hn1 (recsEq_is (Bool.and_eq_true_iff.mp hn3).2 (andP_left hf)) (Bool.and_eq_true_iff.mp hn3).1 hrl
            · exact hf.elim
          | ret =>
            have he : e = .ret := by obtain ⟨_, _, _, _, _, _, he⟩ := q2; exact he
            subst he
            exact hK .ret _ a' w' _ q1 (out _)
          | exit id =>
            have he : e = .exit id := by obtain ⟨_, _, _, _, _, _, he⟩ := q2; exact he
            subst he
            exact hK (.exit id) _ a' w' _ q1 (out _)
          | goto id =>
            have he : e = .goto id := by obtain ⟨_, _, _, _, _, _, he⟩ := q2; exact he
            subst he
            exact hK (.goto id) _ a' w' _ q1 (out _)
          | panic v =>
            have he : ∃ y, e = .panic [{ v := y, recovered := false }] := by obtain ⟨_, _, _, _, _, _, y, he, _⟩ := q2; exact ⟨y, he⟩
            obtain ⟨y, rfl⟩ := he
            exact hK (.panic v) _ a' w' _ q1 (out _)
        · exact hr1.elim
      · exact h.elim
    · exact h.elim
  | rangeFunc g ps assign body iha ihb =>
    intro rd fr hfr rf hrf st s K a w Q h hs hK
    simp only [exec] at h
    split at h
    · rename_i f ex hcal
      split at h
      · exact h.elim
      · rename_i hcon
        split at h
        · rename_i p hp
          have hrf : rf = none := by cases rf with | none => rfl | some _ => cases hrf
          subst hrf
          obtain ⟨hn, ν, F, hsim, ht, hR, hRe, hM⟩ := hs
          have hg := TOk.ev (defers := a.defers) ht g
          obtain ⟨cs, q1, q2, hv⟩ := calOf_den hcal hg
          have hv : a.eval g = .func (.func f) #[] cs.toArray := hv
          refine wpIn_rangeFunc fun fn _ => ?_
          -- the record
          let rec0 : Loop := { state := .ready, pending := none, fn, tmps := a.tmps, params := ps, assign, body, defers := w.heap.size }
          let D := w.heap.size
          let l := w.heap.size + 1
          let w1 := (w.alloc (.deferred (some []))).alloc (.loop rec0)
          have hs1 := (hsim.newObj (x := .deferred (some [])) trivial).newObj (x := .loop rec0) trivial
          have hs2 := (hs1.setB (k := s.next) (Nat.le_refl _) l).fr (Fr' := fun k => s.next + 1 ≤ k) fun k hk => ⟨Nat.le_trans (Nat.le_succ _) hk, by omega⟩
          obtain ⟨ν1, hν1⟩ : ∃ ν1, ν1 = (((ν.setO fun k => if k = w.heap.size then some (Obj.deferred (some [])) else ν.o k).setO fun k => if k = (w.alloc (.deferred (some []))).heap.size then some (.loop rec0) else (if k = w.heap.size then some (Obj.deferred (some [])) else ν.o k)).setB s.next l) := ⟨_, rfl⟩
          have hs2 : Sim U w0 F0 (fun k => s.next + 1 ≤ k) s.heap s.rows w1 ν1 F := by rw [hν1]; exact hs2
          have hfree := (hsim.free s.next (Nat.le_refl _)).1
          have hlt : ∀ k x, ν.o k = some x → k < w.heap.size := fun k x e => (Array.getElem?_eq_some_iff.mp (hsim.hold k x e).2.1).1
          have o1 : ∀ k x, ν.o k = some x → ν1.o k = some x := fun k x e => by
            have := hlt k x e
            rw [hν1]
            show (if k = (w.alloc (.deferred (some []))).heap.size then some (.loop rec0) else (if k = w.heap.size then some (Obj.deferred (some [])) else ν.o k)) = some x
            rw [World.size_alloc, if_neg (by omega), if_neg (by omega)]; exact e
          have oD : ν1.o D = some (.deferred (some [])) := by
            rw [hν1]
            show (if D = (w.alloc (.deferred (some []))).heap.size then some (.loop rec0) else (if D = w.heap.size then some (Obj.deferred (some [])) else ν.o D)) = _
            rw [World.size_alloc, if_neg (by show w.heap.size ≠ _; omega), if_pos rfl]
          have ol : ν1.o l = some (.loop rec0) := by
            rw [hν1]
            show (if l = (w.alloc (.deferred (some []))).heap.size then some (.loop rec0) else (if l = w.heap.size then some (Obj.deferred (some [])) else ν.o l)) = _
            rw [World.size_alloc, if_pos rfl]
          have b1 : ∀ k x, ν.b k = some x → ν1.b k = some x := fun k x e => by
            rw [hν1]
            show (if k = s.next then some l else ν.b k) = some x
            rw [if_neg (fun c => by subst c; rw [hfree] at e; cases e)]; exact e
          have bl : ν1.b s.next = some l := by rw [hν1]; exact if_pos rfl
          have f1 : ∀ k x, ν.f k = some x → ν1.f k = some x := fun k x e => by rw [hν1]; exact e
          have le1 : ν.le ν1 := ⟨b1, f1, o1⟩
          have hDn : ν.o D = none := by
            cases hh : ν.o D with
            | none => rfl
            | some x => have := hlt D x hh; exact absurd this (Nat.lt_irrefl _)
          let fr1 : Frm := ⟨s.next + 1, fun ν' => (fr.R ν' ∧ Marks fr.fresh ν' (markOf D :: a.defers)) ∧ ν1.leN (s.next + 1) ν', fun x y hab q => ⟨⟨fr.st x y (Nu.leN_mono hab (Nat.le_trans hn (Nat.le_succ _))) q.1.1, q.1.2.leN hab⟩, Nu.leN_trans q.2 hab⟩, fr.fresh, fun ν' D q e => fr.frs ν' D q.1.1 e⟩
          have hmark : Marks fr.fresh ν1 (markOf D :: a.defers) := by
            obtain ⟨L, e1, e2, e3⟩ := hM
            refine ⟨D :: L, by rw [e1]; rfl, List.nodup_cons.mpr ⟨fun c => ?_, e2⟩, fun D' hD' => ?_⟩
            · have := (e3 D c).1; rw [hDn] at this; cases this
            · rcases List.mem_cons.mp hD' with rfl | c
              · exact ⟨oD, fr.frs ν _ hR (fun x hx => by rw [hDn] at hx; cases hx)⟩
              · exact ⟨o1 _ _ (e3 D' c).1, (e3 D' c).2⟩
          have hRe1 : RecsOk ν1 ((s.next, .ready) :: s.recs) := by
            have hold := hRe.mono le1
            refine hold.but (ν' := ν1) ⟨fun _ _ e => e, fun _ _ e => e⟩ (G := fun _ => False) (fun _ _ => rfl) (some (s.next, .ready)) (fun p hp => ?_) (fun p hp => ?_)
            · rcases List.mem_cons.mp hp with rfl | hp
              · exact .inl rfl
              · exact .inr ⟨hp, fun _ _ q => q⟩
            · cases hp
              refine ⟨⟨l, rec0, bl, ol, rfl, rfl⟩, fun g e1 q hq e2 => ?_⟩
              rcases List.mem_cons.mp hq with rfl | hq
              · exact .inl rfl
              · exfalso
                have e1 : ν1.b s.next = some g := e1
                rw [bl] at e1
                cases e1
                have hi := hRe.1 q.1 q.2 hq
                rw [(hi.mono le1).2] at e2
                rcases hi.blk with ⟨g', z1, y, z2⟩ | z1
                · rw [e2] at z1
                  cases z1
                  exact absurd (hlt _ _ z2) (by show ¬ w.heap.size + 1 < _; omega)
                · rw [e2] at z1; cases z1
          have hYr : YOk P U w0 F0 (fun ν' => YR ν' ∧ ν1.leN (s.next + 1) ν') (roundH (two (fun st s K => exec P Γ J Y An assign true st s K) (fun st s K => exec P Γ J Y An body true st s K)) s.next (cleanT s.next [] 0 s.tmps) ps.toList Y) :=
            round_ok hY (iha true) (ihb true) (rec := rec0) bl ol rfl rfl rfl ((cleanT_ok (n := s.next) (W := []) ht).lb ⟨fun k x e => (by
              by_cases c : k < s.next
              · rw [Nu.cut_b c] at e ⊢; exact b1 k x e
              · have : (ν.cut s.next).b k = none := if_neg c
                rw [this] at e; cases e), fun k x e => (by
              by_cases c : k < 16 * s.next
              · rw [Nu.cut_f c] at e ⊢; exact f1 k x e
              · have : (ν.cut s.next).f k = none := if_neg c
                rw [this] at e; cases e)⟩) (cleanT_pl _)
          have hYg' : YG (roundH (two (fun st s K => exec P Γ J Y An assign true st s K) (fun st s K => exec P Γ J Y An body true st s K)) s.next (cleanT s.next [] 0 s.tmps) ps.toList Y) :=
            roundH_g (W := two (writes assign) (writes body)) (fun c st s K K' h hK => by
              cases c with
              | zero => exact exec_g hJg hYg assign true st s K K' h hK
              | succ c => exact exec_g hJg hYg body true st s K K' h hK) _ _ _ hYg
          have hcal := hJ _ _ hYr hYg' st (.fn f) _ _ _ _ p hp h fr1 a.tmps w1 ν1 F (.func (.yield l) #[] #[] :: cs) (fun ν' q => ⟨hfr ν' q.1.1, q.2⟩) hs2 (Nat.le_refl _) ⟨⟨fr.st _ _ (le1.leN _) hR, hmark⟩, fun k _ x e => e, fun k _ x e => e, fun k x e _ => ⟨x, e, recLe.refl x⟩⟩ hRe1 (ht.mono le1) (by simp [q1]) (fun j x v e1 e2 => by
            cases j with
            | zero => simp at e1 e2; subst e1; subst e2; exact ⟨l, bl, rfl⟩
            | succ j => exact (q2 j x v (by simpa using e1) (by simpa using e2)).mono le1)
          obtain ⟨hcall, hcalls⟩ := hcal
          refine ⟨l, [markOf D], w1, { target := .fn (.func f) cs.toArray, args := #[.func (.yield l) #[] #[]] }, w1, f, (.func (.yield l) #[] #[] :: cs).toArray, w1, run_enterLoop_outer _ _ _ _ _, ?_, fun _ _ => trivial, ?_, fun q => by simp [fenceOf, Fence.wide] at q, callsIn_fence (hcalls.mono fun e w3 he => ?_)⟩
          · simp only [resolve, hv]
            simp [go_sem]
          · have : (.func (.yield l) #[] #[] :: cs).toArray = #[Value.func (.yield l) #[] #[]] ++ cs.toArray := by simp
            rw [this]
            exact callFunc_run hcall _ w1
          · rcases he with ⟨y, rfl, hb⟩ | ⟨y, rfl, hb⟩
            · obtain ⟨v, s', ν', F', hk, g1, g2, ⟨⟨g3, g4⟩, g5⟩, g6, g7, g8⟩ := hb
              have bl' := g5.1 s.next (Nat.lt_succ_self _) l bl
              have fin : ∀ (x : RS U), look s.next s'.recs = some x → isRow x = false → ∀ r : Loop, ν'.o l = some (.loop r) → r.state ≠ .busy →
                  ∃ w4, (Instr.endLoop l).run P w3 = .ok r.pending w4 ∧ ∀ ctl e, CtlIs ν' ctl e → (∀ v, ctl ≠ .panic v) → SimC U w0 F0 fr { s' with recs := dropRec s.next s'.recs } { a with defers := [markOf D] ++ a.defers } w4 ctl e := fun x hx hxr r hr hb => by
                refine ⟨_, run_endLoop (g1.hold l _ hr).2.1 hb, fun ctl e hc hnp => ?_⟩
                have le3 : ν'.leN (s.next + 1) (ν'.setO fun j => if j = l then some (.loop { r with state := .exhausted }) else ν'.o j) := leN_setRec (pe := r.pending) hr .exhausted
                refine ⟨Nat.le_trans (Nat.le_trans hn (Nat.le_succ _)) g2, _, F', g1.putObj hr (x' := .loop { r with state := .exhausted }) trivial rfl (fun k y e c => by rw [if_neg c] at e; exact e) (fun y e => by rw [if_pos rfl] at e; exact (Option.some.inj e).symm), g7.lb (Nu.lb_setO _ _), ⟨fr.st _ _ (Nu.leN_mono le3 (Nat.le_trans hn (Nat.le_succ _))) g3, g6.drop bl' ⟨_, hx, hxr⟩ _, g4.leN le3⟩, ?_⟩
                cases ctl with
                | normal => exact hc
                | ret => exact hc
                | exit i => exact hc
                | goto l => exact hc
                | panic v => exact absurd rfl (hnp v)
              unfold rangeK at hk
              split at hk
              · rename_i hx
                obtain ⟨l', r, e1, e2, e3, e4⟩ := g6.1 _ _ (look_mem hx)
                have : l' = l := Option.some.inj (e1.symm.trans bl')
                subst this
                obtain ⟨w4, k1, k2⟩ := fin _ hx rfl r e2 (by rw [e3]; intro c; cases c)
                refine ⟨_, w4, k1, ?_⟩
                rw [e4]
                exact hK .normal _ _ w4 _ hk (k2 .normal .normal rfl (fun v c => by cases c))
              · rename_i hx
                obtain ⟨l', r, e1, e2, e3, q, e4, e5⟩ := g6.1 _ _ (look_mem hx)
                have : l' = l := Option.some.inj (e1.symm.trans bl')
                subst this
                obtain ⟨w4, k1, k2⟩ := fin _ hx rfl r e2 (by rw [e3]; intro c; cases c)
                refine ⟨_, w4, k1, ?_⟩
                cases e4
                rw [e5]
                exact wpIn_ret (hK .ret _ _ w4 _ hk (k2 .ret .ret rfl (fun v c => by cases c)))
              · rename_i i hx
                obtain ⟨l', r, e1, e2, e3, q, e4, e5⟩ := g6.1 _ _ (look_mem hx)
                have : l' = l := Option.some.inj (e1.symm.trans bl')
                subst this
                obtain ⟨w4, k1, k2⟩ := fin _ hx rfl r e2 (by rw [e3]; intro c; cases c)
                refine ⟨_, w4, k1, ?_⟩
                cases e4
                rw [e5]
                exact wpIn_exit (hK (.exit i) _ _ w4 _ hk (k2 (.exit i) (.exit i) rfl (fun v c => by cases c)))
              · exact hk.elim
            · obtain ⟨v, s', ν', F', hk, _⟩ := hb
              exact hk.elim
        · exact h.elim
    · exact h.elim
  | _ => intro rd fr hfr rf hrf st s K a w Q h hs hK; exact (show False from h).elim

/-! ### Whole functions -/
variable {s : St U} {Fr : Nat → Prop} {w : World} {ν : Nu} {F : Nat → Nat → Prop} {a : Act}

theorem initArgs_den {n : Nat} : ∀ (ds : List (D U)) (j : Nat) (ys : List Value) {xs : List TV} {rs : List (Nat × Row U)}, initArgs ds j = (xs, rs) → initOK ds j = true → j + ds.length = n → ds.length = ys.length →
    (∀ (i : Nat) d v, ds[i]? = some d → ys[i]? = some v → DDen U F w d v) → (∀ b o, F b o → b < w.heap.size) →
    ∃ ν, Sim U w F (fun k => k < j ∨ n ≤ k) [] rs w ν F ∧ xs.length = ys.length ∧ ∀ (i : Nat) x v T, xs[i]? = some x → ys[i]? = some v → DenTV ν T x v
  | [], j, ys, xs, rs, h, hok, hn, hl, hd, hF => by
    cases h
    refine ⟨⟨fun _ => none, fun _ => none, fun _ => none⟩, ⟨Below.refl _ _, fun id t cs e => by simp [look] at e, fun id id' b e => by simp [look] at e, hF, fun fid r e => by simp [look] at e, fun fid r v id b e => by simp [look] at e, fun fid r v fid' r' v' b e => by simp [look] at e, fun k _ => ⟨rfl, fun _ _ => rfl⟩, fun _ _ x => x, fun _ _ x => .inl x, fun _ _ e => (by cases e), fun _ _ e => (by cases e)⟩, hl, fun i x v T e => by simp at e⟩
  | d :: ds, j, ys, xs, rs, h, hok, hn, hl, hd, hF => by
    obtain ⟨y, ys, rfl⟩ : ∃ y ys', ys = y :: ys' := by cases ys with | nil => simp at hl | cons y ys' => exact ⟨y, ys', rfl⟩
    simp only [initArgs] at h
    simp only [initOK] at hok
    cases e1 : atomsOf j d.cs 0 with
    | mk as rs1 =>
      simp only [e1] at h hok
      cases e2 : initArgs ds (j + 1) with
      | mk xs2 rs2 =>
        simp only [e2] at h
        cases h
        simp only [Bool.and_eq_true, decide_eq_true_eq] at hok
        simp only [List.length_cons] at hn
        obtain ⟨ν, g1, g2, g3⟩ := initArgs_den (n := n) ds (j + 1) ys e2 hok.2 (by omega) (by simpa using hl) (fun i d v p q => hd (i + 1) d v (by simpa using p) (by simpa using q)) hF
        obtain ⟨zs, c1, c2, c3⟩ := (hd 0 d y rfl rfl).cells
        have hfree := (g1.free j (.inl (by omega))).2
        obtain ⟨ν', b1, b2, b3, b4⟩ := Sim.atoms (Fr := fun k => k < j ∨ n ≤ k) (kx := j) d.cs 0 zs (g1.fr (Fr' := fun k => k < j ∨ n ≤ k) fun k hk => by omega) (by omega) e1 (fun i hi hi' => hfree i (by omega)) (by omega) c1.1 c1.2
        refine ⟨ν', b2, by simp [g2], fun i x v T p q => ?_⟩
        cases i with
        | zero =>
          simp at p q
          subst p; subst q
          show DenSV ν' (argSV d as) y
          cases hg : d.agg with
          | true =>
            obtain ⟨arr, ea, eb⟩ := c2 hg
            simp only [argSV, hg]
            exact ⟨arr, ea, by rw [eb]; exact b3⟩
          | false =>
            have := c3 hg
            subst this
            simp only [argSV, hg]
            obtain ⟨x1, rfl⟩ : ∃ x1, as = [x1] := by
              have := b3.1
              cases as with
              | nil => simp at this
              | cons x1 r => cases r with | nil => exact ⟨x1, rfl⟩ | cons _ _ => simp at this
            exact b3.2.2 0 x1 _ rfl rfl
        | succ i => exact (g3 i x v T (by simpa using p) (by simpa using q)).mono b1

theorem resSV_den {x : ResultVar} {v : SV} (h : resSV P s x = some v) (hs : Sim U w0 F0 Fr s.heap s.rows w ν F) (ht : TOk ν s.tmps a.tmps) :
    ∃ y : Value, (resSem a.tmps x).run P w = .ok y w ∧ DenSV ν v y := by
  cases x with
  | tmp t =>
    cases h
    exact ⟨_, rfl, TOk.ev (defers := a.defers) ht (.tmp t)⟩
  | cell c t =>
    simp only [resSV] at h
    have hx := TOk.ev (defers := a.defers) ht (.tmp c)
    split at h
    · rename_i id off n g e1 hn hg
      rw [e1] at hx
      obtain ⟨b, eb, ex⟩ := hx
      have ex : a.tmps.getD c undef = .pointer (some ⟨b, off, none⟩) := ex
      split at h
      · rename_i t' cs hl
        obtain ⟨b', arr, g1, g2, g3, g4, g6⟩ := hs.box id t' cs hl
        obtain rfl : b' = b := Option.some.inj (g1.symm.trans eb)
        have conv : ∀ {y}, (Instr.loadAt t (.pointer (some ⟨b', off, none⟩))).run P w = .ok y w → (do loadVar t (← asAddr (a.tmps.getD c undef)) : Sem Value).run P w = .ok y w := fun {y} hy => by
          rw [ex]
          simpa [Instr.loadAt, Instr.sureAddr, asAddr] using hy
        split at h
        · split at h
          · rename_i hlen
            cases h
            have hlen' : ((arr.toList.drop off).take n).length = n := by
              have : ((cs.drop off).take n).length = ((arr.toList.drop off).take n).length := by simp [g4.1]
              rw [← this]; exact hlen
            have hrun := load_run (P := P) hn hg (b := b') (off := off) (vs := (arr.toList.drop off).take n) (w := w) (by rw [if_pos rfl]; exact hlen') (fun j v e => by
              rw [getElem?_drop_take] at e
              split at e
              · rw [cell_at g3]; simpa using e
              · cases e)
            rw [if_pos rfl] at hrun
            exact ⟨_, conv hrun, _, rfl, g4.sub off n⟩
          · cases h
        · split at h
          · rename_i at_ hat
            cases h
            have hlt : off < arr.toList.length := by rw [← g4.1]; exact (List.getElem?_eq_some_iff.mp hat).1
            have hy : arr.toList[off]? = some arr.toList[off] := List.getElem?_eq_getElem hlt
            have hrun := load_run (P := P) hn hg (b := b') (off := off) (vs := [arr.toList[off]]) (w := w) rfl (fun j v e => by
              cases j with
              | zero => simp at e; subst e; rw [cell_at g3]; first | (simp; done) | simpa using hy
              | succ j => simp at e)
            exact ⟨_, conv hrun, g4.2.2 off at_ _ hat hy⟩
          · cases h
      · cases h
    · cases h

theorem resDs_den (hs : Sim U w0 F0 Fr s.heap s.rows w ν F) (ht : TOk ν s.tmps a.tmps) : ∀ (l : List ResultVar) (ts : List TypeId) (ds : List (D U)), resDs P Γ s l ts = some ds →
    ∃ ys : List Value, (l.mapM (resSem a.tmps)).run P w = .ok ys w ∧ ds.length = ys.length ∧ ∀ (i : Nat) d v, ds[i]? = some d → ys[i]? = some v → DDen U F w d v
  | [], ts, ds, h => by
    have h : some [] = some ds := by cases ts <;> exact h
    cases h; exact ⟨[], by simp, rfl, fun i d v e => by simp at e⟩
  | x :: l, [], ds, h => by cases h
  | x :: l, t :: ts, ds, h => by
    simp only [resDs] at h
    split at h
    · rename_i v hv
      split at h
      · rename_i d hd
        split at h
        · rename_i ds' hds
          cases h
          obtain ⟨ys, q1, q2, q3⟩ := resDs_den hs ht l ts ds' hds
          obtain ⟨y, p1, p2⟩ := resSV_den (a := a) hv hs ht
          refine ⟨y :: ys, ?_, by simp [q2], fun i d' v' e1 e2 => ?_⟩
          · simp only [List.mapM_cons, Sem.run_bind]
            rw [p1]
            simp only [Result.andThen_ok, q1, Sem.run_pure]
          · cases i with
            | zero => simp at e1 e2; subst e1; subst e2; exact dOf_den hs hd p2
            | succ i => exact q3 i d' v' (by simpa using e1) (by simpa using e2)
        · cases h
      · cases h
    · cases h

theorem outRes_den {fn : Func} {out : Out U} (h : outRes P Γ s fn.results.toList fn.resultTypes.toList = some out) (hs : Sim U w0 F0 Fr s.heap s.rows w ν F) (ht : TOk ν s.tmps a.tmps) : ∃ y : Value, (results fn a.tmps).run P w = .ok y w ∧ OutDen U F w out y := by
  unfold outRes at h
  have key : ∀ ys : List Value, (fn.results.toList.mapM (resSem a.tmps)).run P w = .ok ys w →
      (results fn a.tmps).run P w = .ok (if h : ys.toArray.size = 1 then ys.toArray[0] else .tuple ys.toArray) w := fun ys hy => by
    have e : results fn a.tmps = (do let vs ← fn.results.mapM (resSem a.tmps); pure (if h : vs.size = 1 then vs[0] else .tuple vs)) := by
      unfold results
      congr 1
    rw [e, Sem.run_bind, Array.mapM_eq_mapM_toList, Sem.run_map, hy]
    rfl
  split at h
  · rename_i d hds
    cases h
    obtain ⟨ys, q1, q2, q3⟩ := resDs_den hs ht _ _ _ hds
    obtain ⟨y, rfl⟩ : ∃ y, ys = [y] := by
      cases ys with
      | nil => simp at q2
      | cons y r => cases r with | nil => exact ⟨y, rfl⟩ | cons _ _ => simp at q2
    refine ⟨y, ?_, q3 0 d y rfl rfl⟩
    rw [key _ q1]
    simp
  · rename_i ds hne hds
    cases h
    obtain ⟨ys, q1, q2, q3⟩ := resDs_den hs ht _ _ _ hds
    refine ⟨.tuple ys.toArray, ?_, ys.toArray, rfl, by simpa using q2, fun i d v e1 e2 => q3 i d v e1 (by simpa using e2)⟩
    rw [key _ q1]
    have : ys.length ≠ 1 := fun e => by
      rw [e] at q2
      cases ds with
      | nil => simp at q2
      | cons d r => cases r with | nil => exact hne d rfl | cons _ _ => simp at q2
    simp [this]
  · cases h

theorem partOf_den {v : SV} {p : Bool × List Atom} (h : partOf v = some p) {y : Value} (d : DenSV ν v y) : DenC ν p.1 p.2 y := by
  cases v with
  | one x => cases h; exact ⟨x, rfl, d⟩
  | agg l => cases h; exact d
  | tup l => cases h
theorem partsR_den (hs : Sim U w0 F0 Fr s.heap s.rows w ν F) (ht : TOk ν s.tmps a.tmps) : ∀ (l : List ResultVar) (ps : List (Bool × List Atom)), partsR P s l = some ps →
    ∃ ys : List Value, (l.mapM (resSem a.tmps) : Sem (List Value)).run P w = .ok ys w ∧ ps.length = ys.length ∧ ∀ (j : Nat) p y, ps[j]? = some p → ys[j]? = some y → DenC ν p.1 p.2 y
  | [], ps, h => by cases h; exact ⟨[], rfl, rfl, fun j p y e => by simp at e⟩
  | x :: l, ps, h => by
    simp only [partsR] at h
    split at h
    · rename_i v hv
      split at h
      · rename_i p hp
        split at h
        · rename_i ps' hps
          cases h
          obtain ⟨ys, q1, q2, q3⟩ := partsR_den hs ht l ps' hps
          obtain ⟨y, r1, r2⟩ := resSV_den hv hs ht
          refine ⟨y :: ys, ?_, by simp [q2], fun j p' y' e1 e2 => ?_⟩
          · rw [List.mapM_cons, Sem.run_bind, r1]
            simp only [Result.andThen_ok, Sem.run_bind, q1, Sem.run_pure]
          · cases j with
            | zero => simp at e1 e2; subst e1; subst e2; exact partOf_den hp r2
            | succ j => exact q3 j p' y' (by simpa using e1) (by simpa using e2)
        · cases h
      · cases h
    · cases h
theorem results_run {fn : Func} {T : Array Value} {ys : List Value} (hy : (fn.results.toList.mapM (resSem T) : Sem (List Value)).run P w = .ok ys w) : (results fn T).run P w = .ok (if h : ys.toArray.size = 1 then ys.toArray[0] else .tuple ys.toArray) w := by
  have e : results fn T = (do let vs ← fn.results.mapM (resSem T); pure (if h : vs.size = 1 then vs[0] else .tuple vs)) := by
    unfold results
    congr 1
  rw [e, Sem.run_bind, Array.mapM_eq_mapM_toList, Sem.run_map, hy]
  rfl
theorem retSV_den {fn : Func} {v : SV} (h : retSV P s fn.results.toList = some v) (hs : Sim U w0 F0 Fr s.heap s.rows w ν F) (ht : TOk ν s.tmps a.tmps) : ∃ y : Value, (results fn a.tmps).run P w = .ok y w ∧ DenSV ν v y := by
  unfold retSV at h
  split at h
  · rename_i x hx
    obtain ⟨y, r1, r2⟩ := resSV_den h hs ht
    refine ⟨y, ?_, r2⟩
    rw [results_run (ys := [y]) (by rw [hx, List.mapM_cons, Sem.run_bind, r1]; rfl)]
    simp
  · rename_i hne
    split at h
    · rename_i ps hps
      cases h
      obtain ⟨ys, q1, q2, q3⟩ := partsR_den hs ht _ _ hps
      have hl : fn.results.toList.length = ys.length := by
        have : ∀ (l : List ResultVar) (ps : List (Bool × List Atom)), partsR P s l = some ps → l.length = ps.length := by
          intro l
          induction l with
          | nil => intro ps h; cases h; rfl
          | cons x l ih =>
            intro ps h
            simp only [partsR] at h
            split at h
            · split at h
              · split at h
                · cases h; simp [ih _ (by assumption)]
                · cases h
              · cases h
            · cases h
        rw [this _ _ hps, q2]
      have : ys.length ≠ 1 := fun e => by
        rw [e] at hl
        obtain ⟨x, hx⟩ := List.length_eq_one_iff.mp hl
        exact hne x hx
      refine ⟨.tuple ys.toArray, ?_, ys.toArray, rfl, by simpa using q2, fun j x z e1 e2 => q3 j x z e1 (by simpa using e2)⟩
      rw [results_run q1]
      simp [this]
    · cases h

/-- A function's frame is left: its marks are come to. -/
theorem leave_ok {fn : Func} {R : Ending → World → Prop} {fresh : Nat → Prop} {u : FrameMode} (hu : u ≠ .run) {tmps : Array Value} {ds : List Deferred} {heap : List (Nat × TypeId × List Atom)} {rows : List (Nat × Row U)} (hs : Sim U w0 F0 Fr heap rows w ν F) (hM : Marks fresh ν ds)
    (h : ∀ w' ν', Sim U w0 F0 Fr heap rows w' ν' F → ν'.b = ν.b → ν'.f = ν.f → (∀ k x, ν.o k = some x → (x ≠ .deferred (some []) ∨ ¬ fresh k) → ν'.o k = some x) → LeavesIn Fence.wide 0 P fn tmps R [] u w') : LeavesInM Fence.wide 0 P fn tmps R ds u w := by
  obtain ⟨l, e1, e2, e3⟩ := hM
  subst e1
  refine leaves_marks hu l w ν e2 (fun D hD => (e3 D hD).1) hs fun w' ν' k1 k2 k3 k4 => h w' ν' k1 k2 k3 fun k x hx hk => (k4 k fun c => ?_).trans hx
  obtain ⟨c1, c2⟩ := e3 k c
  rw [c1] at hx
  cases hx
  rcases hk with q | q
  · exact q rfl
  · exact q c2
theorem RecsOk.left {ν ν' : Nu} {recs : List (Nat × RS U)} (k : RecsOk ν recs) (hb : ν'.b = ν.b) (hf : ν'.f = ν.f) (ho : ∀ k x, ν.o k = some x → x ≠ .deferred (some []) → ν'.o k = some x) : RecsOk ν' recs := by
  have one : ∀ id (x : RS U), (id, x) ∈ recs → RecIs ν' id x ∧ blkOf ν' id x = blkOf ν id x := fun id x e => by
    have h := k.1 id x e
    cases x with
    | row c l =>
      obtain ⟨e0, v, e1, e2, e3⟩ := h
      refine ⟨⟨e0, v, by rw [hf]; exact e1, e2, ?_⟩, by simp only [blkOf, hf]⟩
      rcases e3 with q | ⟨g, off, cap, t, arr, q1, q2, q3⟩
      · exact .inl q
      · exact .inr ⟨g, off, cap, t, arr, q1, ho _ _ q2 (by intro c; cases c), q3⟩
    | ready => obtain ⟨l, r, e1, e2, e3⟩ := h; exact ⟨⟨l, r, by rw [hb]; exact e1, ho _ _ e2 (by intro c; cases c), e3⟩, by simp only [blkOf, hb]⟩
    | busy => obtain ⟨l, r, e1, e2, e3⟩ := h; exact ⟨⟨l, r, by rw [hb]; exact e1, ho _ _ e2 (by intro c; cases c), e3⟩, by simp only [blkOf, hb]⟩
    | done c => obtain ⟨l, r, e1, e2, e3⟩ := h; exact ⟨⟨l, r, by rw [hb]; exact e1, ho _ _ e2 (by intro c; cases c), e3⟩, by simp only [blkOf, hb]⟩
  exact ⟨fun id x e => (one id x e).1, fun i j x y l e e' q q' => k.2 i j x y l e e' ((one i x e).2 ▸ q) ((one j y e').2 ▸ q')⟩
theorem partsSame_is : ∀ {l l' : List (Bool × List Atom)}, obOK (partsSame l l') → l = l'
  | [], [], _ => rfl
  | (b, l) :: r, (b', l') :: r', h => by
    simp only [partsSame] at h
    split at h
    · rename_i e
      obtain ⟨h1, h2⟩ := obOK_andO h
      rw [of_decide_eq_true e, atomsSame_is h1, partsSame_is h2]
    · exact (show False from h).elim
  | [], _ :: _, h => (show False from h).elim
  | _ :: _, [], h => (show False from h).elim
theorem svSameT_is {x y : SV} (h : obOK (svSameT x y)) : x = y := by
  unfold svSameT at h
  split at h
  · rw [partsSame_is h]
  · exact svSame_is h
theorem DenL_v {ν ν' : Nu} {l : List Value} {r : List Value} (d : DenL ν (l.map Atom.v) r) : DenL ν' (l.map Atom.v) r := by
  refine ⟨d.1, d.2.1, fun j a y e1 e2 => ?_⟩
  have := d.2.2 j a y e1 e2
  rw [List.getElem?_map] at e1
  obtain ⟨v, _, rfl⟩ := Option.map_eq_some_iff.mp e1
  exact this
theorem resOf_den {ν ν' : Nu} {r : List (Bool × List Value)} {y : Value} (d : DenSV ν (resOf r) y) : DenSV ν' (resOf r) y := by
  unfold resOf at d ⊢
  split at d
  · exact d
  · obtain ⟨arr, e, q⟩ := d; exact ⟨arr, e, DenL_v q⟩
  · obtain ⟨arr, e, q1, q2⟩ := d
    refine ⟨arr, e, q1, fun j x z e1 e2 => ?_⟩
    have := q2 j x z e1 e2
    rw [List.getElem?_map] at e1
    obtain ⟨⟨b, l⟩, _, rfl⟩ := Option.map_eq_some_iff.mp e1
    cases b with
    | true => obtain ⟨arr, e, q⟩ := this; exact ⟨arr, e, DenL_v q⟩
    | false =>
      obtain ⟨a, e3, e4⟩ := this
      refine ⟨a, e3, ?_⟩
      have : a ∈ l.map Atom.v := by
        have e3 : l.map Atom.v = [a] := e3
        rw [e3]; exact List.mem_singleton.mpr rfl
      obtain ⟨v, _, rfl⟩ := List.mem_map.mp this
      exact e4
/-- What is asked of a call's ways. -/
def WayOk (P : Program) (U : Uni) (w0 : World) (F0 : Nat → Nat → Prop) (YR : Nu → Prop) (f : Nat) (args : List SV) (X : St U → (SV → St U → Prop) → (SV → St U → Prop) → Prop) : Prop := ∀ s Kn Kp, X s Kn Kp → ∀ (fr : Frm) (T : Array Value) (w : World) (ν : Nu) (F : Nat → Nat → Prop) (vs : List Value), (∀ ν, fr.R ν → YR ν) →
  Sim U w0 F0 (fun k => s.next ≤ k) s.heap s.rows w ν F → fr.n ≤ s.next → fr.R ν → RecsOk ν s.recs → TOk ν s.tmps T → args.length = vs.length → (∀ (j : Nat) x v, args[j]? = some x → vs[j]? = some v → DenSV ν x v) →
  CalOk P ν vs w (Ends (Back U w0 F0 fr T Kn) (Back U w0 F0 fr T Kp)) (.fn f)
theorem cutI_ok {YR : Nu → Prop} {f : Nat} {st : List Nat} {args : List SV} {X : St U → (SV → St U → Prop) → (SV → St U → Prop) → Prop} (hX : WayOk P U w0 F0 YR f args X)
    (hXg : ∀ (s : St U) Kn Kp Kn' Kp', X s Kn Kp → (∀ v s', Kn v s' → Kept s s' [] → Kn' v s') → (∀ v s', Kp v s' → Kept s s' [] → Kp' v s') → X s Kn' Kp')
    {s : St U} {Kn Kp : SV → St U → Prop} {p : Prop} (h : cutI An f st args s X Kn Kp = some p) (hp : p) : ∀ (fr : Frm) (T : Array Value) (w : World) (ν : Nu) (F : Nat → Nat → Prop) (vs : List Value), (∀ ν, fr.R ν → YR ν) →
    Sim U w0 F0 (fun k => s.next ≤ k) s.heap s.rows w ν F → fr.n ≤ s.next → fr.R ν → RecsOk ν s.recs → TOk ν s.tmps T → args.length = vs.length → (∀ (j : Nat) x v, args[j]? = some x → vs[j]? = some v → DenSV ν x v) →
    CalOk P ν vs w (Ends (Back U w0 F0 fr T Kn) (Back U w0 F0 fr T Kp)) (.fn f) := by
  unfold cutI at h
  split at h
  · rename_i an e1
    split at h
    · rename_i ct e2
      split at h
      · rename_i vs e3
        split at h
        rename_i outs r e4
        split at h
        · rename_i ms e5
          split at h
          · rename_i e6
            cases h
            intro fr T w ν F vs hfr hs hn hR hRe ht hl hd
            have hx2 := hXg _ _ _ (fun v s' => cutFit s ms r v s' ∧ Kept { s with log := [] } s' []) (fun v s' => Kp v { s' with log := s'.log ++ s.log }) hp.1 (fun v s' k q => ⟨k, q⟩) (fun v s' k _ => k)
            obtain ⟨hc1, hc2⟩ := hX _ _ _ hx2 fr T w ν F vs hfr hs hn hR hRe ht hl hd
            refine ⟨hc1, hc2.mono fun e w' hh => ?_⟩
            have hrl : ∀ id x, (id, x) ∈ s.recs → isRow x = false → id < s.next := fun id x e hx => recs_lt hs hRe e hx
            rcases hh with ⟨y, q1, v, s', ν', F', ⟨k1, k2⟩, k3, k4, k5, k6, k7, k8⟩ | ⟨y, q1, v, s', ν', F', k1, k3, k4, k5, k6, k7, k8⟩
            · refine .inl ⟨y, q1, ?_⟩
              have hv := svSameT_is (andP_left k1)
              have hf := andP_right k1
              split at hf
              · rename_i hg
                simp only [Bool.and_eq_true] at hg
                obtain ⟨⟨hg2, hg2'⟩, hg3⟩ := hg
                obtain ⟨_, L, p1, p2⟩ := k2
                have p1 : s'.log = L ++ [] := p1
                rw [List.append_nil] at p1
                rw [p1] at hg2
                have hb := p2 s.next (modCells s ms) [] (Nat.le_refl _) (fun d hd => by cases hd) hg2
                obtain ⟨m1, ν2, F2, m2, m3, m4, m5, m6⟩ := head_okK (e0 := s) (s := s') (ms := ms) (fr := fr) (a := ⟨T, []⟩) (w := w') hn ⟨k4, ν', F', k3, k7, k5, k6, Marks.nil _ _⟩ (baseK_eq hb hg3) (andP_right hf) e6 (recsEq_is hg2' (andP_left hf)) hrl
                refine ⟨resOf r, cutHead s ms, ν2, F2, hp.2, m2, m1, m4, m5, m3, ?_⟩
                rw [hv] at k8
                exact resOf_den k8
              · exact hf.elim
            · exact .inr ⟨y, q1, v, _, ν', F', k1, k3, k4, k5, k6, k7, k8⟩
          · cases h
        · cases h
      · cases h
    · cases h; exact hX _ _ _ hp
  · cases h; exact hX _ _ _ hp
/-! ### Jumps back to one label -/
theorem stepR_scope {P : Program} {b : Frame} {a : Act} {k : List Item} {cs : List Frame} {w : World} {c : Code} : step P (lone (b.atR a (.code (.scope c) :: k)) cs w) = .next (lone (b.atR a (.code c :: .inScope c :: k)) cs w) :=
  step_lone_go (by simp [Go.stepG, Go.stepG.exec, Frame.atR])
theorem stepR_inScope {P : Program} {b : Frame} {a : Act} {k : List Item} {cs : List Frame} {w : World} {c : Code} : step P (lone (b.atR a (.inScope c :: k)) cs w) = .next (lone (b.atR a k) cs w) :=
  step_lone_go (by simp [Go.stepG, Go.stepG.exec, Frame.atR])
/-- As Q; by a jump to label l: J; by any other jump: no way out. -/
def jumpE (l : Nat) (J : Act → World → Prop) (Q : Exit → Act → World → Prop) : Exit → Act → World → Prop
  | .goto l', a, w => l' = l ∧ J a w
  | e, a, w => Q e a w
theorem wpIn_scope_ghost {F : Fence} {n : Nat} {Q : Exit → Act → World → Prop} {a : Act} {w : World} {c rest : Code} (l : Nat) (hf : findLabel c l = some rest) (I : Nat → Act → World → Prop)
    (first : c.wpIn F n P (jumpE l (fun a' w' => ∃ m, I m a' w') Q) a w)
    (pass : ∀ m a w, I m a w → rest.wpIn F n P (jumpE l (fun a' w' => ∃ k, k < m ∧ I k a' w') Q) a w) : (Code.scope c).wpIn F n P Q a w := by
  intro b k cs hro hb hr
  have hg : gotoIn l (.inScope c :: k) = some (.code rest :: .inScope c :: k) := by simp [gotoIn, hf]
  have key : ∀ m a w, I m a w → ∃ e a' w', Q e a' w' ∧ ArrivesIn (Machine.fenced P F) P (lone (b.atR a (.code rest :: .inScope c :: k)) cs w) b k cs e a' w' := by
    intro m
    induction m using Nat.strongRecOn with
    | _ m ih =>
      intro a w hI
      obtain ⟨e, a₁, w₁, hq, harr⟩ := pass m a w hI b (.inScope c :: k) cs hro hb hr
      cases e with
      | normal => exact ⟨.normal, a₁, w₁, hq, StepsIn.trans harr (.one (fenced_calm hb hr rfl) stepR_inScope)⟩
      | exit id => exact ⟨.exit id, a₁, w₁, hq, fun k' hk => harr.1 k' (by simp [exitTo, hk]), fun hr' hk => harr.2 hr' (by simp [exitTo, hk])⟩
      | goto l' =>
        obtain ⟨rfl, m', hlt, hI'⟩ := hq
        obtain ⟨e₂, a₂, w₂, hq₂, harr₂⟩ := ih m' hlt a₁ w₁ hI'
        exact ⟨e₂, a₂, w₂, hq₂, .of_steps (harr.1 _ hg) harr₂⟩
      | ret => exact ⟨_, a₁, w₁, hq, harr⟩
      | panic ch => exact ⟨_, a₁, w₁, hq, harr⟩
      | outgrown => exact ⟨_, a₁, w₁, hq, harr⟩
  have h0 : StepsIn (Machine.fenced P F) P (lone (b.atR a (.code (.scope c) :: k)) cs w) (lone (b.atR a (.code c :: .inScope c :: k)) cs w) := .one (fenced_calm hb hr rfl) stepR_scope
  obtain ⟨e, a₁, w₁, hq, harr⟩ := first b (.inScope c :: k) cs hro hb hr
  cases e with
  | normal => exact ⟨.normal, a₁, w₁, hq, StepsIn.trans h0 (StepsIn.trans harr (.one (fenced_calm hb hr rfl) stepR_inScope))⟩
  | exit id => exact ⟨.exit id, a₁, w₁, hq, .of_steps h0 ⟨fun k' hk => harr.1 k' (by simp [exitTo, hk]), fun hr' hk => harr.2 hr' (by simp [exitTo, hk])⟩⟩
  | goto l' =>
    obtain ⟨rfl, m', hI'⟩ := hq
    obtain ⟨e₂, a₂, w₂, hq₂, harr₂⟩ := key m' a₁ w₁ hI'
    exact ⟨e₂, a₂, w₂, hq₂, .of_steps h0 (.of_steps (harr.1 _ hg) harr₂)⟩
  | ret => exact ⟨_, a₁, w₁, hq, .of_steps h0 harr⟩
  | panic ch => exact ⟨_, a₁, w₁, hq, .of_steps h0 harr⟩
  | outgrown => exact ⟨_, a₁, w₁, hq, .of_steps h0 harr⟩
theorem execS_sound {J : YH U → Inl U} (hJ : JOk P U w0 F0 J) (hJg : JG J) {YR : Nu → Prop} {Y : YH U} (hY : YOk P U w0 F0 YR Y) (hYg : YG Y) {G : World → Prop} (hG : ∀ w, Below w0.heap.size w0 w → G w) (hΓ : COk P U G Γ) :
    ∀ (c : Code) (rd : Bool), ExecOk P w0 F0 YR rd (fun st s K => execS P Γ J Y An c rd st s K) c := by
  intro c rd
  have hx := fun c rd => exec_sound (An := An) hJ hJg hY hYg hG hΓ c rd
  induction c with
  | seq x y _ ihy =>
    intro fr hfr rf hrf st s K a w Q h hs hK
    simp only [execS] at h
    split at h
    · refine wpIn_seq (hx x rd fr hfr rf hrf st s _ a w _ h hs fun ctl s' a' w' e k q => ?_)
      cases ctl with
      | normal =>
        have he : e = .normal := by obtain ⟨_, _, _, _, _, _, he⟩ := q; exact he
        subst he
        exact ihy fr hfr rf hrf st s' K a' w' Q k q.toS hK
      | ret =>
        have he : e = .ret := by obtain ⟨_, _, _, _, _, _, he⟩ := q; exact he
        subst he
        exact hK .ret s' a' w' _ k q
      | exit id =>
        have he : e = .exit id := by obtain ⟨_, _, _, _, _, _, he⟩ := q; exact he
        subst he
        exact hK (.exit id) s' a' w' _ k q
      | goto id =>
        have he : e = .goto id := by obtain ⟨_, _, _, _, _, _, he⟩ := q; exact he
        subst he
        exact hK (.goto id) s' a' w' _ k q
      | panic v =>
        have he : ∃ y, e = .panic [{ v := y, recovered := false }] := by obtain ⟨_, _, _, _, _, _, y, he, _⟩ := q; exact ⟨y, he⟩
        obtain ⟨y, rfl⟩ := he
        exact hK (.panic v) s' a' w' _ k q
    · exact hx (.seq x y) rd fr hfr rf hrf st s K a w Q h hs hK
  | scope c _ =>
    intro fr hfr rf hrf st s K a w Q h hs hK
    simp only [execS] at h
    split at h
    · rename_i l hl
      split at h
      · rename_i rest hf
        split at h
        · rename_i an han
          refine wpIn_scope_ghost l hf (fun n a w => ∃ (s1 : St U) (k : Nat), k ≤ an.N ∧ n = an.N - k ∧ an.inv k ∧ fr.n ≤ s1.next ∧ (∀ id x, (id, x) ∈ s1.recs → isRow x = false → id < s1.next) ∧ (∀ k, k ≤ an.N → an.inv k → (match modsOK (writes rest) (an.mods k) with | true => exec P Γ J Y An rest rd (k :: st) (headOf (writes rest) s1 (an.mods k)) (gotoK l s1 an k K) | false => False)) ∧ SimS U w0 F0 fr (headOf (writes rest) s1 (an.mods k)) a w) ?_ ?_
          · refine hx c rd fr hfr rf hrf st s _ a w _ h hs fun ctl s' a' w' e k q => ?_
            cases ctl with
            | normal =>
              have he : e = .normal := by obtain ⟨_, _, _, _, _, _, he⟩ := q; exact he
              subst he
              exact hK .normal s' a' w' _ k q
            | ret =>
              have he : e = .ret := by obtain ⟨_, _, _, _, _, _, he⟩ := q; exact he
              subst he
              exact hK .ret s' a' w' _ k q
            | exit id =>
              have he : e = .exit id := by obtain ⟨_, _, _, _, _, _, he⟩ := q; exact he
              subst he
              exact hK (.exit id) s' a' w' _ k q
            | panic v =>
              have he : ∃ y, e = .panic [{ v := y, recovered := false }] := by obtain ⟨_, _, _, _, _, _, y, he, _⟩ := q; exact ⟨y, he⟩
              obtain ⟨y, rfl⟩ := he
              exact hK (.panic v) s' a' w' _ k q
            | goto l' =>
              have he : e = .goto l' := by obtain ⟨_, _, _, _, _, _, he⟩ := q; exact he
              subst he
              unfold jumpK at k
              dsimp only at k
              split at k
              · rename_i hd
                obtain ⟨hi0, h0, hr⟩ := k
                have hfe : fr.n ≤ s'.next := q.1
                have hrl : ∀ id x, (id, x) ∈ s'.recs → isRow x = false → id < s'.next := by
                  obtain ⟨_, ν, F, h1, _, _, h3, _⟩ := q.toS
                  exact fun id x e hx => recs_lt h1 h3 e hx
                refine ⟨of_decide_eq_true hd, an.N, s', 0, Nat.zero_le _, rfl, hi0, hfe, hrl, hr, ?_⟩
                split at h0
                · rename_i hn; exact head_ok hfe q.toS rfl h0 (Bool.and_eq_true_iff.mp hn).1 rfl (Bool.and_eq_true_iff.mp hn).2 hrl
                · exact h0.elim
              · exact k.elim
          · rintro n a1 w1 ⟨s1, k, hk, rfl, hik, hfe, hrl, hr, hS⟩
            have hr1 := hr k hk hik
            split at hr1
            · rename_i hm
              have hr2 := exec_g hJg hYg rest rd (k :: st) _ _ (fun ctl s' => gotoK l s1 an k K ctl s' ∧ Kept (headOf (writes rest) s1 (an.mods k)) s' (writes rest)) hr1 fun ctl s' q1 q2 => ⟨q1, q2⟩
              refine hx rest rd fr hfr rf hrf (k :: st) _ _ a1 w1 _ hr2 hS fun ctl s' a' w' e ⟨q1, q3⟩ q2 => ?_
              have out : ∀ (l : List (Nat × Nat × Nat)), SimC U w0 F0 fr { s' with log := l } a' w' ctl e := fun l => q2
              cases ctl with
              | normal =>
                have he : e = .normal := by obtain ⟨_, _, _, _, _, _, he⟩ := q2; exact he
                subst he
                exact hK .normal _ a' w' _ q1 (out _)
              | ret =>
                have he : e = .ret := by obtain ⟨_, _, _, _, _, _, he⟩ := q2; exact he
                subst he
                exact hK .ret _ a' w' _ q1 (out _)
              | exit id =>
                have he : e = .exit id := by obtain ⟨_, _, _, _, _, _, he⟩ := q2; exact he
                subst he
                exact hK (.exit id) _ a' w' _ q1 (out _)
              | panic v =>
                have he : ∃ y, e = .panic [{ v := y, recovered := false }] := by obtain ⟨_, _, _, _, _, _, y, he, _⟩ := q2; exact ⟨y, he⟩
                obtain ⟨y, rfl⟩ := he
                exact hK (.panic v) _ a' w' _ q1 (out _)
              | goto l' =>
                have he : e = .goto l' := by obtain ⟨_, _, _, _, _, _, he⟩ := q2; exact he
                subst he
                unfold gotoK at q1
                dsimp only at q1
                split at q1
                · rename_i hd
                  obtain ⟨hlt, hi1, hf1⟩ := q1
                  refine ⟨of_decide_eq_true hd, an.N - (k + 1), by omega, s1, k + 1, by omega, rfl, hi1, hfe, hrl, hr, ?_⟩
                  split at hf1
                  · rename_i hn
                    simp only [Bool.and_eq_true] at hn
                    obtain ⟨⟨hn1, hn2⟩, hn3⟩ := hn
                    rw [covers_append] at hn2
                    obtain ⟨_, L, p1, p2⟩ := q3
                    have p1 : s'.log = L ++ [] := p1
                    rw [List.append_nil] at p1
                    rw [p1] at hn2
                    have hb := (p2 s1.next (modCells s1 (an.mods (k + 1))) (writes rest) (Nat.le_add_right _ _) (fun d hd => (mem_iff d _).mpr hd) hn2.1).trans (head_keeps hm (Nat.le_refl _) (fun d hd => hd) hn2.2)
                    exact head_ok hfe q2.toS hb (andP_right hf1) hn1 (recsEq_is (Bool.and_eq_true_iff.mp hn3).2 (andP_left hf1)) (Bool.and_eq_true_iff.mp hn3).1 hrl
                  · exact hf1.elim
                · exact q1.elim
            · exact hr1.elim
        · exact h.elim
      · exact h.elim
    · exact h.elim
  | _ => exact hx _ rd

/-- What is read where it is called does what is told of it. -/
theorem inl_ok {G : World → Prop} (hG : ∀ w, Below w0.heap.size w0 w → G w) (hΓ : COk P U G Γ) : ∀ n, JOk P U w0 F0 (inl P Γ An n)
  | 0 => fun YR Y hY hYg => fun st cal args s Kn Kp p h => by
    cases cal with
    | fn f => cases h
    | yl id => exact hY st (.yl id) args s Kn Kp p h
  | n + 1 => fun YR Y hY hYg => fun st cal args s Kn Kp p h hp fr T w ν F vs hfr hs hn hR hRe ht hl hd => by
    cases cal with
    | yl id => exact hY st (.yl id) args s Kn Kp p h hp fr T w ν F vs hfr hs hn hR hRe ht hl hd
    | fn f =>
      simp only [inl] at h
      split at h
      · rename_i fn hcall hf
        split at h
        · rename_i c hb
          refine cutI_ok (YR := YR) ?_ ?_ h hp fr T w ν F vs hfr hs hn hR hRe ht hl hd
          rotate_left
          · intro s Kn Kp Kn' Kp' hp hK hKp
            exact exec_g (inl_g n) hYg c _ _ _ _ _ hp fun ctl s' k q => backK_kept (Nat.le_succ _) hK hKp ctl s' k q
          clear h hp hs hn hR hRe ht hl hd hfr
          clear fr T w ν F vs p s Kn Kp
          intro s Kn Kp hp fr T w ν F vs hfr hs hn hR hRe ht hl hd
          refine ⟨hcall, (callsIn_wide (n := 0)).1 (callsIn_of_wp_marks hf hb trivial ?_ rfl)⟩
          have hc := cleanT_ok (n := s.next) (W := []) ht
          let fr2 : Frm := ⟨s.next, fun ν' => fr.R ν' ∧ ν.leN s.next ν', fun a b hab q => ⟨fr.st a b (Nu.leN_mono hab hn) q.1, Nu.leN_trans q.2 hab⟩, fun D => ∀ x, ν.o D = some x → isC x = true, fun ν' D q e x hh => (by
            cases hc : isC x with
            | true => rfl
            | false => obtain ⟨y, q1, q2⟩ := q.2.2.2 D x hh hc; have := e y q1; rw [q2.isC, hc] at this; cases this)⟩
          show c.wpIn (fenceOf none) 0 P _ _ w
          refine exec_sound (inl_ok hG hΓ n) (inl_g n) hY hYg hG hΓ c false fr2 (fun ν' q => hfr ν' q.1) none rfl _ _ _ _ w _ hp ⟨Nat.le_succ _, ν, F, hs.fr (fun k hk => Nat.le_trans (Nat.le_succ _) hk), ?_, ⟨hR, fun k _ x e => e, fun k _ x e => e, fun k x e _ => ⟨x, e, recLe.refl x⟩⟩, hRe, Marks.nil _ _⟩ ?_
          · refine ⟨by simp [entryT, hl], fun j x hj => ?_⟩
            simp only [entryT] at hj
            rw [List.getElem?_append] at hj
            split at hj
            · rename_i hlt
              rw [List.getElem?_map] at hj
              obtain ⟨y, hy, rfl⟩ := Option.map_eq_some_iff.mp hj
              have hlt' : j < vs.length := by rw [← hl]; simpa using hlt
              have : (vs.toArray ++ Array.replicate (fn.ntmps - vs.toArray.size) undef).getD j undef = vs[j] := by
                simp [Array.getElem?_append, hlt']
              rw [this]
              exact hd j y vs[j] hy (List.getElem?_eq_getElem hlt')
            · rw [List.getElem?_replicate] at hj
              split at hj
              · cases hj; exact True.intro
              · cases hj
          · rintro ctl s' a' w' e k ⟨hn', ν', F', q1, q2, ⟨⟨q3, q4⟩, q5, q6⟩, q7⟩
            -- the frame is left
            have out : ∀ (w'' : World) (ν'' : Nu), ν''.b = ν'.b → ν''.f = ν'.f → (∀ k x, ν'.o k = some x → (x ≠ .deferred (some []) ∨ ¬ ∀ x, ν.o k = some x → isC x = true) → ν''.o k = some x) →
                fr.R ν'' ∧ RecsOk ν'' s'.recs ∧ TOk ν'' (cleanT s.next [] 0 s.tmps) T := fun w'' ν'' k1 k2 k3 => by
              have le2 : ν.leN s.next ν'' := ⟨fun k hk x e => by rw [k1]; exact q4.1 k hk x e, fun k hk x e => by rw [k2]; exact q4.2.1 k hk x e, fun k x e hc => by
                obtain ⟨y, e1, e2⟩ := q4.2.2 k x e hc
                exact ⟨y, k3 k y e1 (.inr (fun c => by have := c x e; rw [hc] at this; cases this)), e2⟩⟩
              refine ⟨fr.st ν ν'' (Nu.leN_mono le2 hn) hR, q5.left k1 k2 (fun k x e hx => k3 k x e (.inl hx)), hc.lb ⟨fun k x e => (by
                by_cases c : k < s.next
                · rw [Nu.cut_b c] at e; exact le2.1 k c x e
                · have : (ν.cut s.next).b k = none := if_neg c
                  rw [this] at e; cases e), fun k x e => (by
                by_cases c : k < 16 * s.next
                · rw [Nu.cut_f c] at e; exact le2.2.1 k c x e
                · have : (ν.cut s.next).f k = none := if_neg c
                  rw [this] at e; cases e)⟩⟩
            have fin : ∀ v, retSV P s' fn.results.toList = some v → Kn v { s' with tmps := cleanT s.next [] 0 s.tmps } → LeavesInM Fence.wide 0 P fn a'.tmps (Ends (Back U w0 F0 fr T Kn) (Back U w0 F0 fr T Kp)) a'.defers .returning w' := fun v hv hk => by
              refine leave_ok (fun c => by cases c) q1 q6 fun w'' ν'' k0 k1 k2 k3 => ?_
              obtain ⟨y, r1, r2⟩ := retSV_den hv k0 (q2.lb ⟨fun k x e => by rw [k1]; exact e, fun k x e => by rw [k2]; exact e⟩)
              obtain ⟨o1, o2, o3⟩ := out w'' ν'' k1 k2 k3
              exact ⟨y, r1, .inl ⟨y, rfl, v, _, ν'', F', hk, k0, Nat.le_trans hn hn', o1, o2, o3, r2⟩⟩
            cases ctl with
            | exit id => exact k.elim
            | goto id => exact k.elim
            | normal =>
              have q7 : e = .normal := q7
              subst q7
              simp only [backK] at k
              split at k
              · rename_i v hv; exact fin v hv k
              · exact k.elim
            | ret =>
              have q7 : e = .ret := q7
              subst q7
              simp only [backK] at k
              split at k
              · rename_i v hv; exact fin v hv k
              · exact k.elim
            | panic v =>
              obtain ⟨y, rfl, hy⟩ := q7
              refine leave_ok (fun c => by cases c) q1 q6 fun w'' ν'' k0 k1 k2 k3 => ?_
              obtain ⟨o1, o2, o3⟩ := out w'' ν'' k1 k2 k3
              exact .inr ⟨y, rfl, v, _, ν'', F', k, k0, Nat.le_trans hn hn', o1, o2, o3, hy.lb ⟨fun k x e => by rw [k1]; exact e, fun k x e => by rw [k2]; exact e⟩⟩
        · cases h
      · cases h
theorem noY_ok (YR : Nu → Prop) : YOk P U w0 F0 YR (noY : YH U) := fun st cal args s Kn Kp p h => by cases cal <;> cases h

/-- A function's call does what its text was told to come to. -/
theorem fn_sound {G : World → Prop} (hG : ∀ w w', Below w.heap.size w w' → G w → G w') (hΓ : COk P U G Γ) {n : Nat} {fn : Func} (hf : P.funcs[n]? = some fn) {g : Spec U}
    (hc : callable P n = true) (h : ∀ ds r, g ds = some r → obOK r.pre → ∃ An, fnVC P Γ An fn ds (fun out => out = r.out)) : ConOk P U G n g := by
  refine ⟨hc, fun ds r hg hp w F args hw hF hl hd => ?_⟩
  obtain ⟨An, hv⟩ := h ds r hg hp
  unfold fnVC at hv
  split at hv
  · rename_i c hb
    split at hv
    · rename_i hok
      cases e : initArgs ds 0 with
      | mk xs rs =>
        obtain ⟨ν, g1, g2, g3⟩ := initArgs_den (n := ds.length) ds 0 args.toList e hok (by omega) (by simpa using hl) (fun i d v p q => hd i d v p (by simpa using q)) hF
        refine (callsIn_wide (n := 0)).1 (callsIn_of_wp_marks hf hb trivial ?_ rfl)
        show c.wpIn (fenceOf none) 0 P _ _ w
        refine execS_sound (w0 := w) (F0 := F) (YR := fun _ => True) (inl_ok (fun w' hb => hG w w' hb hw) hΓ 12) (inl_g 12) (noY_ok _) noY_g (fun w' hb => hG w w' hb hw) hΓ c false Frm.none (fun _ _ => trivial) none rfl _ _ _ _ w _ hv ⟨Nat.zero_le _, ν, F, ?_, ?_, trivial, ⟨fun id x e => ?_, fun i j x y l e => ?_⟩, Marks.nil _ _⟩ ?_
        · simp only [initSt, e]
          exact g1.fr fun k hk => .inr hk
        · simp only [initSt, e]
          refine ⟨by simp [g2, hl], fun j x hj => ?_⟩
          rw [List.getElem?_append] at hj
          split at hj
          · rename_i hlt
            have hlt' : j < args.size := by rw [g2] at hlt; simpa using hlt
            have : (args ++ Array.replicate (fn.ntmps - args.size) undef).getD j undef = args[j] := by
              simp [Array.getElem?_append, hlt']
            rw [this]
            exact g3 j x args[j] _ hj (by simp [hlt'])
          · rw [List.getElem?_replicate] at hj
            split at hj
            · cases hj; exact True.intro
            · cases hj
        · simp [initSt] at e
        · simp [initSt] at e
        · rintro ctl s' a' w' e k ⟨_, ν', F', q1, q2, ⟨_, q5, q6⟩, q7⟩
          have fin : ∀ out, outRes P Γ (freezeAll s') fn.results.toList fn.resultTypes.toList = some out → out = r.out → LeavesInM Fence.wide 0 P fn a'.tmps (fun e w' => ∃ y, e = .returned y ∧ ∃ F', Below w.heap.size w w' ∧ (∀ b o, F b o → F' b o) ∧ (∀ b o, F' b o → F b o ∨ w.heap.size ≤ b) ∧ (∀ b o, F' b o → b < w'.heap.size) ∧ OutDen U F' w' r.out y) a'.defers .returning w' := fun out ho e => by
            obtain ⟨ν2, F2, z1, z2, z3, _⟩ := freezeL_ok (xKeys s'.recs) q1 q5
            have q2 := q2.lb z2
            rw [← (freezeL_rest (xKeys s'.recs) s').1] at q2
            refine leave_ok (fun c => by cases c) z1 (q6.leN (z3 0)) fun w'' ν'' k0 k1 k2 k3 => ?_
            obtain ⟨y, r1, r2⟩ := outRes_den (s := freezeL (xKeys s'.recs) s') ho k0 (q2.lb ⟨fun k x e => by rw [k1]; exact e, fun k x e => by rw [k2]; exact e⟩)
            subst e
            exact ⟨y, r1, y, rfl, F2, k0.below, k0.sub, k0.new, k0.lt, r2⟩
          cases ctl with
          | exit id => exact k.elim
          | goto id => exact k.elim
          | panic v => exact k.elim
          | normal =>
            have q7 : e = .normal := q7
            subst q7
            simp only [retK] at k
            split at k
            · rename_i out ho; exact fin out ho k
            · exact k.elim
          | ret =>
            have q7 : e = .ret := q7
            subst q7
            simp only [retK] at k
            split at k
            · rename_i out ho; exact fin out ho k
            · exact k.elim
    · exact hv.elim
  · exact hv.elim
end
end Go.RX

/- Symbolic runs of Go functions: contracts put together, and a law's call. -/
namespace Go.RX
open Go.RowKit

/-- Contracts, each proved. -/
structure ConL (P : Program) (U : Uni) (G : World → Prop) (l : List (Nat × Spec U)) : Prop where
  ok : ∀ n g, look n l = some g → ConOk P U G n g
theorem conNil {P : Program} {U : Uni} {G : World → Prop} : ConL P U G [] := ⟨fun n g h => by cases h⟩
theorem conCons {P : Program} {U : Uni} {G : World → Prop} {n : Nat} {g : Spec U} (h : ConOk P U G n g) {l : List (Nat × Spec U)} (k : ConL P U G l) : ConL P U G ((n, g) :: l) :=
  ⟨fun m g' e => by
    rw [look_cons] at e
    by_cases c : n = m
    · rw [if_pos c] at e; cases e; subst c; exact h
    · rw [if_neg c] at e; exact k.ok m g' e⟩

/-- The package's variables as told, and a mark: a short array's index is one of some few. -/
def glS (gl : Nat → Option (List Value)) : Nat → Option (List Value) := fun g => match gl g with
  | some l => some l
  | none => match Nat.beq g 999999999 with | true => some [] | false => none
theorem glS_ok {G : World → Prop} {gl : Nat → Option (List Value)} (h : ∀ w, G w → ∀ g vs, gl g = some vs → ∀ (j : Nat) v, vs[j]? = some v → oneV v = true ∧ w.cell? ⟨g, j, none⟩ = some v) : ∀ w, G w → ∀ g vs, glS gl g = some vs → ∀ (j : Nat) v, vs[j]? = some v → oneV v = true ∧ w.cell? ⟨g, j, none⟩ = some v := by
  intro w hw g vs e j v hv
  unfold glS at e
  split at e
  · rename_i l hl
    cases e
    exact h w hw g _ hl j v hv
  · split at e
    · cases e; simp at hv
    · cases e
/-- Rows that are made will be written in. -/
def glX (gl : Nat → Option (List Value)) : Nat → Option (List Value) := fun g => match gl g with
  | some l => some l
  | none => match Nat.beq g 999999998 with | true => some [] | false => none
theorem glX_ok {G : World → Prop} {gl : Nat → Option (List Value)} (h : ∀ w, G w → ∀ g vs, gl g = some vs → ∀ (j : Nat) v, vs[j]? = some v → oneV v = true ∧ w.cell? ⟨g, j, none⟩ = some v) : ∀ w, G w → ∀ g vs, glX gl g = some vs → ∀ (j : Nat) v, vs[j]? = some v → oneV v = true ∧ w.cell? ⟨g, j, none⟩ = some v := by
  intro w hw g vs e j v hv
  unfold glX at e
  split at e
  · rename_i l hl
    cases e
    exact h w hw g _ hl j v hv
  · split at e
    · cases e; simp at hv
    · cases e
/-- A store by temporary t, in a region whose order is open, is into a row that is written in. -/
def glT (t : Nat) (gl : Nat → Option (List Value)) : Nat → Option (List Value) := fun g => match gl g with
  | some l => some l
  | none => match Nat.beq g (990000000 + t) with | true => some [] | false => none
theorem glT_ok (t : Nat) {G : World → Prop} {gl : Nat → Option (List Value)} (h : ∀ w, G w → ∀ g vs, gl g = some vs → ∀ (j : Nat) v, vs[j]? = some v → oneV v = true ∧ w.cell? ⟨g, j, none⟩ = some v) : ∀ w, G w → ∀ g vs, glT t gl g = some vs → ∀ (j : Nat) v, vs[j]? = some v → oneV v = true ∧ w.cell? ⟨g, j, none⟩ = some v := by
  intro w hw g vs e j v hv
  unfold glT at e
  split at e
  · rename_i l hl
    cases e
    exact h w hw g _ hl j v hv
  · split at e
    · cases e; simp at hv
    · cases e
def glZ (t : Nat) (gl : Nat → Option (List Value)) : Nat → Option (List Value) := fun g => match gl g with
  | some l => some l
  | none => match Nat.beq g (980000000 + t) with | true => some [] | false => none
theorem glZ_ok (t : Nat) {G : World → Prop} {gl : Nat → Option (List Value)} (h : ∀ w, G w → ∀ g vs, gl g = some vs → ∀ (j : Nat) v, vs[j]? = some v → oneV v = true ∧ w.cell? ⟨g, j, none⟩ = some v) : ∀ w, G w → ∀ g vs, glZ t gl g = some vs → ∀ (j : Nat) v, vs[j]? = some v → oneV v = true ∧ w.cell? ⟨g, j, none⟩ = some v := by
  intro w hw g vs e j v hv
  unfold glZ at e
  split at e
  · rename_i l hl
    cases e
    exact h w hw g _ hl j v hv
  · split at e
    · cases e; simp at hv
    · cases e
/-- A function's contract, out of what its text comes to. -/
theorem fn_go {P : Program} {U : Uni} {G : World → Prop} (hG : ∀ w w', Below w.heap.size w w' → G w → G w') (ty : TypeId → Option U.C) {gl : Nat → Option (List Value)} (hgl : ∀ w, G w → ∀ g vs, gl g = some vs → ∀ (j : Nat) v, vs[j]? = some v → oneV v = true ∧ w.cell? ⟨g, j, none⟩ = some v) {l : List (Nat × Spec U)} (hΓ : ConL P U G l) {n : Nat} {fn : Func} (hf : P.funcs[n]? = some fn)
    (hc : callable P n = true) {g : Spec U} (h : ∀ ds r, g ds = some r → obOK r.pre → ∃ (An : Anns U) (p : Prop), fnVC P ⟨fun k => look k l, ty, gl⟩ An fn ds (fun out => out = r.out) = p ∧ p) : ConOk P U G n g :=
  fn_sound hG (Γ := ⟨fun k => look k l, ty, gl⟩) ⟨hΓ.ok, hgl⟩ hf hc fun ds r hg hp => by obtain ⟨An, p, e, q⟩ := h ds r hg hp; exact ⟨An, e.mpr q⟩

/-- A contract that was proved otherwise: values without addresses alone. -/
theorem con_plain {P : Program} {U : Uni} {G : World → Prop} {n : Nat} {g : Spec U} (hc : callable P n = true)
    (h : ∀ ds r, g ds = some r → obOK r.pre → ∃ vs : List Value, (∀ F w args, ds.length = args.size → (∀ (j : Nat) d v, ds[j]? = some d → args[j]? = some v → DDen U F w d v) → args = vs.toArray) ∧
      ∃ y, (∀ F w, OutDen U F w r.out y) ∧ ∀ w, G w → Calls P n vs.toArray w fun e w' => e = .returned y ∧ Below w.heap.size w w') : ConOk P U G n g := by
  refine ⟨hc, fun ds r hg hp w F args hw hF hl hd => ?_⟩
  obtain ⟨vs, h1, y, h2, h3⟩ := h ds r hg hp
  obtain rfl := h1 F w args hl hd
  refine (h3 w hw).mono ?_
  rintro e w' ⟨rfl, hb⟩
  exact ⟨y, rfl, F, hb, fun _ _ x => x, fun _ _ x => .inl x, fun b o x => Nat.lt_of_lt_of_le (hF b o x) hb.size, h2 F w'⟩

/-- The same for arguments: what a list of data says of the values. -/
inductive Vals (U : Uni) : List (D U) → List Value → Prop where
  | nil : Vals U [] []
  | one {x : Value} (h : oneV x = true) {ds : List (D U)} {vs : List Value} (t : Vals U ds vs) : Vals U (⟨false, [.v x]⟩ :: ds) (x :: vs)
  | agg {cs : List (CV U.C U.T)} {xs : List Value} (hl : cs.length = xs.length) (h : ∀ (j : Nat) c x, cs[j]? = some c → xs[j]? = some x → c = .v x ∧ oneV x = true) {ds : List (D U)} {vs : List Value} (t : Vals U ds vs) : Vals U (⟨true, cs⟩ :: ds) (.agg xs.toArray :: vs)
theorem Vals.den {U : Uni} {ds : List (D U)} {vs : List Value} (h : Vals U ds vs) : ∀ (F : Nat → Nat → Prop) (w : World), ds.length = vs.length ∧ ∀ (j : Nat) d v, ds[j]? = some d → vs[j]? = some v → DDen U F w d v := by
  intro F w
  induction h with
  | nil => exact ⟨rfl, fun j d v e => by simp at e⟩
  | one h t ih =>
    refine ⟨by simp [ih.1], fun j d v e1 e2 => ?_⟩
    cases j with
    | zero => simp at e1 e2; subst e1; subst e2; exact ⟨_, rfl, rfl, h⟩
    | succ j => exact ih.2 j d v (by simpa using e1) (by simpa using e2)
  | @agg cs xs hl h ds vs t ih =>
    refine ⟨by simp [ih.1], fun j d v e1 e2 => ?_⟩
    cases j with
    | zero =>
      simp at e1 e2; subst e1; subst e2
      refine ⟨xs.toArray, rfl, hl, fun j c y f1 f2 => ?_⟩
      obtain ⟨rfl, q⟩ := h j c y f1 (by simpa using f2)
      exact ⟨rfl, q⟩
    | succ j => exact ih.2 j d v (by simpa using e1) (by simpa using e2)
theorem Vals.only {U : Uni} {ds : List (D U)} {vs : List Value} (h : Vals U ds vs) : ∀ (F : Nat → Nat → Prop) (w : World) (ys : List Value), ds.length = ys.length → (∀ (j : Nat) d v, ds[j]? = some d → ys[j]? = some v → DDen U F w d v) → ys = vs := by
  intro F w
  induction h with
  | nil => intro ys hl _; cases ys with | nil => rfl | cons _ _ => simp at hl
  | one h t ih =>
    intro ys hl hd
    cases ys with
    | nil => simp at hl
    | cons y ys =>
      have h0 := hd 0 _ y rfl rfl
      obtain ⟨cv, e, q⟩ := h0
      cases e
      have e2 := ih ys (by simpa using hl) (fun j d v a b => hd (j + 1) d v (by simpa using a) (by simpa using b))
      rw [e2, q.1]
  | @agg cs xs hl h ds vs t ih =>
    intro ys hl' hd
    cases ys with
    | nil => simp at hl'
    | cons y ys =>
      obtain ⟨arr, rfl, q1, q2⟩ := hd 0 _ y rfl rfl
      have e2 := ih ys (by simpa using hl') (fun j d v a b => hd (j + 1) d v (by simpa using a) (by simpa using b))
      rw [e2]
      have : arr.toList = xs := by
        refine List.ext_getElem? fun j => ?_
        cases e3 : cs[j]? with
        | none =>
          have l1 : cs.length ≤ j := List.getElem?_eq_none_iff.mp e3
          rw [List.getElem?_eq_none (by rw [← q1]; exact l1), List.getElem?_eq_none (by rw [← hl]; exact l1)]
        | some c =>
          have lt : j < cs.length := (List.getElem?_eq_some_iff.mp e3).1
          have k1 : arr.toList[j]? = some arr.toList[j] := List.getElem?_eq_getElem (by rw [← q1]; exact lt)
          have k2 : xs[j]? = some xs[j] := List.getElem?_eq_getElem (by rw [← hl]; exact lt)
          obtain ⟨rfl, _⟩ := h j c _ e3 k2
          rw [k1, k2, (q2 j _ _ e3 k1).1]
      rw [← this]
theorem con_vals {P : Program} {U : Uni} {G : World → Prop} {n : Nat} {g : Spec U} (hc : callable P n = true)
    (h : ∀ ds r, g ds = some r → obOK r.pre → ∃ vs : List Value, Vals U ds vs ∧ ∃ y, (∀ F w, OutDen U F w r.out y) ∧ ∀ w, G w → Calls P n vs.toArray w fun e w' => e = .returned y ∧ Below w.heap.size w w') : ConOk P U G n g :=
  con_plain hc fun ds r hg hp => by
    obtain ⟨vs, h1, h2⟩ := h ds r hg hp
    refine ⟨vs, fun F w args hl hd => ?_, h2⟩
    have := h1.only F w args.toList (by simpa using hl) (fun j d v a b => hd j d v a (by simpa using b))
    rw [← this]
/-- A law's call, over values without addresses. -/
theorem law_vals {P : Program} {U : Uni} {G : World → Prop} {n : Nat} {g : Spec U} (h : ConOk P U G n g) {ds : List (D U)} {pre : Option Prop} (hg : g ds = some ⟨pre, .one ⟨false, [.v (.bool true)]⟩⟩) (hp : obOK pre) {vs : List Value} (hv : Vals U ds vs) (w : World) (hw : G w) :
    Calls P n vs.toArray w fun e w' => e = .returned (.bool true) ∧ Below w.heap.size w w' := by
  obtain ⟨v1, v2⟩ := hv.den (fun _ _ => False) w
  refine (h.2 ds _ hg hp w (fun _ _ => False) vs.toArray hw (fun _ _ h => h.elim) (by simpa using v1) (fun j d v a b => v2 j d v a (by simpa using b))).mono ?_
  rintro e w' ⟨y, rfl, F', hb, _, _, _, cv, e, q⟩
  cases e
  exact ⟨by rw [q.1], hb⟩
end Go.RX

/- A row's arguments, opened by their types alone. -/
namespace Go.RX
open Go.RowKit

/-- What a type's cells are, one by one. -/
inductive Leaf where
  | int (k : IntKind)
  | bool
  | str
  | sl (e : TypeId)

def leavesFs (P : Program) (g : TypeId → Option (List Leaf)) : List Field → Nat → Option (List Leaf)
  | [], _ => some []
  | f :: fs, off => match g f.type with
    | some L => if f.offset = off ∧ L.length = P.cellsOf f.type then (leavesFs P g fs (off + L.length)).map (L ++ ·) else none
    | none => none
def copies (L : List Leaf) : Nat → List Leaf
  | 0 => []
  | n + 1 => L ++ copies L n
def leaves (P : Program) : Nat → TypeId → Option (List Leaf)
  | 0, _ => none
  | n + 1, t => match P.underlying t with
    | some .bool => some [.bool]
    | some (.int k) => some [.int k]
    | some .string => some [.str]
    | some (.slice e) => some [.sl e]
    | some (.struct fs) => match leavesFs P (leaves P n) fs.toList 0 with
      | some L => if L.length = P.cellsOf t then some L else none
      | none => none
    | some (.array m e) => match leaves P n e with
      | some L => if L.length = P.cellsOf e ∧ P.cellsOf t = m * P.cellsOf e then some (copies L m) else none
      | none => none
    | _ => none

section
variable {H : Type} {enc : TypeId × Value → H} {P : Program} {w : World} {base : Nat} {spare : Nat → Bool} {held : Bool}
/-- A cell's value is as its leaf says. -/
def LeafOk (enc : TypeId × Value → H) (P : Program) (w : World) (base : Nat) (spare : Nat → Bool) (held : Bool) : Leaf → Value → Prop
  | .int k, v => ∃ n, v = .int k n ∧ (Lit.int k n).wf = true
  | .bool, v => ∃ b, v = .bool b
  | .str, v => ∃ s : ByteArray, v = .string s ∧ s.size ≤ maxLen
  | .sl e, v => v = .slice none 0 0 ∨ ∃ (a : Addr) (len cap : Nat), v = .slice (some a) len cap ∧ base ≤ a.block ∧ len ≤ cap ∧ cap ≤ maxLen ∧
      ∀ i, i < len → ∃ (cs : List Value) (m : Nat) (y : DataW H × List MemPlace), w.cells? base (a.add (i * P.cellsOf e)) (P.cellsOf e) = some cs ∧ DataW.trod enc P w base spare held m e cs = some y
def AllLeaf (enc : TypeId × Value → H) (P : Program) (w : World) (base : Nat) (spare : Nat → Bool) (held : Bool) (L : List Leaf) (cs : List Value) : Prop :=
  cs.length = L.length ∧ ∀ (j : Nat) l c, L[j]? = some l → cs[j]? = some c → LeafOk enc P w base spare held l c

theorem AllLeaf.one {l : Leaf} {v : Value} (h : LeafOk enc P w base spare held l v) : AllLeaf enc P w base spare held [l] [v] :=
  ⟨rfl, fun j l' c h1 h2 => by
    cases j with
    | zero => cases h1; cases h2; exact h
    | succ j => simp at h1⟩
theorem AllLeaf.cons {l : Leaf} {L : List Leaf} {cs : List Value} (h : AllLeaf enc P w base spare held (l :: L) cs) : ∃ v vs, cs = v :: vs ∧ LeafOk enc P w base spare held l v ∧ AllLeaf enc P w base spare held L vs := by
  obtain ⟨h1, h2⟩ := h
  cases cs with
  | nil => simp at h1
  | cons v vs => exact ⟨v, vs, rfl, h2 0 l v rfl rfl, by simpa using h1, fun j l' c e1 e2 => h2 (j + 1) l' c (by simpa using e1) (by simpa using e2)⟩
theorem AllLeaf.nil {cs : List Value} (h : AllLeaf enc P w base spare held [] cs) : cs = [] := List.length_eq_zero_iff.mp h.1

theorem slice_get {α : Type} (cs : List α) (off n j : Nat) (hj : j < n) : ((cs.drop off).take n)[j]? = cs[off + j]? := by
  rw [List.getElem?_take, if_pos hj, List.getElem?_drop]
theorem leavesFs_ok {g : TypeId → Option (List Leaf)} {cs : List Value} : ∀ (fs : List Field) (off : Nat) (L : List Leaf), leavesFs P g fs off = some L →
    (∀ f ∈ fs, ∀ L', g f.type = some L' → ∀ (j : Nat) l c, L'[j]? = some l → ((cs.drop f.offset).take (P.cellsOf f.type))[j]? = some c → LeafOk enc P w base spare held l c) →
    ∀ (j : Nat) l c, L[j]? = some l → cs[off + j]? = some c → LeafOk enc P w base spare held l c := by
  intro fs
  induction fs with
  | nil => intro off L h _ j l c h1; cases h; simp at h1
  | cons f fs ih =>
    intro off L h hf j l c h1 h2
    rw [leavesFs] at h
    cases e : g f.type with
    | none => rw [e] at h; cases h
    | some L1 =>
      rw [e] at h
      by_cases k : f.offset = off ∧ L1.length = P.cellsOf f.type
      · simp only [if_pos k] at h
        obtain ⟨L2, e2, rfl⟩ := Option.map_eq_some_iff.mp h
        by_cases hj : j < L1.length
        · rw [List.getElem?_append_left hj] at h1
          refine hf f (by simp) L1 e j l c h1 ?_
          rw [k.1, slice_get _ _ _ _ (by omega)]; exact h2
        · rw [List.getElem?_append_right (by omega)] at h1
          refine ih _ L2 e2 (fun f' hf' => hf f' (by simp [hf'])) (j - L1.length) l c h1 ?_
          rw [show off + L1.length + (j - L1.length) = off + j by omega]; exact h2
      · simp only [if_neg k] at h; cases h
theorem copies_length (L : List Leaf) (m : Nat) : (copies L m).length = m * L.length := by
  induction m with
  | zero => simp [copies]
  | succ m ih => rw [copies, List.length_append, ih, Nat.succ_mul, Nat.add_comm]
theorem copies_get (L : List Leaf) : ∀ (m j : Nat) (l : Leaf), (copies L m)[j]? = some l → ∃ i k, i < m ∧ j = i * L.length + k ∧ L[k]? = some l := by
  intro m
  induction m with
  | zero => intro j l h; simp [copies] at h
  | succ m ih =>
    intro j l h
    rw [copies] at h
    by_cases hj : j < L.length
    · rw [List.getElem?_append_left hj] at h
      exact ⟨0, j, by omega, by simp, h⟩
    · rw [List.getElem?_append_right (by omega)] at h
      obtain ⟨i, k, hi, e, h⟩ := ih _ _ h
      exact ⟨i + 1, k, by omega, by rw [Nat.succ_mul]; omega, h⟩
theorem leaves_ok : ∀ (n : Nat) (t : TypeId) (L : List Leaf), leaves P n t = some L → ∀ (fuel : Nat) (cs : List Value) (x : DataW H × List MemPlace), DataW.trod enc P w base spare held fuel t cs = some x → AllLeaf enc P w base spare held L cs := by
  intro n
  induction n with
  | zero => intro t L h; cases h
  | succ n ih =>
    intro t L h fuel cs x hx
    rw [leaves] at h
    split at h
    · rename_i ht
      cases h
      obtain ⟨b, rfl, _⟩ := DataW.trod_bool ht hx
      exact .one ⟨b, rfl⟩
    · rename_i k ht
      cases h
      obtain ⟨b, rfl, _, hw⟩ := DataW.trod_int ht hx
      exact .one ⟨b, rfl, hw⟩
    · rename_i ht
      cases h
      obtain ⟨s, rfl, _, hw⟩ := DataW.trod_string ht hx
      exact .one ⟨s, rfl, hw⟩
    · rename_i e ht
      cases h
      rcases DataW.trod_slice ht hx with ⟨rfl, _⟩ | ⟨a, len, cap, elems, rest, m, _, rfl, _, hb, hl, hm, hlen, hel, _⟩
      · exact .one (.inl rfl)
      · refine .one (.inr ⟨a, len, cap, rfl, hb, hl, hm, fun i hi => ?_⟩)
        have he := hel i hi
        rw [List.getElem?_eq_getElem (by omega)] at he
        obtain ⟨cs', e1, e2⟩ := Option.bind_eq_some_iff.mp he
        exact ⟨cs', m, _, e1, e2⟩
    · rename_i fs ht
      split at h
      · rename_i L' e
        by_cases k : L'.length = P.cellsOf t
        · rw [if_pos k] at h; have hh := Option.some.inj h; subst hh
          obtain ⟨xs, m, _, _, hl, hlen, hf⟩ := DataW.trod_struct ht hx
          refine ⟨by omega, fun j l c h1 h2 => ?_⟩
          refine leavesFs_ok fs.toList 0 L' e (fun f hf' L1 e1 j l c g1 g2 => ?_) j l c h1 (by simpa using h2)
          obtain ⟨i, hi, ei⟩ := List.getElem_of_mem hf'
          have hfi : fs[i]? = some f := by rw [Array.getElem?_eq_getElem (by simpa using hi)]; rw [← ei]; simp
          have := hf i f hfi
          rw [List.getElem?_eq_getElem (by have : i < fs.size := by simpa using hi
                                           omega)] at this
          exact (ih f.type L1 e1 m _ _ this).2 j l c g1 g2
        · rw [if_neg k] at h; cases h
      · cases h
    · rename_i m e ht
      split at h
      · rename_i L1 e'
        by_cases k : L1.length = P.cellsOf e ∧ P.cellsOf t = m * P.cellsOf e
        · rw [if_pos k] at h; have hh := Option.some.inj h; subst hh
          obtain ⟨xs, q, _, _, hl, hlen, hf⟩ := DataW.trod_array ht hx
          refine ⟨by rw [copies_length, k.1, hl, k.2], fun j l c h1 h2 => ?_⟩
          obtain ⟨i, r, hi, ej, hr⟩ := copies_get L1 m j l h1
          have := hf i hi
          rw [List.getElem?_eq_getElem (by omega)] at this
          have hlt : r < L1.length := (List.getElem?_eq_some_iff.mp hr).1
          refine (ih e L1 e' q _ _ this).2 r l c hr ?_
          rw [slice_get _ _ _ _ (by omega), ← k.1, ← ej]; exact h2
        · rw [if_neg k] at h; cases h
      · cases h
    · cases h
end
/-- A value of a struct's or an array's type. -/
theorem agg_of_okWide {P : Program} {w : World} {r : Reach} {b t : Nat} {v : Value} (hs : (match P.underlying t with | some (.struct _) => true | some (.array _ _) => true | _ => false) = true) (h : Value.okWide P w r b t v) : ∃ cs, v = .agg cs := by
  unfold Value.okWide at h
  split at h
  · obtain ⟨cs, e, _⟩ := h; exact ⟨cs, e⟩
  · obtain ⟨cs, e, _⟩ := h; exact ⟨cs, e⟩
  · rename_i h1 h2
    split at hs
    · rename_i a; exact absurd a (h1 _)
    · rename_i a; exact absurd a (h2 _ _)
    · cases hs
/-- A struct's or an array's argument: its cells. -/
theorem open_agg {H : Type} {enc : TypeId × Value → H} {P : Program} {w : World} {base : Nat} {spare : Nat → Bool} {held : Bool} {r : Reach} {b t : Nat} {v : Value} {d : DataW H} {ps : List MemPlace} {L : List Leaf} (n : Nat)
    (hL : leaves P n t = some L) (hs : (match P.underlying t with | some (.struct _) => true | some (.array _ _) => true | _ => false) = true) (hv : Value.okWide P w r b t v) (h : DataW.Trod enc P w base spare held t v d ps) :
    ∃ cs : List Value, v = .agg cs.toArray ∧ AllLeaf enc P w base spare held L cs := by
  obtain ⟨cs, rfl⟩ := agg_of_okWide hs hv
  obtain ⟨fuel, hf⟩ := h
  exact ⟨cs.toList, by simp, leaves_ok n t L hL fuel _ _ hf⟩
theorem Vals.aggv {U : Uni} (xs : List Value) (h : xs.all oneV = true) {ds : List (D U)} {vs : List Value} (t : Vals U ds vs) : Vals U (⟨true, xs.map .v⟩ :: ds) (.agg xs.toArray :: vs) :=
  .agg (by simp) (fun j c x e1 e2 => by
    rw [List.getElem?_map, e2] at e1
    cases e1
    exact ⟨rfl, List.all_eq_true.mp h x (List.mem_of_getElem? e2)⟩) t
theorem list_of {α : Type} {Q : Nat → α → Prop} : ∀ n, (∀ i, i < n → ∃ x, Q i x) → ∃ l : List α, l.length = n ∧ ∀ i (hi : i < l.length), Q i l[i] := by
  intro n
  induction n with
  | zero => intro _; exact ⟨[], rfl, fun i hi => absurd hi (Nat.not_lt_zero _)⟩
  | succ n ih =>
    intro h
    obtain ⟨l, h1, h2⟩ := ih fun i hi => h i (by omega)
    obtain ⟨x, hx⟩ := h n (by omega)
    refine ⟨l ++ [x], by simp [h1], fun i hi => ?_⟩
    by_cases c : i < l.length
    · rw [List.getElem_append_left c]; exact h2 i c
    · have e : i = n := by simp at hi; omega
      subst e
      rw [List.getElem_append_right (by omega)]
      simpa using hx
theorem bound_of {Q : Nat → Nat → Prop} (mono : ∀ i d d', d ≤ d' → Q i d → Q i d') : ∀ n, (∀ i, i < n → ∃ d, Q i d) → ∃ d, ∀ i, i < n → Q i d := by
  intro n
  induction n with
  | zero => intro _; exact ⟨0, fun i hi => absurd hi (Nat.not_lt_zero _)⟩
  | succ n ih =>
    intro h
    obtain ⟨d, hd⟩ := ih fun i hi => h i (by omega)
    obtain ⟨d', hd'⟩ := h n (by omega)
    refine ⟨d + d', fun i hi => ?_⟩
    by_cases c : i = n
    · subst c; exact mono _ _ _ (by omega) hd'
    · exact mono _ _ _ (by omega) (hd i (by omega))
/-- All cells that there are. -/
def Here (w : World) : Nat → Nat → Prop := fun b _ => b < w.heap.size
/-- A slice's argument: the list that it reads as; mk: an element out of its cells. -/
theorem open_sl {H : Type} {enc : TypeId × Value → H} {P : Program} {U : Uni} {w : World} {spare : Nat → Bool} {held : Bool} {e : TypeId} {c : U.C} {L : List Leaf} (n : Nat) (hL : leaves P n e = some L) (hsz : P.cellsOf e = U.size c) (hpos : 0 < U.size c) {Ok : U.T c → Prop}
    (mk : ∀ cs, AllLeaf enc P w 0 spare held L cs → ∃ x : U.T c, CVL U (Here w) w (U.enc c x) cs ∧ Ok x) {v : Value} (h : LeafOk enc P w 0 spare held (.sl e) v) :
    ∃ l : List (U.T c), Rd U (Here w) w v c l ∧ (∀ x ∈ l, Ok x) ∧ l.length ≤ maxLen := by
  rcases h with rfl | ⟨a, len, cap, rfl, _, hl, hm, hel⟩
  · exact ⟨[], Rd.nil c, (fun x hx => by simp at hx), Nat.zero_le _⟩
  · have each : ∀ i, i < len → ∃ x : U.T c, (∃ cs, w.cells? 0 (a.add (i * U.size c)) (U.size c) = some cs ∧ CVL U (Here w) w (U.enc c x) cs) ∧ Ok x := fun i hi => by
      obtain ⟨cs, m, y, e1, e2⟩ := hel i hi
      obtain ⟨x, q1, q2⟩ := mk cs (leaves_ok n e L hL m cs y e2)
      exact ⟨x, ⟨cs, by rw [← hsz]; exact e1, q1⟩, q2⟩
    obtain ⟨l, l1, l2⟩ := list_of len each
    have dep : ∀ i, i < len → ∃ d, ∀ (hi : i < l.length), ∃ cs, w.cells? 0 (a.add (i * U.size c)) (U.size c) = some cs ∧ ∀ (j : Nat) cv y, (U.enc c l[i])[j]? = some cv → cs[j]? = some y → CVDen (Reads U (Here w) d) w cv y := fun i hi => by
      obtain ⟨⟨cs, e1, e2⟩, _⟩ := l2 i (by omega)
      obtain ⟨d, hd⟩ := e2.depth
      exact ⟨d, fun _ => ⟨cs, e1, hd⟩⟩
    obtain ⟨d, hd⟩ := bound_of (fun i d d' hdd q hi => by
      obtain ⟨cs, e1, e2⟩ := q hi
      refine ⟨cs, e1, fun j cv y f1 f2 => ?_⟩
      have := e2 j cv y f1 f2
      cases cv with
      | v x => exact this
      | sl c1 l1 => exact Reads.le hdd this) len dep
    refine ⟨l, ⟨d + 1, some a, len, cap, rfl, l1, hl, hm, fun hn => ?_⟩, fun x hx => ?_, by omega⟩
    · have cell : ∀ i (hi : i < l.length) (j : Nat) cv, (U.enc c l[i])[j]? = some cv → ∃ y, w.cell? ((a.add (i * U.size c)).add j) = some y ∧ CVDen (Reads U (Here w) d) w cv y := fun i hi j cv hcv => by
        obtain ⟨cs, e1, e2⟩ := hd i (by omega) hi
        have hj : j < U.size c := by rw [← U.encSize c l[i]]; exact (List.getElem?_eq_some_iff.mp hcv).1
        unfold World.cells? at e1
        rw [if_pos (Nat.zero_le _)] at e1
        have hlen : cs.length = U.size c := by simpa using mapM_some_length e1
        have := mapM_some_get e1 j j (by simp [hj])
        have hcj : cs[j]? = some cs[j] := List.getElem?_eq_getElem (by omega)
        rw [hcj] at this
        exact ⟨cs[j], this, e2 j cv _ hcv hcj⟩
      have h0 : 0 < (U.enc c (l[0]'(by omega))).length := by rw [U.encSize]; exact hpos
      obtain ⟨y0, hy0, _⟩ := cell 0 (by omega) 0 _ (List.getElem?_eq_getElem h0)
      have plain : a.spot = none := by simpa [Addr.add] using World.cell?_spot hy0
      obtain ⟨b, off, sp⟩ := a
      cases plain
      refine ⟨_, rfl, rfl, fun i hi j cv hcv => ?_⟩
      obtain ⟨y, hy, hd⟩ := cell i hi j cv hcv
      rw [add_at, add_at] at hy
      have eo : off + i * U.size c + j = off + (i * U.size c + j) := by omega
      rw [eo] at hy
      have hlt : b < w.heap.size := World.block_lt_of_cell? w ⟨b, off + (i * U.size c + j), none⟩ hy
      exact ⟨hlt, y, hy, hd⟩
    · obtain ⟨i, hi, rfl⟩ := List.getElem_of_mem hx
      exact (l2 i hi).2
/-- A law's call. -/
theorem law_args {P : Program} {U : Uni} {G : World → Prop} {n : Nat} {g : Spec U} (h : ConOk P U G n g) {ds : List (D U)} {pre : Option Prop} (hg : g ds = some ⟨pre, .one ⟨false, [.v (.bool true)]⟩⟩) (hp : obOK pre) {args : Array Value} (w : World) (hw : G w)
    (hl : ds.length = args.size) (hd : ∀ (j : Nat) d v, ds[j]? = some d → args[j]? = some v → DDen U (Here w) w d v) : Calls P n args w fun e w' => e = .returned (.bool true) ∧ Below w.heap.size w w' := by
  refine (h.2 ds _ hg hp w (Here w) args hw (fun _ _ h => h) hl hd).mono ?_
  rintro e w' ⟨y, rfl, F', hb, _, _, _, cv, e, q⟩
  cases e
  exact ⟨by rw [q.1], hb⟩
/-- Arguments as data, one by one. -/
inductive ArgsD (U : Uni) (w : World) : List (D U) → List Value → Prop where
  | nil : ArgsD U w [] []
  | cons {d : D U} {v : Value} (h : DDen U (Here w) w d v) {ds : List (D U)} {vs : List Value} (t : ArgsD U w ds vs) : ArgsD U w (d :: ds) (v :: vs)
theorem ArgsD.all {U : Uni} {w : World} {ds : List (D U)} {vs : List Value} (h : ArgsD U w ds vs) : ds.length = vs.length ∧ ∀ (j : Nat) d v, ds[j]? = some d → vs[j]? = some v → DDen U (Here w) w d v := by
  induction h with
  | nil => exact ⟨rfl, fun j d v e => by simp at e⟩
  | cons h t ih =>
    refine ⟨by simp [ih.1], fun j d v e1 e2 => ?_⟩
    cases j with
    | zero => simp at e1 e2; subst e1; subst e2; exact h
    | succ j => exact ih.2 j d v (by simpa using e1) (by simpa using e2)
theorem den_one {U : Uni} {w : World} (x : Value) (h : oneV x = true) : DDen U (Here w) w ⟨false, [.v x]⟩ x := ⟨_, rfl, rfl, h⟩
theorem den_sl {U : Uni} {w : World} {v : Value} {c : U.C} {l : List (U.T c)} (h : Rd U (Here w) w v c l) : DDen U (Here w) w ⟨false, [.sl c l]⟩ v := ⟨_, rfl, h⟩
theorem den_agg {U : Uni} {w : World} {cs : List (CV U.C U.T)} {ys : List Value} (h : CVL U (Here w) w cs ys) : DDen U (Here w) w ⟨true, cs⟩ (.agg ys.toArray) := ⟨_, rfl, by simpa using h⟩
theorem cvl_nil {U : Uni} {w : World} : CVL U (Here w) w [] [] := ⟨rfl, fun j cv y e => by simp at e⟩
theorem cvl_v {U : Uni} {w : World} (x : Value) (h : oneV x = true) {cs : List (CV U.C U.T)} {ys : List Value} (t : CVL U (Here w) w cs ys) : CVL U (Here w) w (.v x :: cs) (x :: ys) :=
  ⟨by simp [t.1], fun j cv y e1 e2 => by
    cases j with
    | zero => simp at e1 e2; subst e1; subst e2; exact ⟨rfl, h⟩
    | succ j => exact t.2 j cv y (by simpa using e1) (by simpa using e2)⟩
theorem cvl_sl {U : Uni} {w : World} {v : Value} {c : U.C} {l : List (U.T c)} (h : Rd U (Here w) w v c l) {cs : List (CV U.C U.T)} {ys : List Value} (t : CVL U (Here w) w cs ys) : CVL U (Here w) w (.sl c l :: cs) (v :: ys) :=
  ⟨by simp [t.1], fun j cv y e1 e2 => by
    cases j with
    | zero => simp at e1 e2; subst e1; subst e2; exact h
    | succ j => exact t.2 j cv y (by simpa using e1) (by simpa using e2)⟩
/-- A slice's argument, by its type. -/
theorem leaf_of_slice {H : Type} {enc : TypeId × Value → H} {P : Program} {w : World} {base : Nat} {spare : Nat → Bool} {held : Bool} {r : Reach} {b t e : Nat} {v : Value} {d : DataW H} {ps : List MemPlace}
    (ht : P.underlying t = some (.slice e)) (hv : Value.okWide P w r b t v) (h : DataW.Trod enc P w base spare held t v d ps) : LeafOk enc P w base spare held (.sl e) v := by
  obtain ⟨A, m, cap, rfl⟩ := Go.WideShapes.okWide_slice ht hv
  obtain ⟨fuel, hf⟩ := h
  have hl : leaves P 1 t = some [.sl e] := by simp [leaves, ht]
  have := leaves_ok 1 t [.sl e] hl fuel _ _ hf
  exact this.2 0 (.sl e) _ rfl (by simp [Value.cells])
end Go.RX

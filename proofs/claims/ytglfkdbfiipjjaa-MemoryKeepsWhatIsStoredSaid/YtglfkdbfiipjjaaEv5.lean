/- The state of a call: what is known of its temporaries, its rows, and who may append; loads and constants. -/
import Derived.Test.YtglfkdbfiipjjaaEv4
import Derived.Laws.CopyRow
import Derived.Laws.Strings
set_option linter.unusedVariables false
set_option linter.unusedSimpArgs false
namespace Go.AE
open Go.RowKit

/-- Who may append to a slice in place: the temporary i of the frame d, or a row's part. -/
inductive Onr where
  | t (d i : Nat)
  | r (r : Nat) (p : List Nat)
/-- What a new block is: written no more; a row; the array of a slice that is written from cell 'used' on alone. -/
inductive Cls where
  | froz
  | row
  | grow (o : Onr) (used : Nat)
structure G where
  rows : List (Nat × Root)
  cls : Nat → Cls
structure Env where
  P : Program
  N : Nat
  S : Nat → Nat → Prop
  w0 : World
def stOf (E : Env) (cls : Nat → Cls) (b o : Nat) : Prop :=
  if b < E.N then E.S b o else
  match cls b with
  | .froz => True
  | .row => False
  | .grow _ u => o < u
def xOf (E : Env) (g : G) (w : World) : X := ⟨g.rows, stOf E g.cls, w, true⟩

def relM (P : Program) (x : X) (k e : TypeId) : List (AV × AV) → List MapEntry → Prop
  | [], [] => True
  | (a, v) :: es, c :: cs => (relV P x a c.key ∧ fits P k a = true ∧ keyT P k a = true ∧ relV P x v c.val ∧ fits P e v = true) ∧ relM P x k e es cs
  | _, _ => False
def RowOK (P : Program) (x : X) (b : Nat) (root : Root) (row : Row) : Prop :=
  match row with
  | .map k e es => root = .map k e ∧ ∃ ces clock, x.w.heap[b]? = some (.map ces clock) ∧ relM P x k e es ces.toList
  | row => ∃ cs ty, x.w.heap[b]? = some (.cells cs ty (0, 0)) ∧ RowC P x root row cs.toList
/-- A slice that may be appended to in place, by 'o' alone. -/
def OwnC (E : Env) (g : G) (w : World) (o : Onr) (e : TypeId) (v : Value) : Prop :=
  ∃ base len cap, v = .slice base len cap ∧
    (cap = len ∨ ∃ b off cs ty, base = some ⟨b, off, none⟩ ∧ E.N ≤ b ∧ g.cls b = .grow o (off + len * E.P.cellsOf e) ∧ w.heap[b]? = some (.cells cs ty (0, 0)) ∧ off + cap * E.P.cellsOf e ≤ cs.size)
structure Rel (E : Env) (d : Nat) (g : G) (fr : Fr) (M : Mm) (a : Act) (w : World) : Prop where
  below : Below E.N E.w0 w
  hN : E.N ≤ w.heap.size
  fresh : ∀ b, w.heap.size ≤ b → g.cls b = .froz
  size : a.tmps.size = fr.tmps.length
  tmps : ∀ i : Nat, relV E.P (xOf E g w) (fr.tmps.getD i .dead) (a.tmps.getD i undef)
  lenr : g.rows.length = M.rows.length
  rows : ∀ (r b : Nat) (root : Root), g.rows[r]? = some (b, root) → E.N ≤ b ∧ b < w.heap.size ∧ g.cls b = .row ∧ RowOK E.P (xOf E g w) b root (M.rows.getD r (.arr 0 []))
  inj : ∀ (r r' b : Nat) (root root' : Root), g.rows[r]? = some (b, root) → g.rows[r']? = some (b, root') → r = r'
  own : ∀ t : Nat, (t, TF.own) ∈ fr.tf → ∃ e l ex, fr.tmps.getD t .dead = .slice e l ex ∧ OwnC E g w (.t d t) e (a.tmps.getD t undef)
  viaT : ∀ t s : Nat, (t, TF.viaT s) ∈ fr.tf → (s, TF.own) ∈ fr.tf ∧ a.tmps.getD t undef = a.tmps.getD s undef ∧
    ∃ e l ex l' ex', fr.tmps.getD t .dead = .slice e l ex ∧ fr.tmps.getD s .dead = .slice e l' ex'
  viaR : ∀ (t r : Nat) (p : List Nat), (t, TF.viaR r p) ∈ fr.tf → (r, p) ∈ M.ro ∧ ∃ e l ex, fr.tmps.getD t .dead = .slice e l ex ∧
    ∃ b root ty off, g.rows[r]? = some (b, root) ∧ PathR E.P root p ty off ∧ E.P.underlying ty = some (.slice e) ∧ w.cell? ⟨b, off, none⟩ = some (a.tmps.getD t undef)
  ro : ∀ (r : Nat) (p : List Nat), (r, p) ∈ M.ro → ∃ b root ty off e v, g.rows[r]? = some (b, root) ∧ PathR E.P root p ty off ∧ E.P.underlying ty = some (.slice e) ∧
    w.cell? ⟨b, off, none⟩ = some v ∧ OwnC E g w (.r r p) e v
/-- What stays for the frames further out. -/
structure Ext (E : Env) (d : Nat) (g : G) (w : World) (g' : G) (w' : World) : Prop where
  rows : ∀ (r : Nat) (z : Nat × Root), g.rows[r]? = some z → g'.rows[r]? = some z
  st : ∀ (b o : Nat) (v : Value), stOf E g.cls b o → w.cell? ⟨b, o, none⟩ = some v → stOf E g'.cls b o
  cell : ∀ (b o : Nat) (v : Value), stOf E g.cls b o → w.cell? ⟨b, o, none⟩ = some v → w'.cell? ⟨b, o, none⟩ = some v
  grow : ∀ b d' i u : Nat, d' < d → b < w.heap.size → g.cls b = .grow (.t d' i) u → g'.cls b = g.cls b ∧ w'.heap[b]? = w.heap[b]?
  size : w.heap.size ≤ w'.heap.size
section
variable {E : Env} {d : Nat} {g g' : G} {fr : Fr} {M : Mm} {a : Act} {w w' : World}

theorem Ext.refl (E : Env) (d : Nat) (g : G) (w : World) : Ext E d g w g w := ⟨fun _ _ h => h, fun _ _ _ h _ => h, fun _ _ _ _ h => h, fun _ _ _ _ _ _ _ => ⟨rfl, rfl⟩, Nat.le_refl _⟩
theorem Ext.trans {g'' : G} {w'' : World} (h : Ext E d g w g' w') (k : Ext E d g' w' g'' w'') : Ext E d g w g'' w'' :=
  ⟨fun r z e => k.rows r z (h.rows r z e), fun b o v s c => k.st b o v (h.st b o v s c) (h.cell b o v s c), fun b o v s c => k.cell b o v (h.st b o v s c) (h.cell b o v s c),
   fun b d' i u hd hb hc => by
    obtain ⟨h1, h2⟩ := h.grow b d' i u hd hb hc
    obtain ⟨k1, k2⟩ := k.grow b d' i u hd (Nat.lt_of_lt_of_le hb h.size) (h1.trans hc)
    exact ⟨k1.trans h1, k2.trans h2⟩, Nat.le_trans h.size k.size⟩
theorem Ext.le (h : Ext E d g w g' w') : Le (xOf E g w) (xOf E g' w') := ⟨h.rows, h.st, h.cell, id⟩
theorem Ext.down {d' : Nat} (h : Ext E d g w g' w') (hd : d' ≤ d) : Ext E d' g w g' w' := ⟨h.rows, h.st, h.cell, fun b e i u he hb hc => h.grow b e i u (by omega) hb hc, h.size⟩

theorem cell_lt {w : World} {b o : Nat} {v : Value} (h : w.cell? ⟨b, o, none⟩ = some v) : b < w.heap.size := World.block_lt_of_cell? w ⟨b, o, none⟩ h
/-- A world that holds all that this one holds. -/
theorem le_below (h : Below w.heap.size w w') (g : G) : Le (xOf E g w) (xOf E g w') :=
  ⟨fun _ _ e => e, fun _ _ _ e _ => e, fun b o v _ hc => (h.cell (p := ⟨b, o, none⟩) (cell_lt hc)).trans hc, id⟩
theorem Ext.of_below (h : Below w.heap.size w w') : Ext E d g w g w' :=
  ⟨fun _ _ e => e, fun _ _ _ e _ => e, fun b o v _ hc => (h.cell (p := ⟨b, o, none⟩) (cell_lt hc)).trans hc, fun b d' i u _ hb _ => ⟨rfl, h.block b hb⟩, h.size⟩
theorem heap_lt {b : Nat} {o : Obj} (h : w.heap[b]? = some o) : b < w.heap.size := (Array.getElem?_eq_some_iff.1 h).1
theorem relM_le {P : Program} {x y : X} (h : Le x y) {k e : TypeId} : ∀ {es : List (AV × AV)} {cs : List MapEntry}, relM P x k e es cs → relM P y k e es cs
  | [], [], _ => trivial
  | [], _ :: _, r => r.elim
  | _ :: _, [], r => r.elim
  | (a, v) :: es, c :: cs, ⟨⟨h1, h2, h3, h4, h5⟩, r⟩ => ⟨⟨relV_le h h1, h2, h3, relV_le h h4, h5⟩, relM_le h r⟩
theorem RowOK.le {P : Program} {x y : X} (h : Le x y) {b : Nat} {root : Root} {row : Row} (hb : y.w.heap[b]? = x.w.heap[b]?) (k : RowOK P x b root row) : RowOK P y b root row := by
  cases row with
  | map kt et es =>
    obtain ⟨k1, ces, clock, k2, k3⟩ := k
    exact ⟨k1, ces, clock, hb.trans k2, relM_le h k3⟩
  | var t v =>
    obtain ⟨cs, ty, k2, k3⟩ := k
    exact ⟨cs, ty, hb.trans k2, k3.le h⟩
  | arr e l =>
    obtain ⟨cs, ty, k2, k3⟩ := k
    exact ⟨cs, ty, hb.trans k2, k3.le h⟩
/-- Who may append goes on so where his block is as it was. -/
theorem OwnC.le {o : Onr} {e : TypeId} {v : Value} (h : OwnC E g w o e v) (hk : ∀ b u : Nat, E.N ≤ b → b < w.heap.size → g.cls b = .grow o u → g'.cls b = g.cls b ∧ w'.heap[b]? = w.heap[b]?) : OwnC E g' w' o e v := by
  obtain ⟨base, len, cap, rfl, h⟩ := h
  refine ⟨base, len, cap, rfl, h.imp id ?_⟩
  rintro ⟨b, off, cs, ty, rfl, hN, hc, hh, hs⟩
  obtain ⟨k1, k2⟩ := hk b _ hN (heap_lt hh) hc
  exact ⟨b, off, cs, ty, rfl, hN, k1.trans hc, k2.trans hh, hs⟩
/-- The state goes on where the world only grows. -/
theorem Rel.grown (h : Rel E d g fr M a w) (hb : Below w.heap.size w w') : Rel E d g fr M a w' := by
  have hle := le_below (E := E) hb g
  have hcell : ∀ b o v, w.cell? ⟨b, o, none⟩ = some v → w'.cell? ⟨b, o, none⟩ = some v := fun b o v hc => (hb.cell (p := ⟨b, o, none⟩) (cell_lt hc)).trans hc
  have hown : ∀ {o : Onr} {e : TypeId} {v : Value}, OwnC E g w o e v → OwnC E g w' o e v := fun k => k.le fun b u _ hlt _ => ⟨rfl, hb.block b hlt⟩
  refine ⟨h.below.trans (hb.mono h.hN), Nat.le_trans h.hN hb.size, fun b hlt => h.fresh b (Nat.le_trans hb.size hlt), h.size, fun i => relV_le hle (h.tmps i), h.lenr, ?_, h.inj, ?_, h.viaT, ?_, ?_⟩
  · intro r b root hr
    obtain ⟨k1, k2, k3, k4⟩ := h.rows r b root hr
    exact ⟨k1, Nat.lt_of_lt_of_le k2 hb.size, k3, k4.le hle (hb.block b k2)⟩
  · intro t ht
    obtain ⟨e, l, ex, k1, k2⟩ := h.own t ht
    exact ⟨e, l, ex, k1, hown k2⟩
  · intro t r p ht
    obtain ⟨k1, e, l, ex, k2, b, root, ty, off, k3, k4, k5, k6⟩ := h.viaR t r p ht
    exact ⟨k1, e, l, ex, k2, b, root, ty, off, k3, k4, k5, hcell _ _ _ k6⟩
  · intro r p ht
    obtain ⟨b, root, ty, off, e, v, k1, k2, k3, k4, k5⟩ := h.ro r p ht
    exact ⟨b, root, ty, off, e, v, k1, k2, k3, hcell _ _ _ k4, hown k5⟩

/-! ### a temporary is set -/
theorem getD_setL (l : List AV) (i j : Nat) (v : AV) : (l.set i v).getD j .dead = if i = j ∧ i < l.length then v else l.getD j .dead := by
  by_cases hij : i = j
  · subst hij
    by_cases hl : i < l.length
    · simp [List.getD, hl]
    · simp [List.getD, hl]
  · simp [List.getD, List.getElem?_set_ne hij, hij]
theorem getD_setA (l : Array Value) (i j : Nat) (v : Value) : (l.setIfInBounds i v).getD j undef = if i = j ∧ i < l.size then v else l.getD j undef := by
  by_cases hij : i = j
  · subst hij
    by_cases hl : i < l.size
    · simp [hl]
    · simp [hl]
  · simp [Array.getElem?_setIfInBounds_ne hij, hij]
theorem mem_dropT {t i : Nat} {f : TF} {tf : List (Nat × TF)} (h : (i, f) ∈ dropT t tf) : (i, f) ∈ tf ∧ i ≠ t ∧ f ≠ .viaT t := by
  simp only [dropT, List.mem_filter, Bool.and_eq_true, Bool.not_eq_true'] at h
  obtain ⟨h1, h2, h3⟩ := h
  refine ⟨h1, fun e => ?_, fun e => ?_⟩
  · subst e; simp at h2
  · subst e; simp at h3
theorem mem_dropT_of {t i : Nat} {f : TF} {tf : List (Nat × TF)} (h : (i, f) ∈ tf) (h1 : i ≠ t) (h2 : f ≠ .viaT t) : (i, f) ∈ dropT t tf := by
  simp only [dropT, List.mem_filter, Bool.and_eq_true, Bool.not_eq_true']
  refine ⟨h, ?_, ?_⟩
  · cases hb : Nat.beq i t with
    | false => rfl
    | true => exact absurd (Nat.eq_of_beq_eq_true hb) h1
  · cases f with
    | viaT s =>
      show (!Nat.beq s t) = true
      cases hb : Nat.beq s t with
      | false => rfl
      | true => exact absurd (by rw [Nat.eq_of_beq_eq_true hb]) h2
    | _ => rfl
theorem Fr.set_some (fr : Fr) (t : Nat) (v : AV) : fr.set (some t) v = { tmps := fr.tmps.set t v, tf := dropT t fr.tf } := rfl
/-- A temporary is given a value; what flags it bore, and those of its copies, are gone. -/
theorem Rel.set (h : Rel E d g fr M a w) (dst : Option Nat) {v : AV} {c : Value} (hv : relV E.P (xOf E g w) v c) : Rel E d g (fr.set dst v) M (a.put dst c) w := by
  cases dst with
  | none => exact h
  | some t =>
    have hg : ∀ i, i ≠ t → (fr.tmps.set t v).getD i .dead = fr.tmps.getD i .dead := fun i hi => by rw [getD_setL, if_neg (fun k => hi k.1.symm)]
    have ha : ∀ i, i ≠ t → (a.tmps.setIfInBounds t c).getD i undef = a.tmps.getD i undef := fun i hi => by rw [getD_setA, if_neg (fun k => hi k.1.symm)]
    refine ⟨h.below, h.hN, h.fresh, by simp [Fr.set, Act.put, h.size], fun i => ?_, h.lenr, h.rows, h.inj, ?_, ?_, ?_, h.ro⟩
    · show relV E.P (xOf E g w) ((fr.tmps.set t v).getD i .dead) ((a.tmps.setIfInBounds t c).getD i undef)
      rw [getD_setL, getD_setA, h.size]
      split
      · exact hv
      · exact h.tmps i
    · intro i hi
      obtain ⟨k1, k2, k3⟩ := mem_dropT hi
      obtain ⟨e, l, ex, m1, m2⟩ := h.own i k1
      exact ⟨e, l, ex, (hg i k2).trans m1, by show OwnC E g w _ e ((a.tmps.setIfInBounds t c).getD i undef); rw [ha i k2]; exact m2⟩
    · intro i s hi
      obtain ⟨k1, k2, k3⟩ := mem_dropT hi
      obtain ⟨m1, m2, e, l, ex, l', ex', m3, m4⟩ := h.viaT i s k1
      have hs : s ≠ t := fun e => k3 (by rw [e])
      refine ⟨mem_dropT_of m1 hs (by simp), ?_, e, l, ex, l', ex', (hg i k2).trans m3, (hg s hs).trans m4⟩
      show (a.tmps.setIfInBounds t c).getD i undef = (a.tmps.setIfInBounds t c).getD s undef
      rw [ha i k2, ha s hs, m2]
    · intro i r p hi
      obtain ⟨k1, k2, k3⟩ := mem_dropT hi
      obtain ⟨m1, e, l, ex, m2, b, root, ty, off, m3, m4, m5, m6⟩ := h.viaR i r p k1
      refine ⟨m1, e, l, ex, (hg i k2).trans m2, b, root, ty, off, m3, m4, m5, ?_⟩
      show w.cell? _ = some ((a.tmps.setIfInBounds t c).getD i undef)
      rw [ha i k2]; exact m6
end

/-! ### constants and operands -/
section
variable {P : Program} {x : X}
theorem relV_leaf {v : AV} {c : Value} (h : rel P x v [c]) (hA : v.isA = false) : relV P x v c := ⟨[c], by rw [hA]; rfl, h, fun _ => rfl⟩
theorem relV_dead (c : Value) : relV P x .dead c := relV_leaf trivial rfl
theorem relV_undef : relV P x undefV undef := relV_leaf ⟨#[], rfl, by simp [relVs]⟩ rfl
theorem ofLeaf_rel (t : TypeId) (c : Value) : rel P x (ofLeaf P t c) [c] := by
  unfold ofLeaf
  split <;> first | trivial | (exact ⟨none, 0, 0, rfl, rfl, Nat.le_refl _, fun _ => rfl, .inl rfl⟩) | (simp [rel]; done)
theorem ofLeaf_isA (t : TypeId) (c : Value) : (ofLeaf P t c).isA = false := by
  unfold ofLeaf
  split <;> rfl
theorem unflatL_rel (rec : TypeId → List Value → Option (AV × List Value))
    (hrec : ∀ t cs v r, rec t cs = some (v, r) → ∃ c, cs = c ++ r ∧ rel P x v c ∧ c.length = P.cellsOf t ∧ fits P t v = true) :
    ∀ (ts : List TypeId) (cs : List Value) (vs : List AV) (r : List Value), unflatL rec ts cs = some (vs, r) → ∃ c, cs = c ++ r ∧ relSt P x ts vs c
  | [], cs, vs, r, h => by
    simp only [unflatL, Option.some.injEq, Prod.mk.injEq] at h
    obtain ⟨rfl, rfl⟩ := h
    exact ⟨[], by simp, rfl⟩
  | t :: ts, cs, vs, r, h => by
    simp only [unflatL] at h
    split at h
    · rename_i v r1 h1
      split at h
      · rename_i vs' r' h2
        simp only [Option.some.injEq, Prod.mk.injEq] at h
        obtain ⟨rfl, rfl⟩ := h
        obtain ⟨c, rfl, k1, k2, k3⟩ := hrec t cs v r1 h1
        obtain ⟨c', rfl, k4⟩ := unflatL_rel rec hrec ts r1 vs' r' h2
        exact ⟨c ++ c', by simp, c, c', rfl, k1, k2, k3, k4⟩
      · exact absurd h (by simp)
    · exact absurd h (by simp)
theorem relAr_of_relSt {e : TypeId} : ∀ {n : Nat} {vs : List AV} {cs : List Value}, relSt P x (List.replicate n e) vs cs → vs.length = n ∧ relAr P x e vs cs
  | 0, [], cs, h => ⟨rfl, h⟩
  | 0, _ :: _, cs, h => h.elim
  | n + 1, [], cs, h => h.elim
  | n + 1, v :: vs, cs, h => by
    obtain ⟨c, r, rfl, h1, h2, h3, h4⟩ := h
    obtain ⟨k1, k2⟩ := relAr_of_relSt h4
    exact ⟨by simp [k1], c, r, rfl, h1, h2, h3, k2⟩
theorem unflat_rel : ∀ (n : Nat) (t : TypeId) (cs : List Value) (v : AV) (r : List Value), unflat P n t cs = some (v, r) → ∃ c, cs = c ++ r ∧ rel P x v c ∧ c.length = P.cellsOf t ∧ fits P t v = true
  | 0, _, _, _, _, h => by simp [unflat] at h
  | n + 1, t, cs, v, r, h => by
    simp only [unflat] at h
    split at h
    · rename_i fs hu
      split at h
      · rename_i ps r' h1
        split at h
        · rename_i hc
          simp only [Option.some.injEq, Prod.mk.injEq] at h
          obtain ⟨rfl, rfl⟩ := h
          simp only [Bool.and_eq_true] at hc
          obtain ⟨c, rfl, k1⟩ := unflatL_rel (unflat P n) (fun t cs v r => unflat_rel n t cs v r) _ _ _ _ h1
          have hlen : c.length = P.cellsOf t := by have := Nat.eq_of_beq_eq_true hc.1; simp at this; omega
          refine ⟨c, rfl, mk_struct ((like_under hc.2).trans hu) (hlen.trans (like_cells hc.2).symm) k1, hlen, ?_⟩
          simp [fits, hc.2, tyA, hu]
        · exact absurd h (by simp)
      · exact absurd h (by simp)
    · rename_i m e hu
      split at h
      · rename_i ps r' h1
        split at h
        · rename_i hc
          simp only [Option.some.injEq, Prod.mk.injEq] at h
          obtain ⟨rfl, rfl⟩ := h
          simp only [Bool.and_eq_true] at hc
          obtain ⟨c, rfl, k1⟩ := unflatL_rel (unflat P n) (fun t cs v r => unflat_rel n t cs v r) _ _ _ _ h1
          have hlen : c.length = P.cellsOf t := by have := Nat.eq_of_beq_eq_true hc.1; simp at this; omega
          refine ⟨c, rfl, mk_array ((like_under hc.2).trans hu) (hlen.trans (like_cells hc.2).symm) (relAr_of_relSt k1).1 (relAr_of_relSt k1).2, hlen, ?_⟩
          simp [fits, hc.2, tyA, hu]
        · exact absurd h (by simp)
      · exact absurd h (by simp)
    · rename_i u hu1 hu2 hu
      split at h
      · rename_i c r'
        split at h
        · rename_i hc
          simp only [Option.some.injEq, Prod.mk.injEq] at h
          obtain ⟨rfl, rfl⟩ := h
          simp only [Bool.and_eq_true] at hc
          exact ⟨[c], by simp, ofLeaf_rel t c, by simpa using (Nat.eq_of_beq_eq_true hc.2).symm, hc.1⟩
        · exact absurd h (by simp)
      · exact absurd h (by simp)
    · exact absurd h (by simp)
theorem ofVal_rel (t : TypeId) (v : Value) : relV P x (ofVal P t v) v := by
  unfold ofVal
  split
  · rename_i cs
    split
    · rename_i a h
      obtain ⟨c, k1, k2, k3, k4⟩ := unflat_rel 20 t _ _ _ h
      simp only [List.append_nil] at k1
      split
      · subst k1
        exact ⟨cs.toList, by simp [mkV, AV.isA], k2, by simp [AV.isA]⟩
      · exact relV_dead _
    · exact relV_dead _
  · rename_i b
    split
    · rename_i hb
      have : b = #[] := by simpa using hb
      subst this
      exact relV_undef
    · exact relV_dead _
  · exact relV_leaf (ofLeaf_rel t v) (ofLeaf_isA t v)
end
section
variable {E : Env} {d : Nat} {g : G} {fr : Fr} {M : Mm} {a : Act} {w : World}
theorem Rel.opnd (h : Rel E d g fr M a w) (t : TypeId) (x : Operand) : relV E.P (xOf E g w) (opnd E.P fr.tmps t x) (a.eval x) := by
  cases x with
  | tmp i => exact h.tmps i
  | const v => exact ofVal_rel t v
  | global i => exact relV_dead _
  | func f => exact relV_leaf ⟨#[], #[], rfl, by simp [relVs], by simp [relVs]⟩ rfl
theorem Rel.opnds (h : Rel E d g fr M a w) : ∀ (ts : List TypeId) (xs : List Operand), relVs E.P (xOf E g w) (opnds E.P fr.tmps ts xs) (xs.map a.eval)
  | ts, [] => by simp [AE.opnds, relVs]
  | [], x :: xs => by
    obtain ⟨c, h1, h2, h3⟩ := h.opnd 0 x
    simp only [AE.opnds, List.map_cons, relVs]
    exact ⟨c, xs.map a.eval, by rw [h1], h2, h3, h.opnds [] xs⟩
  | t :: ts, x :: xs => by
    obtain ⟨c, h1, h2, h3⟩ := h.opnd t x
    simp only [AE.opnds, List.map_cons, relVs]
    exact ⟨c, xs.map a.eval, by rw [h1], h2, h3, h.opnds ts xs⟩
end
end Go.AE

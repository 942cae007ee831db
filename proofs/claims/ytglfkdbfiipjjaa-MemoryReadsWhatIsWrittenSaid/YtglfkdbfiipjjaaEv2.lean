/- What an abstract value says of a value and of memory; that it goes on saying so while what it rests on stays as it is. -/
import Derived.Test.YtglfkdbfiipjjaaEv1
import Derived.Below
import Derived.Laws.Cells
import Derived.Laws.Rows
set_option linter.unusedVariables false
set_option linter.unusedSimpArgs false
namespace Go.AE
open Go.RowKit

inductive Root where
  | var (t : TypeId)
  | arr (e : TypeId) (n : Nat)
  | map (k e : TypeId)

/-- What a relation rests on: the rows' blocks, the cells that are never written again, the world. -/
structure X where
  rows : List (Nat × Root)
  st : Nat → Nat → Prop
  w : World
  /-- may slices of rows occur? (not in what lies in memory that is never written) -/
  m : Bool := true
def X.imm (x : X) : X := { x with m := false }

/-- These cells stand there, and are never written again. -/
def At (x : X) (b o : Nat) (cs : List Value) : Prop := ∀ i v, cs[i]? = some v → x.st b (o + i) ∧ x.w.cell? ⟨b, o + i, none⟩ = some v

/-- A path leads from a type to a type, at an offset. -/
def PathT (P : Program) : List Nat → TypeId → TypeId → Nat → Prop
  | [], t0, t, off => t = t0 ∧ off = 0
  | k :: p, t0, t, off =>
    match P.underlying t0 with
    | some (.struct fs) => ∃ f off', fs[k]? = some f ∧ off = sizesTo P t0 k + off' ∧ PathT P p f.type t off'
    | some (.array n e) => k < n ∧ ∃ off', off = k * P.cellsOf e + off' ∧ PathT P p e t off'
    | _ => False
def PathR (P : Program) (root : Root) (p : List Nat) (t : TypeId) (off : Nat) : Prop :=
  match root, p with
  | .var t0, p => PathT P p t0 t off
  | .arr e n, k :: p => k < n ∧ ∃ off', off = k * P.cellsOf e + off' ∧ PathT P p e t off'
  | _, _ => False
/-- The array at a path: how many elements of which type, from which offset on. -/
def PathC (P : Program) (root : Root) (p : List Nat) (e : TypeId) (n off : Nat) : Prop :=
  (p = [] ∧ off = 0 ∧ root = .arr e n) ∨ ∃ t, PathR P root p t off ∧ P.underlying t = some (.array n e)

def mkV (a : Bool) (cs : List Value) : Value := if a then .agg cs.toArray else cs.headD undef

mutual
/-- The cells that a value is. -/
def rel (P : Program) (x : X) : AV → List Value → Prop
  | .dead, cs => True
  | .bool b, cs => cs = [.bool b]
  | .int k n, cs => cs = [.int k n]
  | .str s, cs => cs = [.string ⟨s.toArray⟩]
  | .nilp, cs => cs = [.pointer none]
  | .ptr r p t off, cs => ∃ b root, x.rows[r]? = some (b, root) ∧ PathR P root p t off ∧ cs = [.pointer (some ⟨b, off, none⟩)]
  | .rptr t v, cs => ∃ b o c, cs = [.pointer (some ⟨b, o, none⟩)] ∧ rel P x.imm v c ∧ c.length = P.cellsOf t ∧ fits P t v = true ∧ At x b o c
  | .slice e l ex, cs => ∃ base len cap, cs = [.slice base len cap] ∧ len = l.length ∧ len ≤ cap ∧ (ex = true → cap = len) ∧
      (len = 0 ∨ ∃ b o, base = some ⟨b, o, none⟩ ∧ relSl P x.imm e b o l)
  | .msl r p e off coff len, cs => x.m = true ∧ ∃ b root n o0, x.rows[r]? = some (b, root) ∧ PathC P root p e n o0 ∧ off + len ≤ n ∧ coff = o0 + off * P.cellsOf e ∧
      ∃ base cap, len ≤ cap ∧ cs = [.slice base len cap] ∧ (0 < len → base = some ⟨b, coff, none⟩)
  | .mapv none, cs => cs = [.map none]
  | .mapv (some r), cs => ∃ b k e, x.rows[r]? = some (b, .map k e) ∧ cs = [.map (some b)]
  | .func fn first captured, cs => ∃ a b, cs = [.func fn a b] ∧ relVs P x first a.toList ∧ relVs P x captured b.toList
  | .nilf, cs => cs = [.nilFunc]
  | .iface t v, cs => ∃ c, rel P x v c ∧ fits P t v = true ∧ (v.isA = false → c.length = 1) ∧ cs = [.iface t (mkV v.isA c)]
  | .nili, cs => cs = [.nilIface]
  | .agg t ps, cs => cs.length = P.cellsOf t ∧
    match P.underlying t with
    | some (.struct fs) => relSt P x (fs.toList.map (·.type)) ps cs
    | some (.array n e) => ps.length = n ∧ relAr P x e ps cs
    | _ => False
  | .tuple vs, cs => ∃ a, cs = [.tuple a] ∧ relVs P x vs a.toList
def relSl (P : Program) (x : X) (e : TypeId) (b : Nat) : Nat → List AV → Prop
  | o, [] => True
  | o, v :: vs => (∃ c, rel P x v c ∧ c.length = P.cellsOf e ∧ fits P e v = true ∧ At x b o c) ∧ relSl P x e b (o + P.cellsOf e) vs
def relSt (P : Program) (x : X) : List TypeId → List AV → List Value → Prop
  | [], [], cs => cs = []
  | t :: ts, v :: vs, cs => ∃ c r, cs = c ++ r ∧ rel P x v c ∧ c.length = P.cellsOf t ∧ fits P t v = true ∧ relSt P x ts vs r
  | _, _, _ => False
def relAr (P : Program) (x : X) (e : TypeId) : List AV → List Value → Prop
  | [], cs => cs = []
  | v :: vs, cs => ∃ c r, cs = c ++ r ∧ rel P x v c ∧ c.length = P.cellsOf e ∧ fits P e v = true ∧ relAr P x e vs r
def relVs (P : Program) (x : X) : List AV → List Value → Prop
  | [], vs => vs = []
  | a :: as, vs => ∃ c r, vs = mkV a.isA c :: r ∧ rel P x a c ∧ (a.isA = false → c.length = 1) ∧ relVs P x as r
end
/-- What an abstract value says of a value. -/
def relV (P : Program) (x : X) (a : AV) (v : Value) : Prop := ∃ c, v = mkV a.isA c ∧ rel P x a c ∧ (a.isA = false → c.length = 1)

/-- What held goes on holding. -/
structure Le (x y : X) : Prop where
  rows : ∀ (r : Nat) (z : Nat × Root), x.rows[r]? = some z → y.rows[r]? = some z
  st : ∀ (b o : Nat) (v : Value), x.st b o → x.w.cell? ⟨b, o, none⟩ = some v → y.st b o
  cell : ∀ (b o : Nat) (v : Value), x.st b o → x.w.cell? ⟨b, o, none⟩ = some v → y.w.cell? ⟨b, o, none⟩ = some v
  m : x.m = true → y.m = true
theorem Le.refl (x : X) : Le x x := ⟨fun _ _ h => h, fun _ _ _ h _ => h, fun _ _ _ _ h => h, id⟩
theorem Le.imm {x y : X} (h : Le x y) : Le x.imm y.imm := ⟨h.rows, h.st, h.cell, id⟩
theorem imm_le (x : X) : Le x.imm x := ⟨fun _ _ h => h, fun _ _ _ h _ => h, fun _ _ _ _ h => h, fun h => by simp [X.imm] at h⟩
theorem Le.trans {x y z : X} (h : Le x y) (k : Le y z) : Le x z :=
  ⟨fun r a e => k.rows r a (h.rows r a e), fun b o v s c => k.st b o v (h.st b o v s c) (h.cell b o v s c), fun b o v s c => k.cell b o v (h.st b o v s c) (h.cell b o v s c), fun e => k.m (h.m e)⟩
theorem At.le {x y : X} (h : Le x y) {b o : Nat} {cs : List Value} (k : At x b o cs) : At y b o cs :=
  fun i v hv => ⟨h.st _ _ _ (k i v hv).1 (k i v hv).2, h.cell _ _ _ (k i v hv).1 (k i v hv).2⟩
section
variable {P : Program}
mutual
theorem rel_le {x y : X} (h : Le x y) : ∀ (v : AV) (cs : List Value), rel P x v cs → rel P y v cs
  | .dead, _, _ => trivial
  | .bool _, _, k => k
  | .int _ _, _, k => k
  | .str _, _, k => k
  | .nilp, _, k => k
  | .ptr _ _ _ _, _, ⟨b, root, h1, h2, h3⟩ => ⟨b, root, h.rows _ _ h1, h2, h3⟩
  | .rptr _ v, _, ⟨b, o, c, h1, h2, h3, h4, h5⟩ => ⟨b, o, c, h1, rel_le h.imm v c h2, h3, h4, h5.le h⟩
  | .slice e l _, _, ⟨base, len, cap, h1, h2, h3, h4, h5⟩ => ⟨base, len, cap, h1, h2, h3, h4, h5.imp id fun ⟨b, o, h6, h7⟩ => ⟨b, o, h6, relSl_le h.imm e b o l h7⟩⟩
  | .msl _ _ _ _ _ _, _, ⟨h0, b, root, n, o0, h1, h2⟩ => ⟨h.m h0, b, root, n, o0, h.rows _ _ h1, h2⟩
  | .mapv none, _, k => k
  | .mapv (some _), _, ⟨b, k, e, h1, h2⟩ => ⟨b, k, e, h.rows _ _ h1, h2⟩
  | .func _ first captured, _, ⟨a, b, h1, h2, h3⟩ => ⟨a, b, h1, relVs_le h first _ h2, relVs_le h captured _ h3⟩
  | .nilf, _, k => k
  | .iface _ v, _, ⟨c, h1, h2, h3, h4⟩ => ⟨c, rel_le h v c h1, h2, h3, h4⟩
  | .nili, _, k => k
  | .agg t ps, cs, k => by
    unfold rel at k ⊢
    obtain ⟨k0, k⟩ := k
    refine ⟨k0, ?_⟩
    split at k
    · rename_i fs heq
      exact relSt_le h _ ps cs k
    · rename_i n e heq
      exact ⟨k.1, relAr_le h e ps cs k.2⟩
    · exact k.elim
  | .tuple vs, _, ⟨a, h1, h2⟩ => ⟨a, h1, relVs_le h vs _ h2⟩
theorem relSl_le {x y : X} (h : Le x y) (e : TypeId) (b : Nat) : ∀ (o : Nat) (l : List AV), relSl P x e b o l → relSl P y e b o l
  | _, [], _ => trivial
  | o, v :: vs, ⟨⟨c, h1, h2, h3, h4⟩, h5⟩ => ⟨⟨c, rel_le h v c h1, h2, h3, h4.le h⟩, relSl_le h e b _ vs h5⟩
theorem relSt_le {x y : X} (h : Le x y) : ∀ (ts : List TypeId) (vs : List AV) (cs : List Value), relSt P x ts vs cs → relSt P y ts vs cs
  | [], [], _, k => k
  | [], _ :: _, _, k => k.elim
  | _ :: _, [], _, k => k.elim
  | _ :: ts, v :: vs, _, ⟨c, r, h1, h2, h3, h4, h5⟩ => ⟨c, r, h1, rel_le h v c h2, h3, h4, relSt_le h ts vs r h5⟩
theorem relAr_le {x y : X} (h : Le x y) (e : TypeId) : ∀ (vs : List AV) (cs : List Value), relAr P x e vs cs → relAr P y e vs cs
  | [], _, k => k
  | v :: vs, _, ⟨c, r, h1, h2, h3, h4, h5⟩ => ⟨c, r, h1, rel_le h v c h2, h3, h4, relAr_le h e vs r h5⟩
theorem relVs_le {x y : X} (h : Le x y) : ∀ (as : List AV) (vs : List Value), relVs P x as vs → relVs P y as vs
  | [], _, k => k
  | a :: as, _, ⟨c, r, h1, h2, h3, h4⟩ => ⟨c, r, h1, rel_le h a c h2, h3, relVs_le h as r h4⟩
end
theorem relV_le {x y : X} (h : Le x y) {a : AV} {v : Value} (k : relV P x a v) : relV P y a v :=
  let ⟨c, h1, h2, h3⟩ := k; ⟨c, h1, rel_le h a c h2, h3⟩
end
section
variable {P : Program} {x : X}
theorem rel_struct {t : TypeId} {ps : List AV} {cs : List Value} {fs : Array Field} (h : rel P x (.agg t ps) cs) (hu : P.underlying t = some (.struct fs)) : cs.length = P.cellsOf t ∧ relSt P x (fs.toList.map (·.type)) ps cs := by
  unfold rel at h
  rw [hu] at h
  exact h
theorem rel_array {t : TypeId} {ps : List AV} {cs : List Value} {n : Nat} {e : TypeId} (h : rel P x (.agg t ps) cs) (hu : P.underlying t = some (.array n e)) : cs.length = P.cellsOf t ∧ ps.length = n ∧ relAr P x e ps cs := by
  unfold rel at h
  rw [hu] at h
  exact h
theorem mk_struct {t : TypeId} {ps : List AV} {cs : List Value} {fs : Array Field} (hu : P.underlying t = some (.struct fs)) (hl : cs.length = P.cellsOf t) (h : relSt P x (fs.toList.map (·.type)) ps cs) : rel P x (.agg t ps) cs := by
  unfold rel
  rw [hu]
  exact ⟨hl, h⟩
theorem mk_array {t : TypeId} {ps : List AV} {cs : List Value} {n : Nat} {e : TypeId} (hu : P.underlying t = some (.array n e)) (hl : cs.length = P.cellsOf t) (hn : ps.length = n) (h : relAr P x e ps cs) : rel P x (.agg t ps) cs := by
  unfold rel
  rw [hu]
  exact ⟨hl, hn, h⟩
theorem rel_aggLen {t : TypeId} {ps : List AV} {cs : List Value} (h : rel P x (.agg t ps) cs) : cs.length = P.cellsOf t := by
  unfold rel at h
  exact h.1
end
end Go.AE

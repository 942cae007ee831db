/- Operations on values: numbers, strings, comparisons, conversions, parts. -/
import Derived.Test.YtglfkdbfiipjjaaEv5
import Derived.ChangeKeysEq
import Derived.Laws.StructEq
import Derived.Laws.BytesArg
import Derived.Lib.ConvBytes
set_option linter.unusedVariables false
set_option linter.unusedSimpArgs false
namespace Go.AE
open Go.RowKit
section
variable {P : Program} {x : X} {w : World}

/-! ### shapes -/
theorem fits_under {t : TypeId} {v : AV} (h : fits P t v = true) : ∃ d, P.underlying t = some d := by
  cases hu : P.underlying t with
  | some d => exact ⟨d, rfl⟩
  | none => cases v <;> simp [fits, leafOK, tyA, hu] at h
theorem fits_one {t : TypeId} {v : AV} {c : List Value} (h : fits P t v = true) (hr : rel P x v c) (hA : v.isA = false) : c.length = 1 := by
  cases v with
  | agg u ps => simp [AV.isA] at hA
  | dead => simp [fits, leafOK] at h
  | tuple vs => simp [fits, leafOK] at h
  | bool b => simp only [rel] at hr; subst hr; rfl
  | int k n => simp only [rel] at hr; subst hr; rfl
  | str s => simp only [rel] at hr; subst hr; rfl
  | nilp => simp only [rel] at hr; subst hr; rfl
  | nilf => simp only [rel] at hr; subst hr; rfl
  | nili => simp only [rel] at hr; subst hr; rfl
  | ptr r p t off => obtain ⟨b, root, h1, h2, rfl⟩ := hr; rfl
  | rptr t v => obtain ⟨b, o, c, rfl, _⟩ := hr; rfl
  | slice e l ex => obtain ⟨base, len, cap, rfl, _⟩ := hr; rfl
  | msl r p e off coff len => obtain ⟨_, b, root, n, o0, h1, h2, h3, h4, base, cap, h5, rfl, _⟩ := hr; rfl
  | mapv r =>
    cases r with
    | none => simp only [rel] at hr; subst hr; rfl
    | some r => obtain ⟨b, k, e, h1, rfl⟩ := hr; rfl
  | func fn a b => obtain ⟨a, b, rfl, _⟩ := hr; rfl
  | iface t v => obtain ⟨c, h1, h2, h3, rfl⟩ := hr; rfl
theorem relV_of {t : TypeId} {v : AV} {c : List Value} (h : fits P t v = true) (hr : rel P x v c) : relV P x v (mkV v.isA c) :=
  ⟨c, rfl, hr, fits_one h hr⟩
theorem relV_bool {b : Bool} {v : Value} : relV P x (.bool b) v ↔ v = .bool b := by
  constructor
  · rintro ⟨c, rfl, h, _⟩
    simp only [rel] at h; subst h; rfl
  · rintro rfl; exact relV_leaf rfl rfl
theorem relV_int {k : IntKind} {n : Int} {v : Value} : relV P x (.int k n) v ↔ v = .int k n := by
  constructor
  · rintro ⟨c, rfl, h, _⟩
    simp only [rel] at h; subst h; rfl
  · rintro rfl; exact relV_leaf rfl rfl
theorem relV_str {s : List UInt8} {v : Value} : relV P x (.str s) v ↔ v = .string ⟨s.toArray⟩ := by
  constructor
  · rintro ⟨c, rfl, h, _⟩
    simp only [rel] at h; subst h; rfl
  · rintro rfl; exact relV_leaf rfl rfl
theorem relV_agg {t : TypeId} {ps : List AV} {v : Value} (h : relV P x (.agg t ps) v) : ∃ c : List Value, v = .agg c.toArray ∧ rel P x (.agg t ps) c := by
  obtain ⟨c, rfl, h, _⟩ := h
  exact ⟨c, rfl, h⟩
/-- A leaf that is one cell. -/
theorem relV_cell {a : AV} {v : Value} (hA : a.isA = false) (h : relV P x a v) : rel P x a [v] := by
  obtain ⟨c, rfl, h1, h2⟩ := h
  have hl := h2 hA
  rw [hA]
  match c, hl with
  | [u], _ => exact h1
theorem relVs_getD : ∀ {as : List AV} {vs : List Value}, relVs P x as vs → as.length = vs.length ∧ ∀ i, relV P x (as.getD i .dead) (vs.getD i undef)
  | [], vs, h => by simp only [relVs] at h; subst h; exact ⟨rfl, fun i => relV_dead _⟩
  | a :: as, vs, h => by
    obtain ⟨c, r, rfl, h1, h2, h3⟩ := h
    obtain ⟨k1, k2⟩ := relVs_getD h3
    refine ⟨by simp [k1], fun i => ?_⟩
    cases i with
    | zero => exact ⟨c, rfl, h1, h2⟩
    | succ i => simpa using k2 i
theorem relVs_append : ∀ {as bs : List AV} {vs us : List Value}, relVs P x as vs → relVs P x bs us → relVs P x (as ++ bs) (vs ++ us)
  | [], bs, vs, us, h, k => by simp only [relVs] at h; subst h; simpa using k
  | a :: as, bs, vs, us, h, k => by
    obtain ⟨c, r, rfl, h1, h2, h3⟩ := h
    exact ⟨c, r ++ us, by simp, h1, h2, relVs_append h3 k⟩
theorem relVs_cons {a : AV} {as : List AV} {v : Value} {vs : List Value} (h : relV P x a v) (k : relVs P x as vs) : relVs P x (a :: as) (v :: vs) := by
  obtain ⟨c, rfl, h1, h2⟩ := h
  exact ⟨c, vs, rfl, h1, h2, k⟩

theorem mergeV_eq (b : Bool) (u v : AV) : mergeV b u v = cond b u v := by
  unfold mergeV
  split
  · cases b <;> rfl
  · split
    · rename_i h; subst h; cases b <;> rfl
    · rfl
  · cases b <;> rfl
  · cases b <;> rfl
  · split
    · rename_i h; subst h; cases b <;> rfl
    · rfl
  · split
    · rename_i h; obtain ⟨rfl, rfl⟩ := h; cases b <;> rfl
    · rfl
  · rfl

/-! ### what an operation yields -/
/-- It returns, the world has only grown, and what it returns is as said. -/
def Yield (P : Program) (rows : List (Nat × Root)) (st : Nat → Nat → Prop) (w : World) (s : Sem Value) (v : AV) : Prop :=
  ∃ c w', s.run P w = .ok c w' ∧ Below w.heap.size w w' ∧ relV P ⟨rows, st, w', true⟩ v c
end
section
variable {P : Program} {rows : List (Nat × Root)} {st : Nat → Nat → Prop} {w : World}
theorem Yield.of {s : Sem Value} {v : AV} {c : Value} (h : s.run P w = .ok c w) (k : relV P (X.mk rows st w true) v c) : Yield P rows st w s v := ⟨c, w, h, Below.refl _ _, k⟩

theorem yield_intB {op : BinOp} {t : TypeId} {k k' : IntKind} {a b : Int} {v : AV} (hk : (op = .shl ∨ op = .shr) ∨ k = k') (h : intB op k a b = (true, v)) :
    Yield P rows st w (binOp op t (.int k a) (.int k' b)) v := by
  rcases hk with hk | rfl
  · rcases hk with rfl | rfl
    · simp only [intB, Prod.mk.injEq, decide_eq_true_eq] at h
      obtain ⟨h0, rfl⟩ := h
      exact .of (by simp [binOp, Op.shift, show ¬ b < 0 by omega]) (relV_int.2 rfl)
    · simp only [intB, Prod.mk.injEq, decide_eq_true_eq] at h
      obtain ⟨h0, rfl⟩ := h
      exact .of (by simp [binOp, Op.shift, show ¬ b < 0 by omega]) (relV_int.2 rfl)
  · cases op <;> simp only [intB, Prod.mk.injEq, true_and, decide_eq_true_eq, Bool.not_eq_true', beq_eq_false_iff_ne] at h
    case add => subst h; exact .of (by simp [binOp, Op.intArith]) (relV_int.2 rfl)
    case sub => subst h; exact .of (by simp [binOp, Op.intArith]) (relV_int.2 rfl)
    case mul => subst h; exact .of (by simp [binOp, Op.intArith]) (relV_int.2 rfl)
    case quo => obtain ⟨h0, rfl⟩ := h; exact .of (by simp [binOp, Op.intDiv, h0]) (relV_int.2 rfl)
    case rem => obtain ⟨h0, rfl⟩ := h; exact .of (by simp [binOp, Op.intDiv, h0]) (relV_int.2 rfl)
    case and => subst h; exact .of (by simp [binOp, Op.intBits]; rfl) (relV_int.2 rfl)
    case or => subst h; exact .of (by simp [binOp, Op.intBits]; rfl) (relV_int.2 rfl)
    case xor => subst h; exact .of (by simp [binOp, Op.intBits]; rfl) (relV_int.2 rfl)
    case andNot => subst h; exact .of (by rw [binOp_andNot]; rfl) (relV_int.2 rfl)
    case eql => subst h; exact .of (by simp [binOp, Op.intCmp]) (relV_bool.2 rfl)
    case neq => subst h; exact .of (by simp [binOp, Op.intCmp]) (relV_bool.2 rfl)
    case lss => subst h; exact .of (by simp [binOp, Op.intCmp]) (relV_bool.2 rfl)
    case leq => subst h; exact .of (by simp [binOp, Op.intCmp]) (relV_bool.2 rfl)
    case gtr => subst h; exact .of (by simp [binOp, Op.intCmp]) (relV_bool.2 rfl)
    case geq => subst h; exact .of (by simp [binOp, Op.intCmp]) (relV_bool.2 rfl)
    case shl =>
      obtain ⟨h0, rfl⟩ := h
      exact .of (by simp [binOp, Op.shift, show ¬ b < 0 by omega]) (relV_int.2 rfl)
    case shr =>
      obtain ⟨h0, rfl⟩ := h
      exact .of (by simp [binOp, Op.shift, show ¬ b < 0 by omega]) (relV_int.2 rfl)

theorem bytes_toList (s : List UInt8) : (ByteArray.mk s.toArray).toList = s := by rw [ByteArray.toList_eq]
theorem yield_strB {op : BinOp} {t : TypeId} {a b : List UInt8} {v : AV} (h : strB op a b = some (true, v)) :
    Yield P rows st w (binOp op t (.string ⟨a.toArray⟩) (.string ⟨b.toArray⟩)) v := by
  cases op <;> simp only [strB, Option.some.injEq, Prod.mk.injEq, true_and, decide_eq_true_eq, reduceCtorEq] at h
  case add =>
    obtain ⟨h0, rfl⟩ := h
    have h1 : ¬ (9223372036854775807 : Int) < (a.length : Int) + (b.length : Int) := by simp only [intMax64] at h0; omega
    refine .of (c := .string ⟨(a ++ b).toArray⟩) ?_ (relV_str.2 rfl)
    have e : (ByteArray.mk a.toArray ++ ByteArray.mk b.toArray) = ByteArray.mk (a ++ b).toArray := by
      apply ByteArray.ext
      simp
    simp [binOp, Op.stringOp, ByteArray.size, h1, e]
  case eql => subst h; exact .of (by simp [binOp, Op.stringOp, bytes_toList]) (relV_bool.2 rfl)
  case neq => subst h; exact .of (by simp [binOp, Op.stringOp, bytes_toList]) (relV_bool.2 rfl)

/-! ### == part by part -/
theorem run_part {x : X} {t : TypeId} {v : AV} {cs : Array Value} {pre c post : List Value} {off : Nat} (he : cs.toList = pre ++ c ++ post) (ho : pre.length = off) (hf : fits P t v = true) (hr : rel P x v c) (hl : c.length = P.cellsOf t) :
    (part t cs off).run P w = .ok (mkV v.isA c) w := by
  obtain ⟨d, hu⟩ := fits_under hf
  obtain ⟨i, hi⟩ := info_of_underlying hu
  have hA := fits_isA hf
  have hagg : (isAgg t).run P w = .ok (tyA P t) w := by
    unfold isAgg tyA
    rw [Sem.run_bind, run_underlying hu w, hu]
    cases d <;> rfl
  subst ho
  unfold part
  rw [Sem.run_bind, hagg, Result.andThen_ok]
  cases hA' : tyA P t with
  | true =>
    simp only [if_true, Sem.run_bind, run_sizeOf w hi, Result.andThen_ok, Sem.run_pure]
    rw [hA, hA']
    simp only [mkV, if_true]
    congr 2
    apply Array.ext'
    rw [Array.toList_extract, he, ← hl]
    simp [List.extract]
  | false =>
    have h1 := fits_one hf hr (by rw [hA, hA'])
    match c, h1 with
    | [u], _ =>
      have : cs[pre.length]? = some u := by
        rw [← Array.getElem?_toList, he]
        simp
      simp only [Bool.false_eq_true, if_false, this, Sem.run_pure]
      rw [hA, hA']
      rfl
theorem run_eq {x : X} : ∀ (n : Nat) (d : Nat) {t : TypeId} {a b : AV} {ca cb : List Value}, n ≤ d → eqAble P n t = true → fits P t a = true → fits P t b = true → rel P x a ca → rel P x b cb →
    (Op.equalIn d t (mkV a.isA ca) (mkV b.isA cb)).run P w = .ok (eqV a b) w
  | 0, _, t, a, b, ca, cb, _, h, _, _, _, _ => by simp [eqAble] at h
  | n + 1, 0, t, a, b, ca, cb, hd, _, _, _, _, _ => by omega
  | n + 1, d + 1, t, a, b, ca, cb, hd, h, fa, fb, ra, rb => by
    simp only [eqAble] at h
    split at h
    · rename_i hu
      have ha : ∃ p, a = .bool p := by cases a <;> simp_all [fits, leafOK, tyA]
      have hb : ∃ p, b = .bool p := by cases b <;> simp_all [fits, leafOK, tyA]
      obtain ⟨p, rfl⟩ := ha; obtain ⟨q, rfl⟩ := hb
      simp only [rel] at ra rb; subst ra; subst rb
      exact run_equalIn_bool w d t p q hu
    · rename_i k hu
      have ha : ∃ p, a = .int k p := by cases a <;> simp_all [fits, leafOK, tyA]
      have hb : ∃ p, b = .int k p := by cases b <;> simp_all [fits, leafOK, tyA]
      obtain ⟨p, rfl⟩ := ha; obtain ⟨q, rfl⟩ := hb
      simp only [rel] at ra rb; subst ra; subst rb
      exact run_equalIn_int w d t k k p q hu
    · rename_i hu
      have ha : ∃ p, a = .str p := by cases a <;> simp_all [fits, leafOK, tyA]
      have hb : ∃ p, b = .str p := by cases b <;> simp_all [fits, leafOK, tyA]
      obtain ⟨p, rfl⟩ := ha; obtain ⟨q, rfl⟩ := hb
      simp only [rel] at ra rb; subst ra; subst rb
      have := run_equalIn_string (P := P) w d t ⟨p.toArray⟩ ⟨q.toArray⟩ hu
      simpa [mkV, AV.isA, eqV, bytes_toList] using this
    · rename_i fs hu
      simp only [Bool.and_eq_true, Bool.not_eq_true'] at h
      obtain ⟨⟨hp, hoff⟩, hall⟩ := h
      obtain ⟨u, ps, rfl, _, _, hsa⟩ := struct_of hu fa ra
      obtain ⟨u', qs, rfl, _, _, hsb⟩ := struct_of hu fb rb
      have hfo : P.fieldsOf t = fs := by simp [Program.fieldsOf, hu]
      simp only [AV.isA, mkV, if_true]
      rw [run_equalIn_struct w d t ca.toArray cb.toArray (by rw [hfo]; exact hu) hp, hfo]
      simp only [eqV]
      have key : ∀ (fl : List Field) (ps qs : List AV) (pa pb cra crb : List Value) (o : Nat), pa.length = o → pb.length = o → ca = pa ++ cra → cb = pb ++ crb → offsGo P o fl = true → eqAbleL (eqAble P n) fl = true →
          relSt P x (fl.map (·.type)) ps cra → relSt P x (fl.map (·.type)) qs crb → (Op.eqFields d ca.toArray cb.toArray fl).run P w = .ok (eqVs ps qs) w := by
        intro fl
        induction fl with
        | nil =>
          intro ps qs pa pb cra crb o _ _ _ _ _ _ h1 h2
          cases ps with
          | cons => exact h1.elim
          | nil => cases qs with
            | cons => exact h2.elim
            | nil => simp [Op.eqFields, eqVs]
        | cons f fl ih =>
          intro ps qs pa pb cra crb o ho1 ho2 hca hcb hoff hall h1 h2
          cases ps with
          | nil => exact h1.elim
          | cons p ps => cases qs with
            | nil => exact h2.elim
            | cons q qs =>
              obtain ⟨c1, r1, rfl, m1, m2, m3, m4⟩ := h1
              obtain ⟨c2, r2, rfl, k1, k2, k3, k4⟩ := h2
              simp only [offsGo, Bool.and_eq_true] at hoff
              have hfo := Nat.eq_of_beq_eq_true hoff.1
              simp only [eqAbleL, Bool.and_eq_true, bne_iff_ne, ne_eq] at hall
              have e1 := run_part (w := w) (cs := ca.toArray) (pre := pa) (c := c1) (post := r1) (off := f.offset) (by simp [hca]) (by omega) m3 m1 m2
              have e2 := run_part (w := w) (cs := cb.toArray) (pre := pb) (c := c2) (post := r2) (off := f.offset) (by simp [hcb]) (by omega) k3 k1 k2
              have e3 := run_eq n d (by omega) hall.1.2 m3 k3 m1 k1
              simp only [Op.eqFields, hall.1.1, ne_eq, not_false_eq_true, if_true, Sem.run_bind, e1, e2, e3, Result.andThen_ok, eqVs]
              cases hq : eqV p q with
              | false => simp
              | true =>
                simp only [Bool.not_true, Bool.false_eq_true, if_false, Bool.true_and]
                exact ih ps qs (pa ++ c1) (pb ++ c2) r1 r2 (o + P.cellsOf f.type) (by simp [ho1, m2]) (by simp [ho2, k2]) (by simp [hca]) (by simp [hcb]) hoff.2 hall.2 m4 k4
      exact key fs.toList ps qs [] [] ca cb 0 rfl rfl rfl rfl hoff hall hsa hsb
    · rename_i m e hu
      obtain ⟨u, ps, rfl, _, _, hna, hsa⟩ := array_of hu fa ra
      obtain ⟨u', qs, rfl, _, _, hnb, hsb⟩ := array_of hu fb rb
      simp only [AV.isA, mkV, if_true, eqV]
      have hie : ∃ i, P.info? e = some i := by
        cases n with
        | zero => simp [eqAble] at h
        | succ n =>
          have : ∃ d, P.underlying e = some d := by
            cases hq : P.underlying e with
            | some d => exact ⟨d, rfl⟩
            | none => simp [eqAble, hq] at h
          exact info_of_underlying this.choose_spec
      obtain ⟨i, hi⟩ := hie
      rw [run_equalIn_array w d ca.toArray cb.toArray hu hi, List.range_eq_range']
      have key : ∀ (j k : Nat) (ps qs : List AV) (pa pb cra crb : List Value), ps.length = k → qs.length = k → pa.length = j * P.cellsOf e → pb.length = j * P.cellsOf e → ca = pa ++ cra → cb = pb ++ crb →
          relAr P x e ps cra → relAr P x e qs crb → (Op.eqItems d e (P.cellsOf e) ca.toArray cb.toArray (List.range' j k)).run P w = .ok (eqVs ps qs) w := by
        intro j k
        induction k generalizing j with
        | zero =>
          intro ps qs pa pb cra crb h1 h2 _ _ _ _ _ _
          have : ps = [] := List.eq_nil_of_length_eq_zero h1
          have : qs = [] := List.eq_nil_of_length_eq_zero h2
          subst ps; subst qs
          simp [Op.eqItems, eqVs]
        | succ k ih =>
          intro ps qs pa pb cra crb hp hq0 ho1 ho2 hca hcb h1 h2
          cases ps with
          | nil => simp at hp
          | cons p ps => cases qs with
            | nil => simp at hq0
            | cons q qs =>
              obtain ⟨c1, r1, rfl, m1, m2, m3, m4⟩ := h1
              obtain ⟨c2, r2, rfl, k1, k2, k3, k4⟩ := h2
              have e1 := run_part (w := w) (cs := ca.toArray) (pre := pa) (c := c1) (post := r1) (off := j * P.cellsOf e) (by simp [hca]) ho1 m3 m1 m2
              have e2 := run_part (w := w) (cs := cb.toArray) (pre := pb) (c := c2) (post := r2) (off := j * P.cellsOf e) (by simp [hcb]) ho2 k3 k1 k2
              have e3 := run_eq n d (by omega) h m3 k3 m1 k1
              simp only [List.range'_succ, Op.eqItems, Sem.run_bind, e1, e2, e3, Result.andThen_ok, eqVs]
              cases hq : eqV p q with
              | false => simp
              | true =>
                simp only [Bool.not_true, Bool.false_eq_true, if_false, Bool.true_and]
                exact ih (j + 1) ps qs (pa ++ c1) (pb ++ c2) r1 r2 (by simpa using hp) (by simpa using hq0) (by simp [ho1, m2, Nat.add_mul]) (by simp [ho2, k2, Nat.add_mul]) (by simp [hca]) (by simp [hcb]) m4 k4
      exact key 0 m ps qs [] [] ca cb hna hnb (by simp) (by simp) rfl rfl hsa hsb
    · exact absurd h (by simp)
end
end Go.AE

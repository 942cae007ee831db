/- Operations on values, joined: what 'popv' says is what they yield. -/
import Derived.Test.YtglfkdbfiipjjaaEv6
set_option linter.unusedVariables false
set_option linter.unusedSimpArgs false
namespace Go.AE
open Go.RowKit
section
variable {P : Program} {rows : List (Nat × Root)} {st : Nat → Nat → Prop} {w : World}

theorem neg_cases {op : BinOp} {b : Bool} {v : AV} (h : neg op b = some (true, v)) : (op = .eql ∧ v = .bool b) ∨ (op = .neq ∧ v = .bool (!b)) := by
  cases op <;> simp [neg] at h
  · exact .inl ⟨rfl, h.symm⟩
  · exact .inr ⟨rfl, h.symm⟩
theorem yield_neg {op : BinOp} {b : Bool} {v : AV} {t : TypeId} {ox oy : Operand} {cx cy : Value} (h : neg op b = some (true, v))
    (hg : (eqGuard op t ox oy cx cy).run P w = .ok () w) (he : (Op.equal t cx cy).run P w = .ok b w)
    (h1 : binOp .eql t cx cy = (do pure (.bool (← Op.equal t cx cy)))) (h2 : binOp .neq t cx cy = (do pure (.bool (!(← Op.equal t cx cy))))) :
    Yield P rows st w (do eqGuard op t ox oy cx cy; binOp op t cx cy) v := by
  rcases neg_cases h with ⟨rfl, rfl⟩ | ⟨rfl, rfl⟩
  · exact .of (c := .bool b) (by simp only [Sem.run_bind, hg, Result.andThen_ok, h1, he, Sem.run_pure]) (relV_bool.2 rfl)
  · exact .of (c := .bool (!b)) (by simp only [Sem.run_bind, hg, Result.andThen_ok, h2, he, Sem.run_pure]) (relV_bool.2 rfl)
theorem relV_nilp {v : Value} (h : relV P (X.mk rows st w true) .nilp v) : v = .pointer none := by
  have := relV_cell rfl h; simp only [rel, List.cons.injEq, and_true] at this; exact this
theorem relV_nilf {v : Value} (h : relV P (X.mk rows st w true) .nilf v) : v = .nilFunc := by
  have := relV_cell rfl h; simp only [rel, List.cons.injEq, and_true] at this; exact this
theorem relV_nili {v : Value} (h : relV P (X.mk rows st w true) .nili v) : v = .nilIface := by
  have := relV_cell rfl h; simp only [rel, List.cons.injEq, and_true] at this; exact this
theorem relV_ptr {r : Nat} {p : List Nat} {t : TypeId} {o : Nat} {v : Value} (h : relV P (X.mk rows st w true) (.ptr r p t o) v) : ∃ b root, rows[r]? = some (b, root) ∧ PathR P root p t o ∧ v = .pointer (some ⟨b, o, none⟩) := by
  obtain ⟨b, root, h1, h2, h3⟩ := relV_cell rfl h
  exact ⟨b, root, h1, h2, by simpa using h3⟩
theorem relV_rptr {t : TypeId} {u : AV} {v : Value} (h : relV P (X.mk rows st w true) (.rptr t u) v) : ∃ b o c, v = .pointer (some ⟨b, o, none⟩) ∧ rel P (X.imm (X.mk rows st w true)) u c ∧ c.length = P.cellsOf t ∧ fits P t u = true ∧ At (X.mk rows st w true) b o c := by
  obtain ⟨b, o, c, h1, h2⟩ := relV_cell rfl h
  exact ⟨b, o, c, by simpa using h1, h2⟩
theorem relV_func {fn : Fn} {f c : List AV} {v : Value} (h : relV P (X.mk rows st w true) (.func fn f c) v) : ∃ a b, v = .func fn a b ∧ relVs P (X.mk rows st w true) f a.toList ∧ relVs P (X.mk rows st w true) c b.toList := by
  obtain ⟨a, b, h1, h2⟩ := relV_cell rfl h
  exact ⟨a, b, by simpa using h1, h2⟩
theorem relV_iface {t : TypeId} {u : AV} {v : Value} (h : relV P (X.mk rows st w true) (.iface t u) v) : ∃ c, v = .iface t c ∧ relV P (X.mk rows st w true) u c ∧ fits P t u = true := by
  obtain ⟨c, h1, h2, h3, h4⟩ := relV_cell rfl h
  simp only [List.cons.injEq, and_true] at h4
  exact ⟨_, h4, ⟨c, rfl, h1, h3⟩, h2⟩
theorem relV_slice {e : TypeId} {l : List AV} {ex : Bool} {v : Value} (h : relV P (X.mk rows st w true) (.slice e l ex) v) : ∃ base len cap, v = .slice base len cap ∧ len = l.length ∧ len ≤ cap ∧ (ex = true → cap = len) ∧
      (len = 0 ∨ ∃ b o, base = some ⟨b, o, none⟩ ∧ relSl P (X.imm (X.mk rows st w true)) e b o l) := by
  obtain ⟨base, len, cap, h1, h2⟩ := relV_cell rfl h
  exact ⟨base, len, cap, by simpa using h1, h2⟩
theorem relV_msl {r : Nat} {p : List Nat} {e : TypeId} {off coff len : Nat} {v : Value} (h : relV P (X.mk rows st w true) (.msl r p e off coff len) v) :
    ∃ b root n o0, rows[r]? = some (b, root) ∧ PathC P root p e n o0 ∧ off + len ≤ n ∧ coff = o0 + off * P.cellsOf e ∧ ∃ base cap, len ≤ cap ∧ v = .slice base len cap ∧ (0 < len → base = some ⟨b, coff, none⟩) := by
  obtain ⟨_, b, root, n, o0, h1, h2, h3, h4, base, cap, h5, h6, h7⟩ := relV_cell rfl h
  exact ⟨b, root, n, o0, h1, h2, h3, h4, base, cap, h5, by simpa using h6, h7⟩
theorem relV_tuple {vs : List AV} {v : Value} (h : relV P (X.mk rows st w true) (.tuple vs) v) : ∃ a, v = .tuple a ∧ relVs P (X.mk rows st w true) vs a.toList := by
  obtain ⟨a, h1, h2⟩ := relV_cell rfl h
  exact ⟨a, by simpa using h1, h2⟩

theorem eq_at {t : TypeId} {d : TypeDesc} {cx cy : Value} {b : Bool} (hu : P.underlying t = some d)
    (h : ∀ n, ((do match d, cx, cy with
      | .pointer _, .pointer none, .pointer b => pure b.isNone
      | .pointer _, .pointer _, .pointer none => pure false
      | .func _ _ _, .nilFunc, .nilFunc => pure true
      | .func _ _ _, .nilFunc, .func _ _ _ | .func _ _ _, .func _ _ _, .nilFunc => pure false
      | .interface _, .nilIface, .iface _ _ | .interface _, .iface _ _, .nilIface => pure false
      | _, _, _ => stuck "" : Sem Bool)).run P n = .ok b n) : (Op.equal t cx cy).run P w = .ok b w := by
  have h := h w
  show (Op.equalIn (9999 + 1) t cx cy).run P w = _
  rw [Op.equalIn, Sem.run_bind, run_underlying hu, Result.andThen_ok]
  split at h
  case h_2 =>
    rename_i e p hx _
    cases p with
    | none => exact absurd rfl hx
    | some a => exact h w
  all_goals first | exact h | (simp at h; done)
theorem yield_binV {op : BinOp} {t : TypeId} {x y v : AV} {ox oy : Operand} {cx cy : Value} (h : binV P op t x y = some (true, v)) (hx : relV P (X.mk rows st w true) x cx) (hy : relV P (X.mk rows st w true) y cy) :
    Yield P rows st w (do eqGuard op t ox oy cx cy; binOp op t cx cy) v := by
  have drop : ∀ {s : Sem Value}, eqGuard op t ox oy cx cy = pure () → Yield P rows st w s v → Yield P rows st w (do eqGuard op t ox oy cx cy; s) v := by
    rintro s he ⟨c, w', h1, h2, h3⟩
    exact ⟨c, w', by simp only [Sem.run_bind, he, Sem.run_pure, Result.andThen_ok, h1], h2, h3⟩
  unfold binV at h
  split at h
  · rename_i k a k' b
    obtain rfl := relV_int.1 hx
    obtain rfl := relV_int.1 hy
    refine drop (eqGuard_at_int ..) ?_
    split at h
    · exact yield_intB (.inl (.inl rfl)) (Option.some.inj h)
    · exact yield_intB (.inl (.inr rfl)) (Option.some.inj h)
    · split at h
      · rename_i hk; exact yield_intB (.inr hk) (Option.some.inj h)
      · exact absurd h (by simp)
  · obtain rfl := relV_str.1 hx
    obtain rfl := relV_str.1 hy
    exact drop (eqGuard_at_string ..) (yield_strB h)
  · rename_i a b
    obtain rfl := relV_bool.1 hx
    obtain rfl := relV_bool.1 hy
    split at h
    · rename_i hu
      exact yield_neg h (by rw [eqGuard_at_bool]; rfl) (run_equalIn_bool w 9999 t a b hu) rfl rfl
    · exact absurd h (by simp)
  · rename_i u ps u' qs
    split at h
    · rename_i hc
      simp only [Bool.and_eq_true, Bool.not_eq_true'] at hc
      obtain ⟨⟨⟨⟨h1, h2⟩, h3⟩, h4⟩, h5⟩ := hc
      obtain ⟨ca, rfl, ra⟩ := relV_agg hx
      obtain ⟨cb, rfl, rb⟩ := relV_agg hy
      refine yield_neg h (run_eqGuard_agg w op t ox oy _ _ h5) ?_ rfl rfl
      exact run_eq 20 10000 (by omega) h4 (by simp [fits, h1, h3]) (by simp [fits, h2, h3]) ra rb
    · exact absurd h (by simp)
  · obtain rfl := relV_nilp hx
    obtain rfl := relV_nilp hy
    split at h
    · rename_i hu
      exact yield_neg h (by rw [eqGuard_at_pointer]; rfl) (eq_at hu (fun n => rfl)) rfl rfl
    · exact absurd h (by simp)
  · obtain ⟨b, root, _, _, rfl⟩ := relV_ptr hx
    obtain rfl := relV_nilp hy
    split at h
    · rename_i hu
      exact yield_neg h (by rw [eqGuard_at_pointer]; rfl) (eq_at hu (fun n => rfl)) rfl rfl
    · exact absurd h (by simp)
  · obtain rfl := relV_nilp hx
    obtain ⟨b, root, _, _, rfl⟩ := relV_ptr hy
    split at h
    · rename_i hu
      exact yield_neg h (by rw [eqGuard_at_pointer]; rfl) (eq_at hu (fun n => rfl)) rfl rfl
    · exact absurd h (by simp)
  · obtain ⟨b, o, c, rfl, _⟩ := relV_rptr hx
    obtain rfl := relV_nilp hy
    split at h
    · rename_i hu
      exact yield_neg h (by rw [eqGuard_at_pointer]; rfl) (eq_at hu (fun n => rfl)) rfl rfl
    · exact absurd h (by simp)
  · obtain rfl := relV_nilp hx
    obtain ⟨b, o, c, rfl, _⟩ := relV_rptr hy
    split at h
    · rename_i hu
      exact yield_neg h (by rw [eqGuard_at_pointer]; rfl) (eq_at hu (fun n => rfl)) rfl rfl
    · exact absurd h (by simp)
  · obtain rfl := relV_nilf hx
    obtain ⟨a, b, rfl, _⟩ := relV_func hy
    split at h
    · rename_i hu
      exact yield_neg h (by rw [eqGuard_at_nilFunc]; rfl) (eq_at hu (fun n => rfl)) rfl rfl
    · exact absurd h (by simp)
  · obtain rfl := relV_nilf hy
    obtain ⟨a, b, rfl, _⟩ := relV_func hx
    split at h
    · rename_i hu
      exact yield_neg h (by rw [eqGuard_at_func]; rfl) (eq_at hu (fun n => rfl)) rfl rfl
    · exact absurd h (by simp)
  · obtain rfl := relV_nilf hx
    obtain rfl := relV_nilf hy
    split at h
    · rename_i hu
      exact yield_neg h (by rw [eqGuard_at_nilFunc]; rfl) (eq_at hu (fun n => rfl)) rfl rfl
    · exact absurd h (by simp)
  · obtain ⟨c, rfl, _⟩ := relV_iface hx
    obtain rfl := relV_nili hy
    split at h
    · rename_i hu
      exact yield_neg h (by rw [eqGuard_at_iface]; rfl) (eq_at hu (fun n => rfl)) rfl rfl
    · exact absurd h (by simp)
  · obtain ⟨c, rfl, _⟩ := relV_iface hy
    obtain rfl := relV_nili hx
    split at h
    · rename_i hu
      exact yield_neg h (by rw [eqGuard_nil_iface]; rfl) (eq_at hu (fun n => rfl)) rfl rfl
    · exact absurd h (by simp)
  · exact absurd h (by simp)

theorem yield_unV {op : UnOp} {x v : AV} {cx : Value} (h : unV op x = some v) (hx : relV P (X.mk rows st w true) x cx) : Yield P rows st w (Op.unary op cx) v := by
  unfold unV at h
  split at h
  · obtain rfl := relV_int.1 hx
    obtain rfl := Option.some.inj h
    exact .of (by simp [Op.unary, Op.intArith]) (relV_int.2 rfl)
  · obtain rfl := relV_int.1 hx
    obtain rfl := Option.some.inj h
    exact .of (by simp only [Op.unary, Op.intBits]; rfl) (relV_int.2 rfl)
  · obtain rfl := relV_bool.1 hx
    obtain rfl := Option.some.inj h
    exact .of (by simp [Op.unary]) (relV_bool.2 rfl)
  · exact absurd h (by simp)

/-! ### parts -/
theorem fieldOf_some {s : TypeId} {k : Nat} {ft : TypeId} {fo : Nat} (h : fieldOf P s k = some (ft, fo)) : ∃ fs f, P.underlying s = some (.struct fs) ∧ fs[k]? = some f ∧ f.type = ft ∧ f.offset = fo := by
  unfold fieldOf at h
  split at h
  · rename_i fs hu
    split at h
    · rename_i f hf
      simp only [Option.some.injEq, Prod.mk.injEq] at h
      exact ⟨fs, f, hu, hf, h.1, h.2⟩
    · exact absurd h (by simp)
  · exact absurd h (by simp)
theorem isNilS_eval {y : Operand} (h : isNilS y = true) (a : Act) : a.eval y = .slice none 0 0 := by
  unfold isNilS at h
  split at h
  · rfl
  · exact absurd h (by simp)
theorem isNilM_eval {y : Operand} (h : isNilM y = true) (a : Act) : a.eval y = .map none := by
  unfold isNilM at h
  split at h
  · rfl
  · exact absurd h (by simp)
theorem neg_fst {op : BinOp} {b c : Bool} {v : AV} (h : neg op b = some (c, v)) : c = true := by
  unfold neg at h
  split at h <;> simp_all
theorem eq_nilS (d : Nat) {t e : TypeId} {a : Option Addr} {n c : Nat} (hu : P.underlying t = some (.slice e)) : (Op.equalIn (d + 1) t (.slice a n c) (.slice none 0 0)).run P w = .ok a.isNone w := by
  cases a <;> simp [Op.equalIn, run_underlying hu]
theorem eq_nilM (d : Nat) {t k e : TypeId} {r : Option Nat} (hu : P.underlying t = some (.map k e)) : (Op.equalIn (d + 1) t (.map r) (.map none)).run P w = .ok r.isNone w := by
  cases r <;> simp [Op.equalIn, run_underlying hu]
theorem yield_nilCmp {op : BinOp} {t : TypeId} {x v : AV} {y ox oy : Operand} {cx : Value} {a : Act} (h : nilCmp P op t x y = some (true, v)) (hx : relV P (X.mk rows st w true) x cx) :
    Yield P rows st w (do eqGuard op t ox oy cx (a.eval y); binOp op t cx (a.eval y)) v := by
  unfold nilCmp at h
  split at h
  · rename_i hy
    rw [isNilS_eval hy]
    split at h
    · rename_i e e' l ex hu
      split at h
      · rename_i c v' hn
        simp only [Option.some.injEq, Prod.mk.injEq, decide_eq_true_eq] at h
        obtain ⟨hpos, rfl⟩ := h
        obtain rfl := neg_fst hn
        obtain ⟨base, len, cap, rfl, rfl, _, _, h5⟩ := relV_slice hx
        rcases h5 with h5 | ⟨b, o, rfl, h5⟩
        · omega
        · exact yield_neg hn (by rw [eqGuard_at_slice]; rfl) (eq_nilS 9999 hu) rfl rfl
      · exact absurd h (by simp)
    · rename_i e r p e' off coff n hu
      split at h
      · rename_i c v' hn
        simp only [Option.some.injEq, Prod.mk.injEq, decide_eq_true_eq] at h
        obtain ⟨hpos, rfl⟩ := h
        obtain rfl := neg_fst hn
        obtain ⟨b, root, n0, o0, m1, m2, m3, m4, base, cap, m5, rfl, m6⟩ := relV_msl hx
        obtain rfl := m6 hpos
        exact yield_neg hn (by rw [eqGuard_at_slice]; rfl) (eq_nilS 9999 hu) rfl rfl
      · exact absurd h (by simp)
    · exact absurd h (by simp)
  · split at h
    · rename_i hy
      rw [isNilM_eval hy]
      split at h
      · rename_i k e r hu
        cases r with
        | none =>
          have := relV_cell rfl hx
          simp only [rel, List.cons.injEq, and_true] at this
          subst this
          exact yield_neg h (by rw [eqGuard_at_map]; rfl) (eq_nilM 9999 hu) rfl rfl
        | some r =>
          obtain ⟨b, k', e', _, h2⟩ := relV_cell rfl hx
          simp only [List.cons.injEq, and_true] at h2
          subst h2
          exact yield_neg h (by rw [eqGuard_at_map]; rfl) (eq_nilM 9999 hu) rfl rfl
      · exact absurd h (by simp)
    · exact absurd h (by simp)
theorem yield_fieldV {s : TypeId} {x v : AV} {k : Nat} {cx : Value} (h : fieldV P s x k = some v) (hx : relV P (X.mk rows st w true) x cx) : Yield P rows st w (Instr.field s cx k) v := by
  unfold fieldV at h
  split at h
  · rename_i t ps ft fo hf
    obtain ⟨fs, f, hu, hk, rfl, rfl⟩ := fieldOf_some hf
    split at h
    · rename_i hc
      simp only [Bool.and_eq_true] at hc
      obtain rfl := Option.some.inj h
      obtain ⟨c, rfl, hr⟩ := relV_agg hx
      have hr := (rel_struct hr ((like_under hc.1).trans hu)).2
      obtain ⟨pre, c1, post, rfl, h2, h3, h4, h5, _⟩ := relSt_get k f.type hr (fieldT hk)
      have ho := Nat.eq_of_beq_eq_true hc.2
      have e1 := run_part (w := w) (cs := (pre ++ c1 ++ post).toArray) (pre := pre) (c := c1) (post := post) (off := f.offset) (by simp) (by rw [h2, ← ho, sizesTo_eq hu]) h5 h3 h4
      exact .of (by simp only [Instr.field, Sem.run_bind, run_underlying hu, Result.andThen_ok, hk, asAgg, Sem.run_pure, e1]) (relV_eta (fun h => absurd h (by simp)) h5 (relV_of h5 h3))
    · exact absurd h (by simp)
  · exact absurd h (by simp)
end
end Go.AE

/- Who may append: moves and assignments. -/
import Derived.Test.YtglfkdbfiipjjaaEv14
set_option linter.unusedVariables false
set_option linter.unusedSimpArgs false
namespace Go.AE
open Go.RowKit Go.Lib
section
variable {E : Env} {d : Nat} {g : G} {fr : Fr} {M : Mm} {a : Act} {w : World}

theorem flagOf_mem {t : Nat} {f : TF} : ∀ {tf : List (Nat × TF)}, flagOf t tf = some f → (t, f) ∈ tf
  | [], h => by simp [flagOf] at h
  | (i, f') :: r, h => by
    simp only [flagOf] at h
    split at h
    · rename_i hi
      obtain rfl := Option.some.inj h
      rw [Nat.eq_of_beq_eq_true hi]
      exact List.mem_cons_self
    · exact List.mem_cons_of_mem _ (flagOf_mem h)
theorem put_self (a : Act) (s : Nat) : a.put (some s) (a.tmps.getD s undef) = a := by
  have : a.tmps.setIfInBounds s (a.tmps.getD s undef) = a.tmps := by
    apply Array.ext
    · simp
    · intro i h1 h2
      by_cases hi : s = i
      · subst hi; simp [h2]
      · rw [Array.getElem_setIfInBounds_ne (by simpa using h2) hi]
  simp only [Act.put, this]
theorem beq_false {a b : Nat} (h : ¬ Nat.beq a b = true) : a ≠ b := fun e => h (by subst e; simp)
theorem blt_len {E : Env} {d : Nat} {g : G} {fr : Fr} {M : Mm} {a : Act} {w : World} (h : Rel E d g fr M a w) {t : Nat} (ht : t < fr.tmps.length) (c : Value) : (a.put (some t) c).tmps.getD t undef = c := by
  show (a.tmps.setIfInBounds t c).getD t undef = c
  rw [getD_setA, if_pos ⟨rfl, by rw [h.size]; exact ht⟩]
theorem put_ne {a : Act} {t s : Nat} (ht : s ≠ t) (c : Value) : (a.put (some t) c).tmps.getD s undef = a.tmps.getD s undef := by
  show (a.tmps.setIfInBounds t c).getD s undef = _
  rw [getD_setA, if_neg (fun k => ht k.1.symm)]
theorem setT_self {l : List AV} {t : Nat} (ht : t < l.length) (v : AV) : (l.set t v).getD t .dead = v := by rw [getD_setL, if_pos ⟨rfl, ht⟩]
theorem setT_ne {l : List AV} {t s : Nat} (ht : s ≠ t) (v : AV) : (l.set t v).getD s .dead = l.getD s .dead := by rw [getD_setL, if_neg (fun k => ht k.1.symm)]
/-- The flag of a copy holds of the copy. -/
theorem Rel.setCopy (h : Rel E d g fr M a w) {s t : Nat} (hs : s ≠ t) {e : TypeId} {l : List AV} {ex : Bool} (hv : fr.tmps.getD s .dead = .slice e l ex) :
    Rel E d g (fr.setF (some t) (.slice e l ex) (copyFlag s t fr.tf)) M (a.put (some t) (a.tmps.getD s undef)) w := by
  have hvs : relV E.P (xOf E g w) (.slice e l ex) (a.tmps.getD s undef) := hv ▸ h.tmps s
  have hset := h.set (some t) hvs
  unfold Fr.setF copyFlag
  split
  · rename_i t' fl _ hfl hfl2
    simp only [Option.some.injEq] at hfl
    subst hfl
    split
    · rename_i hlt
      have hlt : t < fr.tmps.length := Nat.blt_eq.mp hlt
      have ht : (fr.set (some t) (.slice e l ex)).tmps.getD t .dead = .slice e l ex := setT_self hlt _
      have hts : (fr.set (some t) (.slice e l ex)).tmps.getD s .dead = .slice e l ex := (setT_ne hs _).trans hv
      have hc := blt_len h hlt (a.tmps.getD s undef)
      have hcs := put_ne (a := a) hs (a.tmps.getD s undef)
      revert hfl2
      cases hf : flagOf s fr.tf with
      | none => intro k; cases k
      | some f =>
        have hm := flagOf_mem hf
        cases f with
        | own =>
          intro k; cases k
          exact hset.flagT ht hts (mem_dropT_of hm hs (by simp)) (hc.trans hcs.symm)
        | viaT u =>
          intro k
          by_cases hu : u = t
          · subst hu; simp at k
          · simp only [show ¬ Nat.beq u t = true from fun e => hu (Nat.eq_of_beq_eq_true e), Bool.false_eq_true, if_false, Option.some.injEq] at k
            subst k
            obtain ⟨k1, k2, e1, l1, ex1, l2, ex2, k3, k4⟩ := h.viaT s u hm
            rw [hv] at k3
            cases k3
            exact hset.flagT ht ((setT_ne hu _).trans k4) (mem_dropT_of k1 hu (by simp)) (hc.trans (k2.trans (put_ne hu _).symm))
        | viaR r p =>
          intro k; cases k
          obtain ⟨k1, e1, l1, ex1, k2, b, root, ty, off, k3, k4, k5, k6⟩ := h.viaR s r p hm
          rw [hv] at k2
          cases k2
          exact hset.flagR ht k1 k3 k4 k5 (hc.symm ▸ k6)
    · exact hset
  · exact hset
theorem Rel.move (h : Rel E d g fr M a w) (dst : Option Nat) (t : TypeId) (x : Operand) : Rel E d g (fr.move E.P dst t x) M (a.put dst (a.eval x)) w := by
  have hset := h.set dst (h.opnd t x)
  unfold Fr.move
  generalize hv : AE.opnd E.P fr.tmps t x = v at hset
  cases v with
  | slice e l ex =>
    cases x with
    | tmp s =>
      cases dst with
      | none => exact hset
      | some d' =>
        show Rel E d g (if Nat.beq s d' then fr else fr.setF (some d') (.slice e l ex) (copyFlag s d' fr.tf)) M (a.put (some d') (a.tmps.getD s undef)) w
        split
        · rename_i hs
          rw [← Nat.eq_of_beq_eq_true hs, put_self]
          exact h
        · rename_i hs
          exact h.setCopy (beq_false hs) hv
    | const c => exact hset
    | global i => exact hset
    | func f => exact hset
  | _ => exact hset
theorem Rel.drop (h : Rel E d g fr M a w) (s : Nat) : Rel E d g { fr with tf := dropT s fr.tf } M a w := by
  refine ⟨h.below, h.hN, h.fresh, h.size, h.tmps, h.lenr, h.rows, h.inj, fun i hi => h.own i (mem_dropT hi).1, fun i s' hi => ?_, fun i r p hi => h.viaR i r p (mem_dropT hi).1, h.ro⟩
  obtain ⟨k1, k2, k3⟩ := mem_dropT hi
  obtain ⟨m1, m2⟩ := h.viaT i s' k1
  exact ⟨mem_dropT_of m1 (fun e => k3 (by rw [e])) (by simp), m2⟩
theorem not_dropT (s : Nat) (tf : List (Nat × TF)) : (s, TF.own) ∉ dropT s tf := fun h => (mem_dropT h).2.1 rfl
theorem slice_weak {P : Program} {x : X} {e : TypeId} {l : List AV} {ex : Bool} {c : Value} (h : relV P x (.slice e l ex) c) : relV P x (.slice e l false) c := by
  obtain ⟨cs, rfl, ⟨base, len, cap, rfl, h1, h2, h3, h4⟩, h5⟩ := h
  have : rel P x (.slice e l false) [.slice base len cap] := ⟨base, len, cap, rfl, h1, h2, fun k => absurd k (by simp), h4⟩
  exact relV_leaf this rfl
theorem slice_exact {E : Env} {g : G} {w : World} {x : X} {e : TypeId} {l : List AV} {c : Value} (h : relV E.P x (.slice e l true) c) (o : Onr) : OwnC E g w o e c := by
  obtain ⟨cs, rfl, ⟨base, len, cap, rfl, h1, h2, h3, h4⟩, h5⟩ := h
  exact ⟨base, len, cap, rfl, .inl (h3 rfl)⟩
/-- One temporary hands over to another. -/
theorem Rel.handT (h : Rel E d g fr M a w) {u t s : Nat} (hlt : t < fr.tmps.length) {e : TypeId} {l l' : List AV} {ex ex' : Bool} (hm : (u, TF.own) ∈ fr.tf) (hut : u ≠ t) (hst : s ≠ t)
    (hu : fr.tmps.getD u .dead = .slice e l' ex') (hv : fr.tmps.getD s .dead = .slice e l ex) (hsu : a.tmps.getD s undef = a.tmps.getD u undef) :
    ∃ g', Ext E d g w g' w ∧ Rel E d g' { tmps := fr.tmps.set t (.slice e l ex), tf := (u, .viaT t) :: (t, .own) :: dropT t (dropT u fr.tf) } M (a.put (some t) (a.tmps.getD s undef)) w := by
  obtain ⟨e1, l1, ex1, k1, k2⟩ := h.own u hm
  rw [hu] at k1
  cases k1
  obtain ⟨g', h1, hx, hr, ho⟩ := (h.drop u).reown (.t d t) k2 (fun t' e => by cases e; exact not_dropT u fr.tf) (fun r p e => by cases e) (fun d' i e => by cases e; omega)
  have hvs : relV E.P (xOf E g' w) (.slice e l ex) (a.tmps.getD s undef) := hv ▸ h1.tmps s
  have hset := h1.set (some t) hvs
  have hc := blt_len h hlt (a.tmps.getD s undef)
  have h2 := hset.flagOwn (setT_self hlt _) (by rw [hc, hsu]; exact ho)
  exact ⟨g', hx, h2.flagT (t := u) (s := t) ((setT_ne hut _).trans hu) (setT_self hlt _) List.mem_cons_self (by rw [hc, hsu]; exact put_ne hut _)⟩
theorem Rel.assign (h : Rel E d g fr M a w) (dst : Option Nat) (t : TypeId) (x : Operand) : ∃ g', Ext E d g w g' w ∧ Rel E d g' (fr.assign E.P dst t x) M (a.put dst (a.eval x)) w := by
  have hop := h.opnd t x
  have hset := h.set dst hop
  have hE := Ext.refl E d g w
  unfold Fr.assign
  generalize hv : AE.opnd E.P fr.tmps t x = v at hset hop
  cases v with
  | slice e l ex =>
    cases dst with
    | none => cases ex <;> cases x <;> exact ⟨g, hE, hset⟩
    | some d' =>
      cases ex with
      | true =>
        refine ⟨g, hE, ?_⟩
        have hset := h.set (some d') (slice_weak hop)
        show Rel E d g (fr.setF (some d') (.slice e l false) (some .own)) M _ w
        unfold Fr.setF
        simp only
        split
        · rename_i hlt
          have hlt := Nat.blt_eq.mp hlt
          exact hset.flagOwn (setT_self hlt _) (by rw [blt_len h hlt]; exact slice_exact hop _)
        · exact hset
      | false =>
        cases x with
        | const c => exact ⟨g, hE, hset⟩
        | global i => exact ⟨g, hE, hset⟩
        | func f => exact ⟨g, hE, hset⟩
        | tmp s =>
          have hv : fr.tmps.getD s .dead = .slice e l false := hv
          show ∃ g', _ ∧ Rel E d g' (if Nat.beq s d' then fr else if Nat.ble fr.tmps.length d' then _ else _) M (a.put (some d') (a.tmps.getD s undef)) w
          by_cases hsd : Nat.beq s d' = true
          · rw [if_pos hsd, ← Nat.eq_of_beq_eq_true hsd, put_self]
            exact ⟨g, hE, h⟩
          · rw [if_neg hsd]
            have hsd := beq_false hsd
            by_cases hlt : Nat.ble fr.tmps.length d' = true
            · rw [if_pos hlt]
              exact ⟨g, hE, hset⟩
            · rw [if_neg hlt]
              have hlt : d' < fr.tmps.length := Nat.lt_of_not_le fun k => hlt (Nat.ble_eq.mpr k)
              cases hf : flagOf s fr.tf with
              | none => exact ⟨g, hE, hset⟩
              | some f =>
                have hm := flagOf_mem hf
                cases f with
                | own => exact h.handT hlt hm hsd hsd hv hv rfl
                | viaT u =>
                  simp only
                  split
                  · exact ⟨g, hE, hset⟩
                  · rename_i hu
                    simp only [Bool.or_eq_true, not_or] at hu
                    have hsu := beq_false hu.2
                    have hu := beq_false hu.1
                    obtain ⟨k1, k2, e1, l1, ex1, l2, ex2, k3, k4⟩ := h.viaT s u hm
                    rw [hv] at k3
                    cases k3
                    obtain ⟨g', hx, hr⟩ := (h.drop s).handT (u := u) hlt (mem_dropT_of k1 (Ne.symm hsu) (by simp)) hu hsd k4 hv k2
                    exact ⟨g', hx, hr.flagT ((setT_ne hsd _).trans hv) (setT_self hlt _) (List.mem_cons_of_mem _ List.mem_cons_self) (by rw [blt_len h hlt]; exact put_ne hsd _)⟩
                | viaR r p =>
                  obtain ⟨k1, e1, l1, ex1, k2, b, root, ty, off, k3, k4, k5, k6⟩ := h.viaR s r p hm
                  rw [hv] at k2
                  cases k2
                  exact ⟨g, hE, hset.flagR (setT_self hlt _) k1 k3 k4 k5 (by rw [blt_len h hlt]; exact k6)⟩
  | _ => cases dst <;> exact ⟨g, hE, hset⟩
end
end Go.AE

/- Trees: what 'merge' says is what is known at the leaf that is reached. -/
import Derived.Test.YtglfkdbfiipjjaaEv22
set_option linter.unusedVariables false
set_option linter.unusedSimpArgs false
namespace Go.AE
open Go.RowKit Go.Lib

def T.All (p : List AV → Prop) : T → Prop
  | .fail => True
  | .leaf tm => p tm
  | .br b x y => x.All p ∧ y.All p
/-- The same, place by place. -/
def Same (x y : List AV) : Prop := x.length = y.length ∧ ∀ i : Nat, x.getD i .dead = y.getD i .dead
/-- The same but at these places. -/
def Out (D : List Nat) (base tm : List AV) : Prop := tm.length = base.length ∧ ∀ i : Nat, i ∉ D → tm.getD i .dead = base.getD i .dead
theorem Out.refl (D : List Nat) (base : List AV) : Out D base base := ⟨rfl, fun _ _ => rfl⟩
theorem Out.set {D : List Nat} {base tm : List AV} (h : Out D base tm) {t : Nat} (ht : t ∈ D) (v : AV) : Out D base (tm.set t v) :=
  ⟨by simpa using h.1, fun i hi => (setT_ne (fun e => hi (by rw [e]; exact ht)) v).trans (h.2 i hi)⟩
theorem Out.setO {D : List Nat} {base tm : List AV} (h : Out D base tm) {dst : Option Nat} (ht : ∀ t, dst = some t → t ∈ D) (v : AV) : Out D base (setO tm dst v) := by
  cases dst with
  | none => exact h
  | some t => exact h.set (ht t rfl) v
theorem mergeAt_len (b : Bool) (x y : List AV) : ∀ (D : List Nat) (base : List AV), (mergeAt b x y D base).length = base.length
  | [], base => rfl
  | d :: D, base => by rw [mergeAt, mergeAt_len b x y D]; simp
theorem mergeAt_get (b : Bool) (x y : List AV) : ∀ (D : List Nat) (base : List AV) (i : Nat), (mergeAt b x y D base).getD i .dead = base.getD i .dead ∨ (i ∈ D ∧ i < base.length ∧ (mergeAt b x y D base).getD i .dead = cond b (x.getD i .dead) (y.getD i .dead))
  | [], base, i => .inl rfl
  | d :: D, base, i => by
    rw [mergeAt]
    rcases mergeAt_get b x y D (base.set d (mergeV b (x.getD d .dead) (y.getD d .dead))) i with h | ⟨h1, h2, h3⟩
    · rw [h, getD_setL]
      split
      · rename_i hc
        obtain ⟨rfl, hl⟩ := hc
        exact .inr ⟨List.mem_cons_self, hl, mergeV_eq _ _ _⟩
      · exact .inl rfl
    · exact .inr ⟨List.mem_cons_of_mem _ h1, by simpa using h2, h3⟩
theorem mergeAt_in (b : Bool) (x y : List AV) : ∀ (D : List Nat) (base : List AV) (i : Nat), i ∈ D → i < base.length → (mergeAt b x y D base).getD i .dead = cond b (x.getD i .dead) (y.getD i .dead)
  | [], base, i, h, _ => by simp at h
  | d :: D, base, i, h, hl => by
    rw [mergeAt]
    by_cases hD : i ∈ D
    · exact mergeAt_in b x y D _ i hD (by simpa using hl)
    · have hi : i = d := (List.mem_cons.1 h).resolve_right hD
      subst hi
      rcases mergeAt_get b x y D (base.set i (mergeV b (x.getD i .dead) (y.getD i .dead))) i with h | ⟨h1, _, _⟩
      · rw [h, setT_self hl, mergeV_eq]
      · exact absurd h1 hD
/-- A tree whose leaves are the same outside D. -/
theorem condB_eq (b x y : Bool) : condB b x y = cond b x y := by cases b <;> cases x <;> cases y <;> rfl
theorem merge_at {D : List Nat} {base : List AV} : ∀ {t : T} {o : Bool} {tm' : List AV}, t.All (Out D base) → t.merge D = some (o, tm') → Out D base tm' ∧ (o = true → ∃ res, t.at = some res ∧ Same res tm')
  | .fail, o, tm', _, h => by simp [T.merge] at h
  | .leaf tm, o, tm', ha, h => by
    simp only [T.merge, Option.some.injEq, Prod.mk.injEq] at h
    obtain ⟨rfl, rfl⟩ := h
    exact ⟨ha, fun _ => ⟨tm, rfl, rfl, fun _ => rfl⟩⟩
  | .br b x y, o, tm', ⟨ha1, ha2⟩, h => by
    unfold T.merge at h
    split at h
    · exact absurd h (by simp)
    · rename_i o1 t1 h1 h2
      simp only [Option.some.injEq, Prod.mk.injEq] at h
      obtain ⟨rfl, rfl⟩ := h
      obtain ⟨k1, k2⟩ := merge_at ha1 h1
      refine ⟨k1, fun ho => ?_⟩
      cases b
      · simp at ho
      · exact k2 (by simpa using ho)
    · rename_i o1 t1 h1 h2
      simp only [Option.some.injEq, Prod.mk.injEq] at h
      obtain ⟨rfl, rfl⟩ := h
      obtain ⟨k1, k2⟩ := merge_at ha2 h2
      refine ⟨k1, fun ho => ?_⟩
      cases b
      · exact k2 (by simpa using ho)
      · simp at ho
    · rename_i o1 t1 o2 t2 h1 h2
      simp only [Option.some.injEq, Prod.mk.injEq, condB_eq] at h
      obtain ⟨rfl, rfl⟩ := h
      obtain ⟨k1, k2⟩ := merge_at ha1 h1
      obtain ⟨m1, m2⟩ := merge_at ha2 h2
      refine ⟨⟨(mergeAt_len _ _ _ _ _).trans k1.1, fun i hi => ?_⟩, fun ho => ?_⟩
      · rcases mergeAt_get b t1 t2 D t1 i with h | ⟨h, _⟩
        · rw [h]; exact k1.2 i hi
        · exact absurd h hi
      · cases b with
        | true =>
          obtain ⟨res, j1, j2, j3⟩ := k2 (by simpa using ho)
          refine ⟨res, j1, by rw [mergeAt_len]; exact j2, fun i => ?_⟩
          rw [j3]
          rcases mergeAt_get true t1 t2 D t1 i with h | ⟨_, _, h⟩
          · exact h.symm
          · rw [h]; rfl
        | false =>
          obtain ⟨res, j1, j2, j3⟩ := m2 (by simpa using ho)
          refine ⟨res, j1, by rw [mergeAt_len, j2, m1.1, k1.1], fun i => ?_⟩
          rw [j3]
          by_cases hD : i ∈ D
          · by_cases hl : i < t1.length
            · rw [mergeAt_in false t1 t2 D t1 i hD hl]; rfl
            · have e1 : t2.getD i .dead = .dead := by rw [List.getD, List.getElem?_eq_none (by rw [m1.1, ← k1.1]; omega)]; rfl
              have e2 : (mergeAt false t1 t2 D t1).getD i .dead = .dead := by rw [List.getD, List.getElem?_eq_none (by rw [mergeAt_len]; omega)]; rfl
              rw [e1, e2]
          · rcases mergeAt_get false t1 t2 D t1 i with h | ⟨h, _⟩
            · rw [h, m1.2 i hD, k1.2 i hD]
            · exact absurd h hD
section
variable {cx : Ctx} {M : Mm}
theorem dsts_tail {o : Oper} {l : List Oper} {t : Nat} (h : t ∈ dstsOf l) : t ∈ dstsOf (o :: l) := by
  simp only [dstsOf]
  split
  · exact List.mem_cons_of_mem _ h
  · exact h
theorem dsts_head {o : Oper} {l : List Oper} {t : Nat} (h : o.dst = some t) : t ∈ dstsOf (o :: l) := by simp [dstsOf, h]
theorem guards_tail {ops : Array Oper} {o : Oper} {l : List Oper} {t : Nat} (h : t ∈ guardsOf ops l) : t ∈ guardsOf ops (o :: l) := by
  simp only [guardsOf]
  split
  · split
    · exact List.mem_cons_of_mem _ h
    · exact h
  · exact h
theorem guards_head {ops : Array Oper} {o : Oper} {l : List Oper} {j g : Nat} {want : Bool} (h : o.guard = some (j, want)) (hg : guardT ops j = some g) : g ∈ guardsOf ops (o :: l) := by simp [guardsOf, h, hg]
theorem opsT_all {ops : Array Oper} {D : List Nat} {base : List AV} {p : List AV → Prop} {k : List AV → T} (hk : ∀ tm, Out D base tm → (k tm).All p) : ∀ (l : List Oper) (tm : List AV), (∀ t ∈ dstsOf l, t ∈ D) → (∀ t ∈ guardsOf ops l, t ∈ D) → Out D base tm → (opsT cx M ops l tm k).All p
  | [], tm, _, _, h => hk tm h
  | o :: l, tm, hd, hg, h => by
    have hdst : ∀ t, o.dst = some t → t ∈ D := fun t e => hd t (dsts_head e)
    have ih := fun tm (h : Out D base tm) => opsT_all hk l tm (fun t ht => hd t (dsts_tail ht)) (fun t ht => hg t (guards_tail ht)) h
    have hstep : ∀ tm, Out D base tm → (stepT cx M o tm fun tm => opsT cx M ops l tm k).All p := fun tm h => by
      unfold stepT
      split
      · exact ⟨ih _ (h.setO hdst _), trivial⟩
      · trivial
    simp only [opsT]
    split
    · exact hstep tm h
    · rename_i j want hgd
      split
      · trivial
      · rename_i gd hgt
        have hgD := hg gd (guards_head hgd hgt)
        split
        · cases want <;> simp only [T.All, if_true, if_false, Bool.false_eq_true, reduceCtorEq]
          · exact ⟨ih _ ((h.set hgD _).setO hdst _), hstep _ (h.set hgD _)⟩
          · exact ⟨hstep _ (h.set hgD _), ih _ ((h.set hgD _).setO hdst _)⟩
        · exact ih _ (h.setO hdst _)
        · trivial
theorem opsK_all {ops : Array Oper} {D : List Nat} {base : List AV} {p : List AV → Prop} {k : List AV → T} (hk : ∀ tm, Out D base tm → (k tm).All p) : ∀ (l : List Oper) (kn : List (Nat × Bool)) (tm : List AV), (∀ t ∈ dstsOf l, t ∈ D) → (∀ t ∈ guardsOf ops l, t ∈ D) → Out D base tm → (opsK cx M ops l kn tm k).All p
  | [], kn, tm, _, _, h => hk tm h
  | o :: l, kn, tm, hd, hg, h => by
    have hdst : ∀ t, o.dst = some t → t ∈ D := fun t e => hd t (dsts_head e)
    have ih := fun kn tm (h : Out D base tm) => opsK_all hk l kn tm (fun t ht => hd t (dsts_tail ht)) (fun t ht => hg t (guards_tail ht)) h
    have hstep : ∀ kn tm, Out D base tm → (stepT cx M o tm fun tm' => opsK cx M ops l kn tm' k).All p := fun kn tm h => by
      unfold stepT
      split
      · exact ⟨ih _ _ (h.setO hdst _), trivial⟩
      · trivial
    simp only [opsK]
    split
    · exact hstep _ tm h
    · rename_i j want hgd
      split
      · trivial
      · rename_i gd hgt
        have hgD := hg gd (guards_head hgd hgt)
        split
        · split
          · exact hstep _ tm h
          · exact ih _ _ (h.setO hdst _)
        · split
          · cases want <;> simp only [T.All, if_true, if_false, Bool.false_eq_true, reduceCtorEq]
            · exact ⟨ih _ _ ((h.set hgD _).setO hdst _), hstep _ _ (h.set hgD _)⟩
            · exact ⟨hstep _ _ (h.set hgD _), ih _ _ ((h.set hgD _).setO hdst _)⟩
          · exact ih _ _ (h.setO hdst _)
          · trivial
/-! what is known holds -/
def KnOK (kn : List (Nat × Bool)) (tm : List AV) : Prop := ∀ i b, lookB i kn = some b → tm.getD i .dead = .bool b
theorem KnOK.nil (tm : List AV) : KnOK [] tm := fun i b h => by simp [lookB] at h
theorem lookB_drop (d i : Nat) : ∀ kn : List (Nat × Bool), lookB i (knDrop d kn) = if i = d then none else lookB i kn
  | [] => by simp [knDrop, lookB]
  | (j, b) :: r => by
    have ih := lookB_drop d i r
    unfold knDrop at ih ⊢
    rw [List.filter_cons]
    by_cases hj : j = d
    · rw [if_neg (by simp [hj]), ih]
      by_cases hi : i = d
      · rw [if_pos hi, if_pos hi]
      · rw [if_neg hi, if_neg hi, lookB, if_neg]
        intro e
        exact hi ((Nat.eq_of_beq_eq_true e).symm.trans hj)
    · have hjd : Nat.beq j d = false := by
        cases e : Nat.beq j d
        · rfl
        · exact absurd (Nat.eq_of_beq_eq_true e) hj
      rw [if_pos (by simp [hjd])]
      simp only [lookB]
      by_cases hji : Nat.beq j i = true
      · rw [if_pos hji, if_pos hji, if_neg (fun e => hj ((Nat.eq_of_beq_eq_true hji).trans e))]
      · rw [if_neg hji, if_neg hji, ih]
theorem lt_of_getD {tm : List AV} {i : Nat} {b : Bool} (h : tm.getD i .dead = .bool b) : i < tm.length := by
  rcases Nat.lt_or_ge i tm.length with h1 | h1
  · exact h1
  · rw [List.getD, List.getElem?_eq_none h1] at h
    exact absurd h (by simp)
theorem getD_set (tm : List AV) (d i : Nat) (v : AV) : (tm.set d v).getD i .dead = if d = i ∧ d < tm.length then v else tm.getD i .dead := by
  simp only [List.getD, List.getElem?_set]
  by_cases h : d = i
  · subst h
    by_cases h2 : d < tm.length
    · simp [h2]
    · simp [h2]
  · simp [h]
theorem KnOK.set_drop {kn : List (Nat × Bool)} {tm : List AV} (h : KnOK kn tm) (d : Nat) (v : AV) : KnOK (knDrop d kn) (tm.set d v) := fun i b hb => by
  rw [lookB_drop] at hb
  by_cases hi : i = d
  · rw [if_pos hi] at hb; exact absurd hb (by simp)
  · rw [if_neg hi] at hb
    rw [getD_set, if_neg (fun e => hi e.1.symm)]
    exact h i b hb
theorem KnOK.cons {kn : List (Nat × Bool)} {tm : List AV} (h : KnOK kn tm) {d : Nat} {b : Bool} (hd : tm.getD d .dead = .bool b) : KnOK ((d, b) :: kn) tm := fun i c hc => by
  simp only [lookB] at hc
  split at hc
  · rename_i e
    rw [← Nat.eq_of_beq_eq_true e, hd]
    exact congrArg _ (Option.some.inj hc)
  · exact h i c hc
theorem KnOK.setO {kn : List (Nat × Bool)} {tm : List AV} (h : KnOK kn tm) (dst : Option Nat) (kb : Option Bool) (v : AV) (n : Nat) (hn : n = tm.length ∨ kb = none) (hv : ∀ b, kb = some b → v = .bool b) : KnOK (knSet kn dst kb n) (setO tm dst v) := by
  cases dst with
  | none => exact h
  | some d =>
    cases kb with
    | none => exact h.set_drop d v
    | some b =>
      have hn' : n = tm.length := by rcases hn with e | e; exact e; exact absurd e (by simp)
      simp only [knSet, Go.AE.setO]
      split
      · rename_i hl
        refine (h.set_drop d v).cons ?_
        have hl' : d < tm.length := by rw [← hn']; exact Nat.le_of_ble_eq_true hl
        rw [getD_set, if_pos ⟨rfl, hl'⟩, hv b rfl]
      · exact h.set_drop d v
theorem knOf_opnd {kn : List (Nat × Bool)} {tm : List AV} (h : KnOK kn tm) {x : Operand} {b : Bool} (hx : knOf kn x = some b) (t : TypeId) : opnd cx.P tm t x = .bool b := by
  unfold knOf at hx
  split at hx
  · exact h _ _ hx
  · cases hx; rfl
  · exact absurd hx (by simp)
theorem knO_popv {kn : List (Nat × Bool)} {tm : List AV} (h : KnOK kn tm) {o : Oper} {b ok : Bool} {v : AV} (ho : knO kn o = some b) (hp : popv cx M tm o = some (ok, v)) : v = .bool b := by
  unfold knO at ho
  unfold popv at hp
  split at ho
  · rename_i x e
    simp only [e, Option.some.injEq, Prod.mk.injEq] at hp
    rw [← hp.2]; exact knOf_opnd h ho _
  · rename_i x e
    simp only [e, Option.some.injEq, Prod.mk.injEq] at hp
    rw [← hp.2]; exact knOf_opnd h ho _
  · rename_i c x y e
    simp only [e] at hp
    split at ho
    · rename_i hc
      rw [knOf_opnd h hc] at hp
      simp only [Option.some.injEq, Prod.mk.injEq] at hp
      rw [← hp.2, mergeV_eq, knOf_opnd h ho]; rfl
    · rename_i hc
      rw [knOf_opnd h hc] at hp
      simp only [Option.some.injEq, Prod.mk.injEq] at hp
      rw [← hp.2, mergeV_eq, knOf_opnd h ho]; rfl
    · exact absurd ho (by simp)
  · rename_i t x e
    simp only [e] at hp
    split at ho
    · rename_i c hc
      rw [knOf_opnd h hc] at hp
      simp only [unV, okV, Option.some.injEq, Prod.mk.injEq] at hp
      rw [← hp.2]; exact congrArg _ (Option.some.inj ho)
    · exact absurd ho (by simp)
  · exact absurd ho (by simp)
theorem stepK_at {ops : Array Oper} {o : Oper} {l : List Oper} {k k' : List AV → T} {kn : List (Nat × Bool)} {tm : List AV} (hkn : KnOK kn tm) (n : Nat) (hn : n = tm.length)
    (ih : ∀ kn tm, KnOK kn tm → (opsK cx M ops l kn tm k).at = (opsT cx M ops l tm k').at) :
    (stepT cx M o tm fun tm' => opsK cx M ops l (knSet kn o.dst (knO kn o) n) tm' k).at = (stepT cx M o tm fun tm => opsT cx M ops l tm k').at := by
  unfold stepT
  split
  · rename_i ok v hp
    cases ok
    · rfl
    · exact ih _ _ (hkn.setO _ _ _ _ (.inl hn) fun b hb => knO_popv hkn hb hp)
  · rfl
theorem opsK_at {ops : Array Oper} {k k' : List AV → T} (hk : ∀ tm, (k tm).at = (k' tm).at) : ∀ (l : List Oper) (kn : List (Nat × Bool)) (tm : List AV), KnOK kn tm → (opsK cx M ops l kn tm k).at = (opsT cx M ops l tm k').at
  | [], kn, tm, _ => hk tm
  | o :: l, kn, tm, hkn => by
    have ih := fun kn tm (h : KnOK kn tm) => opsK_at (ops := ops) hk l kn tm h
    simp only [opsK, opsT]
    split
    · exact stepK_at hkn _ rfl ih
    · rename_i j want hgd
      split
      · rfl
      · rename_i gd hgt
        split
        · rename_i b hb
          have hv := hkn _ _ hb
          have hset : tm.set gd (.bool b) = tm := by
            have hl := lt_of_getD hv
            apply List.ext_getElem? ; intro i
            rw [List.getElem?_set]
            split
            · rename_i e
              subst e
              rw [List.getD, List.getElem?_eq_getElem hl] at hv
              simp only [hl, if_true, List.getElem?_eq_getElem hl]
              exact congrArg some hv.symm
            · rfl
          rw [hv]
          cases b <;> cases want <;> simp only [T.at, if_true, if_false, Bool.false_eq_true, reduceCtorEq, hset, cond_true, cond_false]
          · exact stepK_at hkn _ rfl ih
          · exact ih _ _ (hkn.setO _ none _ _ (.inr rfl) (by simp))
          · exact ih _ _ (hkn.setO _ none _ _ (.inr rfl) (by simp))
          · exact stepK_at hkn _ rfl ih
        · split
          · rename_i b hb
            have hl := lt_of_getD hb
            have kt : ∀ c : Bool, KnOK ((gd, c) :: knDrop gd kn) (tm.set gd (.bool c)) := fun c => (hkn.set_drop gd _).cons (by rw [getD_set, if_pos ⟨rfl, hl⟩])
            cases b <;> cases want <;> simp only [T.at, if_true, if_false, Bool.false_eq_true, reduceCtorEq, cond_true, cond_false]
            · exact stepK_at (kt _) _ (by simp) ih
            · exact ih _ _ ((kt _).setO _ none _ _ (.inr rfl) (by simp))
            · exact ih _ _ ((kt _).setO _ none _ _ (.inr rfl) (by simp))
            · exact stepK_at (kt _) _ (by simp) ih
          · exact ih _ _ (hkn.setO _ none _ _ (.inr rfl) (by simp))
          · rfl
theorem guardT_mem {ops : Array Oper} {j g : Nat} (h : guardT ops j = some g) : g ∈ dstsOf ops.toList := by
  unfold guardT at h
  split at h
  · rename_i o ho
    have hm : o ∈ ops.toList := by simpa using Array.mem_of_getElem? ho
    generalize ops.toList = l at hm
    induction l with
    | nil => simp at hm
    | cons x l ih =>
      rcases List.mem_cons.1 hm with rfl | hm
      · exact dsts_head h
      · exact dsts_tail (ih hm)
  · exact absurd h (by simp)
theorem guards_in_dsts {ops : Array Oper} : ∀ (l : List Oper) {t : Nat}, t ∈ guardsOf ops l → t ∈ dstsOf ops.toList
  | [], t, h => by simp [guardsOf] at h
  | o :: l, t, h => by
    simp only [guardsOf] at h
    split at h
    · split at h
      · rename_i g hg
        rcases List.mem_cons.1 h with rfl | h
        · exact guardT_mem hg
        · exact guards_in_dsts l h
      · exact guards_in_dsts l h
    · exact guards_in_dsts l h
theorem codeT_all {D : List Nat} {base : List AV} {p : List AV → Prop} : ∀ (c : Code) {k : List AV → T} (tm : List AV), (∀ t ∈ dstsC c, t ∈ D) → (∀ tm, Out D base tm → (k tm).All p) → Out D base tm → (codeT cx M c tm k).All p
  | .skip, k, tm, _, hk, h => hk tm h
  | .region id ops draw, k, tm, hd, hk, h => opsT_all hk ops.toList tm hd (fun t ht => hd t (guards_in_dsts ops.toList ht)) h
  | .seq a b, k, tm, hd, hk, h => codeT_all a tm (fun t ht => hd t (List.mem_append_left _ ht)) (fun tm h => codeT_all b tm (fun t ht => hd t (List.mem_append_right _ ht)) hk h) h
  | .cond c a b, k, tm, hd, hk, h => by
    unfold codeT
    split
    · exact ⟨codeT_all a tm (fun t ht => hd t (List.mem_append_left _ ht)) hk h, codeT_all b tm (fun t ht => hd t (List.mem_append_right _ ht)) hk h⟩
    · trivial
  | .block .., k, tm, _, _, _ => trivial
  | .loop .., k, tm, _, _, _ => trivial
  | .exit .., k, tm, _, _, _ => trivial
  | .ret, k, tm, _, _, _ => trivial
  | .label .., k, tm, _, _, _ => trivial
  | .goto .., k, tm, _, _, _ => trivial
  | .rangeFunc .., k, tm, _, _, _ => trivial
  | .scope .., k, tm, _, _, _ => trivial
  | .refuse .., k, tm, _, _, _ => trivial
theorem codeK_all {D : List Nat} {base : List AV} {p : List AV → Prop} : ∀ (c : Code) {k : List AV → T} (tm : List AV), (∀ t ∈ dstsC c, t ∈ D) → (∀ tm, Out D base tm → (k tm).All p) → Out D base tm → (codeK cx M c tm k).All p
  | .skip, k, tm, _, hk, h => hk tm h
  | .region id ops draw, k, tm, hd, hk, h => opsK_all hk ops.toList [] tm hd (fun t ht => hd t (guards_in_dsts ops.toList ht)) h
  | .seq a b, k, tm, hd, hk, h => codeK_all a tm (fun t ht => hd t (List.mem_append_left _ ht)) (fun tm h => codeK_all b tm (fun t ht => hd t (List.mem_append_right _ ht)) hk h) h
  | .cond c a b, k, tm, hd, hk, h => by
    unfold codeK
    split
    · exact ⟨codeK_all a tm (fun t ht => hd t (List.mem_append_left _ ht)) hk h, codeK_all b tm (fun t ht => hd t (List.mem_append_right _ ht)) hk h⟩
    · trivial
  | .block .., k, tm, _, _, _ => trivial
  | .loop .., k, tm, _, _, _ => trivial
  | .exit .., k, tm, _, _, _ => trivial
  | .ret, k, tm, _, _, _ => trivial
  | .label .., k, tm, _, _, _ => trivial
  | .goto .., k, tm, _, _, _ => trivial
  | .rangeFunc .., k, tm, _, _, _ => trivial
  | .scope .., k, tm, _, _, _ => trivial
  | .refuse .., k, tm, _, _, _ => trivial
theorem codeK_at : ∀ (c : Code) {k k' : List AV → T} (tm : List AV), (∀ tm, (k tm).at = (k' tm).at) → (codeK cx M c tm k).at = (codeT cx M c tm k').at
  | .skip, k, k', tm, hk => hk tm
  | .region id ops draw, k, k', tm, hk => opsK_at hk ops.toList [] tm (KnOK.nil tm)
  | .seq a b, k, k', tm, hk => codeK_at a tm fun tm => codeK_at b tm hk
  | .cond c a b, k, k', tm, hk => by
    unfold codeK codeT
    split
    · rename_i t _
      cases t
      · exact codeK_at b tm hk
      · exact codeK_at a tm hk
    · rfl
  | .block .., k, k', tm, _ => rfl
  | .loop .., k, k', tm, _ => rfl
  | .exit .., k, k', tm, _ => rfl
  | .ret, k, k', tm, _ => rfl
  | .label .., k, k', tm, _ => rfl
  | .goto .., k, k', tm, _ => rfl
  | .rangeFunc .., k, k', tm, _ => rfl
  | .scope .., k, k', tm, _ => rfl
  | .refuse .., k, k', tm, _ => rfl
/-- A region whose places from the first guard on are D. -/
theorem region_at {ops : Array Oper} {D : List Nat} : ∀ (l : List Oper) (kn : List (Nat × Bool)) (tm : List AV) {tm' : List AV}, (∀ t ∈ guardsOf ops l, t ∈ D) → (∀ t ∈ guardDsts l, t ∈ D) → (opsK cx M ops l kn tm .leaf).merge D = some (true, tm') →
    ∃ res, (opsK cx M ops l kn tm .leaf).at = some res ∧ Same res tm'
  | [], kn, tm, tm', _, _, h => by
    simp only [opsK, T.merge, Option.some.injEq, Prod.mk.injEq, true_and] at h
    subst h
    exact ⟨tm, rfl, rfl, fun _ => rfl⟩
  | o :: l, kn, tm, tm', hg, hd, h => by
    by_cases hgd : o.guard.isSome = true
    · have hd' : ∀ t ∈ dstsOf (o :: l), t ∈ D := fun t ht => hd t (by simp only [guardDsts, if_pos hgd, List.append_nil]; exact ht)
      exact (merge_at (opsK_all (k := T.leaf) (p := Out D tm) (base := tm) (fun tm h => h) (o :: l) kn tm hd' hg (Out.refl _ _)) h).2 rfl
    · have hn : o.guard = none := by simpa using hgd
      simp only [opsK, hn] at h ⊢
      unfold stepT at h ⊢
      split at h
      · rename_i ok v hp
        unfold T.merge at h
        split at h
        · exact absurd h (by simp)
        · rename_i o1 t1 h1 h2
          simp only [Option.some.injEq, Prod.mk.injEq] at h
          obtain ⟨ho, rfl⟩ := h
          cases ok
          · simp at ho
          · simp only [cond_true] at ho
            subst ho
            obtain ⟨res, k1, k2⟩ := region_at l _ _ (fun t ht => hg t (guards_tail ht)) (fun t ht => hd t (by simp only [guardDsts, if_neg hgd]; exact ht)) h1
            exact ⟨res, by simpa [T.at] using k1, k2⟩
        · rename_i o1 t1 h1 h2; simp [T.merge] at h2
        · rename_i o1 t1 o2 t2 h1 h2; simp [T.merge] at h2
      · simp [T.merge] at h
end
section
variable {R : Type} {cx : Ctx} {N d : Nat} {S : Nat → Nat → Prop} {w0 : World} {g : G} {fr : Fr} {M : Mm} {a : Act} {w : World}
variable {Q : Exit → Act → World → Prop}
theorem Rel.same {tm tm' : List AV} {tf : List (Nat × TF)} (h : Rel (Env.mk (Ctx.P cx) N S w0) d g ⟨tm, tf⟩ M a w) (hs : Same tm tm') : Rel (Env.mk (Ctx.P cx) N S w0) d g ⟨tm', tf⟩ M a w := by
  refine ⟨h.below, h.hN, h.fresh, h.size.trans hs.1, fun i => hs.2 i ▸ h.tmps i, h.lenr, h.rows, h.inj, fun t ht => ?_, fun t s ht => ?_, fun t r p ht => ?_, h.ro⟩
  · obtain ⟨e, l, ex, k1, k2⟩ := h.own t ht
    exact ⟨e, l, ex, (hs.2 t).symm.trans k1, k2⟩
  · obtain ⟨m1, m2, e, l, ex, l', ex', k1, k2⟩ := h.viaT t s ht
    exact ⟨m1, m2, e, l, ex, l', ex', (hs.2 t).symm.trans k1, (hs.2 s).symm.trans k2⟩
  · obtain ⟨m1, e, l, ex, k1, k2⟩ := h.viaR t r p ht
    exact ⟨m1, e, l, ex, (hs.2 t).symm.trans k1, k2⟩
theorem memN_iff {i : Nat} : ∀ {l : List Nat}, memN i l = true ↔ i ∈ l
  | [] => by simp [memN]
  | j :: r => by
    simp only [memN, List.mem_cons]
    by_cases h : j = i
    · subst h; simp
    · rw [if_neg (fun e => h (Nat.eq_of_beq_eq_true e)), memN_iff]
      exact ⟨.inr, fun e => e.resolve_left (fun e => h e.symm)⟩
theorem onlyL_length (ks : List Nat) : ∀ (i : Nat) (l : List AV), (onlyL ks i l).length = l.length
  | _, [] => rfl
  | i, v :: vs => by simp [onlyL, onlyL_length ks (i + 1) vs]
theorem onlyL_get (ks : List Nat) : ∀ (l : List AV) (j i : Nat), (onlyL ks j l).getD i .dead = if j + i ∈ ks then l.getD i .dead else .dead
  | [], j, i => by simp [onlyL]
  | v :: vs, j, 0 => by
    simp only [onlyL, List.getD_cons_zero, Nat.add_zero, memN_iff]
  | v :: vs, j, i + 1 => by
    simp only [onlyL, List.getD_cons_succ]
    rw [onlyL_get ks vs (j + 1) i, show j + 1 + i = j + (i + 1) from by omega]
theorem Rel.only {fr : Fr} (h : Rel (Env.mk (Ctx.P cx) N S w0) d g fr M a w) (ks : Option (List Nat)) : Rel (Env.mk (Ctx.P cx) N S w0) d g (fr.only ks) M a w := by
  cases ks with
  | none => exact h
  | some ks =>
    have hget : ∀ i : Nat, i ∈ ks → (onlyL ks 0 fr.tmps).getD i .dead = fr.tmps.getD i .dead := fun i hi => by
      rw [onlyL_get, Nat.zero_add, if_pos hi]
    have hmem : ∀ {t : Nat} {f : TF}, (t, f) ∈ (Fr.only (some ks) fr).tf → (t, f) ∈ fr.tf ∧ t ∈ ks ∧ ∀ s, f = .viaT s → s ∈ ks := fun {t f} ht => by
      simp only [Fr.only, List.mem_filter, Bool.and_eq_true] at ht
      refine ⟨ht.1, memN_iff.1 ht.2.1, fun s e => ?_⟩
      subst e
      exact memN_iff.1 ht.2.2
    refine ⟨h.below, h.hN, h.fresh, h.size.trans (onlyL_length ks 0 fr.tmps).symm, fun i => ?_, h.lenr, h.rows, h.inj, fun t ht => ?_, fun t s ht => ?_, fun t r p ht => ?_, h.ro⟩
    · show relV _ _ ((onlyL ks 0 fr.tmps).getD i .dead) _
      rw [onlyL_get]
      split
      · exact h.tmps i
      · exact relV_dead _
    · obtain ⟨h1, h2, _⟩ := hmem ht
      obtain ⟨e, l, ex, k1, k2⟩ := h.own t h1
      exact ⟨e, l, ex, (hget t h2).trans k1, k2⟩
    · obtain ⟨h1, h2, h3⟩ := hmem ht
      obtain ⟨m1, m2, e, l, ex, l', ex', k1, k2⟩ := h.viaT t s h1
      have hs := h3 s rfl
      refine ⟨?_, m2, e, l, ex, l', ex', (hget t h2).trans k1, (hget s hs).trans k2⟩
      simp only [Fr.only, List.mem_filter, Bool.and_eq_true]
      exact ⟨m1, memN_iff.2 hs, trivial⟩
    · obtain ⟨h1, h2, _⟩ := hmem ht
      obtain ⟨m1, e, l, ex, k1, k2⟩ := h.viaR t r p h1
      exact ⟨m1, e, l, ex, (hget t h2).trans k1, k2⟩
theorem codeT_sound (hG : cx.Good) {tf : List (Nat × TF)} {ds : List Nat} (hc : Clean ds tf) {res : List AV} : ∀ (c : Code) {k : List AV → T} {Q : Exit → Act → World → Prop} (tm : List AV) (a : Act) (w : World), pureCode cx c = true → (∀ t ∈ dstsC c, t ∈ ds) → (codeT cx M c tm k).at = some res →
    Rel (Env.mk (Ctx.P cx) N S w0) d g ⟨tm, tf⟩ M a w → (∀ tm' a' w', Rel (Env.mk (Ctx.P cx) N S w0) d g ⟨tm', tf⟩ M a' w' → Below w.heap.size w w' → a'.defers = a.defers → (k tm').at = some res → Q .normal a' w') → c.wp cx.P Q a w
  | .skip, k, Q, tm, a, w, _, _, h, hr, hQ => wp_skip (hQ tm a w hr (Below.refl _ _) rfl h)
  | .region id ops draw, k, Q, tm, a, w, hp, hd, h, hr, hQ => by
    have hdraw : draw = false := by simp only [pureCode, Bool.and_eq_true, Bool.not_eq_true'] at hp; exact hp.1
    subst hdraw
    exact wp_region_list (opsT_sound hG hc ops.toList tm a w hd h hr hQ)
  | .seq x y, k, Q, tm, a, w, hp, hd, h, hr, hQ => by
    simp only [pureCode, Bool.and_eq_true] at hp
    refine wp_seq (codeT_sound hG hc x tm a w hp.1 (fun t ht => hd t (List.mem_append_left _ ht)) h hr fun tm' a' w' hr' hb hdf hk => ?_)
    exact codeT_sound hG hc y tm' a' w' hp.2 (fun t ht => hd t (List.mem_append_right _ ht)) hk hr' fun tm2 a2 w2 hr2 hb2 hdf2 hk2 => hQ tm2 a2 w2 hr2 (hb.trans (hb2.mono hb.size)) (hdf2.trans hdf) hk2
  | .cond c x y, k, Q, tm, a, w, hp, hd, h, hr, hQ => by
    simp only [pureCode, Bool.and_eq_true] at hp
    unfold codeT at h
    split at h
    · rename_i t ht
      have hcv := hr.opnd 0 c
      have hcv : relV cx.P (xOf (Env.mk (Ctx.P cx) N S w0) g w) (.bool t) (a.eval c) := ht ▸ hcv
      have he := relV_bool.1 hcv
      refine wp_cond_split he (fun e => ?_) (fun e => ?_)
      · subst e
        exact codeT_sound hG hc x tm a w hp.1 (fun t ht => hd t (List.mem_append_left _ ht)) (by simpa [T.at] using h) hr hQ
      · subst e
        exact codeT_sound hG hc y tm a w hp.2 (fun t ht => hd t (List.mem_append_right _ ht)) (by simpa [T.at] using h) hr hQ
    · simp [T.at] at h
  | .block .., k, Q, tm, a, w, hp, _, _, _, _ => by simp [pureCode] at hp
  | .loop .., k, Q, tm, a, w, hp, _, _, _, _ => by simp [pureCode] at hp
  | .exit .., k, Q, tm, a, w, hp, _, _, _, _ => by simp [pureCode] at hp
  | .ret, k, Q, tm, a, w, hp, _, _, _, _ => by simp [pureCode] at hp
  | .label .., k, Q, tm, a, w, hp, _, _, _, _ => by simp [pureCode] at hp
  | .goto .., k, Q, tm, a, w, hp, _, _, _, _ => by simp [pureCode] at hp
  | .rangeFunc .., k, Q, tm, a, w, hp, _, _, _, _ => by simp [pureCode] at hp
  | .scope .., k, Q, tm, a, w, hp, _, _, _, _ => by simp [pureCode] at hp
  | .refuse .., k, Q, tm, a, w, hp, _, _, _, _ => by simp [pureCode] at hp
end
end Go.AE

/- Regions that change no memory that may be written: one operation's value, whether it comes up; trees. -/
import Derived.Test.YtglfkdbfiipjjaaEv21
import Derived.Tactics
import Derived.Still
set_option linter.unusedVariables false
set_option linter.unusedSimpArgs false
namespace Go.AE
open Go.RowKit Go.Lib

/-- What an operation of a region leaves in its place. -/
def absV (cx : Ctx) (M : Mm) (ops : Array Oper) (o : Oper) (tm : List AV) : Option AV :=
  match o.guard with
  | none => match popv cx M tm o with | some (true, v) => some v | _ => none
  | some (j, want) =>
    match guardT ops j with
    | none => none
    | some g =>
      match tm.getD g .dead with
      | .bool b => if b = want then (match popv cx M tm o with | some (true, v) => some v | _ => none) else some undefV
      | .tuple [] => some undefV
      | _ => none
def T.at : T → Option (List AV)
  | .fail => none
  | .leaf tm => some tm
  | .br b x y => if b then x.at else y.at
theorem set_getD {l : List AV} {i : Nat} {v : AV} (h : l.getD i .dead = v) : l.set i v = l := by
  apply List.ext_getElem?
  intro j
  by_cases hij : i = j
  · subst hij
    by_cases hl : i < l.length
    · rw [List.getElem?_set_self hl]
      simp only [List.getD, List.getElem?_eq_getElem hl, Option.getD_some] at h
      rw [List.getElem?_eq_getElem hl, h]
    · rw [List.getElem?_eq_none (by simpa using hl), List.getElem?_eq_none (by omega)]
  · rw [List.getElem?_set_ne hij]
theorem opsT_cons (cx : Ctx) (M : Mm) (ops : Array Oper) (o : Oper) (l : List Oper) (tm : List AV) (k : List AV → T) (res : List AV) (h : (opsT cx M ops (o :: l) tm k).at = some res) :
    ∃ v, absV cx M ops o tm = some v ∧ (opsT cx M ops l (setO tm o.dst v) k).at = some res := by
  have step : ∀ {tm'}, tm' = tm → (stepT cx M o tm' fun tm => opsT cx M ops l tm k).at = some res → ∃ v, (match popv cx M tm o with | some (true, v) => some v | _ => none) = some v ∧ (opsT cx M ops l (setO tm o.dst v) k).at = some res := by
    intro tm' e h'
    rw [e] at h'
    unfold stepT at h'
    split at h'
    · rename_i ok v hp
      cases ok
      · simp [T.at] at h'
      · refine ⟨v, by rw [hp], ?_⟩
        simpa [T.at] using h'
    · simp [T.at] at h'
  simp only [opsT] at h
  unfold absV
  split at h
  · rename_i hg
    simp only [hg]
    exact step rfl h
  · rename_i j want hg
    simp only [hg]
    split at h
    · simp [T.at] at h
    · rename_i gd hgd
      simp only [hgd]
      split at h
      · rename_i b hb
        simp only [hb]
        cases b <;> cases want <;> simp only [T.at, if_true, if_false, Bool.false_eq_true, reduceCtorEq] at h ⊢
        · exact step (set_getD hb) h
        · exact ⟨_, rfl, by rw [set_getD hb] at h; exact h⟩
        · exact ⟨_, rfl, by rw [set_getD hb] at h; exact h⟩
        · exact step (set_getD hb) h
      · rename_i hb
        simp only [hb]
        exact ⟨_, rfl, h⟩
      · simp [T.at] at h
section
variable {R : Type} {cx : Ctx} {N d : Nat} {S : Nat → Nat → Prop} {w0 : World} {g : G} {fr : Fr} {M : Mm} {a : Act} {w : World}
variable {K : Act → World → Prop} {Q : Exit → Act → World → Prop} {o : Oper} {ops : Array Oper}

theorem undef_ne_bool {a : Act} {i : Nat} {b : Bool} (h : a.tmps.getD i undef = .bool b) : a.tmps[i]? = some (.bool b) := by
  cases hi : a.tmps[i]? with
  | none => simp [hi, undef] at h
  | some v => simp [hi] at h; rw [h]
/-- Whether an operation comes up. -/
theorem wanted_bool (hr : Rel (Env.mk (Ctx.P cx) N S w0) d g fr M a w) {j : Nat} {want b : Bool} {gd : Nat} (hg : o.guard = some (j, want)) (hgd : guardT ops j = some gd) (hb : fr.tmps.getD gd .dead = .bool b) :
    Region.wanted o (yielded ops a.tmps) = (b == want) := by
  have hv := hr.tmps gd
  rw [hb] at hv
  have := undef_ne_bool (relV_bool.1 hv)
  have hdst : (ops[j]?).bind (·.dst) = some gd := by
    unfold guardT at hgd
    split at hgd
    · rename_i o' ho; simp [ho, hgd]
    · exact absurd hgd (by simp)
  simp only [Region.wanted, hg, yielded, hdst, Option.bind_some, this]
  cases b <;> cases want <;> rfl
theorem wanted_none (hr : Rel (Env.mk (Ctx.P cx) N S w0) d g fr M a w) {j : Nat} {want : Bool} {gd : Nat} (hg : o.guard = some (j, want)) (hgd : guardT ops j = some gd) (hb : fr.tmps.getD gd .dead = .tuple []) :
    Region.wanted o (yielded ops a.tmps) = false := by
  have hv := hr.tmps gd
  rw [hb] at hv
  obtain ⟨arr, e, hvs⟩ := relV_tuple hv
  have hdst : (ops[j]?).bind (·.dst) = some gd := by
    unfold guardT at hgd
    split at hgd
    · rename_i o' ho; simp [ho, hgd]
    · exact absurd hgd (by simp)
  simp only [Region.wanted, hg, yielded, hdst, Option.bind_some]
  cases hi : a.tmps[gd]? with
  | none => rfl
  | some v =>
    simp [hi] at e
    subst e
    rfl
/-- One operation of such a region. -/
theorem absV_sound (hG : cx.Good) (hr : Rel (Env.mk (Ctx.P cx) N S w0) d g fr M a w) {v : AV} (h : absV cx M ops o fr.tmps = some v)
    (hk : ∀ c w', Below w.heap.size w w' → relV cx.P (xOf (Env.mk (Ctx.P cx) N S w0) g w') v c → K (a.put o.dst c) w') :
    if Region.wanted o (yielded ops a.tmps) then o.wp cx.P a w K Q ∨ (o.asks cx.P a w ∧ LetsOut Q) else K (a.put o.dst undef) w := by
  have step : (match popv cx M fr.tmps o with | some (true, v) => some v | _ => none) = some v → o.wp cx.P a w K Q := by
    intro h
    split at h
    · rename_i v' hp
      obtain rfl := Option.some.inj h
      exact popv_sound hG hr hp hk
    · exact absurd h (by simp)
  unfold absV at h
  split at h
  · rename_i hg
    have : Region.wanted o (yielded ops a.tmps) = true := by simp [Region.wanted, hg]
    rw [if_pos this]
    exact .inl (step h)
  · rename_i j want hg
    split at h
    · exact absurd h (by simp)
    · rename_i gd hgd
      split at h
      · rename_i b hb
        have hw := wanted_bool hr hg hgd hb
        split at h
        · rename_i hbw
          rw [if_pos (by rw [hw]; simp [hbw])]
          exact .inl (step h)
        · rename_i hbw
          rw [if_neg (by rw [hw]; simp [hbw])]
          obtain rfl := Option.some.inj h
          exact hk _ w (Below.refl _ _) relV_undef
      · rename_i hb
        rw [if_neg (by rw [wanted_none hr hg hgd hb]; simp)]
        obtain rfl := Option.some.inj h
        exact hk _ w (Below.refl _ _) relV_undef
      · exact absurd h (by simp)

/-! ### flags that no operation touches -/
def Clean (ds : List Nat) (tf : List (Nat × TF)) : Prop := ∀ t ∈ ds, dropT t tf = tf
theorem mem_dropTs {x : Nat × TF} : ∀ {ds : List Nat} {tf : List (Nat × TF)}, x ∈ dropTs ds tf → x ∈ tf ∧ ∀ t ∈ ds, x.1 ≠ t ∧ x.2 ≠ .viaT t
  | [], tf, h => ⟨h, fun t ht => by simp at ht⟩
  | t :: ds, tf, h => by
    obtain ⟨k1, k2⟩ := mem_dropTs (ds := ds) (tf := dropT t tf) h
    obtain ⟨m1, m2, m3⟩ := mem_dropT (f := x.2) (i := x.1) k1
    refine ⟨m1, fun t' ht => ?_⟩
    rcases List.mem_cons.1 ht with rfl | ht
    · exact ⟨m2, m3⟩
    · exact k2 t' ht
theorem clean_dropTs (ds : List Nat) (tf : List (Nat × TF)) : Clean ds (dropTs ds tf) := by
  intro t ht
  unfold dropT
  rw [List.filter_eq_self]
  intro x hx
  obtain ⟨k1, k2⟩ := mem_dropTs hx
  obtain ⟨h1, h2⟩ := k2 t ht
  simp only [Bool.and_eq_true, Bool.not_eq_true']
  refine ⟨?_, ?_⟩
  · cases hb : Nat.beq x.1 t with
    | false => rfl
    | true => exact absurd (Nat.eq_of_beq_eq_true hb) h1
  · obtain ⟨i, f⟩ := x
    cases f with
    | viaT s =>
      show (!Nat.beq s t) = true
      cases hb : Nat.beq s t with
      | false => rfl
      | true => exact absurd (by rw [Nat.eq_of_beq_eq_true hb]) h2
    | _ => rfl
theorem Rel.drops : ∀ (ds : List Nat) {fr : Fr}, Rel (Env.mk (Ctx.P cx) N S w0) d g fr M a w → Rel (Env.mk (Ctx.P cx) N S w0) d g { fr with tf := dropTs ds fr.tf } M a w
  | [], fr, h => h
  | t :: ds, fr, h => Rel.drops ds (h.drop t)
theorem setO_set {fr : Fr} {ds : List Nat} (hc : Clean ds fr.tf) {dst : Option Nat} (hd : ∀ t, dst = some t → t ∈ ds) (v : AV) : fr.set dst v = { tmps := setO fr.tmps dst v, tf := fr.tf } := by
  cases dst with
  | none => rfl
  | some t =>
    show Fr.mk _ _ = _
    rw [hc t (hd t rfl)]
    rfl
/-- A walk in the order of the text. -/
theorem opsT_sound (hG : cx.Good) {tf : List (Nat × TF)} {ds : List Nat} (hc : Clean ds tf) {k : List AV → T} {res : List AV} : ∀ (l : List Oper) (tm : List AV) (a : Act) (w : World), (∀ t ∈ dstsOf l, t ∈ ds) → (opsT cx M ops l tm k).at = some res →
    Rel (Env.mk (Ctx.P cx) N S w0) d g ⟨tm, tf⟩ M a w → (∀ tm' a' w', Rel (Env.mk (Ctx.P cx) N S w0) d g ⟨tm', tf⟩ M a' w' → Below w.heap.size w w' → a'.defers = a.defers → (k tm').at = some res → Q .normal a' w') → wpList cx.P ops Q l a w
  | [], tm, a, w, _, h, hr, hQ => hQ tm a w hr (Below.refl _ _) rfl h
  | o :: l, tm, a, w, hds, h, hr, hQ => by
    obtain ⟨v, h1, h2⟩ := opsT_cons cx M ops o l tm k res h
    have hdst : ∀ t, o.dst = some t → t ∈ ds := fun t e => hds t (by simp [dstsOf, e])
    have hrest : ∀ t ∈ dstsOf l, t ∈ ds := fun t ht => hds t (by
      simp only [dstsOf]
      split
      · exact List.mem_cons_of_mem _ ht
      · exact ht)
    refine absV_sound hG hr h1 fun c w' hb hv => ?_
    have hset := (hr.grown hb).set o.dst hv
    rw [setO_set hc hdst] at hset
    exact opsT_sound hG hc l _ _ w' hrest h2 hset fun tm' a' w'' hr' hb' hd' hk => hQ tm' a' w'' hr' (hb.trans (hb'.mono hb.size)) (hd'.trans (put_defers _ _ _)) hk
end
end Go.AE

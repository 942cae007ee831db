/- What the evaluator says of code is so. -/
import Derived.Test.YtglfkdbfiipjjaaEv34
set_option linter.unusedVariables false
set_option linter.unusedSimpArgs false
namespace Go.AE
open Go.RowKit Go.Lib
/-- A loop whose rounds are counted. -/
theorem wp_loop_fuel {P : Program} {c : Code} {Q : Exit → Act → World → Prop} {a : Act} {w : World} {m : Nat} {I : Nat → Act → World → Prop} (h0 : I m a w) (hz : ∀ a w, ¬ I 0 a w)
    (round : ∀ k a w, I (k + 1) a w → c.wp P (Exit.then (I k) Q) a w) : (Code.loop c).wp P Q a w := by
  intro b k cs
  have key : ∀ n a w, I n a w → ∃ e a' w', Q e a' w' ∧ Arrives P (lone (b.at a (.code c :: .inLoop c :: k)) cs w) b k cs e a' w' := by
    intro n
    induction n with
    | zero => exact fun a w h => absurd h (hz a w)
    | succ n ih =>
      intro a w hI
      obtain ⟨e, a₁, w₁, hq, harr⟩ := round n a w hI b (.inLoop c :: k) cs
      cases e with
      | normal =>
        obtain ⟨e₂, a₂, w₂, hq₂, harr₂⟩ := ih a₁ w₁ hq
        exact ⟨e₂, a₂, w₂, hq₂, .of_steps (Steps.trans harr (.one step_inLoop)) harr₂⟩
      | exit id => exact ⟨_, a₁, w₁, hq, .pass (x := .inLoop c) rfl (fun _ _ => .inl (by simp)) harr⟩
      | goto l => exact ⟨_, a₁, w₁, hq, .pass (x := .inLoop c) rfl (fun _ _ => .inl (by simp)) harr⟩
      | ret => exact ⟨_, a₁, w₁, hq, .pass (x := .inLoop c) rfl (fun _ _ => .inl (by simp)) harr⟩
      | panic ch => exact ⟨_, a₁, w₁, hq, .pass (x := .inLoop c) rfl (fun _ _ => .inl (by simp)) harr⟩
      | outgrown => exact ⟨_, a₁, w₁, hq, .pass (x := .inLoop c) rfl (fun _ _ => .inl (by simp)) harr⟩
  obtain ⟨e, a', w', hq, harr⟩ := key m a w h0
  exact ⟨e, a', w', hq, .of_steps (.one step_loop) harr⟩
section
variable {R : Type} {cx : Ctx} {N d : Nat} {S : Nat → Nat → Prop} {w0 : World} {g : G} {fr : Fr} {M : Mm} {a : Act} {w : World}
variable {fn : FuncId} {dep : Nat} {call : CallH R} {r : R}

/-- What is asked of an exit. -/
def QX (E : Env) (g' : G) (Q : Exit → Act → World → Prop) (x : AX) (a' : Act) (w' : World) : Prop :=
  match x with
  | .normal => Q .normal a' w'
  | .exit i => Q (.exit i) a' w'
  | .ret => Q .ret a' w'
  | .panic v => ∀ c, relV E.P (xOf E g' w') v c → Q (.panic [{ v := c, recovered := false }]) a' w'
/-- Whatever comes behind goes through. -/
def Kx (E : Env) (d : Nat) (g : G) (w : World) (a : Act) (K : AX → Fr → Mm → Option R) (r : R) (Q : Exit → Act → World → Prop) : Prop :=
  ∀ x fr' M' g' a' w', Rel E d g' fr' M' a' w' → Ext E d g w g' w' → a'.defers = a.defers → K x fr' M' = some r → QX E g' Q x a' w'
theorem Kx.after {E : Env} {K : AX → Fr → Mm → Option R} {Q : Exit → Act → World → Prop} (h : Kx E d g w a K r Q) {g1 : G} {w1 : World} {a1 : Act} (hx : Ext E d g w g1 w1) (hd : a1.defers = a.defers) : Kx E d g1 w1 a1 K r Q :=
  fun x fr' M' g' a' w' h1 h2 h3 h4 => h x fr' M' g' a' w' h1 (hx.trans h2) (h3.trans hd) h4
theorem evS_sound (hG : cx.Good) (hcall : CallSound cx call) {ops : Array Oper} {K : AX → Fr → Mm → Option R} {Q : Exit → Act → World → Prop} : ∀ (l : List Oper) (fr : Fr) (M : Mm) (g : G) (a : Act) (w : World),
    Rel (Env.mk (Ctx.P cx) N S w0) d g fr M a w → evS cx fn call ops l fr M K = some r → Kx (Env.mk (Ctx.P cx) N S w0) d g w a K r Q → wpList cx.P ops Q l a w
  | [], fr, M, g, a, w, hr, h, hK => hK .normal fr M g a w hr (Ext.refl _ _ _ _) rfl h
  | o :: l, fr, M, g, a, w, hr, h, hK => by
    have run : ∀ {fr1 : Fr}, fr1 = fr → evO cx fn call o fr1 M (fun fr M => evS cx fn call ops l fr M K) (fun v fr M => K (.panic v) fr M) = some r → o.wp cx.P a w (wpList cx.P ops Q l) Q := by
      intro fr1 e h1
      subst e
      exact evO_sound hG hcall hr h1 (fun fr' M' g' a' w' hr' hx hd hk => evS_sound hG hcall l fr' M' g' a' w' hr' hk (hK.after hx hd))
        (fun v c fr' M' g' a' w' hr' hx hd hv hk => hK (.panic v) fr' M' g' a' w' hr' hx hd hk c hv)
    have skip : ∀ {fr1 : Fr}, fr1 = fr → evS cx fn call ops l (fr1.set o.dst undefV) M K = some r → wpList cx.P ops Q l (a.put o.dst undef) w := by
      intro fr1 e h1
      subst e
      exact evS_sound hG hcall l _ M g _ w (hr.setUndef o.dst) h1 (hK.after (Ext.refl _ _ _ _) (put_defers _ _ _))
    have same : ∀ {gd : Nat} {b : Bool}, fr.tmps.getD gd .dead = .bool b → Fr.mk (fr.tmps.set gd (.bool b)) fr.tf = fr := fun e => by rw [set_getD e]
    simp only [evS] at h
    show if Region.wanted o (yielded ops a.tmps) then o.wp cx.P a w (wpList cx.P ops Q l) Q ∨ (o.asks cx.P a w ∧ LetsOut Q) else wpList cx.P ops Q l (a.put o.dst undef) w
    split at h
    · rename_i hg
      rw [if_pos (by simp [Region.wanted, hg])]
      exact .inl (run rfl h)
    · rename_i j want hg
      split at h
      · exact absurd h (by simp)
      · rename_i gd hgd
        split at h
        · rename_i b hb
          have hw := wanted_bool hr hg hgd hb
          cases b <;> cases want <;> simp only [cond_true, cond_false, if_true, if_false, Bool.false_eq_true, reduceCtorEq] at h
          · rw [if_pos (by rw [hw]; rfl)]; exact .inl (run (same hb) h)
          · rw [if_neg (by rw [hw]; decide)]; exact skip (same hb) h
          · rw [if_neg (by rw [hw]; decide)]; exact skip (same hb) h
          · rw [if_pos (by rw [hw]; rfl)]; exact .inl (run (same hb) h)
        · rename_i hb
          rw [if_neg (by rw [wanted_none hr hg hgd hb]; decide)]
          exact skip rfl h
        · exact absurd h (by simp)
theorem evT_spec {t : T} {D all : List Nat} {K : AX → Fr → Mm → Option R} (h : evT t D all fr M K = some r) : ∃ tm, t.merge D = some (true, tm) ∧ K .normal { tmps := tm, tf := dropTs all fr.tf } M = some r := by
  unfold evT at h
  split at h
  · rename_i ok tm hm
    cases ok
    · exact absurd h (by simp)
    · exact ⟨tm, hm, h⟩
  · exact absurd h (by simp)
theorem cutK_sound {N' N : Nat} {k : Fr → Mm → Option R} {g0 : G} {wa : World} (hr : Rel (Env.mk (Ctx.P cx) N' S w0) d g fr M a w) (hx : Ext (Env.mk (Ctx.P cx) N' S w0) d g0 wa g w) (hN : g0.rows.length ≤ N) (h : cutK cx.P N k fr M = some r) :
    ∃ fr' M' g', Rel (Env.mk (Ctx.P cx) N' S w0) d g' fr' M' a w ∧ Ext (Env.mk (Ctx.P cx) N' S w0) d g0 wa g' w ∧ k fr' M' = some r := by
  unfold cutK at h
  split at h
  · rename_i hc
    simp only [Bool.and_eq_true] at hc
    exact ⟨_, _, _, hr.cut hc.1 hc.2, hx.cut hN, h⟩
  · exact ⟨fr, M, g, hr, hx, h⟩
theorem iter_sound {c : Code} {n : Nat} {ks : Option (List Nat × List Nat)} {K : AX → Fr → Mm → Option R} {Q : Exit → Act → World → Prop}
    (hc : ∀ (K' : AX → Fr → Mm → Option R) (Q' : Exit → Act → World → Prop) (fr : Fr) (M : Mm) (g : G) (a : Act) (w : World), Rel (Env.mk (Ctx.P cx) N S w0) d g fr M a w → evC cx fn call dep c fr M K' = some r → Kx (Env.mk (Ctx.P cx) N S w0) d g w a K' r Q' → c.wp cx.P Q' a w) :
    ∀ (m : Nat) (fr : Fr) (M : Mm) (g : G) (a : Act) (w : World), Rel (Env.mk (Ctx.P cx) N S w0) d g fr M a w → g.rows.length ≤ n → iter m (fun fr M k => evC cx fn call dep c fr M (roundK cx.P n ks K k)) fr M = some r → Kx (Env.mk (Ctx.P cx) N S w0) d g w a K r Q →
      (Code.loop c).wp cx.P Q a w := by
  intro m fr M g a w hr hn h hK
  /- rounds left, as the measure -/
  refine wp_loop_fuel (m := m) (I := fun k a' w' => ∃ fr' M' g', Rel (Env.mk (Ctx.P cx) N S w0) d g' fr' M' a' w' ∧ Ext (Env.mk (Ctx.P cx) N S w0) d g w g' w' ∧ a'.defers = a.defers ∧ iter k (fun fr M k => evC cx fn call dep c fr M (roundK cx.P n ks K k)) fr' M' = some r) ⟨fr, M, g, hr, Ext.refl _ _ _ _, rfl, h⟩ ?_ ?_
  · rintro a' w' ⟨fr', M', g', _, _, _, h0⟩
    simp [iter] at h0
  · rintro k a' w' ⟨fr', M', g', hr', hx', hd', h'⟩
    refine hc _ _ fr' M' g' a' w' hr' h' ?_
    intro x fr2 M2 g2 a2 w2 hr2 hx2 hd2 hk2
    have hx := hx'.trans hx2
    have hd := hd2.trans hd'
    cases ks with
    | none =>
      cases x with
      | normal => exact ⟨fr2, M2, g2, hr2, hx, hd, hk2⟩
      | exit i => exact hK (.exit i) _ M2 g2 a2 w2 hr2 hx hd hk2
      | ret => exact hK .ret _ M2 g2 a2 w2 hr2 hx hd hk2
      | panic v => exact hK (.panic v) _ M2 g2 a2 w2 hr2 hx hd hk2
    | some ks =>
      cases x with
      | normal =>
        obtain ⟨fr3, M3, g3, h1, h2, h3⟩ := cutK_sound (hr2.only _) hx hn hk2
        exact ⟨fr3, M3, g3, h1, h2, hd, h3⟩
      | exit i =>
        obtain ⟨fr3, M3, g3, h1, h2, h3⟩ := cutK_sound (hr2.only _) hx hn hk2
        exact hK (.exit i) fr3 M3 g3 a2 w2 h1 h2 hd h3
      | ret =>
        obtain ⟨fr3, M3, g3, h1, h2, h3⟩ := cutK_sound (hr2.only _) hx hn hk2
        exact hK .ret fr3 M3 g3 a2 w2 h1 h2 hd h3
      | panic v => exact hK (.panic v) _ M2 g2 a2 w2 (hr2.only _) hx hd hk2
theorem namedBy_mem {id : Nat} : ∀ {l : List Code} {c : Code}, c ∈ l → loopId c = id → c ∈ namedBy id l
  | [], c, h, _ => by simp at h
  | x :: l, c, h, hi => by
    simp only [namedBy]
    rcases List.mem_cons.1 h with rfl | h
    · rw [if_pos (by rw [hi]; simp)]
      exact List.mem_cons_self
    · split
      · exact List.mem_cons_of_mem _ (namedBy_mem h hi)
      · exact namedBy_mem h hi
theorem loopAt_mem {body c l : Code} (h : c ∈ loops body) (hl : loopAt body (loopId c) = some l) : l = c := by
  have hm := namedBy_mem h rfl
  unfold loopAt at hl
  split at hl
  · rename_i l' e
    rw [e] at hm
    obtain rfl := Option.some.inj hl
    exact (List.mem_singleton.1 hm).symm
  · exact absurd hl (by simp)
theorem evC_sound (hG : cx.Good) (hL : cx.Loops) {func : Func} {body : Code} (hfn : cx.P.funcs[fn]? = some func) (hbody : func.body = some body) (hdep : call = evF cx dep) (hcall : CallSound cx call) : ∀ (c : Code) (hsub : ∀ l ∈ loops c, l ∈ loops body) (K : AX → Fr → Mm → Option R) (Q : Exit → Act → World → Prop) (fr : Fr) (M : Mm) (g : G) (a : Act) (w : World),
    Rel (Env.mk (Ctx.P cx) N S w0) d g fr M a w → evC cx fn call dep c fr M K = some r → Kx (Env.mk (Ctx.P cx) N S w0) d g w a K r Q → c.wp cx.P Q a w
  | .skip, hsub, K, Q, fr, M, g, a, w, hr, h, hK => wp_skip (hK .normal fr M g a w hr (Ext.refl _ _ _ _) rfl h)
  | .label l, hsub, K, Q, fr, M, g, a, w, hr, h, hK => wp_label (hK .normal fr M g a w hr (Ext.refl _ _ _ _) rfl h)
  | .exit id, hsub, K, Q, fr, M, g, a, w, hr, h, hK => wp_exit (hK (.exit id) fr M g a w hr (Ext.refl _ _ _ _) rfl h)
  | .ret, hsub, K, Q, fr, M, g, a, w, hr, h, hK => wp_ret (hK .ret fr M g a w hr (Ext.refl _ _ _ _) rfl h)
  | .seq x y, hsub, K, Q, fr, M, g, a, w, hr, h, hK => by
    refine wp_seq (evC_sound hG hL hfn hbody hdep hcall x (fun l hl => hsub l (List.mem_append_left _ hl)) _ _ fr M g a w hr h fun e fr' M' g' a' w' hr' hx hd hk => ?_)
    cases e with
    | normal => exact evC_sound hG hL hfn hbody hdep hcall y (fun l hl => hsub l (List.mem_append_right _ hl)) K Q fr' M' g' a' w' hr' hk (hK.after hx hd)
    | exit i => exact hK (.exit i) fr' M' g' a' w' hr' hx hd hk
    | ret => exact hK .ret fr' M' g' a' w' hr' hx hd hk
    | panic v => exact hK (.panic v) fr' M' g' a' w' hr' hx hd hk
  | .block id x, hsub, K, Q, fr, M, g, a, w, hr, h, hK => by
    refine wp_block (evC_sound hG hL hfn hbody hdep hcall x hsub _ _ fr M g a w hr h fun e fr' M' g' a' w' hr' hx hd hk => ?_)
    cases e with
    | normal => exact hK .normal fr' M' g' a' w' hr' hx hd hk
    | exit i =>
      show Exit.inBlock id Q (.exit i) a' w'
      simp only [Exit.inBlock]
      simp only at hk
      by_cases hi : i = id
      · rw [if_pos hi]
        rw [if_pos (by rw [hi]; simp)] at hk
        exact hK .normal fr' M' g' a' w' hr' hx hd hk
      · rw [if_neg hi]
        rw [if_neg (fun e => hi (Nat.eq_of_beq_eq_true e))] at hk
        exact hK (.exit i) fr' M' g' a' w' hr' hx hd hk
    | ret => exact hK .ret fr' M' g' a' w' hr' hx hd hk
    | panic v => exact hK (.panic v) fr' M' g' a' w' hr' hx hd hk
  | .loop x, hsub, K, Q, fr, M, g, a, w, hr, h, hK => by
    have hx : ∀ (K' : AX → Fr → Mm → Option R) (Q' : Exit → Act → World → Prop) (fr : Fr) (M : Mm) (g : G) (a : Act) (w : World), Rel (Env.mk (Ctx.P cx) N S w0) d g fr M a w → evC cx fn call dep x fr M K' = some r → Kx (Env.mk (Ctx.P cx) N S w0) d g w a K' r Q' → x.wp cx.P Q' a w :=
      fun K' Q' fr M g a w => evC_sound hG hL hfn hbody hdep hcall x (fun l hl => hsub l (List.mem_cons_of_mem _ hl)) K' Q' fr M g a w
    unfold evC at h
    split at h
    · rename_i t ht
      obtain ⟨l, hl, hgo⟩ := hL _ _ _ _ _ _ ht func body hfn hbody
      obtain rfl := loopAt_mem (hsub x (by simp [loops])) hl
      exact iter_sound hx cx.n _ M g a w (hr.only _) (by rw [hr.lenr]; exact Nat.le_refl _) (by rw [hdep]; exact hgo _ K r h) hK
    · exact iter_sound hx cx.n _ M g a w (hr.only _) (by rw [hr.lenr]; exact Nat.le_refl _) h hK
  | .cond c x y, hsub, K, Q, fr, M, g, a, w, hr, h, hK => by
    unfold evC at h
    split at h
    · rename_i t ht
      have hcv : relV cx.P (xOf (Env.mk (Ctx.P cx) N S w0) g w) (.bool t) (a.eval c) := ht ▸ hr.opnd 0 c
      have he := relV_bool.1 hcv
      split at h
      · rename_i hp
        obtain ⟨tm, hm, hk⟩ := evT_spec h
        have hall : (T.br t (codeK cx M x fr.tmps .leaf) (codeK cx M y fr.tmps .leaf)).All (Out (dstsC x ++ dstsC y) fr.tmps) :=
          ⟨codeK_all (k := T.leaf) x fr.tmps (fun t ht => List.mem_append_left _ ht) (fun tm h => h) (Out.refl _ _), codeK_all (k := T.leaf) y fr.tmps (fun t ht => List.mem_append_right _ ht) (fun tm h => h) (Out.refl _ _)⟩
        obtain ⟨res, hat, hs⟩ := (merge_at hall hm).2 rfl
        have hpure : pureCode cx (.cond c x y) = true := hp
        have hat' : (codeT cx M (.cond c x y) fr.tmps .leaf).at = some res := by
          unfold codeT
          rw [ht]
          rw [← hat]
          cases t
          · exact (codeK_at y fr.tmps fun _ => rfl).symm
          · exact (codeK_at x fr.tmps fun _ => rfl).symm
        refine codeT_sound hG (clean_dropTs (dstsC x ++ dstsC y) fr.tf) (.cond c x y) fr.tmps a w hpure (fun t ht => ht) hat' (hr.drops (dstsC x ++ dstsC y)) fun tm' a' w' hr' hb hd hk' => ?_
        simp only [T.at, Option.some.injEq] at hk'
        subst hk'
        exact hK .normal _ M g a' w' (hr'.same hs) (Ext.of_below hb) hd hk
      · refine wp_cond_split he (fun e => ?_) (fun e => ?_)
        · subst e; exact evC_sound hG hL hfn hbody hdep hcall x (fun l hl => hsub l (List.mem_append_left _ hl)) K Q fr M g a w hr (by simpa using h) hK
        · subst e; exact evC_sound hG hL hfn hbody hdep hcall y (fun l hl => hsub l (List.mem_append_right _ hl)) K Q fr M g a w hr (by simpa using h) hK
    · exact absurd h (by simp)
  | .region id ops draw, hsub, K, Q, fr, M, g, a, w, hr, h, hK => by
    unfold evC at h
    split at h
    · split at h
      · exact absurd h (by simp)
      · rename_i hnd
        have hdr := hr.drops (guardsOf ops ops.toList ++ dstsOf ops.toList)
        have hcl := clean_dropTs (guardsOf ops ops.toList ++ dstsOf ops.toList) fr.tf
        split at h
        · rename_i hdl
          simp only [Bool.and_eq_true] at hdl
          have hdraw : draw = true := hdl.1
          subst hdraw
          simp only [Bool.true_and, Bool.not_eq_true', Bool.not_eq_false, Bool.and_eq_true] at hnd
          split at h
          · rename_i last hlast
            split at h
            · rename_i hb2
              simp only [Bool.and_eq_true] at hb2
              obtain ⟨hgl, hbl⟩ := hb2
              have hgl : last.guard = none := by simpa using hgl
              obtain ⟨tm, hm, hk⟩ := evT_spec h
              have hsub1 : ∀ {t : Nat} {l : List Oper} {n : Nat}, t ∈ guardsOf ops (l.take n) → t ∈ guardsOf ops l := by
                intro t l
                induction l with
                | nil => intro n ht; simpa using ht
                | cons x l ih =>
                  intro n ht
                  cases n with
                  | zero => simp [guardsOf] at ht
                  | succ n =>
                    rw [List.take_succ_cons] at ht
                    simp only [guardsOf] at ht ⊢
                    split at ht
                    · split at ht
                      · rename_i gg hgg
                        rcases List.mem_cons.1 ht with rfl | ht
                        · exact List.mem_cons_self
                        · exact List.mem_cons_of_mem _ (ih ht)
                      · exact ih ht
                    · exact ih ht
              have hsub2 : ∀ {t : Nat} {l : List Oper} {n : Nat}, t ∈ dstsOf (l.take n) → t ∈ dstsOf l := by
                intro t l
                induction l with
                | nil => intro n ht; simpa using ht
                | cons x l ih =>
                  intro n ht
                  cases n with
                  | zero => simp [dstsOf] at ht
                  | succ n =>
                    rw [List.take_succ_cons] at ht
                    simp only [dstsOf] at ht ⊢
                    split at ht
                    · rcases List.mem_cons.1 ht with rfl | ht
                      · exact List.mem_cons_self
                      · exact List.mem_cons_of_mem _ (ih ht)
                    · exact ih ht
              have hsub3 : ∀ {t : Nat} {l : List Oper} {n : Nat}, t ∈ guardDsts (l.take n) → t ∈ guardDsts l := by
                intro t l
                induction l with
                | nil => intro n ht; simpa using ht
                | cons x l ih =>
                  intro n ht
                  cases n with
                  | zero => simp [guardDsts] at ht
                  | succ n =>
                    rw [List.take_succ_cons] at ht
                    simp only [guardDsts] at ht ⊢
                    split at ht
                    · rename_i hgx
                      rw [if_pos hgx]
                      rw [List.append_nil] at ht ⊢
                      have := hsub2 (n := n + 1) (l := x :: l) (t := t) (by rw [List.take_succ_cons]; exact ht)
                      exact this
                    · rename_i hgx
                      rw [if_neg hgx]
                      exact ih ht
              obtain ⟨res, hatK, hs⟩ := region_at (ops.toList.take (ops.size - 1)) [] fr.tmps (fun t ht => List.mem_append_left _ (hsub1 ht)) (fun t ht => List.mem_append_right _ (hsub3 ht)) hm
              have hat : (opsT cx M ops (ops.toList.take (ops.size - 1)) fr.tmps .leaf).at = some res := (opsK_at (fun _ => rfl) (ops.toList.take (ops.size - 1)) [] fr.tmps (KnOK.nil _)).symm.trans hatK
              refine wp_drawL hG hcl (fun t ht => List.mem_append_right _ ht) hnd.2 hnd.1 hbl hlast hgl hat hdr fun a' w' hr' hb hd => ?_
              refine evO_sound hG hcall (hr'.same hs) hk (fun fr2 M2 g2 a2 w2 hr2 hx2 hd2 hk2 => ?_) (fun v c fr2 M2 g2 a2 w2 hr2 hx2 hd2 hv hk2 => ?_)
              · exact hK .normal fr2 M2 g2 a2 w2 hr2 ((Ext.of_below hb).trans hx2) (hd2.trans hd) hk2
              · exact hK (.panic v) fr2 M2 g2 a2 w2 hr2 ((Ext.of_below hb).trans hx2) (hd2.trans hd) hk2 c hv
            · exact absurd h (by simp)
          · exact absurd h (by simp)
        · obtain ⟨tm, hm, hk⟩ := evT_spec h
          obtain ⟨res, hatK, hs⟩ := region_at ops.toList [] fr.tmps (fun t ht => List.mem_append_left _ ht) (fun t ht => List.mem_append_right _ ht) hm
          have hat : (opsT cx M ops ops.toList fr.tmps .leaf).at = some res := (opsK_at (fun _ => rfl) ops.toList [] fr.tmps (KnOK.nil _)).symm.trans hatK
          have fin : ∀ a' w', Rel (Env.mk (Ctx.P cx) N S w0) d g ⟨res, dropTs (guardsOf ops ops.toList ++ dstsOf ops.toList) fr.tf⟩ M a' w' → Below w.heap.size w w' → a'.defers = a.defers → Q .normal a' w' := fun a' w' hr' hb hd =>
            hK .normal _ M g a' w' (hr'.same hs) (Ext.of_below hb) hd hk
          cases draw with
          | true =>
            simp only [Bool.true_and, Bool.not_eq_true', Bool.not_eq_false, Bool.and_eq_true] at hnd
            exact wp_draw hG hcl (fun t ht => List.mem_append_right _ ht) hnd.2 hnd.1 hat hdr fin
          | false =>
            refine wp_region_list (opsT_sound hG hcl ops.toList fr.tmps a w (fun t ht => List.mem_append_right _ ht) hat hdr fun tm' a' w' hr' hb hd hk' => ?_)
            simp only [T.at, Option.some.injEq] at hk'
            subst hk'
            exact fin a' w' hr' hb hd
    · rename_i hnd
      have hdraw : draw = false := by
        cases draw
        · rfl
        · simp at hnd
      subst hdraw
      exact wp_region_list (evS_sound hG hcall ops.toList fr M g a w hr h hK)
  | .rangeFunc .., hsub, K, Q, fr, M, g, a, w, hr, h, hK => by simp [evC] at h
  | .scope .., hsub, K, Q, fr, M, g, a, w, hr, h, hK => by simp [evC] at h
  | .goto .., hsub, K, Q, fr, M, g, a, w, hr, h, hK => by simp [evC] at h
  | .refuse .., hsub, K, Q, fr, M, g, a, w, hr, h, hK => by simp [evC] at h
end
end Go.AE

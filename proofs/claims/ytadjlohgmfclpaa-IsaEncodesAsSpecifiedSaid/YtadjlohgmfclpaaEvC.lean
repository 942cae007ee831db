/- The abstract evaluator: what it says of the model, part 3. -/
import Derived.Test.YtadjlohgmfclpaaEvB
import Derived.ProofKit
import Derived.OpenShut
import Derived.ChangeOld
import Derived.DataReads
import Derived.Handed
import Derived.Carry
import Derived.JoinedOf
set_option linter.unusedVariables false
set_option linter.unusedSimpArgs false
/- What the evaluator says of code is so. -/
namespace Go.AE
open Go.RowKit Go.Lib
/-- A loop whose rounds are counted. -/
theorem wp_loop_fuel {P : Program} {c : Code} {Q : Exit → Act → World → Prop} {a : Act} {w : World} {m : Nat} {I : Nat → Act → World → Prop} (h0 : I m a w) (hz : ∀ a w, ¬ I 0 a w)
    (round : ∀ k a w, I (k + 1) a w → c.wp P (Exit.then (I k) Q) a w) : (Code.loop c).wp P Q a w := by
  intro b k cs
  have key : ∀ n a w, I n a w → ∃ e a' w', Q e a' w' ∧ Arrives P (lone (b.at a (.code c :: .inLoop c :: k)) cs w) b k cs e a' w' := by
    intro n
    induction n with
    | zero => exact fun a w h => absurd h (hz a w)
    | succ n ih =>
      intro a w hI
      obtain ⟨e, a₁, w₁, hq, harr⟩ := round n a w hI b (.inLoop c :: k) cs
      cases e with
      | normal =>
        obtain ⟨e₂, a₂, w₂, hq₂, harr₂⟩ := ih a₁ w₁ hq
        exact ⟨e₂, a₂, w₂, hq₂, .of_steps (Steps.trans harr (.one step_inLoop)) harr₂⟩
      | exit id => exact ⟨_, a₁, w₁, hq, .pass (x := .inLoop c) rfl (fun _ _ => .inl (by simp)) harr⟩
      | goto l => exact ⟨_, a₁, w₁, hq, .pass (x := .inLoop c) rfl (fun _ _ => .inl (by simp)) harr⟩
      | ret => exact ⟨_, a₁, w₁, hq, .pass (x := .inLoop c) rfl (fun _ _ => .inl (by simp)) harr⟩
      | panic ch => exact ⟨_, a₁, w₁, hq, .pass (x := .inLoop c) rfl (fun _ _ => .inl (by simp)) harr⟩
      | outgrown => exact ⟨_, a₁, w₁, hq, .pass (x := .inLoop c) rfl (fun _ _ => .inl (by simp)) harr⟩
  obtain ⟨e, a', w', hq, harr⟩ := key m a w h0
  exact ⟨e, a', w', hq, .of_steps (.one step_loop) harr⟩
section
variable {R : Type} {cx : Ctx} {N d : Nat} {S : Nat → Nat → Prop} {w0 : World} {g : G} {fr : Fr} {M : Mm} {a : Act} {w : World}
variable {fn : FuncId} {dep : Nat} {call : CallH R} {r : R}

/-- What is asked of an exit. -/
def QX (E : Env) (g' : G) (Q : Exit → Act → World → Prop) (x : AX) (a' : Act) (w' : World) : Prop :=
  match x with
  | .normal => Q .normal a' w'
  | .exit i => Q (.exit i) a' w'
  | .ret => Q .ret a' w'
  | .panic v => ∀ c, relV E.P (xOf E g' w') v c → Q (.panic [{ v := c, recovered := false }]) a' w'
/-- Whatever comes behind goes through. -/
def Kx (E : Env) (d : Nat) (g : G) (w : World) (a : Act) (K : AX → Fr → Mm → Option R) (r : R) (Q : Exit → Act → World → Prop) : Prop :=
  ∀ x fr' M' g' a' w', Rel E d g' fr' M' a' w' → Ext E d g w g' w' → a'.defers = a.defers → K x fr' M' = some r → QX E g' Q x a' w'
theorem Kx.after {E : Env} {K : AX → Fr → Mm → Option R} {Q : Exit → Act → World → Prop} (h : Kx E d g w a K r Q) {g1 : G} {w1 : World} {a1 : Act} (hx : Ext E d g w g1 w1) (hd : a1.defers = a.defers) : Kx E d g1 w1 a1 K r Q :=
  fun x fr' M' g' a' w' h1 h2 h3 h4 => h x fr' M' g' a' w' h1 (hx.trans h2) (h3.trans hd) h4
theorem evS_sound (hG : cx.Good) (hcall : CallSound cx call) {ops : Array Oper} {K : AX → Fr → Mm → Option R} {Q : Exit → Act → World → Prop} : ∀ (l : List Oper) (fr : Fr) (M : Mm) (g : G) (a : Act) (w : World),
    Rel (Env.mk (Ctx.P cx) N S w0) d g fr M a w → evS cx fn call ops l fr M K = some r → Kx (Env.mk (Ctx.P cx) N S w0) d g w a K r Q → wpList cx.P ops Q l a w
  | [], fr, M, g, a, w, hr, h, hK => hK .normal fr M g a w hr (Ext.refl _ _ _ _) rfl h
  | o :: l, fr, M, g, a, w, hr, h, hK => by
    have run : ∀ {fr1 : Fr}, fr1 = fr → evO cx fn call o fr1 M (fun fr M => evS cx fn call ops l fr M K) (fun v fr M => K (.panic v) fr M) = some r → o.wp cx.P a w (wpList cx.P ops Q l) Q := by
      intro fr1 e h1
      subst e
      exact evO_sound hG hcall hr h1 (fun fr' M' g' a' w' hr' hx hd hk => evS_sound hG hcall l fr' M' g' a' w' hr' hk (hK.after hx hd))
        (fun v c fr' M' g' a' w' hr' hx hd hv hk => hK (.panic v) fr' M' g' a' w' hr' hx hd hk c hv)
    have skip : ∀ {fr1 : Fr}, fr1 = fr → evS cx fn call ops l (fr1.set o.dst undefV) M K = some r → wpList cx.P ops Q l (a.put o.dst undef) w := by
      intro fr1 e h1
      subst e
      exact evS_sound hG hcall l _ M g _ w (hr.setUndef o.dst) h1 (hK.after (Ext.refl _ _ _ _) (put_defers _ _ _))
    have same : ∀ {gd : Nat} {b : Bool}, fr.tmps.getD gd .dead = .bool b → Fr.mk (fr.tmps.set gd (.bool b)) fr.tf = fr := fun e => by rw [set_getD e]
    simp only [evS] at h
    show if Region.wanted o (yielded ops a.tmps) then o.wp cx.P a w (wpList cx.P ops Q l) Q ∨ (o.asks cx.P a w ∧ LetsOut Q) else wpList cx.P ops Q l (a.put o.dst undef) w
    split at h
    · rename_i hg
      rw [if_pos (by simp [Region.wanted, hg])]
      exact .inl (run rfl h)
    · rename_i j want hg
      split at h
      · exact absurd h (by simp)
      · rename_i gd hgd
        split at h
        · rename_i b hb
          have hw := wanted_bool hr hg hgd hb
          cases b <;> cases want <;> simp only [cond_true, cond_false, if_true, if_false, Bool.false_eq_true, reduceCtorEq] at h
          · rw [if_pos (by rw [hw]; rfl)]; exact .inl (run (same hb) h)
          · rw [if_neg (by rw [hw]; decide)]; exact skip (same hb) h
          · rw [if_neg (by rw [hw]; decide)]; exact skip (same hb) h
          · rw [if_pos (by rw [hw]; rfl)]; exact .inl (run (same hb) h)
        · rename_i hb
          rw [if_neg (by rw [wanted_none hr hg hgd hb]; decide)]
          exact skip rfl h
        · exact absurd h (by simp)
theorem evT_spec {t : T} {D all : List Nat} {K : AX → Fr → Mm → Option R} (h : evT t D all fr M K = some r) : ∃ tm, t.merge D = some (true, tm) ∧ K .normal { tmps := tm, tf := dropTs all fr.tf } M = some r := by
  unfold evT at h
  split at h
  · rename_i ok tm hm
    cases ok
    · exact absurd h (by simp)
    · exact ⟨tm, hm, h⟩
  · exact absurd h (by simp)
theorem cutK_sound {N' N : Nat} {k : Fr → Mm → Option R} {g0 : G} {wa : World} (hr : Rel (Env.mk (Ctx.P cx) N' S w0) d g fr M a w) (hx : Ext (Env.mk (Ctx.P cx) N' S w0) d g0 wa g w) (hN : g0.rows.length ≤ N) (h : cutK cx.P N k fr M = some r) :
    ∃ fr' M' g', Rel (Env.mk (Ctx.P cx) N' S w0) d g' fr' M' a w ∧ Ext (Env.mk (Ctx.P cx) N' S w0) d g0 wa g' w ∧ k fr' M' = some r := by
  unfold cutK at h
  split at h
  · rename_i hc
    simp only [Bool.and_eq_true] at hc
    exact ⟨_, _, _, hr.cut hc.1 hc.2, hx.cut hN, h⟩
  · exact ⟨fr, M, g, hr, hx, h⟩
theorem iter_sound {c : Code} {n : Nat} {ks : Option (List Nat × List Nat)} {K : AX → Fr → Mm → Option R} {Q : Exit → Act → World → Prop}
    (hc : ∀ (K' : AX → Fr → Mm → Option R) (Q' : Exit → Act → World → Prop) (fr : Fr) (M : Mm) (g : G) (a : Act) (w : World), Rel (Env.mk (Ctx.P cx) N S w0) d g fr M a w → evC cx fn call dep c fr M K' = some r → Kx (Env.mk (Ctx.P cx) N S w0) d g w a K' r Q' → c.wp cx.P Q' a w) :
    ∀ (m : Nat) (fr : Fr) (M : Mm) (g : G) (a : Act) (w : World), Rel (Env.mk (Ctx.P cx) N S w0) d g fr M a w → g.rows.length ≤ n → iter m (fun fr M k => evC cx fn call dep c fr M (roundK cx.P n ks K k)) fr M = some r → Kx (Env.mk (Ctx.P cx) N S w0) d g w a K r Q →
      (Code.loop c).wp cx.P Q a w := by
  intro m fr M g a w hr hn h hK
  /- rounds left, as the measure -/
  refine wp_loop_fuel (m := m) (I := fun k a' w' => ∃ fr' M' g', Rel (Env.mk (Ctx.P cx) N S w0) d g' fr' M' a' w' ∧ Ext (Env.mk (Ctx.P cx) N S w0) d g w g' w' ∧ a'.defers = a.defers ∧ iter k (fun fr M k => evC cx fn call dep c fr M (roundK cx.P n ks K k)) fr' M' = some r) ⟨fr, M, g, hr, Ext.refl _ _ _ _, rfl, h⟩ ?_ ?_
  · rintro a' w' ⟨fr', M', g', _, _, _, h0⟩
    simp [iter] at h0
  · rintro k a' w' ⟨fr', M', g', hr', hx', hd', h'⟩
    refine hc _ _ fr' M' g' a' w' hr' h' ?_
    intro x fr2 M2 g2 a2 w2 hr2 hx2 hd2 hk2
    have hx := hx'.trans hx2
    have hd := hd2.trans hd'
    cases ks with
    | none =>
      cases x with
      | normal => exact ⟨fr2, M2, g2, hr2, hx, hd, hk2⟩
      | exit i => exact hK (.exit i) _ M2 g2 a2 w2 hr2 hx hd hk2
      | ret => exact hK .ret _ M2 g2 a2 w2 hr2 hx hd hk2
      | panic v => exact hK (.panic v) _ M2 g2 a2 w2 hr2 hx hd hk2
    | some ks =>
      cases x with
      | normal =>
        obtain ⟨fr3, M3, g3, h1, h2, h3⟩ := cutK_sound (hr2.only _) hx hn hk2
        exact ⟨fr3, M3, g3, h1, h2, hd, h3⟩
      | exit i =>
        obtain ⟨fr3, M3, g3, h1, h2, h3⟩ := cutK_sound (hr2.only _) hx hn hk2
        exact hK (.exit i) fr3 M3 g3 a2 w2 h1 h2 hd h3
      | ret =>
        obtain ⟨fr3, M3, g3, h1, h2, h3⟩ := cutK_sound (hr2.only _) hx hn hk2
        exact hK .ret fr3 M3 g3 a2 w2 h1 h2 hd h3
      | panic v => exact hK (.panic v) _ M2 g2 a2 w2 (hr2.only _) hx hd hk2
theorem namedBy_mem {id : Nat} : ∀ {l : List Code} {c : Code}, c ∈ l → loopId c = id → c ∈ namedBy id l
  | [], c, h, _ => by simp at h
  | x :: l, c, h, hi => by
    simp only [namedBy]
    rcases List.mem_cons.1 h with rfl | h
    · rw [if_pos (by rw [hi]; simp)]
      exact List.mem_cons_self
    · split
      · exact List.mem_cons_of_mem _ (namedBy_mem h hi)
      · exact namedBy_mem h hi
theorem loopAt_mem {body c l : Code} (h : c ∈ loops body) (hl : loopAt body (loopId c) = some l) : l = c := by
  have hm := namedBy_mem h rfl
  unfold loopAt at hl
  split at hl
  · rename_i l' e
    rw [e] at hm
    obtain rfl := Option.some.inj hl
    exact (List.mem_singleton.1 hm).symm
  · exact absurd hl (by simp)
theorem evC_sound (hG : cx.Good) (hL : cx.Loops) {func : Func} {body : Code} (hfn : cx.P.funcs[fn]? = some func) (hbody : func.body = some body) (hdep : call = evF cx dep) (hcall : CallSound cx call) : ∀ (c : Code) (hsub : ∀ l ∈ loops c, l ∈ loops body) (K : AX → Fr → Mm → Option R) (Q : Exit → Act → World → Prop) (fr : Fr) (M : Mm) (g : G) (a : Act) (w : World),
    Rel (Env.mk (Ctx.P cx) N S w0) d g fr M a w → evC cx fn call dep c fr M K = some r → Kx (Env.mk (Ctx.P cx) N S w0) d g w a K r Q → c.wp cx.P Q a w
  | .skip, hsub, K, Q, fr, M, g, a, w, hr, h, hK => wp_skip (hK .normal fr M g a w hr (Ext.refl _ _ _ _) rfl h)
  | .label l, hsub, K, Q, fr, M, g, a, w, hr, h, hK => wp_label (hK .normal fr M g a w hr (Ext.refl _ _ _ _) rfl h)
  | .exit id, hsub, K, Q, fr, M, g, a, w, hr, h, hK => wp_exit (hK (.exit id) fr M g a w hr (Ext.refl _ _ _ _) rfl h)
  | .ret, hsub, K, Q, fr, M, g, a, w, hr, h, hK => wp_ret (hK .ret fr M g a w hr (Ext.refl _ _ _ _) rfl h)
  | .seq x y, hsub, K, Q, fr, M, g, a, w, hr, h, hK => by
    refine wp_seq (evC_sound hG hL hfn hbody hdep hcall x (fun l hl => hsub l (List.mem_append_left _ hl)) _ _ fr M g a w hr h fun e fr' M' g' a' w' hr' hx hd hk => ?_)
    cases e with
    | normal => exact evC_sound hG hL hfn hbody hdep hcall y (fun l hl => hsub l (List.mem_append_right _ hl)) K Q fr' M' g' a' w' hr' hk (hK.after hx hd)
    | exit i => exact hK (.exit i) fr' M' g' a' w' hr' hx hd hk
    | ret => exact hK .ret fr' M' g' a' w' hr' hx hd hk
    | panic v => exact hK (.panic v) fr' M' g' a' w' hr' hx hd hk
  | .block id x, hsub, K, Q, fr, M, g, a, w, hr, h, hK => by
    refine wp_block (evC_sound hG hL hfn hbody hdep hcall x hsub _ _ fr M g a w hr h fun e fr' M' g' a' w' hr' hx hd hk => ?_)
    cases e with
    | normal => exact hK .normal fr' M' g' a' w' hr' hx hd hk
    | exit i =>
      show Exit.inBlock id Q (.exit i) a' w'
      simp only [Exit.inBlock]
      simp only at hk
      by_cases hi : i = id
      · rw [if_pos hi]
        rw [if_pos (by rw [hi]; simp)] at hk
        exact hK .normal fr' M' g' a' w' hr' hx hd hk
      · rw [if_neg hi]
        rw [if_neg (fun e => hi (Nat.eq_of_beq_eq_true e))] at hk
        exact hK (.exit i) fr' M' g' a' w' hr' hx hd hk
    | ret => exact hK .ret fr' M' g' a' w' hr' hx hd hk
    | panic v => exact hK (.panic v) fr' M' g' a' w' hr' hx hd hk
  | .loop x, hsub, K, Q, fr, M, g, a, w, hr, h, hK => by
    have hx : ∀ (K' : AX → Fr → Mm → Option R) (Q' : Exit → Act → World → Prop) (fr : Fr) (M : Mm) (g : G) (a : Act) (w : World), Rel (Env.mk (Ctx.P cx) N S w0) d g fr M a w → evC cx fn call dep x fr M K' = some r → Kx (Env.mk (Ctx.P cx) N S w0) d g w a K' r Q' → x.wp cx.P Q' a w :=
      fun K' Q' fr M g a w => evC_sound hG hL hfn hbody hdep hcall x (fun l hl => hsub l (List.mem_cons_of_mem _ hl)) K' Q' fr M g a w
    unfold evC at h
    split at h
    · rename_i t ht
      obtain ⟨l, hl, hgo⟩ := hL _ _ _ _ _ _ ht func body hfn hbody
      obtain rfl := loopAt_mem (hsub x (by simp [loops])) hl
      exact iter_sound hx cx.n _ M g a w (hr.only _) (by rw [hr.lenr]; exact Nat.le_refl _) (by rw [hdep]; exact hgo _ K r h) hK
    · exact iter_sound hx cx.n _ M g a w (hr.only _) (by rw [hr.lenr]; exact Nat.le_refl _) h hK
  | .cond c x y, hsub, K, Q, fr, M, g, a, w, hr, h, hK => by
    unfold evC at h
    split at h
    · rename_i t ht
      have hcv : relV cx.P (xOf (Env.mk (Ctx.P cx) N S w0) g w) (.bool t) (a.eval c) := ht ▸ hr.opnd 0 c
      have he := relV_bool.1 hcv
      split at h
      · rename_i hp
        obtain ⟨tm, hm, hk⟩ := evT_spec h
        have hall : (T.br t (codeK cx M x fr.tmps .leaf) (codeK cx M y fr.tmps .leaf)).All (Out (dstsC x ++ dstsC y) fr.tmps) :=
          ⟨codeK_all (k := T.leaf) x fr.tmps (fun t ht => List.mem_append_left _ ht) (fun tm h => h) (Out.refl _ _), codeK_all (k := T.leaf) y fr.tmps (fun t ht => List.mem_append_right _ ht) (fun tm h => h) (Out.refl _ _)⟩
        obtain ⟨res, hat, hs⟩ := (merge_at hall hm).2 rfl
        have hpure : pureCode cx (.cond c x y) = true := hp
        have hat' : (codeT cx M (.cond c x y) fr.tmps .leaf).at = some res := by
          unfold codeT
          rw [ht]
          rw [← hat]
          cases t
          · exact (codeK_at y fr.tmps fun _ => rfl).symm
          · exact (codeK_at x fr.tmps fun _ => rfl).symm
        refine codeT_sound hG (clean_dropTs (dstsC x ++ dstsC y) fr.tf) (.cond c x y) fr.tmps a w hpure (fun t ht => ht) hat' (hr.drops (dstsC x ++ dstsC y)) fun tm' a' w' hr' hb hd hk' => ?_
        simp only [T.at, Option.some.injEq] at hk'
        subst hk'
        exact hK .normal _ M g a' w' (hr'.same hs) (Ext.of_below hb) hd hk
      · refine wp_cond_split he (fun e => ?_) (fun e => ?_)
        · subst e; exact evC_sound hG hL hfn hbody hdep hcall x (fun l hl => hsub l (List.mem_append_left _ hl)) K Q fr M g a w hr (by simpa using h) hK
        · subst e; exact evC_sound hG hL hfn hbody hdep hcall y (fun l hl => hsub l (List.mem_append_right _ hl)) K Q fr M g a w hr (by simpa using h) hK
    · exact absurd h (by simp)
  | .region id ops draw, hsub, K, Q, fr, M, g, a, w, hr, h, hK => by
    unfold evC at h
    split at h
    · split at h
      · exact absurd h (by simp)
      · rename_i hnd
        have hdr := hr.drops (guardsOf ops ops.toList ++ dstsOf ops.toList)
        have hcl := clean_dropTs (guardsOf ops ops.toList ++ dstsOf ops.toList) fr.tf
        split at h
        · rename_i hdl
          simp only [Bool.and_eq_true] at hdl
          have hdraw : draw = true := hdl.1
          subst hdraw
          simp only [Bool.true_and, Bool.not_eq_true', Bool.not_eq_false, Bool.and_eq_true] at hnd
          split at h
          · rename_i last hlast
            split at h
            · rename_i hb2
              simp only [Bool.and_eq_true] at hb2
              obtain ⟨⟨hgl, hbl⟩, _⟩ := hb2
              have hgl : last.guard = none := by simpa using hgl
              obtain ⟨tm, hm, hk⟩ := evT_spec h
              have hsub1 : ∀ {t : Nat} {l : List Oper} {n : Nat}, t ∈ guardsOf ops (l.take n) → t ∈ guardsOf ops l := by
                intro t l
                induction l with
                | nil => intro n ht; simpa using ht
                | cons x l ih =>
                  intro n ht
                  cases n with
                  | zero => simp [guardsOf] at ht
                  | succ n =>
                    rw [List.take_succ_cons] at ht
                    simp only [guardsOf] at ht ⊢
                    split at ht
                    · split at ht
                      · rename_i gg hgg
                        rcases List.mem_cons.1 ht with rfl | ht
                        · exact List.mem_cons_self
                        · exact List.mem_cons_of_mem _ (ih ht)
                      · exact ih ht
                    · exact ih ht
              have hsub2 : ∀ {t : Nat} {l : List Oper} {n : Nat}, t ∈ dstsOf (l.take n) → t ∈ dstsOf l := by
                intro t l
                induction l with
                | nil => intro n ht; simpa using ht
                | cons x l ih =>
                  intro n ht
                  cases n with
                  | zero => simp [dstsOf] at ht
                  | succ n =>
                    rw [List.take_succ_cons] at ht
                    simp only [dstsOf] at ht ⊢
                    split at ht
                    · rcases List.mem_cons.1 ht with rfl | ht
                      · exact List.mem_cons_self
                      · exact List.mem_cons_of_mem _ (ih ht)
                    · exact ih ht
              have hsub3 : ∀ {t : Nat} {l : List Oper} {n : Nat}, t ∈ guardDsts (l.take n) → t ∈ guardDsts l := by
                intro t l
                induction l with
                | nil => intro n ht; simpa using ht
                | cons x l ih =>
                  intro n ht
                  cases n with
                  | zero => simp [guardDsts] at ht
                  | succ n =>
                    rw [List.take_succ_cons] at ht
                    simp only [guardDsts] at ht ⊢
                    split at ht
                    · rename_i hgx
                      rw [if_pos hgx]
                      rw [List.append_nil] at ht ⊢
                      have := hsub2 (n := n + 1) (l := x :: l) (t := t) (by rw [List.take_succ_cons]; exact ht)
                      exact this
                    · rename_i hgx
                      rw [if_neg hgx]
                      exact ih ht
              obtain ⟨res, hatK, hs⟩ := region_at (ops.toList.take (ops.size - 1)) [] fr.tmps (fun t ht => List.mem_append_left _ (hsub1 ht)) (fun t ht => List.mem_append_right _ (hsub3 ht)) hm
              have hat : (opsT cx M ops (ops.toList.take (ops.size - 1)) fr.tmps .leaf).at = some res := (opsK_at (fun _ => rfl) (ops.toList.take (ops.size - 1)) [] fr.tmps (KnOK.nil _)).symm.trans hatK
              refine wp_drawL hG hcl (fun t ht => List.mem_append_right _ ht) hnd.2 hnd.1 hbl hlast hgl hat hdr fun a' w' hr' hb hd => ?_
              refine evO_sound hG hcall (hr'.same hs) hk (fun fr2 M2 g2 a2 w2 hr2 hx2 hd2 hk2 => ?_) (fun v c fr2 M2 g2 a2 w2 hr2 hx2 hd2 hv hk2 => ?_)
              · exact hK .normal fr2 M2 g2 a2 w2 hr2 ((Ext.of_below hb).trans hx2) (hd2.trans hd) hk2
              · exact hK (.panic v) fr2 M2 g2 a2 w2 hr2 ((Ext.of_below hb).trans hx2) (hd2.trans hd) hk2 c hv
            · split at h
              · rename_i hreg
                exact wp_drawD hG hnd.2 hreg hr h fun tm M' g' a' w' hr' hx' hd' hk' => hK .normal _ M' g' a' w' hr' hx' hd' hk'
              · exact absurd h (by simp)
          · exact absurd h (by simp)
        · obtain ⟨tm, hm, hk⟩ := evT_spec h
          obtain ⟨res, hatK, hs⟩ := region_at ops.toList [] fr.tmps (fun t ht => List.mem_append_left _ ht) (fun t ht => List.mem_append_right _ ht) hm
          have hat : (opsT cx M ops ops.toList fr.tmps .leaf).at = some res := (opsK_at (fun _ => rfl) ops.toList [] fr.tmps (KnOK.nil _)).symm.trans hatK
          have fin : ∀ a' w', Rel (Env.mk (Ctx.P cx) N S w0) d g ⟨res, dropTs (guardsOf ops ops.toList ++ dstsOf ops.toList) fr.tf⟩ M a' w' → Below w.heap.size w w' → a'.defers = a.defers → Q .normal a' w' := fun a' w' hr' hb hd =>
            hK .normal _ M g a' w' (hr'.same hs) (Ext.of_below hb) hd hk
          cases draw with
          | true =>
            simp only [Bool.true_and, Bool.not_eq_true', Bool.not_eq_false, Bool.and_eq_true] at hnd
            exact wp_draw hG hcl (fun t ht => List.mem_append_right _ ht) hnd.2 hnd.1 hat hdr fin
          | false =>
            refine wp_region_list (opsT_sound hG hcl ops.toList fr.tmps a w (fun t ht => List.mem_append_right _ ht) hat hdr fun tm' a' w' hr' hb hd hk' => ?_)
            simp only [T.at, Option.some.injEq] at hk'
            subst hk'
            exact fin a' w' hr' hb hd
    · rename_i hnd
      have hdraw : draw = false := by
        cases draw
        · rfl
        · simp at hnd
      subst hdraw
      exact wp_region_list (evS_sound hG hcall ops.toList fr M g a w hr h hK)
  | .rangeFunc .., hsub, K, Q, fr, M, g, a, w, hr, h, hK => by simp [evC] at h
  | .scope .., hsub, K, Q, fr, M, g, a, w, hr, h, hK => by simp [evC] at h
  | .goto .., hsub, K, Q, fr, M, g, a, w, hr, h, hK => by simp [evC] at h
  | .refuse .., hsub, K, Q, fr, M, g, a, w, hr, h, hK => by simp [evC] at h
end
end Go.AE

/- Calls, and what a function answers to plain data. -/
namespace Go.AE
open Go.RowKit Go.Lib
section
variable {cx : Ctx} {N d : Nat} {S : Nat → Nat → Prop} {w0 : World} {g : G} {fr : Fr} {M : Mm} {a : Act} {w : World}

theorem loadPtr_run (hr : Rel (Env.mk (Ctx.P cx) N S w0) d g fr M a w) {rr : Nat} {p : List Nat} {t t' : TypeId} {off : Nat} {ca : Value} {v : AV} (hp : relV cx.P (xOf (Env.mk (Ctx.P cx) N S w0) g w) (.ptr rr p t' off) ca) (h : loadV cx.P M t (.ptr rr p t' off) = some v) :
    ∃ c, (do loadVar t (← asAddr ca) : Sem Value).run cx.P w = .ok c w ∧ relV cx.P (xOf (Env.mk (Ctx.P cx) N S w0) g w) v c := by
  obtain ⟨b, root, h1, h2, rfl⟩ := relV_ptr hp
  obtain ⟨cs, ty, k1, k2⟩ := rowOK_cells (hr.rowsOK rr b root h1) h2
  obtain ⟨pre, c, post, e1, e2, e3, e4, e5, _⟩ := rowC_path k2 h2
  simp only [loadV] at h
  split at h
  · rename_i hl
    obtain rfl := Option.some.inj h
    generalize (M.rows.getD rr (.arr 0 [])).get p = u at *
    have hf := fits_like hl e5
    have hcell : ∀ i u, c[i]? = some u → w.cell? ⟨b, off + i, none⟩ = some u := fun i u hu => by
      rw [cell_heap k1, ← Array.getElem?_toList, e1, List.append_assoc, ← e2, List.getElem?_append_right (by omega), Nat.add_sub_cancel_left, List.getElem?_append_left (List.getElem?_eq_some_iff.1 hu).1]
      exact hu
    have hrun := run_loadVar (w := w) (b := b) (o := off) hf e3 (by rw [e4, like_cells hl]) hcell
    exact ⟨_, by simp only [asAddr, Sem.run_bind, Sem.run_pure, Result.andThen_ok, hrun], relV_eta (fun h => absurd h (by simp)) hf (relV_of hf e3)⟩
  · exact absurd h (by simp)
def resRun (tmps : Array Value) : ResultVar → Sem Value
  | .tmp t => pure (tmps.getD t undef)
  | .cell a t => do loadVar t (← asAddr (tmps.getD a undef))
theorem resultsV_sound (hr : Rel (Env.mk (Ctx.P cx) N S w0) d g fr M a w) : ∀ (rs : List ResultVar) {vs : List AV}, resultsV cx.P M fr.tmps rs = some vs → ∃ cs, (rs.mapM (resRun a.tmps)).run cx.P w = .ok cs w ∧ relVs cx.P (xOf (Env.mk (Ctx.P cx) N S w0) g w) vs cs
  | [], vs, h => by
    simp only [resultsV, Option.some.injEq] at h
    subst h
    exact ⟨[], by simp, rfl⟩
  | rv :: rs, vs, h => by
    simp only [resultsV] at h
    split at h
    · exact absurd h (by simp)
    · rename_i vs' hvs
      obtain ⟨cs, k1, k2⟩ := resultsV_sound hr rs hvs
      split at h
      · rename_i t
        obtain rfl := Option.some.inj h
        exact ⟨a.tmps.getD t undef :: cs, by simp only [List.mapM_cons, resRun, Sem.run_bind, Sem.run_pure, Result.andThen_ok, k1], relVs_cons (hr.tmps t) k2⟩
      · rename_i ai t
        split at h
        · rename_i rr p t' o hp
          split at h
          · rename_i v hv
            obtain rfl := Option.some.inj h
            obtain ⟨c, m1, m2⟩ := loadPtr_run hr (hp ▸ hr.tmps ai) hv
            exact ⟨c :: cs, by simp only [List.mapM_cons, resRun, Sem.run_bind, m1, Sem.run_pure, Result.andThen_ok, k1] at m1 ⊢, relVs_cons m2 k2⟩
          · exact absurd h (by simp)
        · exact absurd h (by simp)
theorem resultV_sound (hr : Rel (Env.mk (Ctx.P cx) N S w0) d g fr M a w) {fn : Func} {v : AV} (h : resultV cx.P M fn fr.tmps = some v) : ∃ c, (results fn a.tmps).run cx.P w = .ok c w ∧ relV cx.P (xOf (Env.mk (Ctx.P cx) N S w0) g w) v c := by
  have hrun : ∀ {cs}, (fn.results.toList.mapM (resRun a.tmps)).run cx.P w = .ok cs w → (results fn a.tmps).run cx.P w = .ok (if h : cs.toArray.size = 1 then cs.toArray[0] else .tuple cs.toArray) w := by
    intro cs hcs
    have e : results fn a.tmps = (do let vs ← fn.results.mapM (resRun a.tmps); pure (if h : vs.size = 1 then vs[0] else .tuple vs)) := by
      unfold results
      congr 1
    rw [e, Array.mapM_eq_mapM_toList]
    simp only [Sem.run_bind, map_eq_pure_bind, hcs, Result.andThen_ok, Sem.run_pure]
  unfold resultV at h
  split at h
  · rename_i v' hv
    obtain rfl := Option.some.inj h
    obtain ⟨cs, k1, k2⟩ := resultsV_sound hr _ hv
    obtain ⟨c, r, rfl, m1, m2, m3⟩ := k2
    simp only [relVs] at m3
    subst m3
    exact ⟨_, hrun k1, ⟨c, by simp, m1, m2⟩⟩
  · rename_i vs hne hv
    obtain rfl := Option.some.inj h
    obtain ⟨cs, k1, k2⟩ := resultsV_sound hr _ hv
    have hlen := (relVs_getD k2).1
    have h1 : ¬ cs.toArray.size = 1 := fun e => by
      have : vs.length = 1 := by rw [hlen]; simpa using e
      match vs, this with
      | [v], _ => exact hne v rfl
    refine ⟨_, hrun k1, ?_⟩
    rw [dif_neg h1]
    have : rel cx.P (xOf (Env.mk (Ctx.P cx) N S w0) g w) (.tuple vs) [.tuple cs.toArray] := ⟨_, rfl, k2⟩
    exact relV_leaf this rfl
  · exact absurd h (by simp)
theorem relVs_undef {P : Program} {x : X} : ∀ n : Nat, relVs P x (List.replicate n undefV) (List.replicate n undef)
  | 0 => rfl
  | n + 1 => relVs_cons relV_undef (relVs_undef n)
end
section
variable {R : Type} {cx : Ctx}
theorem evF_sound (hG : cx.Good) (hL : cx.Loops) : ∀ n : Nat, CallSound (R := R) cx (evF cx n)
  | 0 => fun N S w0 d g M w f args cargs K r R' hr ha h hK => by simp [evF] at h
  | n + 1 => fun N S w0 d g M w f args cargs K r R' hr ha h hK => by
    simp only [evF] at h
    split at h
    · exact absurd h (by simp)
    · rename_i fn hfn
      split at h
      · exact absurd h (by simp)
      · rename_i c hb
        split at h
        · exact absurd h (by simp)
        · rename_i hname
          have hname' : ¬ fn.name = "runtime.NumGoroutine" := by simpa using hname
          refine ⟨by simp [callFunc, hfn, hname', hb], calls_of_wp hfn hb ?_⟩
          have hlen := (relVs_getD ha).1
          have hall : relVs cx.P (xOf (Env.mk cx.P N S w0) g w) (args ++ List.replicate (fn.ntmps - args.length) undefV) (cargs ++ Array.replicate (fn.ntmps - cargs.size) undef).toList := by
            rw [Array.toList_append, Array.toList_replicate]
            have : cargs.size = args.length := by rw [hlen]; simp
            rw [this]
            exact relVs_append ha (relVs_undef _)
          have hget := relVs_getD hall
          have h0 : Rel (Env.mk cx.P N S w0) d g { tmps := args ++ List.replicate (fn.ntmps - args.length) undefV, tf := [] } M { tmps := cargs ++ Array.replicate (fn.ntmps - cargs.size) undef, defers := [] } w := by
            refine ⟨hr.below, hr.hN, hr.fresh, by rw [hget.1]; simp, fun i => ?_, hr.lenr, hr.rows, hr.inj, fun t ht => by simp at ht, fun t s ht => by simp at ht, fun t r p ht => by simp at ht, hr.ro⟩
            have := hget.2 i
            have e : ∀ arr : Array Value, arr.toList.getD i undef = arr.getD i undef := fun arr => by simp [List.getD, Array.getD_eq_getD_getElem?]
            rwa [e] at this
          refine evC_sound hG hL hfn hb rfl (evF_sound hG hL n) c (fun l hl => hl) _ _ _ M g _ w h0 h fun x fr' M' g' a' w' hr' hx hd hk => ?_
          have hret : ∀ {K2 : Option R}, (match resultV cx.P M' fn fr'.tmps with | some v => cutK cx.P M.rows.length (fun _ M => K (.ret v) M) { tmps := [v], tf := [] } M' | none => none) = some r → a'.defers = [] ∧ ∃ v, (results fn a'.tmps).run cx.P w' = .ok v w' ∧ R' (.returned v) w' := by
            intro _ hk
            split at hk
            · rename_i v hv
              obtain ⟨c', m1, m2⟩ := resultV_sound hr' hv
              unfold cutK at hk
              split at hk
              · rename_i hc
                simp only [Bool.and_eq_true, allL, Bool.and_true] at hc
                exact ⟨hd, c', m1, (hK v c' (M'.cut M.rows.length) (g'.cut M.rows.length) w' ((hr'.bare d).cut (N := M.rows.length) rfl hc.2) (hx.cut (by rw [hr.lenr]; exact Nat.le_refl _)) (below_relV hc.1 m2)).1 hk⟩
              · exact ⟨hd, c', m1, (hK v c' M' g' w' (hr'.bare d) hx m2).1 hk⟩
            · exact absurd hk (by simp)
          cases x with
          | normal => exact hret (K2 := none) hk
          | ret => exact hret (K2 := none) hk
          | exit i => exact absurd hk (by simp)
          | panic v => exact fun c' hv => ⟨hd, (hK v c' M' g' w' (hr'.bare d) hx hv).2 hk⟩
end
end Go.AE

/- What a function answers to plain data is what it returns. -/
namespace Go.AE
open Go.RowKit Go.Lib
section
variable {cx : Ctx} {N d : Nat} {S : Nat → Nat → Prop} {w0 : World} {g : G} {fr : Fr} {M : Mm} {a : Act} {w : World}
def outX (S : Nat → Nat → Prop) (N : Nat) (w : World) : X := ⟨[], fun b o => S b o ∨ N ≤ b, w, false⟩
theorem lp_out (g : G) (w : World) : Lp (xOf (Env.mk (Ctx.P cx) N S w0) g w).imm (outX S N w) := by
  refine ⟨fun b o h => ?_, fun b o v _ h => h, rfl⟩
  change stOf (Env.mk (Ctx.P cx) N S w0) g.cls b o at h
  unfold stOf at h
  split at h
  · exact .inl h
  · rename_i hb; exact .inr (Nat.not_lt.1 hb)
theorem relVs_take_drop {P : Program} {x : X} {e : TypeId} {l : List AV} {c : List Value} (h : relAr P x e l c) (i j : Nat) : relAr P x e (sub l i j) ((c.take (j * P.cellsOf e)).drop (i * P.cellsOf e)) := relAr_drop i (relAr_take j h)
theorem freeze_fits {P : Program} {M : Mm} : ∀ (n : Nat) (v : AV) {t : TypeId}, fits P t (freeze P M n v) = true → fits P t v = true
  | 0, v, t, h => by simp [freeze, fits, leafOK] at h
  | n + 1, v, t, h => by
    cases v with
    | msl r p e off coff len =>
      simp only [freeze] at h
      split at h
      · exact h
      · simp [fits, leafOK] at h
    | slice e l ex => exact h
    | agg u ps =>
      simp only [freeze] at h
      split at h
      · split at h
        · exact h
        · simp [fits, leafOK] at h
      · split at h
        · exact h
        · simp [fits, leafOK] at h
      · simp [fits, leafOK] at h
    | tuple vs => exact h
    | _ => exact h
theorem plain_shape {P : Program} {k : Nat} {t : TypeId} {v : AV} (hp : plainT P k t = true) (hf : fits P t v = true) : match v with | .ptr .. | .rptr .. | .mapv _ | .func .. | .iface .. => False | _ => True := by
  cases k with
  | zero => simp [plainT] at hp
  | succ k =>
    simp only [plainT] at hp
    cases v <;> first | trivial | (exfalso; unfold fits leafOK at hf; split at hp <;> rename_i hu <;> simp [hu] at hf hp)
theorem freeze_tuple {P : Program} {M : Mm} {n : Nat} {v : AV} {vs : List AV} (h : freeze P M (n + 1) v = .tuple vs) : ∃ us, v = .tuple us ∧ vs = us.map (freeze P M n) := by
  cases v with
  | tuple us => simp only [freeze, AV.tuple.injEq] at h; exact ⟨us, rfl, h.symm⟩
  | msl r p e off coff len => simp only [freeze] at h; split at h <;> exact absurd h (by simp)
  | agg t ps =>
    simp only [freeze] at h
    split at h
    · split at h <;> exact absurd h (by simp)
    · split at h <;> exact absurd h (by simp)
    · exact absurd h (by simp)
  | _ => simp [freeze] at h
theorem freeze_st {P : Program} {M : Mm} {x y : X} (n : Nat) (ih : ∀ (v : AV) {k : Nat} {t : TypeId} {c : List Value}, plainT P k t = true → fits P t (freeze P M n v) = true → rel P x v c → rel P y (freeze P M n v) c) :
    ∀ (ps : List AV) (k : Nat) {fs : List Field} {c : List Value}, plainFs (plainT P k) fs = true → relSt P x (fs.map (·.type)) ps c → fitsAll P (fs.map (·.type)) (ps.map (freeze P M n)) = true → relSt P y (fs.map (·.type)) (ps.map (freeze P M n)) c
  | [], k, [], c, _, h, _ => h
  | [], k, _ :: _, c, _, h, _ => h.elim
  | _ :: _, k, [], c, _, h, _ => h.elim
  | p :: ps, k, f :: fs, c, hp, h, hf => by
    obtain ⟨c1, r, rfl, h1, h2, h3, h4⟩ := h
    simp only [plainFs, Bool.and_eq_true] at hp
    simp only [List.map_cons, fitsAll, Bool.and_eq_true] at hf
    exact ⟨c1, r, rfl, ih p hp.1 hf.1 h1, h2, hf.1, freeze_st n ih ps k hp.2 h4 hf.2⟩
theorem freeze_rel (hr : Rel (Env.mk (Ctx.P cx) N S w0) d g fr M a w) : ∀ (n : Nat) (v : AV) {k : Nat} {t : TypeId} {c : List Value}, plainT cx.P k t = true → fits cx.P t (freeze cx.P M n v) = true → rel cx.P (xOf (Env.mk (Ctx.P cx) N S w0) g w) v c → rel cx.P (outX S N w) (freeze cx.P M n v) c
  | 0, v, k, t, c, _, hf, _ => by simp [freeze, fits, leafOK] at hf
  | n + 1, v, k, t, c, hp, hf, hv => by
    have hlp := lp_out (cx := cx) (N := N) (S := S) (w0 := w0) g w
    cases v with
    | msl r p e off coff len =>
      simp only [freeze] at hf ⊢
      split at hf
      · rename_i hfl
        rw [if_pos hfl]
        obtain ⟨_, b, root, m, o0, m1, m2, m3, m4, base, cap, m5, rfl, m6⟩ := hv
        obtain ⟨cs, ty, k1, k2⟩ : ∃ cs ty, w.heap[b]? = some (.cells cs ty (0, 0)) ∧ RowC cx.P (xOf (Env.mk (Ctx.P cx) N S w0) g w) root (M.rows.getD r (.arr 0 [])) cs.toList := by
          have := hr.rowsOK r b root m1
          rcases m2 with ⟨rfl, rfl, rfl⟩ | ⟨t, m2, hu⟩
          · revert this
            cases M.rows.getD r (.arr 0 []) with
            | map k e es => intro hk; exact absurd hk.1 (by simp)
            | var t v => exact id
            | arr e l => exact id
          · exact rowOK_cells this m2
        obtain ⟨j1, pre, c, post, j2, j3, j4, _⟩ := rowC_elems k2 m2
        have hlen : (sub ((M.rows.getD r (.arr 0 [])).elems p) off (off + len)).length = len := by simp only [sub, List.length_drop, List.length_take, j1]; omega
        have hra := relVs_take_drop j4 off (off + len)
        have hnl := relAr_len hra
        rw [hlen] at hnl
        refine ⟨base, len, cap, rfl, hlen.symm, m5, fun k => absurd k (by simp), ?_⟩
        rcases Nat.eq_zero_or_pos len with h0' | h0'
        · exact .inl h0'
        · refine .inr ⟨b, coff, m6 h0', relSl_of (flat_ar _ 20 hfl hra) fun i u hu => ⟨.inr (hr.rows r b root m1).1, ?_⟩⟩
          rw [List.getElem?_drop, List.getElem?_take] at hu
          split at hu
          · show w.cell? _ = _
            rw [cell_heap k1, ← Array.getElem?_toList, j2, m4, List.append_assoc, List.getElem?_append_right (by omega), List.getElem?_append_left (by have := (List.getElem?_eq_some_iff.1 hu).1; omega)]
            rw [← hu]
            congr 1
            omega
          · exact absurd hu (by simp)
      · simp [fits, leafOK] at hf
    | slice e l ex =>
      simp only [freeze] at hf ⊢
      obtain ⟨base, len, cap, h1, h2, h3, h4, h5⟩ := hv
      have : rel cx.P (xOf (Env.mk (Ctx.P cx) N S w0) g w).imm (.slice e l false) c := ⟨base, len, cap, h1, h2, h3, fun k => absurd k (by simp), h5⟩
      exact plain_rel hlp _ k hp hf this
    | agg u ps =>
      have hf0 := freeze_fits _ _ hf
      have hlk := (tyA_agg hf0).1
      simp only [freeze] at hf ⊢
      split at hf
      · rename_i fs hu
        split at hf
        · rename_i hall
          rw [if_pos hall]
          obtain ⟨k1, k2⟩ := rel_struct hv hu
          refine mk_struct hu k1 ?_
          have hplain : ∃ k', plainFs (plainT cx.P k') fs.toList = true := by
            cases k with
            | zero => simp [plainT] at hp
            | succ k' => exact ⟨k', by simpa only [plainT, ← like_under hlk, hu] using hp⟩
          obtain ⟨k', hpl⟩ := hplain
          exact freeze_st n (fun v {k t c} h1 h2 h3 => freeze_rel hr n v h1 h2 h3) ps k' hpl k2 hall
        · simp [fits, leafOK] at hf
      · rename_i m e hu
        split at hf
        · rename_i hfl
          rw [if_pos hfl]
          obtain ⟨k1, k2, k3⟩ := rel_array hv hu
          exact mk_array hu k1 k2 (flat_ar ps 20 hfl k3)
        · simp [fits, leafOK] at hf
      · simp [fits, leafOK] at hf
    | bool b => exact hv
    | int kk i => exact hv
    | str s => exact hv
    | nilp => exact hv
    | nilf => exact hv
    | nili => exact hv
    | dead => simp [freeze, fits, leafOK] at hf
    | tuple vs => simp [freeze, fits, leafOK] at hf
    | ptr r p t' o => exact (plain_shape hp (freeze_fits _ _ hf)).elim
    | rptr t' v => exact (plain_shape hp (freeze_fits _ _ hf)).elim
    | mapv r => exact (plain_shape hp (freeze_fits _ _ hf)).elim
    | func f x y => exact (plain_shape hp (freeze_fits _ _ hf)).elim
    | iface t' v => exact (plain_shape hp (freeze_fits _ _ hf)).elim
theorem freeze_isA {P : Program} {M : Mm} {n : Nat} {v : AV} {t : TypeId} (h : fits P t (freeze P M n v) = true) : (freeze P M n v).isA = v.isA := (fits_isA h).trans (fits_isA (freeze_fits n v h)).symm
theorem freeze_relV (hr : Rel (Env.mk (Ctx.P cx) N S w0) d g fr M a w) {n : Nat} {v : AV} {k : Nat} {t : TypeId} {c : Value} (hp : plainT cx.P k t = true) (hf : fits cx.P t (freeze cx.P M n v) = true) (hv : relV cx.P (xOf (Env.mk (Ctx.P cx) N S w0) g w) v c) : relV cx.P (outX S N w) (freeze cx.P M n v) c := by
  obtain ⟨cs, rfl, h1, h2⟩ := hv
  have hA := freeze_isA hf
  exact ⟨cs, by rw [hA], freeze_rel hr n v hp hf h1, fun e => h2 (by rw [← hA]; exact e)⟩
theorem freeze_relVs (hr : Rel (Env.mk (Ctx.P cx) N S w0) d g fr M a w) {n : Nat} : ∀ {ts : List TypeId} {vs : List AV} {cs : List Value}, plainAll cx.P ts = true → fitsAll cx.P ts (vs.map (freeze cx.P M n)) = true → relVs cx.P (xOf (Env.mk (Ctx.P cx) N S w0) g w) vs cs → relVs cx.P (outX S N w) (vs.map (freeze cx.P M n)) cs
  | [], [], cs, _, _, h => h
  | [], _ :: _, cs, _, hf, _ => by simp [fitsAll] at hf
  | _ :: _, [], cs, _, hf, _ => by simp [fitsAll] at hf
  | t :: ts, v :: vs, cs, hp, hf, h => by
    obtain ⟨c, r, rfl, h1, h2, h3⟩ := h
    simp only [plainAll, Bool.and_eq_true] at hp
    simp only [List.map_cons, fitsAll, Bool.and_eq_true] at hf
    exact relVs_cons (freeze_relV hr hp.1 hf.1 ⟨c, rfl, h1, h2⟩) (freeze_relVs hr hp.2 hf.2 h3)
end
/-- A world in which nothing has been made yet. -/
theorem rel_start (P : Program) (S : Nat → Nat → Prop) (w : World) : Rel (Env.mk P w.heap.size S w) 0 ⟨[], fun _ => .froz⟩ fr0 ⟨[], []⟩ act0 w :=
  ⟨Below.refl _ _, Nat.le_refl _, fun _ _ => rfl, rfl, fun i => by simpa [fr0, act0] using relV_dead _, rfl, fun r b root h => by simp at h, fun r r' b root root' h => by simp at h, fun t ht => by simp [fr0] at ht, fun t s ht => by simp [fr0] at ht, fun t r p ht => by simp [fr0] at ht, fun r p ht => by simp at ht⟩
theorem fnV_sound {cx : Ctx} (hG : cx.Good) (hL : cx.Loops) {n : Nat} {f : FuncId} {args : List AV} {v : AV} (h : fnV cx n f args = some v) : CallsS cx.P f args v := by
  intro w S cargs ha
  unfold fnV at h
  split at h
  · exact absurd h (by simp)
  · rename_i fn hfn
    have h0 := rel_start cx.P S w
    have hargs : relVs cx.P (xOf (Env.mk cx.P w.heap.size S w) ⟨[], fun _ => .froz⟩ w) args cargs.toList := by
      have hle : Le ⟨[], S, w, false⟩ (xOf (Env.mk cx.P w.heap.size S w) ⟨[], fun _ => .froz⟩ w) := by
        refine ⟨fun r z hz => absurd hz (by simp), fun b o v hs hc => ?_, fun _ _ _ _ h => h, fun e => absurd e (by simp)⟩
        show stOf (Env.mk cx.P w.heap.size S w) (fun _ => .froz) b o
        unfold stOf
        rw [if_pos (cell_lt hc)]
        exact hs
      exact relVs_le hle args _ ha
    refine (evF_sound hG hL n w.heap.size S w 0 _ _ w f args cargs _ v _ h0 hargs h fun rv c M' g' w' hr hx hv => ⟨fun hk => ?_, fun hk => absurd hk (by simp)⟩).2
    simp only at hk
    split at hk
    · rename_i hgood
      obtain rfl := Option.some.inj hk
      refine ⟨c, rfl, hr.below, ?_⟩
      unfold goodR at hgood
      simp only [Bool.and_eq_true] at hgood
      obtain ⟨hpl, hgood⟩ := hgood
      generalize fn.resultTypes.toList = ts at hpl hgood
      split at hgood
      · rename_i t v hts
        simp only [plainAll, Bool.and_eq_true] at hpl
        exact freeze_relV hr hpl.1 hgood hv
      · rename_i ts vs hne hvs
        obtain ⟨us, rfl, rfl⟩ := freeze_tuple hvs
        obtain ⟨arr, rfl, hus⟩ := relV_tuple hv
        have : rel cx.P (outX S w.heap.size w') (.tuple (us.map (freeze cx.P M' 5))) [.tuple arr] := ⟨arr, rfl, freeze_relVs hr hpl hgood hus⟩
        rw [hvs]
        exact relV_leaf this rfl
      · exact absurd hgood (by simp)
    · exact absurd hk (by simp)
end Go.AE

/- A law's arguments, read as abstract values. -/
namespace Go.AE
open Go.RowKit Go.Lib

def HasL (P : AV → TypeId → Prop) : List TypeId → List AV → Prop
  | [], [] => True
  | t :: ts, v :: vs => P v t ∧ HasL P ts vs
  | _, _ => False
/-- What an argument of a type may be: any value, read as deep as it goes. -/
def Has (P : Program) : Nat → TypeId → AV → Prop
  | 0, _, _ => False
  | d + 1, t, v =>
    match P.underlying t with
    | some .bool => ∃ b, v = .bool b
    | some (.int k) => ∃ n, v = .int k n ∧ (Lit.int k n).wf = true
    | some .string => ∃ s, v = .str s ∧ s.length ≤ maxLen
    | some (.struct fs) => ∃ ps, v = .agg (uid P t) ps ∧ HasL (fun v t => Has P d t v) (fs.toList.map (·.type)) ps
    | some (.array n e) => ∃ ps, v = .agg (uid P t) ps ∧ ps.length = n ∧ ∀ u ∈ ps, Has P d e u
    | some (.slice e) => ∃ l, v = .slice e l false ∧ l.length ≤ maxLen ∧ ∀ u ∈ l, Has P d e u
    | _ => False
def readFs (rec : TypeId → Bool) : List Field → Bool
  | [] => true
  | f :: fs => rec f.type && readFs rec fs
/-- Types that are read so. -/
def readT (P : Program) : Nat → TypeId → Bool
  | 0, _ => false
  | d + 1, t =>
    match P.underlying t with
    | some .bool | some (.int _) | some .string => Nat.beq (P.cellsOf t) 1
    | some (.struct fs) => readFs (readT P d) fs.toList && offsGo P 0 fs.toList && likeT P (uid P t) t && Nat.beq ((fs.toList.map fun f => P.cellsOf f.type).sum) (P.cellsOf t)
    | some (.array n e) => readT P d e && likeT P (uid P t) t && Nat.beq (n * P.cellsOf e) (P.cellsOf t)
    | some (.slice e) => readT P d e && Nat.beq (P.cellsOf t) 1 && Nat.blt 0 (P.cellsOf e)
    | _ => false
section
variable {P : Program} {H : Type} {enc : TypeId × Value → H} {W : World}
def readX (W : World) : X := ⟨[], fun _ _ => True, W, false⟩
def Read (P : Program) (W : World) (d : Nat) (t : TypeId) (cs : List Value) : Prop := ∃ v, Has P d t v ∧ rel P (readX W) v cs ∧ cs.length = P.cellsOf t ∧ fits P t v = true
theorem read_st {d fuel : Nat} (ih : ∀ (t : TypeId) (cs : List Value) x, DataW.trod enc P W 0 (fun _ => true) true fuel t cs = some x → readT P d t = true → Read P W d t cs) :
    ∀ (fs : List Field) (o : Nat) (pre cs : List Value) (xs : List (DataW H × List MemPlace)), offsGo P o fs = true → readFs (readT P d) fs = true → pre.length = o → cs.length = (fs.map fun f => P.cellsOf f.type).sum →
      fs.mapM (fun f => DataW.trod enc P W 0 (fun _ => true) true fuel f.type (((pre ++ cs).drop f.offset).take (P.cellsOf f.type))) = some xs → ∃ ps, HasL (fun v t => Has P d t v) (fs.map (·.type)) ps ∧ relSt P (readX W) (fs.map (·.type)) ps cs
  | [], o, pre, cs, xs, _, _, _, hl, _ => ⟨[], trivial, List.eq_nil_of_length_eq_zero (by simpa using hl)⟩
  | f :: fs, o, pre, cs, xs, ho, hr, hp, hl, hm => by
    simp only [offsGo, Bool.and_eq_true] at ho
    simp only [readFs, Bool.and_eq_true] at hr
    have hoff := Nat.eq_of_beq_eq_true ho.1
    simp only [List.map_cons, List.sum_cons] at hl
    simp only [List.mapM_cons, Option.bind_eq_bind, Option.bind_eq_some_iff, Option.pure_def, Option.some.injEq] at hm
    obtain ⟨x, hx, ys, hys, _⟩ := hm
    have e1 : ((pre ++ cs).drop f.offset).take (P.cellsOf f.type) = cs.take (P.cellsOf f.type) := by rw [hoff, ← hp]; simp
    rw [e1] at hx
    obtain ⟨v, h1, h2, h3, h4⟩ := ih _ _ _ hx hr.1
    have e2 : pre ++ cs = (pre ++ cs.take (P.cellsOf f.type)) ++ cs.drop (P.cellsOf f.type) := by simp
    rw [e2] at hys
    obtain ⟨ps, k1, k2⟩ := read_st ih fs (o + P.cellsOf f.type) (pre ++ cs.take (P.cellsOf f.type)) (cs.drop (P.cellsOf f.type)) ys ho.2 hr.2 (by rw [List.length_append, hp, h3]) (by rw [List.length_drop, hl]; omega) hys
    exact ⟨v :: ps, ⟨h1, k1⟩, _, _, (List.take_append_drop (P.cellsOf f.type) cs).symm, h2, h3, h4, k2⟩
theorem read_ar {d fuel : Nat} {e : TypeId} (ih : ∀ (cs : List Value) x, DataW.trod enc P W 0 (fun _ => true) true fuel e cs = some x → Read P W d e cs) :
    ∀ (n i : Nat) (pre cs : List Value) (xs : List (DataW H × List MemPlace)), pre.length = i * P.cellsOf e → cs.length = n * P.cellsOf e →
      (List.range' i n).mapM (fun i => DataW.trod enc P W 0 (fun _ => true) true fuel e (((pre ++ cs).drop (i * P.cellsOf e)).take (P.cellsOf e))) = some xs → ∃ ps : List AV, ps.length = n ∧ (∀ u ∈ ps, Has P d e u) ∧ relAr P (readX W) e ps cs
  | 0, i, pre, cs, xs, _, hl, _ => ⟨[], rfl, by simp, List.eq_nil_of_length_eq_zero (by simpa using hl)⟩
  | n + 1, i, pre, cs, xs, hp, hl, hm => by
    rw [Nat.add_mul] at hl
    simp only [List.range'_succ, List.mapM_cons, Option.bind_eq_bind, Option.bind_eq_some_iff, Option.pure_def, Option.some.injEq] at hm
    obtain ⟨x, hx, ys, hys, _⟩ := hm
    have e1 : ((pre ++ cs).drop (i * P.cellsOf e)).take (P.cellsOf e) = cs.take (P.cellsOf e) := by rw [← hp]; simp
    rw [e1] at hx
    obtain ⟨v, h1, h2, h3, h4⟩ := ih _ _ hx
    have e2 : pre ++ cs = (pre ++ cs.take (P.cellsOf e)) ++ cs.drop (P.cellsOf e) := by simp
    rw [e2] at hys
    obtain ⟨ps, k0, k1, k2⟩ := read_ar ih n (i + 1) (pre ++ cs.take (P.cellsOf e)) (cs.drop (P.cellsOf e)) ys (by rw [List.length_append, hp, h3, Nat.add_mul, Nat.one_mul]) (by rw [List.length_drop, hl]; omega) hys
    refine ⟨v :: ps, by simp [k0], fun u hu => ?_, _, _, (List.take_append_drop (P.cellsOf e) cs).symm, h2, h3, h4, k2⟩
    rcases List.mem_cons.1 hu with rfl | hu
    · exact h1
    · exact k1 u hu
theorem fits_agg {t : TypeId} {ps : List AV} (h : likeT P (uid P t) t = true) (hA : tyA P t = true) : fits P t (.agg (uid P t) ps) = true := by simp [fits, h, hA]
theorem read_sl {d fuel : Nat} {e : TypeId} {b o : Nat} (ih : ∀ (cs : List Value) x, DataW.trod enc P W 0 (fun _ => true) true fuel e cs = some x → Read P W d e cs) :
    ∀ (n i : Nat) (xs : List (DataW H × List MemPlace)),
      (List.range' i n).mapM (fun i => (W.cells? 0 ((⟨b, o, none⟩ : Addr).add (i * P.cellsOf e)) (P.cellsOf e)).bind (DataW.trod enc P W 0 (fun _ => true) true fuel e)) = some xs → ∃ l : List AV, l.length = n ∧ (∀ u ∈ l, Has P d e u) ∧ relSl P (readX W) e b (o + i * P.cellsOf e) l
  | 0, i, xs, _ => ⟨[], rfl, by simp, trivial⟩
  | n + 1, i, xs, hm => by
    simp only [List.range'_succ, List.mapM_cons, Option.bind_eq_bind, Option.bind_eq_some_iff, Option.pure_def, Option.some.injEq] at hm
    obtain ⟨x, ⟨cs, hcs, hx⟩, ys, hys, _⟩ := hm
    obtain ⟨_, hlen, hcell⟩ := World.cells?_some hcs
    obtain ⟨v, h1, h2, h3, h4⟩ := ih _ _ hx
    obtain ⟨l, k0, k1, k2⟩ := read_sl ih n (i + 1) ys hys
    refine ⟨v :: l, by simp [k0], fun u hu => ?_, ⟨cs, h2, h3, h4, fun j u hu => ⟨trivial, ?_⟩⟩, ?_⟩
    · rcases List.mem_cons.1 hu with rfl | hu
      · exact h1
      · exact k1 u hu
    · have := hcell j (by have := (List.getElem?_eq_some_iff.1 hu).1; omega)
      rw [Addr.add_lit, Addr.add_lit] at this
      exact this.trans hu
    · have e1 : o + (i + 1) * P.cellsOf e = o + i * P.cellsOf e + P.cellsOf e := by rw [Nat.add_mul]; omega
      rwa [e1] at k2
theorem one_cell {P : Program} {t : TypeId} {cs : List Value} {x : DataW H × List MemPlace} {fuel : Nat} (h : DataW.trod enc P W 0 (fun _ => true) true (fuel + 1) t cs = some x) (hu : (∃ k, P.underlying t = some (.int k)) ∨ P.underlying t = some .bool ∨ P.underlying t = some .string ∨ ∃ e, P.underlying t = some (.slice e)) : ∃ c, cs = [c] := by
  match cs with
  | [c] => exact ⟨c, rfl⟩
  | [] => rcases hu with ⟨k, hu⟩ | hu | hu | ⟨e, hu⟩ <;> simp [DataW.trod, hu] at h
  | c :: c' :: r => rcases hu with ⟨k, hu⟩ | hu | hu | ⟨e, hu⟩ <;> simp [DataW.trod, hu] at h
theorem read_trod : ∀ (fuel d : Nat) (t : TypeId) (cs : List Value) (x : DataW H × List MemPlace), DataW.trod enc P W 0 (fun _ => true) true fuel t cs = some x → readT P d t = true → Read P W d t cs
  | 0, d, t, cs, x, h, _ => by simp [DataW.trod] at h
  | fuel + 1, 0, t, cs, x, _, hr => by simp [readT] at hr
  | fuel + 1, d + 1, t, cs, x, h, hr => by
    have ih := read_trod fuel d
    simp only [readT] at hr
    unfold Read
    simp only [Has]
    split at hr
    · rename_i hu
      obtain ⟨c, rfl⟩ := one_cell h (.inr (.inl hu))
      have h1 := Nat.eq_of_beq_eq_true hr
      cases c <;> simp [DataW.trod, hu] at h
      rename_i b
      try simp only [hu]
      exact ⟨.bool b, ⟨b, rfl⟩, rfl, by simp [h1], by simp [fits, leafOK, tyA, hu]⟩
    · rename_i k hu
      obtain ⟨c, rfl⟩ := one_cell h (.inl ⟨k, hu⟩)
      have h1 := Nat.eq_of_beq_eq_true hr
      cases c <;> simp [DataW.trod, hu] at h
      rename_i k' n
      obtain ⟨⟨rfl, hw⟩, _⟩ := h
      try simp only [hu]
      exact ⟨.int k' n, ⟨n, rfl, hw⟩, rfl, by simp [h1], by simp [fits, leafOK, tyA, hu]⟩
    · rename_i hu
      obtain ⟨c, rfl⟩ := one_cell h (.inr (.inr (.inl hu)))
      have h1 := Nat.eq_of_beq_eq_true hr
      cases c <;> simp [DataW.trod, hu] at h
      rename_i s
      try simp only [hu]
      refine ⟨.str s.data.toList, ⟨_, rfl, by rw [Array.length_toList]; exact h.1⟩, ?_, by simp [h1], by simp [fits, leafOK, tyA, hu]⟩
      simp [rel]
    · rename_i fs hu
      simp only [Bool.and_eq_true] at hr
      obtain ⟨⟨⟨r1, r2⟩, r3⟩, r4⟩ := hr
      have hsum := Nat.eq_of_beq_eq_true r4
      have hA : tyA P t = true := by simp [tyA, hu]
      have hu' := (like_under r3).trans hu
      simp only [DataW.trod, hu] at h
      split at h
      · rename_i hlen
        obtain ⟨xs, hxs, _⟩ := Option.map_eq_some_iff.1 h
        obtain ⟨ps, k1, k2⟩ := read_st (fuel := fuel) (d := d) (fun t cs x h hr => ih t cs x h hr) fs.toList 0 [] cs xs r2 r1 rfl (by rw [hlen, hsum]) (by simpa using hxs)
        try simp only [hu]
        exact ⟨_, ⟨ps, rfl, k1⟩, mk_struct hu' (by rw [hlen, like_cells r3]) k2, hlen, fits_agg r3 hA⟩
      · exact absurd h (by simp)
    · rename_i n e hu
      simp only [Bool.and_eq_true] at hr
      obtain ⟨⟨r1, r3⟩, r4⟩ := hr
      have hsum := Nat.eq_of_beq_eq_true r4
      have hA : tyA P t = true := by simp [tyA, hu]
      have hu' := (like_under r3).trans hu
      simp only [DataW.trod, hu] at h
      split at h
      · rename_i hlen
        obtain ⟨xs, hxs, _⟩ := Option.map_eq_some_iff.1 h
        obtain ⟨ps, k0, k1, k2⟩ := read_ar (fuel := fuel) (d := d) (fun cs x h => ih e cs x h r1) n 0 [] cs xs (by simp) (by rw [hlen, hsum]) (by simpa [List.range_eq_range'] using hxs)
        try simp only [hu]
        exact ⟨_, ⟨ps, rfl, k0, k1⟩, mk_array hu' (by rw [hlen, like_cells r3]) k0 k2, hlen, fits_agg r3 hA⟩
      · exact absurd h (by simp)
    · rename_i e hu
      simp only [Bool.and_eq_true] at hr
      obtain ⟨⟨r1, r2⟩, r3⟩ := hr
      have h1 := Nat.eq_of_beq_eq_true r2
      obtain ⟨c, rfl⟩ := one_cell h (.inr (.inr (.inr ⟨e, hu⟩)))
      have hfit : ∀ l, fits P t (.slice e l false) = true := fun l => by simp [fits, leafOK, tyA, hu]
      try simp only [hu]
      have done : ∀ base len cap, c = .slice base len cap → (∃ l : List AV, l.length = len ∧ len ≤ cap ∧ len ≤ maxLen ∧ (∀ u ∈ l, Has P d e u) ∧ (len = 0 ∨ ∃ b o, base = some ⟨b, o, none⟩ ∧ relSl P (readX W) e b o l)) →
          ∃ v, (∃ l, v = .slice e l false ∧ l.length ≤ maxLen ∧ ∀ u ∈ l, Has P d e u) ∧ rel P (readX W) v [c] ∧ [c].length = P.cellsOf t ∧ fits P t v = true := by
        rintro base len cap rfl ⟨l, k1, k2, k3, k4, k5⟩
        subst k1
        refine ⟨.slice e l false, ⟨l, rfl, k3, k4⟩, ⟨base, _, cap, rfl, rfl, k2, fun k => absurd k (by simp), k5⟩, by simp [h1], hfit l⟩
      cases c <;> try (simp [DataW.trod, hu] at h; done)
      rename_i base len cap
      refine done base len cap rfl ?_
      cases base with
      | none =>
        simp only [DataW.trod, hu] at h
        split at h <;> simp_all
      | some ad =>
        simp only [DataW.trod, hu] at h
        split at h
        · rename_i hc
          obtain ⟨elems, hel, _⟩ := Option.bind_eq_some_iff.1 h
          rcases Nat.eq_zero_or_pos len with h0 | h0
          · subst h0
            exact ⟨[], rfl, by omega, by simp, by simp, .inl rfl⟩
          · have hsp : ad.spot = none := by
              have hg := mapM_some_get hel 0 0 (by simp [h0])
              have hlen := mapM_some_length hel
              obtain ⟨e0, hx⟩ : ∃ e0, elems[0]? = some e0 := ⟨_, List.getElem?_eq_getElem (by rw [hlen]; simpa using h0)⟩
              rw [hx] at hg
              obtain ⟨cs0, hcs0, _⟩ := Option.bind_eq_some_iff.1 hg
              obtain ⟨_, hl, hcell⟩ := World.cells?_some hcs0
              have hpos := Nat.blt_eq.mp r3
              have hc0 := hcell 0 hpos
              rw [List.getElem?_eq_getElem (by omega)] at hc0
              simp only [Nat.zero_mul, Addr.add, if_true] at hc0
              unfold World.cell? at hc0
              split at hc0
              · split at hc0
                · exact absurd hc0 (by simp)
                · rename_i hs; simpa using hs
              · exact absurd hc0 (by simp)
            obtain ⟨b, o, sp⟩ := ad
            simp only at hsp
            subst hsp
            obtain ⟨l, k0, k1, k2⟩ := read_sl (fuel := fuel) (d := d) (fun cs x h => ih e cs x h r1) len 0 elems (by simpa [List.range_eq_range'] using hel)
            exact ⟨l, k0, hc.2.1, Nat.le_trans hc.2.1 hc.2.2, k1, .inr ⟨b, o, rfl, by simpa using k2⟩⟩
        · exact absurd h (by simp)
    · exact absurd hr (by simp)
end
end Go.AE

/- A law: whatever its arguments, it returns true, and they read as they did. -/
namespace Go.AE
open Go.RowKit Go.Lib
section
variable {P : Program} {H : Type} {enc : TypeId × Value → H} {W : World}

theorem readT_tyA {d : Nat} {t : TypeId} (h : readT P d t = true) (hA : tyA P t = false) : P.underlying t = some .bool ∨ (∃ k, P.underlying t = some (.int k)) ∨ P.underlying t = some .string ∨ ∃ e, P.underlying t = some (.slice e) := by
  cases d with
  | zero => simp [readT] at h
  | succ d =>
    simp only [readT] at h
    split at h
    · rename_i hu; exact .inl hu
    · rename_i k hu; exact .inr (.inl ⟨k, hu⟩)
    · rename_i hu; exact .inr (.inr (.inl hu))
    · rename_i fs hu; simp [tyA, hu] at hA
    · rename_i n e hu; simp [tyA, hu] at hA
    · rename_i e hu; exact .inr (.inr (.inr ⟨e, hu⟩))
    · exact absurd h (by simp)
theorem read_value {d base : Nat} {t : TypeId} {v : Value} (hr : readT P d t = true) (hok : Value.okWide P W .any base t v) (h : Read P W d t v.cells.toList) : ∃ a, Has P d t a ∧ relV P (readX W) a v := by
  obtain ⟨a, h1, h2, h3, h4⟩ := h
  have hA := fits_isA h4
  refine ⟨a, h1, v.cells.toList, ?_, h2, fun e => fits_one h4 h2 e⟩
  cases ht : tyA P t with
  | true =>
    rw [hA, ht]
    have : ∃ cs, v = .agg cs := by
      unfold Value.okWide at hok
      unfold tyA at ht
      split at ht
      · rename_i hu; rw [hu] at hok; obtain ⟨cs, k, _⟩ := hok; exact ⟨cs, k⟩
      · rename_i hu; rw [hu] at hok; obtain ⟨cs, k, _⟩ := hok; exact ⟨cs, k⟩
      · exact absurd ht (by simp)
    obtain ⟨cs, rfl⟩ := this
    simp [mkV, Value.cells]
  | false =>
    rw [hA, ht]
    cases v with
    | agg cs =>
      exfalso
      rcases readT_tyA hr ht with hu | ⟨k, hu⟩ | hu | ⟨e, hu⟩ <;> simp [Value.okWide, Cell.okWide, Cell.ok, hu] at hok
    | _ => rfl
def readAllT (P : Program) : List TypeId → Bool
  | [] => true
  | t :: ts => readT P 8 t && P.readableRec t && decide (t < P.types.size) && readAllT P ts
theorem read_all {base : Nat} : ∀ {ts : List TypeId} {vs : List Value} {ds : List (DataW H)} {ps : List MemPlace}, readAllT P ts = true → (∀ (j : Nat) t v, ts[j]? = some t → vs[j]? = some v → Value.okWide P W .any base t v) →
    DataW.TrodAll enc P W 0 (fun _ => true) true ts vs ds ps → ∃ as, HasL (fun v t => Has P 8 t v) ts as ∧ relVs P (readX W) as vs
  | [], [], [], ps, _, _, _ => ⟨[], trivial, rfl⟩
  | t :: ts, v :: vs, d :: ds, ps, hr, hok, ⟨p, q, ⟨fuel, h1⟩, h2, _⟩ => by
    simp only [readAllT, Bool.and_eq_true] at hr
    obtain ⟨a, k1, k2⟩ := read_value hr.1.1.1 (hok 0 t v rfl rfl) (read_trod fuel 8 t _ _ h1 hr.1.1.1)
    obtain ⟨as, m1, m2⟩ := read_all hr.2 (fun j t v h1 h2 => hok (j + 1) t v (by simpa using h1) (by simpa using h2)) h2
    exact ⟨a :: as, ⟨k1, m1⟩, relVs_cons k2 m2⟩
  | [], [], _ :: _, ps, _, _, h => h.elim
  | [], _ :: _, _, ps, _, _, h => h.elim
  | _ :: _, [], _, ps, _, _, h => h.elim
  | _ :: _, _ :: _, [], ps, _, _, h => h.elim
theorem trodAll_below (hl : laidOutB P = true) {W' : World} (hb : Below W.heap.size W W') : ∀ {ts : List TypeId} {vs : List Value} {ds : List (DataW H)} {ps : List MemPlace}, readAllT P ts = true →
    DataW.TrodAll enc P W 0 (fun _ => true) true ts vs ds ps → DataW.TrodAll enc P W' 0 (fun b => decide (b < W.heap.size)) true ts vs ds ps
  | [], [], [], ps, _, h => h
  | t :: ts, v :: vs, d :: ds, ps, hr, ⟨p, q, h1, h2, h3⟩ => by
    simp only [readAllT, Bool.and_eq_true, decide_eq_true_eq] at hr
    refine ⟨p, q, ?_, trodAll_below hl hb hr.2 h2, h3⟩
    have hlt : ∀ x ∈ p, x.block < W.heap.size := by obtain ⟨m, hm⟩ := h1; exact DataW.trod_lt m _ _ _ hm
    exact Below.trod hl hr.1.1.2 hr.1.2 h1 hb hlt
  | [], [], _ :: _, ps, _, h => h.elim
  | [], _ :: _, _, ps, _, h => h.elim
  | _ :: _, [], _, ps, _, h => h.elim
  | _ :: _, _ :: _, [], ps, _, h => h.elim
/-- THE ROW OF A LAW. -/
theorem law_lifted {C : Checked} {os : Os} {f : FuncId} {fn : Func} {s : ChangeSpec} {conds : List PathCond} {tb : TypeId} (own : ownKnob C.prog.godebug = none) (started : os.Started) (noInit : C.prog.inits.idxOf? f = none) (hfn : C.prog.funcs[f]? = some fn)
    (witness : ∃ (w : World) (tape : Tape) (i : Input), w.os = os ∧ (w.forCall tape i).Shaped C.prog ∧ i.vars = [] ∧ Input.okWide C.prog (w.forCall tape i) .any w.heap.size f i ∧
      s.pre6 enc C.prog fn conds false (w.forCall tape i).memory i.args ∧ ({} : Assume).holds C.prog (lone (Frame.enter C.prog f i.args .normal) [] (w.forCall tape i)))
    (hl : laidOutB C.prog = true) (hv : s.vars = []) (hr : readAllT C.prog fn.params.toList = true) (ht : fn.resultTypes = #[tb]) (hub : C.prog.underlying tb = some .bool)
    (hs : ∀ ds : List (DataW H), ds.length = fn.params.size → s.fn H ds = { results := [.lit (.bool true)], args := ds })
    (hcalls : ∀ as, HasL (fun v t => Has C.prog 8 t v) fn.params.toList as → CallsS C.prog f as (.bool true)) :
    ReturnsInHanded {} C os f .any (s.pre6 enc C.prog fn conds false) (s.post enc C.prog fn false true false false) := by
  refine returnsInHanded_of_change own started noInit hfn witness ?_
  intro W base args ds gs before hval hW hcnd _
  have hW' := hW
  obtain ⟨p, q, hA, hV, rfl, hfz, hnd⟩ := hW
  rw [hv] at hV
  obtain ⟨rfl, rfl⟩ := ChangeShapes.trodVars_none hV
  obtain ⟨as, k1, k2⟩ := read_all hr (fun j t v h1 h2 => hval j t v (by simpa using h1) (by simpa using h2)) hA
  refine (hcalls as k1 W (fun _ _ => True) args k2).mono fun e W' ⟨rv, he, bel, hrv⟩ => ?_
  subst he
  obtain rfl := relV_bool.1 hrv
  have hlen : ds.length = fn.params.size := by
    have : ∀ {ts : List TypeId} {vs : List Value} {ds : List (DataW H)} {ps : List MemPlace}, DataW.TrodAll enc C.prog W 0 (fun _ => true) true ts vs ds ps → ds.length = ts.length := by
      intro ts
      induction ts with
      | nil => intro vs ds ps h; cases vs <;> cases ds <;> simp_all [DataW.TrodAll]
      | cons t ts ih => intro vs ds ps h; cases vs <;> cases ds <;> simp_all [DataW.TrodAll]; obtain ⟨_, _, _, h, _⟩ := h; exact ih h
    simpa using this hA
  have hsv := hs ds hlen
  refine ⟨_, rfl, ds, [], _, [], p, [], hW', ?_, ?_, ?_, bel.frame _, fun h => by cases h⟩
  · rw [List.append_nil, hsv, ht]
    exact ChangeShapes.trodAll_mk1 (shut_bool hub true)
  · rw [List.append_nil, hsv]
    exact trodAll_below hl bel hr hA
  · rw [hv, List.append_nil, hsv]
    rfl
end
end Go.AE

/- Frames that are known in full: what is kept, the others forgotten. And loops of which nothing is said. -/
namespace Go.AE

def lookA (i : Nat) : List (Nat × AV) → AV
  | [] => .dead
  | (j, v) :: r => if Nat.beq j i then v else lookA i r
def mkL (kv : List (Nat × AV)) : Nat → Nat → List AV
  | _, 0 => []
  | i, n + 1 => lookA i kv :: mkL kv (i + 1) n
/-- A frame of n temporaries, of which these are known. -/
def mkFr (n : Nat) (kv : List (Nat × AV)) (tf : List (Nat × TF)) : Fr := ⟨mkL kv 0 n, tf⟩
def AV.isDead : AV → Bool
  | .dead => true
  | _ => false
def deadBut (ks : List Nat) : Nat → Nat → List AV → Bool
  | _, 0, [] => true
  | i, n + 1, v :: vs => (if memN i ks then true else v.isDead) && deadBut ks (i + 1) n vs
  | _, _, _ => false
def okFr (n : Nat) (ks : List Nat) (fr : Fr) : Bool := deadBut ks 0 n fr.tmps
theorem isDead_eq {v : AV} (h : v.isDead = true) : v = .dead := by cases v <;> simp_all [AV.isDead]
theorem lookA_map (f : Nat → AV) (i : Nat) : ∀ ks : List Nat, lookA i (ks.map fun k => (k, f k)) = if i ∈ ks then f i else .dead
  | [] => by simp [lookA]
  | k :: ks => by
    simp only [List.map_cons, lookA, List.mem_cons]
    by_cases h : k = i
    · subst h; simp
    · rw [if_neg (fun e => h (Nat.eq_of_beq_eq_true e)), lookA_map f i ks]
      by_cases h2 : i ∈ ks
      · rw [if_pos h2, if_pos (.inr h2)]
      · rw [if_neg h2, if_neg (fun e => e.elim (fun e => h e.symm) h2)]
theorem deadBut_eq (ks : List Nat) (f : Nat → AV) : ∀ (n i : Nat) (l : List AV), deadBut ks i n l = true → (∀ j, l.getD j .dead = f (i + j)) → l = mkL (ks.map fun k => (k, f k)) i n
  | 0, i, [], _, _ => rfl
  | 0, i, _ :: _, h, _ => by simp [deadBut] at h
  | n + 1, i, [], h, _ => by simp [deadBut] at h
  | n + 1, i, v :: vs, h, hf => by
    simp only [deadBut, Bool.and_eq_true] at h
    simp only [mkL]
    refine List.cons_eq_cons.2 ⟨?_, deadBut_eq ks f n (i + 1) vs h.2 fun j => by rw [show i + 1 + j = i + (j + 1) from by omega, ← hf]; rfl⟩
    rw [lookA_map]
    have h0 : v = f i := by simpa using hf 0
    split
    · exact h0
    · rename_i hi
      have h1 := h.1
      rw [if_neg (fun e => hi (memN_iff.1 e))] at h1
      exact isDead_eq h1
/-- A frame of which all is checked is known. -/
theorem okFr_eq {n : Nat} {ks : List Nat} {fr : Fr} (h : okFr n ks fr = true) : fr = mkFr n (ks.map fun k => (k, fr.tmps.getD k .dead)) fr.tf := by
  have := deadBut_eq ks (fun k => fr.tmps.getD k .dead) n 0 fr.tmps h fun j => by rw [Nat.zero_add]
  unfold mkFr
  rw [← this]
theorem Ctx.noLoops {cx : Ctx} (h : ∀ dep f id fr M, cx.ends dep f id fr M = none) : cx.Loops := fun dep f id fr M t ht => by rw [h] at ht; exact absurd ht (by simp)
/-- A loop of N rounds, in which memory changes. -/
theorem iter_rounds2 {R : Type} {B : Fr → Mm → (Fr → Mm → Option R) → Option R} {st : Nat → Fr} {mm : Nat → Mm} {out : Option R} {N : Nat} (hstep : ∀ k, k < N → ∀ kk, B (st k) (mm k) kk = kk (st (k + 1)) (mm (k + 1))) (hend : ∀ kk, B (st N) (mm N) kk = out) :
    ∀ n, N < n → iter n B (st 0) (mm 0) = out := by
  have h : ∀ m k n, k + m = N → m < n → iter n B (st k) (mm k) = out := by
    intro m
    induction m with
    | zero =>
      intro k n hk hn
      obtain ⟨n', rfl⟩ : ∃ n', n = n' + 1 := ⟨n - 1, by omega⟩
      obtain rfl : k = N := by omega
      exact hend _
    | succ m ih =>
      intro k n hk hn
      obtain ⟨n', rfl⟩ : ∃ n', n = n' + 1 := ⟨n - 1, by omega⟩
      show B (st k) (mm k) (iter n' B) = out
      rw [hstep k (by omega)]
      exact ih (k + 1) n' (by omega) (by omega)
  intro n hn
  exact h N 0 n (by omega) hn
/-- A loop of N rounds. -/
theorem iter_rounds {R : Type} {B : Fr → Mm → (Fr → Mm → Option R) → Option R} {st : Nat → Fr} {M : Mm} {out : Option R} {N : Nat} (hstep : ∀ k, k < N → ∀ kk, B (st k) M kk = kk (st (k + 1)) M) (hend : ∀ kk, B (st N) M kk = out) :
    ∀ n, N < n → iter n B (st 0) M = out := by
  have h : ∀ m k n, k + m = N → m < n → iter n B (st k) M = out := by
    intro m
    induction m with
    | zero =>
      intro k n hk hn
      obtain ⟨n', rfl⟩ : ∃ n', n = n' + 1 := ⟨n - 1, by omega⟩
      obtain rfl : k = N := by omega
      exact hend _
    | succ m ih =>
      intro k n hk hn
      obtain ⟨n', rfl⟩ : ∃ n', n = n' + 1 := ⟨n - 1, by omega⟩
      show B (st k) M (iter n' B) = out
      rw [hstep k (by omega)]
      exact ih (k + 1) n' (by omega) (by omega)
  intro n hn
  exact h N 0 n (by omega) hn
end Go.AE

/- Whole numbers of a kind: plain facts. -/
namespace Go.AE

theorem wrap_u8 (n : Int) : IntKind.u8.wrap n = n % 256 := by simp [IntKind.wrap, IntKind.bits, IntKind.signed]
theorem wrap_u16 (n : Int) : IntKind.u16.wrap n = n % 65536 := by simp [IntKind.wrap, IntKind.bits, IntKind.signed]
theorem wrap_u32 (n : Int) : IntKind.u32.wrap n = n % 4294967296 := by simp [IntKind.wrap, IntKind.bits, IntKind.signed]
theorem wrap_u64 (n : Int) : IntKind.u64.wrap n = n % 18446744073709551616 := by simp [IntKind.wrap, IntKind.bits, IntKind.signed]
theorem wrap_i32 (n : Int) : IntKind.i32.wrap n = (n + 2147483648) % 4294967296 - 2147483648 := by
  simp [IntKind.wrap, IntKind.bits, IntKind.signed]
  split <;> omega
theorem wrap_i64 (n : Int) : IntKind.i64.wrap n = (n + 9223372036854775808) % 18446744073709551616 - 9223372036854775808 := by
  simp [IntKind.wrap, IntKind.bits, IntKind.signed]
  split <;> omega
theorem wrap_i64_id {n : Int} (h1 : -9223372036854775808 ≤ n) (h2 : n < 9223372036854775808) : IntKind.i64.wrap n = n := by
  rw [wrap_i64]; omega
theorem wrap_u32_id {n : Int} (h1 : 0 ≤ n) (h2 : n < 4294967296) : IntKind.u32.wrap n = n := by
  rw [wrap_u32]; omega
theorem wrap_u8_id {n : Int} (h1 : 0 ≤ n) (h2 : n < 256) : IntKind.u8.wrap n = n := by
  rw [wrap_u8]; omega
theorem ofInt_toNat {w : Nat} {x : Int} (h1 : 0 ≤ x) (h2 : x < 2 ^ w) : (BitVec.ofInt w x).toNat = x.toNat := by
  rw [BitVec.toNat_ofInt]
  have : x % (2 ^ w : Nat) = x := Int.emod_eq_of_lt h1 (by exact_mod_cast h2)
  rw [this]
theorem lt_two_pow_of {w : Nat} {x : Int} (h1 : 0 ≤ x) (h2 : x < 2 ^ w) : x.toNat < 2 ^ w := by
  have : ((2 ^ w : Nat) : Int) = 2 ^ w := by norm_cast
  omega
theorem ibits_and_u32 {x y : Int} (hx : 0 ≤ x) (hx2 : x < 4294967296) (hy : 0 ≤ y) (hy2 : y < 4294967296) : ibits .and .u32 x y = ((x.toNat &&& y.toNat : Nat) : Int) := by
  have h1 := ofInt_toNat (w := 32) hx (by simpa using hx2)
  have h2 := ofInt_toNat (w := 32) hy (by simpa using hy2)
  have hl : x.toNat &&& y.toNat < 2 ^ 32 := Nat.and_lt_two_pow _ (lt_two_pow_of hy (by simpa using hy2))
  have e : (BitVec.ofInt 32 x &&& BitVec.ofInt 32 y).toNat = x.toNat &&& y.toNat := by rw [BitVec.toNat_and, h1, h2]
  show IntKind.u32.wrap ((BitVec.ofInt 32 x &&& BitVec.ofInt 32 y).toNat : Int) = _
  rw [e, wrap_u32_id (by omega) (by simp at hl; omega)]
theorem ibits_or_u32 {x y : Int} (hx : 0 ≤ x) (hx2 : x < 4294967296) (hy : 0 ≤ y) (hy2 : y < 4294967296) : ibits .or .u32 x y = ((x.toNat ||| y.toNat : Nat) : Int) := by
  have h1 := ofInt_toNat (w := 32) hx (by simpa using hx2)
  have h2 := ofInt_toNat (w := 32) hy (by simpa using hy2)
  have hl : x.toNat ||| y.toNat < 2 ^ 32 := Nat.or_lt_two_pow (lt_two_pow_of hx (by simpa using hx2)) (lt_two_pow_of hy (by simpa using hy2))
  have e : (BitVec.ofInt 32 x ||| BitVec.ofInt 32 y).toNat = x.toNat ||| y.toNat := by rw [BitVec.toNat_or, h1, h2]
  show IntKind.u32.wrap ((BitVec.ofInt 32 x ||| BitVec.ofInt 32 y).toNat : Int) = _
  rw [e, wrap_u32_id (by omega) (by simp at hl; omega)]
theorem ibits_xor_u32 {x y : Int} (hx : 0 ≤ x) (hx2 : x < 4294967296) (hy : 0 ≤ y) (hy2 : y < 4294967296) : ibits .xor .u32 x y = ((x.toNat ^^^ y.toNat : Nat) : Int) := by
  have h1 := ofInt_toNat (w := 32) hx (by simpa using hx2)
  have h2 := ofInt_toNat (w := 32) hy (by simpa using hy2)
  have hl : x.toNat ^^^ y.toNat < 2 ^ 32 := Nat.xor_lt_two_pow (lt_two_pow_of hx (by simpa using hx2)) (lt_two_pow_of hy (by simpa using hy2))
  have e : (BitVec.ofInt 32 x ^^^ BitVec.ofInt 32 y).toNat = x.toNat ^^^ y.toNat := by rw [BitVec.toNat_xor, h1, h2]
  show IntKind.u32.wrap ((BitVec.ofInt 32 x ^^^ BitVec.ofInt 32 y).toNat : Int) = _
  rw [e, wrap_u32_id (by omega) (by simp at hl; omega)]
theorem ibits_u32_range (op : BinOp) (x y : Int) : 0 ≤ ibits op .u32 x y ∧ ibits op .u32 x y < 4294967296 := by
  unfold ibits
  split <;> (rw [wrap_u32]; omega)
theorem ibits_and_mask {w : Nat} (k : IntKind) (m : Nat) (x : Int) (hk : k.bits = w) (hm : m < w) (hw : k.wrap ((x % 2 ^ m).toNat : Int) = x % 2 ^ m) : ibits .and k x (2 ^ m - 1) = x % 2 ^ m := by
  have hp : (2 : Nat) ^ m < 2 ^ w := Nat.pow_lt_pow_right (by omega) hm
  have hpos : 0 < (2 : Nat) ^ m := Nat.two_pow_pos m
  have e1 : ((2 ^ m : Nat) : Int) = 2 ^ m := by norm_cast
  have h2 : (BitVec.ofInt w ((2 : Int) ^ m - 1)).toNat = 2 ^ m - 1 := by
    rw [ofInt_toNat (by omega) (by have : ((2 ^ w : Nat) : Int) = 2 ^ w := by norm_cast
                                   omega)]
    omega
  have h1 : (BitVec.ofInt w x).toNat = (x % (2 ^ w : Nat)).toNat := by rw [BitVec.toNat_ofInt]
  subst hk
  simp only [ibits, BitVec.toNat_and, h1, h2]
  rw [Nat.and_two_pow_sub_one_eq_mod]
  have e2 : (x % (2 ^ k.bits : Nat)).toNat % 2 ^ m = (x % 2 ^ m).toNat := by
    have hd : ((2 ^ m : Nat) : Int) ∣ ((2 ^ k.bits : Nat) : Int) := by
      exact_mod_cast Nat.pow_dvd_pow 2 (Nat.le_of_lt hm)
    have h3 : 0 ≤ x % (2 ^ k.bits : Nat) := Int.emod_nonneg _ (by have := Nat.two_pow_pos k.bits; omega)
    have h4 : x % (2 ^ k.bits : Nat) % (2 ^ m : Nat) = x % (2 ^ m : Nat) := Int.emod_emod_of_dvd _ hd
    have h5 : 0 ≤ x % (2 ^ m : Nat) := Int.emod_nonneg _ (by omega)
    rw [e1] at h4 h5
    apply Int.ofNat.inj
    show (((x % (2 ^ k.bits : Nat)).toNat % 2 ^ m : Nat) : Int) = ((x % 2 ^ m).toNat : Int)
    rw [Int.natCast_emod, Int.toNat_of_nonneg h3, e1, h4, Int.toNat_of_nonneg h5]
  rw [e2, hw]
end Go.AE

/- A law's arguments, one by one; and the row of a law whose numbers are known. -/
namespace Go.AE

theorem has_int {P : Program} {d : Nat} {t : TypeId} {k : IntKind} {v : AV} (hu : P.underlying t = some (.int k)) (h : Has P (d + 1) t v) : ∃ n, v = .int k n ∧ k.min ≤ n ∧ n ≤ k.max := by
  simp only [Has, hu] at h
  obtain ⟨n, rfl, hw⟩ := h
  refine ⟨n, rfl, ?_⟩
  simpa [Lit.wf] using hw
theorem has_bool {P : Program} {d : Nat} {t : TypeId} {v : AV} (hu : P.underlying t = some .bool) (h : Has P (d + 1) t v) : ∃ b, v = .bool b := by
  simpa only [Has, hu] using h
theorem has_str {P : Program} {d : Nat} {t : TypeId} {v : AV} (hu : P.underlying t = some .string) (h : Has P (d + 1) t v) : ∃ s, v = .str s ∧ s.length ≤ maxLen := by
  simpa only [Has, hu] using h
theorem has_struct {P : Program} {d : Nat} {t : TypeId} {fs : Array Field} {v : AV} (hu : P.underlying t = some (.struct fs)) (h : Has P (d + 1) t v) : ∃ ps, v = .agg (uid P t) ps ∧ HasL (fun v t => Has P d t v) (fs.toList.map (·.type)) ps := by
  simpa only [Has, hu] using h
theorem has_array {P : Program} {d : Nat} {t e : TypeId} {n : Nat} {v : AV} (hu : P.underlying t = some (.array n e)) (h : Has P (d + 1) t v) : ∃ ps, v = .agg (uid P t) ps ∧ ps.length = n ∧ ∀ x ∈ ps, Has P d e x := by
  simpa only [Has, hu] using h
theorem has_slice {P : Program} {d : Nat} {t e : TypeId} {v : AV} (hu : P.underlying t = some (.slice e)) (h : Has P (d + 1) t v) : ∃ l, v = .slice e l false ∧ l.length ≤ maxLen ∧ ∀ x ∈ l, Has P d e x := by
  simpa only [Has, hu] using h
theorem hasL_cons {p : AV → TypeId → Prop} {t : TypeId} {ts : List TypeId} {as : List AV} (h : HasL p (t :: ts) as) : ∃ a r, as = a :: r ∧ p a t ∧ HasL p ts r := by
  cases as with
  | nil => simp [HasL] at h
  | cons a r => exact ⟨a, r, rfl, h.1, h.2⟩
theorem hasL_nil {p : AV → TypeId → Prop} {as : List AV} (h : HasL p [] as) : as = [] := by
  cases as with
  | nil => rfl
  | cons a r => simp [HasL] at h
end Go.AE

/- What functions return, as a table that is made of the evaluator itself, call by call; loops as functions of their own. -/
namespace Go.AE

/-- What functions return, where that is known. -/
abbrev Tab := FuncId → List AV → Option AV
/-- What a loop comes to: which of its ends (0: none), and what is then known. -/
structure LO where
  k : Nat
  i : List Int := []
  b : List Bool := []
  l : List (List AV) := []
  s : List (List UInt8) := []
  n : List Nat := []
  v : List AV := []
def LO.bad : LO := ⟨0, [], [], [], [], [], []⟩
theorem go_cond {R : Type} {f : LO → LT} {K : AX → Fr → Mm → Option R} {c : Bool} {x y : Option R} {X Y : LO} (hx : x = (f X).go K) (hy : y = (f Y).go K) : cond c x y = (f (cond c X Y)).go K := by
  cases c <;> assumption
/-- An argument, as a function of it is told of it: whether a slice may be appended to is not told. -/
def normA (P : Program) : Nat → AV → AV
  | 0, v => v
  | d + 1, v =>
    match v with
    | .slice e l _ => .slice e l false
    | .agg t ps => match P.underlying t with
      | some (.struct _) => .agg t (ps.map (normA P d))
      | _ => .agg t ps
    | v => v
def tupOf : AV → List AV
  | .tuple vs => vs
  | _ => []
def etaTs (P : Program) : Nat → List TypeId → List AV → List AV
  | _, [], _ => []
  | k, t :: ts, vs => etaA P true 8 t (vs.getD k .dead) :: etaTs P (k + 1) ts vs
/-- What a function returns, in the form that its type gives it. -/
def etaR (P : Program) (ts : List TypeId) (v : AV) : AV :=
  match ts with
  | [t] => etaA P true 8 t v
  | ts => .tuple (etaTs P 0 ts (tupOf v))
/-- Is it known what a function returns, in its type's form? And what it is. -/
def okT (P : Program) (F : Tab) (f : FuncId) (args : List AV) : Bool :=
  match F f args, P.funcs[f]? with
  | some v, some fn => goodR P fn.resultTypes.toList v
  | _, _ => false
def valT (F : Tab) (f : FuncId) (args : List AV) : AV := (F f args).getD .dead
def specT (P : Program) (kn : List FuncId) (F : Tab) (f : FuncId) (args : List AV) : Option (Bool × AV) :=
  if memN f kn then
    match P.funcs[f]? with
    | some fn => let a := args.map (normA P 4); some (okT P F f a, etaR P fn.resultTypes.toList (valT F f a))
    | none => none
  else none
/-- What a table says of functions is so. -/
def TabOK (P : Program) (F : Tab) : Prop := ∀ f args v, F f args = some v → CallsS P f args v
section
variable {P : Program} {x : X}
theorem relSt_mapF {f : AV → AV} (hf : ∀ t v cs, fits P t v = true → rel P x v cs → fits P t (f v) = true ∧ rel P x (f v) cs) : ∀ (ts : List TypeId) (ps : List AV) (cs : List Value), relSt P x ts ps cs → relSt P x ts (ps.map f) cs
  | [], [], cs, h => h
  | [], _ :: _, cs, h => h.elim
  | _ :: _, [], cs, h => h.elim
  | t :: ts, v :: vs, cs, ⟨c, r, h1, h2, h3, h4, h5⟩ => ⟨c, r, h1, (hf t v c h4 h2).2, h3, (hf t v c h4 h2).1, relSt_mapF hf ts vs r h5⟩
theorem norm_rel : ∀ (d : Nat) (v : AV) (cs : List Value), rel P x v cs → rel P x (normA P d v) cs ∧ (normA P d v).isA = v.isA ∧ ∀ t, fits P t v = true → fits P t (normA P d v) = true
  | 0, v, cs, h => ⟨h, rfl, fun _ h => h⟩
  | d + 1, v, cs, h => by
    cases v with
    | slice e l ex =>
      obtain ⟨base, len, cap, h1, h2, h3, h4, h5⟩ := h
      exact ⟨⟨base, len, cap, h1, h2, h3, fun k => absurd k (by simp), h5⟩, rfl, fun t ht => ht⟩
    | agg t ps =>
      simp only [normA]
      split
      · rename_i fs hu
        obtain ⟨k1, k2⟩ := rel_struct h hu
        exact ⟨mk_struct hu k1 (relSt_mapF (fun t v cs hf hr => ⟨(norm_rel d v cs hr).2.2 t hf, (norm_rel d v cs hr).1⟩) _ _ _ k2), rfl, fun u hu => hu⟩
      · exact ⟨h, rfl, fun _ h => h⟩
    | _ => exact ⟨h, rfl, fun _ h => h⟩
theorem norm_relVs (d : Nat) : ∀ (as : List AV) (vs : List Value), relVs P x as vs → relVs P x (as.map (normA P d)) vs
  | [], vs, h => h
  | a :: as, vs, ⟨c, r, h1, h2, h3, h4⟩ => by
    obtain ⟨k1, k2, _⟩ := norm_rel d a c h2
    exact ⟨c, r, by rw [k2]; exact h1, k1, by rw [k2]; exact h3, norm_relVs d as r h4⟩
theorem etaTs_rel (hm : x.m = false) {vs : List AV} : ∀ (ts : List TypeId) (k : Nat) (us : List AV) (ds : List Value), fitsAll P ts us = true → relVs P x us ds → (∀ j, us.getD j .dead = vs.getD (k + j) .dead) → relVs P x (etaTs P k ts vs) ds
  | [], k, [], ds, _, h, _ => h
  | [], k, _ :: _, ds, hf, _, _ => by simp [fitsAll] at hf
  | _ :: _, k, [], ds, hf, _, _ => by simp [fitsAll] at hf
  | t :: ts, k, u :: us, ds, hf, ⟨c, r, h1, h2, h3, h4⟩, hj => by
    simp only [fitsAll, Bool.and_eq_true] at hf
    have e : vs.getD k .dead = u := by simpa using (hj 0).symm
    have hv := relV_eta (im := true) (fun _ => hm) (d := 8) hf.1 ⟨c, rfl, h2, h3⟩
    subst h1
    simp only [etaTs, e]
    exact relVs_cons hv (etaTs_rel hm ts (k + 1) us r hf.2 h4 fun j => by rw [show k + 1 + j = k + (j + 1) from by omega, ← hj]; rfl)
theorem etaR_rel (hm : x.m = false) {ts : List TypeId} {v : AV} {c : Value} (hg : goodR P ts v = true) (h : relV P x v c) : relV P x (etaR P ts v) c := by
  unfold goodR at hg
  simp only [Bool.and_eq_true] at hg
  obtain ⟨hpl, hg⟩ := hg
  clear hpl
  split at hg
  · exact relV_eta (fun _ => hm) hg h
  · rename_i vs hne
    obtain ⟨cs, rfl, ⟨arr, rfl, hus⟩, _⟩ := h
    have e : etaR P ts (.tuple vs) = .tuple (etaTs P 0 ts vs) := by
      unfold etaR
      split
      · rename_i t; exact absurd rfl (hne t)
      · rfl
    rw [e]
    have : rel P x (.tuple (etaTs P 0 ts vs)) [.tuple arr] := ⟨arr, rfl, etaTs_rel hm ts 0 vs arr.toList hg hus fun j => by rw [Nat.zero_add]⟩
    exact relV_leaf this rfl
  · exact absurd hg (by simp)
end
theorem specT_good {cx : Ctx} {kn : List FuncId} {F : Tab} (hs : cx.spec = specT cx.P kn F) (hF : TabOK cx.P F) : cx.Good := by
  intro f args v h
  rw [hs] at h
  unfold specT at h
  split at h
  · split at h
    · rename_i fn hfn
      simp only [Option.some.injEq, Prod.mk.injEq] at h
      obtain ⟨h1, h2⟩ := h
      unfold okT at h1
      split at h1
      · rename_i u fn' hu hfn'
        rw [hfn] at hfn'
        obtain rfl := Option.some.inj hfn'
        unfold valT at h2
        rw [hu, Option.getD_some] at h2
        subst h2
        intro w S cargs ha
        exact (hF f _ u hu w S cargs (norm_relVs 4 _ _ ha)).mono fun e w' ⟨rv, e1, e2, e3⟩ => ⟨rv, e1, e2, etaR_rel rfl h1 e3⟩
      · exact absurd h1 (by simp)
    · exact absurd h (by simp)
  · exact absurd h (by simp)
/-- The functions' table, calls k deep. -/
noncomputable def Dt (C : Tab → Ctx) (d : Nat) : Nat → Tab
  | 0 => fun _ _ => none
  | k + 1 => fun f args => fnV (C (Dt C d k)) d f args
theorem Dt_ok {P : Program} {C : Tab → Ctx} {kn : List FuncId} {d : Nat} (hP : ∀ F, (C F).P = P) (hs : ∀ F, (C F).spec = specT P kn F) (hL : ∀ F, (C F).Loops) : ∀ k, TabOK P (Dt C d k)
  | 0 => fun f args v h => by simp [Dt] at h
  | k + 1 => fun f args v h => by
    have hF := Dt_ok hP hs hL k (d := d)
    have hg : (C (Dt C d k)).Good := specT_good (by rw [hs, hP]) (by rw [hP]; exact hF)
    have := fnV_sound hg (hL _) h
    rwa [hP] at this
/-- A function returns that, by the table. -/
structure Rt (P : Program) (F : Tab) (f : FuncId) (args : List AV) (v : AV) : Prop where
  ok : okT P F f args = true
  val : valT F f args = v
def goodF (P : Program) (f : FuncId) (v : AV) : Bool :=
  match P.funcs[f]? with
  | some fn => goodR P fn.resultTypes.toList v
  | none => false
theorem Rt.of {P : Program} {F : Tab} {f : FuncId} {args : List AV} {v : AV} (h : F f args = some v) (hg : goodF P f v = true) : Rt P F f args v := by
  refine ⟨?_, by simp [valT, h]⟩
  unfold okT
  rw [h]
  unfold goodF at hg
  split at hg
  · rename_i fn hfn; rw [hfn]; exact hg
  · exact absurd hg (by simp)
/-! branches that end alike -/
theorem pI (b : Bool) (k : IntKind) (x y : Int) : cond b (some (AV.int k x)) (some (AV.int k y)) = some (.int k (cond b x y)) := by cases b <;> rfl
theorem pB (b x y : Bool) : cond b (some (AV.bool x)) (some (AV.bool y)) = some (.bool (cond b x y)) := by cases b <;> rfl
theorem pS (b : Bool) (x y : List UInt8) : cond b (some (AV.str x)) (some (AV.str y)) = some (.str (cond b x y)) := by cases b <;> rfl
theorem c_or (b x : Bool) : cond b true x = (b || x) := by cases b <;> rfl
theorem c_and (b x : Bool) : cond b x false = (b && x) := by cases b <;> rfl
theorem condB_t (b x : Bool) : condB b true x = (b || x) := by cases b <;> cases x <;> rfl
theorem condB_t' (b x : Bool) : condB b x true = (!b || x) := by cases b <;> cases x <;> rfl
theorem condB_f (b x : Bool) : condB b x false = (b && x) := by cases b <;> cases x <;> rfl
/-! what is read of values in full form -/
theorem iO (k : IntKind) (n : Int) : intOf (.int k n) = n := rfl
theorem bO (b : Bool) : boolOf (.bool b) = b := rfl
theorem sO (s : List UInt8) : strOf (.str s) = s := rfl
theorem lO (e : TypeId) (l : List AV) (x : Bool) : listOf (.slice e l x) = l := rfl
theorem pO (t : TypeId) (l : List AV) : partsOf (.agg t l) = l := rfl
theorem tO (l : List AV) : tupOf (.tuple l) = l := rfl
theorem g0 (a : AV) (l : List AV) : (a :: l).getD 0 .dead = a := rfl
theorem g1 (a b : AV) (l : List AV) : (a :: b :: l).getD 1 .dead = b := rfl
theorem g2 (a b c : AV) (l : List AV) : (a :: b :: c :: l).getD 2 .dead = c := rfl
theorem g3 (a b c d : AV) (l : List AV) : (a :: b :: c :: d :: l).getD 3 .dead = d := rfl
theorem g4 (a b c d e : AV) (l : List AV) : (a :: b :: c :: d :: e :: l).getD 4 .dead = e := rfl
theorem condB_tt (b : Bool) : condB b true true = true := by cases b <;> rfl
theorem cond_same (b : Bool) {α : Type} (x : α) : cond b x x = x := by cases b <;> rfl
end Go.AE

/- Bits of whole numbers: masks, and numbers put side by side. -/
namespace Go.AE
theorem and_u32 (m : Nat) (x : Int) (hm : m < 32) : ibits .and .u32 x (2 ^ m - 1) = x % 2 ^ m :=
  ibits_and_mask (w := 32) .u32 m x rfl hm (by
    have h1 : (0 : Int) < 2 ^ m := by exact_mod_cast Nat.two_pow_pos m
    have h2 : (2 : Int) ^ m < 2 ^ 32 := by exact_mod_cast Nat.pow_lt_pow_right (by omega) hm
    have h3 := Int.emod_nonneg x (b := 2 ^ m) (by omega)
    have h4 := Int.emod_lt_of_pos x h1
    rw [Int.toNat_of_nonneg h3]
    exact wrap_u32_id h3 (by omega))
theorem and_i64 (m : Nat) (x : Int) (hm : m < 63) : ibits .and .i64 x (2 ^ m - 1) = x % 2 ^ m :=
  ibits_and_mask (w := 64) .i64 m x rfl (by omega) (by
    have h1 : (0 : Int) < 2 ^ m := by exact_mod_cast Nat.two_pow_pos m
    have h2 : (2 : Int) ^ m < 2 ^ 63 := by exact_mod_cast Nat.pow_lt_pow_right (by omega) hm
    have h3 := Int.emod_nonneg x (b := 2 ^ m) (by omega)
    have h4 := Int.emod_lt_of_pos x h1
    rw [Int.toNat_of_nonneg h3]
    exact wrap_i64_id (by omega) (by omega))
/-- A number put beside another one. -/
theorem or_u32N (k : Nat) {h l : Nat} (hl : l < 2 ^ k) (hd : h % 2 ^ k = 0) (hs : h + l < 4294967296) : ibits .or .u32 (h : Int) (l : Int) = ((h + l : Nat) : Int) := by
  have a1 : (0 : Int) ≤ (h : Int) := Int.natCast_nonneg _
  have a2 : (0 : Int) ≤ (l : Int) := Int.natCast_nonneg _
  have a3 : (h : Int) < 4294967296 := by clear hl hd; omega
  have a4 : (l : Int) < 4294967296 := by clear hl hd; omega
  obtain ⟨b, hb⟩ : ∃ b, h = 2 ^ k * b := ⟨h / 2 ^ k, by
    have := Nat.div_add_mod h (2 ^ k)
    rw [hd] at this
    exact this.symm⟩
  rw [ibits_or_u32 a1 a3 a2 a4, Int.toNat_natCast, Int.toNat_natCast, hb, ← Nat.two_pow_add_eq_or_of_lt hl]
theorem fdiv_pos {x : Int} {m : Int} (h : 0 < m) : x.fdiv m = x / m := Int.fdiv_eq_ediv_of_nonneg x (by omega)
end Go.AE

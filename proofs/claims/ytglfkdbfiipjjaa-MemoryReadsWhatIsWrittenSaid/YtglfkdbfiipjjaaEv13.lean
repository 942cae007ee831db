/- What 'popv' says of an operation is what it does. -/
import Derived.Test.YtglfkdbfiipjjaaEv12
set_option linter.unusedVariables false
set_option linter.unusedSimpArgs false
namespace Go.AE
open Go.RowKit Go.Lib
section
variable {P : Program}

/-! ### plain values rest on no row -/
structure Lp (x y : X) : Prop where
  st : ∀ b o : Nat, x.st b o → y.st b o
  cell : ∀ (b o : Nat) (v : Value), x.st b o → x.w.cell? ⟨b, o, none⟩ = some v → y.w.cell? ⟨b, o, none⟩ = some v
  m : x.m = false
theorem Lp.at {x y : X} (h : Lp x y) {b o : Nat} {cs : List Value} (k : At x b o cs) : At y b o cs := fun i v hv => ⟨h.st _ _ (k i v hv).1, h.cell _ _ _ (k i v hv).1 (k i v hv).2⟩
theorem Lp.imm {x y : X} (h : Lp x y) : Lp x.imm y.imm := ⟨h.st, h.cell, rfl⟩
mutual
theorem plain_rel {x y : X} (hl : Lp x y) : ∀ (v : AV) (n : Nat) {t : TypeId} {c : List Value}, plainT P n t = true → fits P t v = true → rel P x v c → rel P y v c
  | v, 0, t, c, h, _, _ => by simp [plainT] at h
  | .agg u ps, n + 1, t, c, h, hf, hr => by
    have hlk := (tyA_agg hf).1
    simp only [plainT] at h
    split at h
    · rename_i hu; have := (tyA_agg hf).2; simp [tyA, hu] at this
    · rename_i hu; have := (tyA_agg hf).2; simp [tyA, hu] at this
    · rename_i hu; have := (tyA_agg hf).2; simp [tyA, hu] at this
    · rename_i fs hu
      have hu' := (like_under hlk).trans hu
      obtain ⟨k1, k2⟩ := rel_struct hr hu'
      exact mk_struct hu' k1 (plain_st hl ps n h k2)
    · rename_i m e hu
      have hu' := (like_under hlk).trans hu
      obtain ⟨k1, k2, k3⟩ := rel_array hr hu'
      exact mk_array hu' k1 k2 (plain_ar hl ps n h k3)
    · rename_i e hu; have := (tyA_agg hf).2; simp [tyA, hu] at this
    · exact absurd h (by simp)
  | .slice e l ex, n + 1, t, c, h, hf, hr => by
    simp only [plainT] at h
    obtain ⟨base, len, cap, h1, h2, h3, h4, h5⟩ := hr
    refine ⟨base, len, cap, h1, h2, h3, h4, h5.imp id fun ⟨b, o, h6, h7⟩ => ⟨b, o, h6, ?_⟩⟩
    split at h
    · rename_i hu; simp [fits, leafOK, hu] at hf
    · rename_i hu; simp [fits, leafOK, hu] at hf
    · rename_i hu; simp [fits, leafOK, hu] at hf
    · rename_i hu; simp [fits, leafOK, hu] at hf
    · rename_i hu; simp [fits, leafOK, hu] at hf
    · rename_i e' hu
      simp only [fits, leafOK, hu, Bool.and_eq_true] at hf
      have := Nat.eq_of_beq_eq_true hf.1
      subst this
      exact plain_sl hl.imm l n h h7
    · exact absurd h (by simp)
  | .msl _ _ _ _ _ _, n + 1, t, c, h, hf, hr => by
    have := hr.1
    rw [hl.m] at this
    exact absurd this (by simp)
  | .bool _, n + 1, t, c, h, hf, hr => hr
  | .int _ _, n + 1, t, c, h, hf, hr => hr
  | .str _, n + 1, t, c, h, hf, hr => hr
  | .dead, n + 1, t, c, h, hf, hr => by simp [fits, leafOK] at hf
  | .nilp, n + 1, t, c, h, hf, hr => hr
  | .nilf, n + 1, t, c, h, hf, hr => hr
  | .nili, n + 1, t, c, h, hf, hr => hr
  | .tuple _, n + 1, t, c, h, hf, hr => by simp [fits, leafOK] at hf
  | .ptr _ _ _ _, n + 1, t, c, h, hf, hr => by
    simp only [plainT] at h
    split at h <;> simp_all [fits, leafOK]
  | .rptr _ _, n + 1, t, c, h, hf, hr => by
    simp only [plainT] at h
    split at h <;> simp_all [fits, leafOK]
  | .mapv _, n + 1, t, c, h, hf, hr => by
    simp only [plainT] at h
    split at h <;> simp_all [fits, leafOK]
  | .func _ _ _, n + 1, t, c, h, hf, hr => by
    simp only [plainT] at h
    split at h <;> simp_all [fits, leafOK]
  | .iface _ _, n + 1, t, c, h, hf, hr => by
    simp only [plainT] at h
    split at h <;> simp_all [fits, leafOK]
theorem plain_st {x y : X} (hl : Lp x y) : ∀ (ps : List AV) (n : Nat) {fs : List Field} {c : List Value}, plainFs (plainT P n) fs = true → relSt P x (fs.map (·.type)) ps c → relSt P y (fs.map (·.type)) ps c
  | [], n, [], c, _, h => h
  | [], n, _ :: _, c, _, h => h.elim
  | _ :: _, n, [], c, _, h => h.elim
  | p :: ps, n, f :: fs, c, hf, h => by
    obtain ⟨c1, r, rfl, h1, h2, h3, h4⟩ := h
    simp only [plainFs, Bool.and_eq_true] at hf
    exact ⟨c1, r, rfl, plain_rel hl p n hf.1 h3 h1, h2, h3, plain_st hl ps n hf.2 h4⟩
theorem plain_ar {x y : X} (hl : Lp x y) : ∀ (ps : List AV) (n : Nat) {e : TypeId} {c : List Value}, plainT P n e = true → relAr P x e ps c → relAr P y e ps c
  | [], n, e, c, _, h => h
  | p :: ps, n, e, c, hf, h => by
    obtain ⟨c1, r, rfl, h1, h2, h3, h4⟩ := h
    exact ⟨c1, r, rfl, plain_rel hl p n hf h3 h1, h2, h3, plain_ar hl ps n hf h4⟩
theorem plain_sl {x y : X} (hl : Lp x y) : ∀ (ps : List AV) (n : Nat) {e : TypeId} {b o : Nat}, plainT P n e = true → relSl P x e b o ps → relSl P y e b o ps
  | [], n, e, b, o, _, h => trivial
  | p :: ps, n, e, b, o, hf, h => by
    obtain ⟨⟨c, h1, h2, h3, h4⟩, h5⟩ := h
    exact ⟨⟨c, plain_rel hl p n hf h3 h1, h2, h3, hl.at h4⟩, plain_sl hl ps n hf h5⟩
end
theorem plain_args {x y : X} (hl : Lp x.imm y) : ∀ {ts : List TypeId} {as : List AV} {vs : List Value}, fitsAll P ts as = true → plainAll P ts = true → allL (noMsl P 8) as = true → relVs P x as vs → relVs P y as vs
  | [], [], vs, _, _, _, h => h
  | [], _ :: _, vs, hf, _, _, h => by simp [fitsAll] at hf
  | _ :: _, [], vs, hf, _, _, h => by simp [fitsAll] at hf
  | t :: ts, a :: as, vs, hf, hp, hn, h => by
    obtain ⟨c, r, rfl, h1, h2, h3⟩ := h
    simp only [fitsAll, Bool.and_eq_true] at hf
    simp only [plainAll, Bool.and_eq_true] at hp
    simp only [allL, Bool.and_eq_true] at hn
    exact ⟨c, r, rfl, plain_rel hl a 20 hp.1 hf.1 (noMsl_rel 8 a hn.1 h1), h2, plain_args hl hf.2 hp.2 hn.2 h3⟩

/-- A function's contract: called with these plain data, it returns that. -/
def CallsS (P : Program) (f : FuncId) (args : List AV) (v : AV) : Prop :=
  ∀ (w : World) (S : Nat → Nat → Prop) (cargs : Array Value), relVs P ⟨[], S, w, false⟩ args cargs.toList →
    Calls P f cargs w fun e w' => ∃ rv, e = .returned rv ∧ Below w.heap.size w w' ∧ relV P ⟨[], fun b o => S b o ∨ w.heap.size ≤ b, w', false⟩ v rv
/-- What a context says of functions is so. -/
def Ctx.Good (cx : Ctx) : Prop := ∀ f args v, cx.spec f args = some (true, v) → CallsS cx.P f args v
end

section
variable {cx : Ctx} {N d : Nat} {S : Nat → Nat → Prop} {w0 : World} {g : G} {fr : Fr} {M : Mm} {a : Act} {w : World}

theorem Rel.rowsOK (h : Rel (Env.mk (Ctx.P cx) N S w0) d g fr M a w) : RowsOK cx.P g.rows (stOf (Env.mk (Ctx.P cx) N S w0) g.cls) w M := fun r b root hr => (h.rows r b root hr).2.2.2
theorem Rel.newSt (h : Rel (Env.mk (Ctx.P cx) N S w0) d g fr M a w) : ∀ b o, w.heap.size ≤ b → stOf (Env.mk (Ctx.P cx) N S w0) g.cls b o := fun b o hb => by
  have hN := h.hN
  unfold stOf
  rw [if_neg (by show ¬ b < N; exact Nat.not_lt.2 (Nat.le_trans hN hb)), h.fresh b hb]
  trivial
theorem okV_some {o : Option AV} {v : AV} {b : Bool} (h : okV o = some (b, v)) : o = some v ∧ b = true := by
  unfold okV at h
  split at h
  · simp only [Option.some.injEq, Prod.mk.injEq] at h
    exact ⟨by rw [h.2], h.1.symm⟩
  · exact absurd h (by simp)
theorem int_of {v : AV} {c : Value} {x : X} (h : relV cx.P x v c) {k : IntKind} {n : Int} (e : v = .int k n) : c = .int k n := by subst e; exact relV_int.1 h
theorem relPs_parts (h : Rel (Env.mk (Ctx.P cx) N S w0) d g fr M a w) (t : TypeId) : ∀ ps : List (Nat × Operand), relPs cx.P (xOf (Env.mk (Ctx.P cx) N S w0) g w) (partsO cx.P fr.tmps t ps) (ps.map fun p => (p.1, a.eval p.2))
  | [] => trivial
  | (i, x) :: ps => ⟨rfl, h.opnd (partsT cx.P t i) x, relPs_parts h t ps⟩
theorem relO_opt (h : Rel (Env.mk (Ctx.P cx) N S w0) d g fr M a w) : ∀ x : Option Operand, relO cx.P (xOf (Env.mk (Ctx.P cx) N S w0) g w) (optO cx.P fr.tmps x) (x.map a.eval)
  | none => trivial
  | some x => h.opnd 0 x
theorem yield_val {s : Sem Value} {v : AV} {K : Act → World → Prop} {o : Oper} (h : Yield cx.P g.rows (stOf (Env.mk (Ctx.P cx) N S w0) g.cls) w s v)
    (hk : ∀ c w', Below w.heap.size w w' → relV cx.P (xOf (Env.mk (Ctx.P cx) N S w0) g w') v c → K (a.put o.dst c) w') (Q : Exit → Act → World → Prop) :
    o.upon cx.P a K Q ((do pure (Next.value (← s)) : Sem Next).run cx.P w) := by
  obtain ⟨c, w', h1, h2, h3⟩ := h
  simp only [Sem.run_bind, h1, Result.andThen_ok, Sem.run_pure, Oper.upon_value]
  exact hk c w' h2 h3
theorem popv_sound (hG : cx.Good) (hr : Rel (Env.mk (Ctx.P cx) N S w0) d g fr M a w) {o : Oper} {v : AV} (h : popv cx M fr.tmps o = some (true, v)) {K : Act → World → Prop} {Q : Exit → Act → World → Prop}
    (hk : ∀ c w', Below w.heap.size w w' → relV cx.P (xOf (Env.mk (Ctx.P cx) N S w0) g w') v c → K (a.put o.dst c) w') : o.wp cx.P a w K Q := by
  have here : ∀ c, relV cx.P (xOf (Env.mk (Ctx.P cx) N S w0) g w) v c → K (a.put o.dst c) w := fun c hc => hk c w (Below.refl _ _) hc
  unfold Oper.wp
  unfold popv at h
  unfold execOp
  cases ho : o.op <;> simp only [ho] at h ⊢ <;> first | (exfalso; simp at h; done) | skip
  case move x =>
    simp only [Option.some.injEq, Prod.mk.injEq, true_and] at h
    subst h
    simp only [Sem.run_pure, Oper.upon_value]
    exact here _ (hr.opnd _ x)
  case assign x =>
    simp only [Option.some.injEq, Prod.mk.injEq, true_and] at h
    subst h
    simp only [Sem.run_pure, Oper.upon_value]
    exact here _ (hr.opnd _ x)
  case pick c x y =>
    split at h
    · rename_i t ht
      simp only [Option.some.injEq, Prod.mk.injEq, true_and] at h
      have hc := hr.opnd 0 c
      rw [ht] at hc
      rw [relV_bool.1 hc]
      simp only [asBool, Sem.run_bind, Sem.run_pure, Result.andThen_ok, Oper.upon_value]
      rw [mergeV_eq] at h
      refine here _ ?_
      cases t
      · simp only [cond_false] at h; subst h; exact hr.opnd _ y
      · simp only [cond_true] at h; subst h; exact hr.opnd _ x
    · exact absurd h (by simp)
  case build t ps =>
    split at h
    · rename_i hf
      obtain ⟨h, _⟩ := okV_some h
      refine yield_val (yield_buildV h hf ?_) hk Q
      have := relPs_parts hr t ps.toList
      show relPs cx.P (xOf (Env.mk (Ctx.P cx) N S w0) g w) _ _
      simpa using this
    · exact absurd h (by simp)
  case buildSlice t n ps =>
    split at h
    · rename_i hf
      simp only [Bool.and_eq_true] at hf
      obtain ⟨h, _⟩ := okV_some h
      refine yield_val (yield_sliceLit h hf.1 ?_ hf.2 hr.newSt) hk Q
      have := relPs_parts hr t ps.toList
      show relPs cx.P (xOf (Env.mk (Ctx.P cx) N S w0) g w) _ _
      simpa using this
    · exact absurd h (by simp)
  case load t x =>
    obtain ⟨h, _⟩ := okV_some h
    exact yield_val (yield_loadV h (hr.opnd 0 x) hr.rowsOK) hk Q
  case nilCheck x =>
    have hx := hr.opnd 0 x
    generalize hv : opnd cx.P fr.tmps 0 x = u at *
    unfold nilV at h
    split at h
    · obtain ⟨b, root, _, _, e⟩ := relV_ptr hx
      simp only [Option.some.injEq, Prod.mk.injEq, true_and] at h
      subst h
      rw [e] at hx ⊢
      simp only [Sem.run_pure, Oper.upon_value]
      exact here _ hx
    · obtain ⟨b, o, c, e, _⟩ := relV_rptr hx
      simp only [Option.some.injEq, Prod.mk.injEq, true_and] at h
      subst h
      rw [e] at hx ⊢
      simp only [Sem.run_pure, Oper.upon_value]
      exact here _ hx
    · obtain ⟨c, e, _⟩ := relV_iface hx
      simp only [Option.some.injEq, Prod.mk.injEq, true_and] at h
      subst h
      rw [e] at hx ⊢
      simp only [Sem.run_pure, Oper.upon_value]
      exact here _ hx
    · rename_i fn f c
      obtain ⟨p, q, e, _⟩ := relV_func hx
      split at h
      · exact absurd h (by simp)
      · rename_i hm
        simp only [Option.some.injEq, Prod.mk.injEq, true_and] at h
        subst h
        rw [e] at hx ⊢
        cases fn with
        | method name => exact absurd rfl (hm name)
        | _ =>
          simp only [Sem.run_pure, Oper.upon_value]
          exact here _ hx
    · simp at h
    · simp at h
    · simp at h
    · simp at h
  case binOp op t x y ty =>
    split at h
    · rename_i rr hnil
      obtain rfl := Option.some.inj h
      exact yield_val (yield_nilCmp hnil (hr.opnd t x)) hk Q
    · exact yield_val (yield_binV h (hr.opnd t x) (hr.opnd ty y)) hk Q
  case unOp op t x =>
    obtain ⟨h, _⟩ := okV_some h
    exact yield_val (yield_unV h (hr.opnd t x)) hk Q
  case convert src dst x =>
    split at h
    · rename_i hs
      obtain ⟨h, _⟩ := okV_some h
      exact yield_val (yield_convV h hs (hr.opnd src x) hr.rowsOK hr.newSt) hk Q
    · exact absurd h (by simp)
  case makeInterface t x =>
    split at h
    · rename_i hf
      obtain ⟨h, _⟩ := okV_some h
      split at h
      · exact absurd h (by simp)
      · rename_i d hni hu
        simp only [Option.some.injEq] at h
        subst h
        obtain ⟨c, e, h1, h2⟩ := hr.opnd t x
        have hrel : rel cx.P (xOf (Env.mk (Ctx.P cx) N S w0) g w) (.iface t (opnd cx.P fr.tmps t x)) [.iface t (a.eval x)] := ⟨c, h1, hf, h2, by rw [e]⟩
        refine yield_val (.of (c := .iface t (a.eval x)) ?_ (relV_leaf hrel rfl)) hk Q
        refine run_makeInterface w t _ ?_
        unfold Program.concrete
        cases d <;> simp_all
      · exact absurd h (by simp)
    · exact absurd h (by simp)
  case makeFunc fn first cap =>
    simp only [Option.some.injEq, Prod.mk.injEq, true_and] at h
    subst h
    have hrel : rel cx.P (xOf (Env.mk (Ctx.P cx) N S w0) g w) (.func fn (opnds cx.P fr.tmps [] first.toList) (opnds cx.P fr.tmps [] cap.toList)) [.func fn (first.map a.eval) (cap.map a.eval)] :=
      ⟨_, _, rfl, by simpa using hr.opnds [] first.toList, by simpa using hr.opnds [] cap.toList⟩
    exact yield_val (.of (c := .func fn (first.map a.eval) (cap.map a.eval)) (by simp [Instr.makeFunc]) (relV_leaf hrel rfl)) hk Q
  case slice t x lo hi mx =>
    split at h
    · rename_i hi'
      exact yield_val (yield_sliceV h (hr.opnd t x) (relO_opt hr lo) (relO_opt hr hi) (relO_opt hr mx) (Option.isSome_iff_exists.mp hi')) hk Q
    · exact absurd h (by simp)
  case fieldAddr t x k =>
    obtain ⟨h, _⟩ := okV_some h
    exact yield_val (yield_fieldAddrV h (hr.opnd 0 x)) hk Q
  case field t x k =>
    obtain ⟨h, _⟩ := okV_some h
    exact yield_val (yield_fieldV h (hr.opnd t x)) hk Q
  case indexAddr t x i =>
    split at h
    · rename_i k n hn
      split at h
      · rename_i hi'
        rw [int_of (hr.opnd 0 i) hn]
        exact yield_val (yield_indexAddrV h (hr.opnd t x) (Option.isSome_iff_exists.mp hi')) hk Q
      · exact absurd h (by simp)
    · exact absurd h (by simp)
  case index t x i =>
    split at h
    · rename_i k n hn
      split at h
      · rename_i hi'
        rw [int_of (hr.opnd 0 i) hn]
        exact yield_val (yield_indexV h (hr.opnd t x) (Option.isSome_iff_exists.mp hi')) hk Q
      · exact absurd h (by simp)
    · exact absurd h (by simp)
  case typeAssert x xt t ok =>
    obtain ⟨h, _⟩ := okV_some h
    exact yield_val (yield_assertV h (hr.opnd 0 x)) hk Q
  case extract x i =>
    have hx := hr.opnd 0 x
    split at h
    · rename_i vs hv
      split at h
      · rename_i hlt
        simp only [Option.some.injEq, Prod.mk.injEq, true_and] at h
        subst h
        rw [hv] at hx
        obtain ⟨arr, e, hvs⟩ := relV_tuple hx
        obtain ⟨h1, h2⟩ := relVs_getD hvs
        have hi : i < arr.size := by have := Nat.blt_eq.mp hlt; rw [h1] at this; simpa using this
        rw [e]
        refine yield_val (.of (c := arr[i]) (by simp [Instr.extract, hi]) ?_) hk Q
        have := h2 i
        simpa [List.getD, hi] using this
      · exact absurd h (by simp)
    · exact absurd h (by simp)
  case call c =>
    cases hc : c.callee with
    | builtin b =>
      simp only [hc] at h
      unfold builtinV at h
      split at h
      · rename_i x t hx ht
        obtain ⟨h, _⟩ := okV_some h
        have e1 : c.args = #[x] := by apply Array.ext'; simpa using hx
        have e2 : c.argTypes = #[t] := by apply Array.ext'; simpa using ht
        simp only [resolve, hc, Sem.run_bind, Sem.run_pure, Result.andThen_ok, invoke, builtin, e1, e2, List.map_toArray, List.map_cons, List.map_nil]
        have := yield_val (K := K) (o := o) (a := a) (yield_lenV (ty := o.type) h (hr.opnd t x)) hk Q
        simpa only [Sem.run_bind, Sem.run_pure] using this
      · rename_i x r t ts hx ht
        obtain ⟨h, _⟩ := okV_some h
        obtain ⟨c', e3, e4⟩ := run_minV h (hr.opnd t x) (hr.opnds ts r)
        simp only [resolve, hc, Sem.run_bind, Sem.run_pure, Result.andThen_ok, invoke, builtin]
        have := yield_val (K := K) (o := o) (a := a) (s := Builtin.min_ c.argTypes o.type (c.args.map a.eval)) (v := v) (.of (c := c') (by simp [Builtin.min_, hx, e3]) e4) hk Q
        simpa only [Sem.run_bind, Sem.run_pure] using this
      · rename_i x r t ts hx ht
        obtain ⟨h, _⟩ := okV_some h
        obtain ⟨c', e3, e4⟩ := run_maxV h (hr.opnd t x) (hr.opnds ts r)
        simp only [resolve, hc, Sem.run_bind, Sem.run_pure, Result.andThen_ok, invoke, builtin]
        have := yield_val (K := K) (o := o) (a := a) (s := Builtin.max_ c.argTypes o.type (c.args.map a.eval)) (v := v) (.of (c := c') (by simp [Builtin.max_, hx, e3]) e4) hk Q
        simpa only [Sem.run_bind, Sem.run_pure] using this
      · exact absurd h (by simp)
    | invoke r name => simp only [hc, specCall] at h; exact absurd h (by simp)
    | value f =>
      simp only [hc] at h
      unfold specCall at h
      rw [hc] at h
      split at h
      · rename_i f' hf'
        simp only [Callee.value.injEq] at hf'
        subst hf'
        split at h
        · rename_i fn hfn
          simp only [] at h
          split at h
          · rename_i hcond
            simp only [Bool.and_eq_true, Bool.not_eq_true', beq_eq_false_iff_ne] at hcond
            obtain ⟨⟨⟨⟨h1, h2⟩, h3⟩, h4⟩, h5⟩ := hcond
            have hargs := hr.opnds c.argTypes.toList c.args.toList
            have hS := hG _ _ _ h w (stOf (Env.mk (Ctx.P cx) N S w0) g.cls) (c.args.map a.eval)
              (plain_args (x := xOf (Env.mk (Ctx.P cx) N S w0) g w) (y := ⟨[], stOf (Env.mk (Ctx.P cx) N S w0) g.cls, w, false⟩) ⟨fun b o k => k, fun b o v _ k => k, rfl⟩ h1 h2 h3 (by simpa using hargs))
            have hbody : ¬ fn.body = none := by cases hb : fn.body <;> simp_all
            have hex : (do let d ← resolve a.eval c o.type; invoke d.target d.args : Sem Next).run cx.P w = .ok (.enter f' (c.args.map a.eval)) w := by
              simp [resolve, hc, Act.eval, Deferred.ofValue, invoke, callFunc, hfn, h5, hbody]
            rw [hex, Oper.upon_enter]
            refine hS.mono fun e w' ⟨rv, he, hb, hv⟩ => ?_
            subst he
            have hle : Le ⟨[], fun b o => stOf (Env.mk (Ctx.P cx) N S w0) g.cls b o ∨ w.heap.size ≤ b, w', false⟩ (xOf (Env.mk (Ctx.P cx) N S w0) g w') :=
              ⟨fun r z hz => absurd hz (by simp), fun b o _ hso _ => hso.elim id (hr.newSt b o), fun b o v hso hcell => hcell, fun e => absurd e (by simp)⟩
            exact hk rv w' hb (relV_le hle hv)
          · exact absurd h (by simp)
        · exact absurd h (by simp)
      · exact absurd h (by simp)
end
end Go.AE

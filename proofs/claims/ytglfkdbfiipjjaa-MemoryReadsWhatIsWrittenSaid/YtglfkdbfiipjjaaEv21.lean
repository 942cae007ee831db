/- What 'evO' says of an operation; calls. -/
import Derived.Test.YtglfkdbfiipjjaaEv33
set_option linter.unusedVariables false
set_option linter.unusedSimpArgs false
namespace Go.AE
open Go.RowKit Go.Lib
section
variable {E : Env} {d : Nat} {g : G} {fr : Fr} {M : Mm} {a : Act} {w : World}
def fr0 : Fr := ⟨[], []⟩
def act0 : Act := ⟨#[], []⟩
/-- The memory alone. -/
theorem Rel.bare (h : Rel E d g fr M a w) (d' : Nat) : Rel E d' g fr0 M act0 w :=
  ⟨h.below, h.hN, h.fresh, rfl, fun i => by simpa [fr0, act0] using relV_dead _, h.lenr, h.rows, h.inj, fun t ht => by simp [fr0] at ht, fun t s ht => by simp [fr0] at ht, fun t r p ht => by simp [fr0] at ht, h.ro⟩
theorem mem_dropAllViaR {x : Nat × TF} {tf : List (Nat × TF)} (h : x ∈ dropAllViaR tf) : x ∈ tf ∧ ∀ r p, x.2 ≠ .viaR r p := by
  simp only [dropAllViaR, List.mem_filter] at h
  refine ⟨h.1, fun r p e => ?_⟩
  have := h.2
  rw [e] at this
  exact absurd this (by simp)
theorem mem_dropAllViaR_of {t : Nat} {f : TF} {tf : List (Nat × TF)} (h : (t, f) ∈ tf) (hf : ∀ r p, f ≠ .viaR r p) : (t, f) ∈ dropAllViaR tf := by
  simp only [dropAllViaR, List.mem_filter]
  refine ⟨h, ?_⟩
  cases f with
  | viaR r p => exact absurd rfl (hf r p)
  | _ => trivial
/-- The frame goes on where a call has returned. -/
theorem Rel.back (h : Rel E d g fr M a w) {g' : G} {M' : Mm} {w' : World} (k : Rel E (d + 1) g' fr0 M' act0 w') (hx : Ext E (d + 1) g w g' w') : Rel E d g' { fr with tf := dropAllViaR fr.tf } M' a w' := by
  refine ⟨k.below, k.hN, k.fresh, h.size, fun i => relV_le hx.le (h.tmps i), k.lenr, k.rows, k.inj, fun t ht => ?_, fun t s ht => ?_, fun t r p ht => absurd rfl ((mem_dropAllViaR ht).2 r p), k.ro⟩
  · obtain ⟨e, l, ex, k1, k2⟩ := h.own t (mem_dropAllViaR ht).1
    exact ⟨e, l, ex, k1, k2.le fun b u _ hlt hc => hx.grow b d t u (by omega) hlt hc⟩
  · obtain ⟨m1, m2⟩ := h.viaT t s (mem_dropAllViaR ht).1
    exact ⟨mem_dropAllViaR_of m1 (by simp), m2⟩
end
section
variable {R : Type} {cx : Ctx} {N d : Nat} {S : Nat → Nat → Prop} {w0 : World} {g : G} {fr : Fr} {M : Mm} {a : Act} {w : World}
variable {next : Fr → Mm → Option R} {r : R} {K : Act → World → Prop} {Q : Exit → Act → World → Prop} {o : Oper} {pan : AV → Fr → Mm → Option R} {fn : FuncId} {call : CallH R}

/-- What 'call' says of calls is so. -/
def CallSound (cx : Ctx) (call : CallH R) : Prop :=
  ∀ (N : Nat) (S : Nat → Nat → Prop) (w0 : World) (d : Nat) (g : G) (M : Mm) (w : World) (f : FuncId) (args : List AV) (cargs : Array Value) (K : Res → Mm → Option R) (r : R) (R' : Ending → World → Prop),
    Rel (Env.mk cx.P N S w0) d g fr0 M act0 w → relVs cx.P (xOf (Env.mk cx.P N S w0) g w) args cargs.toList → call f args M K = some r →
    (∀ v c M' g' w', Rel (Env.mk cx.P N S w0) d g' fr0 M' act0 w' → Ext (Env.mk cx.P N S w0) d g w g' w' → relV cx.P (xOf (Env.mk cx.P N S w0) g' w') v c →
      (K (.ret v) M' = some r → R' (.returned c) w') ∧ (K (.pan v) M' = some r → R' (.panicked [{ v := c, recovered := false }]) w')) →
    (callFunc f cargs).run cx.P w = .ok (.enter f cargs) w ∧ Calls cx.P f cargs w R'

theorem upon_enter_mk {f : FuncId} {args : Array Value} (h : (execOp a.eval o).run cx.P w = .ok (.enter f args) w) (hc : Calls cx.P f args w (fun
    | .returned v, w'' => K (a.put o.dst v) w''
    | .panicked chain, w'' => Q (.panic chain) a w''
    | .outgrown, _ => LetsOut Q)) : o.wp cx.P a w K Q := by
  unfold Oper.wp
  rw [h]
  exact hc
theorem wp_call (hcall : CallSound cx call) (hr : Rel (Env.mk (Ctx.P cx) N S w0) d g fr M a w) {c : Call} {f : Operand} (ho : o.op = .call c) (hc : c.callee = .value f) {gi : FuncId} {args : List AV}
    (ht : target cx.P (opnd cx.P fr.tmps 0 f) (opnds cx.P fr.tmps c.argTypes.toList c.args.toList) = some (gi, args))
    (h : (call gi args M fun r M =>
      let fr := { fr with tf := dropAllViaR fr.tf }
      match r with
      | .ret v => next (fr.set o.dst v) M
      | .pan v => pan v fr M) = some r) (hN : Nx (Env.mk (Ctx.P cx) N S w0) d g w a next r K) (hP : Px (Env.mk (Ctx.P cx) N S w0) d g w a pan r Q) : o.wp cx.P a w K Q := by
  unfold target at ht
  split at ht
  · rename_i g2 first cap hf
    simp only [Option.some.injEq, Prod.mk.injEq] at ht
    obtain ⟨rfl, rfl⟩ := ht
    have hfv := hr.opnd 0 f
    rw [hf] at hfv
    obtain ⟨p, q, he, hp, hq⟩ := relV_func hfv
    have hargs := hr.opnds c.argTypes.toList c.args.toList
    have hall : relVs cx.P (xOf (Env.mk (Ctx.P cx) N S w0) g w) ((first ++ opnds cx.P fr.tmps c.argTypes.toList c.args.toList) ++ cap) ((p ++ c.args.map a.eval) ++ q).toList := by
      simp only [Array.toList_append, Array.toList_map]
      exact relVs_append (relVs_append hp hargs) hq
    obtain ⟨h1, h2⟩ := hcall N S w0 (d + 1) g M w g2 _ ((p ++ c.args.map a.eval) ++ q) _ r (fun e w' => match e with
      | .returned v => K (a.put o.dst v) w'
      | .panicked chain => Q (.panic chain) a w'
      | .outgrown => LetsOut Q) (hr.bare (d + 1)) hall h fun v c M' g' w' hrel hext hv => ⟨fun hk => hN _ _ g' _ w' ((hr.back hrel hext).set o.dst hv) (hext.down (by omega)) (put_defers _ _ _) hk, fun hk => hP v c _ _ g' a w' (hr.back hrel hext) (hext.down (by omega)) rfl hv hk⟩
    refine upon_enter_mk (f := g2) (args := (p ++ c.args.map a.eval) ++ q) ?_ (h2.mono fun e w' he => by cases e <;> exact he)
    simp only [execOp, ho, resolve, hc, he, Deferred.ofValue, Sem.run_bind, Sem.run_pure, Result.andThen_ok, invoke, h1]
  · exact absurd ht (by simp)
theorem evO_sound (hG : cx.Good) (hcall : CallSound cx call) (hr : Rel (Env.mk (Ctx.P cx) N S w0) d g fr M a w) (h : evO cx fn call o fr M next pan = some r) (hN : Nx (Env.mk (Ctx.P cx) N S w0) d g w a next r K) (hP : Px (Env.mk (Ctx.P cx) N S w0) d g w a pan r Q) : o.wp cx.P a w K Q := by
  cases ho : o.op with
  | move x => simp only [evO, ho] at h; exact wp_move hr ho h hN
  | assign x => simp only [evO, ho] at h; exact wp_assign hr ho h hN
  | alloc t =>
    simp only [evO, ho] at h
    split at h
    · rename_i hc; exact wp_alloc hr ho hc h hN
    · exact absurd h (by simp)
  | box t x =>
    simp only [evO, ho] at h
    split at h
    · rename_i hc; exact wp_box hr ho hc h hN
    · exact absurd h (by simp)
  | load t x => exact wp_load hG hr ho h hN
  | store t x y => simp only [evO, ho] at h; exact wp_store hr ho h hN
  | panic x => exact wp_panic hr ho h hP
  | makeMap t x =>
    simp only [evO, ho] at h
    split at h
    · rename_i kt et hu hx; exact wp_makeMap hr ho hu hx h hN
    · exact absurd h (by simp)
  | mapUpdate t m k x => simp only [evO, ho] at h; exact wp_mapPut hr (.inl ho) h hN
  | insert t m k x => simp only [evO, ho] at h; exact wp_mapPut hr (.inr ho) h hN
  | lookup t m k ok => simp only [evO, ho] at h; exact wp_lookup hr ho h hN
  | makeSlice t l c => simp only [evO, ho] at h; exact wp_makeSlice hr ho h hN
  | call c =>
    simp only [evO, ho] at h
    split at h
    · rename_i hc; exact wp_append hr ho hc h hN
    · rename_i hc; exact wp_copy hr ho hc h hN
    · rename_i b hb hc
      split at h
      · rename_i ok v hp
        exact wp_pure hG hr (by simp only [popv, ho, hc]; exact hp) h hN
      · exact absurd h (by simp)
    · rename_i f hc
      split at h
      · rename_i ok v hp
        exact wp_pure hG hr (by simp only [popv, ho, hc]; exact hp) h hN
      · split at h
        · rename_i g2 args ht
          exact wp_call hcall hr ho hc ht h hN hP
        · exact absurd h (by simp)
    · exact absurd h (by simp)
  | _ =>
    simp only [evO, ho] at h
    split at h
    · rename_i ok v hp
      exact wp_pure hG hr hp h hN
    · exact absurd h (by simp)
end
end Go.AE

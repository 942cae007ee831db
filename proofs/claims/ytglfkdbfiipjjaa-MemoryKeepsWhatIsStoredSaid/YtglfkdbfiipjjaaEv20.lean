/- What 'evO' says of an append. -/
import Derived.Test.YtglfkdbfiipjjaaEv19
import Derived.MapKept
set_option linter.unusedVariables false
set_option linter.unusedSimpArgs false
namespace Go.AE
open Go.RowKit Go.Lib
section
variable {P : Program}

theorem pathT_det : ∀ {p : List Nat} {t0 t t2 : TypeId} {off off2 : Nat}, PathT P p t0 t off → PathT P p t0 t2 off2 → t = t2 ∧ off = off2
  | [], t0, t, t2, off, off2, h, k => ⟨h.1.trans k.1.symm, h.2.trans k.2.symm⟩
  | j :: p, t0, t, t2, off, off2, h, k => by
    unfold PathT at h k
    split at h
    · rename_i fs hu
      rw [hu] at k
      obtain ⟨f, o1, h1, h2, h3⟩ := h
      obtain ⟨f', o2, k1, k2, k3⟩ := k
      rw [h1] at k1
      obtain rfl := Option.some.inj k1
      obtain ⟨rfl, rfl⟩ := pathT_det h3 k3
      exact ⟨rfl, by omega⟩
    · rename_i n e hu
      rw [hu] at k
      obtain ⟨h1, o1, h2, h3⟩ := h
      obtain ⟨k1, o2, k2, k3⟩ := k
      obtain ⟨rfl, rfl⟩ := pathT_det h3 k3
      exact ⟨rfl, by omega⟩
    · exact h.elim
theorem pathR_det {root : Root} {p : List Nat} {t t2 : TypeId} {off off2 : Nat} (h : PathR P root p t off) (k : PathR P root p t2 off2) : t = t2 ∧ off = off2 := by
  cases root with
  | var t0 => exact pathT_det h k
  | arr e n =>
    cases p with
    | nil => exact h.elim
    | cons j p =>
      obtain ⟨h1, o1, h2, h3⟩ := h
      obtain ⟨k1, o2, k2, k3⟩ := k
      obtain ⟨rfl, rfl⟩ := pathT_det h3 k3
      exact ⟨rfl, by omega⟩
  | map => exact h.elim
theorem apart_self : ∀ p : List Nat, apart p p = false
  | [] => rfl
  | i :: p => by simp [apart, apart_self p]
theorem zeroV_const {t : TypeId} (h : zero P t ≠ .dead) : ∃ z, (∀ w' : World, (zeroValue t).run P w' = .ok z w') ∧ ∀ x : X, relV P x (zero P t) z := by
  unfold zero at h ⊢
  split at h
  · rename_i i hi
    split at h
    · rename_i z hz
      exact ⟨z, fun w' => by simp [zeroValue, typeInfo, hi, hz], fun x => ofVal_rel t z⟩
    · exact absurd rfl h
  · exact absurd rfl h
end
section
variable {E : Env} {d : Nat} {g : G} {fr : Fr} {M : Mm} {a : Act} {w : World}
theorem Rel.dropRow (h : Rel E d g fr M a w) (r : Nat) (p : List Nat) : Rel E d g { fr with tf := dropViaR r p fr.tf } { M with ro := dropR r p M.ro } a w := by
  refine ⟨h.below, h.hN, h.fresh, h.size, h.tmps, h.lenr, h.rows, h.inj, fun i hi => h.own i (mem_dropViaR hi).1, fun i s' hi => ?_, fun i r' q hi => ?_, fun r' q hi => h.ro r' q (mem_dropR.1 hi).1⟩
  · obtain ⟨m1, m2⟩ := h.viaT i s' (mem_dropViaR hi).1
    exact ⟨mem_dropViaR_of m1 (by simp), m2⟩
  · obtain ⟨k1, k2⟩ := mem_dropViaR hi
    obtain ⟨m1, m2⟩ := h.viaR i r' q k1
    exact ⟨mem_dropR.2 ⟨m1, k2 r' q rfl⟩, m2⟩
/-- Who may append, and gives it up. -/
def MayApp (E : Env) (d : Nat) (g : G) (fr : Fr) (M : Mm) (w : World) (e : TypeId) (base : Option Addr) (len cap : Nat) : Prop :=
  cap = len ∨ ∃ o b off cs ty, base = some ⟨b, off, none⟩ ∧ E.N ≤ b ∧ g.cls b = .grow o (off + len * E.P.cellsOf e) ∧ w.heap[b]? = some (.cells cs ty (0, 0)) ∧ off + cap * E.P.cellsOf e ≤ cs.size ∧
    (∀ t, o = .t d t → (t, TF.own) ∉ fr.tf) ∧ (∀ r p, o = .r r p → (r, p) ∉ M.ro) ∧ (∀ d' i, o = .t d' i → d ≤ d')
theorem mayApp_of {o : Onr} {e : TypeId} {base : Option Addr} {len cap : Nat} (h : OwnC E g w o e (.slice base len cap)) (h1 : ∀ t, o = .t d t → (t, TF.own) ∉ fr.tf) (h2 : ∀ r p, o = .r r p → (r, p) ∉ M.ro)
    (h3 : ∀ d' i, o = .t d' i → d ≤ d') : MayApp E d g fr M w e base len cap := by
  obtain ⟨base', len', cap', he, h⟩ := h
  cases he
  exact h.imp id fun ⟨b, off, cs, ty, k1, k2, k3, k4, k5⟩ => ⟨o, b, off, cs, ty, k1, k2, k3, k4, k5, h1, h2, h3⟩
theorem takeOwn_spec (h : Rel E d g fr M a w) {x : Operand} {t : TypeId} {e : TypeId} {l : List AV} {ex : Bool} {tf : List (Nat × TF)} {ro : List (Nat × List Nat)} (hx : opnd E.P fr.tmps t x = .slice e l ex) (ht : takeOwn x ex fr M = some (tf, ro)) :
    Rel E d g { fr with tf := tf } { M with ro := ro } a w ∧ ∃ base cap, a.eval x = .slice base l.length cap ∧ MayApp E d g { fr with tf := tf } { M with ro := ro } w e base l.length cap := by
  have hv := h.opnd t x
  rw [hx] at hv
  obtain ⟨base, len, cap, hev, rfl, hle, hex, hsl⟩ := relV_slice hv
  unfold takeOwn at ht
  split at ht
  · rename_i hext
    simp only [Option.some.injEq, Prod.mk.injEq] at ht
    obtain ⟨rfl, rfl⟩ := ht
    exact ⟨h, base, cap, hev, .inl (hex hext)⟩
  · split at ht
    · rename_i s
      have hs : fr.tmps.getD s .dead = .slice e l ex := hx
      have hev' : a.tmps.getD s undef = .slice base l.length cap := hev
      split at ht
      · rename_i hf
        simp only [Option.some.injEq, Prod.mk.injEq] at ht
        obtain ⟨rfl, rfl⟩ := ht
        obtain ⟨e1, l1, ex1, k1, k2⟩ := h.own s (flagOf_mem hf)
        rw [hs] at k1
        cases k1
        rw [hev'] at k2
        exact ⟨h.drop s, base, cap, hev, mayApp_of k2 (fun t' e => by cases e; exact not_dropT s fr.tf) (fun r p e => by cases e) (fun d' i e => by cases e; omega)⟩
      · rename_i u hf
        simp only [Option.some.injEq, Prod.mk.injEq] at ht
        obtain ⟨rfl, rfl⟩ := ht
        obtain ⟨j1, j2, e1, l1, ex1, l2, ex2, j3, j4⟩ := h.viaT s u (flagOf_mem hf)
        rw [hs] at j3
        cases j3
        obtain ⟨e1, l1, ex1, k1, k2⟩ := h.own u j1
        rw [j4] at k1
        cases k1
        rw [← j2, hev'] at k2
        exact ⟨h.drop u, base, cap, hev, mayApp_of k2 (fun t' e => by cases e; exact not_dropT u fr.tf) (fun r p e => by cases e) (fun d' i e => by cases e; omega)⟩
      · rename_i r p hf
        simp only [Option.some.injEq, Prod.mk.injEq] at ht
        obtain ⟨rfl, rfl⟩ := ht
        obtain ⟨j1, e1, l1, ex1, j2, b, root, ty, off, j3, j4, j5, j6⟩ := h.viaR s r p (flagOf_mem hf)
        rw [hs] at j2
        cases j2
        obtain ⟨b', root', ty', off', e', v', k1, k2, k3, k4, k5⟩ := h.ro r p j1
        rw [j3] at k1
        simp only [Option.some.injEq, Prod.mk.injEq] at k1
        obtain ⟨rfl, rfl⟩ := k1
        obtain ⟨rfl, rfl⟩ := pathR_det j4 k2
        rw [j5] at k3
        cases k3
        rw [j6] at k4
        obtain rfl := Option.some.inj k4
        rw [hev'] at k5
        refine ⟨h.dropRow r p, base, cap, hev, mayApp_of k5 (fun t' e => by cases e) (fun r' p' e hm => ?_) (fun d' i e => by cases e)⟩
        cases e
        have := (mem_dropR.1 hm).2
        simp [apart_self] at this
      · exact absurd ht (by simp)
    · exact absurd ht (by simp)
end
section
variable {R : Type} {cx : Ctx} {N d : Nat} {S : Nat → Nat → Prop} {w0 : World} {g : G} {fr : Fr} {M : Mm} {a : Act} {w : World}
variable {next : Fr → Mm → Option R} {r : R} {K : Act → World → Prop} {Q : Exit → Act → World → Prop} {o : Oper} {pan : AV → Fr → Mm → Option R} {fn : FuncId} {call : CallH R}

/-- The old cells of a slice. -/
theorem olds_src {e : TypeId} {l : List AV} {ex : Bool} {base : Option Addr} {len cap : Nat} (hv : relV cx.P (xOf (Env.mk (Ctx.P cx) N S w0) g w) (.slice e l ex) (.slice base len cap)) :
    ∃ olds, relAr cx.P (xOf (Env.mk (Ctx.P cx) N S w0) g w).imm e l olds ∧ ∀ w', w'.heap = w.heap → (Builtin.firstCells (cx.P.cellsOf e) l.length (.slice base len cap)).run cx.P w' = .ok olds.toArray w' := by
  obtain ⟨base', len', cap', he, rfl, h2, h3, h4⟩ := relV_slice hv
  cases he
  rcases h4 with h4 | ⟨b, o, rfl, h4⟩
  · have : l = [] := List.eq_nil_of_length_eq_zero h4
    subst this
    refine ⟨[], rfl, fun w' hh => ?_⟩
    cases base with
    | none => simp [Builtin.firstCells]
    | some ad => simpa [Builtin.firstCells] using run_loadCells_list (P := cx.P) w' ad [] (fun j v hv => by simp at hv)
  · obtain ⟨cs, k1, k2⟩ := relSl_cells h4
    refine ⟨cs, k1, fun w' hh => ?_⟩
    simp only [Builtin.firstCells]
    rw [← relAr_len k1]
    exact run_loadAt hh fun i v hv => (k2 i v hv).2
theorem growable_spec {elem u : TypeId} (h : growable cx.P elem u = true) :
    0 < cx.P.cellsOf elem ∧ 0 < cx.P.bytesOf elem ∧ fits cx.P elem (zero cx.P elem) = true ∧ (tyA cx.P elem = false → cx.P.cellsOf elem = 1) ∧ seqT cx.P u ∧ (cx.P.info? elem).isSome = true := by
  simp only [growable, Bool.and_eq_true] at h
  obtain ⟨⟨⟨h1, h2⟩, h3⟩, h4⟩ := h
  have h3' := cell_cond (by rw [Bool.and_eq_true]; exact h3)
  refine ⟨Nat.blt_eq.mp h1, Nat.blt_eq.mp h2, h3'.1, h3'.2, ?_, ?_⟩
  · split at h4
    · rename_i e hu; exact .inl ⟨e, hu⟩
    · rename_i hu; exact .inr hu
    · exact absurd h4 (by simp)
  · obtain ⟨d, hd⟩ := fits_under h3'.1
    obtain ⟨i, hi⟩ := info_of_underlying hd
    simp [hi]
/-- The run of an append. -/
theorem append_run (hr : Rel (Env.mk (Ctx.P cx) N S w0) d g fr M a w) {t u ty elem : TypeId} {l l2 : List AV} {ex : Bool} {base : Option Addr} {cap : Nat} {vy : AV} {c : Value} (ht : cx.P.underlying t = some (.slice elem)) (hg : growable cx.P elem u = true)
    (hv : relV cx.P (xOf (Env.mk (Ctx.P cx) N S w0) g w) (.slice elem l ex) (.slice base l.length cap)) (hy : relV cx.P (xOf (Env.mk (Ctx.P cx) N S w0) g w) vy c) (hap : appended cx.P M elem vy = some l2) (hm : MayApp (Env.mk (Ctx.P cx) N S w0) d g fr M w elem base l.length cap)
    (hbound : (l.length + l2.length) * cx.P.bytesOf elem ≤ 140737488355328) (o' : Onr) :
    ∃ rv w' g', (Builtin.append_ #[t, u] ty #[.slice base l.length cap, c]).run cx.P w = .ok rv w' ∧ Ext (Env.mk (Ctx.P cx) N S w0) d g w g' w' ∧ Rel (Env.mk (Ctx.P cx) N S w0) d g' fr M a w' ∧ relV cx.P (xOf (Env.mk (Ctx.P cx) N S w0) g' w') (.slice elem (l ++ l2) false) rv ∧ OwnC (Env.mk (Ctx.P cx) N S w0) g' w' o' elem rv := by
  obtain ⟨hc0, hb0, hfz, h1z, hsu, hie⟩ := growable_spec hg
  obtain ⟨news, hnew, hlen, hfc⟩ := appended_src hr hy hap hc0
  obtain ⟨z, hz, hzr⟩ := zeroV_const (fits_ne_dead hfz)
  obtain ⟨zc, hze, hzrel, _⟩ := hzr (xOf (Env.mk (Ctx.P cx) N S w0) g w)
  have hzcells : z.cells.size = cx.P.cellsOf elem := by
    rw [hze, cells_mkV hfz hzrel]
    simpa using fits_len hfz hzrel h1z
  have hneed : l.length + l2.length ≤ 140737488355328 := Nat.le_trans (Nat.le_mul_of_pos_right _ hb0) hbound
  obtain ⟨base', len', cap', he, _, hle, _, hsl⟩ := relV_slice hv
  cases he
  by_cases hroom : l.length + l2.length ≤ cap
  · have hhead := run_append_head (ty := ty) (base := base) ht hsu hie (hlen w) hroom (hfc w rfl)
    rcases hm with hm | ⟨o, b, off, cs, cty, rfl, hN, hcl, hh, hfit, n1, n2, n3⟩
    · /- nothing is appended -/
      have h0 : l2 = [] := List.eq_nil_of_length_eq_zero (by omega)
      subst h0
      have hnn : news = [] := List.eq_nil_of_length_eq_zero (by have := relAr_len hnew; simpa using this)
      subst hnn
      refine ⟨.slice base l.length cap, w, g, ?_, Ext.refl _ _ _ _, hr, by simpa using slice_weak hv, ⟨base, l.length, cap, rfl, .inl hm⟩⟩
      rw [hhead]
      cases base <;> simp [storeCells]
    · obtain ⟨cs', g', k1, k2, k3, k4, k5⟩ := hr.appendRoom (ex := false) o' hN hcl hh hfit n1 n2 n3 (hsl.imp id fun ⟨b2, o2, e2, h2⟩ => by cases e2; exact h2) hnew hroom
      refine ⟨_, _, g', ?_, k2, k3, k4, k5⟩
      rw [hhead]
      simp only [Addr.add_lit, List.toList_toArray]
      rw [k1]
      rfl
  · obtain ⟨olds, hold, hfo⟩ := olds_src hv
    have hlt : cap < l.length + l2.length := by omega
    have hfit := Go.growslice_fits hlt hbound
    have hrun := run_append_new (ty := ty) (base := base) ht hsu hie hz (hlen w) hroom (by omega) hfit (hfo w.drew rfl) (hfc w.drew rfl)
    have hcap := grownCap_ge w (l.length + l2.length) cap elem
    obtain ⟨g', k2, k3, k4, k5⟩ := hr.appendNew (cap := grownCap w (l.length + l2.length) cap elem) (rest := (Builtin.zeroCells z.cells (grownCap w (l.length + l2.length) cap elem - (l.length + l2.length))).toList) o' (Below.refl w.heap.size w).drew rfl hold hnew hcap
      (by rw [Array.length_toList, size_zeroCells, hzcells])
    refine ⟨_, _, g', hrun.trans ?_, k2, k3, k4, k5⟩
    congr 3
    apply Array.ext'
    simp
/-- An append that makes a row. -/
theorem append_row (hr : Rel (Env.mk (Ctx.P cx) N S w0) d g fr M a w) {t u ty elem : TypeId} {l l2 : List AV} {base : Option Addr} {vy : AV} {c : Value} (ht : cx.P.underlying t = some (.slice elem)) (hg : growable cx.P elem u = true)
    (hv : relV cx.P (xOf (Env.mk (Ctx.P cx) N S w0) g w) (.slice elem l true) (.slice base l.length l.length)) (hy : relV cx.P (xOf (Env.mk (Ctx.P cx) N S w0) g w) vy c) (hap : appended cx.P M elem vy = some l2)
    (hbound : (l.length + l2.length) * cx.P.bytesOf elem ≤ 140737488355328) (h0 : 0 < l2.length) :
    ∃ rv w' g', (Builtin.append_ #[t, u] ty #[.slice base l.length l.length, c]).run cx.P w = .ok rv w' ∧ Ext (Env.mk (Ctx.P cx) N S w0) d g w g' w' ∧ Rel (Env.mk (Ctx.P cx) N S w0) d g' fr { M with rows := M.rows ++ [.arr elem (l ++ l2)] } a w' ∧
      relV cx.P (xOf (Env.mk (Ctx.P cx) N S w0) g' w') (.msl M.rows.length [] elem 0 0 (l ++ l2).length) rv := by
  obtain ⟨hc0, hb0, hfz, h1z, hsu, hie⟩ := growable_spec hg
  obtain ⟨news, hnew, hlen, hfc⟩ := appended_src hr hy hap hc0
  obtain ⟨z, hz, hzr⟩ := zeroV_const (fits_ne_dead hfz)
  have hneed : l.length + l2.length ≤ 140737488355328 := Nat.le_trans (Nat.le_mul_of_pos_right _ hb0) hbound
  obtain ⟨olds, hold, hfo⟩ := olds_src hv
  have hlt : l.length < l.length + l2.length := by omega
  have hfit := Go.growslice_fits hlt hbound
  have hrun := run_append_new (ty := ty) (base := base) ht hsu hie hz (hlen w) (by omega) (by omega) hfit (hfo w.drew rfl) (hfc w.drew rfl)
  have hcap := grownCap_ge w (l.length + l2.length) l.length elem
  have hb : Below w.heap.size w w.drew := (Below.refl _ _).drew
  have h1 := hr.grown hb
  generalize hcs : (olds.toArray ++ news.toArray ++ Builtin.zeroCells z.cells (grownCap w (l.length + l2.length) l.length elem - (l.length + l2.length))) = cs at hrun
  have h2 := h1.newRow (.cells cs elem) (.arr elem (l ++ l2).length) (.arr elem (l ++ l2)) fun x hle hw => ⟨cs, elem, by rw [hw]; exact alloc_get _ _, rfl, olds ++ news, (Builtin.zeroCells z.cells (grownCap w (l.length + l2.length) l.length elem - (l.length + l2.length))).toList, by rw [← hcs]; simp,
    relAr_le ((imm_le _).trans ((le_below hb g).trans hle)) elem _ _ (relAr_append hold hnew)⟩
  refine ⟨_, _, _, hrun, (Ext.of_below hb).trans (ext_newRow h1 (.cells cs elem) (.arr elem (l ++ l2).length)), h2, ?_⟩
  have : rel cx.P (xOf (Env.mk (Ctx.P cx) N S w0) (g.row w.drew.heap.size (.arr elem (l ++ l2).length)) (w.drew.alloc (.cells cs elem))) (.msl M.rows.length [] elem 0 0 (l ++ l2).length) [.slice (some ⟨w.heap.size, 0, none⟩) (l.length + l2.length) (grownCap w (l.length + l2.length) l.length elem)] :=
    ⟨rfl, w.heap.size, .arr elem (l ++ l2).length, (l ++ l2).length, 0, by show (g.rows ++ _)[M.rows.length]? = _; rw [← hr.lenr]; simp, .inl ⟨rfl, rfl, rfl⟩, by simp, by simp, _, _, by simpa using hcap, by simp, fun _ => rfl⟩
  exact relV_leaf this rfl
theorem exec_append {c : Call} {t u : TypeId} {x y : Operand} (ho : o.op = .call c) (hc : c.callee = .builtin .append) (ha : c.args.toList = [x, y]) (hat : c.argTypes.toList = [t, u]) {rv : Value} {w' : World}
    (h : (Builtin.append_ #[t, u] o.type #[a.eval x, a.eval y]).run cx.P w = .ok rv w') : (execOp a.eval o).run cx.P w = .ok (.value rv) w' := by
  have e1 : c.args = #[x, y] := by apply Array.ext'; simpa using ha
  have e2 : c.argTypes = #[t, u] := by apply Array.ext'; simpa using hat
  simp only [execOp, ho, resolve, hc, Sem.run_bind, Sem.run_pure, Result.andThen_ok, invoke, builtin, e1, e2, List.map_toArray, List.map_cons, List.map_nil, h]
theorem wp_append (hr : Rel (Env.mk (Ctx.P cx) N S w0) d g fr M a w) {c : Call} (ho : o.op = .call c) (hc : c.callee = .builtin .append) (h : appendE cx fn o c fr M next = some r) (hN : Nx (Env.mk (Ctx.P cx) N S w0) d g w a next r K) : o.wp cx.P a w K Q := by
  unfold appendE at h
  split at h
  · rename_i x y t u dd ha hat hdst
    split at h
    · rename_i elem e l ex hu hx
      split at h
      · rename_i hcond
        simp only [Bool.and_eq_true] at hcond
        obtain ⟨⟨hee, hg⟩, hlt⟩ := hcond
        have hee := Nat.eq_of_beq_eq_true hee
        subst hee
        have hlt := Nat.blt_eq.mp hlt
        split at h
        · exact absurd h (by simp)
        · rename_i l2 hap
          have hvx := hr.opnd t x
          rw [hx] at hvx
          have hvy := hr.opnd u y
          cases hb : decide ((l.length + l2.length) * cx.P.bytesOf e ≤ 140737488355328) with
          | false => rw [hb] at h; exact absurd h (by simp)
          | true =>
            rw [hb, cond_true] at h
            have hbound := of_decide_eq_true hb
            split at h
            · split at h
              · rename_i hex
                subst hex
                cases hpos : decide (0 < l2.length) with
                | false => rw [hpos] at h; exact absurd h (by simp)
                | true =>
                  rw [hpos, cond_true] at h
                  obtain ⟨base, len, cap, hev, rfl, _, hcl, _⟩ := relV_slice hvx
                  obtain rfl := hcl rfl
                  rw [hev] at hvx
                  obtain ⟨rv, w', g', k1, k2, k3, k4⟩ := append_row hr (ty := o.type) hu hg hvx hvy hap hbound (of_decide_eq_true hpos)
                  rw [← hev] at k1
                  refine wp_value ⟨rv, w', exec_append ho hc ha hat k1, hN _ _ g' _ w' ?_ k2 (put_defers _ _ _) h⟩
                  rw [hdst]
                  exact k3.set (some dd) k4
              · exact absurd h (by simp)
            · split at h
              · exact absurd h (by simp)
              · rename_i tf ro hto
                obtain ⟨h1, base, cap, hev, hm⟩ := takeOwn_spec hr hx hto
                rw [hev] at hvx
                obtain ⟨rv, w', g', k1, k2, k3, k4, k5⟩ := append_run h1 (ty := o.type) hu hg hvx hvy hap hm hbound (.t d dd)
                rw [← hev] at k1
                refine wp_value ⟨rv, w', exec_append ho hc ha hat k1, hN _ _ g' _ w' ?_ k2 (put_defers _ _ _) h⟩
                have hset := k3.set (some dd) k4
                rw [hdst]
                exact hset.flagOwn (setT_self hlt _) (by rw [blt_len k3 hlt]; exact k5)
      · exact absurd h (by simp)
    · exact absurd h (by simp)
  · exact absurd h (by simp)
end
end Go.AE
/-! ### maps -/
namespace Go.AE
open Go.RowKit Go.Lib Go.MapKept
section
variable {P : Program} {x : X}
theorem key_is {kt : TypeId} {k : AV} {ck : Value} (h : relV P x k ck) (hk : keyT P kt k = true) (hf : fits P kt k = true) : ∃ d, P.underlying kt = some d ∧ IsKey d ck := by
  unfold keyT at hk
  split at hk
  · rename_i j j' n hu
    obtain rfl := relV_int.1 h
    refine ⟨_, hu, ?_⟩
    simp [fits, leafOK, hu] at hf
    exact hf.1
  · rename_i s hu
    obtain rfl := relV_str.1 h
    exact ⟨_, hu, trivial⟩
  · rename_i b hu
    obtain rfl := relV_bool.1 h
    exact ⟨_, hu, trivial⟩
  · exact absurd hk (by simp)
theorem keyEq_iff {k a : AV} {ck ca : Value} {b : Bool} (h1 : relV P x k ck) (h2 : relV P x a ca) (h : keyEq k a = some b) : b = true ↔ ck = ca := by
  unfold keyEq at h
  split at h
  · rename_i j n j' m
    obtain rfl := relV_int.1 h1
    obtain rfl := relV_int.1 h2
    split at h
    · rename_i hj
      subst hj
      obtain rfl := Option.some.inj h
      simp
    · exact absurd h (by simp)
  · obtain rfl := relV_str.1 h1
    obtain rfl := relV_str.1 h2
    obtain rfl := Option.some.inj h
    simp
  · obtain rfl := relV_bool.1 h1
    obtain rfl := relV_bool.1 h2
    obtain rfl := Option.some.inj h
    simp
  · exact absurd h (by simp)
theorem findV_sound {R : Type} {r : R} {d : TypeDesc} {kt et : TypeId} {k : AV} {ck : Value} {K : Option AV → Option R} (hd : P.underlying kt = some d) (hk : relV P x k ck) (hik : IsKey d ck) :
    ∀ (es : List (AV × AV)) (ces : List MapEntry) (i : Nat), relM P x kt et es ces → findV k es K = some r →
      (Instr.findNow d ck ces i = some none ∧ K none = some r) ∨ ∃ j v cv, Instr.findNow d ck ces i = some (some (j, cv)) ∧ relV P x v cv ∧ fits P et v = true ∧ K (some v) = some r
  | [], [], i, _, h => .inl ⟨rfl, h⟩
  | [], _ :: _, i, hm, _ => hm.elim
  | _ :: _, [], i, hm, _ => hm.elim
  | (a, v) :: es, e :: ces, i, ⟨⟨m1, m2, m3, m4, m5⟩, hm⟩, h => by
    obtain ⟨d', hd', hia⟩ := key_is m1 m3 m2
    rw [hd] at hd'
    obtain rfl := Option.some.inj hd'
    obtain ⟨q, hq, hqi⟩ := sameNow_of_keys hik hia
    simp only [findV] at h
    split at h
    · rename_i b hb
      have hiff := keyEq_iff hk m1 hb
      cases b with
      | true =>
        have : q = true := hqi.2 (hiff.1 rfl)
        subst this
        exact .inr ⟨i, v, e.val, by simp [Instr.findNow, hq], m4, m5, by simpa using h⟩
      | false =>
        have : q = false := by
          cases q with
          | false => rfl
          | true => exact absurd (hiff.2 (hqi.1 rfl)) (by simp)
        subst this
        rcases findV_sound hd hk hik es ces (i + 1) hm (by simpa using h) with ⟨k1, k2⟩ | ⟨j, v', cv, k1, k2⟩
        · exact .inl ⟨by simp [Instr.findNow, hq, k1], k2⟩
        · exact .inr ⟨j, v', cv, by simp [Instr.findNow, hq, k1], k2⟩
    · exact absurd h (by simp)
theorem putV_sound {R : Type} {r : R} {d : TypeDesc} {kt et : TypeId} {k v : AV} {ck cv : Value} (clock : Nat) (hd : P.underlying kt = some d) (hk : relV P x k ck) (hkt : keyT P kt k = true) (hkf : fits P kt k = true) (hik : IsKey d ck) (hv : relV P x v cv) (hf : fits P et v = true) :
    ∀ (es : List (AV × AV)) (ces : List MapEntry) (i : Nat) (K : List (AV × AV) → Option R), relM P x kt et es ces → putV k v es K = some r →
      ∃ es', K es' = some r ∧ ((Instr.findNow d ck ces i = some none ∧ relM P x kt et es' (ces ++ [{ key := ck, val := cv, born := clock }])) ∨
        ∃ j e, Instr.findNow d ck ces i = some (some (i + j, e.val)) ∧ ces[j]? = some e ∧ e.key = ck ∧ relM P x kt et es' (ces.set j { e with key := ck, val := cv }))
  | [], [], i, K, _, h => ⟨_, h, .inl ⟨rfl, ⟨hk, hkf, hkt, hv, hf⟩, trivial⟩⟩
  | [], _ :: _, i, K, hm, _ => hm.elim
  | _ :: _, [], i, K, hm, _ => hm.elim
  | (a, u) :: es, e :: ces, i, K, ⟨⟨m1, m2, m3, m4, m5⟩, hm⟩, h => by
    obtain ⟨d', hd', hia⟩ := key_is m1 m3 m2
    rw [hd] at hd'
    obtain rfl := Option.some.inj hd'
    obtain ⟨q, hq, hqi⟩ := sameNow_of_keys hik hia
    simp only [putV] at h
    split at h
    · rename_i b hb
      have hiff := keyEq_iff hk m1 hb
      cases b with
      | true =>
        have hke := hiff.1 rfl
        have : q = true := hqi.2 hke
        subst this
        have hm' : relM P x kt et ((a, v) :: es) ({ e with key := ck, val := cv } :: ces) := ⟨⟨by rw [hke]; exact m1, m2, m3, hv, hf⟩, hm⟩
        exact ⟨(a, v) :: es, by simpa using h, .inr ⟨0, e, by simp [Instr.findNow, hq], rfl, hke.symm, hm'⟩⟩
      | false =>
        have : q = false := by
          cases q with
          | false => rfl
          | true => exact absurd (hiff.2 (hqi.1 rfl)) (by simp)
        subst this
        obtain ⟨es', k1, k2⟩ := putV_sound clock hd hk hkt hkf hik hv hf es ces (i + 1) _ hm (by simpa using h)
        refine ⟨_, k1, ?_⟩
        rcases k2 with ⟨k2, k3⟩ | ⟨j, e', k2, k3, k4, k5⟩
        · exact .inl ⟨by simp [Instr.findNow, hq, k2], ⟨m1, m2, m3, m4, m5⟩, k3⟩
        · exact .inr ⟨j + 1, e', by simp [Instr.findNow, hq, k2]; omega, by simpa using k3, k4, ⟨m1, m2, m3, m4, m5⟩, k5⟩
    · exact absurd h (by simp)
end
section
variable {E : Env} {d : Nat} {g : G} {fr : Fr} {M : Mm} {a : Act} {w : World}
/-- A map's entries are written. -/
theorem Rel.setMap (h : Rel E d g fr M a w) {r b : Nat} {kt et : TypeId} (hr : g.rows[r]? = some (b, .map kt et)) {ces ces' : Array MapEntry} {clock clock' : Nat} (hh : w.heap[b]? = some (.map ces clock)) {es' : List (AV × AV)}
    (hes : relM E.P (xOf E g w) kt et es' ces'.toList) :
    let w' : World := { w with heap := w.heap.setIfInBounds b (.map ces' clock') }
    Ext E d g w g w' ∧ Rel E d g fr { M with rows := M.rows.set r (.map kt et es') } a w' := by
  intro w'
  obtain ⟨k1, k2, k3, k4⟩ := h.rows r b _ hr
  obtain ⟨hs1, hs2⟩ := heap_set (o' := .map ces' clock') hh
  have hcell : ∀ b' o v, w.cell? ⟨b', o, none⟩ = some v → b' ≠ b := fun b' o v hc e => by subst e; simp [World.cell?, hh] at hc
  have hcell2 : ∀ b' o v, w.cell? ⟨b', o, none⟩ = some v → w'.cell? ⟨b', o, none⟩ = some v := fun b' o v hc => by
    rw [← hc]; exact World.cell?_of_block (w := w) (w' := w') (hs2 b' (hcell b' o v hc))
  have hsz : w'.heap.size = w.heap.size := by simp [w']
  have hx : Ext E d g w g w' := ⟨fun _ _ k => k, fun _ _ _ k _ => k, fun b' o v _ hc => hcell2 b' o v hc, fun b' d' i u _ _ hc => ⟨rfl, hs2 b' fun e => by subst e; rw [k3] at hc; cases hc⟩, Nat.le_of_eq hsz.symm⟩
  have hle := hx.le
  have hown : ∀ {o : Onr} {e : TypeId} {v : Value}, OwnC E g w o e v → OwnC E g w' o e v := fun ho => ho.le fun b2 u _ _ hc => ⟨rfl, hs2 b2 fun e => by subst e; rw [k3] at hc; cases hc⟩
  have hlt : r < M.rows.length := by rw [← h.lenr]; exact (List.getElem?_eq_some_iff.1 hr).1
  refine ⟨hx, h.below.trans ⟨rfl, rfl, rfl, Nat.le_of_eq hsz.symm, fun k hk => hs2 k (by omega)⟩, by rw [hsz]; exact h.hN, fun k hk => h.fresh k (by rw [← hsz]; exact hk), h.size, fun i => relV_le hle (h.tmps i), by simpa using h.lenr, ?_, h.inj, ?_, h.viaT, ?_, ?_⟩
  · intro r' b' root' hr'
    obtain ⟨m1, m2, m3, m4⟩ := h.rows r' b' root' hr'
    refine ⟨m1, by rw [hsz]; exact m2, m3, ?_⟩
    by_cases hrr : r' = r
    · subst hrr
      rw [hr] at hr'
      simp only [Option.some.injEq, Prod.mk.injEq] at hr'
      obtain ⟨rfl, rfl⟩ := hr'
      have : (M.rows.set r' (.map kt et es')).getD r' (.arr 0 []) = .map kt et es' := by simp [List.getD, hlt]
      rw [this]
      exact ⟨rfl, ces', clock', hs1, relM_le hle hes⟩
    · have hne : b' ≠ b := fun e => hrr (h.inj r' r b _ _ (e ▸ hr') hr)
      have : (M.rows.set r (.map kt et es')).getD r' (.arr 0 []) = M.rows.getD r' (.arr 0 []) := by simp [List.getD, List.getElem?_set_ne (Ne.symm hrr)]
      rw [this]
      exact m4.le hle (hs2 b' hne)
  · intro t ht
    obtain ⟨e, l, ex, m1, m2⟩ := h.own t ht
    exact ⟨e, l, ex, m1, hown m2⟩
  · intro t r' q ht
    obtain ⟨n1, e, l, ex, n2, b', root', ty', off, n3, n4, n5, n6⟩ := h.viaR t r' q ht
    exact ⟨n1, e, l, ex, n2, b', root', ty', off, n3, n4, n5, hcell2 _ _ _ n6⟩
  · intro r' q ht
    obtain ⟨b', root', ty', off, e, v, n3, n4, n5, n6, n7⟩ := h.ro r' q ht
    exact ⟨b', root', ty', off, e, v, n3, n4, n5, hcell2 _ _ _ n6, hown n7⟩
end
section
variable {R : Type} {cx : Ctx} {N d : Nat} {S : Nat → Nat → Prop} {w0 : World} {g : G} {fr : Fr} {M : Mm} {a : Act} {w : World}
variable {next : Fr → Mm → Option R} {r : R} {K : Act → World → Prop} {Q : Exit → Act → World → Prop} {o : Oper}
theorem relV_mapSome {x : X} {rr : Nat} {c : Value} (h : relV cx.P x (.mapv (some rr)) c) : ∃ b k e, x.rows[rr]? = some (b, .map k e) ∧ c = .map (some b) := by
  obtain ⟨b, k, e, h1, h2⟩ := relV_cell rfl h
  exact ⟨b, k, e, h1, by simpa using h2⟩
theorem wp_makeMap (hr : Rel (Env.mk (Ctx.P cx) N S w0) d g fr M a w) {t : TypeId} {x : Option Operand} (ho : o.op = .makeMap t x) {kt et : TypeId} (hu : cx.P.underlying t = some (.map kt et)) (hx : x.all (fun x => match opnd cx.P fr.tmps 0 x with | .int _ _ => true | _ => false) = true)
    (h : next (fr.set o.dst (.mapv (some M.rows.length))) { M with rows := M.rows ++ [.map kt et []] } = some r) (hN : Nx (Env.mk (Ctx.P cx) N S w0) d g w a next r K) : o.wp cx.P a w K Q := by
  have h1 := hr.newRow (.map #[] 0) (.map kt et) (.map kt et []) fun y hle hw => ⟨rfl, #[], 0, by rw [hw]; exact alloc_get _ _, trivial⟩
  have hv : rel cx.P (xOf (Env.mk (Ctx.P cx) N S w0) (g.row w.heap.size (.map kt et)) (w.alloc (.map #[] 0))) (.mapv (some M.rows.length)) [.map (some w.heap.size)] :=
    ⟨w.heap.size, kt, et, by show (g.rows ++ _)[M.rows.length]? = _; rw [← hr.lenr]; simp, rfl⟩
  refine wp_value ⟨.map (some w.heap.size), w.alloc (.map #[] 0), ?_, hN _ _ _ _ _ (h1.set o.dst (relV_leaf hv rfl)) (ext_newRow hr _ _) (put_defers _ _ _) h⟩
  cases x with
  | none => simp [execOp, ho, Instr.makeMap]
  | some y =>
    simp only [Option.all_some] at hx
    split at hx
    · rename_i k n hy
      have hyv := int_of (hr.opnd 0 y) hy
      simp [execOp, ho, Instr.makeMap, run_underlying hu, hyv, asInt, asIntOf]
    · exact absurd hx (by simp)
theorem wp_lookup (hr : Rel (Env.mk (Ctx.P cx) N S w0) d g fr M a w) {t : TypeId} {m k : Operand} {ok : Bool} (ho : o.op = .lookup t m k ok) (h : lookupE cx t m k ok o fr M next = some r) (hN : Nx (Env.mk (Ctx.P cx) N S w0) d g w a next r K) : o.wp cx.P a w K Q := by
  unfold lookupE at h
  split at h
  · rename_i kt et hu
    simp only at h
    split at h
    · rename_i hc
      simp only [Bool.and_eq_true] at hc
      obtain ⟨⟨hkt, hkf⟩, hz⟩ := hc
      have hkv := hr.opnd kt k
      have hmv := hr.opnd t m
      obtain ⟨dd, hd, hik⟩ := key_is hkv hkt hkf
      obtain ⟨z, hzr, hzv⟩ := zeroV_const (fits_ne_dead hz)
      have fin : ∀ (v : AV) (c : Value) (b : Bool), relV cx.P (xOf (Env.mk (Ctx.P cx) N S w0) g w) v c → (execOp a.eval o).run cx.P w = .ok (.value (if ok then .tuple #[c, .bool b] else c)) w → next (fr.set o.dst (if ok then .tuple [v, .bool b] else v)) M = some r → o.wp cx.P a w K Q := by
        intro v c b hvc hrun hk
        refine wp_value ⟨_, w, hrun, hN _ _ g _ w (hr.set o.dst ?_) (Ext.refl _ _ _ _) (put_defers _ _ _) hk⟩
        cases ok
        · exact hvc
        · have : rel cx.P (xOf (Env.mk (Ctx.P cx) N S w0) g w) (.tuple [v, .bool b]) [.tuple #[c, .bool b]] := ⟨_, rfl, relVs_cons hvc (relVs_cons (relV_bool.2 rfl) rfl)⟩
          exact relV_leaf this rfl
      split at h
      · rename_i hm
        rw [hm] at hmv
        have hmc : a.eval m = .map none := by simpa [rel] using relV_cell rfl hmv
        refine fin _ z false (hzv _) ?_ h
        have e1 := run_checkKey (w := w) hd hik true 9999
        have e2 : (Instr.findKey kt (a.eval k) []).run cx.P w = .ok none w := run_findKey hd rfl
        simp [execOp, ho, Instr.lookup, run_underlying hu, hmc, e1, e2, hzr]
      · rename_i rr hm
        rw [hm] at hmv
        obtain ⟨b, k0, e0, hrow, hmc⟩ := relV_mapSome hmv
        split at h
        · rename_i kt' et' es hrw
          split at h
          · rename_i hc
            simp only [Bool.and_eq_true] at hc
            have q1 := Nat.eq_of_beq_eq_true hc.1
            have q2 := Nat.eq_of_beq_eq_true hc.2
            subst q1
            subst q2
            have hro := (hr.rows rr b _ hrow).2.2.2
            rw [hrw] at hro
            obtain ⟨_, ces, clock, hheap, hrel⟩ := hro
            have hheap : w.heap[b]? = some (.map ces clock) := hheap
            have e1 := run_checkKey (w := w) hd hik ces.isEmpty 9999
            rcases findV_sound hd hkv hik es ces.toList 0 hrel h with ⟨k1, k2⟩ | ⟨j, v, cv, k1, k2, k3, k4⟩
            · refine fin _ z false (hzv _) ?_ k2
              have e2 := run_findKey (w := w) hd k1
              simp [execOp, ho, Instr.lookup, run_underlying hu, hmc, MapKept.run_getObj_map hheap, e1, e2, hzr]
            · refine fin v cv true k2 ?_ k4
              have e2 := run_findKey (w := w) hd k1
              simp [execOp, ho, Instr.lookup, run_underlying hu, hmc, MapKept.run_getObj_map hheap, e1, e2]
          · exact absurd h (by simp)
        · exact absurd h (by simp)
      · exact absurd h (by simp)
    · exact absurd h (by simp)
  · exact absurd h (by simp)
theorem modify_toList {ces : Array MapEntry} {j : Nat} {e : MapEntry} {f : MapEntry → MapEntry} (h : ces.toList[j]? = some e) : (ces.modify j f).toList = ces.toList.set j (f e) := by
  rw [Array.toList_modify]
  apply List.ext_getElem?
  intro i
  rw [List.getElem?_modify, List.getElem?_set]
  by_cases hij : j = i
  · subst hij
    have hl := (List.getElem?_eq_some_iff.1 h).1
    rw [Array.length_toList] at hl
    have he : ces[j] = e := by simpa [hl] using h
    simp [h, hl, he]
  · simp [hij]
theorem wp_mapPut (hr : Rel (Env.mk (Ctx.P cx) N S w0) d g fr M a w) {t : TypeId} {m k x : Operand} (ho : o.op = .mapUpdate t m k x ∨ o.op = .insert t m k x) (h : mapPutE cx t m k x fr M (fun fr M => next (fr.set o.dst undefV) M) = some r) (hN : Nx (Env.mk (Ctx.P cx) N S w0) d g w a next r K) : o.wp cx.P a w K Q := by
  have hex : ∀ {w'}, (Instr.mapUpdate t (a.eval m) (a.eval k) (a.eval x)).run cx.P w = .ok () w' → (execOp a.eval o).run cx.P w = .ok .skip w' := by
    intro w' hrun
    rcases ho with ho | ho <;> simp [execOp, ho, hrun]
  unfold mapPutE at h
  split at h
  · rename_i kt et rr hu hm
    have hmv := hr.opnd t m
    rw [hm] at hmv
    obtain ⟨b, k0, e0, hrow, hmc⟩ := relV_mapSome hmv
    split at h
    · rename_i kt' et' es hrw
      simp only at h
      split at h
      · rename_i hc
        simp only [Bool.and_eq_true] at hc
        obtain ⟨⟨⟨⟨c1, c2⟩, hkt⟩, hkf⟩, hvf⟩ := hc
        have q1 := Nat.eq_of_beq_eq_true c1
        have q2 := Nat.eq_of_beq_eq_true c2
        subst q1
        subst q2
        have hkv := hr.opnd kt k
        have hvv := hr.opnd et x
        obtain ⟨dd, hd, hik⟩ := key_is hkv hkt hkf
        have hro := (hr.rows rr b _ hrow).2.2.2
        rw [hrw] at hro
        obtain ⟨hroot, ces, clock, hheap, hrel⟩ := hro
        have hheap : w.heap[b]? = some (.map ces clock) := hheap
        simp only [Root.map.injEq] at hroot
        obtain ⟨rfl, rfl⟩ := hroot
        have e1 := run_checkKey (w := w) hd hik false 9999
        obtain ⟨es', hk, hcase⟩ := putV_sound clock hd hkv hkt hkf hik hvv hvf es ces.toList 0 _ hrel h
        rcases hcase with ⟨f1, f2⟩ | ⟨j, e, f1, f2, f3, f4⟩
        · have e2 := run_findKey (w := w) hd f1
          obtain ⟨hx, hrel'⟩ := hr.setMap (clock' := clock + 1) (ces' := ces.push { key := a.eval k, val := a.eval x, born := clock }) hrow hheap (by simpa using f2)
          refine wp_skip' ⟨_, hex ?_, hN _ _ _ _ _ (hrel'.setUndef o.dst) hx (put_defers _ _ _) hk⟩
          simp [Instr.mapUpdate, run_underlying hu, hmc, MapKept.run_getObj_map hheap, e1, e2, run_setObj_map _ hheap]
        · have e2 := run_findKey (w := w) hd f1
          obtain ⟨hx, hrel'⟩ := hr.setMap (clock' := clock) (ces' := ces.modify j fun e => { e with key := a.eval k, val := a.eval x }) hrow hheap (by rw [modify_toList f2]; exact f4)
          refine wp_skip' ⟨_, hex ?_, hN _ _ _ _ _ (hrel'.setUndef o.dst) hx (put_defers _ _ _) hk⟩
          have f2' : ces[j]? = some e := by simpa using f2
          simp [Instr.mapUpdate, run_underlying hu, hmc, MapKept.run_getObj_map hheap, e1, e2, f2', f3, run_keyThatStays hik, run_setObj_map _ hheap]
      · exact absurd h (by simp)
    · exact absurd h (by simp)
  · exact absurd h (by simp)
end
end Go.AE

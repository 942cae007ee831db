/- What 'evO' says of the operations that move, load, store and make variables. -/
import Derived.Test.YtglfkdbfiipjjaaEv16
set_option linter.unusedVariables false
set_option linter.unusedSimpArgs false
namespace Go.AE
open Go.RowKit Go.Lib
section
variable {R : Type} {cx : Ctx} {N d : Nat} {S : Nat → Nat → Prop} {w0 : World} {g : G} {fr : Fr} {M : Mm} {a : Act} {w : World}

/-- What follows goes through. -/
def Nx (E : Env) (d : Nat) (g : G) (w : World) (a : Act) (next : Fr → Mm → Option R) (r : R) (K : Act → World → Prop) : Prop :=
  ∀ fr' M' g' a' w', Rel E d g' fr' M' a' w' → Ext E d g w g' w' → a'.defers = a.defers → next fr' M' = some r → K a' w'
/-- So does a panic. -/
def Px (E : Env) (d : Nat) (g : G) (w : World) (a : Act) (pan : AV → Fr → Mm → Option R) (r : R) (Q : Exit → Act → World → Prop) : Prop :=
  ∀ v c fr' M' g' a' w', Rel E d g' fr' M' a' w' → Ext E d g w g' w' → a'.defers = a.defers → relV E.P (xOf E g' w') v c → pan v fr' M' = some r → Q (.panic [{ v := c, recovered := false }]) a' w'
theorem put_defers (a : Act) (dst : Option Nat) (c : Value) : (a.put dst c).defers = a.defers := by cases dst <;> rfl
variable {next : Fr → Mm → Option R} {r : R} {K : Act → World → Prop} {Q : Exit → Act → World → Prop} {o : Oper} {pan : AV → Fr → Mm → Option R} {fn : FuncId} {call : CallH R}

theorem wp_value (h : ∃ c w', (execOp a.eval o).run cx.P w = .ok (.value c) w' ∧ K (a.put o.dst c) w') : o.wp cx.P a w K Q := by
  obtain ⟨c, w', h1, h2⟩ := h
  unfold Oper.wp
  rw [h1]
  exact h2
theorem wp_pure (hG : cx.Good) (hr : Rel (Env.mk (Ctx.P cx) N S w0) d g fr M a w) {ok : Bool} {v : AV} (h : popv cx M fr.tmps o = some (ok, v)) (hk : cond ok (next (fr.set o.dst v) M) none = some r) (hN : Nx (Env.mk (Ctx.P cx) N S w0) d g w a next r K) : o.wp cx.P a w K Q := by
  cases ok with
  | false => exact absurd hk (by simp)
  | true => exact popv_sound hG hr h fun c w' hb hc => hN _ _ g _ w' ((hr.grown hb).set o.dst hc) (Ext.of_below hb) (put_defers _ _ _) hk
theorem wp_move (hr : Rel (Env.mk (Ctx.P cx) N S w0) d g fr M a w) {x : Operand} (ho : o.op = .move x) (hk : next (fr.move cx.P o.dst o.type x) M = some r) (hN : Nx (Env.mk (Ctx.P cx) N S w0) d g w a next r K) : o.wp cx.P a w K Q :=
  wp_value ⟨a.eval x, w, by simp [execOp, ho], hN _ _ g _ w (hr.move o.dst o.type x) (Ext.refl _ _ _ _) (put_defers _ _ _) hk⟩
theorem wp_assign (hr : Rel (Env.mk (Ctx.P cx) N S w0) d g fr M a w) {x : Operand} (ho : o.op = .assign x) (hk : next (fr.assign cx.P o.dst o.type x) M = some r) (hN : Nx (Env.mk (Ctx.P cx) N S w0) d g w a next r K) : o.wp cx.P a w K Q := by
  obtain ⟨g', hx, hr'⟩ := hr.assign o.dst o.type x
  exact wp_value ⟨a.eval x, w, by simp [execOp, ho], hN _ _ g' _ w hr' hx (put_defers _ _ _) hk⟩
theorem cell_cond {t : TypeId} {v : AV} {P : Program} (h : (fits P t v && (tyA P t || Nat.beq (P.cellsOf t) 1)) = true) : fits P t v = true ∧ (tyA P t = false → P.cellsOf t = 1) := by
  simp only [Bool.and_eq_true, Bool.or_eq_true] at h
  exact ⟨h.1, fun k => Nat.eq_of_beq_eq_true (h.2.resolve_left (by simp [k]))⟩
theorem fits_ne_dead {P : Program} {t : TypeId} {v : AV} (h : fits P t v = true) : v ≠ .dead := by
  rintro rfl; simp [fits, leafOK] at h
theorem wp_alloc (hr : Rel (Env.mk (Ctx.P cx) N S w0) d g fr M a w) {t : TypeId} (ho : o.op = .alloc t) (hf : (fits cx.P t (zero cx.P t) && (tyA cx.P t || Nat.beq (cx.P.cellsOf t) 1)) = true)
    (hk : next (fr.set o.dst (.ptr M.rows.length [] t 0)) { M with rows := M.rows ++ [.var t (zero cx.P t)] } = some r) (hN : Nx (Env.mk (Ctx.P cx) N S w0) d g w a next r K) : o.wp cx.P a w K Q := by
  obtain ⟨hf, h1⟩ := cell_cond hf
  obtain ⟨z, hz, hv⟩ := run_zeroV (w := w) (fits_ne_dead hf) (x := xOf (Env.mk (Ctx.P cx) N S w0) g w)
  refine wp_value ⟨.pointer (some ⟨w.heap.size, 0, none⟩), w.alloc (.cells z.cells t), ?_, hN _ _ _ _ _ (hr.newVar hv hf h1 o.dst) (ext_newVar hr _ t) (put_defers _ _ _) hk⟩
  simp [execOp, ho, Instr.alloc, hz, newVar, newRow]
theorem wp_box (hr : Rel (Env.mk (Ctx.P cx) N S w0) d g fr M a w) {t : TypeId} {x : Operand} (ho : o.op = .box t x) (hf : (fits cx.P t (opnd cx.P fr.tmps t x) && (tyA cx.P t || Nat.beq (cx.P.cellsOf t) 1)) = true)
    (hk : next (fr.set o.dst (.ptr M.rows.length [] t 0)) { M with rows := M.rows ++ [.var t (opnd cx.P fr.tmps t x)] } = some r) (hN : Nx (Env.mk (Ctx.P cx) N S w0) d g w a next r K) : o.wp cx.P a w K Q := by
  obtain ⟨hf, h1⟩ := cell_cond hf
  refine wp_value ⟨.pointer (some ⟨w.heap.size, 0, none⟩), w.alloc (.cells (a.eval x).cells t), ?_, hN _ _ _ _ _ (hr.newVar (hr.opnd t x) hf h1 o.dst) (ext_newVar hr _ t) (put_defers _ _ _) hk⟩
  simp [execOp, ho, Instr.box, newVar, newRow]
theorem hasRo_mem {r : Nat} {p : List Nat} : ∀ {l : List (Nat × List Nat)}, hasRo r p l = true → (r, p) ∈ l
  | [], h => by simp [hasRo] at h
  | (i, q) :: l, h => by
    simp only [hasRo, Bool.or_eq_true, Bool.and_eq_true, decide_eq_true_eq] at h
    rcases h with ⟨h1, h2⟩ | h
    · rw [Nat.eq_of_beq_eq_true h1, h2]; exact List.mem_cons_self
    · exact List.mem_cons_of_mem _ (hasRo_mem h)
/-- A slice that is loaded from a row: the very cell. -/
theorem load_slice (hr : Rel (Env.mk (Ctx.P cx) N S w0) d g fr M a w) {rr : Nat} {p : List Nat} {t t' : TypeId} {off : Nat} {ca : Value} {e : TypeId} {l : List AV} {ex : Bool} (hp : relV cx.P (xOf (Env.mk (Ctx.P cx) N S w0) g w) (.ptr rr p t' off) ca) (hl : likeT cx.P t' t = true)
    (hv : (M.rows.getD rr (.arr 0 [])).get p = .slice e l ex) :
    ∃ c b root, (Instr.loadAt t ca).run cx.P w = .ok c w ∧ relV cx.P (xOf (Env.mk (Ctx.P cx) N S w0) g w) (.slice e l ex) c ∧ g.rows[rr]? = some (b, root) ∧ PathR cx.P root p t' off ∧ cx.P.underlying t' = some (.slice e) ∧ w.cell? ⟨b, off, none⟩ = some c := by
  obtain ⟨b, root, h1, h2, rfl⟩ := relV_ptr hp
  obtain ⟨cs, ty, k1, k2⟩ := rowOK_cells (hr.rowsOK rr b root h1) h2
  obtain ⟨pre, c, post, e1, e2, e3, e4, e5, _⟩ := rowC_path k2 h2
  rw [hv] at e3 e5
  have hf := fits_like hl e5
  have hcell : ∀ i u, c[i]? = some u → w.cell? ⟨b, off + i, none⟩ = some u := fun i u hu => by
    rw [cell_heap k1, ← Array.getElem?_toList, e1, List.append_assoc, ← e2, List.getElem?_append_right (by omega), Nat.add_sub_cancel_left, List.getElem?_append_left (List.getElem?_eq_some_iff.1 hu).1]
    exact hu
  have hrun := run_loadVar (w := w) (b := b) (o := off) hf e3 (by rw [e4, like_cells hl]) hcell
  have hone := fits_one e5 e3 rfl
  match c, hone with
  | [u], _ =>
    exact ⟨u, b, root, by simp only [Instr.loadAt, Sem.run_bind, Instr.sureAddr, Sem.run_pure, Result.andThen_ok, hrun]; rfl, relV_leaf e3 rfl, h1, h2, relV_sliceTy e5, hcell 0 u (by simp)⟩
theorem wp_load (hG : cx.Good) (hr : Rel (Env.mk (Ctx.P cx) N S w0) d g fr M a w) {t : TypeId} {x : Operand} (ho : o.op = .load t x)
    (h : evO cx fn call o fr M next pan = some r) (hN : Nx (Env.mk (Ctx.P cx) N S w0) d g w a next r K) : o.wp cx.P a w K Q := by
  have hpop : ∀ b v, okV (loadV cx.P M t (opnd cx.P fr.tmps 0 x)) = some (b, v) → popv cx M fr.tmps o = some (b, v) := fun b v k => by simp only [popv, ho]; exact k
  simp only [evO, ho] at h
  split at h
  · rename_i b v hok
    have hb : b = true := (okV_some hok).2
    subst hb
    split at h
    · rename_i e l ex rr p t' off hx
      have hld := (okV_some hok).1
      have hpx := hr.opnd 0 x
      rw [hx] at hpx
      rw [hx] at hld
      simp only [loadV] at hld
      · split at hld
        · rename_i hlk
          have hv := eta_slice (Option.some.inj hld)
          obtain ⟨c, b, root, h1, h2, h3, h4, h5, h6⟩ := load_slice hr hpx hlk hv
          refine wp_value ⟨c, w, by simp [execOp, ho, h1], hN _ _ g _ w ?_ (Ext.refl _ _ _ _) (put_defers _ _ _) h⟩
          have hset := hr.set o.dst h2
          unfold Fr.setF
          split
          · rename_i tt fl hd hfl
            split
            · rename_i hlt
              have hlt := Nat.blt_eq.mp hlt
              revert hfl
              split
              · rename_i hro
                intro hfl
                cases hfl
                rw [hd] at hset ⊢
                exact hset.flagR (setT_self hlt _) (hasRo_mem hro) h3 h4 h5 (by rw [blt_len hr hlt]; exact h6)
              · intro hfl; cases hfl
            · exact hset
          · exact hset
        · exact absurd hld (by simp)
    · exact wp_pure hG hr (hpop _ _ hok) h hN
  · exact absurd h (by simp)
theorem wp_panic (hr : Rel (Env.mk (Ctx.P cx) N S w0) d g fr M a w) {x : Operand} (ho : o.op = .panic x) (h : evO cx fn call o fr M next pan = some r) (hP : Px (Env.mk (Ctx.P cx) N S w0) d g w a pan r Q) : o.wp cx.P a w K Q := by
  simp only [evO, ho] at h
  split at h
  · rename_i t v hx
    have hv := hr.opnd 0 x
    rw [hx] at hv
    obtain ⟨c, e, _⟩ := relV_iface hv
    have := hP _ _ _ _ g a w hr (Ext.refl _ _ _ _) rfl hv h
    unfold Oper.wp
    have hrun : (execOp a.eval o).run cx.P w = .halt (.panic (a.eval x)) w := by
      rw [e]
      simp [execOp, ho, Instr.panic, e, goPanic]
    rw [hrun]
    exact this
  · exact absurd h (by simp)
theorem wp_skip' (h : ∃ w', (execOp a.eval o).run cx.P w = .ok .skip w' ∧ K (a.put o.dst undef) w') : o.wp cx.P a w K Q := by
  obtain ⟨w', h1, h2⟩ := h
  unfold Oper.wp
  rw [h1]
  exact h2
theorem Rel.setUndef {E : Env} {g : G} {fr : Fr} {M : Mm} {a : Act} {w : World} (h : Rel E d g fr M a w) (dst : Option Nat) : Rel E d g (fr.set dst undefV) M (a.put dst undef) w := h.set dst relV_undef
theorem wp_store (hr : Rel (Env.mk (Ctx.P cx) N S w0) d g fr M a w) {t : TypeId} {x y : Operand} (ho : o.op = .store t x y)
    (h : storeE cx t x y fr M (fun fr M => next (fr.set o.dst undefV) M) = some r) (hN : Nx (Env.mk (Ctx.P cx) N S w0) d g w a next r K) : o.wp cx.P a w K Q := by
  unfold storeE at h
  split at h
  · rename_i rr p t' off hx
    have hpx := hr.opnd 0 x
    rw [hx] at hpx
    dsimp only at h
    by_cases hc : (likeT cx.P t' t && fits cx.P t (opnd cx.P fr.tmps t y)) = true
    · rw [if_pos hc] at h
      simp only [Bool.and_eq_true] at hc
      have hv := hr.opnd t y
      have fin : ∀ {g' fr' M' w'}, (Instr.storeAt t (a.eval x) (a.eval y)).run cx.P w = .ok () w' → Rel (Env.mk (Ctx.P cx) N S w0) d g' fr' M' a w' → Ext (Env.mk (Ctx.P cx) N S w0) d g w g' w' → next (fr'.set o.dst undefV) M' = some r → o.wp cx.P a w K Q := fun hrun hrel hext hnx =>
        wp_skip' ⟨_, by simp [execOp, ho, hrun], hN _ _ _ _ _ (hrel.setUndef o.dst) hext (put_defers _ _ _) hnx⟩
      have plain : next (Fr.set { fr with tf := dropViaR rr p fr.tf } o.dst undefV) { rows := M.rows.set rr ((M.rows.getD rr (.arr 0 [])).put p (opnd cx.P fr.tmps t y)), ro := dropR rr p M.ro } = some r → o.wp cx.P a w K Q := fun hnx => by
        obtain ⟨b, root, w', h1, h2, h3, _⟩ := storeCore hr hpx hv hc.1 hc.2
        exact fin h1 h3 h2 hnx
      /- a slice whose owner hands over to the row -/
      have own : ∀ (s u : Nat) (e : TypeId) (l : List AV) (tf0 : List (Nat × TF)), y = .tmp s → opnd cx.P fr.tmps t y = .slice e l false → Rel (Env.mk (Ctx.P cx) N S w0) d g { fr with tf := tf0 } M a w → (u, TF.own) ∉ tf0 → OwnC (Env.mk (Ctx.P cx) N S w0) g w (.t d u) e (a.tmps.getD s undef) →
          next (Fr.set { fr with tf := (s, .viaR rr p) :: dropViaR rr p tf0 } o.dst undefV) { rows := M.rows.set rr ((M.rows.getD rr (.arr 0 [])).put p (.slice e l false)), ro := (rr, p) :: dropR rr p M.ro } = some r → o.wp cx.P a w K Q := by
        intro s u e l tf0 hy hval h0 hno hown hnx
        subst hy
        rw [hval] at hc hv
        obtain ⟨g1, k1, k2, k3, k4⟩ := h0.reown (.r rr p) hown (fun t' e => by cases e; exact hno) (fun r p e => by cases e) (fun d' i e => by cases e; omega)
        obtain ⟨b, root, w', m1, m2, m3, m4, m5, m6, m7⟩ := storeCore k1 (relV_le k2.le hpx) (relV_le k2.le hv) hc.1 hc.2
        have hu := relV_sliceTy (fits_like (like_symm hc.1) hc.2)
        have m8 := (m3.addRo m4 m5 hu (m6 rfl) (m7 _ _ _ k4))
        exact fin m1 (m8.flagR hval List.mem_cons_self m4 m5 hu (m6 rfl)) (k2.trans m2) hnx
      split at h
      · rename_i e l hval
        rw [hval] at hc hv
        have hw := slice_weak hv
        have hf2 : fits cx.P t (.slice e l false) = true := hc.2
        obtain ⟨b, root, w', m1, m2, m3, m4, m5, m6, m7⟩ := storeCore hr hpx hw hc.1 hf2
        have hu := relV_sliceTy (fits_like (like_symm hc.1) hf2)
        exact fin m1 (m3.addRo m4 m5 hu (m6 rfl) (slice_exact hv _)) m2 h
      · rename_i e l hval
        split at h
        · rename_i s
          split at h
          · rename_i hfl
            have hm := (mem_dropViaR (flagOf_mem hfl)).1
            obtain ⟨e1, l1, ex1, k1, k2⟩ := hr.own s hm
            have : AV.slice e l false = .slice e1 l1 ex1 := hval.symm.trans k1
            cases this
            exact own s s e l (dropT s fr.tf) rfl hval (hr.drop s) (not_dropT s fr.tf) k2 (hval ▸ h)
          · rename_i u hfl
            have hm := (mem_dropViaR (flagOf_mem hfl)).1
            obtain ⟨k1, k2, e1, l1, ex1, l2, ex2, k3, k4⟩ := hr.viaT s u hm
            have : AV.slice e l false = .slice e1 l1 ex1 := hval.symm.trans k3
            cases this
            obtain ⟨e2, l3, ex3, j1, j2⟩ := hr.own u k1
            rw [k4] at j1
            cases j1
            refine own s u e l (dropT s (dropT u fr.tf)) rfl hval ((hr.drop u).drop s) (fun k => not_dropT u fr.tf (mem_dropT k).1) (by rw [k2]; exact j2) (hval ▸ h)
          · exact plain h
        · exact plain h
      · exact plain h
    · rw [if_neg hc] at h; exact absurd h (by simp)
  · exact absurd h (by simp)
end
end Go.AE

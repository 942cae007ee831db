/- What 'evO' says of slices that are made, and of copies. -/
import Derived.Test.YtglfkdbfiipjjaaEv20
import Derived.Laws.MakeOwn
set_option linter.unusedVariables false
set_option linter.unusedSimpArgs false
namespace Go.AE
open Go.RowKit Go.Lib
section
variable {P : Program}
theorem zero_info {t : TypeId} (h : zero P t ≠ .dead) : ∃ i z, P.info? t = some i ∧ i.zero = some z ∧ zero P t = ofVal P t z := by
  unfold zero at h ⊢
  split at h
  · rename_i i hi
    split at h
    · rename_i z hz; exact ⟨i, z, hi, hz, rfl⟩
    · exact absurd rfl h
  · exact absurd rfl h
theorem setP_self : ∀ (p : List Nat) (v : AV), setP p (getP p v) v = v
  | [], v => rfl
  | i :: p, .agg t ps => by
    simp only [getP, setP]
    rw [setP_self p]
    congr 1
    apply List.ext_getElem?
    intro j
    rw [List.getElem?_set]
    split
    · rename_i e; subst e
      split
      · rename_i hl; simp [List.getD, hl]
      · rename_i hl; rw [List.getElem?_eq_none (by omega)]
    · rfl
  | _ :: _, .dead | _ :: _, .bool _ | _ :: _, .int _ _ | _ :: _, .str _ | _ :: _, .nilp | _ :: _, .ptr _ _ _ _ | _ :: _, .rptr _ _ | _ :: _, .slice _ _ _ | _ :: _, .msl _ _ _ _ _ _ | _ :: _, .mapv _ | _ :: _, .func _ _ _ | _ :: _, .nilf | _ :: _, .iface _ _ | _ :: _, .nili | _ :: _, .tuple _ => rfl
theorem setD_self {l : List AV} (i : Nat) : l.set i (l.getD i .dead) = l := by
  apply List.ext_getElem?
  intro j
  rw [List.getElem?_set]
  split
  · rename_i e; subst e
    split
    · rename_i hl; simp [List.getD, hl]
    · rename_i hl; rw [List.getElem?_eq_none (by omega)]
  · rfl
theorem put_self' (row : Row) (p : List Nat) : row.put p (row.get p) = row := by
  cases row with
  | var t v => simp only [Row.put, Row.get, setP_self]
  | arr e l =>
    cases p with
    | nil => rfl
    | cons i p => simp only [Row.put, Row.get, setP_self, setD_self]
  | map k e es => rfl
theorem putElems_self {row : Row} {p : List Nat} (h : (∃ e l, row = .arr e l ∧ p = []) ∨ ∃ u ps, row.get p = .agg u ps) : row.putElems p (row.elems p) = row := by
  rcases h with ⟨e, l, rfl, rfl⟩ | ⟨u, ps, hv⟩
  · rfl
  · have hp := put_self' row p
    rw [hv] at hp
    cases row with
    | var t v => simp only [Row.putElems, Row.elems, hv, aggT, partsOf]; exact hp
    | arr e l =>
      cases p with
      | nil => rfl
      | cons i p => simp only [Row.putElems, Row.elems, hv, aggT, partsOf]; exact hp
    | map k e es => rfl
theorem rows_self (l : List Row) (r : Nat) : l.set r (l.getD r (.arr 0 [])) = l := by
  apply List.ext_getElem?
  intro j
  rw [List.getElem?_set]
  split
  · rename_i e; subst e
    split
    · rename_i hl; simp [List.getD, hl]
    · rename_i hl; rw [List.getElem?_eq_none (by omega)]
  · rfl
end
section
variable {R : Type} {cx : Ctx} {N d : Nat} {S : Nat → Nat → Prop} {w0 : World} {g : G} {fr : Fr} {M : Mm} {a : Act} {w : World}
variable {next : Fr → Mm → Option R} {r : R} {K : Act → World → Prop} {Q : Exit → Act → World → Prop} {o : Oper} {pan : AV → Fr → Mm → Option R} {fn : FuncId} {call : CallH R}
theorem sameOperand_eval {l c : Operand} (h : sameOperand l c = true) : a.eval l = a.eval c := by
  unfold sameOperand at h
  split at h
  · rw [Nat.eq_of_beq_eq_true h]
  · simp only [Bool.and_eq_true, decide_eq_true_eq] at h
    rw [h.1, h.2]
  · exact absurd h (by simp)
theorem zeroConst_eval {l : Operand} (h : zeroConst l = true) : ∃ k, a.eval l = .int k 0 := by
  unfold zeroConst at h
  split at h
  · rename_i k n
    rw [of_decide_eq_true h]
    exact ⟨k, rfl⟩
  · exact absurd h (by simp)
theorem wp_makeSlice (hr : Rel (Env.mk (Ctx.P cx) N S w0) d g fr M a w) {t : TypeId} {l c : Operand} (ho : o.op = .makeSlice t l c) (h : makeSliceE cx t l c o fr M next = some r) (hN : Nx (Env.mk (Ctx.P cx) N S w0) d g w a next r K) : o.wp cx.P a w K Q := by
  unfold makeSliceE at h
  split at h
  · rename_i e k n dd hu hc hdst
    split at h
    · rename_i hcond
      simp only [Bool.and_eq_true] at hcond
      obtain ⟨⟨hfz, hone⟩, hlt⟩ := hcond
      have hlt := Nat.blt_eq.mp hlt
      obtain ⟨hfz, hone⟩ := cell_cond (by simp only [Bool.and_eq_true]; exact ⟨hfz, hone⟩)
      cases hb : (decide (0 ≤ n) && decide (n * cx.P.bytesOf e ≤ 140737488355328) && decide (n ≤ 140737488355328)) with
      | false => rw [hb] at h; exact absurd h (by simp)
      | true =>
        rw [hb, cond_true] at h
        simp only [Bool.and_eq_true, decide_eq_true_eq] at hb
        obtain ⟨⟨h0, hbytes⟩, hmax⟩ := hb
        obtain ⟨i, z, hi, hz, hzv⟩ := zero_info (fits_ne_dead hfz)
        have hzr : relV cx.P (xOf (Env.mk (Ctx.P cx) N S w0) g w).imm (zero cx.P e) z := hzv ▸ ofVal_rel e z
        obtain ⟨cn, hzc, hrel, _⟩ := hzr
        have hlz := fits_len hfz hrel hone
        have hcm := cells_mkV hfz hrel
        rw [← hzc] at hcm
        have hbi : cx.P.bytesOf e = i.bytes := by simp [Program.bytesOf, hi]
        have hsi : cx.P.cellsOf e = i.size := by simp [Program.cellsOf, hi]
        have hvc := hr.opnd 0 c
        rw [hc] at hvc
        have hcv := relV_int.1 hvc
        have hbytes' : (i.bytes : Int) * n ≤ 281474976710656 := by rw [← hbi, Int.mul_comm]; omega
        have hzs : z.cells.size = i.size := by rw [hcm, ← hsi, ← hlz]; simp
        have hflat : (madeCells z.cells (n.toNat * i.size)).toList = (List.replicate n.toNat cn).flatten := by
          rw [← hzs, made_flat, hcm]
        split at h
        · rename_i hsame
          have hlv : a.eval l = .int k n := (sameOperand_eval hsame).trans hcv
          have hrun := run_make (P := cx.P) w t e i z hu hi hz k k n n h0 (Int.le_refl _) hbytes' (by omega)
          have h2 := hr.newRow (.cells (madeCells z.cells (n.toNat * i.size)) e) (.arr e (List.replicate n.toNat (zero cx.P e)).length) (.arr e (List.replicate n.toNat (zero cx.P e))) fun x hle hw =>
            ⟨_, e, by rw [hw]; exact alloc_get _ _, rfl, (List.replicate n.toNat cn).flatten, [], by rw [hflat]; simp, relAr_le ((imm_le _).trans hle) e _ _ (relAr_replicate hrel hlz hfz n.toNat)⟩
          refine wp_value ⟨_, _, by simp only [execOp, ho, hlv, hcv, Sem.run_bind, hrun, Result.andThen_ok, Sem.run_pure]; rfl, hN _ _ _ _ _ (h2.set o.dst ?_) (ext_newRow hr _ _) (put_defers _ _ _) (by rw [hdst]; exact h)⟩
          have : rel cx.P (xOf (Env.mk (Ctx.P cx) N S w0) (g.row w.heap.size (.arr e (List.replicate n.toNat (zero cx.P e)).length)) (w.alloc (.cells (madeCells z.cells (n.toNat * i.size)) e))) (.msl M.rows.length [] e 0 0 n.toNat) [.slice (some ⟨w.heap.size, 0, none⟩) n.toNat n.toNat] :=
            ⟨rfl, w.heap.size, .arr e (List.replicate n.toNat (zero cx.P e)).length, (List.replicate n.toNat (zero cx.P e)).length, 0, by show (g.rows ++ _)[M.rows.length]? = _; rw [← hr.lenr]; simp, .inl ⟨rfl, rfl, rfl⟩, by simp, by simp, _, _, Nat.le_refl _, rfl, fun _ => rfl⟩
          exact relV_leaf this rfl
        · split at h
          · rename_i hzc0
            obtain ⟨kl, hlv⟩ := zeroConst_eval (a := a) hzc0
            have hrun := run_make (P := cx.P) w t e i z hu hi hz kl k 0 n (Int.le_refl _) h0 hbytes' (by omega)
            obtain ⟨g', k2, k3, k4, k5⟩ := hr.appendNew (.t d dd) (e := e) (l := []) (l2 := []) (cap := n.toNat) (olds := []) (news := []) (rest := (List.replicate n.toNat cn).flatten) (wd := w) (Below.refl _ _) rfl rfl rfl (by simp) (by
              rw [relAr_len (relAr_replicate hrel hlz hfz n.toNat)]; simp)
            have hw : w.alloc (.cells (madeCells z.cells (n.toNat * i.size)) e) = w.alloc (.cells (([] : List Value) ++ [] ++ (List.replicate n.toNat cn).flatten).toArray e) := by
              congr 2
              apply Array.ext'
              rw [hflat]; simp
            rw [hw] at hrun
            refine wp_value ⟨_, _, by simp only [execOp, ho, hlv, hcv, Sem.run_bind, hrun, Result.andThen_ok, Sem.run_pure]; rfl, hN _ _ g' _ _ ?_ k2 (put_defers _ _ _) h⟩
            have hset := k3.set (some dd) k4
            rw [hdst]
            exact hset.flagOwn (setT_self hlt _) (by rw [blt_len k3 hlt]; exact k5)
          · exact absurd h (by simp)
    · exact absurd h (by simp)
  · exact absurd h (by simp)
theorem wp_copy (hr : Rel (Env.mk (Ctx.P cx) N S w0) d g fr M a w) {c : Call} (ho : o.op = .call c) (hc : c.callee = .builtin .copy) (h : copyE cx c o fr M next = some r) (hN : Nx (Env.mk (Ctx.P cx) N S w0) d g w a next r K) : o.wp cx.P a w K Q := by
  unfold copyE at h
  split at h
  · rename_i x y t u ha hat
    split at h
    · rename_i elem rr p e off coff len hu hx
      split at h
      · rename_i hcond
        simp only [Bool.and_eq_true] at hcond
        obtain ⟨⟨hee, hsz⟩, hinf⟩ := hcond
        have hee := Nat.eq_of_beq_eq_true hee
        subst hee
        have hsz := Nat.blt_eq.mp hsz
        obtain ⟨i, hi⟩ := Option.isSome_iff_exists.mp hinf
        split at h
        · exact absurd h (by simp)
        · rename_i l2 hap
          dsimp only at h
          have hvx := hr.opnd t x
          rw [hx] at hvx
          have hvy := hr.opnd u y
          obtain ⟨news, hnew, hlen, hfc⟩ := appended_from hr hvy hap hsz
          obtain ⟨b, root, n0, o0, m1, m2, m3, m4, base, cap, m5, hev, m6⟩ := relV_msl hvx
          have m4 : coff = o0 + off * cx.P.cellsOf e := m4
          have e1 : c.args = #[x, y] := by apply Array.ext'; simpa using ha
          have e2 : c.argTypes = #[t, u] := by apply Array.ext'; simpa using hat
          have hk : i.size = cx.P.cellsOf e := by simp [Program.cellsOf, hi]
          /- the run, up to the store -/
          have hexec : ∀ {w' : World}, (match base with | some ad => storeCells ad (news.take (min l2.length len * cx.P.cellsOf e)) | none => pure ()).run cx.P w = .ok () w' →
              (execOp a.eval o).run cx.P w = .ok (.value (.int .i64 ((min l2.length len : Nat) : Int))) w' := by
            intro w' hw
            have hmin : Nat.min l2.length len = min l2.length len := rfl
            have hf := hfc (min l2.length len) w (Nat.min_le_left _ _) rfl
            rw [← hk] at hf hw
            cases base with
            | none =>
              have hww : w' = w := by
                simp only [Sem.run_pure] at hw
                exact ((Result.ok.injEq ..).mp hw).2.symm
              subst hww
              simp [execOp, ho, resolve, hc, invoke, builtin, e1, e2, Builtin.copy_, run_underlying hu, hev, hlen, sizeOf, typeInfo, hi, hmin, hf, goInt]
            | some ad =>
              simp [execOp, ho, resolve, hc, invoke, builtin, e1, e2, Builtin.copy_, run_underlying hu, hev, hlen, sizeOf, typeInfo, hi, hmin, hf, goInt, hw]
          obtain ⟨cs, ty, k1, k2⟩ : ∃ cs ty, w.heap[b]? = some (.cells cs ty (0, 0)) ∧ RowC cx.P (xOf (Env.mk (Ctx.P cx) N S w0) g w) root (M.rows.getD rr (.arr 0 [])) cs.toList := by
            have := hr.rowsOK rr b root m1
            rcases m2 with ⟨rfl, rfl, rfl⟩ | ⟨t, m2, hu⟩
            · revert this
              cases M.rows.getD rr (.arr 0 []) with
              | map k e es => intro hk; exact absurd hk.1 (by simp)
              | var t v => exact id
              | arr e l => exact id
            · exact rowOK_cells this m2
          obtain ⟨j1, pre, cc, post, j2, j3, j4, j5⟩ := rowC_elems k2 m2
          have hagg : (∃ e l, M.rows.getD rr (.arr 0 []) = .arr e l ∧ p = []) ∨ ∃ u ps, (M.rows.getD rr (.arr 0 [])).get p = .agg u ps := by
            rcases m2 with ⟨rfl, _, rfl⟩ | ⟨t', m2, hu'⟩
            · revert k2
              cases M.rows.getD rr (.arr 0 []) with
              | map k e es => intro hk; exact hk.elim
              | var t v => intro hk; exact absurd hk.1 (by simp)
              | arr e l => intro _; exact .inl ⟨e, l, rfl, rfl⟩
            · obtain ⟨pre2, c2, post2, n1, n2, n3, n4, n5, _⟩ := rowC_path k2 m2
              obtain ⟨u2, ps, hv2, _⟩ := array_of hu' n5 n3
              exact .inr ⟨u2, ps, hv2⟩
          have hmin : min l2.length len ≤ len := Nat.min_le_right _ _
          generalize hn : min l2.length len = n at h hexec hmin
          have hnl : n ≤ l2.length := hn ▸ Nat.min_le_left _ _
          rcases Nat.eq_zero_or_pos n with h0 | h0
          · /- nothing -/
            subst h0
            have hsame : (M.rows.getD rr (.arr 0 [])).putElems p (((M.rows.getD rr (.arr 0 [])).elems p).take off ++ (l2.take 0 ++ ((M.rows.getD rr (.arr 0 [])).elems p).drop (off + 0))) = M.rows.getD rr (.arr 0 []) := by
              rw [List.take_zero, List.nil_append, Nat.add_zero, List.take_append_drop, putElems_self hagg]
            rw [hsame, rows_self] at h
            have hst : (match base with | some ad => storeCells ad (news.take (0 * cx.P.cellsOf e)) | none => (pure () : Sem Unit)).run cx.P w = .ok () w := by
              rw [Nat.zero_mul, List.take_zero]
              cases base <;> simp [storeCells]
            exact wp_value ⟨_, w, hexec hst, hN _ _ g _ w ((hr.dropRow rr p).set o.dst (relV_int.2 rfl)) (Ext.refl _ _ _ _) (put_defers _ _ _) h⟩
          · obtain rfl := m6 (by omega)
            have hcn : (news.take (n * cx.P.cellsOf e)).length = n * cx.P.cellsOf e := by
              rw [List.length_take, relAr_len hnew]
              exact Nat.min_eq_left (Nat.mul_le_mul_right _ hnl)
            have hccl : cc.length = n0 * cx.P.cellsOf e := by rw [relAr_len j4, j1]
            have hle1 : (off + n) * cx.P.cellsOf e ≤ n0 * cx.P.cellsOf e := Nat.mul_le_mul_right _ (by omega)
            have hmul : (off + n) * cx.P.cellsOf e = off * cx.P.cellsOf e + n * cx.P.cellsOf e := Nat.add_mul _ _ _
            have hcsl : cs.size = pre.length + cc.length + post.length := by rw [← Array.length_toList, j2]; simp; omega
            have hst := run_storeCells_at cx.P b coff ty (news.take (n * cx.P.cellsOf e)) 0 cs w k1 (by rw [hcn, hcsl]; omega) (fun v hv => oneCell_ar _ hnew v (List.mem_of_mem_take hv))
            have hcs : (cs.toList.take (coff + 0) ++ news.take (n * cx.P.cellsOf e) ++ cs.toList.drop (coff + 0 + (news.take (n * cx.P.cellsOf e)).length)) =
                pre ++ (cc.take (off * cx.P.cellsOf e) ++ (news.take (n * cx.P.cellsOf e) ++ cc.drop ((off + n) * cx.P.cellsOf e))) ++ post := by
              rw [hcn, j2, Nat.add_zero, m4, ← j3, List.append_assoc pre, List.take_append, List.take_of_length_le (by omega), Nat.add_sub_cancel_left, List.take_append_of_le_length (by omega),
                show pre.length + off * cx.P.cellsOf e + n * cx.P.cellsOf e = pre.length + (off + n) * cx.P.cellsOf e from by omega, List.drop_append, List.drop_of_length_le (by omega), Nat.add_sub_cancel_left, List.drop_append_of_le_length (by omega)]
              simp
            rw [hcs] at hst
            refine wp_value ⟨_, _, hexec hst, hN _ _ g _ _ (Rel.set (hr.setRow m1 k1 ?_ p ?_) o.dst (relV_int.2 rfl)) (ext_setRow hr m1 _) (put_defers _ _ _) h⟩
            · have hra : relAr cx.P (xOf (Env.mk (Ctx.P cx) N S w0) g w) e (((M.rows.getD rr (.arr 0 [])).elems p).take off ++ (l2.take n ++ ((M.rows.getD rr (.arr 0 [])).elems p).drop (off + n))) (cc.take (off * cx.P.cellsOf e) ++ (news.take (n * cx.P.cellsOf e) ++ cc.drop ((off + n) * cx.P.cellsOf e))) :=
                relAr_append (relAr_take off j4) (relAr_append (relAr_take n (relAr_le (imm_le _) e _ _ hnew)) (relAr_drop (off + n) j4))
              have := j5 _ _ hra (by simp only [List.length_append, List.length_take, List.length_drop, j1]; omega)
              simpa using this
            · intro q ty2 off2 e' v' hro hap' hq hu2 hcu
              have hsplit : off2 < pre.length + off * cx.P.cellsOf e ∨ pre.length + (off + n) * cx.P.cellsOf e ≤ off2 := by
                rcases m2 with ⟨rfl, _, _⟩ | ⟨t', m2, hu'⟩
                · cases q <;> simp [apart] at hap'
                · obtain ⟨_, hdis⟩ := rowC_apart k2 m2 hq hap' .dead
                  obtain ⟨pre2, c2, post2, n1, n2, n3, n4, n5, _⟩ := rowC_path k2 m2
                  obtain ⟨u2, ps, hv2, hlk, hu3, hn3, hs3⟩ := array_of hu' n5 n3
                  obtain ⟨pre3, c3, post3, q1, q2, q3, q4, q5, _⟩ := rowC_path k2 hq
                  have hc1 : cx.P.cellsOf ty2 = 1 := one_of q5 q3 q4 (by simp [tyA, hu2])
                  have : c2.length = n0 * cx.P.cellsOf e := by rw [relAr_len hs3, hn3]
                  rw [hc1] at hdis
                  omega
              simp only [List.getElem?_toArray]
              rw [← hcs, hcn, Nat.add_zero]
              rw [← Array.getElem?_toList] at hcu
              have hlt := (List.getElem?_eq_some_iff.1 hcu).1
              rw [Array.length_toList] at hlt
              rcases hsplit with hs1 | hs1
              · rw [List.append_assoc, List.getElem?_append_left (by rw [List.length_take, Array.length_toList]; omega), List.getElem?_take_of_lt (by omega)]
                exact hcu
              · rw [List.getElem?_append_right (by rw [List.length_append, List.length_take, hcn, Array.length_toList]; omega), List.length_append, List.length_take, hcn, Array.length_toList, List.getElem?_drop]
                rw [show coff + n * cx.P.cellsOf e + (off2 - (min coff cs.size + n * cx.P.cellsOf e)) = off2 from by omega]
                exact hcu
      · exact absurd h (by simp)
    · exact absurd h (by simp)
  · exact absurd h (by simp)
end
end Go.AE

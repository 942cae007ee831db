/- Regions whose order is drawn. -/
import Derived.Test.YtglfkdbfiipjjaaEv23
set_option linter.unusedVariables false
set_option linter.unusedSimpArgs false
namespace Go.AE
open Go.RowKit Go.Lib
section
variable {cx : Ctx} {M : Mm} {ops : Array Oper}

theorem opnds_congr {P : Program} {tm tm' : List AV} : ∀ (ts : List TypeId) (xs : List Operand), (∀ x ∈ xs, ∀ t, opnd P tm t x = opnd P tm' t x) → opnds P tm ts xs = opnds P tm' ts xs
  | ts, [], _ => by simp [opnds]
  | [], x :: xs, h => by simp only [opnds, h x (by simp) 0, opnds_congr [] xs fun y hy => h y (by simp [hy])]
  | t :: ts, x :: xs, h => by simp only [opnds, h x (by simp) t, opnds_congr ts xs fun y hy => h y (by simp [hy])]
theorem partsO_congr {P : Program} {tm tm' : List AV} (t : TypeId) : ∀ (ps : List (Nat × Operand)), (∀ x ∈ ps.map (·.2), ∀ t, opnd P tm t x = opnd P tm' t x) → partsO P tm t ps = partsO P tm' t ps
  | [], _ => rfl
  | p :: ps, h => by
    have ih := partsO_congr t ps fun x hx => h x (by simp only [List.map_cons, List.mem_cons]; exact .inr hx)
    unfold partsO at ih ⊢
    simp only [List.map_cons, h p.2 (by simp) (partsT P t p.1), ih]
theorem optO_congr {P : Program} {tm tm' : List AV} (x : Option Operand) (h : ∀ y, x = some y → ∀ t, opnd P tm t y = opnd P tm' t y) : optO P tm x = optO P tm' x := by
  cases x with
  | none => rfl
  | some y => exact congrArg some (h y rfl 0)
theorem specCall_congr {tm tm' : List AV} (c : Call) (h : ∀ x ∈ c.args.toList, ∀ t, opnd cx.P tm t x = opnd cx.P tm' t x) : specCall cx tm c = specCall cx tm' c := by
  unfold specCall
  simp only [opnds_congr c.argTypes.toList c.args.toList h]
theorem builtinV_congr {tm tm' : List AV} (b : Builtin) (c : Call) (h : ∀ x ∈ c.args.toList, ∀ t, opnd cx.P tm t x = opnd cx.P tm' t x) : builtinV cx M tm b c = builtinV cx M tm' b c := by
  unfold builtinV
  split
  · rename_i x t hx ht
    rw [h x (by rw [hx]; simp) t]
  · rename_i x r t ts hx ht
    rw [h x (by rw [hx]; simp) t, opnds_congr ts r fun y hy => h y (by rw [hx]; simp [hy])]
  · rename_i x r t ts hx ht
    rw [h x (by rw [hx]; simp) t, opnds_congr ts r fun y hy => h y (by rw [hx]; simp [hy])]
  · rfl
theorem popv_congr {tm tm' : List AV} (o : Oper) (h : ∀ x ∈ o.op.operands, ∀ t, opnd cx.P tm t x = opnd cx.P tm' t x) : popv cx M tm o = popv cx M tm' o := by
  obtain ⟨dst, op, type, pos, after, guard⟩ := o
  cases op <;> simp only [Op.operands] at h <;> simp only [popv]
  case move x => rw [h x (by simp)]
  case assign x => rw [h x (by simp)]
  case pick c a b => rw [h c (by simp), h a (by simp), h b (by simp)]
  case build t ps => rw [partsO_congr t ps.toList fun x hx => h x (by simpa using hx)]
  case buildSlice t n ps => rw [partsO_congr t ps.toList fun x hx => h x (by simpa using hx)]
  case load t x => rw [h x (by simp)]
  case nilCheck x => rw [h x (by simp)]
  case binOp op t x y ty => rw [h x (by simp), h y (by simp)]
  case unOp op t x => rw [h x (by simp)]
  case convert s d x => rw [h x (by simp)]
  case makeInterface t x => rw [h x (by simp)]
  case makeFunc fn first captured => rw [opnds_congr [] first.toList fun x hx => h x (by simp at hx ⊢; exact .inl hx), opnds_congr [] captured.toList fun x hx => h x (by simp at hx ⊢; exact .inr hx)]
  case slice t x lo hi mx =>
    rw [h x (by simp), optO_congr lo fun y e => h y (by simp [e]), optO_congr hi fun y e => h y (by simp [e]), optO_congr mx fun y e => h y (by simp [e])]
  case fieldAddr t x k => rw [h x (by simp)]
  case field t x k => rw [h x (by simp)]
  case indexAddr t x i => rw [h x (by simp), h i (by simp)]
  case index t x i => rw [h x (by simp), h i (by simp)]
  case typeAssert x xt t ok => rw [h x (by simp)]
  case extract x i => rw [h x (by simp)]
  case call c =>
    have hargs : ∀ x ∈ c.args.toList, ∀ t, opnd cx.P tm t x = opnd cx.P tm' t x := fun x hx => h x (by
      unfold Call.operands
      cases c.callee <;> simp_all)
    rw [specCall_congr c hargs]
    cases c.callee with
    | builtin b => exact builtinV_congr b c hargs
    | _ => rfl
theorem absV_congr {tm tm' : List AV} {o : Oper} (h : ∀ t ∈ o.looksAt ops, tm.getD t .dead = tm'.getD t .dead) : absV cx M ops o tm = absV cx M ops o tm' := by
  have hp : popv cx M tm o = popv cx M tm' o := popv_congr o fun x hx t => by
    cases x with
    | tmp i => exact h i (List.mem_append_left _ (List.mem_filterMap.2 ⟨.tmp i, by simpa using hx, rfl⟩))
    | const v => rfl
    | global g => rfl
    | func f => rfl
  unfold absV
  rw [hp]
  split
  · rfl
  · rename_i j want hg
    split
    · rfl
    · rename_i gd hgd
      have : gd ∈ o.looksAt ops := by
        refine List.mem_append_right _ ?_
        unfold guardT at hgd
        split at hgd
        · rename_i o' ho; simp [hg, ho, hgd]
        · exact absurd hgd (by simp)
      rw [h gd this]
theorem absV_set {tm : List AV} {o : Oper} {dst : Option Nat} {v : AV} (h : ∀ d, dst = some d → d ∉ o.looksAt ops) : absV cx M ops o (setO tm dst v) = absV cx M ops o tm := by
  cases dst with
  | none => rfl
  | some d => exact absV_congr fun t ht => setT_ne (fun e => h d rfl (by rw [← e]; exact ht)) v
theorem setO_comm {tm : List AV} {d1 d2 : Option Nat} (h : ∀ d, d1 = some d → d2 ≠ some d) (u v : AV) : setO (setO tm d1 u) d2 v = setO (setO tm d2 v) d1 u := by
  cases d1 with
  | none => rfl
  | some a =>
    cases d2 with
    | none => rfl
    | some b => exact List.set_comm _ _ fun e => h a rfl (by rw [e])
/-- Whatever order is picked. -/
def anyA (cx : Ctx) (M : Mm) (ops : Array Oper) (res : List AV) : Nat → Array Bool → List AV → Prop
  | 0, listed, tm => Region.ready .any ops listed = [] ∧ tm = res
  | n + 1, listed, tm => (Region.ready .any ops listed = [] → tm = res) ∧ ∀ i ∈ Region.ready .any ops listed, ∀ o, ops[i]? = some o → ∃ v, absV cx M ops o tm = some v ∧ anyA cx M ops res n (listed.setIfInBounds i true) (setO tm o.dst v)
theorem anyA_first {res : List AV} {i : Nat} {oi : Oper} (hi : ops[i]? = some oi) {v : AV} : ∀ (fuel : Nat) (listed : Array Bool) (tm : List AV),
    (∀ j oj, ops[j]? = some oj → j ≠ i → listed.getD j true = false → (∀ e ∈ oj.after, Region.binds .any e = true → e.on ≠ i) → oi.apart ops oj = true) →
    i ∈ Region.ready .any ops listed → absV cx M ops oi tm = some v → anyA cx M ops res fuel (listed.setIfInBounds i true) (setO tm oi.dst v) → anyA cx M ops res (fuel + 1) listed tm := by
  intro fuel
  induction fuel with
  | zero =>
    intro listed tm _ hr hy H
    refine ⟨fun h => (by rw [h] at hr; cases hr), fun j hj oj hoj => ?_⟩
    by_cases hji : j = i
    · subst hji
      rw [hi] at hoj
      obtain rfl := Option.some.inj hoj
      exact ⟨v, hy, H⟩
    · have := ready_mono hj hji
      rw [H.1] at this
      cases this
  | succ fuel ih =>
    intro listed tm hfree hr hy H
    refine ⟨fun h => (by rw [h] at hr; cases hr), fun j hj oj hoj => ?_⟩
    by_cases hji : j = i
    · subst hji
      rw [hi] at hoj
      obtain rfl := Option.some.inj hoj
      exact ⟨v, hy, H⟩
    · obtain ⟨u, h1, h2⟩ := H.2 j (ready_mono hj hji) oj hoj
      obtain ⟨hjun, oj', hoj', hall⟩ := mem_ready.1 hj
      rw [hoj] at hoj'
      obtain rfl := Option.some.inj hoj'
      have hnot : ∀ e ∈ oj.after, Region.binds .any e = true → e.on ≠ i := fun e he hb heq => by
        have h1 := hall e he hb
        have h0 := (mem_ready.1 hr).1
        rw [heq] at h1
        rcases Nat.lt_or_ge i listed.size with h' | h'
        · simp [h'] at h0 h1; rw [h0] at h1; cases h1
        · simp [Array.getElem?_eq_none h'] at h1
      obtain ⟨a1, a2, a3⟩ := Oper.apart_spec (hfree j oj hoj hji hjun hnot)
      rw [absV_set a1] at h1
      have hfree' : ∀ k ok, ops[k]? = some ok → k ≠ i → (listed.setIfInBounds j true).getD k true = false →
          (∀ e ∈ ok.after, Region.binds .any e = true → e.on ≠ i) → oi.apart ops ok = true := fun k ok hk hki hun hno => by
        refine hfree k ok hk hki ?_ hno
        by_cases hjk : j = k
        · subst hjk; exact hjun
        · rw [Go.getD_set_ne true hjk] at hun; exact hun
      refine ⟨u, h1, ih (listed.setIfInBounds j true) (setO tm oj.dst u) hfree' (ready_mono hr (Ne.symm hji)) (by rw [absV_set a3]; exact hy) ?_⟩
      rw [Array.setIfInBounds_comm _ _ hji, ← setO_comm a2]
      exact h2
theorem anyA_lex {res : List AV} : ∀ (l : List Oper) (k : Nat) (listed : Array Bool) (tm : List AV), (∀ j, l[j]? = ops[k + j]?) → Region.lexFrom .any ops l.length k listed = true → (opsT cx M ops l tm .leaf).at = some res → anyA cx M ops res l.length listed tm
  | [], _, _, tm, _, hB, h => ⟨by simpa [Region.lexFrom] using hB, by simpa [opsT, T.at] using h⟩
  | o :: l, k, listed, tm, hl, hB, h => by
    have h0 : ops[k]? = some o := by simpa using (hl 0).symm
    simp only [List.length_cons, Region.lexFrom, Bool.and_eq_true] at hB
    obtain ⟨⟨hr, hf⟩, hB'⟩ := hB
    obtain ⟨v, h1, h2⟩ := opsT_cons cx M ops o l tm _ res h
    exact anyA_first h0 l.length listed tm (Region.free_spec h0 hf) (by simpa using hr) h1
      (anyA_lex l (k + 1) _ _ (fun j => by have := hl (j + 1); simpa [Nat.add_assoc, Nat.add_comm 1 j] using this) hB' h2)
/-! the last operation acts -/
def Closed (ops : Array Oper) (listed : Array Bool) : Prop := ∀ k o, ops[k]? = some o → listed.getD k false = true → ∀ e ∈ o.after, Region.binds .any e = true → listed.getD e.on false = true
theorem getD_false_of {listed : Array Bool} {k : Nat} (h : k < listed.size) {b : Bool} : listed.getD k true = b ↔ listed.getD k false = b := by
  simp [Array.getD, h]
theorem closed_step {listed : Array Bool} {i : Nat} (hs : listed.size = ops.size) (hc : Closed ops listed) (hi : i ∈ Region.ready .any ops listed) : Closed ops (listed.setIfInBounds i true) := by
  intro k o hk hl e he hb
  by_cases hki : k = i
  · subst hki
    obtain ⟨_, o', ho', hall⟩ := mem_ready.1 hi
    rw [hk] at ho'
    obtain rfl := Option.some.inj ho'
    exact getD_set_true (hall e he hb)
  · rw [Go.getD_set_ne false (Ne.symm hki)] at hl
    exact getD_set_true (hc k o hk hl e he hb)
theorem blocks_spec (h : blocks ops = true) {j : Nat} (hj : j < ops.size - 1) : ∃ k o, j < k ∧ ops[k]? = some o ∧ ∃ e ∈ o.after, Region.binds .any e = true ∧ e.on = j := by
  simp only [blocks, List.all_eq_true, List.mem_range, List.any_eq_true, Bool.and_eq_true] at h
  obtain ⟨k, _, h1, h2⟩ := h j hj
  split at h2
  · rename_i o ho
    simp only [List.any_eq_true, Bool.and_eq_true] at h2
    obtain ⟨e, he, hb, hon⟩ := h2
    exact ⟨k, o, Nat.blt_eq.mp h1, ho, e, by simpa using he, hb, Nat.eq_of_beq_eq_true hon⟩
  · exact absurd h2 (by simp)
theorem last_ready {listed : Array Bool} {n : Nat} (hn : ops.size = n + 1) (hs : listed.size = ops.size) (hc : Closed ops listed) (hb : blocks ops = true) (hr : n ∈ Region.ready .any ops listed) : ∀ m j, j < n → n - j ≤ m → listed.getD j true = true
  | 0, j, hj, hm => by omega
  | m + 1, j, hj, hm => by
    obtain ⟨k, o, hk, ho, e, he, hbi, hon⟩ := blocks_spec hb (j := j) (by omega)
    have hkl : k < ops.size := (Array.getElem?_eq_some_iff.1 ho).1
    rw [getD_false_of (by omega)]
    by_cases hkn : k = n
    · subst hkn
      obtain ⟨_, o', ho', hall⟩ := mem_ready.1 hr
      rw [ho] at ho'
      obtain rfl := Option.some.inj ho'
      rw [← hon]; exact hall e he hbi
    · have h1 := last_ready hn hs hc hb hr m k (by omega) (by omega)
      rw [getD_false_of (by omega)] at h1
      rw [← hon]; exact hc k o ho h1 e he hbi
/-- Whatever order is picked, the last one comes last. -/
def anyL (cx : Ctx) (M : Mm) (ops : Array Oper) (res : List AV) (n : Nat) : Nat → Array Bool → List AV → Prop
  | 0, listed, tm => tm = res ∧ n ∈ Region.ready .any ops listed ∧ ∀ j, j < n → listed.getD j true = true
  | f + 1, listed, tm => Region.ready .any ops listed ≠ [] ∧ n ∉ Region.ready .any ops listed ∧ ∀ i ∈ Region.ready .any ops listed, ∀ o, ops[i]? = some o → ∃ v, absV cx M ops o tm = some v ∧ anyL cx M ops res n f (listed.setIfInBounds i true) (setO tm o.dst v)
theorem anyL_first {res : List AV} {n i : Nat} {oi : Oper} (hn : ops.size = n + 1) (hbl : blocks ops = true) (hin : i ≠ n) (hi : ops[i]? = some oi) {v : AV} : ∀ (fuel : Nat) (listed : Array Bool) (tm : List AV), listed.size = ops.size → Closed ops listed →
    (∀ j oj, ops[j]? = some oj → j ≠ i → listed.getD j true = false → (∀ e ∈ oj.after, Region.binds .any e = true → e.on ≠ i) → oi.apart ops oj = true) →
    i ∈ Region.ready .any ops listed → absV cx M ops oi tm = some v → anyL cx M ops res n fuel (listed.setIfInBounds i true) (setO tm oi.dst v) → anyL cx M ops res n (fuel + 1) listed tm := by
  intro fuel
  induction fuel with
  | zero =>
    intro listed tm hs hc _ hr hy H
    have hlt : i < ops.size := (Array.getElem?_eq_some_iff.1 hi).1
    refine ⟨fun h => (by rw [h] at hr; cases hr), fun hnr => ?_, fun j hj oj hoj => ?_⟩
    · have := last_ready hn hs hc hbl hnr (n - i) i (by omega) (Nat.le_refl _)
      rw [(mem_ready.1 hr).1] at this
      cases this
    · by_cases hji : j = i
      · subst hji
        rw [hi] at hoj
        obtain rfl := Option.some.inj hoj
        exact ⟨v, hy, H⟩
      · exfalso
        have hjn : j ≠ n := fun e => by
          subst e
          have := last_ready hn hs hc hbl hj (j - i) i (by omega) (Nat.le_refl _)
          rw [(mem_ready.1 hr).1] at this
          cases this
        have hjl : j < ops.size := (Array.getElem?_eq_some_iff.1 hoj).1
        have h1 := H.2.2 j (by omega)
        rw [Go.getD_set_ne true (Ne.symm hji), (mem_ready.1 hj).1] at h1
        cases h1
  | succ fuel ih =>
    intro listed tm hs hc hfree hr hy H
    have hlt : i < ops.size := (Array.getElem?_eq_some_iff.1 hi).1
    have hnn : n ∉ Region.ready .any ops listed := fun hnr => by
      have := last_ready hn hs hc hbl hnr (n - i) i (by omega) (Nat.le_refl _)
      rw [(mem_ready.1 hr).1] at this
      cases this
    refine ⟨fun h => (by rw [h] at hr; cases hr), hnn, fun j hj oj hoj => ?_⟩
    by_cases hji : j = i
    · subst hji
      rw [hi] at hoj
      obtain rfl := Option.some.inj hoj
      exact ⟨v, hy, H⟩
    · obtain ⟨u, h1, h2⟩ := H.2.2 j (ready_mono hj hji) oj hoj
      obtain ⟨hjun, oj', hoj', hall⟩ := mem_ready.1 hj
      rw [hoj] at hoj'
      obtain rfl := Option.some.inj hoj'
      have hnot : ∀ e ∈ oj.after, Region.binds .any e = true → e.on ≠ i := fun e he hb heq => by
        have h1 := hall e he hb
        have h0 := (mem_ready.1 hr).1
        rw [heq] at h1
        rcases Nat.lt_or_ge i listed.size with h' | h'
        · simp [h'] at h0 h1; rw [h0] at h1; cases h1
        · simp [Array.getElem?_eq_none h'] at h1
      obtain ⟨a1, a2, a3⟩ := Oper.apart_spec (hfree j oj hoj hji hjun hnot)
      rw [absV_set a1] at h1
      have hfree' : ∀ k ok, ops[k]? = some ok → k ≠ i → (listed.setIfInBounds j true).getD k true = false →
          (∀ e ∈ ok.after, Region.binds .any e = true → e.on ≠ i) → oi.apart ops ok = true := fun k ok hk hki hun hno => by
        refine hfree k ok hk hki ?_ hno
        by_cases hjk : j = k
        · subst hjk; exact hjun
        · rw [Go.getD_set_ne true hjk] at hun; exact hun
      refine ⟨u, h1, ih (listed.setIfInBounds j true) (setO tm oj.dst u) (by simpa using hs) (closed_step hs hc hj) hfree' (ready_mono hr (Ne.symm hji)) (by rw [absV_set a3]; exact hy) ?_⟩
      rw [Array.setIfInBounds_comm _ _ hji, ← setO_comm a2]
      exact h2
theorem anyL_lex {res : List AV} {n : Nat} (hn : ops.size = n + 1) (hbl : blocks ops = true) : ∀ (l : List Oper) (k : Nat) (listed : Array Bool) (tm : List AV), k + l.length = n → (∀ j, j < l.length → l[j]? = ops[k + j]?) → listed.size = ops.size → Closed ops listed → (∀ j, j < k → listed.getD j true = true) →
    Region.lexFrom .any ops (l.length + 1) k listed = true → (opsT cx M ops l tm .leaf).at = some res → anyL cx M ops res n l.length listed tm
  | [], k, listed, tm, hk, _, _, _, hlist, hB, h => by
    simp only [List.length_nil, Nat.add_zero] at hk
    subst hk
    simp only [List.length_nil, Nat.zero_add, Region.lexFrom, Bool.and_eq_true] at hB
    exact ⟨by simpa [opsT, T.at] using h, by simpa using hB.1.1, hlist⟩
  | o :: l, k, listed, tm, hk, hl, hs, hc, hlist, hB, h => by
    have h0 : ops[k]? = some o := by simpa using (hl 0 (by simp)).symm
    simp only [List.length_cons, Region.lexFrom, Bool.and_eq_true] at hB
    obtain ⟨⟨hr, hf⟩, hB'⟩ := hB
    obtain ⟨v, h1, h2⟩ := opsT_cons cx M ops o l tm _ res h
    have hr' : k ∈ Region.ready .any ops listed := by simpa using hr
    refine anyL_first hn hbl (by simp only [List.length_cons] at hk; omega) h0 l.length listed tm hs hc (Region.free_spec h0 hf) hr' h1
      (anyL_lex hn hbl l (k + 1) _ _ (by simp only [List.length_cons] at hk; omega) (fun j hj => by have := hl (j + 1) (by simp; omega); simpa [Nat.add_assoc, Nat.add_comm 1 j] using this) (by simpa using hs) (closed_step hs hc hr') (fun j hj => ?_) (by simpa [Region.lexFrom] using hB') h2)
    by_cases hjk : j = k
    · subst hjk
      have : j < listed.size := by rw [hs]; exact (Array.getElem?_eq_some_iff.1 h0).1
      simp [Array.getD, this]
    · rw [Go.getD_set_ne true (Ne.symm hjk)]; exact hlist j (by omega)
end
section
variable {R : Type} {cx : Ctx} {N d : Nat} {S : Nat → Nat → Prop} {w0 : World} {g : G} {fr : Fr} {M : Mm} {a : Act} {w : World}
variable {Q : Exit → Act → World → Prop} {ops : Array Oper}
theorem dst_mem {i : Nat} {o : Oper} (h : ops[i]? = some o) {t : Nat} (ht : o.dst = some t) : t ∈ dstsOf ops.toList := guardT_mem (j := i) (by simp [guardT, h, ht])
theorem wpAny_of_anyA (hG : cx.Good) {tf : List (Nat × TF)} {ds : List Nat} (hc : Clean ds tf) (hds : ∀ t ∈ dstsOf ops.toList, t ∈ ds) {res : List AV} : ∀ (fuel : Nat) (listed : Array Bool) (tm : List AV) (a : Act) (w : World),
    Rel (Env.mk (Ctx.P cx) N S w0) d g ⟨tm, tf⟩ M a w → anyA cx M ops res fuel listed tm → (∀ a' w', Rel (Env.mk (Ctx.P cx) N S w0) d g ⟨res, tf⟩ M a' w' → Below w.heap.size w w' → a'.defers = a.defers → Q .normal a' w') → wpAny cx.P .any ops Q fuel listed a w
  | 0, listed, tm, a, w, hr, h, hQ => ⟨h.1, hQ a w (h.2 ▸ hr) (Below.refl _ _) rfl⟩
  | fuel + 1, listed, tm, a, w, hr, h, hQ => by
    refine ⟨fun h0 => hQ a w (h.1 h0 ▸ hr) (Below.refl _ _) rfl, fun i hi => ?_⟩
    obtain ⟨_, o, ho, _⟩ := mem_ready.1 hi
    obtain ⟨v, h1, h2⟩ := h.2 i hi o ho
    unfold wpOp
    simp only [ho]
    refine absV_sound hG hr h1 fun c w' hb hv => ?_
    have hset := (hr.grown hb).set o.dst hv
    rw [setO_set hc fun t e => hds t (dst_mem ho e)] at hset
    exact wpAny_of_anyA hG hc hds fuel _ _ _ w' hset h2 fun a' w'' hr' hb' hd' => hQ a' w'' hr' (hb.trans (hb'.mono hb.size)) (hd'.trans (put_defers _ _ _))
theorem wp_draw (hG : cx.Good) {tf : List (Nat × TF)} {ds : List Nat} (hc : Clean ds tf) (hds : ∀ t ∈ dstsOf ops.toList, t ∈ ds) {res tm : List AV} {id : Nat} (hm : cx.P.follows .mixedOrders = true) (hB : Region.lexB .any ops = true)
    (h : (opsT cx M ops ops.toList tm .leaf).at = some res) (hr : Rel (Env.mk (Ctx.P cx) N S w0) d g ⟨tm, tf⟩ M a w) (hQ : ∀ a' w', Rel (Env.mk (Ctx.P cx) N S w0) d g ⟨res, tf⟩ M a' w' → Below w.heap.size w w' → a'.defers = a.defers → Q .normal a' w') :
    (Code.region id ops true).wp cx.P Q a w := by
  simp only [Region.lexB, Bool.and_eq_true] at hB
  refine wp_region_any hm ?_
  have hb : Below w.heap.size w w.drew := (Below.refl _ _).drew
  have h1 := anyA_lex (cx := cx) (M := M) (ops := ops) ops.toList 0 (Array.replicate ops.size false) tm (by simp) (by simpa using hB.2) h
  have := wpAny_of_anyA (Q := Q) hG hc hds _ _ _ a w.drew (hr.grown hb) h1 fun a' w' hr' hb' hd' => hQ a' w' hr' (hb.trans hb') hd'
  simpa using this
theorem wpAny_of_anyL (hG : cx.Good) {tf : List (Nat × TF)} {ds : List Nat} (hc : Clean ds tf) (hds : ∀ t ∈ dstsOf ops.toList, t ∈ ds) {res : List AV} {n : Nat} {last : Oper} (hn : ops.size = n + 1) (hlast : ops[n]? = some last) (hg : last.guard = none) : ∀ (fuel : Nat) (listed : Array Bool) (tm : List AV) (a : Act) (w : World), listed.size = ops.size →
    Rel (Env.mk (Ctx.P cx) N S w0) d g ⟨tm, tf⟩ M a w → anyL cx M ops res n fuel listed tm → (∀ a' w', Rel (Env.mk (Ctx.P cx) N S w0) d g ⟨res, tf⟩ M a' w' → Below w.heap.size w w' → a'.defers = a.defers → last.wp cx.P a' w' (fun a w => Q .normal a w) Q) → wpAny cx.P .any ops Q (fuel + 1) listed a w
  | 0, listed, tm, a, w, hs, hr, h, hQ => by
    obtain ⟨rfl, hrn, hall⟩ := h
    refine ⟨fun h0 => (by rw [h0] at hrn; cases hrn), fun i hi => ?_⟩
    obtain ⟨hun, o, ho, _⟩ := mem_ready.1 hi
    have hil : i < ops.size := (Array.getElem?_eq_some_iff.1 ho).1
    have hin : i = n := by
      rcases Nat.lt_or_ge i n with h1 | h1
      · rw [hall i h1] at hun; cases hun
      · omega
    subst hin
    rw [hlast] at ho
    obtain rfl := Option.some.inj ho
    unfold wpOp
    simp only [hlast]
    rw [if_pos (by simp [Region.wanted, hg])]
    have hempty : Region.ready .any ops (listed.setIfInBounds i true) = [] := by
      apply List.eq_nil_iff_forall_not_mem.2
      intro j hj
      obtain ⟨hjun, oj, hoj, _⟩ := mem_ready.1 hj
      have hjl : j < ops.size := (Array.getElem?_eq_some_iff.1 hoj).1
      by_cases hji : j = i
      · subst hji
        have : j < listed.size := by omega
        simp [Array.getD, this] at hjun
      · rw [Go.getD_set_ne true (Ne.symm hji), hall j (by omega)] at hjun
        cases hjun
    exact .inl (Oper.wp_mono (fun a' w' h1 => ⟨hempty, h1⟩) (hQ a w hr (Below.refl _ _) rfl))
  | fuel + 1, listed, tm, a, w, hs, hr, h, hQ => by
    obtain ⟨hne, hnn, h⟩ := h
    refine ⟨fun h0 => absurd h0 hne, fun i hi => ?_⟩
    obtain ⟨_, o, ho, _⟩ := mem_ready.1 hi
    obtain ⟨v, h1, h2⟩ := h i hi o ho
    unfold wpOp
    simp only [ho]
    refine absV_sound hG hr h1 fun c w' hb hv => ?_
    have hset := (hr.grown hb).set o.dst hv
    rw [setO_set hc fun t e => hds t (dst_mem ho e)] at hset
    exact wpAny_of_anyL hG hc hds hn hlast hg fuel _ _ _ w' (by simpa using hs) hset h2 fun a' w'' hr' hb' hd' => hQ a' w'' hr' (hb.trans (hb'.mono hb.size)) (hd'.trans (put_defers _ _ _))
theorem wp_drawL (hG : cx.Good) {tf : List (Nat × TF)} {ds : List Nat} (hc : Clean ds tf) (hds : ∀ t ∈ dstsOf ops.toList, t ∈ ds) {res tm : List AV} {id : Nat} {last : Oper} (hm : cx.P.follows .mixedOrders = true) (hB : Region.lexB .any ops = true) (hbl : blocks ops = true) (hlast : lastO ops = some last) (hg : last.guard = none)
    (h : (opsT cx M ops (ops.toList.take (ops.size - 1)) tm .leaf).at = some res) (hr : Rel (Env.mk (Ctx.P cx) N S w0) d g ⟨tm, tf⟩ M a w) (hQ : ∀ a' w', Rel (Env.mk (Ctx.P cx) N S w0) d g ⟨res, tf⟩ M a' w' → Below w.heap.size w w' → a'.defers = a.defers → last.wp cx.P a' w' (fun a w => Q .normal a w) Q) :
    (Code.region id ops true).wp cx.P Q a w := by
  simp only [Region.lexB, Bool.and_eq_true] at hB
  refine wp_region_any hm ?_
  have hb : Below w.heap.size w w.drew := (Below.refl _ _).drew
  have hlt : ops.size - 1 < ops.size := (Array.getElem?_eq_some_iff.1 hlast).1
  have hn : ops.size = (ops.size - 1) + 1 := by omega
  have hlen : (ops.toList.take (ops.size - 1)).length = ops.size - 1 := by simp
  have h1 := anyL_lex (cx := cx) (M := M) (ops := ops) hn hbl (ops.toList.take (ops.size - 1)) 0 (Array.replicate ops.size false) tm (by rw [hlen]; omega) (fun j hj => by
      rw [hlen] at hj
      rw [List.getElem?_take_of_lt hj]; simp) (by simp) (fun k o hk hl => by
      have hkl : k < ops.size := (Array.getElem?_eq_some_iff.1 hk).1
      simp [Array.getD, hkl] at hl) (fun j hj => by omega) (by rw [hlen, ← hn]; exact hB.2) h
  rw [hlen] at h1
  have := wpAny_of_anyL (Q := Q) hG hc hds hn hlast hg _ _ _ a w.drew (by simp) (hr.grown hb) h1 fun a' w' hr' hb' hd' => hQ a' w' hr' (hb.trans hb') hd'
  rw [← hn] at this
  simpa using this
end
end Go.AE

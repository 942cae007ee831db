/- The abstract evaluator: what it says of the model, part 3. -/
import Derived.Test.YtcknhfnbdgleiaaGreatEvB
set_option linter.unusedVariables false
set_option linter.unusedSimpArgs false
namespace Go.AE
open Go.RowKit Go.Lib
section
variable {cx : Ctx} {M : Mm} {ops : Array Oper}
theorem sK {P : Program} {tm tm' : List AV} : ∀ (ts : List TypeId) (xs : List Operand), (∀ x ∈ xs, ∀ t, aC P tm t x = aC P tm' t x) -> bH P tm ts xs = bH P tm' ts xs
 | ts, [], _ => by simp [bH]
 | [], x :: xs, h => by simp only [bH, h x (by simp) 0, sK [] xs fun y hy => h y (by simp [hy])]
 | t :: ts, x :: xs, h => by simp only [bH, h x (by simp) t, sK ts xs fun y hy => h y (by simp [hy])]
theorem Gl {P : Program} {tm tm' : List AV} (t : TypeId) : ∀ (ps : List (Nat × Operand)), (∀ x ∈ ps.map (·.2), ∀ t, aC P tm t x = aC P tm' t x) -> uD P tm t ps = uD P tm' t ps
 | [], _ => rfl
 | p :: ps, h => by
  have ih := Gl t ps fun x hx => h x (by simp only [List.map_cons, List.mem_cons]; exact .inr hx)
  unfold uD at ih ⊢
  simp only [List.map_cons, h p.2 (by simp) (kX P t p.1), ih]
theorem Hg {P : Program} {tm tm' : List AV} (x : Option Operand) (h : ∀ y, x = some y -> ∀ t, aC P tm t y = aC P tm' t y) : nG P tm x = nG P tm' x := by
 cases x with
 | none => rfl
 | some y => exact congrArg some (h y rfl 0)
theorem aaV {tm tm' : List AV} (c : Call) (h : ∀ x ∈ c.args.toList, ∀ t, aC cx.P tm t x = aC cx.P tm' t x) : sH cx tm c = sH cx tm' c := by
 unfold sH
 simp only [sK c.argTypes.toList c.args.toList h]
theorem abU {tm tm' : List AV} (b : Builtin) (c : Call) (h : ∀ x ∈ c.args.toList, ∀ t, aC cx.P tm t x = aC cx.P tm' t x) : qI cx M tm b c = qI cx M tm' b c := by
 unfold qI
 split
 . rename_i x t hx ht
   rw [h x (by rw [hx]; simp) t]
 . rename_i x r t ts hx ht
   rw [h x (by rw [hx]; simp) t, sK ts r fun y hy => h y (by rw [hx]; simp [hy])]
 . rename_i x r t ts hx ht
   rw [h x (by rw [hx]; simp) t, sK ts r fun y hy => h y (by rw [hx]; simp [hy])]
 . rfl
theorem PI {tm tm' : List AV} (o : Oper) (h : ∀ x ∈ o.op.operands, ∀ t, aC cx.P tm t x = aC cx.P tm' t x) : bP cx M tm o = bP cx M tm' o := by
 obtain ⟨dst, op, type, pos, after, guard⟩ := o
 cases op <;> simp only [Op.operands] at h <;> simp only [bP]
 case move x => rw [h x (by simp)]
 case assign x => rw [h x (by simp)]
 case pick c a b => rw [h c (by simp), h a (by simp), h b (by simp)]
 case build t ps => rw [Gl t ps.toList fun x hx => h x (by simpa using hx)]
 case buildSlice t n ps => rw [Gl t ps.toList fun x hx => h x (by simpa using hx)]
 case load t x => rw [h x (by simp)]
 case nilCheck x => rw [h x (by simp)]
 case binOp op t x y ty => rw [h x (by simp), h y (by simp)]
 case unOp op t x => rw [h x (by simp)]
 case convert s d x => rw [h x (by simp)]
 case makeInterface t x => rw [h x (by simp)]
 case makeFunc fn first captured => rw [sK [] first.toList fun x hx => h x (by simp at hx ⊢; exact .inl hx), sK [] captured.toList fun x hx => h x (by simp at hx ⊢; exact .inr hx)]
 case slice t x lo hi mx =>
  rw [h x (by simp), Hg lo fun y e => h y (by simp [e]), Hg hi fun y e => h y (by simp [e]), Hg mx fun y e => h y (by simp [e])]
 case fieldAddr t x k => rw [h x (by simp)]
 case field t x k => rw [h x (by simp)]
 case indexAddr t x i => rw [h x (by simp), h i (by simp)]
 case index t x i => rw [h x (by simp), h i (by simp)]
 case typeAssert x xt t ok => rw [h x (by simp)]
 case extract x i => rw [h x (by simp)]
 case call c =>
  have hargs : ∀ x ∈ c.args.toList, ∀ t, aC cx.P tm t x = aC cx.P tm' t x := fun x hx => h x (by
   unfold Call.operands
   cases c.callee <;> simp_all)
  rw [aaV c hargs]
  cases c.callee with
  | builtin b => exact abU b c hargs
  | _ => rfl
theorem abw {tm tm' : List AV} {o : Oper} (h : ∀ t ∈ o.looksAt ops, tm.getD t .dead = tm'.getD t .dead) : je cx M ops o tm = je cx M ops o tm' := by
 have hp : bP cx M tm o = bP cx M tm' o := PI o fun x hx t => by
  cases x with
  | tmp i => exact h i (List.mem_append_left _ (List.mem_filterMap.2 ⟨.tmp i, by simpa using hx, rfl⟩))
  | const v => rfl
  | global g => rfl
  | func f => rfl
 unfold je
 rw [hp]
 split
 . rfl
 . rename_i j want hg
   split
   . rfl
   . rename_i gd hgd
     have : gd ∈ o.looksAt ops := by
      refine List.mem_append_right _ ?_
      unfold jr at hgd
      split at hgd
      . rename_i o' ho; simp [hg, ho, hgd]
      . exact absurd hgd (by simp)
     rw [h gd this]
theorem zZ {tm : List AV} {o : Oper} {dst : Option Nat} {v : AV} (h : ∀ d, dst = some d -> d ∉ o.looksAt ops) : je cx M ops o (aT tm dst v) = je cx M ops o tm := by
 cases dst with
 | none => rfl
 | some d => exact abw fun t ht => ql (fun e => h d rfl (by rw [<- e]; exact ht)) v
theorem QB {tm : List AV} {d1 d2 : Option Nat} (h : ∀ d, d1 = some d -> d2 ≠ some d) (u v : AV) : aT (aT tm d1 u) d2 v = aT (aT tm d2 v) d1 u := by
 cases d1 with
 | none => rfl
 | some a =>
  cases d2 with
  | none => rfl
  | some b => exact List.set_comm _ _ fun e => h a rfl (by rw [e])
def yR (cx : Ctx) (M : Mm) (ops : Array Oper) (res : List AV) : Nat -> Array Bool -> List AV -> Prop
 | 0, listed, tm => Region.ready .any ops listed = [] /\ tm = res
 | n + 1, listed, tm => (Region.ready .any ops listed = [] -> tm = res) /\ ∀ i ∈ Region.ready .any ops listed, ∀ o, ops[i]? = some o -> ∃ v, je cx M ops o tm = some v /\ yR cx M ops res n (listed.setIfInBounds i true) (aT tm o.dst v)
theorem adw {res : List AV} {i : Nat} {oi : Oper} (hi : ops[i]? = some oi) {v : AV} : ∀ (fuel : Nat) (listed : Array Bool) (tm : List AV),
    (∀ j oj, ops[j]? = some oj -> j ≠ i -> listed.getD j true = false -> (∀ e ∈ oj.after, Region.binds .any e = true -> e.on ≠ i) -> oi.apart ops oj = true) ->
    i ∈ Region.ready .any ops listed -> je cx M ops oi tm = some v -> yR cx M ops res fuel (listed.setIfInBounds i true) (aT tm oi.dst v) -> yR cx M ops res (fuel + 1) listed tm := by
 intro fuel
 induction fuel with
 | zero =>
  intro listed tm _ hr hy H
  refine ⟨fun h => (by rw [h] at hr; cases hr), fun j hj oj hoj => ?_⟩
  by_cases hji : j = i
  . subst hji
    rw [hi] at hoj
    obtain rfl := Option.some.inj hoj
    exact ⟨v, hy, H⟩
  . have := ready_mono hj hji
    rw [H.1] at this
    cases this
 | succ fuel ih =>
  intro listed tm hfree hr hy H
  refine ⟨fun h => (by rw [h] at hr; cases hr), fun j hj oj hoj => ?_⟩
  by_cases hji : j = i
  . subst hji
    rw [hi] at hoj
    obtain rfl := Option.some.inj hoj
    exact ⟨v, hy, H⟩
  . obtain ⟨u, h1, h2⟩ := H.2 j (ready_mono hj hji) oj hoj
    obtain ⟨hjun, oj', hoj', hall⟩ := mem_ready.1 hj
    rw [hoj] at hoj'
    obtain rfl := Option.some.inj hoj'
    have hnot : ∀ e ∈ oj.after, Region.binds .any e = true -> e.on ≠ i := fun e he hb heq => by
     have h1 := hall e he hb
     have h0 := (mem_ready.1 hr).1
     rw [heq] at h1
     rcases Nat.lt_or_ge i listed.size with h' | h'
     . simp [h'] at h0 h1; rw [h0] at h1; cases h1
     . simp [Array.getElem?_eq_none h'] at h1
    obtain ⟨a1, a2, a3⟩ := Oper.apart_spec (hfree j oj hoj hji hjun hnot)
    rw [zZ a1] at h1
    have hfree' : ∀ k ok, ops[k]? = some ok -> k ≠ i -> (listed.setIfInBounds j true).getD k true = false ->
        (∀ e ∈ ok.after, Region.binds .any e = true -> e.on ≠ i) -> oi.apart ops ok = true := fun k ok hk hki hun hno => by
     refine hfree k ok hk hki ?_ hno
     by_cases hjk : j = k
     . subst hjk; exact hjun
     . rw [Go.getD_set_ne true hjk] at hun; exact hun
    refine ⟨u, h1, ih (listed.setIfInBounds j true) (aT tm oj.dst u) hfree' (ready_mono hr (Ne.symm hji)) (by rw [zZ a3]; exact hy) ?_⟩
    rw [Array.setIfInBounds_comm _ _ hji, <- QB a2]
    exact h2
theorem Nv {res : List AV} : ∀ (l : List Oper) (k : Nat) (listed : Array Bool) (tm : List AV), (∀ j, l[j]? = ops[k + j]?) -> Region.lexFrom .any ops l.length k listed = true -> (eU cx M ops l tm .leaf).at = some res -> yR cx M ops res l.length listed tm
 | [], _, _, tm, _, hB, h => ⟨by simpa [Region.lexFrom] using hB, by simpa [eU, T.at] using h⟩
 | o :: l, k, listed, tm, hl, hB, h => by
  have h0 : ops[k]? = some o := by simpa using (hl 0).symm
  simp only [List.length_cons, Region.lexFrom, Bool.and_eq_true] at hB
  obtain ⟨⟨hr, hf⟩, hB'⟩ := hB
  obtain ⟨v, h1, h2⟩ := EW cx M ops o l tm _ res h
  exact adw h0 l.length listed tm (Region.free_spec h0 hf) (by simpa using hr) h1
   (Nv l (k + 1) _ _ (fun j => by have := hl (j + 1); simpa [Nat.add_assoc, Nat.add_comm 1 j] using this) hB' h2)
def Closed (ops : Array Oper) (listed : Array Bool) : Prop := ∀ k o, ops[k]? = some o -> listed.getD k false = true -> ∀ e ∈ o.after, Region.binds .any e = true -> listed.getD e.on false = true
theorem KN {listed : Array Bool} {k : Nat} (h : k < listed.size) {b : Bool} : listed.getD k true = b ↔ listed.getD k false = b := by
 simp [Array.getD, h]
theorem Eo {listed : Array Bool} {i : Nat} (hs : listed.size = ops.size) (hc : Closed ops listed) (hi : i ∈ Region.ready .any ops listed) : Closed ops (listed.setIfInBounds i true) := by
 intro k o hk hl e he hb
 by_cases hki : k = i
 . subst hki
   obtain ⟨_, o', ho', hall⟩ := mem_ready.1 hi
   rw [hk] at ho'
   obtain rfl := Option.some.inj ho'
   exact getD_set_true (hall e he hb)
 . rw [Go.getD_set_ne false (Ne.symm hki)] at hl
   exact getD_set_true (hc k o hk hl e he hb)
theorem Xl (h : blocks ops = true) {j : Nat} (hj : j < ops.size - 1) : ∃ k o, j < k /\ ops[k]? = some o /\ ∃ e ∈ o.after, Region.binds .any e = true /\ e.on = j := by
 simp only [blocks, List.all_eq_true, List.mem_range, List.any_eq_true, Bool.and_eq_true] at h
 obtain ⟨k, _, h1, h2⟩ := h j hj
 split at h2
 . rename_i o ho
   simp only [List.any_eq_true, Bool.and_eq_true] at h2
   obtain ⟨e, he, hb, hon⟩ := h2
   exact ⟨k, o, Nat.blt_eq.mp h1, ho, e, by simpa using he, hb, Nat.eq_of_beq_eq_true hon⟩
 . exact absurd h2 (by simp)
theorem BX {listed : Array Bool} {n : Nat} (hn : ops.size = n + 1) (hs : listed.size = ops.size) (hc : Closed ops listed) (hb : blocks ops = true) (hr : n ∈ Region.ready .any ops listed) : ∀ m j, j < n -> n - j <= m -> listed.getD j true = true
 | 0, j, hj, hm => by omega
 | m + 1, j, hj, hm => by
  obtain ⟨k, o, hk, ho, e, he, hbi, hon⟩ := Xl hb (j := j) (by omega)
  have hkl : k < ops.size := (Array.getElem?_eq_some_iff.1 ho).1
  rw [KN (by omega)]
  by_cases hkn : k = n
  . subst hkn
    obtain ⟨_, o', ho', hall⟩ := mem_ready.1 hr
    rw [ho] at ho'
    obtain rfl := Option.some.inj ho'
    rw [<- hon]; exact hall e he hbi
  . have h1 := BX hn hs hc hb hr m k (by omega) (by omega)
    rw [KN (by omega)] at h1
    rw [<- hon]; exact hc k o ho h1 e he hbi
def yF (cx : Ctx) (M : Mm) (ops : Array Oper) (res : List AV) (n : Nat) : Nat -> Array Bool -> List AV -> Prop
 | 0, listed, tm => tm = res /\ n ∈ Region.ready .any ops listed /\ ∀ j, j < n -> listed.getD j true = true
 | f + 1, listed, tm => Region.ready .any ops listed ≠ [] /\ n ∉ Region.ready .any ops listed /\ ∀ i ∈ Region.ready .any ops listed, ∀ o, ops[i]? = some o -> ∃ v, je cx M ops o tm = some v /\ yF cx M ops res n f (listed.setIfInBounds i true) (aT tm o.dst v)
theorem adg {res : List AV} {n i : Nat} {oi : Oper} (hn : ops.size = n + 1) (hbl : blocks ops = true) (hin : i ≠ n) (hi : ops[i]? = some oi) {v : AV} : ∀ (fuel : Nat) (listed : Array Bool) (tm : List AV), listed.size = ops.size -> Closed ops listed ->
    (∀ j oj, ops[j]? = some oj -> j ≠ i -> listed.getD j true = false -> (∀ e ∈ oj.after, Region.binds .any e = true -> e.on ≠ i) -> oi.apart ops oj = true) ->
    i ∈ Region.ready .any ops listed -> je cx M ops oi tm = some v -> yF cx M ops res n fuel (listed.setIfInBounds i true) (aT tm oi.dst v) -> yF cx M ops res n (fuel + 1) listed tm := by
 intro fuel
 induction fuel with
 | zero =>
  intro listed tm hs hc _ hr hy H
  have hlt : i < ops.size := (Array.getElem?_eq_some_iff.1 hi).1
  refine ⟨fun h => (by rw [h] at hr; cases hr), fun hnr => ?_, fun j hj oj hoj => ?_⟩
  . have := BX hn hs hc hbl hnr (n - i) i (by omega) (Nat.le_refl _)
    rw [(mem_ready.1 hr).1] at this
    cases this
  . by_cases hji : j = i
    . subst hji
      rw [hi] at hoj
      obtain rfl := Option.some.inj hoj
      exact ⟨v, hy, H⟩
    . exfalso
      have hjn : j ≠ n := fun e => by
       subst e
       have := BX hn hs hc hbl hj (j - i) i (by omega) (Nat.le_refl _)
       rw [(mem_ready.1 hr).1] at this
       cases this
      have hjl : j < ops.size := (Array.getElem?_eq_some_iff.1 hoj).1
      have h1 := H.2.2 j (by omega)
      rw [Go.getD_set_ne true (Ne.symm hji), (mem_ready.1 hj).1] at h1
      cases h1
 | succ fuel ih =>
  intro listed tm hs hc hfree hr hy H
  have hlt : i < ops.size := (Array.getElem?_eq_some_iff.1 hi).1
  have hnn : n ∉ Region.ready .any ops listed := fun hnr => by
   have := BX hn hs hc hbl hnr (n - i) i (by omega) (Nat.le_refl _)
   rw [(mem_ready.1 hr).1] at this
   cases this
  refine ⟨fun h => (by rw [h] at hr; cases hr), hnn, fun j hj oj hoj => ?_⟩
  by_cases hji : j = i
  . subst hji
    rw [hi] at hoj
    obtain rfl := Option.some.inj hoj
    exact ⟨v, hy, H⟩
  . obtain ⟨u, h1, h2⟩ := H.2.2 j (ready_mono hj hji) oj hoj
    obtain ⟨hjun, oj', hoj', hall⟩ := mem_ready.1 hj
    rw [hoj] at hoj'
    obtain rfl := Option.some.inj hoj'
    have hnot : ∀ e ∈ oj.after, Region.binds .any e = true -> e.on ≠ i := fun e he hb heq => by
     have h1 := hall e he hb
     have h0 := (mem_ready.1 hr).1
     rw [heq] at h1
     rcases Nat.lt_or_ge i listed.size with h' | h'
     . simp [h'] at h0 h1; rw [h0] at h1; cases h1
     . simp [Array.getElem?_eq_none h'] at h1
    obtain ⟨a1, a2, a3⟩ := Oper.apart_spec (hfree j oj hoj hji hjun hnot)
    rw [zZ a1] at h1
    have hfree' : ∀ k ok, ops[k]? = some ok -> k ≠ i -> (listed.setIfInBounds j true).getD k true = false ->
        (∀ e ∈ ok.after, Region.binds .any e = true -> e.on ≠ i) -> oi.apart ops ok = true := fun k ok hk hki hun hno => by
     refine hfree k ok hk hki ?_ hno
     by_cases hjk : j = k
     . subst hjk; exact hjun
     . rw [Go.getD_set_ne true hjk] at hun; exact hun
    refine ⟨u, h1, ih (listed.setIfInBounds j true) (aT tm oj.dst u) (by simpa using hs) (Eo hs hc hj) hfree' (ready_mono hr (Ne.symm hji)) (by rw [zZ a3]; exact hy) ?_⟩
    rw [Array.setIfInBounds_comm _ _ hji, <- QB a2]
    exact h2
theorem JA {res : List AV} {n : Nat} (hn : ops.size = n + 1) (hbl : blocks ops = true) : ∀ (l : List Oper) (k : Nat) (listed : Array Bool) (tm : List AV), k + l.length = n -> (∀ j, j < l.length -> l[j]? = ops[k + j]?) -> listed.size = ops.size -> Closed ops listed -> (∀ j, j < k -> listed.getD j true = true) ->
    Region.lexFrom .any ops (l.length + 1) k listed = true -> (eU cx M ops l tm .leaf).at = some res -> yF cx M ops res n l.length listed tm
 | [], k, listed, tm, hk, _, _, _, hlist, hB, h => by
  simp only [List.length_nil, Nat.add_zero] at hk
  subst hk
  simp only [List.length_nil, Nat.zero_add, Region.lexFrom, Bool.and_eq_true] at hB
  exact ⟨by simpa [eU, T.at] using h, by simpa using hB.1.1, hlist⟩
 | o :: l, k, listed, tm, hk, hl, hs, hc, hlist, hB, h => by
  have h0 : ops[k]? = some o := by simpa using (hl 0 (by simp)).symm
  simp only [List.length_cons, Region.lexFrom, Bool.and_eq_true] at hB
  obtain ⟨⟨hr, hf⟩, hB'⟩ := hB
  obtain ⟨v, h1, h2⟩ := EW cx M ops o l tm _ res h
  have hr' : k ∈ Region.ready .any ops listed := by simpa using hr
  refine adg hn hbl (by simp only [List.length_cons] at hk; omega) h0 l.length listed tm hs hc (Region.free_spec h0 hf) hr' h1
   (JA hn hbl l (k + 1) _ _ (by simp only [List.length_cons] at hk; omega) (fun j hj => by have := hl (j + 1) (by simp; omega); simpa [Nat.add_assoc, Nat.add_comm 1 j] using this) (by simpa using hs) (Eo hs hc hr') (fun j hj => ?_) (by simpa [Region.lexFrom] using hB') h2)
  by_cases hjk : j = k
  . subst hjk
    have : j < listed.size := by rw [hs]; exact (Array.getElem?_eq_some_iff.1 h0).1
    simp [Array.getD, this]
  . rw [Go.getD_set_ne true (Ne.symm hjk)]; exact hlist j (by omega)
end
section
variable {R : Type} {cx : Ctx} {N d : Nat} {S : Nat -> Nat -> Prop} {w0 : World} {g : G} {fr : Fr} {M : Mm} {a : Act} {w : World}
variable {Q : Exit -> Act -> World -> Prop} {ops : Array Oper}
theorem EX {i : Nat} {o : Oper} (h : ops[i]? = some o) {t : Nat} (ht : o.dst = some t) : t ∈ dstsOf ops.toList := KD (j := i) (by simp [jr, h, ht])
theorem Ju {ro : Option Nat} (hG : cx.Good) {tf : List (Nat × TF)} {ds : List Nat} (hc : Clean ds tf) (hds : ∀ t ∈ dstsOf ops.toList, t ∈ ds) {res : List AV} : ∀ (fuel : Nat) (listed : Array Bool) (tm : List AV) (a : Act) (w : World),
    Rel (Env.mk (Ctx.P cx) N S w0) d g ⟨tm, tf⟩ M a w -> yR cx M ops res fuel listed tm -> (∀ a' w', Rel (Env.mk (Ctx.P cx) N S w0) d g ⟨res, tf⟩ M a' w' -> Below w.heap.size w w' -> a'.defers = a.defers -> Q .normal a' w') -> wpAnyIn (W ro) 0 cx.P .any ops Q fuel listed a w
 | 0, listed, tm, a, w, hr, h, hQ => ⟨h.1, hQ a w (h.2 ▸ hr) (Below.refl _ _) rfl⟩
 | fuel + 1, listed, tm, a, w, hr, h, hQ => by
  refine ⟨fun h0 => hQ a w (h.1 h0 ▸ hr) (Below.refl _ _) rfl, fun i hi => ?_⟩
  obtain ⟨_, o, ho, _⟩ := mem_ready.1 hi
  obtain ⟨v, h1, h2⟩ := h.2 i hi o ho
  unfold wpOpIn
  simp only [ho]
  refine Al hG hr h1 fun c w' hb hv => ?_
  have hset := (hr.grown hb).set o.dst hv
  rw [FB hc fun t e => hds t (EX ho e)] at hset
  exact Ju hG hc hds fuel _ _ _ w' hset h2 fun a' w'' hr' hb' hd' => hQ a' w'' hr' (hb.trans (hb'.mono hb.size)) (hd'.trans (put_defers _ _ _))
theorem acH {ro : Option Nat} (hG : cx.Good) {tf : List (Nat × TF)} {ds : List Nat} (hc : Clean ds tf) (hds : ∀ t ∈ dstsOf ops.toList, t ∈ ds) {res tm : List AV} {id : Nat} (hm : cx.P.follows .mixedOrders = true) (hB : Region.lexB .any ops = true)
    (h : (eU cx M ops ops.toList tm .leaf).at = some res) (hr : Rel (Env.mk (Ctx.P cx) N S w0) d g ⟨tm, tf⟩ M a w) (hQ : ∀ a' w', Rel (Env.mk (Ctx.P cx) N S w0) d g ⟨res, tf⟩ M a' w' -> Below w.heap.size w w' -> a'.defers = a.defers -> Q .normal a' w') :
    (Code.region id ops true).wpIn (W ro) 0 cx.P Q a w := by
 simp only [Region.lexB, Bool.and_eq_true] at hB
 refine wpIn_region_any hm ?_
 have hb : Below w.heap.size w w.drew := (Below.refl _ _).drew
 have h1 := Nv (cx := cx) (M := M) (ops := ops) ops.toList 0 (Array.replicate ops.size false) tm (by simp) (by simpa using hB.2) h
 have := Ju (ro := ro) (Q := Q) hG hc hds _ _ _ a w.drew (hr.grown hb) h1 fun a' w' hr' hb' hd' => hQ a' w' hr' (hb.trans hb') hd'
 simpa using this
theorem Ko {ro : Option Nat} (hG : cx.Good) {tf : List (Nat × TF)} {ds : List Nat} (hc : Clean ds tf) (hds : ∀ t ∈ dstsOf ops.toList, t ∈ ds) {res : List AV} {n : Nat} {last : Oper} (hn : ops.size = n + 1) (hlast : ops[n]? = some last) (hg : last.guard = none) : ∀ (fuel : Nat) (listed : Array Bool) (tm : List AV) (a : Act) (w : World), listed.size = ops.size ->
    Rel (Env.mk (Ctx.P cx) N S w0) d g ⟨tm, tf⟩ M a w -> yF cx M ops res n fuel listed tm -> (∀ a' w', Rel (Env.mk (Ctx.P cx) N S w0) d g ⟨res, tf⟩ M a' w' -> Below w.heap.size w w' -> a'.defers = a.defers -> gu ro cx.P last a' w' (fun a w => Q .normal a w) Q) -> wpAnyIn (W ro) 0 cx.P .any ops Q (fuel + 1) listed a w
 | 0, listed, tm, a, w, hs, hr, h, hQ => by
  obtain ⟨rfl, hrn, hall⟩ := h
  refine ⟨fun h0 => (by rw [h0] at hrn; cases hrn), fun i hi => ?_⟩
  obtain ⟨hun, o, ho, _⟩ := mem_ready.1 hi
  have hil : i < ops.size := (Array.getElem?_eq_some_iff.1 ho).1
  have hin : i = n := by
   rcases Nat.lt_or_ge i n with h1 | h1
   . rw [hall i h1] at hun; cases hun
   . omega
  subst hin
  rw [hlast] at ho
  obtain rfl := Option.some.inj ho
  unfold wpOpIn
  simp only [hlast]
  rw [if_pos (by simp [Region.wanted, hg])]
  have hempty : Region.ready .any ops (listed.setIfInBounds i true) = [] := by
   apply List.eq_nil_iff_forall_not_mem.2
   intro j hj
   obtain ⟨hjun, oj, hoj, _⟩ := mem_ready.1 hj
   have hjl : j < ops.size := (Array.getElem?_eq_some_iff.1 hoj).1
   by_cases hji : j = i
   . subst hji
     have : j < listed.size := by omega
     simp [Array.getD, this] at hjun
   . rw [Go.getD_set_ne true (Ne.symm hji), hall j (by omega)] at hjun
     cases hjun
  exact Oper.wpIn_mono (fun a' w' h1 => ⟨hempty, h1⟩) (hQ a w hr (Below.refl _ _) rfl)
 | fuel + 1, listed, tm, a, w, hs, hr, h, hQ => by
  obtain ⟨hne, hnn, h⟩ := h
  refine ⟨fun h0 => absurd h0 hne, fun i hi => ?_⟩
  obtain ⟨_, o, ho, _⟩ := mem_ready.1 hi
  obtain ⟨v, h1, h2⟩ := h i hi o ho
  unfold wpOpIn
  simp only [ho]
  refine Al hG hr h1 fun c w' hb hv => ?_
  have hset := (hr.grown hb).set o.dst hv
  rw [FB hc fun t e => hds t (EX ho e)] at hset
  exact Ko hG hc hds hn hlast hg fuel _ _ _ w' (by simpa using hs) hset h2 fun a' w'' hr' hb' hd' => hQ a' w'' hr' (hb.trans (hb'.mono hb.size)) (hd'.trans (put_defers _ _ _))
theorem Yi {ro : Option Nat} (hG : cx.Good) {tf : List (Nat × TF)} {ds : List Nat} (hc : Clean ds tf) (hds : ∀ t ∈ dstsOf ops.toList, t ∈ ds) {res tm : List AV} {id : Nat} {last : Oper} (hm : cx.P.follows .mixedOrders = true) (hB : Region.lexB .any ops = true) (hbl : blocks ops = true) (hlast : QI ops = some last) (hg : last.guard = none)
    (h : (eU cx M ops (ops.toList.take (ops.size - 1)) tm .leaf).at = some res) (hr : Rel (Env.mk (Ctx.P cx) N S w0) d g ⟨tm, tf⟩ M a w) (hQ : ∀ a' w', Rel (Env.mk (Ctx.P cx) N S w0) d g ⟨res, tf⟩ M a' w' -> Below w.heap.size w w' -> a'.defers = a.defers -> gu ro cx.P last a' w' (fun a w => Q .normal a w) Q) :
    (Code.region id ops true).wpIn (W ro) 0 cx.P Q a w := by
 simp only [Region.lexB, Bool.and_eq_true] at hB
 refine wpIn_region_any hm ?_
 have hb : Below w.heap.size w w.drew := (Below.refl _ _).drew
 have hlt : ops.size - 1 < ops.size := (Array.getElem?_eq_some_iff.1 hlast).1
 have hn : ops.size = (ops.size - 1) + 1 := by omega
 have hlen : (ops.toList.take (ops.size - 1)).length = ops.size - 1 := by simp
 have h1 := JA (cx := cx) (M := M) (ops := ops) hn hbl (ops.toList.take (ops.size - 1)) 0 (Array.replicate ops.size false) tm (by rw [hlen]; omega) (fun j hj => by
     rw [hlen] at hj
     rw [List.getElem?_take_of_lt hj]; simp) (by simp) (fun k o hk hl => by
     have hkl : k < ops.size := (Array.getElem?_eq_some_iff.1 hk).1
     simp [Array.getD, hkl] at hl) (fun j hj => by omega) (by rw [hlen, <- hn]; exact hB.2) h
 rw [hlen] at h1
 have := Ko (ro := ro) (Q := Q) hG hc hds hn hlast hg _ _ _ a w.drew (by simp) (hr.grown hb) h1 fun a' w' hr' hb' hd' => hQ a' w' hr' (hb.trans hb') hd'
 rw [<- hn] at this
 simpa using this
end
end Go.AE
namespace Go.AE
open Go.RowKit Go.Lib
def X.cut (x : X) (N : Nat) : X := { x with rows := x.rows.take N }
def G.cut (g : G) (N : Nat) : G := { g with rows := g.rows.take N }
section
variable {P : Program}
def Alike (x y : X) : Prop := y.st = x.st /\ y.w = x.w /\ y.m = x.m
theorem Alike.at {x y : X} (h : Alike x y) {b o : Nat} {cs : List Value} (k : At x b o cs) : At y b o cs := fun i v hv => by
 obtain ⟨h1, h2, _⟩ := h
 have := k i v hv
 rw [h1, h2]
 exact this
theorem Alike.aH {x y : X} (h : Alike x y) : Alike x.aH y.aH := ⟨h.1, h.2.1, rfl⟩
mutual
theorem Dv {x y : X} (h : Alike x y) (hm : x.m = false) : ∀ (v : AV) (n : Nat) {t : TypeId} {c : List Value}, bJ P n t = true -> fits P t v = true -> rel P x v c -> rel P y v c
 | .dead, n, t, c, _, _, _ => trivial
 | .bool b, n, t, c, _, _, hr => hr
 | .int k i, n, t, c, _, _, hr => hr
 | .str s, n, t, c, _, _, hr => hr
 | .nilp, n, t, c, _, _, hr => hr
 | .nilf, n, t, c, _, _, hr => hr
 | .yld r, n, t, c, hp, hf, hr => by
  cases n with
  | zero => simp [bJ] at hp
  | succ n =>
   simp only [fits, aR, Bool.and_eq_true] at hf
   have hf := hf.1
   split at hf
   . rename_i hu; simp [bJ, hu] at hp
   . exact absurd hf (by simp)
 | .nili, n, t, c, _, _, hr => hr
 | .mapv none, n, t, c, _, _, hr => hr
 | .mapv (some r), n, t, c, hp, hf, hr => by
  cases n with
  | zero => simp [bJ] at hp
  | succ n =>
   simp only [fits, aR, Bool.and_eq_true] at hf
   have hf := hf.1
   split at hf
   . rename_i hu; simp [bJ, hu] at hp
   . exact absurd hf (by simp)
 | .ptr r p t' o, n, t, c, hp, hf, hr => by
  cases n with
  | zero => simp [bJ] at hp
  | succ n =>
   simp only [fits, aR, Bool.and_eq_true] at hf
   have hf := hf.1
   split at hf
   . rename_i hu; simp [bJ, hu] at hp
   . exact absurd hf (by simp)
 | .rptr t' v, n, t, c, hp, hf, hr => by
  cases n with
  | zero => simp [bJ] at hp
  | succ n =>
   simp only [fits, aR, Bool.and_eq_true] at hf
   have hf := hf.1
   split at hf
   . rename_i hu; simp [bJ, hu] at hp
   . exact absurd hf (by simp)
 | .func fn f cp, n, t, c, hp, hf, hr => by
  cases n with
  | zero => simp [bJ] at hp
  | succ n =>
   simp only [fits, aR, Bool.and_eq_true] at hf
   have hf := hf.1
   split at hf
   . rename_i hu; simp [bJ, hu] at hp
   . exact absurd hf (by simp)
 | .iface t' v, n, t, c, hp, hf, hr => by
  cases n with
  | zero => simp [bJ] at hp
  | succ n =>
   simp only [fits, aR, Bool.and_eq_true] at hf
   have hf := hf.1
   split at hf
   . rename_i hu; simp [bJ, hu] at hp
   . exact absurd hf (by simp)
 | .tuple vs, n, t, c, hp, hf, hr => by simp [fits, aR] at hf
 | .msl r p e off coff len, n, t, c, hp, hf, hr => by
  have := hr.1
  rw [hm] at this
  exact absurd this (by simp)
 | .slice e l ex, n, t, c, hp, hf, hr => by
  cases n with
  | zero => simp [bJ] at hp
  | succ n =>
   simp only [fits, aR, Bool.and_eq_true] at hf
   have hf := hf.1
   split at hf
   . rename_i e' hu
     have he := Nat.eq_of_beq_eq_true hf
     subst he
     simp only [bJ, hu] at hp
     obtain ⟨base, len, cap, h1, h2, h3, h4, h5⟩ := hr
     exact ⟨base, len, cap, h1, h2, h3, h4, h5.imp id fun ⟨b, o, h6, h7⟩ => ⟨b, o, h6, EC h.aH rfl l n hp h7⟩⟩
   . exact absurd hf (by simp)
 | .agg u ps, n, t, c, hp, hf, hr => by
  cases n with
  | zero => simp [bJ] at hp
  | succ n =>
   have hlk := (iM hf).1
   have hA := (iM hf).2
   have hu0 := dK hlk
   simp only [bJ, <- hu0] at hp
   unfold rel at hr ⊢
   obtain ⟨k0, k⟩ := hr
   refine ⟨k0, ?_⟩
   split at k
   . rename_i fs hu
     rw [hu] at hp
     exact Qw h hm ps n hp k
   . rename_i m e hu
     rw [hu] at hp
     exact ⟨k.1, IK h hm ps n hp k.2⟩
   . exact k.elim
theorem EC {x y : X} (h : Alike x y) (hm : x.m = false) : ∀ (l : List AV) (n : Nat) {e : TypeId} {b o : Nat}, bJ P n e = true -> dN P x e b o l -> dN P y e b o l
 | [], n, e, b, o, _, _ => trivial
 | v :: vs, n, e, b, o, hp, ⟨⟨c, h1, h2, h3, h4⟩, h5⟩ => ⟨⟨c, Dv h hm v n hp h3 h1, h2, h3, h.at h4⟩, EC h hm vs n hp h5⟩
theorem Qw {x y : X} (h : Alike x y) (hm : x.m = false) : ∀ (ps : List AV) (n : Nat) {fs : List Field} {c : List Value}, ny (bJ P n) fs = true -> dh P x (fs.map (·.type)) ps c -> dh P y (fs.map (·.type)) ps c
 | [], n, [], c, _, k => k
 | [], n, _ :: _, c, _, k => k.elim
 | _ :: _, n, [], c, _, k => k.elim
 | p :: ps, n, f :: fs, c, hf, k => by
  obtain ⟨c1, r, rfl, h1, h2, h3, h4⟩ := k
  simp only [ny, Bool.and_eq_true] at hf
  exact ⟨c1, r, rfl, Dv h hm p n hf.1 h3 h1, h2, h3, Qw h hm ps n hf.2 h4⟩
theorem IK {x y : X} (h : Alike x y) (hm : x.m = false) : ∀ (ps : List AV) (n : Nat) {e : TypeId} {c : List Value}, bJ P n e = true -> aX P x e ps c -> aX P y e ps c
 | [], n, e, c, _, k => k
 | p :: ps, n, e, c, hf, k => by
  obtain ⟨c1, r, rfl, h1, h2, h3, h4⟩ := k
  exact ⟨c1, r, rfl, Dv h hm p n hf h3 h1, h2, h3, IK h hm ps n hf h4⟩
end
theorem D6 (x : X) (N : Nat) : Alike x (x.cut N) := ⟨rfl, rfl, rfl⟩
theorem DF {x : X} {N r : Nat} (h : r < N) {z : Nat × Root} (k : x.rows[r]? = some z) : (x.cut N).rows[r]? = some z := by
 show (x.rows.take N)[r]? = _
 rw [List.getElem?_take_of_lt h]; exact k
theorem nX {x : X} {N : Nat} : ∀ (n : Nat) (v : AV) {c : List Value}, eD P n N v = true -> rel P x v c -> rel P (x.cut N) v c
 | 0, v, c, h, _ => by simp [eD] at h
 | n + 1, v, c, h, hr => by
  cases v with
  | dead => trivial
  | bool b => exact hr
  | int k i => exact hr
  | str s => exact hr
  | nilp => exact hr
  | nilf => exact hr
  | yld r =>
   simp only [eD] at h
   obtain ⟨b, h1, h2⟩ := hr
   exact ⟨b, DF (Nat.blt_eq.mp h) h1, h2⟩
  | nili => exact hr
  | ptr r p t o =>
   simp only [eD] at h
   obtain ⟨b, root, h1, h2, h3⟩ := hr
   exact ⟨b, root, DF (Nat.blt_eq.mp h) h1, h2, h3⟩
  | rptr t v =>
   simp only [eD] at h
   obtain ⟨b, o, c', h1, h2, h3, h4, h5⟩ := hr
   exact ⟨b, o, c', h1, Dv (D6 x N).aH rfl v 20 h h4 h2, h3, h4, (D6 x N).at h5⟩
  | slice e l ex =>
   simp only [eD] at h
   obtain ⟨base, len, cap, h1, h2, h3, h4, h5⟩ := hr
   exact ⟨base, len, cap, h1, h2, h3, h4, h5.imp id fun ⟨b, o, h6, h7⟩ => ⟨b, o, h6, EC (D6 x N).aH rfl l 20 h h7⟩⟩
  | msl r p e off coff len =>
   simp only [eD] at h
   obtain ⟨h0, b, root, n0, o0, h1, h2⟩ := hr
   exact ⟨h0, b, root, n0, o0, DF (Nat.blt_eq.mp h) h1, h2⟩
  | mapv r =>
   cases r with
   | none => exact hr
   | some r =>
    simp only [eD] at h
    obtain ⟨b, k, e, h1, h2⟩ := hr
    exact ⟨b, k, e, DF (Nat.blt_eq.mp h) h1, h2⟩
  | func fn f cp =>
   obtain ⟨a, b, h1, h2, h3⟩ := hr
   simp only [eD, Bool.and_eq_true] at h
   exact ⟨a, b, h1, qA (fun p hp c hc => nX n p (jW h.1 p hp) hc) h2, qA (fun p hp c hc => nX n p (jW h.2 p hp) hc) h3⟩
  | iface t v =>
   obtain ⟨c, h1, h2, h3, h4⟩ := hr
   simp only [eD] at h
   exact ⟨c, nX n v h h1, h2, h3, h4⟩
  | tuple vs =>
   obtain ⟨a, h1, h2⟩ := hr
   simp only [eD] at h
   exact ⟨a, h1, qA (fun p hp c hc => nX n p (jW h p hp) hc) h2⟩
  | agg t ps =>
   simp only [eD] at h
   split at h
   . rename_i fs hu
     obtain ⟨k1, k2⟩ := lC hr hu
     exact kV hu k1 (Gx (fun p hp c hc => nX n p (jW h p hp) hc) k2)
   . rename_i m e hu
     obtain ⟨k1, k2, k3⟩ := mR hr hu
     exact kR hu k1 k2 (mX ps 20 h k3)
   . exact absurd h (by simp)
theorem wL {x : X} {N n : Nat} {v : AV} {c : Value} (h : eD P n N v = true) (hr : aK P x v c) : aK P (x.cut N) v c := by
 obtain ⟨cs, h1, h2, h3⟩ := hr
 exact ⟨cs, h1, nX n v h h2, h3⟩
theorem G5 {x y : X} {e : TypeId} : ∀ {ps : List AV} {c : List Value}, (∀ p ∈ ps, ∀ c, rel P x p c -> rel P y p c) -> aX P x e ps c -> aX P y e ps c
 | [], c, _, h => h
 | p :: ps, c, hk, h => by
  obtain ⟨c1, r, rfl, h1, h2, h3, h4⟩ := h
  exact ⟨c1, r, rfl, hk p (by simp) _ h1, h2, h3, G5 (fun q hq => hk q (by simp [hq])) h4⟩
theorem LG {x : X} {N : Nat} {k e : TypeId} : ∀ {es : List (AV × AV)} {ces : List MapEntry}, Da P N es = true -> kP P x k e es ces -> kP P (x.cut N) k e es ces
 | [], [], _, h => h
 | [], _ :: _, _, h => h.elim
 | _ :: _, [], _, h => h.elim
 | (a, v) :: es, c :: cs, hb, ⟨⟨h1, h2, h3, h4, h5⟩, h6⟩ => by
  simp only [Da, Bool.and_eq_true] at hb
  exact ⟨⟨wL hb.1.1 h1, h2, h3, wL hb.1.2 h4, h5⟩, LG hb.2 h6⟩
theorem Y6 {x : X} {N b : Nat} {root : Root} {row : Row} (h : xD P N row = true) (hr : gH P x b root row) : gH P (x.cut N) b root row := by
 cases row with
 | map k e es =>
  obtain ⟨h1, ces, clock, h2, h3⟩ := hr
  exact ⟨h1, ces, clock, h2, LG h h3⟩
 | loop f i tm st pd =>
  obtain ⟨h1, rc, h2, h3⟩ := hr
  refine ⟨h1, rc, h2, h3.hrf, h3.hst, h3.hpd, h3.size, fun i => ?_⟩
  have h3 := h3.tmps i
  rcases Nat.lt_or_ge i tm.length with hi | hi
  . refine wL (jW h _ ?_) h3
    simp only [List.getD, List.getElem?_eq_getElem hi, Option.getD_some]
    exact List.getElem_mem hi
  . have : tm.getD i .dead = .dead := by simp [List.getD, List.getElem?_eq_none hi]
    rw [this]
    exact ku _
 | var t v =>
  obtain ⟨cs, ty, h1, h2, h3, h4, h5⟩ := hr
  exact ⟨cs, ty, h1, h2, h3, nX 8 v h h4, h5⟩
 | arr e l =>
  obtain ⟨cs, ty, h1, h2, c, r, h3, h4⟩ := hr
  refine ⟨cs, ty, h1, h2, c, r, h3, ?_⟩
  simp only [xD] at h
  split at h
  . rename_i hf; exact mX l 20 hf h4
  . exact G5 (fun p hp c hc => nX 8 p (jW h p hp) hc) h4
 | bg e l =>
  obtain ⟨cs, ty, h1, h2, c, r, h3, h4⟩ := hr
  refine ⟨cs, ty, h1, h2, c, r, h3, ?_⟩
  simp only [xD] at h
  split at h
  . rename_i hf; exact mX l 20 hf h4
  . exact G5 (fun p hp c hc => nX 8 p (jW h p hp) hc) h4
theorem O7 {N : Nat} : ∀ {l : List Row} {i : Nat}, vG P N l = true -> i < l.length -> xD P N (l.getD i (.arr 0 [])) = true
 | [], i, _, h => absurd h (by simp)
 | r :: rs, 0, h, _ => by simp only [vG, Bool.and_eq_true] at h; exact h.1
 | r :: rs, i + 1, h, hi => by
  simp only [vG, Bool.and_eq_true] at h
  rw [List.getD_cons_succ]
  exact O7 h.2 (by simpa using hi)
end
section
variable {E : Env} {d : Nat} {g : G} {fr : Fr} {M : Mm} {a : Act} {w : World}
theorem Lu (N : Nat) : aI E (g.cut N) w = (aI E g w).cut N := rfl
theorem JU {N r : Nat} {p : List Nat} : (r, p) ∈ (M.cut N).ro ↔ (r, p) ∈ M.ro /\ r < N := by
 simp only [Mm.cut, List.mem_filter]
 exact ⟨fun h => ⟨h.1, Nat.blt_eq.mp h.2⟩, fun h => ⟨h.1, Nat.blt_eq.mpr h.2⟩⟩
theorem Gi {N t : Nat} {f : TF} (h : (t, f) ∈ (fr.cut N).tf) : (t, f) ∈ fr.tf /\ ∀ r p, f = .viaR r p -> r < N := by
 simp only [Fr.cut, List.mem_filter] at h
 refine ⟨h.1, fun r p e => ?_⟩
 subst e
 exact Nat.blt_eq.mp h.2
theorem Lg {N : Nat} {o : Onr} {e : TypeId} {v : Value} (h : bK E g w o e v) : bK E (g.cut N) w o e v := h
theorem Rel.cut (h : Rel E d g fr M a w) {N : Nat} (ht : fV (eD E.P 8 N) fr.tmps = true) (hm : vG E.P N (M.rows.take N) = true) : Rel E d (g.cut N) (fr.cut N) (M.cut N) a w := by
 have hget : ∀ {r : Nat} {z : Nat × Root}, (g.cut N).rows[r]? = some z -> g.rows[r]? = some z /\ r < N := fun {r z} hz => by
  have hz : (g.rows.take N)[r]? = some z := hz
  rw [List.getElem?_take] at hz
  split at hz
  . rename_i hl; exact ⟨hz, hl⟩
  . exact absurd hz (by simp)
 have hput : ∀ {r : Nat} {z : Nat × Root}, g.rows[r]? = some z -> r < N -> (g.cut N).rows[r]? = some z := fun {r z} hz hl => by
  show (g.rows.take N)[r]? = _
  rw [List.getElem?_take_of_lt hl]; exact hz
 refine ⟨h.below, h.hN, h.fresh, h.size, fun i => ?_, ?_, fun r b root hr => ?_, fun r r' b root root' h1 h2 => h.inj r r' b root root' (hget h1).1 (hget h2).1, fun t ht' => ?_, fun t s ht' => ?_, fun t r p ht' => ?_, fun r p hr => ?_⟩
 . rw [Lu]
   by_cases hi : i < fr.tmps.length
   . have hm' : fr.tmps.getD i .dead ∈ fr.tmps := by simp only [List.getD, List.getElem?_eq_getElem hi, Option.getD_some]; exact List.getElem_mem hi
     exact wL (jW ht _ hm') (h.tmps i)
   . have : (fr.cut N).tmps.getD i .dead = .dead := by
       show fr.tmps.getD i .dead = _
       rw [List.getD, List.getElem?_eq_none (by omega)]; rfl
     rw [this]
     exact ku _
 . show (g.rows.take N).length = (M.rows.take N).length
   rw [List.length_take, List.length_take, h.lenr]
 . obtain ⟨h1, h2⟩ := hget hr
   obtain ⟨k1, k2, k3, k4⟩ := h.rows r b root h1
   have hlt : r < M.rows.length := by rw [<- h.lenr]; exact (List.getElem?_eq_some_iff.1 h1).1
   have hgd : (M.cut N).rows.getD r (.arr 0 []) = M.rows.getD r (.arr 0 []) := by
    show (M.rows.take N).getD r (.arr 0 []) = _
    simp only [List.getD, List.getElem?_take_of_lt h2]
   rw [Lu, hgd]
   refine ⟨k1, k2, k3, Y6 ?_ k4⟩
   have := O7 hm (i := r) (by rw [List.length_take]; omega)
   simpa only [List.getD, List.getElem?_take_of_lt h2] using this
 . obtain ⟨e, l, ex, k1, k2⟩ := h.own t (Gi ht').1
   exact ⟨e, l, ex, k1, Lg k2⟩
 . obtain ⟨m1, m2⟩ := h.viaT t s (Gi ht').1
   refine ⟨?_, m2⟩
   simp only [Fr.cut, List.mem_filter]
   exact ⟨m1, trivial⟩
 . obtain ⟨n1, n2⟩ := Gi ht'
   obtain ⟨m1, e, l, ex, m2, b, root, ty, off, m3, m4, m5, m6⟩ := h.viaR t r p n1
   exact ⟨JU.2 ⟨m1, n2 r p rfl⟩, e, l, ex, m2, b, root, ty, off, hput m3 (n2 r p rfl), m4, m5, m6⟩
 . obtain ⟨n1, n2⟩ := JU.1 hr
   obtain ⟨b, root, ty, off, e, v, m1, m2, m3, m4, m5⟩ := h.ro r p n1
   exact ⟨b, root, ty, off, e, v, hput m1 n2, m2, m3, m4, Lg m5⟩
theorem Ext.cut {g0 : G} {w0 : World} {N : Nat} (h : Ext E d g0 w0 g w) (hN : g0.rows.length <= N) : Ext E d g0 w0 (g.cut N) w :=
 ⟨fun r z hz => by
  have hl : r < N := Nat.lt_of_lt_of_le (List.getElem?_eq_some_iff.1 hz).1 hN
  show (g.rows.take N)[r]? = _
  rw [List.getElem?_take_of_lt hl]
  exact h.rows r z hz, h.st, h.cell, h.grow, h.size, h.df⟩
end
end Go.AE
namespace Go.AE
open Go.RowKit Go.Lib
theorem Ah : ∀ (p q : List Nat) (v new : AV), apart q p = true -> dY q (iQ p new v) = dY q v
 | [], q, v, new, h => by cases q <;> simp [apart] at h
 | i :: p, [], v, new, h => by simp [apart] at h
 | i :: p, j :: q, v, new, h => by
  simp only [apart] at h
  show dY q (((au v).set i (iQ p new ((au v).getD i .dead))).getD j .dead) = dY q ((au v).getD j .dead)
  by_cases e : j = i
  . subst e
    simp only [Nat.beq_refl, if_true] at h
    by_cases hl : j < (au v).length
    . rw [gP hl]
      exact Ah p q _ new h
    . rw [List.set_eq_of_length_le (by omega)]
  . rw [getD_set_ne (fun e' => e e'.symm)]
theorem get_put (row : Row) (p q : List Nat) (v : AV) (h : apart q p = true) : (row.put p v).get q = row.get q := by
 cases row with
 | var t u => exact Ah p q u v h
 | arr e l =>
  cases p with
  | nil => cases q <;> simp [apart] at h
  | cons i p =>
   cases q with
   | nil => rfl
   | cons j q =>
    simp only [apart] at h
    show dY q ((l.set i (iQ p v (l.getD i .dead))).getD j .dead) = dY q (l.getD j .dead)
    by_cases e : j = i
    . subst e
      simp only [Nat.beq_refl, if_true] at h
      by_cases hl : j < l.length
      . rw [gP hl]
        exact Ah p q _ v h
      . rw [List.set_eq_of_length_le (by omega)]
    . rw [getD_set_ne (fun e' => e e'.symm)]
 | bg e l =>
  cases p with
  | nil => cases q <;> simp [apart] at h
  | cons i p =>
   cases q with
   | nil => rfl
   | cons j q =>
    simp only [apart] at h
    show dY q ((l.set i (iQ p v (l.getD i .dead))).getD j .dead) = dY q (l.getD j .dead)
    by_cases e : j = i
    . subst e
      simp only [Nat.beq_refl, if_true] at h
      by_cases hl : j < l.length
      . rw [gP hl]
        exact Ah p q _ v h
      . rw [List.set_eq_of_length_le (by omega)]
    . rw [getD_set_ne (fun e' => e e'.symm)]
 | map k e es => rfl
 | loop f i tm st pd => rfl
section
variable {R : Type} {cx : Ctx} {fn : FuncId} {ops : Array Oper} {dep : Nat}
def gN (d : Option Nat) (tf : List (Nat × TF)) : List (Nat × TF) := match d with | some t => aV t tf | none => tf
theorem jk (tm : List AV) (tf : List (Nat × TF)) (d : Option Nat) (v : AV) : (Fr.mk tm tf).set d v = ⟨aT tm d v, gN d tf⟩ := by cases d <;> rfl
abbrev lH := Option (AV × List (Nat × TF) × Mm)
def eu (tm : List AV) (d : Option Nat) (x : lH) (next : Fr -> Mm -> Option R) : Option R :=
 match x with
 | some (v, tf, M) => next ⟨aT tm d v, tf⟩ M
 | none => none
theorem Zw {tm : List AV} {d : Option Nat} {x : lH} {next : Fr -> Mm -> Option R} {r : R} (h : eu tm d x next = some r) : ∃ v tf M, x = some (v, tf, M) /\ next ⟨aT tm d v, tf⟩ M = some r := by
 unfold eu at h
 split at h
 . rename_i v tf M; exact ⟨v, tf, M, rfl, h⟩
 . exact absurd h (by simp)
theorem O9 {tm : List AV} {d : Option Nat} {b : Bool} {x : lH} {next : Fr -> Mm -> Option R} : eu tm d (cond b x none) next = cond b (eu tm d x next) none := by cases b <;> rfl
def y5 (P : Program) (t : TypeId) (a x : Operand) (d : Option Nat) (tm : List AV) (tf : List (Nat × TF)) (M : Mm) : lH :=
 match aC P tm 0 a with
 | .ptr r p t' _ =>
  if bM P t' t && fits P t (aC P tm t x) && (M.rows.getD r (.arr 0 [])).wr then
   match aC P tm t x with
   | .slice e l true => some (bY, gN d (fC r p tf), { rows := M.rows.set r ((M.rows.getD r (.arr 0 [])).put p (.slice e l false)), ro := (r, p) :: iG r p M.ro })
   | .slice e l false =>
    match x with
    | .tmp s =>
     match gM s (fC r p tf) with
     | some .own => some (bY, gN d ((s, .viaR r p) :: fC r p (aV s tf)), { rows := M.rows.set r ((M.rows.getD r (.arr 0 [])).put p (.slice e l false)), ro := (r, p) :: iG r p M.ro })
     | some (.viaT u) => some (bY, gN d ((s, .viaR r p) :: fC r p (aV s (aV u tf))), { rows := M.rows.set r ((M.rows.getD r (.arr 0 [])).put p (.slice e l false)), ro := (r, p) :: iG r p M.ro })
     | _ => some (bY, gN d (fC r p tf), { rows := M.rows.set r ((M.rows.getD r (.arr 0 [])).put p (.slice e l false)), ro := iG r p M.ro })
    | _ => some (bY, gN d (fC r p tf), { rows := M.rows.set r ((M.rows.getD r (.arr 0 [])).put p (.slice e l false)), ro := iG r p M.ro })
   | v => some (bY, gN d (fC r p tf), { rows := M.rows.set r ((M.rows.getD r (.arr 0 [])).put p v), ro := iG r p M.ro })
  else none
 | _ => none
def pG (P : Program) (t : TypeId) (z : AV) (d : Option Nat) (tf : List (Nat × TF)) (M : Mm) : lH :=
 if fits P t z && (aQ P t || Nat.beq (P.cellsOf t) 1) then some (.ptr M.rows.length [] t 0, gN d tf, { M with rows := M.rows ++ [.var t z] }) else none
def wO (cx : Ctx) (c : Call) (d : Option Nat) (tm : List AV) (tf : List (Nat × TF)) (M : Mm) : lH :=
 match c.args.toList, c.argTypes.toList, d with
 | [x, y], [t, u], some d =>
  match cx.P.underlying t, aC cx.P tm t x with
  | some (.slice elem), .slice e l ex =>
   if Nat.beq e elem && qZ cx.P elem u && Nat.blt d tm.length then
    match appended cx.P M elem (aC cx.P tm u y) with
    | none => none
    | some l2 =>
     cond (decide ((l.length + l2.length) * cx.P.bytesOf elem <= 140737488355328))
      (match rO x ex ⟨tm, tf⟩ M with
       | none => none
       | some (tf, ro) => some (.slice elem (l ++ l2) false, (d, .own) :: aV d tf, { M with ro := ro })) none
   else none
  | _, _ => none
 | _, _, _ => none
def wH (cx : Ctx) (t : TypeId) (l c : Operand) (d : Option Nat) (tm : List AV) (tf : List (Nat × TF)) (M : Mm) : lH :=
 match cx.P.underlying t, aC cx.P tm 0 c, d with
 | some (.slice e), .int k n, some d =>
  if fits cx.P e (zero cx.P e) && (aQ cx.P e || Nat.beq (cx.P.cellsOf e) 1) && Nat.blt d tm.length then
   cond (decide (0 <= n) && decide (n * cx.P.bytesOf e <= 140737488355328) && decide (n <= 140737488355328))
    (if wK l c then if cx.pln t then some (.slice e (List.replicate n.toNat (zero cx.P e)) false, (d, .own) :: aV d tf, M) else some (.msl M.rows.length [] e 0 0 n.toNat, aV d tf, { M with rows := M.rows ++ [.arr e (List.replicate n.toNat (zero cx.P e))] })
    else if y7 l then some (.slice e [] false, (d, .own) :: aV d tf, M)
    else none)
    none
  else none
 | _, _, _ => none
def moveA (P : Program) (t : TypeId) (s d : Nat) (tm : List AV) (tf : List (Nat × TF)) (M : Mm) : lH :=
 match tm.getD s .dead with
 | .slice e l ex =>
  match oC s d tf with
  | some fl => if Nat.blt d tm.length then some (.slice e l ex, (d, fl) :: aV d tf, M) else some (.slice e l ex, aV d tf, M)
  | none => some (.slice e l ex, aV d tf, M)
 | v => some (v, aV d tf, M)
def tF (P : Program) (t : TypeId) (s d : Nat) (tm : List AV) (tf : List (Nat × TF)) (M : Mm) : lH :=
 match tm.getD s .dead with
 | .slice e l true => if Nat.blt d tm.length then some (.slice e l false, (d, .own) :: aV d tf, M) else some (.slice e l false, aV d tf, M)
 | .slice e l false =>
  if Nat.ble tm.length d then some (.slice e l false, aV d tf, M) else
  match gM s tf with
  | some .own => some (.slice e l false, (s, .viaT d) :: (d, .own) :: aV d (aV s tf), M)
  | some (.viaT u) => if Nat.beq u d || Nat.beq s u then some (.slice e l false, aV d tf, M) else some (.slice e l false, (s, .viaT d) :: (u, .viaT d) :: (d, .own) :: aV d (aV u (aV s tf)), M)
  | some (.viaR r p) => some (.slice e l false, (d, .viaR r p) :: aV d tf, M)
  | none => some (.slice e l false, aV d tf, M)
 | v => some (v, aV d tf, M)
def sV (cx : Ctx) (dep : Nat) (c : Call) (f : Operand) (d : Option Nat) (tm : List AV) (tf : List (Nat × TF)) (M : Mm) : lH :=
 match target cx.P (aC cx.P tm 0 f) (bH cx.P tm c.argTypes.toList c.args.toList) with
 | some (.fn g, args) =>
  match cx.news dep g args M with
  | some (v, rs) => if Bq M.rows.length v rs then some (v, gN d (fD tf), { M with rows := M.rows ++ rs }) else none
  | none => none
 | _ => none
def gK (cx : Ctx) (dep : Nat) (o : Oper) (tm : List AV) (tf : List (Nat × TF)) (M : Mm) : lH :=
 match o.op with
 | .store t a x => y5 cx.P t a x o.dst tm tf M
 | .alloc t => pG cx.P t (zero cx.P t) o.dst tf M
 | .box t x => pG cx.P t (aC cx.P tm t x) o.dst tf M
 | .makeSlice t l c => wH cx t l c o.dst tm tf M
 | .call c => match c.callee with
  | .value f => sV cx dep c f o.dst tm tf M
  | _ => wO cx c o.dst tm tf M
 | .move x => match x, o.dst with
  | .tmp s, some d => moveA cx.P o.type s d tm tf M
  | _, _ => none
 | .assign x => match x, o.dst with
  | .tmp s, some d => tF cx.P o.type s d tm tf M
  | _, _ => none
 | _ => none
theorem Sq {P : Program} {o : Oper} {t : TypeId} {s d : Nat} (hsd : Nat.beq s d = false) {tm : List AV} {tf : List (Nat × TF)} {M : Mm} {next : Fr -> Mm -> Option R} :
    next ((⟨tm, tf⟩ : Fr).move P (some d) t (.tmp s)) M = eu tm (some d) (moveA P t s d tm tf M) next := by
 have e : (⟨tm, tf⟩ : Fr).move P (some d) t (.tmp s) = match tm.getD s .dead with
  | .slice e l ex => (⟨tm, tf⟩ : Fr).gG (some d) (.slice e l ex) (oC s d tf)
  | v => (⟨tm, tf⟩ : Fr).set (some d) v := by
  unfold Fr.move
  have ho : aC P tm t (.tmp s) = tm.getD s .dead := rfl
  simp only [ho]
  cases tm.getD s .dead <;> first | rfl | (simp only [hsd]; rfl)
 rw [e]
 unfold moveA
 cases hv : tm.getD s .dead with
 | slice e l ex =>
  dsimp only
  cases hf : oC s d tf with
  | none => rfl
  | some fl =>
   simp only [Fr.gG]
   split
   . rename_i h; try simp only [h, if_true]
     rfl
   . rename_i h; try simp only [h, if_false]
     rfl
 | _ => rfl
theorem Z4 {P : Program} {o : Oper} {t : TypeId} {s d : Nat} (hsd : Nat.beq s d = false) {tm : List AV} {tf : List (Nat × TF)} {M : Mm} {next : Fr -> Mm -> Option R} :
    next ((⟨tm, tf⟩ : Fr).assign P (some d) t (.tmp s)) M = eu tm (some d) (tF P t s d tm tf M) next := by
 have e : (⟨tm, tf⟩ : Fr).assign P (some d) t (.tmp s) = match tm.getD s .dead with
  | .slice e l true => (⟨tm, tf⟩ : Fr).gG (some d) (.slice e l false) (some .own)
  | .slice e l false =>
   if Nat.ble tm.length d then (⟨tm, tf⟩ : Fr).set (some d) (.slice e l false) else
   match gM s tf with
   | some .own => { tmps := tm.set d (.slice e l false), tf := (s, .viaT d) :: (d, .own) :: aV d (aV s tf) }
   | some (.viaT u) => if Nat.beq u d || Nat.beq s u then (⟨tm, tf⟩ : Fr).set (some d) (.slice e l false) else { tmps := tm.set d (.slice e l false), tf := (s, .viaT d) :: (u, .viaT d) :: (d, .own) :: aV d (aV u (aV s tf)) }
   | some (.viaR r p) => { tmps := tm.set d (.slice e l false), tf := (d, .viaR r p) :: aV d tf }
   | none => (⟨tm, tf⟩ : Fr).set (some d) (.slice e l false)
  | v => (⟨tm, tf⟩ : Fr).set (some d) v := by
  unfold Fr.assign
  have ho : aC P tm t (.tmp s) = tm.getD s .dead := rfl
  simp only [ho]
  cases tm.getD s .dead with
  | slice e l ex => cases ex <;> first | rfl | (simp only [hsd]; rfl)
  | _ => rfl
 rw [e]
 unfold tF
 cases hv : tm.getD s .dead with
 | slice e l ex =>
  cases ex with
  | true =>
   dsimp only
   simp only [Fr.gG]
   split
   . rename_i h; try simp only [h, if_true]
     rfl
   . rename_i h; try simp only [h, if_false]
     rfl
  | false =>
   dsimp only
   split
   . rfl
   . cases hf : gM s tf with
     | none => rfl
     | some f =>
      cases f with
      | own => rfl
      | viaT u =>
       dsimp only
       split <;> rfl
      | viaR r p => rfl
 | _ => rfl
def xS (cx : Ctx) (fn : FuncId) (dep : Nat) (o : Oper) (fr : Fr) (M : Mm) (next : Fr -> Mm -> Option R) : Option R :=
 match qx cx o with
 | some (c, f) => y9 cx dep o c f fr M next
 | none => dA cx fn (fun _ _ _ _ => none) o fr M next (fun _ _ _ => none)
theorem RJ {o : Oper} (hact : aY cx fn ops o = true) (hg : mJ cx o = none) (hn : qx cx o = none) {call : iV R} {tm : List AV} {tf : List (Nat × TF)} {M : Mm} {next : Fr -> Mm -> Option R} {pan : AV -> Fr -> Mm -> Option R} :
    dA cx fn call o ⟨tm, tf⟩ M next pan = eu tm o.dst (gK cx dep o tm tf M) next := by
 unfold aY at hact
 split at hact
 . rename_i t a x ho
   simp only [dA, ho, gK, Bu, y5]
   generalize aC cx.P tm 0 a = A
   generalize aC cx.P tm t x = v
   cases A with
   | ptr r p t' off =>
    simp only
    cases hc : (bM cx.P t' t && fits cx.P t v && (M.rows.getD r (.arr 0 [])).wr) with
    | false => simp only [Bool.false_eq_true, if_false, eu]
    | true =>
     simp only [if_true]
     cases v with
     | slice e l ex =>
      cases ex with
      | true => simp only [jk, eu]
      | false =>
       cases x with
       | tmp s =>
        simp only
        cases hf : gM s (fC r p tf) with
        | none => simp only [jk, eu]
        | some f => cases f <;> simp only [jk, eu]
       | _ => simp only [jk, eu]
     | _ => simp only [jk, eu]
   | _ => rfl
 . rename_i t x ho
   simp only [dA, ho, gK, pG]
   cases hc : (fits cx.P t (aC cx.P tm t x) && (aQ cx.P t || Nat.beq (cx.P.cellsOf t) 1)) with
   | false => simp only [Bool.false_eq_true, if_false, eu]
   | true => simp only [if_true, jk, eu]
 . rename_i t l c ho
   simp only [dA, ho, gK, Cm, wH]
   generalize aC cx.P tm 0 c = C
   cases hu : cx.P.underlying t with
   | none => rfl
   | some ud =>
    cases ud with
    | slice e =>
     cases C with
     | int k n =>
      cases hd : o.dst with
      | none => rfl
      | some d =>
       simp only
       cases hc : (fits cx.P e (zero cx.P e) && (aQ cx.P e || Nat.beq (cx.P.cellsOf e) 1) && Nat.blt d tm.length) with
       | false => simp only [Bool.false_eq_true, if_false, eu]
       | true =>
        simp only [if_true]
        rw [O9]
        congr 1
        cases h1 : wK l c with
        | true =>
         cases hq : cx.pln t with
         | true => simp only [if_true, eu, aT]
         | false => simp only [if_true, Bool.false_eq_true, if_false, jk, eu, gN, aT]
        | false =>
         cases h2 : y7 l with
         | true => simp only [Bool.false_eq_true, if_false, if_true, eu, aT]
         | false => simp only [Bool.false_eq_true, if_false, eu]
     | _ => rfl
    | _ => rfl
 . rename_i t ho
   simp only [dA, ho, gK, pG]
   cases hc : (fits cx.P t (zero cx.P t) && (aQ cx.P t || Nat.beq (cx.P.cellsOf t) 1)) with
   | false => simp only [Bool.false_eq_true, if_false, eu]
   | true => simp only [if_true, jk, eu]
 . rename_i x ho
   unfold mQ at hact
   rw [ho] at hact
   split at hact
   . rename_i s d h1 hd
     cases h1
     simp only [Bool.and_eq_true, Bool.not_eq_true'] at hact
     simp only [dA, ho, gK, hd]
     exact Sq (o := o) hact.1.1
   . rename_i s d h1 h2; cases h1
   . exact absurd hact (by simp)
 . rename_i x ho
   unfold mQ at hact
   rw [ho] at hact
   split at hact
   . rename_i s d h1 h2; cases h1
   . rename_i s d h1 hd
     cases h1
     simp only [Bool.and_eq_true, Bool.not_eq_true'] at hact
     simp only [dA, ho, gK, hd]
     exact Z4 (o := o) hact.1.1
   . exact absurd hact (by simp)
 . rename_i c ho
   split at hact
   . rename_i hc
     have hmu : cx.muta fn = false := by simpa using hact
     simp only [dA, ho, hc, gK, zY, wO]
     generalize c.args.toList = as
     generalize c.argTypes.toList = ats
     match as, ats, hd : o.dst with
     | [x, y], [t, u], some d =>
      simp only
      generalize hxv : aC cx.P tm t x = X
      cases hu : cx.P.underlying t with
      | none => rfl
      | some ud =>
       cases ud with
       | slice elem =>
        cases X with
        | slice e l ex =>
         simp only
         cases hc2 : (Nat.beq e elem && qZ cx.P elem u && Nat.blt d tm.length) with
         | false => simp only [Bool.false_eq_true, if_false, eu]
         | true =>
          simp only [if_true]
          cases hl2 : appended cx.P M elem (aC cx.P tm u y) with
          | none => rfl
          | some l2 =>
           simp only
           rw [O9]
           congr 1
           rw [hmu]
           simp only [Bool.false_eq_true, if_false]
           cases rO x ex ⟨tm, tf⟩ M with
           | none => rfl
           | some z => simp only [eu, aT]
        | _ => rfl
       | _ => rfl
     | [], _, _ => rfl
     | [_], _, _ => rfl
     | _ :: _ :: _ :: _, _, _ => rfl
     | [_, _], [], _ => rfl
     | [_, _], [_], _ => rfl
     | [_, _], _ :: _ :: _ :: _, _ => rfl
     | [_, _], [_, _], none => rfl
   . rename_i f hc
     simp only [qx, mJ, ho, hc] at hn hg
     rw [Bool.or_eq_true] at hact
     rcases hact with h1 | h1
     . rw [if_pos h1] at hn; exact absurd hn (by simp)
     . rw [if_pos h1] at hg; exact absurd hg (by simp)
   . exact absurd hact (by simp)
 . exact absurd hact (by simp)
theorem KR {o : Oper} {c : Call} {f : Operand} (h : qx cx o = some (c, f)) : o.op = .call c /\ c.callee = .value f := by
 unfold qx at h
 split at h
 . rename_i c' ho
   split at h
   . rename_i f' hc
     split at h
     . simp only [Option.some.injEq, Prod.mk.injEq] at h
       obtain ⟨rfl, rfl⟩ := h
       exact ⟨ho, hc⟩
     . exact absurd h (by simp)
   . exact absurd h (by simp)
 . exact absurd h (by simp)
theorem YG {o : Oper} {c : Call} {f : Operand} {tm : List AV} {tf : List (Nat × TF)} {M : Mm} {next : Fr -> Mm -> Option R} : y9 cx dep o c f ⟨tm, tf⟩ M next = eu tm o.dst (sV cx dep c f o.dst tm tf M) next := by
 unfold y9 sV
 simp only
 cases target cx.P (aC cx.P tm 0 f) (bH cx.P tm c.argTypes.toList c.args.toList) with
 | none => rfl
 | some z =>
  obtain ⟨g, args⟩ := z
  cases g with
  | yl r => rfl
  | fn g =>
   simp only [ji]
   cases cx.news dep g args M with
   | none => rfl
   | some y =>
    obtain ⟨v, rs⟩ := y
    simp only
    split
    . simp only [jk, eu]
    . rfl
theorem Pv {o : Oper} (hact : aY cx fn ops o = true) (hg : mJ cx o = none) {tm : List AV} {tf : List (Nat × TF)} {M : Mm} {next : Fr -> Mm -> Option R} :
    xS cx fn dep o ⟨tm, tf⟩ M next = eu tm o.dst (gK cx dep o tm tf M) next := by
 unfold xS
 cases hn : qx cx o with
 | none => exact RJ hact hg hn
 | some z =>
  obtain ⟨c, f⟩ := z
  obtain ⟨ho, hc⟩ := KR hn
  simp only [YG, gK, ho, hc]
theorem ZB {P : Program} {tm tm' : List AV} {t : TypeId} {x : Operand} (h : ∀ i, x = .tmp i -> tm.getD i .dead = tm'.getD i .dead) : aC P tm t x = aC P tm' t x := by
 cases x with
 | tmp i => exact h i rfl
 | const v => rfl
 | global g => rfl
 | func f => rfl
theorem vC {o : Oper} {x : Operand} (hx : x ∈ o.op.operands) {i : Nat} (e : x = .tmp i) : i ∈ looks o := by
 subst e
 exact List.mem_filterMap.2 ⟨.tmp i, by simpa using hx, rfl⟩
theorem fT {P : Program} {o : Oper} {tm tm' : List AV} (h : ∀ t ∈ looks o, tm.getD t .dead = tm'.getD t .dead) {x : Operand} (hx : x ∈ o.op.operands) (t : TypeId) : aC P tm t x = aC P tm' t x :=
 ZB fun i e => h i (vC hx e)
theorem ZE {M : Mm} {o : Oper} {tm tm' : List AV} (h : ∀ t ∈ looks o, tm.getD t .dead = tm'.getD t .dead) : bP cx M tm o = bP cx M tm' o :=
 PI o fun x hx t => fT h hx t
theorem yV {o : Oper} {c : Call} (ho : o.op = .call c) {x : Operand} (hx : x ∈ c.args.toList) : x ∈ o.op.operands := by
 rw [ho]
 simp only [Op.operands, Call.operands]
 cases c.callee <;> simp_all
theorem wz {P : Program} {tm tm' : List AV} : ∀ {ts : List TypeId} {xs : List Operand}, (∀ x ∈ xs, ∀ t, aC P tm t x = aC P tm' t x) -> bH P tm ts xs = bH P tm' ts xs
 | [], [], _ => rfl
 | _ :: _, [], _ => rfl
 | [], x :: xs, h => by
  simp only [bH]
  rw [h x (by simp) 0, wz fun y hy t => h y (List.mem_cons_of_mem _ hy) t]
 | t :: ts, x :: xs, h => by
  simp only [bH]
  rw [h x (by simp) t, wz fun y hy t => h y (List.mem_cons_of_mem _ hy) t]
theorem Tv {o : Oper} {tm tm' : List AV} {tf : List (Nat × TF)} {M : Mm} (hl : tm.length = tm'.length) (h : ∀ t ∈ looks o, tm.getD t .dead = tm'.getD t .dead) : gK cx dep o tm tf M = gK cx dep o tm' tf M := by
 unfold gK
 split
 . rename_i t a x ho
   unfold y5
   rw [fT (P := cx.P) h (x := a) (by rw [ho]; simp [Op.operands]) 0, fT (P := cx.P) h (x := x) (by rw [ho]; simp [Op.operands]) t]
 . rfl
 . rename_i t x ho
   rw [fT (P := cx.P) h (x := x) (by rw [ho]; simp [Op.operands]) t]
 . rename_i t l c ho
   unfold wH
   rw [fT (P := cx.P) h (x := c) (by rw [ho]; simp [Op.operands]) 0, hl]
 . rename_i c ho
   split
   . rename_i f hc
     unfold sV
     have h1 : aC cx.P tm 0 f = aC cx.P tm' 0 f := fT (P := cx.P) h (x := f) (by rw [ho]; simp [Op.operands, Call.operands, hc]) 0
     have h2 : bH cx.P tm c.argTypes.toList c.args.toList = bH cx.P tm' c.argTypes.toList c.args.toList := wz fun x hx t => fT (P := cx.P) h (yV ho hx) t
     rw [h1, h2]
   . unfold wO
     split
     . rename_i x y t u d ha hat hd
       rw [fT (P := cx.P) h (x := x) (yV ho (by rw [ha]; simp)) t, fT (P := cx.P) h (x := y) (yV ho (by rw [ha]; simp)) u, hl]
       rfl
     . rfl
 . rename_i x ho
   split
   . rename_i s d hd
     unfold moveA
     rw [h s (vC (x := .tmp s) (by rw [ho]; simp [Op.operands]) rfl), hl]
   . rfl
 . rename_i x ho
   split
   . rename_i s d hd
     unfold tF
     rw [h s (vC (x := .tmp s) (by rw [ho]; simp [Op.operands]) rfl), hl]
   . rfl
 . rfl
theorem q9 {r : Nat} {p : List Nat} {x : Nat × TF} {tf : List (Nat × TF)} (h : x ∈ fC r p tf) : x ∈ tf := (List.mem_filter.1 h).1
theorem eF {t : Nat} {x : Nat × TF} {tf : List (Nat × TF)} (h : x ∈ aV t tf) : x ∈ tf := (List.mem_filter.1 h).1
theorem mW {d : Option Nat} {x : Nat × TF} {tf : List (Nat × TF)} (h : x ∈ gN d tf) : x ∈ tf := by
 cases d with
 | none => exact h
 | some t => exact eF h
def nm (x : Nat × TF) (u : Nat) : Prop := x.1 = u \/ x.2 = .viaT u
def qW (d : Option Nat) (lk : List Nat) (tf tf' : List (Nat × TF)) : Prop := ∀ x ∈ tf', ∀ u, nm x u -> d = some u \/ u ∈ lk \/ ∃ y ∈ tf, nm y u
section
variable {d : Option Nat} {lk : List Nat} {tf tf' tf'' : List (Nat × TF)}
theorem d9 (h : ∀ x ∈ tf', x ∈ tf) : qW d lk tf tf' := fun x hx u hu => .inr (.inr ⟨x, h x hx, hu⟩)
theorem JF (h : ∀ x ∈ tf'', x ∈ tf') (k : qW d lk tf tf') : qW d lk tf tf'' := fun x hx => k x (h x hx)
theorem jP {t : Nat} {f : TF} (h1 : d = some t \/ t ∈ lk \/ ∃ y ∈ tf, nm y t) (h2 : ∀ u, f = .viaT u -> d = some u \/ u ∈ lk \/ ∃ y ∈ tf, nm y u) (k : qW d lk tf tf') : qW d lk tf ((t, f) :: tf') := fun x hx u hu => by
 rcases List.mem_cons.1 hx with rfl | hx
 . rcases hu with rfl | hu
   . exact h1
   . exact h2 u hu
 . exact k x hx u hu
end
theorem MX {x : Nat × TF} {tf : List (Nat × TF)} (h : x ∈ fD tf) : x ∈ tf := (List.mem_filter.1 h).1
theorem acz {s t : Nat} {f : TF} {tf : List (Nat × TF)} {d : Option Nat} {lk : List Nat} (hs : s ∈ lk) (h : oC s t tf = some f) : ∀ u, f = .viaT u -> d = some u \/ u ∈ lk \/ ∃ y ∈ tf, nm y u := by
 intro u hu
 subst hu
 unfold oC at h
 split at h
 . simp only [Option.some.injEq, TF.viaT.injEq] at h; subst h; exact .inr (.inl hs)
 . rename_i u' hf
   split at h
   . exact absurd h (by simp)
   . simp only [Option.some.injEq, TF.viaT.injEq] at h
     subst h
     exact .inr (.inr ⟨_, jQ hf, .inr rfl⟩)
 . exact .inr (.inr ⟨_, jQ h, .inr rfl⟩)
theorem YP {o : Oper} {tm : List AV} {tf : List (Nat × TF)} {M : Mm} {v : AV} {tf' : List (Nat × TF)} {M' : Mm} (h : gK cx dep o tm tf M = some (v, tf', M')) : qW o.dst (looks o) tf tf' := by
 unfold gK at h
 split at h
 . rename_i t a y ho
   unfold y5 at h
   split at h
   . rename_i r p t' off hp
     split at h
     . split at h
       . simp only [Option.some.injEq, Prod.mk.injEq] at h
         obtain ⟨_, rfl, _⟩ := h
         exact d9 fun x hx => q9 (mW hx)
       . rename_i e l hv
         split at h
         . rename_i s hx0
           have hs : s ∈ looks o := vC (x := .tmp s) (by rw [ho]; simp [Op.operands]) rfl
           split at h
           . simp only [Option.some.injEq, Prod.mk.injEq] at h
             obtain ⟨_, rfl, _⟩ := h
             exact JF (fun x hx => mW hx) (jP (.inr (.inl hs)) (fun u hu => by cases hu) (d9 fun x hx => eF (q9 hx)))
           . simp only [Option.some.injEq, Prod.mk.injEq] at h
             obtain ⟨_, rfl, _⟩ := h
             exact JF (fun x hx => mW hx) (jP (.inr (.inl hs)) (fun u hu => by cases hu) (d9 fun x hx => eF (eF (q9 hx))))
           . simp only [Option.some.injEq, Prod.mk.injEq] at h
             obtain ⟨_, rfl, _⟩ := h
             exact d9 fun x hx => q9 (mW hx)
         . simp only [Option.some.injEq, Prod.mk.injEq] at h
           obtain ⟨_, rfl, _⟩ := h
           exact d9 fun x hx => q9 (mW hx)
       . simp only [Option.some.injEq, Prod.mk.injEq] at h
         obtain ⟨_, rfl, _⟩ := h
         exact d9 fun x hx => q9 (mW hx)
     . exact absurd h (by simp)
   . exact absurd h (by simp)
 . unfold pG at h
   split at h
   . simp only [Option.some.injEq, Prod.mk.injEq] at h
     obtain ⟨_, rfl, _⟩ := h
     exact d9 fun x hx => mW hx
   . exact absurd h (by simp)
 . unfold pG at h
   split at h
   . simp only [Option.some.injEq, Prod.mk.injEq] at h
     obtain ⟨_, rfl, _⟩ := h
     exact d9 fun x hx => mW hx
   . exact absurd h (by simp)
 . unfold wH at h
   split at h
   . rename_i e k n d hu hc hd
     split at h
     . simp only [cond_eq_ite] at h
       split at h
       . split at h
         . split at h
           . simp only [Option.some.injEq, Prod.mk.injEq] at h
             obtain ⟨_, rfl, _⟩ := h
             exact jP (.inl hd) (fun u hu => by cases hu) (d9 fun x hx => eF hx)
           . simp only [Option.some.injEq, Prod.mk.injEq] at h
             obtain ⟨_, rfl, _⟩ := h
             exact d9 fun x hx => eF hx
         . split at h
           . simp only [Option.some.injEq, Prod.mk.injEq] at h
             obtain ⟨_, rfl, _⟩ := h
             exact jP (.inl hd) (fun u hu => by cases hu) (d9 fun x hx => eF hx)
           . exact absurd h (by simp)
       . exact absurd h (by simp)
     . exact absurd h (by simp)
   . exact absurd h (by simp)
 . rename_i c ho
   split at h
   . unfold sV at h
     split at h
     . split at h
       . split at h
         . simp only [Option.some.injEq, Prod.mk.injEq] at h
           obtain ⟨_, rfl, _⟩ := h
           exact d9 fun x hx => MX (mW hx)
         . exact absurd h (by simp)
       . exact absurd h (by simp)
     . exact absurd h (by simp)
   . unfold wO at h
     split at h
     . rename_i x y t u d ha hat hd
       split at h
       . split at h
         . split at h
           . exact absurd h (by simp)
           . simp only [cond_eq_ite] at h
             split at h
             . split at h
               . exact absurd h (by simp)
               . rename_i tf2 ro hto
                 simp only [Option.some.injEq, Prod.mk.injEq] at h
                 obtain ⟨_, rfl, _⟩ := h
                 refine jP (.inl hd) (fun u hu => by cases hu) (d9 fun x hx => ?_)
                 have hx := eF hx
                 unfold rO at hto
                 split at hto
                 . simp only [Option.some.injEq, Prod.mk.injEq] at hto
                   obtain ⟨rfl, _⟩ := hto
                   exact hx
                 . split at hto
                   . split at hto
                     . simp only [Option.some.injEq, Prod.mk.injEq] at hto
                       obtain ⟨rfl, _⟩ := hto
                       exact eF hx
                     . simp only [Option.some.injEq, Prod.mk.injEq] at hto
                       obtain ⟨rfl, _⟩ := hto
                       exact eF hx
                     . simp only [Option.some.injEq, Prod.mk.injEq] at hto
                       obtain ⟨rfl, _⟩ := hto
                       exact q9 hx
                     . exact absurd hto (by simp)
                   . exact absurd hto (by simp)
             . exact absurd h (by simp)
         . exact absurd h (by simp)
       . exact absurd h (by simp)
     . exact absurd h (by simp)
 . rename_i x ho
   split at h
   . rename_i s d hd
     have hs : s ∈ looks o := vC (x := .tmp s) (by rw [ho]; simp [Op.operands]) rfl
     unfold moveA at h
     split at h
     . split at h
       . rename_i fl hcf
         split at h
         all_goals
          simp only [Option.some.injEq, Prod.mk.injEq] at h
          obtain ⟨_, rfl, _⟩ := h
         . exact jP (.inl hd) (acz hs hcf) (d9 fun x hx => eF hx)
         . exact d9 fun x hx => eF hx
       . simp only [Option.some.injEq, Prod.mk.injEq] at h
         obtain ⟨_, rfl, _⟩ := h
         exact d9 fun x hx => eF hx
     . simp only [Option.some.injEq, Prod.mk.injEq] at h
       obtain ⟨_, rfl, _⟩ := h
       exact d9 fun x hx => eF hx
   . exact absurd h (by simp)
 . rename_i x ho
   split at h
   . rename_i s d hd
     have hs : s ∈ looks o := vC (x := .tmp s) (by rw [ho]; simp [Op.operands]) rfl
     unfold tF at h
     split at h
     . split at h
       all_goals
        simp only [Option.some.injEq, Prod.mk.injEq] at h
        obtain ⟨_, rfl, _⟩ := h
       . exact jP (.inl hd) (fun u hu => by cases hu) (d9 fun x hx => eF hx)
       . exact d9 fun x hx => eF hx
     . split at h
       . simp only [Option.some.injEq, Prod.mk.injEq] at h
         obtain ⟨_, rfl, _⟩ := h
         exact d9 fun x hx => eF hx
       . split at h
         . simp only [Option.some.injEq, Prod.mk.injEq] at h
           obtain ⟨_, rfl, _⟩ := h
           exact jP (.inr (.inl hs)) (fun u hu => by cases hu; exact .inl hd) (jP (.inl hd) (fun u hu => by cases hu) (d9 fun x hx => eF (eF hx)))
         . rename_i u hf
           split at h
           all_goals
            simp only [Option.some.injEq, Prod.mk.injEq] at h
            obtain ⟨_, rfl, _⟩ := h
           . exact d9 fun x hx => eF hx
           . exact jP (.inr (.inl hs)) (fun u hu => by cases hu; exact .inl hd) (jP (.inr (.inr ⟨_, jQ hf, .inr rfl⟩)) (fun u hu => by cases hu; exact .inl hd) (jP (.inl hd) (fun u hu => by cases hu) (d9 fun x hx => eF (eF (eF hx)))))
         . simp only [Option.some.injEq, Prod.mk.injEq] at h
           obtain ⟨_, rfl, _⟩ := h
           exact jP (.inl hd) (fun u hu => by cases hu) (d9 fun x hx => eF hx)
         . simp only [Option.some.injEq, Prod.mk.injEq] at h
           obtain ⟨_, rfl, _⟩ := h
           exact d9 fun x hx => eF hx
     . simp only [Option.some.injEq, Prod.mk.injEq] at h
       obtain ⟨_, rfl, _⟩ := h
       exact d9 fun x hx => eF hx
   . exact absurd h (by simp)
 . exact absurd h (by simp)
def bF (A : AV) (M M' : Mm) : Prop :=
 match A with
 | .ptr r p _ _ => ((M'.rows.getD r (.arr 0 [])).get p) = ((M.rows.getD r (.arr 0 [])).get p)
 | .msl r _ _ _ _ _ => M'.rows.getD r (.arr 0 []) = M.rows.getD r (.arr 0 [])
 | .mapv (some r) => M'.rows.getD r (.arr 0 []) = M.rows.getD r (.arr 0 [])
 | _ => True
theorem bF.refl (A : AV) (M : Mm) : bF A M M := by unfold bF; split <;> first | rfl | trivial
theorem bF.trans {A : AV} {M M' M'' : Mm} (h : bF A M M') (k : bF A M' M'') : bF A M M'' := by
 unfold bF at *; split <;> first | exact k.trans h | trivial
theorem bF.symm {A : AV} {M M' : Mm} (h : bF A M M') : bF A M' M := by
 unfold bF at *; split <;> first | exact h.symm | trivial
theorem bF.same {A : AV} {M M' : Mm} (h : M'.rows = M.rows) : bF A M M' := by
 unfold bF; split <;> first | rw [h] | trivial
def zL (P : Program) (o : Oper) (tm : List AV) (v : AV) : AV :=
 match o.op with
 | .store _ a _ => aC P tm 0 a
 | .alloc _ | .box .. | .makeSlice .. => v
 | .call c => match c.callee with | .builtin _ => .nili | _ => v
 | _ => .nili
theorem Iw {l : List Row} {r r' : Nat} {x : Row} (h : r ≠ r') : (l.set r' x).getD r (.arr 0 []) = l.getD r (.arr 0 []) := by
 simp [List.getD, List.getElem?_set_ne (fun e => h e.symm)]
theorem CV {l : List Row} {r : Nat} {x : Row} (h : r ≠ l.length) : (l ++ [x]).getD r (.arr 0 []) = l.getD r (.arr 0 []) := by
 rcases Nat.lt_or_ge r l.length with h1 | h1
 . simp [List.getD, List.getElem?_append_left h1]
 . have h2 : (l ++ [x]).length <= r := by simp; omega
   simp [List.getD, List.getElem?_eq_none h1, List.getElem?_eq_none h2]
theorem zK {A : AV} {r : Nat} {p : List Nat} {t : TypeId} {off : Nat} (h : kr A (.ptr r p t off) = true) : (∀ r', jK A = some r' -> r' ≠ r) \/ ∃ r' q t' o', A = .ptr r' q t' o' /\ apart q p = true := by
 have nb : ∀ r', (!(Nat.beq r' r)) = true -> r' ≠ r := fun r' h e => by rw [e] at h; simp at h
 cases A with
 | ptr r' q t' o' =>
  simp only [kr, Bool.or_eq_true] at h
  rcases h with h | h
  . exact .inl fun x hx => by simp only [jK, Option.some.injEq] at hx; subst hx; exact nb _ h
  . exact .inr ⟨r', q, t', o', rfl, h⟩
 | dead => simp [kr] at h
 | msl r' q e o c n => simp only [kr, jK] at h; exact .inl fun x hx => by simp only [jK, Option.some.injEq] at hx; subst hx; exact nb _ h
 | mapv r' =>
  cases r' with
  | none => exact .inl fun x hx => by simp [jK] at hx
  | some r' => simp only [kr, jK] at h; exact .inl fun x hx => by simp only [jK, Option.some.injEq] at hx; subst hx; exact nb _ h
 | _ => exact .inl fun x hx => by simp [jK] at hx
theorem vQ {A : AV} {M M' : Mm} (h : ∀ r, jK A = some r -> M'.rows.getD r (.arr 0 []) = M.rows.getD r (.arr 0 [])) : bF A M M' := by
 unfold bF
 split
 . rename_i r p t o; rw [h r rfl]
 . rename_i r p e o c n; exact h r rfl
 . rename_i r; exact h r rfl
 . trivial
theorem PW {A : AV} {M : Mm} {x : Row} {t : TypeId} {ro : List (Nat × List Nat)} (h : kr A (.ptr M.rows.length [] t 0) = true) : bF A M { rows := M.rows ++ [x], ro := ro } := by
 rcases zK h with h | ⟨r', q, t', o', rfl, h2⟩
 . exact vQ fun r hr => CV (h r hr)
 . cases q <;> simp [apart] at h2
theorem Bj {A : AV} {M : Mm} {r' : Nat} {p' : List Nat} {t' : TypeId} {off' : Nat} {v : AV} {ro : List (Nat × List Nat)} (h : kr A (.ptr r' p' t' off') = true) : bF A M { rows := M.rows.set r' ((M.rows.getD r' (.arr 0 [])).put p' v), ro := ro } := by
 rcases zK h with h | ⟨r, p, t, off, rfl, h2⟩
 . exact vQ fun r hr => Iw (h r hr)
 . show ((M.rows.set r' _).getD r (.arr 0 [])).get p = _
   by_cases e : r = r'
   . subst e
     by_cases hlen : r < M.rows.length
     . have : (M.rows.set r ((M.rows.getD r (.arr 0 [])).put p' v)).getD r (.arr 0 []) = (M.rows.getD r (.arr 0 [])).put p' v := by
         simp [List.getD, hlen]
       rw [this]
       exact get_put _ _ _ _ h2
     . rw [List.set_eq_of_length_le (by omega)]
   . rw [Iw e]
theorem K9 {A v : AV} {r : Nat} (h : kr A v = true) (hv : jK v = some r) (hp : ∀ r p t o, v ≠ .ptr r p t o) : jK A ≠ some r := by
 intro hA
 unfold kr at h
 split at h
 . cases h
 . cases h
 . exact hp _ _ _ _ rfl
 . rw [hA, hv] at h
   simp at h
theorem aaj {A : AV} {M : Mm} {v : AV} {rs : List Row} (hn : Bq M.rows.length v rs = true) (h : kr A v = true) : bF A M { M with rows := M.rows ++ rs } := by
 unfold Bq at hn
 split at hn
 . exact bF.same (by simp)
 . rename_i x
   split at hn
   . rename_i r
     obtain rfl := Nat.eq_of_beq_eq_true hn
     exact vQ fun r hr => CV fun e => K9 h rfl (fun _ _ _ _ e => by cases e) (by rw [hr, e])
   . rename_i r t o
     obtain rfl := Nat.eq_of_beq_eq_true hn
     rcases zK h with h | ⟨r', q, t', o', rfl, h2⟩
     . exact vQ fun r hr => CV (h r hr)
     . cases q <;> simp [apart] at h2
   . exact absurd hn (by simp)
 . exact absurd hn (by simp)
theorem aaA {o : Oper} {tm : List AV} {tf : List (Nat × TF)} {M : Mm} {v : AV} {tf' : List (Nat × TF)} {M' : Mm} (h : gK cx dep o tm tf M = some (v, tf', M')) {A : AV} (hA : kr A (zL cx.P o tm v) = true) : bF A M M' := by
 unfold gK at h
 unfold zL at hA
 split at h
 . rename_i t a y ho
   rw [ho] at hA
   simp only at hA
   unfold y5 at h
   split at h
   . rename_i r p t' off hp
     rw [hp] at hA
     split at h
     . split at h
       . simp only [Option.some.injEq, Prod.mk.injEq] at h
         obtain ⟨_, _, rfl⟩ := h
         exact Bj hA
       . rename_i e l hv
         split at h
         . split at h
           all_goals
            simp only [Option.some.injEq, Prod.mk.injEq] at h
            obtain ⟨_, _, rfl⟩ := h
            exact Bj hA
         . simp only [Option.some.injEq, Prod.mk.injEq] at h
           obtain ⟨_, _, rfl⟩ := h
           exact Bj hA
       . simp only [Option.some.injEq, Prod.mk.injEq] at h
         obtain ⟨_, _, rfl⟩ := h
         exact Bj hA
     . exact absurd h (by simp)
   . exact absurd h (by simp)
 . rename_i t ho
   rw [ho] at hA
   unfold pG at h
   split at h
   . simp only [Option.some.injEq, Prod.mk.injEq] at h
     obtain ⟨rfl, _, rfl⟩ := h
     exact PW hA
   . exact absurd h (by simp)
 . rename_i t x ho
   rw [ho] at hA
   unfold pG at h
   split at h
   . simp only [Option.some.injEq, Prod.mk.injEq] at h
     obtain ⟨rfl, _, rfl⟩ := h
     exact PW hA
   . exact absurd h (by simp)
 . rename_i t l c ho
   rw [ho] at hA
   unfold wH at h
   split at h
   . split at h
     . simp only [cond_eq_ite] at h
       split at h
       . split at h
         . split at h
           . simp only [Option.some.injEq, Prod.mk.injEq] at h
             obtain ⟨_, _, rfl⟩ := h
             exact bF.refl _ _
           . simp only [Option.some.injEq, Prod.mk.injEq] at h
             obtain ⟨rfl, _, rfl⟩ := h
             exact vQ fun r hr => CV fun e => K9 hA rfl (fun _ _ _ _ e => by cases e) (by rw [hr, e])
         . split at h
           . simp only [Option.some.injEq, Prod.mk.injEq] at h
             obtain ⟨_, _, rfl⟩ := h
             exact bF.refl _ _
           . exact absurd h (by simp)
       . exact absurd h (by simp)
     . exact absurd h (by simp)
   . exact absurd h (by simp)
 . rename_i c ho
   rw [ho] at hA
   split at h
   . rename_i f hc
     simp only [hc] at hA
     unfold sV at h
     split at h
     . split at h
       . split at h
         . rename_i hn
           simp only [Option.some.injEq, Prod.mk.injEq] at h
           obtain ⟨rfl, _, rfl⟩ := h
           exact aaj hn hA
         . exact absurd h (by simp)
       . exact absurd h (by simp)
     . exact absurd h (by simp)
   . unfold wO at h
     split at h
     . split at h
       . split at h
         . split at h
           . exact absurd h (by simp)
           . simp only [cond_eq_ite] at h
             split at h
             . split at h
               . exact absurd h (by simp)
               . simp only [Option.some.injEq, Prod.mk.injEq] at h
                 obtain ⟨_, _, rfl⟩ := h
                 exact bF.same rfl
             . exact absurd h (by simp)
         . exact absurd h (by simp)
       . exact absurd h (by simp)
     . exact absurd h (by simp)
 . split at h
   . unfold moveA at h
     split at h
     . split at h
       . split at h
         all_goals
          simp only [Option.some.injEq, Prod.mk.injEq] at h
          obtain ⟨_, _, rfl⟩ := h
          exact bF.refl _ _
       . simp only [Option.some.injEq, Prod.mk.injEq] at h
         obtain ⟨_, _, rfl⟩ := h
         exact bF.refl _ _
     . simp only [Option.some.injEq, Prod.mk.injEq] at h
       obtain ⟨_, _, rfl⟩ := h
       exact bF.refl _ _
   . exact absurd h (by simp)
 . split at h
   . unfold tF at h
     split at h
     . split at h
       all_goals
        simp only [Option.some.injEq, Prod.mk.injEq] at h
        obtain ⟨_, _, rfl⟩ := h
        exact bF.refl _ _
     . split at h
       . simp only [Option.some.injEq, Prod.mk.injEq] at h
         obtain ⟨_, _, rfl⟩ := h
         exact bF.refl _ _
       . split at h
         . simp only [Option.some.injEq, Prod.mk.injEq] at h
           obtain ⟨_, _, rfl⟩ := h
           exact bF.refl _ _
         . split at h
           all_goals
            simp only [Option.some.injEq, Prod.mk.injEq] at h
            obtain ⟨_, _, rfl⟩ := h
            exact bF.refl _ _
         . simp only [Option.some.injEq, Prod.mk.injEq] at h
           obtain ⟨_, _, rfl⟩ := h
           exact bF.refl _ _
         . simp only [Option.some.injEq, Prod.mk.injEq] at h
           obtain ⟨_, _, rfl⟩ := h
           exact bF.refl _ _
     . simp only [Option.some.injEq, Prod.mk.injEq] at h
       obtain ⟨_, _, rfl⟩ := h
       exact bF.refl _ _
   . exact absurd h (by simp)
 . exact absurd h (by simp)
theorem TG {M M' : Mm} {tm : List AV} {o : Oper} (h : pJ o = true) : bP cx M tm o = bP cx M' tm o := by
 obtain ⟨dst, op, type, pos, after, guard⟩ := o
 cases op <;> simp only [pJ] at h <;> simp only [bP]
 case load => exact absurd h (by simp)
 case convert => exact absurd h (by simp)
 case call c =>
  cases c.callee with
  | builtin b =>
   unfold qI
   split <;> first | rfl | (unfold zU; rfl)
  | _ => rfl
def yU (P : Program) (et : TypeId) (ok : Bool) (v : Option AV) : AV := if ok then .tuple [(match v with | some v => v | none => zero P et), .bool v.isSome] else (match v with | some v => v | none => zero P et)
def jD (cx : Ctx) (o : Oper) (tm : List AV) (M : Mm) : Option AV :=
 match o.op with
 | .lookup t m k ok =>
  match cx.P.underlying t with
  | some (.map kt et) =>
   if qb cx.P kt (aC cx.P tm kt k) && fits cx.P kt (aC cx.P tm kt k) && fits cx.P et (zero cx.P et) then
    match aC cx.P tm t m with
    | .mapv none => some (yU cx.P et ok none)
    | .mapv (some r) =>
     match M.rows.getD r (.arr 0 []) with
     | .map kt' et' es => if Nat.beq kt kt' && Nat.beq et et' then nO (aC cx.P tm kt k) es fun v => some (yU cx.P et ok v) else none
     | _ => none
    | _ => none
   else none
  | _ => none
 | _ => none
theorem Zl {R : Type} {t : TypeId} {m k : Operand} {ok : Bool} {o : Oper} {fr : Fr} {M : Mm} {next : Fr -> Mm -> Option R} :
    uo cx t m k ok o fr M next = match cx.P.underlying t with
    | some (.map kt et) =>
     if qb cx.P kt (aC cx.P fr.tmps kt k) && fits cx.P kt (aC cx.P fr.tmps kt k) && fits cx.P et (zero cx.P et) then
      match aC cx.P fr.tmps t m with
      | .mapv none => next (fr.set o.dst (yU cx.P et ok none)) M
      | .mapv (some r) =>
       match M.rows.getD r (.arr 0 []) with
       | .map kt' et' es => if Nat.beq kt kt' && Nat.beq et et' then nO (aC cx.P fr.tmps kt k) es fun v => next (fr.set o.dst (yU cx.P et ok v)) M else none
       | _ => none
      | _ => none
     else none
    | _ => none := rfl
theorem LV {R : Type} {k : AV} {K : Option AV -> Option R} {f : Option AV -> AV} {r : R} : ∀ {es : List (AV × AV)}, nO k es K = some r -> ∃ v, nO k es (fun v => some (f v)) = some (f v) /\ K v = some r
 | [], h => ⟨none, rfl, h⟩
 | (k', v) :: es, h => by
  simp only [nO] at h ⊢
  split at h
  . rename_i b hb
    cases b with
    | true => exact ⟨some v, rfl, h⟩
    | false => exact LV (es := es) h
  . exact absurd h (by simp)
theorem aam {R : Type} {o : Oper} {t : TypeId} {m k : Operand} {ok : Bool} (ho : o.op = .lookup t m k ok) {tm : List AV} {tf : List (Nat × TF)} {M : Mm} {next : Fr -> Mm -> Option R} {r : R} (h : uo cx t m k ok o ⟨tm, tf⟩ M next = some r) :
    ∃ v, jD cx o tm M = some v /\ next ⟨aT tm o.dst v, gN o.dst tf⟩ M = some r := by
 rw [Zl] at h
 unfold jD
 rw [ho]
 try dsimp only
 split at h
 . rename_i kt et hu
   try dsimp only
   split at h
   . rename_i hc
     rw [if_pos hc]
     split at h
     . rename_i hm
       have hm : aC cx.P tm t m = .mapv none := hm
       rw [hm]
       refine ⟨_, rfl, ?_⟩
       rw [jk] at h
       exact h
     . rename_i rr hm
       have hm : aC cx.P tm t m = .mapv (some rr) := hm
       rw [hm]
       try dsimp only
       split at h
       . rename_i kt' et' es hrow
         try dsimp only
         split at h
         . rename_i hty
           rw [if_pos hty]
           obtain ⟨v, h1, h2⟩ := LV (f := yU cx.P et ok) h
           refine ⟨_, h1, ?_⟩
           rw [jk] at h2
           exact h2
         . exact absurd h (by simp)
       . exact absurd h (by simp)
     . exact absurd h (by simp)
   . exact absurd h (by simp)
 . exact absurd h (by simp)
theorem Sc {o : Oper} {tm tm' : List AV} {M : Mm} (h : ∀ t ∈ looks o, tm.getD t .dead = tm'.getD t .dead) : jD cx o tm M = jD cx o tm' M := by
 unfold jD
 split
 . rename_i t m k ok ho
   split
   . rename_i kt et hu
     rw [fT (P := cx.P) h (x := k) (by rw [ho]; simp [Op.operands]) kt, fT (P := cx.P) h (x := m) (by rw [ho]; simp [Op.operands]) t]
   . rfl
 . rfl
theorem acZ {o : Oper} {tm : List AV} {M1 M2 : Mm} (hl : gq o = true) (h : bF (dV cx.P tm o) M1 M2) : jD cx o tm M1 = jD cx o tm M2 := by
 unfold jD
 unfold dV at h
 split
 . rename_i t m k ok ho
   rw [ho] at h
   dsimp only at h
   split
   . rename_i kt et hu
     split
     . split
       . rfl
       . rename_i r hm
         rw [hm] at h
         have h : M2.rows.getD r (.arr 0 []) = M1.rows.getD r (.arr 0 []) := h
         rw [h]
       . rfl
     . rfl
   . rfl
 . rfl
theorem RI {M1 M2 : Mm} {tm : List AV} {o : Oper} (hl : gL o = true) (hk : gq o = false) (h : bF (dV cx.P tm o) M1 M2) : bP cx M1 tm o = bP cx M2 tm o := by
 unfold gL at hl
 split at hl
 . rename_i t a ho
   have ha : dV cx.P tm o = aC cx.P tm 0 a := by unfold dV; rw [ho]
   rw [ha] at h
   have : jq cx.P M1 t (aC cx.P tm 0 a) = jq cx.P M2 t (aC cx.P tm 0 a) := by
    generalize aC cx.P tm 0 a = A at h
    cases A with
    | ptr r p t' off => simp only [jq, bF] at h ⊢; rw [h]
    | _ => rfl
   simp only [bP, ho, this]
 . rename_i s d x ho
   have ha : dV cx.P tm o = aC cx.P tm s x := by unfold dV; rw [ho]
   rw [ha] at h
   have : sW cx.P s d M1 (aC cx.P tm s x) = sW cx.P s d M2 (aC cx.P tm s x) := by
    generalize aC cx.P tm s x = A at h
    unfold sW
    generalize cx.P.underlying d = ud
    cases A with
    | msl r p e off coff len =>
     simp only [bF] at h
     cases ud with
     | none => rfl
     | some ud => cases ud <;> first | rfl | (simp only [h])
    | _ => cases ud with
     | none => rfl
     | some ud => cases ud <;> rfl
   simp only [bP, ho, this]
 . rename_i t m k ok ho
   unfold gq at hk
   rw [ho] at hk
   exact absurd hk (by simp)
 . exact absurd hl (by simp)
end
end Go.AE
namespace Go.AE
open Go.RowKit Go.Lib
section
variable {cx : Ctx} {fn : FuncId} {dep N0 n : Nat} {ops : Array Oper}
structure RegOK (cx : Ctx) (fn : FuncId) (ops : Array Oper) : Prop where
 guard : ∀ (i : Nat) (o : Oper), ops[i]? = some o -> o.guard = none
 kind : ∀ (i : Nat) (o : Oper), ops[i]? = some o -> aY cx fn ops o = true \/ bB ops o = true \/ gL o = true \/ pJ o = true
 back : ∀ (i : Nat) (o : Oper) (e : Edge), ops[i]? = some o -> e ∈ o.after -> Region.binds .any e = true -> e.on < i
 look : ∀ (i : Nat) (o : Oper) (j : Nat) (oj : Oper) (t : Nat), ops[i]? = some o -> ops[j]? = some oj -> oj.dst = some t -> t ∈ looks o -> (j < i /\ bQ ops i j = true) \/ qJ cx fn ops i o j = true
 one : ∀ (i : Nat) (o : Oper) (j : Nat) (oj : Oper) (t : Nat), ops[i]? = some o -> ops[j]? = some oj -> oj.dst = some t -> o.dst = some t -> j = i
 chain : ∀ (i : Nat) (o : Oper) (j : Nat) (oj : Oper), ops[i]? = some o -> aY cx fn ops o = true -> j < i -> ops[j]? = some oj -> aY cx fn ops oj = true -> bQ ops i j = true \/ ∃ (k : Nat) (ok : Oper), j < k /\ k < i /\ ops[k]? = some ok /\ aY cx fn ops ok = true
 al : ∀ (i : Nat) (o : Oper), ops[i]? = some o -> bB ops o = true -> (∀ e ∈ o.after, Region.binds .any e = false) /\ ∃ t, o.dst = some t
 late : ∀ (i : Nat) (o : Oper), ops[i]? = some o -> bB ops o = false -> (∀ (j : Nat) (oj : Oper), ops[j]? = some oj -> bB ops oj = true -> bQ ops i j = true) \/ (aY cx fn ops o = false /\ ∀ (j : Nat) (oj : Oper), ops[j]? = some oj -> bB ops oj = true -> bQ ops i j = false)
theorem dI {i : Nat} {o : Oper} (h : ops[i]? = some o) : i < ops.size := (Array.getElem?_eq_some_iff.1 h).1
theorem J9 (h : Dr cx fn ops = true) : RegOK cx fn ops := by
 have one : ∀ (i : Nat) (o : Oper), ops[i]? = some o -> D7 cx fn ops i o = true := fun i o ho => by
  simp only [Dr, List.all_eq_true, List.mem_range] at h
  have := h i (dI ho)
  rw [ho] at this
  exact this
 have alj : ∀ {j : Nat} {oj : Oper}, ops[j]? = some oj -> bB ops oj = true -> nQ ops j = true := fun hj ha => by unfold nQ; rw [hj]; exact ha
 have sep : ∀ (i : Nat) (o : Oper), ops[i]? = some o -> (o.guard.isNone = true /\ (aY cx fn ops o || bB ops o || gq o || (FE cx o && (gL o || pJ o))) = true) /\ (∀ e ∈ o.after, Region.binds .any e = true -> e.on < i) /\
     (∀ j, j < ops.size -> (match kS ops j with
      | none => true
      | some t => (!(jf t (looks o)) || ((Nat.blt j i && bQ ops i j) || qJ cx fn ops i o j)) && (Nat.beq j i || match o.dst with | some u => !(Nat.beq t u) | none => true)) = true) /\
     (aY cx fn ops o = true -> ∀ j, j < i -> (!(mo cx fn ops j) || bQ ops i j || (List.range i).any fun k => Nat.blt j k && mo cx fn ops k) = true) /\
     (if bB ops o then (o.after.toList.all fun e => !(Region.binds .any e)) && o.dst.isSome
      else ((List.range ops.size).all fun j => !(nQ ops j) || bQ ops i j) || (!(aY cx fn ops o) && (List.range ops.size).all fun j => !(nQ ops j) || !(bQ ops i j))) = true := by
  intro i o ho
  have := one i o ho
  unfold D7 at this
  rw [Bool.and_eq_true, Bool.and_eq_true, Bool.and_eq_true, Bool.and_eq_true, Bool.and_eq_true] at this
  obtain ⟨⟨⟨⟨⟨h1, h2⟩, h3⟩, h4⟩, h5⟩, h6⟩ := this
  refine ⟨⟨h1, h2⟩, fun e he hb => ?_, fun j hj => ?_, fun hs j hj => ?_, h6⟩
  . rw [List.all_eq_true] at h3
    have := h3 e (by simpa using he)
    rw [hb] at this
    exact Nat.blt_eq.mp (by simpa using this)
  . rw [List.all_eq_true] at h4
    exact h4 j (List.mem_range.2 hj)
  . rw [hs] at h5
    simp only [Bool.not_true, Bool.false_or, List.all_eq_true] at h5
    exact h5 j (List.mem_range.2 hj)
 refine ⟨fun i o ho => by simpa using (sep i o ho).1.1, fun i o ho => ?_, fun i o e ho he hb => (sep i o ho).2.1 e he hb, fun i o j oj t ho hj hd ht => ?_, fun i o j oj t ho hj hd hd' => ?_, fun i o j oj ho hs hji hj hsj => ?_, fun i o ho ha => ?_, fun i o ho ha => ?_⟩
 . have := (sep i o ho).1.2
   simp only [Bool.or_eq_true, Bool.and_eq_true] at this
   rcases this with ((h1 | h1) | h1) | ⟨_, h1 | h1⟩
   . exact .inl h1
   . exact .inr (.inl h1)
   . refine .inr (.inr (.inl ?_))
     unfold gq at h1
     unfold gL
     split at h1
     . rename_i hop; rw [hop]
     . exact absurd h1 (by simp)
   . exact .inr (.inr (.inl h1))
   . exact .inr (.inr (.inr h1))
 . have := (sep i o ho).2.2.1 j (dI hj)
   have hd' : kS ops j = some t := by unfold kS; rw [hj]; exact hd
   rw [hd'] at this
   simp only [Bool.and_eq_true] at this
   have h1 := this.1
   rw [qR.2 ht] at h1
   simp only [Bool.not_true, Bool.false_or, Bool.or_eq_true, Bool.and_eq_true] at h1
   rcases h1 with h1 | h1
   . exact .inl ⟨Nat.blt_eq.mp h1.1, h1.2⟩
   . exact .inr h1
 . have := (sep i o ho).2.2.1 j (dI hj)
   have hdj : kS ops j = some t := by unfold kS; rw [hj]; exact hd
   rw [hdj, hd'] at this
   simp only [Bool.and_eq_true] at this
   have h1 := this.2
   simp only [Nat.beq_refl, Bool.not_true, Bool.or_false] at h1
   exact Nat.eq_of_beq_eq_true h1
 . have := (sep i o ho).2.2.2.1 hs j hji
   have hsa : mo cx fn ops j = true := by unfold mo; rw [hj]; exact hsj
   rw [hsa] at this
   simp only [Bool.not_true, Bool.false_or, Bool.or_eq_true, List.any_eq_true, List.mem_range, Bool.and_eq_true] at this
   rcases this with h1 | ⟨k, hk, h2, h3⟩
   . exact .inl h1
   . unfold mo at h3
     split at h3
     . rename_i ok hok
       exact .inr ⟨k, ok, Nat.blt_eq.mp h2, hk, hok, h3⟩
     . exact absurd h3 (by simp)
 . have := (sep i o ho).2.2.2.2
   rw [if_pos ha, Bool.and_eq_true, List.all_eq_true] at this
   exact ⟨fun e he => by simpa using this.1 e (by simpa using he), Option.isSome_iff_exists.1 this.2⟩
 . have := (sep i o ho).2.2.2.2
   rw [if_neg (by rw [ha]; simp), Bool.or_eq_true, Bool.and_eq_true, List.all_eq_true, List.all_eq_true] at this
   rcases this with h1 | ⟨h1, h2⟩
   . refine .inl fun j oj hj hal => ?_
     have := h1 j (List.mem_range.2 (dI hj))
     rw [alj hj hal] at this
     simpa using this
   . refine .inr ⟨by simpa using h1, fun j oj hj hal => ?_⟩
     have := h2 j (List.mem_range.2 (dI hj))
     rw [alj hj hal] at this
     simpa using this
theorem Zm {o : Oper} (h : mQ cx fn ops o = true) : aY cx fn ops o = true := by
 have h' := h
 unfold mQ at h
 split at h
 . rename_i ho _; unfold aY; rw [ho]; exact h'
 . rename_i ho _; unfold aY; rw [ho]; exact h'
 . exact absurd h (by simp)
theorem wS {o : Oper} (h : bB ops o = true) : aY cx fn ops o = false := by
 unfold bB Aq at h
 rw [Bool.and_eq_true] at h
 obtain ⟨h1, h2⟩ := h
 split at h1
 . rename_i t ho; unfold aY; rw [ho]; simp [h2]
 . exact absurd h1 (by simp)
theorem abf {o : Oper} (h : gL o = true) : pJ o = false := by
 unfold gL at h
 unfold pJ
 split at h <;> rename_i ho <;> first | (rw [ho]) | exact absurd h (by simp)
def AB (cx : Ctx) (fn : FuncId) (ops : Array Oper) (o : Oper) : Prop := (aY cx fn ops o = false /\ gL o = true) \/ (aY cx fn ops o = true /\ mQ cx fn ops o = false)
theorem R9 {o : Oper} {i j : Nat} (h : AB cx fn ops o) : qJ cx fn ops i o j = false := by
 unfold qJ
 rcases h with ⟨h1, h2⟩ | ⟨h1, h2⟩
 . have : mQ cx fn ops o = false := by
     cases hm : mQ cx fn ops o with
     | false => rfl
     | true => rw [Zm hm] at h1; cases h1
   simp [abf h2, this]
 . simp [h1, h2]
theorem Ec {o : Oper} {i j : Nat} (h : qJ cx fn ops i o j = true) : i < j /\ bQ ops j i = true /\ (aY cx fn ops o = true -> mo cx fn ops j = true) := by
 unfold qJ at h
 simp only [Bool.and_eq_true, Bool.or_eq_true, Bool.not_eq_true'] at h
 obtain ⟨⟨h1, h2⟩, h3⟩ := h
 refine ⟨Nat.blt_eq.mp h1, h2, fun ha => ?_⟩
 rcases h3 with ⟨h3, _⟩ | ⟨_, h3⟩
 . rw [ha] at h3; cases h3
 . exact h3
theorem lU {i j : Nat} (h : bQ ops i j = true) : ∃ o e, ops[i]? = some o /\ e ∈ o.after /\ Region.binds .any e = true /\ e.on = j := by
 unfold bQ at h
 split at h
 . rename_i o ho
   simp only [List.any_eq_true, Bool.and_eq_true] at h
   obtain ⟨e, he, hb, hj⟩ := h
   exact ⟨o, e, ho, by simpa using he, hb, Nat.eq_of_beq_eq_true hj⟩
 . exact absurd h (by simp)
def Uh (cx : Ctx) (N0 : Nat) (ops : Array Oper) (i : Nat) (o : Oper) (tm : List AV) (M : Mm) (v : AV) : Prop :=
 (bB ops o = true /\ v = Cx N0 ops i o) \/ (bB ops o = false /\ ((gq o = true /\ jD cx o tm M = some v) \/ (gq o = false /\ bP cx M tm o = some (true, v))))
def qF (cx : Ctx) (dep : Nat) (o : Oper) (tm : List AV) (M : Mm) (e : AX) (fr' : Fr) (M' : Mm) : Prop :=
 ∃ c f g args dd t, mJ cx o = some (c, f) /\ dep = dd + 1 /\ target cx.P (aC cx.P tm 0 f) (bH cx.P tm c.argTypes.toList c.args.toList) = some (.fn g, args) /\ cx.acts dd g args M = some t /\ ∀ (R : Type) (K : AX -> Fr -> Mm -> Option R), t.go K = K e fr' M'
theorem Hf {R : Type} {K : AX -> Fr -> Mm -> Option R} {r : R} : ∀ {t : LT}, t.go K = some r -> ∃ e fr M, K e fr M = some r /\ ∀ (R' : Type) (K' : AX -> Fr -> Mm -> Option R'), t.go K' = K' e fr M
 | .done e fr M, h => ⟨e, fr, M, h, fun _ _ => rfl⟩
 | .br b x y, h => by
  cases b with
  | true => exact Hf (t := x) h
  | false => exact Hf (t := y) h
 | .fail, h => by cases h
def xk (cx : Ctx) (fn : FuncId) (dep N0 : Nat) (ops : Array Oper) (i : Nat) (o : Oper) (first : Bool) (tm : List AV) (tf : List (Nat × TF)) (tl : List (Nat × (Nat × TF))) (M : Mm) (first1 : Bool) (tm1 : List AV) (tf1 : List (Nat × TF)) (tl1 : List (Nat × (Nat × TF))) (M1 : Mm) : Prop :=
 (aY cx fn ops o = true /\ ∃ v, ((mJ cx o = none /\ gK cx dep o tm (if first then (tl.filter fun x => bQ ops i x.1).map (·.2) ++ tf else tf) M = some (v, tf1, M1)) \/
     (∃ fr', qF cx dep o tm M .ret fr' M1 /\ BQ fr' = false /\ v = fr'.tmps.getD 0 .dead /\ tf1 = gN o.dst (fD (if first then (tl.filter fun x => bQ ops i x.1).map (·.2) ++ tf else tf)) /\ Fa cx fn ops i tm M M1 = true)) /\ tm1 = aT tm o.dst v /\ first1 = false /\ tl1 = []) \/
 (aY cx fn ops o = false /\ ∃ v, Uh cx N0 ops i o tm M v /\ tm1 = aT tm o.dst v /\ M1 = M /\ tf1 = tf /\ first1 = first /\ tl1 = (if first then (match lq cx.P o tm M v with | some x => (i, x) :: tl | none => tl) else []))
structure TRun (cx : Ctx) (fn : FuncId) (dep N0 : Nat) (ops : Array Oper) (n : Nat) (fs : Nat -> Bool) (ts : Nat -> List AV) (tfs : Nat -> List (Nat × TF)) (tls : Nat -> List (Nat × (Nat × TF))) (ms : Nat -> Mm) : Prop where
 le : n <= ops.size
 step : ∀ (i : Nat) (o : Oper), i < n -> ops[i]? = some o -> xk cx fn dep N0 ops i o (fs i) (ts i) (tfs i) (tls i) (ms i) (fs (i + 1)) (ts (i + 1)) (tfs (i + 1)) (tls (i + 1)) (ms (i + 1))
 dyn : qg cx fn ops n (ts n) = true
def CB (cx : Ctx) (fn : FuncId) (dep : Nat) (ops : Array Oper) (i : Nat) (o : Oper) (tm : List AV) (M : Mm) (v : AV) (M1 : Mm) : Prop := aY cx fn ops o = true /\ (∃ fr', qF cx dep o tm M (.panic v) fr' M1) /\ qg cx fn ops i tm = true
theorem Nn {R : Type} {kp : AV -> Mm -> Option R} {k : List AV -> List (Nat × TF) -> Mm -> Option R} {r : R} : ∀ (l : List Oper) (i0 : Nat) (first : Bool) (tm : List AV) (tf : List (Nat × TF)) (tl : List (Nat × (Nat × TF))) (M : Mm), kW cx fn dep N0 ops kp l i0 first tm tf tl M k = some r ->
    ∃ (m : Nat) (fs : Nat -> Bool) (ts : Nat -> List AV) (tfs : Nat -> List (Nat × TF)) (tls : Nat -> List (Nat × (Nat × TF))) (ms : Nat -> Mm), fs 0 = first /\ ts 0 = tm /\ tfs 0 = tf /\ tls 0 = tl /\ ms 0 = M /\ m <= l.length /\
     (∀ i o, i < m -> l[i]? = some o -> xk cx fn dep N0 ops (i0 + i) o (fs i) (ts i) (tfs i) (tls i) (ms i) (fs (i + 1)) (ts (i + 1)) (tfs (i + 1)) (tls (i + 1)) (ms (i + 1))) /\
     ((m = l.length /\ k (ts l.length) (tfs l.length) (ms l.length) = some r) \/ ∃ o v M1, l[m]? = some o /\ CB cx fn dep ops (i0 + m) o (ts m) (ms m) v M1 /\ kp v M1 = some r)
 | [], i0, first, tm, tf, tl, M, h => ⟨0, fun _ => first, fun _ => tm, fun _ => tf, fun _ => tl, fun _ => M, rfl, rfl, rfl, rfl, rfl, Nat.le_refl _, fun i o hi => by omega, .inl ⟨rfl, h⟩⟩
 | o :: l, i0, first, tm, tf, tl, M, h => by
  have go : ∀ {first1 tm1 tf1 tl1 M1}, xk cx fn dep N0 ops i0 o first tm tf tl M first1 tm1 tf1 tl1 M1 -> kW cx fn dep N0 ops kp l (i0 + 1) first1 tm1 tf1 tl1 M1 k = some r ->
      ∃ (m : Nat) (fs : Nat -> Bool) (ts : Nat -> List AV) (tfs : Nat -> List (Nat × TF)) (tls : Nat -> List (Nat × (Nat × TF))) (ms : Nat -> Mm), fs 0 = first /\ ts 0 = tm /\ tfs 0 = tf /\ tls 0 = tl /\ ms 0 = M /\ m <= (o :: l).length /\
       (∀ i o', i < m -> (o :: l)[i]? = some o' -> xk cx fn dep N0 ops (i0 + i) o' (fs i) (ts i) (tfs i) (tls i) (ms i) (fs (i + 1)) (ts (i + 1)) (tfs (i + 1)) (tls (i + 1)) (ms (i + 1))) /\
       ((m = (o :: l).length /\ k (ts (o :: l).length) (tfs (o :: l).length) (ms (o :: l).length) = some r) \/ ∃ o' v M1, (o :: l)[m]? = some o' /\ CB cx fn dep ops (i0 + m) o' (ts m) (ms m) v M1 /\ kp v M1 = some r) := by
   intro first1 tm1 tf1 tl1 M1 hs h1
   obtain ⟨m, fs, ts, tfs, tls, ms, e1, e2, e3, e4, e5, hm, h2, h3⟩ := Nn l (i0 + 1) first1 tm1 tf1 tl1 M1 h1
   refine ⟨m + 1, fun i => match i with | 0 => first | i + 1 => fs i, fun i => match i with | 0 => tm | i + 1 => ts i, fun i => match i with | 0 => tf | i + 1 => tfs i, fun i => match i with | 0 => tl | i + 1 => tls i, fun i => match i with | 0 => M | i + 1 => ms i, rfl, rfl, rfl, rfl, rfl, by simpa using hm, fun i o' hlt hi => ?_, ?_⟩
   . cases i with
     | zero =>
      simp only [List.getElem?_cons_zero, Option.some.injEq] at hi
      subst hi
      show xk cx fn dep N0 ops i0 o first tm tf tl M (fs 0) (ts 0) (tfs 0) (tls 0) (ms 0)
      rw [e1, e2, e3, e4, e5]; exact hs
     | succ i =>
      have := h2 i o' (by omega) (by simpa using hi)
      rw [show i0 + 1 + i = i0 + (i + 1) from by omega] at this
      exact this
   . rcases h3 with ⟨rfl, h3⟩ | ⟨o', v, M1, h4, h5, h6⟩
     . exact .inl ⟨rfl, h3⟩
     . refine .inr ⟨o', v, M1, by simpa using h4, ?_, h6⟩
       rw [show i0 + 1 + m = i0 + (m + 1) from by omega] at h5
       exact h5
  have noFl : (∀ t a, o.op ≠ .load t a) -> ∀ v, lq cx.P o tm M v = none := fun hno v => by
   unfold lq
   split
   . rename_i t a _ _ _ _ ho _; exact absurd ho (hno _ _)
   . rfl
  unfold kW at h
  split at h
  . rename_i hact
    split at h
    . rename_i c f hgen
      split at h
      . rename_i g args dd ht
        split at h
        . rename_i t hacts
          obtain ⟨e, fr', M', hk, hdet⟩ := Hf h
          have hcg : ∀ e', e = e' -> qF cx (dd + 1) o tm M e' fr' M' := fun e' he => ⟨c, f, g, args, dd, t, hgen, rfl, ht, hacts, fun R' K' => by rw [hdet, he]⟩
          cases e with
          | ret =>
           dsimp only at hk
           split at hk
           . exact absurd hk (by simp)
           rename_i hot
           simp only [cond_eq_ite] at hk
           split at hk
           . rename_i hu
             refine go (.inl ⟨hact, _, .inr ⟨fr', hcg _ rfl, by simpa using hot, rfl, ?_, hu⟩, rfl, rfl, rfl⟩) hk
             cases o.dst <;> rfl
           . exact absurd hk (by simp)
          | panic v =>
           simp only at hk
           split at hk
           . rename_i hd
             exact ⟨0, fun _ => first, fun _ => tm, fun _ => tf, fun _ => tl, fun _ => M, rfl, rfl, rfl, rfl, rfl, Nat.zero_le _, fun i o' hlt => by omega, .inr ⟨o, v, M', rfl, ⟨hact, ⟨fr', hcg _ rfl⟩, hd⟩, hk⟩⟩
           . exact absurd hk (by simp)
          | _ => exact absurd hk (by simp)
        . exact absurd h (by simp)
      . exact absurd h (by simp)
    . rename_i hgen
      have h2 : xS cx fn dep o { tmps := tm, tf := if first then (tl.filter fun x => bQ ops i0 x.1).map (·.2) ++ tf else tf } M (fun fr M => kW cx fn dep N0 ops kp l (i0 + 1) false fr.tmps fr.tf [] M k) = some r := h
      rw [Pv hact hgen] at h2
      obtain ⟨v, tf1, M1, e1, e2⟩ := Zw h2
      exact go (.inl ⟨hact, v, .inl ⟨hgen, e1⟩, rfl, rfl, rfl⟩) e2
  . rename_i hact
    have hact : aY cx fn ops o = false := by simpa using hact
    split at h
    . rename_i hal
      have hop : ∀ t a, o.op ≠ .load t a := fun t a e => by simp [bB, Aq, e] at hal
      refine go (.inr ⟨hact, _, .inl ⟨hal, rfl⟩, rfl, rfl, rfl, rfl, ?_⟩) h
      rw [noFl hop]
    . rename_i hal
      have hal : bB ops o = false := by simpa using hal
      split at h
      . rename_i t m x ok hop
        obtain ⟨v, e1, e2⟩ := aam hop h
        refine go (.inr ⟨hact, v, .inr ⟨hal, .inl ⟨by simp [gq, hop], e1⟩⟩, rfl, rfl, rfl, rfl, ?_⟩) e2
        rw [noFl (fun t a e => by rw [hop] at e; cases e)]
      . rename_i hlk
        have hlk' : gq o = false := by
         unfold gq
         split
         . rename_i t m k ok ho; exact absurd ho (hlk t m k ok)
         . rfl
        split at h
        . rename_i ok v hp
          cases ok with
          | false => exact absurd h (by simp)
          | true => exact go (.inr ⟨hact, v, .inr ⟨hal, .inr ⟨hlk', hp⟩⟩, rfl, rfl, rfl, rfl, rfl⟩) h
        . exact absurd h (by simp)
theorem AQ {tm : List AV} {d : Option Nat} {v : AV} : (aT tm d v).length = tm.length := by cases d <;> simp [aT]
theorem uZ {tm : List AV} {d : Option Nat} {v : AV} {t : Nat} (h : d ≠ some t) : (aT tm d v).getD t .dead = tm.getD t .dead := by
 cases d with
 | none => rfl
 | some u => exact ql (fun e => h (by rw [e])) v
variable {fs : Nat -> Bool} {ts : Nat -> List AV} {tfs : Nat -> List (Nat × TF)} {tls : Nat -> List (Nat × (Nat × TF))} {ms : Nat -> Mm}
theorem TRun.dst (h : TRun cx fn dep N0 ops n fs ts tfs tls ms) {i : Nat} {o : Oper} (hi : i < n) (ho : ops[i]? = some o) : ∃ v, ts (i + 1) = aT (ts i) o.dst v := by
 rcases h.step i o hi ho with ⟨_, v, _, h1, _⟩ | ⟨_, v, _, h1, _⟩ <;> exact ⟨v, h1⟩
theorem TRun.len (h : TRun cx fn dep N0 ops n fs ts tfs tls ms) : ∀ i, i <= n -> (ts i).length = (ts 0).length
 | 0, _ => rfl
 | i + 1, hi => by
  have hlt : i < ops.size := Nat.lt_of_lt_of_le hi h.le
  obtain ⟨v, e⟩ := h.dst (i := i) (o := ops[i]) hi (by simp)
  rw [e, AQ]; exact h.len i (by omega)
theorem TRun.keep (h : TRun cx fn dep N0 ops n fs ts tfs tls ms) {t : Nat} {i : Nat} : ∀ k, i <= k -> k <= n -> (∀ (j : Nat) (o : Oper), i <= j -> j < k -> ops[j]? = some o -> o.dst ≠ some t) -> (ts k).getD t .dead = (ts i).getD t .dead
 | 0, hi, _, _ => by rw [show i = 0 from by omega]
 | k + 1, hi, hk, hno => by
  by_cases e : i = k + 1
  . rw [e]
  . have hlt : k < ops.size := Nat.lt_of_lt_of_le hk h.le
    have hs : ops[k]? = some ops[k] := by simp
    obtain ⟨v, e'⟩ := h.dst hk hs
    rw [e', uZ (hno k _ (by omega) (by omega) hs)]
    exact h.keep k (by omega) (by omega) fun j o h1 h2 => hno j o h1 (by omega)
theorem TRun.fin (hR : RegOK cx fn ops) (h : TRun cx fn dep N0 ops n fs ts tfs tls ms) {i : Nat} {o : Oper} (ho : ops[i]? = some o) (hst : AB cx fn ops o) {t : Nat} (ht : t ∈ looks o) {k : Nat} (hik : i <= k) (hk : k <= n) : (ts k).getD t .dead = (ts i).getD t .dead := by
 refine h.keep k hik hk fun j oj h1 h2 hj hd => ?_
 rcases hR.look i o j oj t ho hj hd ht with h3 | h3
 . omega
 . rw [R9 hst] at h3; cases h3
theorem TRun.yields (hR : RegOK cx fn ops) (h : TRun cx fn dep N0 ops n fs ts tfs tls ms) {i : Nat} {o : Oper} (hi : i < n) (ho : ops[i]? = some o) {t : Nat} (ht : o.dst = some t) : (ts n).getD t .dead = (ts (i + 1)).getD t .dead := by
 refine h.keep n (by omega) (Nat.le_refl _) fun j oj h1 h2 hj hd => ?_
 have := hR.one i o j oj t ho hj hd ht
 omega
theorem H7 {P : Program} {o : Oper} (hl : gL o = true) {tm tm' : List AV} (h : ∀ t ∈ looks o, tm.getD t .dead = tm'.getD t .dead) : dV P tm o = dV P tm' o := by
 unfold gL at hl
 split at hl
 . rename_i t a ho
   unfold dV; rw [ho]
   exact fT h (by rw [ho]; simp [Op.operands]) 0
 . rename_i s d x ho
   unfold dV; rw [ho]
   exact fT h (by rw [ho]; simp [Op.operands]) s
 . rename_i t m k ok ho
   unfold dV; rw [ho]
   exact fT h (by rw [ho]; simp [Op.operands]) t
 . exact absurd hl (by simp)
theorem Q7 (A : AV) : kr A .dead = false := by cases A <;> rfl
theorem TW {i j f : Nat} (h : bQ ops i j = true) : reach ops (f + 1) i j = true := by simp [reach, h]
theorem JE {i j : Nat} (h : reach ops 3 i j = false) : bQ ops i j = false := by
 cases hh : bQ ops i j with
 | false => rfl
 | true => rw [TW hh] at h; cases h
theorem WG {A : AV} {M M1 : Mm} (h : H6 A M M1 = true) : bF A M M1 := by
 unfold H6 at h
 unfold bF
 split
 . rename_i r p t o; simpa [pU] using h
 . rename_i r p e o c n; simpa [zJ] using h
 . rename_i r; simpa [zJ] using h
 . trivial
theorem TRun.Xp (hR : RegOK cx fn ops) (hlate : oU cx ops = true) (h : TRun cx fn dep N0 ops n fs ts tfs tls ms) {i j : Nat} {o oj : Oper} (hi : i < n) (hjn : j < n) (ho : ops[i]? = some o) (hl : gL o = true) (hna : aY cx fn ops o = false) (hj : ops[j]? = some oj) (hed : aY cx fn ops oj = true -> reach ops 3 i j = false /\ reach ops 3 j i = false) :
    bF (dV cx.P (ts i) o) (ms j) (ms (j + 1)) := by
 have hst : AB cx fn ops o := .inl ⟨hna, hl⟩
 rcases h.step j oj hjn hj with ⟨hact, v, hor, htm, _⟩ | ⟨_, v, _, _, hM, _⟩
 . obtain ⟨hij', hji'⟩ := hed hact
   have hij := JE hij'
   have hji := JE hji'
   rcases hor with ⟨hgen, hv⟩ | ⟨fr', hcg, _, _, _, hu⟩
   . have hgen' : sD cx oj = false := by simp [sD, hgen]
     have hd := h.dyn
     simp only [qg, List.all_eq_true, List.mem_range] at hd
     have h1 := hd i hi
     rw [ho] at h1
     simp only [hl, hna, Bool.not_false, Bool.and_self, Bool.not_true, Bool.false_or, List.all_eq_true, List.mem_range] at h1
     have h2 := h1 j hjn
     rw [hj] at h2
     simp only [hact, hgen', hij, hji, Bool.not_false, Bool.and_self, Bool.true_or, Bool.not_true, Bool.false_or] at h2
     rw [H7 hl (fun t ht => TRun.fin hR h ho hst ht (Nat.le_of_lt hi) (Nat.le_refl _))] at h2
     refine aaA hv ?_
     have key : dV cx.P (ts n) oj = zL cx.P oj (ts j) v \/ dV cx.P (ts n) oj = .dead := by
      have hdst : ∀ t, oj.dst = some t -> (ts n).getD t .dead = v \/ (ts n).getD t .dead = .dead := by
       intro t ht
       rw [TRun.yields hR h hjn hj ht, htm, ht]
       by_cases hlt : t < (ts j).length
       . left; show ((ts j).set t v).getD t .dead = v; exact gP hlt
       . right
         have hge : ((ts j).set t v).length <= t := by rw [List.length_set]; exact Nat.le_of_not_lt hlt
         show ((ts j).set t v).getD t .dead = .dead
         simp only [List.getD, List.getElem?_eq_none hge, Option.getD_none]
      have hact' := hact
      unfold aY at hact'
      unfold dV zL
      have hD : (match oj.dst with | some t => (ts n).getD t .dead | none => AV.dead) = v \/ (match oj.dst with | some t => (ts n).getD t .dead | none => AV.dead) = .dead := by
       cases hd2 : oj.dst with
       | none => exact .inr rfl
       | some t => exact hdst t hd2
      split at hact'
      . rename_i t a x hop
        have hst2 : AB cx fn ops oj := .inr ⟨hact, by simp [mQ, hop]⟩
        rw [hop]
        left
        exact fT (fun t ht => TRun.fin hR h hj hst2 ht (Nat.le_of_lt hjn) (Nat.le_refl _)) (by rw [hop]; simp [Op.operands]) 0
      . rename_i t x hop; rw [hop]; exact hD
      . rename_i t x c hop; rw [hop]; exact hD
      . rename_i t hop; rw [hop]; exact hD
      . rename_i x hop; rw [hop]; exact .inl rfl
      . rename_i x hop; rw [hop]; exact .inl rfl
      . rename_i c hop
        rw [hop]
        simp only
        cases hcl : c.callee with
        | builtin b => exact .inl rfl
        | value f => exact hD
        | _ => rw [hcl] at hact'; exact absurd hact' (by simp)
      . exact absurd hact' (by simp)
     rcases key with e | e
     . rw [<- e]; exact h2
     . rw [e, Q7] at h2; cases h2
   . obtain ⟨c, f, g, args, dd, t, hgen, _⟩ := hcg
     have hgen' : sD cx oj = true := by simp [sD, hgen]
     have hlt : i < j := by
      rcases Nat.lt_trichotomy i j with h1 | h1 | h1
      . exact h1
      . subst h1; rw [ho] at hj; obtain rfl := Option.some.inj hj; rw [hact] at hna; cases hna
      . simp only [oU, List.all_eq_true, List.mem_range] at hlate
        have h2 := hlate j (dI hj)
        have h3 : pX cx ops j = true := by unfold pX; rw [hj]; exact hgen'
        simp only [h3, Bool.not_true, Bool.false_or, List.all_eq_true, List.mem_range] at h2
        have h4 := h2 i (dI ho)
        rw [hij', Bool.or_false] at h4
        have := Nat.ble_eq.mp h4
        omega
     simp only [Fa, List.all_eq_true, List.mem_range] at hu
     have h1 := hu i hlt
     rw [ho] at h1
     simp only [hl, hna, hji', Bool.not_false, Bool.and_self, Bool.not_true, Bool.false_or] at h1
     rw [H7 hl (fun t ht => TRun.fin hR h ho hst ht (Nat.le_of_lt hlt) (Nat.le_of_lt hjn))] at h1
     exact WG h1
 . rw [hM]; exact bF.refl _ _
theorem TRun.Gy (hR : RegOK cx fn ops) (hlate : oU cx ops = true) (h : TRun cx fn dep N0 ops n fs ts tfs tls ms) {i : Nat} {o : Oper} (hi : i < n) (ho : ops[i]? = some o) (hl : gL o = true) (hna : aY cx fn ops o = false) {b : Nat} :
    ∀ c, b <= c -> c <= n -> (∀ (j : Nat) (oj : Oper), b <= j -> j < c -> ops[j]? = some oj -> aY cx fn ops oj = true -> reach ops 3 i j = false /\ reach ops 3 j i = false) -> bF (dV cx.P (ts i) o) (ms b) (ms c)
 | 0, hb, _, _ => by rw [show b = 0 from by omega]; exact bF.refl _ _
 | c + 1, hb, hc, hno => by
  by_cases e : b = c + 1
  . rw [e]; exact bF.refl _ _
  . have hlt : c < ops.size := Nat.lt_of_lt_of_le hc h.le
    have hs : ops[c]? = some ops[c] := by simp
    exact (h.Gy hR hlate hi ho hl hna c (by omega) (by omega) fun j oj h1 h2 => hno j oj h1 (by omega)).trans (TRun.Xp hR hlate h hi hc ho hl hna hs (hno c _ (by omega) (by omega) hs))
theorem TRun.same (h : TRun cx fn dep N0 ops n fs ts tfs tls ms) {b : Nat} : ∀ c, b <= c -> c <= n -> (∀ (j : Nat) (oj : Oper), b <= j -> j < c -> ops[j]? = some oj -> aY cx fn ops oj = false) -> ms c = ms b /\ tfs c = tfs b /\ fs c = fs b
 | 0, hb, _, _ => by rw [show b = 0 from by omega]; exact ⟨rfl, rfl, rfl⟩
 | c + 1, hb, hc, hno => by
  by_cases e : b = c + 1
  . rw [e]; exact ⟨rfl, rfl, rfl⟩
  . have hlt : c < ops.size := Nat.lt_of_lt_of_le hc h.le
    have hs : ops[c]? = some ops[c] := by simp
    have hns := hno c _ (by omega) (by omega) hs
    rcases h.step c _ hc hs with ⟨ha, _⟩ | ⟨_, v, _, _, hM, hF, hfst, _⟩
    . rw [hns] at ha; cases ha
    . obtain ⟨e1, e2, e3⟩ := h.same c (by omega) (by omega) fun j oj h1 h2 => hno j oj h1 (by omega)
      exact ⟨hM.trans e1, hF.trans e2, hfst.trans e3⟩
def wrote (ops : Array Oper) (listed : Array Bool) (t : Nat) : Bool := (List.range ops.size).any fun j => listed.getD j false && decide (kS ops j = some t)
def dQ (ops : Array Oper) (n : Nat) (ts : Nat -> List AV) (listed : Array Bool) : List AV := (List.range (ts 0).length).map fun t => if wrote ops listed t then (ts n).getD t .dead else (ts 0).getD t .dead
def Among (n : Nat) (listed : Array Bool) : Prop := ∀ j, listed.getD j false = true -> j < n
theorem mD {listed : Array Bool} {t : Nat} : wrote ops listed t = true ↔ ∃ (j : Nat) (oj : Oper), ops[j]? = some oj /\ listed.getD j false = true /\ oj.dst = some t := by
 simp only [wrote, List.any_eq_true, List.mem_range, Bool.and_eq_true, decide_eq_true_eq]
 constructor
 . rintro ⟨j, hj, h1, h2⟩
   refine ⟨j, ops[j], by simp, h1, ?_⟩
   unfold kS at h2
   simpa [hj] using h2
 . rintro ⟨j, oj, hj, h1, h2⟩
   refine ⟨j, dI hj, h1, ?_⟩
   unfold kS
   rw [hj]; exact h2
theorem jL {listed : Array Bool} : (dQ ops n ts listed).length = (ts 0).length := by simp [dQ]
theorem lI {l : List AV} {t : Nat} (h : l.length <= t) : l.getD t .dead = .dead := by simp [List.getD, List.getElem?_eq_none h]
theorem qX (h : TRun cx fn dep N0 ops n fs ts tfs tls ms) {listed : Array Bool} (t : Nat) : (dQ ops n ts listed).getD t .dead = if wrote ops listed t then (ts n).getD t .dead else (ts 0).getD t .dead := by
 by_cases ht : t < (ts 0).length
 . simp [dQ, List.getD, ht]
 . rw [lI (by rw [jL]; omega), lI (l := ts 0) (by omega), lI (l := ts n) (by rw [h.len _ (Nat.le_refl _)]; omega)]
   simp
theorem vB {l m : List AV} (hl : l.length = m.length) (h : ∀ t, l.getD t .dead = m.getD t .dead) : l = m := by
 apply List.ext_getElem hl
 intro i h1 h2
 have := h i
 simpa [List.getD, h1, h2] using this
theorem JI (hR : RegOK cx fn ops) (h : TRun cx fn dep N0 ops n fs ts tfs tls ms) {listed : Array Bool} (ham : Among n listed) (hc : Closed ops listed) {i : Nat} {o : Oper} (hi : i <= n) (ho : ops[i]? = some o) (hun : listed.getD i false = false) (hre : ∀ e ∈ o.after, Region.binds .any e = true -> listed.getD e.on false = true) {t : Nat} (ht : t ∈ looks o) :
    (dQ ops n ts listed).getD t .dead = (ts i).getD t .dead := by
 rw [qX h]
 by_cases hx : ∃ (j : Nat) (oj : Oper), ops[j]? = some oj /\ oj.dst = some t
 . obtain ⟨j, oj, hj, hd⟩ := hx
   rcases hR.look i o j oj t ho hj hd ht with ⟨h1, h2⟩ | h3
   . obtain ⟨o', e, ho', he, hb, hon⟩ := lU h2
     rw [ho] at ho'
     obtain rfl := Option.some.inj ho'
     have := hre e he hb
     rw [hon] at this
     rw [if_pos (mD.2 ⟨j, oj, hj, this, hd⟩)]
     refine h.keep n hi (Nat.le_refl _) fun k ok h3 _ hk hdk => ?_
     have := hR.one j oj k ok t hj hk hdk hd
     omega
   . obtain ⟨h1, h2, _⟩ := Ec h3
     rw [if_neg (fun hw => by
      obtain ⟨k, ok, hk, hl, hdk⟩ := mD.1 hw
      have := hR.one j oj k ok t hj hk hdk hd
      subst this
      obtain ⟨o', e, ho', he, hb, hon⟩ := lU h2
      have := hc k o' ho' hl e he hb
      rw [hon, hun] at this
      cases this)]
     refine (h.keep i (Nat.zero_le _) hi fun k ok _ h4 hk hdk => ?_).symm
     have := hR.one j oj k ok t hj hk hdk hd
     omega
 . rw [if_neg (fun hw => by obtain ⟨j, oj, hj, _, hd⟩ := mD.1 hw; exact hx ⟨j, oj, hj, hd⟩)]
   exact (h.keep i (Nat.zero_le _) hi fun j oj _ _ hj hd => hx ⟨j, oj, hj, hd⟩).symm
theorem Ba (hR : RegOK cx fn ops) (h : TRun cx fn dep N0 ops n fs ts tfs tls ms) {listed : Array Bool} (hs : listed.size = ops.size) {i : Nat} {o : Oper} (hin : i < n) (ho : ops[i]? = some o) {v : AV} (hv : ts (i + 1) = aT (ts i) o.dst v) :
    aT (dQ ops n ts listed) o.dst v = dQ ops n ts (listed.setIfInBounds i true) := by
 refine vB (by rw [AQ, jL, jL]) fun t => ?_
 rw [qX h]
 have hi := dI ho
 by_cases hd : o.dst = some t
 . have hw : wrote ops (listed.setIfInBounds i true) t = true := mD.2 ⟨i, o, ho, by simp [Array.getD, hs, hi], hd⟩
   rw [if_pos hw, h.keep (i := i + 1) n (by omega) (Nat.le_refl _) fun j oj h1 h2 hj hdj => by
    have := hR.one i o j oj t ho hj hdj hd
    omega, hv, hd]
   simp only [aT]
   by_cases ht : t < (ts 0).length
   . rw [gP (by rw [jL]; exact ht), gP (by rw [h.len i (by omega)]; exact ht)]
   . rw [lI (by rw [List.length_set, jL]; omega), lI (by rw [List.length_set, h.len i (by omega)]; omega)]
 . rw [uZ hd, qX h]
   have hw : wrote ops (listed.setIfInBounds i true) t = wrote ops listed t := by
    rw [Bool.eq_iff_iff, mD, mD]
    constructor
    . rintro ⟨j, oj, hj, h1, h2⟩
      by_cases e : j = i
      . subst e; rw [ho] at hj; obtain rfl := Option.some.inj hj; exact absurd h2 hd
      . exact ⟨j, oj, hj, by rwa [Go.getD_set_ne false (Ne.symm e)] at h1, h2⟩
    . rintro ⟨j, oj, hj, h1, h2⟩
      exact ⟨j, oj, hj, getD_set_true h1, h2⟩
   rw [hw]
theorem XV (h : TRun cx fn dep N0 ops n fs ts tfs tls ms) {listed : Array Bool} (hall : ∀ j, j < n -> listed.getD j false = true) : dQ ops n ts listed = ts n := by
 refine vB (by rw [jL, h.len _ (Nat.le_refl _)]) fun t => ?_
 rw [qX h]
 split
 . rfl
 . rename_i hw
   exact (h.keep n (Nat.zero_le _) (Nat.le_refl _) fun j oj _ hlt hj hd => hw (mD.2 ⟨j, oj, hj, hall j hlt, hd⟩)).symm
theorem K6 (h : TRun cx fn dep N0 ops n fs ts tfs tls ms) : dQ ops n ts (Array.replicate ops.size false) = ts 0 := by
 refine vB jL fun t => ?_
 rw [qX h, if_neg]
 intro hw
 obtain ⟨j, oj, hj, h1, _⟩ := mD.1 hw
 have := dI hj
 simp [Array.getD, this] at h1
def un (n : Nat) (listed : Array Bool) : Nat := ((List.range n).filter fun j => !(listed.getD j false)).length
theorem filter_lt {p q : Nat -> Bool} : ∀ (l : List Nat), (∀ j, q j = true -> p j = true) -> (∃ i, i ∈ l /\ p i = true /\ q i = false) -> (l.filter q).length < (l.filter p).length
 | [], _, ⟨i, hi, _⟩ => by simp at hi
 | x :: l, hpq, ⟨i, hi, h1, h2⟩ => by
  have mono : (l.filter q).length <= (l.filter p).length := by
   clear hi
   induction l with
   | nil => simp
   | cons y l ih =>
    simp only [List.filter_cons]
    cases hq : q y with
    | true => rw [hpq y hq]; simpa using ih
    | false => cases p y <;> simp <;> omega
  simp only [List.filter_cons]
  rcases List.mem_cons.1 hi with rfl | hi
  . rw [h1, h2]; simp; omega
  . have := filter_lt l hpq ⟨i, hi, h1, h2⟩
    cases hq : q x with
    | true => rw [hpq x hq]; simpa using this
    | false => cases p x <;> simp <;> omega
theorem adr {n : Nat} {listed : Array Bool} {i : Nat} (hs : listed.size = n) (hi : i < n) (h : listed.getD i false = false) : un n (listed.setIfInBounds i true) < un n listed := by
 refine filter_lt _ (fun j hj => ?_) ⟨i, List.mem_range.2 hi, by simp [h], by simp [Array.getD, hs, hi]⟩
 by_cases e : j = i
 . subst e; simp [h]
 . rwa [Go.getD_set_ne false (Ne.symm e)] at hj
theorem acP {n : Nat} {listed : Array Bool} (h : un n listed <= 0) : ∀ j, j < n -> listed.getD j false = true := by
 intro j hj
 have h0 : ((List.range n).filter fun j => !(listed.getD j false)) = [] := List.length_eq_zero_iff.1 (by unfold un at h; omega)
 cases hl : listed.getD j false with
 | true => rfl
 | false =>
  have : j ∈ (List.range n).filter fun j => !(listed.getD j false) := List.mem_filter.2 ⟨List.mem_range.2 hj, by simp [hl]⟩
  rw [h0] at this
  cases this
theorem UC (hR : RegOK cx fn ops) {listed : Array Bool} (hs : listed.size = ops.size) (h : Region.ready .any ops listed = []) : ∀ j, j < ops.size -> listed.getD j false = true := by
 intro j
 induction j using Nat.strongRecOn with
 | ind j ih =>
  intro hj
  cases hl : listed.getD j false with
  | true => rfl
  | false =>
   have : j ∈ Region.ready .any ops listed := mem_ready.2 ⟨by simpa [Array.getD, hs, hj] using hl, ops[j], by simp, fun e he hb => by
    have hlt := hR.back j ops[j] e (by simp) he hb
    exact ih e.on hlt (by omega)⟩
   rw [h] at this
   cases this
theorem TRun.first (h : TRun cx fn dep N0 ops n fs ts tfs tls ms) : ∀ c, c <= n -> fs c = true -> ∀ b, b <= c -> fs b = true
 | 0, _, hf, b, hb => by rw [show b = 0 from by omega]; exact hf
 | c + 1, hc, hf, b, hb => by
  by_cases e : b = c + 1
  . rw [e]; exact hf
  . have hlt : c < ops.size := Nat.lt_of_lt_of_le hc h.le
    have hs : ops[c]? = some ops[c] := by simp
    rcases h.step c _ hc hs with ⟨_, _, _, _, hf2, _⟩ | ⟨_, _, _, _, _, _, hf2, _⟩
    . rw [hf] at hf2; cases hf2
    . exact h.first c (by omega) (by rw [<- hf2]; exact hf) b (by omega)
theorem TRun.none (h : TRun cx fn dep N0 ops n fs ts tfs tls ms) (c : Nat) (hc : c <= n) (hf : fs c = true) (j : Nat) (oj : Oper) (hj : j < c) (ho : ops[j]? = some oj) : aY cx fn ops oj = false := by
 have h1 := h.first c hc hf (j + 1) (by omega)
 rcases h.step j oj (by omega) ho with ⟨_, _, _, _, hf2, _⟩ | ⟨hn, _⟩
 . rw [h1] at hf2; cases hf2
 . exact hn
end
end Go.AE
namespace Go.AE
open Go.RowKit Go.Lib Go.MapKept
section
variable {cx : Ctx} {N d : Nat} {S : Nat -> Nat -> Prop} {w0 : World} {g : G} {M : Mm} {a : Act} {w : World} {o : Oper}
def xV (tf : List (Nat × TF)) : Prop := ∀ t s, (t, TF.viaT s) ∈ tf -> (s, TF.own) ∈ tf
theorem Rel.sub {tm : List AV} {tf tf' : List (Nat × TF)} (h : Rel (Env.mk (Ctx.P cx) N S w0) d g ⟨tm, tf⟩ M a w) (h1 : ∀ x ∈ tf', x ∈ tf) (h2 : xV tf') : Rel (Env.mk (Ctx.P cx) N S w0) d g ⟨tm, tf'⟩ M a w :=
 ⟨h.below, h.hN, h.fresh, h.size, h.tmps, h.lenr, h.rows, h.inj, fun t ht => h.own t (h1 _ ht), fun t s ht => ⟨h2 t s ht, (h.viaT t s (h1 _ ht)).2⟩, fun t r p ht => h.viaR t r p (h1 _ ht), h.ro⟩
theorem Rel.iB {tm : List AV} {tf : List (Nat × TF)} (h : Rel (Env.mk (Ctx.P cx) N S w0) d g ⟨tm, tf⟩ M a w) : xV tf := fun t s ht => (h.viaT t s ht).1
theorem MZ {tf : List (Nat × TF)} (h : ∀ x ∈ tf, ∀ s, x.2 ≠ .viaT s) : xV tf := fun t s ht => absurd rfl (h _ ht s)
theorem aaW {tm : List AV} {tf : List (Nat × TF)} (hr : Rel (Env.mk (Ctx.P cx) N S w0) d g ⟨tm, tf⟩ M a w) {v : AV} (h : jD cx o tm M = some v) :
    ∃ c, (execOp a.eval o).run cx.P w = .ok (.value c) w /\ aK cx.P (aI (Env.mk (Ctx.P cx) N S w0) g w) v c := by
 unfold jD at h
 split at h
 . rename_i t m k ok ho
   split at h
   . rename_i kt et hu
     split at h
     . rename_i hc
       simp only [Bool.and_eq_true] at hc
       obtain ⟨⟨hkt, hkf⟩, hz⟩ := hc
       have hkv := hr.aC kt k
       have hmv := hr.aC t m
       have hmv : aK cx.P (aI (Env.mk (Ctx.P cx) N S w0) g w) (aC cx.P tm t m) (a.eval m) := hmv
       have hkv : aK cx.P (aI (Env.mk (Ctx.P cx) N S w0) g w) (aC cx.P tm kt k) (a.eval k) := hkv
       obtain ⟨dd, hd, hik⟩ := yx hkv hkt hkf
       obtain ⟨z, hzr, hzv⟩ := wW (qm hz)
       have fin : ∀ (u : AV) (c : Value) (b : Bool), aK cx.P (aI (Env.mk (Ctx.P cx) N S w0) g w) u c -> (execOp a.eval o).run cx.P w = .ok (.value (if ok then .tuple #[c, .bool b] else c)) w -> (if ok then AV.tuple [u, .bool b] else u) = v -> ∃ c, (execOp a.eval o).run cx.P w = .ok (.value c) w /\ aK cx.P (aI (Env.mk (Ctx.P cx) N S w0) g w) v c := by
        intro u c b hvc hrun hk
        refine ⟨_, hrun, ?_⟩
        subst hk
        cases ok
        . exact hvc
        . have : rel cx.P (aI (Env.mk (Ctx.P cx) N S w0) g w) (.tuple [u, .bool b]) [.tuple #[c, .bool b]] := ⟨_, rfl, jX hvc (jX (eG.2 rfl) rfl)⟩
          exact bR this rfl
       split at h
       . rename_i hm
         rw [hm] at hmv
         have hmc : a.eval m = .map none := by simpa [rel] using iH rfl hmv
         refine fin _ z false (hzv _) ?_ (Option.some.inj h)
         have e1 := run_checkKey (w := w) hd hik true 9999
         have e2 : (Instr.findKey kt (a.eval k) []).run cx.P w = .ok none w := run_findKey hd rfl
         simp [execOp, ho, Instr.lookup, run_underlying hu, hmc, e1, e2, hzr]
       . rename_i rr hm
         rw [hm] at hmv
         obtain ⟨b, k0, e0, hrow, hmc⟩ := Ez hmv
         split at h
         . rename_i kt' et' es hrw
           split at h
           . rename_i hc
             simp only [Bool.and_eq_true] at hc
             have q1 := Nat.eq_of_beq_eq_true hc.1
             have q2 := Nat.eq_of_beq_eq_true hc.2
             subst q1
             subst q2
             have hro := (hr.rows rr b _ hrow).2.2.2
             rw [hrw] at hro
             obtain ⟨_, ces, clock, hheap, hrel⟩ := hro
             have hheap : w.heap[b]? = some (.map ces clock) := hheap
             have e1 := run_checkKey (w := w) hd hik ces.isEmpty 9999
             rcases GR hd hkv hik es ces.toList 0 hrel h with ⟨k1, k2⟩ | ⟨j, u, cv, k1, k2, k3, k4⟩
             . refine fin _ z false (hzv _) ?_ (Option.some.inj k2)
               have e2 := run_findKey (w := w) hd k1
               simp [execOp, ho, Instr.lookup, run_underlying hu, hmc, MapKept.run_getObj_map hheap, e1, e2, hzr]
             . refine fin u cv true k2 ?_ (Option.some.inj k4)
               have e2 := run_findKey (w := w) hd k1
               simp [execOp, ho, Instr.lookup, run_underlying hu, hmc, MapKept.run_getObj_map hheap, e1, e2]
           . exact absurd h (by simp)
         . exact absurd h (by simp)
       . exact absurd h (by simp)
     . exact absurd h (by simp)
   . exact absurd h (by simp)
 . exact absurd h (by simp)
theorem wC {o : Oper} {tm : List AV} {M : Mm} {v : AV} {x : Nat × TF} (h : lq cx.P o tm M v = some x) : ∃ t a r p t' off e l ex, o.op = .load t a /\ o.dst = some x.1 /\ v = .slice e l ex /\ aC cx.P tm 0 a = .ptr r p t' off /\ iF r p M.ro = true /\ x.1 < tm.length /\ x.2 = .viaR r p := by
 unfold lq at h
 split at h
 . rename_i t a d e l ex ho hd
   split at h
   . rename_i r p t' off hp
     split at h
     . rename_i hc
       simp only [Bool.and_eq_true] at hc
       simp only [Option.some.injEq] at h
       subst h
       exact ⟨t, a, r, p, t', off, e, l, ex, ho, hd, rfl, hp, hc.1, Nat.blt_eq.mp hc.2, rfl⟩
     . exact absurd h (by simp)
   . exact absurd h (by simp)
 . exact absurd h (by simp)
theorem JV {t : Nat} {x : Nat × TF} {tf : List (Nat × TF)} (h : x ∈ tf) (h1 : ∀ u, nm x u -> u ≠ t) : x ∈ aV t tf := by
 obtain ⟨i, f⟩ := x
 exact vS h (h1 i (.inl rfl)) (fun e => h1 t (.inr e) rfl)
theorem survives {d : Option Nat} {tf : List (Nat × TF)} {x : Nat × TF} (hx : x ∈ tf) (h : ∀ u, nm x u -> d ≠ some u) : x ∈ gN d tf := by
 cases d with
 | none => exact hx
 | some t => exact JV hx fun u hu e => h u hu (by rw [e])
theorem Ke {ro : Option Nat} {ops : Array Oper} {Q : Exit -> Act -> World -> Prop} {K : Act -> World -> Prop} {i : Nat} (hG : cx.Good) {tm : List AV} {tf : List (Nat × TF)} (hr : Rel (Env.mk (Ctx.P cx) N S w0) d g ⟨tm, tf⟩ M a w) (ho : ops[i]? = some o) (hgd : o.guard = none) {v : AV}
    (hv : (gq o = true /\ jD cx o tm M = some v) \/ (gq o = false /\ bP cx M tm o = some (true, v)))
    (hK : ∀ c w' tf', Below w.heap.size w w' -> Rel (Env.mk (Ctx.P cx) N S w0) d g ⟨aT tm o.dst v, tf'⟩ M (a.put o.dst c) w' -> (∀ x ∈ tf, (∀ u, nm x u -> o.dst ≠ some u) -> x ∈ tf') -> (∀ x, lq cx.P o tm M v = some x -> x ∈ tf') -> K (a.put o.dst c) w') :
    wpOpIn (W ro) 0 cx.P ops Q i K a w := by
 unfold wpOpIn
 simp only [ho]
 have hwt : Region.wanted o (yielded ops a.tmps) = true := by simp [Region.wanted, hgd]
 rcases hv with ⟨hlk, hv⟩ | ⟨hlk, hv⟩
 . rw [if_pos hwt]
   obtain ⟨c, hrun, hvc⟩ := aaW hr hv
   refine gu.of_wp (fun c e => by simp [gq, e] at hlk) (gU ⟨c, w, hrun, hK c w (gN o.dst tf) (Below.refl _ _) ?_ (fun x hx hn => survives hx hn) fun x hx => ?_⟩)
   . have := hr.set o.dst hvc
     rwa [jk] at this
   . obtain ⟨t, a, r, p, t', off, e, l, ex, hop, _⟩ := wC hx
     simp [gq, hop] at hlk
 . by_cases hfl : ∃ x, lq cx.P o tm M v = some x
   . rw [if_pos hwt]
     obtain ⟨x, hx0⟩ := hfl
     obtain ⟨t, ad, r, p, t', off, e, l, ex, hop, hdst, rfl, hptr, hro, hlt, hvia⟩ := wC hx0
     have hload : okV (jq cx.P M t (aC cx.P tm 0 ad)) = some (true, .slice e l ex) := by
      have := hv
      simp only [bP, hop] at this
      exact this
     have hld := (iY hload).1
     have hpx := hr.aC 0 ad
     have hpx : aK cx.P (aI (Env.mk (Ctx.P cx) N S w0) g w) (aC cx.P tm 0 ad) (a.eval ad) := hpx
     rw [hptr] at hpx hld
     simp only [jq] at hld
     split at hld
     . rename_i hlk2
       have hvv := Md (Option.some.inj hld)
       obtain ⟨c, b, root, h1, h2, h3, h4, h5, h6⟩ := KU hr hpx hlk2 hvv
       have hset := hr.set o.dst h2
       refine gu.of_wp (fun c' e => by rw [hop] at e; cases e) (gU ⟨c, w, by simp [execOp, hop, h1], hK c w (x :: aV x.1 tf) (Below.refl _ _) ?_ (fun y hy hn => ?_) fun y hy => ?_⟩)
       . rw [hdst] at hset ⊢
         have := hset.yt (jw hlt _) (za hro) h3 h4 h5 (by rw [ko hr hlt]; exact h6)
         have e2 : x = (x.1, TF.viaR r p) := by rw [<- hvia]
         rw [e2]
         exact this
       . refine List.mem_cons_of_mem _ (JV hy fun u hu e => hn u hu (by rw [hdst, e]))
       . rw [hx0] at hy
         obtain rfl := Option.some.inj hy
         exact List.mem_cons_self
     . exact absurd hld (by simp)
   . have habs : je cx M ops o tm = some v := by
       unfold je
       rw [hgd, hv]
     refine Al hG hr habs fun c w' hb hvc => ?_
     have hset := (hr.grown hb).set o.dst hvc
     rw [jk] at hset
     exact hK c w' _ hb hset (fun x hx hn => survives hx hn) fun x hx => absurd ⟨x, hx⟩ hfl
end
section
variable {E : Env} {d : Nat} {g : G} {fr : Fr} {M : Mm} {a : Act} {w : World}
def G.blk (g : G) (b : Nat) : G := ⟨g.rows, fun k => if k = b then .row else g.cls k⟩
theorem Nk (h : Rel E d g fr M a w) (o : Obj) : Ext E d g w (g.blk w.heap.size) (w.alloc o) := by
 have hne : ∀ b, b < w.heap.size -> (g.blk w.heap.size).cls b = g.cls b := fun b hb => if_neg (by omega)
 exact ⟨fun r z hz => hz, fun b o v hs hc => GA (hne b (jl hc)) hs, fun b o' v _ hc => (((Below.refl w.heap.size w).alloc (Nat.le_refl _) o).cell (p := ⟨b, o', none⟩) (jl hc)).trans hc, fun b d' i u _ hb _ => ⟨hne b hb, Below.heap_alloc w o b hb⟩, by rw [jR]; omega, fun b hb => (Below.heap_alloc w o b (pW hb)).trans hb⟩
theorem Rel.abe (h : Rel E d g fr M a w) (o : Obj) : Rel E d (g.blk w.heap.size) fr M a (w.alloc o) := by
 have hx := Nk h o
 have hle := hx.le
 have hne : ∀ b, b < w.heap.size -> (g.blk w.heap.size).cls b = g.cls b := fun b hb => if_neg (by omega)
 have hcell : ∀ b o' v, w.cell? ⟨b, o', none⟩ = some v -> (w.alloc o).cell? ⟨b, o', none⟩ = some v := fun b o' v hc => (((Below.refl w.heap.size w).alloc (Nat.le_refl _) o).cell (p := ⟨b, o', none⟩) (jl hc)).trans hc
 have hown : ∀ {o' : Onr} {e : TypeId} {v : Value}, bK E g w o' e v -> bK E (g.blk w.heap.size) (w.alloc o) o' e v := fun k => k.le fun b u _ hlt _ => ⟨hne b hlt, Below.heap_alloc w o b hlt⟩
 refine ⟨h.below.alloc h.hN o, Nat.le_trans h.hN (by rw [jR]; omega), fun b hlt => ?_, h.size, fun i => fF hle (h.tmps i), h.lenr, ?_, h.inj, ?_, h.viaT, ?_, ?_⟩
 . have hb : w.heap.size < b := by rw [jR] at hlt; omega
   show (if b = w.heap.size then _ else _) = _
   rw [if_neg (by omega)]
   exact h.fresh b (by omega)
 . intro r b root' hr
   obtain ⟨k1, k2, k3, k4⟩ := h.rows r b root' hr
   exact ⟨k1, by rw [jR]; omega, (hne b k2).trans k3, k4.le hle (Below.heap_alloc w o b k2)⟩
 . intro t ht
   obtain ⟨e, l, ex, k1, k2⟩ := h.own t ht
   exact ⟨e, l, ex, k1, hown k2⟩
 . intro t r p ht
   obtain ⟨k1, e, l, ex, k2, b, root', ty, off, k3, k4, k5, k6⟩ := h.viaR t r p ht
   exact ⟨k1, e, l, ex, k2, b, root', ty, off, k3, k4, k5, hcell _ _ _ k6⟩
 . intro r p ht
   obtain ⟨b, root', ty, off, e, v, k1, k2, k3, k4, k5⟩ := h.ro r p ht
   exact ⟨b, root', ty, off, e, v, k1, k2, k3, hcell _ _ _ k4, hown k5⟩
def G.add (g : G) (b : Nat) (root : Root) : G := ⟨g.rows ++ [(b, root)], g.cls⟩
theorem II (g : G) (b : Nat) (root : Root) : Ext E d g w (g.add b root) w :=
 ⟨fun r z hz => by
  show (g.rows ++ _)[r]? = _
  rw [List.getElem?_append_left (List.getElem?_eq_some_iff.1 hz).1]; exact hz, fun _ _ _ h _ => h, fun _ _ _ _ h => h, fun _ _ _ _ _ _ _ => ⟨rfl, rfl⟩, Nat.le_refl _, fun _ h => h⟩
theorem Rel.VZ (h : Rel E d g fr M a w) {b : Nat} {root : Root} {row : Row} (h1 : E.N <= b) (h2 : b < w.heap.size) (h3 : g.cls b = .row) (h4 : ∀ (r : Nat) (root' : Root), g.rows[r]? ≠ some (b, root')) (h5 : ∀ x : X, x.w = w -> gH E.P x b root row) (hcl : jU row = .row := by rfl) :
    Rel E d (g.add b root) fr { M with rows := M.rows ++ [row] } a w := by
 have hx : Ext E d g w (g.add b root) w := II g b root
 have hle := hx.le
 have hown : ∀ {o' : Onr} {e : TypeId} {v : Value}, bK E g w o' e v -> bK E (g.add b root) w o' e v := fun k => k.le fun b u _ hlt _ => ⟨rfl, rfl⟩
 refine ⟨h.below, h.hN, h.fresh, h.size, fun i => fF hle (h.tmps i), by simp [G.add, h.lenr], ?_, ?_, ?_, h.viaT, ?_, ?_⟩
 . intro r b' root' hr
   rcases qy hr with hr | ⟨rfl, hr'⟩
   . obtain ⟨k1, k2, k3, k4⟩ := h.rows r b' root' hr
     have hlt := (List.getElem?_eq_some_iff.1 hr).1
     have : (M.rows ++ [row]).getD r (.arr 0 []) = M.rows.getD r (.arr 0 []) := by
      rw [h.lenr] at hlt
      simp [List.getD, List.getElem?_append_left hlt]
     rw [this]
     exact ⟨k1, k2, k3, k4.le hle rfl⟩
   . obtain ⟨rfl, rfl⟩ := Prod.mk.inj hr'
     have : (M.rows ++ [row]).getD g.rows.length (.arr 0 []) = row := by rw [h.lenr]; simp [List.getD]
     rw [this]
     exact ⟨h1, h2, h3.trans hcl.symm, h5 _ rfl⟩
 . intro r r' b' root1 root2 h6 h7
   rcases qy h6 with k1 | ⟨k1, k1'⟩ <;> rcases qy h7 with k2 | ⟨k2, k2'⟩
   . exact h.inj r r' b' _ _ k1 k2
   . obtain ⟨rfl, _⟩ := Prod.mk.inj k2'
     exact absurd k1 (h4 _ _)
   . obtain ⟨rfl, _⟩ := Prod.mk.inj k1'
     exact absurd k2 (h4 _ _)
   . rw [k1, k2]
 . intro t ht
   obtain ⟨e, l, ex, k1, k2⟩ := h.own t ht
   exact ⟨e, l, ex, k1, hown k2⟩
 . intro t r p ht
   obtain ⟨k1, e, l, ex, k2, b', root', ty, off, k3, k4, k5, k6⟩ := h.viaR t r p ht
   exact ⟨k1, e, l, ex, k2, b', root', ty, off, hx.rows _ _ k3, k4, k5, k6⟩
 . intro r p ht
   obtain ⟨b', root', ty, off, e, v, k1, k2, k3, k4, k5⟩ := h.ro r p ht
   exact ⟨b', root', ty, off, e, v, hx.rows _ _ k1, k2, k3, k4, hown k5⟩
theorem Rel.Um {tm tm' : List AV} {tf : List (Nat × TF)} (h : Rel E d g ⟨tm, tf⟩ M a w) (hl : tm'.length = tm.length) (ht : ∀ i : Nat, aK E.P (aI E g w) (tm'.getD i .dead) (a.tmps.getD i undef)) (hs : ∀ u, tm.getD u .dead ≠ .dead -> tm'.getD u .dead = tm.getD u .dead) : Rel E d g ⟨tm', tf⟩ M a w := by
 have k : ∀ {u e l ex}, tm.getD u .dead = .slice e l ex -> tm'.getD u .dead = .slice e l ex := fun {u e l ex} h => (hs u (by rw [h]; simp)).trans h
 refine ⟨h.below, h.hN, h.fresh, h.size.trans hl.symm, ht, h.lenr, h.rows, h.inj, fun t ht => ?_, fun t s ht => ?_, fun t r p ht => ?_, h.ro⟩
 . obtain ⟨e, l, ex, k1, k2⟩ := h.own t ht
   exact ⟨e, l, ex, k k1, k2⟩
 . obtain ⟨k1, k2, e, l, ex, l', ex', k3, k4⟩ := h.viaT t s ht
   exact ⟨k1, k2, e, l, ex, l', ex', k k3, k k4⟩
 . obtain ⟨k1, e, l, ex, k2, k3⟩ := h.viaR t r p ht
   exact ⟨k1, e, l, ex, k k2, k3⟩
end
section
theorem Fy {α : Type} (p : α -> Bool) : ∀ (l : List α) (k : Nat), k < (l.filter p).length -> ∃ (j : Nat) (o : α), l[j]? = some o /\ p o = true /\ ((l.take j).filter p).length = k /\ (l.filter p)[k]? = some o
 | [], k, h => by simp at h
 | x :: l, k, h => by
  cases hx : p x with
  | false =>
   rw [List.filter_cons_of_neg (by simp [hx])] at h
   obtain ⟨j, o, h1, h2, h3, h4⟩ := Fy p l k h
   exact ⟨j + 1, o, by simpa using h1, h2, by rw [List.take_succ_cons, List.filter_cons_of_neg (by simp [hx])]; exact h3, by rw [List.filter_cons_of_neg (by simp [hx])]; exact h4⟩
  | true =>
   rw [List.filter_cons_of_pos (by simp [hx])] at h
   cases k with
   | zero => exact ⟨0, x, rfl, hx, rfl, by rw [List.filter_cons_of_pos (by simp [hx])]; rfl⟩
   | succ k =>
    obtain ⟨j, o, h1, h2, h3, h4⟩ := Fy p l k (by simpa using h)
    exact ⟨j + 1, o, by simpa using h1, h2, by rw [List.take_succ_cons, List.filter_cons_of_pos (by simp [hx]), List.length_cons, h3], by rw [List.filter_cons_of_pos (by simp [hx])]; simpa using h4⟩
theorem Kt {α : Type} (p : α -> Bool) {l : List α} {j j' : Nat} {o : α} (h : l[j]? = some o) (hp : p o = true) (hlt : j < j') : ((l.take j).filter p).length < ((l.take j').filter p).length := by
 have h1 : (l.take (j + 1)).filter p = (l.take j).filter p ++ [o] := by
  rw [List.take_add_one, h, List.filter_append]
  simp [hp]
 have h2 : ((l.take (j + 1)).filter p).length <= ((l.take j').filter p).length := ((List.take_sublist_take_left (by omega)).filter p).length_le
 rw [h1, List.length_append, List.length_singleton] at h2
 omega
theorem RO {α : Type} (p : α -> Bool) {l : List α} {j : Nat} {o : α} (h : l[j]? = some o) (hp : p o = true) : ((l.take j).filter p).length < (l.filter p).length := by
 have := Kt p h hp (j' := l.length) (List.getElem?_eq_some_iff.1 h).1
 rwa [List.take_length] at this
end
section
variable {cx : Ctx} {fn : FuncId} {dep N0 n : Nat} {N d : Nat} {S : Nat -> Nat -> Prop} {w0 : World} {g : G} {M0 : Mm} {a : Act} {w : World}
variable {Q : Exit -> Act -> World -> Prop} {ops : Array Oper} {fs : Nat -> Bool} {ts : Nat -> List AV} {tfs : Nat -> List (Nat × TF)} {tls : Nat -> List (Nat × (Nat × TF))} {ms : Nat -> Mm}
theorem JR {j j' : Nat} {o : Oper} (h : ops[j]? = some o) (hp : bB ops o = true) (hlt : j < j') : gJ ops j < gJ ops j' := Kt _ (l := ops.toList) (by simpa using h) hp hlt
theorem UR {j j' : Nat} {o o' : Oper} (h : ops[j]? = some o) (hp : bB ops o = true) (h' : ops[j']? = some o') (hp' : bB ops o' = true) (he : gJ ops j = gJ ops j') : j = j' := by
 rcases Nat.lt_trichotomy j j' with h1 | h1 | h1
 . have := JR h hp h1; omega
 . exact h1
 . have := JR h' hp' h1; omega
theorem Q5 {j : Nat} {o : Oper} (h : ops[j]? = some o) (hp : bB ops o = true) : gJ ops j < (gT cx.P ops).length := by
 have := RO (bB ops) (l := ops.toList) (j := j) (by simpa using h) hp
 simpa [gT, gJ] using this
theorem ER {k : Nat} (h : k < (gT cx.P ops).length) : ∃ (j : Nat) (o : Oper), ops[j]? = some o /\ bB ops o = true /\ gJ ops j = k /\ (gT cx.P ops)[k]? = some (AA cx.P o) := by
 obtain ⟨j, o, h1, h2, h3, h4⟩ := Fy (bB ops) ops.toList k (by simpa [gT] using h)
 exact ⟨j, o, by simpa using h1, h2, h3, by simp [gT, h4]⟩
theorem uw {k : Nat} (h : sN cx.P ops k = true) {j : Nat} {o : Oper} (ho : ops[j]? = some o) (ha : bB ops o = true) : ∃ t dd, o.op = .alloc t /\ o.dst = some dd /\ (fits cx.P t (zero cx.P t) && (aQ cx.P t || Nat.beq (cx.P.cellsOf t) 1)) = true /\ dd < k := by
 simp only [sN, List.all_eq_true] at h
 have := h o (List.mem_filter.2 ⟨List.mem_of_getElem? (by simpa using ho), ha⟩)
 split at this
 . rename_i t dd h1 h2
   rw [Bool.and_eq_true] at this
   exact ⟨t, dd, h1, h2, this.1, Nat.blt_eq.mp this.2⟩
 . exact absurd this (by simp)
def mK (ops : Array Oper) (listed : Array Bool) : Prop := ∀ (j : Nat) (oj : Oper), ops[j]? = some oj -> bB ops oj = true -> listed.getD j false = true
def kE (ops : Array Oper) (listed : Array Bool) (t : Nat) : Bool := (List.range ops.size).any fun j => listed.getD j false && nQ ops j && decide (kS ops j = some t)
def stA (ops : Array Oper) (n : Nat) (ts : Nat -> List AV) (listed : Array Bool) : List AV := (List.range (ts 0).length).map fun t => if kE ops listed t then .dead else (dQ ops n ts listed).getD t .dead
theorem nR {listed : Array Bool} {t : Nat} : kE ops listed t = true ↔ ∃ (j : Nat) (oj : Oper), ops[j]? = some oj /\ bB ops oj = true /\ listed.getD j false = true /\ oj.dst = some t := by
 simp only [kE, List.any_eq_true, List.mem_range, Bool.and_eq_true, decide_eq_true_eq]
 constructor
 . rintro ⟨j, hj, ⟨h1, h3⟩, h2⟩
   refine ⟨j, ops[j], by simp, ?_, h1, ?_⟩
   . unfold nQ at h3; simpa [hj] using h3
   . unfold kS at h2; simpa [hj] using h2
 . rintro ⟨j, oj, hj, h3, h1, h2⟩
   refine ⟨j, dI hj, ⟨h1, ?_⟩, ?_⟩
   . unfold nQ; rw [hj]; exact h3
   . unfold kS; rw [hj]; exact h2
theorem jY {listed : Array Bool} : (stA ops n ts listed).length = (ts 0).length := by simp [stA]
theorem pV {listed : Array Bool} (t : Nat) : (stA ops n ts listed).getD t .dead = if kE ops listed t then .dead else (dQ ops n ts listed).getD t .dead := by
 by_cases ht : t < (ts 0).length
 . simp [stA, List.getD, ht]
 . rw [lI (by rw [jY]; omega), lI (l := dQ ops n ts listed) (by rw [jL]; omega)]
   simp
theorem U9 {listed : Array Bool} (h : ∀ (j : Nat) (oj : Oper), ops[j]? = some oj -> bB ops oj = true -> listed.getD j false = false) : stA ops n ts listed = dQ ops n ts listed := by
 refine vB (by rw [jY, jL]) fun t => ?_
 rw [pV, if_neg]
 intro k
 obtain ⟨j, oj, hj, ha, hl, _⟩ := nR.1 k
 rw [h j oj hj ha] at hl; cases hl
theorem WV (hR : RegOK cx fn ops) (h : TRun cx fn dep N0 ops n fs ts tfs tls ms) {listed : Array Bool} (hs : listed.size = ops.size) {i : Nat} {o : Oper} (hin : i < n) (ho : ops[i]? = some o) (hna : bB ops o = false) {v : AV} (hv : ts (i + 1) = aT (ts i) o.dst v) :
    aT (stA ops n ts listed) o.dst v = stA ops n ts (listed.setIfInBounds i true) := by
 have h1 := Ba hR h hs hin ho hv
 have hal : ∀ t, kE ops (listed.setIfInBounds i true) t = kE ops listed t := fun t => by
  rw [Bool.eq_iff_iff, nR, nR]
  constructor
  . rintro ⟨j, oj, hj, ha, hl, hd⟩
    by_cases e : j = i
    . subst e; rw [ho] at hj; obtain rfl := Option.some.inj hj; rw [hna] at ha; cases ha
    . exact ⟨j, oj, hj, ha, by rwa [Go.getD_set_ne false (Ne.symm e)] at hl, hd⟩
  . rintro ⟨j, oj, hj, ha, hl, hd⟩
    exact ⟨j, oj, hj, ha, getD_set_true hl, hd⟩
 refine vB (by rw [AQ, jY, jY]) fun t => ?_
 rw [pV, hal, <- h1]
 by_cases hd : o.dst = some t
 . have hnd : kE ops listed t = false := by
     cases hh : kE ops listed t with
     | false => rfl
     | true =>
      obtain ⟨j, oj, hj, ha, hl, hdj⟩ := nR.1 hh
      have := hR.one i o j oj t ho hj hdj hd
      subst this
      rw [ho] at hj; obtain rfl := Option.some.inj hj; rw [hna] at ha; cases ha
   rw [hnd, hd]
   simp only [aT, Bool.false_eq_true, if_false]
   by_cases ht : t < (ts 0).length
   . rw [gP (by rw [jY]; exact ht), gP (by rw [jL]; exact ht)]
   . rw [lI (by rw [List.length_set, jY]; omega), lI (by rw [List.length_set, jL]; omega)]
 . rw [uZ hd, uZ hd, pV]
theorem RZ (hR : RegOK cx fn ops) (h : TRun cx fn dep N0 ops n fs ts tfs tls ms) {listed : Array Bool} (hs : listed.size = ops.size) {i : Nat} {o : Oper} (hin : i < n) (ho : ops[i]? = some o) (hal : bB ops o = true) :
    aT (stA ops n ts listed) o.dst .dead = stA ops n ts (listed.setIfInBounds i true) := by
 obtain ⟨v, hv⟩ := h.dst hin ho
 have h1 := Ba hR h hs hin ho hv
 obtain ⟨_, dd, hdd⟩ := hR.al i o ho hal
 refine vB (by rw [AQ, jY, jY]) fun t => ?_
 rw [pV, <- h1]
 by_cases hd : o.dst = some t
 . have : kE ops (listed.setIfInBounds i true) t = true := nR.2 ⟨i, o, ho, hal, by simp [Array.getD, hs, dI ho], hd⟩
   rw [if_pos this, hd]
   simp only [aT]
   by_cases ht : t < (ts 0).length
   . rw [gP (by rw [jY]; exact ht)]
   . rw [lI (by rw [List.length_set, jY]; omega)]
 . rw [uZ hd, uZ hd, pV]
   have : kE ops (listed.setIfInBounds i true) t = kE ops listed t := by
    rw [Bool.eq_iff_iff, nR, nR]
    constructor
    . rintro ⟨j, oj, hj, ha, hl, hdj⟩
      by_cases e : j = i
      . subst e; rw [ho] at hj; obtain rfl := Option.some.inj hj; exact absurd hdj hd
      . exact ⟨j, oj, hj, ha, by rwa [Go.getD_set_ne false (Ne.symm e)] at hl, hdj⟩
    . rintro ⟨j, oj, hj, ha, hl, hdj⟩
      exact ⟨j, oj, hj, ha, getD_set_true hl, hdj⟩
   rw [this]
def El (cx : Ctx) (N : Nat) (ops : Array Oper) (g : G) (a : Act) (w : World) (listed : Array Bool) : Prop :=
 ∃ bf : Nat -> Nat, (∀ (j : Nat) (oj : Oper) (t dd : Nat), ops[j]? = some oj -> bB ops oj = true -> oj.op = .alloc t -> oj.dst = some dd -> listed.getD j false = true ->
     a.tmps.getD dd undef = .pointer (some ⟨bf j, 0, none⟩) /\ N <= bf j /\ bf j < w.heap.size /\ g.cls (bf j) = .row /\ (∀ (r : Nat) (root : Root), g.rows[r]? ≠ some (bf j, root)) /\
     ∃ c, (∀ x : X, aK cx.P x (zero cx.P t) c) /\ w.heap[bf j]? = some (.cells c.cells t (0, 0))) /\
  ∀ (j j' : Nat) (oj oj' : Oper), ops[j]? = some oj -> bB ops oj = true -> listed.getD j false = true -> ops[j']? = some oj' -> bB ops oj' = true -> listed.getD j' false = true -> bf j = bf j' -> j = j'
theorem register {tf : List (Nat × TF)} {listed : Array Bool} (ham : Among n listed) (hal : sN cx.P ops (ts 0).length = true) (hall : mK ops listed) (hp : El cx N ops g a w listed) (hr : Rel (Env.mk (Ctx.P cx) N S w0) d g ⟨stA ops n ts listed, tf⟩ M0 a w)
    (hR : RegOK cx fn ops) (hT : TRun cx fn dep M0.rows.length ops n fs ts tfs tls ms) :
    ∃ g', Rel (Env.mk (Ctx.P cx) N S w0) d g' ⟨dQ ops n ts listed, tf⟩ { M0 with rows := M0.rows ++ gT cx.P ops } a w /\ Ext (Env.mk (Ctx.P cx) N S w0) d g w g' w := by
 obtain ⟨bf, hb, hinj⟩ := hp
 have step : ∀ k, k <= (gT cx.P ops).length -> ∃ g', Rel (Env.mk (Ctx.P cx) N S w0) d g' ⟨stA ops n ts listed, tf⟩ { M0 with rows := M0.rows ++ (gT cx.P ops).take k } a w /\ Ext (Env.mk (Ctx.P cx) N S w0) d g w g' w /\ g'.cls = g.cls /\
     (∀ (j : Nat) (oj : Oper) (t : Nat), ops[j]? = some oj -> bB ops oj = true -> oj.op = .alloc t -> gJ ops j < k -> g'.rows[M0.rows.length + gJ ops j]? = some (bf j, .var t)) /\
     (∀ (r b : Nat) (root : Root), g'.rows[r]? = some (b, root) -> g.rows[r]? = some (b, root) \/ ∃ (j : Nat) (oj : Oper), ops[j]? = some oj /\ bB ops oj = true /\ gJ ops j < k /\ b = bf j) := by
  intro k
  induction k with
  | zero => intro _; exact ⟨g, by simpa using hr, Ext.refl _ _ _ _, rfl, fun j oj t _ _ _ h => by omega, fun r b root h => .inl h⟩
  | succ k ih =>
   intro hk
   obtain ⟨g', h1, h2, h3, h4, h5⟩ := ih (by omega)
   obtain ⟨j, oj, hj, ha, hix, hrow⟩ := ER (cx := cx) (ops := ops) (k := k) (by omega)
   obtain ⟨t, dd, hop, hdst, hf, hlt⟩ := uw hal hj ha
   obtain ⟨e1, e2, e3, e4, e5, c, e6, e7⟩ := hb j oj t dd hj ha hop hdst (hall j oj hj ha)
   obtain ⟨hfz, hone⟩ := uU hf
   have hnot : ∀ r root', g'.rows[r]? ≠ some (bf j, root') := fun r root' h => by
    rcases h5 r _ _ h with h | ⟨j', oj', hj', ha', hlt', hbb⟩
    . exact e5 _ _ h
    . have := hinj j j' oj oj' hj ha (hall j oj hj ha) hj' ha' (hall j' oj' hj' ha') hbb
      subst this; omega
   have hrowOK : ∀ x : X, x.w = w -> gH cx.P x (bf j) (.var t) (.var t (zero cx.P t)) := fun x hx => by
    obtain ⟨cs, hcs, hr', _⟩ := e6 x
    refine ⟨c.cells, t, by rw [hx]; exact e7, rfl, hfz, ?_, ?_⟩
    . rw [hcs, mg hfz hr']; exact hr'
    . rw [hcs, mg hfz hr']; exact lT hfz hr' hone
   have hadd := h1.VZ (root := .var t) e2 e3 (by rw [h3]; exact e4) hnot hrowOK
   have hrowt : AA cx.P oj = .var t (zero cx.P t) := by simp [AA, hop]
   refine ⟨g'.add (bf j) (.var t), ?_, h2.trans (II _ _ _), h3, fun j2 o2 t2 hj2 ha2 hop2 hl2 => ?_, fun r b root h => ?_⟩
   . rw [List.take_add_one, hrow, hrowt]
     simpa using hadd
   . have hlen : g'.rows.length = M0.rows.length + k := by
       have := h1.lenr
       simp only [List.length_append, List.length_take] at this
       omega
     show (g'.rows ++ [(bf j, Root.var t)])[_]? = _
     by_cases hlt2 : gJ ops j2 < k
     . rw [List.getElem?_append_left (by omega)]
       exact h4 j2 o2 t2 hj2 ha2 hop2 hlt2
     . have heq : gJ ops j2 = gJ ops j := by omega
       have := UR hj2 ha2 hj ha heq
       subst this
       rw [hj] at hj2; obtain rfl := Option.some.inj hj2
       rw [hop] at hop2; cases hop2
       rw [List.getElem?_append_right (by omega), show M0.rows.length + gJ ops j2 - g'.rows.length = 0 by omega]
       rfl
   . rcases qy h with h | ⟨_, h⟩
     . rcases h5 r b root h with h | ⟨j', oj', hj', ha', hlt', hbb⟩
       . exact .inl h
       . exact .inr ⟨j', oj', hj', ha', by omega, hbb⟩
     . obtain ⟨rfl, rfl⟩ := Prod.mk.inj h
       exact .inr ⟨j, oj, hj, ha, by omega, rfl⟩
 obtain ⟨g', h1, h2, h3, h4, h5⟩ := step _ (Nat.le_refl _)
 rw [List.take_length] at h1
 refine ⟨g', h1.Um (by rw [jY, jL]) (fun t => ?_) (fun u hu => ?_), h2⟩
 . by_cases hd : kE ops listed t = true
   . obtain ⟨j, oj, hj, ha, hl, hdst⟩ := nR.1 hd
     obtain ⟨ty, dd, hop, hdst', _, hlt⟩ := uw hal hj ha
     rw [hdst] at hdst'; cases hdst'
     obtain ⟨e1, _⟩ := hb j oj ty t hj ha hop hdst hl
     rw [e1]
     have hval : (dQ ops n ts listed).getD t .dead = .ptr (M0.rows.length + gJ ops j) [] ty 0 := by
      rw [qX hT, if_pos (mD.2 ⟨j, oj, hj, hl, hdst⟩), hT.yields hR (ham j hl) hj hdst]
      rcases hT.step j oj (ham j hl) hj with ⟨hact, _⟩ | ⟨_, v, hv, htm, _⟩
      . rw [wS ha] at hact; cases hact
      . rcases hv with ⟨_, rfl⟩ | ⟨hna, _⟩
        . rw [htm, hdst]
          show ((ts j).set t _).getD t .dead = _
          rw [gP (by rw [hT.len j (Nat.le_of_lt (ham j hl))]; exact hlt)]
          simp [Cx, hop]
        . rw [ha] at hna; cases hna
     rw [hval]
     have hrow := h4 j oj ty hj ha hop (Q5 (cx := cx) hj ha)
     have : rel cx.P (aI (Env.mk (Ctx.P cx) N S w0) g' w) (.ptr (M0.rows.length + gJ ops j) [] ty 0) [.pointer (some ⟨bf j, 0, none⟩)] := ⟨bf j, .var ty, hrow, ⟨rfl, rfl⟩, rfl⟩
     exact bR this rfl
   . have := h1.tmps t
     have e : (stA ops n ts listed).getD t .dead = (dQ ops n ts listed).getD t .dead := by rw [pV, if_neg hd]
     rw [<- e]; exact this
 . rw [pV] at hu ⊢
   split at hu
   . exact absurd rfl hu
   . rename_i hh; rw [if_neg hh]
end
section
variable {cx : Ctx} {fn : FuncId} {dep n : Nat} {N d : Nat} {S : Nat -> Nat -> Prop} {w0 : World} {g : G} {fr : Fr} {M : Mm} {M0 : Mm} {a : Act} {w : World}
variable {Q : Exit -> Act -> World -> Prop} {ops : Array Oper} {fs : Nat -> Bool} {ts : Nat -> List AV} {tfs : Nat -> List (Nat × TF)} {tls : Nat -> List (Nat × (Nat × TF))} {ms : Nat -> Mm}
theorem aao {ro : Option Nat} (hG : cx.Good) (hnews : dz (R := Fr × Mm) cx (ji cx dep)) {tm : List AV} {tf : List (Nat × TF)} {o : Oper} (hr : Rel (Env.mk (Ctx.P cx) N S w0) d g ⟨tm, tf⟩ M a w) (hact : aY cx fn ops o = true) (hgen : mJ cx o = none) {v : AV} {tf' : List (Nat × TF)} {M' : Mm}
    (hv : gK cx dep o tm tf M = some (v, tf', M')) {K : Act -> World -> Prop} (hK : ∀ g2 a2 w2, Rel (Env.mk (Ctx.P cx) N S w0) d g2 ⟨aT tm o.dst v, tf'⟩ M' a2 w2 -> Ext (Env.mk (Ctx.P cx) N S w0) d g w g2 w2 -> a2.defers = a.defers -> K a2 w2) : gu ro cx.P o a w K Q := by
 have hev : xS (R := Fr × Mm) cx fn dep o ⟨tm, tf⟩ M (fun fr M => some (fr, M)) = some (⟨aT tm o.dst v, tf'⟩, M') := by
  rw [Pv hact hgen, hv]; rfl
 have hN : Nx (Env.mk (Ctx.P cx) N S w0) d g w a (fun fr M => some (fr, M)) (⟨aT tm o.dst v, tf'⟩, M') K := fun fr' M2 g2 a2 w2 hr2 hx2 hd2 he => by
  simp only [Option.some.injEq, Prod.mk.injEq] at he
  obtain ⟨rfl, rfl⟩ := he
  exact hK g2 a2 w2 hr2 hx2 hd2
 unfold xS at hev
 split at hev
 . rename_i c f hnw
   obtain ⟨ho, hc⟩ := KR hnw
   unfold y9 at hev
   split at hev
   . rename_i gi args ht
     cases gi with
     | yl rr => exact absurd hev (by simp [ji])
     | fn gi =>
     refine gu.of_wp (fun c' e => by rw [ho] at e; cases e) (Am (call := ji cx dep) (next := fun fr M => some (fr, M)) (pan := fun _ _ _ => none) hnews hr ho hc (gi := gi) (args := args) ht ?_ hN (fun v c fr' M' g2 a2 w2 _ _ _ _ he => absurd he (by simp)))
     rw [<- hev]
     rfl
   . exact absurd hev (by simp)
 . exact F6 hG (fun N S w0 d g M w f args cargs K r R' _ _ h _ => absurd h (by simp)) hr hev hN (fun v c fr' M' g2 a2 w2 _ _ _ _ he => absurd he (by simp))
theorem Bc {o : Oper} {c : Call} {f : Operand} (h : mJ cx o = some (c, f)) : o.op = .call c /\ c.callee = .value f := by
 unfold mJ at h
 split at h
 . rename_i c' ho
   split at h
   . rename_i f' hc
     split at h
     . simp only [Option.some.injEq, Prod.mk.injEq] at h
       obtain ⟨rfl, rfl⟩ := h
       exact ⟨ho, hc⟩
     . exact absurd h (by simp)
   . exact absurd h (by simp)
 . exact absurd h (by simp)
theorem J3 {R : Type} {dd : Nat} {g : FuncId} {args : List AV} {M M' : Mm} {t : LT} {e : AX} {fr' : Fr} (ha : cx.acts dd g args M = some t) (hdet : ∀ (R : Type) (K : AX -> Fr -> Mm -> Option R), t.go K = K e fr' M') (K : Res -> Mm -> Option R) : iI cx (dd + 1) (.fn g) args M K = oD K e fr' M' := by
 unfold iI
 simp only [ha]
 exact hdet R (oD K)
theorem TA {ro : Option Nat} (hacts : dz (R := Sum (Fr × Mm) (AV × Fr × Mm)) cx (iI cx dep)) {tm : List AV} {tf : List (Nat × TF)} {o : Oper} (hr : Rel (Env.mk (Ctx.P cx) N S w0) d g ⟨tm, tf⟩ M a w) {fr' : Fr} {M' : Mm} (h : qF cx dep o tm M .ret fr' M') (hot : BQ fr' = false)
    {K : Act -> World -> Prop} (hK : ∀ g2 a2 w2, Rel (Env.mk (Ctx.P cx) N S w0) d g2 ⟨aT tm o.dst (fr'.tmps.getD 0 .dead), gN o.dst (fD tf)⟩ M' a2 w2 -> Ext (Env.mk (Ctx.P cx) N S w0) d g w g2 w2 -> a2.defers = a.defers -> K a2 w2) : gu ro cx.P o a w K Q := by
 obtain ⟨c, f, gi, args, dd, t, hg, rfl, ht, ha, hdet⟩ := h
 obtain ⟨ho, hc⟩ := Bc hg
 refine gu.of_wp (fun c' e => by rw [ho] at e; cases e) (Am (call := iI cx (dd + 1)) (next := fun fr M => some (Sum.inl (fr, M))) (pan := fun v fr M => some (Sum.inr (v, fr, M))) (r := Sum.inl (⟨aT tm o.dst (fr'.tmps.getD 0 .dead), gN o.dst (fD tf)⟩, M')) hacts hr ho hc ht ?_ (fun fr2 M2 g2 a2 w2 hr2 hx2 hd2 he => ?_) (fun v c fr2 M2 g2 a2 w2 _ _ _ _ he => by cases he))
 . rw [J3 ha hdet]
   simp only [oD, hot, Bool.false_eq_true, if_false, jk]
 . cases he
   exact hK g2 a2 w2 hr2 hx2 hd2
theorem V9 {ro : Option Nat} (hacts : dz (R := Sum (Fr × Mm) (AV × Fr × Mm)) cx (iI cx dep)) {tm : List AV} {tf : List (Nat × TF)} {o : Oper} (hr : Rel (Env.mk (Ctx.P cx) N S w0) d g ⟨tm, tf⟩ M a w) {v : AV} {fr' : Fr} {M' : Mm} (h : qF cx dep o tm M (.panic v) fr' M')
    {K : Act -> World -> Prop} (hK : ∀ c g2 a2 w2, Rel (Env.mk (Ctx.P cx) N S w0) d g2 ⟨tm, fD tf⟩ M' a2 w2 -> Ext (Env.mk (Ctx.P cx) N S w0) d g w g2 w2 -> a2.defers = a.defers -> aK cx.P (aI (Env.mk (Ctx.P cx) N S w0) g2 w2) v c -> Q (.panic [{ v := c, recovered := false }]) a2 w2) : gu ro cx.P o a w K Q := by
 obtain ⟨c, f, gi, args, dd, t, hg, rfl, ht, ha, hdet⟩ := h
 obtain ⟨ho, hc⟩ := Bc hg
 refine gu.of_wp (fun c' e => by rw [ho] at e; cases e) (Am (call := iI cx (dd + 1)) (next := fun fr M => some (Sum.inl (fr, M))) (pan := fun v fr M => some (Sum.inr (v, fr, M))) (r := Sum.inr (v, ⟨tm, fD tf⟩, M')) hacts hr ho hc ht ?_ (fun fr2 M2 g2 a2 w2 hr2 hx2 hd2 he => by cases he) (fun v2 c2 fr2 M2 g2 a2 w2 hr2 hx2 hd2 hv2 he => ?_))
 . rw [J3 ha hdet]
   simp only [oD]
 . cases he
   exact hK c2 g2 a2 w2 hr2 hx2 hd2 hv2
def y8 (cx : Ctx) (ops : Array Oper) (ts : Nat -> List AV) (ms : Nat -> Mm) (k : Nat) (x : Nat × TF) : Prop := ∃ o v, ops[k]? = some o /\ aY cx fn ops o = false /\ ts (k + 1) = aT (ts k) o.dst v /\ lq cx.P o (ts k) (ms k) v = some x
theorem xH {N0 : Nat} (h : TRun cx fn dep N0 ops n fs ts tfs tls ms) (h0 : tls 0 = []) : ∀ i, i <= n -> ∀ y ∈ tls i, y.1 < i /\ y8 (fn := fn) cx ops ts ms y.1 y.2
 | 0, _, y, hy => by rw [h0] at hy; cases hy
 | i + 1, hi, y, hy => by
  have hlt0 : i < ops.size := Nat.lt_of_lt_of_le hi h.le
  have hs : ops[i]? = some ops[i] := by simp
  rcases h.step i _ hi hs with ⟨_, v, _, _, _, htl⟩ | ⟨hna, v, hp, htm, _, _, _, htl⟩
  . rw [htl] at hy; cases hy
  . rw [htl] at hy
    split at hy
    . split at hy
      . rename_i x hx
        rcases List.mem_cons.1 hy with rfl | hy
        . exact ⟨Nat.lt_succ_self _, _, v, hs, hna, htm, hx⟩
        . have := xH h h0 i (by omega) y hy
          exact ⟨by omega, this.2⟩
      . have := xH h h0 i (by omega) y hy
        exact ⟨by omega, this.2⟩
    . cases hy
theorem AP {k : Nat} {x : Nat × TF} (h : y8 (fn := fn) cx ops ts ms k x) : ∃ o, ops[k]? = some o /\ aY cx fn ops o = false /\ o.dst = some x.1 /\ (∀ u, nm x u -> u = x.1) /\ ∀ s, x.2 ≠ .viaT s := by
 obtain ⟨o, v, ho, hna, _, hfl⟩ := h
 obtain ⟨_, _, r, p, _, _, _, _, _, _, hd, _, _, _, _, hvia⟩ := wC hfl
 refine ⟨o, ho, hna, hd, fun u hu => ?_, fun s e => by rw [hvia] at e; cases e⟩
 rcases hu with hu | hu
 . exact hu.symm
 . rw [hvia] at hu; cases hu
theorem Jc {N0 : Nat} (hR : RegOK cx fn ops) (h : TRun cx fn dep N0 ops n fs ts tfs tls ms) (hl0 : tls 0 = []) (h0 : ∀ x ∈ tfs 0, ∀ u, nm x u -> ∀ (j : Nat) (oj : Oper), ops[j]? = some oj -> aY cx fn ops oj = false -> oj.dst ≠ some u) :
    ∀ i, i <= n -> ∀ x ∈ tfs i, ∀ u, nm x u -> ∀ (j : Nat) (oj : Oper), ops[j]? = some oj -> aY cx fn ops oj = false -> oj.dst = some u -> ∃ (k : Nat) (ok : Oper), k < i /\ ops[k]? = some ok /\ aY cx fn ops ok = true /\ bQ ops k j = true
 | 0, _, x, hx => fun u hu j oj hj hna hd => absurd hd (h0 x hx u hu j oj hj hna)
 | i + 1, hi, x, hx => by
  have hlt0 : i < ops.size := Nat.lt_of_lt_of_le hi h.le
  have hs : ops[i]? = some ops[i] := by simp
  have ih := Jc hR h hl0 h0 i (by omega)
  intro u hu j oj hj hna hd
  have up : ∀ {y : Nat × TF}, y ∈ tfs i -> nm y u -> ∃ (k : Nat) (ok : Oper), k < i + 1 /\ ops[k]? = some ok /\ aY cx fn ops ok = true /\ bQ ops k j = true := fun hy hn => by
   obtain ⟨k, ok, h1, h2, h3, h4⟩ := ih _ hy u hn j oj hj hna hd
   exact ⟨k, ok, by omega, h2, h3, h4⟩
  rcases h.step i _ hi hs with ⟨hact, v, hor, htm, _, _⟩ | ⟨_, v, hp, _, _, htf, _, _⟩
  . have hnms : qW (ops[i]).dst (looks ops[i]) (if fs i then ((tls i).filter fun x => bQ ops i x.1).map (·.2) ++ tfs i else tfs i) (tfs (i + 1)) := by
      rcases hor with ⟨_, hv⟩ | ⟨_, _, _, _, htf, _⟩
      . exact YP hv
      . rw [htf]; exact d9 fun x hx => MX (mW hx)
    rcases hnms x hx u hu with hdi | hlk | ⟨y, hy, hyu⟩
    . have := hR.one i _ j oj u hs hj hd hdi
      subst this
      rw [hs] at hj; obtain rfl := Option.some.inj hj
      rw [hact] at hna; cases hna
    . rcases hR.look i _ j oj u hs hj hd hlk with ⟨_, he⟩ | hlax
      . exact ⟨i, _, Nat.lt_succ_self _, hs, hact, he⟩
      . have := (Ec hlax).2.2 hact
        simp [mo, hj, hna] at this
    . split at hy
      . rcases List.mem_append.1 hy with hy | hy
        . obtain ⟨z, hz, rfl⟩ := List.mem_map.1 hy
          obtain ⟨hz, hed⟩ := List.mem_filter.1 hz
          obtain ⟨_, hfa⟩ := xH h hl0 i (by omega) z hz
          obtain ⟨o2, ho2, hna2, hd2, hu2, _⟩ := AP hfa
          rw [hu2 u hyu] at hd
          have := hR.one z.1 o2 j oj z.2.1 ho2 hj hd hd2
          subst this
          exact ⟨i, _, Nat.lt_succ_self _, hs, hact, hed⟩
        . exact up hy hyu
      . exact up hy hyu
  . rw [htf] at hx; exact up hx hu
def wT (cx : Ctx) (fn : FuncId) (N : Nat) (S : Nat -> Nat -> Prop) (w0 : World) (d : Nat) (ops : Array Oper) (n : Nat) (fs : Nat -> Bool) (ts : Nat -> List AV) (tfs : Nat -> List (Nat × TF)) (ms : Nat -> Mm) (M0 : Mm) (g0 : G) (a0 : Act) (wa : World) (listed : Array Bool) (a : Act) (w : World) : Prop :=
 ∃ q g' tf, q <= n /\ Among n listed /\ (∀ (j : Nat) (oj : Oper), ops[j]? = some oj -> aY cx fn ops oj = true -> (listed.getD j false = true ↔ j < q)) /\
  ((mK ops listed /\ Rel (Env.mk cx.P N S w0) d g' ⟨dQ ops n ts listed, tf⟩ (ms q) a w) \/ (¬ mK ops listed /\ q = 0 /\ Rel (Env.mk cx.P N S w0) d g' ⟨stA ops n ts listed, tf⟩ M0 a w /\ El cx N ops g' a w listed)) /\
  Ext (Env.mk cx.P N S w0) d g0 wa g' w /\ a.defers = a0.defers /\ Closed ops listed /\ listed.size = ops.size /\ xV (tfs q) /\
  (∀ x ∈ tfs q, x ∈ tf) /\ (fs q = true -> ∀ k x, fs k = true -> listed.getD k false = true -> y8 (fn := fn) cx ops ts ms k x -> x ∈ tf)
theorem KE (hR : RegOK cx fn ops) {listed : Array Bool} (hc : Closed ops listed) : ∀ (k : Nat) (ok : Oper), ops[k]? = some ok -> aY cx fn ops ok = true -> (∀ e ∈ ok.after, Region.binds .any e = true -> listed.getD e.on false = true) ->
    ∀ (j : Nat) (oj : Oper), j < k -> ops[j]? = some oj -> aY cx fn ops oj = true -> listed.getD j false = true := by
 intro k
 induction k using Nat.strongRecOn with
 | ind k ihk =>
  intro ok hok hsk hre
  have inner : ∀ (m j : Nat) (oj : Oper), k - j <= m -> j < k -> ops[j]? = some oj -> aY cx fn ops oj = true -> listed.getD j false = true := by
   intro m
   induction m with
   | zero => intro j oj hm hj; omega
   | succ m ih =>
    intro j oj hm hj hoj hsj
    rcases hR.chain k ok j oj hok hsk hj hoj hsj with h1 | ⟨k2, ok2, h1, h2, h3, h4⟩
    . obtain ⟨o', e, ho', he, hb, hon⟩ := lU h1
      rw [hok] at ho'
      obtain rfl := Option.some.inj ho'
      rw [<- hon]; exact hre e he hb
    . have hl2 := ih k2 ok2 (by omega) h2 h3 h4
      exact ihk k2 h2 ok2 h3 h4 (fun e he hb => hc k2 ok2 h3 hl2 e he hb) j oj h1 hoj hsj
  exact fun j oj hj => inner (k - j) j oj (Nat.le_refl _) hj
theorem Iq (hR : RegOK cx fn ops) : ∀ (f i j : Nat), reach ops f i j = true -> j < i
 | 0, i, j, h => by simp [reach] at h
 | f + 1, i, j, h => by
  simp only [reach, Bool.or_eq_true, List.any_eq_true, List.mem_range, Bool.and_eq_true] at h
  have dir : ∀ {m}, bQ ops i m = true -> m < i := fun {m} hed => by
   obtain ⟨o', e, ho', he, hb, hon⟩ := lU hed
   rw [<- hon]; exact hR.back i o' e ho' he hb
  rcases h with h | ⟨m, _, h1, h2⟩
  . exact dir h
  . exact Nat.lt_trans (Iq hR f m j h2) (dir h1)
theorem JX {listed : Array Bool} (hc : Closed ops listed) {i : Nat} {o : Oper} (ho : ops[i]? = some o) (hre : ∀ e ∈ o.after, Region.binds .any e = true -> listed.getD e.on false = true) : ∀ (f j : Nat), reach ops f i j = true -> listed.getD j false = true := by
 have key : ∀ (f k j : Nat), reach ops f k j = true -> (∀ ok, ops[k]? = some ok -> ∀ e ∈ ok.after, Region.binds .any e = true -> listed.getD e.on false = true) -> listed.getD j false = true := by
  intro f
  induction f with
  | zero => intro k j h; simp [reach] at h
  | succ f ih =>
   intro k j h hk
   simp only [reach, Bool.or_eq_true, List.any_eq_true, List.mem_range, Bool.and_eq_true] at h
   have dir : ∀ {m}, bQ ops k m = true -> listed.getD m false = true := fun {m} hed => by
    obtain ⟨o', e, ho', he, hb, hon⟩ := lU hed
    rw [<- hon]; exact hk o' ho' e he hb
   rcases h with h | ⟨m, _, h1, h2⟩
   . exact dir h
   . exact ih m j h2 fun om hom e he hb => hc m om hom (dir h1) e he hb
 exact fun f j h => key f i j h fun ok hok => by rw [ho] at hok; obtain rfl := Option.some.inj hok; exact hre
theorem Nf : ∀ (ds : List Nat) (tm : List AV) (i : Nat), (ds.foldl (fun tm t => tm.set t .dead) tm).getD i .dead = if i ∈ ds then .dead else tm.getD i .dead
 | [], tm, i => by simp
 | t :: ds, tm, i => by
  rw [List.foldl_cons, Nf ds]
  by_cases h : i ∈ ds
  . simp [h]
  . by_cases e : i = t
    . subst e
      simp only [h, if_false, List.mem_cons, true_or, if_true]
      by_cases hlt : i < tm.length
      . exact gP hlt
      . exact lI (by rw [List.length_set]; omega)
    . simp only [h, e, List.mem_cons, or_self, if_false]
      exact getD_set_ne (Ne.symm e)
theorem I7 : ∀ (ds : List Nat) (tm : List AV), (ds.foldl (fun tm t => tm.set t .dead) tm).length = tm.length
 | [], tm => rfl
 | t :: ds, tm => by rw [List.foldl_cons, I7 ds, List.length_set]
theorem Rel.forget {E : Env} {tm tm' : List AV} {tf : List (Nat × TF)} (h : Rel E d g ⟨tm, tf⟩ M a w) (hl : tm'.length = tm.length) (ht : ∀ i : Nat, tm'.getD i .dead = .dead \/ tm'.getD i .dead = tm.getD i .dead) : Rel E d g ⟨tm', []⟩ M a w :=
 ⟨h.below, h.hN, h.fresh, h.size.trans hl.symm, fun i => by
  rcases ht i with e | e
  . rw [e]; exact ku _
  . rw [e]; exact h.tmps i, h.lenr, h.rows, h.inj, fun t ht => by simp at ht, fun t s ht => by simp at ht, fun t r p ht => by simp at ht, h.ro⟩
theorem aac {ro : Option Nat} (hG : cx.Good) (hnews : dz (R := Fr × Mm) cx (ji cx dep)) (hacts : dz (R := Sum (Fr × Mm) (AV × Fr × Mm)) cx (iI cx dep)) (hR : RegOK cx fn ops) (hlate : oU cx ops = true) (hal0 : sN cx.P ops (ts 0).length = true) (hT : TRun cx fn dep M0.rows.length ops n fs ts tfs tls ms) (hm0 : ms 0 = { M0 with rows := M0.rows ++ gT cx.P ops }) (hl0 : tls 0 = [])
    (hf0 : ∀ x ∈ tfs 0, ∀ u, nm x u -> ∀ (j : Nat) (oj : Oper), ops[j]? = some oj -> aY cx fn ops oj = false -> oj.dst ≠ some u) {g0 : G} {a0 : Act} {wa : World} {listed : Array Bool} {a : Act} {w : World}
    (hend : n = ops.size \/ ∃ o v M1, ops[n]? = some o /\ CB cx fn dep ops n o (ts n) (ms n) v M1 /\ ∀ c g' a' w', Rel (Env.mk (Ctx.P cx) N S w0) d g' ⟨(dstsOf ops.toList).foldl (fun tm t => tm.set t .dead) (ts 0), []⟩ M1 a' w' -> Ext (Env.mk (Ctx.P cx) N S w0) d g0 wa g' w' -> a'.defers = a0.defers -> aK cx.P (aI (Env.mk (Ctx.P cx) N S w0) g' w') v c -> Q (.panic [{ v := c, recovered := false }]) a' w')
    (hI : wT cx fn N S w0 d ops n fs ts tfs ms M0 g0 a0 wa listed a w) {i : Nat} (hi : i ∈ Region.ready .any ops listed) {K : Act -> World -> Prop}
    (hK : ∀ a' w', wT cx fn N S w0 d ops n fs ts tfs ms M0 g0 a0 wa (listed.setIfInBounds i true) a' w' -> K a' w') : wpOpIn (W ro) 0 cx.P ops Q i K a w := by
 obtain ⟨q, g', tf, hq, ham, hst, hph, hx, hd, hc, hs, hclo, hfl, hlf⟩ := hI
 obtain ⟨hun, o, ho, hre⟩ := mem_ready.1 hi
 have hil := dI ho
 have hun' : listed.getD i false = false := by simpa [Array.getD, hs, hil] using hun
 have hgd := hR.guard i o ho
 have hwt : Region.wanted o (yielded ops a.tmps) = true := by simp [Region.wanted, hgd]
 have edge_listed : ∀ j, bQ ops i j = true -> listed.getD j false = true := fun j hed => by
  obtain ⟨o', e, ho', he, hb, hon⟩ := lU hed
  rw [ho] at ho'
  obtain rfl := Option.some.inj ho'
  rw [<- hon]; exact hre e he hb
 have reach_l : ∀ j, reach ops 3 i j = true -> listed.getD j false = true := JX hc ho hre 3
 have all_acts : aY cx fn ops o = true -> i <= n -> q <= i /\ ms i = ms q /\ tfs i = tfs q /\ fs i = fs q /\ mK ops listed /\ bB ops o = false := fun hact hin => by
  have hali : bB ops o = false := by
   cases hh : bB ops o with
   | false => rfl
   | true => rw [wS hh] at hact; cases hact
  have hbef := KE hR hc i o ho hact hre
  have hqi : q <= i := by
   rcases Nat.lt_or_ge i q with h | h
   . have := (hst i o ho hact).2 h
     rw [hun'] at this; cases this
   . exact h
  obtain ⟨e1, e2, e3⟩ := hT.same i hqi hin fun j oj h1 h2 hj => by
   cases hsj : aY cx fn ops oj with
   | false => rfl
   | true =>
    have := (hst j oj hj hsj).1 (hbef j oj h2 hj hsj)
    omega
  refine ⟨hqi, e1, e2, e3, ?_, hali⟩
  rcases hR.late i o ho hali with h1 | ⟨h1, _⟩
  . exact fun j oj hj ha => edge_listed j (h1 j oj hj ha)
  . rw [hact] at h1; cases h1
 rcases Nat.lt_trichotomy i n with hin | hin | hin
 case inr.inl =>
  subst hin
  rcases hend with hend | ⟨o2, v, M1, ho2, ⟨hact, ⟨fr', hcg⟩, _⟩, hQp⟩
  . omega
  rw [ho] at ho2
  obtain rfl := Option.some.inj ho2
  obtain ⟨hqi, e1, e2, e3, hallA, hali⟩ := all_acts hact (Nat.le_refl _)
  obtain ⟨_, hr⟩ | ⟨h1, _⟩ := hph
  case inr => exact absurd hallA h1
  have hlook : ∀ t ∈ looks o, (dQ ops i ts listed).getD t .dead = (ts i).getD t .dead := fun t ht => JI hR hT ham hc (Nat.le_refl _) ho hun' hre ht
  have hcg' : qF cx dep o (dQ ops i ts listed) (ms q) (.panic v) fr' M1 := by
   obtain ⟨c, f, g, args, dd, t, h1, h2, h3, h4, h5⟩ := hcg
   obtain ⟨h6, h7⟩ := Bc h1
   refine ⟨c, f, g, args, dd, t, h1, h2, ?_, by rw [<- e1]; exact h4, h5⟩
   rw [<- h3]
   have k1 : aC cx.P (dQ ops i ts listed) 0 f = aC cx.P (ts i) 0 f := fT hlook (by rw [h6]; simp [Op.operands, Call.operands, h7]) 0
   have k2 : bH cx.P (dQ ops i ts listed) c.argTypes.toList c.args.toList = bH cx.P (ts i) c.argTypes.toList c.args.toList := wz fun x hx t => fT hlook (yV h6 hx) t
   rw [k1, k2]
  unfold wpOpIn
  simp only [ho]
  rw [if_pos hwt]
  refine (V9 hacts hr hcg' fun c g2 a2 w2 hr2 hx2 hd2 hv2 => hQp c g2 a2 w2 (hr2.forget ?_ fun t => ?_) (hx.trans hx2) (hd2.trans hd) hv2)
  . rw [I7, jL]
  . rw [Nf]
    split
    . exact .inl rfl
    . rename_i hnd
      refine .inr ?_
      rw [qX hT, if_neg]
      intro hw
      obtain ⟨j, oj, hj, _, hdj⟩ := mD.1 hw
      exact hnd (EX hj hdj)
 case inr.inr =>
  rcases hend with hend | ⟨o2, v, M1, ho2, ⟨hact, ⟨fr', hcg⟩, _⟩, _⟩
  . omega
  obtain ⟨c, f, g, args, dd, t, h1, _⟩ := hcg
  simp only [oU, List.all_eq_true, List.mem_range] at hlate
  have h2 := hlate n (dI ho2)
  have h3 : pX cx ops n = true := by unfold pX; rw [ho2]; simp [sD, h1]
  simp only [h3, Bool.not_true, Bool.false_or, List.all_eq_true, List.mem_range] at h2
  have h4 := h2 i hil
  have h5 : Nat.ble i n = false := by
   cases hh : Nat.ble i n with
   | false => rfl
   | true => have := Nat.ble_eq.mp hh; omega
  rw [h5, Bool.false_or] at h4
  have := ham n (reach_l n h4)
  omega
 have hlook : ∀ t ∈ looks o, (dQ ops n ts listed).getD t .dead = (ts i).getD t .dead := fun t ht => JI hR hT ham hc (Nat.le_of_lt hin) ho hun' hre ht
 have hcs : Closed ops (listed.setIfInBounds i true) := Eo hs hc hi
 have hams : Among n (listed.setIfInBounds i true) := fun j hj => by
  by_cases e : j = i
  . omega
  . rw [Go.getD_set_ne false (Ne.symm e)] at hj; exact ham j hj
 have hlen : (ts i).length = (dQ ops n ts listed).length := by rw [hT.len i (Nat.le_of_lt hin), jL]
 have horig := Jc hR hT hl0 hf0
 by_cases hali : bB ops o = true
 . have hnall : ¬ mK ops listed := fun h => by rw [h i o ho hali] at hun'; cases hun'
   obtain ⟨h1, _⟩ | ⟨_, rfl, hr, hp⟩ := hph
   . exact absurd h1 hnall
   obtain ⟨t, dd, hop, hdst, hf, hlt⟩ := uw hal0 ho hali
   obtain ⟨hfz, hone⟩ := uU hf
   obtain ⟨z, hz, hzv⟩ := wW (qm hfz)
   have hrun : (execOp a.eval o).run cx.P w = .ok (.value (.pointer (some ⟨w.heap.size, 0, none⟩))) (w.alloc (.cells z.cells t)) := by
    simp [execOp, hop, Instr.alloc, hz, newVar, newRow]
   unfold wpOpIn
   simp only [ho]
   rw [if_pos hwt]
   refine gu.of_wp (fun c e => by rw [hop] at e; cases e) (gU ⟨_, _, hrun, hK _ _ ?_⟩)
   have hblk := hr.abe (.cells z.cells t)
   have hset := hblk.set o.dst (ku (.pointer (some ⟨w.heap.size, 0, none⟩)))
   rw [jk, RZ hR hT hs hin ho hali] at hset
   have hxx := Nk hr (.cells z.cells t)
   have hnact : aY cx fn ops o = false := wS hali
   have hputd : (a.put o.dst (.pointer (some ⟨w.heap.size, 0, none⟩))).tmps.getD dd undef = .pointer (some ⟨w.heap.size, 0, none⟩) := by
    rw [hdst]; exact ko hr (by rw [jY]; exact hlt) _
   have hpend : El cx N ops (g'.blk w.heap.size) (a.put o.dst (.pointer (some ⟨w.heap.size, 0, none⟩))) (w.alloc (.cells z.cells t)) (listed.setIfInBounds i true) := by
    obtain ⟨bf, hb, hinj⟩ := hp
    refine ⟨fun j => if j = i then w.heap.size else bf j, fun j oj t2 d2 hj ha hop2 hd2 hl => ?_, fun j j' oj oj' hj ha hl hj' ha' hl' he => ?_⟩
    . by_cases e : j = i
      . subst e
        rw [ho] at hj; obtain rfl := Option.some.inj hj
        rw [hop] at hop2; cases hop2
        rw [hdst] at hd2; cases hd2
        simp only [if_true]
        refine ⟨hputd, hr.hN, by rw [jR]; omega, if_pos rfl, fun r root h => ?_, z, hzv, pY _ _⟩
        have := (hr.rows r _ root h).2.1
        omega
      . simp only [if_neg e]
        rw [Go.getD_set_ne false (Ne.symm e)] at hl
        obtain ⟨e1, e2, e3, e4, e5, e6⟩ := hb j oj t2 d2 hj ha hop2 hd2 hl
        have hne : d2 ≠ dd := fun k => e (hR.one i o j oj dd ho hj (by rw [hd2, k]) hdst)
        refine ⟨?_, e2, by rw [jR]; omega, (if_neg (by omega)).trans e4, e5, ?_⟩
        . rw [hdst, sZ hne]; exact e1
        . obtain ⟨c, h1, h2⟩ := e6
          exact ⟨c, h1, (Below.heap_alloc w (.cells z.cells t) _ e3).trans h2⟩
    . by_cases e : j = i <;> by_cases e' : j' = i
      . rw [e, e']
      . simp only [if_pos e, if_neg e'] at he
        rw [Go.getD_set_ne false (Ne.symm e')] at hl'
        obtain ⟨t2, d2, hop2, hd2, _⟩ := uw hal0 hj' ha'
        have := (hb j' oj' t2 d2 hj' ha' hop2 hd2 hl').2.2.1
        omega
      . simp only [if_neg e, if_pos e'] at he
        rw [Go.getD_set_ne false (Ne.symm e)] at hl
        obtain ⟨t2, d2, hop2, hd2, _⟩ := uw hal0 hj ha
        have := (hb j oj t2 d2 hj ha hop2 hd2 hl).2.2.1
        omega
      . simp only [if_neg e, if_neg e'] at he
        rw [Go.getD_set_ne false (Ne.symm e)] at hl
        rw [Go.getD_set_ne false (Ne.symm e')] at hl'
        exact hinj j j' oj oj' hj ha hl hj' ha' hl' he
   have hstep : ∀ (j : Nat) (oj : Oper), ops[j]? = some oj -> aY cx fn ops oj = true -> ((listed.setIfInBounds i true).getD j false = true ↔ j < 0) := fun j oj hj hsj => by
    have hji : j ≠ i := fun e => by
     subst e; rw [ho] at hj; obtain rfl := Option.some.inj hj
     rw [hnact] at hsj; cases hsj
    rw [Go.getD_set_ne false (Ne.symm hji)]
    exact hst j oj hj hsj
   have hkeep : ∀ x ∈ tfs 0, ∀ u, nm x u -> o.dst ≠ some u := fun x hx u hu => hf0 x hx u hu i o ho hnact
   have hlf' : fs 0 = true -> ∀ k x, fs k = true -> (listed.setIfInBounds i true).getD k false = true -> y8 (fn := fn) cx ops ts ms k x -> x ∈ gN o.dst tf := fun hfq k x hfk hk hfa => by
    obtain ⟨o2, ho2, hna2, hd2, hu2, _⟩ := AP hfa
    by_cases e : k = i
    . subst e
      obtain ⟨o3, v3, ho3, _, _, hfl3⟩ := hfa
      obtain ⟨_, _, _, _, _, _, _, _, _, hop3, _⟩ := wC hfl3
      rw [ho] at ho3; obtain rfl := Option.some.inj ho3
      rw [hop] at hop3; cases hop3
    . rw [Go.getD_set_ne false (Ne.symm e)] at hk
      refine survives (hlf hfq k x hfk hk hfa) fun u hu e2 => ?_
      rw [hu2 u hu] at e2
      exact e (hR.one i o k o2 x.1 ho ho2 hd2 e2)
   by_cases hall2 : mK ops (listed.setIfInBounds i true)
   . obtain ⟨g2, hr2, hx2⟩ := register hams hal0 hall2 hpend hset hR hT
     rw [<- hm0] at hr2
     exact ⟨0, g2, _, hq, hams, hstep, .inl ⟨hall2, hr2⟩, (hx.trans hxx).trans hx2, (put_defers _ _ _).trans hd, hcs, by simpa using hs, hclo, fun x hx => survives (hfl x hx) (hkeep x hx), hlf'⟩
   . exact ⟨0, _, _, hq, hams, hstep, .inr ⟨hall2, rfl, hset, hpend⟩, hx.trans hxx, (put_defers _ _ _).trans hd, hcs, by simpa using hs, hclo, fun x hx => survives (hfl x hx) (hkeep x hx), hlf'⟩
 have hali : bB ops o = false := by simpa using hali
 have hall_step : mK ops listed -> mK ops (listed.setIfInBounds i true) := fun h j oj hj ha => getD_set_true (h j oj hj ha)
 rcases hT.step i o hin ho with ⟨hact, v, hor, htm, hfst, htl⟩ | ⟨hna, v, hp, htm, hM, htf, hfst, htl⟩
 . 
   obtain ⟨hqi, e1, e2, e3, hallA, _⟩ := all_acts hact (Nat.le_of_lt hin)
   have hbef := KE hR hc i o ho hact hre
   obtain ⟨_, hr⟩ | ⟨h1, _⟩ := hph
   case inr => exact absurd hallA h1
   unfold wpOpIn
   simp only [ho]
   have hcloI : xV (if fs i then ((tls i).filter fun x => bQ ops i x.1).map (·.2) ++ tfs i else tfs i) := by
    rw [e2]
    split
    . intro t s ht
      rcases List.mem_append.1 ht with ht | ht
      . obtain ⟨y, hy, hye⟩ := List.mem_map.1 ht
        obtain ⟨hy, _⟩ := List.mem_filter.1 hy
        obtain ⟨_, hfa⟩ := xH hT hl0 i (Nat.le_of_lt hin) y hy
        obtain ⟨_, _, _, _, _, hno⟩ := AP hfa
        exact absurd (by rw [hye]) (hno s)
      . exact List.mem_append_right _ (hclo t s ht)
    . exact hclo
   have hsub : ∀ x ∈ (if fs i then ((tls i).filter fun x => bQ ops i x.1).map (·.2) ++ tfs i else tfs i), x ∈ tf := by
    intro x hx
    have base : x ∈ tfs i -> x ∈ tf := fun hx => hfl x (by rw [<- e2]; exact hx)
    split at hx
    . rename_i hfi
      rcases List.mem_append.1 hx with hx | hx
      . obtain ⟨y, hy, rfl⟩ := List.mem_map.1 hx
        obtain ⟨hy, hed⟩ := List.mem_filter.1 hy
        obtain ⟨hlt, hfa⟩ := xH hT hl0 i (Nat.le_of_lt hin) y hy
        exact hlf (by rw [<- e3]; exact hfi) y.1 y.2 (hT.first i (Nat.le_of_lt hin) hfi y.1 (by omega)) (edge_listed _ hed) hfa
      . exact base hx
    . exact base hx
   generalize htI : (if fs i then ((tls i).filter fun x => bQ ops i x.1).map (·.2) ++ tfs i else tfs i) = tfI at hor hcloI hsub
   have hr1 := hr.sub hsub hcloI
   rw [<- e1] at hr1
   rw [if_pos hwt]
   have fin : ∀ g2 a2 w2, Rel (Env.mk (Ctx.P cx) N S w0) d g2 ⟨aT (dQ ops n ts listed) o.dst v, tfs (i + 1)⟩ (ms (i + 1)) a2 w2 -> Ext (Env.mk (Ctx.P cx) N S w0) d g' w g2 w2 -> a2.defers = a.defers -> K a2 w2 := fun g2 a2 w2 hr2 hx2 hd2 => by
    rw [Ba hR hT hs hin ho htm] at hr2
    refine hK a2 w2 ⟨i + 1, g2, tfs (i + 1), hin, hams, fun j oj hj hsj => ?_, .inl ⟨hall_step hallA, hr2⟩, hx.trans hx2, hd2.trans hd, hcs, by simpa using hs, hr2.iB, fun x hx => hx, fun hf => by rw [hfst] at hf; cases hf⟩
    by_cases e : j = i
    . subst e
      simp [Array.getD, hs, hil]
    . rw [Go.getD_set_ne false (Ne.symm e), hst j oj hj hsj]
      constructor
      . intro h; omega
      . intro h
        exact (hst j oj hj hsj).1 (hbef j oj (by omega) hj hsj)
   rcases hor with ⟨hgen, hv⟩ | ⟨fr', hcg, hot, rfl, htf1, _⟩
   . rw [Tv (tm' := dQ ops n ts listed) hlen (fun t ht => (hlook t ht).symm)] at hv
     exact (aao hG hnews hr1 hact hgen hv fin)
   . have hcg' : qF cx dep o (dQ ops n ts listed) (ms i) .ret fr' (ms (i + 1)) := by
       obtain ⟨c, f, g, args, dd, t, h1, h2, h3, h4, h5⟩ := hcg
       obtain ⟨h6, h7⟩ := Bc h1
       refine ⟨c, f, g, args, dd, t, h1, h2, ?_, h4, h5⟩
       rw [<- h3]
       have k1 : aC cx.P (dQ ops n ts listed) 0 f = aC cx.P (ts i) 0 f := fT hlook (by rw [h6]; simp [Op.operands, Call.operands, h7]) 0
       have k2 : bH cx.P (dQ ops n ts listed) c.argTypes.toList c.args.toList = bH cx.P (ts i) c.argTypes.toList c.args.toList := wz fun x hx t => fT hlook (yV h6 hx) t
       rw [k1, k2]
     rw [htf1] at fin
     exact (TA hacts hr1 hcg' hot fin)
 . 
   have hp : (gq o = true /\ jD cx o (ts i) (ms i) = some v) \/ (gq o = false /\ bP cx (ms i) (ts i) o = some (true, v)) := by
    rcases hp with ⟨h1, _⟩ | ⟨_, h1⟩
    . rw [hali] at h1; cases h1
    . exact h1
   have hunt : gL o = true -> bF (dV cx.P (ts i) o) (ms q) (ms i) := by
    intro h1
    rcases Nat.le_total q i with hqi | hqi
    . exact hT.Gy hR hlate hin ho h1 hna i hqi (Nat.le_of_lt hin) fun j oj h2 h3 hj hsj => ⟨by
        cases hed : reach ops 3 i j with
        | false => rfl
        | true =>
         have := (hst j oj hj hsj).1 (reach_l j hed)
         omega, by
        cases hed : reach ops 3 j i with
        | false => rfl
        | true =>
         have := Iq hR 3 j i hed
         omega⟩
    . exact (hT.Gy hR hlate hin ho h1 hna q hqi hq fun j oj h2 h3 hj hsj => ⟨by
        cases hed : reach ops 3 i j with
        | false => rfl
        | true =>
         have := Iq hR 3 i j hed
         omega, by
        cases hed : reach ops 3 j i with
        | false => rfl
        | true =>
         have h4 := JX hc hj (fun e he hb => hc j oj hj ((hst j oj hj hsj).2 h3) e he hb) 3 i hed
         rw [hun'] at h4
         cases h4⟩).symm
   have hstep : ∀ (j : Nat) (oj : Oper), ops[j]? = some oj -> aY cx fn ops oj = true -> ((listed.setIfInBounds i true).getD j false = true ↔ j < q) := fun j oj hj hsj => by
    have hji : j ≠ i := fun e => by
     subst e; rw [ho] at hj; obtain rfl := Option.some.inj hj
     rw [hna] at hsj; cases hsj
    rw [Go.getD_set_ne false (Ne.symm hji)]
    exact hst j oj hj hsj
   have hkeep : ∀ x ∈ tfs q, ∀ u, nm x u -> o.dst ≠ some u := fun x hx u hu e => by
    obtain ⟨k, ok, h1, h2, h3, h4⟩ := horig q hq x hx u hu i o ho hna e
    have hk := (hst k ok h2 h3).2 h1
    obtain ⟨o', e', ho', he, hb, hon⟩ := lU h4
    have := hc k o' ho' hk e' he hb
    rw [hon, hun'] at this
    cases this
   have value : ∀ (tm : List AV) (M1 : Mm), (∀ t ∈ looks o, tm.getD t .dead = (ts i).getD t .dead) -> (gL o = true -> bF (dV cx.P (ts i) o) M1 (ms i)) ->
       (gq o = true /\ jD cx o tm M1 = some v) \/ (gq o = false /\ bP cx M1 tm o = some (true, v)) := by
    intro tm M1 h1 h2
    rcases hp with ⟨h3, h4⟩ | ⟨h3, h4⟩
    . refine .inl ⟨h3, ?_⟩
      rw [Sc h1, <- h4]
      exact acZ h3 (h2 (by
       unfold gq at h3
       unfold gL
       split at h3
       . rename_i hop; rw [hop]
       . exact absurd h3 (by simp)))
    . refine .inr ⟨h3, ?_⟩
      rw [ZE h1, <- h4]
      rcases hR.kind i o ho with h5 | h5 | h5 | h5
      . rw [hna] at h5; cases h5
      . rw [hali] at h5; cases h5
      . exact RI h5 h3 (h2 h5)
      . exact TG h5
   have flags : ∀ (tm : List AV) (M1 : Mm) (tf' : List (Nat × TF)), (∀ t ∈ looks o, tm.getD t .dead = (ts i).getD t .dead) -> tm.length = (ts i).length -> M1.ro = (ms q).ro -> (∀ x ∈ tf, (∀ u, nm x u -> o.dst ≠ some u) -> x ∈ tf') -> (∀ x, lq cx.P o tm M1 v = some x -> x ∈ tf') ->
       (∀ x ∈ tfs q, x ∈ tf') /\ (fs q = true -> ∀ k x, fs k = true -> (listed.setIfInBounds i true).getD k false = true -> y8 (fn := fn) cx ops ts ms k x -> x ∈ tf') := by
    intro tm M1 tf' h1 hl1 hro h2 h3
    refine ⟨fun x hx => h2 x (hfl x hx) (hkeep x hx), fun hfq k x hfk hk hfa => ?_⟩
    by_cases e : k = i
    . subst e
      obtain ⟨o2, v2, ho2, _, htm2, hfl2⟩ := hfa
      rw [ho] at ho2
      obtain rfl := Option.some.inj ho2
      obtain ⟨t, ad, r, p, t', off, e, l, ex, hop, hdst, rfl, hptr, hr0, hlt, hvia⟩ := wC hfl2
      have hv2 : v = .slice e l ex := by
       rw [htm, hdst] at htm2
       have := congrArg (fun z => z.getD x.1 .dead) htm2
       simp only [aT] at this
       rwa [gP hlt, gP hlt] at this
      subst hv2
      refine h3 x ?_
      have hmq : (ms q).ro = (ms k).ro := by
       have key : ∀ b c, b <= c -> c <= n -> fs c = true -> ms c = ms b := fun b c hbc hc2 hfc =>
        (hT.same c hbc hc2 fun j oj h1 h2 hj => hT.none c hc2 hfc j oj h2 hj).1
       rcases Nat.le_total q k with hqi | hqi
       . rw [key q k hqi (Nat.le_of_lt hin) hfk]
       . rw [<- key k q hqi hq hfq]
      have hptr' : aC cx.P tm 0 ad = aC cx.P (ts k) 0 ad := fT h1 (by rw [hop]; simp [Op.operands]) 0
      rw [<- hfl2]
      unfold lq
      rw [hop, hdst]
      dsimp only
      rw [hptr', hptr]
      dsimp only
      rw [hro, hmq, hl1]
    . rw [Go.getD_set_ne false (Ne.symm e)] at hk
      obtain ⟨o2, ho2, hna2, hd2, hu2, _⟩ := AP hfa
      refine h2 x (hlf hfq k x hfk hk hfa) fun u hu e2 => ?_
      rw [hu2 u hu] at e2
      exact e (hR.one i o k o2 x.1 ho ho2 hd2 e2)
   rcases hph with ⟨hallA, hr⟩ | ⟨hnall, rfl, hr, hpd⟩
   . refine Ke hG hr ho hgd (value _ _ hlook hunt) fun c w' tf' hb hr2 h2 h3 => ?_
     rw [Ba hR hT hs hin ho htm] at hr2
     obtain ⟨f1, f2⟩ := flags _ _ tf' hlook hlen.symm rfl h2 h3
     exact hK _ _ ⟨q, g', tf', hq, hams, hstep, .inl ⟨hall_step hallA, hr2⟩, hx.trans (Ext.of_below hb), (put_defers _ _ _).trans hd, hcs, by simpa using hs, hclo, f1, f2⟩
   . 
     have hearly : ∀ (j : Nat) (oj : Oper), ops[j]? = some oj -> bB ops oj = true -> bQ ops i j = false := by
      rcases hR.late i o ho hali with h1 | ⟨_, h1⟩
      . exact absurd (fun j oj hj ha => edge_listed j (h1 j oj hj ha)) hnall
      . exact h1
     have hnoal : ∀ t ∈ looks o, ∀ (j : Nat) (oj : Oper), ops[j]? = some oj -> bB ops oj = true -> oj.dst ≠ some t := fun t ht j oj hj ha hdj => by
      rcases hR.look i o j oj t ho hj hdj ht with ⟨_, h1⟩ | h1
      . rw [hearly j oj hj ha] at h1; cases h1
      . obtain ⟨o', e, ho', he, hb, _⟩ := lU (Ec h1).2.1
        rw [hj] at ho'; obtain rfl := Option.some.inj ho'
        rw [(hR.al j _ hj ha).1 e he] at hb; cases hb
     have hlookA : ∀ t ∈ looks o, (stA ops n ts listed).getD t .dead = (ts i).getD t .dead := fun t ht => by
      rw [pV, if_neg, hlook t ht]
      intro k
      obtain ⟨j, oj, hj, ha, _, hdj⟩ := nR.1 k
      exact hnoal t ht j oj hj ha hdj
     have huntA : gL o = true -> bF (dV cx.P (ts i) o) M0 (ms i) := by
      intro hl
      refine bF.trans (M' := ms 0) ?_ (hunt hl)
      rw [hm0]
      have haddr : dV cx.P (ts n) o = dV cx.P (ts i) o := H7 hl (fun t ht => TRun.fin hR hT ho (.inl ⟨hna, hl⟩) ht (Nat.le_of_lt hin) (Nat.le_refl _))
      have hal_lt : ∀ (j : Nat) (oj : Oper), ops[j]? = some oj -> bB ops oj = true -> j < n := fun j oj hj ha => by
       rcases hend with hend | ⟨o2, v2, M1, ho2, ⟨hact2, _, _⟩, _⟩
       . rw [hend]; exact dI hj
       . have hna2 : bB ops o2 = false := by
           cases hh : bB ops o2 with
           | false => rfl
           | true => rw [wS hh] at hact2; cases hact2
         rcases hR.late n o2 ho2 hna2 with h1 | ⟨h1, _⟩
         . obtain ⟨o', e, ho', he, hb, hon⟩ := lU (h1 j oj hj ha)
           rw [<- hon]; exact hR.back n o' e ho' he hb
         . rw [hact2] at h1; cases h1
      have hap : ∀ (j : Nat) (oj : Oper), ops[j]? = some oj -> bB ops oj = true -> ∀ r, jK (dV cx.P (ts i) o) = some r -> r ≠ M0.rows.length + gJ ops j := by
       intro j oj hj ha r hrr
       obtain ⟨ty, dd, hop, hdst, _, hlt⟩ := uw hal0 hj ha
       have h1 := hT.dyn
       simp only [qg, List.all_eq_true, List.mem_range] at h1
       have h2 := h1 i hin
       rw [ho] at h2
       simp only [hl, hna, Bool.not_false, Bool.and_self, Bool.not_true, Bool.false_or, List.all_eq_true, List.mem_range] at h2
       have hjn := hal_lt j oj hj ha
       have h3 := h2 j hjn
       rw [hj] at h3
       have hji : bQ ops j i = false := by
        cases hh : bQ ops j i with
        | false => rfl
        | true =>
         obtain ⟨o', e, ho', he, hb, _⟩ := lU hh
         rw [hj] at ho'; obtain rfl := Option.some.inj ho'
         rw [(hR.al j _ hj ha).1 e he] at hb; cases hb
       simp only [ha, Bool.or_true, Bool.not_true, hearly j oj hj ha, hji, Bool.false_or] at h3
       have hval : dV cx.P (ts n) oj = .ptr (M0.rows.length + gJ ops j) [] ty 0 := by
        unfold dV
        rw [hop]
        simp only [hdst]
        rw [hT.yields hR hjn hj hdst]
        rcases hT.step j oj hjn hj with ⟨hact, _⟩ | ⟨_, v2, hv2, htm2, _⟩
        . rw [wS ha] at hact; cases hact
        . rcases hv2 with ⟨_, rfl⟩ | ⟨hna2, _⟩
          . rw [htm2, hdst]
            show ((ts j).set dd _).getD dd .dead = _
            rw [gP (by rw [hT.len j (Nat.le_of_lt hjn)]; exact hlt)]
            simp [Cx, hop]
          . rw [ha] at hna2; cases hna2
       rw [haddr, hval] at h3
       rcases zK h3 with h4 | ⟨r', p', t', o', he, h4⟩
       . exact h4 r hrr
       . cases p' <;> simp [apart] at h4
      refine vQ fun r hrr => ?_
      show (M0.rows ++ gT cx.P ops).getD r (.arr 0 []) = M0.rows.getD r (.arr 0 [])
      rcases Nat.lt_or_ge r M0.rows.length with h1 | h1
      . simp [List.getD, List.getElem?_append_left h1]
      . rcases Nat.lt_or_ge r (M0.rows.length + (gT cx.P ops).length) with h2 | h2
        . obtain ⟨j, oj, hj, ha, hix, _⟩ := ER (cx := cx) (ops := ops) (k := r - M0.rows.length) (by omega)
          exact absurd (by omega) (hap j oj hj ha r hrr)
        . have h3 : (M0.rows ++ gT cx.P ops).length <= r := by simp; omega
          simp [List.getD, List.getElem?_eq_none h3, List.getElem?_eq_none h1]
     refine Ke hG hr ho hgd (value _ _ hlookA huntA) fun c w' tf' hb hr2 h2 h3 => ?_
     rw [WV hR hT hs hin ho hali htm] at hr2
     obtain ⟨f1, f2⟩ := flags _ _ tf' hlookA (by rw [jY, hT.len i (Nat.le_of_lt hin)]) (by rw [hm0]) h2 h3
     have hnall2 : ¬ mK ops (listed.setIfInBounds i true) := fun h => hnall fun j oj hj ha => by
      have := h j oj hj ha
      by_cases e : j = i
      . subst e; rw [ho] at hj; obtain rfl := Option.some.inj hj; rw [hali] at ha; cases ha
      . rwa [Go.getD_set_ne false (Ne.symm e)] at this
     refine hK _ _ ⟨0, g', tf', hq, hams, hstep, .inr ⟨hnall2, rfl, hr2, ?_⟩, hx.trans (Ext.of_below hb), (put_defers _ _ _).trans hd, hcs, by simpa using hs, hclo, f1, f2⟩
     obtain ⟨bf, hb1, hinj⟩ := hpd
     have hlst : ∀ (j : Nat) (oj : Oper), ops[j]? = some oj -> bB ops oj = true -> (listed.setIfInBounds i true).getD j false = true -> listed.getD j false = true := fun j oj hj ha hl => by
      by_cases e : j = i
      . subst e; rw [ho] at hj; obtain rfl := Option.some.inj hj; rw [hali] at ha; cases ha
      . rwa [Go.getD_set_ne false (Ne.symm e)] at hl
     refine ⟨bf, fun j oj t2 d2 hj ha hop2 hd2 hl => ?_, fun j j' oj oj' hj ha hl hj' ha' hl' he => hinj j j' oj oj' hj ha (hlst j oj hj ha hl) hj' ha' (hlst j' oj' hj' ha' hl') he⟩
     obtain ⟨e1, e2, e3, e4, e5, c2, e6, e7⟩ := hb1 j oj t2 d2 hj ha hop2 hd2 (hlst j oj hj ha hl)
     have hne : o.dst ≠ some d2 := fun k => by
      have := hR.one j oj i o d2 hj ho k hd2
      subst this
      rw [ho] at hj; obtain rfl := Option.some.inj hj; rw [hali] at ha; cases ha
     refine ⟨?_, e2, Nat.lt_of_lt_of_le e3 hb.size, e4, e5, c2, e6, (hb.block _ e3).trans e7⟩
     cases hdo : o.dst with
     | none => exact e1
     | some t3 => rw [sZ (fun e => hne (by rw [hdo, e]))]; exact e1
theorem XB {ro : Option Nat} (hG : cx.Good) (hnews : dz (R := Fr × Mm) cx (ji cx dep)) (hacts : dz (R := Sum (Fr × Mm) (AV × Fr × Mm)) cx (iI cx dep)) (hR : RegOK cx fn ops) (hlate : oU cx ops = true) (hal0 : sN cx.P ops (ts 0).length = true) (hT : TRun cx fn dep M0.rows.length ops n fs ts tfs tls ms) (hm0 : ms 0 = { M0 with rows := M0.rows ++ gT cx.P ops }) (hl0 : tls 0 = [])
    (hf0 : ∀ x ∈ tfs 0, ∀ u, nm x u -> ∀ (j : Nat) (oj : Oper), ops[j]? = some oj -> aY cx fn ops oj = false -> oj.dst ≠ some u) {g0 : G} {a0 : Act} {wa : World}
    (hend : n = ops.size \/ ∃ o v M1, ops[n]? = some o /\ CB cx fn dep ops n o (ts n) (ms n) v M1 /\ ∀ c g' a' w', Rel (Env.mk (Ctx.P cx) N S w0) d g' ⟨(dstsOf ops.toList).foldl (fun tm t => tm.set t .dead) (ts 0), []⟩ M1 a' w' -> Ext (Env.mk (Ctx.P cx) N S w0) d g0 wa g' w' -> a'.defers = a0.defers -> aK cx.P (aI (Env.mk (Ctx.P cx) N S w0) g' w') v c -> Q (.panic [{ v := c, recovered := false }]) a' w')
    (hQ : n = ops.size -> ∀ g' a' w', Rel (Env.mk (Ctx.P cx) N S w0) d g' ⟨ts ops.size, tfs ops.size⟩ (ms ops.size) a' w' -> Ext (Env.mk (Ctx.P cx) N S w0) d g0 wa g' w' -> a'.defers = a0.defers -> Q .normal a' w') :
    ∀ (fuel : Nat) (listed : Array Bool) (a : Act) (w : World), un ops.size listed <= fuel -> wT cx fn N S w0 d ops n fs ts tfs ms M0 g0 a0 wa listed a w -> wpAnyIn (W ro) 0 cx.P .any ops Q fuel listed a w := by
 have fin : ∀ (listed : Array Bool) (a : Act) (w : World), (∀ j, j < ops.size -> listed.getD j false = true) -> wT cx fn N S w0 d ops n fs ts tfs ms M0 g0 a0 wa listed a w -> Q .normal a w := by
  intro listed a w hall ⟨q, g', tf, hq, ham, hst, hph, hx, hd, hc, hs, hclo, hfl, hlf⟩
  have hn : n = ops.size := by
   rcases hend with h | ⟨o, v, M1, ho, _⟩
   . exact h
   . have := ham n (hall n (dI ho))
     omega
  subst hn
  rcases hph with ⟨_, hr⟩ | ⟨hn, _⟩
  . rw [XV hT hall] at hr
    obtain ⟨e1, e2, _⟩ := hT.same ops.size hq (Nat.le_refl _) fun j oj h1 h2 hj => by
     cases hsj : aY cx fn ops oj with
     | false => rfl
     | true =>
      have := (hst j oj hj hsj).1 (hall j h2)
      omega
    rw [<- e1] at hr
    exact hQ rfl g' a w (hr.sub (fun x hx => hfl x (by rw [<- e2]; exact hx)) (by rw [e2]; exact hclo)) hx hd
  . exact absurd (fun j oj hj _ => hall j (dI hj)) hn
 have hsz : ∀ {listed a w}, wT cx fn N S w0 d ops n fs ts tfs ms M0 g0 a0 wa listed a w -> listed.size = ops.size := fun ⟨_, _, _, _, _, _, _, _, _, _, hs, _⟩ => hs
 intro fuel
 induction fuel with
 | zero =>
  intro listed a w hu hI
  have hall := acP hu
  refine ⟨?_, fin listed a w hall hI⟩
  apply List.eq_nil_iff_forall_not_mem.2
  intro j hj
  obtain ⟨h1, o, ho, _⟩ := mem_ready.1 hj
  have hjl := dI ho
  have hs := hsz hI
  have h2 := hall j hjl
  simp [Array.getD, hs, hjl] at h1 h2
  rw [h1] at h2; cases h2
 | succ fuel ih =>
  intro listed a w hu hI
  have hs := hsz hI
  refine ⟨fun h0 => fin listed a w (UC hR hs h0) hI, fun i hi => ?_⟩
  refine aac hG hnews hacts hR hlate hal0 hT hm0 hl0 hf0 hend hI hi fun a' w' hI' => ih _ a' w' ?_ hI'
  obtain ⟨h1, o, ho, _⟩ := mem_ready.1 hi
  have hil := dI ho
  have := adr hs hil (by simpa [Array.getD, hs, hil] using h1)
  omega
theorem Vx {i : Nat} {o : Oper} (h : ops[i]? = some o) (hna : aY cx fn ops o = false) {t : Nat} (ht : o.dst = some t) : t ∈ vo cx fn ops := by
 have hm : o ∈ ops.toList.filter fun o => !(aY cx fn ops o) := List.mem_filter.2 ⟨List.mem_of_getElem? (by simpa using h), by simp [hna]⟩
 have key : ∀ (l : List Oper), o ∈ l -> t ∈ dstsOf l := by
  intro l
  induction l with
  | nil => intro h; cases h
  | cons x l ih =>
   intro h
   simp only [dstsOf]
   rcases List.mem_cons.1 h with rfl | h
   . rw [ht]; exact List.mem_cons_self
   . split
     . exact List.mem_cons_of_mem _ (ih h)
     . exact ih h
 exact key _ hm
theorem zn {x : Nat × TF} {tf : List (Nat × TF)} (h : x ∈ noT tf) : x ∈ tf /\ ∀ s, x.2 ≠ .viaT s := by
 unfold noT at h
 rw [List.mem_filter] at h
 refine ⟨h.1, fun s e => ?_⟩
 have := h.2
 rw [e] at this
 cases this
theorem Bf {σ : List Nat} {k : Nat} (h : uP σ k = true) : σ.length = k /\ ∀ i, i < k -> (gy i σ < k /\ σ[gy i σ]? = some i) /\ ∃ j, σ[i]? = some j /\ j < k /\ gy j σ = i := by
 unfold uP at h
 rw [Bool.and_eq_true, List.all_eq_true] at h
 refine ⟨Nat.eq_of_beq_eq_true h.1, fun i hi => ?_⟩
 have := h.2 i (List.mem_range.2 hi)
 rw [Bool.and_eq_true, Bool.and_eq_true] at this
 obtain ⟨⟨h1, h2⟩, h3⟩ := this
 refine ⟨⟨Nat.blt_eq.mp h1, ?_⟩, ?_⟩
 . split at h2
   . rename_i j hj; rw [hj, Nat.eq_of_beq_eq_true h2]
   . exact absurd h2 (by simp)
 . split at h3
   . rename_i j hj
     rw [Bool.and_eq_true] at h3
     exact ⟨j, hj, Nat.blt_eq.mp h3.1, Nat.eq_of_beq_eq_true h3.2⟩
   . exact absurd h3 (by simp)
theorem aaZ {σ : List Nat} {k : Nat} (h : uP σ k = true) : ∀ j ∈ σ, j < k := by
 obtain ⟨h1, h2⟩ := Bf h
 intro j hj
 obtain ⟨p, hp, hpe⟩ := List.mem_iff_getElem.1 hj
 obtain ⟨_, j', h3, h4, _⟩ := h2 p (by omega)
 rw [List.getElem?_eq_getElem hp, hpe] at h3
 rw [Option.some.inj h3]; exact h4
theorem KG {σ : List Nat} (h : uP σ ops.size = true) : (lX σ ops).size = ops.size /\ ∀ i o, ops[i]? = some o -> (lX σ ops)[gy i σ]? = some (lG σ o) := by
 obtain ⟨h1, h2⟩ := Bf h
 have hlt := aaZ h
 have hmap : ∀ l : List Nat, (∀ j ∈ l, j < ops.size) -> (l.filterMap fun i => ops[i]?.map (lG σ)) = l.map fun i => lG σ (ops.getD i default) := by
  intro l
  induction l with
  | nil => intro _; rfl
  | cons j l ih =>
   intro hl
   have hj := hl j List.mem_cons_self
   rw [List.filterMap_cons_some (b := lG σ (ops.getD j default)) (by simp [Array.getD, hj]), List.map_cons, ih fun x hx => hl x (List.mem_cons_of_mem _ hx)]
 have he : lX σ ops = (σ.map fun i => lG σ (ops.getD i default)).toArray := by unfold lX; rw [hmap σ hlt]
 rw [he]
 refine ⟨by simp [h1], fun i o ho => ?_⟩
 have hi := dI ho
 obtain ⟨⟨h3, h4⟩, _⟩ := h2 i hi
 simp only [List.getElem?_toArray, List.getElem?_map, h4, Option.map_some]
 congr 2
 simp [Array.getD, hi, (Array.getElem?_eq_some_iff.1 ho).2]
theorem WW {ro : Option Nat} {P : Program} {σ : List Nat} (hσ : uP σ ops.size = true) (hed : ∀ (i : Nat) (o : Oper), ops[i]? = some o -> ∀ e ∈ o.after, e.on < ops.size) (hgd : ∀ (i : Nat) (o : Oper), ops[i]? = some o -> o.guard = none) :
    ∀ (fuel : Nat) (listed listed' : Array Bool) (a : Act) (w : World), listed.size = ops.size -> listed'.size = ops.size -> (∀ i, i < ops.size -> listed'.getD (gy i σ) false = listed.getD i false) ->
     wpAnyIn (W ro) 0 P .any (lX σ ops) Q fuel listed' a w -> wpAnyIn (W ro) 0 P .any ops Q fuel listed a w := by
 obtain ⟨hsz, hget⟩ := KG hσ
 obtain ⟨_, hix⟩ := Bf hσ
 have hinj : ∀ i i', i < ops.size -> i' < ops.size -> gy i σ = gy i' σ -> i = i' := fun i i' hi hi' e => by
  have a := (hix i hi).1.2
  rw [e, (hix i' hi').1.2] at a
  exact (Option.some.inj a).symm
 have hready : ∀ (listed listed' : Array Bool), listed.size = ops.size -> listed'.size = ops.size -> (∀ i, i < ops.size -> listed'.getD (gy i σ) false = listed.getD i false) -> ∀ i, i ∈ Region.ready .any ops listed -> gy i σ ∈ Region.ready .any (lX σ ops) listed' := by
  intro listed listed' h1 h2 hl i hi
  obtain ⟨hun, o, ho, hre⟩ := mem_ready.1 hi
  have hil := dI ho
  refine mem_ready.2 ⟨?_, lG σ o, hget i o ho, fun e he hb => ?_⟩
  . have := hl i hil
    have h3 : listed.getD i false = false := by simpa [Array.getD, h1, hil] using hun
    rw [h3] at this
    simpa [Array.getD, h2, (hix i hil).1.1] using this
  . simp only [lG] at he
    obtain ⟨e', he', rfl⟩ := Array.mem_map.1 he
    have h3 := hre e' he' hb
    rw [<- hl e'.on (hed i o ho e' he')] at h3
    exact h3
 have hnil : ∀ (listed listed' : Array Bool), listed.size = ops.size -> listed'.size = ops.size -> (∀ i, i < ops.size -> listed'.getD (gy i σ) false = listed.getD i false) -> Region.ready .any (lX σ ops) listed' = [] -> Region.ready .any ops listed = [] := by
  intro listed listed' h1 h2 hl h0
  apply List.eq_nil_iff_forall_not_mem.2
  intro i hi
  have := hready listed listed' h1 h2 hl i hi
  rw [h0] at this
  cases this
 have hnil2 : ∀ (listed listed' : Array Bool), listed.size = ops.size -> listed'.size = ops.size -> (∀ i, i < ops.size -> listed'.getD (gy i σ) false = listed.getD i false) -> Region.ready .any ops listed = [] -> Region.ready .any (lX σ ops) listed' = [] := by
  intro listed listed' h1 h2 hl h0
  apply List.eq_nil_iff_forall_not_mem.2
  intro p hp
  obtain ⟨hun, o', ho', hre⟩ := mem_ready.1 hp
  have hpl := dI ho'
  rw [hsz] at hpl
  obtain ⟨_, i, hi, hil, hpi⟩ := hix p hpl
  have hpi := hpi.symm
  subst hpi
  have hoi : ops[i]? = some ops[i] := by simp
  have := hget i _ hoi
  rw [ho'] at this
  obtain rfl := Option.some.inj this
  have hin : i ∈ Region.ready .any ops listed := mem_ready.2 ⟨by
   have h3 : listed'.getD (gy i σ) false = false := by simpa [Array.getD, h2, hpl] using hun
   rw [hl i hil] at h3
   simpa [Array.getD, h1, hil] using h3, _, hoi, fun e he hb => by
   rw [<- hl e.on (hed i _ hoi e he)]
   exact hre { e with on := gy e.on σ } (by simp only [lG]; exact Array.mem_map.2 ⟨e, he, rfl⟩) hb⟩
  rw [h0] at hin
  cases hin
 intro fuel
 induction fuel with
 | zero => intro listed listed' a w h1 h2 hl h; exact ⟨hnil _ _ h1 h2 hl h.1, h.2⟩
 | succ fuel ih =>
  intro listed listed' a w h1 h2 hl h
  refine ⟨fun h0 => h.1 (hnil2 _ _ h1 h2 hl h0), fun i hi => ?_⟩
  have hp := h.2 _ (hready _ _ h1 h2 hl i hi)
  obtain ⟨_, o, ho, _⟩ := mem_ready.1 hi
  have hil := dI ho
  have hK : ∀ a' w', wpAnyIn (W ro) 0 P .any (lX σ ops) Q fuel (listed'.setIfInBounds (gy i σ) true) a' w' -> wpAnyIn (W ro) 0 P .any ops Q fuel (listed.setIfInBounds i true) a' w' := fun a' w' h3 => by
   refine ih _ _ a' w' (by simpa using h1) (by simpa using h2) (fun j hj => ?_) h3
   by_cases e : j = i
   . subst e
     simp [Array.getD, h1, h2, hil, (hix j hil).1.1]
   . rw [Go.getD_set_ne false (Ne.symm e), Go.getD_set_ne false (fun e2 => e (hinj i j hil hj e2).symm)]
     exact hl j hj
  refine wpOpIn_mono hK ?_
  unfold wpOpIn at hp ⊢
  rw [hget i o ho] at hp
  simp only [ho] at hp ⊢
  have hg := hgd i o ho
  rw [if_pos (by simp [Region.wanted, hg])]
  rw [if_pos (by simp [Region.wanted, lG, hg])] at hp
  exact hp
theorem acI {ro : Option Nat} {R : Type} (hG : cx.Good) (hnews : dz (R := Fr × Mm) cx (ji cx dep)) (hacts : dz (R := Sum (Fr × Mm) (AV × Fr × Mm)) cx (iI cx dep)) {id : Nat} {K : AX -> Fr -> Mm -> Option R} {r : R} (hm : cx.P.follows .mixedOrders = true)
    (hreg : (Es cx ops && Dr cx fn (fJ cx ops) && oU cx (fJ cx ops) && sN cx.P (fJ cx ops) fr.tmps.length) = true) (hr : Rel (Env.mk (Ctx.P cx) N S w0) d g fr M a w)
    (h : kW cx fn dep M.rows.length (fJ cx ops) (fun v M => K (.panic v) { tmps := (dstsOf (fJ cx ops).toList).foldl (fun tm t => tm.set t .dead) fr.tmps, tf := [] } M) (fJ cx ops).toList 0 true fr.tmps (noT (lZ (vo cx fn (fJ cx ops)) fr.tf)) [] { M with rows := M.rows ++ gT cx.P (fJ cx ops) }
     (fun tm tf M => if qg cx fn (fJ cx ops) (fJ cx ops).size tm then K .normal { tmps := tm, tf := tf } M else none) = some r)
    (hQ : ∀ tm tf M' g' a' w', Rel (Env.mk (Ctx.P cx) N S w0) d g' ⟨tm, tf⟩ M' a' w' -> Ext (Env.mk (Ctx.P cx) N S w0) d g w g' w' -> a'.defers = a.defers -> K .normal ⟨tm, tf⟩ M' = some r -> Q .normal a' w')
    (hP : ∀ v c tm M' g' a' w', Rel (Env.mk (Ctx.P cx) N S w0) d g' ⟨tm, []⟩ M' a' w' -> Ext (Env.mk (Ctx.P cx) N S w0) d g w g' w' -> a'.defers = a.defers -> aK cx.P (aI (Env.mk (Ctx.P cx) N S w0) g' w') v c -> K (.panic v) ⟨tm, []⟩ M' = some r -> Q (.panic [{ v := c, recovered := false }]) a' w') :
    (Code.region id ops true).wpIn (W ro) 0 cx.P Q a w := by
 refine wpIn_region_any hm ?_
 rw [Bool.and_eq_true, Bool.and_eq_true, Bool.and_eq_true] at hreg
 obtain ⟨⟨⟨hsrt, hreg⟩, hlate⟩, hal0⟩ := hreg
 generalize hops' : fJ cx ops = ops' at *
 have core : wpAnyIn (W ro) 0 cx.P .any ops' Q ops'.size (Array.replicate ops'.size false) a { w with drawn := w.drawn + 1 } := by
  obtain ⟨m, fs, ts, tfs, tls, ms, e0, e1, e2, e3, e4, hm, hstep, hk⟩ := Nn ops'.toList 0 true fr.tmps _ [] _ h
  have hR := J9 hreg
  have hb : Below w.heap.size w w.drew := (Below.refl _ _).drew
  have hr0 : Rel (Env.mk (Ctx.P cx) N S w0) d g ⟨ts 0, noT (lZ (vo cx fn ops') fr.tf)⟩ M a w.drew := by
   have := (((hr.drops (vo cx fn ops')).sub (fun x hx => (zn hx).1) (MZ fun x hx => (zn hx).2)) : Rel (Env.mk (Ctx.P cx) N S w0) d g ⟨fr.tmps, noT (lZ (vo cx fn ops') fr.tf)⟩ M a w).grown hb
   rw [e1]; exact this
  have hf0 : ∀ x ∈ tfs 0, ∀ u, nm x u -> ∀ (j : Nat) (oj : Oper), ops'[j]? = some oj -> aY cx fn ops' oj = false -> oj.dst ≠ some u := by
   intro x hx u hu j oj hj hna hd
   rw [e2] at hx
   obtain ⟨h1, h2⟩ := zn hx
   have := (GU h1).2 u (Vx hj hna hd)
   rcases hu with hu | hu
   . exact this.1 hu
   . exact h2 u hu
  have hlist0 : ∀ j, j < ops'.size -> (Array.replicate ops'.size false).getD j false = false := fun j hj => by simp [Array.getD, hj]
  have hdyn : qg cx fn ops' m (ts m) = true := by
   rcases hk with ⟨rfl, hk⟩ | ⟨o, v, M1, ho, ⟨_, _, hd⟩, _⟩
   . simp only [Array.length_toList] at hk ⊢
     split at hk
     . rename_i hd; exact hd
     . exact absurd hk (by simp)
   . rw [Nat.zero_add] at hd; exact hd
  have hT : TRun cx fn dep M.rows.length ops' m fs ts tfs tls ms := ⟨by simpa using hm, fun i o hi ho => by
   have := hstep i o hi (by simpa using ho)
   rwa [Nat.zero_add] at this, hdyn⟩
  have hstA : stA ops' m ts (Array.replicate ops'.size false) = ts 0 := by
   rw [U9 fun j oj hj _ => hlist0 j (dI hj)]
   exact K6 hT
  refine XB (N := N) (S := S) (w0 := w0) (d := d) (M0 := M) (g0 := g) (a0 := a) (wa := w) hG hnews hacts hR hlate (by rw [e1]; exact hal0) hT e4 e3 hf0 ?_ (fun hn g' a' w' hr' hx' hd' => ?_) ops'.size _ a _ ?_ ⟨0, g, _, Nat.zero_le _, fun j hj => ?_, fun j oj hj _ => ?_, ?_, Ext.of_below hb, rfl, ?_, by simp, by rw [e2]; exact MZ fun x hx => (zn hx).2, fun x hx => by rw [e2] at hx; exact hx, fun _ k x _ hk2 hfa => ?_⟩
  . rcases hk with ⟨hme, _⟩ | ⟨o, v, M1, ho, hpan, hkp⟩
    . exact .inl (by simpa using hme)
    . rw [Nat.zero_add] at hpan
      refine .inr ⟨o, v, M1, by simpa using ho, hpan, fun c g' a' w' hr' hx' hd' hv' => hP v c _ M1 g' a' w' hr' hx' hd' hv' ?_⟩
      rw [e1]; exact hkp
  . rcases hk with ⟨_, hk⟩ | ⟨o, v, M1, ho, _⟩
    . simp only [Array.length_toList] at hk
      split at hk
      . exact hQ _ _ _ g' a' w' hr' hx' hd' hk
      . exact absurd hk (by simp)
    . have := dI (ops := ops') (i := m) (by simpa using ho)
      omega
  . have := List.length_filter_le (fun j => !((Array.replicate ops'.size false).getD j false)) (List.range ops'.size)
    simpa [un] using this
  . by_cases hlt : j < ops'.size
    . rw [hlist0 j hlt] at hj; cases hj
    . simp [Array.getD, hlt] at hj
  . have := dI hj
    simp [Array.getD, this]
  . by_cases hm : mK ops' (Array.replicate ops'.size false)
    . have hnone : gT cx.P ops' = [] := by
        cases hh : gT cx.P ops' with
        | nil => rfl
        | cons x l =>
         obtain ⟨j, oj, hj, ha, _⟩ := ER (cx := cx) (ops := ops') (k := 0) (by rw [hh]; simp)
         have := hm j oj hj ha
         rw [hlist0 j (dI hj)] at this; cases this
      refine .inl ⟨hm, ?_⟩
      rw [K6 hT, e4, hnone, List.append_nil]
      exact hr0
    . refine .inr ⟨hm, rfl, by rw [hstA]; exact hr0, fun _ => 0, fun j oj t dd hj _ _ _ hl => ?_, fun j j' oj oj' hj _ hl => ?_⟩
      . rw [hlist0 j (dI hj)] at hl; cases hl
      . rw [hlist0 j (dI hj)] at hl; cases hl
  . intro k o hk hl
    rw [hlist0 k (dI hk)] at hl; cases hl
  . obtain ⟨o, _, ho, _⟩ := hfa
    rw [hlist0 k (dI ho)] at hk2; cases hk2
 unfold fJ at hops'
 split at hops'
 . subst hops'; exact core
 . rename_i hne
   unfold Es at hsrt
   rw [Bool.or_eq_true, Bool.and_eq_true] at hsrt
   rcases hsrt with h1 | ⟨h1, h2⟩
   . exact absurd h1 hne
   . obtain ⟨hsz, hget⟩ := KG h1
     have hed : ∀ (i : Nat) (o : Oper), ops[i]? = some o -> ∀ e ∈ o.after, e.on < ops.size := fun i o ho e he => by
      rw [List.all_eq_true] at h2
      have h3 := h2 o (List.mem_of_getElem? (by simpa using ho))
      rw [List.all_eq_true] at h3
      exact Nat.blt_eq.mp (h3 e (by simpa using he))
     have hgd : ∀ (i : Nat) (o : Oper), ops[i]? = some o -> o.guard = none := fun i o ho => by
      have := (J9 hreg).guard (gy i (Dw cx ops)) (lG (Dw cx ops) o) (by rw [<- hops']; exact hget i o ho)
      exact this
     rw [<- hops', hsz] at core
     exact WW h1 hed hgd ops.size _ _ a _ (by simp) (by simp) (fun i hi => by simp [Array.getD, hi, ((Bf h1).2 i hi).1.1]) core
end
end Go.AE
namespace Go.AE
open Go.RowKit Go.Lib
section
variable {P : Program}
theorem KM {rec : TypeId -> AV -> List (List Nat)} (hrec : ∀ t v p, p ∈ rec t v -> ∃ ty off, eO P p t ty off) {t0 : TypeId} {all : Array Field} (hu : P.underlying t0 = some (.struct all)) :
    ∀ (fs : List Field) (i : Nat) (vs : List AV) (p : List Nat), all.toList.drop i = fs -> p ∈ vH rec i fs vs -> ∃ ty off, eO P p t0 ty off
 | [], _, _, p, _, h => by simp [vH] at h
 | f :: fs, i, [], p, _, h => by simp [vH] at h
 | f :: fs, i, v :: vs, p, hd, h => by
  rw [vH] at h
  have hf : all[i]? = some f := by
   rw [<- Array.getElem?_toList]
   have := congrArg (·[0]?) hd
   simpa using this
  rcases List.mem_append.1 h with h | h
  . obtain ⟨q, hq, rfl⟩ := List.mem_map.1 h
    obtain ⟨ty, off, hp⟩ := hrec _ _ _ hq
    refine ⟨ty, iC P t0 i + off, ?_⟩
    simp only [eO, hu]
    exact ⟨f, off, hf, rfl, hp⟩
  . refine KM hrec hu fs (i + 1) vs p ?_ h
    have := congrArg List.tail hd
    simpa [List.tail_drop] using this
theorem J4 : ∀ (d : Nat) (t : TypeId) (v : AV) (p : List Nat), p ∈ uM P d t v -> ∃ ty off, eO P p t ty off
 | 0, _, _, p, h => by simp [uM] at h
 | d + 1, t, v, p, h => by
  unfold uM at h
  split at h
  . obtain rfl : p = [] := by simpa using h
    exact ⟨t, 0, by simp [eO]⟩
  . split at h
    . rename_i fs hu
      exact KM (J4 d) hu fs.toList 0 _ p (by simp) h
    . simp at h
  . simp at h
theorem tq : ∀ (l : List Row) (r : Nat) (x : Nat × List Nat), x ∈ kT P r l -> ∃ t v, r <= x.1 /\ l[x.1 - r]? = some (.var t v) /\ x.2 ∈ uM P 8 t v
 | [], r, x, h => by simp [kT] at h
 | .var t v :: rs, r, x, h => by
  rw [kT] at h
  rcases List.mem_append.1 h with h | h
  . obtain ⟨q, hq, rfl⟩ := List.mem_map.1 h
    exact ⟨t, v, Nat.le_refl _, by simp, hq⟩
  . obtain ⟨t', v', k1, k2, k3⟩ := tq rs (r + 1) x h
    exact ⟨t', v', by omega, by rw [show x.1 - r = (x.1 - (r + 1)) + 1 by omega]; simpa using k2, k3⟩
 | .arr e l :: rs, r, x, h => by
  obtain ⟨t', v', k1, k2, k3⟩ := tq rs (r + 1) x (by simpa [kT] using h)
  exact ⟨t', v', by omega, by rw [show x.1 - r = (x.1 - (r + 1)) + 1 by omega]; simpa using k2, k3⟩
 | .map k e es :: rs, r, x, h => by
  obtain ⟨t', v', k1, k2, k3⟩ := tq rs (r + 1) x (by simpa [kT] using h)
  exact ⟨t', v', by omega, by rw [show x.1 - r = (x.1 - (r + 1)) + 1 by omega]; simpa using k2, k3⟩
 | .bg e l :: rs, r, x, h => by
  obtain ⟨t', v', k1, k2, k3⟩ := tq rs (r + 1) x (by simpa [kT] using h)
  exact ⟨t', v', by omega, by rw [show x.1 - r = (x.1 - (r + 1)) + 1 by omega]; simpa using k2, k3⟩
 | .loop f i tm st pd :: rs, r, x, h => by
  obtain ⟨t', v', k1, k2, k3⟩ := tq rs (r + 1) x (by simpa [kT] using h)
  exact ⟨t', v', by omega, by rw [show x.1 - r = (x.1 - (r + 1)) + 1 by omega]; simpa using k2, k3⟩
end
section
variable {E : Env} {d : Nat} {g : G} {fr : Fr} {M : Mm} {a : Act} {w : World}
theorem Rel.acf (h : Rel E d g fr M a w) {r b : Nat} {root : Root} (hr : g.rows[r]? = some (b, root)) {row' : Row} (hcl : jU row' = jU (M.rows.getD r (.arr 0 []))) (hrow : gH E.P (aI E g w) b root row') :
    Rel E d g fr { M with rows := M.rows.set r row' } a w := by
 refine ⟨h.below, h.hN, h.fresh, h.size, h.tmps, by simpa using h.lenr, fun r' b' root' hr' => ?_, h.inj, h.own, h.viaT, h.viaR, h.ro⟩
 obtain ⟨k1, k2, k3, k4⟩ := h.rows r' b' root' hr'
 refine ⟨k1, k2, ?_⟩
 show g.cls b' = jU ((M.rows.set r row').getD r' (.arr 0 [])) /\ gH E.P (aI E g w) b' root' ((M.rows.set r row').getD r' (.arr 0 []))
 have hlt : r < M.rows.length := by rw [<- h.lenr]; exact (List.getElem?_eq_some_iff.1 hr).1
 by_cases hc : r = r'
 . subst hc
   rw [hr] at hr'
   cases hr'
   have e : (M.rows.set r row').getD r (.arr 0 []) = row' := by simp [List.getD, hlt]
   rw [e]
   exact ⟨k3.trans hcl.symm, hrow⟩
 . have e : (M.rows.set r row').getD r' (.arr 0 []) = M.rows.getD r' (.arr 0 []) := by simp [List.getD, List.getElem?_set, hc]
   rw [e]
   exact ⟨k3, k4⟩
theorem Rel.uS (h : Rel E d g fr M a w) (x : Nat × List Nat) (hp : ∃ b root ty off, g.rows[x.1]? = some (b, root) /\ eT E.P root x.2 ty off) : Rel E d g fr (M.uS x) a w := by
 obtain ⟨b, root, ty, off, h1, h2⟩ := hp
 unfold Mm.uS
 split
 . rename_i e l hg
   obtain ⟨k1, k2, k3, k4⟩ := h.rows _ b root h1
   obtain ⟨cur, ty0, hh, hrc⟩ := oG k4 h2
   have hh : w.heap[b]? = some (.cells cur ty0 (0, 0)) := hh
   obtain ⟨pre, c, post, e1, e2, e3, e4, e5, e6⟩ := lV hrc h2
   rw [hg] at e3 e5
   have hu := DU e5
   have hone : E.P.cellsOf ty = 1 := by rw [<- e4]; exact (by
    obtain ⟨base, len, cap, rfl, _⟩ := e3
    rfl)
   have hrv : ∃ u, c = [u] /\ aK E.P (aI E g w) (.slice e l true) u := by
    obtain ⟨base, len, cap, rfl, m⟩ := e3
    exact ⟨_, rfl, bR ⟨base, len, cap, rfl, m⟩ rfl⟩
   obtain ⟨u, rfl, hrv⟩ := hrv
   have hwk : rel E.P (aI E g w) (.slice e l false) [u] := iH rfl (CW hrv)
   have hfit : fits E.P ty (.slice e l false) = true := by simpa [fits, aR] using e5
   have hrow := e6 _ _ hwk (by rw [hone]; rfl) hfit
   have hrok : gH E.P (aI E g w) b root ((M.rows.getD x.1 (.arr 0 [])).put x.2 (.slice e l false)) := by
    cases hrw : (M.rows.getD x.1 (.arr 0 [])) with
    | map kk ee es => rw [hrw] at hrc; exact hrc.elim
    | loop f i tm st pd => rw [hrw] at hrc; exact hrc.elim
    | var t v => rw [hrw] at hrow; exact ⟨cur, ty0, hh, by rw [e1]; exact hrow⟩
    | arr ee ll =>
     rw [hrw] at hrow
     unfold Row.put at hrow ⊢
     split at hrow <;> exact ⟨cur, ty0, hh, by rw [e1]; exact hrow⟩
    | bg ee ll =>
     rw [hrw] at hrow
     unfold Row.put at hrow ⊢
     split at hrow <;> exact ⟨cur, ty0, hh, by rw [e1]; exact hrow⟩
   refine (h.acf h1 (ac6 _ _ _) hrok).Gz h1 h2 hu ?_ (GQ hrv _)
   rw [jv hh, <- Array.getElem?_toList, e1, List.append_assoc, List.getElem?_append_right (by omega), e2, Nat.sub_self]
   rfl
 . exact h
theorem Rel.J6 : ∀ (ps : List (Nat × List Nat)) {M : Mm} (h : Rel E d g fr M a w) (hp : ∀ x ∈ ps, ∃ b root ty off, g.rows[x.1]? = some (b, root) /\ eT E.P root x.2 ty off), Rel E d g fr (ps.foldl Mm.uS M) a w
 | [], M, h, hp => h
 | x :: ps, M, h, hp => Rel.J6 ps (h.uS x (hp x List.mem_cons_self)) fun y hy => hp y (List.mem_cons_of_mem _ hy)
theorem Rel.aaQ (h : Rel E d g fr M a w) {ro' : List (Nat × List Nat)} (h1 : ∀ x, x ∈ ro' ↔ x ∈ M.ro) : Rel E d g fr { M with ro := ro' } a w :=
 ⟨h.below, h.hN, h.fresh, h.size, h.tmps, h.lenr, h.rows, h.inj, h.own, h.viaT, fun t r p ht => by
  obtain ⟨k1, k2⟩ := h.viaR t r p ht
  exact ⟨(h1 _).2 k1, k2⟩, fun r p ht => h.ro r p ((h1 _).1 ht)⟩
theorem KF {x : Nat × List Nat} : ∀ {l : List (Nat × List Nat)}, x ∈ l -> iF x.1 x.2 l = true
 | y :: l, h => by
  simp only [iF, Bool.or_eq_true, Bool.and_eq_true, decide_eq_true_eq]
  rcases List.mem_cons.1 h with rfl | h
  . exact .inl ⟨Nat.beq_refl _, rfl⟩
  . exact .inr (KF h)
theorem Rel.norm (h : Rel E d g fr M a w) : Rel E d g fr (M.norm E.P) a w := by
 have hp : ∀ x ∈ kT E.P 0 M.rows, ∃ b root ty off, g.rows[x.1]? = some (b, root) /\ eT E.P root x.2 ty off := by
  intro x hx
  obtain ⟨t, v, _, k2, k3⟩ := tq _ _ _ hx
  obtain ⟨ty, off, hpt⟩ := J4 _ _ _ _ k3
  have hlt : x.1 < g.rows.length := by
   rw [h.lenr]
   exact (List.getElem?_eq_some_iff.1 k2).1
  obtain ⟨b, root, h1⟩ : ∃ b root, g.rows[x.1]? = some (b, root) := ⟨_, _, List.getElem?_eq_getElem hlt⟩
  obtain ⟨_, _, _, k4⟩ := h.rows _ _ _ h1
  have hrow : M.rows.getD x.1 (.arr 0 []) = .var t v := by
   rw [List.getD, show M.rows[x.1]? = some (.var t v) from k2]; rfl
  rw [hrow] at k4
  obtain ⟨cs, ty', _, hrc⟩ := k4
  obtain ⟨rfl, _⟩ := hrc
  exact ⟨b, _, ty, off, h1, hpt⟩
 have h2 := Rel.J6 _ h hp
 refine h2.aaQ (ro' := _) fun x => ?_
 simp only [List.mem_append, List.mem_filter]
 constructor
 . rintro (⟨_, k⟩ | ⟨k, _⟩)
   . exact za k
   . exact k
 . intro k
   by_cases hc : iF x.1 x.2 (kT E.P 0 M.rows) = true
   . exact .inl ⟨za hc, KF k⟩
   . exact .inr ⟨k, by simpa using hc⟩
theorem Rel.uR (h : Rel E d g fr M a w) (ks : Option (List Nat × List Nat)) : Rel E d g fr (uR E.P ks M) a w := by
 cases ks with
 | none => exact h
 | some ks => exact h.norm
end
end Go.AE
namespace Go.AE
open Go.RowKit Go.Lib
section
variable {E : Env} {d : Nat} {g : G} {fr : Fr} {M : Mm} {a : Act} {w : World}
theorem Rel.WI (h : Rel E d g fr M a w) (r : Nat) : ∃ g', Rel E d g' fr (M.bg E.P r) a w /\ Ext E d g w g' w /\ g'.rows = g.rows := by
 unfold Mm.bg
 split
 . rename_i e l hrow
   split
   . rename_i hfl
     rcases Nat.lt_or_ge r M.rows.length with hlt | hge
     . obtain ⟨⟨b, root⟩, hg⟩ : ∃ z, g.rows[r]? = some z := by
         have : r < g.rows.length := by rw [h.lenr]; exact hlt
         exact ⟨_, List.getElem?_eq_getElem this⟩
       obtain ⟨k1, k2, k3, k4⟩ := h.rows r b root hg
       rw [hrow] at k3 k4
       have k3 : g.cls b = .row := k3
       have hbN : ¬ b < E.N := by omega
       have hst : ∀ k i, cK E g.cls k i -> cK E (fun k => if k = b then Cls.froz else g.cls k) k i := by
        intro k i hk
        unfold cK at hk ⊢
        by_cases hkb : k = b
        . subst hkb
          rw [if_neg hbN, k3] at hk
          exact hk.elim
        . simp only [if_neg hkb]; exact hk
       have hne : ∀ {k : Nat} {c : Cls}, g.cls k = c -> c ≠ .row -> k ≠ b := fun {k c} h1 h2 e => by subst e; exact h2 (h1.symm.trans k3)
       have hle : Le (aI E g w) (aI E ⟨g.rows, fun k => if k = b then Cls.froz else g.cls k⟩ w) := ⟨fun _ _ k => k, fun b o v k _ => hst b o k, fun _ _ _ _ k => k, id⟩
       have hown : ∀ {o : Onr} {e : TypeId} {v : Value}, bK E g w o e v -> bK E ⟨g.rows, fun k => if k = b then Cls.froz else g.cls k⟩ w o e v := fun k => k.le fun b2 u _ _ hc => ⟨if_neg (hne hc (by simp)), rfl⟩
       refine ⟨⟨g.rows, fun k => if k = b then .froz else g.cls k⟩, ⟨h.below, h.hN, fun k hk => ?_, h.size, fun i => fF hle (h.tmps i), by simpa using h.lenr, ?_, h.inj, ?_, h.viaT, h.viaR, ?_⟩, ⟨fun _ _ k => k, fun b o v k _ => hst b o k, fun _ _ _ _ k => k, fun k d' i u _ _ hc => ⟨if_neg (hne hc (by simp)), rfl⟩, Nat.le_refl _, fun _ h => h⟩, rfl⟩
       . show (if k = b then _ else _) = _
         rw [if_neg (by omega)]
         exact h.fresh k hk
       . intro r' b' root' hr'
         obtain ⟨m1, m2, m3, m4⟩ := h.rows r' b' root' hr'
         refine ⟨m1, m2, ?_⟩
         by_cases hrr : r' = r
         . subst hrr
           rw [hg] at hr'
           obtain ⟨rfl, rfl⟩ := Prod.mk.inj (Option.some.inj hr')
           have : (M.rows.set r' (.bg e l)).getD r' (.arr 0 []) = .bg e l := by simp [List.getD, hlt]
           rw [this]
           have k5 : gH E.P (aI E g w) b root (.bg e l) := k4
           exact ⟨if_pos rfl, k5.le hle rfl⟩
         . have hbb : b' ≠ b := fun e => hrr (h.inj r' r b _ _ (e ▸ hr') hg)
           have : (M.rows.set r (.bg e l)).getD r' (.arr 0 []) = M.rows.getD r' (.arr 0 []) := by simp [List.getD, List.getElem?_set_ne (Ne.symm hrr)]
           rw [this]
           exact ⟨(if_neg hbb).trans m3, m4.le hle rfl⟩
       . intro t ht
         obtain ⟨e, l, ex, m1, m2⟩ := h.own t ht
         exact ⟨e, l, ex, m1, hown m2⟩
       . intro r' q ht
         obtain ⟨b', root', ty', off, e, v, n3, n4, n5, n6, n7⟩ := h.ro r' q ht
         exact ⟨b', root', ty', off, e, v, n3, n4, n5, n6, hown n7⟩
     . have : M.rows.set r (.bg e l) = M.rows := List.set_eq_of_length_le hge
       rw [this]
       exact ⟨g, h, Ext.refl _ _ _ _, rfl⟩
   . exact ⟨g, h, Ext.refl _ _ _ _, rfl⟩
 . exact ⟨g, h, Ext.refl _ _ _ _, rfl⟩
def oO (E : Env) (d : Nat) (g : G) (fr : Fr) (a : Act) (w : World) (v : AV) (z : AV × Mm) : Prop :=
 ∃ g', Rel E d g' fr z.2 a w /\ Ext E d g w g' w /\ ∀ cs, rel E.P (aI E g w) v cs -> rel E.P (aI E g' w) z.1 cs /\ z.1.isA = v.isA /\ ∀ t, fits E.P t v = true -> fits E.P t z.1 = true
theorem oO.same (h : Rel E d g fr M a w) (v : AV) : oO E d g fr a w v (v, M) := ⟨g, h, Ext.refl _ _ _ _, fun cs k => ⟨k, rfl, fun _ k => k⟩⟩
theorem Fe : ∀ (n : Nat) (v : AV) {M : Mm} {g : G}, Rel E d g fr M a w -> oO E d g fr a w v (iW E.P n v M)
 | 0, v, M, g, h => oO.same h v
 | n + 1, v, M, g, h => by
  have hL : ∀ (ps : List AV) {M : Mm} {g : G}, Rel E d g fr M a w -> ∃ g', Rel E d g' fr (rJ (iW E.P n) ps M).2 a w /\ Ext E d g w g' w /\ ∀ ts cs, dh E.P (aI E g w) ts ps cs -> dh E.P (aI E g' w) ts (rJ (iW E.P n) ps M).1 cs := by
   intro ps
   induction ps with
   | nil => intro M g h; exact ⟨g, h, Ext.refl _ _ _ _, fun ts cs k => k⟩
   | cons p ps ih =>
    intro M g h
    obtain ⟨g1, h1, x1, k1⟩ := Fe n p h
    obtain ⟨g2, h2, x2, k2⟩ := ih h1
    refine ⟨g2, h2, x1.trans x2, fun ts cs k => ?_⟩
    cases ts with
    | nil => exact k.elim
    | cons t ts =>
     obtain ⟨c, r, e1, e2, e3, e4, e5⟩ := k
     obtain ⟨m1, _, m2⟩ := k1 c e2
     exact ⟨c, r, e1, kY x2.le _ _ m1, e3, m2 t e4, k2 ts r (Gn x1.le _ _ _ e5)⟩
  unfold iW
  split
  . rename_i r e off coff len
    obtain ⟨g1, h1, x1, hg1⟩ := h.WI r
    split
    . rename_i e' l hrow
      split
      . rename_i hc
        simp only [Bool.and_eq_true] at hc
        have he := Nat.eq_of_beq_eq_true hc.1
        subst he
        refine ⟨g1, h1, x1, fun cs k => ⟨?_, rfl, fun t ht => ht⟩⟩
        obtain ⟨_, b, root, m, o0, m1, m2, m3, m4, base, cap, m5, rfl, m6⟩ := k
        have m1' : g1.rows[r]? = some (b, root) := by rw [hg1]; exact m1
        obtain ⟨j1, j2, j3, j4⟩ := h1.rows r b root m1'
        rw [hrow] at j3 j4
        have j3 : g1.cls b = .froz := j3
        obtain ⟨cs, ty, n1, n2, c, rr, n3, n4⟩ := j4
        have hm : m = l.length /\ o0 = 0 := by
         rw [n2] at m2
         rcases m2 with ⟨_, q1, q2⟩ | ⟨t, q1, _⟩
         . cases q2; exact ⟨rfl, q1⟩
         . exact q1.elim
        obtain ⟨rfl, rfl⟩ := hm
        have hlen : (sub l off (off + len)).length = len := by simp only [sub, List.length_drop, List.length_take]; omega
        refine ⟨base, len, cap, rfl, hlen.symm, m5, fun k => absurd k (by simp), ?_⟩
        rcases Nat.eq_zero_or_pos len with h0' | h0'
        . exact .inl h0'
        . have hra : aX E.P (aI E g1 w) e (sub l off (off + len)) ((c.take ((off + len) * E.P.cellsOf e)).drop (off * E.P.cellsOf e)) := tV off (qp (off + len) n4)
          refine .inr ⟨b, coff, m6 h0', nL (mX _ 20 hc.2 hra) fun i u hu => ⟨?_, ?_⟩⟩
          . show cK E g1.cls b _
            unfold cK
            rw [if_neg (by omega), j3]
            trivial
          . rw [List.getElem?_drop, List.getElem?_take] at hu
            split at hu
            . have n1 : w.heap[b]? = some (.cells cs ty (0, 0)) := n1
              show w.cell? _ = _
              rw [jv n1, <- Array.getElem?_toList, n3, m4, Nat.zero_add, List.getElem?_append_left (by have := (List.getElem?_eq_some_iff.1 hu).1; omega)]
              exact hu
            . exact absurd hu (by simp)
      . exact oO.same h _
    . exact oO.same h _
  . rename_i t ps
    split
    . rename_i fs hu
      obtain ⟨g', h', x', k'⟩ := hL ps h
      refine ⟨g', h', x', fun cs k => ⟨?_, rfl, fun t ht => ht⟩⟩
      obtain ⟨q1, q2⟩ := lC k hu
      exact kV hu q1 (k' _ _ q2)
    . exact oO.same h _
  . exact oO.same h _
theorem RB {P : Program} {M : Mm} (q : Nat) {r : Nat} {ty : TypeId} {x : AV} (h : M.rows.getD r (.arr 0 []) = .var ty x) : (M.bg P q).rows.getD r (.arr 0 []) = .var ty x := by
 unfold Mm.bg
 split
 . rename_i e l hrow
   split
   . show (M.rows.set q (.bg e l)).getD r (.arr 0 []) = _
     by_cases hq : q = r
     . subst hq; rw [hrow] at h; cases h
     . rw [<- h]; simp [List.getD, List.getElem?_set_ne hq]
   . exact h
 . exact h
theorem Nh {P : Program} {r : Nat} {ty : TypeId} {x : AV} : ∀ (n : Nat) (v : AV) {M : Mm}, M.rows.getD r (.arr 0 []) = .var ty x -> (iW P n v M).2.rows.getD r (.arr 0 []) = .var ty x
 | 0, v, M, h => h
 | n + 1, v, M, h => by
  have hL : ∀ (ps : List AV) {M : Mm}, M.rows.getD r (.arr 0 []) = .var ty x -> (rJ (iW P n) ps M).2.rows.getD r (.arr 0 []) = .var ty x := by
   intro ps
   induction ps with
   | nil => intro M h; exact h
   | cons p ps ih => intro M h; exact ih (Nh n p h)
  unfold iW
  split
  . split
    . split
      . exact RB _ h
      . exact h
    . exact h
  . split
    . exact hL _ h
    . exact h
  . exact h
theorem Rel.Vv (h : Rel E d g fr M a w) {r : Nat} {ty : TypeId} {x x' : AV} (hrow : M.rows.getD r (.arr 0 []) = .var ty x)
    (hv : ∀ b root cs t, g.rows[r]? = some (b, root) -> w.heap[b]? = some (.cells cs t (0, 0)) -> iw E.P (aI E g w) root (.var ty x') cs.toList) : Rel E d g fr { M with rows := M.rows.set r (.var ty x') } a w := by
 refine ⟨h.below, h.hN, h.fresh, h.size, h.tmps, by simpa using h.lenr, ?_, h.inj, h.own, h.viaT, h.viaR, h.ro⟩
 intro r' b' root' hr'
 obtain ⟨m1, m2, m3, m4⟩ := h.rows r' b' root' hr'
 refine ⟨m1, m2, ?_⟩
 by_cases hrr : r' = r
 . subst hrr
   have hlt : r' < M.rows.length := by rw [<- h.lenr]; exact (List.getElem?_eq_some_iff.1 hr').1
   have : (M.rows.set r' (.var ty x')).getD r' (.arr 0 []) = .var ty x' := by simp [List.getD, hlt]
   rw [this]
   rw [hrow] at m3 m4
   refine ⟨m3, ?_⟩
   obtain ⟨cs, t, k1, k2⟩ := m4
   exact ⟨cs, t, k1, hv _ _ _ _ hr' k1⟩
 . have : (M.rows.set r (.var ty x')).getD r' (.arr 0 []) = M.rows.getD r' (.arr 0 []) := by simp [List.getD, List.getElem?_set_ne (Ne.symm hrr)]
   rw [this]
   exact ⟨m3, m4⟩
theorem Rel.jZ : ∀ (ts : List Nat) {fr : Fr} {M : Mm} {g : G}, Rel E d g fr M a w -> ∃ g', Rel E d g' (jZ E.P ts fr M).1 (jZ E.P ts fr M).2 a w /\ Ext E d g w g' w
 | [], fr, M, g, h => ⟨g, h, Ext.refl _ _ _ _⟩
 | t :: ts, fr, M, g, h => by
  unfold Go.AE.jZ
  split
  . rename_i r p0 t0 o0 htm
    split
    . rename_i ty x hrow
      obtain ⟨g1, h1, x1, k1⟩ := Fe 4 x h
      have hrow' := Nh (P := E.P) 4 x hrow
      have h2 := h1.Vv (x' := (iW E.P 4 x M).1) hrow' fun b root cs ty' hb hc => by
       have hlt : r < M.rows.length := by
        rcases Nat.lt_or_ge r M.rows.length with hh | hh
        . exact hh
        . have : M.rows.getD r (.arr 0 []) = .arr 0 [] := by simp [List.getD, List.getElem?_eq_none hh]
          rw [this] at hrow; cases hrow
       obtain ⟨⟨b2, root2⟩, hg⟩ : ∃ z, g.rows[r]? = some z := ⟨_, List.getElem?_eq_getElem (by rw [h.lenr]; exact hlt)⟩
       have hg1 := x1.rows r _ hg
       rw [hb] at hg1
       obtain ⟨rfl, rfl⟩ := Prod.mk.inj (Option.some.inj hg1)
       obtain ⟨_, _, _, m4⟩ := h.rows r b root hg
       rw [hrow] at m4
       obtain ⟨cs2, t2, k2, k3⟩ := m4
       have k2 : w.heap[b]? = some (.cells cs2 t2 (0, 0)) := k2
       rw [hc] at k2
       obtain ⟨rfl, _⟩ : cs = cs2 /\ True := by
        have := Option.some.inj k2
        cases this
        exact ⟨rfl, trivial⟩
       obtain ⟨n1, n2, n3, n4⟩ := k3
       obtain ⟨q1, q2, q3⟩ := k1 _ n3
       exact ⟨n1, q3 _ n2, q1, n4⟩
      obtain ⟨g2, h3, x2⟩ := Rel.jZ ts h2
      exact ⟨g2, h3, x1.trans x2⟩
    . exact Rel.jZ ts h
  . obtain ⟨g1, h1, x1, k1⟩ := Fe 4 (fr.tmps.getD t .dead) h
    have hv : aK E.P (aI E g1 w) (iW E.P 4 (fr.tmps.getD t .dead) M).1 (a.tmps.getD t undef) := by
     obtain ⟨cs, e1, e2, e3⟩ := h.tmps t
     obtain ⟨m1, m2, m3⟩ := k1 cs e2
     exact ⟨cs, by rw [m2]; exact e1, m1, by rw [m2]; exact e3⟩
    have h2 := h1.set (some t) hv
    have e : a.put (some t) (a.tmps.getD t undef) = a := by
     show { a with tmps := a.tmps.setIfInBounds t (a.tmps.getD t undef) } = a
     congr 1
     apply Array.ext_getElem?
     intro i
     rw [Array.getElem?_setIfInBounds]
     split
     . rename_i hti
       subst hti
       split
       . rename_i hlt
         simp [Array.getD, hlt]
       . rename_i hge
         exact (Array.getElem?_eq_none (Nat.le_of_not_lt hge)).symm
     . rfl
    rw [e] at h2
    obtain ⟨g2, h3, x2⟩ := Rel.jZ ts h2
    exact ⟨g2, h3, x1.trans x2⟩
end
end Go.AE

/- The abstract evaluator: what it says of the model, part 2. -/
import Derived.Test.YtcknhfnbdgleiaaGreatEvA
import Derived.Laws.CopyOwn
import Derived.Laws.AppendOwn
import Derived.MapKept
import Derived.Laws.MakeOwn
import Derived.RangeFuncRecord
import Derived.OrdersIn
import Derived.TacticsIn
import Derived.Tactics
import Derived.Still
set_option linter.unusedVariables false
set_option linter.unusedSimpArgs false
namespace Go.AE
open Go.RowKit Go.Lib
section
variable {P : Program} {rows : List (Nat × Root)} {st : Nat -> Nat -> Prop} {w : World}
theorem mg {x : X} {t : TypeId} {a : AV} {c : List Value} (hf : fits P t a = true) (hr : rel P x a c) : (mkV a.isA c).cells = c.toArray := by
 cases a with
 | agg u ps => rfl
 | dead => simp [fits, aR] at hf
 | tuple vs => simp [fits, aR] at hf
 | bool b => simp only [rel] at hr; subst hr; rfl
 | int k n => simp only [rel] at hr; subst hr; rfl
 | str s => simp only [rel] at hr; subst hr; rfl
 | nilp => simp only [rel] at hr; subst hr; rfl
 | nilf => simp only [rel] at hr; subst hr; rfl
 | yld r => obtain ⟨b, h1, rfl⟩ := hr; rfl
 | nili => simp only [rel] at hr; subst hr; rfl
 | ptr r p t off => obtain ⟨b, root, h1, h2, rfl⟩ := hr; rfl
 | rptr t v => obtain ⟨b, o, c, rfl, _⟩ := hr; rfl
 | slice e l ex => obtain ⟨base, len, cap, rfl, _⟩ := hr; rfl
 | msl r p e off coff len => obtain ⟨_, b, root, n, o0, h1, h2, h3, h4, base, cap, h5, rfl, _⟩ := hr; rfl
 | mapv r =>
  cases r with
  | none => simp only [rel] at hr; subst hr; rfl
  | some r => obtain ⟨b, k, e, h1, rfl⟩ := hr; rfl
 | func fn a b => obtain ⟨a, b, rfl, _⟩ := hr; rfl
 | iface t v => obtain ⟨c, h1, h2, h3, rfl⟩ := hr; rfl
theorem iK {x : X} {t : TypeId} {a : AV} {c : List Value} (hA : a.isA = false) (hf : fits P t a = true) (hr : rel P x a c) : ∀ u ∈ c, u.oneCell' = true := by
 cases a with
 | agg u ps => simp [AV.isA] at hA
 | dead => simp [fits, aR] at hf
 | tuple vs => simp [fits, aR] at hf
 | bool b => simp only [rel] at hr; subst hr; simp [Value.oneCell']
 | int k n => simp only [rel] at hr; subst hr; simp [Value.oneCell']
 | str s => simp only [rel] at hr; subst hr; simp [Value.oneCell']
 | nilp => simp only [rel] at hr; subst hr; simp [Value.oneCell']
 | nilf => simp only [rel] at hr; subst hr; simp [Value.oneCell']
 | yld r => obtain ⟨b, h1, rfl⟩ := hr; simp [Value.oneCell']
 | nili => simp only [rel] at hr; subst hr; simp [Value.oneCell']
 | ptr r p t off => obtain ⟨b, root, h1, h2, rfl⟩ := hr; simp [Value.oneCell']
 | rptr t v => obtain ⟨b, o, c, rfl, _⟩ := hr; simp [Value.oneCell']
 | slice e l ex => obtain ⟨base, len, cap, rfl, _⟩ := hr; simp [Value.oneCell']
 | msl r p e off coff len => obtain ⟨_, b, root, n, o0, h1, h2, h3, h4, base, cap, h5, rfl, _⟩ := hr; simp [Value.oneCell']
 | mapv r =>
  cases r with
  | none => simp only [rel] at hr; subst hr; simp [Value.oneCell']
  | some r => obtain ⟨b, k, e, h1, rfl⟩ := hr; simp [Value.oneCell']
 | func fn a b => obtain ⟨a, b, rfl, _⟩ := hr; simp [Value.oneCell']
 | iface t v => obtain ⟨c, h1, h2, h3, rfl⟩ := hr; simp [Value.oneCell']
mutual
theorem ED {x : X} : ∀ (a : AV) {t : TypeId} {c : List Value}, fits P t a = true -> rel P x a c -> ∀ u ∈ c, u.oneCell' = true
 | .agg s ps, t, c, hf, hr => by
  unfold rel at hr
  replace hr := hr.2
  split at hr
  . exact Kg ps hr
  . exact AU ps hr.2
  . exact hr.elim
 | .dead, t, c, hf, hr => iK rfl hf hr
 | .bool _, t, c, hf, hr => iK rfl hf hr
 | .int _ _, t, c, hf, hr => iK rfl hf hr
 | .str _, t, c, hf, hr => iK rfl hf hr
 | .nilp, t, c, hf, hr => iK rfl hf hr
 | .ptr _ _ _ _, t, c, hf, hr => iK rfl hf hr
 | .rptr _ _, t, c, hf, hr => iK rfl hf hr
 | .slice _ _ _, t, c, hf, hr => iK rfl hf hr
 | .msl _ _ _ _ _ _, t, c, hf, hr => iK rfl hf hr
 | .mapv _, t, c, hf, hr => iK rfl hf hr
 | .func _ _ _, t, c, hf, hr => iK rfl hf hr
 | .nilf, t, c, hf, hr => iK rfl hf hr
 | .yld _, t, c, hf, hr => iK rfl hf hr
 | .iface _ _, t, c, hf, hr => iK rfl hf hr
 | .nili, t, c, hf, hr => iK rfl hf hr
 | .tuple _, t, c, hf, hr => iK rfl hf hr
theorem Kg {x : X} : ∀ (ps : List AV) {ts : List TypeId} {c : List Value}, dh P x ts ps c -> ∀ u ∈ c, u.oneCell' = true
 | [], [], c, h => by simp only [dh] at h; subst h; simp
 | [], _ :: _, c, h => h.elim
 | _ :: _, [], c, h => h.elim
 | p :: ps, t :: ts, c, h => by
  obtain ⟨c1, r, rfl, h1, h2, h3, h4⟩ := h
  intro u hu
  rcases List.mem_append.1 hu with hu | hu
  . exact ED p h3 h1 u hu
  . exact Kg ps h4 u hu
theorem AU {x : X} : ∀ (ps : List AV) {e : TypeId} {c : List Value}, aX P x e ps c -> ∀ u ∈ c, u.oneCell' = true
 | [], e, c, h => by simp only [aX] at h; subst h; simp
 | p :: ps, e, c, h => by
  obtain ⟨c1, r, rfl, h1, h2, h3, h4⟩ := h
  intro u hu
  rcases List.mem_append.1 hu with hu | hu
  . exact ED p h3 h1 u hu
  . exact AU ps h4 u hu
end
theorem yg {t : TypeId} (h : zero P t ≠ .dead) {x : X} : ∃ z, (zeroValue t).run P w = .ok z w /\ aK P x (zero P t) z := by
 unfold zero at h ⊢
 split at h
 . rename_i i hi
   split at h
   . rename_i z hz
     exact ⟨z, by simp [zeroValue, typeInfo, hi, hz], xQ t z⟩
   . exact absurd rfl h
 . exact absurd rfl h
theorem Ni : ∀ (c : List Value) (k off : Nat) (cells : Array Value) (pre old post : List Value), cells.toList = pre ++ old ++ post -> old.length = c.length -> pre.length = off + k ->
    ((c.zipIdx k).foldl (fun cs (p : Value × Nat) => cs.setIfInBounds (off + p.2) p.1) cells).toList = pre ++ c ++ post
 | [], k, off, cells, pre, old, post, h, hl, _ => by
  have : old = [] := List.eq_nil_of_length_eq_zero (by simpa using hl)
  subst this
  simpa using h
 | v :: c, k, off, cells, pre, old, post, h, hl, hp => by
  match old, hl with
  | o :: old, hl =>
   simp only [List.zipIdx_cons, List.foldl_cons]
   rw [Ni c (k + 1) off _ (pre ++ [v]) old post ?_ (by simpa using hl) (by simp; omega)]
   . simp
   . rw [Array.toList_setIfInBounds, h, <- hp]
     simp
theorem ZF {c : List Value} {off : Nat} {cells : Array Value} {pre old post : List Value} (h : cells.toList = pre ++ old ++ post) (hl : old.length = c.length) (hp : pre.length = off) :
    (c.toArray.zipIdx.foldl (fun cs (p : Value × Nat) => cs.setIfInBounds (off + p.2) p.1) cells).toList = pre ++ c ++ post := by
 rw [<- Array.foldl_toList, Array.toList_zipIdx]
 exact Ni c 0 off cells pre old post h hl (by simpa using hp)
def nD (P : Program) (x : X) : List (Nat × AV) -> List (Nat × Value) -> Prop
 | [], [] => True
 | (i, a) :: as, (j, v) :: vs => i = j /\ aK P x a v /\ nD P x as vs
 | _, _ => False
theorem Db {x : X} {t : TypeId} (place : Nat -> Option (Nat × Nat)) (R : List AV -> List Value -> Prop)
    (hstep : ∀ (ps : List AV) (cs : List Value) (i : Nat), R ps cs -> i < ps.length -> ∃ pre old post, cs = pre ++ old ++ post /\ place i = some (pre.length, old.length) /\
     ∀ a c, fits P (kX P t i) a = true -> rel P x a c -> c.length = old.length /\ R (ps.set i a) (pre ++ c ++ post)) :
    ∀ (parts : List (Nat × AV)) (cparts : List (Nat × Value)) (ps ps' : List AV) (cells : Array Value), R ps cells.toList -> sP parts ps = some ps' -> qK P t parts = true -> nD P x parts cparts ->
     ∃ cells', Instr.fill place cells cparts = some cells' /\ R ps' cells'.toList
 | [], [], ps, ps', cells, hR, hf, _, _ => by
  simp only [sP, Option.some.injEq] at hf
  subst hf
  exact ⟨cells, rfl, hR⟩
 | [], _ :: _, ps, ps', cells, _, _, _, h => h.elim
 | _ :: _, [], ps, ps', cells, _, _, _, h => h.elim
 | (i, a) :: parts, (j, v) :: cparts, ps, ps', cells, hR, hf, hfit, hp => by
  obtain ⟨rfl, hv, hp⟩ := hp
  simp only [sP] at hf
  simp only [qK, Bool.and_eq_true] at hfit
  split at hf
  . rename_i hlt
    obtain ⟨pre, old, post, h1, h2, h3⟩ := hstep ps cells.toList i hR (Nat.blt_eq.mp hlt)
    obtain ⟨c, rfl, hr, _⟩ := hv
    obtain ⟨h4, h5⟩ := h3 a c hfit.1 hr
    have hc := mg hfit.1 hr
    have hs := ZF (c := c) h1 h4.symm rfl
    obtain ⟨cells', e1, e2⟩ := Db place R hstep parts cparts (ps.set i a) ps' _ (by rw [hs]; exact h5) hf hfit.2 hp
    refine ⟨cells', ?_, e2⟩
    simp only [Instr.fill, h2, hc]
    have hsz : cells.size = pre.length + old.length + post.length := by rw [<- Array.length_toList, h1]; simp [Nat.add_assoc]
    rw [if_neg]
    . exact e1
    . simp only [List.size_toArray, ne_eq, gt_iff_lt, Bool.or_eq_true, decide_eq_true_eq, not_or, Decidable.not_not]
      omega
  . exact absurd hf (by simp)
theorem SK {t : TypeId} {fs : Array Field} (hu : P.underlying t = some (.struct fs)) {i : Nat} {f : Field} (h : fs[i]? = some f) : kX P t i = f.type := by simp [kX, hu, h]
theorem lT {x : X} {t : TypeId} {a : AV} {c : List Value} (hf : fits P t a = true) (hr : rel P x a c) (h1 : aQ P t = false -> P.cellsOf t = 1) : c.length = P.cellsOf t := by
 have hA := ng hf
 cases a with
 | agg u ps => rw [Ii hr, gZ (iM hf).1]
 | _ => rw [r9 hf hr rfl, h1 (by rw [<- hA]; rfl)]
theorem NK : ∀ (fs : List Field) (o : Nat), kU P o fs = true -> ∀ (i : Nat) (f : Field), fs[i]? = some f -> f.offset = o + (((fs.map (·.type)).take i).map P.cellsOf).sum
 | [], o, h, i, f, hf => by simp at hf
 | g :: fs, o, h, 0, f, hf => by
  simp only [List.getElem?_cons_zero, Option.some.injEq] at hf
  subst hf
  simp only [kU, Bool.and_eq_true] at h
  simpa using Nat.eq_of_beq_eq_true h.1
 | g :: fs, o, h, i + 1, f, hf => by
  simp only [kU, Bool.and_eq_true] at h
  have := NK fs _ h.2 i f (by simpa using hf)
  rw [this]
  simp
  omega
theorem OZ : ∀ (fs : List Field), (∀ f ∈ fs, ∃ i, P.info? f.type = some i) -> (fs.mapM fun f => do pure (f.offset, <- sizeOf f.type) : Sem (List (Nat × Nat))).run P w = .ok (fs.map fun f => (f.offset, P.cellsOf f.type)) w
 | [], _ => by simp
 | f :: fs, h => by
  obtain ⟨i, hi⟩ := h f (by simp)
  have ih := OZ fs (fun g hg => h g (by simp [hg]))
  simp only [List.mapM_cons, Sem.run_bind, run_sizeOf w hi, Result.andThen_ok, Sem.run_pure, ih, List.map_cons]
theorem Ho {x : X} : ∀ {ts : List TypeId} {ps : List AV} {cs : List Value}, dh P x ts ps cs -> ps.length = ts.length /\ ∀ t ∈ ts, ∃ d, P.underlying t = some d
 | [], [], _, _ => ⟨rfl, fun t ht => by simp at ht⟩
 | [], _ :: _, _, h => h.elim
 | _ :: _, [], _, h => h.elim
 | t :: ts, v :: vs, cs, h => by
  obtain ⟨c, r, rfl, h1, h2, h3, h4⟩ := h
  obtain ⟨k1, k2⟩ := Ho h4
  refine ⟨by simp [k1], fun u hu => ?_⟩
  rcases List.mem_cons.1 hu with rfl | hu
  . exact rz h3
  . exact k2 u hu
theorem yL {x : X} {t : TypeId} {v : AV} {c : List Value} (hf : fits P t v = true) (hr : rel P x v c) (hl : c.length = P.cellsOf t) : aQ P t = false -> P.cellsOf t = 1 := by
 intro hA
 rw [<- hl, r9 hf hr (by rw [ng hf, hA])]
theorem Xt {t : TypeId} {parts : List (Nat × AV)} {cparts : Array (Nat × Value)} {v : AV} (h : EI P t parts = some v) (hf : qK P t parts = true) (hp : nD P (X.mk rows st w true) parts cparts.toList) :
    fE P rows st w (Instr.build t cparts) v := by
 unfold EI at h
 split at h
 . rename_i u ps hz
   split at h
   . rename_i hc
     simp only [Bool.and_eq_true] at hc
     obtain ⟨ps', hfl, rfl⟩ := Option.map_eq_some_iff.1 h
     obtain ⟨z, e1, e2⟩ := yg (w := w) (x := (X.mk rows st w true)) (t := t) (by rw [hz]; simp)
     rw [hz] at e2
     obtain ⟨c0, rfl, hr⟩ := tY e2
     have hlike := hc.1.2
     cases hu : P.underlying t with
     | none =>
      unfold rel at hr
      rw [dK hlike, hu] at hr
      exact hr.2.elim
     | some d =>
      cases d with
      | struct fs =>
       obtain ⟨hl, hr⟩ := lC hr ((dK hlike).trans hu)
       have hoff : kU P 0 fs.toList = true := by have := hc.1.1; simpa [Jq, hu] using this
       have hfits := Ho hr
       have hm := OZ (P := P) (w := w) fs.toList (fun f hf => info_of_underlying (hfits.2 f.type (List.mem_map.2 ⟨f, hf, rfl⟩)).choose_spec)
       obtain ⟨cells', k1, k2⟩ := Db (x := (X.mk rows st w true)) (t := t) (fun i => (fs.toList.map fun f => (f.offset, P.cellsOf f.type))[i]?)
        (fun ps cs => dh P (X.mk rows st w true) (fs.toList.map (·.type)) ps cs /\ cs.length = P.cellsOf u)
        (by
         intro ps cs i hR hi
         have hlen := (Ho hR.1).1
         have hi' : i < fs.toList.length := by rw [hlen] at hi; simpa using hi
         have hfi : fs[i]? = some (fs.toList[i]'hi') := by rw [<- Array.getElem?_toList, List.getElem?_eq_getElem hi']
         obtain ⟨pre, c, post, rfl, g2, g3, g4, g5, g6⟩ := sG i _ hR.1 (vE hfi)
         refine ⟨pre, c, post, rfl, ?_, fun a c' k1 k2 => ?_⟩
         . rw [List.getElem?_map, List.getElem?_eq_getElem hi', Option.map_some, g4, g2]
           rw [NK fs.toList 0 hoff i _ (List.getElem?_eq_getElem hi')]
           simp
         . rw [SK hu hfi] at k1
           have hlc : c'.length = c.length := by rw [g4]; exact lT k1 k2 (yL g5 g3 g4)
           exact ⟨hlc, g6 a c' k2 (hlc.trans g4) k1, by rw [<- hR.2]; simp [hlc]⟩)
        parts cparts.toList ps ps' c0.toArray ⟨by simpa using hr, by simpa using hl⟩ hfl hf hp
       refine .of (c := .agg cells') ?_ ⟨cells'.toList, by simp [mkV, AV.isA], kV ((dK hlike).trans hu) k2.2 k2.1, by simp [AV.isA]⟩
       have hmA : (fs.mapM fun f => do pure (f.offset, <- sizeOf f.type) : Sem (Array (Nat × Nat))).run P w = .ok (fs.toList.map fun f => (f.offset, P.cellsOf f.type)).toArray w := by
        have : fs = fs.toList.toArray := by simp
        rw [this, List.mapM_toArray, Sem.run_map, hm]
        simp
       simp only [Instr.build, Sem.run_bind, e1, Result.andThen_ok, run_underlying hu, hmA]
       have : (fun (i : Nat) => (fs.toList.map fun f => (f.offset, P.cellsOf f.type)).toArray[i]?) = fun i => (fs.toList.map fun f => (f.offset, P.cellsOf f.type))[i]? := by funext i; simp
       simp only [Value.cells, this, k1, Sem.run_pure]
      | array n e =>
       obtain ⟨hl, hn, hr⟩ := mR hr ((dK hlike).trans hu)
       have hes : (∃ i, P.info? e = some i) \/ ps = [] := by
        cases ps with
        | nil => exact .inr rfl
        | cons p ps =>
         obtain ⟨c1, r1, _, g1, g2, g3, _⟩ := hr
         exact .inl (info_of_underlying (rz g3).choose_spec)
       obtain ⟨cells', k1, k2⟩ := Db (x := (X.mk rows st w true)) (t := t) (fun i => some (i * P.cellsOf e, P.cellsOf e))
        (fun ps cs => ps.length = n /\ aX P (X.mk rows st w true) e ps cs /\ cs.length = P.cellsOf u)
        (by
         intro ps cs i hR hi
         obtain ⟨pre, c, post, rfl, g2, g3, g4, g5, g6⟩ := jC i hR.2.1 hi
         refine ⟨pre, c, post, rfl, by rw [g2, g4], fun a c' k1 k2 => ?_⟩
         have hpt : kX P t i = e := by simp [kX, hu]
         rw [hpt] at k1
         have hlc : c'.length = c.length := by rw [g4]; exact lT k1 k2 (yL g5 g3 g4)
         exact ⟨hlc, by simpa using hR.1, g6 a c' k2 (hlc.trans g4) k1, by rw [<- hR.2.2]; simp [hlc]⟩)
        parts cparts.toList ps ps' c0.toArray ⟨hn, by simpa using hr, by simpa using hl⟩ hfl hf hp
       rcases hes with ⟨i, hi⟩ | h0
       . refine .of (c := .agg cells') ?_ ⟨cells'.toList, by simp [mkV, AV.isA], kR ((dK hlike).trans hu) k2.2.2 k2.1 k2.2.1, by simp [AV.isA]⟩
         simp only [Instr.build, Sem.run_bind, e1, Result.andThen_ok, run_underlying hu, run_sizeOf w hi, Value.cells, k1, Sem.run_pure]
       . obtain ⟨i, hi⟩ := Option.isSome_iff_exists.mp hc.2
         have : cB P t = e := by simp [cB, hu]
         rw [this] at hi
         refine .of (c := .agg cells') ?_ ⟨cells'.toList, by simp [mkV, AV.isA], kR ((dK hlike).trans hu) k2.2.2 k2.1 k2.2.1, by simp [AV.isA]⟩
         simp only [Instr.build, Sem.run_bind, e1, Result.andThen_ok, run_underlying hu, run_sizeOf w hi, Value.cells, k1, Sem.run_pure]
      | _ =>
       unfold rel at hr
       rw [dK hlike, hu] at hr
       exact hr.2.elim
   . exact absurd h (by simp)
 . exact absurd h (by simp)
mutual
theorem JQ {x y : X} : ∀ (v : AV) (n : Nat) {t : TypeId} {c : List Value}, fu P n t = true -> fits P t v = true -> rel P x v c -> rel P y v c
 | v, 0, t, c, h, _, _ => by simp [fu] at h
 | .agg u ps, n + 1, t, c, h, hf, hr => by
  have hl := (iM hf).1
  simp only [fu] at h
  split at h
  . rename_i hu; have := (iM hf).2; simp [aQ, hu] at this
  . rename_i hu; have := (iM hf).2; simp [aQ, hu] at this
  . rename_i hu; have := (iM hf).2; simp [aQ, hu] at this
  . rename_i fs hu
    have hu' := (dK hl).trans hu
    obtain ⟨k1, k2⟩ := lC hr hu'
    exact kV hu' k1 (Nu ps n h k2)
  . rename_i m e hu
    have hu' := (dK hl).trans hu
    obtain ⟨k1, k2, k3⟩ := mR hr hu'
    exact kR hu' k1 k2 (mX ps n h k3)
  . exact absurd h (by simp)
 | .bool _, n + 1, t, c, h, hf, hr => hr
 | .int _ _, n + 1, t, c, h, hf, hr => hr
 | .str _, n + 1, t, c, h, hf, hr => hr
 | .dead, n + 1, t, c, h, hf, hr => by simp [fits, aR] at hf
 | .nilp, n + 1, t, c, h, hf, hr => hr
 | .nilf, n + 1, t, c, h, hf, hr => hr
 | .yld _, n + 1, t, c, h, hf, hr => by
  simp only [fu] at h
  split at h <;> simp_all [fits, aR]
 | .nili, n + 1, t, c, h, hf, hr => hr
 | .tuple _, n + 1, t, c, h, hf, hr => by simp [fits, aR] at hf
 | .ptr _ _ _ _, n + 1, t, c, h, hf, hr => by
  simp only [fu] at h
  split at h <;> simp_all [fits, aR]
 | .rptr _ _, n + 1, t, c, h, hf, hr => by
  simp only [fu] at h
  split at h <;> simp_all [fits, aR]
 | .slice _ _ _, n + 1, t, c, h, hf, hr => by
  simp only [fu] at h
  split at h <;> simp_all [fits, aR]
 | .msl _ _ _ _ _ _, n + 1, t, c, h, hf, hr => by
  simp only [fu] at h
  split at h <;> simp_all [fits, aR]
 | .mapv _, n + 1, t, c, h, hf, hr => by
  simp only [fu] at h
  split at h <;> simp_all [fits, aR]
 | .func _ _ _, n + 1, t, c, h, hf, hr => by
  simp only [fu] at h
  split at h <;> simp_all [fits, aR]
 | .iface _ _, n + 1, t, c, h, hf, hr => by
  simp only [fu] at h
  split at h <;> simp_all [fits, aR]
theorem Nu {x y : X} : ∀ (ps : List AV) (n : Nat) {fs : List Field} {c : List Value}, Ae (fu P n) fs = true -> dh P x (fs.map (·.type)) ps c -> dh P y (fs.map (·.type)) ps c
 | [], n, [], c, _, h => h
 | [], n, _ :: _, c, _, h => h.elim
 | _ :: _, n, [], c, _, h => h.elim
 | p :: ps, n, f :: fs, c, hf, h => by
  obtain ⟨c1, r, rfl, h1, h2, h3, h4⟩ := h
  simp only [Ae, Bool.and_eq_true] at hf
  exact ⟨c1, r, rfl, JQ p n hf.1 h3 h1, h2, h3, Nu ps n hf.2 h4⟩
theorem mX {x y : X} : ∀ (ps : List AV) (n : Nat) {e : TypeId} {c : List Value}, fu P n e = true -> aX P x e ps c -> aX P y e ps c
 | [], n, e, c, _, h => h
 | p :: ps, n, e, c, hf, h => by
  obtain ⟨c1, r, rfl, h1, h2, h3, h4⟩ := h
  exact ⟨c1, r, rfl, JQ p n hf h3 h1, h2, h3, mX ps n hf h4⟩
end
theorem Gx {x y : X} : ∀ {ts : List TypeId} {ps : List AV} {c : List Value}, (∀ p ∈ ps, ∀ c, rel P x p c -> rel P y p c) -> dh P x ts ps c -> dh P y ts ps c
 | [], [], c, _, h => h
 | [], _ :: _, c, _, h => h.elim
 | _ :: _, [], c, _, h => h.elim
 | t :: ts, p :: ps, c, hk, h => by
  obtain ⟨c1, r, rfl, h1, h2, h3, h4⟩ := h
  exact ⟨c1, r, rfl, hk p (by simp) _ h1, h2, h3, Gx (fun q hq => hk q (by simp [hq])) h4⟩
theorem qA {x y : X} : ∀ {as : List AV} {vs : List Value}, (∀ p ∈ as, ∀ c, rel P x p c -> rel P y p c) -> bA P x as vs -> bA P y as vs
 | [], vs, _, h => h
 | a :: as, vs, hk, h => by
  obtain ⟨c, r, rfl, h1, h2, h3⟩ := h
  exact ⟨c, r, rfl, hk a (by simp) _ h1, h2, qA (fun q hq => hk q (by simp [hq])) h3⟩
theorem jW {p : AV -> Bool} : ∀ {l : List AV}, fV p l = true -> ∀ v ∈ l, p v = true
 | [], _, v, hv => by simp at hv
 | a :: l, h, v, hv => by
  simp only [fV, Bool.and_eq_true] at h
  rcases List.mem_cons.1 hv with rfl | hv
  . exact h.1
  . exact jW h.2 v hv
theorem rH {x : X} : ∀ (n : Nat) (v : AV) {c : List Value}, jo P n v = true -> rel P x v c -> rel P x.aH v c
 | 0, v, c, h, _ => by simp [jo] at h
 | n + 1, v, c, h, hr => by
  cases v with
  | dead => trivial
  | bool b => exact hr
  | int k i => exact hr
  | str s => exact hr
  | nilp => exact hr
  | nilf => exact hr
  | yld r => exact hr
  | nili => exact hr
  | ptr r p t o => exact hr
  | rptr t v => exact hr
  | slice e l ex => exact hr
  | msl r p e a b c => simp [jo] at h
  | mapv r => cases r <;> exact hr
  | func fn f cp =>
   obtain ⟨a, b, h1, h2, h3⟩ := hr
   simp only [jo, Bool.and_eq_true] at h
   exact ⟨a, b, h1, qA (fun p hp c hc => rH n p (jW h.1 p hp) hc) h2, qA (fun p hp c hc => rH n p (jW h.2 p hp) hc) h3⟩
  | iface t v =>
   obtain ⟨c, h1, h2, h3, h4⟩ := hr
   simp only [jo] at h
   exact ⟨c, rH n v h h1, h2, h3, h4⟩
  | tuple vs =>
   obtain ⟨a, h1, h2⟩ := hr
   simp only [jo] at h
   exact ⟨a, h1, qA (fun p hp c hc => rH n p (jW h p hp) hc) h2⟩
  | agg t ps =>
   simp only [jo] at h
   split at h
   . rename_i fs hu
     obtain ⟨k1, k2⟩ := lC hr hu
     exact kV hu k1 (Gx (fun p hp c hc => rH n p (jW h p hp) hc) k2)
   . rename_i m e hu
     obtain ⟨k1, k2, k3⟩ := mR hr hu
     exact kR hu k1 k2 (mX ps 20 h k3)
   . exact absurd h (by simp)
theorem Oa {x : X} : ∀ {as : List (Nat × AV)} {vs : List (Nat × Value)}, yM P as = true -> nD P x as vs -> nD P x.aH as vs
 | [], [], _, _ => trivial
 | [], _ :: _, _, h => h.elim
 | _ :: _, [], _, h => h.elim
 | (i, a) :: as, (j, v) :: vs, hn, ⟨h1, ⟨c, h2, h3, h4⟩, h5⟩ => by
  simp only [yM, Bool.and_eq_true] at hn
  exact ⟨h1, ⟨c, h2, rH 8 a hn.1 h3, h4⟩, Oa hn.2 h5⟩
theorem yA (z : Array Value) : ∀ n : Nat, (madeCells z (n * z.size)).toList = (List.replicate n z.toList).flatten
 | 0 => by simp [madeCells]
 | n + 1 => by
  have ih := yA z n
  simp only [madeCells, Array.toList_map, Array.toList_range] at ih ⊢
  rw [Nat.add_mul, Nat.one_mul, Nat.add_comm, List.range_add, List.map_append, List.replicate_succ, List.flatten_cons]
  congr 1
  . apply List.ext_getElem
    . simp
    . intro i h1 h2
      simp only [List.length_map, List.length_range] at h1
      simp [Nat.mod_eq_of_lt h1, h1]
  . rw [<- ih, List.map_map]
    apply List.map_congr_left
    intro i _
    simp
theorem vg {x : X} {e : TypeId} {v : AV} {c : List Value} (hr : rel P x v c) (hl : c.length = P.cellsOf e) (hf : fits P e v = true) : ∀ n : Nat, aX P x e (List.replicate n v) (List.replicate n c).flatten
 | 0 => rfl
 | n + 1 => ⟨c, (List.replicate n c).flatten, rfl, hr, hl, hf, vg hr hl hf n⟩
theorem W9 {t : TypeId} {n : Nat} {parts : List (Nat × AV)} {cparts : Array (Nat × Value)} {v : AV} (h : uL P t n parts = some v) (hf : qK P t parts = true) (hp0 : nD P (X.mk rows st w true) parts cparts.toList) (hno : yM P parts = true)
    (hst : ∀ b o, w.heap.size <= b -> st b o) : fE P rows st w (Instr.buildSlice t n cparts) v := by
 have hp := Oa hno hp0
 unfold uL at h
 split at h
 . rename_i e hu
   split at h
   . rename_i hc
     simp only [Bool.and_eq_true, Bool.or_eq_true] at hc
     obtain ⟨⟨h24, hfz⟩, hone⟩ := hc
     have h24 := Nat.ble_eq.mp h24
     obtain ⟨l, hfl, rfl⟩ := Option.map_eq_some_iff.1 h
     have hone' : aQ P e = false -> P.cellsOf e = 1 := fun hA => by
      rcases hone with hone | hone
      . rw [hA] at hone; exact absurd hone (by simp)
      . exact Nat.eq_of_beq_eq_true hone
     obtain ⟨d, hue⟩ := rz hfz
     obtain ⟨i, hi⟩ := info_of_underlying hue
     obtain ⟨z, e1, c, rfl, hr, _⟩ := yg (w := w) (x := X.aH (X.mk rows st w true)) (t := e) (by intro h0; rw [h0] at hfz; simp [fits, aR] at hfz)
     have hcz := mg hfz hr
     have hlz := lT hfz hr hone'
     have hpt : ∀ i, kX P t i = e := fun i => by simp [kX, hu]
     have hbase : ((if n * P.cellsOf e = 0 then (#[] : Array Value) else madeCells c.toArray (n * P.cellsOf e))).toList = (List.replicate n c).flatten := by
      have hz : P.cellsOf e = c.toArray.size := by simp [hlz]
      split
      . rename_i h0
        rw [hz] at h0
        have := yA c.toArray n
        rw [h0] at this
        simpa [madeCells] using this
      . rw [hz]
        simpa using yA c.toArray n
     obtain ⟨cells', k1, k2⟩ := Db (x := X.aH (X.mk rows st w true)) (t := t) (fun i => some (i * P.cellsOf e, P.cellsOf e))
      (fun ps cs => ps.length = n /\ aX P (X.aH (X.mk rows st w true)) e ps cs)
      (by
       intro ps cs i hR hi
       obtain ⟨pre, c, post, rfl, g2, g3, g4, g5, g6⟩ := jC i hR.2 hi
       refine ⟨pre, c, post, rfl, by rw [g2, g4], fun a c' k1 k2 => ?_⟩
       rw [hpt] at k1
       have hlc : c'.length = c.length := by rw [g4]; exact lT k1 k2 hone'
       exact ⟨hlc, by simpa using hR.1, g6 a c' k2 (hlc.trans g4) k1⟩)
      parts cparts.toList (List.replicate n (zero P e)) l (if n * P.cellsOf e = 0 then #[] else madeCells c.toArray (n * P.cellsOf e)) ⟨by simp, by rw [hbase]; exact vg hr hlz hfz n⟩ hfl hf hp
     refine ⟨.slice (some ⟨w.heap.size, 0, none⟩) n n, w.alloc (.cells cells' e), ?_, (Below.refl _ _).alloc (Nat.le_refl _) _, bR ⟨_, _, _, rfl, k2.1.symm, Nat.le_refl _, fun _ => rfl, .inr ⟨w.heap.size, 0, rfl, ?_⟩⟩ rfl⟩
     . simp only [Instr.buildSlice, Sem.run_bind, run_underlying hu, Result.andThen_ok, run_sizeOf w hi, Sem.run_ite, if_neg (show ¬ n * P.cellsOf e > 2 ^ 24 by omega), Sem.run_pure]
       by_cases h0 : n * P.cellsOf e = 0
       . simp only [if_pos h0] at k1 ⊢
         have hr0 : ∀ f : Nat -> Value, Array.map f (Array.range (n * P.cellsOf e)) = #[] := fun f => by simp [h0]
         rw [hr0, k1]
         simp [newRow]
       . simp only [if_neg h0] at k1 ⊢
         rw [e1]
         simp only [Result.andThen_ok, hcz]
         have hm : Array.map (fun x => c.toArray[x % c.toArray.size]!) (Array.range (n * P.cellsOf e)) = madeCells c.toArray (n * P.cellsOf e) := rfl
         rw [hm, k1]
         simp [newRow]
     . have hle : Le (X.aH (X.mk rows st w true)) (X.aH (X.mk rows st (w.alloc (.cells cells' e)) true)) := ⟨fun _ _ h => h, fun _ _ _ h _ => h, fun b o v _ hc => (by
         show (w.alloc _).cell? _ = _
         rw [World.cell?_alloc_lt _ _ _ (jl hc)]; exact hc), id⟩
       refine nL (kJ hle e l _ k2.2) fun i v hv => ⟨hst _ _ (Nat.le_refl _), ?_⟩
       show (w.alloc _).cell? _ = _
       rw [World.cell?_alloc_new, <- Array.getElem?_toList, Nat.zero_add]
       exact hv
   . exact absurd h (by simp)
 . exact absurd h (by simp)
theorem Ky {t : TypeId} (h : zero P t ≠ .dead) : ∃ i z, P.info? t = some i /\ i.zero = some z /\ zero P t = zi P t z := by
 unfold zero at h ⊢
 split at h
 . rename_i i hi
   split at h
   . rename_i z hz; exact ⟨i, z, hi, hz, rfl⟩
   . exact absurd rfl h
 . exact absurd rfl h
theorem UJ {t : TypeId} {x : Int} {k1 k2 : IntKind} {v : AV} (h : uL P t x.toNat [] = some v) (h0 : 0 <= x) (hb : x * P.bytesOf (cB P t) <= 140737488355328) (hmax : x <= 1000000)
    (hst : ∀ b o, w.heap.size <= b -> st b o) : fE P rows st w (Instr.makeSlice t (.int k1 x) (.int k2 x)) v := by
 unfold uL at h
 split at h
 . rename_i e hu
   split at h
   . rename_i hc
     simp only [Bool.and_eq_true, Bool.or_eq_true] at hc
     obtain ⟨⟨h24, hfz⟩, hone⟩ := hc
     obtain ⟨l, hfl, rfl⟩ := Option.map_eq_some_iff.1 h
     have hone' : aQ P e = false -> P.cellsOf e = 1 := fun hA => by
      rcases hone with hone | hone
      . rw [hA] at hone; exact absurd hone (by simp)
      . exact Nat.eq_of_beq_eq_true hone
     obtain ⟨i, z, hi, hz, hzv⟩ := Ky (t := e) (by intro h0; rw [h0] at hfz; simp [fits, aR] at hfz)
     have hzr : aK P (X.aH (X.mk rows st w true)) (zero P e) z := hzv ▸ xQ e z
     obtain ⟨cn, hzc, hrel, _⟩ := hzr
     have hlz := lT hfz hrel hone'
     have hcm := mg hfz hrel
     rw [<- hzc] at hcm
     have hbi : P.bytesOf e = i.bytes := by simp [Program.bytesOf, hi]
     have hsi : P.cellsOf e = i.size := by simp [Program.cellsOf, hi]
     have he : cB P t = e := by simp [cB, hu]
     rw [he, hbi] at hb
     have hrun := run_make (P := P) w t e i z hu hi hz k1 k2 x x h0 (Int.le_refl _) (by rw [Int.mul_comm]; omega) (by omega)
     have hzs : z.cells.size = i.size := by rw [hcm, <- hsi, <- hlz]; simp
     have hflat : (madeCells z.cells (x.toNat * i.size)).toList = (List.replicate x.toNat cn).flatten := by
      rw [<- hzs, yA, hcm]
     have hl : l = List.replicate x.toNat (zero P e) := by
      have hfl' : some (List.replicate x.toNat (zero P e)) = some l := hfl
      exact (Option.some.inj hfl').symm
     subst hl
     have hra := vg hrel hlz hfz x.toNat
     refine ⟨_, _, hrun, (Below.refl _ _).alloc (Nat.le_refl _) _, bR ⟨_, _, _, rfl, by simp, Nat.le_refl _, fun _ => rfl, .inr ⟨w.heap.size, 0, rfl, ?_⟩⟩ rfl⟩
     have hle : Le (X.aH (X.mk rows st w true)) (X.aH (X.mk rows st (w.alloc (.cells (madeCells z.cells (x.toNat * i.size)) e)) true)) := ⟨fun _ _ h => h, fun _ _ _ h _ => h, fun b o v _ hc => (by
      show (w.alloc _).cell? _ = _
      rw [World.cell?_alloc_lt _ _ _ (jl hc)]; exact hc), id⟩
     refine nL (kJ hle e _ _ hra) fun j v hv => ⟨hst _ _ (Nat.le_refl _), ?_⟩
     show (w.alloc _).cell? _ = _
     rw [World.cell?_alloc_new, <- Array.getElem?_toList, Nat.zero_add, hflat]
     exact hv
   . exact absurd h (by simp)
 . exact absurd h (by simp)
theorem VE {x v : AV} {cx : Value} {xt t : TypeId} {ok : Bool} (h : F7 P x t ok = some v) (hx : aK P (X.mk rows st w true) x cx) : fE P rows st w (Instr.typeAssert cx xt t ok) v := by
 unfold F7 at h
 have tup : ∀ {a : AV} {c : Value} {b : Bool}, aK P (X.mk rows st w true) a c -> aK P (X.mk rows st w true) (.tuple [a, .bool b]) (.tuple #[c, .bool b]) := fun hc =>
  bR ⟨_, rfl, jX hc (jX (eG.2 rfl) rfl)⟩ rfl
 split at h
 . exact absurd h (by simp)
 . rename_i d u a hni hu
   obtain ⟨c, rfl, hc, _⟩ := xw hx
   have hd : ∀ ms, d ≠ .interface ms := fun ms e => hni ms (by rw [e])
   split at h
   . rename_i hut
     have := Nat.eq_of_beq_eq_true hut
     subst this
     simp only [Option.some.injEq] at h
     subst h
     refine .of (c := if ok then .tuple #[c, .bool true] else c) ?_ ?_
     . simp only [Instr.typeAssert, Sem.run_bind, run_underlying hu, Result.andThen_ok]
       cases d <;> first | exact absurd rfl (hd _) | simp
     . cases ok
       . simpa using hc
       . simpa using tup hc
   . rename_i hut
     have hne : ¬ u = t := fun e => by subst e; simp at hut
     split at h
     . rename_i hok
       simp only [Bool.and_eq_true] at hok
       obtain ⟨rfl, hfz⟩ := hok
       simp only [Option.some.injEq] at h
       subst h
       obtain ⟨z, e1, e2⟩ := yg (w := w) (x := (X.mk rows st w true)) (t := t) (by intro h0; rw [h0] at hfz; simp [fits, aR] at hfz)
       refine .of (c := .tuple #[z, .bool false]) ?_ (tup e2)
       simp only [Instr.typeAssert, Sem.run_bind, run_underlying hu, Result.andThen_ok]
       cases d <;> first | exact absurd rfl (hd _) | simp [hne, e1]
     . exact absurd h (by simp)
 . rename_i d hni hu
   obtain rfl := Af hx
   have hd : ∀ ms, d ≠ .interface ms := fun ms e => hni ms (by rw [e])
   split at h
   . rename_i hok
     simp only [Bool.and_eq_true] at hok
     obtain ⟨rfl, hfz⟩ := hok
     simp only [Option.some.injEq] at h
     subst h
     obtain ⟨z, e1, e2⟩ := yg (w := w) (x := (X.mk rows st w true)) (t := t) (by intro h0; rw [h0] at hfz; simp [fits, aR] at hfz)
     refine .of (c := .tuple #[z, .bool false]) ?_ (tup e2)
     simp only [Instr.typeAssert, Sem.run_bind, run_underlying hu, Result.andThen_ok]
     cases d <;> first | exact absurd rfl (hd _) | simp [e1]
   . exact absurd h (by simp)
 . exact absurd h (by simp)
end
end Go.AE
namespace Go.AE
open Go.RowKit Go.Lib
section
variable {P : Program}
structure Lp (x y : X) : Prop where
 st : ∀ b o : Nat, x.st b o -> y.st b o
 cell : ∀ (b o : Nat) (v : Value), x.st b o -> x.w.cell? ⟨b, o, none⟩ = some v -> y.w.cell? ⟨b, o, none⟩ = some v
 m : x.m = false
theorem Lp.at {x y : X} (h : Lp x y) {b o : Nat} {cs : List Value} (k : At x b o cs) : At y b o cs := fun i v hv => ⟨h.st _ _ (k i v hv).1, h.cell _ _ _ (k i v hv).1 (k i v hv).2⟩
theorem Lp.aH {x y : X} (h : Lp x y) : Lp x.aH y.aH := ⟨h.st, h.cell, rfl⟩
mutual
theorem xB {x y : X} (hl : Lp x y) : ∀ (v : AV) (n : Nat) {t : TypeId} {c : List Value}, bJ P n t = true -> fits P t v = true -> rel P x v c -> rel P y v c
 | v, 0, t, c, h, _, _ => by simp [bJ] at h
 | .agg u ps, n + 1, t, c, h, hf, hr => by
  have hlk := (iM hf).1
  simp only [bJ] at h
  split at h
  . rename_i hu; have := (iM hf).2; simp [aQ, hu] at this
  . rename_i hu; have := (iM hf).2; simp [aQ, hu] at this
  . rename_i hu; have := (iM hf).2; simp [aQ, hu] at this
  . rename_i fs hu
    have hu' := (dK hlk).trans hu
    obtain ⟨k1, k2⟩ := lC hr hu'
    exact kV hu' k1 (KI hl ps n h k2)
  . rename_i m e hu
    have hu' := (dK hlk).trans hu
    obtain ⟨k1, k2, k3⟩ := mR hr hu'
    exact kR hu' k1 k2 (Mj hl ps n h k3)
  . rename_i e hu; have := (iM hf).2; simp [aQ, hu] at this
  . exact absurd h (by simp)
 | .slice e l ex, n + 1, t, c, h, hf, hr => by
  simp only [bJ] at h
  obtain ⟨base, len, cap, h1, h2, h3, h4, h5⟩ := hr
  refine ⟨base, len, cap, h1, h2, h3, h4, h5.imp id fun ⟨b, o, h6, h7⟩ => ⟨b, o, h6, ?_⟩⟩
  split at h
  . rename_i hu; simp [fits, aR, hu] at hf
  . rename_i hu; simp [fits, aR, hu] at hf
  . rename_i hu; simp [fits, aR, hu] at hf
  . rename_i hu; simp [fits, aR, hu] at hf
  . rename_i hu; simp [fits, aR, hu] at hf
  . rename_i e' hu
    simp only [fits, aR, hu, Bool.and_eq_true] at hf
    have := Nat.eq_of_beq_eq_true hf.1
    subst this
    exact Ph hl.aH l n h h7
  . exact absurd h (by simp)
 | .msl _ _ _ _ _ _, n + 1, t, c, h, hf, hr => by
  have := hr.1
  rw [hl.m] at this
  exact absurd this (by simp)
 | .bool _, n + 1, t, c, h, hf, hr => hr
 | .int _ _, n + 1, t, c, h, hf, hr => hr
 | .str _, n + 1, t, c, h, hf, hr => hr
 | .dead, n + 1, t, c, h, hf, hr => by simp [fits, aR] at hf
 | .nilp, n + 1, t, c, h, hf, hr => hr
 | .nilf, n + 1, t, c, h, hf, hr => hr
 | .yld _, n + 1, t, c, h, hf, hr => by
  simp only [bJ] at h
  split at h <;> simp_all [fits, aR]
 | .nili, n + 1, t, c, h, hf, hr => hr
 | .tuple _, n + 1, t, c, h, hf, hr => by simp [fits, aR] at hf
 | .ptr _ _ _ _, n + 1, t, c, h, hf, hr => by
  simp only [bJ] at h
  split at h <;> simp_all [fits, aR]
 | .rptr _ _, n + 1, t, c, h, hf, hr => by
  simp only [bJ] at h
  split at h <;> simp_all [fits, aR]
 | .mapv _, n + 1, t, c, h, hf, hr => by
  simp only [bJ] at h
  split at h <;> simp_all [fits, aR]
 | .func _ _ _, n + 1, t, c, h, hf, hr => by
  simp only [bJ] at h
  split at h <;> simp_all [fits, aR]
 | .iface _ _, n + 1, t, c, h, hf, hr => by
  simp only [bJ] at h
  split at h <;> simp_all [fits, aR]
theorem KI {x y : X} (hl : Lp x y) : ∀ (ps : List AV) (n : Nat) {fs : List Field} {c : List Value}, ny (bJ P n) fs = true -> dh P x (fs.map (·.type)) ps c -> dh P y (fs.map (·.type)) ps c
 | [], n, [], c, _, h => h
 | [], n, _ :: _, c, _, h => h.elim
 | _ :: _, n, [], c, _, h => h.elim
 | p :: ps, n, f :: fs, c, hf, h => by
  obtain ⟨c1, r, rfl, h1, h2, h3, h4⟩ := h
  simp only [ny, Bool.and_eq_true] at hf
  exact ⟨c1, r, rfl, xB hl p n hf.1 h3 h1, h2, h3, KI hl ps n hf.2 h4⟩
theorem Mj {x y : X} (hl : Lp x y) : ∀ (ps : List AV) (n : Nat) {e : TypeId} {c : List Value}, bJ P n e = true -> aX P x e ps c -> aX P y e ps c
 | [], n, e, c, _, h => h
 | p :: ps, n, e, c, hf, h => by
  obtain ⟨c1, r, rfl, h1, h2, h3, h4⟩ := h
  exact ⟨c1, r, rfl, xB hl p n hf h3 h1, h2, h3, Mj hl ps n hf h4⟩
theorem Ph {x y : X} (hl : Lp x y) : ∀ (ps : List AV) (n : Nat) {e : TypeId} {b o : Nat}, bJ P n e = true -> dN P x e b o ps -> dN P y e b o ps
 | [], n, e, b, o, _, h => trivial
 | p :: ps, n, e, b, o, hf, h => by
  obtain ⟨⟨c, h1, h2, h3, h4⟩, h5⟩ := h
  exact ⟨⟨c, xB hl p n hf h3 h1, h2, h3, hl.at h4⟩, Ph hl ps n hf h5⟩
end
theorem IC {x y : X} (hl : Lp x.aH y) : ∀ {ts : List TypeId} {as : List AV} {vs : List Value}, gW P ts as = true -> pR P ts = true -> fV (jo P 8) as = true -> bA P x as vs -> bA P y as vs
 | [], [], vs, _, _, _, h => h
 | [], _ :: _, vs, hf, _, _, h => by simp [gW] at hf
 | _ :: _, [], vs, hf, _, _, h => by simp [gW] at hf
 | t :: ts, a :: as, vs, hf, hp, hn, h => by
  obtain ⟨c, r, rfl, h1, h2, h3⟩ := h
  simp only [gW, Bool.and_eq_true] at hf
  simp only [pR, Bool.and_eq_true] at hp
  simp only [fV, Bool.and_eq_true] at hn
  exact ⟨c, r, rfl, xB hl a 20 hp.1 hf.1 (rH 8 a hn.1 h1), h2, IC hl hf.2 hp.2 hn.2 h3⟩
def yO (P : Program) (f : FuncId) (args : List AV) (v : AV) : Prop :=
 ∀ (w : World) (S : Nat -> Nat -> Prop) (cargs : Array Value), bA P ⟨[], S, w, false⟩ args cargs.toList ->
  Calls P f cargs w fun e w' => ∃ rv, e = .returned rv /\ Below w.heap.size w w' /\ aK P ⟨[], fun b o => S b o \/ w.heap.size <= b, w', false⟩ v rv
def Ctx.Good (cx : Ctx) : Prop := ∀ f args v, cx.spec f args = some (true, v) -> yO cx.P f args v
end
section
variable {cx : Ctx} {N d : Nat} {S : Nat -> Nat -> Prop} {w0 : World} {g : G} {fr : Fr} {M : Mm} {a : Act} {w : World}
theorem Rel.sI (h : Rel (Env.mk (Ctx.P cx) N S w0) d g fr M a w) : GY cx.P g.rows (cK (Env.mk (Ctx.P cx) N S w0) g.cls) w M := fun r b root hr => (h.rows r b root hr).2.2.2
theorem Rel.Ci (h : Rel (Env.mk (Ctx.P cx) N S w0) d g fr M a w) : ∀ b o, w.heap.size <= b -> cK (Env.mk (Ctx.P cx) N S w0) g.cls b o := fun b o hb => by
 have hN := h.hN
 unfold cK
 rw [if_neg (by show ¬ b < N; exact Nat.not_lt.2 (Nat.le_trans hN hb)), h.fresh b hb]
 trivial
theorem iY {o : Option AV} {v : AV} {b : Bool} (h : okV o = some (b, v)) : o = some v /\ b = true := by
 unfold okV at h
 split at h
 . simp only [Option.some.injEq, Prod.mk.injEq] at h
   exact ⟨by rw [h.2], h.1.symm⟩
 . exact absurd h (by simp)
theorem Ey {v : AV} {c : Value} {x : X} (h : aK cx.P x v c) {k : IntKind} {n : Int} (e : v = .int k n) : c = .int k n := by subst e; exact bL.1 h
theorem D9 (h : Rel (Env.mk (Ctx.P cx) N S w0) d g fr M a w) (t : TypeId) : ∀ ps : List (Nat × Operand), nD cx.P (aI (Env.mk (Ctx.P cx) N S w0) g w) (uD cx.P fr.tmps t ps) (ps.map fun p => (p.1, a.eval p.2))
 | [] => trivial
 | (i, x) :: ps => ⟨rfl, h.aC (kX cx.P t i) x, D9 h t ps⟩
theorem Ip (h : Rel (Env.mk (Ctx.P cx) N S w0) d g fr M a w) : ∀ x : Option Operand, o7 cx.P (aI (Env.mk (Ctx.P cx) N S w0) g w) (nG cx.P fr.tmps x) (x.map a.eval)
 | none => trivial
 | some x => h.aC 0 x
theorem gD {s : Sem Value} {v : AV} {K : Act -> World -> Prop} {o : Oper} (h : fE cx.P g.rows (cK (Env.mk (Ctx.P cx) N S w0) g.cls) w s v)
    (hk : ∀ c w', Below w.heap.size w w' -> aK cx.P (aI (Env.mk (Ctx.P cx) N S w0) g w') v c -> K (a.put o.dst c) w') (Q : Exit -> Act -> World -> Prop) :
    o.upon cx.P a K Q ((do pure (Next.value (<- s)) : Sem Next).run cx.P w) := by
 obtain ⟨c, w', h1, h2, h3⟩ := h
 simp only [Sem.run_bind, h1, Result.andThen_ok, Sem.run_pure, Oper.upon_value]
 exact hk c w' h2 h3
theorem IL (hG : cx.Good) (hr : Rel (Env.mk (Ctx.P cx) N S w0) d g fr M a w) {o : Oper} {v : AV} (h : bP cx M fr.tmps o = some (true, v)) {K : Act -> World -> Prop} {Q : Exit -> Act -> World -> Prop}
    (hk : ∀ c w', Below w.heap.size w w' -> aK cx.P (aI (Env.mk (Ctx.P cx) N S w0) g w') v c -> K (a.put o.dst c) w') : o.wp cx.P a w K Q := by
 have here : ∀ c, aK cx.P (aI (Env.mk (Ctx.P cx) N S w0) g w) v c -> K (a.put o.dst c) w := fun c hc => hk c w (Below.refl _ _) hc
 unfold Oper.wp
 unfold bP at h
 unfold execOp
 cases ho : o.op <;> simp only [ho] at h ⊢ <;> first | (exfalso; simp at h; done) | skip
 case move x =>
  simp only [Option.some.injEq, Prod.mk.injEq, true_and] at h
  subst h
  simp only [Sem.run_pure, Oper.upon_value]
  exact here _ (hr.aC _ x)
 case assign x =>
  simp only [Option.some.injEq, Prod.mk.injEq, true_and] at h
  subst h
  simp only [Sem.run_pure, Oper.upon_value]
  exact here _ (hr.aC _ x)
 case pick c x y =>
  split at h
  . rename_i t ht
    simp only [Option.some.injEq, Prod.mk.injEq, true_and] at h
    have hc := hr.aC 0 c
    rw [ht] at hc
    rw [eG.1 hc]
    simp only [asBool, Sem.run_bind, Sem.run_pure, Result.andThen_ok, Oper.upon_value]
    rw [vD] at h
    refine here _ ?_
    cases t
    . simp only [cond_false] at h; subst h; exact hr.aC _ y
    . simp only [cond_true] at h; subst h; exact hr.aC _ x
  . exact absurd h (by simp)
 case build t ps =>
  split at h
  . rename_i hf
    obtain ⟨h, _⟩ := iY h
    refine gD (Xt h hf ?_) hk Q
    have := D9 hr t ps.toList
    show nD cx.P (aI (Env.mk (Ctx.P cx) N S w0) g w) _ _
    simpa using this
  . exact absurd h (by simp)
 case buildSlice t n ps =>
  split at h
  . rename_i hf
    simp only [Bool.and_eq_true] at hf
    obtain ⟨h, _⟩ := iY h
    refine gD (W9 h hf.1 ?_ hf.2 hr.Ci) hk Q
    have := D9 hr t ps.toList
    show nD cx.P (aI (Env.mk (Ctx.P cx) N S w0) g w) _ _
    simpa using this
  . exact absurd h (by simp)
 case makeSlice t l c =>
  split at h
  . rename_i n hp
    obtain ⟨h, _⟩ := iY h
    unfold Av at hp
    split at hp
    . rename_i k1 x k2 y
      split at hp
      . rename_i hc
        simp only [Bool.and_eq_true, decide_eq_true_eq] at hc
        obtain ⟨⟨⟨⟨_, rfl⟩, h0⟩, hb⟩, hmax⟩ := hc
        obtain rfl := Option.some.inj hp
        exact gD (UJ h h0 hb hmax hr.Ci) hk Q
      . exact absurd hp (by simp)
    . exact absurd hp (by simp)
  . exact absurd h (by simp)
 case load t x =>
  obtain ⟨h, _⟩ := iY h
  exact gD (QS h (hr.aC 0 x) hr.sI) hk Q
 case nilCheck x =>
  have hx := hr.aC 0 x
  generalize hv : aC cx.P fr.tmps 0 x = u at *
  unfold Qy at h
  split at h
  . obtain ⟨b, root, _, _, e⟩ := lY hx
    simp only [Option.some.injEq, Prod.mk.injEq, true_and] at h
    subst h
    rw [e] at hx ⊢
    simp only [Sem.run_pure, Oper.upon_value]
    exact here _ hx
  . obtain ⟨b, o, c, e, _⟩ := qC hx
    simp only [Option.some.injEq, Prod.mk.injEq, true_and] at h
    subst h
    rw [e] at hx ⊢
    simp only [Sem.run_pure, Oper.upon_value]
    exact here _ hx
  . obtain ⟨c, e, _⟩ := xw hx
    simp only [Option.some.injEq, Prod.mk.injEq, true_and] at h
    subst h
    rw [e] at hx ⊢
    simp only [Sem.run_pure, Oper.upon_value]
    exact here _ hx
  . rename_i fn f c
    obtain ⟨p, q, e, _⟩ := tT hx
    split at h
    . exact absurd h (by simp)
    . rename_i hm
      simp only [Option.some.injEq, Prod.mk.injEq, true_and] at h
      subst h
      rw [e] at hx ⊢
      cases fn with
      | method name => exact absurd rfl (hm name)
      | _ =>
       simp only [Sem.run_pure, Oper.upon_value]
       exact here _ hx
  . obtain ⟨b, _, e⟩ := Nz hx
    simp only [Option.some.injEq, Prod.mk.injEq, true_and] at h
    subst h
    rw [e] at hx ⊢
    simp only [Sem.run_pure, Oper.upon_value]
    exact here _ hx
  . simp at h
  . simp at h
  . simp at h
  . simp at h
 case binOp op t x y ty =>
  split at h
  . rename_i rr hnil
    obtain rfl := Option.some.inj h
    exact gD (ac2 hnil (hr.aC t x)) hk Q
  . exact gD (Z5 h (hr.aC t x) (hr.aC ty y)) hk Q
 case unOp op t x =>
  obtain ⟨h, _⟩ := iY h
  exact gD (R8 h (hr.aC t x)) hk Q
 case convert src dst x =>
  split at h
  . rename_i hs
    obtain ⟨h, _⟩ := iY h
    exact gD (RU h hs (hr.aC src x) hr.sI hr.Ci) hk Q
  . exact absurd h (by simp)
 case makeInterface t x =>
  split at h
  . rename_i hf
    obtain ⟨h, _⟩ := iY h
    split at h
    . exact absurd h (by simp)
    . rename_i d hni hu
      simp only [Option.some.injEq] at h
      subst h
      obtain ⟨c, e, h1, h2⟩ := hr.aC t x
      have hrel : rel cx.P (aI (Env.mk (Ctx.P cx) N S w0) g w) (.iface t (aC cx.P fr.tmps t x)) [.iface t (a.eval x)] := ⟨c, h1, hf, h2, by rw [e]⟩
      refine gD (.of (c := .iface t (a.eval x)) ?_ (bR hrel rfl)) hk Q
      refine run_makeInterface w t _ ?_
      unfold Program.concrete
      cases d <;> simp_all
    . exact absurd h (by simp)
  . exact absurd h (by simp)
 case makeFunc fn first cap =>
  simp only [Option.some.injEq, Prod.mk.injEq, true_and] at h
  subst h
  have hrel : rel cx.P (aI (Env.mk (Ctx.P cx) N S w0) g w) (.func fn (bH cx.P fr.tmps [] first.toList) (bH cx.P fr.tmps [] cap.toList)) [.func fn (first.map a.eval) (cap.map a.eval)] :=
   ⟨_, _, rfl, by simpa using hr.bH [] first.toList, by simpa using hr.bH [] cap.toList⟩
  exact gD (.of (c := .func fn (first.map a.eval) (cap.map a.eval)) (by simp [Instr.makeFunc]) (bR hrel rfl)) hk Q
 case slice t x lo hi mx =>
  split at h
  . rename_i hi'
    exact gD (VY h (hr.aC t x) (Ip hr lo) (Ip hr hi) (Ip hr mx) (Option.isSome_iff_exists.mp hi')) hk Q
  . exact absurd h (by simp)
 case fieldAddr t x k =>
  obtain ⟨h, _⟩ := iY h
  exact gD (XD h (hr.aC 0 x)) hk Q
 case field t x k =>
  obtain ⟨h, _⟩ := iY h
  exact gD (WA h (hr.aC t x)) hk Q
 case indexAddr t x i =>
  split at h
  . rename_i k n hn
    split at h
    . rename_i hi'
      rw [Ey (hr.aC 0 i) hn]
      exact gD (XA h (hr.aC t x) (Option.isSome_iff_exists.mp hi')) hk Q
    . exact absurd h (by simp)
  . exact absurd h (by simp)
 case index t x i =>
  split at h
  . rename_i k n hn
    split at h
    . rename_i hi'
      rw [Ey (hr.aC 0 i) hn]
      exact gD (Yb h (hr.aC t x) (Option.isSome_iff_exists.mp hi')) hk Q
    . exact absurd h (by simp)
  . exact absurd h (by simp)
 case typeAssert x xt t ok =>
  obtain ⟨h, _⟩ := iY h
  exact gD (VE h (hr.aC 0 x)) hk Q
 case extract x i =>
  have hx := hr.aC 0 x
  split at h
  . rename_i vs hv
    split at h
    . rename_i hlt
      simp only [Option.some.injEq, Prod.mk.injEq, true_and] at h
      subst h
      rw [hv] at hx
      obtain ⟨arr, e, hvs⟩ := Fq hx
      obtain ⟨h1, h2⟩ := oI hvs
      have hi : i < arr.size := by have := Nat.blt_eq.mp hlt; rw [h1] at this; simpa using this
      rw [e]
      refine gD (.of (c := arr[i]) (by simp [Instr.extract, hi]) ?_) hk Q
      have := h2 i
      simpa [List.getD, hi] using this
    . exact absurd h (by simp)
  . exact absurd h (by simp)
 case call c =>
  cases hc : c.callee with
  | builtin b =>
   simp only [hc] at h
   unfold qI at h
   split at h
   . rename_i x t hx ht
     obtain ⟨h, _⟩ := iY h
     have e1 : c.args = #[x] := by apply Array.ext'; simpa using hx
     have e2 : c.argTypes = #[t] := by apply Array.ext'; simpa using ht
     simp only [resolve, hc, Sem.run_bind, Sem.run_pure, Result.andThen_ok, invoke, builtin, e1, e2, List.map_toArray, List.map_cons, List.map_nil]
     have := gD (K := K) (o := o) (a := a) (Ui (ty := o.type) h (hr.aC t x)) hk Q
     simpa only [Sem.run_bind, Sem.run_pure] using this
   . rename_i x r t ts hx ht
     obtain ⟨h, _⟩ := iY h
     obtain ⟨c', e3, e4⟩ := Oe h (hr.aC t x) (hr.bH ts r)
     simp only [resolve, hc, Sem.run_bind, Sem.run_pure, Result.andThen_ok, invoke, builtin]
     have := gD (K := K) (o := o) (a := a) (s := Builtin.min_ c.argTypes o.type (c.args.map a.eval)) (v := v) (.of (c := c') (by simp [Builtin.min_, hx, e3]) e4) hk Q
     simpa only [Sem.run_bind, Sem.run_pure] using this
   . rename_i x r t ts hx ht
     obtain ⟨h, _⟩ := iY h
     obtain ⟨c', e3, e4⟩ := Oh h (hr.aC t x) (hr.bH ts r)
     simp only [resolve, hc, Sem.run_bind, Sem.run_pure, Result.andThen_ok, invoke, builtin]
     have := gD (K := K) (o := o) (a := a) (s := Builtin.max_ c.argTypes o.type (c.args.map a.eval)) (v := v) (.of (c := c') (by simp [Builtin.max_, hx, e3]) e4) hk Q
     simpa only [Sem.run_bind, Sem.run_pure] using this
   . exact absurd h (by simp)
  | invoke r name => simp only [hc, sH] at h; exact absurd h (by simp)
  | value f =>
   simp only [hc] at h
   unfold sH at h
   rw [hc] at h
   split at h
   . rename_i f' hf'
     simp only [Callee.value.injEq] at hf'
     subst hf'
     split at h
     . rename_i fn hfn
       simp only [] at h
       split at h
       . rename_i hcond
         simp only [Bool.and_eq_true, Bool.not_eq_true', beq_eq_false_iff_ne] at hcond
         obtain ⟨⟨⟨⟨h1, h2⟩, h3⟩, h4⟩, h5⟩ := hcond
         have hargs := hr.bH c.argTypes.toList c.args.toList
         have hS := hG _ _ _ h w (cK (Env.mk (Ctx.P cx) N S w0) g.cls) (c.args.map a.eval)
          (IC (x := aI (Env.mk (Ctx.P cx) N S w0) g w) (y := ⟨[], cK (Env.mk (Ctx.P cx) N S w0) g.cls, w, false⟩) ⟨fun b o k => k, fun b o v _ k => k, rfl⟩ h1 h2 h3 (by simpa using hargs))
         have hbody : ¬ fn.body = none := by cases hb : fn.body <;> simp_all
         have hex : (do let d <- resolve a.eval c o.type; invoke d.target d.args : Sem Next).run cx.P w = .ok (.enter f' (c.args.map a.eval)) w := by
          simp [resolve, hc, Act.eval, Deferred.ofValue, invoke, callFunc, hfn, h5, hbody]
         rw [hex, Oper.upon_enter]
         refine hS.mono fun e w' ⟨rv, he, hb, hv⟩ => ?_
         subst he
         have hle : Le ⟨[], fun b o => cK (Env.mk (Ctx.P cx) N S w0) g.cls b o \/ w.heap.size <= b, w', false⟩ (aI (Env.mk (Ctx.P cx) N S w0) g w') :=
          ⟨fun r z hz => absurd hz (by simp), fun b o _ hso _ => hso.elim id (hr.Ci b o), fun b o v hso hcell => hcell, fun e => absurd e (by simp)⟩
         exact hk rv w' hb (fF hle hv)
       . exact absurd h (by simp)
     . exact absurd h (by simp)
   . exact absurd h (by simp)
end
end Go.AE
namespace Go.AE
open Go.RowKit Go.Lib
section
variable {E : Env} {d : Nat} {g : G} {fr : Fr} {M : Mm} {a : Act} {w : World}
theorem GA {cls cls' : Nat -> Cls} {b o : Nat} (h : cls' b = cls b) : cK E cls b o -> cK E cls' b o := by
 unfold cK; rw [h]; exact id
theorem jR (w : World) (o : Obj) : (w.alloc o).heap.size = w.heap.size + 1 := by show (w.heap.push o).size = _; simp
theorem pY (w : World) (o : Obj) : (w.alloc o).heap[w.heap.size]? = some o := by show (w.heap.push o)[w.heap.size]? = _; simp
def G.row (g : G) (b : Nat) (root : Root) : G := ⟨g.rows ++ [(b, root)], fun k => if k = b then .row else g.cls k⟩
theorem qy {α : Type} {l : List α} {x y : α} {i : Nat} (h : (l ++ [x])[i]? = some y) : l[i]? = some y \/ (i = l.length /\ y = x) := by
 rcases Nat.lt_or_ge i l.length with hi | hi
 . rw [List.getElem?_append_left hi] at h; exact .inl h
 . rw [List.getElem?_append_right hi] at h
   have : i - l.length = 0 := by
    rcases Nat.eq_zero_or_pos (i - l.length) with h0 | h0
    . exact h0
    . rw [List.getElem?_eq_none (by simp; omega)] at h; exact absurd h (by simp)
   rw [this] at h
   simp only [List.getElem?_cons_zero, Option.some.injEq] at h
   exact .inr ⟨by omega, h.symm⟩
theorem uG (h : Rel E d g fr M a w) (o : Obj) (root : Root) : Ext E d g w (g.row w.heap.size root) (w.alloc o) := by
 have hne : ∀ b, b < w.heap.size -> (g.row w.heap.size root).cls b = g.cls b := fun b hb => if_neg (by omega)
 refine ⟨fun r z hz => ?_, fun b o v hs hc => GA (hne b (jl hc)) hs, fun b o' v _ hc => ?_, fun b d' i u _ hb _ => ⟨hne b hb, Below.heap_alloc w o b hb⟩, by rw [jR]; omega, fun b hb => (Below.heap_alloc w o b (pW hb)).trans hb⟩
 . show (g.rows ++ _)[r]? = _
   rw [List.getElem?_append_left (List.getElem?_eq_some_iff.1 hz).1]; exact hz
 . exact (((Below.refl w.heap.size w).alloc (Nat.le_refl _) o).cell (p := ⟨b, o', none⟩) (jl hc)).trans hc
theorem Rel.newRow (h : Rel E d g fr M a w) (o : Obj) (root : Root) (row : Row) (hrow : ∀ x, Le (aI E g w) x -> x.w = w.alloc o -> gH E.P x w.heap.size root row) (hcl : jU row = .row := by rfl) :
    Rel E d (g.row w.heap.size root) fr { M with rows := M.rows ++ [row] } a (w.alloc o) := by
 have hx := uG h o root
 have hle := hx.le
 have hne : ∀ b, b < w.heap.size -> (g.row w.heap.size root).cls b = g.cls b := fun b hb => if_neg (by omega)
 have hcell : ∀ b o' v, w.cell? ⟨b, o', none⟩ = some v -> (w.alloc o).cell? ⟨b, o', none⟩ = some v := fun b o' v hc => (((Below.refl w.heap.size w).alloc (Nat.le_refl _) o).cell (p := ⟨b, o', none⟩) (jl hc)).trans hc
 have hown : ∀ {o' : Onr} {e : TypeId} {v : Value}, bK E g w o' e v -> bK E (g.row w.heap.size root) (w.alloc o) o' e v := fun k => k.le fun b u _ hlt _ => ⟨hne b hlt, Below.heap_alloc w o b hlt⟩
 refine ⟨h.below.alloc h.hN o, Nat.le_trans h.hN (by rw [jR]; omega), fun b hlt => ?_, h.size, fun i => fF hle (h.tmps i), by simp [G.row, h.lenr], ?_, ?_, ?_, h.viaT, ?_, ?_⟩
 . have hb : w.heap.size < b := by rw [jR] at hlt; omega
   show (if b = w.heap.size then _ else _) = _
   rw [if_neg (by omega)]
   exact h.fresh b (by omega)
 . intro r b root' hr
   rcases qy hr with hr | ⟨rfl, hr'⟩
   . obtain ⟨k1, k2, k3, k4⟩ := h.rows r b root' hr
     have hlt := (List.getElem?_eq_some_iff.1 hr).1
     have : (M.rows ++ [row]).getD r (.arr 0 []) = M.rows.getD r (.arr 0 []) := by
      rw [h.lenr] at hlt
      simp [List.getD, List.getElem?_append_left hlt]
     rw [this]
     exact ⟨k1, by rw [jR]; omega, (hne b k2).trans k3, k4.le hle (Below.heap_alloc w o b k2)⟩
   . obtain ⟨rfl, rfl⟩ := Prod.mk.inj hr'
     have : (M.rows ++ [row]).getD g.rows.length (.arr 0 []) = row := by rw [h.lenr]; simp [List.getD]
     rw [this]
     exact ⟨h.hN, by rw [jR]; omega, (if_pos rfl).trans hcl.symm, hrow _ hle rfl⟩
 . intro r r' b root1 root2 h1 h2
   rcases qy h1 with k1 | ⟨k1, k1'⟩ <;> rcases qy h2 with k2 | ⟨k2, k2'⟩
   . exact h.inj r r' b _ _ k1 k2
   . have := (h.rows _ _ _ k1).2.1
     have := (Prod.mk.inj k2').1
     omega
   . have := (h.rows _ _ _ k2).2.1
     have := (Prod.mk.inj k1').1
     omega
   . rw [k1, k2]
 . intro t ht
   obtain ⟨e, l, ex, k1, k2⟩ := h.own t ht
   exact ⟨e, l, ex, k1, hown k2⟩
 . intro t r p ht
   obtain ⟨k1, e, l, ex, k2, b, root', ty, off, k3, k4, k5, k6⟩ := h.viaR t r p ht
   exact ⟨k1, e, l, ex, k2, b, root', ty, off, hx.rows _ _ k3, k4, k5, hcell _ _ _ k6⟩
 . intro r p ht
   obtain ⟨b, root', ty, off, e, v, k1, k2, k3, k4, k5⟩ := h.ro r p ht
   exact ⟨b, root', ty, off, e, v, hx.rows _ _ k1, k2, k3, hcell _ _ _ k4, hown k5⟩
theorem Sk (h : Rel E d g fr M a w) (o : Obj) (t : TypeId) : aK E.P (aI E (g.row w.heap.size (.var t)) (w.alloc o)) (.ptr M.rows.length [] t 0) (.pointer (some ⟨w.heap.size, 0, none⟩)) := by
 have : rel E.P (aI E (g.row w.heap.size (.var t)) (w.alloc o)) (.ptr M.rows.length [] t 0) [.pointer (some ⟨w.heap.size, 0, none⟩)] :=
  ⟨w.heap.size, .var t, by show (g.rows ++ _)[M.rows.length]? = _; rw [<- h.lenr]; simp, ⟨rfl, rfl⟩, rfl⟩
 exact bR this rfl
theorem Rel.newVar (h : Rel E d g fr M a w) {t : TypeId} {v : AV} {c : Value} (hv : aK E.P (aI E g w) v c) (hf : fits E.P t v = true) (h1 : aQ E.P t = false -> E.P.cellsOf t = 1) (dst : Option Nat) :
    let w' := w.alloc (.cells c.cells t (0, 0))
    Rel E d (g.row w.heap.size (.var t)) (fr.set dst (.ptr M.rows.length [] t 0)) { M with rows := M.rows ++ [.var t v] } (a.put dst (.pointer (some ⟨w.heap.size, 0, none⟩))) w' := by
 intro w'
 refine (h.newRow _ (.var t) (.var t v) fun x hle hw => ?_).set dst (Sk h _ t)
 obtain ⟨cs, rfl, hr, _⟩ := hv
 refine ⟨(mkV v.isA cs).cells, t, ?_, rfl, hf, ?_, ?_⟩
 . rw [hw]; exact pY _ _
 . rw [mg hf hr]; exact kY hle v cs hr
 . rw [mg hf hr]; exact lT hf hr h1
theorem P9 (h : Rel E d g fr M a w) (o : Obj) (t : TypeId) : Ext E d g w (g.row w.heap.size (.var t)) (w.alloc o) := uG h o _
theorem Rel.DL (h : Rel E d g fr M a w) {o : Onr} (o' : Onr) {e : TypeId} {v : Value} (ho : bK E g w o e v)
    (ht : ∀ t, o = .t d t -> (t, TF.own) ∉ fr.tf) (hr : ∀ r p, o = .r r p -> (r, p) ∉ M.ro) (hd : ∀ d' i, o = .t d' i -> d <= d') :
    ∃ g', Rel E d g' fr M a w /\ Ext E d g w g' w /\ g'.rows = g.rows /\ bK E g' w o' e v := by
 obtain ⟨base, len, cap, rfl, hc | ⟨b, off, cs, ty, rfl, hN, hcl, hh, hs⟩⟩ := ho
 . exact ⟨g, h, Ext.refl _ _ _ _, rfl, base, len, cap, rfl, .inl hc⟩
 . have hst : ∀ k u, cK E g.cls k u ↔ cK E (fun k => if k = b then Cls.grow o' (off + len * E.P.cellsOf e) else g.cls k) k u := by
     intro k u
     unfold cK
     by_cases hk : k = b
     . subst hk; simp only [if_true, hcl]
     . simp only [if_neg hk]
   have hle : Le (aI E g w) (aI E ⟨g.rows, fun k => if k = b then Cls.grow o' (off + len * E.P.cellsOf e) else g.cls k⟩ w) := ⟨fun _ _ k => k, fun b o v k _ => (hst b o).1 k, fun _ _ _ _ k => k, id⟩
   have hne : ∀ {k : Nat} {c : Cls}, g.cls k = c -> c ≠ .grow o (off + len * E.P.cellsOf e) -> (if k = b then Cls.grow o' (off + len * E.P.cellsOf e) else g.cls k) = g.cls k := fun {k c} h1 h2 =>
    if_neg fun hkb => by subst hkb; exact h2 (h1.symm.trans hcl)
   have hother : ∀ {o2 : Onr} {e2 : TypeId} {v2 : Value}, o2 ≠ o -> bK E g w o2 e2 v2 -> bK E ⟨g.rows, fun k => if k = b then Cls.grow o' (off + len * E.P.cellsOf e) else g.cls k⟩ w o2 e2 v2 := fun hno k =>
    k.le fun b2 u _ _ hc2 => ⟨hne hc2 (fun e => by cases e; exact hno rfl), rfl⟩
   refine ⟨⟨g.rows, fun k => if k = b then Cls.grow o' (off + len * E.P.cellsOf e) else g.cls k⟩, ⟨h.below, h.hN, fun k hk => ?_, h.size, fun i => fF hle (h.tmps i), h.lenr, ?_, h.inj, ?_, h.viaT, h.viaR, ?_⟩, ⟨fun _ _ k => k, fun b o v k _ => (hst b o).1 k, fun _ _ _ _ k => k, fun k d' i u hd' _ hc => ⟨hne hc fun e => ?_, rfl⟩, Nat.le_refl _, fun _ h => h⟩, rfl, ?_⟩
   . show (if k = b then _ else _) = _
     rw [if_neg (by have := pW hh; omega)]
     exact h.fresh k hk
   . intro r k root hr'
     obtain ⟨k1, k2, k3, k4⟩ := h.rows r k root hr'
     exact ⟨k1, k2, (hne k3 (DI _ _ _)).trans k3, k4.le hle rfl⟩
   . intro t ht'
     obtain ⟨e, l, ex, k1, k2⟩ := h.own t ht'
     exact ⟨e, l, ex, k1, hother (fun e => ht t e.symm ht') k2⟩
   . intro r p hr'
     obtain ⟨b', root, ty', off', e', v', k1, k2, k3, k4, k5⟩ := h.ro r p hr'
     exact ⟨b', root, ty', off', e', v', k1, k2, k3, k4, hother (fun e => hr r p e.symm hr') k5⟩
   . cases e
     exact absurd (hd d' i rfl) (by omega)
   . exact ⟨_, len, cap, rfl, .inr ⟨b, off, cs, ty, rfl, hN, if_pos rfl, hh, hs⟩⟩
theorem Rel.qM (h : Rel E d g fr M a w) {t : Nat} {e : TypeId} {l : List AV} {ex : Bool} (h1 : fr.tmps.getD t .dead = .slice e l ex) (h2 : bK E g w (.t d t) e (a.tmps.getD t undef)) :
    Rel E d g { fr with tf := (t, .own) :: fr.tf } M a w := by
 refine ⟨h.below, h.hN, h.fresh, h.size, h.tmps, h.lenr, h.rows, h.inj, fun i hi => ?_, fun i s hi => ?_, fun i r p hi => ?_, h.ro⟩
 . rcases List.mem_cons.1 hi with hi | hi
   . cases hi; exact ⟨e, l, ex, h1, h2⟩
   . exact h.own i hi
 . rcases List.mem_cons.1 hi with hi | hi
   . cases hi
   . obtain ⟨k1, k2⟩ := h.viaT i s hi
     exact ⟨List.mem_cons_of_mem _ k1, k2⟩
 . rcases List.mem_cons.1 hi with hi | hi
   . cases hi
   . exact h.viaR i r p hi
theorem Rel.zk (h : Rel E d g fr M a w) {t s : Nat} {e : TypeId} {l : List AV} {ex : Bool} (h1 : fr.tmps.getD t .dead = .slice e l ex) {l' : List AV} {ex' : Bool} (h1' : fr.tmps.getD s .dead = .slice e l' ex') (h2 : (s, TF.own) ∈ fr.tf) (h3 : a.tmps.getD t undef = a.tmps.getD s undef) :
    Rel E d g { fr with tf := (t, .viaT s) :: fr.tf } M a w := by
 refine ⟨h.below, h.hN, h.fresh, h.size, h.tmps, h.lenr, h.rows, h.inj, fun i hi => ?_, fun i s' hi => ?_, fun i r p hi => ?_, h.ro⟩
 . rcases List.mem_cons.1 hi with hi | hi
   . cases hi
   . exact h.own i hi
 . rcases List.mem_cons.1 hi with hi | hi
   . cases hi
     exact ⟨List.mem_cons_of_mem _ h2, h3, e, l, ex, l', ex', h1, h1'⟩
   . obtain ⟨k1, k2⟩ := h.viaT i s' hi
     exact ⟨List.mem_cons_of_mem _ k1, k2⟩
 . rcases List.mem_cons.1 hi with hi | hi
   . cases hi
   . exact h.viaR i r p hi
theorem Rel.yt (h : Rel E d g fr M a w) {t r : Nat} {p : List Nat} {e : TypeId} {l : List AV} {ex : Bool} (h1 : fr.tmps.getD t .dead = .slice e l ex) (h2 : (r, p) ∈ M.ro)
    {b : Nat} {root : Root} {ty : TypeId} {off : Nat} (k3 : g.rows[r]? = some (b, root)) (k4 : eT E.P root p ty off) (k5 : E.P.underlying ty = some (.slice e)) (k6 : w.cell? ⟨b, off, none⟩ = some (a.tmps.getD t undef)) :
    Rel E d g { fr with tf := (t, .viaR r p) :: fr.tf } M a w := by
 refine ⟨h.below, h.hN, h.fresh, h.size, h.tmps, h.lenr, h.rows, h.inj, fun i hi => ?_, fun i s' hi => ?_, fun i r p hi => ?_, h.ro⟩
 . rcases List.mem_cons.1 hi with hi | hi
   . cases hi
   . exact h.own i hi
 . rcases List.mem_cons.1 hi with hi | hi
   . cases hi
   . obtain ⟨k1, k2⟩ := h.viaT i s' hi
     exact ⟨List.mem_cons_of_mem _ k1, k2⟩
 . rcases List.mem_cons.1 hi with hi | hi
   . cases hi
     exact ⟨h2, e, l, ex, h1, b, root, ty, off, k3, k4, k5, k6⟩
   . exact h.viaR i r p hi
end
end Go.AE
namespace Go.AE
open Go.RowKit Go.Lib
section
variable {E : Env} {d : Nat} {g : G} {fr : Fr} {M : Mm} {a : Act} {w : World}
theorem jQ {t : Nat} {f : TF} : ∀ {tf : List (Nat × TF)}, gM t tf = some f -> (t, f) ∈ tf
 | [], h => by simp [gM] at h
 | (i, f') :: r, h => by
  simp only [gM] at h
  split at h
  . rename_i hi
    obtain rfl := Option.some.inj h
    rw [Nat.eq_of_beq_eq_true hi]
    exact List.mem_cons_self
  . exact List.mem_cons_of_mem _ (jQ h)
theorem OC (a : Act) (s : Nat) : a.put (some s) (a.tmps.getD s undef) = a := by
 have : a.tmps.setIfInBounds s (a.tmps.getD s undef) = a.tmps := by
  apply Array.ext
  . simp
  . intro i h1 h2
    by_cases hi : s = i
    . subst hi; simp [h2]
    . rw [Array.getElem_setIfInBounds_ne (by simpa using h2) hi]
 simp only [Act.put, this]
theorem beq_false {a b : Nat} (h : ¬ Nat.beq a b = true) : a ≠ b := fun e => h (by subst e; simp)
theorem ko {E : Env} {d : Nat} {g : G} {fr : Fr} {M : Mm} {a : Act} {w : World} (h : Rel E d g fr M a w) {t : Nat} (ht : t < fr.tmps.length) (c : Value) : (a.put (some t) c).tmps.getD t undef = c := by
 show (a.tmps.setIfInBounds t c).getD t undef = c
 rw [yw, if_pos ⟨rfl, by rw [h.size]; exact ht⟩]
theorem sZ {a : Act} {t s : Nat} (ht : s ≠ t) (c : Value) : (a.put (some t) c).tmps.getD s undef = a.tmps.getD s undef := by
 show (a.tmps.setIfInBounds t c).getD s undef = _
 rw [yw, if_neg (fun k => ht k.1.symm)]
theorem jw {l : List AV} {t : Nat} (ht : t < l.length) (v : AV) : (l.set t v).getD t .dead = v := by rw [uQ, if_pos ⟨rfl, ht⟩]
theorem ql {l : List AV} {t s : Nat} (ht : s ≠ t) (v : AV) : (l.set t v).getD s .dead = l.getD s .dead := by rw [uQ, if_neg (fun k => ht k.1.symm)]
theorem Rel.Uu (h : Rel E d g fr M a w) {s t : Nat} (hs : s ≠ t) {e : TypeId} {l : List AV} {ex : Bool} (hv : fr.tmps.getD s .dead = .slice e l ex) :
    Rel E d g (fr.gG (some t) (.slice e l ex) (oC s t fr.tf)) M (a.put (some t) (a.tmps.getD s undef)) w := by
 have hvs : aK E.P (aI E g w) (.slice e l ex) (a.tmps.getD s undef) := hv ▸ h.tmps s
 have hset := h.set (some t) hvs
 unfold Fr.gG oC
 split
 . rename_i t' fl _ hfl hfl2
   simp only [Option.some.injEq] at hfl
   subst hfl
   split
   . rename_i hlt
     have hlt : t < fr.tmps.length := Nat.blt_eq.mp hlt
     have ht : (fr.set (some t) (.slice e l ex)).tmps.getD t .dead = .slice e l ex := jw hlt _
     have hts : (fr.set (some t) (.slice e l ex)).tmps.getD s .dead = .slice e l ex := (ql hs _).trans hv
     have hc := ko h hlt (a.tmps.getD s undef)
     have hcs := sZ (a := a) hs (a.tmps.getD s undef)
     revert hfl2
     cases hf : gM s fr.tf with
     | none => intro k; cases k
     | some f =>
      have hm := jQ hf
      cases f with
      | own =>
       intro k; cases k
       exact hset.zk ht hts (vS hm hs (by simp)) (hc.trans hcs.symm)
      | viaT u =>
       intro k
       by_cases hu : u = t
       . subst hu; simp at k
       . simp only [show ¬ Nat.beq u t = true from fun e => hu (Nat.eq_of_beq_eq_true e), Bool.false_eq_true, if_false, Option.some.injEq] at k
         subst k
         obtain ⟨k1, k2, e1, l1, ex1, l2, ex2, k3, k4⟩ := h.viaT s u hm
         rw [hv] at k3
         cases k3
         exact hset.zk ht ((ql hu _).trans k4) (vS k1 hu (by simp)) (hc.trans (k2.trans (sZ hu _).symm))
      | viaR r p =>
       intro k; cases k
       obtain ⟨k1, e1, l1, ex1, k2, b, root, ty, off, k3, k4, k5, k6⟩ := h.viaR s r p hm
       rw [hv] at k2
       cases k2
       exact hset.yt ht k1 k3 k4 k5 (hc.symm ▸ k6)
   . exact hset
 . exact hset
theorem Rel.move (h : Rel E d g fr M a w) (dst : Option Nat) (t : TypeId) (x : Operand) : Rel E d g (fr.move E.P dst t x) M (a.put dst (a.eval x)) w := by
 have hset := h.set dst (h.aC t x)
 unfold Fr.move
 generalize hv : AE.aC E.P fr.tmps t x = v at hset
 cases v with
 | slice e l ex =>
  cases x with
  | tmp s =>
   cases dst with
   | none => exact hset
   | some d' =>
    show Rel E d g (if Nat.beq s d' then fr else fr.gG (some d') (.slice e l ex) (oC s d' fr.tf)) M (a.put (some d') (a.tmps.getD s undef)) w
    split
    . rename_i hs
      rw [<- Nat.eq_of_beq_eq_true hs, OC]
      exact h
    . rename_i hs
      exact h.Uu (beq_false hs) hv
  | const c => exact hset
  | global i => exact hset
  | func f => exact hset
 | _ => exact hset
theorem Rel.drop (h : Rel E d g fr M a w) (s : Nat) : Rel E d g { fr with tf := aV s fr.tf } M a w := by
 refine ⟨h.below, h.hN, h.fresh, h.size, h.tmps, h.lenr, h.rows, h.inj, fun i hi => h.own i (oH hi).1, fun i s' hi => ?_, fun i r p hi => h.viaR i r p (oH hi).1, h.ro⟩
 obtain ⟨k1, k2, k3⟩ := oH hi
 obtain ⟨m1, m2⟩ := h.viaT i s' k1
 exact ⟨vS m1 (fun e => k3 (by rw [e])) (by simp), m2⟩
theorem xU (s : Nat) (tf : List (Nat × TF)) : (s, TF.own) ∉ aV s tf := fun h => (oH h).2.1 rfl
theorem CW {P : Program} {x : X} {e : TypeId} {l : List AV} {ex : Bool} {c : Value} (h : aK P x (.slice e l ex) c) : aK P x (.slice e l false) c := by
 obtain ⟨cs, rfl, ⟨base, len, cap, rfl, h1, h2, h3, h4⟩, h5⟩ := h
 have : rel P x (.slice e l false) [.slice base len cap] := ⟨base, len, cap, rfl, h1, h2, fun k => absurd k (by simp), h4⟩
 exact bR this rfl
theorem GQ {E : Env} {g : G} {w : World} {x : X} {e : TypeId} {l : List AV} {c : Value} (h : aK E.P x (.slice e l true) c) (o : Onr) : bK E g w o e c := by
 obtain ⟨cs, rfl, ⟨base, len, cap, rfl, h1, h2, h3, h4⟩, h5⟩ := h
 exact ⟨base, len, cap, rfl, .inl (h3 rfl)⟩
theorem Rel.Jb (h : Rel E d g fr M a w) {u t s : Nat} (hlt : t < fr.tmps.length) {e : TypeId} {l l' : List AV} {ex ex' : Bool} (hm : (u, TF.own) ∈ fr.tf) (hut : u ≠ t) (hst : s ≠ t)
    (hu : fr.tmps.getD u .dead = .slice e l' ex') (hv : fr.tmps.getD s .dead = .slice e l ex) (hsu : a.tmps.getD s undef = a.tmps.getD u undef) :
    ∃ g', Ext E d g w g' w /\ Rel E d g' { tmps := fr.tmps.set t (.slice e l ex), tf := (u, .viaT t) :: (t, .own) :: aV t (aV u fr.tf) } M (a.put (some t) (a.tmps.getD s undef)) w := by
 obtain ⟨e1, l1, ex1, k1, k2⟩ := h.own u hm
 rw [hu] at k1
 cases k1
 obtain ⟨g', h1, hx, hr, ho⟩ := (h.drop u).DL (.t d t) k2 (fun t' e => by cases e; exact xU u fr.tf) (fun r p e => by cases e) (fun d' i e => by cases e; omega)
 have hvs : aK E.P (aI E g' w) (.slice e l ex) (a.tmps.getD s undef) := hv ▸ h1.tmps s
 have hset := h1.set (some t) hvs
 have hc := ko h hlt (a.tmps.getD s undef)
 have h2 := hset.qM (jw hlt _) (by rw [hc, hsu]; exact ho)
 exact ⟨g', hx, h2.zk (t := u) (s := t) ((ql hut _).trans hu) (jw hlt _) List.mem_cons_self (by rw [hc, hsu]; exact sZ hut _)⟩
theorem Rel.assign (h : Rel E d g fr M a w) (dst : Option Nat) (t : TypeId) (x : Operand) : ∃ g', Ext E d g w g' w /\ Rel E d g' (fr.assign E.P dst t x) M (a.put dst (a.eval x)) w := by
 have hop := h.aC t x
 have hset := h.set dst hop
 have hE := Ext.refl E d g w
 unfold Fr.assign
 generalize hv : AE.aC E.P fr.tmps t x = v at hset hop
 cases v with
 | slice e l ex =>
  cases dst with
  | none => cases ex <;> cases x <;> exact ⟨g, hE, hset⟩
  | some d' =>
   cases ex with
   | true =>
    refine ⟨g, hE, ?_⟩
    have hset := h.set (some d') (CW hop)
    show Rel E d g (fr.gG (some d') (.slice e l false) (some .own)) M _ w
    unfold Fr.gG
    simp only
    split
    . rename_i hlt
      have hlt := Nat.blt_eq.mp hlt
      exact hset.qM (jw hlt _) (by rw [ko h hlt]; exact GQ hop _)
    . exact hset
   | false =>
    cases x with
    | const c => exact ⟨g, hE, hset⟩
    | global i => exact ⟨g, hE, hset⟩
    | func f => exact ⟨g, hE, hset⟩
    | tmp s =>
     have hv : fr.tmps.getD s .dead = .slice e l false := hv
     show ∃ g', _ /\ Rel E d g' (if Nat.beq s d' then fr else if Nat.ble fr.tmps.length d' then _ else _) M (a.put (some d') (a.tmps.getD s undef)) w
     by_cases hsd : Nat.beq s d' = true
     . rw [if_pos hsd, <- Nat.eq_of_beq_eq_true hsd, OC]
       exact ⟨g, hE, h⟩
     . rw [if_neg hsd]
       have hsd := beq_false hsd
       by_cases hlt : Nat.ble fr.tmps.length d' = true
       . rw [if_pos hlt]
         exact ⟨g, hE, hset⟩
       . rw [if_neg hlt]
         have hlt : d' < fr.tmps.length := Nat.lt_of_not_le fun k => hlt (Nat.ble_eq.mpr k)
         cases hf : gM s fr.tf with
         | none => exact ⟨g, hE, hset⟩
         | some f =>
          have hm := jQ hf
          cases f with
          | own => exact h.Jb hlt hm hsd hsd hv hv rfl
          | viaT u =>
           simp only
           split
           . exact ⟨g, hE, hset⟩
           . rename_i hu
             simp only [Bool.or_eq_true, not_or] at hu
             have hsu := beq_false hu.2
             have hu := beq_false hu.1
             obtain ⟨k1, k2, e1, l1, ex1, l2, ex2, k3, k4⟩ := h.viaT s u hm
             rw [hv] at k3
             cases k3
             obtain ⟨g', hx, hr⟩ := (h.drop s).Jb (u := u) hlt (vS k1 (Ne.symm hsu) (by simp)) hu hsd k4 hv k2
             exact ⟨g', hx, hr.zk ((ql hsd _).trans hv) (jw hlt _) (List.mem_cons_of_mem _ List.mem_cons_self) (by rw [ko h hlt]; exact sZ hsd _)⟩
          | viaR r p =>
           obtain ⟨k1, e1, l1, ex1, k2, b, root, ty, off, k3, k4, k5, k6⟩ := h.viaR s r p hm
           rw [hv] at k2
           cases k2
           exact ⟨g, hE, hset.yt (jw hlt _) k1 k3 k4 k5 (by rw [ko h hlt]; exact k6)⟩
 | _ => cases dst <;> exact ⟨g, hE, hset⟩
end
end Go.AE
namespace Go.AE
open Go.RowKit Go.Lib
section
variable {E : Env} {d : Nat} {g : G} {fr : Fr} {M : Mm} {a : Act} {w : World}
theorem E9 {P : Program} {t u : TypeId} (h : bM P t u = true) : bM P u t = true := by
 simp only [bM, Bool.and_eq_true] at h ⊢
 rw [Nat.eq_of_beq_eq_true h.1, Nat.eq_of_beq_eq_true h.2]
 simp
theorem oQ {r : Nat} {p : List Nat} {x : Nat × TF} {tf : List (Nat × TF)} (h : x ∈ fC r p tf) : x ∈ tf /\ ∀ r' q, x.2 = .viaR r' q -> r' ≠ r \/ apart q p = true := by
 simp only [fC, List.mem_filter] at h
 refine ⟨h.1, fun r' q e => ?_⟩
 have := h.2
 rw [e] at this
 simp only [Bool.or_eq_true, Bool.not_eq_true'] at this
 rcases this with k | k
 . exact .inl fun e => by subst e; simp at k
 . exact .inr k
theorem yc {r : Nat} {p : List Nat} {x : Nat × List Nat} {ro : List (Nat × List Nat)} : x ∈ iG r p ro ↔ x ∈ ro /\ (x.1 ≠ r \/ apart x.2 p = true) := by
 simp only [iG, List.mem_filter, Bool.or_eq_true, Bool.not_eq_true']
 refine and_congr_right fun _ => or_congr_left ⟨fun k e => by rw [e] at k; simp at k, fun k => ?_⟩
 cases hb : Nat.beq x.1 r with
 | false => rfl
 | true => exact absurd (Nat.eq_of_beq_eq_true hb) k
theorem MG {r : Nat} {p : List Nat} {t : Nat} {f : TF} {tf : List (Nat × TF)} (h : (t, f) ∈ tf) (hf : ∀ r' q, f ≠ .viaR r' q) : (t, f) ∈ fC r p tf := by
 simp only [fC, List.mem_filter]
 refine ⟨h, ?_⟩
 cases f with
 | viaR r' q => exact absurd rfl (hf r' q)
 | _ => trivial
theorem RQ {P : Program} {x : X} {b : Nat} {root : Root} {row : Row} {cs : Array Value} {ty : TypeId} (h1 : x.w.heap[b]? = some (.cells cs ty (0, 0))) (h2 : iw P x root row cs.toList) : gH P x b root row := by
 cases row with
 | map => exact h2.elim
 | loop => exact h2.elim
 | var t v => exact ⟨cs, ty, h1, h2⟩
 | arr e l => exact ⟨cs, ty, h1, h2⟩
 | bg e l => exact ⟨cs, ty, h1, h2⟩
theorem Hl (h : Rel E d g fr M a w) {r b : Nat} {root : Root} (hr : g.rows[r]? = some (b, root)) (hw : (M.rows.getD r (.arr 0 [])).wr = true) {cur : Array Value} {ty : TypeId} {fz : Nat × Nat} (hh : w.heap[b]? = some (.cells cur ty fz)) (cs' : Array Value) : Ext E d g w g (w.setRow b cs') := by
 obtain ⟨k1, k2, k3, k4⟩ := h.rows r b root hr
 rw [AJ hw] at k3
 refine ⟨fun _ _ k => k, fun _ _ _ k _ => k, fun b' o v hs hc => ?_, fun b' d' i u _ _ hc => ⟨rfl, setRow_other w b b' cs' fun e => ?_⟩, by simp, fun b' hb' => (setRow_other w b b' cs' fun e => by subst e; rw [hh] at hb'; cases hb').trans hb'⟩
 . have hne : b' ≠ b := fun e => by
     subst e
     unfold cK at hs
     rw [if_neg (by show ¬ b' < E.N; omega), k3] at hs
     exact hs
   rw [<- hc]
   exact World.cell?_of_block (w := w) (setRow_other w b b' cs' hne)
 . subst e; rw [k3] at hc; cases hc
theorem EF (h : Rel E d g fr M a w) {r b : Nat} {root : Root} (hr : g.rows[r]? = some (b, root)) (hw : (M.rows.getD r (.arr 0 [])).wr = true) (cs' : Array Value) {o : Onr} {e : TypeId} {v : Value} (ho : bK E g w o e v) : bK E g (w.setRow b cs') o e v := by
 obtain ⟨k1, k2, k3, k4⟩ := h.rows r b root hr
 rw [AJ hw] at k3
 exact ho.le fun b2 u _ _ hc => ⟨rfl, setRow_other w b b2 cs' fun e => by subst e; rw [k3] at hc; cases hc⟩
theorem Rel.setRow (h : Rel E d g fr M a w) {r b : Nat} {root : Root} (hr : g.rows[r]? = some (b, root)) {cur cs' : Array Value} {ty : TypeId} (hh : w.heap[b]? = some (.cells cur ty (0, 0))) {row' : Row}
    (hrow : iw E.P (aI E g w) root row' cs'.toList) (hw : (M.rows.getD r (.arr 0 [])).wr = true) (hw' : row'.wr = true) (p : List Nat)
    (hkeep : ∀ q ty off e v, (r, q) ∈ M.ro -> apart q p = true -> eT E.P root q ty off -> E.P.underlying ty = some (.slice e) -> cur[off]? = some v -> cs'[off]? = some v) :
    Rel E d g { fr with tf := fC r p fr.tf } { rows := M.rows.set r row', ro := iG r p M.ro } a (w.setRow b cs') := by
 obtain ⟨k1, k2, k3, k4⟩ := h.rows r b root hr
 have hx := Hl h hr hw hh cs'
 have hle := hx.le
 have hlt : r < M.rows.length := by rw [<- h.lenr]; exact (List.getElem?_eq_some_iff.1 hr).1
 have hcellb : ∀ o, w.cell? ⟨b, o, none⟩ = cur[o]? := fun o => jv hh
 have hcellb' : ∀ o, (w.setRow b cs').cell? ⟨b, o, none⟩ = cs'[o]? := fun o => jv (setRow_heap w b cur cs' ty _ hh)
 have hcell : ∀ b' o, b' ≠ b -> (w.setRow b cs').cell? ⟨b', o, none⟩ = w.cell? ⟨b', o, none⟩ := fun b' o hne => World.cell?_of_block (w := w) (setRow_other w b b' cs' hne)
 have hcell2 : ∀ r' q b' root' ty' off e v, (r', q) ∈ M.ro -> (r' ≠ r \/ apart q p = true) -> g.rows[r']? = some (b', root') -> eT E.P root' q ty' off -> E.P.underlying ty' = some (.slice e) -> w.cell? ⟨b', off, none⟩ = some v -> (w.setRow b cs').cell? ⟨b', off, none⟩ = some v := by
  intro r' q b' root' ty' off e v hro hor hr' hp hu hc
  by_cases hb : b' = b
  . subst hb
    have := h.inj r r' b' _ _ hr hr'
    subst this
    rw [hr] at hr'
    simp only [Option.some.injEq, Prod.mk.injEq, true_and] at hr'
    subst hr'
    rw [hcellb'] 
    rw [hcellb] at hc
    exact hkeep q ty' off e v hro (hor.resolve_left fun k => k rfl) hp hu hc
  . rw [hcell b' off hb]; exact hc
 refine ⟨below_setRow h.below k1 cs', by simpa using h.hN, fun k hk => h.fresh k (by simpa using hk), h.size, fun i => fF hle (h.tmps i), by simpa using h.lenr, ?_, h.inj, ?_, ?_, ?_, ?_⟩
 . intro r' b' root' hr'
   obtain ⟨m1, m2, m3, m4⟩ := h.rows r' b' root' hr'
   refine ⟨m1, by simpa using m2, ?_⟩
   by_cases hrr : r' = r
   . subst hrr
     rw [hr] at hr'
     simp only [Option.some.injEq, Prod.mk.injEq] at hr'
     obtain ⟨rfl, rfl⟩ := hr'
     have : (M.rows.set r' row').getD r' (.arr 0 []) = row' := by simp [List.getD, hlt]
     rw [this, AJ hw']
     exact ⟨by rw [AJ hw] at k3; exact k3, RQ (setRow_heap w b cur cs' ty _ hh) (hrow.le hle)⟩
   . have hne : b' ≠ b := fun e => hrr (h.inj r' r b _ _ (e ▸ hr') hr)
     have : (M.rows.set r row').getD r' (.arr 0 []) = M.rows.getD r' (.arr 0 []) := by simp [List.getD, List.getElem?_set_ne (Ne.symm hrr)]
     rw [this]
     exact ⟨m3, m4.le hle (setRow_other w b b' cs' hne)⟩
 . intro t ht
   obtain ⟨e, l, ex, m1, m2⟩ := h.own t (oQ ht).1
   exact ⟨e, l, ex, m1, EF h hr hw cs' m2⟩
 . intro t s ht
   obtain ⟨m1, m2⟩ := h.viaT t s (oQ ht).1
   exact ⟨MG m1 (by simp), m2⟩
 . intro t r' q ht
   obtain ⟨m0, m1⟩ := oQ ht
   have hor := m1 r' q rfl
   obtain ⟨n1, e, l, ex, n2, b', root', ty', off, n3, n4, n5, n6⟩ := h.viaR t r' q m0
   exact ⟨yc.2 ⟨n1, hor⟩, e, l, ex, n2, b', root', ty', off, n3, n4, n5, hcell2 r' q b' root' ty' off e _ n1 hor n3 n4 n5 n6⟩
 . intro r' q ht
   obtain ⟨n1, hor⟩ := yc.1 ht
   obtain ⟨b', root', ty', off, e, v, n3, n4, n5, n6, n7⟩ := h.ro r' q n1
   exact ⟨b', root', ty', off, e, v, n3, n4, n5, hcell2 r' q b' root' ty' off e v n1 hor n3 n4 n5 n6, EF h hr hw cs' n7⟩
theorem Rel.Gz (h : Rel E d g fr M a w) {r : Nat} {p : List Nat} {b : Nat} {root : Root} {ty : TypeId} {off : Nat} {e : TypeId} {v : Value} (h1 : g.rows[r]? = some (b, root)) (h2 : eT E.P root p ty off)
    (h3 : E.P.underlying ty = some (.slice e)) (h4 : w.cell? ⟨b, off, none⟩ = some v) (h5 : bK E g w (.r r p) e v) : Rel E d g fr { M with ro := (r, p) :: M.ro } a w := by
 refine ⟨h.below, h.hN, h.fresh, h.size, h.tmps, h.lenr, h.rows, h.inj, h.own, h.viaT, fun t r' q ht => ?_, fun r' q ht => ?_⟩
 . obtain ⟨k1, k2⟩ := h.viaR t r' q ht
   exact ⟨List.mem_cons_of_mem _ k1, k2⟩
 . rcases List.mem_cons.1 ht with ht | ht
   . cases ht; exact ⟨b, root, ty, off, e, v, h1, h2, h3, h4, h5⟩
   . exact h.ro r' q ht
theorem G9 (h : Rel E d g fr M a w) {r : Nat} {p : List Nat} {t' t : TypeId} {off : Nat} {ca c : Value} {v : AV} (hp : aK E.P (aI E g w) (.ptr r p t' off) ca) (hv : aK E.P (aI E g w) v c)
    (hl : bM E.P t' t = true) (hf : fits E.P t v = true) (hw : (M.rows.getD r (.arr 0 [])).wr = true) :
    ∃ b root w', (Instr.storeAt t ca c).run E.P w = .ok () w' /\ Ext E d g w g w' /\
     Rel E d g { fr with tf := fC r p fr.tf } { rows := M.rows.set r ((M.rows.getD r (.arr 0 [])).put p v), ro := iG r p M.ro } a w' /\
     g.rows[r]? = some (b, root) /\ eT E.P root p t' off /\ (v.isA = false -> w'.cell? ⟨b, off, none⟩ = some c) /\ (∀ o e u, bK E g w o e u -> bK E g w' o e u) := by
 obtain ⟨b, root, h1, h2, rfl⟩ := lY hp
 obtain ⟨k1, k2, k3, k4⟩ := h.rows r b root h1
 obtain ⟨cur, ty, hh, hrc⟩ := oG k4 h2
 obtain ⟨pre, cold, post, e1, e2, e3, e4, e5, e6⟩ := lV hrc h2
 obtain ⟨cn, rfl, hr, hone⟩ := hv
 have hf' : fits E.P t' v = true := qV (E9 hl) hf
 have hlen : cn.length = E.P.cellsOf t' := lT hf' hr fun hA => yL e5 e3 e4 hA
 have hcm := mg hf hr
 obtain ⟨dd, hu⟩ := rz hf
 have hsz := Pd (w := w) hu
 have hst := run_storeCells_at E.P b off ty cn 0 cur w hh (by rw [<- Array.length_toList, e1]; simp [e2, hlen, e4]) (ED v hf hr)
 have hcs : (cur.toList.take (off + 0) ++ cn ++ cur.toList.drop (off + 0 + cn.length)) = pre ++ cn ++ post := by
  rw [e1, Nat.add_zero, <- e2, hlen, <- e4]
  simp
 rw [hcs] at hst
 refine ⟨b, root, w.setRow b (pre ++ cn ++ post).toArray, ?_, Hl h h1 hw hh _, ?_, h1, h2, ?_, fun o e u k => EF h h1 hw _ k⟩
 . simp only [Instr.storeAt, Instr.sureAddr, Sem.run_bind, Sem.run_pure, Result.andThen_ok, storeVar, hsz, hcm]
   rw [if_neg (by simp [hlen, gZ hl])]
   simpa using hst
 . refine h.setRow h1 hh (by simpa using e6 v cn hr hlen hf') hw (by rw [Un]; exact hw) p ?_
   intro q ty2 off2 e u hro hap hq hu2 hcu
   obtain ⟨_, hdis⟩ := LM hrc h2 hq hap v
   obtain ⟨pre2, c2, post2, m1, m2, m3, m4, m5, _⟩ := lV hrc hq
   have hc1 : E.P.cellsOf ty2 = 1 := yL m5 m3 m4 (by simp [aQ, hu2])
   rw [hc1] at hdis
   rw [<- Array.getElem?_toList, e1] at hcu
   simp only [List.getElem?_toArray]
   rw [List.append_assoc] at hcu ⊢
   rcases hdis with hd1 | hd1
   . rw [List.getElem?_append_left (by omega)] at hcu ⊢
     exact hcu
   . rw [List.getElem?_append_right (by omega), List.getElem?_append_right (by omega)] at hcu ⊢
     rw [hlen, <- e4]
     exact hcu
 . intro hA
   have h1' := hone hA
   rw [jv (setRow_heap w b cur _ ty _ hh)]
   match cn, h1' with
   | [u], _ =>
    simp only [hA, mkV, List.headD_cons, List.getElem?_toArray, Bool.false_eq_true, if_false]
    rw [List.append_assoc, List.getElem?_append_right (by omega), e2, Nat.sub_self]
    rfl
theorem DU {P : Program} {t e : TypeId} {l : List AV} {ex : Bool} (h : fits P t (.slice e l ex) = true) : P.underlying t = some (.slice e) := by
 simp only [fits, aR, Bool.and_eq_true] at h
 have := h.1
 split at this
 . rename_i e' hu; rw [Nat.eq_of_beq_eq_true this]; exact hu
 . exact absurd this (by simp)
end
end Go.AE
namespace Go.AE
open Go.RowKit Go.Lib
section
variable {R : Type} {cx : Ctx} {N d : Nat} {S : Nat -> Nat -> Prop} {w0 : World} {g : G} {fr : Fr} {M : Mm} {a : Act} {w : World}
def Nx (E : Env) (d : Nat) (g : G) (w : World) (a : Act) (next : Fr -> Mm -> Option R) (r : R) (K : Act -> World -> Prop) : Prop :=
 ∀ fr' M' g' a' w', Rel E d g' fr' M' a' w' -> Ext E d g w g' w' -> a'.defers = a.defers -> next fr' M' = some r -> K a' w'
def Px (E : Env) (d : Nat) (g : G) (w : World) (a : Act) (pan : AV -> Fr -> Mm -> Option R) (r : R) (Q : Exit -> Act -> World -> Prop) : Prop :=
 ∀ v c fr' M' g' a' w', Rel E d g' fr' M' a' w' -> Ext E d g w g' w' -> a'.defers = a.defers -> aK E.P (aI E g' w') v c -> pan v fr' M' = some r -> Q (.panic [{ v := c, recovered := false }]) a' w'
theorem put_defers (a : Act) (dst : Option Nat) (c : Value) : (a.put dst c).defers = a.defers := by cases dst <;> rfl
variable {next : Fr -> Mm -> Option R} {r : R} {K : Act -> World -> Prop} {Q : Exit -> Act -> World -> Prop} {o : Oper} {pan : AV -> Fr -> Mm -> Option R} {fn : FuncId} {call : iV R}
theorem gU (h : ∃ c w', (execOp a.eval o).run cx.P w = .ok (.value c) w' /\ K (a.put o.dst c) w') : o.wp cx.P a w K Q := by
 obtain ⟨c, w', h1, h2⟩ := h
 unfold Oper.wp
 rw [h1]
 exact h2
theorem wp_pure (hG : cx.Good) (hr : Rel (Env.mk (Ctx.P cx) N S w0) d g fr M a w) {ok : Bool} {v : AV} (h : bP cx M fr.tmps o = some (ok, v)) (hk : cond ok (next (fr.set o.dst v) M) none = some r) (hN : Nx (Env.mk (Ctx.P cx) N S w0) d g w a next r K) : o.wp cx.P a w K Q := by
 cases ok with
 | false => exact absurd hk (by simp)
 | true => exact IL hG hr h fun c w' hb hc => hN _ _ g _ w' ((hr.grown hb).set o.dst hc) (Ext.of_below hb) (put_defers _ _ _) hk
theorem wp_move (hr : Rel (Env.mk (Ctx.P cx) N S w0) d g fr M a w) {x : Operand} (ho : o.op = .move x) (hk : next (fr.move cx.P o.dst o.type x) M = some r) (hN : Nx (Env.mk (Ctx.P cx) N S w0) d g w a next r K) : o.wp cx.P a w K Q :=
 gU ⟨a.eval x, w, by simp [execOp, ho], hN _ _ g _ w (hr.move o.dst o.type x) (Ext.refl _ _ _ _) (put_defers _ _ _) hk⟩
theorem wp_assign (hr : Rel (Env.mk (Ctx.P cx) N S w0) d g fr M a w) {x : Operand} (ho : o.op = .assign x) (hk : next (fr.assign cx.P o.dst o.type x) M = some r) (hN : Nx (Env.mk (Ctx.P cx) N S w0) d g w a next r K) : o.wp cx.P a w K Q := by
 obtain ⟨g', hx, hr'⟩ := hr.assign o.dst o.type x
 exact gU ⟨a.eval x, w, by simp [execOp, ho], hN _ _ g' _ w hr' hx (put_defers _ _ _) hk⟩
theorem uU {t : TypeId} {v : AV} {P : Program} (h : (fits P t v && (aQ P t || Nat.beq (P.cellsOf t) 1)) = true) : fits P t v = true /\ (aQ P t = false -> P.cellsOf t = 1) := by
 simp only [Bool.and_eq_true, Bool.or_eq_true] at h
 exact ⟨h.1, fun k => Nat.eq_of_beq_eq_true (h.2.resolve_left (by simp [k]))⟩
theorem qm {P : Program} {t : TypeId} {v : AV} (h : fits P t v = true) : v ≠ .dead := by
 rintro rfl; simp [fits, aR] at h
theorem Yk (hr : Rel (Env.mk (Ctx.P cx) N S w0) d g fr M a w) {t : TypeId} (ho : o.op = .alloc t) (hf : (fits cx.P t (zero cx.P t) && (aQ cx.P t || Nat.beq (cx.P.cellsOf t) 1)) = true)
    (hk : next (fr.set o.dst (.ptr M.rows.length [] t 0)) { M with rows := M.rows ++ [.var t (zero cx.P t)] } = some r) (hN : Nx (Env.mk (Ctx.P cx) N S w0) d g w a next r K) : o.wp cx.P a w K Q := by
 obtain ⟨hf, h1⟩ := uU hf
 obtain ⟨z, hz, hv⟩ := yg (w := w) (qm hf) (x := aI (Env.mk (Ctx.P cx) N S w0) g w)
 refine gU ⟨.pointer (some ⟨w.heap.size, 0, none⟩), w.alloc (.cells z.cells t), ?_, hN _ _ _ _ _ (hr.newVar hv hf h1 o.dst) (P9 hr _ t) (put_defers _ _ _) hk⟩
 simp [execOp, ho, Instr.alloc, hz, newVar, newRow]
theorem aaF (hr : Rel (Env.mk (Ctx.P cx) N S w0) d g fr M a w) {t : TypeId} {x : Operand} (ho : o.op = .box t x) (hf : (fits cx.P t (aC cx.P fr.tmps t x) && (aQ cx.P t || Nat.beq (cx.P.cellsOf t) 1)) = true)
    (hk : next (fr.set o.dst (.ptr M.rows.length [] t 0)) { M with rows := M.rows ++ [.var t (aC cx.P fr.tmps t x)] } = some r) (hN : Nx (Env.mk (Ctx.P cx) N S w0) d g w a next r K) : o.wp cx.P a w K Q := by
 obtain ⟨hf, h1⟩ := uU hf
 refine gU ⟨.pointer (some ⟨w.heap.size, 0, none⟩), w.alloc (.cells (a.eval x).cells t), ?_, hN _ _ _ _ _ (hr.newVar (hr.aC t x) hf h1 o.dst) (P9 hr _ t) (put_defers _ _ _) hk⟩
 simp [execOp, ho, Instr.box, newVar, newRow]
theorem za {r : Nat} {p : List Nat} : ∀ {l : List (Nat × List Nat)}, iF r p l = true -> (r, p) ∈ l
 | [], h => by simp [iF] at h
 | (i, q) :: l, h => by
  simp only [iF, Bool.or_eq_true, Bool.and_eq_true, decide_eq_true_eq] at h
  rcases h with ⟨h1, h2⟩ | h
  . rw [Nat.eq_of_beq_eq_true h1, h2]; exact List.mem_cons_self
  . exact List.mem_cons_of_mem _ (za h)
theorem KU (hr : Rel (Env.mk (Ctx.P cx) N S w0) d g fr M a w) {rr : Nat} {p : List Nat} {t t' : TypeId} {off : Nat} {ca : Value} {e : TypeId} {l : List AV} {ex : Bool} (hp : aK cx.P (aI (Env.mk (Ctx.P cx) N S w0) g w) (.ptr rr p t' off) ca) (hl : bM cx.P t' t = true)
    (hv : (M.rows.getD rr (.arr 0 [])).get p = .slice e l ex) :
    ∃ c b root, (Instr.loadAt t ca).run cx.P w = .ok c w /\ aK cx.P (aI (Env.mk (Ctx.P cx) N S w0) g w) (.slice e l ex) c /\ g.rows[rr]? = some (b, root) /\ eT cx.P root p t' off /\ cx.P.underlying t' = some (.slice e) /\ w.cell? ⟨b, off, none⟩ = some c := by
 obtain ⟨b, root, h1, h2, rfl⟩ := lY hp
 obtain ⟨cs, ty, k1, k2⟩ := oG (hr.sI rr b root h1) h2
 obtain ⟨pre, c, post, e1, e2, e3, e4, e5, _⟩ := lV k2 h2
 rw [hv] at e3 e5
 have hf := qV hl e5
 have hcell : ∀ i u, c[i]? = some u -> w.cell? ⟨b, off + i, none⟩ = some u := fun i u hu => by
  rw [jv k1, <- Array.getElem?_toList, e1, List.append_assoc, <- e2, List.getElem?_append_right (by omega), Nat.add_sub_cancel_left, List.getElem?_append_left (List.getElem?_eq_some_iff.1 hu).1]
  exact hu
 have hrun := Bo (w := w) (b := b) (o := off) hf e3 (by rw [e4, gZ hl]) hcell
 have hone := r9 e5 e3 rfl
 match c, hone with
 | [u], _ =>
  exact ⟨u, b, root, by simp only [Instr.loadAt, Sem.run_bind, Instr.sureAddr, Sem.run_pure, Result.andThen_ok, hrun]; rfl, bR e3 rfl, h1, h2, DU e5, hcell 0 u (by simp)⟩
theorem aaX (hG : cx.Good) (hr : Rel (Env.mk (Ctx.P cx) N S w0) d g fr M a w) {t : TypeId} {x : Operand} (ho : o.op = .load t x)
    (h : dA cx fn call o fr M next pan = some r) (hN : Nx (Env.mk (Ctx.P cx) N S w0) d g w a next r K) : o.wp cx.P a w K Q := by
 have hpop : ∀ b v, okV (jq cx.P M t (aC cx.P fr.tmps 0 x)) = some (b, v) -> bP cx M fr.tmps o = some (b, v) := fun b v k => by simp only [bP, ho]; exact k
 simp only [dA, ho] at h
 split at h
 . rename_i b v hok
   have hb : b = true := (iY hok).2
   subst hb
   split at h
   . rename_i e l ex rr p t' off hx
     have hld := (iY hok).1
     have hpx := hr.aC 0 x
     rw [hx] at hpx
     rw [hx] at hld
     simp only [jq] at hld
     . split at hld
       . rename_i hlk
         have hv := Md (Option.some.inj hld)
         obtain ⟨c, b, root, h1, h2, h3, h4, h5, h6⟩ := KU hr hpx hlk hv
         refine gU ⟨c, w, by simp [execOp, ho, h1], hN _ _ g _ w ?_ (Ext.refl _ _ _ _) (put_defers _ _ _) h⟩
         have hset := hr.set o.dst h2
         unfold Fr.gG
         split
         . rename_i tt fl hd hfl
           split
           . rename_i hlt
             have hlt := Nat.blt_eq.mp hlt
             revert hfl
             split
             . rename_i hro
               intro hfl
               cases hfl
               rw [hd] at hset ⊢
               exact hset.yt (jw hlt _) (za hro) h3 h4 h5 (by rw [ko hr hlt]; exact h6)
             . intro hfl; cases hfl
           . exact hset
         . exact hset
       . exact absurd hld (by simp)
   . exact wp_pure hG hr (hpop _ _ hok) h hN
 . exact absurd h (by simp)
theorem WE (hr : Rel (Env.mk (Ctx.P cx) N S w0) d g fr M a w) {x : Operand} (ho : o.op = .panic x) (h : dA cx fn call o fr M next pan = some r) (hP : Px (Env.mk (Ctx.P cx) N S w0) d g w a pan r Q) : o.wp cx.P a w K Q := by
 simp only [dA, ho] at h
 split at h
 . rename_i t v hx
   have hv := hr.aC 0 x
   rw [hx] at hv
   obtain ⟨c, e, _⟩ := xw hv
   have := hP _ _ _ _ g a w hr (Ext.refl _ _ _ _) rfl hv h
   unfold Oper.wp
   have hrun : (execOp a.eval o).run cx.P w = .halt (.panic (a.eval x)) w := by
    rw [e]
    simp [execOp, ho, Instr.panic, e, goPanic]
   rw [hrun]
   exact this
 . exact absurd h (by simp)
theorem EG (h : ∃ w', (execOp a.eval o).run cx.P w = .ok .skip w' /\ K (a.put o.dst undef) w') : o.wp cx.P a w K Q := by
 obtain ⟨w', h1, h2⟩ := h
 unfold Oper.wp
 rw [h1]
 exact h2
theorem Rel.Dy {E : Env} {g : G} {fr : Fr} {M : Mm} {a : Act} {w : World} (h : Rel E d g fr M a w) (dst : Option Nat) : Rel E d g (fr.set dst bY) M (a.put dst undef) w := h.set dst xG
theorem WM (hr : Rel (Env.mk (Ctx.P cx) N S w0) d g fr M a w) {t : TypeId} {x y : Operand} (ho : o.op = .store t x y)
    (h : Bu cx t x y fr M (fun fr M => next (fr.set o.dst bY) M) = some r) (hN : Nx (Env.mk (Ctx.P cx) N S w0) d g w a next r K) : o.wp cx.P a w K Q := by
 unfold Bu at h
 split at h
 . rename_i rr p t' off hx
   have hpx := hr.aC 0 x
   rw [hx] at hpx
   dsimp only at h
   by_cases hcw : (bM cx.P t' t && fits cx.P t (aC cx.P fr.tmps t y) && (M.rows.getD rr (.arr 0 [])).wr) = true
   . rw [if_pos hcw] at h
     simp only [Bool.and_eq_true] at hcw
     obtain ⟨hc, hwr⟩ := hcw
     have hv := hr.aC t y
     have fin : ∀ {g' fr' M' w'}, (Instr.storeAt t (a.eval x) (a.eval y)).run cx.P w = .ok () w' -> Rel (Env.mk (Ctx.P cx) N S w0) d g' fr' M' a w' -> Ext (Env.mk (Ctx.P cx) N S w0) d g w g' w' -> next (fr'.set o.dst bY) M' = some r -> o.wp cx.P a w K Q := fun hrun hrel hext hnx =>
      EG ⟨_, by simp [execOp, ho, hrun], hN _ _ _ _ _ (hrel.Dy o.dst) hext (put_defers _ _ _) hnx⟩
     have plain : next (Fr.set { fr with tf := fC rr p fr.tf } o.dst bY) { rows := M.rows.set rr ((M.rows.getD rr (.arr 0 [])).put p (aC cx.P fr.tmps t y)), ro := iG rr p M.ro } = some r -> o.wp cx.P a w K Q := fun hnx => by
      obtain ⟨b, root, w', h1, h2, h3, _⟩ := G9 hr hpx hv hc.1 hc.2 hwr
      exact fin h1 h3 h2 hnx
     have own : ∀ (s u : Nat) (e : TypeId) (l : List AV) (tf0 : List (Nat × TF)), y = .tmp s -> aC cx.P fr.tmps t y = .slice e l false -> Rel (Env.mk (Ctx.P cx) N S w0) d g { fr with tf := tf0 } M a w -> (u, TF.own) ∉ tf0 -> bK (Env.mk (Ctx.P cx) N S w0) g w (.t d u) e (a.tmps.getD s undef) ->
         next (Fr.set { fr with tf := (s, .viaR rr p) :: fC rr p tf0 } o.dst bY) { rows := M.rows.set rr ((M.rows.getD rr (.arr 0 [])).put p (.slice e l false)), ro := (rr, p) :: iG rr p M.ro } = some r -> o.wp cx.P a w K Q := by
      intro s u e l tf0 hy hval h0 hno hown hnx
      subst hy
      rw [hval] at hc hv
      obtain ⟨g1, k1, k2, k3, k4⟩ := h0.DL (.r rr p) hown (fun t' e => by cases e; exact hno) (fun r p e => by cases e) (fun d' i e => by cases e; omega)
      obtain ⟨b, root, w', m1, m2, m3, m4, m5, m6, m7⟩ := G9 k1 (fF k2.le hpx) (fF k2.le hv) hc.1 hc.2 hwr
      have hu := DU (qV (E9 hc.1) hc.2)
      have m8 := (m3.Gz m4 m5 hu (m6 rfl) (m7 _ _ _ k4))
      exact fin m1 (m8.yt hval List.mem_cons_self m4 m5 hu (m6 rfl)) (k2.trans m2) hnx
     split at h
     . rename_i e l hval
       rw [hval] at hc hv
       have hw := CW hv
       have hf2 : fits cx.P t (.slice e l false) = true := hc.2
       obtain ⟨b, root, w', m1, m2, m3, m4, m5, m6, m7⟩ := G9 hr hpx hw hc.1 hf2 hwr
       have hu := DU (qV (E9 hc.1) hf2)
       exact fin m1 (m3.Gz m4 m5 hu (m6 rfl) (GQ hv _)) m2 h
     . rename_i e l hval
       split at h
       . rename_i s
         split at h
         . rename_i hfl
           have hm := (oQ (jQ hfl)).1
           obtain ⟨e1, l1, ex1, k1, k2⟩ := hr.own s hm
           have : AV.slice e l false = .slice e1 l1 ex1 := hval.symm.trans k1
           cases this
           exact own s s e l (aV s fr.tf) rfl hval (hr.drop s) (xU s fr.tf) k2 (hval ▸ h)
         . rename_i u hfl
           have hm := (oQ (jQ hfl)).1
           obtain ⟨k1, k2, e1, l1, ex1, l2, ex2, k3, k4⟩ := hr.viaT s u hm
           have : AV.slice e l false = .slice e1 l1 ex1 := hval.symm.trans k3
           cases this
           obtain ⟨e2, l3, ex3, j1, j2⟩ := hr.own u k1
           rw [k4] at j1
           cases j1
           refine own s u e l (aV s (aV u fr.tf)) rfl hval ((hr.drop u).drop s) (fun k => xU u fr.tf (oH k).1) (by rw [k2]; exact j2) (hval ▸ h)
         . exact plain h
       . exact plain h
     . exact plain h
   . rw [if_neg hcw] at h; exact absurd h (by simp)
 . exact absurd h (by simp)
end
end Go.AE
namespace Go.AE
open Go.RowKit Go.Lib
section
variable {P : Program}
def Er (P : Program) (u : TypeId) : Prop := (∃ e, P.underlying u = some (.slice e)) \/ P.underlying u = some .string
theorem Ym {w : World} {t u ty e : TypeId} {base : Option Addr} {sLen sCap n : Nat} {c : Value} {news : Array Value} (ht : P.underlying t = some (.slice e)) (hu : Er P u) (hi : (P.info? e).isSome = true)
    (hlen : (Builtin.lenOf c).run P w = .ok n w) (hroom : sLen + n <= sCap) (hfc : (Builtin.firstCells (P.cellsOf e) n c).run P w = .ok news w) :
    (Builtin.append_ #[t, u] ty #[.slice base sLen sCap, c]).run P w =
     match base with
     | some a => ((storeCells (a.add (sLen * P.cellsOf e)) news.toList).run P w).andThen fun _ w' => .ok (.slice base (sLen + n) sCap) w'
     | none => .ok (.slice base (sLen + n) sCap) w := by
 obtain ⟨i, hi⟩ := Option.isSome_iff_exists.mp hi
 have hsz := run_sizeOf w hi
 rcases hu with ⟨e', hu⟩ | hu
 . cases base <;> simp [Builtin.append_, run_underlying ht, run_underlying hu, hsz, hlen, hroom, hfc]
 . cases base <;> simp [Builtin.append_, run_underlying ht, run_underlying hu, hsz, hlen, hroom, hfc]
theorem Og {w : World} {t u ty e : TypeId} {base : Option Addr} {sLen sCap n : Nat} {c z : Value} {olds news : Array Value} (ht : P.underlying t = some (.slice e)) (hu : Er P u) (hi : (P.info? e).isSome = true)
    (hz : ∀ w', (zeroValue e).run P w' = .ok z w')
    (hlen : (Builtin.lenOf c).run P w = .ok n w) (hroom : ¬ sLen + n <= sCap) (h63 : ((sLen + n : Nat) : Int) <= 9223372036854775807) (hfit : Builtin.nextslicecap (sLen + n) sCap * P.bytesOf e <= 281474976710656)
    (hfo : (Builtin.firstCells (P.cellsOf e) sLen (.slice base sLen sCap)).run P w.drew = .ok olds w.drew)
    (hfc : (Builtin.firstCells (P.cellsOf e) n c).run P w.drew = .ok news w.drew) :
    (Builtin.append_ #[t, u] ty #[.slice base sLen sCap, c]).run P w =
     .ok (.slice (some ⟨w.heap.size, 0, none⟩) (sLen + n) (grownCap w (sLen + n) sCap e))
      (w.drew.alloc (.cells (olds ++ news ++ Builtin.zeroCells z.cells (grownCap w (sLen + n) sCap e - (sLen + n))) e)) := by
 obtain ⟨i, hi⟩ := Option.isSome_iff_exists.mp hi
 have hb : P.bytesOf e = i.bytes := by simp [Program.bytesOf, hi]
 have hc : P.cellsOf e = i.size := by simp [Program.cellsOf, hi]
 have h63' : ¬ (9223372036854775807 < ((sLen : Int) + (n : Int))) := by omega
 have h48' : ¬ (281474976710656 < Builtin.nextslicecap (sLen + n) sCap * i.bytes) := by rw [<- hb]; omega
 rw [hc] at hfo hfc
 rcases hu with ⟨e', hu⟩ | hu
 . simp [Builtin.append_, run_underlying ht, run_underlying hu, sizeOf, typeInfo, hi, hlen, hroom, h63', h48', Question.forced, hfo, hfc, hz, newRow, grownCap]
 . simp [Builtin.append_, run_underlying ht, run_underlying hu, sizeOf, typeInfo, hi, hlen, hroom, h63', h48', Question.forced, hfo, hfc, hz, newRow, grownCap]
theorem ac3 {w w' : World} (h : w'.heap = w.heap) (a : Addr) : w'.cell? a = w.cell? a := World.cell?_of_block (by rw [h])
theorem FV {w w' : World} {b o : Nat} {cs : List Value} (hh : w'.heap = w.heap) (h : ∀ i v, cs[i]? = some v -> w.cell? ⟨b, o + i, none⟩ = some v) : (loadCells ⟨b, o, none⟩ cs.length).run P w' = .ok cs.toArray w' :=
 run_loadCells_list (P := P) w' ⟨b, o, none⟩ cs fun j v hv => by rw [Addr.add_lit, ac3 hh]; exact h j v hv
end
section
variable {R : Type} {cx : Ctx} {N d : Nat} {S : Nat -> Nat -> Prop} {w0 : World} {g : G} {fr : Fr} {M : Mm} {a : Act} {w : World}
theorem Kh (hr : Rel (Env.mk (Ctx.P cx) N S w0) d g fr M a w) {elem : TypeId} {v : AV} {c : Value} {l2 : List AV} (hv : aK cx.P (aI (Env.mk (Ctx.P cx) N S w0) g w) v c) (h : appended cx.P M elem v = some l2) (h0 : 0 < cx.P.cellsOf elem) :
    ∃ news, aX cx.P (aI (Env.mk (Ctx.P cx) N S w0) g w).aH elem l2 news /\ (∀ w', (Builtin.lenOf c).run cx.P w' = .ok l2.length w') /\ ∀ n w', n <= l2.length -> w'.heap = w.heap -> (Builtin.firstCells (cx.P.cellsOf elem) n c).run cx.P w' = .ok (news.take (n * cx.P.cellsOf elem)).toArray w' := by
 have tk : ∀ {l : List AV} {cs : List Value} {n : Nat}, aX cx.P (aI (Env.mk (Ctx.P cx) N S w0) g w).aH elem l cs -> n <= l.length -> (cs.take (n * cx.P.cellsOf elem)).length = n * cx.P.cellsOf elem := fun {l cs n} k hn => by
  rw [List.length_take, gX k]
  exact Nat.min_eq_left (Nat.mul_le_mul_right _ hn)
 have tk2 : ∀ {cs : List Value} {m i : Nat} {u : Value}, (cs.take m)[i]? = some u -> cs[i]? = some u := fun {cs m i u} hu => by
  rw [List.getElem?_take] at hu
  split at hu
  . exact hu
  . exact absurd hu (by simp)
 unfold appended at h
 split at h
 . rename_i e l ex
   split at h
   . rename_i he
     have he := Nat.eq_of_beq_eq_true he
     subst he
     obtain rfl := Option.some.inj h
     obtain ⟨base, len, cap, rfl, rfl, h2, h3, h4⟩ := kD hv
     rcases h4 with h4 | ⟨b, o, rfl, h4⟩
     . have : l = [] := List.eq_nil_of_length_eq_zero h4
       subst this
       refine ⟨[], rfl, fun w' => by simp [Builtin.lenOf], fun n w' hn hh => ?_⟩
       obtain rfl : n = 0 := by simpa using hn
       cases base with
       | none => simp [Builtin.firstCells]
       | some ad => simpa [Builtin.firstCells] using run_loadCells_list (P := cx.P) w' ad [] (fun j v hv => by simp at hv)
     . obtain ⟨cs, k1, k2⟩ := Ce h4
       refine ⟨cs, k1, fun w' => by simp [Builtin.lenOf], fun n w' hn hh => ?_⟩
       simp only [Builtin.firstCells]
       have := FV (P := cx.P) (b := b) (o := o) (cs := cs.take (n * cx.P.cellsOf e)) hh fun i v hv => (k2 i v (tk2 hv)).2
       rwa [tk k1 hn] at this
   . exact absurd h (by simp)
 . rename_i s
   split at h
   . rename_i he
     simp only [Bool.and_eq_true] at he
     obtain rfl := Option.some.inj h
     obtain rfl := gV.1 hv
     have h1 := Nat.eq_of_beq_eq_true he.2
     refine ⟨s.map fun b => Value.int .u8 (b.toNat : Int), QF he.1 h1 s, fun w' => by simp [Builtin.lenOf, ByteArray.size], fun n w' hn hh => ?_⟩
     have : ((ByteArray.mk s.toArray).extract 0 n).data = (s.take n).toArray := by
      apply Array.ext'
      simp
     simp only [Builtin.firstCells, this]
     rw [h1, Nat.mul_one, <- List.map_take]
     simp
   . exact absurd h (by simp)
 . rename_i r p e off coff len
   split at h
   . rename_i he
     simp only [Bool.and_eq_true] at he
     have hee := Nat.eq_of_beq_eq_true he.1
     subst hee
     obtain rfl := Option.some.inj h
     obtain ⟨b, root, n0, o0, m1, m2, m3, m4, base, cap, m5, rfl, m6⟩ := rQ hv
     obtain ⟨cs, ty, k1, k2⟩ : ∃ cs ty, w.heap[b]? = some (.cells cs ty (0, 0)) /\ iw cx.P (aI (Env.mk (Ctx.P cx) N S w0) g w) root (M.rows.getD r (.arr 0 [])) cs.toList := by
      have := hr.sI r b root m1
      rcases m2 with ⟨rfl, rfl, rfl⟩ | ⟨t, m2, hu⟩
      . revert this
        cases M.rows.getD r (.arr 0 []) with
        | map k e es => intro hk; exact absurd hk.1 (by simp)
        | loop f i tm st pd => intro hk; exact absurd hk.1 (by simp)
        | var t v => exact id
        | arr e l => exact id
        | bg e l => exact id
      . exact oG this m2
     obtain ⟨j1, pre, c, post, j2, j3, j4, _⟩ := Dj k2 m2
     have hlen : (sub ((M.rows.getD r (.arr 0 [])).elems p) off (off + len)).length = len := by simp only [sub, List.length_drop, List.length_take, j1]; omega
     have hra : aX cx.P (aI (Env.mk (Ctx.P cx) N S w0) g w) e (sub ((M.rows.getD r (.arr 0 [])).elems p) off (off + len)) ((c.take ((off + len) * cx.P.cellsOf e)).drop (off * cx.P.cellsOf e)) := tV off (qp (off + len) j4)
     have hri : aX cx.P (aI (Env.mk (Ctx.P cx) N S w0) g w).aH e _ _ := mX _ 20 he.2 hra
     refine ⟨_, hri, fun w' => by rw [hlen]; simp [Builtin.lenOf], fun n w' hn hh => ?_⟩
     rw [hlen] at hn
     have hnl : (((c.take ((off + len) * cx.P.cellsOf e)).drop (off * cx.P.cellsOf e)).take (n * cx.P.cellsOf e)).length = n * cx.P.cellsOf e := tk hri (by rw [hlen]; exact hn)
     rcases Nat.eq_zero_or_pos n with h0' | h0'
     . subst h0'
       rw [Nat.zero_mul, List.take_zero]
       cases base with
       | none => simp [Builtin.firstCells]
       | some ad => simpa [Builtin.firstCells] using run_loadCells_list (P := cx.P) w' ad [] (fun j v hv => by simp at hv)
     . obtain rfl := m6 (by omega)
       simp only [Builtin.firstCells]
       conv => lhs; rw [<- hnl]
       refine FV hh fun i u hu => ?_
       have hu := tk2 hu
       rw [List.getElem?_drop, List.getElem?_take] at hu
       split at hu
       . rw [jv k1, <- Array.getElem?_toList, j2, m4, List.append_assoc, List.getElem?_append_right (by omega), List.getElem?_append_left (by have := (List.getElem?_eq_some_iff.1 hu).1; omega)]
         rw [<- hu]
         congr 1
         omega
       . exact absurd hu (by simp)
   . exact absurd h (by simp)
 . exact absurd h (by simp)
theorem NI (hr : Rel (Env.mk (Ctx.P cx) N S w0) d g fr M a w) {elem : TypeId} {v : AV} {c : Value} {l2 : List AV} (hv : aK cx.P (aI (Env.mk (Ctx.P cx) N S w0) g w) v c) (h : appended cx.P M elem v = some l2) (h0 : 0 < cx.P.cellsOf elem) :
    ∃ news, aX cx.P (aI (Env.mk (Ctx.P cx) N S w0) g w).aH elem l2 news /\ (∀ w', (Builtin.lenOf c).run cx.P w' = .ok l2.length w') /\ ∀ w', w'.heap = w.heap -> (Builtin.firstCells (cx.P.cellsOf elem) l2.length c).run cx.P w' = .ok news.toArray w' := by
 obtain ⟨news, h1, h2, h3⟩ := Kh hr hv h h0
 refine ⟨news, h1, h2, fun w' hh => ?_⟩
 rw [h3 l2.length w' (Nat.le_refl _) hh, <- gX h1, List.take_length]
end
end Go.AE
namespace Go.AE
open Go.RowKit Go.Lib
section
variable {E : Env} {d : Nat} {g : G} {fr : Fr} {M : Mm} {a : Act} {w : World}
def G.own (g : G) (b : Nat) (o : Onr) (u : Nat) : G := ⟨g.rows, fun k => if k = b then .grow o u else g.cls k⟩
theorem Rel.ZJ (h : Rel E d g fr M a w) {o : Onr} (o' : Onr) {b u u' : Nat} {cs cs' : Array Value} {ty : TypeId} (hN : E.N <= b) (hcl : g.cls b = .grow o u) (hh : w.heap[b]? = some (.cells cs ty (0, 0))) (hu : u <= u')
    (hkeep : ∀ i v, i < u -> cs[i]? = some v -> cs'[i]? = some v)
    (ht : ∀ t, o = .t d t -> (t, TF.own) ∉ fr.tf) (hr : ∀ r p, o = .r r p -> (r, p) ∉ M.ro) (hd : ∀ d' i, o = .t d' i -> d <= d') :
    Ext E d g w (g.own b o' u') (w.setRow b cs') /\ Rel E d (g.own b o' u') fr M a (w.setRow b cs') := by
 have hbN : ¬ b < E.N := by omega
 have hst : ∀ k i, cK E g.cls k i -> cK E (g.own b o' u').cls k i := by
  intro k i hk
  unfold cK at hk ⊢
  split
  . rename_i hlt; rw [if_pos hlt] at hk; exact hk
  . rename_i hlt
    rw [if_neg hlt] at hk
    show match (if k = b then Cls.grow o' u' else g.cls k) with | .froz => True | .row => False | .grow _ u => i < u
    by_cases hkb : k = b
    . subst hkb
      rw [hcl] at hk
      simp only [if_true]
      exact Nat.lt_of_lt_of_le hk hu
    . rw [if_neg hkb]; exact hk
 have hcell : ∀ k i v, cK E g.cls k i -> w.cell? ⟨k, i, none⟩ = some v -> (w.setRow b cs').cell? ⟨k, i, none⟩ = some v := by
  intro k i v hk hc
  by_cases hkb : k = b
  . subst hkb
    rw [jv (setRow_heap w k cs cs' ty _ hh)]
    rw [jv hh] at hc
    unfold cK at hk
    rw [if_neg hbN, hcl] at hk
    exact hkeep i v hk hc
  . rw [<- hc]; exact World.cell?_of_block (w := w) (setRow_other w b k cs' hkb)
 have hne : ∀ {k : Nat} {c : Cls}, g.cls k = c -> (∀ u, c ≠ .grow o u) -> k ≠ b := fun {k c} h1 h2 e => by subst e; exact h2 u (h1.symm.trans hcl)
 have hsame : ∀ {k : Nat}, k ≠ b -> (g.own b o' u').cls k = g.cls k /\ (w.setRow b cs').heap[k]? = w.heap[k]? := fun {k} hk => ⟨if_neg hk, setRow_other w b k cs' hk⟩
 have hx : Ext E d g w (g.own b o' u') (w.setRow b cs') := by
  refine ⟨fun _ _ k => k, fun k i v hk _ => hst k i hk, hcell, fun k d' i v hd' _ hc => hsame (hne hc fun u2 e => ?_), by simp, fun k hk => (hsame fun e => by subst e; rw [hh] at hk; cases hk).2.trans hk⟩
  cases e
  exact absurd (hd d' i rfl) (by omega)
 have hle := hx.le
 have hown : ∀ {o2 : Onr} {e2 : TypeId} {v2 : Value}, o2 ≠ o -> bK E g w o2 e2 v2 -> bK E (g.own b o' u') (w.setRow b cs') o2 e2 v2 := fun hno k =>
  k.le fun b2 u2 _ _ hc2 => hsame (hne hc2 fun u3 e => by cases e; exact hno rfl)
 have hrow : ∀ r k root, g.rows[r]? = some (k, root) -> k ≠ b := fun r k root hr' => hne (h.rows r k root hr').2.2.1 (fun u => DI _ _ u)
 have hcr : ∀ r k root i, g.rows[r]? = some (k, root) -> (w.setRow b cs').cell? ⟨k, i, none⟩ = w.cell? ⟨k, i, none⟩ := fun r k root i hr' => World.cell?_of_block (w := w) (setRow_other w b k cs' (hrow r k root hr'))
 refine ⟨hx, below_setRow h.below hN cs', by simpa using h.hN, fun k hk => ?_, h.size, fun i => fF hle (h.tmps i), h.lenr, ?_, h.inj, ?_, h.viaT, ?_, ?_⟩
 . have := pW hh
   show (if k = b then _ else _) = _
   rw [if_neg (by simp at hk; omega)]
   exact h.fresh k (by simpa using hk)
 . intro r k root hr'
   obtain ⟨k1, k2, k3, k4⟩ := h.rows r k root hr'
   exact ⟨k1, by simpa using k2, (hsame (hrow r k root hr')).1.trans k3, k4.le hle (hsame (hrow r k root hr')).2⟩
 . intro t ht'
   obtain ⟨e, l, ex, k1, k2⟩ := h.own t ht'
   exact ⟨e, l, ex, k1, hown (fun e => ht t e.symm ht') k2⟩
 . intro t r p ht'
   obtain ⟨k1, e, l, ex, k2, b', root, ty', off, k3, k4, k5, k6⟩ := h.viaR t r p ht'
   exact ⟨k1, e, l, ex, k2, b', root, ty', off, k3, k4, k5, by rw [hcr r b' root off k3]; exact k6⟩
 . intro r p hr'
   obtain ⟨b', root, ty', off', e', v', k1, k2, k3, k4, k5⟩ := h.ro r p hr'
   exact ⟨b', root, ty', off', e', v', k1, k2, k3, by rw [hcr r b' root off' k1]; exact k4, hown (fun e => hr r p e.symm hr') k5⟩
theorem Nw {g : G} {w : World} {b off u : Nat} {o : Onr} {cs : Array Value} {ty : TypeId} {l : List Value} (hN : E.N <= b) (hcl : g.cls b = .grow o u) (hh : w.heap[b]? = some (.cells cs ty (0, 0)))
    (hl : ∀ i v, l[i]? = some v -> cs[off + i]? = some v) (hu : off + l.length <= u) : At (aI E g w) b off l := by
 intro i v hv
 have hi := (List.getElem?_eq_some_iff.1 hv).1
 refine ⟨?_, (jv hh).trans (hl i v hv)⟩
 show cK E g.cls b (off + i)
 unfold cK
 rw [if_neg (by omega), hcl]
 show off + i < u
 omega
theorem Qv {P : Program} {x : X} {e : TypeId} {b : Nat} : ∀ {l m : List AV} {o : Nat}, dN P x e b o l -> dN P x e b (o + l.length * P.cellsOf e) m -> dN P x e b o (l ++ m)
 | [], m, o, _, k => by simpa using k
 | v :: vs, m, o, h, k => ⟨h.1, Qv h.2 (by
     have : o + P.cellsOf e + vs.length * P.cellsOf e = o + (v :: vs).length * P.cellsOf e := by simp [Nat.add_mul]; omega
     rw [this]; exact k)⟩
theorem At.JN {x : X} {b o : Nat} {cs : List Value} (h : At x b o cs) : At x.aH b o cs := h
theorem mkSlice {P : Program} {x : X} {e : TypeId} {l : List AV} {b o cap : Nat} (h : dN P x.aH e b o l) (hc : l.length <= cap) : aK P x (.slice e l false) (.slice (some ⟨b, o, none⟩) l.length cap) := by
 have : rel P x (.slice e l false) [.slice (some ⟨b, o, none⟩) l.length cap] := ⟨_, _, _, rfl, rfl, hc, fun k => absurd k (by simp), .inr ⟨b, o, rfl, h⟩⟩
 exact bR this rfl
theorem Rel.Vt (h : Rel E d g fr M a w) {o : Onr} (o' : Onr) {e : TypeId} {l l2 : List AV} {ex : Bool} {b off cap : Nat} {cs : Array Value} {ty : TypeId} {news : List Value} (hN : E.N <= b)
    (hcl : g.cls b = .grow o (off + l.length * E.P.cellsOf e)) (hh : w.heap[b]? = some (.cells cs ty (0, 0))) (hfit : off + cap * E.P.cellsOf e <= cs.size)
    (ht : ∀ t, o = .t d t -> (t, TF.own) ∉ fr.tf) (hr : ∀ r p, o = .r r p -> (r, p) ∉ M.ro) (hd : ∀ d' i, o = .t d' i -> d <= d')
    (hl : l.length = 0 \/ dN E.P (aI E g w).aH e b off l) (hnew : aX E.P (aI E g w).aH e l2 news) (hroom : l.length + l2.length <= cap) :
    ∃ cs' g', (storeCells ⟨b, off + l.length * E.P.cellsOf e, none⟩ news).run E.P w = .ok () (w.setRow b cs') /\ Ext E d g w g' (w.setRow b cs') /\ Rel E d g' fr M a (w.setRow b cs') /\
     aK E.P (aI E g' (w.setRow b cs')) (.slice e (l ++ l2) false) (.slice (some ⟨b, off, none⟩) (l.length + l2.length) cap) /\
     bK E g' (w.setRow b cs') o' e (.slice (some ⟨b, off, none⟩) (l.length + l2.length) cap) := by
 have hnl := gX hnew
 have hmul : (l.length + l2.length) * E.P.cellsOf e <= cap * E.P.cellsOf e := Nat.mul_le_mul_right _ hroom
 rw [Nat.add_mul] at hmul
 have hst := run_storeCells_at E.P b (off + l.length * E.P.cellsOf e) ty news 0 cs w hh (by omega) (AU l2 hnew)
 simp only [Nat.add_zero] at hst
 generalize hcs' : (cs.toList.take (off + l.length * E.P.cellsOf e) ++ news ++ cs.toList.drop (off + l.length * E.P.cellsOf e + news.length)).toArray = cs' at hst
 have hlt : (cs.toList.take (off + l.length * E.P.cellsOf e)).length = off + l.length * E.P.cellsOf e := by simp; omega
 have hnews : ∀ i v, news[i]? = some v -> cs'[off + l.length * E.P.cellsOf e + i]? = some v := fun i v hv => by
  have hi := (List.getElem?_eq_some_iff.1 hv).1
  subst hcs'
  rw [List.getElem?_toArray, List.append_assoc, List.getElem?_append_right (by omega), hlt, Nat.add_sub_cancel_left, List.getElem?_append_left hi]
  exact hv
 have hkeep : ∀ i v, i < off + l.length * E.P.cellsOf e -> cs[i]? = some v -> cs'[i]? = some v := fun i v hi hv => by
  subst hcs'
  rw [List.getElem?_toArray, List.append_assoc, List.getElem?_append_left (by omega), List.getElem?_take, if_pos hi]
  simpa using hv
 obtain ⟨hx, hrel⟩ := h.ZJ o' (u' := off + (l.length + l2.length) * E.P.cellsOf e) (cs' := cs') hN hcl hh (by rw [Nat.add_mul]; omega) hkeep ht hr hd
 have hle := hx.le
 have hh' := setRow_heap w b cs cs' ty _ hh
 refine ⟨cs', _, hst, hx, hrel, ?_, ⟨_, _, cap, rfl, .inr ⟨b, off, cs', ty, rfl, hN, if_pos rfl, hh', ?_⟩⟩⟩
 . have hsl : dN E.P (aI E (g.own b o' (off + (l.length + l2.length) * E.P.cellsOf e)) (w.setRow b cs')).aH e b off (l ++ l2) := by
     refine Qv ?_ ?_
     . rcases hl with hl | hl
       . rw [List.eq_nil_of_length_eq_zero hl]; trivial
       . exact Ig hle.aH e b off l hl
     . refine nL (kJ hle.aH e l2 news hnew) (At.JN ?_)
       exact Nw hN (if_pos rfl) hh' hnews (by rw [hnl, Nat.add_mul]; omega)
   have := mkSlice (cap := cap) hsl (by simpa using hroom)
   simpa using this
 . subst hcs'
   simp
   omega
theorem Rel.EA (h : Rel E d g fr M a w) (o' : Onr) {e : TypeId} {l l2 : List AV} {cap : Nat} {olds news rest : List Value} {wd : World} (hwd : Below w.heap.size w wd) (hwh : wd.heap = w.heap)
    (hold : aX E.P (aI E g w).aH e l olds) (hnew : aX E.P (aI E g w).aH e l2 news) (hcap : l.length + l2.length <= cap) (hrest : rest.length = (cap - (l.length + l2.length)) * E.P.cellsOf e) :
    let w' := wd.alloc (.cells (olds ++ news ++ rest).toArray e)
    ∃ g', Ext E d g w g' w' /\ Rel E d g' fr M a w' /\
     aK E.P (aI E g' w') (.slice e (l ++ l2) false) (.slice (some ⟨w.heap.size, 0, none⟩) (l.length + l2.length) cap) /\
     bK E g' w' o' e (.slice (some ⟨w.heap.size, 0, none⟩) (l.length + l2.length) cap) := by
 intro w'
 have hbel : Below w.heap.size w w' := hwd.trans ((Below.refl w.heap.size wd).alloc (by rw [hwh]; omega) _)
 have h1 := h.grown hbel
 have hget : w'.heap[w.heap.size]? = some (.cells (olds ++ news ++ rest).toArray e) := by
  have := pY wd (.cells (olds ++ news ++ rest).toArray e)
  rw [hwh] at this
  exact this
 have hsz : w'.heap.size = w.heap.size + 1 := by show (wd.alloc _).heap.size = _; rw [jR, hwh]
 have hlt : ∀ {k}, k < w.heap.size -> (g.own w.heap.size o' ((l.length + l2.length) * E.P.cellsOf e)).cls k = g.cls k := fun {k} hk => if_neg (by omega)
 have hcell : ∀ b o v, w.cell? ⟨b, o, none⟩ = some v -> w'.cell? ⟨b, o, none⟩ = some v := fun b o v hc => (hbel.cell (p := ⟨b, o, none⟩) (jl hc)).trans hc
 have hx : Ext E d g w (g.own w.heap.size o' ((l.length + l2.length) * E.P.cellsOf e)) w' :=
  ⟨fun _ _ k => k, fun b o v hs hc => GA (hlt (jl hc)) hs, fun b o v _ hc => hcell b o v hc, fun b d' i u _ hb _ => ⟨hlt hb, hbel.block b hb⟩, hbel.size, fun b hb => (hbel.block b (pW hb)).trans hb⟩
 have hle := hx.le
 have hown : ∀ {o2 : Onr} {e2 : TypeId} {v2 : Value}, bK E g w o2 e2 v2 -> bK E (g.own w.heap.size o' ((l.length + l2.length) * E.P.cellsOf e)) w' o2 e2 v2 := fun k => k.le fun b2 u2 _ hb _ => ⟨hlt hb, hbel.block b2 hb⟩
 have ho := gX hold
 have hn := gX hnew
 refine ⟨_, hx, ⟨h1.below, h1.hN, fun k hk => ?_, h.size, fun i => fF hle (h.tmps i), h.lenr, ?_, h.inj, ?_, h.viaT, ?_, ?_⟩, ?_, ⟨_, _, cap, rfl, .inr ⟨w.heap.size, 0, (olds ++ news ++ rest).toArray, e, rfl, h.hN, ?_, hget, ?_⟩⟩⟩
 . show (if k = w.heap.size then _ else _) = _
   rw [if_neg (by omega)]
   exact h.fresh k (by omega)
 . intro r k root hr'
   obtain ⟨k1, k2, k3, k4⟩ := h.rows r k root hr'
   exact ⟨k1, by omega, (hlt k2).trans k3, k4.le hle (hbel.block k k2)⟩
 . intro t ht'
   obtain ⟨e, l, ex, k1, k2⟩ := h.own t ht'
   exact ⟨e, l, ex, k1, hown k2⟩
 . intro t r p ht'
   obtain ⟨k1, e, l, ex, k2, b', root, ty', off, k3, k4, k5, k6⟩ := h.viaR t r p ht'
   exact ⟨k1, e, l, ex, k2, b', root, ty', off, k3, k4, k5, hcell _ _ _ k6⟩
 . intro r p hr'
   obtain ⟨b', root, ty', off', e', v', k1, k2, k3, k4, k5⟩ := h.ro r p hr'
   exact ⟨b', root, ty', off', e', v', k1, k2, k3, hcell _ _ _ k4, hown k5⟩
 . have hsl : dN E.P (aI E (g.own w.heap.size o' ((l.length + l2.length) * E.P.cellsOf e)) w').aH e w.heap.size 0 (l ++ l2) := by
     refine nL (wQ (kJ hle.aH e l olds hold) (kJ hle.aH e l2 news hnew)) (At.JN ?_)
     refine Nw h.hN (if_pos rfl) hget (fun i v hv => ?_) (by simp only [List.length_append, ho, hn, Nat.add_mul]; omega)
     rw [List.getElem?_toArray, Nat.zero_add, List.getElem?_append_left (List.getElem?_eq_some_iff.1 hv).1]
     exact hv
   have := mkSlice (cap := cap) hsl (by simpa using hcap)
   simpa using this
 . show (if w.heap.size = w.heap.size then _ else _) = _
   rw [if_pos rfl, Nat.zero_add]
 . have hmul : (l.length + l2.length) * E.P.cellsOf e + (cap - (l.length + l2.length)) * E.P.cellsOf e = cap * E.P.cellsOf e := by rw [<- Nat.add_mul]; congr 1; omega
   rw [Nat.add_mul] at hmul
   simp only [List.size_toArray, List.length_append, ho, hn, hrest]
   omega
end
end Go.AE
namespace Go.AE
open Go.RowKit Go.Lib
section
variable {P : Program}
theorem DV : ∀ {p : List Nat} {t0 t t2 : TypeId} {off off2 : Nat}, eO P p t0 t off -> eO P p t0 t2 off2 -> t = t2 /\ off = off2
 | [], t0, t, t2, off, off2, h, k => ⟨h.1.trans k.1.symm, h.2.trans k.2.symm⟩
 | j :: p, t0, t, t2, off, off2, h, k => by
  unfold eO at h k
  split at h
  . rename_i fs hu
    rw [hu] at k
    obtain ⟨f, o1, h1, h2, h3⟩ := h
    obtain ⟨f', o2, k1, k2, k3⟩ := k
    rw [h1] at k1
    obtain rfl := Option.some.inj k1
    obtain ⟨rfl, rfl⟩ := DV h3 k3
    exact ⟨rfl, by omega⟩
  . rename_i n e hu
    rw [hu] at k
    obtain ⟨h1, o1, h2, h3⟩ := h
    obtain ⟨k1, o2, k2, k3⟩ := k
    obtain ⟨rfl, rfl⟩ := DV h3 k3
    exact ⟨rfl, by omega⟩
  . exact h.elim
theorem Sd {root : Root} {p : List Nat} {t t2 : TypeId} {off off2 : Nat} (h : eT P root p t off) (k : eT P root p t2 off2) : t = t2 /\ off = off2 := by
 cases root with
 | var t0 => exact DV h k
 | arr e n =>
  cases p with
  | nil => exact h.elim
  | cons j p =>
   obtain ⟨h1, o1, h2, h3⟩ := h
   obtain ⟨k1, o2, k2, k3⟩ := k
   obtain ⟨rfl, rfl⟩ := DV h3 k3
   exact ⟨rfl, by omega⟩
 | map => exact h.elim
 | loop => exact h.elim
theorem Qq : ∀ p : List Nat, apart p p = false
 | [] => rfl
 | i :: p => by simp [apart, Qq p]
theorem wW {t : TypeId} (h : zero P t ≠ .dead) : ∃ z, (∀ w' : World, (zeroValue t).run P w' = .ok z w') /\ ∀ x : X, aK P x (zero P t) z := by
 unfold zero at h ⊢
 split at h
 . rename_i i hi
   split at h
   . rename_i z hz
     exact ⟨z, fun w' => by simp [zeroValue, typeInfo, hi, hz], fun x => xQ t z⟩
   . exact absurd rfl h
 . exact absurd rfl h
end
section
variable {E : Env} {d : Nat} {g : G} {fr : Fr} {M : Mm} {a : Act} {w : World}
theorem Rel.OI (h : Rel E d g fr M a w) (r : Nat) (p : List Nat) : Rel E d g { fr with tf := fC r p fr.tf } { M with ro := iG r p M.ro } a w := by
 refine ⟨h.below, h.hN, h.fresh, h.size, h.tmps, h.lenr, h.rows, h.inj, fun i hi => h.own i (oQ hi).1, fun i s' hi => ?_, fun i r' q hi => ?_, fun r' q hi => h.ro r' q (yc.1 hi).1⟩
 . obtain ⟨m1, m2⟩ := h.viaT i s' (oQ hi).1
   exact ⟨MG m1 (by simp), m2⟩
 . obtain ⟨k1, k2⟩ := oQ hi
   obtain ⟨m1, m2⟩ := h.viaR i r' q k1
   exact ⟨yc.2 ⟨m1, k2 r' q rfl⟩, m2⟩
def xM (E : Env) (d : Nat) (g : G) (fr : Fr) (M : Mm) (w : World) (e : TypeId) (base : Option Addr) (len cap : Nat) : Prop :=
 cap = len \/ ∃ o b off cs ty, base = some ⟨b, off, none⟩ /\ E.N <= b /\ g.cls b = .grow o (off + len * E.P.cellsOf e) /\ w.heap[b]? = some (.cells cs ty (0, 0)) /\ off + cap * E.P.cellsOf e <= cs.size /\
  (∀ t, o = .t d t -> (t, TF.own) ∉ fr.tf) /\ (∀ r p, o = .r r p -> (r, p) ∉ M.ro) /\ (∀ d' i, o = .t d' i -> d <= d')
theorem GV {o : Onr} {e : TypeId} {base : Option Addr} {len cap : Nat} (h : bK E g w o e (.slice base len cap)) (h1 : ∀ t, o = .t d t -> (t, TF.own) ∉ fr.tf) (h2 : ∀ r p, o = .r r p -> (r, p) ∉ M.ro)
    (h3 : ∀ d' i, o = .t d' i -> d <= d') : xM E d g fr M w e base len cap := by
 obtain ⟨base', len', cap', he, h⟩ := h
 cases he
 exact h.imp id fun ⟨b, off, cs, ty, k1, k2, k3, k4, k5⟩ => ⟨o, b, off, cs, ty, k1, k2, k3, k4, k5, h1, h2, h3⟩
theorem Qg (h : Rel E d g fr M a w) {x : Operand} {t : TypeId} {e : TypeId} {l : List AV} {ex : Bool} {tf : List (Nat × TF)} {ro : List (Nat × List Nat)} (hx : aC E.P fr.tmps t x = .slice e l ex) (ht : rO x ex fr M = some (tf, ro)) :
    Rel E d g { fr with tf := tf } { M with ro := ro } a w /\ ∃ base cap, a.eval x = .slice base l.length cap /\ xM E d g { fr with tf := tf } { M with ro := ro } w e base l.length cap := by
 have hv := h.aC t x
 rw [hx] at hv
 obtain ⟨base, len, cap, hev, rfl, hle, hex, hsl⟩ := kD hv
 unfold rO at ht
 split at ht
 . rename_i hext
   simp only [Option.some.injEq, Prod.mk.injEq] at ht
   obtain ⟨rfl, rfl⟩ := ht
   exact ⟨h, base, cap, hev, .inl (hex hext)⟩
 . split at ht
   . rename_i s
     have hs : fr.tmps.getD s .dead = .slice e l ex := hx
     have hev' : a.tmps.getD s undef = .slice base l.length cap := hev
     split at ht
     . rename_i hf
       simp only [Option.some.injEq, Prod.mk.injEq] at ht
       obtain ⟨rfl, rfl⟩ := ht
       obtain ⟨e1, l1, ex1, k1, k2⟩ := h.own s (jQ hf)
       rw [hs] at k1
       cases k1
       rw [hev'] at k2
       exact ⟨h.drop s, base, cap, hev, GV k2 (fun t' e => by cases e; exact xU s fr.tf) (fun r p e => by cases e) (fun d' i e => by cases e; omega)⟩
     . rename_i u hf
       simp only [Option.some.injEq, Prod.mk.injEq] at ht
       obtain ⟨rfl, rfl⟩ := ht
       obtain ⟨j1, j2, e1, l1, ex1, l2, ex2, j3, j4⟩ := h.viaT s u (jQ hf)
       rw [hs] at j3
       cases j3
       obtain ⟨e1, l1, ex1, k1, k2⟩ := h.own u j1
       rw [j4] at k1
       cases k1
       rw [<- j2, hev'] at k2
       exact ⟨h.drop u, base, cap, hev, GV k2 (fun t' e => by cases e; exact xU u fr.tf) (fun r p e => by cases e) (fun d' i e => by cases e; omega)⟩
     . rename_i r p hf
       simp only [Option.some.injEq, Prod.mk.injEq] at ht
       obtain ⟨rfl, rfl⟩ := ht
       obtain ⟨j1, e1, l1, ex1, j2, b, root, ty, off, j3, j4, j5, j6⟩ := h.viaR s r p (jQ hf)
       rw [hs] at j2
       cases j2
       obtain ⟨b', root', ty', off', e', v', k1, k2, k3, k4, k5⟩ := h.ro r p j1
       rw [j3] at k1
       simp only [Option.some.injEq, Prod.mk.injEq] at k1
       obtain ⟨rfl, rfl⟩ := k1
       obtain ⟨rfl, rfl⟩ := Sd j4 k2
       rw [j5] at k3
       cases k3
       rw [j6] at k4
       obtain rfl := Option.some.inj k4
       rw [hev'] at k5
       refine ⟨h.OI r p, base, cap, hev, GV k5 (fun t' e => by cases e) (fun r' p' e hm => ?_) (fun d' i e => by cases e)⟩
       cases e
       have := (yc.1 hm).2
       simp [Qq] at this
     . exact absurd ht (by simp)
   . exact absurd ht (by simp)
end
section
variable {R : Type} {cx : Ctx} {N d : Nat} {S : Nat -> Nat -> Prop} {w0 : World} {g : G} {fr : Fr} {M : Mm} {a : Act} {w : World}
variable {next : Fr -> Mm -> Option R} {r : R} {K : Act -> World -> Prop} {Q : Exit -> Act -> World -> Prop} {o : Oper} {pan : AV -> Fr -> Mm -> Option R} {fn : FuncId} {call : iV R}
theorem IJ {e : TypeId} {l : List AV} {ex : Bool} {base : Option Addr} {len cap : Nat} (hv : aK cx.P (aI (Env.mk (Ctx.P cx) N S w0) g w) (.slice e l ex) (.slice base len cap)) :
    ∃ olds, aX cx.P (aI (Env.mk (Ctx.P cx) N S w0) g w).aH e l olds /\ ∀ w', w'.heap = w.heap -> (Builtin.firstCells (cx.P.cellsOf e) l.length (.slice base len cap)).run cx.P w' = .ok olds.toArray w' := by
 obtain ⟨base', len', cap', he, rfl, h2, h3, h4⟩ := kD hv
 cases he
 rcases h4 with h4 | ⟨b, o, rfl, h4⟩
 . have : l = [] := List.eq_nil_of_length_eq_zero h4
   subst this
   refine ⟨[], rfl, fun w' hh => ?_⟩
   cases base with
   | none => simp [Builtin.firstCells]
   | some ad => simpa [Builtin.firstCells] using run_loadCells_list (P := cx.P) w' ad [] (fun j v hv => by simp at hv)
 . obtain ⟨cs, k1, k2⟩ := Ce h4
   refine ⟨cs, k1, fun w' hh => ?_⟩
   simp only [Builtin.firstCells]
   rw [<- gX k1]
   exact FV hh fun i v hv => (k2 i v hv).2
theorem QA {elem u : TypeId} (h : qZ cx.P elem u = true) :
    0 < cx.P.cellsOf elem /\ 0 < cx.P.bytesOf elem /\ fits cx.P elem (zero cx.P elem) = true /\ (aQ cx.P elem = false -> cx.P.cellsOf elem = 1) /\ Er cx.P u /\ (cx.P.info? elem).isSome = true := by
 simp only [qZ, Bool.and_eq_true] at h
 obtain ⟨⟨⟨h1, h2⟩, h3⟩, h4⟩ := h
 have h3' := uU (by rw [Bool.and_eq_true]; exact h3)
 refine ⟨Nat.blt_eq.mp h1, Nat.blt_eq.mp h2, h3'.1, h3'.2, ?_, ?_⟩
 . split at h4
   . rename_i e hu; exact .inl ⟨e, hu⟩
   . rename_i hu; exact .inr hu
   . exact absurd h4 (by simp)
 . obtain ⟨d, hd⟩ := rz h3'.1
   obtain ⟨i, hi⟩ := info_of_underlying hd
   simp [hi]
theorem adv (hr : Rel (Env.mk (Ctx.P cx) N S w0) d g fr M a w) {t u ty elem : TypeId} {l l2 : List AV} {ex : Bool} {base : Option Addr} {cap : Nat} {vy : AV} {c : Value} (ht : cx.P.underlying t = some (.slice elem)) (hg : qZ cx.P elem u = true)
    (hv : aK cx.P (aI (Env.mk (Ctx.P cx) N S w0) g w) (.slice elem l ex) (.slice base l.length cap)) (hy : aK cx.P (aI (Env.mk (Ctx.P cx) N S w0) g w) vy c) (hap : appended cx.P M elem vy = some l2) (hm : xM (Env.mk (Ctx.P cx) N S w0) d g fr M w elem base l.length cap)
    (hbound : (l.length + l2.length) * cx.P.bytesOf elem <= 140737488355328) (o' : Onr) :
    ∃ rv w' g', (Builtin.append_ #[t, u] ty #[.slice base l.length cap, c]).run cx.P w = .ok rv w' /\ Ext (Env.mk (Ctx.P cx) N S w0) d g w g' w' /\ Rel (Env.mk (Ctx.P cx) N S w0) d g' fr M a w' /\ aK cx.P (aI (Env.mk (Ctx.P cx) N S w0) g' w') (.slice elem (l ++ l2) false) rv /\ bK (Env.mk (Ctx.P cx) N S w0) g' w' o' elem rv := by
 obtain ⟨hc0, hb0, hfz, h1z, hsu, hie⟩ := QA hg
 obtain ⟨news, hnew, hlen, hfc⟩ := NI hr hy hap hc0
 obtain ⟨z, hz, hzr⟩ := wW (qm hfz)
 obtain ⟨zc, hze, hzrel, _⟩ := hzr (aI (Env.mk (Ctx.P cx) N S w0) g w)
 have hzcells : z.cells.size = cx.P.cellsOf elem := by
  rw [hze, mg hfz hzrel]
  simpa using lT hfz hzrel h1z
 have hneed : l.length + l2.length <= 140737488355328 := Nat.le_trans (Nat.le_mul_of_pos_right _ hb0) hbound
 obtain ⟨base', len', cap', he, _, hle, _, hsl⟩ := kD hv
 cases he
 by_cases hroom : l.length + l2.length <= cap
 . have hhead := Ym (ty := ty) (base := base) ht hsu hie (hlen w) hroom (hfc w rfl)
   rcases hm with hm | ⟨o, b, off, cs, cty, rfl, hN, hcl, hh, hfit, n1, n2, n3⟩
   . 
     have h0 : l2 = [] := List.eq_nil_of_length_eq_zero (by omega)
     subst h0
     have hnn : news = [] := List.eq_nil_of_length_eq_zero (by have := gX hnew; simpa using this)
     subst hnn
     refine ⟨.slice base l.length cap, w, g, ?_, Ext.refl _ _ _ _, hr, by simpa using CW hv, ⟨base, l.length, cap, rfl, .inl hm⟩⟩
     rw [hhead]
     cases base <;> simp [storeCells]
   . obtain ⟨cs', g', k1, k2, k3, k4, k5⟩ := hr.Vt (ex := false) o' hN hcl hh hfit n1 n2 n3 (hsl.imp id fun ⟨b2, o2, e2, h2⟩ => by cases e2; exact h2) hnew hroom
     refine ⟨_, _, g', ?_, k2, k3, k4, k5⟩
     rw [hhead]
     simp only [Addr.add_lit, List.toList_toArray]
     rw [k1]
     rfl
 . obtain ⟨olds, hold, hfo⟩ := IJ hv
   have hlt : cap < l.length + l2.length := by omega
   have hfit := Go.growslice_fits hlt hbound
   have hrun := Og (ty := ty) (base := base) ht hsu hie hz (hlen w) hroom (by omega) hfit (hfo w.drew rfl) (hfc w.drew rfl)
   have hcap := grownCap_ge w (l.length + l2.length) cap elem
   obtain ⟨g', k2, k3, k4, k5⟩ := hr.EA (cap := grownCap w (l.length + l2.length) cap elem) (rest := (Builtin.zeroCells z.cells (grownCap w (l.length + l2.length) cap elem - (l.length + l2.length))).toList) o' (Below.refl w.heap.size w).drew rfl hold hnew hcap
    (by rw [Array.length_toList, size_zeroCells, hzcells])
   refine ⟨_, _, g', hrun.trans ?_, k2, k3, k4, k5⟩
   congr 3
   apply Array.ext'
   simp
theorem aae (hr : Rel (Env.mk (Ctx.P cx) N S w0) d g fr M a w) {t u ty elem : TypeId} {l l2 : List AV} {base : Option Addr} {vy : AV} {c : Value} (ht : cx.P.underlying t = some (.slice elem)) (hg : qZ cx.P elem u = true)
    (hv : aK cx.P (aI (Env.mk (Ctx.P cx) N S w0) g w) (.slice elem l true) (.slice base l.length l.length)) (hy : aK cx.P (aI (Env.mk (Ctx.P cx) N S w0) g w) vy c) (hap : appended cx.P M elem vy = some l2)
    (hbound : (l.length + l2.length) * cx.P.bytesOf elem <= 140737488355328) (h0 : 0 < l2.length) :
    ∃ rv w' g', (Builtin.append_ #[t, u] ty #[.slice base l.length l.length, c]).run cx.P w = .ok rv w' /\ Ext (Env.mk (Ctx.P cx) N S w0) d g w g' w' /\ Rel (Env.mk (Ctx.P cx) N S w0) d g' fr { M with rows := M.rows ++ [.arr elem (l ++ l2)] } a w' /\
     aK cx.P (aI (Env.mk (Ctx.P cx) N S w0) g' w') (.msl M.rows.length [] elem 0 0 (l ++ l2).length) rv := by
 obtain ⟨hc0, hb0, hfz, h1z, hsu, hie⟩ := QA hg
 obtain ⟨news, hnew, hlen, hfc⟩ := NI hr hy hap hc0
 obtain ⟨z, hz, hzr⟩ := wW (qm hfz)
 have hneed : l.length + l2.length <= 140737488355328 := Nat.le_trans (Nat.le_mul_of_pos_right _ hb0) hbound
 obtain ⟨olds, hold, hfo⟩ := IJ hv
 have hlt : l.length < l.length + l2.length := by omega
 have hfit := Go.growslice_fits hlt hbound
 have hrun := Og (ty := ty) (base := base) ht hsu hie hz (hlen w) (by omega) (by omega) hfit (hfo w.drew rfl) (hfc w.drew rfl)
 have hcap := grownCap_ge w (l.length + l2.length) l.length elem
 have hb : Below w.heap.size w w.drew := (Below.refl _ _).drew
 have h1 := hr.grown hb
 generalize hcs : (olds.toArray ++ news.toArray ++ Builtin.zeroCells z.cells (grownCap w (l.length + l2.length) l.length elem - (l.length + l2.length))) = cs at hrun
 have h2 := h1.newRow (.cells cs elem) (.arr elem (l ++ l2).length) (.arr elem (l ++ l2)) fun x hle hw => ⟨cs, elem, by rw [hw]; exact pY _ _, rfl, olds ++ news, (Builtin.zeroCells z.cells (grownCap w (l.length + l2.length) l.length elem - (l.length + l2.length))).toList, by rw [<- hcs]; simp,
  kJ ((Ca _).trans ((Pe hb g).trans hle)) elem _ _ (wQ hold hnew)⟩
 refine ⟨_, _, _, hrun, (Ext.of_below hb).trans (uG h1 (.cells cs elem) (.arr elem (l ++ l2).length)), h2, ?_⟩
 have : rel cx.P (aI (Env.mk (Ctx.P cx) N S w0) (g.row w.drew.heap.size (.arr elem (l ++ l2).length)) (w.drew.alloc (.cells cs elem))) (.msl M.rows.length [] elem 0 0 (l ++ l2).length) [.slice (some ⟨w.heap.size, 0, none⟩) (l.length + l2.length) (grownCap w (l.length + l2.length) l.length elem)] :=
  ⟨rfl, w.heap.size, .arr elem (l ++ l2).length, (l ++ l2).length, 0, by show (g.rows ++ _)[M.rows.length]? = _; rw [<- hr.lenr]; simp, .inl ⟨rfl, rfl, rfl⟩, by simp, by simp, _, _, by simpa using hcap, by simp, fun _ => rfl⟩
 exact bR this rfl
theorem LK {c : Call} {t u : TypeId} {x y : Operand} (ho : o.op = .call c) (hc : c.callee = .builtin .append) (ha : c.args.toList = [x, y]) (hat : c.argTypes.toList = [t, u]) {rv : Value} {w' : World}
    (h : (Builtin.append_ #[t, u] o.type #[a.eval x, a.eval y]).run cx.P w = .ok rv w') : (execOp a.eval o).run cx.P w = .ok (.value rv) w' := by
 have e1 : c.args = #[x, y] := by apply Array.ext'; simpa using ha
 have e2 : c.argTypes = #[t, u] := by apply Array.ext'; simpa using hat
 simp only [execOp, ho, resolve, hc, Sem.run_bind, Sem.run_pure, Result.andThen_ok, invoke, builtin, e1, e2, List.map_toArray, List.map_cons, List.map_nil, h]
theorem Vw (hr : Rel (Env.mk (Ctx.P cx) N S w0) d g fr M a w) {c : Call} (ho : o.op = .call c) (hc : c.callee = .builtin .append) (h : zY cx fn o c fr M next = some r) (hN : Nx (Env.mk (Ctx.P cx) N S w0) d g w a next r K) : o.wp cx.P a w K Q := by
 unfold zY at h
 split at h
 . rename_i x y t u dd ha hat hdst
   split at h
   . rename_i elem e l ex hu hx
     split at h
     . rename_i hcond
       simp only [Bool.and_eq_true] at hcond
       obtain ⟨⟨hee, hg⟩, hlt⟩ := hcond
       have hee := Nat.eq_of_beq_eq_true hee
       subst hee
       have hlt := Nat.blt_eq.mp hlt
       split at h
       . exact absurd h (by simp)
       . rename_i l2 hap
         have hvx := hr.aC t x
         rw [hx] at hvx
         have hvy := hr.aC u y
         cases hb : decide ((l.length + l2.length) * cx.P.bytesOf e <= 140737488355328) with
         | false => rw [hb] at h; exact absurd h (by simp)
         | true =>
          rw [hb, cond_true] at h
          have hbound := of_decide_eq_true hb
          split at h
          . split at h
            . rename_i hex
              subst hex
              cases hpos : decide (0 < l2.length) with
              | false => rw [hpos] at h; exact absurd h (by simp)
              | true =>
               rw [hpos, cond_true] at h
               obtain ⟨base, len, cap, hev, rfl, _, hcl, _⟩ := kD hvx
               obtain rfl := hcl rfl
               rw [hev] at hvx
               obtain ⟨rv, w', g', k1, k2, k3, k4⟩ := aae hr (ty := o.type) hu hg hvx hvy hap hbound (of_decide_eq_true hpos)
               rw [<- hev] at k1
               refine gU ⟨rv, w', LK ho hc ha hat k1, hN _ _ g' _ w' ?_ k2 (put_defers _ _ _) h⟩
               rw [hdst]
               exact k3.set (some dd) k4
            . exact absurd h (by simp)
          . split at h
            . exact absurd h (by simp)
            . rename_i tf ro hto
              obtain ⟨h1, base, cap, hev, hm⟩ := Qg hr hx hto
              rw [hev] at hvx
              obtain ⟨rv, w', g', k1, k2, k3, k4, k5⟩ := adv h1 (ty := o.type) hu hg hvx hvy hap hm hbound (.t d dd)
              rw [<- hev] at k1
              refine gU ⟨rv, w', LK ho hc ha hat k1, hN _ _ g' _ w' ?_ k2 (put_defers _ _ _) h⟩
              have hset := k3.set (some dd) k4
              rw [hdst]
              exact hset.qM (jw hlt _) (by rw [ko k3 hlt]; exact k5)
     . exact absurd h (by simp)
   . exact absurd h (by simp)
 . exact absurd h (by simp)
end
end Go.AE
namespace Go.AE
open Go.RowKit Go.Lib Go.MapKept
section
variable {P : Program} {x : X}
theorem yx {kt : TypeId} {k : AV} {ck : Value} (h : aK P x k ck) (hk : qb P kt k = true) (hf : fits P kt k = true) : ∃ d, P.underlying kt = some d /\ IsKey d ck := by
 unfold qb at hk
 split at hk
 . rename_i j j' n hu
   obtain rfl := bL.1 h
   refine ⟨_, hu, ?_⟩
   simp [fits, aR, hu] at hf
   exact hf.1
 . rename_i s hu
   obtain rfl := gV.1 h
   exact ⟨_, hu, trivial⟩
 . rename_i b hu
   obtain rfl := eG.1 h
   exact ⟨_, hu, trivial⟩
 . exact absurd hk (by simp)
theorem KZ {k a : AV} {ck ca : Value} {b : Bool} (h1 : aK P x k ck) (h2 : aK P x a ca) (h : zO k a = some b) : b = true ↔ ck = ca := by
 unfold zO at h
 split at h
 . rename_i j n j' m
   obtain rfl := bL.1 h1
   obtain rfl := bL.1 h2
   split at h
   . rename_i hj
     subst hj
     obtain rfl := Option.some.inj h
     simp
   . exact absurd h (by simp)
 . obtain rfl := gV.1 h1
   obtain rfl := gV.1 h2
   obtain rfl := Option.some.inj h
   simp
 . obtain rfl := eG.1 h1
   obtain rfl := eG.1 h2
   obtain rfl := Option.some.inj h
   simp
 . exact absurd h (by simp)
theorem GR {R : Type} {r : R} {d : TypeDesc} {kt et : TypeId} {k : AV} {ck : Value} {K : Option AV -> Option R} (hd : P.underlying kt = some d) (hk : aK P x k ck) (hik : IsKey d ck) :
    ∀ (es : List (AV × AV)) (ces : List MapEntry) (i : Nat), kP P x kt et es ces -> nO k es K = some r ->
     (Instr.findNow d ck ces i = some none /\ K none = some r) \/ ∃ j v cv, Instr.findNow d ck ces i = some (some (j, cv)) /\ aK P x v cv /\ fits P et v = true /\ K (some v) = some r
 | [], [], i, _, h => .inl ⟨rfl, h⟩
 | [], _ :: _, i, hm, _ => hm.elim
 | _ :: _, [], i, hm, _ => hm.elim
 | (a, v) :: es, e :: ces, i, ⟨⟨m1, m2, m3, m4, m5⟩, hm⟩, h => by
  obtain ⟨d', hd', hia⟩ := yx m1 m3 m2
  rw [hd] at hd'
  obtain rfl := Option.some.inj hd'
  obtain ⟨q, hq, hqi⟩ := sameNow_of_keys hik hia
  simp only [nO] at h
  split at h
  . rename_i b hb
    have hiff := KZ hk m1 hb
    cases b with
    | true =>
     have : q = true := hqi.2 (hiff.1 rfl)
     subst this
     exact .inr ⟨i, v, e.val, by simp [Instr.findNow, hq], m4, m5, by simpa using h⟩
    | false =>
     have : q = false := by
      cases q with
      | false => rfl
      | true => exact absurd (hiff.2 (hqi.1 rfl)) (by simp)
     subst this
     rcases GR hd hk hik es ces (i + 1) hm (by simpa using h) with ⟨k1, k2⟩ | ⟨j, v', cv, k1, k2⟩
     . exact .inl ⟨by simp [Instr.findNow, hq, k1], k2⟩
     . exact .inr ⟨j, v', cv, by simp [Instr.findNow, hq, k1], k2⟩
  . exact absurd h (by simp)
theorem OX {R : Type} {r : R} {d : TypeDesc} {kt et : TypeId} {k v : AV} {ck cv : Value} (clock : Nat) (hd : P.underlying kt = some d) (hk : aK P x k ck) (hkt : qb P kt k = true) (hkf : fits P kt k = true) (hik : IsKey d ck) (hv : aK P x v cv) (hf : fits P et v = true) :
    ∀ (es : List (AV × AV)) (ces : List MapEntry) (i : Nat) (K : List (AV × AV) -> Option R), kP P x kt et es ces -> Ad k v es K = some r ->
     ∃ es', K es' = some r /\ ((Instr.findNow d ck ces i = some none /\ kP P x kt et es' (ces ++ [{ key := ck, val := cv, born := clock }])) \/
      ∃ j e, Instr.findNow d ck ces i = some (some (i + j, e.val)) /\ ces[j]? = some e /\ e.key = ck /\ kP P x kt et es' (ces.set j { e with key := ck, val := cv }))
 | [], [], i, K, _, h => ⟨_, h, .inl ⟨rfl, ⟨hk, hkf, hkt, hv, hf⟩, trivial⟩⟩
 | [], _ :: _, i, K, hm, _ => hm.elim
 | _ :: _, [], i, K, hm, _ => hm.elim
 | (a, u) :: es, e :: ces, i, K, ⟨⟨m1, m2, m3, m4, m5⟩, hm⟩, h => by
  obtain ⟨d', hd', hia⟩ := yx m1 m3 m2
  rw [hd] at hd'
  obtain rfl := Option.some.inj hd'
  obtain ⟨q, hq, hqi⟩ := sameNow_of_keys hik hia
  simp only [Ad] at h
  split at h
  . rename_i b hb
    have hiff := KZ hk m1 hb
    cases b with
    | true =>
     have hke := hiff.1 rfl
     have : q = true := hqi.2 hke
     subst this
     have hm' : kP P x kt et ((a, v) :: es) ({ e with key := ck, val := cv } :: ces) := ⟨⟨by rw [hke]; exact m1, m2, m3, hv, hf⟩, hm⟩
     exact ⟨(a, v) :: es, by simpa using h, .inr ⟨0, e, by simp [Instr.findNow, hq], rfl, hke.symm, hm'⟩⟩
    | false =>
     have : q = false := by
      cases q with
      | false => rfl
      | true => exact absurd (hiff.2 (hqi.1 rfl)) (by simp)
     subst this
     obtain ⟨es', k1, k2⟩ := OX clock hd hk hkt hkf hik hv hf es ces (i + 1) _ hm (by simpa using h)
     refine ⟨_, k1, ?_⟩
     rcases k2 with ⟨k2, k3⟩ | ⟨j, e', k2, k3, k4, k5⟩
     . exact .inl ⟨by simp [Instr.findNow, hq, k2], ⟨m1, m2, m3, m4, m5⟩, k3⟩
     . exact .inr ⟨j + 1, e', by simp [Instr.findNow, hq, k2]; omega, by simpa using k3, k4, ⟨m1, m2, m3, m4, m5⟩, k5⟩
  . exact absurd h (by simp)
end
section
variable {E : Env} {d : Nat} {g : G} {fr : Fr} {M : Mm} {a : Act} {w : World}
theorem Rel.zT (h : Rel E d g fr M a w) {r b : Nat} {root : Root} (hr : g.rows[r]? = some (b, root)) {o : Obj} (o' : Obj) (hh : w.heap[b]? = some o) (hnc : ∀ cs ty fz, o ≠ .cells cs ty fz) (hnd : o ≠ .deferred (some [])) {row' : Row}
    (hcl : jU row' = jU (M.rows.getD r (.arr 0 []))) (hrow : ∀ x, Le (aI E g w) x -> x.w = { w with heap := w.heap.setIfInBounds b o' } -> gH E.P x b root row') :
    let w' : World := { w with heap := w.heap.setIfInBounds b o' }
    Ext E d g w g w' /\ Rel E d g fr { M with rows := M.rows.set r row' } a w' := by
 intro w'
 obtain ⟨k1, k2, k3, k4⟩ := h.rows r b _ hr
 obtain ⟨hs1, hs2⟩ := heap_set (o' := o') hh
 have hcell : ∀ b' o v, w.cell? ⟨b', o, none⟩ = some v -> b' ≠ b := fun b' o2 v hc e => by
  subst e
  simp only [World.cell?, hh] at hc
  cases o with
  | cells cs ty fz => exact hnc _ _ _ rfl
  | _ => simp at hc
 have hcell2 : ∀ b' o v, w.cell? ⟨b', o, none⟩ = some v -> w'.cell? ⟨b', o, none⟩ = some v := fun b' o v hc => by
  rw [<- hc]; exact World.cell?_of_block (w := w) (w' := w') (hs2 b' (hcell b' o v hc))
 have hsz : w'.heap.size = w.heap.size := by simp [w']
 have hx : Ext E d g w g w' := ⟨fun _ _ k => k, fun _ _ _ k _ => k, fun b' o v _ hc => hcell2 b' o v hc, fun b' d' i u _ _ hc => ⟨rfl, hs2 b' fun e => by subst e; exact DI _ _ _ (k3.symm.trans hc)⟩, Nat.le_of_eq hsz.symm,
  fun b' hb' => (hs2 b' fun e => by subst e; rw [hh] at hb'; exact hnd (Option.some.inj hb')).trans hb'⟩
 have hle := hx.le
 have hown : ∀ {o : Onr} {e : TypeId} {v : Value}, bK E g w o e v -> bK E g w' o e v := fun ho => ho.le fun b2 u _ _ hc => ⟨rfl, hs2 b2 fun e => by subst e; exact DI _ _ _ (k3.symm.trans hc)⟩
 have hlt : r < M.rows.length := by rw [<- h.lenr]; exact (List.getElem?_eq_some_iff.1 hr).1
 refine ⟨hx, h.below.trans ⟨rfl, rfl, rfl, Nat.le_of_eq hsz.symm, fun k hk => hs2 k (by omega)⟩, by rw [hsz]; exact h.hN, fun k hk => h.fresh k (by rw [<- hsz]; exact hk), h.size, fun i => fF hle (h.tmps i), by simpa using h.lenr, ?_, h.inj, ?_, h.viaT, ?_, ?_⟩
 . intro r' b' root' hr'
   obtain ⟨m1, m2, m3, m4⟩ := h.rows r' b' root' hr'
   refine ⟨m1, by rw [hsz]; exact m2, ?_⟩
   by_cases hrr : r' = r
   . subst hrr
     rw [hr] at hr'
     simp only [Option.some.injEq, Prod.mk.injEq] at hr'
     obtain ⟨rfl, rfl⟩ := hr'
     have : (M.rows.set r' row').getD r' (.arr 0 []) = row' := by simp [List.getD, hlt]
     rw [this]
     exact ⟨k3.trans hcl.symm, hrow _ hle rfl⟩
   . have hne : b' ≠ b := fun e => hrr (h.inj r' r b _ _ (e ▸ hr') hr)
     have : (M.rows.set r row').getD r' (.arr 0 []) = M.rows.getD r' (.arr 0 []) := by simp [List.getD, List.getElem?_set_ne (Ne.symm hrr)]
     rw [this]
     exact ⟨m3, m4.le hle (hs2 b' hne)⟩
 . intro t ht
   obtain ⟨e, l, ex, m1, m2⟩ := h.own t ht
   exact ⟨e, l, ex, m1, hown m2⟩
 . intro t r' q ht
   obtain ⟨n1, e, l, ex, n2, b', root', ty', off, n3, n4, n5, n6⟩ := h.viaR t r' q ht
   exact ⟨n1, e, l, ex, n2, b', root', ty', off, n3, n4, n5, hcell2 _ _ _ n6⟩
 . intro r' q ht
   obtain ⟨b', root', ty', off, e, v, n3, n4, n5, n6, n7⟩ := h.ro r' q ht
   exact ⟨b', root', ty', off, e, v, n3, n4, n5, hcell2 _ _ _ n6, hown n7⟩
theorem Rel.QM (h : Rel E d g fr M a w) {r b : Nat} {kt et : TypeId} (hr : g.rows[r]? = some (b, .map kt et)) {ces ces' : Array MapEntry} {clock clock' : Nat} (hh : w.heap[b]? = some (.map ces clock)) {es' : List (AV × AV)}
    (hes : kP E.P (aI E g w) kt et es' ces'.toList) :
    let w' : World := { w with heap := w.heap.setIfInBounds b (.map ces' clock') }
    Ext E d g w g w' /\ Rel E d g fr { M with rows := M.rows.set r (.map kt et es') } a w' := by
 obtain ⟨k1, k2, k3, k4⟩ := h.rows r b _ hr
 refine h.zT hr (.map ces' clock') hh (fun _ _ _ e => by cases e) (fun e => by cases e) ?_ fun x hle hw => ⟨rfl, ces', clock', by rw [hw]; exact (heap_set hh).1, Gu hle hes⟩
 generalize hrw : M.rows.getD r (.arr 0 []) = row at k4
 cases row with
 | bg e l => obtain ⟨cs, ty, k5, _⟩ := k4; exact absurd (hh.symm.trans k5) (by simp)
 | _ => rfl
end
section
variable {R : Type} {cx : Ctx} {N d : Nat} {S : Nat -> Nat -> Prop} {w0 : World} {g : G} {fr : Fr} {M : Mm} {a : Act} {w : World}
variable {next : Fr -> Mm -> Option R} {r : R} {K : Act -> World -> Prop} {Q : Exit -> Act -> World -> Prop} {o : Oper}
theorem Ez {x : X} {rr : Nat} {c : Value} (h : aK cx.P x (.mapv (some rr)) c) : ∃ b k e, x.rows[rr]? = some (b, .map k e) /\ c = .map (some b) := by
 obtain ⟨b, k, e, h1, h2⟩ := iH rfl h
 exact ⟨b, k, e, h1, by simpa using h2⟩
theorem aaI (hr : Rel (Env.mk (Ctx.P cx) N S w0) d g fr M a w) {t : TypeId} {x : Option Operand} (ho : o.op = .makeMap t x) {kt et : TypeId} (hu : cx.P.underlying t = some (.map kt et)) (hx : x.all (fun x => match aC cx.P fr.tmps 0 x with | .int _ _ => true | _ => false) = true)
    (h : next (fr.set o.dst (.mapv (some M.rows.length))) { M with rows := M.rows ++ [.map kt et []] } = some r) (hN : Nx (Env.mk (Ctx.P cx) N S w0) d g w a next r K) : o.wp cx.P a w K Q := by
 have h1 := hr.newRow (.map #[] 0) (.map kt et) (.map kt et []) fun y hle hw => ⟨rfl, #[], 0, by rw [hw]; exact pY _ _, trivial⟩
 have hv : rel cx.P (aI (Env.mk (Ctx.P cx) N S w0) (g.row w.heap.size (.map kt et)) (w.alloc (.map #[] 0))) (.mapv (some M.rows.length)) [.map (some w.heap.size)] :=
  ⟨w.heap.size, kt, et, by show (g.rows ++ _)[M.rows.length]? = _; rw [<- hr.lenr]; simp, rfl⟩
 refine gU ⟨.map (some w.heap.size), w.alloc (.map #[] 0), ?_, hN _ _ _ _ _ (h1.set o.dst (bR hv rfl)) (uG hr _ _) (put_defers _ _ _) h⟩
 cases x with
 | none => simp [execOp, ho, Instr.makeMap]
 | some y =>
  simp only [Option.all_some] at hx
  split at hx
  . rename_i k n hy
    have hyv := Ey (hr.aC 0 y) hy
    simp [execOp, ho, Instr.makeMap, run_underlying hu, hyv, asInt, asIntOf]
  . exact absurd hx (by simp)
theorem adk (hr : Rel (Env.mk (Ctx.P cx) N S w0) d g fr M a w) {t : TypeId} {m k : Operand} {ok : Bool} (ho : o.op = .lookup t m k ok) (h : uo cx t m k ok o fr M next = some r) (hN : Nx (Env.mk (Ctx.P cx) N S w0) d g w a next r K) : o.wp cx.P a w K Q := by
 unfold uo at h
 split at h
 . rename_i kt et hu
   simp only at h
   split at h
   . rename_i hc
     simp only [Bool.and_eq_true] at hc
     obtain ⟨⟨hkt, hkf⟩, hz⟩ := hc
     have hkv := hr.aC kt k
     have hmv := hr.aC t m
     obtain ⟨dd, hd, hik⟩ := yx hkv hkt hkf
     obtain ⟨z, hzr, hzv⟩ := wW (qm hz)
     have fin : ∀ (v : AV) (c : Value) (b : Bool), aK cx.P (aI (Env.mk (Ctx.P cx) N S w0) g w) v c -> (execOp a.eval o).run cx.P w = .ok (.value (if ok then .tuple #[c, .bool b] else c)) w -> next (fr.set o.dst (if ok then .tuple [v, .bool b] else v)) M = some r -> o.wp cx.P a w K Q := by
      intro v c b hvc hrun hk
      refine gU ⟨_, w, hrun, hN _ _ g _ w (hr.set o.dst ?_) (Ext.refl _ _ _ _) (put_defers _ _ _) hk⟩
      cases ok
      . exact hvc
      . have : rel cx.P (aI (Env.mk (Ctx.P cx) N S w0) g w) (.tuple [v, .bool b]) [.tuple #[c, .bool b]] := ⟨_, rfl, jX hvc (jX (eG.2 rfl) rfl)⟩
        exact bR this rfl
     split at h
     . rename_i hm
       rw [hm] at hmv
       have hmc : a.eval m = .map none := by simpa [rel] using iH rfl hmv
       refine fin _ z false (hzv _) ?_ h
       have e1 := run_checkKey (w := w) hd hik true 9999
       have e2 : (Instr.findKey kt (a.eval k) []).run cx.P w = .ok none w := run_findKey hd rfl
       simp [execOp, ho, Instr.lookup, run_underlying hu, hmc, e1, e2, hzr]
     . rename_i rr hm
       rw [hm] at hmv
       obtain ⟨b, k0, e0, hrow, hmc⟩ := Ez hmv
       split at h
       . rename_i kt' et' es hrw
         split at h
         . rename_i hc
           simp only [Bool.and_eq_true] at hc
           have q1 := Nat.eq_of_beq_eq_true hc.1
           have q2 := Nat.eq_of_beq_eq_true hc.2
           subst q1
           subst q2
           have hro := (hr.rows rr b _ hrow).2.2.2
           rw [hrw] at hro
           obtain ⟨_, ces, clock, hheap, hrel⟩ := hro
           have hheap : w.heap[b]? = some (.map ces clock) := hheap
           have e1 := run_checkKey (w := w) hd hik ces.isEmpty 9999
           rcases GR hd hkv hik es ces.toList 0 hrel h with ⟨k1, k2⟩ | ⟨j, v, cv, k1, k2, k3, k4⟩
           . refine fin _ z false (hzv _) ?_ k2
             have e2 := run_findKey (w := w) hd k1
             simp [execOp, ho, Instr.lookup, run_underlying hu, hmc, MapKept.run_getObj_map hheap, e1, e2, hzr]
           . refine fin v cv true k2 ?_ k4
             have e2 := run_findKey (w := w) hd k1
             simp [execOp, ho, Instr.lookup, run_underlying hu, hmc, MapKept.run_getObj_map hheap, e1, e2]
         . exact absurd h (by simp)
       . exact absurd h (by simp)
     . exact absurd h (by simp)
   . exact absurd h (by simp)
 . exact absurd h (by simp)
theorem abo {ces : Array MapEntry} {j : Nat} {e : MapEntry} {f : MapEntry -> MapEntry} (h : ces.toList[j]? = some e) : (ces.modify j f).toList = ces.toList.set j (f e) := by
 rw [Array.toList_modify]
 apply List.ext_getElem?
 intro i
 rw [List.getElem?_modify, List.getElem?_set]
 by_cases hij : j = i
 . subst hij
   have hl := (List.getElem?_eq_some_iff.1 h).1
   rw [Array.length_toList] at hl
   have he : ces[j] = e := by simpa [hl] using h
   simp [h, hl, he]
 . simp [hij]
theorem QK (hr : Rel (Env.mk (Ctx.P cx) N S w0) d g fr M a w) {t : TypeId} {m k x : Operand} (ho : o.op = .mapUpdate t m k x \/ o.op = .insert t m k x) (h : DY cx t m k x fr M (fun fr M => next (fr.set o.dst bY) M) = some r) (hN : Nx (Env.mk (Ctx.P cx) N S w0) d g w a next r K) : o.wp cx.P a w K Q := by
 have hex : ∀ {w'}, (Instr.mapUpdate t (a.eval m) (a.eval k) (a.eval x)).run cx.P w = .ok () w' -> (execOp a.eval o).run cx.P w = .ok .skip w' := by
  intro w' hrun
  rcases ho with ho | ho <;> simp [execOp, ho, hrun]
 unfold DY at h
 split at h
 . rename_i kt et rr hu hm
   have hmv := hr.aC t m
   rw [hm] at hmv
   obtain ⟨b, k0, e0, hrow, hmc⟩ := Ez hmv
   split at h
   . rename_i kt' et' es hrw
     simp only at h
     split at h
     . rename_i hc
       simp only [Bool.and_eq_true] at hc
       obtain ⟨⟨⟨⟨c1, c2⟩, hkt⟩, hkf⟩, hvf⟩ := hc
       have q1 := Nat.eq_of_beq_eq_true c1
       have q2 := Nat.eq_of_beq_eq_true c2
       subst q1
       subst q2
       have hkv := hr.aC kt k
       have hvv := hr.aC et x
       obtain ⟨dd, hd, hik⟩ := yx hkv hkt hkf
       have hro := (hr.rows rr b _ hrow).2.2.2
       rw [hrw] at hro
       obtain ⟨hroot, ces, clock, hheap, hrel⟩ := hro
       have hheap : w.heap[b]? = some (.map ces clock) := hheap
       simp only [Root.map.injEq] at hroot
       obtain ⟨rfl, rfl⟩ := hroot
       have e1 := run_checkKey (w := w) hd hik false 9999
       obtain ⟨es', hk, hcase⟩ := OX clock hd hkv hkt hkf hik hvv hvf es ces.toList 0 _ hrel h
       rcases hcase with ⟨f1, f2⟩ | ⟨j, e, f1, f2, f3, f4⟩
       . have e2 := run_findKey (w := w) hd f1
         obtain ⟨hx, hrel'⟩ := hr.QM (clock' := clock + 1) (ces' := ces.push { key := a.eval k, val := a.eval x, born := clock }) hrow hheap (by simpa using f2)
         refine EG ⟨_, hex ?_, hN _ _ _ _ _ (hrel'.Dy o.dst) hx (put_defers _ _ _) hk⟩
         simp [Instr.mapUpdate, run_underlying hu, hmc, MapKept.run_getObj_map hheap, e1, e2, run_setObj_map _ hheap]
       . have e2 := run_findKey (w := w) hd f1
         obtain ⟨hx, hrel'⟩ := hr.QM (clock' := clock) (ces' := ces.modify j fun e => { e with key := a.eval k, val := a.eval x }) hrow hheap (by rw [abo f2]; exact f4)
         refine EG ⟨_, hex ?_, hN _ _ _ _ _ (hrel'.Dy o.dst) hx (put_defers _ _ _) hk⟩
         have f2' : ces[j]? = some e := by simpa using f2
         simp [Instr.mapUpdate, run_underlying hu, hmc, MapKept.run_getObj_map hheap, e1, e2, f2', f3, run_keyThatStays hik, run_setObj_map _ hheap]
     . exact absurd h (by simp)
   . exact absurd h (by simp)
 . exact absurd h (by simp)
end
end Go.AE
namespace Go.AE
open Go.RowKit Go.Lib
section
variable {P : Program}
theorem Jk : ∀ (p : List Nat), dY p .dead = .dead
 | [] => rfl
 | i :: p => by
  show dY p (([] : List AV).getD i .dead) = .dead
  simpa using Jk p
theorem ade {i : Nat} {p : List Nat} {v : AV} (h : dY (i :: p) v ≠ .dead) : ∃ t ps, v = .agg t ps := by
 cases v with
 | agg t ps => exact ⟨t, ps, rfl⟩
 | _ => exact absurd (show dY p (([] : List AV).getD i .dead) = .dead by simpa using Jk p) h
theorem zS : ∀ (p : List Nat) (v : AV), dY p v ≠ .dead -> iQ p (dY p v) v = v
 | [], v, _ => rfl
 | i :: p, v, h => by
  obtain ⟨t, ps, rfl⟩ := ade h
  show AV.agg t (ps.set i (iQ p (dY p (ps.getD i .dead)) (ps.getD i .dead))) = .agg t ps
  rw [zS p (ps.getD i .dead) h]
  congr 1
  apply List.ext_getElem?
  intro j
  rw [List.getElem?_set]
  split
  . rename_i e; subst e
    split
    . rename_i hl; simp [List.getD, hl]
    . rename_i hl; rw [List.getElem?_eq_none (by omega)]
  . rfl
theorem Kc {l : List AV} (i : Nat) : l.set i (l.getD i .dead) = l := by
 apply List.ext_getElem?
 intro j
 rw [List.getElem?_set]
 split
 . rename_i e; subst e
   split
   . rename_i hl; simp [List.getD, hl]
   . rename_i hl; rw [List.getElem?_eq_none (by omega)]
 . rfl
theorem VB (row : Row) (p : List Nat) (h : row.get p ≠ .dead) : row.put p (row.get p) = row := by
 cases row with
 | var t v => simp only [Row.put, Row.get, zS p v h]
 | arr e l =>
  cases p with
  | nil => rfl
  | cons i p => simp only [Row.put, Row.get, zS p _ h, Kc]
 | bg e l =>
  cases p with
  | nil => rfl
  | cons i p => simp only [Row.put, Row.get, zS p _ h, Kc]
 | map k e es => rfl
 | loop f i tm st pd => rfl
theorem ZA {row : Row} {p : List Nat} (h : (∃ e l, row = .arr e l /\ p = []) \/ ∃ u ps, row.get p = .agg u ps) : row.jG p (row.elems p) = row := by
 rcases h with ⟨e, l, rfl, rfl⟩ | ⟨u, ps, hv⟩
 . rfl
 . have hp := VB row p (by rw [hv]; simp)
   rw [hv] at hp
   cases row with
   | var t v => simp only [Row.jG, Row.elems, hv, jh, au]; exact hp
   | arr e l =>
    cases p with
    | nil => rfl
    | cons i p => simp only [Row.jG, Row.elems, hv, jh, au]; exact hp
   | bg e l =>
    cases p with
    | nil => rfl
    | cons i p => simp only [Row.jG, Row.elems, hv, jh, au]; exact hp
   | map k e es => rfl
   | loop f i tm st pd => rfl
theorem Ze (l : List Row) (r : Nat) : l.set r (l.getD r (.arr 0 [])) = l := by
 apply List.ext_getElem?
 intro j
 rw [List.getElem?_set]
 split
 . rename_i e; subst e
   split
   . rename_i hl; simp [List.getD, hl]
   . rename_i hl; rw [List.getElem?_eq_none (by omega)]
 . rfl
end
section
variable {R : Type} {cx : Ctx} {N d : Nat} {S : Nat -> Nat -> Prop} {w0 : World} {g : G} {fr : Fr} {M : Mm} {a : Act} {w : World}
variable {next : Fr -> Mm -> Option R} {r : R} {K : Act -> World -> Prop} {Q : Exit -> Act -> World -> Prop} {o : Oper} {pan : AV -> Fr -> Mm -> Option R} {fn : FuncId} {call : iV R}
theorem Tk {l c : Operand} (h : wK l c = true) : a.eval l = a.eval c := by
 unfold wK at h
 split at h
 . rw [Nat.eq_of_beq_eq_true h]
 . simp only [Bool.and_eq_true, decide_eq_true_eq] at h
   rw [h.1, h.2]
 . exact absurd h (by simp)
theorem ab6 {l : Operand} (h : y7 l = true) : ∃ k, a.eval l = .int k 0 := by
 unfold y7 at h
 split at h
 . rename_i k n
   rw [of_decide_eq_true h]
   exact ⟨k, rfl⟩
 . exact absurd h (by simp)
theorem acT (hr : Rel (Env.mk (Ctx.P cx) N S w0) d g fr M a w) {t : TypeId} {l c : Operand} (ho : o.op = .makeSlice t l c) (h : Cm cx t l c o fr M next = some r) (hN : Nx (Env.mk (Ctx.P cx) N S w0) d g w a next r K) : o.wp cx.P a w K Q := by
 unfold Cm at h
 split at h
 . rename_i e k n dd hu hc hdst
   split at h
   . rename_i hcond
     simp only [Bool.and_eq_true] at hcond
     obtain ⟨⟨hfz, hone⟩, hlt⟩ := hcond
     have hlt := Nat.blt_eq.mp hlt
     obtain ⟨hfz, hone⟩ := uU (by simp only [Bool.and_eq_true]; exact ⟨hfz, hone⟩)
     cases hb : (decide (0 <= n) && decide (n * cx.P.bytesOf e <= 140737488355328) && decide (n <= 140737488355328)) with
     | false => rw [hb] at h; exact absurd h (by simp)
     | true =>
      rw [hb, cond_true] at h
      simp only [Bool.and_eq_true, decide_eq_true_eq] at hb
      obtain ⟨⟨h0, hbytes⟩, hmax⟩ := hb
      obtain ⟨i, z, hi, hz, hzv⟩ := Ky (qm hfz)
      have hzr : aK cx.P (aI (Env.mk (Ctx.P cx) N S w0) g w).aH (zero cx.P e) z := hzv ▸ xQ e z
      obtain ⟨cn, hzc, hrel, _⟩ := hzr
      have hlz := lT hfz hrel hone
      have hcm := mg hfz hrel
      rw [<- hzc] at hcm
      have hbi : cx.P.bytesOf e = i.bytes := by simp [Program.bytesOf, hi]
      have hsi : cx.P.cellsOf e = i.size := by simp [Program.cellsOf, hi]
      have hvc := hr.aC 0 c
      rw [hc] at hvc
      have hcv := bL.1 hvc
      have hbytes' : (i.bytes : Int) * n <= 281474976710656 := by rw [<- hbi, Int.mul_comm]; omega
      have hzs : z.cells.size = i.size := by rw [hcm, <- hsi, <- hlz]; simp
      have hflat : (madeCells z.cells (n.toNat * i.size)).toList = (List.replicate n.toNat cn).flatten := by
       rw [<- hzs, yA, hcm]
      split at h
      . rename_i hsame
        have hlv : a.eval l = .int k n := (Tk hsame).trans hcv
        have hrun := run_make (P := cx.P) w t e i z hu hi hz k k n n h0 (Int.le_refl _) hbytes' (by omega)
        split at h
        . obtain ⟨g', k2, k3, k4, k5⟩ := hr.EA (.t d dd) (e := e) (l := []) (l2 := List.replicate n.toNat (zero cx.P e)) (cap := n.toNat) (olds := []) (news := (List.replicate n.toNat cn).flatten) (rest := []) (wd := w) (Below.refl _ _) rfl rfl (vg hrel hlz hfz n.toNat) (by simp) (by simp)
          have hw : w.alloc (.cells (madeCells z.cells (n.toNat * i.size)) e) = w.alloc (.cells (([] : List Value) ++ (List.replicate n.toNat cn).flatten ++ []).toArray e) := by
           congr 2
           apply Array.ext'
           rw [hflat]; simp
          rw [hw] at hrun
          simp only [List.nil_append, List.length_nil, List.length_replicate, Nat.zero_add] at k4 k5
          refine gU ⟨_, _, by simp only [execOp, ho, hlv, hcv, Sem.run_bind, hrun, Result.andThen_ok, Sem.run_pure]; rfl, hN _ _ g' _ _ ?_ k2 (put_defers _ _ _) h⟩
          have hset := k3.set (some dd) k4
          rw [hdst]
          exact hset.qM (jw hlt _) (by rw [ko k3 hlt]; exact k5)
        have h2 := hr.newRow (.cells (madeCells z.cells (n.toNat * i.size)) e) (.arr e (List.replicate n.toNat (zero cx.P e)).length) (.arr e (List.replicate n.toNat (zero cx.P e))) fun x hle hw =>
         ⟨_, e, by rw [hw]; exact pY _ _, rfl, (List.replicate n.toNat cn).flatten, [], by rw [hflat]; simp, kJ ((Ca _).trans hle) e _ _ (vg hrel hlz hfz n.toNat)⟩
        refine gU ⟨_, _, by simp only [execOp, ho, hlv, hcv, Sem.run_bind, hrun, Result.andThen_ok, Sem.run_pure]; rfl, hN _ _ _ _ _ (h2.set o.dst ?_) (uG hr _ _) (put_defers _ _ _) (by rw [hdst]; exact h)⟩
        have : rel cx.P (aI (Env.mk (Ctx.P cx) N S w0) (g.row w.heap.size (.arr e (List.replicate n.toNat (zero cx.P e)).length)) (w.alloc (.cells (madeCells z.cells (n.toNat * i.size)) e))) (.msl M.rows.length [] e 0 0 n.toNat) [.slice (some ⟨w.heap.size, 0, none⟩) n.toNat n.toNat] :=
         ⟨rfl, w.heap.size, .arr e (List.replicate n.toNat (zero cx.P e)).length, (List.replicate n.toNat (zero cx.P e)).length, 0, by show (g.rows ++ _)[M.rows.length]? = _; rw [<- hr.lenr]; simp, .inl ⟨rfl, rfl, rfl⟩, by simp, by simp, _, _, Nat.le_refl _, rfl, fun _ => rfl⟩
        exact bR this rfl
      . split at h
        . rename_i hzc0
          obtain ⟨kl, hlv⟩ := ab6 (a := a) hzc0
          have hrun := run_make (P := cx.P) w t e i z hu hi hz kl k 0 n (Int.le_refl _) h0 hbytes' (by omega)
          obtain ⟨g', k2, k3, k4, k5⟩ := hr.EA (.t d dd) (e := e) (l := []) (l2 := []) (cap := n.toNat) (olds := []) (news := []) (rest := (List.replicate n.toNat cn).flatten) (wd := w) (Below.refl _ _) rfl rfl rfl (by simp) (by
           rw [gX (vg hrel hlz hfz n.toNat)]; simp)
          have hw : w.alloc (.cells (madeCells z.cells (n.toNat * i.size)) e) = w.alloc (.cells (([] : List Value) ++ [] ++ (List.replicate n.toNat cn).flatten).toArray e) := by
           congr 2
           apply Array.ext'
           rw [hflat]; simp
          rw [hw] at hrun
          refine gU ⟨_, _, by simp only [execOp, ho, hlv, hcv, Sem.run_bind, hrun, Result.andThen_ok, Sem.run_pure]; rfl, hN _ _ g' _ _ ?_ k2 (put_defers _ _ _) h⟩
          have hset := k3.set (some dd) k4
          rw [hdst]
          exact hset.qM (jw hlt _) (by rw [ko k3 hlt]; exact k5)
        . exact absurd h (by simp)
   . exact absurd h (by simp)
 . exact absurd h (by simp)
theorem XT (hr : Rel (Env.mk (Ctx.P cx) N S w0) d g fr M a w) {c : Call} (ho : o.op = .call c) (hc : c.callee = .builtin .copy) (h : Gf cx c o fr M next = some r) (hN : Nx (Env.mk (Ctx.P cx) N S w0) d g w a next r K) : o.wp cx.P a w K Q := by
 unfold Gf at h
 split at h
 . rename_i x y t u ha hat
   split at h
   . rename_i elem rr p e off coff len hu hx
     split at h
     . rename_i hcond
       simp only [Bool.and_eq_true] at hcond
       obtain ⟨⟨⟨hee, hsz⟩, hinf⟩, hwr⟩ := hcond
       have hee := Nat.eq_of_beq_eq_true hee
       subst hee
       have hsz := Nat.blt_eq.mp hsz
       obtain ⟨i, hi⟩ := Option.isSome_iff_exists.mp hinf
       split at h
       . exact absurd h (by simp)
       . rename_i l2 hap
         dsimp only at h
         have hvx := hr.aC t x
         rw [hx] at hvx
         have hvy := hr.aC u y
         obtain ⟨news, hnew, hlen, hfc⟩ := Kh hr hvy hap hsz
         obtain ⟨b, root, n0, o0, m1, m2, m3, m4, base, cap, m5, hev, m6⟩ := rQ hvx
         have m4 : coff = o0 + off * cx.P.cellsOf e := m4
         have e1 : c.args = #[x, y] := by apply Array.ext'; simpa using ha
         have e2 : c.argTypes = #[t, u] := by apply Array.ext'; simpa using hat
         have hk : i.size = cx.P.cellsOf e := by simp [Program.cellsOf, hi]
         have hexec : ∀ {w' : World}, (match base with | some ad => storeCells ad (news.take (min l2.length len * cx.P.cellsOf e)) | none => pure ()).run cx.P w = .ok () w' ->
             (execOp a.eval o).run cx.P w = .ok (.value (.int .i64 ((min l2.length len : Nat) : Int))) w' := by
          intro w' hw
          have hmin : Nat.min l2.length len = min l2.length len := rfl
          have hf := hfc (min l2.length len) w (Nat.min_le_left _ _) rfl
          rw [<- hk] at hf hw
          cases base with
          | none =>
           have hww : w' = w := by
            simp only [Sem.run_pure] at hw
            exact ((Result.ok.injEq ..).mp hw).2.symm
           subst hww
           simp [execOp, ho, resolve, hc, invoke, builtin, e1, e2, Builtin.copy_, run_underlying hu, hev, hlen, sizeOf, typeInfo, hi, hmin, hf, goInt]
          | some ad =>
           simp [execOp, ho, resolve, hc, invoke, builtin, e1, e2, Builtin.copy_, run_underlying hu, hev, hlen, sizeOf, typeInfo, hi, hmin, hf, goInt, hw]
         obtain ⟨cs, ty, k1, k2⟩ : ∃ cs ty, w.heap[b]? = some (.cells cs ty (0, 0)) /\ iw cx.P (aI (Env.mk (Ctx.P cx) N S w0) g w) root (M.rows.getD rr (.arr 0 [])) cs.toList := by
          have := hr.sI rr b root m1
          rcases m2 with ⟨rfl, rfl, rfl⟩ | ⟨t, m2, hu⟩
          . revert this
            cases M.rows.getD rr (.arr 0 []) with
            | map k e es => intro hk; exact absurd hk.1 (by simp)
            | loop f i tm st pd => intro hk; exact absurd hk.1 (by simp)
            | var t v => exact id
            | arr e l => exact id
            | bg e l => exact id
          . exact oG this m2
         obtain ⟨j1, pre, cc, post, j2, j3, j4, j5⟩ := Dj k2 m2
         have hagg : (∃ e l, M.rows.getD rr (.arr 0 []) = .arr e l /\ p = []) \/ ∃ u ps, (M.rows.getD rr (.arr 0 [])).get p = .agg u ps := by
          rcases m2 with ⟨rfl, _, rfl⟩ | ⟨t', m2, hu'⟩
          . revert k2 hwr
            cases M.rows.getD rr (.arr 0 []) with
            | map k e es => intro _ hk; exact hk.elim
            | loop f i tm st pd => intro _ hk; exact hk.elim
            | var t v => intro _ hk; exact absurd hk.1 (by simp)
            | arr e l => intro _ _; exact .inl ⟨e, l, rfl, rfl⟩
            | bg e l => intro hk; exact absurd hk (by simp [Row.wr])
          . obtain ⟨pre2, c2, post2, n1, n2, n3, n4, n5, _⟩ := lV k2 m2
            obtain ⟨u2, ps, hv2, _⟩ := pF hu' n5 n3
            exact .inr ⟨u2, ps, hv2⟩
         have hmin : min l2.length len <= len := Nat.min_le_right _ _
         generalize hn : min l2.length len = n at h hexec hmin
         have hnl : n <= l2.length := hn ▸ Nat.min_le_left _ _
         rcases Nat.eq_zero_or_pos n with h0 | h0
         . 
           subst h0
           have hsame : (M.rows.getD rr (.arr 0 [])).jG p (((M.rows.getD rr (.arr 0 [])).elems p).take off ++ (l2.take 0 ++ ((M.rows.getD rr (.arr 0 [])).elems p).drop (off + 0))) = M.rows.getD rr (.arr 0 []) := by
            rw [List.take_zero, List.nil_append, Nat.add_zero, List.take_append_drop, ZA hagg]
           rw [hsame, Ze] at h
           have hst : (match base with | some ad => storeCells ad (news.take (0 * cx.P.cellsOf e)) | none => (pure () : Sem Unit)).run cx.P w = .ok () w := by
            rw [Nat.zero_mul, List.take_zero]
            cases base <;> simp [storeCells]
           exact gU ⟨_, w, hexec hst, hN _ _ g _ w ((hr.OI rr p).set o.dst (bL.2 rfl)) (Ext.refl _ _ _ _) (put_defers _ _ _) h⟩
         . obtain rfl := m6 (by omega)
           have hcn : (news.take (n * cx.P.cellsOf e)).length = n * cx.P.cellsOf e := by
            rw [List.length_take, gX hnew]
            exact Nat.min_eq_left (Nat.mul_le_mul_right _ hnl)
           have hccl : cc.length = n0 * cx.P.cellsOf e := by rw [gX j4, j1]
           have hle1 : (off + n) * cx.P.cellsOf e <= n0 * cx.P.cellsOf e := Nat.mul_le_mul_right _ (by omega)
           have hmul : (off + n) * cx.P.cellsOf e = off * cx.P.cellsOf e + n * cx.P.cellsOf e := Nat.add_mul _ _ _
           have hcsl : cs.size = pre.length + cc.length + post.length := by rw [<- Array.length_toList, j2]; simp; omega
           have hst := run_storeCells_at cx.P b coff ty (news.take (n * cx.P.cellsOf e)) 0 cs w k1 (by rw [hcn, hcsl]; omega) (fun v hv => AU _ hnew v (List.mem_of_mem_take hv))
           have hcs : (cs.toList.take (coff + 0) ++ news.take (n * cx.P.cellsOf e) ++ cs.toList.drop (coff + 0 + (news.take (n * cx.P.cellsOf e)).length)) =
               pre ++ (cc.take (off * cx.P.cellsOf e) ++ (news.take (n * cx.P.cellsOf e) ++ cc.drop ((off + n) * cx.P.cellsOf e))) ++ post := by
            rw [hcn, j2, Nat.add_zero, m4, <- j3, List.append_assoc pre, List.take_append, List.take_of_length_le (by omega), Nat.add_sub_cancel_left, List.take_append_of_le_length (by omega),
             show pre.length + off * cx.P.cellsOf e + n * cx.P.cellsOf e = pre.length + (off + n) * cx.P.cellsOf e from by omega, List.drop_append, List.drop_of_length_le (by omega), Nat.add_sub_cancel_left, List.drop_append_of_le_length (by omega)]
            simp
           rw [hcs] at hst
           refine gU ⟨_, _, hexec hst, hN _ _ g _ _ (Rel.set (hr.setRow m1 k1 ?_ hwr (by rw [Ye]; exact hwr) p ?_) o.dst (bL.2 rfl)) (Hl hr m1 hwr k1 _) (put_defers _ _ _) h⟩
           . have hra : aX cx.P (aI (Env.mk (Ctx.P cx) N S w0) g w) e (((M.rows.getD rr (.arr 0 [])).elems p).take off ++ (l2.take n ++ ((M.rows.getD rr (.arr 0 [])).elems p).drop (off + n))) (cc.take (off * cx.P.cellsOf e) ++ (news.take (n * cx.P.cellsOf e) ++ cc.drop ((off + n) * cx.P.cellsOf e))) :=
               wQ (qp off j4) (wQ (qp n (kJ (Ca _) e _ _ hnew)) (tV (off + n) j4))
             have := j5 _ _ hra (by simp only [List.length_append, List.length_take, List.length_drop, j1]; omega)
             simpa using this
           . intro q ty2 off2 e' v' hro hap' hq hu2 hcu
             have hsplit : off2 < pre.length + off * cx.P.cellsOf e \/ pre.length + (off + n) * cx.P.cellsOf e <= off2 := by
              rcases m2 with ⟨rfl, _, _⟩ | ⟨t', m2, hu'⟩
              . cases q <;> simp [apart] at hap'
              . obtain ⟨_, hdis⟩ := LM k2 m2 hq hap' .dead
                obtain ⟨pre2, c2, post2, n1, n2, n3, n4, n5, _⟩ := lV k2 m2
                obtain ⟨u2, ps, hv2, hlk, hu3, hn3, hs3⟩ := pF hu' n5 n3
                obtain ⟨pre3, c3, post3, q1, q2, q3, q4, q5, _⟩ := lV k2 hq
                have hc1 : cx.P.cellsOf ty2 = 1 := yL q5 q3 q4 (by simp [aQ, hu2])
                have : c2.length = n0 * cx.P.cellsOf e := by rw [gX hs3, hn3]
                rw [hc1] at hdis
                omega
             simp only [List.getElem?_toArray]
             rw [<- hcs, hcn, Nat.add_zero]
             rw [<- Array.getElem?_toList] at hcu
             have hlt := (List.getElem?_eq_some_iff.1 hcu).1
             rw [Array.length_toList] at hlt
             rcases hsplit with hs1 | hs1
             . rw [List.append_assoc, List.getElem?_append_left (by rw [List.length_take, Array.length_toList]; omega), List.getElem?_take_of_lt (by omega)]
               exact hcu
             . rw [List.getElem?_append_right (by rw [List.length_append, List.length_take, hcn, Array.length_toList]; omega), List.length_append, List.length_take, hcn, Array.length_toList, List.getElem?_drop]
               rw [show coff + n * cx.P.cellsOf e + (off2 - (min coff cs.size + n * cx.P.cellsOf e)) = off2 from by omega]
               exact hcu
     . exact absurd h (by simp)
   . exact absurd h (by simp)
 . exact absurd h (by simp)
end
end Go.AE
namespace Go.AE
open Go.RowKit Go.Lib
section
variable {E : Env} {d : Nat} {g : G} {fr : Fr} {M : Mm} {a : Act} {w : World}
def eX : Fr := ⟨[], []⟩
def jc : Act := ⟨#[], []⟩
theorem Rel.bare (h : Rel E d g fr M a w) (d' : Nat) : Rel E d' g eX M jc w :=
 ⟨h.below, h.hN, h.fresh, rfl, fun i => by simpa [eX, jc] using ku _, h.lenr, h.rows, h.inj, fun t ht => by simp [eX] at ht, fun t s ht => by simp [eX] at ht, fun t r p ht => by simp [eX] at ht, h.ro⟩
theorem Im {x : Nat × TF} {tf : List (Nat × TF)} (h : x ∈ fD tf) : x ∈ tf /\ ∀ r p, x.2 ≠ .viaR r p := by
 simp only [fD, List.mem_filter] at h
 refine ⟨h.1, fun r p e => ?_⟩
 have := h.2
 rw [e] at this
 exact absurd this (by simp)
theorem T9 {t : Nat} {f : TF} {tf : List (Nat × TF)} (h : (t, f) ∈ tf) (hf : ∀ r p, f ≠ .viaR r p) : (t, f) ∈ fD tf := by
 simp only [fD, List.mem_filter]
 refine ⟨h, ?_⟩
 cases f with
 | viaR r p => exact absurd rfl (hf r p)
 | _ => trivial
theorem Rel.back (h : Rel E d g fr M a w) {g' : G} {M' : Mm} {w' : World} (k : Rel E (d + 1) g' eX M' jc w') (hx : Ext E (d + 1) g w g' w') : Rel E d g' { fr with tf := fD fr.tf } M' a w' := by
 refine ⟨k.below, k.hN, k.fresh, h.size, fun i => fF hx.le (h.tmps i), k.lenr, k.rows, k.inj, fun t ht => ?_, fun t s ht => ?_, fun t r p ht => absurd rfl ((Im ht).2 r p), k.ro⟩
 . obtain ⟨e, l, ex, k1, k2⟩ := h.own t (Im ht).1
   exact ⟨e, l, ex, k1, k2.le fun b u _ hlt hc => hx.grow b d t u (by omega) hlt hc⟩
 . obtain ⟨m1, m2⟩ := h.viaT t s (Im ht).1
   exact ⟨T9 m1 (by simp), m2⟩
end
section
variable {R : Type} {cx : Ctx} {N d : Nat} {S : Nat -> Nat -> Prop} {w0 : World} {g : G} {fr : Fr} {M : Mm} {a : Act} {w : World}
variable {next : Fr -> Mm -> Option R} {r : R} {K : Act -> World -> Prop} {Q : Exit -> Act -> World -> Prop} {o : Oper} {pan : AV -> Fr -> Mm -> Option R} {fn : FuncId} {call : iV R}
def W (ro : Option Nat) : Fence := { Fence.wide with round := ro }
theorem CK (ro : Option Nat) {p : Prop} (h : (W ro).depth.isSome = true) : p := by simp [W, Fence.wide] at h
theorem EM {ro : Option Nat} {n : Nat} {P : Program} {f : FuncId} {args : Array Value} {w : World} {R : Ending -> World -> Prop} : CallsIn (W ro) n P f args w R ↔ Calls P f args w R :=
 (callsIn_wide (n := n) : CallsIn Fence.wide n P f args w R ↔ Calls P f args w R)
abbrev gu (ro : Option Nat) (P : Program) (o : Oper) (a : Act) (w : World) (K : Act -> World -> Prop) (Q : Exit -> Act -> World -> Prop) : Prop := o.wpIn (W ro) 0 P a w K Q
theorem gu.of_wp {ro : Option Nat} {P : Program} {o : Oper} {a : Act} {w : World} {K : Act -> World -> Prop} {Q : Exit -> Act -> World -> Prop} (hnd : ∀ c, o.op ≠ .defer c) (h : o.wp P a w K Q) : gu ro P o a w K Q := by
 refine ⟨fun _ _ => trivial, ?_⟩
 rw [Oper.semAt_eq _ _ _ hnd]
 unfold Oper.wp at h
 generalize (execOp a.eval o).run P w = r at h ⊢
 cases r with
 | ok x w' =>
  cases x with
  | value v => exact h
  | skip => exact h
  | defer d => exact h
  | enter f args => exact ⟨fun k => CK ro k, EM.2 h⟩
  | row row args => exact ⟨fun k => CK ro k, fun c cs _ => let ⟨v, w'', r, s⟩ := h c cs; ⟨v, w'', r, stepsIn_wide.2 s⟩⟩
  | _ => exact (h : False).elim
 | halt x w' =>
  cases x with
  | panic v => exact h
  | _ => exact (h : False).elim
def JH (P : Program) (g : G) : Tg -> Array Value -> World -> (Ending -> World -> Prop) -> Prop
 | .fn f, cargs, w, R' => (callFunc f cargs).run P w = .ok (.enter f cargs) w /\ Calls P f cargs w R'
 | .yl r, cargs, w, R' => ∀ b root, g.rows[r]? = some (b, root) -> ∃ fn tmps as bd, (Instr.yield b cargs).run P w = .ok (.round b fn tmps as bd) w /\ RoundIn Fence.wide 0 P b fn tmps as bd w R'
def dz (cx : Ctx) (call : iV R) : Prop :=
 ∀ (N : Nat) (S : Nat -> Nat -> Prop) (w0 : World) (d : Nat) (g : G) (M : Mm) (w : World) (f : Tg) (args : List AV) (cargs : Array Value) (K : Res -> Mm -> Option R) (r : R) (R' : Ending -> World -> Prop),
  Rel (Env.mk cx.P N S w0) d g eX M jc w -> bA cx.P (aI (Env.mk cx.P N S w0) g w) args cargs.toList -> call f args M K = some r ->
  (∀ v c M' g' w', Rel (Env.mk cx.P N S w0) d g' eX M' jc w' -> Ext (Env.mk cx.P N S w0) d g w g' w' -> aK cx.P (aI (Env.mk cx.P N S w0) g' w') v c ->
   (K (.ret v) M' = some r -> R' (.returned c) w') /\ (K (.pan v) M' = some r -> R' (.panicked [{ v := c, recovered := false }]) w') /\
   ((∃ e l ex i, v = .slice e l ex /\ bK (Env.mk cx.P N S w0) g' w' (.t d i) e c) -> K (.retO v) M' = some r -> R' (.returned c) w')) ->
  JH cx.P g f cargs w R'
theorem aag {f : FuncId} {args : Array Value} (h : (execOp a.eval o).run cx.P w = .ok (.enter f args) w) (hc : Calls cx.P f args w (fun
    | .returned v, w'' => K (a.put o.dst v) w''
    | .panicked chain, w'' => Q (.panic chain) a w''
    | .outgrown, _ => LetsOut Q)) : o.wp cx.P a w K Q := by
 unfold Oper.wp
 rw [h]
 exact hc
theorem xM.own {E : Env} {d : Nat} {g : G} {fr : Fr} {M : Mm} {a : Act} {w : World} {e : TypeId} {base : Option Addr} {len cap : Nat} (h : xM E d g fr M w e base len cap) (hr : Rel E d g fr M a w) (t : Nat) :
    ∃ g', Rel E d g' fr M a w /\ Ext E d g w g' w /\ bK E g' w (.t d t) e (.slice base len cap) := by
 rcases h with h | ⟨o, b, off, cs, ty, rfl, h1, h2, h3, h4, h5, h6, h7⟩
 . exact ⟨g, hr, Ext.refl _ _ _ _, base, len, cap, rfl, .inl h⟩
 . obtain ⟨g', k1, k2, k3, k4⟩ := hr.DL (.t d t) (o := o) (e := e) (v := .slice (some ⟨b, off, none⟩) len cap) ⟨_, len, cap, rfl, .inr ⟨b, off, cs, ty, rfl, h1, h2, h3, h4⟩⟩ h5 h6 h7
   exact ⟨g', k1, k2, k4⟩
theorem adC {E : Env} {g : G} {w : World} {o : Onr} {e : TypeId} {base : Option Addr} {len cap i : Nat} (h : bK E g w o e (.slice base len cap)) (hi : i <= len) (hc : len <= cap) :
    bK E g w o e (.slice (if cap = i then base else base.map (·.add (i * E.P.cellsOf e))) (len - i) (cap - i)) := by
 obtain ⟨base', len', cap', he, h⟩ := h
 cases he
 refine ⟨_, _, _, rfl, ?_⟩
 rcases h with h | ⟨b, off, cs, ty, rfl, h1, h2, h3, h4⟩
 . exact .inl (by omega)
 . by_cases hci : cap = i
   . exact .inl (by omega)
   . refine .inr ⟨b, off + i * E.P.cellsOf e, cs, ty, by simp [hci, Addr.add_lit], h1, ?_, h3, ?_⟩
     . rw [h2]
       congr 1
       have : i * E.P.cellsOf e + (len - i) * E.P.cellsOf e = len * E.P.cellsOf e := by rw [<- Nat.add_mul]; congr 1; omega
       omega
     . have : i * E.P.cellsOf e + (cap - i) * E.P.cellsOf e = cap * E.P.cellsOf e := by rw [<- Nat.add_mul]; congr 1; omega
       omega
theorem ac8 (hG : cx.Good) (hr : Rel (Env.mk (Ctx.P cx) N S w0) d g fr M a w) {t : TypeId} {x : Operand} {lo hi mx : Option Operand} (ho : o.op = .slice t x lo hi mx) {ok : Bool} {v : AV} (h : bP cx M fr.tmps o = some (ok, v))
    (hk : cond ok (next (AZ cx fn x hi mx o.dst fr M v).1 (AZ cx fn x hi mx o.dst fr M v).2) none = some r) (hN : Nx (Env.mk (Ctx.P cx) N S w0) d g w a next r K) : o.wp cx.P a w K Q := by
 have base : next (fr.set o.dst v) M = some r -> ok = true -> o.wp cx.P a w K Q := fun h2 h3 => wp_pure hG hr h (by rw [h3]; exact h2) hN
 cases ok with
 | false => exact absurd hk (by simp)
 | true =>
  simp only [cond_true] at hk
  unfold AZ at hk
  split at hk
  . split at hk
    . rename_i s d' e l hd
      split at hk
      . exact base hk rfl
      . rename_i hlt
        have hlt : d' < fr.tmps.length := Nat.lt_of_not_le fun k => hlt (Nat.ble_eq.mpr k)
        split at hk
        . exact base hk rfl
        . rename_i f hf
          split at hk
          . rename_i tf ro hto
            have hm := jQ hf
            obtain ⟨e0, l0, ex0, hs⟩ : ∃ e0 l0 ex0, fr.tmps.getD s .dead = .slice e0 l0 ex0 := by
             cases f with
             | own => obtain ⟨e, l, ex, k, _⟩ := hr.own s hm; exact ⟨e, l, ex, k⟩
             | viaT u => obtain ⟨_, _, e, l, ex, _, _, k, _⟩ := hr.viaT s u hm; exact ⟨e, l, ex, k⟩
             | viaR r p => obtain ⟨_, e, l, ex, k, _⟩ := hr.viaR s r p hm; exact ⟨e, l, ex, k⟩
            simp only [bP, ho] at h
            split at h
            . rename_i hti
              obtain ⟨ti, hti⟩ := Option.isSome_iff_exists.1 hti
              have hopx : aC cx.P fr.tmps t (.tmp s) = .slice e0 l0 ex0 := hs
              rw [hopx] at h
              unfold A9 at h
              split at h
              . rename_i hxx _; cases hxx
              . rename_i ty e1 l1 ex1 hu hxx hmm
                cases hxx
                split at h
                . rename_i hee
                  have hee := Nat.eq_of_beq_eq_true hee
                  subst hee
                  split at h
                  . rename_i ok2 i j hb
                    simp only [Option.some.injEq, Prod.mk.injEq, AV.slice.injEq] at h
                    obtain ⟨rfl, rfl, rfl, hex⟩ := h
                    have hex0 : ex0 = false := by simpa [nG] using hex
                    subst hex0
                    obtain ⟨hr2, base2, cap2, hev, hmay⟩ := Qg hr hopx hto
                    have hxv := hr.aC t (.tmp s)
                    rw [hopx, hev] at hxv
                    obtain ⟨base', len', cap', he', rfl, q1, q2, q3⟩ := kD hxv
                    cases he'
                    have hlo : o7 cx.P (aI (Env.mk (Ctx.P cx) N S w0) g w) (nG cx.P fr.tmps lo) (lo.map a.eval) := by
                     cases lo with
                     | none => trivial
                     | some y => exact hr.aC 0 y
                    obtain ⟨g1, g2, g3, g4⟩ := uE (rows := g.rows) (st := cK (Env.mk (Ctx.P cx) N S w0) g.cls) (w := w) (isS := true) (chi := none) hb hlo trivial q1
                    have hj : j = l0.length := g4 rfl
                    subst hj
                    have hsz : (sizeOf ty).run cx.P w = .ok (cx.P.cellsOf ty) w := by
                     have : cB cx.P t = ty := by simp [cB, hu]
                     rw [this] at hti
                     exact run_sizeOf w hti
                    obtain ⟨gg, hr3, hx3, ho3⟩ := hmay.own hr2 d'
                    have ho4 := adC ho3 g2 q1
                    have hval : aK cx.P (aI (Env.mk (Ctx.P cx) N S w0) g w) (.slice ty (sub l0 i l0.length) false) (.slice (if cap2 = i then base2 else base2.map (·.add (i * cx.P.cellsOf ty))) (l0.length - i) (cap2 - i)) := by
                     refine bR ⟨_, _, _, rfl, (Cc (Nat.le_refl _)).symm, by omega, fun k => absurd k (by simp), ?_⟩ rfl
                     rcases q3 with q3 | ⟨b, o, rfl, q3⟩
                     . exact .inl (by omega)
                     . by_cases hci : cap2 = i
                       . exact .inl (by omega)
                       . exact .inr ⟨b, o + i * cx.P.cellsOf ty, by simp [hci, Addr.add_lit], BM q3 i _⟩
                    refine gU ⟨.slice (if cap2 = i then base2 else base2.map (·.add (i * cx.P.cellsOf ty))) (l0.length - i) (cap2 - i), w, ?_, hN _ _ gg _ w ?_ hx3 (put_defers _ _ _) hk⟩
                    . have hevs : a.eval (.tmp s) = .slice base2 l0.length cap2 := hev
                      simp [execOp, ho, hevs, Instr.sliceAt, Instr.slice, run_underlying hu, g1, hsz]
                    . have hset := hr3.set (some d') (fF hx3.le hval)
                      rw [hd]
                      exact hset.qM (jw hlt _) (by rw [ko hr3 hlt]; exact ho4)
                  . exact absurd h (by simp)
                . exact absurd h (by simp)
              . rename_i hxx hmm; exact absurd hmm (by simp [nG])
              . rename_i hxx hmm; cases hxx
              . rename_i hxx hmm; cases hxx
              . rename_i hxx hmm; cases hxx
              . exact absurd h (by simp)
            . exact absurd h (by simp)
          . exact base hk rfl
    . exact base hk rfl
  . exact base hk rfl
theorem N9 {call : iV R} {Kk : Res -> Mm -> Option R} (hKk : Kk = fun r M =>
      let fr := { fr with tf := fD fr.tf }
      match r with
      | .ret v => next (fr.set o.dst v) M
      | .retO v => next (fr.gG o.dst v (some .own)) M
      | .pan v => pan v fr M) (hr : Rel (Env.mk (Ctx.P cx) N S w0) d g fr M a w) (hN : Nx (Env.mk (Ctx.P cx) N S w0) d g w a next r K) (hP : Px (Env.mk (Ctx.P cx) N S w0) d g w a pan r Q) :
    ∀ v c M' g' w', Rel (Env.mk cx.P N S w0) (d + 1) g' eX M' jc w' -> Ext (Env.mk cx.P N S w0) (d + 1) g w g' w' -> aK cx.P (aI (Env.mk cx.P N S w0) g' w') v c ->
     (Kk (.ret v) M' = some r -> K (a.put o.dst c) w') /\ (Kk (.pan v) M' = some r -> Q (.panic [{ v := c, recovered := false }]) a w') /\
     ((∃ e l ex i, v = .slice e l ex /\ bK (Env.mk cx.P N S w0) g' w' (.t (d + 1) i) e c) -> Kk (.retO v) M' = some r -> K (a.put o.dst c) w') := by
 subst hKk
 intro v c M' g' w' hrel hext hv
 exact ⟨fun hk => hN _ _ g' _ w' ((hr.back hrel hext).set o.dst hv) (hext.down (by omega)) (put_defers _ _ _) hk, fun hk => hP v c _ _ g' a w' (hr.back hrel hext) (hext.down (by omega)) rfl hv hk, fun ⟨e, l, ex, i, hve, how⟩ hk => by
       subst hve
       have hb := hr.back hrel hext
       cases hdst : o.dst with
       | none =>
        refine hN _ _ g' _ w' (hb.set none hv) (hext.down (by omega)) (put_defers _ _ _) ?_
        rw [hdst] at hk; exact hk
       | some t =>
        obtain ⟨g2, h3, hx3, hrows3, ho3⟩ := hb.DL (.t d t) how (fun t' e => by cases e) (fun r p e => by cases e) (fun d' i' e => by cases e; omega)
        have hv3 := fF hx3.le hv
        have hset := h3.set (some t) hv3
        rw [hdst] at hk
        by_cases hlt : t < fr.tmps.length
        . have hlt' : t < ({ fr with tf := fD fr.tf } : Fr).tmps.length := hlt
          have hown := hset.qM (jw hlt' _) (by rw [ko h3 hlt']; exact ho3)
          refine hN _ _ g2 _ w' hown ((hext.down (by omega)).trans hx3) (put_defers _ _ _) ?_
          have hb2 : Nat.blt t fr.tmps.length = true := Nat.blt_eq.mpr hlt
          simp only [Fr.gG, hb2, if_true] at hk
          exact hk
        . refine hN _ _ g2 _ w' hset ((hext.down (by omega)).trans hx3) (put_defers _ _ _) ?_
          have hb2 : ¬ Nat.blt t fr.tmps.length = true := fun k => hlt (Nat.blt_eq.mp k)
          simp only [Fr.gG, hb2, if_false] at hk
          exact hk⟩
theorem Am (hcall : dz cx call) (hr : Rel (Env.mk (Ctx.P cx) N S w0) d g fr M a w) {c : Call} {f : Operand} (ho : o.op = .call c) (hc : c.callee = .value f) {gi : FuncId} {args : List AV}
    (ht : target cx.P (aC cx.P fr.tmps 0 f) (bH cx.P fr.tmps c.argTypes.toList c.args.toList) = some (.fn gi, args))
    (h : (call (.fn gi) args M fun r M =>
     let fr := { fr with tf := fD fr.tf }
     match r with
     | .ret v => next (fr.set o.dst v) M
     | .retO v => next (fr.gG o.dst v (some .own)) M
     | .pan v => pan v fr M) = some r) (hN : Nx (Env.mk (Ctx.P cx) N S w0) d g w a next r K) (hP : Px (Env.mk (Ctx.P cx) N S w0) d g w a pan r Q) : o.wp cx.P a w K Q := by
 unfold target at ht
 split at ht
 . rename_i g2 first cap hf
   simp only [Option.some.injEq, Prod.mk.injEq, Tg.fn.injEq] at ht
   obtain ⟨rfl, rfl⟩ := ht
   have hfv := hr.aC 0 f
   rw [hf] at hfv
   obtain ⟨p, q, he, hp, hq⟩ := tT hfv
   have hargs := hr.bH c.argTypes.toList c.args.toList
   have hall : bA cx.P (aI (Env.mk (Ctx.P cx) N S w0) g w) ((first ++ bH cx.P fr.tmps c.argTypes.toList c.args.toList) ++ cap) ((p ++ c.args.map a.eval) ++ q).toList := by
    simp only [Array.toList_append, Array.toList_map]
    exact qj (qj hp hargs) hq
   obtain ⟨h1, h2⟩ := hcall N S w0 (d + 1) g M w (.fn g2) _ ((p ++ c.args.map a.eval) ++ q) _ r (fun e w' => match e with
    | .returned v => K (a.put o.dst v) w'
    | .panicked chain => Q (.panic chain) a w'
    | .outgrown => LetsOut Q) (hr.bare (d + 1)) hall h (N9 (call := call) (o := o) rfl hr hN hP)
   refine aag (f := g2) (args := (p ++ c.args.map a.eval) ++ q) ?_ (h2.mono fun e w' he => by cases e <;> exact he)
   simp only [execOp, ho, resolve, hc, he, Deferred.ofValue, Sem.run_bind, Sem.run_pure, Result.andThen_ok, invoke, h1]
 . exact absurd ht (by simp)
 . exact absurd ht (by simp)
theorem Zt {ro : Option Nat} (hcall : dz cx call) (hr : Rel (Env.mk (Ctx.P cx) N S w0) d g fr M a w) {c : Call} {f : Operand} (ho : o.op = .call c) (hc : c.callee = .value f) {rr : Nat} {args : List AV}
    (ht : target cx.P (aC cx.P fr.tmps 0 f) (bH cx.P fr.tmps c.argTypes.toList c.args.toList) = some (.yl rr, args))
    (h : (call (.yl rr) args M fun r M =>
     let fr := { fr with tf := fD fr.tf }
     match r with
     | .ret v => next (fr.set o.dst v) M
     | .retO v => next (fr.gG o.dst v (some .own)) M
     | .pan v => pan v fr M) = some r) (hN : Nx (Env.mk (Ctx.P cx) N S w0) d g w a next r K) (hP : Px (Env.mk (Ctx.P cx) N S w0) d g w a pan r Q) : gu ro cx.P o a w K Q := by
 unfold target at ht
 split at ht
 . exact absurd ht (by simp)
 . rename_i r2 hf
   simp only [Option.some.injEq, Prod.mk.injEq, Tg.yl.injEq] at ht
   obtain ⟨rfl, rfl⟩ := ht
   have hfv := hr.aC 0 f
   rw [hf] at hfv
   obtain ⟨b, hb, he⟩ := Nz hfv
   have hargs := hr.bH c.argTypes.toList c.args.toList
   have hall : bA cx.P (aI (Env.mk (Ctx.P cx) N S w0) g w) (bH cx.P fr.tmps c.argTypes.toList c.args.toList) (c.args.map a.eval).toList := by
    simp only [Array.toList_map]
    exact hargs
   obtain ⟨fn', tmps, as, bd, h1, h2⟩ := hcall N S w0 (d + 1) g M w (.yl r2) _ (c.args.map a.eval) _ r (fun e w' => match e with
    | .returned v => K (a.put o.dst v) w'
    | .panicked chain => Q (.panic chain) a w'
    | .outgrown => LetsOut Q) (hr.bare (d + 1)) hall h (N9 (call := call) (o := o) rfl hr hN hP) b .loop hb
   refine ⟨fun _ _ => trivial, ?_⟩
   rw [Oper.semAt_eq _ _ _ (by rw [ho]; intro c' e; cases e)]
   have hexec : (execOp a.eval o).run cx.P w = .ok (.round b fn' tmps as bd) w := by
    simp only [execOp, ho, resolve, hc, he, Deferred.ofValue, Sem.run_bind, Sem.run_pure, Result.andThen_ok, invoke, Array.empty_append, h1]
   rw [hexec]
   exact ⟨fun k => CK ro k, (RoundIn.mono (F := W ro) (n := 0) h2 fun e w' he => by cases e <;> exact he)⟩
 . exact absurd ht (by simp)
theorem F6 {ro : Option Nat} (hG : cx.Good) (hcall : dz cx call) (hr : Rel (Env.mk (Ctx.P cx) N S w0) d g fr M a w) (h : dA cx fn call o fr M next pan = some r) (hN : Nx (Env.mk (Ctx.P cx) N S w0) d g w a next r K) (hP : Px (Env.mk (Ctx.P cx) N S w0) d g w a pan r Q) : gu ro cx.P o a w K Q := by
 have nd : ∀ {x : Op}, o.op = x -> (∀ c, x ≠ .defer c) -> o.wp cx.P a w K Q -> gu ro cx.P o a w K Q := fun ho hn h => .of_wp (fun c e => hn c (ho.symm.trans e)) h
 cases ho : o.op with
 | move x => simp only [dA, ho] at h; exact nd ho (by simp) (wp_move hr ho h hN)
 | assign x => simp only [dA, ho] at h; exact nd ho (by simp) (wp_assign hr ho h hN)
 | alloc t =>
  simp only [dA, ho] at h
  split at h
  . rename_i hc; exact nd ho (by simp) (Yk hr ho hc h hN)
  . exact absurd h (by simp)
 | box t x =>
  simp only [dA, ho] at h
  split at h
  . rename_i hc; exact nd ho (by simp) (aaF hr ho hc h hN)
  . exact absurd h (by simp)
 | load t x => exact nd ho (by simp) (aaX hG hr ho h hN)
 | store t x y => simp only [dA, ho] at h; exact nd ho (by simp) (WM hr ho h hN)
 | panic x => exact nd ho (by simp) (WE hr ho h hP)
 | makeMap t x =>
  simp only [dA, ho] at h
  split at h
  . rename_i kt et hu hx; exact nd ho (by simp) (aaI hr ho hu hx h hN)
  . exact absurd h (by simp)
 | mapUpdate t m k x => simp only [dA, ho] at h; exact nd ho (by simp) (QK hr (.inl ho) h hN)
 | insert t m k x => simp only [dA, ho] at h; exact nd ho (by simp) (QK hr (.inr ho) h hN)
 | lookup t m k ok => simp only [dA, ho] at h; exact nd ho (by simp) (adk hr ho h hN)
 | makeSlice t l c => simp only [dA, ho] at h; exact nd ho (by simp) (acT hr ho h hN)
 | slice t x lo hi mx =>
  simp only [dA, ho] at h
  split at h
  . rename_i ok v hp; exact nd ho (by simp) (ac8 hG hr ho hp h hN)
  . exact absurd h (by simp)
 | call c =>
  simp only [dA, ho] at h
  split at h
  . rename_i hc; exact nd ho (by simp) (Vw hr ho hc h hN)
  . rename_i hc; exact nd ho (by simp) (XT hr ho hc h hN)
  . rename_i b hb hc
    split at h
    . rename_i ok v hp
      exact nd ho (by simp) (wp_pure hG hr (by simp only [bP, ho, hc]; exact hp) h hN)
    . exact absurd h (by simp)
  . rename_i f hc
    split at h
    . rename_i ok v hp
      exact nd ho (by simp) (wp_pure hG hr (by simp only [bP, ho, hc]; exact hp) h hN)
    . split at h
      . rename_i g2 args ht
        cases g2 with
        | fn gi => exact nd ho (by simp) (Am hcall hr ho hc ht h hN hP)
        | yl rr => exact Zt hcall hr ho hc ht h hN hP
      . exact absurd h (by simp)
  . exact absurd h (by simp)
 | _ =>
  simp only [dA, ho] at h
  split at h
  . rename_i ok v hp
    exact .of_wp (fun c' e => by simp [bP, e] at hp) (wp_pure (Q := Q) hG hr hp h hN)
  . exact absurd h (by simp)
end
end Go.AE
namespace Go.AE
open Go.RowKit Go.Lib
def je (cx : Ctx) (M : Mm) (ops : Array Oper) (o : Oper) (tm : List AV) : Option AV :=
 match o.guard with
 | none => match bP cx M tm o with | some (true, v) => some v | _ => none
 | some (j, want) =>
  match jr ops j with
  | none => none
  | some g =>
   match tm.getD g .dead with
   | .bool b => if b = want then (match bP cx M tm o with | some (true, v) => some v | _ => none) else some bY
   | .tuple [] => some bY
   | _ => none
def T.at : T -> Option (List AV)
 | .fail => none
 | .leaf tm => some tm
 | .br b x y => if b then x.at else y.at
theorem yB {l : List AV} {i : Nat} {v : AV} (h : l.getD i .dead = v) : l.set i v = l := by
 apply List.ext_getElem?
 intro j
 by_cases hij : i = j
 . subst hij
   by_cases hl : i < l.length
   . rw [List.getElem?_set_self hl]
     simp only [List.getD, List.getElem?_eq_getElem hl, Option.getD_some] at h
     rw [List.getElem?_eq_getElem hl, h]
   . rw [List.getElem?_eq_none (by simpa using hl), List.getElem?_eq_none (by omega)]
 . rw [List.getElem?_set_ne hij]
theorem EW (cx : Ctx) (M : Mm) (ops : Array Oper) (o : Oper) (l : List Oper) (tm : List AV) (k : List AV -> T) (res : List AV) (h : (eU cx M ops (o :: l) tm k).at = some res) :
    ∃ v, je cx M ops o tm = some v /\ (eU cx M ops l (aT tm o.dst v) k).at = some res := by
 have step : ∀ {tm'}, tm' = tm -> (stepT cx M o tm' fun tm => eU cx M ops l tm k).at = some res -> ∃ v, (match bP cx M tm o with | some (true, v) => some v | _ => none) = some v /\ (eU cx M ops l (aT tm o.dst v) k).at = some res := by
  intro tm' e h'
  rw [e] at h'
  unfold stepT at h'
  split at h'
  . rename_i ok v hp
    cases ok
    . simp [T.at] at h'
    . refine ⟨v, by rw [hp], ?_⟩
      simpa [T.at] using h'
  . simp [T.at] at h'
 simp only [eU] at h
 unfold je
 split at h
 . rename_i hg
   simp only [hg]
   exact step rfl h
 . rename_i j want hg
   simp only [hg]
   split at h
   . simp [T.at] at h
   . rename_i gd hgd
     simp only [hgd]
     split at h
     . rename_i b hb
       simp only [hb]
       cases b <;> cases want <;> simp only [T.at, if_true, if_false, Bool.false_eq_true, reduceCtorEq] at h ⊢
       . exact step (yB hb) h
       . exact ⟨_, rfl, by rw [yB hb] at h; exact h⟩
       . exact ⟨_, rfl, by rw [yB hb] at h; exact h⟩
       . exact step (yB hb) h
     . rename_i hb
       simp only [hb]
       exact ⟨_, rfl, h⟩
     . simp [T.at] at h
section
variable {R : Type} {cx : Ctx} {N d : Nat} {S : Nat -> Nat -> Prop} {w0 : World} {g : G} {fr : Fr} {M : Mm} {a : Act} {w : World}
variable {K : Act -> World -> Prop} {Q : Exit -> Act -> World -> Prop} {o : Oper} {ops : Array Oper}
theorem Y5 {a : Act} {i : Nat} {b : Bool} (h : a.tmps.getD i undef = .bool b) : a.tmps[i]? = some (.bool b) := by
 cases hi : a.tmps[i]? with
 | none => simp [hi, undef] at h
 | some v => simp [hi] at h; rw [h]
theorem LP (hr : Rel (Env.mk (Ctx.P cx) N S w0) d g fr M a w) {j : Nat} {want b : Bool} {gd : Nat} (hg : o.guard = some (j, want)) (hgd : jr ops j = some gd) (hb : fr.tmps.getD gd .dead = .bool b) :
    Region.wanted o (yielded ops a.tmps) = (b == want) := by
 have hv := hr.tmps gd
 rw [hb] at hv
 have := Y5 (eG.1 hv)
 have hdst : (ops[j]?).bind (·.dst) = some gd := by
  unfold jr at hgd
  split at hgd
  . rename_i o' ho; simp [ho, hgd]
  . exact absurd hgd (by simp)
 simp only [Region.wanted, hg, yielded, hdst, Option.bind_some, this]
 cases b <;> cases want <;> rfl
theorem NM (hr : Rel (Env.mk (Ctx.P cx) N S w0) d g fr M a w) {j : Nat} {want : Bool} {gd : Nat} (hg : o.guard = some (j, want)) (hgd : jr ops j = some gd) (hb : fr.tmps.getD gd .dead = .tuple []) :
    Region.wanted o (yielded ops a.tmps) = false := by
 have hv := hr.tmps gd
 rw [hb] at hv
 obtain ⟨arr, e, hvs⟩ := Fq hv
 have hdst : (ops[j]?).bind (·.dst) = some gd := by
  unfold jr at hgd
  split at hgd
  . rename_i o' ho; simp [ho, hgd]
  . exact absurd hgd (by simp)
 simp only [Region.wanted, hg, yielded, hdst, Option.bind_some]
 cases hi : a.tmps[gd]? with
 | none => rfl
 | some v =>
  simp [hi] at e
  subst e
  rfl
theorem Al {ro : Option Nat} (hG : cx.Good) (hr : Rel (Env.mk (Ctx.P cx) N S w0) d g fr M a w) {v : AV} (h : je cx M ops o fr.tmps = some v)
    (hk : ∀ c w', Below w.heap.size w w' -> aK cx.P (aI (Env.mk (Ctx.P cx) N S w0) g w') v c -> K (a.put o.dst c) w') :
    if Region.wanted o (yielded ops a.tmps) then gu ro cx.P o a w K Q else (∀ f, o.about cx.P w a.eval = some f -> (W ro).fn f) /\ K (a.put o.dst undef) w := by
 have step : (match bP cx M fr.tmps o with | some (true, v) => some v | _ => none) = some v -> gu ro cx.P o a w K Q := by
  intro h
  split at h
  . rename_i v' hp
    obtain rfl := Option.some.inj h
    exact .of_wp (fun c e => by simp [bP, e] at hp) (IL (Q := Q) hG hr hp hk)
  . exact absurd h (by simp)
 unfold je at h
 split at h
 . rename_i hg
   have : Region.wanted o (yielded ops a.tmps) = true := by simp [Region.wanted, hg]
   rw [if_pos this]
   exact step h
 . rename_i j want hg
   split at h
   . exact absurd h (by simp)
   . rename_i gd hgd
     split at h
     . rename_i b hb
       have hw := LP hr hg hgd hb
       split at h
       . rename_i hbw
         rw [if_pos (by rw [hw]; simp [hbw])]
         exact step h
       . rename_i hbw
         rw [if_neg (by rw [hw]; simp [hbw])]
         obtain rfl := Option.some.inj h
         exact ⟨fun _ _ => trivial, hk _ w (Below.refl _ _) xG⟩
     . rename_i hb
       rw [if_neg (by rw [NM hr hg hgd hb]; simp)]
       obtain rfl := Option.some.inj h
       exact ⟨fun _ _ => trivial, hk _ w (Below.refl _ _) xG⟩
     . exact absurd h (by simp)
def Clean (ds : List Nat) (tf : List (Nat × TF)) : Prop := ∀ t ∈ ds, aV t tf = tf
theorem GU {x : Nat × TF} : ∀ {ds : List Nat} {tf : List (Nat × TF)}, x ∈ lZ ds tf -> x ∈ tf /\ ∀ t ∈ ds, x.1 ≠ t /\ x.2 ≠ .viaT t
 | [], tf, h => ⟨h, fun t ht => by simp at ht⟩
 | t :: ds, tf, h => by
  obtain ⟨k1, k2⟩ := GU (ds := ds) (tf := aV t tf) h
  obtain ⟨m1, m2, m3⟩ := oH (f := x.2) (i := x.1) k1
  refine ⟨m1, fun t' ht => ?_⟩
  rcases List.mem_cons.1 ht with rfl | ht
  . exact ⟨m2, m3⟩
  . exact k2 t' ht
theorem OQ (ds : List Nat) (tf : List (Nat × TF)) : Clean ds (lZ ds tf) := by
 intro t ht
 unfold aV
 rw [List.filter_eq_self]
 intro x hx
 obtain ⟨k1, k2⟩ := GU hx
 obtain ⟨h1, h2⟩ := k2 t ht
 simp only [Bool.and_eq_true, Bool.not_eq_true']
 refine ⟨?_, ?_⟩
 . cases hb : Nat.beq x.1 t with
   | false => rfl
   | true => exact absurd (Nat.eq_of_beq_eq_true hb) h1
 . obtain ⟨i, f⟩ := x
   cases f with
   | viaT s =>
    show (!Nat.beq s t) = true
    cases hb : Nat.beq s t with
    | false => rfl
    | true => exact absurd (by rw [Nat.eq_of_beq_eq_true hb]) h2
   | _ => rfl
theorem Rel.drops : ∀ (ds : List Nat) {fr : Fr}, Rel (Env.mk (Ctx.P cx) N S w0) d g fr M a w -> Rel (Env.mk (Ctx.P cx) N S w0) d g { fr with tf := lZ ds fr.tf } M a w
 | [], fr, h => h
 | t :: ds, fr, h => Rel.drops ds (h.drop t)
theorem FB {fr : Fr} {ds : List Nat} (hc : Clean ds fr.tf) {dst : Option Nat} (hd : ∀ t, dst = some t -> t ∈ ds) (v : AV) : fr.set dst v = { tmps := aT fr.tmps dst v, tf := fr.tf } := by
 cases dst with
 | none => rfl
 | some t =>
  show Fr.mk _ _ = _
  rw [hc t (hd t rfl)]
  rfl
theorem Ed {ro : Option Nat} (hG : cx.Good) {tf : List (Nat × TF)} {ds : List Nat} (hc : Clean ds tf) {k : List AV -> T} {res : List AV} : ∀ (l : List Oper) (tm : List AV) (a : Act) (w : World), (∀ t ∈ dstsOf l, t ∈ ds) -> (eU cx M ops l tm k).at = some res ->
    Rel (Env.mk (Ctx.P cx) N S w0) d g ⟨tm, tf⟩ M a w -> (∀ tm' a' w', Rel (Env.mk (Ctx.P cx) N S w0) d g ⟨tm', tf⟩ M a' w' -> Below w.heap.size w w' -> a'.defers = a.defers -> (k tm').at = some res -> Q .normal a' w') -> wpListIn (W ro) 0 cx.P ops Q l a w
 | [], tm, a, w, _, h, hr, hQ => hQ tm a w hr (Below.refl _ _) rfl h
 | o :: l, tm, a, w, hds, h, hr, hQ => by
  obtain ⟨v, h1, h2⟩ := EW cx M ops o l tm k res h
  have hdst : ∀ t, o.dst = some t -> t ∈ ds := fun t e => hds t (by simp [dstsOf, e])
  have hrest : ∀ t ∈ dstsOf l, t ∈ ds := fun t ht => hds t (by
   simp only [dstsOf]
   split
   . exact List.mem_cons_of_mem _ ht
   . exact ht)
  refine Al hG hr h1 fun c w' hb hv => ?_
  have hset := (hr.grown hb).set o.dst hv
  rw [FB hc hdst] at hset
  exact Ed hG hc l _ _ w' hrest h2 hset fun tm' a' w'' hr' hb' hd' hk => hQ tm' a' w'' hr' (hb.trans (hb'.mono hb.size)) (hd'.trans (put_defers _ _ _)) hk
end
end Go.AE
namespace Go.AE
open Go.RowKit Go.Lib
def T.All (p : List AV -> Prop) : T -> Prop
 | .fail => True
 | .leaf tm => p tm
 | .br b x y => x.All p /\ y.All p
def Same (x y : List AV) : Prop := x.length = y.length /\ ∀ i : Nat, x.getD i .dead = y.getD i .dead
def Out (D : List Nat) (base tm : List AV) : Prop := tm.length = base.length /\ ∀ i : Nat, i ∉ D -> tm.getD i .dead = base.getD i .dead
theorem Out.refl (D : List Nat) (base : List AV) : Out D base base := ⟨rfl, fun _ _ => rfl⟩
theorem Out.set {D : List Nat} {base tm : List AV} (h : Out D base tm) {t : Nat} (ht : t ∈ D) (v : AV) : Out D base (tm.set t v) :=
 ⟨by simpa using h.1, fun i hi => (ql (fun e => hi (by rw [e]; exact ht)) v).trans (h.2 i hi)⟩
theorem Out.aT {D : List Nat} {base tm : List AV} (h : Out D base tm) {dst : Option Nat} (ht : ∀ t, dst = some t -> t ∈ D) (v : AV) : Out D base (aT tm dst v) := by
 cases dst with
 | none => exact h
 | some t => exact h.set (ht t rfl) v
theorem wF (P : Program) (b : Bool) (x y : List AV) : ∀ (D : List Nat) (base : List AV), (mM P b x y D base).length = base.length
 | [], base => rfl
 | d :: D, base => by rw [mM, wF P b x y D]; simp
theorem xJ (P : Program) (b : Bool) (x y : List AV) : ∀ (D : List Nat) (base : List AV) (i : Nat), (mM P b x y D base).getD i .dead = base.getD i .dead \/ (i ∈ D /\ i < base.length /\ (mM P b x y D base).getD i .dead = cond b (x.getD i .dead) (y.getD i .dead))
 | [], base, i => .inl rfl
 | d :: D, base, i => by
  rw [mM]
  rcases xJ P b x y D (base.set d (nK P 8 b (x.getD d .dead) (y.getD d .dead))) i with h | ⟨h1, h2, h3⟩
  . rw [h, uQ]
    split
    . rename_i hc
      obtain ⟨rfl, hl⟩ := hc
      exact .inr ⟨List.mem_cons_self, hl, vD _ _ _ _⟩
    . exact .inl rfl
  . exact .inr ⟨List.mem_cons_of_mem _ h1, by simpa using h2, h3⟩
theorem MW (P : Program) (b : Bool) (x y : List AV) : ∀ (D : List Nat) (base : List AV) (i : Nat), i ∈ D -> i < base.length -> (mM P b x y D base).getD i .dead = cond b (x.getD i .dead) (y.getD i .dead)
 | [], base, i, h, _ => by simp at h
 | d :: D, base, i, h, hl => by
  rw [mM]
  by_cases hD : i ∈ D
  . exact MW P b x y D _ i hD (by simpa using hl)
  . have hi : i = d := (List.mem_cons.1 h).resolve_right hD
    subst hi
    rcases xJ P b x y D (base.set i (nK P 8 b (x.getD i .dead) (y.getD i .dead))) i with h | ⟨h1, _, _⟩
    . rw [h, jw hl, vD]
    . exact absurd h1 hD
theorem aax (b x y : Bool) : bX b x y = cond b x y := by cases b <;> cases x <;> cases y <;> rfl
theorem tJ {P : Program} {D : List Nat} {base : List AV} : ∀ {t : T} {o : Bool} {tm' : List AV}, t.All (Out D base) -> t.merge P D = some (o, tm') -> Out D base tm' /\ (o = true -> ∃ res, t.at = some res /\ Same res tm')
 | .fail, o, tm', _, h => by simp [T.merge] at h
 | .leaf tm, o, tm', ha, h => by
  simp only [T.merge, Option.some.injEq, Prod.mk.injEq] at h
  obtain ⟨rfl, rfl⟩ := h
  exact ⟨ha, fun _ => ⟨tm, rfl, rfl, fun _ => rfl⟩⟩
 | .br b x y, o, tm', ⟨ha1, ha2⟩, h => by
  unfold T.merge at h
  split at h
  . exact absurd h (by simp)
  . rename_i o1 t1 h1 h2
    simp only [Option.some.injEq, Prod.mk.injEq] at h
    obtain ⟨rfl, rfl⟩ := h
    obtain ⟨k1, k2⟩ := tJ ha1 h1
    refine ⟨k1, fun ho => ?_⟩
    cases b
    . simp at ho
    . exact k2 (by simpa using ho)
  . rename_i o1 t1 h1 h2
    simp only [Option.some.injEq, Prod.mk.injEq] at h
    obtain ⟨rfl, rfl⟩ := h
    obtain ⟨k1, k2⟩ := tJ ha2 h2
    refine ⟨k1, fun ho => ?_⟩
    cases b
    . exact k2 (by simpa using ho)
    . simp at ho
  . rename_i o1 t1 o2 t2 h1 h2
    simp only [Option.some.injEq, Prod.mk.injEq, aax] at h
    obtain ⟨rfl, rfl⟩ := h
    obtain ⟨k1, k2⟩ := tJ ha1 h1
    obtain ⟨m1, m2⟩ := tJ ha2 h2
    refine ⟨⟨(wF _ _ _ _ _ _).trans k1.1, fun i hi => ?_⟩, fun ho => ?_⟩
    . rcases xJ P b t1 t2 D t1 i with h | ⟨h, _⟩
      . rw [h]; exact k1.2 i hi
      . exact absurd h hi
    . cases b with
      | true =>
       obtain ⟨res, j1, j2, j3⟩ := k2 (by simpa using ho)
       refine ⟨res, j1, by rw [wF]; exact j2, fun i => ?_⟩
       rw [j3]
       rcases xJ P true t1 t2 D t1 i with h | ⟨_, _, h⟩
       . exact h.symm
       . rw [h]; rfl
      | false =>
       obtain ⟨res, j1, j2, j3⟩ := m2 (by simpa using ho)
       refine ⟨res, j1, by rw [wF, j2, m1.1, k1.1], fun i => ?_⟩
       rw [j3]
       by_cases hD : i ∈ D
       . by_cases hl : i < t1.length
         . rw [MW P false t1 t2 D t1 i hD hl]; rfl
         . have e1 : t2.getD i .dead = .dead := by rw [List.getD, List.getElem?_eq_none (by rw [m1.1, <- k1.1]; omega)]; rfl
           have e2 : (mM P false t1 t2 D t1).getD i .dead = .dead := by rw [List.getD, List.getElem?_eq_none (by rw [wF]; omega)]; rfl
           rw [e1, e2]
       . rcases xJ P false t1 t2 D t1 i with h | ⟨h, _⟩
         . rw [h, m1.2 i hD, k1.2 i hD]
         . exact absurd h hD
section
variable {cx : Ctx} {M : Mm}
theorem Pn {o : Oper} {l : List Oper} {t : Nat} (h : t ∈ dstsOf l) : t ∈ dstsOf (o :: l) := by
 simp only [dstsOf]
 split
 . exact List.mem_cons_of_mem _ h
 . exact h
theorem NA {o : Oper} {l : List Oper} {t : Nat} (h : o.dst = some t) : t ∈ dstsOf (o :: l) := by simp [dstsOf, h]
theorem PO {ops : Array Oper} {o : Oper} {l : List Oper} {t : Nat} (h : t ∈ eZ ops l) : t ∈ eZ ops (o :: l) := by
 simp only [eZ]
 split
 . split
   . exact List.mem_cons_of_mem _ h
   . exact h
 . exact h
theorem adD {ops : Array Oper} {o : Oper} {l : List Oper} {j g : Nat} {want : Bool} (h : o.guard = some (j, want)) (hg : jr ops j = some g) : g ∈ eZ ops (o :: l) := by simp [eZ, h, hg]
theorem EZ {ops : Array Oper} {D : List Nat} {base : List AV} {p : List AV -> Prop} {k : List AV -> T} (hk : ∀ tm, Out D base tm -> (k tm).All p) : ∀ (l : List Oper) (kn : List (Nat × Bool)) (tm : List AV), (∀ t ∈ dstsOf l, t ∈ D) -> (∀ t ∈ eZ ops l, t ∈ D) -> Out D base tm -> (fH cx M ops l kn tm k).All p
 | [], kn, tm, _, _, h => hk tm h
 | o :: l, kn, tm, hd, hg, h => by
  have hdst : ∀ t, o.dst = some t -> t ∈ D := fun t e => hd t (NA e)
  have ih := fun kn tm (h : Out D base tm) => EZ hk l kn tm (fun t ht => hd t (Pn ht)) (fun t ht => hg t (PO ht)) h
  have hstep : ∀ kn tm, Out D base tm -> (stepT cx M o tm fun tm' => fH cx M ops l kn tm' k).All p := fun kn tm h => by
   unfold stepT
   split
   . exact ⟨ih _ _ (h.aT hdst _), trivial⟩
   . trivial
  simp only [fH]
  split
  . exact hstep _ tm h
  . rename_i j want hgd
    split
    . trivial
    . rename_i gd hgt
      have hgD := hg gd (adD hgd hgt)
      split
      . split
        . exact hstep _ tm h
        . exact ih _ _ (h.aT hdst _)
      . split
        . cases want <;> simp only [T.All, if_true, if_false, Bool.false_eq_true, reduceCtorEq]
          . exact ⟨ih _ _ ((h.set hgD _).aT hdst _), hstep _ _ (h.set hgD _)⟩
          . exact ⟨hstep _ _ (h.set hgD _), ih _ _ ((h.set hgD _).aT hdst _)⟩
        . exact ih _ _ (h.aT hdst _)
        . trivial
def fO (kn : List (Nat × Bool)) (tm : List AV) : Prop := ∀ i b, lN i kn = some b -> tm.getD i .dead = .bool b
theorem fO.nil (tm : List AV) : fO [] tm := fun i b h => by simp [lN] at h
theorem Nj (d i : Nat) : ∀ kn : List (Nat × Bool), lN i (mO d kn) = if i = d then none else lN i kn
 | [] => by simp [mO, lN]
 | (j, b) :: r => by
  have ih := Nj d i r
  unfold mO at ih ⊢
  rw [List.filter_cons]
  by_cases hj : j = d
  . rw [if_neg (by simp [hj]), ih]
    by_cases hi : i = d
    . rw [if_pos hi, if_pos hi]
    . rw [if_neg hi, if_neg hi, lN, if_neg]
      intro e
      exact hi ((Nat.eq_of_beq_eq_true e).symm.trans hj)
  . have hjd : Nat.beq j d = false := by
      cases e : Nat.beq j d
      . rfl
      . exact absurd (Nat.eq_of_beq_eq_true e) hj
    rw [if_pos (by simp [hjd])]
    simp only [lN]
    by_cases hji : Nat.beq j i = true
    . rw [if_pos hji, if_pos hji, if_neg (fun e => hj ((Nat.eq_of_beq_eq_true hji).trans e))]
    . rw [if_neg hji, if_neg hji, ih]
theorem IV {tm : List AV} {i : Nat} {b : Bool} (h : tm.getD i .dead = .bool b) : i < tm.length := by
 rcases Nat.lt_or_ge i tm.length with h1 | h1
 . exact h1
 . rw [List.getD, List.getElem?_eq_none h1] at h
   exact absurd h (by simp)
theorem ET (tm : List AV) (d i : Nat) (v : AV) : (tm.set d v).getD i .dead = if d = i /\ d < tm.length then v else tm.getD i .dead := by
 simp only [List.getD, List.getElem?_set]
 by_cases h : d = i
 . subst h
   by_cases h2 : d < tm.length
   . simp [h2]
   . simp [h2]
 . simp [h]
theorem fO.set_drop {kn : List (Nat × Bool)} {tm : List AV} (h : fO kn tm) (d : Nat) (v : AV) : fO (mO d kn) (tm.set d v) := fun i b hb => by
 rw [Nj] at hb
 by_cases hi : i = d
 . rw [if_pos hi] at hb; exact absurd hb (by simp)
 . rw [if_neg hi] at hb
   rw [ET, if_neg (fun e => hi e.1.symm)]
   exact h i b hb
theorem fO.cons {kn : List (Nat × Bool)} {tm : List AV} (h : fO kn tm) {d : Nat} {b : Bool} (hd : tm.getD d .dead = .bool b) : fO ((d, b) :: kn) tm := fun i c hc => by
 simp only [lN] at hc
 split at hc
 . rename_i e
   rw [<- Nat.eq_of_beq_eq_true e, hd]
   exact congrArg _ (Option.some.inj hc)
 . exact h i c hc
theorem fO.aT {kn : List (Nat × Bool)} {tm : List AV} (h : fO kn tm) (dst : Option Nat) (kb : Option Bool) (v : AV) (n : Nat) (hn : n = tm.length \/ kb = none) (hv : ∀ b, kb = some b -> v = .bool b) : fO (lS kn dst kb n) (aT tm dst v) := by
 cases dst with
 | none => exact h
 | some d =>
  cases kb with
  | none => exact h.set_drop d v
  | some b =>
   have hn' : n = tm.length := by rcases hn with e | e; exact e; exact absurd e (by simp)
   simp only [lS, Go.AE.aT]
   split
   . rename_i hl
     refine (h.set_drop d v).cons ?_
     have hl' : d < tm.length := by rw [<- hn']; exact Nat.le_of_ble_eq_true hl
     rw [ET, if_pos ⟨rfl, hl'⟩, hv b rfl]
   . exact h.set_drop d v
theorem qz {kn : List (Nat × Bool)} {tm : List AV} (h : fO kn tm) {x : Operand} {b : Bool} (hx : qH kn x = some b) (t : TypeId) : aC cx.P tm t x = .bool b := by
 unfold qH at hx
 split at hx
 . exact h _ _ hx
 . cases hx; rfl
 . exact absurd hx (by simp)
theorem U5 {kn : List (Nat × Bool)} {tm : List AV} (h : fO kn tm) {o : Oper} {b ok : Bool} {v : AV} (ho : rU kn o = some b) (hp : bP cx M tm o = some (ok, v)) : v = .bool b := by
 unfold rU at ho
 unfold bP at hp
 split at ho
 . rename_i x e
   simp only [e, Option.some.injEq, Prod.mk.injEq] at hp
   rw [<- hp.2]; exact qz h ho _
 . rename_i x e
   simp only [e, Option.some.injEq, Prod.mk.injEq] at hp
   rw [<- hp.2]; exact qz h ho _
 . rename_i c x y e
   simp only [e] at hp
   split at ho
   . rename_i hc
     rw [qz h hc] at hp
     simp only [Option.some.injEq, Prod.mk.injEq] at hp
     rw [<- hp.2, vD, qz h ho]; rfl
   . rename_i hc
     rw [qz h hc] at hp
     simp only [Option.some.injEq, Prod.mk.injEq] at hp
     rw [<- hp.2, vD, qz h ho]; rfl
   . exact absurd ho (by simp)
 . rename_i t x e
   simp only [e] at hp
   split at ho
   . rename_i c hc
     rw [qz h hc] at hp
     simp only [Ab, okV, Option.some.injEq, Prod.mk.injEq] at hp
     rw [<- hp.2]; exact congrArg _ (Option.some.inj ho)
   . exact absurd ho (by simp)
 . exact absurd ho (by simp)
theorem yC {ops : Array Oper} {o : Oper} {l : List Oper} {k k' : List AV -> T} {kn : List (Nat × Bool)} {tm : List AV} (hkn : fO kn tm) (n : Nat) (hn : n = tm.length)
    (ih : ∀ kn tm, fO kn tm -> (fH cx M ops l kn tm k).at = (eU cx M ops l tm k').at) :
    (stepT cx M o tm fun tm' => fH cx M ops l (lS kn o.dst (rU kn o) n) tm' k).at = (stepT cx M o tm fun tm => eU cx M ops l tm k').at := by
 unfold stepT
 split
 . rename_i ok v hp
   cases ok
   . rfl
   . exact ih _ _ (hkn.aT _ _ _ _ (.inl hn) fun b hb => U5 hkn hb hp)
 . rfl
theorem zD {ops : Array Oper} {k k' : List AV -> T} (hk : ∀ tm, (k tm).at = (k' tm).at) : ∀ (l : List Oper) (kn : List (Nat × Bool)) (tm : List AV), fO kn tm -> (fH cx M ops l kn tm k).at = (eU cx M ops l tm k').at
 | [], kn, tm, _ => hk tm
 | o :: l, kn, tm, hkn => by
  have ih := fun kn tm (h : fO kn tm) => zD (ops := ops) hk l kn tm h
  simp only [fH, eU]
  split
  . exact yC hkn _ rfl ih
  . rename_i j want hgd
    split
    . rfl
    . rename_i gd hgt
      split
      . rename_i b hb
        have hv := hkn _ _ hb
        have hset : tm.set gd (.bool b) = tm := by
         have hl := IV hv
         apply List.ext_getElem? ; intro i
         rw [List.getElem?_set]
         split
         . rename_i e
           subst e
           rw [List.getD, List.getElem?_eq_getElem hl] at hv
           simp only [hl, if_true, List.getElem?_eq_getElem hl]
           exact congrArg some hv.symm
         . rfl
        rw [hv]
        cases b <;> cases want <;> simp only [T.at, if_true, if_false, Bool.false_eq_true, reduceCtorEq, hset, cond_true, cond_false]
        . exact yC hkn _ rfl ih
        . exact ih _ _ (hkn.aT _ none _ _ (.inr rfl) (by simp))
        . exact ih _ _ (hkn.aT _ none _ _ (.inr rfl) (by simp))
        . exact yC hkn _ rfl ih
      . split
        . rename_i b hb
          have hl := IV hb
          have kt : ∀ c : Bool, fO ((gd, c) :: mO gd kn) (tm.set gd (.bool c)) := fun c => (hkn.set_drop gd _).cons (by rw [ET, if_pos ⟨rfl, hl⟩])
          cases b <;> cases want <;> simp only [T.at, if_true, if_false, Bool.false_eq_true, reduceCtorEq, cond_true, cond_false]
          . exact yC (kt _) _ (by simp) ih
          . exact ih _ _ ((kt _).aT _ none _ _ (.inr rfl) (by simp))
          . exact ih _ _ ((kt _).aT _ none _ _ (.inr rfl) (by simp))
          . exact yC (kt _) _ (by simp) ih
        . exact ih _ _ (hkn.aT _ none _ _ (.inr rfl) (by simp))
        . rfl
theorem KD {ops : Array Oper} {j g : Nat} (h : jr ops j = some g) : g ∈ dstsOf ops.toList := by
 unfold jr at h
 split at h
 . rename_i o ho
   have hm : o ∈ ops.toList := by simpa using Array.mem_of_getElem? ho
   generalize ops.toList = l at hm
   induction l with
   | nil => simp at hm
   | cons x l ih =>
    rcases List.mem_cons.1 hm with rfl | hm
    . exact NA h
    . exact Pn (ih hm)
 . exact absurd h (by simp)
theorem Dh {ops : Array Oper} : ∀ (l : List Oper) {t : Nat}, t ∈ eZ ops l -> t ∈ dstsOf ops.toList
 | [], t, h => by simp [eZ] at h
 | o :: l, t, h => by
  simp only [eZ] at h
  split at h
  . split at h
    . rename_i g hg
      rcases List.mem_cons.1 h with rfl | h
      . exact KD hg
      . exact Dh l h
    . exact Dh l h
  . exact Dh l h
theorem tN {D : List Nat} {base : List AV} {p : List AV -> Prop} : ∀ (c : Code) {k : List AV -> T} (tm : List AV), (∀ t ∈ iN c, t ∈ D) -> (∀ tm, Out D base tm -> (k tm).All p) -> Out D base tm -> (kN cx M c tm k).All p
 | .skip, k, tm, _, hk, h => hk tm h
 | .region id ops draw, k, tm, hd, hk, h => EZ hk ops.toList [] tm hd (fun t ht => hd t (Dh ops.toList ht)) h
 | .seq a b, k, tm, hd, hk, h => tN a tm (fun t ht => hd t (List.mem_append_left _ ht)) (fun tm h => tN b tm (fun t ht => hd t (List.mem_append_right _ ht)) hk h) h
 | .cond c a b, k, tm, hd, hk, h => by
  unfold kN
  split
  . exact ⟨tN a tm (fun t ht => hd t (List.mem_append_left _ ht)) hk h, tN b tm (fun t ht => hd t (List.mem_append_right _ ht)) hk h⟩
  . trivial
 | .block .., k, tm, _, _, _ => trivial
 | .loop .., k, tm, _, _, _ => trivial
 | .exit .., k, tm, _, _, _ => trivial
 | .ret, k, tm, _, _, _ => trivial
 | .label .., k, tm, _, _, _ => trivial
 | .goto .., k, tm, _, _, _ => trivial
 | .rangeFunc .., k, tm, _, _, _ => trivial
 | .scope .., k, tm, _, _, _ => trivial
 | .refuse .., k, tm, _, _, _ => trivial
theorem vM : ∀ (c : Code) {k k' : List AV -> T} (tm : List AV), (∀ tm, (k tm).at = (k' tm).at) -> (kN cx M c tm k).at = (mP cx M c tm k').at
 | .skip, k, k', tm, hk => hk tm
 | .region id ops draw, k, k', tm, hk => zD hk ops.toList [] tm (fO.nil tm)
 | .seq a b, k, k', tm, hk => vM a tm fun tm => vM b tm hk
 | .cond c a b, k, k', tm, hk => by
  unfold kN mP
  split
  . rename_i t _
    cases t
    . exact vM b tm hk
    . exact vM a tm hk
  . rfl
 | .block .., k, k', tm, _ => rfl
 | .loop .., k, k', tm, _ => rfl
 | .exit .., k, k', tm, _ => rfl
 | .ret, k, k', tm, _ => rfl
 | .label .., k, k', tm, _ => rfl
 | .goto .., k, k', tm, _ => rfl
 | .rangeFunc .., k, k', tm, _ => rfl
 | .scope .., k, k', tm, _ => rfl
 | .refuse .., k, k', tm, _ => rfl
theorem FZ {ops : Array Oper} {D : List Nat} : ∀ (l : List Oper) (kn : List (Nat × Bool)) (tm : List AV) {tm' : List AV}, (∀ t ∈ eZ ops l, t ∈ D) -> (∀ t ∈ mU l, t ∈ D) -> (fH cx M ops l kn tm .leaf).merge cx.P D = some (true, tm') ->
    ∃ res, (fH cx M ops l kn tm .leaf).at = some res /\ Same res tm'
 | [], kn, tm, tm', _, _, h => by
  simp only [fH, T.merge, Option.some.injEq, Prod.mk.injEq, true_and] at h
  subst h
  exact ⟨tm, rfl, rfl, fun _ => rfl⟩
 | o :: l, kn, tm, tm', hg, hd, h => by
  by_cases hgd : o.guard.isSome = true
  . have hd' : ∀ t ∈ dstsOf (o :: l), t ∈ D := fun t ht => hd t (by simp only [mU, if_pos hgd, List.append_nil]; exact ht)
    exact (tJ (EZ (k := T.leaf) (p := Out D tm) (base := tm) (fun tm h => h) (o :: l) kn tm hd' hg (Out.refl _ _)) h).2 rfl
  . have hn : o.guard = none := by simpa using hgd
    simp only [fH, hn] at h ⊢
    unfold stepT at h ⊢
    split at h
    . rename_i ok v hp
      unfold T.merge at h
      split at h
      . exact absurd h (by simp)
      . rename_i o1 t1 h1 h2
        simp only [Option.some.injEq, Prod.mk.injEq] at h
        obtain ⟨ho, rfl⟩ := h
        cases ok
        . simp at ho
        . simp only [cond_true] at ho
          subst ho
          obtain ⟨res, k1, k2⟩ := FZ l _ _ (fun t ht => hg t (PO ht)) (fun t ht => hd t (by simp only [mU, if_neg hgd]; exact ht)) h1
          exact ⟨res, by simpa [T.at] using k1, k2⟩
      . rename_i o1 t1 h1 h2; simp [T.merge] at h2
      . rename_i o1 t1 o2 t2 h1 h2; simp [T.merge] at h2
    . simp [T.merge] at h
end
section
variable {R : Type} {cx : Ctx} {N d : Nat} {S : Nat -> Nat -> Prop} {w0 : World} {g : G} {fr : Fr} {M : Mm} {a : Act} {w : World}
variable {Q : Exit -> Act -> World -> Prop}
theorem Rel.same {tm tm' : List AV} {tf : List (Nat × TF)} (h : Rel (Env.mk (Ctx.P cx) N S w0) d g ⟨tm, tf⟩ M a w) (hs : Same tm tm') : Rel (Env.mk (Ctx.P cx) N S w0) d g ⟨tm', tf⟩ M a w := by
 refine ⟨h.below, h.hN, h.fresh, h.size.trans hs.1, fun i => hs.2 i ▸ h.tmps i, h.lenr, h.rows, h.inj, fun t ht => ?_, fun t s ht => ?_, fun t r p ht => ?_, h.ro⟩
 . obtain ⟨e, l, ex, k1, k2⟩ := h.own t ht
   exact ⟨e, l, ex, (hs.2 t).symm.trans k1, k2⟩
 . obtain ⟨m1, m2, e, l, ex, l', ex', k1, k2⟩ := h.viaT t s ht
   exact ⟨m1, m2, e, l, ex, l', ex', (hs.2 t).symm.trans k1, (hs.2 s).symm.trans k2⟩
 . obtain ⟨m1, e, l, ex, k1, k2⟩ := h.viaR t r p ht
   exact ⟨m1, e, l, ex, (hs.2 t).symm.trans k1, k2⟩
theorem qR {i : Nat} : ∀ {l : List Nat}, jf i l = true ↔ i ∈ l
 | [] => by simp [jf]
 | j :: r => by
  simp only [jf, List.mem_cons]
  by_cases h : j = i
  . subst h; simp
  . rw [if_neg (fun e => h (Nat.eq_of_beq_eq_true e)), qR]
    exact ⟨.inr, fun e => e.resolve_left (fun e => h e.symm)⟩
theorem LJ (ks : List Nat) : ∀ (i : Nat) (l : List AV), (iq ks i l).length = l.length
 | _, [] => rfl
 | i, v :: vs => by simp [iq, LJ ks (i + 1) vs]
theorem GD (ks : List Nat) : ∀ (l : List AV) (j i : Nat), (iq ks j l).getD i .dead = if j + i ∈ ks then l.getD i .dead else .dead
 | [], j, i => by simp [iq]
 | v :: vs, j, 0 => by
  simp only [iq, List.getD_cons_zero, Nat.add_zero, qR]
 | v :: vs, j, i + 1 => by
  simp only [iq, List.getD_cons_succ]
  rw [GD ks vs (j + 1) i, show j + 1 + i = j + (i + 1) from by omega]
theorem Rel.only {fr : Fr} (h : Rel (Env.mk (Ctx.P cx) N S w0) d g fr M a w) (ks : Option (List Nat)) : Rel (Env.mk (Ctx.P cx) N S w0) d g (fr.only ks) M a w := by
 cases ks with
 | none => exact h
 | some ks =>
  have hget : ∀ i : Nat, i ∈ ks -> (iq ks 0 fr.tmps).getD i .dead = fr.tmps.getD i .dead := fun i hi => by
   rw [GD, Nat.zero_add, if_pos hi]
  have hmem : ∀ {t : Nat} {f : TF}, (t, f) ∈ (Fr.only (some ks) fr).tf -> (t, f) ∈ fr.tf /\ t ∈ ks /\ ∀ s, f = .viaT s -> s ∈ ks := fun {t f} ht => by
   simp only [Fr.only, List.mem_filter, Bool.and_eq_true] at ht
   refine ⟨ht.1, qR.1 ht.2.1, fun s e => ?_⟩
   subst e
   exact qR.1 ht.2.2
  refine ⟨h.below, h.hN, h.fresh, h.size.trans (LJ ks 0 fr.tmps).symm, fun i => ?_, h.lenr, h.rows, h.inj, fun t ht => ?_, fun t s ht => ?_, fun t r p ht => ?_, h.ro⟩
  . show aK _ _ ((iq ks 0 fr.tmps).getD i .dead) _
    rw [GD]
    split
    . exact h.tmps i
    . exact ku _
  . obtain ⟨h1, h2, _⟩ := hmem ht
    obtain ⟨e, l, ex, k1, k2⟩ := h.own t h1
    exact ⟨e, l, ex, (hget t h2).trans k1, k2⟩
  . obtain ⟨h1, h2, h3⟩ := hmem ht
    obtain ⟨m1, m2, e, l, ex, l', ex', k1, k2⟩ := h.viaT t s h1
    have hs := h3 s rfl
    refine ⟨?_, m2, e, l, ex, l', ex', (hget t h2).trans k1, (hget s hs).trans k2⟩
    simp only [Fr.only, List.mem_filter, Bool.and_eq_true]
    exact ⟨m1, qR.2 hs, trivial⟩
  . obtain ⟨h1, h2, _⟩ := hmem ht
    obtain ⟨m1, e, l, ex, k1, k2⟩ := h.viaR t r p h1
    exact ⟨m1, e, l, ex, (hget t h2).trans k1, k2⟩
theorem wX {ro : Option Nat} (hG : cx.Good) {tf : List (Nat × TF)} {ds : List Nat} (hc : Clean ds tf) {res : List AV} : ∀ (c : Code) {k : List AV -> T} {Q : Exit -> Act -> World -> Prop} (tm : List AV) (a : Act) (w : World), gF cx c = true -> (∀ t ∈ iN c, t ∈ ds) -> (mP cx M c tm k).at = some res ->
    Rel (Env.mk (Ctx.P cx) N S w0) d g ⟨tm, tf⟩ M a w -> (∀ tm' a' w', Rel (Env.mk (Ctx.P cx) N S w0) d g ⟨tm', tf⟩ M a' w' -> Below w.heap.size w w' -> a'.defers = a.defers -> (k tm').at = some res -> Q .normal a' w') -> c.wpIn (W ro) 0 cx.P Q a w
 | .skip, k, Q, tm, a, w, _, _, h, hr, hQ => wpIn_skip (hQ tm a w hr (Below.refl _ _) rfl h)
 | .region id ops draw, k, Q, tm, a, w, hp, hd, h, hr, hQ => by
  have hdraw : draw = false := by simp only [gF, Bool.and_eq_true, Bool.not_eq_true'] at hp; exact hp.1
  subst hdraw
  exact wpIn_region_list (Ed hG hc ops.toList tm a w hd h hr hQ)
 | .seq x y, k, Q, tm, a, w, hp, hd, h, hr, hQ => by
  simp only [gF, Bool.and_eq_true] at hp
  refine wpIn_seq (wX hG hc x tm a w hp.1 (fun t ht => hd t (List.mem_append_left _ ht)) h hr fun tm' a' w' hr' hb hdf hk => ?_)
  exact wX hG hc y tm' a' w' hp.2 (fun t ht => hd t (List.mem_append_right _ ht)) hk hr' fun tm2 a2 w2 hr2 hb2 hdf2 hk2 => hQ tm2 a2 w2 hr2 (hb.trans (hb2.mono hb.size)) (hdf2.trans hdf) hk2
 | .cond c x y, k, Q, tm, a, w, hp, hd, h, hr, hQ => by
  simp only [gF, Bool.and_eq_true] at hp
  unfold mP at h
  split at h
  . rename_i t ht
    have hcv := hr.aC 0 c
    have hcv : aK cx.P (aI (Env.mk (Ctx.P cx) N S w0) g w) (.bool t) (a.eval c) := ht ▸ hcv
    have he := eG.1 hcv
    refine wpIn_cond_split he (fun e => ?_) (fun e => ?_)
    . subst e
      exact wX hG hc x tm a w hp.1 (fun t ht => hd t (List.mem_append_left _ ht)) (by simpa [T.at] using h) hr hQ
    . subst e
      exact wX hG hc y tm a w hp.2 (fun t ht => hd t (List.mem_append_right _ ht)) (by simpa [T.at] using h) hr hQ
  . simp [T.at] at h
 | .block .., k, Q, tm, a, w, hp, _, _, _, _ => by simp [gF] at hp
 | .loop .., k, Q, tm, a, w, hp, _, _, _, _ => by simp [gF] at hp
 | .exit .., k, Q, tm, a, w, hp, _, _, _, _ => by simp [gF] at hp
 | .ret, k, Q, tm, a, w, hp, _, _, _, _ => by simp [gF] at hp
 | .label .., k, Q, tm, a, w, hp, _, _, _, _ => by simp [gF] at hp
 | .goto .., k, Q, tm, a, w, hp, _, _, _, _ => by simp [gF] at hp
 | .rangeFunc .., k, Q, tm, a, w, hp, _, _, _, _ => by simp [gF] at hp
 | .scope .., k, Q, tm, a, w, hp, _, _, _, _ => by simp [gF] at hp
 | .refuse .., k, Q, tm, a, w, hp, _, _, _, _ => by simp [gF] at hp
end
end Go.AE

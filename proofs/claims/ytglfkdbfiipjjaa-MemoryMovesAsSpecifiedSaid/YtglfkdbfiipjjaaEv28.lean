/- A law's arguments, read as abstract values. -/
import Derived.Test.YtglfkdbfiipjjaaEv27
import Derived.ProofKit
import Derived.OpenShut
import Derived.ChangeOld
import Derived.DataReads
set_option linter.unusedVariables false
set_option linter.unusedSimpArgs false
namespace Go.AE
open Go.RowKit Go.Lib

def HasL (P : AV → TypeId → Prop) : List TypeId → List AV → Prop
  | [], [] => True
  | t :: ts, v :: vs => P v t ∧ HasL P ts vs
  | _, _ => False
/-- What an argument of a type may be: any value, read as deep as it goes. -/
def Has (P : Program) : Nat → TypeId → AV → Prop
  | 0, _, _ => False
  | d + 1, t, v =>
    match P.underlying t with
    | some .bool => ∃ b, v = .bool b
    | some (.int k) => ∃ n, v = .int k n ∧ (Lit.int k n).wf = true
    | some .string => ∃ s, v = .str s ∧ s.length ≤ maxLen
    | some (.struct fs) => ∃ ps, v = .agg (uid P t) ps ∧ HasL (fun v t => Has P d t v) (fs.toList.map (·.type)) ps
    | some (.array n e) => ∃ ps, v = .agg (uid P t) ps ∧ ps.length = n ∧ ∀ u ∈ ps, Has P d e u
    | some (.slice e) => ∃ l, v = .slice e l false ∧ l.length ≤ maxLen ∧ ∀ u ∈ l, Has P d e u
    | _ => False
def readFs (rec : TypeId → Bool) : List Field → Bool
  | [] => true
  | f :: fs => rec f.type && readFs rec fs
/-- Types that are read so. -/
def readT (P : Program) : Nat → TypeId → Bool
  | 0, _ => false
  | d + 1, t =>
    match P.underlying t with
    | some .bool | some (.int _) | some .string => Nat.beq (P.cellsOf t) 1
    | some (.struct fs) => readFs (readT P d) fs.toList && offsGo P 0 fs.toList && likeT P (uid P t) t && Nat.beq ((fs.toList.map fun f => P.cellsOf f.type).sum) (P.cellsOf t)
    | some (.array n e) => readT P d e && likeT P (uid P t) t && Nat.beq (n * P.cellsOf e) (P.cellsOf t)
    | some (.slice e) => readT P d e && Nat.beq (P.cellsOf t) 1 && Nat.blt 0 (P.cellsOf e)
    | _ => false
section
variable {P : Program} {H : Type} {enc : TypeId × Value → H} {W : World}
def readX (W : World) : X := ⟨[], fun _ _ => True, W, false⟩
def Read (P : Program) (W : World) (d : Nat) (t : TypeId) (cs : List Value) : Prop := ∃ v, Has P d t v ∧ rel P (readX W) v cs ∧ cs.length = P.cellsOf t ∧ fits P t v = true
theorem read_st {d fuel : Nat} (ih : ∀ (t : TypeId) (cs : List Value) x, DataW.trod enc P W 0 (fun _ => true) true fuel t cs = some x → readT P d t = true → Read P W d t cs) :
    ∀ (fs : List Field) (o : Nat) (pre cs : List Value) (xs : List (DataW H × List MemPlace)), offsGo P o fs = true → readFs (readT P d) fs = true → pre.length = o → cs.length = (fs.map fun f => P.cellsOf f.type).sum →
      fs.mapM (fun f => DataW.trod enc P W 0 (fun _ => true) true fuel f.type (((pre ++ cs).drop f.offset).take (P.cellsOf f.type))) = some xs → ∃ ps, HasL (fun v t => Has P d t v) (fs.map (·.type)) ps ∧ relSt P (readX W) (fs.map (·.type)) ps cs
  | [], o, pre, cs, xs, _, _, _, hl, _ => ⟨[], trivial, List.eq_nil_of_length_eq_zero (by simpa using hl)⟩
  | f :: fs, o, pre, cs, xs, ho, hr, hp, hl, hm => by
    simp only [offsGo, Bool.and_eq_true] at ho
    simp only [readFs, Bool.and_eq_true] at hr
    have hoff := Nat.eq_of_beq_eq_true ho.1
    simp only [List.map_cons, List.sum_cons] at hl
    simp only [List.mapM_cons, Option.bind_eq_bind, Option.bind_eq_some_iff, Option.pure_def, Option.some.injEq] at hm
    obtain ⟨x, hx, ys, hys, _⟩ := hm
    have e1 : ((pre ++ cs).drop f.offset).take (P.cellsOf f.type) = cs.take (P.cellsOf f.type) := by rw [hoff, ← hp]; simp
    rw [e1] at hx
    obtain ⟨v, h1, h2, h3, h4⟩ := ih _ _ _ hx hr.1
    have e2 : pre ++ cs = (pre ++ cs.take (P.cellsOf f.type)) ++ cs.drop (P.cellsOf f.type) := by simp
    rw [e2] at hys
    obtain ⟨ps, k1, k2⟩ := read_st ih fs (o + P.cellsOf f.type) (pre ++ cs.take (P.cellsOf f.type)) (cs.drop (P.cellsOf f.type)) ys ho.2 hr.2 (by rw [List.length_append, hp, h3]) (by rw [List.length_drop, hl]; omega) hys
    exact ⟨v :: ps, ⟨h1, k1⟩, _, _, (List.take_append_drop (P.cellsOf f.type) cs).symm, h2, h3, h4, k2⟩
theorem read_ar {d fuel : Nat} {e : TypeId} (ih : ∀ (cs : List Value) x, DataW.trod enc P W 0 (fun _ => true) true fuel e cs = some x → Read P W d e cs) :
    ∀ (n i : Nat) (pre cs : List Value) (xs : List (DataW H × List MemPlace)), pre.length = i * P.cellsOf e → cs.length = n * P.cellsOf e →
      (List.range' i n).mapM (fun i => DataW.trod enc P W 0 (fun _ => true) true fuel e (((pre ++ cs).drop (i * P.cellsOf e)).take (P.cellsOf e))) = some xs → ∃ ps : List AV, ps.length = n ∧ (∀ u ∈ ps, Has P d e u) ∧ relAr P (readX W) e ps cs
  | 0, i, pre, cs, xs, _, hl, _ => ⟨[], rfl, by simp, List.eq_nil_of_length_eq_zero (by simpa using hl)⟩
  | n + 1, i, pre, cs, xs, hp, hl, hm => by
    rw [Nat.add_mul] at hl
    simp only [List.range'_succ, List.mapM_cons, Option.bind_eq_bind, Option.bind_eq_some_iff, Option.pure_def, Option.some.injEq] at hm
    obtain ⟨x, hx, ys, hys, _⟩ := hm
    have e1 : ((pre ++ cs).drop (i * P.cellsOf e)).take (P.cellsOf e) = cs.take (P.cellsOf e) := by rw [← hp]; simp
    rw [e1] at hx
    obtain ⟨v, h1, h2, h3, h4⟩ := ih _ _ hx
    have e2 : pre ++ cs = (pre ++ cs.take (P.cellsOf e)) ++ cs.drop (P.cellsOf e) := by simp
    rw [e2] at hys
    obtain ⟨ps, k0, k1, k2⟩ := read_ar ih n (i + 1) (pre ++ cs.take (P.cellsOf e)) (cs.drop (P.cellsOf e)) ys (by rw [List.length_append, hp, h3, Nat.add_mul, Nat.one_mul]) (by rw [List.length_drop, hl]; omega) hys
    refine ⟨v :: ps, by simp [k0], fun u hu => ?_, _, _, (List.take_append_drop (P.cellsOf e) cs).symm, h2, h3, h4, k2⟩
    rcases List.mem_cons.1 hu with rfl | hu
    · exact h1
    · exact k1 u hu
theorem fits_agg {t : TypeId} {ps : List AV} (h : likeT P (uid P t) t = true) (hA : tyA P t = true) : fits P t (.agg (uid P t) ps) = true := by simp [fits, h, hA]
theorem read_sl {d fuel : Nat} {e : TypeId} {b o : Nat} (ih : ∀ (cs : List Value) x, DataW.trod enc P W 0 (fun _ => true) true fuel e cs = some x → Read P W d e cs) :
    ∀ (n i : Nat) (xs : List (DataW H × List MemPlace)),
      (List.range' i n).mapM (fun i => (W.cells? 0 ((⟨b, o, none⟩ : Addr).add (i * P.cellsOf e)) (P.cellsOf e)).bind (DataW.trod enc P W 0 (fun _ => true) true fuel e)) = some xs → ∃ l : List AV, l.length = n ∧ (∀ u ∈ l, Has P d e u) ∧ relSl P (readX W) e b (o + i * P.cellsOf e) l
  | 0, i, xs, _ => ⟨[], rfl, by simp, trivial⟩
  | n + 1, i, xs, hm => by
    simp only [List.range'_succ, List.mapM_cons, Option.bind_eq_bind, Option.bind_eq_some_iff, Option.pure_def, Option.some.injEq] at hm
    obtain ⟨x, ⟨cs, hcs, hx⟩, ys, hys, _⟩ := hm
    obtain ⟨_, hlen, hcell⟩ := World.cells?_some hcs
    obtain ⟨v, h1, h2, h3, h4⟩ := ih _ _ hx
    obtain ⟨l, k0, k1, k2⟩ := read_sl ih n (i + 1) ys hys
    refine ⟨v :: l, by simp [k0], fun u hu => ?_, ⟨cs, h2, h3, h4, fun j u hu => ⟨trivial, ?_⟩⟩, ?_⟩
    · rcases List.mem_cons.1 hu with rfl | hu
      · exact h1
      · exact k1 u hu
    · have := hcell j (by have := (List.getElem?_eq_some_iff.1 hu).1; omega)
      rw [Addr.add_lit, Addr.add_lit] at this
      exact this.trans hu
    · have e1 : o + (i + 1) * P.cellsOf e = o + i * P.cellsOf e + P.cellsOf e := by rw [Nat.add_mul]; omega
      rwa [e1] at k2
theorem one_cell {P : Program} {t : TypeId} {cs : List Value} {x : DataW H × List MemPlace} {fuel : Nat} (h : DataW.trod enc P W 0 (fun _ => true) true (fuel + 1) t cs = some x) (hu : (∃ k, P.underlying t = some (.int k)) ∨ P.underlying t = some .bool ∨ P.underlying t = some .string ∨ ∃ e, P.underlying t = some (.slice e)) : ∃ c, cs = [c] := by
  match cs with
  | [c] => exact ⟨c, rfl⟩
  | [] => rcases hu with ⟨k, hu⟩ | hu | hu | ⟨e, hu⟩ <;> simp [DataW.trod, hu] at h
  | c :: c' :: r => rcases hu with ⟨k, hu⟩ | hu | hu | ⟨e, hu⟩ <;> simp [DataW.trod, hu] at h
theorem read_trod : ∀ (fuel d : Nat) (t : TypeId) (cs : List Value) (x : DataW H × List MemPlace), DataW.trod enc P W 0 (fun _ => true) true fuel t cs = some x → readT P d t = true → Read P W d t cs
  | 0, d, t, cs, x, h, _ => by simp [DataW.trod] at h
  | fuel + 1, 0, t, cs, x, _, hr => by simp [readT] at hr
  | fuel + 1, d + 1, t, cs, x, h, hr => by
    have ih := read_trod fuel d
    simp only [readT] at hr
    unfold Read
    simp only [Has]
    split at hr
    · rename_i hu
      obtain ⟨c, rfl⟩ := one_cell h (.inr (.inl hu))
      have h1 := Nat.eq_of_beq_eq_true hr
      cases c <;> simp [DataW.trod, hu] at h
      rename_i b
      try simp only [hu]
      exact ⟨.bool b, ⟨b, rfl⟩, rfl, by simp [h1], by simp [fits, leafOK, tyA, hu]⟩
    · rename_i k hu
      obtain ⟨c, rfl⟩ := one_cell h (.inl ⟨k, hu⟩)
      have h1 := Nat.eq_of_beq_eq_true hr
      cases c <;> simp [DataW.trod, hu] at h
      rename_i k' n
      obtain ⟨⟨rfl, hw⟩, _⟩ := h
      try simp only [hu]
      exact ⟨.int k' n, ⟨n, rfl, hw⟩, rfl, by simp [h1], by simp [fits, leafOK, tyA, hu]⟩
    · rename_i hu
      obtain ⟨c, rfl⟩ := one_cell h (.inr (.inr (.inl hu)))
      have h1 := Nat.eq_of_beq_eq_true hr
      cases c <;> simp [DataW.trod, hu] at h
      rename_i s
      try simp only [hu]
      refine ⟨.str s.data.toList, ⟨_, rfl, by rw [Array.length_toList]; exact h.1⟩, ?_, by simp [h1], by simp [fits, leafOK, tyA, hu]⟩
      simp [rel]
    · rename_i fs hu
      simp only [Bool.and_eq_true] at hr
      obtain ⟨⟨⟨r1, r2⟩, r3⟩, r4⟩ := hr
      have hsum := Nat.eq_of_beq_eq_true r4
      have hA : tyA P t = true := by simp [tyA, hu]
      have hu' := (like_under r3).trans hu
      simp only [DataW.trod, hu] at h
      split at h
      · rename_i hlen
        obtain ⟨xs, hxs, _⟩ := Option.map_eq_some_iff.1 h
        obtain ⟨ps, k1, k2⟩ := read_st (fuel := fuel) (d := d) (fun t cs x h hr => ih t cs x h hr) fs.toList 0 [] cs xs r2 r1 rfl (by rw [hlen, hsum]) (by simpa using hxs)
        try simp only [hu]
        exact ⟨_, ⟨ps, rfl, k1⟩, mk_struct hu' (by rw [hlen, like_cells r3]) k2, hlen, fits_agg r3 hA⟩
      · exact absurd h (by simp)
    · rename_i n e hu
      simp only [Bool.and_eq_true] at hr
      obtain ⟨⟨r1, r3⟩, r4⟩ := hr
      have hsum := Nat.eq_of_beq_eq_true r4
      have hA : tyA P t = true := by simp [tyA, hu]
      have hu' := (like_under r3).trans hu
      simp only [DataW.trod, hu] at h
      split at h
      · rename_i hlen
        obtain ⟨xs, hxs, _⟩ := Option.map_eq_some_iff.1 h
        obtain ⟨ps, k0, k1, k2⟩ := read_ar (fuel := fuel) (d := d) (fun cs x h => ih e cs x h r1) n 0 [] cs xs (by simp) (by rw [hlen, hsum]) (by simpa [List.range_eq_range'] using hxs)
        try simp only [hu]
        exact ⟨_, ⟨ps, rfl, k0, k1⟩, mk_array hu' (by rw [hlen, like_cells r3]) k0 k2, hlen, fits_agg r3 hA⟩
      · exact absurd h (by simp)
    · rename_i e hu
      simp only [Bool.and_eq_true] at hr
      obtain ⟨⟨r1, r2⟩, r3⟩ := hr
      have h1 := Nat.eq_of_beq_eq_true r2
      obtain ⟨c, rfl⟩ := one_cell h (.inr (.inr (.inr ⟨e, hu⟩)))
      have hfit : ∀ l, fits P t (.slice e l false) = true := fun l => by simp [fits, leafOK, tyA, hu]
      try simp only [hu]
      have done : ∀ base len cap, c = .slice base len cap → (∃ l : List AV, l.length = len ∧ len ≤ cap ∧ len ≤ maxLen ∧ (∀ u ∈ l, Has P d e u) ∧ (len = 0 ∨ ∃ b o, base = some ⟨b, o, none⟩ ∧ relSl P (readX W) e b o l)) →
          ∃ v, (∃ l, v = .slice e l false ∧ l.length ≤ maxLen ∧ ∀ u ∈ l, Has P d e u) ∧ rel P (readX W) v [c] ∧ [c].length = P.cellsOf t ∧ fits P t v = true := by
        rintro base len cap rfl ⟨l, k1, k2, k3, k4, k5⟩
        subst k1
        refine ⟨.slice e l false, ⟨l, rfl, k3, k4⟩, ⟨base, _, cap, rfl, rfl, k2, fun k => absurd k (by simp), k5⟩, by simp [h1], hfit l⟩
      cases c <;> try (simp [DataW.trod, hu] at h; done)
      rename_i base len cap
      refine done base len cap rfl ?_
      cases base with
      | none =>
        simp only [DataW.trod, hu] at h
        split at h <;> simp_all
      | some ad =>
        simp only [DataW.trod, hu] at h
        split at h
        · rename_i hc
          obtain ⟨elems, hel, _⟩ := Option.bind_eq_some_iff.1 h
          rcases Nat.eq_zero_or_pos len with h0 | h0
          · subst h0
            exact ⟨[], rfl, by omega, by simp, by simp, .inl rfl⟩
          · have hsp : ad.spot = none := by
              have hg := mapM_some_get hel 0 0 (by simp [h0])
              have hlen := mapM_some_length hel
              obtain ⟨e0, hx⟩ : ∃ e0, elems[0]? = some e0 := ⟨_, List.getElem?_eq_getElem (by rw [hlen]; simpa using h0)⟩
              rw [hx] at hg
              obtain ⟨cs0, hcs0, _⟩ := Option.bind_eq_some_iff.1 hg
              obtain ⟨_, hl, hcell⟩ := World.cells?_some hcs0
              have hpos := Nat.blt_eq.mp r3
              have hc0 := hcell 0 hpos
              rw [List.getElem?_eq_getElem (by omega)] at hc0
              simp only [Nat.zero_mul, Addr.add, if_true] at hc0
              unfold World.cell? at hc0
              split at hc0
              · split at hc0
                · exact absurd hc0 (by simp)
                · rename_i hs; simpa using hs
              · exact absurd hc0 (by simp)
            obtain ⟨b, o, sp⟩ := ad
            simp only at hsp
            subst hsp
            obtain ⟨l, k0, k1, k2⟩ := read_sl (fuel := fuel) (d := d) (fun cs x h => ih e cs x h r1) len 0 elems (by simpa [List.range_eq_range'] using hel)
            exact ⟨l, k0, hc.2.1, Nat.le_trans hc.2.1 hc.2.2, k1, .inr ⟨b, o, rfl, by simpa using k2⟩⟩
        · exact absurd h (by simp)
    · exact absurd hr (by simp)
end
end Go.AE

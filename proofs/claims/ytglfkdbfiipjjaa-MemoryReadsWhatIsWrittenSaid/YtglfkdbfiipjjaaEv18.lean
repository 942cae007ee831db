/- Appends. -/
import Derived.Test.YtglfkdbfiipjjaaEv17
import Derived.Laws.AppendOwn
set_option linter.unusedVariables false
set_option linter.unusedSimpArgs false
namespace Go.AE
open Go.RowKit Go.Lib
section
variable {P : Program}

def seqT (P : Program) (u : TypeId) : Prop := (∃ e, P.underlying u = some (.slice e)) ∨ P.underlying u = some .string
theorem run_append_head {w : World} {t u ty e : TypeId} {base : Option Addr} {sLen sCap n : Nat} {c : Value} {news : Array Value} (ht : P.underlying t = some (.slice e)) (hu : seqT P u) (hi : (P.info? e).isSome = true)
    (hlen : (Builtin.lenOf c).run P w = .ok n w) (hroom : sLen + n ≤ sCap) (hfc : (Builtin.firstCells (P.cellsOf e) n c).run P w = .ok news w) :
    (Builtin.append_ #[t, u] ty #[.slice base sLen sCap, c]).run P w =
      match base with
      | some a => ((storeCells (a.add (sLen * P.cellsOf e)) news.toList).run P w).andThen fun _ w' => .ok (.slice base (sLen + n) sCap) w'
      | none => .ok (.slice base (sLen + n) sCap) w := by
  obtain ⟨i, hi⟩ := Option.isSome_iff_exists.mp hi
  have hsz := run_sizeOf w hi
  rcases hu with ⟨e', hu⟩ | hu
  · cases base <;> simp [Builtin.append_, run_underlying ht, run_underlying hu, hsz, hlen, hroom, hfc]
  · cases base <;> simp [Builtin.append_, run_underlying ht, run_underlying hu, hsz, hlen, hroom, hfc]
theorem run_append_new {w : World} {t u ty e : TypeId} {base : Option Addr} {sLen sCap n : Nat} {c z : Value} {olds news : Array Value} (ht : P.underlying t = some (.slice e)) (hu : seqT P u) (hi : (P.info? e).isSome = true)
    (hz : ∀ w', (zeroValue e).run P w' = .ok z w')
    (hlen : (Builtin.lenOf c).run P w = .ok n w) (hroom : ¬ sLen + n ≤ sCap) (h63 : ((sLen + n : Nat) : Int) ≤ 9223372036854775807) (hfit : Builtin.nextslicecap (sLen + n) sCap * P.bytesOf e ≤ 281474976710656)
    (hfo : (Builtin.firstCells (P.cellsOf e) sLen (.slice base sLen sCap)).run P w.drew = .ok olds w.drew)
    (hfc : (Builtin.firstCells (P.cellsOf e) n c).run P w.drew = .ok news w.drew) :
    (Builtin.append_ #[t, u] ty #[.slice base sLen sCap, c]).run P w =
      .ok (.slice (some ⟨w.heap.size, 0, none⟩) (sLen + n) (grownCap w (sLen + n) sCap e))
        (w.drew.alloc (.cells (olds ++ news ++ Builtin.zeroCells z.cells (grownCap w (sLen + n) sCap e - (sLen + n))) e)) := by
  obtain ⟨i, hi⟩ := Option.isSome_iff_exists.mp hi
  have hb : P.bytesOf e = i.bytes := by simp [Program.bytesOf, hi]
  have hc : P.cellsOf e = i.size := by simp [Program.cellsOf, hi]
  have h63' : ¬ (9223372036854775807 < ((sLen : Int) + (n : Int))) := by omega
  have h48' : ¬ (281474976710656 < Builtin.nextslicecap (sLen + n) sCap * i.bytes) := by rw [← hb]; omega
  rw [hc] at hfo hfc
  rcases hu with ⟨e', hu⟩ | hu
  · simp [Builtin.append_, run_underlying ht, run_underlying hu, sizeOf, typeInfo, hi, hlen, hroom, h63', h48', Question.forced, hfo, hfc, hz, newRow, grownCap]
  · simp [Builtin.append_, run_underlying ht, run_underlying hu, sizeOf, typeInfo, hi, hlen, hroom, h63', h48', Question.forced, hfo, hfc, hz, newRow, grownCap]
theorem cell?_heap {w w' : World} (h : w'.heap = w.heap) (a : Addr) : w'.cell? a = w.cell? a := World.cell?_of_block (by rw [h])
theorem run_loadAt {w w' : World} {b o : Nat} {cs : List Value} (hh : w'.heap = w.heap) (h : ∀ i v, cs[i]? = some v → w.cell? ⟨b, o + i, none⟩ = some v) : (loadCells ⟨b, o, none⟩ cs.length).run P w' = .ok cs.toArray w' :=
  run_loadCells_list (P := P) w' ⟨b, o, none⟩ cs fun j v hv => by rw [Addr.add_lit, cell?_heap hh]; exact h j v hv
end
section
variable {R : Type} {cx : Ctx} {N d : Nat} {S : Nat → Nat → Prop} {w0 : World} {g : G} {fr : Fr} {M : Mm} {a : Act} {w : World}

/-- The first elements of what is appended or copied. -/
theorem appended_from (hr : Rel (Env.mk (Ctx.P cx) N S w0) d g fr M a w) {elem : TypeId} {v : AV} {c : Value} {l2 : List AV} (hv : relV cx.P (xOf (Env.mk (Ctx.P cx) N S w0) g w) v c) (h : appended cx.P M elem v = some l2) (h0 : 0 < cx.P.cellsOf elem) :
    ∃ news, relAr cx.P (xOf (Env.mk (Ctx.P cx) N S w0) g w).imm elem l2 news ∧ (∀ w', (Builtin.lenOf c).run cx.P w' = .ok l2.length w') ∧ ∀ n w', n ≤ l2.length → w'.heap = w.heap → (Builtin.firstCells (cx.P.cellsOf elem) n c).run cx.P w' = .ok (news.take (n * cx.P.cellsOf elem)).toArray w' := by
  have tk : ∀ {l : List AV} {cs : List Value} {n : Nat}, relAr cx.P (xOf (Env.mk (Ctx.P cx) N S w0) g w).imm elem l cs → n ≤ l.length → (cs.take (n * cx.P.cellsOf elem)).length = n * cx.P.cellsOf elem := fun {l cs n} k hn => by
    rw [List.length_take, relAr_len k]
    exact Nat.min_eq_left (Nat.mul_le_mul_right _ hn)
  have tk2 : ∀ {cs : List Value} {m i : Nat} {u : Value}, (cs.take m)[i]? = some u → cs[i]? = some u := fun {cs m i u} hu => by
    rw [List.getElem?_take] at hu
    split at hu
    · exact hu
    · exact absurd hu (by simp)
  unfold appended at h
  split at h
  · rename_i e l ex
    split at h
    · rename_i he
      have he := Nat.eq_of_beq_eq_true he
      subst he
      obtain rfl := Option.some.inj h
      obtain ⟨base, len, cap, rfl, rfl, h2, h3, h4⟩ := relV_slice hv
      rcases h4 with h4 | ⟨b, o, rfl, h4⟩
      · have : l = [] := List.eq_nil_of_length_eq_zero h4
        subst this
        refine ⟨[], rfl, fun w' => by simp [Builtin.lenOf], fun n w' hn hh => ?_⟩
        obtain rfl : n = 0 := by simpa using hn
        cases base with
        | none => simp [Builtin.firstCells]
        | some ad => simpa [Builtin.firstCells] using run_loadCells_list (P := cx.P) w' ad [] (fun j v hv => by simp at hv)
      · obtain ⟨cs, k1, k2⟩ := relSl_cells h4
        refine ⟨cs, k1, fun w' => by simp [Builtin.lenOf], fun n w' hn hh => ?_⟩
        simp only [Builtin.firstCells]
        have := run_loadAt (P := cx.P) (b := b) (o := o) (cs := cs.take (n * cx.P.cellsOf e)) hh fun i v hv => (k2 i v (tk2 hv)).2
        rwa [tk k1 hn] at this
    · exact absurd h (by simp)
  · rename_i s
    split at h
    · rename_i he
      simp only [Bool.and_eq_true] at he
      obtain rfl := Option.some.inj h
      obtain rfl := relV_str.1 hv
      have h1 := Nat.eq_of_beq_eq_true he.2
      refine ⟨s.map fun b => Value.int .u8 (b.toNat : Int), relAr_bytes he.1 h1 s, fun w' => by simp [Builtin.lenOf, ByteArray.size], fun n w' hn hh => ?_⟩
      have : ((ByteArray.mk s.toArray).extract 0 n).data = (s.take n).toArray := by
        apply Array.ext'
        simp
      simp only [Builtin.firstCells, this]
      rw [h1, Nat.mul_one, ← List.map_take]
      simp
    · exact absurd h (by simp)
  · rename_i r p e off coff len
    split at h
    · rename_i he
      simp only [Bool.and_eq_true] at he
      have hee := Nat.eq_of_beq_eq_true he.1
      subst hee
      obtain rfl := Option.some.inj h
      obtain ⟨b, root, n0, o0, m1, m2, m3, m4, base, cap, m5, rfl, m6⟩ := relV_msl hv
      obtain ⟨cs, ty, k1, k2⟩ : ∃ cs ty, w.heap[b]? = some (.cells cs ty (0, 0)) ∧ RowC cx.P (xOf (Env.mk (Ctx.P cx) N S w0) g w) root (M.rows.getD r (.arr 0 [])) cs.toList := by
        have := hr.rowsOK r b root m1
        rcases m2 with ⟨rfl, rfl, rfl⟩ | ⟨t, m2, hu⟩
        · revert this
          cases M.rows.getD r (.arr 0 []) with
          | map k e es => intro hk; exact absurd hk.1 (by simp)
          | var t v => exact id
          | arr e l => exact id
        · exact rowOK_cells this m2
      obtain ⟨j1, pre, c, post, j2, j3, j4, _⟩ := rowC_elems k2 m2
      have hlen : (sub ((M.rows.getD r (.arr 0 [])).elems p) off (off + len)).length = len := by simp only [sub, List.length_drop, List.length_take, j1]; omega
      have hra : relAr cx.P (xOf (Env.mk (Ctx.P cx) N S w0) g w) e (sub ((M.rows.getD r (.arr 0 [])).elems p) off (off + len)) ((c.take ((off + len) * cx.P.cellsOf e)).drop (off * cx.P.cellsOf e)) := relAr_drop off (relAr_take (off + len) j4)
      have hri : relAr cx.P (xOf (Env.mk (Ctx.P cx) N S w0) g w).imm e _ _ := flat_ar _ 20 he.2 hra
      refine ⟨_, hri, fun w' => by rw [hlen]; simp [Builtin.lenOf], fun n w' hn hh => ?_⟩
      rw [hlen] at hn
      have hnl : (((c.take ((off + len) * cx.P.cellsOf e)).drop (off * cx.P.cellsOf e)).take (n * cx.P.cellsOf e)).length = n * cx.P.cellsOf e := tk hri (by rw [hlen]; exact hn)
      rcases Nat.eq_zero_or_pos n with h0' | h0'
      · subst h0'
        rw [Nat.zero_mul, List.take_zero]
        cases base with
        | none => simp [Builtin.firstCells]
        | some ad => simpa [Builtin.firstCells] using run_loadCells_list (P := cx.P) w' ad [] (fun j v hv => by simp at hv)
      · obtain rfl := m6 (by omega)
        simp only [Builtin.firstCells]
        conv => lhs; rw [← hnl]
        refine run_loadAt hh fun i u hu => ?_
        have hu := tk2 hu
        rw [List.getElem?_drop, List.getElem?_take] at hu
        split at hu
        · rw [cell_heap k1, ← Array.getElem?_toList, j2, m4, List.append_assoc, List.getElem?_append_right (by omega), List.getElem?_append_left (by have := (List.getElem?_eq_some_iff.1 hu).1; omega)]
          rw [← hu]
          congr 1
          omega
        · exact absurd hu (by simp)
    · exact absurd h (by simp)
  · exact absurd h (by simp)
/-- What is appended. -/
theorem appended_src (hr : Rel (Env.mk (Ctx.P cx) N S w0) d g fr M a w) {elem : TypeId} {v : AV} {c : Value} {l2 : List AV} (hv : relV cx.P (xOf (Env.mk (Ctx.P cx) N S w0) g w) v c) (h : appended cx.P M elem v = some l2) (h0 : 0 < cx.P.cellsOf elem) :
    ∃ news, relAr cx.P (xOf (Env.mk (Ctx.P cx) N S w0) g w).imm elem l2 news ∧ (∀ w', (Builtin.lenOf c).run cx.P w' = .ok l2.length w') ∧ ∀ w', w'.heap = w.heap → (Builtin.firstCells (cx.P.cellsOf elem) l2.length c).run cx.P w' = .ok news.toArray w' := by
  obtain ⟨news, h1, h2, h3⟩ := appended_from hr hv h h0
  refine ⟨news, h1, h2, fun w' hh => ?_⟩
  rw [h3 l2.length w' (Nat.le_refl _) hh, ← relAr_len h1, List.take_length]
end
end Go.AE

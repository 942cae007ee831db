/- What a step leaves: the processor, the whole. -/
import Derived.Test.YtcknhfnbdgleiaaCor17
set_option linter.unusedVariables false
set_option linter.unusedSimpArgs false
namespace Go.Proofs.Ytcknhfnbdgleiaa
open Go.AE

theorem Kj (l : List Nat) (i v j : Nat) : ru (l.set i v) j = if i = j ∧ j < l.length then v else ru l j := by
 unfold ru
 simp only [List.getD_eq_getElem?_getD, List.getElem?_set]
 by_cases h : i = j
 · subst h
   by_cases h2 : i < l.length
   · simp [h2]
   · simp [h2]
 · simp [h]
theorem xA {l : List Nat} {i v j : Nat} (h : i ≠ j) : ru (l.set i v) j = ru l j := by rw [Kj, if_neg (fun hh => h hh.1)]
theorem ru_eq {l : List Nat} {i v : Nat} (h : i < l.length) : ru (l.set i v) i = v := by rw [Kj, if_pos ⟨rfl, h⟩]
theorem setR_0 (r : List Nat) (a v : Nat) : ru (setR r a v) 0 = ru r 0 := by
 unfold setR
 cases h : a == 0 with
 | true => rfl
 | false => rw [cond_false, xA (by simpa using h)]
theorem setR_w {r : List Nat} (hl : r.length = 16) (h : ∀ n ∈ r, n < 4294967296) (a : Nat) {v : Nat} (hv : v < 4294967296) : (setR r a v).length = 16 ∧ ∀ n ∈ setR r a v, n < 4294967296 := by
 unfold setR
 cases a == 0 with
 | true => exact ⟨hl, h⟩
 | false => exact ⟨by simpa using hl, CW h hv⟩
/-- A processor that can be, and is valid. -/
structure Wv (x : Cp) : Prop where
 w : Wc x
 v : Vc x
theorem Wv.r {x : Cp} (h : Wv x) (a : Nat) {v : Nat} (hv : v < 4294967296) : Wv { x with r := setR x.r a v } := by
 obtain ⟨s1, s2⟩ := setR_w h.w.rl h.w.r a hv
 exact ⟨⟨h.w.pc, s1, h.w.cl, s2, h.w.c⟩, ⟨by rw [show ru (setR x.r a v) 0 = ru x.r 0 from setR_0 ..]; exact h.v.r0, h.v.c5, h.v.c7, h.v.c8, h.v.n, h.v.wh⟩⟩
theorem Wv.pc {x : Cp} (h : Wv x) {n : Nat} (hn : n < 4294967296) : Wv { x with pc := n } := ⟨⟨hn, h.w.rl, h.w.cl, h.w.r, h.w.c⟩, ⟨h.v.r0, h.v.c5, h.v.c7, h.v.c8, h.v.n, h.v.wh⟩⟩
theorem Wv.nxt {c : Cp} (h : Wv c) (hc : c.count < 1099511627776) : Wv (nxt c) :=
 ⟨NG h.w, ⟨h.v.r0, h.v.c5, h.v.c7, h.v.c8, by show c.count + 1 ≤ _; omega, fun hh => by exact absurd hh (by simp [_root_.Go.Proofs.Ytcknhfnbdgleiaa.nxt])⟩⟩
theorem Wv.trp {c : Cp} (h : Wv c) (hc : c.count < 1099511627776) {cause value epc : Nat} (h1 : cause < 4294967296) (h2 : value < 4294967296) (h3 : epc < 4294967296) : Wv (trp c cause value epc) := by
 have hs : status { c with waits := false, count := c.count + 1 } ≤ 6 := by unfold status; split <;> split <;> omega
 have hcl := h.w.cl
 refine ⟨trp_wc h.w h1 h2 h3, ⟨h.v.r0, ?_, ?_, ?_, by show c.count + 1 ≤ _; omega, fun hh => by exact absurd hh (by simp [_root_.Go.Proofs.Ytcknhfnbdgleiaa.trp, ent])⟩⟩
 · show ru (((((c.c.set 5 _).set 3 _).set 4 _).set 2 _)) 5 ≤ 7
   rw [xA (by omega), xA (by omega), xA (by omega), ru_eq (by omega)]; omega
 · show ru (((((c.c.set 5 _).set 3 _).set 4 _).set 2 _)) 7 = 0
   rw [xA (by omega), xA (by omega), xA (by omega), xA (by omega)]; exact h.v.c7
 · show ru (((((c.c.set 5 _).set 3 _).set 4 _).set 2 _)) 8 ≤ 3
   rw [xA (by omega), xA (by omega), xA (by omega), xA (by omega)]; exact h.v.c8
theorem Wv.retn {x : Cp} (h : Wv x) : Wv (retn x) := by
 have hcl := h.w.cl
 refine ⟨Qd h.w, ⟨h.v.r0, ?_, ?_, ?_, h.v.n, h.v.wh⟩⟩
 · show ru (x.c.set 5 _) 5 ≤ 7
   rw [ru_eq (by omega)]; split <;> omega
 · show ru (x.c.set 5 _) 7 = 0
   rw [xA (by omega)]; exact h.v.c7
 · show ru (x.c.set 5 _) 8 ≤ 3
   rw [xA (by omega)]; exact h.v.c8
theorem Wv.cwr {x : Cp} (h : Wv x) (n : Int) {v : Nat} (hv : v < 4294967296) : Wv (cwr x n v).1 ∧ (cwr x n v).1.count = x.count := by
 refine ⟨⟨cwr_wc h.w n hv, ?_⟩, ?_⟩
 · unfold _root_.Go.Proofs.Ytcknhfnbdgleiaa.cwr
   split
   · exact h.v
   · rename_i hn
     refine ⟨h.v.r0, ?_, ?_, ?_, h.v.n, h.v.wh⟩
     · show ru (x.c.set n.toNat _) 5 ≤ 7
       rw [Kj]
       split
       · rename_i h5
         rw [if_pos (show n = 5 by omega)]; omega
       · exact h.v.c5
     · show ru (x.c.set n.toNat _) 7 = 0
       rw [xA (by omega)]; exact h.v.c7
     · show ru (x.c.set n.toNat _) 8 ≤ 3
       rw [xA (by omega)]; exact h.v.c8
 · unfold _root_.Go.Proofs.Ytcknhfnbdgleiaa.cwr
   split <;> rfl
theorem Wv.rest {x : Cp} (h : Wv x) (hw : x.waits = false) (hh : x.halts = false) (i : In) : Wv (EW x i) ∧ (EW x i).count = x.count := by
 unfold EW
 cases i.op == 16 with
 | true => exact ⟨h.r i.a (xQ _), rfl⟩
 | false =>
 cases i.op == 17 with
 | true => exact ⟨h.r i.a (xQ _), rfl⟩
 | false =>
 cases i.op == 41 with
 | true => exact ⟨h.retn, rfl⟩
 | false =>
 cases i.op == 45 with
 | true => exact ⟨⟨⟨h.w.pc, h.w.rl, h.w.cl, h.w.r, h.w.c⟩, ⟨h.v.r0, h.v.c5, h.v.c7, h.v.c8, h.v.n, fun _ => hh⟩⟩, rfl⟩
 | false =>
 cases i.op == 48 with
 | true => exact ⟨⟨⟨h.w.pc, h.w.rl, h.w.cl, h.w.r, h.w.c⟩, ⟨h.v.r0, h.v.c5, h.v.c7, h.v.c8, h.v.n, fun hx => by rw [show x.waits = true from hx] at hw; exact absurd hw (by decide)⟩⟩, rfl⟩
 | false => exact ⟨h.r i.a (alu_lt _ _ _ (xE h.w.r _) (xE h.w.r _)), rfl⟩
end Go.Proofs.Ytcknhfnbdgleiaa

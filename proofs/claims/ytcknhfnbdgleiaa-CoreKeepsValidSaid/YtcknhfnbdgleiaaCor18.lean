/- What a step leaves: the processor, the whole. -/
import Derived.Test.YtcknhfnbdgleiaaCor17
set_option linter.unusedVariables false
set_option linter.unusedSimpArgs false
namespace Go.Proofs.Ytcknhfnbdgleiaa
open Go.AE

theorem Mw (l : List Nat) (i v j : Nat) : ru (l.set i v) j = if i = j ∧ j < l.length then v else ru l j := by
 unfold ru
 simp only [List.getD_eq_getElem?_getD, List.getElem?_set]
 by_cases h : i = j
 · subst h
   by_cases h2 : i < l.length
   · simp [h2]
   · simp [h2]
 · simp [h]
theorem qm {l : List Nat} {i v j : Nat} (h : i ≠ j) : ru (l.set i v) j = ru l j := by rw [Mw, if_neg (fun hh => h hh.1)]
theorem OZ {l : List Nat} {i v : Nat} (h : i < l.length) : ru (l.set i v) i = v := by rw [Mw, if_pos ⟨rfl, h⟩]
theorem setR_0 (r : List Nat) (a v : Nat) : ru (setR r a v) 0 = ru r 0 := by
 unfold setR
 cases h : a == 0 with
 | true => rfl
 | false => rw [cond_false, qm (by simpa using h)]
theorem setR_w {r : List Nat} (hl : r.length = 16) (h : ∀ n ∈ r, n < 4294967296) (a : Nat) {v : Nat} (hv : v < 4294967296) : (setR r a v).length = 16 ∧ ∀ n ∈ setR r a v, n < 4294967296 := by
 unfold setR
 cases a == 0 with
 | true => exact ⟨hl, h⟩
 | false => exact ⟨by simpa using hl, CZ h hv⟩
/-- A processor that can be, and is valid. -/
structure Wv (x : Cp) : Prop where
 w : Wc x
 v : Vc x
theorem Wv.r {x : Cp} (h : Wv x) (a : Nat) {v : Nat} (hv : v < 4294967296) : Wv { x with r := setR x.r a v } := by
 obtain ⟨s1, s2⟩ := setR_w h.w.rl h.w.r a hv
 exact ⟨⟨h.w.pc, s1, h.w.cl, s2, h.w.c⟩, ⟨by rw [show ru (setR x.r a v) 0 = ru x.r 0 from setR_0 ..]; exact h.v.r0, h.v.c5, h.v.c7, h.v.c8, h.v.n, h.v.wh⟩⟩
theorem Wv.pc {x : Cp} (h : Wv x) {n : Nat} (hn : n < 4294967296) : Wv { x with pc := n } := ⟨⟨hn, h.w.rl, h.w.cl, h.w.r, h.w.c⟩, ⟨h.v.r0, h.v.c5, h.v.c7, h.v.c8, h.v.n, h.v.wh⟩⟩
theorem Wv.nxt {c : Cp} (h : Wv c) (hc : c.count < 1099511627776) : Wv (nxt c) :=
 ⟨Ni h.w, ⟨h.v.r0, h.v.c5, h.v.c7, h.v.c8, by show c.count + 1 ≤ _; omega, fun hh => by exact absurd hh (by simp [_root_.Go.Proofs.Ytcknhfnbdgleiaa.nxt])⟩⟩
theorem Wv.trp {c : Cp} (h : Wv c) (hc : c.count < 1099511627776) {cause value epc : Nat} (h1 : cause < 4294967296) (h2 : value < 4294967296) (h3 : epc < 4294967296) : Wv (trp c cause value epc) := by
 have hs : status { c with waits := false, count := c.count + 1 } ≤ 6 := by unfold status; split <;> split <;> omega
 have hcl := h.w.cl
 refine ⟨trp_wc h.w h1 h2 h3, ⟨h.v.r0, ?_, ?_, ?_, by show c.count + 1 ≤ _; omega, fun hh => by exact absurd hh (by simp [_root_.Go.Proofs.Ytcknhfnbdgleiaa.trp, ent])⟩⟩
 · show ru (((((c.c.set 5 _).set 3 _).set 4 _).set 2 _)) 5 ≤ 7
   rw [qm (by omega), qm (by omega), qm (by omega), OZ (by omega)]; omega
 · show ru (((((c.c.set 5 _).set 3 _).set 4 _).set 2 _)) 7 = 0
   rw [qm (by omega), qm (by omega), qm (by omega), qm (by omega)]; exact h.v.c7
 · show ru (((((c.c.set 5 _).set 3 _).set 4 _).set 2 _)) 8 ≤ 3
   rw [qm (by omega), qm (by omega), qm (by omega), qm (by omega)]; exact h.v.c8
theorem Wv.retn {x : Cp} (h : Wv x) : Wv (retn x) := by
 have hcl := h.w.cl
 refine ⟨QC h.w, ⟨h.v.r0, ?_, ?_, ?_, h.v.n, h.v.wh⟩⟩
 · show ru (x.c.set 5 _) 5 ≤ 7
   rw [OZ (by omega)]; split <;> omega
 · show ru (x.c.set 5 _) 7 = 0
   rw [qm (by omega)]; exact h.v.c7
 · show ru (x.c.set 5 _) 8 ≤ 3
   rw [qm (by omega)]; exact h.v.c8
theorem Wv.cwr {x : Cp} (h : Wv x) (n : Int) {v : Nat} (hv : v < 4294967296) : Wv (cwr x n v).1 ∧ (cwr x n v).1.count = x.count := by
 refine ⟨⟨cwr_wc h.w n hv, ?_⟩, ?_⟩
 · unfold _root_.Go.Proofs.Ytcknhfnbdgleiaa.cwr
   split
   · exact h.v
   · rename_i hn
     refine ⟨h.v.r0, ?_, ?_, ?_, h.v.n, h.v.wh⟩
     · show ru (x.c.set n.toNat _) 5 ≤ 7
       rw [Mw]
       split
       · rename_i h5
         rw [if_pos (show n = 5 by omega)]; omega
       · exact h.v.c5
     · show ru (x.c.set n.toNat _) 7 = 0
       rw [qm (by omega)]; exact h.v.c7
     · show ru (x.c.set n.toNat _) 8 ≤ 3
       rw [qm (by omega)]; exact h.v.c8
 · unfold _root_.Go.Proofs.Ytcknhfnbdgleiaa.cwr
   split <;> rfl
theorem Wv.ctl {x : Cp} (h : Wv x) (i : In) (p : Nat) (hp : p < 4294967296) : Wv (ctlX x i p).1 ∧ (ctlX x i p).1.count = x.count := by
 unfold ctlX
 cases i.op == 42 with
 | true => exact ⟨h.r i.a (crd_lt h.w _ p hp), rfl⟩
 | false => exact h.cwr _ (xD h.w.r _)
theorem Wv.rest {x : Cp} (h : Wv x) (hw : x.waits = false) (hh : x.halts = false) (i : In) : Wv (GA x i) ∧ (GA x i).count = x.count := by
 unfold GA
 cases i.op == 16 with
 | true => exact ⟨h.r i.a (pV _), rfl⟩
 | false =>
 cases i.op == 17 with
 | true => exact ⟨h.r i.a (pV _), rfl⟩
 | false =>
 cases i.op == 41 with
 | true => exact ⟨h.retn, rfl⟩
 | false =>
 cases i.op == 45 with
 | true => exact ⟨⟨⟨h.w.pc, h.w.rl, h.w.cl, h.w.r, h.w.c⟩, ⟨h.v.r0, h.v.c5, h.v.c7, h.v.c8, h.v.n, fun _ => hh⟩⟩, rfl⟩
 | false =>
 cases i.op == 48 with
 | true => exact ⟨⟨⟨h.w.pc, h.w.rl, h.w.cl, h.w.r, h.w.c⟩, ⟨h.v.r0, h.v.c5, h.v.c7, h.v.c8, h.v.n, fun hx => by rw [show x.waits = true from hx] at hw; exact absurd hw (by decide)⟩⟩, rfl⟩
 | false => exact ⟨h.r i.a (alu_lt _ _ _ (xD h.w.r _) (xD h.w.r _)), rfl⟩
/-- What a done step is. -/
structure Kp (c : Cp) (m : Pgs) (e : Ef) : Prop where
 done : e.done = true
 old : e.old = c
 word : e.word < 4294967296
 v : Wv e.cpu
 n : e.cpu.count = c.count + 1
 pk : ∃ M, Pk m ⟨M, e.ws, e.ac⟩ 3 9
 tl : e.trap < 4294967296
 tr : e.trap ≠ 0 → ∃ value epc, e.cpu = trp c e.trap value epc
 ask : e.asks = true → e.trap = 0
theorem vM {c : Cp} (h : Wv c) (hc : c.count < 1099511627776) {m : Pgs} {p : Pt'} {a b : Nat} (hp : Pk m p a b) (ha : a ≤ 3) (hb' : b ≤ 9) {w cause value epc : Nat} (hw : w < 4294967296) (h1 : cause < 4294967296) (h2 : value < 4294967296) (h3 : epc < 4294967296) :
    Kp c m (fell c p w cause value epc) := ⟨rfl, rfl, hw, h.trp hc h1 h2 h3, rfl, ⟨p.m, hp.mono ha hb'⟩, h1, fun _ => ⟨value, epc, rfl⟩, fun hh => absurd hh (by simp [fell])⟩
theorem sK {c : Cp} {m : Pgs} {p : Pt'} {a b : Nat} (hp : Pk m p a b) (ha : a ≤ 3) (hb' : b ≤ 9) {w : Nat} (hw : w < 4294967296) {x : Cp} (hx : Wv x) (hn : x.count = c.count + 1) (ask io : Bool) (port : Int) (v : Nat) (fl : Int) (flAt : Nat) :
    Kp c m ⟨true, x, c, w, p.ws, p.ac, ask, io, port, v, fl, flAt, 0⟩ := ⟨rfl, rfl, hw, hx, hn, ⟨p.m, hp.mono ha hb'⟩, (show (0 : Nat) < 4294967296 by decide), fun hh => absurd rfl hh, fun _ => rfl⟩
theorem NR {c : Cp} (h : Wv c) (hc : c.count < 1099511627776) (hh : c.halts = false) {m : Pgs} {q : Pt'} {a b : Nat} (hp : Pk m q a b) (ha : a ≤ 3) (hb' : b ≤ 9) {w : Nat} (hw : w < 4294967296) (i : In) (p : Nat) (hpp : p < 4294967296) : Kp c m (GL c q w i p) := by
 have hn := h.nxt hc
 have hb2 : braV c.r i (nxt c).pc c.pc < 4294967296 := by
  unfold braV
  cases tkn i.op (ru c.r i.a) (ru c.r i.b) with
  | true => exact Pb ..
  | false => exact hn.w.pc
 have hj : jmpV c.r i c.pc < 4294967296 := by
  unfold jmpV
  cases (tgt c.pc i).2 with
  | true => exact Pb ..
  | false => exact pV _
 unfold GL
 dsimp only
 by_cases h1 : 28 ≤ i.op ∧ i.op ≤ 31
 · rw [if_pos h1]; exact sK hp ha hb' hw (hn.pc hb2) rfl ..
 rw [if_neg h1]
 by_cases h2 : i.op = 32 ∨ i.op = 33
 · rw [if_pos h2]; exact sK hp ha hb' hw ((hn.r i.a (pV _)).pc hj) rfl ..
 rw [if_neg h2]
 by_cases h3 : i.op = 42 ∨ i.op = 43
 · rw [if_pos h3]
   by_cases h4 : (ctlX (nxt c) i p).2 = 0
   · rw [if_pos h4]; exact sK hp ha hb' hw (hn.ctl i p hpp).1 (hn.ctl i p hpp).2 ..
   · rw [if_neg h4]; exact vM h hc hp ha hb' hw (by omega) hw h.w.pc
 rw [if_neg h3]
 by_cases h4 : i.op = 44
 · rw [if_pos h4]; exact sK hp ha hb' hw hn rfl ..
 rw [if_neg h4]
 by_cases h5 : i.op = 46 ∨ i.op = 47
 · rw [if_pos h5]; exact sK hp ha hb' hw hn rfl ..
 rw [if_neg h5]
 by_cases h6 : i.op = 40
 · rw [if_pos h6]; exact vM h hc hp ha hb' hw (by omega) (by omega) (pV _)
 · rw [if_neg h6]; exact sK hp ha hb' hw (hn.rest rfl hh i).1 (hn.rest rfl hh i).2 ..
theorem kp_mem {c : Cp} (h : Wv c) (hc : c.count < 1099511627776) {m : Pgs} {q : Pt'} (hp : Pk m q 1 4) {w : Nat} (hw : w < 4294967296) (i : In) (kind size : Nat) (hk : 1 ≤ kind ∧ kind ≤ 3) (hs : size = 1 ∨ size = 4) : Kp c m (memI c q w i kind size) := by
 have hn := h.nxt hc
 have hva : vaI c.r i < 4294967296 := pV _
 have hW : (accW q c.c c.user (vaI c.r i) kind).cause < 7 := (nH hp.w _ _ _ _).cause
 have p1 : Pk m (trP q (accW q c.c c.user (vaI c.r i) kind)) 2 7 := hp.tr (ru c.c 0) (vaI c.r i) kind c.user
 unfold memI
 dsimp only
 by_cases g1 : vaI c.r i % size = 0
 · rw [if_neg (fun hh => hh g1)]
   by_cases g2 : (accW q c.c c.user (vaI c.r i) kind).cause = 0
   · rw [if_neg (fun hh => hh g2)]
     have ht := D6 hp.w ⟨hk.1, by omega⟩ g2 hs g1
     rw [G6 hp.len] at ht
     have ht1 : th m (accW q c.c c.user (vaI c.r i) kind).at'.toNat size = true := ht.1
     have ht2 : (accW q c.c c.user (vaI c.r i) kind).at'.toNat < 4294967296 := ht.2
     generalize accW q c.c c.user (vaI c.r i) kind = W at *
     have hl : ldd (trP q W).m W.at'.toNat size < 4294967296 := Gx p1.w _ _
     have hx : (⟨W.at'.toNat, size, ru c.r i.a⟩ : Wr).ok := ⟨ht2, hs, xD h.w.r _⟩
     have p2 := p1.rd ht1 hs
     by_cases g3 : kind = 2
     · rw [if_pos g3]; exact sK (p1.stp hx ht1) (by omega) (by omega) hw hn rfl ..
     · rw [if_neg g3]
       by_cases g4 : kind = 1
       · rw [if_pos g4]; exact sK p2 (by omega) (by omega) hw (hn.r i.a hl) rfl ..
       · rw [if_neg g4]; exact sK (p2.stp hx ht1) (by omega) (by omega) hw (hn.r i.a hl) rfl ..
   · rw [if_pos g2]; exact vM h hc p1 (by omega) (by omega) hw (by omega) hva h.w.pc
 · rw [if_pos g1]; exact vM h hc hp (by omega) (by omega) hw (by omega) hva h.w.pc
theorem kp_stp {c : Cp} (h : Wv c) (hc : c.count < 1099511627776) {m : Pgs} (wm : Wm m) (p : Nat) (hp : p < 4294967296) (hr : rdy c p = true) : Kp c m (stp c m p) := by
 have hh : c.halts = false := by unfold rdy at hr; cases hx : c.halts with
  | false => rfl
  | true => rw [hx] at hr; exact absurd hr (by simp)
 unfold stp
 rw [if_neg (by rw [hr]; decide)]
 cases hd : due c p with
 | some n =>
  have := PU hd
  exact vM h hc (pk0 wm) (by omega) (by omega) (by omega) (by omega) (by omega) h.w.pc
 | none =>
 dsimp only
 by_cases h4 : c.pc % 4 = 0
 · rw [if_neg (fun hh => hh h4)]
   have hw := word_lt wm c.c c.pc c.user
   have hc7 : (fetW m c.c c.pc c.user).cause < 7 := (nH wm _ _ _ _).cause
   by_cases h5 : (fetW m c.c c.pc c.user).cause = 0
   · rw [if_neg (fun hh => hh h5)]
     have q := fetQ_k wm c.c c.user h5 h4
     cases h6 : legal m c.c c.pc c.user with
     | false => rw [if_pos rfl]; exact vM h hc q (by omega) (by omega) hw (by omega) hw h.w.pc
     | true =>
      rw [if_neg (by decide)]
      have hk := Kq (decI (word m c.c c.pc c.user)).op
      by_cases hk0 : (accK (decI (word m c.c c.pc c.user)).op).1 = 0
      · rw [if_neg (fun hh => hh hk0)]; exact NR h hc hh q (by omega) (by omega) hw _ p hp
      · rw [if_pos hk0]; exact kp_mem h hc q hw _ _ _ ⟨by omega, hk.1⟩ (hk.2 hk0)
   · rw [if_pos h5]; exact vM h hc (MZ wm c.c c.pc c.user) (by omega) (by omega) (by omega) (by omega) h.w.pc h.w.pc
 · rw [if_pos h4]; exact vM h hc (pk0 wm) (by omega) (by omega) (by omega) (by omega) h.w.pc h.w.pc
theorem kp_ans {c : Cp} (h : Wv c) (hc : c.count < 1099511627776) {m : Pgs} {e : Ef} (k : Kp c m e) {v : Nat} (hv : v < 4294967296) (ok : Bool) : Kp c m (ans e v ok) ∧ (ans e v ok).asks = false := by
 unfold ans
 cases ha : e.asks with
 | false => exact ⟨k, ha⟩
 | true =>
 rw [Bool.not_true, cond_false]
 cases ok with
 | false =>
  refine ⟨⟨k.done, k.old, k.word, ?_, ?_, k.pk, (show (2 : Nat) < 4294967296 by decide), fun _ => ⟨e.word, e.old.pc, ?_⟩, fun hh => absurd hh (by simp [told])⟩, rfl⟩
  · show Wv (trp e.old 2 e.word e.old.pc)
    rw [k.old]; exact h.trp hc (by omega) k.word h.w.pc
  · show (trp e.old 2 e.word e.old.pc).count = _
    rw [k.old]; rfl
  · show trp e.old 2 e.word e.old.pc = _
    rw [k.old]; rfl
 | true =>
  rw [Bool.not_true, cond_false]
  cases hb' : cond e.ioIn (!((decI e.word).a == 0)) false with
  | false => exact ⟨⟨k.done, k.old, k.word, k.v, k.n, k.pk, k.tl, k.tr, fun hh => absurd hh (by simp [told])⟩, rfl⟩
  | true =>
   rw [cond_true]
   have hz : ((decI e.word).a == 0) = false := by cases hx : e.ioIn <;> rw [hx] at hb' <;> simp at hb'; simpa using hb'
   have := k.v.r (decI e.word).a hv
   rw [setR, hz, cond_false] at this
   exact ⟨⟨k.done, k.old, k.word, this, k.n, k.pk, k.tl, fun hh => absurd (k.ask ha) hh, fun hh => absurd hh (by simp [told])⟩, rfl⟩
end Go.Proofs.Ytcknhfnbdgleiaa

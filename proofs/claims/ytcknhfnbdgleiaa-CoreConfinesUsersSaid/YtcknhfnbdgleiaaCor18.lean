/- What a step leaves: the processor, the whole. -/
import Derived.Test.YtcknhfnbdgleiaaCor17
set_option linter.unusedVariables false
set_option linter.unusedSimpArgs false
namespace Go.Proofs.Ytcknhfnbdgleiaa
open Go.AE
theorem DF (l : List Nat) (i v j : Nat) : ru (l.set i v) j = if i = j /\ j < l.length then v else ru l j := by
 unfold ru
 simp only [List.getD_eq_getElem?_getD, List.getElem?_set]
 by_cases h : i = j
 . subst h
   by_cases h2 : i < l.length
   . simp [h2]
   . simp [h2]
 . simp [h]
theorem iy {l : List Nat} {i v j : Nat} (h : i ≠ j) : ru (l.set i v) j = ru l j := by rw [DF, if_neg (fun hh => h hh.1)]
theorem Jq {l : List Nat} {i v : Nat} (h : i < l.length) : ru (l.set i v) i = v := by rw [DF, if_pos ⟨rfl, h⟩]
theorem Ri (r : List Nat) (a v : Nat) : ru (dI r a v) 0 = ru r 0 := by
 unfold dI
 cases h : a == 0 with
 | true => rfl
 | false => rw [cond_false, iy (by simpa using h)]
theorem SX {r : List Nat} (hl : r.length = 16) (h : ∀ n ∈ r, n < 4294967296) (a : Nat) {v : Nat} (hv : v < 4294967296) : (dI r a v).length = 16 /\ ∀ n ∈ dI r a v, n < 4294967296 := by
 unfold dI
 cases a == 0 with
 | true => exact ⟨hl, h⟩
 | false => exact ⟨by simpa using hl, pU h hv⟩
structure Wv (x : Cp) : Prop where
 w : Wc x
 v : Vc x
theorem Wv.r {x : Cp} (h : Wv x) (a : Nat) {v : Nat} (hv : v < 4294967296) : Wv { x with r := dI x.r a v } := by
 obtain ⟨s1, s2⟩ := SX h.w.rl h.w.r a hv
 exact ⟨⟨h.w.pc, s1, h.w.cl, s2, h.w.c⟩, ⟨by rw [show ru (dI x.r a v) 0 = ru x.r 0 from Ri ..]; exact h.v.r0, h.v.c5, h.v.c7, h.v.c8, h.v.n, h.v.wh⟩⟩
theorem Wv.pc {x : Cp} (h : Wv x) {n : Nat} (hn : n < 4294967296) : Wv { x with pc := n } := ⟨⟨hn, h.w.rl, h.w.cl, h.w.r, h.w.c⟩, ⟨h.v.r0, h.v.c5, h.v.c7, h.v.c8, h.v.n, h.v.wh⟩⟩
theorem Wv.dQ {c : Cp} (h : Wv c) (hc : c.count < 1099511627776) : Wv (dQ c) :=
 ⟨Fh h.w, ⟨h.v.r0, h.v.c5, h.v.c7, h.v.c8, by show c.count + 1 <= _; omega, fun hh => by exact absurd hh (by simp [_root_.Go.Proofs.Ytcknhfnbdgleiaa.dQ])⟩⟩
theorem Wv.cB {c : Cp} (h : Wv c) (hc : c.count < 1099511627776) {cause value epc : Nat} (h1 : cause < 4294967296) (h2 : value < 4294967296) (h3 : epc < 4294967296) : Wv (cB c cause value epc) := by
 have hs : status { c with waits := false, count := c.count + 1 } <= 6 := by unfold status; split <;> split <;> omega
 have hcl := h.w.cl
 refine ⟨Qp h.w h1 h2 h3, ⟨h.v.r0, ?_, ?_, ?_, by show c.count + 1 <= _; omega, fun hh => by exact absurd hh (by simp [_root_.Go.Proofs.Ytcknhfnbdgleiaa.cB, ent])⟩⟩
 . show ru (((((c.c.set 5 _).set 3 _).set 4 _).set 2 _)) 5 <= 7
   rw [iy (by omega), iy (by omega), iy (by omega), Jq (by omega)]; omega
 . show ru (((((c.c.set 5 _).set 3 _).set 4 _).set 2 _)) 7 = 0
   rw [iy (by omega), iy (by omega), iy (by omega), iy (by omega)]; exact h.v.c7
 . show ru (((((c.c.set 5 _).set 3 _).set 4 _).set 2 _)) 8 <= 3
   rw [iy (by omega), iy (by omega), iy (by omega), iy (by omega)]; exact h.v.c8
theorem Wv.ni {x : Cp} (h : Wv x) : Wv (ni x) := by
 have hcl := h.w.cl
 refine ⟨PS h.w, ⟨h.v.r0, ?_, ?_, ?_, h.v.n, h.v.wh⟩⟩
 . show ru (x.c.set 5 _) 5 <= 7
   rw [Jq (by omega)]; split <;> omega
 . show ru (x.c.set 5 _) 7 = 0
   rw [iy (by omega)]; exact h.v.c7
 . show ru (x.c.set 5 _) 8 <= 3
   rw [iy (by omega)]; exact h.v.c8
theorem Wv.gJ {x : Cp} (h : Wv x) (n : Int) {v : Nat} (hv : v < 4294967296) : Wv (gJ x n v).1 /\ (gJ x n v).1.count = x.count := by
 refine ⟨⟨YZ h.w n hv, ?_⟩, ?_⟩
 . unfold _root_.Go.Proofs.Ytcknhfnbdgleiaa.gJ
   split
   . exact h.v
   . rename_i hn
     refine ⟨h.v.r0, ?_, ?_, ?_, h.v.n, h.v.wh⟩
     . show ru (x.c.set n.toNat _) 5 <= 7
       rw [DF]
       split
       . rename_i h5
         rw [if_pos (show n = 5 by omega)]; omega
       . exact h.v.c5
     . show ru (x.c.set n.toNat _) 7 = 0
       rw [iy (by omega)]; exact h.v.c7
     . show ru (x.c.set n.toNat _) 8 <= 3
       rw [iy (by omega)]; exact h.v.c8
 . unfold _root_.Go.Proofs.Ytcknhfnbdgleiaa.gJ
   split <;> rfl
theorem Wv.ctl {x : Cp} (h : Wv x) (i : In) (p : Nat) (hp : p < 4294967296) : Wv (iF x i p).1 /\ (iF x i p).1.count = x.count := by
 unfold iF
 cases i.op == 42 with
 | true => exact ⟨h.r i.a (XD h.w _ p hp), rfl⟩
 | false => exact h.gJ _ (gu h.w.r _)
theorem Wv.rest {x : Cp} (h : Wv x) (hw : x.waits = false) (hh : x.halts = false) (i : In) : Wv (mK x i) /\ (mK x i).count = x.count := by
 unfold mK
 cases i.op == 16 with
 | true => exact ⟨h.r i.a (iQ _), rfl⟩
 | false =>
 cases i.op == 17 with
 | true => exact ⟨h.r i.a (iQ _), rfl⟩
 | false =>
 cases i.op == 41 with
 | true => exact ⟨h.ni, rfl⟩
 | false =>
 cases i.op == 45 with
 | true => exact ⟨⟨⟨h.w.pc, h.w.rl, h.w.cl, h.w.r, h.w.c⟩, ⟨h.v.r0, h.v.c5, h.v.c7, h.v.c8, h.v.n, fun _ => hh⟩⟩, rfl⟩
 | false =>
 cases i.op == 48 with
 | true => exact ⟨⟨⟨h.w.pc, h.w.rl, h.w.cl, h.w.r, h.w.c⟩, ⟨h.v.r0, h.v.c5, h.v.c7, h.v.c8, h.v.n, fun hx => by rw [show x.waits = true from hx] at hw; exact absurd hw (by decide)⟩⟩, rfl⟩
 | false => exact ⟨h.r i.a (Wo _ _ _ (gu h.w.r _) (gu h.w.r _)), rfl⟩
structure Kp (c : Cp) (m : av) (e : Ef) : Prop where
 done : e.done = true
 old : e.old = c
 word : e.word < 4294967296
 v : Wv e.cpu
 n : e.cpu.count = c.count + 1
 pk : ∃ M, Pk m ⟨M, e.ws, e.ac⟩ 3 9
 tl : e.trap < 4294967296
 tr : e.trap ≠ 0 -> ∃ value epc, e.cpu = cB c e.trap value epc
 ask : e.asks = true -> e.trap = 0
theorem nI {c : Cp} (h : Wv c) (hc : c.count < 1099511627776) {m : av} {p : Pt'} {a b : Nat} (hp : Pk m p a b) (ha : a <= 3) (hb' : b <= 9) {w cause value epc : Nat} (hw : w < 4294967296) (h1 : cause < 4294967296) (h2 : value < 4294967296) (h3 : epc < 4294967296) :
    Kp c m (fell c p w cause value epc) := ⟨rfl, rfl, hw, h.cB hc h1 h2 h3, rfl, ⟨p.m, hp.mono ha hb'⟩, h1, fun _ => ⟨value, epc, rfl⟩, fun hh => absurd hh (by simp [fell])⟩
theorem mR {c : Cp} {m : av} {p : Pt'} {a b : Nat} (hp : Pk m p a b) (ha : a <= 3) (hb' : b <= 9) {w : Nat} (hw : w < 4294967296) {x : Cp} (hx : Wv x) (hn : x.count = c.count + 1) (ask io : Bool) (port : Int) (v : Nat) (fl : Int) (flAt : Nat) :
    Kp c m ⟨true, x, c, w, p.ws, p.ac, ask, io, port, v, fl, flAt, 0⟩ := ⟨rfl, rfl, hw, hx, hn, ⟨p.m, hp.mono ha hb'⟩, (show (0 : Nat) < 4294967296 by decide), fun hh => absurd rfl hh, fun _ => rfl⟩
theorem Rv {c : Cp} (h : Wv c) (hc : c.count < 1099511627776) (hh : c.halts = false) {m : av} {q : Pt'} {a b : Nat} (hp : Pk m q a b) (ha : a <= 3) (hb' : b <= 9) {w : Nat} (hw : w < 4294967296) (i : In) (p : Nat) (hpp : p < 4294967296) : Kp c m (su c q w i p) := by
 have hn := h.dQ hc
 have hb2 : pR c.r i (dQ c).pc c.pc < 4294967296 := by
  unfold pR
  cases tkn i.op (ru c.r i.a) (ru c.r i.b) with
  | true => exact I9 ..
  | false => exact hn.w.pc
 have hj : oU c.r i c.pc < 4294967296 := by
  unfold oU
  cases (tgt c.pc i).2 with
  | true => exact I9 ..
  | false => exact iQ _
 unfold su
 dsimp only
 by_cases h1 : 28 <= i.op /\ i.op <= 31
 . rw [if_pos h1]; exact mR hp ha hb' hw (hn.pc hb2) rfl ..
 rw [if_neg h1]
 by_cases h2 : i.op = 32 \/ i.op = 33
 . rw [if_pos h2]; exact mR hp ha hb' hw ((hn.r i.a (iQ _)).pc hj) rfl ..
 rw [if_neg h2]
 by_cases h3 : i.op = 42 \/ i.op = 43
 . rw [if_pos h3]
   by_cases h4 : (iF (dQ c) i p).2 = 0
   . rw [if_pos h4]; exact mR hp ha hb' hw (hn.ctl i p hpp).1 (hn.ctl i p hpp).2 ..
   . rw [if_neg h4]; exact nI h hc hp ha hb' hw (by omega) hw h.w.pc
 rw [if_neg h3]
 by_cases h4 : i.op = 44
 . rw [if_pos h4]; exact mR hp ha hb' hw hn rfl ..
 rw [if_neg h4]
 by_cases h5 : i.op = 46 \/ i.op = 47
 . rw [if_pos h5]; exact mR hp ha hb' hw hn rfl ..
 rw [if_neg h5]
 by_cases h6 : i.op = 40
 . rw [if_pos h6]; exact nI h hc hp ha hb' hw (by omega) (by omega) (iQ _)
 . rw [if_neg h6]; exact mR hp ha hb' hw (hn.rest rfl hh i).1 (hn.rest rfl hh i).2 ..
theorem Xk {c : Cp} (h : Wv c) (hc : c.count < 1099511627776) {m : av} {q : Pt'} (hp : Pk m q 1 4) {w : Nat} (hw : w < 4294967296) (i : In) (kind size : Nat) (hk : 1 <= kind /\ kind <= 3) (hs : size = 1 \/ size = 4) : Kp c m (yU c q w i kind size) := by
 have hn := h.dQ hc
 have hva : bD c.r i < 4294967296 := iQ _
 have hW : (fI q c.c c.user (bD c.r i) kind).cause < 7 := (jw hp.w _ _ _ _).cause
 have p1 : Pk m (kI q (fI q c.c c.user (bD c.r i) kind)) 2 7 := hp.tr (ru c.c 0) (bD c.r i) kind c.user
 unfold yU
 dsimp only
 by_cases g1 : bD c.r i % size = 0
 . rw [if_neg (fun hh => hh g1)]
   by_cases g2 : (fI q c.c c.user (bD c.r i) kind).cause = 0
   . rw [if_neg (fun hh => hh g2)]
     have ht := NG hp.w ⟨hk.1, by omega⟩ g2 hs g1
     rw [uS hp.len] at ht
     have ht1 : th m (fI q c.c c.user (bD c.r i) kind).at'.toNat size = true := ht.1
     have ht2 : (fI q c.c c.user (bD c.r i) kind).at'.toNat < 4294967296 := ht.2
     generalize fI q c.c c.user (bD c.r i) kind = W at *
     have hl : gG (kI q W).m W.at'.toNat size < 4294967296 := vJ p1.w _ _
     have hx : (⟨W.at'.toNat, size, ru c.r i.a⟩ : Wr).ok := ⟨ht2, hs, gu h.w.r _⟩
     have p2 := p1.rd ht1 hs
     by_cases g3 : kind = 2
     . rw [if_pos g3]; exact mR (p1.fB hx ht1) (by omega) (by omega) hw hn rfl ..
     . rw [if_neg g3]
       by_cases g4 : kind = 1
       . rw [if_pos g4]; exact mR p2 (by omega) (by omega) hw (hn.r i.a hl) rfl ..
       . rw [if_neg g4]; exact mR (p2.fB hx ht1) (by omega) (by omega) hw (hn.r i.a hl) rfl ..
   . rw [if_pos g2]; exact nI h hc p1 (by omega) (by omega) hw (by omega) hva h.w.pc
 . rw [if_pos g1]; exact nI h hc hp (by omega) (by omega) hw (by omega) hva h.w.pc
theorem ZF {c : Cp} (h : Wv c) (hc : c.count < 1099511627776) {m : av} (wm : Wm m) (p : Nat) (hp : p < 4294967296) (hr : nQ c p = true) : Kp c m (fB c m p) := by
 have hh : c.halts = false := by unfold nQ at hr; cases hx : c.halts with
  | false => rfl
  | true => rw [hx] at hr; exact absurd hr (by simp)
 unfold fB
 rw [if_neg (by rw [hr]; decide)]
 cases hd : due c p with
 | some n =>
  have := MR hd
  exact nI h hc (Eb wm) (by omega) (by omega) (by omega) (by omega) (by omega) h.w.pc
 | none =>
 dsimp only
 by_cases h4 : c.pc % 4 = 0
 . rw [if_neg (fun hh => hh h4)]
   have hw := word_lt wm c.c c.pc c.user
   have hc7 : (bW m c.c c.pc c.user).cause < 7 := (jw wm _ _ _ _).cause
   by_cases h5 : (bW m c.c c.pc c.user).cause = 0
   . rw [if_neg (fun hh => hh h5)]
     have q := Lj wm c.c c.user h5 h4
     cases h6 : legal m c.c c.pc c.user with
     | false => rw [if_pos rfl]; exact nI h hc q (by omega) (by omega) hw (by omega) hw h.w.pc
     | true =>
      rw [if_neg (by decide)]
      have hk := D5 (bN (word m c.c c.pc c.user)).op
      by_cases hk0 : (eG (bN (word m c.c c.pc c.user)).op).1 = 0
      . rw [if_neg (fun hh => hh hk0)]; exact Rv h hc hh q (by omega) (by omega) hw _ p hp
      . rw [if_pos hk0]; exact Xk h hc q hw _ _ _ ⟨by omega, hk.1⟩ (hk.2 hk0)
   . rw [if_pos h5]; exact nI h hc (C9 wm c.c c.pc c.user) (by omega) (by omega) (by omega) (by omega) h.w.pc h.w.pc
 . rw [if_pos h4]; exact nI h hc (Eb wm) (by omega) (by omega) (by omega) (by omega) h.w.pc h.w.pc
end Go.Proofs.Ytcknhfnbdgleiaa

/- core.Step returns what a step is. -/
import Derived.Test.YtcknhfnbdgleiaaCor14
set_option linter.unusedVariables false
set_option linter.unusedSimpArgs false
namespace Go.Proofs.Ytcknhfnbdgleiaa
open Go.AE
def mG (c : Cp) (X : LO) : Option AV :=
 cond (X.k == 1) (some (.agg 111 [.bool true, .agg 104 [.int .u32 (X.i.getD 0 0), .agg 102 (X.l.getD 0 []), .agg 103 (X.l.getD 1 []), .bool (X.b.getD 0 false), .bool (X.b.getD 1 false), .bool (X.b.getD 2 false), .int .i64 (X.i.getD 1 0)], dH c, .int .u32 0, .slice 42 [] false, .slice 116 [] false, .bool false, .agg 109 [.bool false, .int .i64 0, .int .u32 0], .int .i64 0, .int .u32 0, .int .i64 (X.i.getD 2 0)]))
 (cond (X.k == 2) (some (.agg 111 [.bool true, .agg 104 [.int .u32 (X.i.getD 1 0), .agg 102 (X.l.getD 1 []), .agg 103 (X.l.getD 2 []), .bool (X.b.getD 0 false), .bool (X.b.getD 1 false), .bool (X.b.getD 2 false), .int .i64 (X.i.getD 2 0)], dH c, .int .u32 (X.i.getD 3 0), .slice 42 (X.l.getD 3 []) false, .slice 116 (X.l.getD 4 []) false, .bool false, .agg 109 [.bool false, .int .i64 0, .int .u32 0], .int .i64 0, .int .u32 0, .int .i64 (X.i.getD 4 0)]))
 (cond (X.k == 3) (some (.agg 111 [.bool true, .agg 104 [.int .u32 (X.i.getD 2 0), .agg 102 (X.l.getD 3 []), .agg 103 (X.l.getD 4 []), .bool (X.b.getD 3 false), .bool (X.b.getD 4 false), .bool (X.b.getD 5 false), .int .i64 (X.i.getD 3 0)], dH c, .int .u32 (X.i.getD 4 0), .slice 42 (X.l.getD 5 []) false, .slice 116 (X.l.getD 6 []) false, .bool (X.b.getD 6 false), .agg 109 [.bool (X.b.getD 7 false), .int .i64 (X.i.getD 5 0), .int .u32 (X.i.getD 6 0)], .int .i64 (X.i.getD 7 0), .int .u32 (X.i.getD 8 0), .int .i64 (X.i.getD 9 0)]))
 (cond (X.k == 4) (some (.agg 111 [.bool true, .agg 104 [.int .u32 (X.i.getD 1 0), .agg 102 (X.l.getD 2 []), .agg 103 (c.c.map uv), .bool c.user, .bool false, .bool c.halts, .int .i64 ((c.count + 1 : Nat) : Int)], dH c, .int .u32 (X.i.getD 2 0), .slice 42 (X.l.getD 3 []) false, .slice 116 (X.l.getD 4 []) false, .bool false, .agg 109 [.bool false, .int .i64 0, .int .u32 0], .int .i64 0, .int .u32 0, .int .i64 0])) none)))
theorem Jv (c : Cp) (m : av) (cause value epc : Nat) : mG c (D9 (cB c cause value epc) cause) = some (fZ (fell c ⟨m, [], []⟩ 0 cause value epc)) := rfl
theorem R9 (c : Cp) (p : Pt') (cause value epc pc : Nat) : mG c (Mw (cB c cause value epc) pc p cause) = some (fZ (fell c p 0 cause value epc)) := rfl
theorem VB (c : Cp) (p : Pt') (w cause value epc pc : Nat) (i : In) (r : List AV) : mG c (JV (cB c cause value epc) pc p w cause i r) = some (fZ (fell c p w cause value epc)) := rfl
theorem KV (c : Cp) (p : Pt') (w cause value epc pc : Nat) (i : In) : mG c (Dv c (cB c cause value epc) pc p w cause i) = some (fZ (fell c p w cause value epc)) := rfl
theorem RZ (c : Cp) (r : List Nat) (p : Pt') (w : Nat) (i : In) : mG c (Kc c (dQ c).pc r p w i) = some (fZ (fine c p w { dQ c with r := r })) := rfl
theorem MX (c : Cp) (r : List Nat) (p : Pt') (w : Nat) (i : In) : mG c (EH (dQ c).pc r p w i) = some (fZ (fine c p w { dQ c with r := r })) := rfl
theorem Zd (c : Cp) (q : Pt') (w : Nat) (i : In) (p : Nat) : mG c (BF c q w i p) = some (fZ (su c q w i p)) := by
 unfold BF su
 dsimp only
 by_cases h1 : 28 <= i.op /\ i.op <= 31
 . rw [decide_eq_true h1, if_pos h1]; rfl
 rw [decide_eq_false h1, if_neg h1]
 by_cases h2 : i.op = 32 \/ i.op = 33
 . rw [decide_eq_true h2, if_pos h2]; rfl
 rw [decide_eq_false h2, if_neg h2]
 by_cases h3 : i.op = 42 \/ i.op = 43
 . rw [decide_eq_true h3, if_pos h3]
   by_cases h4 : (iF (dQ c) i p).2 = 0
   . rw [beq_iff_eq.mpr h4, if_pos h4]; rfl
   . rw [beq_eq_false_iff_ne.mpr h4, if_neg h4]; rfl
 rw [decide_eq_false h3, if_neg h3]
 by_cases h4 : i.op = 44
 . rw [beq_iff_eq.mpr h4, if_pos h4]
   by_cases h5 : i.b = 0
   . rw [beq_iff_eq.mpr h5, if_pos h5, if_pos h5]; rfl
   . rw [beq_eq_false_iff_ne.mpr h5, if_neg h5, if_neg h5]; rfl
 rw [beq_eq_false_iff_ne.mpr h4, if_neg h4]
 by_cases h5 : i.op = 46 \/ i.op = 47
 . rw [decide_eq_true h5, if_pos h5]
   by_cases h6 : i.op = 46
   . rw [beq_iff_eq.mpr h6, if_pos h6]; rfl
   . rw [beq_eq_false_iff_ne.mpr h6, if_neg h6]; rfl
 rw [decide_eq_false h5, if_neg h5]
 by_cases h6 : i.op = 40
 . rw [beq_iff_eq.mpr h6, if_pos h6]; rfl
 . rw [beq_eq_false_iff_ne.mpr h6, if_neg h6]; rfl
theorem Wu (k : Nat) {c : Cp} (w : Wc c) (hc : c.count < 1099511627776) {m : av} (wm : Wm m) (p : Nat) (hp : p < 4294967296) (h : nQ c p = true) : mG c (jQ k c m p) = some (fZ (fB c m p)) := by
 unfold fB
 rw [if_neg (by rw [h]; decide)]
 cases hd : due c p with
 | some n => rw [Wy k w hc wm p hp hd]; exact Jv ..
 | none =>
 dsimp only
 obtain ⟨f1, f2, f3⟩ := YP k w hc wm p hp hd
 by_cases h4 : c.pc % 4 = 0
 . rw [if_neg (fun hh => hh h4)]
   by_cases h5 : (bW m c.c c.pc c.user).cause = 0
   . rw [if_neg (fun hh => hh h5)]
     cases h6 : legal m c.c c.pc c.user with
     | false => rw [if_pos rfl, f3 h4 h5 h6]; exact KV ..
     | true =>
      rw [if_neg (by decide)]
      by_cases hk : (eG (bN (word m c.c c.pc c.user)).op).1 = 0
      . rw [if_neg (fun hh => hh hk), Uy k w hc wm p hp hd h4 h5 h6 _ rfl hk]
        exact Zd ..
      . rw [if_pos hk, VJ k w hc wm p hp hd h4 h5 h6 _ rfl (eG (bN (word m c.c c.pc c.user)).op).1 (eG (bN (word m c.c c.pc c.user)).op).2 rfl hk]
        generalize bN (word m c.c c.pc c.user) = i
        generalize eG i.op = K
        generalize word m c.c c.pc c.user = wd
        generalize eD m c.c c.pc c.user = q
        unfold yU
        dsimp only
        by_cases g1 : bD c.r i % K.2 = 0
        . rw [beq_iff_eq.mpr g1, if_neg (fun hh => hh g1)]
          generalize fI q c.c c.user (bD c.r i) K.1 = W
          by_cases g2 : W.cause = 0
          . rw [beq_iff_eq.mpr g2, if_neg (fun hh => hh g2)]
            by_cases g3 : K.1 = 2
            . rw [beq_iff_eq.mpr g3, if_pos g3]; exact MX ..
            . rw [beq_eq_false_iff_ne.mpr g3, if_neg g3]
              by_cases g4 : K.1 = 1
              . rw [beq_iff_eq.mpr g4, if_pos g4]; exact RZ ..
              . rw [beq_eq_false_iff_ne.mpr g4, if_neg g4]; exact MX ..
          . rw [beq_eq_false_iff_ne.mpr g2, if_pos g2]; exact VB (r := []) ..
        . rw [beq_eq_false_iff_ne.mpr g1, if_pos g1]; exact KV ..
   . rw [if_pos h5, f2 h4 h5]; exact R9 ..
 . rw [if_pos h4, f1 h4]; exact Jv ..
set_option maxRecDepth 100000 in
theorem ME (k : Nat) {c : Cp} (w : Wc c) (hc : c.count < 1099511627776) {m : av} (wm : Wm m) (p : Nat) (hp : p < 4294967296) : Rt Pg (D (k + 6)) 53 [dH c, mv m, uv p] (fZ (fB c m p)) := .of (by
 have rr := YC (k + 3) c p hp
 rw [Dk, aaH]
 simp only [rr.ok, rr.val, bO, cond_true, Oa (show c.count < 4611686018427387904 by omega)]
 cases h : nQ c p with
 | false => unfold fB; rw [if_pos h]; rfl
 | true =>
  have := Wu k w hc wm p hp h
  unfold jQ at this
  unfold mG at this
  simp only [Bool.not_true, cond_false]
  exact this) (by kernel_rfl)
end Go.Proofs.Ytcknhfnbdgleiaa

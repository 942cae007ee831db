/- What is encoded is decoded; a step of an instruction of registers. -/
import Derived.Test.YtcknhfnbdgleiaaCor19
set_option linter.unusedVariables false
set_option linter.unusedSimpArgs false
namespace Go.Proofs.Ytcknhfnbdgleiaa
open Go.AE

def regB (a : Int) : Bool := cond (a == 0) true (cond (decide ((1 : Int) ≤ a)) (decide (a < 16)) false)
theorem Hl {a : Int} (h : regB a = true) : ∃ n : Nat, a = n ∧ n < 16 := by
 unfold regB at h
 by_cases h0 : a = 0
 · exact ⟨0, h0, by omega⟩
 · rw [beq_eq_false_iff_ne.mpr h0, cond_false, K7, Bool.and_eq_true] at h
   have h1 : 1 ≤ a := by simpa using h.1
   have h2 : a < 16 := by simpa using h.2
   exact ⟨a.toNat, by omega, by omega⟩
/-- An instruction of three registers is right. -/
def rr3 (a b c imm : Int) : Bool := cond (regB a) (cond (regB b) (cond (regB c) (imm == 0) false) false) false
/-- addi is right. -/
def rrA (a b c imm : Int) : Bool := cond (regB a) (cond (regB b) (cond (c == 0) (cond (decide ((-131072 : Int) ≤ imm)) (decide (imm ≤ 131071)) false) false) false) false
theorem r_reg (k : Nat) (a : Int) : Rt Pg (D (k + 1)) 113 [.int .i64 a, .bool true] (.bool (regB a)) := .of (by rw [Dk, rY]; rfl) (by kernel_rfl)
theorem r_reg0 (k : Nat) (a : Int) : Rt Pg (D (k + 1)) 113 [.int .i64 a, .bool false] (.bool (a == 0)) := .of (by rw [Dk, rY]; cases a == 0 <;> rfl) (by kernel_rfl)
theorem r_has (k : Nat) (n : Int) : Rt Pg (D (k + 1)) 114 [.int .i64 1, .int .i64 n] (.bool (decide (n ≤ 3))) := .of (by rw [Dk, AP]; rfl) (by kernel_rfl)
theorem r_hasA (k : Nat) (n : Int) : Rt Pg (D (k + 1)) 114 [.int .i64 2, .int .i64 n] (.bool (n != 3)) := .of (by rw [Dk, AP]; rfl) (by kernel_rfl)
theorem PV (k : Nat) {op : Int} (h : 1 ≤ op ∧ op ≤ 12) : Rt Pg (D (k + 1)) 112 [.int .i64 op] (.int .i64 1) := .of (by
 rw [Dk, zI, decide_eq_true h.1, decide_eq_true h.2]; rfl) (by kernel_rfl)
theorem QD (k : Nat) : Rt Pg (D (k + 1)) 112 [.int .i64 16] (.int .i64 2) := .of (by rw [Dk, zI]; rfl) (by kernel_rfl)
theorem QC (k : Nat) {op : Int} (h : 1 ≤ op ∧ op ≤ 12) (a b c imm : Int) : Rt Pg (D (k + 2)) 55 [.agg 122 [.int .i64 op, .int .i64 a, .int .i64 b, .int .i64 c, .int .i64 imm]] (.bool (rr3 a b c imm)) := .of (by
 have r := PV k h
 have r1 := r_reg k
 have r2 := r_has k
 rw [Dk, xP]
 simp only [r.ok, r.val, iO, (r1 _).ok, (r1 _).val, (r2 _).ok, (r2 _).val, bO, show decide ((1 : Int) ≤ 3) = true from rfl, show decide ((2 : Int) ≤ 3) = true from rfl, show decide ((3 : Int) ≤ 3) = true from rfl, show decide ((4 : Int) ≤ 3) = false from rfl, show ((1 : Int) == 0) = false from rfl, cond_true, cond_false, fG, BX, tZ, Bool.or_true]
 unfold rr3
 cases regB a
 · rfl
 cases regB b
 · rfl
 cases regB c
 · rfl
 cases imm == 0 <;> rfl) (by kernel_rfl)
theorem Qw (k : Nat) (a b c imm : Int) : Rt Pg (D (k + 2)) 55 [.agg 122 [.int .i64 16, .int .i64 a, .int .i64 b, .int .i64 c, .int .i64 imm]] (.bool (rrA a b c imm)) := .of (by
 have r := QD k
 have r1 := r_reg k
 have r0 := r_reg0 k
 have r2 := r_hasA k
 rw [Dk, xP]
 simp only [r.ok, r.val, iO, (r1 _).ok, (r1 _).val, (r2 _).ok, (r2 _).val, (r0 _).ok, (r0 _).val, bO, show ((1 : Int) != 3) = true from rfl, show ((2 : Int) != 3) = true from rfl, show ((3 : Int) != 3) = false from rfl, show ((4 : Int) != 3) = true from rfl, show ((2 : Int) == 0) = false from rfl, cond_true, cond_false, fG, BX, tZ, Bool.or_true]
 unfold rrA
 cases regB a
 · rfl
 cases regB b
 · rfl
 cases c == 0
 · rfl
 by_cases hz : imm = 0
 · subst hz; rfl
 · rw [beq_eq_false_iff_ne.mpr hz]; rfl) (by kernel_rfl)
def enc3 (op a b c : Nat) : Nat := op * 67108864 + a * 4194304 + b * 262144 + c * 16384
def encA (a b : Nat) (imm : Int) : Nat := 1073741824 + a * 4194304 + b * 262144 + (imm % 262144).toNat
theorem KD (n : Int) : QE Pg 56 (.agg 125 [.int .u32 n, .int .i64 0]) = true := by kernel_rfl
theorem r_enc3 (k : Nat) {op : Nat} (h : 1 ≤ op ∧ op ≤ 12) {a b c : Nat} (ha : a < 16) (hb' : b < 16) (hc : c < 16) (hr : rr3 a b c 0 = true) : Rt Pg (D (k + 3)) 56 [.agg 122 [.int .i64 (op : Int), .int .i64 (a : Int), .int .i64 (b : Int), .int .i64 (c : Int), .int .i64 0]] (.agg 125 [uv (enc3 op a b c), .int .i64 0]) := .of (by
 generalize hE : enc3 op a b c = E
 have r := QC k (op := op) (by omega) a b c 0
 rw [hr] at r
 rw [Dk, vV]
 dsimp only
 rw [r.ok, cond_true, r.val, bO, Bool.not_true, cond_false, show decide ((0 : Int) < 0) = false from rfl, cond_false]
 unfold enc3 at hE
 rw [av (n := (op : Int) * 67108864) (by omega) (by omega), av (n := (a : Int) * 4194304) (by omega) (by omega), av (n := (op : Int) * 67108864 + a * 4194304) (by omega) (by omega), av (n := (b : Int) * 262144) (by omega) (by omega),
  av (n := (op : Int) * 67108864 + a * 4194304 + b * 262144) (by omega) (by omega), av (n := (c : Int) * 16384) (by omega) (by omega), av (n := (op : Int) * 67108864 + a * 4194304 + b * 262144 + c * 16384) (by omega) (by omega), Int.add_zero, av (by omega) (by omega), bq (by omega) (by omega)]
 exact congrArg (fun n : Int => some (AV.agg 125 [.int .u32 n, .int .i64 0])) (by omega)) (KD _)
theorem r_encA (k : Nat) {a b : Nat} (ha : a < 16) (hb' : b < 16) {imm : Int} (h1 : -131072 ≤ imm) (h2 : imm ≤ 131071) (hr : rrA a b 0 imm = true) : Rt Pg (D (k + 3)) 56 [.agg 122 [.int .i64 16, .int .i64 (a : Int), .int .i64 (b : Int), .int .i64 0, .int .i64 imm]] (.agg 125 [uv (encA a b imm), .int .i64 0]) := .of (by
 have r := Qw k a b 0 imm
 rw [hr] at r
 rw [Dk, vV]
 simp only [r.ok, r.val, bO, Bool.not_true, cond_true, cond_false]
 unfold encA
 rw [show IntKind.i64.wrap ((16 : Int) * 67108864) = 1073741824 from rfl, show IntKind.i64.wrap ((0 : Int) * 16384) = 0 from rfl, av (n := (a : Int) * 4194304) (by omega) (by omega), av (n := (1073741824 : Int) + a * 4194304) (by omega) (by omega), av (n := (b : Int) * 262144) (by omega) (by omega),
  av (n := (1073741824 : Int) + a * 4194304 + b * 262144) (by omega) (by omega), Int.add_zero, av (n := (1073741824 : Int) + a * 4194304 + b * 262144) (by omega) (by omega)]
 by_cases hn : imm < 0
 · rw [decide_eq_true hn, cond_true, av (n := (1073741824 : Int) + a * 4194304 + b * 262144 + 262144) (by omega) (by omega), av (by omega) (by omega), bq (by omega) (by omega)]
   congr 4; omega
 · rw [decide_eq_false hn, cond_false, av (by omega) (by omega), bq (by omega) (by omega)]
   congr 4; omega) (KD _)
theorem frm3 : ∀ op : Nat, op < 13 → 1 ≤ op → frm op = 1 := by decide +kernel
theorem frmA : frm 16 = 2 := by decide +kernel
theorem dec3 {op : Nat} (h : 1 ≤ op ∧ op ≤ 12) {a b c : Nat} (ha : a < 16) (hb' : b < 16) (hc : c < 16) : decB (enc3 op a b c) = true ∧ decI (enc3 op a b c) = ⟨op, a, b, c, 0⟩ ∧ enc3 op a b c < 4294967296 := by
 have e1 : enc3 op a b c / 67108864 % 64 = op := by unfold enc3; omega
 have e2 : enc3 op a b c / 4194304 % 16 = a := by unfold enc3; omega
 have e3 : enc3 op a b c / 262144 % 16 = b := by unfold enc3; omega
 have e4 : enc3 op a b c / 16384 % 16 = c := by unfold enc3; omega
 have e5 : enc3 op a b c % 16384 = 0 := by unfold enc3; omega
 have f := frm3 op (by omega) h.1
 have ff : fld (enc3 op a b c) = ⟨op, a, b, c, 0⟩ := by unfold fld; rw [e1, e2, e3, e4, f]; rfl
 have d : decB (enc3 op a b c) = true := by
  unfold decB; rw [ff, e1, e5, f]
  show rgtI ⟨op, a, b, c, 0⟩ = true
  unfold rgtI
  dsimp only
  rw [f]; rfl
 exact ⟨d, by unfold decI; rw [d, cond_true, ff], by unfold enc3; omega⟩
theorem decA' {a b t : Nat} (ha : a < 16) (hb' : b < 16) (ht : t < 262144) (W : Nat) (hW : 1073741824 + a * 4194304 + b * 262144 + t = W) : W / 67108864 % 64 = 16 ∧ W / 4194304 % 16 = a ∧ W / 262144 % 16 = b ∧ W % 262144 = t ∧ W < 4294967296 := by omega
theorem decA {a b : Nat} (ha : a < 16) (hb' : b < 16) {imm : Int} (h1 : -131072 ≤ imm) (h2 : imm ≤ 131071) : decB (encA a b imm) = true ∧ decI (encA a b imm) = ⟨16, a, b, 0, imm⟩ ∧ encA a b imm < 4294967296 := by
 have ht : ((imm % 262144).toNat : Int) = imm % 262144 := by omega
 obtain ⟨e1, e2, e3, e0, e9⟩ := decA' ha hb' (show (imm % 262144).toNat < 262144 by omega) (encA a b imm) (by simp only [encA])
 generalize (imm % 262144).toNat = t at ht e0
 generalize encA a b imm = W at *
 have e4 : I6 W = imm := by
  unfold I6; rw [e0]
  by_cases h : t < 131072
  · rw [if_pos h]; omega
  · rw [if_neg h]; omega
 have f := frmA
 have ff : fld W = ⟨16, a, b, 0, imm⟩ := by unfold fld; rw [e1, e2, e3, e4, f]; rfl
 have d : decB W = true := by
  unfold decB; rw [ff, e1, f]
  rw [show ((2 : Nat) == 1) = false from rfl, cond_false]
  unfold rgtI
  dsimp only
  rw [f, show ((2 : Nat) == 1) = false from rfl, show ((2 : Nat) == 2) = true from rfl, cond_false, cond_true, decide_eq_true h1, decide_eq_true h2]; rfl
 exact ⟨d, by unfold decI; rw [d, cond_true, ff], e9⟩
/-- A step of an instruction of registers, without translation. -/
theorem Rn {c : Cp} {m : Pgs} (wm : Wm m) (h0 : ru c.c 0 = 0) (h4 : c.pc % 4 = 0) (hl : c.pc + 4 ≤ 128 * m.length) (hw : c.waits = false) (hh : c.halts = false) {w : Nat} (hwl : w < 4294967296) {i : In} (hd : decB w = true) (hi : decI w = i) (ho : (1 ≤ i.op ∧ i.op ≤ 12) ∨ i.op = 16) :
    stp c (st m c.pc (wb w)) 0 = ⟨true, { nxt c with r := setR c.r i.a (if i.op = 16 then vaI c.r i else alu i.op (ru c.r i.b) (ru c.r i.c)) }, c, w, [], [⟨c.pc, 4, false⟩], false, false, 0, 0, 0, 0, 0⟩ := by
 have hlen : (st m c.pc (wb w)).length = m.length := Cc ..
 have eW : ∀ u, fetW (st m c.pc (wb w)) c.c c.pc u = ⟨(c.pc : Int), -1, [], [], 0⟩ := fun u => by
  unfold fetW walk; rw [h0, hlen, decide_eq_true (show c.pc < 128 * m.length by omega)]; rfl
 have eP : ∀ u, fetP (st m c.pc (wb w)) c.c c.pc u = ⟨st m c.pc (wb w), [], []⟩ := fun u => by unfold fetP; rw [eW]; rfl
 have ew : word (st m c.pc (wb w)) c.c c.pc c.user = w := by
  unfold word; rw [eW, eP]
  show ldd (st m c.pc (wb w)) c.pc 4 = w
  unfold ldd
  have ht : th (st m c.pc (wb w)) c.pc 4 = true := by
   rw [th_len hlen]; unfold th; rw [h4, decide_eq_true hl]; rfl
  rw [ht, cond_true]
  show wd _ _ = w
  rw [wd_st wm h4 (by omega) hwl _ h4, if_pos rfl]
 have eQ : fetQ (st m c.pc (wb w)) c.c c.pc c.user = ⟨st m c.pc (wb w), [], [⟨c.pc, 4, false⟩]⟩ := by
  unfold fetQ; rw [eP, eW]; rfl
 have eL : legal (st m c.pc (wb w)) c.c c.pc c.user = true := by
  unfold legal; rw [ew, hd, hi]
  have : prvI i.op = false := by unfold prvI; rw [decide_eq_false (show ¬ 41 ≤ i.op by omega)]; rfl
  rw [this]; cases c.user <;> rfl
 have eA : accK i.op = (0, 0) := by
  unfold accK
  rw [if_neg (by omega), if_neg (by omega), if_neg (by omega), if_neg (by omega), if_neg (by omega)]
 have eD : due c 0 = none := by unfold due; cases ru c.c 5 % 2 == 0 <;> rfl
 have eR : rdy c 0 = true := by unfold rdy; rw [hw, hh]; rfl
 unfold stp
 rw [if_neg (by rw [eR]; decide), eD]
 dsimp only
 rw [if_neg (fun x => x h4), eW, if_neg (fun x => x rfl), eL, if_neg (by decide), ew, hi, eA, if_neg (fun x => x rfl), eQ]
 unfold JE
 dsimp only
 rw [if_neg (by omega), if_neg (by omega), if_neg (by omega), if_neg (by omega), if_neg (by omega), if_neg (by omega)]
 unfold EW
 by_cases h16 : i.op = 16
 · rw [if_pos h16, beq_iff_eq.mpr h16]; rfl
 · have n : ∀ j, 17 ≤ j → (i.op == j) = false := fun j hj => beq_eq_false_iff_ne.mpr (by omega)
   rw [if_neg h16, beq_eq_false_iff_ne.mpr h16, n 17 (by omega), n 41 (by omega), n 45 (by omega), n 48 (by omega)]; rfl
end Go.Proofs.Ytcknhfnbdgleiaa

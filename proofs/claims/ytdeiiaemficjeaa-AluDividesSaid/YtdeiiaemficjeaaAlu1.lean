/- The arithmetic's functions and laws, as the abstract evaluator has them: each in terms of what the functions that it calls return. -/
import Derived.Test.YtdeiiaemficjeaaEv30
import Derived.Test.YtdeiiaemficjeaaRows
namespace Go.Proofs.Ytdeiiaemficjeaa
open Go.AE
def ltI (x y : Int) : Bool := decide (x < y)
def leI (x y : Int) : Bool := decide (x ≤ y)
noncomputable def cx0 : Ctx := { P := Try.checked.prog, n := 40, spec := fun _ _ => none, muta := fun _ => false }
theorem good0 : cx0.Good := fun f args v h => by simp [cx0] at h
theorem loops0 : cx0.Loops := Ctx.noLoops fun _ _ _ _ => rfl
def pwN (k : Int) : Nat → Int → Int → Option AV
  | 0, _, _ => none
  | m + 1, i, out => cond (decide (i < k)) (pwN k m (IntKind.i64.wrap (i + 1)) (IntKind.u32.wrap (2 * out))) (some (.int .u32 out))
/-- The functions as they are known to their callers. -/
structure Fns where
  pw : Int → Int
  bit : Int → Int → Int
  logic : Int → Int → Int → Int
  place : Int → Int
  doX : Int → Int → Int → Int
  doE : Int → Int
  rX : Int → Int → Int → Int
  rE : Int → Int
  taken : Int → Int → Int → Bool
  rtaken : Int → Int → Int → Bool
  extok : Int → Bool
  ext : Int → Int → Int
  rext : Int → Int → Int
  sg : Int → Int
  rsg : Int → Int
  byte : Int → Int → Int
  rbyte : Int → Int → Int
  setb : Int → Int → Int → Int
  rsetb : Int → Int → Int → Int
def lgT (F : Fns) (op b c k : Int) : Bool :=
  let s := IntKind.u32.wrap (F.bit b k + F.bit c k)
  let c5 := cond (op == 5) (s == 1) false
  let c4 := cond (op == 4) (cond (decide (0 < s)) true c5) c5
  cond (op == 3) (cond (s == 2) true c4) c4
def lgN (F : Fns) (op b c : Int) : Nat → Int
  | 0 => 0
  | k + 1 => cond (lgT F op b c k) (IntKind.u32.wrap (lgN F op b c k + F.pw k)) (lgN F op b c k)
def fr26 (op b c z out k : AV) : Fr := mkFr 54 [(0, op), (1, b), (2, c), (6, z), (7, out), (8, k)] []
def lp26 (F : Fns) (fr : Fr) (M : Mm) : Option LT :=
  if okFr 54 [0, 1, 2, 6, 7, 8] fr then
    match fr.tmps.getD 0 .dead, fr.tmps.getD 1 .dead, fr.tmps.getD 2 .dead, fr.tmps.getD 6 .dead, fr.tmps.getD 7 .dead, fr.tmps.getD 8 .dead, fr.tf with
    | .int .i64 op, .int .u32 b, .int .u32 c, .int .u32 z, .int .u32 out, .int .i64 k, [] =>
      if out = 0 ∧ k = 0 then some (.done (.exit 0) (fr26 (.int .i64 op) (.int .u32 b) (.int .u32 c) (.int .u32 z) (.int .u32 (lgN F op b c 32)) (.int .i64 32)) M) else none
    | _, _, _, _, _, _, _ => none
  else none
def fromK (n k : Int) : Int := cond (decide (IntKind.i64.wrap (n - 1) < k)) (IntKind.i64.wrap (n - 1)) k
def exN (F : Fns) (x n : Int) : Nat → Int
  | 0 => 0
  | k + 1 => cond (F.bit x (fromK n k) == 1) (IntKind.u32.wrap (exN F x n k + F.pw k)) (exN F x n k)
def fr16 (x n z out k : AV) : Fr := mkFr 28 [(0, x), (1, n), (4, z), (5, out), (6, k)] []
def lp16 (F : Fns) (fr : Fr) (M : Mm) : Option LT :=
  if okFr 28 [0, 1, 4, 5, 6] fr then
    match fr.tmps.getD 0 .dead, fr.tmps.getD 1 .dead, fr.tmps.getD 4 .dead, fr.tmps.getD 5 .dead, fr.tmps.getD 6 .dead, fr.tf with
    | .int .u32 x, .int .i64 n, .int .u32 z, .int .u32 out, .int .i64 k, [] =>
      if out = 0 ∧ k = 0 then some (.br (decide (1 ≤ n) && decide (n ≤ 32)) (.done (.exit 0) (fr16 (.int .u32 x) (.int .i64 n) (.int .u32 z) (.int .u32 (exN F x n 32)) (.int .i64 32)) M) .fail) else none
    | _, _, _, _, _, _ => none
  else none
/-- How deep a function's calls go. -/
def rank (f : FuncId) : Nat :=
  match f with
  | 10 | 12 | 13 | 15 | 17 | 18 | 19 | 21 | 27 | 33 => 0
  | 14 | 20 | 23 | 32 => 1
  | 16 | 22 | 26 => 2
  | 11 => 3
  | _ => 9
def spec0 (F : Fns) (f : FuncId) (args : List AV) : Option (Bool × AV) :=
  match f with
  | 10 => match args with
    | [.int .i64 n, .int .u32 b, .int .u32 c] => some (true, .tuple [.int .u32 (F.doX n b c), .int .i64 (F.doE n)])
    | _ => some (false, .dead)
  | 11 => match args with
    | [.int .i64 n, .int .u32 b, .int .u32 c] => some (true, .agg 26 [.int .u32 (F.rX n b c), .int .i64 (F.rE n)])
    | _ => some (false, .dead)
  | 12 => match args with
    | [] => some (true, .bool true)
    | _ => some (false, .dead)
  | 13 => match args with
    | [.int .i64 n, .int .u32 b, .int .u32 c] => some (true, .bool (F.taken n b c))
    | _ => some (false, .dead)
  | 14 => match args with
    | [.int .i64 n, .int .u32 b, .int .u32 c] => some (true, .bool (F.rtaken n b c))
    | _ => some (false, .dead)
  | 15 => match args with
    | [.int .u32 x, .int .i64 n] => some (F.extok n, .int .u32 (F.ext x n))
    | _ => some (false, .dead)
  | 16 => match args with
    | [.int .u32 x, .int .i64 n] => some (F.extok n, .int .u32 (F.rext x n))
    | _ => some (false, .dead)
  | 17 => match args with
    | [.int .u32 x] => some (true, .int .i64 (F.sg x))
    | _ => some (false, .dead)
  | 18 => match args with
    | [.int .u32 x] => some (true, .int .i64 (F.rsg x))
    | _ => some (false, .dead)
  | 19 => match args with
    | [.int .u32 x, .int .i64 k] => some (true, .int .u8 (F.byte x k))
    | _ => some (false, .dead)
  | 20 => match args with
    | [.int .u32 x, .int .i64 k] => some (true, .int .u8 (F.rbyte x k))
    | _ => some (false, .dead)
  | 21 => match args with
    | [.int .u32 x, .int .i64 k, .int .u8 b] => some (true, .int .u32 (F.setb x k b))
    | _ => some (false, .dead)
  | 22 => match args with
    | [.int .u32 x, .int .i64 k, .int .u8 b] => some (true, .int .u32 (F.rsetb x k b))
    | _ => some (false, .dead)
  | 23 => match args with
    | [.int .i64 n, .int .u32 b, .int .u32 c] => some (true, .int .u32 (F.doX n b c))
    | _ => some (false, .dead)
  | 26 => match args with
    | [.int .i64 n, .int .u32 b, .int .u32 c] => some (true, .int .u32 (F.logic n b c))
    | _ => some (false, .dead)
  | 27 => match args with
    | [.int .i64 k] => some (decide (k ≤ 31), .int .u32 (F.pw k))
    | _ => some (false, .dead)
  | 32 => match args with
    | [.int .u32 x, .int .i64 k] => some (decide (k ≤ 31), .int .u32 (F.bit x k))
    | _ => some (false, .dead)
  | 33 => match args with
    | [.int .i64 k] => some (true, .int .i64 (F.place k))
    | _ => some (false, .dead)
  | _ => none
noncomputable def cxF (F : Fns) (lv : Nat) : Ctx where
  P := Try.checked.prog
  n := 40
  muta := fun _ => false
  kept := (fun f id => match lv, f, id with
    | 2, 16, 3 => some [0, 1, 4, 5, 6]
    | 2, 26, 3 => some [0, 1, 2, 6, 7, 8]
    | _, _, _ => none)
  ends := (fun f id fr M => match lv, f, id with
    | 2, 16, 3 => lp16 F fr M
    | 2, 26, 3 => lp26 F fr M
    | _, _, _ => none)
  spec := fun f args => if Nat.blt (rank f) lv then spec0 F f args else none
set_option maxRecDepth 100000 in
theorem v27 (F : Fns) (k : Int) : fnV (cxF F 0) 6 27 [.int .i64 k] = pwN k 40 0 1 := by kernel_rfl
set_option maxRecDepth 100000 in
theorem v12 : fnV cx0 6 12 [] = some (.bool true) := by kernel_rfl
set_option maxRecDepth 100000 in
theorem v17 (F : Fns) (b : Int) : fnV (cxF F 0) 6 17 [.int .u32 b] = some (.int .i64 (IntKind.i64.wrap (IntKind.i32.wrap b))) := by kernel_rfl
set_option maxRecDepth 100000 in
theorem v13 (F : Fns) (n b c : Int) : fnV (cxF F 0) 6 13 [.int .i64 n, .int .u32 b, .int .u32 c] = cond (n == 28) (some (.bool (b == c))) (cond (n == 29) (some (.bool (b != c))) (cond (n == 30) (cond (decide (IntKind.i32.wrap b < IntKind.i32.wrap c)) (some (.bool true)) (some (.bool false))) (cond (n == 31) (cond (decide (b < c)) (some (.bool true)) (some (.bool false))) (some (.bool false))))) := by kernel_rfl
set_option maxRecDepth 100000 in
theorem v10 (F : Fns) (n b c : Int) : fnV (cxF F 0) 6 10 [.int .i64 n, .int .u32 b, .int .u32 c] = 
  cond (n == 1) (some (.tuple [.int .u32 (IntKind.u32.wrap (b + c)), .int .i64 0])) (cond (n == 2) (some (.tuple [.int .u32 (IntKind.u32.wrap (b - c)), .int .i64 0])) 
  (cond (n == 1) (some (.tuple [.int .u32 (IntKind.u32.wrap (b + c)), .int .i64 0]))
  (cond (n == 2) (some (.tuple [.int .u32 (IntKind.u32.wrap (b - c)), .int .i64 0]))
  (cond (n == 3) (some (.tuple [.int .u32 (ibits .and .u32 b c), .int .i64 0]))
  (cond (n == 4) (some (.tuple [.int .u32 (ibits .or .u32 b c), .int .i64 0]))
  (cond (n == 5) (some (.tuple [.int .u32 (ibits .xor .u32 b c), .int .i64 0]))
  (cond (n == 6) (cond (decide (0 ≤ ibits .and .u32 c 31)) (some (.tuple [.int .u32 (IntKind.u32.wrap (b * 2 ^ min (ibits .and .u32 c 31).toNat 32)), .int .i64 0])) none)
  (cond (n == 7) (cond (decide (0 ≤ ibits .and .u32 c 31)) (some (.tuple [.int .u32 (b.fdiv (2 ^ min (ibits .and .u32 c 31).toNat 32)), .int .i64 0])) none)
  (cond (n == 8) (some (.tuple [.int .u32 (IntKind.u32.wrap (b * c)), .int .i64 0]))
  (cond (n == 9) (cond (c == 0) (some (.tuple [.int .u32 (ibits .xor .u32 (IntKind.u32.max) c), .int .i64 0])) (cond (!(c == 0)) (some (.tuple [.int .u32 (IntKind.u32.wrap (b.tdiv c)), .int .i64 0])) none))
  (cond (n == 10) (cond (c == 0) (some (.tuple [.int .u32 b, .int .i64 0])) (cond (!(c == 0)) (some (.tuple [.int .u32 (b.tmod c), .int .i64 0])) none))
  (cond (n == 11) (cond (decide (IntKind.i32.wrap b < IntKind.i32.wrap c)) (some (.tuple [.int .u32 1, .int .i64 0])) (some (.tuple [.int .u32 0, .int .i64 0])))
  (cond (n == 12) (cond (decide (b < c)) (some (.tuple [.int .u32 1, .int .i64 0])) (some (.tuple [.int .u32 0, .int .i64 0])))
   (some (.tuple [.int .u32 0, .int .i64 1]))))))))))))))) := by kernel_rfl
set_option maxRecDepth 100000 in
theorem v32 (F : Fns) (x k : Int) : fnV (cxF F 1) 6 32 [.int .u32 x, .int .i64 k] = cond (decide (k ≤ 31)) (cond (!(F.pw k == 0)) (some (.int .u32 ((IntKind.u32.wrap (x.tdiv (F.pw k))).tmod 2))) none) none := by kernel_rfl
set_option maxRecDepth 100000 in
theorem v33 (F : Fns) (k : Int) : fnV (cxF F 0) 6 33 [.int .i64 k] = some (.int .i64 (cond (decide (k.tmod 4 < 0)) (IntKind.i64.wrap (k.tmod 4 + 4)) (k.tmod 4))) := by kernel_rfl
set_option maxRecDepth 100000 in
theorem v14 (F : Fns) (n b c : Int) : fnV (cxF F 1) 6 14 [.int .i64 n, .int .u32 b, .int .u32 c] = cond (n == 28) (some (.bool (b == c))) (cond (n == 29) (some (.bool (b != c))) (cond (n == 30) (some (.bool (decide (F.rsg b < F.rsg c)))) (cond (n == 31) (some (.bool (decide (b < c)))) (some (.bool false))))) := by kernel_rfl
set_option maxRecDepth 100000 in
theorem v18 (F : Fns) (b : Int) : fnV (cxF F 0) 6 18 [.int .u32 b] = cond (decide (b < 2147483648)) (some (.int .i64 (IntKind.i64.wrap b))) (some (.int .i64 (IntKind.i64.wrap (IntKind.i64.wrap b - 4294967296)))) := by kernel_rfl
set_option maxRecDepth 100000 in
theorem v20 (F : Fns) (x k : Int) : fnV (cxF F 1) 6 20 [.int .u32 x, .int .i64 k] = (let m := IntKind.i64.wrap (8 * F.place k); cond (decide (m ≤ 31)) (cond (!(F.pw m == 0)) (some (.int .u8 (IntKind.u8.wrap ((IntKind.u32.wrap (x.tdiv (F.pw m))).tmod 256)))) none) none) := by kernel_rfl
set_option maxRecDepth 100000 in
theorem v22 (F : Fns) (x k b : Int) : fnV (cxF F 2) 6 22 [.int .u32 x, .int .i64 k, .int .u8 b] = (let m := IntKind.i64.wrap (8 * F.place k); cond (decide (m ≤ 31)) (some (.int .u32 (IntKind.u32.wrap (IntKind.u32.wrap (x - IntKind.u32.wrap (IntKind.u32.wrap (F.rbyte x k) * F.pw m)) + IntKind.u32.wrap (IntKind.u32.wrap b * F.pw m))))) none) := by kernel_rfl
set_option maxRecDepth 100000 in
theorem v15 (F : Fns) (x n : Int) : fnV (cxF F 0) 6 15 [.int .u32 x, .int .i64 n] = (let a := IntKind.i64.wrap (32 - n); cond (decide (0 ≤ a)) (cond (decide (0 ≤ a)) (some (.int .u32 (IntKind.u32.wrap ((IntKind.i32.wrap (IntKind.u32.wrap (x * 2 ^ min a.toNat 32))).fdiv (2 ^ min a.toNat 32))))) none) none) := by kernel_rfl
set_option maxRecDepth 100000 in
theorem v19 (F : Fns) (x k : Int) : fnV (cxF F 0) 6 19 [.int .u32 x, .int .i64 k] = (let a := IntKind.i64.wrap (8 * ibits .and .i64 k 3); cond (decide (0 ≤ a)) (some (.int .u8 (IntKind.u8.wrap (x.fdiv (2 ^ min a.toNat 32))))) none) := by kernel_rfl
set_option maxRecDepth 100000 in
theorem v21 (F : Fns) (x k b : Int) : fnV (cxF F 0) 6 21 [.int .u32 x, .int .i64 k, .int .u8 b] = (let a := IntKind.i64.wrap (8 * ibits .and .i64 k 3); cond (cond (decide (0 ≤ a)) (cond (decide (0 ≤ a)) true false) false) (some (.int .u32 (ibits .or .u32 (ibits .andNot .u32 x (IntKind.u32.wrap (255 * 2 ^ min a.toNat 32))) (IntKind.u32.wrap (IntKind.u32.wrap b * 2 ^ min a.toNat 32))))) none) := by kernel_rfl
set_option maxRecDepth 100000 in
theorem v23 (F : Fns) (n b c : Int) : fnV (cxF F 1) 6 23 [.int .i64 n, .int .u32 b, .int .u32 c] = cond (F.doE n != 0) (some (.int .u32 0)) (some (.int .u32 (F.doX n b c))) := by kernel_rfl
set_option maxRecDepth 100000 in
theorem v11 (F : Fns) (n b c : Int) : fnV (cxF F 3) 6 11 [.int .i64 n, .int .u32 b, .int .u32 c] = (
  let did (x : Int) : AV := .agg 26 [.int .u32 x, .int .i64 0]
  cond (n == 1) (some (did (IntKind.u32.wrap (IntKind.i64.wrap (IntKind.i64.wrap b + IntKind.i64.wrap c)))))
  (cond (n == 2) (some (did (IntKind.u32.wrap (IntKind.i64.wrap (IntKind.i64.wrap b - IntKind.i64.wrap c)))))
  (cond (cond (n == 3) (n == 3) (cond (n == 4) (n == 4) (n == 5))) (some (did (F.logic n b c)))
  (cond (n == 6) (let k := IntKind.i64.wrap (c.tmod 32); cond (decide (k ≤ 31)) (some (did (IntKind.u32.wrap (b * F.pw k)))) none)
  (cond (n == 7) (let k := IntKind.i64.wrap (c.tmod 32); cond (decide (k ≤ 31)) (cond (!(F.pw k == 0)) (some (did (IntKind.u32.wrap (b.tdiv (F.pw k))))) none) none)
  (cond (n == 8) (some (did (IntKind.u32.wrap (b * c))))
  (cond (n == 9) (cond (c == 0) (some (did 4294967295)) (cond (!(c == 0)) (some (did (IntKind.u32.wrap (b.tdiv c)))) none))
  (cond (n == 10) (cond (c == 0) (some (did b)) (cond (!(c == 0)) (some (did (IntKind.u32.wrap (b - IntKind.u32.wrap (IntKind.u32.wrap (b.tdiv c) * c))))) none))
  (cond (n == 11) (cond (decide (F.rsg b < F.rsg c)) (some (did 1)) (some (did 0)))
  (cond (n == 12) (cond (decide (b < c)) (some (did 1)) (some (did 0)))
   (some (.agg 26 [.int .u32 0, .int .i64 1])))))))))))) := by kernel_rfl
noncomputable def code16 : Code := ((Try.f16.body.bind fun c => loopAt c 3).getD .skip)
set_option maxRecDepth 100000 in
theorem round16 {R : Type} (F : Fns) (x n z out k : Int) (call : CallH R) (K : AX → Fr → Mm → Option R) (kk : Fr → Mm → Option R) (M : Mm) :
    evC (cxF F 2) 16 call code16 (fr16 (.int .u32 x) (.int .i64 n) (.int .u32 z) (.int .u32 out) (.int .i64 k)) M (roundK (some [0, 1, 4, 5, 6]) K kk) =
    cond (decide (k < 32)) (cond (decide (fromK n k ≤ 31)) (cond (condB (F.bit x (fromK n k) == 1) (cond (decide (k ≤ 31)) true false) true)
      (kk (fr16 (.int .u32 x) (.int .i64 n) (.int .u32 z) (.int .u32 (cond (F.bit x (fromK n k) == 1) (IntKind.u32.wrap (out + F.pw k)) out)) (.int .i64 (IntKind.i64.wrap (k + 1)))) M) none) none)
     (K (.exit 0) (fr16 (.int .u32 x) (.int .i64 n) (.int .u32 z) (.int .u32 out) (.int .i64 k)) M) := by kernel_rfl
set_option maxRecDepth 100000 in
theorem v16 (F : Fns) (x n : Int) : fnV (cxF F 2) 6 16 [.int .u32 x, .int .i64 n] = cond (decide (1 ≤ n) && decide (n ≤ 32)) (some (.int .u32 (exN F x n 32))) none := by kernel_rfl
noncomputable def code26 : Code := ((Try.f26.body.bind fun c => loopAt c 3).getD .skip)
set_option maxRecDepth 100000 in
theorem round26 {R : Type} (F : Fns) (op b c z out k : Int) (call : CallH R) (K : AX → Fr → Mm → Option R) (kk : Fr → Mm → Option R) (M : Mm) :
    evC (cxF F 2) 26 call code26 (fr26 (.int .i64 op) (.int .u32 b) (.int .u32 c) (.int .u32 z) (.int .u32 out) (.int .i64 k)) M (roundK (some [0, 1, 2, 6, 7, 8]) K kk) =
    cond (decide (k < 32)) (cond (decide (k ≤ 31)) (cond (decide (k ≤ 31)) (cond (condB (lgT F op b c k) (cond (decide (k ≤ 31)) true false) true) 
      (kk (fr26 (.int .i64 op) (.int .u32 b) (.int .u32 c) (.int .u32 z) (.int .u32 (cond (lgT F op b c k) (IntKind.u32.wrap (out + F.pw k)) out)) (.int .i64 (IntKind.i64.wrap (k + 1)))) M)
        none) none) none)
     (K (.exit 0) (fr26 (.int .i64 op) (.int .u32 b) (.int .u32 c) (.int .u32 z) (.int .u32 out) (.int .i64 k)) M) := by kernel_rfl
set_option maxRecDepth 100000 in
theorem v26 (F : Fns) (op b c : Int) : fnV (cxF F 2) 6 26 [.int .i64 op, .int .u32 b, .int .u32 c] = some (.int .u32 (lgN F op b c 32)) := by kernel_rfl
set_option maxRecDepth 100000 in
theorem law3 (F : Fns) (n b c : Int) : fnV (cxF F 4) 6 3 [.int .i64 n, .int .u32 b, .int .u32 c] = some (.bool (F.doX n b c == F.rX n b c && (F.doE n == F.rE n && (F.taken n b c == F.rtaken n b c)))) := by kernel_rfl
set_option maxRecDepth 100000 in
theorem law4 (F : Fns) (x n k b : Int) : fnV (cxF F 4) 6 4 [.int .u32 x, .int .i64 n, .int .i64 k, .int .u8 b] = 
  cond (condB (decide (1 ≤ n)) (condB (decide (n ≤ 32)) (cond (F.extok n) (cond (F.extok n) true false) false) true) true)
   (cond (cond (decide (1 ≤ n)) (cond (decide (n ≤ 32)) (F.ext x n != F.rext x n) false) false) (some (.bool false))
     (some (.bool (F.sg x == F.rsg x && (F.byte x k == F.rbyte x k && F.setb x k b == F.rsetb x k b))))) none := by kernel_rfl
set_option maxRecDepth 100000 in
theorem law5 (F : Fns) (a b c : Int) : fnV (cxF F 4) 6 5 [.int .u32 a, .int .u32 b, .int .u32 c] = some (.bool (let d := F.doX; 
  let sum := d 1 a b == d 1 b a && (d 1 (d 1 a b) c == d 1 a (d 1 b c) && (d 2 (d 1 a b) b == a && d 1 a (d 2 0 a) == 0))
  let product := d 8 a b == d 8 b a && (d 8 (d 8 a b) c == d 8 a (d 8 b c) && d 8 a 1 == a)
  sum && (product && (d 8 a (d 1 b c) == d 1 (d 8 a b) (d 8 a c))))) := by kernel_rfl
set_option maxRecDepth 100000 in
theorem law6 (F : Fns) (a b c : Int) : fnV (cxF F 4) 6 6 [.int .u32 a, .int .u32 b, .int .u32 c] = some (.bool (let d := F.doX; let all := 4294967295
  let same := d 3 a b == d 3 b a && (d 4 a b == d 4 b a && (d 3 (d 3 a b) c == d 3 a (d 3 b c) && d 4 (d 4 a b) c == d 4 a (d 4 b c)))
  let spread := d 3 a (d 4 b c) == d 4 (d 3 a b) (d 3 a c) && d 4 a (d 3 b c) == d 3 (d 4 a b) (d 4 a c)
  let not := d 5 (d 3 a b) all == d 4 (d 5 a all) (d 5 b all)
  same && (spread && (not && (d 5 (d 5 a b) b == a && d 5 a b == d 2 (d 4 a b) (d 3 a b)))))) := by kernel_rfl
set_option maxRecDepth 100000 in
theorem law7 (F : Fns) (b c p : Int) : fnV (cxF F 4) 6 7 [.int .u32 b, .int .u32 c, .int .u8 p] = (let d := F.doX; let q := d 9 b c; let r := d 10 b c;
  cond (c == 0) (some (.bool (q == 4294967295 && r == b)))
   (cond (d 1 (d 8 q c) r != b || (cond (!(F.taken 31 r c)) true (F.taken 31 b (d 8 q c)))) (some (.bool false))
    (let k := IntKind.u32.wrap (p.tmod 32); let w := d 6 1 k
     some (.bool (d 7 b k == d 9 b w && (d 3 b (d 2 w 1) == d 10 b w && (d 6 b k == d 8 b w && d 6 b (IntKind.u32.wrap (k + 32)) == d 6 b k))))))) := by kernel_rfl
set_option maxRecDepth 100000 in
theorem law8 (F : Fns) (a b c : Int) : fnV (cxF F 4) 6 8 [.int .u32 a, .int .u32 b, .int .u32 c] = (let d := F.doX; let T := F.taken
  let n (op : Int) : Int := 
     let n1 := cond (T op a b) 1 0
     let n2 := cond (T op b a) (IntKind.i64.wrap (n1 + 1)) n1
     cond (T 28 a b) (IntKind.i64.wrap (n2 + 1)) n2
  let bad (op op' : Int) : Bool := 
    cond (n op != 1) true (cond (T op a b) (cond (T op b c) (cond (!(T op a c)) true (cond ((d op' a b == 1) != T op a b) true (decide (1 < d op' a b)))) (cond ((d op' a b == 1) != T op a b) true (decide (1 < d op' a b)))) (cond ((d op' a b == 1) != T op a b) true (decide (1 < d op' a b))))
  cond (bad 30 11) (some (.bool false)) (cond (bad 31 12) (some (.bool false))
    (let x := d 5 a 2147483648
     let y := d 5 b 2147483648
     some (.bool (T 28 a b != T 29 a b && (T 30 a b == T 31 x y && T 30 a b == decide (F.sg a < F.sg b))))))) := by kernel_rfl
set_option maxRecDepth 100000 in
theorem law9 (F : Fns) (x k b bits : Int) : fnV (cxF F 4) 6 9 [.int .u32 x, .int .i64 k, .int .u8 b, .int .u8 bits] = (
  let y := F.setb x k b
  let made := F.setb (F.setb (F.setb (F.setb 0 0 (F.byte x 0)) 1 (F.byte x 1)) 2 (F.byte x 2)) 3 (F.byte x 3)
  let ch (i : Int) (n : Int) : Int := cond (F.byte y i != F.byte x i) (IntKind.i64.wrap (n + 1)) n
  let changed := ch 3 (ch 2 (ch 1 (ch 0 0)))
  cond (cond (made != x) true (cond (F.byte y k != b) true (cond (ltI 1 changed) true ((changed == 0) != (F.byte x k == b))))) (some (.bool false))
   (let n := IntKind.i64.wrap (1 + IntKind.i64.wrap (bits.tmod 32))
    let z := F.ext x n
    cond (F.extok n)
    (let low := F.doX 7 4294967295 (IntKind.u32.wrap (IntKind.i64.wrap (32 - n)))
     let m := IntKind.i64.wrap (n - 1)
     cond (leI 0 m)
     (let half := IntKind.i64.wrap (1 * 2 ^ min m.toNat 64)
      cond (cond (cond (F.extok n) true false) true false) (some (.bool (F.ext z n == z && (F.doX 3 z low == F.doX 3 x low && (leI (IntKind.i64.wrap (0 - half)) (F.sg z) && ltI (F.sg z) half))))) none)
      none) none)) := by kernel_rfl
end Go.Proofs.Ytdeiiaemficjeaa

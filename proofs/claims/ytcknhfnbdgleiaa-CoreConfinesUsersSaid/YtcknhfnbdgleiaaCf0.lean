/- Lists of mappings (taken from ch. 10). -/
import Derived.Test.YtcknhfnbdgleiaaKv0
set_option linter.unusedVariables false
set_option linter.unusedSimpArgs false
namespace Go.Proofs.Ytcknhfnbdgleiaa
open Go.AE
structure Mg where
 va : Nat
 pa : Nat
 bits : Nat
deriving DecidableEq
abbrev fQ (x : Mg) : AV := .agg 51 [.int .u32 (x.va : Int), .int .u32 (x.pa : Int), .int .i64 (x.bits : Int)]
def qo (m : av) (e i k : Nat) : List Mg :=
 cond (hb (wo m (pa e + 4 * k)) 1) (cond (hb (wo m (pa e + 4 * k)) 64) [] (cond (bE m (pa (wo m (pa e + 4 * k)))) [⟨4096 * i + 128 * k, pa (wo m (pa e + 4 * k)), wo m (pa e + 4 * k) % 128⟩] [])) []
def mW (m : av) (root i : Nat) : List Mg :=
 cond (hb (wo m (root + 4 * i)) 1) (cond (right m (wo m (root + 4 * i))) (cond (hb (wo m (root + 4 * i)) 64)
  (cond (bE m (pa (wo m (root + 4 * i)))) [⟨4096 * i, pa (wo m (root + 4 * i)), wo m (root + 4 * i) % 128⟩] [])
  ((List.range 32).flatMap (qo m (wo m (root + 4 * i)) i))) []) []
def kQ (m : av) (root : Nat) : List Mg := cond (cond (root == 0) true (!bE m root)) [] ((List.range 32).flatMap (mW m root))
theorem Oi {σ : Type} {st : σ -> Tr σ} (mk : Nat -> List Mg -> σ) (N B A : Nat) (f : Nat -> List Mg) (R : List Mg -> LO) (hB : ∀ n, (f n).length <= B)
    (hs : ∀ (n : Nat) (acc : List Mg) (K : σ -> LO), n < N -> acc.length <= A + B * n -> (st (mk n acc)).eval K = K (mk (n + 1) (acc ++ f n)))
    (he : ∀ (acc : List Mg) (K : σ -> LO), (st (mk N acc)).eval K = R acc) (acc0 : List Mg) (h0 : acc0.length <= A) {fuel : Nat} (hf : N < fuel) :
    Tr.run st fuel (mk 0 acc0) = R (acc0 ++ (List.range N).flatMap f) := by
 have key : ∀ (j n : Nat) (acc : List Mg) (fuel : Nat), n + j = N -> acc.length <= A + B * n -> j < fuel -> Tr.run st fuel (mk n acc) = R (acc ++ (List.range' n j).flatMap f) := by
  intro j
  induction j with
  | zero =>
   intro n acc fuel hn ha hf
   obtain ⟨g, rfl⟩ : ∃ g, fuel = g + 1 := ⟨fuel - 1, by omega⟩
   obtain rfl : n = N := by omega
   rw [Tr.run, he]; simp
  | succ j ih =>
   intro n acc fuel hn ha hf
   obtain ⟨g, rfl⟩ : ∃ g, fuel = g + 1 := ⟨fuel - 1, by omega⟩
   have := hB n
   rw [Tr.run, hs n acc _ (by omega) ha, ih (n + 1) _ g (by omega) (by rw [List.length_append, Nat.mul_succ]; omega) (by omega), List.range'_succ, List.flatMap_cons, List.append_assoc]
 have := key N 0 acc0 fuel (by omega) (by omega) hf
 rwa [<- List.range_eq_range'] at this
theorem Nt (m : av) (e i k : Nat) : (qo m e i k).length <= 1 := by
 unfold qo
 cases hb (wo m (pa e + 4 * k)) 1
 . simp
 . cases hb (wo m (pa e + 4 * k)) 64
   . simp only [cond_true, cond_false]; cases bE m (pa (wo m (pa e + 4 * k))) <;> simp
   . simp
theorem GR {f : Nat -> List Mg} {B : Nat} (h : ∀ n, (f n).length <= B) : ∀ l : List Nat, (l.flatMap f).length <= B * l.length
 | [] => by simp
 | a :: l => by
  have := h a
  have := GR h l
  rw [List.flatMap_cons, List.length_append, List.length_cons, Nat.mul_succ]; omega
theorem JC (m : av) (root i : Nat) : (mW m root i).length <= 32 := by
 unfold mW
 cases hb (wo m (root + 4 * i)) 1
 . simp
 . cases right m (wo m (root + 4 * i))
   . simp
   . cases hb (wo m (root + 4 * i)) 64
     . have := GR (Nt m (wo m (root + 4 * i)) i) (List.range 32)
       simpa using this
     . simp only [cond_true]; cases bE m (pa (wo m (root + 4 * i))) <;> simp
theorem room {l : List Mg} {n : Nat} (h : l.length <= n) (hn : n <= 10000) : decide (((l.map fQ).length + 1) * 16 <= 140737488355328) = true := by
 rw [List.length_map]; exact decide_eq_true (by omega)
theorem Jd {n : Nat} (h : n < 32) : decide ((n : Int) < 32) = true := decide_eq_true (by omega)
theorem WK (k : Nat) {m : av} (w : Wm m) {i e t : Nat} (hi : i < 32) (he : e < 4294967296) (hp : pa e < 8192) (b0 b1 b2 : Bool) (a : Int) {n : Nat} (hn : n < 32) (acc : List Mg) (hacc : acc.length <= 5000) (K : List AV × Int -> LO) :
    (qg (D (k + 5)) a i (m.map pg) t e b0 b1 b2 (acc.map fQ, (n : Int))).eval K = K ((acc ++ qo m e i n).map fQ, ((n + 1 : Nat) : Int)) := by
 have hl := w.le
 have e1 : IntKind.i64.wrap (128 * (n : Int)) = ((128 * n : Nat) : Int) := by rw [dP (by omega) (by omega)]; omega
 have e2 : IntKind.u32.wrap (IntKind.i64.wrap (IntKind.i64.wrap (4096 * (i : Int)) + ((128 * n : Nat) : Int))) = ((4096 * i + 128 * n : Nat) : Int) := by
  rw [dP (n := 4096 * (i : Int)) (by omega) (by omega), dP (by omega) (by omega), jA (by omega) (by omega)]; omega
 have ea : at2 e (128 * n) = pa e + 4 * n := by unfold at2; omega
 have r1 := Qy (k + 3) t e (128 * n) b0 b1 b2 he (by omega)
 rw [ea] at r1
 have r2 := JA (k + 1) w (pa e + 4 * n) (by omega)
 have hw := oD w (pa e + 4 * n)
 have r3 := Cg (k + 4) hw 1 (by omega)
 have r4 := Cg (k + 4) hw 64 (by omega)
 simp only [show ((1 : Nat) : Int) = 1 from rfl] at r3
 simp only [show ((64 : Nat) : Int) = 64 from rfl] at r4
 have r5 := ze (k + 4) hw
 have hpl := lZ (wo m (pa e + 4 * n))
 have r6 := zZ (k + 3) w (pa (wo m (pa e + 4 * n))) (by omega)
 simp only [qg, M7, Tr.eval, e2, e1, r1.ok, r1.val, iO, r2.ok, r2.val]
 simp only [r3.ok, r3.val, r4.ok, r4.val, r5.ok, r5.val, r6.ok, r6.val, bO, iO, Jd hn, mH (show n < 1000000 by omega), kR, w32 (show pa (wo m (pa e + 4 * n)) < 4294967296 by omega), room hacc (by omega), cond_true, nE, Bool.or_true]
 unfold qo
 cases hb (wo m (pa e + 4 * n)) 1
 . simp only [cond_false, List.append_nil]
 . cases hb (wo m (pa e + 4 * n)) 64
   . simp only [cond_true, cond_false, Bool.not_false]
     cases bE m (pa (wo m (pa e + 4 * n)))
     . simp only [cond_false, List.append_nil]
     . simp only [cond_true, List.map_append]; rfl
   . simp only [cond_true, cond_false, Bool.not_true, List.append_nil]
theorem Z5 (k : Nat) {m : av} (w : Wm m) {root : Nat} (hr : root < 8192) {n : Nat} (hn : n < 32) (acc : List Mg) (hacc : acc.length <= 32 * n) (K : List AV × Int -> LO) :
    (q8 (D (k + 5)) root (m.map pg) (acc.map fQ, (n : Int))).eval K = K ((acc ++ mW m root n).map fQ, ((n + 1 : Nat) : Int)) := by
 have hl := w.le
 have e1 : IntKind.i64.wrap (root : Int) = (root : Int) := eH (by omega)
 have e2 : IntKind.i64.wrap (4096 * (n : Int)) = ((4096 * n : Nat) : Int) := by rw [dP (by omega) (by omega)]; omega
 have e3 : IntKind.u32.wrap ((4096 * n : Nat) : Int) = ((4096 * n : Nat) : Int) := w32 (by omega)
 have ea : aJ root (4096 * n) = root + 4 * n := by unfold aJ; omega
 have r2 := aap k w root (4096 * n) hr (by omega)
 have hw := oD w (root + 4 * n)
 unfold Gc at r2
 rw [ea] at r2
 have r5 := ze (k + 4) hw
 have hpl := lZ (wo m (root + 4 * n))
 have r6 := zZ (k + 3) w (pa (wo m (root + 4 * n))) (by omega)
 simp only [q8, Km, Tr.eval, e1, e2, r2.ok, r2.val, pO, g0, g1, g2, g3, g4, iO, bO]
 have ha : ∀ e : Nat, right m e = true -> hb e 64 = false -> pa e < 8192 := fun e => JO w
 unfold mW
 generalize wo m (root + 4 * n) = e at *
 simp only [r5.ok, r5.val, r6.ok, r6.val, bO, iO, Jd hn, mH (show n < 1000000 by omega), e3, kR, w32 (show pa e < 4294967296 by omega), room hacc (by omega), cond_true]
 cases h1 : hb e 1 with
 | false => simp only [cond_false, cond_true, Bool.not_false, List.append_nil]
 | true =>
 cases h2 : right m e with
 | false => simp only [cond_false, cond_true, Bool.not_false, Bool.not_true, List.append_nil]
 | true =>
 cases h3 : hb e 64 with
 | true =>
  simp only [cond_true, cond_false, Bool.not_true]
  cases bE m (pa e)
  . simp only [cond_false, List.append_nil]
  . simp only [cond_true, List.map_append]; rfl
 | false =>
  have hp := ha e h2 h3
  have := Oi (st := qg (D (k + 5)) root n (m.map pg) (root + 4 * n : Nat) e true true false) (fun n acc => (acc.map fQ, (n : Int))) 32 1 (32 * n) (qo m e n) (fun acc => ⟨1, [], [], [acc.map fQ], [], [], []⟩) (Nt m e n)
   (fun n' acc K h1 h2 => WK k w hn hw hp true true false root h1 acc (by omega) K) (fun acc K => rfl) acc hacc (fuel := 100000) (by omega)
  simp only [cond_true, cond_false, Bool.not_true]
  unfold G5
  rw [show ((0 : Nat) : Int) = 0 from rfl] at this
  rw [this]
  rfl
theorem Yc (k : Nat) {m : av} (w : Wm m) (root : Nat) (hr : root < 4294967296) : Rt Pg (D (k + 6)) 34 [mv m, .int .u32 (root : Int)] (.slice 52 ((kQ m root).map fQ) false) := .of (by
 have hl := w.le
 have r1 := zZ (k + 3) w root (by omega)
 have eR : ((root : Int) == 0) = (root == 0) := bP _ 0
 rw [Dk, Rk]
 simp only [eH (show root < 9223372036854775808 by omega), r1.ok, r1.val, bO, eR, o9, cond_true]
 unfold kQ
 cases h1 : root == 0 with
 | true => rfl
 | false =>
 cases h2 : bE m root with
 | false => rfl
 | true =>
 have g := ku h2
 have := Oi (st := q8 (D (k + 5)) root (m.map pg)) (fun n acc => (acc.map fQ, (n : Int))) 32 32 0 (mW m root) (fun acc => ⟨1, [], [], [acc.map fQ], [], [], []⟩) (JC m root)
  (fun n' acc K h1 h2 => Z5 k w (by omega) h1 acc (by omega) K) (fun acc K => rfl) [] (by simp) (fuel := 100000) (by omega)
 simp only [cond_true, cond_false, Bool.not_true]
 unfold Bp
 simp only [List.map_nil] at this
 rw [show ((0 : Nat) : Int) = 0 from rfl] at this
 rw [this]
 rfl) (by kernel_rfl)
theorem aaE {m : av} (w : Wm m) {a v : Nat} (ht : th m a 4 = true) (h1 : a / 128 < m.length) (h2 : a % 4 = 0) (hv : v < 4294967296) {x : Nat} (hx : x % 4 = 0) : wo (st m a (wb v)) x = cond (x == a) v (wo m x) := by
 unfold wo
 rw [uS (qd ..)]
 by_cases e : x = a
 . subst e; rw [ht, beq_self_eq_true]; simp only [cond_true]; show wd _ _ = v; rw [Lm w h2 h1 hv _ hx, if_pos rfl]
 . rw [beq_eq_false_iff_ne.mpr e, cond_false]
   cases th m x 4 with
   | false => rfl
   | true => simp only [cond_true]; show wd _ _ = wd _ _; rw [Lm w h2 h1 hv _ hx, if_neg e]
def sz (x : Mg) : Nat := cond (hb x.bits 64) 4096 128
theorem TW (m : av) (root : Nat) : (kQ m root).length <= 1024 := by
 unfold kQ
 cases cond (root == 0) true (!bE m root) with
 | true => simp
 | false =>
  have := GR (JC m root) (List.range 32)
  rw [List.length_range] at this
  simp only [cond_false]
  omega
end Go.Proofs.Ytcknhfnbdgleiaa

/- Frames that are known in full: what is kept, the others forgotten. And loops of which nothing is said. -/
import Derived.Test.YtglfkdbfiipjjaaEv29
set_option linter.unusedVariables false
set_option linter.unusedSimpArgs false
namespace Go.AE

def lookA (i : Nat) : List (Nat × AV) → AV
  | [] => .dead
  | (j, v) :: r => if Nat.beq j i then v else lookA i r
def mkL (kv : List (Nat × AV)) : Nat → Nat → List AV
  | _, 0 => []
  | i, n + 1 => lookA i kv :: mkL kv (i + 1) n
/-- A frame of n temporaries, of which these are known. -/
def mkFr (n : Nat) (kv : List (Nat × AV)) (tf : List (Nat × TF)) : Fr := ⟨mkL kv 0 n, tf⟩
def AV.isDead : AV → Bool
  | .dead => true
  | _ => false
def deadBut (ks : List Nat) : Nat → Nat → List AV → Bool
  | _, 0, [] => true
  | i, n + 1, v :: vs => (if memN i ks then true else v.isDead) && deadBut ks (i + 1) n vs
  | _, _, _ => false
def okFr (n : Nat) (ks : List Nat) (fr : Fr) : Bool := deadBut ks 0 n fr.tmps
theorem isDead_eq {v : AV} (h : v.isDead = true) : v = .dead := by cases v <;> simp_all [AV.isDead]
theorem lookA_map (f : Nat → AV) (i : Nat) : ∀ ks : List Nat, lookA i (ks.map fun k => (k, f k)) = if i ∈ ks then f i else .dead
  | [] => by simp [lookA]
  | k :: ks => by
    simp only [List.map_cons, lookA, List.mem_cons]
    by_cases h : k = i
    · subst h; simp
    · rw [if_neg (fun e => h (Nat.eq_of_beq_eq_true e)), lookA_map f i ks]
      by_cases h2 : i ∈ ks
      · rw [if_pos h2, if_pos (.inr h2)]
      · rw [if_neg h2, if_neg (fun e => e.elim (fun e => h e.symm) h2)]
theorem deadBut_eq (ks : List Nat) (f : Nat → AV) : ∀ (n i : Nat) (l : List AV), deadBut ks i n l = true → (∀ j, l.getD j .dead = f (i + j)) → l = mkL (ks.map fun k => (k, f k)) i n
  | 0, i, [], _, _ => rfl
  | 0, i, _ :: _, h, _ => by simp [deadBut] at h
  | n + 1, i, [], h, _ => by simp [deadBut] at h
  | n + 1, i, v :: vs, h, hf => by
    simp only [deadBut, Bool.and_eq_true] at h
    simp only [mkL]
    refine List.cons_eq_cons.2 ⟨?_, deadBut_eq ks f n (i + 1) vs h.2 fun j => by rw [show i + 1 + j = i + (j + 1) from by omega, ← hf]; rfl⟩
    rw [lookA_map]
    have h0 : v = f i := by simpa using hf 0
    split
    · exact h0
    · rename_i hi
      have h1 := h.1
      rw [if_neg (fun e => hi (memN_iff.1 e))] at h1
      exact isDead_eq h1
/-- A frame of which all is checked is known. -/
theorem okFr_eq {n : Nat} {ks : List Nat} {fr : Fr} (h : okFr n ks fr = true) : fr = mkFr n (ks.map fun k => (k, fr.tmps.getD k .dead)) fr.tf := by
  have := deadBut_eq ks (fun k => fr.tmps.getD k .dead) n 0 fr.tmps h fun j => by rw [Nat.zero_add]
  unfold mkFr
  rw [← this]
theorem Ctx.noLoops {cx : Ctx} (h : ∀ dep f id fr M, cx.ends dep f id fr M = none) : cx.Loops := fun dep f id fr M t ht => by rw [h] at ht; exact absurd ht (by simp)
/-- A loop of N rounds, in which memory changes. -/
theorem iter_rounds2 {R : Type} {B : Fr → Mm → (Fr → Mm → Option R) → Option R} {st : Nat → Fr} {mm : Nat → Mm} {out : Option R} {N : Nat} (hstep : ∀ k, k < N → ∀ kk, B (st k) (mm k) kk = kk (st (k + 1)) (mm (k + 1))) (hend : ∀ kk, B (st N) (mm N) kk = out) :
    ∀ n, N < n → iter n B (st 0) (mm 0) = out := by
  have h : ∀ m k n, k + m = N → m < n → iter n B (st k) (mm k) = out := by
    intro m
    induction m with
    | zero =>
      intro k n hk hn
      obtain ⟨n', rfl⟩ : ∃ n', n = n' + 1 := ⟨n - 1, by omega⟩
      obtain rfl : k = N := by omega
      exact hend _
    | succ m ih =>
      intro k n hk hn
      obtain ⟨n', rfl⟩ : ∃ n', n = n' + 1 := ⟨n - 1, by omega⟩
      show B (st k) (mm k) (iter n' B) = out
      rw [hstep k (by omega)]
      exact ih (k + 1) n' (by omega) (by omega)
  intro n hn
  exact h N 0 n (by omega) hn
/-- A loop of N rounds. -/
theorem iter_rounds {R : Type} {B : Fr → Mm → (Fr → Mm → Option R) → Option R} {st : Nat → Fr} {M : Mm} {out : Option R} {N : Nat} (hstep : ∀ k, k < N → ∀ kk, B (st k) M kk = kk (st (k + 1)) M) (hend : ∀ kk, B (st N) M kk = out) :
    ∀ n, N < n → iter n B (st 0) M = out := by
  have h : ∀ m k n, k + m = N → m < n → iter n B (st k) M = out := by
    intro m
    induction m with
    | zero =>
      intro k n hk hn
      obtain ⟨n', rfl⟩ : ∃ n', n = n' + 1 := ⟨n - 1, by omega⟩
      obtain rfl : k = N := by omega
      exact hend _
    | succ m ih =>
      intro k n hk hn
      obtain ⟨n', rfl⟩ : ∃ n', n = n' + 1 := ⟨n - 1, by omega⟩
      show B (st k) M (iter n' B) = out
      rw [hstep k (by omega)]
      exact ih (k + 1) n' (by omega) (by omega)
  intro n hn
  exact h N 0 n (by omega) hn
end Go.AE

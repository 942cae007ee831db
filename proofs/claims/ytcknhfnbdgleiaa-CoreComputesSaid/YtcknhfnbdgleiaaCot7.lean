/- Walk. -/
import Derived.Test.YtcknhfnbdgleiaaCot6
set_option linter.unusedVariables false
set_option linter.unusedSimpArgs false
namespace Go.Proofs.Ytcknhfnbdgleiaa
open Go.AE

structure Wk where
 at' : Int
 leaf : Int
 set' : List Wr
 reads : List Nat
 cause : Nat
def cz (acc : Nat) : Nat := ([0, 5, 6, 6, 4] : List Nat).getD acc 0
def bad (acc : Nat) (reads : List Nat) : Wk := ⟨0, 0, [], reads, cz acc⟩
def stor (acc : Nat) : Bool := cond (acc == 2) true (acc == 3)
def may (e acc : Nat) (user : Bool) : Bool := !(cond (stor acc) (cond (!hb e 2) true (cond (acc == 4) (cond (!hb e 8) true (cond user (!hb e 4) false)) (cond user (!hb e 4) false))) (cond (acc == 4) (cond (!hb e 8) true (cond user (!hb e 4) false)) (cond user (!hb e 4) false)))
def upd (e acc : Nat) : Nat := cond (stor acc) (cond (hb e 32) (cond (hb e 16) e (e + 16)) (cond (hb e 16) e (e + 16) + 32)) (cond (hb e 16) e (e + 16))
def fin (m : Pgs) (acc : Nat) (user : Bool) (e page a va : Nat) (reads : List Nat) : Wk :=
 cond (pgd m page) (cond (may e acc user) ⟨((page + va % 128 : Nat) : Int), (a : Int), cond (upd e acc == e) [] [⟨a, 4, upd e acc⟩], reads, 0⟩ (bad acc reads)) (bad acc reads)
def at1 (root va : Nat) : Nat := root + 4 * (va / 4096)
def at2 (e va : Nat) : Nat := pa e + va / 128 % 32 * 4
def pg1 (e va : Nat) : Nat := pa e + va / 128 % 32 * 128
def walk (m : Pgs) (root va acc : Nat) (user : Bool) : Wk :=
 cond (root == 0) (cond (decide (va < 128 * m.length)) ⟨(va : Int), -1, [], [], 0⟩ (bad acc []))
  (cond (decide (va < 131072)) (cond (pgd m root)
   (cond (hb (wo m (at1 root va)) 1) (cond (right m (wo m (at1 root va)))
    (cond (hb (wo m (at1 root va)) 64) (fin m acc user (wo m (at1 root va)) (pg1 (wo m (at1 root va)) va) (at1 root va) va [at1 root va])
     (cond (hb (wo m (at2 (wo m (at1 root va)) va)) 1) (cond (hb (wo m (at2 (wo m (at1 root va)) va)) 64) (bad acc [at1 root va, at2 (wo m (at1 root va)) va])
      (fin m acc user (wo m (at2 (wo m (at1 root va)) va)) (pa (wo m (at2 (wo m (at1 root va)) va))) (at2 (wo m (at1 root va)) va) va [at1 root va, at2 (wo m (at1 root va)) va])) (bad acc [at1 root va, at2 (wo m (at1 root va)) va])))
    (bad acc [at1 root va])) (bad acc [at1 root va]))
   (bad acc [])) (bad acc []))
def wkA (x : Wk) : AV := .agg 31 [.int .i64 x.at', .int .i64 x.leaf, .slice 42 (x.set'.map wv) false, .slice 3 (x.reads.map iv) false]
def wkT (x : Wk) : AV := .tuple [wkA x, .int .i64 (x.cause : Int)]
theorem or16 (e : Nat) (he : e < 4294967296) : aF .or .u32 (e : Int) 16 = ((cond (hb e 16) e (e + 16) : Nat) : Int) := by
 have h : ∀ r : Nat, r < 128 → r ||| 16 = cond (r / 16 % 2 == 1) r (r + 16) := by decide +kernel
 have key : e ||| 16 = e / 128 * 128 + (e % 128 ||| 16) := by
  have e1 : e = 2 ^ 7 * (e / 128) ||| e % 128 := by rw [← Nat.two_pow_add_eq_or_of_lt (by omega)]; omega
  have e2 : (e % 128 ||| 16) < 2 ^ 7 := Nat.or_lt_two_pow (by omega) (by decide)
  rw [show e / 128 * 128 = 2 ^ 7 * (e / 128) by omega, Nat.two_pow_add_eq_or_of_lt e2, ← Nat.or_assoc, ← e1]
 rw [show (16 : Int) = ((16 : Nat) : Int) from rfl, kV (by omega) (by omega) (by omega) (by omega), Int.toNat_natCast, Int.toNat_natCast, key, h _ (by omega)]
 unfold hb
 rw [show e % 128 / 16 % 2 = e / 16 % 2 by omega]
 congr 1
 cases e / 16 % 2 == 1 <;> simp <;> omega
theorem or32 (e : Nat) (he : e < 4294967296) : aF .or .u32 (e : Int) 32 = ((cond (hb e 32) e (e + 32) : Nat) : Int) := by
 have h : ∀ r : Nat, r < 128 → r ||| 32 = cond (r / 32 % 2 == 1) r (r + 32) := by decide +kernel
 have key : e ||| 32 = e / 128 * 128 + (e % 128 ||| 32) := by
  have e1 : e = 2 ^ 7 * (e / 128) ||| e % 128 := by rw [← Nat.two_pow_add_eq_or_of_lt (by omega)]; omega
  have e2 : (e % 128 ||| 32) < 2 ^ 7 := Nat.or_lt_two_pow (by omega) (by decide)
  rw [show e / 128 * 128 = 2 ^ 7 * (e / 128) by omega, Nat.two_pow_add_eq_or_of_lt e2, ← Nat.or_assoc, ← e1]
 rw [show (32 : Int) = ((32 : Nat) : Int) from rfl, kV (by omega) (by omega) (by omega) (by omega), Int.toNat_natCast, Int.toNat_natCast, key, h _ (by omega)]
 unfold hb
 rw [show e % 128 / 32 % 2 = e / 32 % 2 by omega]
 congr 1
 cases e / 32 % 2 == 1 <;> simp <;> omega
theorem Nk (e : Nat) (he : e < 4294967296) : cond (hb e 16) e (e + 16) < 4294967296 := by
 unfold hb
 cases h : e / 16 % 2 == 1 with
 | true => exact he
 | false => simp at h ⊢; omega
theorem M7 (e : Nat) : hb (cond (hb e 16) e (e + 16)) 32 = hb e 32 := by
 unfold hb
 cases h : e / 16 % 2 == 1 with
 | true => rfl
 | false => simp at h; simp only [cond_false]; rw [show (e + 16) / 32 % 2 = e / 32 % 2 by omega]
theorem a32_lt (e : Nat) (he : e < 4294967296) : cond (hb e 32) e (e + 32) < 4294967296 := by
 unfold hb
 cases h : e / 32 % 2 == 1 with
 | true => exact he
 | false => simp at h ⊢; omega
theorem upd_lt (e acc : Nat) (he : e < 4294967296) : upd e acc < 4294967296 := by
 unfold upd
 have := a32_lt _ (Nk e he)
 rw [M7] at this
 cases stor acc with
 | false => exact Nk e he
 | true => rw [cond_true]; exact Nat.lt_of_le_of_lt (Nat.le_of_eq (by cases hb e 32 <;> rfl)) this
/-- The entry as it is after the access. -/
theorem Pp (e acc : Nat) (he : e < 4294967296) : cond (stor acc) (aF .or .u32 (aF .or .u32 (e : Int) 16) 32) (aF .or .u32 (e : Int) 16) = ((upd e acc : Nat) : Int) := by
 rw [or16 e he, or32 _ (Nk e he), M7]
 unfold upd
 cases stor acc with
 | false => rfl
 | true => cases hb e 32 <;> rfl
end Go.Proofs.Ytcknhfnbdgleiaa

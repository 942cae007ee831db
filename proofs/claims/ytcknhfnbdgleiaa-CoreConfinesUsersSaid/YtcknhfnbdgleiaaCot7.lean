/- Walk. -/
import Derived.Test.YtcknhfnbdgleiaaCot6
set_option linter.unusedVariables false
set_option linter.unusedSimpArgs false
namespace Go.Proofs.Ytcknhfnbdgleiaa
open Go.AE
structure Wk where
 at' : Int
 leaf : Int
 set' : List Wr
 reads : List Nat
 cause : Nat
def cz (acc : Nat) : Nat := ([0, 5, 6, 6, 4] : List Nat).getD acc 0
def bad (acc : Nat) (reads : List Nat) : Wk := ⟨0, 0, [], reads, cz acc⟩
def lJ (acc : Nat) : Bool := cond (acc == 2) true (acc == 3)
def may (e acc : Nat) (user : Bool) : Bool := !(cond (lJ acc) (cond (!hb e 2) true (cond (acc == 4) (cond (!hb e 8) true (cond user (!hb e 4) false)) (cond user (!hb e 4) false))) (cond (acc == 4) (cond (!hb e 8) true (cond user (!hb e 4) false)) (cond user (!hb e 4) false)))
def upd (e acc : Nat) : Nat := cond (lJ acc) (cond (hb e 32) (cond (hb e 16) e (e + 16)) (cond (hb e 16) e (e + 16) + 32)) (cond (hb e 16) e (e + 16))
def fin (m : av) (acc : Nat) (user : Bool) (e page a va : Nat) (reads : List Nat) : Wk :=
 cond (bE m page) (cond (may e acc user) ⟨((page + va % 128 : Nat) : Int), (a : Int), cond (upd e acc == e) [] [⟨a, 4, upd e acc⟩], reads, 0⟩ (bad acc reads)) (bad acc reads)
def aJ (root va : Nat) : Nat := root + 4 * (va / 4096)
def at2 (e va : Nat) : Nat := pa e + va / 128 % 32 * 4
def jG (e va : Nat) : Nat := pa e + va / 128 % 32 * 128
def walk (m : av) (root va acc : Nat) (user : Bool) : Wk :=
 cond (root == 0) (cond (decide (va < 128 * m.length)) ⟨(va : Int), -1, [], [], 0⟩ (bad acc []))
  (cond (decide (va < 131072)) (cond (bE m root)
   (cond (hb (wo m (aJ root va)) 1) (cond (right m (wo m (aJ root va)))
    (cond (hb (wo m (aJ root va)) 64) (fin m acc user (wo m (aJ root va)) (jG (wo m (aJ root va)) va) (aJ root va) va [aJ root va])
     (cond (hb (wo m (at2 (wo m (aJ root va)) va)) 1) (cond (hb (wo m (at2 (wo m (aJ root va)) va)) 64) (bad acc [aJ root va, at2 (wo m (aJ root va)) va])
      (fin m acc user (wo m (at2 (wo m (aJ root va)) va)) (pa (wo m (at2 (wo m (aJ root va)) va))) (at2 (wo m (aJ root va)) va) va [aJ root va, at2 (wo m (aJ root va)) va])) (bad acc [aJ root va, at2 (wo m (aJ root va)) va])))
    (bad acc [aJ root va])) (bad acc [aJ root va]))
   (bad acc [])) (bad acc []))
def Gg (x : Wk) : AV := .agg 31 [.int .i64 x.at', .int .i64 x.leaf, .slice 42 (x.set'.map wv) false, .slice 3 (x.reads.map iv) false]
def GZ (x : Wk) : AV := .tuple [Gg x, .int .i64 (x.cause : Int)]
theorem XO (e : Nat) (he : e < 4294967296) : aD .or .u32 (e : Int) 16 = ((cond (hb e 16) e (e + 16) : Nat) : Int) := by
 have h : ∀ r : Nat, r < 128 -> r ||| 16 = cond (r / 16 % 2 == 1) r (r + 16) := by decide +kernel
 have key : e ||| 16 = e / 128 * 128 + (e % 128 ||| 16) := by
  have e1 : e = 2 ^ 7 * (e / 128) ||| e % 128 := by rw [<- Nat.two_pow_add_eq_or_of_lt (by omega)]; omega
  have e2 : (e % 128 ||| 16) < 2 ^ 7 := Nat.or_lt_two_pow (by omega) (by decide)
  rw [show e / 128 * 128 = 2 ^ 7 * (e / 128) by omega, Nat.two_pow_add_eq_or_of_lt e2, <- Nat.or_assoc, <- e1]
 rw [show (16 : Int) = ((16 : Nat) : Int) from rfl, uE (by omega) (by omega) (by omega) (by omega), Int.toNat_natCast, Int.toNat_natCast, key, h _ (by omega)]
 unfold hb
 rw [show e % 128 / 16 % 2 = e / 16 % 2 by omega]
 congr 1
 cases e / 16 % 2 == 1 <;> simp <;> omega
theorem Tf (e : Nat) (he : e < 4294967296) : aD .or .u32 (e : Int) 32 = ((cond (hb e 32) e (e + 32) : Nat) : Int) := by
 have h : ∀ r : Nat, r < 128 -> r ||| 32 = cond (r / 32 % 2 == 1) r (r + 32) := by decide +kernel
 have key : e ||| 32 = e / 128 * 128 + (e % 128 ||| 32) := by
  have e1 : e = 2 ^ 7 * (e / 128) ||| e % 128 := by rw [<- Nat.two_pow_add_eq_or_of_lt (by omega)]; omega
  have e2 : (e % 128 ||| 32) < 2 ^ 7 := Nat.or_lt_two_pow (by omega) (by decide)
  rw [show e / 128 * 128 = 2 ^ 7 * (e / 128) by omega, Nat.two_pow_add_eq_or_of_lt e2, <- Nat.or_assoc, <- e1]
 rw [show (32 : Int) = ((32 : Nat) : Int) from rfl, uE (by omega) (by omega) (by omega) (by omega), Int.toNat_natCast, Int.toNat_natCast, key, h _ (by omega)]
 unfold hb
 rw [show e % 128 / 32 % 2 = e / 32 % 2 by omega]
 congr 1
 cases e / 32 % 2 == 1 <;> simp <;> omega
theorem Gw (e : Nat) (he : e < 4294967296) : cond (hb e 16) e (e + 16) < 4294967296 := by
 unfold hb
 cases h : e / 16 % 2 == 1 with
 | true => exact he
 | false => simp at h ⊢; omega
theorem Nk (e : Nat) : hb (cond (hb e 16) e (e + 16)) 32 = hb e 32 := by
 unfold hb
 cases h : e / 16 % 2 == 1 with
 | true => rfl
 | false => simp at h; simp only [cond_false]; rw [show (e + 16) / 32 % 2 = e / 32 % 2 by omega]
theorem XW (e : Nat) (he : e < 4294967296) : cond (hb e 32) e (e + 32) < 4294967296 := by
 unfold hb
 cases h : e / 32 % 2 == 1 with
 | true => exact he
 | false => simp at h ⊢; omega
theorem JY (e acc : Nat) (he : e < 4294967296) : upd e acc < 4294967296 := by
 unfold upd
 have := XW _ (Gw e he)
 rw [Nk] at this
 cases lJ acc with
 | false => exact Gw e he
 | true => rw [cond_true]; exact Nat.lt_of_le_of_lt (Nat.le_of_eq (by cases hb e 32 <;> rfl)) this
theorem J3 (e acc : Nat) (he : e < 4294967296) : cond (lJ acc) (aD .or .u32 (aD .or .u32 (e : Int) 16) 32) (aD .or .u32 (e : Int) 16) = ((upd e acc : Nat) : Int) := by
 rw [XO e he, Tf _ (Gw e he), Nk]
 unfold upd
 cases lJ acc with
 | false => rfl
 | true => cases hb e 32 <;> rfl
end Go.Proofs.Ytcknhfnbdgleiaa

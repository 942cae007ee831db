/- Walks stay in the memory: plain facts. -/
import Derived.Test.YtcknhfnbdgleiaaTab17
set_option linter.unusedVariables false
set_option linter.unusedSimpArgs false
namespace Go.Proofs.Ytcknhfnbdgleiaa
open Go.AE

/-! ### the entry after an access -/
def updS (e : Nat) (s : Bool) : Nat := cond s (cond (hb e 32) (cond (hb e 16) e (e + 16)) (cond (hb e 16) e (e + 16) + 32)) (cond (hb e 16) e (e + 16))
theorem upd_low : ∀ r : Nat, r < 128 → ∀ s : Bool, updS r s < 128 ∧ (hb (updS r s) 1 = hb r 1 ∧ hb (updS r s) 2 = hb r 2 ∧ hb (updS r s) 4 = hb r 4) ∧ (hb (updS r s) 8 = hb r 8 ∧ hb (updS r s) 64 = hb r 64) ∧ updS (updS r s) s = updS r s := by decide +kernel
theorem hb_low (q r b : Nat) (hd : 128 % (2 * b) = 0) (hb0 : 0 < b) : hb (128 * q + r) b = hb r b := by
  unfold hb
  obtain ⟨t, ht⟩ := Nat.dvd_of_mod_eq_zero hd
  rw [ht, show 2 * b * t * q + r = r + b * (2 * (t * q)) by rw [Nat.add_comm, Nat.mul_comm 2 b, Nat.mul_assoc, Nat.mul_assoc], Nat.add_mul_div_left _ _ hb0, Nat.add_mul_mod_self_left]
theorem hb_q (q r : Nat) : (hb (128 * q + r) 1 = hb r 1 ∧ hb (128 * q + r) 2 = hb r 2 ∧ hb (128 * q + r) 4 = hb r 4) ∧ (hb (128 * q + r) 8 = hb r 8 ∧ hb (128 * q + r) 64 = hb r 64) ∧ hb (128 * q + r) 16 = hb r 16 ∧ hb (128 * q + r) 32 = hb r 32 :=
  ⟨⟨hb_low q r 1 rfl (by omega), hb_low q r 2 rfl (by omega), hb_low q r 4 rfl (by omega)⟩, ⟨hb_low q r 8 rfl (by omega), hb_low q r 64 rfl (by omega)⟩, hb_low q r 16 rfl (by omega), hb_low q r 32 rfl (by omega)⟩
theorem updS_q (q r : Nat) (s : Bool) : updS (128 * q + r) s = 128 * q + updS r s := by
  unfold updS
  rw [(hb_q q r).2.2.1, (hb_q q r).2.2.2]
  cases s <;> cases hb r 32 <;> cases hb r 16 <;> simp [Nat.add_assoc]
structure Upd (e u acc : Nat) : Prop where
  h1 : hb u 1 = hb e 1
  h64 : hb u 64 = hb e 64
  pa : pa u = pa e
  again : upd u acc = u
  may : ∀ user, may u acc user = may e acc user
theorem upd_facts (e acc : Nat) : Upd e (upd e acc) acc := by
  have hs : ∀ x, upd x acc = updS x (stor acc) := fun _ => rfl
  obtain ⟨q, r, hr, rfl⟩ : ∃ q r, r < 128 ∧ e = 128 * q + r := ⟨e / 128, e % 128, by omega, by omega⟩
  obtain ⟨l0, ⟨l1, l2, l4⟩, ⟨l8, l64⟩, l9⟩ := upd_low r hr (stor acc)
  obtain ⟨⟨a1, a2, a4⟩, ⟨a8, a64⟩, _⟩ := hb_q q r
  obtain ⟨⟨b1, b2, b4⟩, ⟨b8, b64⟩, _⟩ := hb_q q (updS r (stor acc))
  rw [hs, updS_q]
  refine ⟨by rw [b1, a1, l1], by rw [b64, a64, l64], by unfold _root_.Go.Proofs.Ytcknhfnbdgleiaa.pa; omega, by rw [hs, updS_q, l9], fun user => ?_⟩
  unfold _root_.Go.Proofs.Ytcknhfnbdgleiaa.may
  rw [b2, b4, b8, a2, a4, a8, l2, l4, l8]
/-! ### bits -/
theorem bits_a (X c d : BitVec 32) : (X ^^^ (X ||| c)) &&& ~~~d = (c &&& ~~~d) &&& ~~~X := by
  apply BitVec.eq_of_getLsbD_eq
  intro i hi
  simp only [BitVec.getLsbD_and, BitVec.getLsbD_xor, BitVec.getLsbD_or, BitVec.getLsbD_not, hi, decide_true, Bool.true_and]
  cases X.getLsbD i <;> cases c.getLsbD i <;> cases d.getLsbD i <;> rfl
theorem bits_b (X c : BitVec 32) : X &&& ~~~(X ||| c) = 0#32 := by
  apply BitVec.eq_of_getLsbD_eq
  intro i hi
  simp only [BitVec.getLsbD_and, BitVec.getLsbD_or, BitVec.getLsbD_not, hi, decide_true, Bool.true_and, BitVec.getLsbD_zero]
  cases X.getLsbD i <;> cases c.getLsbD i <;> rfl
theorem ofInt_nat (B : BitVec 32) : BitVec.ofInt 32 (IntKind.u32.wrap (B.toNat : Int)) = B := by
  have := B.isLt
  rw [wrap_u32_id (by omega) (by omega), BitVec.ofInt_natCast, BitVec.ofNat_toNat, BitVec.setWidth_eq]
theorem upd_bits {e acc : Nat} (he : e < 4294967296) : ∃ c : BitVec 32, c &&& ~~~48#32 = 0#32 ∧ BitVec.ofInt 32 ((upd e acc : Nat) : Int) = BitVec.ofInt 32 (e : Int) ||| c := by
  rw [← upd_eq e acc he]
  have o1 : ∀ (x y : Int), BitVec.ofInt 32 (ibits .or .u32 x y) = BitVec.ofInt 32 x ||| BitVec.ofInt 32 y := fun x y => ofInt_nat _
  cases stor acc with
  | true => exact ⟨16#32 ||| 32#32, by decide, by rw [cond_true, o1, o1, BitVec.or_assoc]; rfl⟩
  | false => exact ⟨16#32, by decide, by rw [cond_false, o1]; rfl⟩
theorem upd_x {e acc : Nat} (he : e < 4294967296) : ibits .andNot .u32 (ibits .xor .u32 (e : Int) ((upd e acc : Nat) : Int)) 48 = 0 ∧ ibits .andNot .u32 (e : Int) ((upd e acc : Nat) : Int) = 0 := by
  obtain ⟨c, hc, hu⟩ := upd_bits (acc := acc) he
  constructor
  · show IntKind.u32.wrap ((BitVec.ofInt 32 (IntKind.u32.wrap ((BitVec.ofInt 32 (e : Int) ^^^ BitVec.ofInt 32 ((upd e acc : Nat) : Int)).toNat : Int)) &&& ~~~(48#32)).toNat : Int) = 0
    rw [ofInt_nat, hu, bits_a, hc, BitVec.zero_and]; rfl
  · show IntKind.u32.wrap ((BitVec.ofInt 32 (e : Int) &&& ~~~(BitVec.ofInt 32 ((upd e acc : Nat) : Int))).toNat : Int) = 0
    rw [hu, bits_b]; rfl
/-! ### the same access once more -/
theorem pgd_len {m m' : Pgs} (h : m'.length = m.length) (x : Nat) : pgd m' x = pgd m x := by unfold pgd; rw [h]
theorem th_len {m m' : Pgs} (h : m'.length = m.length) (x s : Nat) : th m' x s = th m x s := by unfold th; rw [h]
theorem right_len {m m' : Pgs} (h : m'.length = m.length) (x : Nat) : right m' x = right m x := by unfold right; rw [pgd_len h]
theorem th_in {m : Pgs} {p o : Nat} (hp : pgd m p = true) (ho : o < 32) : th m (p + 4 * o) 4 = true ∧ (p + 4 * o) / 128 < m.length ∧ (p + 4 * o) % 4 = 0 := by
  have g := pgd_of hp
  have : (p + 4 * o) % 4 = 0 := by omega
  refine ⟨?_, by omega, this⟩
  unfold th; rw [this, decide_eq_true (by omega)]; rfl
theorem Fd.a_in {m : Pgs} (w : Wm m) {root va e page a : Nat} {reads : List Nat} (f : Fd m root va e page a reads) : th m a 4 = true ∧ a / 128 < m.length ∧ a % 4 = 0 := by
  rcases f.how with ⟨_, h, _⟩ | ⟨_, _, h1, h2, h, _⟩
  · rw [h, at1]; exact th_in f.hr (by have := f.hv; omega)
  · rw [h, at2, Nat.mul_comm]
    have : pgd m (pa (wo m (at1 root va))) = true := by
      unfold right at h1; rw [h2, cond_false, c_and, Bool.and_eq_true] at h1; exact h1.2
    exact th_in this (by omega)
theorem wo_st {m : Pgs} (w : Wm m) {a v : Nat} (ht : th m a 4 = true) (h1 : a / 128 < m.length) (h2 : a % 4 = 0) (hv : v < 4294967296) {x : Nat} (hx : x % 4 = 0) : wo (st m a (wb v)) x = cond (x == a) v (wo m x) := by
  unfold wo
  rw [th_len (st_len ..)]
  by_cases e : x = a
  · subst e; rw [ht, beq_self_eq_true]; simp only [cond_true]; show wd _ _ = v; rw [wd_st w h2 h1 hv _ hx, if_pos rfl]
  · rw [beq_eq_false_iff_ne.mpr e, cond_false]
    cases th m x 4 with
    | false => rfl
    | true => simp only [cond_true]; show wd _ _ = wd _ _; rw [wd_st w h2 h1 hv _ hx, if_neg e]
theorem rewalk {m : Pgs} (w : Wm m) {root va e page a acc : Nat} {user : Bool} {reads : List Nat} (f : Fd m root va e page a reads) (hm : may e acc user = true) (ho : ¬ (reads.length = 2 ∧ reads.getD 0 0 = a)) :
    walk (st m a (wb (upd e acc))) root va acc user = good (upd e acc) page a va acc reads ∧ upd (upd e acc) acc = upd e acc := by
  have he : e < 4294967296 := by rw [f.he]; exact wo_lt w a
  have hu := upd_lt e acc he
  obtain ⟨i1, i2, i3⟩ := f.a_in w
  obtain ⟨u1, u64, upa, uag, umay⟩ := upd_facts e acc
  refine ⟨?_, uag⟩
  have ws := fun x hx => wo_st w i1 i2 i3 hu (x := x) hx
  have hl : (st m a (wb (upd e acc))).length = m.length := st_len ..
  have h0 : (root == 0) = false := beq_eq_false_iff_ne.mpr f.r0
  have g := pgd_of f.hr
  have e1 : at1 root va % 4 = 0 := by unfold at1; omega
  unfold walk
  rw [h0, decide_eq_true f.hv, pgd_len hl, f.hr]
  simp only [cond_true, cond_false]
  rcases f.how with ⟨rfl, rfl, h1, h2, h3, rfl⟩ | ⟨rfl, h1, h2, h3, h4, h5, h6, rfl⟩
  · have h2' : right m (upd e acc) = true := by
      unfold right at h2 ⊢; rw [u64, upa]; rw [h3] at h2 ⊢; exact h2
    have ep : pg1 (upd e acc) va = pg1 e va := by unfold pg1; rw [upa]
    rw [ws _ e1, beq_self_eq_true]
    simp only [cond_true]
    rw [u1, h1, right_len hl, h2', u64, h3, ep]
    simp only [cond_true]
    unfold fin
    rw [pgd_len hl, f.hp, umay, hm]
    rfl
  · have hne : (at1 root va == a) = false := by
      rw [beq_eq_false_iff_ne]; intro hh; exact ho ⟨rfl, hh⟩
    rw [ws _ e1, hne]
    simp only [cond_false]
    rw [h1, right_len hl, h2, h3, ← h4]
    simp only [cond_true, cond_false]
    rw [ws _ i3, beq_self_eq_true]
    simp only [cond_true]
    rw [u1, h5, u64, h6, upa]
    simp only [cond_true, cond_false]
    unfold fin
    rw [pgd_len hl, f.hp, umay, hm]
    rfl
end Go.Proofs.Ytcknhfnbdgleiaa

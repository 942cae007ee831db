/- A user's step: plain facts. -/
import Derived.Test.YtcknhfnbdgleiaaCf0
set_option linter.unusedVariables false
set_option linter.unusedSimpArgs false
namespace Go.Proofs.Ytcknhfnbdgleiaa
open Go.AE
def sI (m : av) (root n : Nat) : Prop := ∃ x ∈ kQ m root, (x.pa <= n /\ n < x.pa + sz x) /\ hb x.bits 4 = true /\ hb x.bits 2 = true /\ x.pa < 8192 /\ x.bits < 128
def oz (e e' : Nat) : Prop := e' = e \/ (e' = e + 16 /\ hb e 16 = false)
theorem Qc {e e' : Nat} (h : oz e e') : (hb e' 1 = hb e 1 /\ hb e' 2 = hb e 2) /\ (hb e' 4 = hb e 4 /\ hb e' 64 = hb e 64) /\ pa e' = pa e := by
 rcases h with rfl | ⟨rfl, h⟩
 . exact ⟨⟨rfl, rfl⟩, ⟨rfl, rfl⟩, rfl⟩
 . unfold hb at h
   have h : ¬ (e / 16 % 2 = 1) := by simpa using h
   unfold hb pa
   refine ⟨⟨?_, ?_⟩, ⟨?_, ?_⟩, by omega⟩
   . rw [show (e + 16) / 1 % 2 = e / 1 % 2 by omega]
   . rw [show (e + 16) / 2 % 2 = e / 2 % 2 by omega]
   . rw [show (e + 16) / 4 % 2 = e / 4 % 2 by omega]
   . rw [show (e + 16) / 64 % 2 = e / 64 % 2 by omega]
theorem Zq {m : av} {e e' : Nat} (h : oz e e') (hr : right m e' = true) (h64 : hb e' 64 = false) : e' = e := by
 rcases h with rfl | ⟨rfl, h⟩
 . rfl
 . exfalso
   unfold right at hr
   rw [h64, cond_false, uq, Bool.and_eq_true] at hr
   have h1 : (e + 16) / 2 % 32 = 0 := by simpa using hr.1
   unfold hb at h
   have h : ¬ (e / 16 % 2 = 1) := by simpa using h
   omega
theorem WT {e kind : Nat} (hk : kind = 2 \/ kind = 3) (h : may e kind true = true) : hb e 2 = true /\ hb e 4 = true := by
 unfold may at h
 rcases hk with rfl | rfl <;> cases h2 : hb e 2 <;> cases h4 : hb e 4 <;> rw [h2, h4] at h <;> simp_all [lJ]
theorem Qu (e : Nat) : hb (e % 128) 2 = hb e 2 /\ hb (e % 128) 4 = hb e 4 /\ hb (e % 128) 64 = hb e 64 := by
 unfold hb
 exact ⟨by rw [show e % 128 / 2 % 2 = e / 2 % 2 by omega], by rw [show e % 128 / 4 % 2 = e / 4 % 2 by omega], by rw [show e % 128 / 64 % 2 = e / 64 % 2 by omega]⟩
theorem K4 {m : av} (w : Wm m) {x : Nat} (h : bE m x = true) : x < 8192 := by have := ku h; have := w.le; omega
theorem Sk {m m' : av} (w : Wm m) (hl : m'.length = m.length) (hm : ∀ x, x % 4 = 0 -> oz (wo m x) (wo m' x)) {root va kind : Nat} (h0 : root ≠ 0) (hk : kind = 2 \/ kind = 3) (w' : Wm m') (hc : (walk m' root va kind true).cause = 0) :
    sI m root (walk m' root va kind true).at'.toNat := by
 rcases yJ m' root va with ⟨r, h2, h⟩ | ⟨hz, _, h⟩ | ⟨e', page, a, reads, f, h⟩
 . rw [h] at hc; exact absurd hc (BP (acc := kind) ⟨by omega, by omega⟩)
 . exact absurd hz h0
 . rw [h] at hc ⊢
   cases hmay : may e' kind true with
   | false => rw [hmay] at hc; exact absurd hc (BP (acc := kind) ⟨by omega, by omega⟩)
   | true =>
   obtain ⟨m2, m4⟩ := WT hk hmay
   obtain ⟨i1, i2, i3⟩ := f.zm w'
   have hv := f.hv
   have hr := f.hr
   rw [DZ hl] at hr
   have gr := ku hr
   have l1 := hm a i3
   rw [<- f.he] at l1
   obtain ⟨⟨b1, b2⟩, ⟨b4, b64⟩, bp⟩ := Qc l1
   obtain ⟨n2, n4, n64⟩ := Qu (wo m a)
   have hpg := f.hp
   rw [DZ hl] at hpg
   have gp := ku hpg
   have hlst : kQ m root = (List.range 32).flatMap (mW m root) := by unfold kQ; rw [beq_eq_false_iff_ne.mpr h0, hr]; rfl
   show sI m root (((page + va % 128 : Nat) : Int)).toNat
   rw [Int.toNat_natCast]
   have hle := w.le
   rcases f.how with ⟨_, ha, h1, h3, h4, h5⟩ | ⟨_, h1, h3, h4, ha, h5, h6, h7⟩
   . have hpgd : bE m (pa (wo m a)) = true := by
       unfold bE
       rw [show pa (wo m a) % 128 = 0 by unfold pa; omega, decide_eq_true (show pa (wo m a) < 128 * m.length by rw [h5, jG, bp] at gp; omega)]; rfl
     have hri : right m (wo m a) = true := by
      unfold right
      rw [<- b64, h4, cond_true, <- bp]
      unfold right at h3; rw [h4, cond_true] at h3; exact h3
     refine ⟨⟨4096 * (va / 4096), pa (wo m a), wo m a % 128⟩, ?_, ⟨?_, ?_⟩, ?_, ?_, K4 w hpgd, by show wo m a % 128 < 128; omega⟩
     . rw [hlst, List.mem_flatMap]
       refine ⟨va / 4096, List.mem_range.mpr (by omega), ?_⟩
       unfold mW
       have ea : root + 4 * (va / 4096) = a := by rw [ha]; rfl
       rw [ea, <- b1, h1, hri, <- b64, h4, hpgd]
       simp
     . show pa (wo m a) <= page + va % 128
       rw [h5, jG, bp]; omega
     . show page + va % 128 < pa (wo m a) + sz _
       unfold sz
       rw [n64, <- b64, h4, cond_true, h5, jG, bp]; omega
     . show hb (wo m a % 128) 4 = true
       rw [n4, <- b4]; exact m4
     . show hb (wo m a % 128) 2 = true
       rw [n2, <- b2]; exact m2
   . have e1 : aJ root va % 4 = 0 := by unfold aJ; omega
     have hq := Zq (hm _ e1) h3 h4
     rw [hq] at h1 h3 h4 ha
     rw [Ve hl] at h3
     have hpgd : bE m (pa (wo m a)) = true := by rw [<- bp, <- h7]; exact hpg
     refine ⟨⟨4096 * (va / 4096) + 128 * (va / 128 % 32), pa (wo m a), wo m a % 128⟩, ?_, ⟨?_, ?_⟩, ?_, ?_, K4 w hpgd, by show wo m a % 128 < 128; omega⟩
     . rw [hlst, List.mem_flatMap]
       refine ⟨va / 4096, List.mem_range.mpr (by omega), ?_⟩
       unfold mW
       have ea : root + 4 * (va / 4096) = aJ root va := rfl
       rw [ea, h1, h3, h4]
       simp only [cond_true, cond_false]
       rw [List.mem_flatMap]
       refine ⟨va / 128 % 32, List.mem_range.mpr (by omega), ?_⟩
       unfold qo
       have eb : pa (wo m (aJ root va)) + 4 * (va / 128 % 32) = a := by rw [ha, at2]; omega
       rw [eb, <- b1, h5, <- b64, h6, hpgd]
       simp
     . show pa (wo m a) <= page + va % 128
       rw [h7, bp]; omega
     . show page + va % 128 < pa (wo m a) + sz _
       unfold sz
       rw [n64, <- b64, h6, cond_false, h7, bp]; omega
     . show hb (wo m a % 128) 4 = true
       rw [n4, <- b4]; exact m4
     . show hb (wo m a % 128) 2 = true
       rw [n2, <- b2]; exact m2
theorem Qi {m : av} (w : Wm m) (c : List Nat) (pc : Nat) (user : Bool) : ∀ x, x % 4 = 0 -> oz (wo m x) (wo (mM m c pc user).m x) := by
 intro x hx
 show oz (wo m x) (wo (bR m (bW m c pc user).set') x)
 unfold bW
 rcases yJ m (ru c 0) pc with ⟨r, h2, h⟩ | ⟨_, _, h⟩ | ⟨e, page, a, reads, f, h⟩
 . rw [h]; exact .inl rfl
 . rw [h]; exact .inl rfl
 . rw [h]
   cases hm : may e 4 user with
   | false => exact .inl rfl
   | true =>
    show oz (wo m x) (wo (bR m (cond (upd e 4 == e) [] [⟨a, 4, upd e 4⟩])) x)
    cases hu : upd e 4 == e with
    | true => exact .inl rfl
    | false =>
     obtain ⟨i1, i2, i3⟩ := f.zm w
     have he : e < 4294967296 := by rw [f.he]; exact oD w a
     have h16 : hb e 16 = false /\ upd e 4 = e + 16 := by
      unfold upd lJ at hu ⊢
      cases h16 : hb e 16 with
      | true => rw [h16] at hu; simp at hu
      | false => exact ⟨rfl, rfl⟩
     show oz (wo m x) (wo (fE m ⟨a, 4, upd e 4⟩) x)
     have es : fE m ⟨a, 4, upd e 4⟩ = st m a (wb (upd e 4)) := by
      unfold fE
      rw [show th m (⟨a, 4, upd e 4⟩ : Wr).a (⟨a, 4, upd e 4⟩ : Wr).s = true from i1, cond_true]
      rfl
     rw [es, aaE w i1 i2 i3 (JY e 4 he) hx]
     by_cases hxa : x = a
     . rw [beq_iff_eq.mpr hxa, cond_true, hxa, <- f.he]; exact .inr ⟨h16.2, h16.1⟩
     . rw [beq_eq_false_iff_ne.mpr hxa]; exact .inl rfl
def okW (m : av) (root : Nat) (y : Wr) (ac : List Ac) : Prop := (∃ a ∈ ac, a.st = false /\ a.a = y.a /\ y.s = 4) \/ sI m root y.a
def Cn (m : av) (root : Nat) (p : Pt') : Prop := ∀ y ∈ p.ws, okW m root y p.ac
theorem okW.mono {m : av} {root : Nat} {y : Wr} {a b : List Ac} (h : okW m root y a) (hs : ∀ x ∈ a, x ∈ b) : okW m root y b := by
 rcases h with ⟨x, hx, h⟩ | h
 . exact .inl ⟨x, hs x hx, h⟩
 . exact .inr h
theorem Cn.tr {m : av} {root : Nat} {p : Pt'} (h : Cn m root p) (w : Wm p.m) (r va acc : Nat) (user : Bool) : Cn m root (kI p (walk p.m r va acc user)) := by
 have ok := jw w r va acc user
 have t2 := LB w r va acc user
 intro y hy
 have hy : y ∈ p.ws ++ (walk p.m r va acc user).set' := hy
 show okW m root y (bB p.ac (walk p.m r va acc user).reads ++ dw (walk p.m r va acc user).set')
 unfold bB
 rcases List.mem_append.mp hy with hy | hy
 . exact (h y hy).mono fun x hx => List.mem_append.mpr (.inl (List.mem_append.mpr (.inl hx)))
 . exact .inl ⟨⟨y.a, 4, false⟩, List.mem_append.mpr (.inl (List.mem_append.mpr (.inr (List.mem_map.mpr ⟨y.a, (t2 y hy).2, rfl⟩)))), rfl, rfl, (ok.set y hy).2⟩
theorem Cn.rd {m : av} {root : Nat} {p : Pt'} (h : Cn m root p) (a s : Nat) : Cn m root (kG p a s) := fun y hy => (h y hy).mono fun x hx => List.mem_append.mpr (.inl hx)
theorem Cn.fB {m : av} {root : Nat} {p : Pt'} (h : Cn m root p) {x : Wr} (hx : sI m root x.a) : Cn m root (stP p x) := fun y hy => by
 have hy : y ∈ p.ws ++ [x] := hy
 rcases List.mem_append.mp hy with hy | hy
 . exact (h y hy).mono fun z hz => List.mem_append.mpr (.inl hz)
 . rw [List.mem_singleton.mp hy]; exact .inr hx
theorem CQ (m : av) (root : Nat) : Cn m root ⟨m, [], []⟩ := fun y hy => absurd hy (by simp)
structure Up (c : Cp) (m : av) (e : Ef) : Prop where
 asks : e.asks = false
 io : e.ioIn = false /\ e.port = 0 /\ e.val = 0
 fl : e.fl = 0
 same : e.done = true -> e.trap = 0 -> e.cpu.c = c.c /\ e.cpu.user = true /\ e.cpu.halts = c.halts /\ e.cpu.waits = false
 ws : ru c.c 0 ≠ 0 -> ∀ y ∈ e.ws, okW m (ru c.c 0) y e.ac
theorem pz {c : Cp} {m : av} {p : Pt'} (hp : Cn m (ru c.c 0) p) {w cause value epc : Nat} (h : cause ≠ 0) : Up c m (fell c p w cause value epc) := ⟨rfl, ⟨rfl, rfl, rfl⟩, rfl, fun _ hh => absurd hh h, fun _ => hp⟩
theorem BX {c : Cp} {m : av} {p : Pt'} (hp : Cn m (ru c.c 0) p) (w : Nat) {x : Cp} (h : x.c = c.c /\ x.user = true /\ x.halts = c.halts /\ x.waits = false) : Up c m (fine c p w x) := ⟨rfl, ⟨rfl, rfl, rfl⟩, rfl, fun _ _ => h, fun _ => hp⟩
theorem LV {c : Cp} {m : av} {p : Pt'} (hp : ru c.c 0 ≠ 0 -> Cn m (ru c.c 0) p) (w : Nat) {x : Cp} (h : x.c = c.c /\ x.user = true /\ x.halts = c.halts /\ x.waits = false) : Up c m (fine c p w x) := ⟨rfl, ⟨rfl, rfl, rfl⟩, rfl, fun _ _ => h, hp⟩
theorem O9 {c : Cp} {m : av} (wm : Wm m) (hu : c.user = true) (p : Nat) : Up c m (fB c m p) := by
 unfold fB
 by_cases hr : nQ c p = false
 . rw [if_pos hr]; exact ⟨rfl, ⟨rfl, rfl, rfl⟩, rfl, fun hh => absurd hh Bool.false_ne_true, fun _ y hy => absurd hy (by simp)⟩
 rw [if_neg hr]
 cases hd : due c p with
 | some n => exact pz (CQ _ _) (by omega)
 | none =>
 dsimp only
 have q0 : Cn m (ru c.c 0) (mM m c.c c.pc c.user) := (CQ m _).tr wm (ru c.c 0) c.pc 4 c.user
 by_cases h4 : c.pc % 4 = 0
 . rw [if_neg (fun hh => hh h4)]
   by_cases h5 : (bW m c.c c.pc c.user).cause = 0
   . rw [if_neg (fun hh => hh h5)]
     have q : Cn m (ru c.c 0) (eD m c.c c.pc c.user) := q0.rd _ _
     have qk := Lj wm c.c c.user h5 h4
     cases h6 : legal m c.c c.pc c.user with
     | false => rw [if_pos rfl]; exact pz q (by omega)
     | true =>
      rw [if_neg (by decide)]
      have hpv : sS (bN (word m c.c c.pc c.user)).op = false := by
       unfold legal at h6; rw [hu] at h6 ⊢
       cases hx : sS (bN (word m c.c c.pc true)).op with
       | false => rfl
       | true => rw [hx] at h6; simp at h6
      have hm16 : ∀ x, x % 4 = 0 -> oz (wo m x) (wo (eD m c.c c.pc c.user).m x) := Qi wm c.c c.pc c.user
      have hk := D5 (bN (word m c.c c.pc c.user)).op
      generalize bN (word m c.c c.pc c.user) = i at *
      generalize word m c.c c.pc c.user = w at *
      generalize eD m c.c c.pc c.user = Q at *
      have hx : (dQ c).c = c.c /\ (dQ c).user = true /\ (dQ c).halts = c.halts /\ (dQ c).waits = false := ⟨rfl, hu, rfl, rfl⟩
      by_cases hk0 : (eG i.op).1 = 0
      . rw [if_neg (fun hh => hh hk0)]
        unfold sS at hpv
        have hop : ¬ (41 <= i.op /\ i.op <= 48) := by
         intro hh; rw [decide_eq_true hh.1, decide_eq_true hh.2] at hpv; exact absurd hpv (by decide)
        unfold su
        dsimp only
        by_cases g1 : 28 <= i.op /\ i.op <= 31
        . rw [if_pos g1]; exact BX q w hx
        rw [if_neg g1]
        by_cases g2 : i.op = 32 \/ i.op = 33
        . rw [if_pos g2]; exact BX q w hx
        rw [if_neg g2, if_neg (by omega), if_neg (by omega), if_neg (by omega)]
        by_cases g3 : i.op = 40
        . rw [if_pos g3]; exact pz q (by omega)
        . rw [if_neg g3]
          refine BX q w ?_
          unfold mK
          rw [beq_eq_false_iff_ne.mpr (show i.op ≠ 41 by omega), beq_eq_false_iff_ne.mpr (show i.op ≠ 45 by omega), beq_eq_false_iff_ne.mpr (show i.op ≠ 48 by omega)]
          cases i.op == 16
          . cases i.op == 17 <;> exact hx
          . exact hx
      . rw [if_pos hk0]
        have hkk := hk.1
        have hss := hk.2 hk0
        generalize (eG i.op).1 = kind at *
        generalize (eG i.op).2 = size at *
        have p1 : Cn m (ru c.c 0) (kI Q (fI Q c.c c.user (bD c.r i) kind)) := q.tr qk.w (ru c.c 0) (bD c.r i) kind c.user
        unfold yU
        dsimp only
        by_cases g1 : bD c.r i % size = 0
        . rw [if_neg (fun hh => hh g1)]
          by_cases g2 : (fI Q c.c c.user (bD c.r i) kind).cause = 0
          . rw [if_neg (fun hh => hh g2)]
            have cov : ru c.c 0 ≠ 0 -> (kind = 2 \/ kind = 3) -> sI m (ru c.c 0) (fI Q c.c c.user (bD c.r i) kind).at'.toNat := fun h0 hk => by
             unfold fI at g2 ⊢; rw [hu] at g2 ⊢
             exact Sk wm qk.len hm16 h0 hk qk.w g2
            generalize fI Q c.c c.user (bD c.r i) kind = W at *
            by_cases g3 : kind = 2
            . rw [if_pos g3]; exact LV (fun h0 => p1.fB (cov h0 (.inl g3))) w hx
            . rw [if_neg g3]
              by_cases g4 : kind = 1
              . rw [if_pos g4]; exact BX (p1.rd _ _) w hx
              . rw [if_neg g4]; exact LV (fun h0 => (p1.rd _ _).fB (cov h0 (.inr (by omega)))) w hx
          . rw [if_pos g2]; exact pz p1 g2
        . rw [if_pos g1]; exact pz q (by omega)
   . rw [if_pos h5]; exact pz q0 h5
 . rw [if_pos h4]; exact pz (CQ _ _) (by omega)
end Go.Proofs.Ytcknhfnbdgleiaa

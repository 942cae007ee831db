/- The abstract evaluator: what it says of the model, part 4. -/
import Derived.Test.YtcknhfnbdgleiaaGreatEvC
import Derived.RangeFuncIn
import Derived.Recover
import Derived.RangeFuncLeaves
import Derived.RangeFuncRecord
import Derived.ProofKit
import Derived.OpenShut
import Derived.ChangeOld
import Derived.DataReads
import Derived.Handed
import Derived.Carry
import Derived.JoinedOf
set_option linter.unusedVariables false
set_option linter.unusedSimpArgs false
namespace Go.AE
open Go.RowKit Go.Lib
theorem Vk {F : Fence} {n : Nat} {P : Program} {c : Code} {Q : Exit -> Act -> World -> Prop} {a : Act} {w : World} {m : Nat} {I : Nat -> Act -> World -> Prop} (h0 : I m a w) (hz : ∀ a w, ¬ I 0 a w)
    (round : ∀ k a w, I (k + 1) a w -> c.wpIn F n P (Exit.then (I k) Q) a w) : (Code.loop c).wpIn F n P Q a w := by
 intro b k cs hro hb hr
 have key : ∀ m a w, I m a w -> ∃ e a' w', Q e a' w' /\ ArrivesIn (Machine.fenced P F) P (lone (b.atR a (.code c :: .inLoop c :: k)) cs w) b k cs e a' w' := by
  intro m
  induction m with
  | zero => exact fun a w h => absurd h (hz a w)
  | succ m ih =>
   intro a w hI
   obtain ⟨e, a₁, w₁, hq, harr⟩ := round m a w hI b (.inLoop c :: k) cs hro hb hr
   cases e with
   | normal =>
    obtain ⟨e₂, a₂, w₂, hq₂, harr₂⟩ := ih a₁ w₁ hq
    exact ⟨e₂, a₂, w₂, hq₂, .of_steps (StepsIn.trans harr (.one (fenced_calm hb hr rfl) stepR_inLoop)) harr₂⟩
   | exit id => exact ⟨_, a₁, w₁, hq, .pass (x := .inLoop c) rfl (fun _ _ => .inl (by simp)) harr⟩
   | goto l => exact ⟨_, a₁, w₁, hq, .pass (x := .inLoop c) rfl (fun _ _ => .inl (by simp)) harr⟩
   | ret => exact ⟨_, a₁, w₁, hq, .pass (x := .inLoop c) rfl (fun _ _ => .inl (by simp)) harr⟩
   | panic ch => exact ⟨_, a₁, w₁, hq, .pass (x := .inLoop c) rfl (fun _ _ => .inl (by simp)) harr⟩
   | outgrown => exact ⟨_, a₁, w₁, hq, .pass (x := .inLoop c) rfl (fun _ _ => .inl (by simp)) harr⟩
 obtain ⟨e, a', w', hq, harr⟩ := key m a w h0
 exact ⟨e, a', w', hq, .of_steps (.one (fenced_calm hb hr rfl) stepR_loop) harr⟩
def iT (b : Nat) : Deferred := { target := .collected b, args := #[] }
def fU (rf : Bool) (w : World) (d0 : List Deferred) (w' : World) (d1 : List Deferred) : Prop :=
 if rf then ∃ ms : List Nat, d1 = ms.map iT ++ d0 /\ ms.Nodup /\ ∀ b ∈ ms, w.heap.size <= b /\ w'.heap[b]? = some (.deferred (some [])) else d1 = d0
theorem fU.same {rf : Bool} {w w' : World} {d0 d1 : List Deferred} (h : d1 = d0) : fU rf w d0 w' d1 := by
 unfold fU
 split
 . exact ⟨[], by simpa using h, by simp, fun b hb => by simp at hb⟩
 . exact h
theorem fU.trans {rf : Bool} {w w1 w2 : World} {d0 d1 d2 : List Deferred} (h : fU rf w d0 w1 d1) (hs : w.heap.size <= w1.heap.size) (hd : ∀ b : Nat, w1.heap[b]? = some (.deferred (some [])) -> w2.heap[b]? = some (.deferred (some [])))
    (k : fU rf w1 d1 w2 d2) : fU rf w d0 w2 d2 := by
 unfold fU at *
 split at h
 . rename_i hrf
   rw [if_pos hrf] at k ⊢
   obtain ⟨ms, h1, h2, h3⟩ := h
   obtain ⟨ns, k1, k2, k3⟩ := k
   refine ⟨ns ++ ms, by rw [k1, h1]; simp, ?_, ?_⟩
   . rw [List.nodup_append]
     refine ⟨k2, h2, fun a ha b hb e => ?_⟩
     subst e
     have := (k3 a ha).1
     have := pW (h3 a hb).2
     omega
   . intro b hb
     rcases List.mem_append.1 hb with hb | hb
     . exact ⟨Nat.le_trans hs (k3 b hb).1, (k3 b hb).2⟩
     . exact ⟨(h3 b hb).1, hd b (h3 b hb).2⟩
 . rename_i hrf
   rw [if_neg hrf] at k ⊢
   exact k.trans h
theorem fU.none {w w' : World} {d0 d1 : List Deferred} (h : fU false w d0 w' d1) : d1 = d0 := by simpa [fU] using h
section
variable {R : Type} {cx : Ctx} {N d : Nat} {S : Nat -> Nat -> Prop} {w0 : World} {g : G} {fr : Fr} {M : Mm} {a : Act} {w : World}
variable {fn : FuncId} {dep : Nat} {call : iV R} {r : R} {ro : Option Nat} {rf : Bool}
def QX (E : Env) (g' : G) (Q : Exit -> Act -> World -> Prop) (x : AX) (a' : Act) (w' : World) : Prop :=
 match x with
 | .normal => Q .normal a' w'
 | .exit i => Q (.exit i) a' w'
 | .ret => Q .ret a' w'
 | .panic v => ∀ c, aK E.P (aI E g' w') v c -> Q (.panic [{ v := c, recovered := false }]) a' w'
def Kx (E : Env) (rf : Bool) (d : Nat) (g : G) (w : World) (a : Act) (K : AX -> Fr -> Mm -> Option R) (r : R) (Q : Exit -> Act -> World -> Prop) : Prop :=
 ∀ x fr' M' g' a' w', Rel E d g' fr' M' a' w' -> Ext E d g w g' w' -> fU rf w a.defers w' a'.defers -> K x fr' M' = some r -> QX E g' Q x a' w'
theorem Kx.after {E : Env} {K : AX -> Fr -> Mm -> Option R} {Q : Exit -> Act -> World -> Prop} (h : Kx E rf d g w a K r Q) {g1 : G} {w1 : World} {a1 : Act} (hx : Ext E d g w g1 w1) (hd : fU rf w a.defers w1 a1.defers) : Kx E rf d g1 w1 a1 K r Q :=
 fun x fr' M' g' a' w' h1 h2 h3 h4 => h x fr' M' g' a' w' h1 (hx.trans h2) (hd.trans hx.size h2.df h3) h4
theorem FH (hG : cx.Good) (hcall : dz cx call) {ops : Array Oper} {K : AX -> Fr -> Mm -> Option R} {Q : Exit -> Act -> World -> Prop} : ∀ (l : List Oper) (fr : Fr) (M : Mm) (g : G) (a : Act) (w : World),
    Rel (Env.mk (Ctx.P cx) N S w0) d g fr M a w -> lD cx fn call ops l fr M K = some r -> Kx (Env.mk (Ctx.P cx) N S w0) rf d g w a K r Q -> wpListIn (W ro) 0 cx.P ops Q l a w
 | [], fr, M, g, a, w, hr, h, hK => hK .normal fr M g a w hr (Ext.refl _ _ _ _) (.same rfl) h
 | o :: l, fr, M, g, a, w, hr, h, hK => by
  have run : ∀ {fr1 : Fr}, fr1 = fr -> dA cx fn call o fr1 M (fun fr M => lD cx fn call ops l fr M K) (fun v fr M => K (.panic v) fr M) = some r -> gu ro cx.P o a w (wpListIn (W ro) 0 cx.P ops Q l) Q := by
   intro fr1 e h1
   subst e
   exact F6 hG hcall hr h1 (fun fr' M' g' a' w' hr' hx hd hk => FH hG hcall l fr' M' g' a' w' hr' hk (hK.after hx (.same hd)))
    (fun v c fr' M' g' a' w' hr' hx hd hv hk => hK (.panic v) fr' M' g' a' w' hr' hx (.same hd) hk c hv)
  have skip : ∀ {fr1 : Fr}, fr1 = fr -> lD cx fn call ops l (fr1.set o.dst bY) M K = some r -> wpListIn (W ro) 0 cx.P ops Q l (a.put o.dst undef) w := by
   intro fr1 e h1
   subst e
   exact FH hG hcall l _ M g _ w (hr.Dy o.dst) h1 (hK.after (Ext.refl _ _ _ _) (.same (put_defers _ _ _)))
  have same : ∀ {gd : Nat} {b : Bool}, fr.tmps.getD gd .dead = .bool b -> Fr.mk (fr.tmps.set gd (.bool b)) fr.tf = fr := fun e => by rw [yB e]
  simp only [lD] at h
  show if Region.wanted o (yielded ops a.tmps) then gu ro cx.P o a w (wpListIn (W ro) 0 cx.P ops Q l) Q else (∀ f, o.about cx.P w a.eval = some f -> (W ro).fn f) /\ wpListIn (W ro) 0 cx.P ops Q l (a.put o.dst undef) w
  split at h
  . rename_i hg
    rw [if_pos (by simp [Region.wanted, hg])]
    exact run rfl h
  . rename_i j want hg
    split at h
    . exact absurd h (by simp)
    . rename_i gd hgd
      split at h
      . rename_i b hb
        have hw := LP hr hg hgd hb
        cases b <;> cases want <;> simp only [cond_true, cond_false, if_true, if_false, Bool.false_eq_true, reduceCtorEq] at h
        . rw [if_pos (by rw [hw]; rfl)]; exact run (same hb) h
        . rw [if_neg (by rw [hw]; decide)]; exact ⟨fun _ _ => trivial, skip (same hb) h⟩
        . rw [if_neg (by rw [hw]; decide)]; exact ⟨fun _ _ => trivial, skip (same hb) h⟩
        . rw [if_pos (by rw [hw]; rfl)]; exact run (same hb) h
      . rename_i hb
        rw [if_neg (by rw [NM hr hg hgd hb]; decide)]
        exact ⟨fun _ _ => trivial, skip rfl h⟩
      . exact absurd h (by simp)
theorem H8 {t : T} {D all : List Nat} {K : AX -> Fr -> Mm -> Option R} (h : xZ cx t D all fr M K = some r) : ∃ tm, t.merge cx.P D = some (true, tm) /\ K .normal { tmps := tm, tf := lZ all fr.tf } M = some r := by
 unfold xZ at h
 split at h
 . rename_i ok tm hm
   cases ok
   . exact absurd h (by simp)
   . exact ⟨tm, hm, h⟩
 . exact absurd h (by simp)
theorem zG {N' N : Nat} {k : Fr -> Mm -> Option R} {g0 : G} {wa : World} (hr : Rel (Env.mk (Ctx.P cx) N' S w0) d g fr M a w) (hx : Ext (Env.mk (Ctx.P cx) N' S w0) d g0 wa g w) (hN : g0.rows.length <= N) (h : mG cx.P N k fr M = some r) :
    ∃ fr' M' g', Rel (Env.mk (Ctx.P cx) N' S w0) d g' fr' M' a w /\ Ext (Env.mk (Ctx.P cx) N' S w0) d g0 wa g' w /\ k fr' M' = some r := by
 unfold mG at h
 split at h
 . rename_i hc
   simp only [Bool.and_eq_true] at hc
   exact ⟨_, _, _, hr.cut hc.1 hc.2, hx.cut hN, h⟩
 . exact ⟨fr, M, g, hr, hx, h⟩
theorem Rel.lose {E : Env} {d : Nat} {g : G} {fr : Fr} {M : Mm} {a : Act} {w : World} (h : Rel E d g fr M a w) (L : List (Nat × List Nat)) : Rel E d g (nV L fr) (qB L M) a w := by
 have hF : ∀ {x : Nat × TF}, x ∈ (nV L fr).tf -> x ∈ fr.tf /\ ∀ r p, x.2 = .viaR r p -> iF r p L = false := fun {x} hx => by
  simp only [nV, List.mem_filter] at hx
  refine ⟨hx.1, fun r p e => ?_⟩
  have := hx.2
  rw [e] at this
  simpa using this
 have hM : ∀ {x : Nat × List Nat}, x ∈ (qB L M).ro ↔ x ∈ M.ro /\ iF x.1 x.2 L = false := fun {x} => by
  simp only [qB, List.mem_filter, Bool.not_eq_true']
 refine ⟨h.below, h.hN, h.fresh, h.size, h.tmps, h.lenr, h.rows, h.inj, fun t ht => h.own t (hF ht).1, fun t s ht => ?_, fun t r p ht => ?_, fun r p ht => h.ro r p (hM.1 ht).1⟩
 . obtain ⟨k1, k2⟩ := h.viaT t s (hF ht).1
   refine ⟨?_, k2⟩
   simp only [nV, List.mem_filter]
   exact ⟨k1, trivial⟩
 . obtain ⟨k1, k2⟩ := h.viaR t r p (hF ht).1
   exact ⟨hM.2 ⟨k1, (hF ht).2 r p rfl⟩, k2⟩
theorem IX {c : Code} {L : List (Nat × List Nat)} {n : Nat} {ks : Option (List Nat × List Nat)} {K : AX -> Fr -> Mm -> Option R} {Q : Exit -> Act -> World -> Prop}
    (hc : ∀ (K' : AX -> Fr -> Mm -> Option R) (Q' : Exit -> Act -> World -> Prop) (fr : Fr) (M : Mm) (g : G) (a : Act) (w : World), Rel (Env.mk (Ctx.P cx) N S w0) d g fr M a w -> dB cx fn call dep c fr M K' = some r -> Kx (Env.mk (Ctx.P cx) N S w0) rf d g w a K' r Q' -> c.wpIn (W ro) 0 cx.P Q' a w) :
    ∀ (m : Nat) (fr : Fr) (M : Mm) (g : G) (a : Act) (w : World), Rel (Env.mk (Ctx.P cx) N S w0) d g fr M a w -> g.rows.length <= n -> iter m (fun fr M k => dB cx fn call dep c fr M (ou cx.P L n ks K k)) fr M = some r -> Kx (Env.mk (Ctx.P cx) N S w0) rf d g w a K r Q ->
     (Code.loop c).wpIn (W ro) 0 cx.P Q a w := by
 intro m fr M g a w hr hn h hK
 refine Vk (m := m) (I := fun k a' w' => ∃ fr' M' g', Rel (Env.mk (Ctx.P cx) N S w0) d g' fr' M' a' w' /\ Ext (Env.mk (Ctx.P cx) N S w0) d g w g' w' /\ fU rf w a.defers w' a'.defers /\ iter k (fun fr M k => dB cx fn call dep c fr M (ou cx.P L n ks K k)) fr' M' = some r) ⟨fr, M, g, hr, Ext.refl _ _ _ _, .same rfl, h⟩ ?_ ?_
 . rintro a' w' ⟨fr', M', g', _, _, _, h0⟩
   simp [iter] at h0
 . rintro k a' w' ⟨fr', M', g', hr', hx', hd', h'⟩
   refine hc _ _ fr' M' g' a' w' hr' h' ?_
   intro x fr2 M2 g2 a2 w2 hr2 hx2 hd2 hk2
   have hx := hx'.trans hx2
   have hd := hd'.trans hx'.size hx2.df hd2
   cases ks with
   | none =>
    cases x with
    | normal => exact ⟨fr2, M2, g2, hr2, hx, hd, hk2⟩
    | exit i => exact hK (.exit i) _ M2 g2 a2 w2 hr2 hx hd hk2
    | ret => exact hK .ret _ M2 g2 a2 w2 hr2 hx hd hk2
    | panic v => exact hK (.panic v) _ M2 g2 a2 w2 hr2 hx hd hk2
   | some ks =>
    cases x with
    | normal =>
     obtain ⟨fr3, M3, g3, h1, h2, h3⟩ := zG (k := fun fr M => iter k (fun fr M k => dB cx fn call dep c fr M (ou cx.P L n (some ks) K k)) (nV L fr) (qB L (M.norm cx.P))) (hr2.only _) hx hn hk2
     exact ⟨nV L fr3, _, g3, h1.norm.lose L, h2, hd, h3⟩
    | exit i =>
     obtain ⟨fr3, M3, g3, h1, h2, h3⟩ := zG (hr2.only _) hx hn hk2
     exact hK (.exit i) fr3 M3 g3 a2 w2 h1 h2 hd h3
    | ret =>
     obtain ⟨fr3, M3, g3, h1, h2, h3⟩ := zG (hr2.only _) hx hn hk2
     exact hK .ret fr3 M3 g3 a2 w2 h1 h2 hd h3
    | panic v => exact hK (.panic v) _ M2 g2 a2 w2 (hr2.only _) hx hd hk2
theorem Hz {id : Nat} : ∀ {l : List Code} {c : Code}, c ∈ l -> jI c = id -> c ∈ zh id l
 | [], c, h, _ => by simp at h
 | x :: l, c, h, hi => by
  simp only [zh]
  rcases List.mem_cons.1 h with rfl | h
  . rw [if_pos (by rw [hi]; simp)]
    exact List.mem_cons_self
  . split
    . exact List.mem_cons_of_mem _ (Hz h hi)
    . exact Hz h hi
theorem Rf {body c l : Code} (h : c ∈ loops body) (hl : dD body (jI c) = some l) : l = c := by
 have hm := Hz h rfl
 unfold dD at hl
 split at hl
 . rename_i l' e
   rw [e] at hm
   obtain rfl := Option.some.inj hl
   exact (List.mem_singleton.1 hm).symm
 . exact absurd hl (by simp)
theorem G7 {id : Nat} : ∀ {l : List RF} {c : RF}, c ∈ l -> kM c = id -> c ∈ pQ id l
 | [], c, h, _ => by simp at h
 | x :: l, c, h, hi => by
  simp only [pQ]
  rcases List.mem_cons.1 h with rfl | h
  . rw [if_pos (by rw [hi]; simp)]
    exact List.mem_cons_self
  . split
    . exact List.mem_cons_of_mem _ (G7 h hi)
    . exact G7 h hi
theorem acN {body : Code} {c x : RF} (h : c ∈ fZ body) (hl : vW body (kM c) = some x) : x = c := by
 have hm := G7 h rfl
 unfold vW at hl
 split at hl
 . rename_i l' e
   rw [e] at hm
   obtain rfl := Option.some.inj hl
   exact (List.mem_singleton.1 hm).symm
 . exact absurd hl (by simp)
theorem mF : ∀ {c : Code}, dW c = true -> fZ c = []
 | .seq a b, h => by simp only [dW, Bool.and_eq_true] at h; simp [fZ, mF h.1, mF h.2]
 | .cond _ a b, h => by simp only [dW, Bool.and_eq_true] at h; simp [fZ, mF h.1, mF h.2]
 | .block _ c, h => by simp only [dW] at h; simp [fZ, mF h]
 | .loop c, h => by simp only [dW] at h; simp [fZ, mF h]
 | .rangeFunc .., h => by simp [dW] at h
 | .skip, _ | .region .., _ | .exit .., _ | .ret, _ | .label .., _ | .goto .., _ | .scope .., _ | .refuse .., _ => rfl
theorem Ry (ks : Option (List Nat × List Nat)) (tm : List AV) : (vV ks tm).length = tm.length := by
 cases ks with
 | none => rfl
 | some k =>
  have : ∀ (l : List AV) (i : Nat), (iq k.1 i l).length = l.length := by
   intro l
   induction l with
   | nil => intro i; rfl
   | cons v l ih => intro i; simp [iq, ih]
  exact this tm 0
theorem TV (ks : Option (List Nat × List Nat)) (tm : List AV) (i : Nat) : (vV ks tm).getD i .dead = .dead \/ (vV ks tm).getD i .dead = tm.getD i .dead := by
 cases ks with
 | none => exact .inr rfl
 | some k =>
  have : ∀ (l : List AV) (j i : Nat), (iq k.1 j l).getD i .dead = .dead \/ (iq k.1 j l).getD i .dead = l.getD i .dead := by
   intro l
   induction l with
   | nil => intro j i; exact .inr rfl
   | cons v l ih =>
    intro j i
    cases i with
    | zero =>
     simp only [iq, List.getD_cons_zero]
     split
     . exact .inr rfl
     . exact .inl rfl
    | succ i => simp only [iq, List.getD_cons_succ]; exact ih (j + 1) i
  exact this tm 0 i
theorem Rel.df (h : Rel (Env.mk (Ctx.P cx) N S w0) d g fr M a w) (ds : List Deferred) : Rel (Env.mk (Ctx.P cx) N S w0) d g fr M { a with defers := ds } w :=
 ⟨h.below, h.hN, h.fresh, h.size, h.tmps, h.lenr, h.rows, h.inj, h.own, h.viaT, h.viaR, h.ro⟩
theorem TK (hG : cx.Good) (hcall : dz cx call) (hnews : dz (R := Fr × Mm) cx (ji cx dep)) (hacts : dz (R := Sum (Fr × Mm) (AV × Fr × Mm)) cx (iI cx dep)) (id : Nat) {ops : Array Oper} {draw : Bool} {K : AX -> Fr -> Mm -> Option R} {Q : Exit -> Act -> World -> Prop} {fr : Fr} {M : Mm} {g : G} {a : Act} {w : World}
    (hr : Rel (Env.mk (Ctx.P cx) N S w0) d g fr M a w) (h : Gg cx fn call dep ops draw fr M K = some r) (hK : Kx (Env.mk (Ctx.P cx) N S w0) rf d g w a K r Q) : (Code.region id ops draw).wpIn (W ro) 0 cx.P Q a w := by
 unfold Gg at h
 split at h
 . split at h
   . exact absurd h (by simp)
   . rename_i hnd
     have hdr := hr.drops (eZ ops ops.toList ++ dstsOf ops.toList)
     have hcl := OQ (eZ ops ops.toList ++ dstsOf ops.toList) fr.tf
     split at h
     . rename_i hdl
       simp only [Bool.and_eq_true] at hdl
       have hdraw : draw = true := hdl.1
       subst hdraw
       simp only [Bool.true_and, Bool.not_eq_true', Bool.not_eq_false, Bool.and_eq_true] at hnd
       split at h
       . rename_i last hlast
         split at h
         . rename_i hb2
           simp only [Bool.and_eq_true] at hb2
           obtain ⟨⟨hgl, hbl⟩, _⟩ := hb2
           have hgl : last.guard = none := by simpa using hgl
           obtain ⟨tm, hm, hk⟩ := H8 h
           have hsub1 : ∀ {t : Nat} {l : List Oper} {n : Nat}, t ∈ eZ ops (l.take n) -> t ∈ eZ ops l := by
            intro t l
            induction l with
            | nil => intro n ht; simpa using ht
            | cons x l ih =>
             intro n ht
             cases n with
             | zero => simp [eZ] at ht
             | succ n =>
              rw [List.take_succ_cons] at ht
              simp only [eZ] at ht ⊢
              split at ht
              . split at ht
                . rename_i gg hgg
                  rcases List.mem_cons.1 ht with rfl | ht
                  . exact List.mem_cons_self
                  . exact List.mem_cons_of_mem _ (ih ht)
                . exact ih ht
              . exact ih ht
           have hsub2 : ∀ {t : Nat} {l : List Oper} {n : Nat}, t ∈ dstsOf (l.take n) -> t ∈ dstsOf l := by
            intro t l
            induction l with
            | nil => intro n ht; simpa using ht
            | cons x l ih =>
             intro n ht
             cases n with
             | zero => simp [dstsOf] at ht
             | succ n =>
              rw [List.take_succ_cons] at ht
              simp only [dstsOf] at ht ⊢
              split at ht
              . rcases List.mem_cons.1 ht with rfl | ht
                . exact List.mem_cons_self
                . exact List.mem_cons_of_mem _ (ih ht)
              . exact ih ht
           have hsub3 : ∀ {t : Nat} {l : List Oper} {n : Nat}, t ∈ mU (l.take n) -> t ∈ mU l := by
            intro t l
            induction l with
            | nil => intro n ht; simpa using ht
            | cons x l ih =>
             intro n ht
             cases n with
             | zero => simp [mU] at ht
             | succ n =>
              rw [List.take_succ_cons] at ht
              simp only [mU] at ht ⊢
              split at ht
              . rename_i hgx
                rw [if_pos hgx]
                rw [List.append_nil] at ht ⊢
                have := hsub2 (n := n + 1) (l := x :: l) (t := t) (by rw [List.take_succ_cons]; exact ht)
                exact this
              . rename_i hgx
                rw [if_neg hgx]
                exact ih ht
           obtain ⟨res, hatK, hs⟩ := FZ (ops.toList.take (ops.size - 1)) [] fr.tmps (fun t ht => List.mem_append_left _ (hsub1 ht)) (fun t ht => List.mem_append_right _ (hsub3 ht)) hm
           have hat : (eU cx M ops (ops.toList.take (ops.size - 1)) fr.tmps .leaf).at = some res := (zD (fun _ => rfl) (ops.toList.take (ops.size - 1)) [] fr.tmps (fO.nil _)).symm.trans hatK
           refine Yi hG hcl (fun t ht => List.mem_append_right _ ht) hnd.2 hnd.1 hbl hlast hgl hat hdr fun a' w' hr' hb hd => ?_
           refine F6 hG hcall (hr'.same hs) hk (fun fr2 M2 g2 a2 w2 hr2 hx2 hd2 hk2 => ?_) (fun v c fr2 M2 g2 a2 w2 hr2 hx2 hd2 hv hk2 => ?_)
           . exact hK .normal fr2 M2 g2 a2 w2 hr2 ((Ext.of_below hb).trans hx2) (.same (hd2.trans hd)) hk2
           . exact hK (.panic v) fr2 M2 g2 a2 w2 hr2 ((Ext.of_below hb).trans hx2) (.same (hd2.trans hd)) hk2 c hv
         . split at h
           . rename_i hreg
             exact acI (K := K) hG hnews hacts hnd.2 hreg hr h (fun tm tf M' g' a' w' hr' hx' hd' hk' => hK .normal _ M' g' a' w' hr' hx' (.same hd') hk') (fun v c tm M' g' a' w' hr' hx' hd' hv' hk' => hK (.panic v) _ M' g' a' w' hr' hx' (.same hd') hk' c hv')
           . exact absurd h (by simp)
       . exact absurd h (by simp)
     . obtain ⟨tm, hm, hk⟩ := H8 h
       obtain ⟨res, hatK, hs⟩ := FZ ops.toList [] fr.tmps (fun t ht => List.mem_append_left _ ht) (fun t ht => List.mem_append_right _ ht) hm
       have hat : (eU cx M ops ops.toList fr.tmps .leaf).at = some res := (zD (fun _ => rfl) ops.toList [] fr.tmps (fO.nil _)).symm.trans hatK
       have fin : ∀ a' w', Rel (Env.mk (Ctx.P cx) N S w0) d g ⟨res, lZ (eZ ops ops.toList ++ dstsOf ops.toList) fr.tf⟩ M a' w' -> Below w.heap.size w w' -> a'.defers = a.defers -> Q .normal a' w' := fun a' w' hr' hb hd =>
        hK .normal _ M g a' w' (hr'.same hs) (Ext.of_below hb) (.same hd) hk
       cases draw with
       | true =>
        simp only [Bool.true_and, Bool.not_eq_true', Bool.not_eq_false, Bool.and_eq_true] at hnd
        exact acH hG hcl (fun t ht => List.mem_append_right _ ht) hnd.2 hnd.1 hat hdr fin
       | false =>
        refine wpIn_region_list (Ed hG hcl ops.toList fr.tmps a w (fun t ht => List.mem_append_right _ ht) hat hdr fun tm' a' w' hr' hb hd hk' => ?_)
        simp only [T.at, Option.some.injEq] at hk'
        subst hk'
        exact fin a' w' hr' hb hd
 . rename_i hnd
   have hdraw : draw = false := by
    cases draw
    . rfl
    . simp at hnd
   subst hdraw
   exact wpIn_region_list (FH hG hcall ops.toList fr M g a w hr h hK)
theorem kH (hrr : ro.isSome = true -> rf = false) (hG : cx.Good) (hL : cx.Loops) {func : Func} {body : Code} (hfn : cx.P.funcs[fn]? = some func) (hbody : func.body = some body) (hdep : call = dH cx dep) (hcall : dz cx call) (hnews : dz (R := Fr × Mm) cx (ji cx dep)) (hacts : dz (R := Sum (Fr × Mm) (AV × Fr × Mm)) cx (iI cx dep)) : ∀ (c : Code) (hsub : ∀ l ∈ loops c, l ∈ loops body) (hrs : ∀ x ∈ fZ c, x ∈ fZ body) (hno : rf = false -> dW c = true) (K : AX -> Fr -> Mm -> Option R) (Q : Exit -> Act -> World -> Prop) (fr : Fr) (M : Mm) (g : G) (a : Act) (w : World),
    Rel (Env.mk (Ctx.P cx) N S w0) d g fr M a w -> dB cx fn call dep c fr M K = some r -> Kx (Env.mk (Ctx.P cx) N S w0) rf d g w a K r Q -> c.wpIn (W ro) 0 cx.P Q a w
 | .skip, hsub, hrs, hno, K, Q, fr, M, g, a, w, hr, h, hK => wpIn_skip (hK .normal fr M g a w hr (Ext.refl _ _ _ _) (.same rfl) h)
 | .label l, hsub, hrs, hno, K, Q, fr, M, g, a, w, hr, h, hK => wpIn_label (hK .normal fr M g a w hr (Ext.refl _ _ _ _) (.same rfl) h)
 | .exit id, hsub, hrs, hno, K, Q, fr, M, g, a, w, hr, h, hK => wpIn_exit (hK (.exit id) fr M g a w hr (Ext.refl _ _ _ _) (.same rfl) h)
 | .ret, hsub, hrs, hno, K, Q, fr, M, g, a, w, hr, h, hK => wpIn_ret (hK .ret fr M g a w hr (Ext.refl _ _ _ _) (.same rfl) h)
 | .seq x y, hsub, hrs, hno, K, Q, fr, M, g, a, w, hr, h, hK => by
  refine wpIn_seq (kH hrr hG hL hfn hbody hdep hcall hnews hacts x (fun l hl => hsub l (List.mem_append_left _ hl)) (fun l hl => hrs l (List.mem_append_left _ hl)) (fun e => by have := hno e; simp only [dW, Bool.and_eq_true] at this; exact this.1) _ _ fr M g a w hr h fun e fr' M' g' a' w' hr' hx hd hk => ?_)
  cases e with
  | normal => exact kH hrr hG hL hfn hbody hdep hcall hnews hacts y (fun l hl => hsub l (List.mem_append_right _ hl)) (fun l hl => hrs l (List.mem_append_right _ hl)) (fun e => by have := hno e; simp only [dW, Bool.and_eq_true] at this; exact this.2) K Q fr' M' g' a' w' hr' hk (hK.after hx hd)
  | exit i => exact hK (.exit i) fr' M' g' a' w' hr' hx hd hk
  | ret => exact hK .ret fr' M' g' a' w' hr' hx hd hk
  | panic v => exact hK (.panic v) fr' M' g' a' w' hr' hx hd hk
 | .block id x, hsub, hrs, hno, K, Q, fr, M, g, a, w, hr, h, hK => by
  refine wpIn_block (kH hrr hG hL hfn hbody hdep hcall hnews hacts x hsub hrs (fun e => hno e) _ _ fr M g a w hr h fun e fr' M' g' a' w' hr' hx hd hk => ?_)
  cases e with
  | normal => exact hK .normal fr' M' g' a' w' hr' hx hd hk
  | exit i =>
   show Exit.inBlock id Q (.exit i) a' w'
   simp only [Exit.inBlock]
   simp only at hk
   by_cases hi : i = id
   . rw [if_pos hi]
     rw [if_pos (by rw [hi]; simp)] at hk
     exact hK .normal fr' M' g' a' w' hr' hx hd hk
   . rw [if_neg hi]
     rw [if_neg (fun e => hi (Nat.eq_of_beq_eq_true e))] at hk
     exact hK (.exit i) fr' M' g' a' w' hr' hx hd hk
  | ret => exact hK .ret fr' M' g' a' w' hr' hx hd hk
  | panic v => exact hK (.panic v) fr' M' g' a' w' hr' hx hd hk
 | .loop x, hsub, hrs, hno, K, Q, fr, M, g, a, w, hr, h, hK => by
  have hx : ∀ (K' : AX -> Fr -> Mm -> Option R) (Q' : Exit -> Act -> World -> Prop) (fr : Fr) (M : Mm) (g : G) (a : Act) (w : World), Rel (Env.mk (Ctx.P cx) N S w0) d g fr M a w -> dB cx fn call dep x fr M K' = some r -> Kx (Env.mk (Ctx.P cx) N S w0) rf d g w a K' r Q' -> x.wpIn (W ro) 0 cx.P Q' a w :=
   fun K' Q' fr M g a w => kH hrr hG hL hfn hbody hdep hcall hnews hacts x (fun l hl => hsub l (List.mem_cons_of_mem _ hl)) hrs (fun e => hno e) K' Q' fr M g a w
  unfold dB at h
  dsimp only at h
  split at h
  . rename_i t ht
    obtain ⟨l, hl, hgo⟩ := hL.1 _ _ _ _ _ _ ht func body hfn hbody
    obtain rfl := Rf (hsub x (by simp [loops])) hl
    have hr2 := ((hr.only ((cx.kept fn (jI l)).map (·.1))).uR (cx.kept fn (jI l))).lose (cx.lose fn (jI l))
    exact IX hx cx.n _ _ g a w hr2 (Nat.le_of_eq hr2.lenr) (by rw [hdep]; exact hgo _ K r h) hK
  . exact IX hx cx.n _ _ g a w (((hr.only _).uR _).lose _) (by rw [hr.lenr]; exact Nat.le_refl _) h hK
 | .cond c x y, hsub, hrs, hno, K, Q, fr, M, g, a, w, hr, h, hK => by
  unfold dB at h
  split at h
  . rename_i t ht
    have hcv : aK cx.P (aI (Env.mk (Ctx.P cx) N S w0) g w) (.bool t) (a.eval c) := ht ▸ hr.aC 0 c
    have he := eG.1 hcv
    have two : cond t (dB cx fn call dep x fr M K) (dB cx fn call dep y fr M K) = some r -> (Code.cond c x y).wpIn (W ro) 0 cx.P Q a w := fun h => by
     refine wpIn_cond_split he (fun e => ?_) (fun e => ?_)
     . subst e; exact kH hrr hG hL hfn hbody hdep hcall hnews hacts x (fun l hl => hsub l (List.mem_append_left _ hl)) (fun l hl => hrs l (List.mem_append_left _ hl)) (fun e => by have := hno e; simp only [dW, Bool.and_eq_true] at this; exact this.1) K Q fr M g a w hr (by simpa using h) hK
     . subst e; exact kH hrr hG hL hfn hbody hdep hcall hnews hacts y (fun l hl => hsub l (List.mem_append_right _ hl)) (fun l hl => hrs l (List.mem_append_right _ hl)) (fun e => by have := hno e; simp only [dW, Bool.and_eq_true] at this; exact this.2) K Q fr M g a w hr (by simpa using h) hK
    split at h
    . exact two h
    . split at h
      . rename_i hp
        obtain ⟨tm, hm, hk⟩ := H8 h
        have hall : (T.br t (kN cx M x fr.tmps .leaf) (kN cx M y fr.tmps .leaf)).All (Out (iN x ++ iN y) fr.tmps) :=
         ⟨tN (k := T.leaf) x fr.tmps (fun t ht => List.mem_append_left _ ht) (fun tm h => h) (Out.refl _ _), tN (k := T.leaf) y fr.tmps (fun t ht => List.mem_append_right _ ht) (fun tm h => h) (Out.refl _ _)⟩
        obtain ⟨res, hat, hs⟩ := (tJ hall hm).2 rfl
        have hpure : gF cx (.cond c x y) = true := hp
        have hat' : (mP cx M (.cond c x y) fr.tmps .leaf).at = some res := by
         unfold mP
         rw [ht]
         rw [<- hat]
         cases t
         . exact (vM y fr.tmps fun _ => rfl).symm
         . exact (vM x fr.tmps fun _ => rfl).symm
        refine wX hG (OQ (iN x ++ iN y) fr.tf) (.cond c x y) fr.tmps a w hpure (fun t ht => ht) hat' (hr.drops (iN x ++ iN y)) fun tm' a' w' hr' hb hd hk' => ?_
        simp only [T.at, Option.some.injEq] at hk'
        subst hk'
        exact hK .normal _ M g a' w' (hr'.same hs) (Ext.of_below hb) (.same hd) hk
      . exact two h
  . exact absurd h (by simp)
 | .region id ops draw, hsub, hrs, hno, K, Q, fr, M, g, a, w, hr, h, hK => by
  obtain ⟨g', hr', hx'⟩ := hr.jZ (cx.frz fn id)
  exact TK hG hcall hnews hacts id hr' h (hK.after hx' (.same rfl))
 | .rangeFunc gop ps as bd, hsub, hrs, hno, K, Q, fr, M, g, a, w, hr, h, hK => by
  have hrf : rf = true := by
   cases rf with
   | true => rfl
   | false => exact absurd (hno rfl) (by simp [dW])
  have hro : ro = none := by
   cases ro with
   | none => rfl
   | some l => have := hrr rfl; rw [hrf] at this; cases this
  subst hrf hro
  unfold dB at h
  split at h
  . rename_i gf first cap hgv
    split at h
    . rename_i hsome
      have hrfo : ug cx.P fn (kM ⟨ps, as, bd⟩) = some ⟨ps, as, bd⟩ := by
       obtain ⟨x, hx⟩ := Option.isSome_iff_exists.1 hsome
       rw [hx]
       unfold ug at hx
       rw [hfn] at hx
       simp only [hbody] at hx
       rw [acN (hrs ⟨ps, as, bd⟩ (by simp [fZ])) hx]
      refine wpIn_rangeFunc fun fnn _ => ?_
      have hgo := hr.aC 0 gop
      rw [hgv] at hgo
      obtain ⟨p, q, hev, hpf, hqc⟩ := tT hgo
      have hb1 : Below w.heap.size w (w.alloc (.deferred (some []))) := (Below.refl _ w).alloc (Nat.le_refl _) _
      have hr1 := hr.grown hb1
      have hx1 : Ext (Env.mk (Ctx.P cx) N S w0) d g w g (w.alloc (.deferred (some []))) := Ext.of_below hb1
      have hsz1 : (w.alloc (.deferred (some []))).heap.size = w.heap.size + 1 := jR w _
      obtain ⟨rc, hrc⟩ : ∃ rc : Loop, rc = { state := .ready, pending := none, fn := fnn, tmps := a.tmps, params := ps, assign := as, body := bd, defers := w.heap.size } := ⟨_, rfl⟩
      have hrow : ∀ x : X, Le (aI (Env.mk (Ctx.P cx) N S w0) g (w.alloc (.deferred (some [])))) x -> x.w = (w.alloc (.deferred (some []))).alloc (.loop rc) -> gH cx.P x (w.alloc (.deferred (some []))).heap.size .loop (.loop fn (kM ⟨ps, as, bd⟩) (vV (cx.kept fn (kM ⟨ps, as, bd⟩)) fr.tmps) 0 0) := by
       intro x hle hw
       refine ⟨rfl, rc, by rw [hw]; exact pY _ _, ?_, by rw [hrc]; rfl, by rw [hrc]; rfl, by rw [hrc, Ry]; exact hr.size, fun i => ?_⟩
       . rw [hrc]; exact hrfo
       . rw [hrc]
         rcases TV (cx.kept fn (kM ⟨ps, as, bd⟩)) fr.tmps i with e | e
         . rw [e]; exact ku _
         . rw [e]; exact fF hle (hr1.tmps i)
      have hr2 := hr1.newRow (.loop rc) .loop (.loop fn (kM ⟨ps, as, bd⟩) (vV (cx.kept fn (kM ⟨ps, as, bd⟩)) fr.tmps) 0 0) hrow
      have hx2 := hx1.trans (uG hr1 (.loop rc) .loop)
      have hgl : (g.row (w.alloc (.deferred (some []))).heap.size .loop).rows[M.rows.length]? = some (w.heap.size + 1, .loop) := by
       rw [<- hsz1, <- hr.lenr]
       show (g.rows ++ _)[g.rows.length]? = _
       simp
      have hD : ((w.alloc (.deferred (some []))).alloc (.loop rc)).heap[w.heap.size]? = some (.deferred (some [])) := by
       have h1 := pY w (.deferred (some []))
       exact (Below.heap_alloc _ _ _ (by rw [hsz1]; omega)).trans h1
      have hargs : bA cx.P (aI (Env.mk (Ctx.P cx) N S w0) (g.row (w.alloc (.deferred (some []))).heap.size .loop) ((w.alloc (.deferred (some []))).alloc (.loop rc))) ((first ++ [.yld M.rows.length]) ++ cap) ((p ++ #[Value.func (.yield (w.heap.size + 1)) #[] #[]]) ++ q).toList := by
       simp only [Array.toList_append]
       refine qj (qj (nZ hx2.le _ _ hpf) ?_) (nZ hx2.le _ _ hqc)
       exact jX (bR ⟨_, hgl, rfl⟩ rfl) rfl
      have hend : ∀ {g' : G} {M' : Mm} {w' : World} {v : AV} {c : Value}, Rel (Env.mk (Ctx.P cx) N S w0) (d + 1) g' eX M' jc w' -> Ext (Env.mk (Ctx.P cx) N S w0) (d + 1) (g.row (w.alloc (.deferred (some []))).heap.size .loop) ((w.alloc (.deferred (some []))).alloc (.loop rc)) g' w' ->
          GJ M.rows.length fr M' K = some r -> rangePost (W none) 0 cx.P (w.heap.size + 1) Q { a with defers := [iT w.heap.size] ++ a.defers } (.returned c) w' := by
       intro g' M' w' v c hrel hext hk
       unfold GJ at hk
       split at hk
       . rename_i f i tm st pd hrow'
         split at hk
         . exact absurd hk (by simp)
         . rename_i hst
           have hgr := hext.rows _ _ hgl
           obtain ⟨q1, q2, q3, q4⟩ := hrel.rows _ _ _ hgr
           rw [hrow'] at q3 q4
           obtain ⟨_, rc', hh, hok⟩ := q4
           have hh : w'.heap[w.heap.size + 1]? = some (.loop rc') := hh
           have hbusy : rc'.state ≠ .busy := fun e => hst (by rw [<- hok.hst, e]; rfl)
           have hback := (hr2.back hrel hext)
           have hrow3 : ∀ x : X, Le (aI (Env.mk (Ctx.P cx) N S w0) g' w') x -> x.w = { w' with heap := w'.heap.setIfInBounds (w.heap.size + 1) (.loop { rc' with state := .exhausted }) } -> gH cx.P x (w.heap.size + 1) .loop (.loop f i tm 3 pd) := by
            intro x hle hw
            have hk := hok.le hle
            exact ⟨rfl, { rc' with state := .exhausted }, by rw [hw]; exact (Go.MapKept.heap_set hh).1, hk.hrf, rfl, hk.hpd, hk.size, hk.tmps⟩
           obtain ⟨hx4, hr4⟩ := hback.zT hgr (.loop { rc' with state := .exhausted }) hh (fun _ _ _ e => by cases e) (fun e => by cases e) (row' := .loop f i tm 3 pd) (by rw [hrow']; rfl) hrow3
           have hxx := (hx2.trans (hext.down (Nat.le_succ d))).trans hx4
           have hdf : fU true w a.defers { w' with heap := w'.heap.setIfInBounds (w.heap.size + 1) (.loop { rc' with state := .exhausted }) } ([iT w.heap.size] ++ a.defers) := by
            unfold fU
            rw [if_pos rfl]
            refine ⟨[w.heap.size], rfl, by simp, fun b hb => ?_⟩
            obtain rfl := List.mem_singleton.1 hb
            exact ⟨Nat.le_refl _, hx4.df _ (hext.df _ hD)⟩
           have hr5 := hr4.df (a := a) ([iT w.heap.size] ++ a.defers)
           have key : ∀ (jump : Option Code) (w4 : World), jump = nM pd -> Rel (Env.mk (Ctx.P cx) N S w0) d g' { fr with tf := fD fr.tf } { M' with rows := M'.rows.set M.rows.length (.loop f i tm 3 pd) } { a with defers := [iT w.heap.size] ++ a.defers } w4 ->
               Ext (Env.mk (Ctx.P cx) N S w0) d g w g' w4 -> fU true w a.defers w4 ([iT w.heap.size] ++ a.defers) ->
               (match jump with | none => Q .normal { a with defers := [iT w.heap.size] ++ a.defers } w4 | some c => c.wpIn (W none) 0 cx.P Q { a with defers := [iT w.heap.size] ++ a.defers } w4) := by
            intro jump w4 hj h1 h2 h3
            subst hj
            split at hk
            . exact hK .normal _ _ g' _ _ h1 h2 h3 hk
            . exact wpIn_ret (hK .ret _ _ g' _ _ h1 h2 h3 hk)
            . rename_i n
              exact wpIn_exit (hK (.exit n) _ _ g' _ _ h1 h2 h3 hk)
           exact ⟨rc'.pending, _, run_endLoop hh hbusy, key _ _ hok.hpd hr5 hxx hdf⟩
       . exact absurd hk (by simp)
      have hpan : ∀ {g' : G} {M' : Mm} {w' : World} {v : AV} {c : Value}, Rel (Env.mk (Ctx.P cx) N S w0) (d + 1) g' eX M' jc w' -> Ext (Env.mk (Ctx.P cx) N S w0) (d + 1) (g.row (w.alloc (.deferred (some []))).heap.size .loop) ((w.alloc (.deferred (some []))).alloc (.loop rc)) g' w' ->
          aK cx.P (aI (Env.mk (Ctx.P cx) N S w0) g' w') v c -> K (.panic v) { fr with tf := fD fr.tf } M' = some r -> Q (.panic [{ v := c, recovered := false }]) { a with defers := [iT w.heap.size] ++ a.defers } w' := by
       intro g' M' w' v c hrel hext hv hk
       have hback := (hr2.back hrel hext).df (a := a) ([iT w.heap.size] ++ a.defers)
       have hdf : fU true w a.defers w' ([iT w.heap.size] ++ a.defers) := by
        unfold fU
        rw [if_pos rfl]
        refine ⟨[w.heap.size], rfl, by simp, fun b hb => ?_⟩
        obtain rfl := List.mem_singleton.1 hb
        exact ⟨Nat.le_refl _, hext.df _ hD⟩
       exact hK (.panic v) _ _ g' _ _ hback (hx2.trans (hext.down (Nat.le_succ d))) hdf hk c hv
      obtain ⟨c1, c2⟩ := hcall N S w0 (d + 1) _ _ _ (.fn gf) _ ((p ++ #[.func (.yield (w.heap.size + 1)) #[] #[]]) ++ q) _ r (rangePost (W none) 0 cx.P (w.heap.size + 1) Q { a with defers := [iT w.heap.size] ++ a.defers }) (hr2.bare (d + 1)) hargs h fun v c M' g' w' hrel hext hv =>
       ⟨fun hk => hend (v := v) hrel hext hk, fun hk => hpan hrel hext hv hk, fun _ hk => hend (v := v) hrel hext hk⟩
      have henter : (Instr.enterLoop fnn a.tmps ps as bd none).run cx.P w = .ok (w.heap.size + 1, [iT w.heap.size]) ((w.alloc (.deferred (some []))).alloc (.loop rc)) := by
          rw [hrc]; exact run_enterLoop_outer fnn a.tmps ps as bd
      refine ⟨w.heap.size + 1, [iT w.heap.size], _, { target := .fn (.func gf) q, args := p ++ #[.func (.yield (w.heap.size + 1)) #[] #[]] }, _, gf, _, _, henter, ?_, fun _ _ => trivial, c1, fun k => CK none k, EM.2 c2⟩
      have hmap : Array.map a.eval #[Operand.const (Value.func (Fn.yield (w.heap.size + 1)) #[] #[])] = #[Value.func (Fn.yield (w.heap.size + 1)) #[] #[]] := by simp [Act.eval]
      simp only [resolve, hev, Deferred.ofValue, Sem.run_bind, Sem.run_pure, Result.andThen_ok, hmap]
    . exact absurd h (by simp)
  . exact absurd h (by simp)
 | .scope .., hsub, hrs, hno, K, Q, fr, M, g, a, w, hr, h, hK => by simp [dB] at h
 | .goto .., hsub, hrs, hno, K, Q, fr, M, g, a, w, hr, h, hK => by simp [dB] at h
 | .refuse .., hsub, hrs, hno, K, Q, fr, M, g, a, w, hr, h, hK => by simp [dB] at h
end
end Go.AE
namespace Go.AE
open Go.RowKit Go.Lib
section
variable {cx : Ctx} {N d : Nat} {S : Nat -> Nat -> Prop} {w0 : World} {g : G} {fr : Fr} {M : Mm} {a : Act} {w : World}
theorem TI (hr : Rel (Env.mk (Ctx.P cx) N S w0) d g fr M a w) {rr : Nat} {p : List Nat} {t t' : TypeId} {off : Nat} {ca : Value} {v : AV} (hp : aK cx.P (aI (Env.mk (Ctx.P cx) N S w0) g w) (.ptr rr p t' off) ca) (h : jq cx.P M t (.ptr rr p t' off) = some v) :
    ∃ c, (do loadVar t (<- asAddr ca) : Sem Value).run cx.P w = .ok c w /\ aK cx.P (aI (Env.mk (Ctx.P cx) N S w0) g w) v c := by
 obtain ⟨b, root, h1, h2, rfl⟩ := lY hp
 obtain ⟨cs, ty, k1, k2⟩ := oG (hr.sI rr b root h1) h2
 obtain ⟨pre, c, post, e1, e2, e3, e4, e5, _⟩ := lV k2 h2
 simp only [jq] at h
 split at h
 . rename_i hl
   obtain rfl := Option.some.inj h
   generalize (M.rows.getD rr (.arr 0 [])).get p = u at *
   have hf := qV hl e5
   have hcell : ∀ i u, c[i]? = some u -> w.cell? ⟨b, off + i, none⟩ = some u := fun i u hu => by
    rw [jv k1, <- Array.getElem?_toList, e1, List.append_assoc, <- e2, List.getElem?_append_right (by omega), Nat.add_sub_cancel_left, List.getElem?_append_left (List.getElem?_eq_some_iff.1 hu).1]
    exact hu
   have hrun := Bo (w := w) (b := b) (o := off) hf e3 (by rw [e4, gZ hl]) hcell
   exact ⟨_, by simp only [asAddr, Sem.run_bind, Sem.run_pure, Result.andThen_ok, hrun], vP (fun h => absurd h (by simp)) hf (xC hf e3)⟩
 . exact absurd h (by simp)
def yE (tmps : Array Value) : ResultVar -> Sem Value
 | .tmp t => pure (tmps.getD t undef)
 | .cell a t => do loadVar t (<- asAddr (tmps.getD a undef))
theorem GK (hr : Rel (Env.mk (Ctx.P cx) N S w0) d g fr M a w) : ∀ (rs : List ResultVar) {vs : List AV}, uq cx.P M fr.tmps rs = some vs -> ∃ cs, (rs.mapM (yE a.tmps)).run cx.P w = .ok cs w /\ bA cx.P (aI (Env.mk (Ctx.P cx) N S w0) g w) vs cs
 | [], vs, h => by
  simp only [uq, Option.some.injEq] at h
  subst h
  exact ⟨[], by simp, rfl⟩
 | rv :: rs, vs, h => by
  simp only [uq] at h
  split at h
  . exact absurd h (by simp)
  . rename_i vs' hvs
    obtain ⟨cs, k1, k2⟩ := GK hr rs hvs
    split at h
    . rename_i t
      obtain rfl := Option.some.inj h
      exact ⟨a.tmps.getD t undef :: cs, by simp only [List.mapM_cons, yE, Sem.run_bind, Sem.run_pure, Result.andThen_ok, k1], jX (hr.tmps t) k2⟩
    . rename_i ai t
      split at h
      . rename_i rr p t' o hp
        split at h
        . rename_i v hv
          obtain rfl := Option.some.inj h
          obtain ⟨c, m1, m2⟩ := TI hr (hp ▸ hr.tmps ai) hv
          exact ⟨c :: cs, by simp only [List.mapM_cons, yE, Sem.run_bind, m1, Sem.run_pure, Result.andThen_ok, k1] at m1 ⊢, jX m2 k2⟩
        . exact absurd h (by simp)
      . exact absurd h (by simp)
theorem ac4 (hr : Rel (Env.mk (Ctx.P cx) N S w0) d g fr M a w) {fn : Func} {v : AV} (h : oJ cx.P M fn fr.tmps = some v) : ∃ c, (results fn a.tmps).run cx.P w = .ok c w /\ aK cx.P (aI (Env.mk (Ctx.P cx) N S w0) g w) v c := by
 have hrun : ∀ {cs}, (fn.results.toList.mapM (yE a.tmps)).run cx.P w = .ok cs w -> (results fn a.tmps).run cx.P w = .ok (if h : cs.toArray.size = 1 then cs.toArray[0] else .tuple cs.toArray) w := by
  intro cs hcs
  have e : results fn a.tmps = (do let vs <- fn.results.mapM (yE a.tmps); pure (if h : vs.size = 1 then vs[0] else .tuple vs)) := by
   unfold results
   congr 1
  rw [e, Array.mapM_eq_mapM_toList]
  simp only [Sem.run_bind, map_eq_pure_bind, hcs, Result.andThen_ok, Sem.run_pure]
 unfold oJ at h
 split at h
 . rename_i v' hv
   obtain rfl := Option.some.inj h
   obtain ⟨cs, k1, k2⟩ := GK hr _ hv
   obtain ⟨c, r, rfl, m1, m2, m3⟩ := k2
   simp only [bA] at m3
   subst m3
   exact ⟨_, hrun k1, ⟨c, by simp, m1, m2⟩⟩
 . rename_i vs hne hv
   obtain rfl := Option.some.inj h
   obtain ⟨cs, k1, k2⟩ := GK hr _ hv
   have hlen := (oI k2).1
   have h1 : ¬ cs.toArray.size = 1 := fun e => by
    have : vs.length = 1 := by rw [hlen]; simpa using e
    match vs, this with
    | [v], _ => exact hne v rfl
   refine ⟨_, hrun k1, ?_⟩
   rw [dif_neg h1]
   have : rel cx.P (aI (Env.mk (Ctx.P cx) N S w0) g w) (.tuple vs) [.tuple cs.toArray] := ⟨_, rfl, k2⟩
   exact bR this rfl
 . exact absurd h (by simp)
theorem FY {P : Program} {x : X} : ∀ n : Nat, bA P x (List.replicate n bY) (List.replicate n undef)
 | 0 => rfl
 | n + 1 => jX xG (FY n)
end
theorem Fg {P : Program} {c : Code} {Q : Exit -> Act -> World -> Prop} {a : Act} {w : World} (h : c.wpIn (W none) 0 P Q a w) : c.wp P Q a w :=
 (wpIn_wide (n := 0) : c.wpIn Fence.wide 0 P Q a w ↔ c.wp P Q a w).1 h
section
variable {cx : Ctx} {N d : Nat} {S : Nat -> Nat -> Prop} {w0 : World} {g g0 : G} {fr : Fr} {M : Mm} {a : Act} {w ws : World}
theorem Tw {n : Nat} {w0 w : World} (h : Below n w0 w) {b : Nat} {o : Obj} (hn : n <= b) : Below n w0 (w.putObj b o) :=
 h.trans ⟨rfl, rfl, rfl, by simp, fun k hk => World.putObj_heap_other (by omega)⟩
theorem Rel.shut (h : Rel (Env.mk (Ctx.P cx) N S w0) d g fr M a w) {b : Nat} (hb : w.heap[b]? = some (.deferred (some []))) (hN : N <= b) :
    Rel (Env.mk (Ctx.P cx) N S w0) d g fr M a (w.putObj b (.deferred none)) /\ Le (aI (Env.mk (Ctx.P cx) N S w0) g w) (aI (Env.mk (Ctx.P cx) N S w0) g (w.putObj b (.deferred none))) := by
 have hcell : ∀ b' o v, w.cell? ⟨b', o, none⟩ = some v -> (w.putObj b (.deferred none)).cell? ⟨b', o, none⟩ = some v := fun b' o v hc => by
  rw [<- hc]
  refine World.cell?_of_block (World.putObj_heap_other fun e => ?_)
  have e : b' = b := e
  subst e
  simp [World.cell?, hb] at hc
 have hoth : ∀ {b' : Nat} {o : Obj}, w.heap[b']? = some o -> o ≠ .deferred (some []) -> (w.putObj b (.deferred none)).heap[b']? = w.heap[b']? := fun {b' o} ho hne => World.putObj_heap_other fun e => by
  subst e; rw [hb] at ho; exact hne (Option.some.inj ho).symm
 have hle : Le (aI (Env.mk (Ctx.P cx) N S w0) g w) (aI (Env.mk (Ctx.P cx) N S w0) g (w.putObj b (.deferred none))) := ⟨fun _ _ k => k, fun _ _ _ k _ => k, fun b' o v _ hc => hcell b' o v hc, id⟩
 have hown : ∀ {o : Onr} {e : TypeId} {v : Value}, bK (Env.mk (Ctx.P cx) N S w0) g w o e v -> bK (Env.mk (Ctx.P cx) N S w0) g (w.putObj b (.deferred none)) o e v := by
  rintro o e v ⟨base, len, cap, rfl, hc⟩
  refine ⟨base, len, cap, rfl, hc.imp id ?_⟩
  rintro ⟨b2, off, cs, ty, rfl, h1, h2, h3, h4⟩
  exact ⟨b2, off, cs, ty, rfl, h1, h2, (hoth h3 (fun e => by cases e)).trans h3, h4⟩
 refine ⟨⟨Tw h.below hN, by simpa using h.hN, fun k hk => h.fresh k (by simpa using hk), h.size, fun i => fF hle (h.tmps i), h.lenr, ?_, h.inj, ?_, h.viaT, ?_, ?_⟩, hle⟩
 . intro r b' root hr
   obtain ⟨k1, k2, k3, k4⟩ := h.rows r b' root hr
   refine ⟨k1, by simpa using k2, k3, k4.le hle ?_⟩
   generalize M.rows.getD r (.arr 0 []) = row at k4
   cases row with
   | map k e es => obtain ⟨_, ces, clock, h2, _⟩ := k4; exact hoth h2 (fun e => by cases e)
   | loop f i tm st pd => obtain ⟨_, rc, h2, _⟩ := k4; exact hoth h2 (fun e => by cases e)
   | var t v => obtain ⟨cs, ty, h2, _⟩ := k4; exact hoth h2 (fun e => by cases e)
   | arr e l => obtain ⟨cs, ty, h2, _⟩ := k4; exact hoth h2 (fun e => by cases e)
   | bg e l => obtain ⟨cs, ty, h2, _⟩ := k4; exact hoth h2 (fun e => by cases e)
 . intro t ht
   obtain ⟨e, l, ex, m1, m2⟩ := h.own t ht
   exact ⟨e, l, ex, m1, hown m2⟩
 . intro t r q ht
   obtain ⟨n1, e, l, ex, n2, b', root', ty', off, n3, n4, n5, n6⟩ := h.viaR t r q ht
   exact ⟨n1, e, l, ex, n2, b', root', ty', off, n3, n4, n5, hcell _ _ _ n6⟩
 . intro r q ht
   obtain ⟨b', root', ty', off, e, v, n3, n4, n5, n6, n7⟩ := h.ro r q ht
   exact ⟨b', root', ty', off, e, v, n3, n4, n5, hcell _ _ _ n6, hown n7⟩
theorem Ext.shut {E : Env} (h : Ext E d g0 ws g w) {b : Nat} (hb : w.heap[b]? = some (.deferred (some []))) (hs : ws.heap.size <= b) : Ext E d g0 ws g (w.putObj b (.deferred none)) := by
 refine ⟨h.rows, h.st, fun b' o v hs' hc => ?_, fun b' d' i u h1 h2 h3 => ?_, by simpa using h.size, fun b' hb' => ?_⟩
 . have := h.cell b' o v hs' hc
   rw [<- this]
   exact World.cell?_of_block (World.putObj_heap_other fun e => by have := jl hc; have e : b' = b := e; omega)
 . obtain ⟨k1, k2⟩ := h.grow b' d' i u h1 h2 h3
   exact ⟨k1, (World.putObj_heap_other (by omega)).trans k2⟩
 . have h1 := pW hb'
   exact (World.putObj_heap_other (by omega)).trans (h.df b' hb')
theorem Em {fn : Func} {tmps : Array Value} {R' : Ending -> World -> Prop} {u : FrameMode} (hu : u ≠ .run) : ∀ (ms : List Nat) {w : World}, ms.Nodup -> (∀ b ∈ ms, ws.heap.size <= b /\ w.heap[b]? = some (.deferred (some []))) -> N <= ws.heap.size ->
    Rel (Env.mk (Ctx.P cx) N S w0) d g fr M a w -> Ext (Env.mk (Ctx.P cx) N S w0) d g0 ws g w ->
    (∀ w', Rel (Env.mk (Ctx.P cx) N S w0) d g fr M a w' -> Ext (Env.mk (Ctx.P cx) N S w0) d g0 ws g w' -> Le (aI (Env.mk (Ctx.P cx) N S w0) g w) (aI (Env.mk (Ctx.P cx) N S w0) g w') -> LeavesIn (W none) 0 cx.P fn tmps R' [] u w') ->
    LeavesInM (W none) 0 cx.P fn tmps R' (ms.map iT) u w
 | [], w, _, _, _, hr, hx, hk => hk w hr hx (Le.refl _)
 | b :: ms, w, hnd, hm, hN, hr, hx, hk => by
  obtain ⟨hs, hb⟩ := hm b List.mem_cons_self
  obtain ⟨hr2, hle⟩ := hr.shut hb (by omega)
  have hx2 := hx.shut hb hs
  simp only [List.nodup_cons] at hnd
  refine ⟨hu, .inl ⟨b, _, rfl, run_takeDeferred hb, ?_⟩⟩
  refine Em hu ms hnd.2 (fun b' hb' => ⟨(hm b' (List.mem_cons_of_mem _ hb')).1, ?_⟩) hN hr2 hx2 fun w' h1 h2 h3 => hk w' h1 h2 (hle.trans h3)
  exact (World.putObj_heap_other fun e => hnd.1 (by have e : b' = b := e; subst e; exact hb')).trans (hm b' (List.mem_cons_of_mem _ hb')).2
end
section
variable {R : Type} {cx : Ctx}
theorem aat {ops : Array Oper} {m : Oper} {x : Operand} (h : yu ops = some (m, x)) : ∃ o c, ops.toList = [m, o] /\ o.op = .defer c /\ c.callee = .value x /\ c.args = #[] /\ m.guard = none /\ o.guard = none /\ o.dst = none := by
 unfold yu at h
 split at h
 . rename_i m' o hl
   split at h
   . rename_i c ho
     split at h
     . rename_i x' hc ha
       split at h
       . rename_i hg
         simp only [Option.some.injEq, Prod.mk.injEq] at h
         obtain ⟨rfl, rfl⟩ := h
         simp only [Bool.and_eq_true] at hg
         exact ⟨o, c, hl, ho, hc, by simpa using ha, by simpa using hg.1.1, by simpa using hg.1.2, by simpa using hg.2⟩
       . exact absurd h (by simp)
     . exact absurd h (by simp)
   . exact absurd h (by simp)
 . exact absurd h (by simp)
theorem U1 {c : Code} {dst : Option Nat} {b : Code} (h : Gj c = some (dst, b)) : ∃ id ops o cl, c = .seq (.region id ops false) b /\ ops.toList = [o] /\ o.op = .call cl /\ cl.callee = .builtin .recover /\ cl.args = #[] /\ o.guard = none /\ o.dst = dst := by
 unfold Gj at h
 split at h
 . rename_i id ops draw b'
   split at h
   . rename_i o hl
     split at h
     . rename_i cl ho
       split at h
       . rename_i hc
         split at h
         . rename_i hg
           simp only [Option.some.injEq, Prod.mk.injEq] at h
           obtain ⟨rfl, rfl⟩ := h
           simp only [Bool.and_eq_true] at hg
           obtain ⟨⟨g1, g2⟩, g3⟩ := hg
           have : draw = false := by simpa using g2
           subst this
           exact ⟨id, ops, o, cl, rfl, hl, ho, hc, by simpa using g3, by simpa using g1, rfl⟩
         . exact absurd h (by simp)
       . exact absurd h (by simp)
     . exact absurd h (by simp)
   . exact absurd h (by simp)
 . exact absurd h (by simp)
theorem QY (hG : cx.Good) (hL : cx.Loops) {dep : Nat} {N d : Nat} {S : Nat -> Nat -> Prop} {w0 : World} {g0 : G} {M : Mm} {w : World} {g : FuncId} {args : List AV} {cargs : Array Value} {rv : AV} {K : Mm -> Option R} {r : R} {RR : FrameMode -> World -> Prop} {u : FrameMode}
    (hr : Rel (Env.mk cx.P N S w0) d g0 eX M jc w) (ha : bA cx.P (aI (Env.mk cx.P N S w0) g0 w) args cargs.toList) (hcall : dz (R := R) cx (dH cx dep)) (hnews : dz (R := Fr × Mm) cx (ji cx dep)) (hacts : dz (R := Sum (Fr × Mm) (AV × Fr × Mm)) cx (iI cx dep)) (h : xP cx (dH cx dep) dep g args rv M K = some r)
    (hu : (u = .returning /\ rv = .nili) \/ ∃ c, u = .panicking [{ v := c, recovered := false }] /\ aK cx.P (aI (Env.mk cx.P N S w0) g0 w) rv c)
    (hK : ∀ M' g' w', Rel (Env.mk cx.P N S w0) d g' eX M' jc w' -> Ext (Env.mk cx.P N S w0) d g0 w g' w' -> K M' = some r -> RR .returning w') :
    (callFunc g cargs).run cx.P w = .ok (.enter g cargs) w /\ CallsD cx.P g cargs u w fun
     | .returned _, u', w' => RR (settle u') w'
     | .panicked _, _, _ => False
     | .outgrown, _, _ => False := by
 unfold xP at h
 split at h
 . exact absurd h (by simp)
 . rename_i fn hfn
   split at h
   . exact absurd h (by simp)
   . rename_i c hb
     split at h
     . exact absurd h (by simp)
     . rename_i hcond
       simp only [Bool.or_eq_true, not_or, Bool.not_eq_true] at hcond
       have hname : ¬ fn.name = "runtime.NumGoroutine" := by simpa using hcond.1
       have hres : fn.results.toList = [] := by simpa using hcond.2
       split at h
       . exact absurd h (by simp)
       . rename_i dst b hrec
         split at h
         . exact absurd h (by simp)
         rename_i hnb
         have hnb : dW b = true := by simpa using hnb
         obtain ⟨id, ops, o, cl, rfl, hops, ho, hcal, hargs, hg, hd⟩ := U1 hrec
         refine ⟨by simp [callFunc, hfn, hname, hb], callsD_of_wpS hfn hb fun c₀ cs hm => ?_⟩
         have hlen := (oI ha).1
         have hall : bA cx.P (aI (Env.mk cx.P N S w0) g0 w) (args ++ List.replicate (fn.ntmps - args.length) bY) (cargs ++ Array.replicate (fn.ntmps - cargs.size) undef).toList := by
          rw [Array.toList_append, Array.toList_replicate]
          have : cargs.size = args.length := by rw [hlen]; simp
          rw [this]
          exact qj ha (FY _)
         have hget := oI hall
         have h0 : Rel (Env.mk cx.P N S w0) d g0 { tmps := args ++ List.replicate (fn.ntmps - args.length) bY, tf := [] } M { tmps := cargs ++ Array.replicate (fn.ntmps - cargs.size) undef, defers := [] } w := by
          refine ⟨hr.below, hr.hN, hr.fresh, by rw [hget.1]; simp, fun i => ?_, hr.lenr, hr.rows, hr.inj, fun t ht => by simp at ht, fun t s ht => by simp at ht, fun t r p ht => by simp at ht, hr.ro⟩
          have := hget.2 i
          have e : ∀ arr : Array Value, arr.toList.getD i undef = arr.getD i undef := fun arr => by simp [List.getD, Array.getD_eq_getD_getElem?]
          rwa [e] at this
         have key : ∀ (c : Value) (u' : FrameMode), aK cx.P (aI (Env.mk cx.P N S w0) g0 w) rv c -> settle u' = .returning ->
             b.wp cx.P (fun e a' w' => bodyPostS cx.P fn c₀ cs (fun e u' w' => match e with
              | .returned _ => RR (settle u') w'
              | .panicked _ => False
              | .outgrown => False) e a' ({ c₀ with mode := u' } :: cs) w') (({ tmps := cargs ++ Array.replicate (fn.ntmps - cargs.size) undef, defers := [] } : Act).put o.dst c) w := by
          intro c u' hc hset
          have h1 := h0.set o.dst hc
          have e1 : (⟨args ++ List.replicate (fn.ntmps - args.length) bY, []⟩ : Fr).set o.dst rv = { tmps := aT (args ++ List.replicate (fn.ntmps - args.length) bY) dst rv, tf := [] } := by
           rw [hd]
           cases dst <;> rfl
          rw [e1] at h1
          refine Fg (kH (ro := none) (rf := false) (fun _ => rfl) hG hL hfn hb rfl hcall hnews hacts b (fun l hl => List.mem_append_right _ hl) (fun x hx => by rw [mF hnb] at hx; simp at hx) (fun _ => hnb) _ _ _ M g0 _ w h1 h fun x fr' M' g' a' w' hr' hx hdf hk => ?_)
          have hdf := hdf.none
          have hfin : K M' = some r -> a'.defers = [] /\ ∃ u2, ({ c₀ with mode := u' } :: cs) = { c₀ with mode := u2 } :: cs /\ ∃ v, (results fn a'.tmps).run cx.P w' = .ok v w' /\ RR (settle u2) w' := by
           intro hk
           refine ⟨by rw [hdf, put_defers], u', rfl, .tuple #[], ?_, by rw [hset]; exact hK M' g' w' (hr'.bare d) hx hk⟩
           have hres' : fn.results = #[] := by simpa using hres
           simp [results, hres']
          cases x with
          | normal => exact hfin hk
          | ret => exact hfin hk
          | exit i => exact absurd hk (by simp)
          | panic v => exact absurd hk (by simp)
         refine wpS_seq (wpS_region ?_)
         have hsz : ops.size = 1 := by
          have := congrArg List.length hops
          simpa using this
         have ho0 : ops[0]? = some o := by
          rw [<- Array.getElem?_toList, hops]; rfl
         rw [hsz]
         show wpOpsS cx.P ops _ [0] _ _ _
         simp only [wpOpsS, ho0]
         have hexec : (execOp (Act.eval { tmps := cargs ++ Array.replicate (fn.ntmps - cargs.size) undef, defers := [] }) o).run cx.P w = .ok .recover w := by
          simp only [execOp, ho, resolve, hcal, hargs, Sem.run_bind, Sem.run_pure, Result.andThen_ok, invoke]
          rfl
         rw [if_pos (by simp [Region.wanted, hg]), hexec]
         simp only
         rcases hu with ⟨rfl, rfl⟩ | ⟨cv, rfl, hcv⟩
         . have hrd : recoverD (c₀ :: cs) = none := by simp [recoverD, hm]
           rw [hrd]
           have := key .nilIface .returning (bR (by simp [rel]) rfl) rfl
           refine wpS_of_wp ?_
           have hc : ({ c₀ with mode := FrameMode.returning } : Frame) = c₀ := by rw [<- hm]
           rw [hc] at this
           exact this
         . have hrd : recoverD (c₀ :: cs) = some (cv, { c₀ with mode := .panicking [{ v := cv, recovered := true }] } :: cs) := by simp [recoverD, hm]
           rw [hrd]
           exact wpS_of_wp (key cv (.panicking [{ v := cv, recovered := true }]) hcv (by simp [settle]))
theorem UD (hG : cx.Good) (hL : cx.Loops) {dep : Nat} {N d : Nat} {S : Nat -> Nat -> Prop} {w0 : World} {fn : FuncId} {fnv : Func} {body : Code} (hfn : cx.P.funcs[fn]? = some fnv) (hbody : fnv.body = some body) (hcall : dz (R := R) cx (dH cx dep)) (hnews : dz (R := Fr × Mm) cx (ji cx dep)) (hacts : dz (R := Sum (Fr × Mm) (AV × Fr × Mm)) cx (iI cx dep)) {r : R} {Q : Exit -> Act -> World -> Prop} {Kd : Oper -> Operand -> Code -> Fr -> Mm -> Option R} :
    ∀ (c : Code), dW c = true -> (∀ l ∈ loops c, l ∈ loops body) -> ∀ (fr : Fr) (M : Mm) (g : G) (a : Act) (w : World), Rel (Env.mk cx.P N S w0) d g fr M a w -> uO cx fn (dH cx dep) dep c fr M Kd = some r ->
    (∀ m x id ops b fr' M' g' a' w', yu ops = some (m, x) -> dW b = true -> (∀ l ∈ loops b, l ∈ loops body) -> Rel (Env.mk cx.P N S w0) d g' fr' M' a' w' -> Ext (Env.mk cx.P N S w0) d g w g' w' -> a'.defers = a.defers -> Kd m x b fr' M' = some r -> (Code.seq (.region id ops false) b).wp cx.P Q a' w') -> c.wp cx.P Q a w := by
 intro c
 induction c with
 | seq x b ihx ihb =>
  intro hno hsub fr M g a w hr h hK
  simp only [dW, Bool.and_eq_true] at hno
  cases x with
  | region id ops draw =>
   unfold uO at h
   split at h
   . rename_i m x hd
     split at h
     . exact absurd h (by simp)
     . rename_i hdr
       have : draw = false := by simpa using hdr
       subst this
       exact hK m x id ops b fr M g a w hd hno.2 (fun l hl => hsub l (List.mem_append_right _ hl)) hr (Ext.refl _ _ _ _) rfl h
   . refine wp_seq (Fg (kH (ro := none) (rf := false) (fun _ => rfl) hG hL hfn hbody rfl hcall hnews hacts (.region id ops draw) (fun l hl => hsub l (List.mem_append_left _ hl)) (fun x hx => by simp [fZ] at hx) (fun _ => rfl) _ _ fr M g a w hr h fun e fr' M' g' a' w' hr' hx hd hk => ?_))
     have hd := hd.none
     cases e with
     | normal =>
      exact ihb hno.2 (fun l hl => hsub l (List.mem_append_right _ hl)) fr' M' g' a' w' hr' hk fun m x id ops b fr2 M2 g2 a2 w2 hdo hn2 hs hr2 hx2 hd2 hk2 => hK m x id ops b fr2 M2 g2 a2 w2 hdo hn2 hs hr2 (hx.trans hx2) (hd2.trans hd) hk2
     | exit i => exact absurd hk (by simp)
     | ret => exact absurd hk (by simp)
     | panic v => exact absurd hk (by simp)
  | _ => simp [uO] at h
 | _ => intro hno hsub fr M g a w hr h hK; simp [uO] at h
theorem Yv (fn : Func) (fr : Fr) (v : AV) : pE fn fr v = .ret v \/ ∃ t e l ex, fn.results.toList = [.tmp t] /\ v = .slice e l ex /\ gM t fr.tf = some .own /\ pE fn fr v = .retO v := by
 unfold pE
 split
 . rename_i t e l ex hres
   split
   . rename_i hf; exact .inr ⟨t, e, l, ex, hres, rfl, hf, rfl⟩
   . exact .inl rfl
 . exact .inl rfl
theorem aaR {fr : Fr} {M : Mm} {fn : Func} {a : Act} {w : World} {t : Nat} {v : AV} {c : Value} (hres : fn.results.toList = [.tmp t]) (hv : oJ cx.P M fn fr.tmps = some v) (hc : (results fn a.tmps).run cx.P w = .ok c w) :
    fr.tmps.getD t .dead = v /\ c = a.tmps.getD t undef := by
 have e1 : fn.results = #[.tmp t] := by rw [<- hres]
 constructor
 . unfold oJ at hv
   rw [hres] at hv
   simpa [uq] using hv
 . unfold results at hc
   rw [e1] at hc
   simpa using hc.symm
theorem ado {R : Type} {cx : Ctx} {n : Nat} (hL : cx.Loops) (h : dz (R := R) cx (dH cx n)) : dz (R := R) cx (ji cx n) := fun N S w0 d g M w f args cargs K r R' hr ha hc hK => by
 unfold ji at hc
 split at hc
 . rename_i f
   split at hc
   . rename_i v rs hn
     split at hc
     . exact h N S w0 d g M w (.fn f) args cargs K r R' hr ha (hL.2.2 _ _ _ _ _ _ hn _ _ _ hc) hK
     . exact absurd hc (by simp)
   . exact absurd hc (by simp)
 . exact absurd hc (by simp)
theorem YQ {R : Type} {cx : Ctx} {n : Nat} (h : dz (R := R) cx (dH cx n)) : dz (R := R) cx (iI cx n) := fun N S w0 d g M w f args cargs K r R' hr ha hc hK => by
 unfold iI at hc
 split at hc
 . rename_i dd f
   split at hc
   . rename_i t ht
     refine h N S w0 d g M w (.fn f) args cargs K r R' hr ha ?_ hK
     simp only [dH, ht]
     exact hc
   . exact absurd hc (by simp)
 . exact absurd hc (by simp)
theorem Zf {body : Code} {id : Nat} {x : RF} (h : vW body id = some x) : x ∈ fZ body := by
 have sub : ∀ (l : List RF) (y : RF), y ∈ pQ id l -> y ∈ l := by
  intro l
  induction l with
  | nil => intro y hy; simp [pQ] at hy
  | cons z l ih =>
   intro y hy
   simp only [pQ] at hy
   split at hy
   . rcases List.mem_cons.1 hy with rfl | hy
     . exact List.mem_cons_self
     . exact List.mem_cons_of_mem _ (ih y hy)
   . exact List.mem_cons_of_mem _ (ih y hy)
 unfold vW at h
 split at h
 . rename_i y e
   obtain rfl := Option.some.inj h
   exact sub _ _ (by rw [e]; exact List.mem_cons_self)
 . exact absurd h (by simp)
theorem kQ : ∀ (c : Code) {x : RF}, x ∈ fZ c -> (∀ l ∈ loops x.assign, l ∈ loops c) /\ ∀ l ∈ loops x.body, l ∈ loops c
 | .seq a b, x, h => by
  rcases List.mem_append.1 h with h | h
  . exact ⟨fun l hl => List.mem_append_left _ ((kQ a h).1 l hl), fun l hl => List.mem_append_left _ ((kQ a h).2 l hl)⟩
  . exact ⟨fun l hl => List.mem_append_right _ ((kQ b h).1 l hl), fun l hl => List.mem_append_right _ ((kQ b h).2 l hl)⟩
 | .cond _ a b, x, h => by
  rcases List.mem_append.1 h with h | h
  . exact ⟨fun l hl => List.mem_append_left _ ((kQ a h).1 l hl), fun l hl => List.mem_append_left _ ((kQ a h).2 l hl)⟩
  . exact ⟨fun l hl => List.mem_append_right _ ((kQ b h).1 l hl), fun l hl => List.mem_append_right _ ((kQ b h).2 l hl)⟩
 | .block _ c, x, h => kQ c h
 | .loop c, x, h => ⟨fun l hl => List.mem_cons_of_mem _ ((kQ c h).1 l hl), fun l hl => List.mem_cons_of_mem _ ((kQ c h).2 l hl)⟩
 | .rangeFunc _ ps a b, x, h => by
  obtain rfl := List.mem_singleton.1 h
  exact ⟨fun l hl => List.mem_append_left _ hl, fun l hl => List.mem_append_right _ hl⟩
 | .skip, x, h | .region .., x, h | .exit .., x, h | .ret, x, h | .label .., x, h | .goto .., x, h | .scope .., x, h | .refuse .., x, h => by simp [fZ] at h
theorem Lx {P : Program} {x : X} : ∀ (ps : List Nat) (vs : List AV) (cs : List Value) (tm : List AV) (ct : Array Value), bA P x vs cs -> ct.size = tm.length -> (∀ i : Nat, aK P x (tm.getD i .dead) (ct.getD i undef)) ->
    ((ps.zip cs).foldl (fun t (p, v) => t.setIfInBounds p v) ct).size = (uX ps vs tm).length /\ ∀ i : Nat, aK P x ((uX ps vs tm).getD i .dead) (((ps.zip cs).foldl (fun t (p, v) => t.setIfInBounds p v) ct).getD i undef)
 | [], vs, cs, tm, ct, hv, hs, ht => by
  cases vs <;> exact ⟨hs, ht⟩
 | p :: ps, [], cs, tm, ct, hv, hs, ht => by
  have : cs = [] := hv
  subst this
  exact ⟨hs, ht⟩
 | p :: ps, v :: vs, cs, tm, ct, hv, hs, ht => by
  obtain ⟨c, r, rfl, h1, h2, h3⟩ := hv
  simp only [uX, List.zip_cons_cons, List.foldl_cons]
  refine Lx ps vs r (tm.set p v) (ct.setIfInBounds p (mkV v.isA c)) h3 (by simpa using hs) fun i => ?_
  rw [uQ, yw, hs]
  split
  . exact ⟨c, rfl, h1, h2⟩
  . exact ht i
theorem Sr {α β γ : Type} (f : γ -> α × β -> γ) (x : Array α) (y : Array β) (z : γ) : (x.zip y).foldl f z = (x.toList.zip y.toList).foldl f z := by
 rw [<- Array.foldl_toList, Array.toList_zip]
theorem adq (hG : cx.Good) (hL : cx.Loops) {n : Nat} (hcall : dz (R := R) cx (dH cx n)) (hnw : dz (R := Fr × Mm) cx (ji cx n)) (hac : dz (R := Sum (Fr × Mm) (AV × Fr × Mm)) cx (iI cx n))
    (N : Nat) (S : Nat -> Nat -> Prop) (w0 : World) (d : Nat) (g : G) (M : Mm) (w : World) (rr : Nat) (args : List AV) (cargs : Array Value) (K : Res -> Mm -> Option R) (r : R) (R' : Ending -> World -> Prop)
    (hr : Rel (Env.mk cx.P N S w0) d g eX M jc w) (ha : bA cx.P (aI (Env.mk cx.P N S w0) g w) args cargs.toList) (h : Hy cx (dH cx n) n rr args M K = some r)
    (hK : ∀ v c M' g' w', Rel (Env.mk cx.P N S w0) d g' eX M' jc w' -> Ext (Env.mk cx.P N S w0) d g w g' w' -> aK cx.P (aI (Env.mk cx.P N S w0) g' w') v c -> K (.ret v) M' = some r -> R' (.returned c) w') : JH cx.P g (.yl rr) cargs w R' := by
 intro b root hgr
 obtain ⟨k1, k2, k3, k4⟩ := hr.rows rr b root hgr
 unfold Hy at h
 split at h
 . rename_i fn id tmps pd hrow
   rw [hrow] at k4
   obtain ⟨hroot, rc, hh, hok⟩ := k4
   subst hroot
   have hh : w.heap[b]? = some (.loop rc) := hh
   rw [hok.hrf] at h
   simp only at h
   split at h
   . rename_i hc
     simp only [Bool.and_eq_true] at hc
     obtain ⟨⟨hn1, hn2⟩, hlen⟩ := hc
     have hlen := Nat.eq_of_beq_eq_true hlen
     have hcl : cargs.size = args.length := by have := (oI ha).1; simpa using this.symm
     have hrun := run_yield (P := cx.P) (args := cargs) hh (by rw [hcl, hlen])
     refine ⟨_, _, _, _, hrun, ?_⟩
     obtain ⟨func, body, hfn, hbody, hat⟩ : ∃ func body, cx.P.funcs[fn]? = some func /\ func.body = some body /\ vW body id = some ⟨rc.params, rc.assign, rc.body⟩ := by
      have := hok.hrf
      unfold ug at this
      split at this
      . rename_i f hf
        split at this
        . rename_i c hcb; exact ⟨f, c, hf, hcb, this⟩
        . exact absurd this (by simp)
      . exact absurd this (by simp)
     have hin := Zf hat
     obtain ⟨hl1, hl2⟩ := kQ body hin
     obtain ⟨hs1, hs2⟩ := Lx rc.params.toList args cargs.toList tmps rc.tmps ha hok.size hok.tmps
     rw [<- Sr] at hs1 hs2
     have h0 : Rel (Env.mk cx.P N S w0) d g { tmps := uX rc.params.toList args tmps, tf := [] } M { tmps := (rc.params.zip cargs).foldl (fun tmps (t, a) => tmps.setIfInBounds t a) rc.tmps, defers := [] } w :=
      ⟨hr.below, hr.hN, hr.fresh, hs1, hs2, hr.lenr, hr.rows, hr.inj, fun t ht => by simp at ht, fun t s ht => by simp at ht, fun t r p ht => by simp at ht, hr.ro⟩
     refine roundIn_of_wpIn (F := Fence.wide) trivial ?_
     have hA := kH (ro := some b) (rf := false) (fun _ => rfl) hG hL hfn hbody rfl hcall hnw hac rc.assign (fun l hl => hl1 l hl) (fun x hx => by rw [mF hn1] at hx; simp at hx) (fun _ => hn1) _
      (Exit.then (fun a₁ w₁ => ∃ w₂, (Instr.beginRound b).run cx.P w₁ = .ok () w₂ /\ rc.body.wpIn (W (some b)) 0 cx.P (roundPost cx.P b R') a₁ w₂) (fun _ _ _ => False)) _ M g _ w h0 h ?_
     . exact hA
     . intro x fr1 M1 g1 a1 w1 hr1 hx1 hd1 hk1
       cases x with
       | normal =>
        simp only at hk1
        split at hk1
        . rename_i fn1 id1 tmps1 pd1 hrow1
          have hgr1 := hx1.rows _ _ hgr
          obtain ⟨j1, j2, j3, j4⟩ := hr1.rows rr b .loop hgr1
          rw [hrow1] at j4
          obtain ⟨_, rc1, hh1, hok1⟩ := j4
          have hh1 : w1.heap[b]? = some (.loop rc1) := hh1
          have hready : rc1.state = .ready := by
           have := hok1.hst
           cases hs : rc1.state <;> rw [hs] at this <;> simp_all [stN]
          refine ⟨_, run_beginRound hh1 hready, ?_⟩
          obtain ⟨hx2, hr2⟩ := hr1.zT hgr1 (.loop { rc1 with state := .busy }) hh1 (fun _ _ _ e => by cases e) (fun e => by cases e) (row' := .loop fn1 id1 tmps1 1 pd1) (by rw [hrow1]; rfl) (fun x hle hw => by
           have hk := hok1.le hle
           exact ⟨rfl, { rc1 with state := .busy }, by rw [hw]; exact (Go.MapKept.heap_set hh1).1, hk.hrf, rfl, hk.hpd, hk.size, hk.tmps⟩)
          refine kH (ro := some b) (rf := false) (fun _ => rfl) hG hL hfn hbody rfl hcall hnw hac rc.body (fun l hl => hl2 l hl) (fun x hx => by rw [mF hn2] at hx; simp at hx) (fun _ => hn2) _ _ _ _ g1 a1 _ hr2 hk1 ?_
          intro x fr3 M3 g3 a3 w3 hr3 hx3 hd3 hk3
          have fin : ∀ (p : Nat), roundEnd x = some p -> ∃ v w', (Instr.endRound b (nM p)).run cx.P w3 = .ok v w' /\ R' (.returned v) w' := by
           intro p hp
           simp only [hp] at hk3
           split at hk3
           . rename_i fn2 id2 tmps2 st2 pd2 hrow2
             have hgr3 := hx3.rows _ _ (hx2.rows _ _ hgr1)
             obtain ⟨q1, q2, q3, q4⟩ := hr3.rows rr b .loop hgr3
             rw [hrow2] at q4
             obtain ⟨_, rc2, hh2, hok2⟩ := q4
             have hh2 : w3.heap[b]? = some (.loop rc2) := hh2
             have hpn : (nM p).isNone = Nat.beq p 0 := by
              match p with
              | 0 => rfl
              | 1 => rfl
              | n + 2 => rfl
             refine ⟨_, _, run_endRound (nM p) hh2, ?_⟩
             obtain ⟨hx4, hr4⟩ := hr3.zT hgr3 (.loop { rc2 with state := if (nM p).isNone then .ready else .done, pending := nM p }) hh2 (fun _ _ _ e => by cases e) (fun e => by cases e) (row' := .loop fn2 id2 tmps2 (if Nat.beq p 0 then 0 else 2) p) (by rw [hrow2]; rfl) (fun x hle hw => by
              have hk := hok2.le hle
              refine ⟨rfl, { rc2 with state := if (nM p).isNone then .ready else .done, pending := nM p }, by rw [hw]; exact (Go.MapKept.heap_set hh2).1, hk.hrf, ?_, rfl, hk.size, hk.tmps⟩
              rw [hpn]
              cases Nat.beq p 0 <;> rfl)
             have hxx := ((hx1.trans hx2).trans hx3).trans hx4
             obtain ⟨fr5, M5, g5, h5, hx5, hk5⟩ := zG (hr4.bare d) hxx (by rw [hr.lenr]; exact Nat.le_refl _) hk3
             refine hK (.bool (Nat.beq p 0)) _ M5 g5 _ (h5.bare d) hx5 ?_ hk5
             rw [hpn]
             exact eG.2 rfl
           . exact absurd hk3 (by simp)
          cases x with
          | normal => exact fin 0 rfl
          | ret => exact fin 1 rfl
          | exit n => exact fin (n + 2) rfl
          | panic v => exact absurd hk3 (by simp [roundEnd])
        . exact absurd hk1 (by simp)
       | exit i => exact absurd hk1 (by simp)
       | ret => exact absurd hk1 (by simp)
       | panic v => exact absurd hk1 (by simp)
   . exact absurd h (by simp)
 . exact absurd h (by simp)
theorem oK (hG : cx.Good) (hL : cx.Loops) : ∀ (n : Nat) (R : Type), dz (R := R) cx (dH cx n)
 | 0, R => fun N S w0 d g M w f args cargs K r R' hr ha h hK => by simp [dH] at h
 | n + 1, R => fun N S w0 d g M w f args cargs K r R' hr ha h hK => by
  have hnw := ado (R := Fr × Mm) hL (oK hG hL n (Fr × Mm))
  have hac := YQ (R := Sum (Fr × Mm) (AV × Fr × Mm)) (oK hG hL n (Sum (Fr × Mm) (AV × Fr × Mm)))
  cases f with
  | yl rr => exact adq hG hL (oK hG hL n R) hnw hac N S w0 d g M w rr args cargs K r R' hr ha (by simpa only [dH] using h) fun v c M' g' w' h1 h2 h3 => (hK v c M' g' w' h1 h2 h3).1
  | fn f =>
  simp only [dH] at h
  have h : uJ cx (dH cx n) n f args M K = some r := by
   split at h
   . rename_i t ht; exact hL.2.1 _ _ _ _ _ ht _ _ _ h
   . exact h
  show (callFunc f cargs).run cx.P w = .ok (.enter f cargs) w /\ Calls cx.P f cargs w R'
  simp only [uJ] at h
  split at h
  . exact absurd h (by simp)
  . rename_i fn hfn
    split at h
    . exact absurd h (by simp)
    . rename_i c hb
      split at h
      . exact absurd h (by simp)
      . rename_i hname
        have hname' : ¬ fn.name = "runtime.NumGoroutine" := by simpa using hname
        have hlen := (oI ha).1
        have hall : bA cx.P (aI (Env.mk cx.P N S w0) g w) (args ++ List.replicate (fn.ntmps - args.length) bY) (cargs ++ Array.replicate (fn.ntmps - cargs.size) undef).toList := by
         rw [Array.toList_append, Array.toList_replicate]
         have : cargs.size = args.length := by rw [hlen]; simp
         rw [this]
         exact qj ha (FY _)
        have hget := oI hall
        have h0 : Rel (Env.mk cx.P N S w0) d g { tmps := args ++ List.replicate (fn.ntmps - args.length) bY, tf := [] } M { tmps := cargs ++ Array.replicate (fn.ntmps - cargs.size) undef, defers := [] } w := by
         refine ⟨hr.below, hr.hN, hr.fresh, by rw [hget.1]; simp, fun i => ?_, hr.lenr, hr.rows, hr.inj, fun t ht => by simp at ht, fun t s ht => by simp at ht, fun t r p ht => by simp at ht, hr.ro⟩
         have := hget.2 i
         have e : ∀ arr : Array Value, arr.toList.getD i undef = arr.getD i undef := fun arr => by simp [List.getD, Array.getD_eq_getD_getElem?]
         rwa [e] at this
        have hret : ∀ {fr' : Fr} {M' : Mm} {g' : G} {a' : Act} {w' : World}, Rel (Env.mk cx.P N S w0) d g' fr' M' a' w' -> Ext (Env.mk cx.P N S w0) d g w g' w' ->
            (match oJ cx.P M' fn fr'.tmps with | some v => mG cx.P M.rows.length (fun _ M => K (pE fn fr' v) M) { tmps := [v], tf := [] } M' | none => none) = some r -> ∃ v, (results fn a'.tmps).run cx.P w' = .ok v w' /\ R' (.returned v) w' := by
         intro fr' M' g' a' w' hr' hx hk
         split at hk
         . rename_i v hv
           obtain ⟨c', m1, m2⟩ := ac4 hr' hv
           have fin : ∀ (M2 : Mm) (g2 : G), g2.cls = g'.cls -> Rel (Env.mk cx.P N S w0) d g2 eX M2 jc w' -> Ext (Env.mk cx.P N S w0) d g w g2 w' -> aK cx.P (aI (Env.mk cx.P N S w0) g2 w') v c' -> K (pE fn fr' v) M2 = some r -> R' (.returned c') w' := by
            intro M2 g2 hcls hr2 hx2 hv2 hk2
            obtain ⟨q1, _, q3⟩ := hK v c' M2 g2 w' hr2 hx2 hv2
            rcases Yv fn fr' v with e1 | ⟨t, e, l, ex, hres, hve, hfo, e1⟩
            . rw [e1] at hk2; exact q1 hk2
            . rw [e1] at hk2
              refine q3 ?_ hk2
              obtain ⟨e2, l2, ex2, k1, k2⟩ := hr'.own t (jQ hfo)
              obtain ⟨hval1, hval2⟩ := aaR hres hv m1
              rw [hval1, hve] at k1
              cases k1
              rw [<- hval2] at k2
              exact ⟨_, _, _, t, hve, k2.le fun b u _ _ hc => ⟨by rw [hcls], rfl⟩⟩
           unfold mG at hk
           split at hk
           . rename_i hc
             simp only [Bool.and_eq_true, fV, Bool.and_true] at hc
             exact ⟨c', m1, fin (M'.cut M.rows.length) (g'.cut M.rows.length) rfl ((hr'.bare d).cut (N := M.rows.length) rfl hc.2) (hx.cut (by rw [hr.lenr]; exact Nat.le_refl _)) (wL hc.1 m2) hk⟩
           . exact ⟨c', m1, fin M' g' rfl (hr'.bare d) hx m2 hk⟩
         . exact absurd hk (by simp)
        split at h
        . 
          split at h
          . exact absurd h (by simp)
          rename_i hnoc
          have hnoc : dW c = true := by simpa using hnoc
          refine ⟨by simp [callFunc, hfn, hname', hb], calls_of_wp_defers hfn hb ?_⟩
          refine UD hG hL hfn hb (oK hG hL n R) hnw hac c hnoc (fun l hl => hl) _ M g _ w h0 h fun m x id ops b fr1 M1 g1 a1 w1 hdo hnob hsub hr1 hx1 hd1 hk1 => ?_
          obtain ⟨o, cl, hops, hop, hcal, hargs, hmg, hog, hodst⟩ := aat hdo
          split at hk1
          . rename_i ok v hp
            cases ok with
            | false => exact absurd hk1 (by simp)
            | true =>
             simp only [cond_true] at hk1
             split at hk1
             . rename_i gi first cap hfv
               refine wp_seq (wp_region_list ?_)
               rw [hops]
               have hw1 : Region.wanted m (yielded ops a1.tmps) = true := by simp [Region.wanted, hmg]
               show if Region.wanted m (yielded ops a1.tmps) then m.wp cx.P a1 w1 (wpList cx.P ops _ [o]) _ \/ (m.asks cx.P a1 w1 /\ LetsOut _) else wpList cx.P ops _ [o] (a1.put m.dst undef) w1
               rw [if_pos hw1]
               refine .inl (wp_pure (next := fun fr' M' => some (fr', M')) (r := (fr1.set m.dst v, M1)) hG hr1 hp rfl fun fr2 M2 g2 a2 w2 hr2 hx2 hd2 he => ?_)
               simp only [Option.some.injEq, Prod.mk.injEq] at he
               obtain ⟨rfl, rfl⟩ := he
               have hw2 : Region.wanted o (yielded ops a2.tmps) = true := by simp [Region.wanted, hog]
               show if Region.wanted o (yielded ops a2.tmps) then o.wp cx.P a2 w2 (wpList cx.P ops _ []) _ \/ (o.asks cx.P a2 w2 /\ LetsOut _) else wpList cx.P ops _ [] (a2.put o.dst undef) w2
               rw [if_pos hw2]
               have hfr := hr2.aC 0 x
               rw [hfv] at hfr
               obtain ⟨p, q, hev, hpf, hqc⟩ := tT hfr
               have hexec : (execOp a2.eval o).run cx.P w2 = .ok (.defer { target := .fn (.func gi) q, args := p ++ #[] }) w2 := by
                simp only [execOp, hop, resolve, hcal, hargs, hev, Deferred.ofValue, Sem.run_bind, Sem.run_pure, Result.andThen_ok, List.map_toArray, List.map_nil]
               refine .inl ?_
               unfold Oper.wp
               rw [hexec, Oper.upon_defer, hodst]
               show b.wp cx.P _ { a2 with defers := { target := .fn (.func gi) q, args := p ++ #[] } :: a2.defers } w2
               have hd0 : a2.defers = [] := by rw [hd2, hd1]
               rw [hd0]
               have hr3 : Rel (Env.mk cx.P N S w0) d g2 (fr1.set m.dst v) M2 { a2 with defers := [{ target := .fn (.func gi) q, args := p ++ #[] }] } w2 :=
                ⟨hr2.below, hr2.hN, hr2.fresh, hr2.size, hr2.tmps, hr2.lenr, hr2.rows, hr2.inj, hr2.own, hr2.viaT, hr2.viaR, hr2.ro⟩
               refine Fg (kH (ro := none) (rf := false) (fun _ => rfl) hG hL hfn hb rfl (oK hG hL n R) hnw hac b hsub (fun x hx => by rw [mF hnob] at hx; simp at hx) (fun _ => hnob) _ _ _ M2 g2 _ w2 hr3 hk1 fun e fr4 M4 g4 a4 w4 hr4 hx4 hd4 hk4 => ?_)
               have hd4 := hd4.none
               have hx14 := (hx1.trans hx2).trans hx4
               have hargs4 : bA cx.P (aI (Env.mk cx.P N S w0) g4 w4) (first ++ cap) ((p ++ #[]) ++ q).toList := by
                simp only [Array.toList_append, Array.toList_empty, List.append_nil]
                exact qj (nZ hx4.le _ _ hpf) (nZ hx4.le _ _ hqc)
               have fin : ∀ (rv : AV) (u : FrameMode), u ≠ .run -> xP cx (dH cx n) n gi (first ++ cap) rv M4 (fun M5 => match oJ cx.P M5 fn fr4.tmps with | some v => mG cx.P M.rows.length (fun _ M => K (pE fn { fr4 with tf := [] } v) M) { tmps := [v], tf := [] } M5 | none => none) = some r ->
                   ((u = .returning /\ rv = .nili) \/ ∃ c, u = .panicking [{ v := c, recovered := false }] /\ aK cx.P (aI (Env.mk cx.P N S w0) g4 w4) rv c) -> Leaves cx.P fn a4.tmps R' a4.defers u w4 := by
                intro rv u hu hev4 hrv
                rw [hd4]
                obtain ⟨k1, k2⟩ := QY (RR := fun u' w' => u' = .returning /\ ∃ v, (results fn a4.tmps).run cx.P w' = .ok v w' /\ R' (.returned v) w') hG hL (hr4.bare d) hargs4 (oK hG hL n R) hnw hac hev4 hrv fun M' g' w' hr5 hx5 hk5 => by
                 have hr6 : Rel (Env.mk cx.P N S w0) d g' ⟨fr4.tmps, []⟩ M' a4 w' :=
                  ⟨hr5.below, hr5.hN, hr5.fresh, hr4.size, fun i => fF hx5.le (hr4.tmps i), hr5.lenr, hr5.rows, hr5.inj, fun t ht => by simp at ht, fun t s ht => by simp at ht, fun t r p ht => by simp at ht, hr5.ro⟩
                 exact ⟨rfl, hret hr6 (hx14.trans hx5) hk5⟩
                refine leaves_cons hu (by simp only [invoke]; exact k1) (k2.mono fun e u' w' he => ?_)
                cases e with
                | returned v' =>
                 show Leaves cx.P fn a4.tmps R' [] (settle u') w'
                 rw [he.1]
                 exact he.2
                | panicked ch => exact he.elim
                | outgrown => exact he.elim
               cases e with
               | normal => exact fin .nili .returning (by simp) hk4 (.inl ⟨rfl, rfl⟩)
               | ret => exact fin .nili .returning (by simp) hk4 (.inl ⟨rfl, rfl⟩)
               | exit i => exact absurd hk4 (by simp)
               | panic v => exact fun c' hv => fin v (.panicking [{ v := c', recovered := false }]) (by simp) hk4 (.inr ⟨c', rfl, hv⟩)
             . exact absurd hk1 (by simp)
          . exact absurd hk1 (by simp)
        . refine ⟨by simp [callFunc, hfn, hname', hb], EM.1 (callsIn_of_wp_marks (F := W none) (n := 0) hfn hb trivial ?_)⟩
          refine kH (ro := none) (rf := true) (fun e => by cases e) hG hL hfn hb rfl (oK hG hL n R) hnw hac c (fun l hl => hl) (fun x hx => hx) (fun e => by cases e) _ _ _ M g _ w h0 h fun x fr' M' g' a' w' hr' hx hd hk => ?_
          have hNw : N <= w.heap.size := hr.hN
          obtain ⟨ms, hms, hnd, hms2⟩ : ∃ ms : List Nat, a'.defers = ms.map iT ++ [] /\ ms.Nodup /\ ∀ b ∈ ms, w.heap.size <= b /\ w'.heap[b]? = some (.deferred (some [])) := by
           have := hd
           unfold fU at this
           rw [if_pos rfl] at this
           exact this
          rw [List.append_nil] at hms
          have hfin : (match oJ cx.P M' fn fr'.tmps with | some v => mG cx.P M.rows.length (fun _ M => K (pE fn fr' v) M) { tmps := [v], tf := [] } M' | none => none) = some r -> LeavesInM (W none) 0 cx.P fn a'.tmps R' a'.defers .returning w' := fun hk => by
           rw [hms]
           refine Em (by simp) ms hnd hms2 hNw hr' hx fun w2 h1 h2 _ => ?_
           exact hret h1 h2 hk
          cases x with
          | normal => exact hfin hk
          | ret => exact hfin hk
          | exit i => exact absurd hk (by simp)
          | panic v =>
           intro c' hv
           show LeavesInM (W none) 0 cx.P fn a'.tmps R' a'.defers (.panicking [{ v := c', recovered := false }]) w'
           rw [hms]
           refine Em (by simp) ms hnd hms2 hNw hr' hx fun w2 h1 h2 h3 => ?_
           exact (hK v c' M' g' w2 (h1.bare d) h2 (fF h3 hv)).2.1 hk
end
end Go.AE
namespace Go.AE
open Go.RowKit Go.Lib
section
variable {cx : Ctx} {N d : Nat} {S : Nat -> Nat -> Prop} {w0 : World} {g : G} {fr : Fr} {M : Mm} {a : Act} {w : World}
def vk (S : Nat -> Nat -> Prop) (N : Nat) (w : World) : X := ⟨[], fun b o => S b o \/ N <= b, w, false⟩
theorem Us (g : G) (w : World) : Lp (aI (Env.mk (Ctx.P cx) N S w0) g w).aH (vk S N w) := by
 refine ⟨fun b o h => ?_, fun b o v _ h => h, rfl⟩
 change cK (Env.mk (Ctx.P cx) N S w0) g.cls b o at h
 unfold cK at h
 split at h
 . exact .inl h
 . rename_i hb; exact .inr (Nat.not_lt.1 hb)
theorem acn {P : Program} {x : X} {e : TypeId} {l : List AV} {c : List Value} (h : aX P x e l c) (i j : Nat) : aX P x e (sub l i j) ((c.take (j * P.cellsOf e)).drop (i * P.cellsOf e)) := tV i (qp j h)
theorem oW {P : Program} {M : Mm} : ∀ (n : Nat) (v : AV) {t : TypeId}, fits P t (freeze P M n v) = true -> fits P t v = true
 | 0, v, t, h => by simp [freeze, fits, aR] at h
 | n + 1, v, t, h => by
  cases v with
  | msl r p e off coff len =>
   simp only [freeze] at h
   split at h
   . exact h
   . simp [fits, aR] at h
  | slice e l ex => exact h
  | agg u ps =>
   simp only [freeze] at h
   split at h
   . split at h
     . exact h
     . simp [fits, aR] at h
   . split at h
     . exact h
     . simp [fits, aR] at h
   . simp [fits, aR] at h
  | tuple vs => exact h
  | _ => exact h
theorem uW {P : Program} {k : Nat} {t : TypeId} {v : AV} (hp : bJ P k t = true) (hf : fits P t v = true) : match v with | .ptr .. | .rptr .. | .mapv _ | .func .. | .yld _ | .iface .. => False | _ => True := by
 cases k with
 | zero => simp [bJ] at hp
 | succ k =>
  simp only [bJ] at hp
  cases v <;> first | trivial | (exfalso; unfold fits aR at hf; split at hp <;> rename_i hu <;> simp [hu] at hf hp)
theorem Rk {P : Program} {M : Mm} {n : Nat} {v : AV} {vs : List AV} (h : freeze P M (n + 1) v = .tuple vs) : ∃ us, v = .tuple us /\ vs = us.map (freeze P M n) := by
 cases v with
 | tuple us => simp only [freeze, AV.tuple.injEq] at h; exact ⟨us, rfl, h.symm⟩
 | msl r p e off coff len => simp only [freeze] at h; split at h <;> exact absurd h (by simp)
 | agg t ps =>
  simp only [freeze] at h
  split at h
  . split at h <;> exact absurd h (by simp)
  . split at h <;> exact absurd h (by simp)
  . exact absurd h (by simp)
 | _ => simp [freeze] at h
theorem Ja {P : Program} {M : Mm} {x y : X} (n : Nat) (ih : ∀ (v : AV) {k : Nat} {t : TypeId} {c : List Value}, bJ P k t = true -> fits P t (freeze P M n v) = true -> rel P x v c -> rel P y (freeze P M n v) c) :
    ∀ (ps : List AV) (k : Nat) {fs : List Field} {c : List Value}, ny (bJ P k) fs = true -> dh P x (fs.map (·.type)) ps c -> gW P (fs.map (·.type)) (ps.map (freeze P M n)) = true -> dh P y (fs.map (·.type)) (ps.map (freeze P M n)) c
 | [], k, [], c, _, h, _ => h
 | [], k, _ :: _, c, _, h, _ => h.elim
 | _ :: _, k, [], c, _, h, _ => h.elim
 | p :: ps, k, f :: fs, c, hp, h, hf => by
  obtain ⟨c1, r, rfl, h1, h2, h3, h4⟩ := h
  simp only [ny, Bool.and_eq_true] at hp
  simp only [List.map_cons, gW, Bool.and_eq_true] at hf
  exact ⟨c1, r, rfl, ih p hp.1 hf.1 h1, h2, hf.1, Ja n ih ps k hp.2 h4 hf.2⟩
theorem Jv (hr : Rel (Env.mk (Ctx.P cx) N S w0) d g fr M a w) : ∀ (n : Nat) (v : AV) {k : Nat} {t : TypeId} {c : List Value}, bJ cx.P k t = true -> fits cx.P t (freeze cx.P M n v) = true -> rel cx.P (aI (Env.mk (Ctx.P cx) N S w0) g w) v c -> rel cx.P (vk S N w) (freeze cx.P M n v) c
 | 0, v, k, t, c, _, hf, _ => by simp [freeze, fits, aR] at hf
 | n + 1, v, k, t, c, hp, hf, hv => by
  have hlp := Us (cx := cx) (N := N) (S := S) (w0 := w0) g w
  cases v with
  | msl r p e off coff len =>
   simp only [freeze] at hf ⊢
   split at hf
   . rename_i hfl
     rw [if_pos hfl]
     obtain ⟨_, b, root, m, o0, m1, m2, m3, m4, base, cap, m5, rfl, m6⟩ := hv
     obtain ⟨cs, ty, k1, k2⟩ : ∃ cs ty, w.heap[b]? = some (.cells cs ty (0, 0)) /\ iw cx.P (aI (Env.mk (Ctx.P cx) N S w0) g w) root (M.rows.getD r (.arr 0 [])) cs.toList := by
      have := hr.sI r b root m1
      rcases m2 with ⟨rfl, rfl, rfl⟩ | ⟨t, m2, hu⟩
      . revert this
        cases M.rows.getD r (.arr 0 []) with
        | map k e es => intro hk; exact absurd hk.1 (by simp)
        | loop f i tm st pd => intro hk; exact absurd hk.1 (by simp)
        | var t v => exact id
        | arr e l => exact id
        | bg e l => exact id
      . exact oG this m2
     obtain ⟨j1, pre, c, post, j2, j3, j4, _⟩ := Dj k2 m2
     have hlen : (sub ((M.rows.getD r (.arr 0 [])).elems p) off (off + len)).length = len := by simp only [sub, List.length_drop, List.length_take, j1]; omega
     have hra := acn j4 off (off + len)
     have hnl := gX hra
     rw [hlen] at hnl
     refine ⟨base, len, cap, rfl, hlen.symm, m5, fun k => absurd k (by simp), ?_⟩
     rcases Nat.eq_zero_or_pos len with h0' | h0'
     . exact .inl h0'
     . refine .inr ⟨b, coff, m6 h0', nL (mX _ 20 hfl hra) fun i u hu => ⟨.inr (hr.rows r b root m1).1, ?_⟩⟩
       rw [List.getElem?_drop, List.getElem?_take] at hu
       split at hu
       . show w.cell? _ = _
         rw [jv k1, <- Array.getElem?_toList, j2, m4, List.append_assoc, List.getElem?_append_right (by omega), List.getElem?_append_left (by have := (List.getElem?_eq_some_iff.1 hu).1; omega)]
         rw [<- hu]
         congr 1
         omega
       . exact absurd hu (by simp)
   . simp [fits, aR] at hf
  | slice e l ex =>
   simp only [freeze] at hf ⊢
   obtain ⟨base, len, cap, h1, h2, h3, h4, h5⟩ := hv
   have : rel cx.P (aI (Env.mk (Ctx.P cx) N S w0) g w).aH (.slice e l false) c := ⟨base, len, cap, h1, h2, h3, fun k => absurd k (by simp), h5⟩
   exact xB hlp _ k hp hf this
  | agg u ps =>
   have hf0 := oW _ _ hf
   have hlk := (iM hf0).1
   simp only [freeze] at hf ⊢
   split at hf
   . rename_i fs hu
     split at hf
     . rename_i hall
       rw [if_pos hall]
       obtain ⟨k1, k2⟩ := lC hv hu
       refine kV hu k1 ?_
       have hplain : ∃ k', ny (bJ cx.P k') fs.toList = true := by
        cases k with
        | zero => simp [bJ] at hp
        | succ k' => exact ⟨k', by simpa only [bJ, <- dK hlk, hu] using hp⟩
       obtain ⟨k', hpl⟩ := hplain
       exact Ja n (fun v {k t c} h1 h2 h3 => Jv hr n v h1 h2 h3) ps k' hpl k2 hall
     . simp [fits, aR] at hf
   . rename_i m e hu
     split at hf
     . rename_i hfl
       rw [if_pos hfl]
       obtain ⟨k1, k2, k3⟩ := mR hv hu
       exact kR hu k1 k2 (mX ps 20 hfl k3)
     . simp [fits, aR] at hf
   . simp [fits, aR] at hf
  | bool b => exact hv
  | int kk i => exact hv
  | str s => exact hv
  | nilp => exact hv
  | nilf => exact hv
  | yld r => exact (uW hp (oW _ _ hf)).elim
  | nili => exact hv
  | dead => simp [freeze, fits, aR] at hf
  | tuple vs => simp [freeze, fits, aR] at hf
  | ptr r p t' o => exact (uW hp (oW _ _ hf)).elim
  | rptr t' v => exact (uW hp (oW _ _ hf)).elim
  | mapv r => exact (uW hp (oW _ _ hf)).elim
  | func f x y => exact (uW hp (oW _ _ hf)).elim
  | iface t' v => exact (uW hp (oW _ _ hf)).elim
theorem ZK {P : Program} {M : Mm} {n : Nat} {v : AV} {t : TypeId} (h : fits P t (freeze P M n v) = true) : (freeze P M n v).isA = v.isA := (ng h).trans (ng (oW n v h)).symm
theorem O8 (hr : Rel (Env.mk (Ctx.P cx) N S w0) d g fr M a w) {n : Nat} {v : AV} {k : Nat} {t : TypeId} {c : Value} (hp : bJ cx.P k t = true) (hf : fits cx.P t (freeze cx.P M n v) = true) (hv : aK cx.P (aI (Env.mk (Ctx.P cx) N S w0) g w) v c) : aK cx.P (vk S N w) (freeze cx.P M n v) c := by
 obtain ⟨cs, rfl, h1, h2⟩ := hv
 have hA := ZK hf
 exact ⟨cs, by rw [hA], Jv hr n v hp hf h1, fun e => h2 (by rw [<- hA]; exact e)⟩
theorem Ld (hr : Rel (Env.mk (Ctx.P cx) N S w0) d g fr M a w) {n : Nat} : ∀ {ts : List TypeId} {vs : List AV} {cs : List Value}, pR cx.P ts = true -> gW cx.P ts (vs.map (freeze cx.P M n)) = true -> bA cx.P (aI (Env.mk (Ctx.P cx) N S w0) g w) vs cs -> bA cx.P (vk S N w) (vs.map (freeze cx.P M n)) cs
 | [], [], cs, _, _, h => h
 | [], _ :: _, cs, _, hf, _ => by simp [gW] at hf
 | _ :: _, [], cs, _, hf, _ => by simp [gW] at hf
 | t :: ts, v :: vs, cs, hp, hf, h => by
  obtain ⟨c, r, rfl, h1, h2, h3⟩ := h
  simp only [pR, Bool.and_eq_true] at hp
  simp only [List.map_cons, gW, Bool.and_eq_true] at hf
  exact jX (O8 hr hp.1 hf.1 ⟨c, rfl, h1, h2⟩) (Ld hr hp.2 hf.2 h3)
end
theorem Zb (P : Program) (S : Nat -> Nat -> Prop) (w : World) : Rel (Env.mk P w.heap.size S w) 0 ⟨[], fun _ => .froz⟩ eX ⟨[], []⟩ jc w :=
 ⟨Below.refl _ _, Nat.le_refl _, fun _ _ => rfl, rfl, fun i => by simpa [eX, jc] using ku _, rfl, fun r b root h => by simp at h, fun r r' b root root' h => by simp at h, fun t ht => by simp [eX] at ht, fun t s ht => by simp [eX] at ht, fun t r p ht => by simp [eX] at ht, fun r p ht => by simp at ht⟩
theorem abA {cx : Ctx} (hG : cx.Good) (hL : cx.Loops) {n : Nat} {f : FuncId} {args : List AV} {v : AV} (h : aP cx n f args = some v) : yO cx.P f args v := by
 intro w S cargs ha
 unfold aP at h
 split at h
 . exact absurd h (by simp)
 . rename_i fn hfn
   have h0 := Zb cx.P S w
   have hargs : bA cx.P (aI (Env.mk cx.P w.heap.size S w) ⟨[], fun _ => .froz⟩ w) args cargs.toList := by
    have hle : Le ⟨[], S, w, false⟩ (aI (Env.mk cx.P w.heap.size S w) ⟨[], fun _ => .froz⟩ w) := by
     refine ⟨fun r z hz => absurd hz (by simp), fun b o v hs hc => ?_, fun _ _ _ _ h => h, fun e => absurd e (by simp)⟩
     show cK (Env.mk cx.P w.heap.size S w) (fun _ => .froz) b o
     unfold cK
     rw [if_pos (jl hc)]
     exact hs
    exact nZ hle args _ ha
   have key : ∀ (rv : AV) (c : Value) (M' : Mm) (g' : G) (w' : World), Rel (Env.mk cx.P w.heap.size S w) 0 g' eX M' jc w' -> aK cx.P (aI (Env.mk cx.P w.heap.size S w) g' w') rv c -> (let v := freeze cx.P M' 6 rv; if p9 cx.P fn.resultTypes.toList v then some v else none) = some v -> ∃ c', Ending.returned c = .returned c' /\ Below w.heap.size w w' /\ aK cx.P (vk S w.heap.size w') v c' := by
    intro rv c M' g' w' hr hv hk
    simp only at hk
    split at hk
    . rename_i hgood
      obtain rfl := Option.some.inj hk
      refine ⟨c, rfl, hr.below, ?_⟩
      unfold p9 at hgood
      simp only [Bool.and_eq_true] at hgood
      obtain ⟨hpl, hgood⟩ := hgood
      generalize fn.resultTypes.toList = ts at hpl hgood
      split at hgood
      . rename_i t v hts
        simp only [pR, Bool.and_eq_true] at hpl
        exact O8 hr hpl.1 hgood hv
      . rename_i ts vs hne hvs
        obtain ⟨us, rfl, rfl⟩ := Rk hvs
        obtain ⟨arr, rfl, hus⟩ := Fq hv
        have : rel cx.P (vk S w.heap.size w') (.tuple (us.map (freeze cx.P M' 5))) [.tuple arr] := ⟨arr, rfl, Ld hr hpl hgood hus⟩
        rw [hvs]
        exact bR this rfl
      . exact absurd hgood (by simp)
    . exact absurd hk (by simp)
   exact (oK hG hL n _ w.heap.size S w 0 _ _ w (.fn f) args cargs _ v _ h0 hargs h fun rv c M' g' w' hr hx hv => ⟨fun hk => key rv c M' g' w' hr hv hk, fun hk => absurd hk (by simp), fun _ hk => key rv c M' g' w' hr hv hk⟩).2
end Go.AE
namespace Go.AE
open Go.RowKit Go.Lib
def kg (P : AV -> TypeId -> Prop) : List TypeId -> List AV -> Prop
 | [], [] => True
 | t :: ts, v :: vs => P v t /\ kg P ts vs
 | _, _ => False
def Has (P : Program) : Nat -> TypeId -> AV -> Prop
 | 0, _, _ => False
 | d + 1, t, v =>
  match P.underlying t with
  | some .bool => ∃ b, v = .bool b
  | some (.int k) => ∃ n, v = .int k n /\ (Lit.int k n).wf = true
  | some .string => ∃ s, v = .str s /\ s.length <= maxLen
  | some (.struct fs) => ∃ ps, v = .agg (uid P t) ps /\ kg (fun v t => Has P d t v) (fs.toList.map (·.type)) ps
  | some (.array n e) => ∃ ps, v = .agg (uid P t) ps /\ ps.length = n /\ ∀ u ∈ ps, Has P d e u
  | some (.slice e) => ∃ l, v = .slice e l false /\ l.length <= maxLen /\ ∀ u ∈ l, Has P d e u
  | _ => False
def zF (rec : TypeId -> Bool) : List Field -> Bool
 | [] => true
 | f :: fs => rec f.type && zF rec fs
def jN (P : Program) : Nat -> TypeId -> Bool
 | 0, _ => false
 | d + 1, t =>
  match P.underlying t with
  | some .bool | some (.int _) | some .string => Nat.beq (P.cellsOf t) 1
  | some (.struct fs) => zF (jN P d) fs.toList && kU P 0 fs.toList && bM P (uid P t) t && Nat.beq ((fs.toList.map fun f => P.cellsOf f.type).sum) (P.cellsOf t)
  | some (.array n e) => jN P d e && bM P (uid P t) t && Nat.beq (n * P.cellsOf e) (P.cellsOf t)
  | some (.slice e) => jN P d e && Nat.beq (P.cellsOf t) 1 && Nat.blt 0 (P.cellsOf e)
  | _ => false
section
variable {P : Program} {H : Type} {enc : TypeId × Value -> H} {W : World}
def oZ (W : World) : X := ⟨[], fun _ _ => True, W, false⟩
def Read (P : Program) (W : World) (d : Nat) (t : TypeId) (cs : List Value) : Prop := ∃ v, Has P d t v /\ rel P (oZ W) v cs /\ cs.length = P.cellsOf t /\ fits P t v = true
theorem Qk {d fuel : Nat} (ih : ∀ (t : TypeId) (cs : List Value) x, DataW.trod enc P W 0 (fun _ => true) true fuel t cs = some x -> jN P d t = true -> Read P W d t cs) :
    ∀ (fs : List Field) (o : Nat) (pre cs : List Value) (xs : List (DataW H × List MemPlace)), kU P o fs = true -> zF (jN P d) fs = true -> pre.length = o -> cs.length = (fs.map fun f => P.cellsOf f.type).sum ->
     fs.mapM (fun f => DataW.trod enc P W 0 (fun _ => true) true fuel f.type (((pre ++ cs).drop f.offset).take (P.cellsOf f.type))) = some xs -> ∃ ps, kg (fun v t => Has P d t v) (fs.map (·.type)) ps /\ dh P (oZ W) (fs.map (·.type)) ps cs
 | [], o, pre, cs, xs, _, _, _, hl, _ => ⟨[], trivial, List.eq_nil_of_length_eq_zero (by simpa using hl)⟩
 | f :: fs, o, pre, cs, xs, ho, hr, hp, hl, hm => by
  simp only [kU, Bool.and_eq_true] at ho
  simp only [zF, Bool.and_eq_true] at hr
  have hoff := Nat.eq_of_beq_eq_true ho.1
  simp only [List.map_cons, List.sum_cons] at hl
  simp only [List.mapM_cons, Option.bind_eq_bind, Option.bind_eq_some_iff, Option.pure_def, Option.some.injEq] at hm
  obtain ⟨x, hx, ys, hys, _⟩ := hm
  have e1 : ((pre ++ cs).drop f.offset).take (P.cellsOf f.type) = cs.take (P.cellsOf f.type) := by rw [hoff, <- hp]; simp
  rw [e1] at hx
  obtain ⟨v, h1, h2, h3, h4⟩ := ih _ _ _ hx hr.1
  have e2 : pre ++ cs = (pre ++ cs.take (P.cellsOf f.type)) ++ cs.drop (P.cellsOf f.type) := by simp
  rw [e2] at hys
  obtain ⟨ps, k1, k2⟩ := Qk ih fs (o + P.cellsOf f.type) (pre ++ cs.take (P.cellsOf f.type)) (cs.drop (P.cellsOf f.type)) ys ho.2 hr.2 (by rw [List.length_append, hp, h3]) (by rw [List.length_drop, hl]; omega) hys
  exact ⟨v :: ps, ⟨h1, k1⟩, _, _, (List.take_append_drop (P.cellsOf f.type) cs).symm, h2, h3, h4, k2⟩
theorem Nq {d fuel : Nat} {e : TypeId} (ih : ∀ (cs : List Value) x, DataW.trod enc P W 0 (fun _ => true) true fuel e cs = some x -> Read P W d e cs) :
    ∀ (n i : Nat) (pre cs : List Value) (xs : List (DataW H × List MemPlace)), pre.length = i * P.cellsOf e -> cs.length = n * P.cellsOf e ->
     (List.range' i n).mapM (fun i => DataW.trod enc P W 0 (fun _ => true) true fuel e (((pre ++ cs).drop (i * P.cellsOf e)).take (P.cellsOf e))) = some xs -> ∃ ps : List AV, ps.length = n /\ (∀ u ∈ ps, Has P d e u) /\ aX P (oZ W) e ps cs
 | 0, i, pre, cs, xs, _, hl, _ => ⟨[], rfl, by simp, List.eq_nil_of_length_eq_zero (by simpa using hl)⟩
 | n + 1, i, pre, cs, xs, hp, hl, hm => by
  rw [Nat.add_mul] at hl
  simp only [List.range'_succ, List.mapM_cons, Option.bind_eq_bind, Option.bind_eq_some_iff, Option.pure_def, Option.some.injEq] at hm
  obtain ⟨x, hx, ys, hys, _⟩ := hm
  have e1 : ((pre ++ cs).drop (i * P.cellsOf e)).take (P.cellsOf e) = cs.take (P.cellsOf e) := by rw [<- hp]; simp
  rw [e1] at hx
  obtain ⟨v, h1, h2, h3, h4⟩ := ih _ _ hx
  have e2 : pre ++ cs = (pre ++ cs.take (P.cellsOf e)) ++ cs.drop (P.cellsOf e) := by simp
  rw [e2] at hys
  obtain ⟨ps, k0, k1, k2⟩ := Nq ih n (i + 1) (pre ++ cs.take (P.cellsOf e)) (cs.drop (P.cellsOf e)) ys (by rw [List.length_append, hp, h3, Nat.add_mul, Nat.one_mul]) (by rw [List.length_drop, hl]; omega) hys
  refine ⟨v :: ps, by simp [k0], fun u hu => ?_, _, _, (List.take_append_drop (P.cellsOf e) cs).symm, h2, h3, h4, k2⟩
  rcases List.mem_cons.1 hu with rfl | hu
  . exact h1
  . exact k1 u hu
theorem Qj {t : TypeId} {ps : List AV} (h : bM P (uid P t) t = true) (hA : aQ P t = true) : fits P t (.agg (uid P t) ps) = true := by simp [fits, h, hA]
theorem Qt {d fuel : Nat} {e : TypeId} {b o : Nat} (ih : ∀ (cs : List Value) x, DataW.trod enc P W 0 (fun _ => true) true fuel e cs = some x -> Read P W d e cs) :
    ∀ (n i : Nat) (xs : List (DataW H × List MemPlace)),
     (List.range' i n).mapM (fun i => (W.cells? 0 ((⟨b, o, none⟩ : Addr).add (i * P.cellsOf e)) (P.cellsOf e)).bind (DataW.trod enc P W 0 (fun _ => true) true fuel e)) = some xs -> ∃ l : List AV, l.length = n /\ (∀ u ∈ l, Has P d e u) /\ dN P (oZ W) e b (o + i * P.cellsOf e) l
 | 0, i, xs, _ => ⟨[], rfl, by simp, trivial⟩
 | n + 1, i, xs, hm => by
  simp only [List.range'_succ, List.mapM_cons, Option.bind_eq_bind, Option.bind_eq_some_iff, Option.pure_def, Option.some.injEq] at hm
  obtain ⟨x, ⟨cs, hcs, hx⟩, ys, hys, _⟩ := hm
  obtain ⟨_, hlen, hcell⟩ := World.cells?_some hcs
  obtain ⟨v, h1, h2, h3, h4⟩ := ih _ _ hx
  obtain ⟨l, k0, k1, k2⟩ := Qt ih n (i + 1) ys hys
  refine ⟨v :: l, by simp [k0], fun u hu => ?_, ⟨cs, h2, h3, h4, fun j u hu => ⟨trivial, ?_⟩⟩, ?_⟩
  . rcases List.mem_cons.1 hu with rfl | hu
    . exact h1
    . exact k1 u hu
  . have := hcell j (by have := (List.getElem?_eq_some_iff.1 hu).1; omega)
    rw [Addr.add_lit, Addr.add_lit] at this
    exact this.trans hu
  . have e1 : o + (i + 1) * P.cellsOf e = o + i * P.cellsOf e + P.cellsOf e := by rw [Nat.add_mul]; omega
    rwa [e1] at k2
theorem one_cell {P : Program} {t : TypeId} {cs : List Value} {x : DataW H × List MemPlace} {fuel : Nat} (h : DataW.trod enc P W 0 (fun _ => true) true (fuel + 1) t cs = some x) (hu : (∃ k, P.underlying t = some (.int k)) \/ P.underlying t = some .bool \/ P.underlying t = some .string \/ ∃ e, P.underlying t = some (.slice e)) : ∃ c, cs = [c] := by
 match cs with
 | [c] => exact ⟨c, rfl⟩
 | [] => rcases hu with ⟨k, hu⟩ | hu | hu | ⟨e, hu⟩ <;> simp [DataW.trod, hu] at h
 | c :: c' :: r => rcases hu with ⟨k, hu⟩ | hu | hu | ⟨e, hu⟩ <;> simp [DataW.trod, hu] at h
theorem O1 : ∀ (fuel d : Nat) (t : TypeId) (cs : List Value) (x : DataW H × List MemPlace), DataW.trod enc P W 0 (fun _ => true) true fuel t cs = some x -> jN P d t = true -> Read P W d t cs
 | 0, d, t, cs, x, h, _ => by simp [DataW.trod] at h
 | fuel + 1, 0, t, cs, x, _, hr => by simp [jN] at hr
 | fuel + 1, d + 1, t, cs, x, h, hr => by
  have ih := O1 fuel d
  simp only [jN] at hr
  unfold Read
  simp only [Has]
  split at hr
  . rename_i hu
    obtain ⟨c, rfl⟩ := one_cell h (.inr (.inl hu))
    have h1 := Nat.eq_of_beq_eq_true hr
    cases c <;> simp [DataW.trod, hu] at h
    rename_i b
    try simp only [hu]
    exact ⟨.bool b, ⟨b, rfl⟩, rfl, by simp [h1], by simp [fits, aR, aQ, hu]⟩
  . rename_i k hu
    obtain ⟨c, rfl⟩ := one_cell h (.inl ⟨k, hu⟩)
    have h1 := Nat.eq_of_beq_eq_true hr
    cases c <;> simp [DataW.trod, hu] at h
    rename_i k' n
    obtain ⟨⟨rfl, hw⟩, _⟩ := h
    try simp only [hu]
    exact ⟨.int k' n, ⟨n, rfl, hw⟩, rfl, by simp [h1], by simp [fits, aR, aQ, hu]⟩
  . rename_i hu
    obtain ⟨c, rfl⟩ := one_cell h (.inr (.inr (.inl hu)))
    have h1 := Nat.eq_of_beq_eq_true hr
    cases c <;> simp [DataW.trod, hu] at h
    rename_i s
    try simp only [hu]
    refine ⟨.str s.data.toList, ⟨_, rfl, by rw [Array.length_toList]; exact h.1⟩, ?_, by simp [h1], by simp [fits, aR, aQ, hu]⟩
    simp [rel]
  . rename_i fs hu
    simp only [Bool.and_eq_true] at hr
    obtain ⟨⟨⟨r1, r2⟩, r3⟩, r4⟩ := hr
    have hsum := Nat.eq_of_beq_eq_true r4
    have hA : aQ P t = true := by simp [aQ, hu]
    have hu' := (dK r3).trans hu
    simp only [DataW.trod, hu] at h
    split at h
    . rename_i hlen
      obtain ⟨xs, hxs, _⟩ := Option.map_eq_some_iff.1 h
      obtain ⟨ps, k1, k2⟩ := Qk (fuel := fuel) (d := d) (fun t cs x h hr => ih t cs x h hr) fs.toList 0 [] cs xs r2 r1 rfl (by rw [hlen, hsum]) (by simpa using hxs)
      try simp only [hu]
      exact ⟨_, ⟨ps, rfl, k1⟩, kV hu' (by rw [hlen, gZ r3]) k2, hlen, Qj r3 hA⟩
    . exact absurd h (by simp)
  . rename_i n e hu
    simp only [Bool.and_eq_true] at hr
    obtain ⟨⟨r1, r3⟩, r4⟩ := hr
    have hsum := Nat.eq_of_beq_eq_true r4
    have hA : aQ P t = true := by simp [aQ, hu]
    have hu' := (dK r3).trans hu
    simp only [DataW.trod, hu] at h
    split at h
    . rename_i hlen
      obtain ⟨xs, hxs, _⟩ := Option.map_eq_some_iff.1 h
      obtain ⟨ps, k0, k1, k2⟩ := Nq (fuel := fuel) (d := d) (fun cs x h => ih e cs x h r1) n 0 [] cs xs (by simp) (by rw [hlen, hsum]) (by simpa [List.range_eq_range'] using hxs)
      try simp only [hu]
      exact ⟨_, ⟨ps, rfl, k0, k1⟩, kR hu' (by rw [hlen, gZ r3]) k0 k2, hlen, Qj r3 hA⟩
    . exact absurd h (by simp)
  . rename_i e hu
    simp only [Bool.and_eq_true] at hr
    obtain ⟨⟨r1, r2⟩, r3⟩ := hr
    have h1 := Nat.eq_of_beq_eq_true r2
    obtain ⟨c, rfl⟩ := one_cell h (.inr (.inr (.inr ⟨e, hu⟩)))
    have hfit : ∀ l, fits P t (.slice e l false) = true := fun l => by simp [fits, aR, aQ, hu]
    try simp only [hu]
    have done : ∀ base len cap, c = .slice base len cap -> (∃ l : List AV, l.length = len /\ len <= cap /\ len <= maxLen /\ (∀ u ∈ l, Has P d e u) /\ (len = 0 \/ ∃ b o, base = some ⟨b, o, none⟩ /\ dN P (oZ W) e b o l)) ->
        ∃ v, (∃ l, v = .slice e l false /\ l.length <= maxLen /\ ∀ u ∈ l, Has P d e u) /\ rel P (oZ W) v [c] /\ [c].length = P.cellsOf t /\ fits P t v = true := by
     rintro base len cap rfl ⟨l, k1, k2, k3, k4, k5⟩
     subst k1
     refine ⟨.slice e l false, ⟨l, rfl, k3, k4⟩, ⟨base, _, cap, rfl, rfl, k2, fun k => absurd k (by simp), k5⟩, by simp [h1], hfit l⟩
    cases c <;> try (simp [DataW.trod, hu] at h; done)
    rename_i base len cap
    refine done base len cap rfl ?_
    cases base with
    | none =>
     simp only [DataW.trod, hu] at h
     split at h <;> simp_all
    | some ad =>
     simp only [DataW.trod, hu] at h
     split at h
     . rename_i hc
       obtain ⟨elems, hel, _⟩ := Option.bind_eq_some_iff.1 h
       rcases Nat.eq_zero_or_pos len with h0 | h0
       . subst h0
         exact ⟨[], rfl, by omega, by simp, by simp, .inl rfl⟩
       . have hsp : ad.spot = none := by
           have hg := mapM_some_get hel 0 0 (by simp [h0])
           have hlen := mapM_some_length hel
           obtain ⟨e0, hx⟩ : ∃ e0, elems[0]? = some e0 := ⟨_, List.getElem?_eq_getElem (by rw [hlen]; simpa using h0)⟩
           rw [hx] at hg
           obtain ⟨cs0, hcs0, _⟩ := Option.bind_eq_some_iff.1 hg
           obtain ⟨_, hl, hcell⟩ := World.cells?_some hcs0
           have hpos := Nat.blt_eq.mp r3
           have hc0 := hcell 0 hpos
           rw [List.getElem?_eq_getElem (by omega)] at hc0
           simp only [Nat.zero_mul, Addr.add, if_true] at hc0
           unfold World.cell? at hc0
           split at hc0
           . split at hc0
             . exact absurd hc0 (by simp)
             . rename_i hs; simpa using hs
           . exact absurd hc0 (by simp)
         obtain ⟨b, o, sp⟩ := ad
         simp only at hsp
         subst hsp
         obtain ⟨l, k0, k1, k2⟩ := Qt (fuel := fuel) (d := d) (fun cs x h => ih e cs x h r1) len 0 elems (by simpa [List.range_eq_range'] using hel)
         exact ⟨l, k0, hc.2.1, Nat.le_trans hc.2.1 hc.2.2, k1, .inr ⟨b, o, rfl, by simpa using k2⟩⟩
     . exact absurd h (by simp)
  . exact absurd hr (by simp)
end
end Go.AE
namespace Go.AE
open Go.RowKit Go.Lib
section
variable {P : Program} {H : Type} {enc : TypeId × Value -> H} {W : World}
theorem YD {d : Nat} {t : TypeId} (h : jN P d t = true) (hA : aQ P t = false) : P.underlying t = some .bool \/ (∃ k, P.underlying t = some (.int k)) \/ P.underlying t = some .string \/ ∃ e, P.underlying t = some (.slice e) := by
 cases d with
 | zero => simp [jN] at h
 | succ d =>
  simp only [jN] at h
  split at h
  . rename_i hu; exact .inl hu
  . rename_i k hu; exact .inr (.inl ⟨k, hu⟩)
  . rename_i hu; exact .inr (.inr (.inl hu))
  . rename_i fs hu; simp [aQ, hu] at hA
  . rename_i n e hu; simp [aQ, hu] at hA
  . rename_i e hu; exact .inr (.inr (.inr ⟨e, hu⟩))
  . exact absurd h (by simp)
theorem aaT {d base : Nat} {t : TypeId} {v : Value} (hr : jN P d t = true) (hok : Value.okWide P W .any base t v) (h : Read P W d t v.cells.toList) : ∃ a, Has P d t a /\ aK P (oZ W) a v := by
 obtain ⟨a, h1, h2, h3, h4⟩ := h
 have hA := ng h4
 refine ⟨a, h1, v.cells.toList, ?_, h2, fun e => r9 h4 h2 e⟩
 cases ht : aQ P t with
 | true =>
  rw [hA, ht]
  have : ∃ cs, v = .agg cs := by
   unfold Value.okWide at hok
   unfold aQ at ht
   split at ht
   . rename_i hu; rw [hu] at hok; obtain ⟨cs, k, _⟩ := hok; exact ⟨cs, k⟩
   . rename_i hu; rw [hu] at hok; obtain ⟨cs, k, _⟩ := hok; exact ⟨cs, k⟩
   . exact absurd ht (by simp)
  obtain ⟨cs, rfl⟩ := this
  simp [mkV, Value.cells]
 | false =>
  rw [hA, ht]
  cases v with
  | agg cs =>
   exfalso
   rcases YD hr ht with hu | ⟨k, hu⟩ | hu | ⟨e, hu⟩ <;> simp [Value.okWide, Cell.okWide, Cell.ok, hu] at hok
  | _ => rfl
def sU (P : Program) : List TypeId -> Bool
 | [] => true
 | t :: ts => jN P 8 t && P.readableRec t && decide (t < P.types.size) && sU P ts
theorem OU {base : Nat} : ∀ {ts : List TypeId} {vs : List Value} {ds : List (DataW H)} {ps : List MemPlace}, sU P ts = true -> (∀ (j : Nat) t v, ts[j]? = some t -> vs[j]? = some v -> Value.okWide P W .any base t v) ->
    DataW.TrodAll enc P W 0 (fun _ => true) true ts vs ds ps -> ∃ as, kg (fun v t => Has P 8 t v) ts as /\ bA P (oZ W) as vs
 | [], [], [], ps, _, _, _ => ⟨[], trivial, rfl⟩
 | t :: ts, v :: vs, d :: ds, ps, hr, hok, ⟨p, q, ⟨fuel, h1⟩, h2, _⟩ => by
  simp only [sU, Bool.and_eq_true] at hr
  obtain ⟨a, k1, k2⟩ := aaT hr.1.1.1 (hok 0 t v rfl rfl) (O1 fuel 8 t _ _ h1 hr.1.1.1)
  obtain ⟨as, m1, m2⟩ := OU hr.2 (fun j t v h1 h2 => hok (j + 1) t v (by simpa using h1) (by simpa using h2)) h2
  exact ⟨a :: as, ⟨k1, m1⟩, jX k2 m2⟩
 | [], [], _ :: _, ps, _, _, h => h.elim
 | [], _ :: _, _, ps, _, _, h => h.elim
 | _ :: _, [], _, ps, _, _, h => h.elim
 | _ :: _, _ :: _, [], ps, _, _, h => h.elim
theorem Qf (hl : laidOutB P = true) {W' : World} (hb : Below W.heap.size W W') : ∀ {ts : List TypeId} {vs : List Value} {ds : List (DataW H)} {ps : List MemPlace}, sU P ts = true ->
    DataW.TrodAll enc P W 0 (fun _ => true) true ts vs ds ps -> DataW.TrodAll enc P W' 0 (fun b => decide (b < W.heap.size)) true ts vs ds ps
 | [], [], [], ps, _, h => h
 | t :: ts, v :: vs, d :: ds, ps, hr, ⟨p, q, h1, h2, h3⟩ => by
  simp only [sU, Bool.and_eq_true, decide_eq_true_eq] at hr
  refine ⟨p, q, ?_, Qf hl hb hr.2 h2, h3⟩
  have hlt : ∀ x ∈ p, x.block < W.heap.size := by obtain ⟨m, hm⟩ := h1; exact DataW.trod_lt m _ _ _ hm
  exact Below.trod hl hr.1.1.2 hr.1.2 h1 hb hlt
 | [], [], _ :: _, ps, _, h => h.elim
 | [], _ :: _, _, ps, _, h => h.elim
 | _ :: _, [], _, ps, _, h => h.elim
 | _ :: _, _ :: _, [], ps, _, h => h.elim
theorem WH {C : Checked} {os : Os} {f : FuncId} {fn : Func} {s : ChangeSpec} {conds : List PathCond} {tb : TypeId} (own : ownKnob C.prog.godebug = none) (started : os.Started) (noInit : C.prog.inits.idxOf? f = none) (hfn : C.prog.funcs[f]? = some fn)
    (witness : ∃ (w : World) (tape : Tape) (i : Input), w.os = os /\ (w.forCall tape i).Shaped C.prog /\ i.vars = [] /\ Input.okWide C.prog (w.forCall tape i) .any w.heap.size f i /\
     s.pre6 enc C.prog fn conds false (w.forCall tape i).memory i.args /\ ({} : Assume).holds C.prog (lone (Frame.enter C.prog f i.args .normal) [] (w.forCall tape i)))
    (hl : laidOutB C.prog = true) (hv : s.vars = []) (hr : sU C.prog fn.params.toList = true) (ht : fn.resultTypes = #[tb]) (hub : C.prog.underlying tb = some .bool)
    (hs : ∀ ds : List (DataW H), ds.length = fn.params.size -> s.fn H ds = { results := [.lit (.bool true)], args := ds })
    (hcalls : ∀ as, kg (fun v t => Has C.prog 8 t v) fn.params.toList as -> yO C.prog f as (.bool true)) :
    ReturnsInHanded {} C os f .any (s.pre6 enc C.prog fn conds false) (s.post enc C.prog fn false true false false) := by
 refine returnsInHanded_of_change own started noInit hfn witness ?_
 intro W base args ds gs before hval hW hcnd _
 have hW' := hW
 obtain ⟨p, q, hA, hV, rfl, hfz, hnd⟩ := hW
 rw [hv] at hV
 obtain ⟨rfl, rfl⟩ := ChangeShapes.trodVars_none hV
 obtain ⟨as, k1, k2⟩ := OU hr (fun j t v h1 h2 => hval j t v (by simpa using h1) (by simpa using h2)) hA
 refine (hcalls as k1 W (fun _ _ => True) args k2).mono fun e W' ⟨rv, he, bel, hrv⟩ => ?_
 subst he
 obtain rfl := eG.1 hrv
 have hlen : ds.length = fn.params.size := by
  have : ∀ {ts : List TypeId} {vs : List Value} {ds : List (DataW H)} {ps : List MemPlace}, DataW.TrodAll enc C.prog W 0 (fun _ => true) true ts vs ds ps -> ds.length = ts.length := by
   intro ts
   induction ts with
   | nil => intro vs ds ps h; cases vs <;> cases ds <;> simp_all [DataW.TrodAll]
   | cons t ts ih => intro vs ds ps h; cases vs <;> cases ds <;> simp_all [DataW.TrodAll]; obtain ⟨_, _, _, h, _⟩ := h; exact ih h
  simpa using this hA
 have hsv := hs ds hlen
 refine ⟨_, rfl, ds, [], _, [], p, [], hW', ?_, ?_, ?_, bel.frame _, fun h => by cases h⟩
 . rw [List.append_nil, hsv, ht]
   exact ChangeShapes.trodAll_mk1 (shut_bool hub true)
 . rw [List.append_nil, hsv]
   exact Qf hl bel hr hA
 . rw [hv, List.append_nil, hsv]
   rfl
end
end Go.AE
namespace Go.AE
def wI (i : Nat) : List (Nat × AV) -> AV
 | [] => .dead
 | (j, v) :: r => if Nat.beq j i then v else wI i r
def zC (kv : List (Nat × AV)) : Nat -> Nat -> List AV
 | _, 0 => []
 | i, n + 1 => wI i kv :: zC kv (i + 1) n
def aU (n : Nat) (kv : List (Nat × AV)) (tf : List (Nat × TF)) : Fr := ⟨zC kv 0 n, tf⟩
def AV.Ep : AV -> Bool
 | .dead => true
 | _ => false
def vL (ks : List Nat) : Nat -> Nat -> List AV -> Bool
 | _, 0, [] => true
 | i, n + 1, v :: vs => (if jf i ks then true else v.Ep) && vL ks (i + 1) n vs
 | _, _, _ => false
def Eb (n : Nat) (ks : List Nat) (fr : Fr) : Bool := vL ks 0 n fr.tmps
theorem aa9 {v : AV} (h : v.Ep = true) : v = .dead := by cases v <;> simp_all [AV.Ep]
theorem Oy (f : Nat -> AV) (i : Nat) : ∀ ks : List Nat, wI i (ks.map fun k => (k, f k)) = if i ∈ ks then f i else .dead
 | [] => by simp [wI]
 | k :: ks => by
  simp only [List.map_cons, wI, List.mem_cons]
  by_cases h : k = i
  . subst h; simp
  . rw [if_neg (fun e => h (Nat.eq_of_beq_eq_true e)), Oy f i ks]
    by_cases h2 : i ∈ ks
    . rw [if_pos h2, if_pos (.inr h2)]
    . rw [if_neg h2, if_neg (fun e => e.elim (fun e => h e.symm) h2)]
theorem LX (ks : List Nat) (f : Nat -> AV) : ∀ (n i : Nat) (l : List AV), vL ks i n l = true -> (∀ j, l.getD j .dead = f (i + j)) -> l = zC (ks.map fun k => (k, f k)) i n
 | 0, i, [], _, _ => rfl
 | 0, i, _ :: _, h, _ => by simp [vL] at h
 | n + 1, i, [], h, _ => by simp [vL] at h
 | n + 1, i, v :: vs, h, hf => by
  simp only [vL, Bool.and_eq_true] at h
  simp only [zC]
  refine List.cons_eq_cons.2 ⟨?_, LX ks f n (i + 1) vs h.2 fun j => by rw [show i + 1 + j = i + (j + 1) from by omega, <- hf]; rfl⟩
  rw [Oy]
  have h0 : v = f i := by simpa using hf 0
  split
  . exact h0
  . rename_i hi
    have h1 := h.1
    rw [if_neg (fun e => hi (qR.1 e))] at h1
    exact aa9 h1
theorem N8 {n : Nat} {ks : List Nat} {fr : Fr} (h : Eb n ks fr = true) : fr = aU n (ks.map fun k => (k, fr.tmps.getD k .dead)) fr.tf := by
 have := LX ks (fun k => fr.tmps.getD k .dead) n 0 fr.tmps h fun j => by rw [Nat.zero_add]
 unfold aU
 rw [<- this]
end Go.AE
namespace Go.AE
theorem wrap_u8 (n : Int) : IntKind.u8.wrap n = n % 256 := by simp [IntKind.wrap, IntKind.bits, IntKind.signed]
theorem wrap_u32 (n : Int) : IntKind.u32.wrap n = n % 4294967296 := by simp [IntKind.wrap, IntKind.bits, IntKind.signed]
theorem wrap_i32 (n : Int) : IntKind.i32.wrap n = (n + 2147483648) % 4294967296 - 2147483648 := by
 simp [IntKind.wrap, IntKind.bits, IntKind.signed]
 split <;> omega
theorem wrap_i64 (n : Int) : IntKind.i64.wrap n = (n + 9223372036854775808) % 18446744073709551616 - 9223372036854775808 := by
 simp [IntKind.wrap, IntKind.bits, IntKind.signed]
 split <;> omega
theorem bS {n : Int} (h1 : -9223372036854775808 <= n) (h2 : n < 9223372036854775808) : IntKind.i64.wrap n = n := by
 rw [wrap_i64]; omega
theorem gQ {n : Int} (h1 : 0 <= n) (h2 : n < 4294967296) : IntKind.u32.wrap n = n := by
 rw [wrap_u32]; omega
theorem oq {w : Nat} {x : Int} (h1 : 0 <= x) (h2 : x < 2 ^ w) : (BitVec.ofInt w x).toNat = x.toNat := by
 rw [BitVec.toNat_ofInt]
 have : x % (2 ^ w : Nat) = x := Int.emod_eq_of_lt h1 (by exact_mod_cast h2)
 rw [this]
theorem wV {w : Nat} {x : Int} (h1 : 0 <= x) (h2 : x < 2 ^ w) : x.toNat < 2 ^ w := by
 have : ((2 ^ w : Nat) : Int) = 2 ^ w := by norm_cast
 omega
theorem Ov {x y : Int} (hx : 0 <= x) (hx2 : x < 4294967296) (hy : 0 <= y) (hy2 : y < 4294967296) : aL .and .u32 x y = ((x.toNat &&& y.toNat : Nat) : Int) := by
 have h1 := oq (w := 32) hx (by simpa using hx2)
 have h2 := oq (w := 32) hy (by simpa using hy2)
 have hl : x.toNat &&& y.toNat < 2 ^ 32 := Nat.and_lt_two_pow _ (wV hy (by simpa using hy2))
 have e : (BitVec.ofInt 32 x &&& BitVec.ofInt 32 y).toNat = x.toNat &&& y.toNat := by rw [BitVec.toNat_and, h1, h2]
 show IntKind.u32.wrap ((BitVec.ofInt 32 x &&& BitVec.ofInt 32 y).toNat : Int) = _
 rw [e, gQ (by omega) (by simp at hl; omega)]
theorem tu {x y : Int} (hx : 0 <= x) (hx2 : x < 4294967296) (hy : 0 <= y) (hy2 : y < 4294967296) : aL .or .u32 x y = ((x.toNat ||| y.toNat : Nat) : Int) := by
 have h1 := oq (w := 32) hx (by simpa using hx2)
 have h2 := oq (w := 32) hy (by simpa using hy2)
 have hl : x.toNat ||| y.toNat < 2 ^ 32 := Nat.or_lt_two_pow (wV hx (by simpa using hx2)) (wV hy (by simpa using hy2))
 have e : (BitVec.ofInt 32 x ||| BitVec.ofInt 32 y).toNat = x.toNat ||| y.toNat := by rw [BitVec.toNat_or, h1, h2]
 show IntKind.u32.wrap ((BitVec.ofInt 32 x ||| BitVec.ofInt 32 y).toNat : Int) = _
 rw [e, gQ (by omega) (by simp at hl; omega)]
theorem Yn {x y : Int} (hx : 0 <= x) (hx2 : x < 4294967296) (hy : 0 <= y) (hy2 : y < 4294967296) : aL .xor .u32 x y = ((x.toNat ^^^ y.toNat : Nat) : Int) := by
 have h1 := oq (w := 32) hx (by simpa using hx2)
 have h2 := oq (w := 32) hy (by simpa using hy2)
 have hl : x.toNat ^^^ y.toNat < 2 ^ 32 := Nat.xor_lt_two_pow (wV hx (by simpa using hx2)) (wV hy (by simpa using hy2))
 have e : (BitVec.ofInt 32 x ^^^ BitVec.ofInt 32 y).toNat = x.toNat ^^^ y.toNat := by rw [BitVec.toNat_xor, h1, h2]
 show IntKind.u32.wrap ((BitVec.ofInt 32 x ^^^ BitVec.ofInt 32 y).toNat : Int) = _
 rw [e, gQ (by omega) (by simp at hl; omega)]
theorem NQ {w : Nat} (k : IntKind) (m : Nat) (x : Int) (hk : k.bits = w) (hm : m < w) (hw : k.wrap ((x % 2 ^ m).toNat : Int) = x % 2 ^ m) : aL .and k x (2 ^ m - 1) = x % 2 ^ m := by
 have hp : (2 : Nat) ^ m < 2 ^ w := Nat.pow_lt_pow_right (by omega) hm
 have hpos : 0 < (2 : Nat) ^ m := Nat.two_pow_pos m
 have e1 : ((2 ^ m : Nat) : Int) = 2 ^ m := by norm_cast
 have h2 : (BitVec.ofInt w ((2 : Int) ^ m - 1)).toNat = 2 ^ m - 1 := by
  have e0 : ((2 ^ w : Nat) : Int) = 2 ^ w := by norm_cast
  rw [oq (by omega) (by omega)]
  omega
 have h1 : (BitVec.ofInt w x).toNat = (x % (2 ^ w : Nat)).toNat := by rw [BitVec.toNat_ofInt]
 subst hk
 simp only [aL, BitVec.toNat_and, h1, h2]
 rw [Nat.and_two_pow_sub_one_eq_mod]
 have e2 : (x % (2 ^ k.bits : Nat)).toNat % 2 ^ m = (x % 2 ^ m).toNat := by
  have hd : ((2 ^ m : Nat) : Int) ∣ ((2 ^ k.bits : Nat) : Int) := by
   exact_mod_cast Nat.pow_dvd_pow 2 (Nat.le_of_lt hm)
  have h3 : 0 <= x % (2 ^ k.bits : Nat) := Int.emod_nonneg _ (by have := Nat.two_pow_pos k.bits; omega)
  have h4 : x % (2 ^ k.bits : Nat) % (2 ^ m : Nat) = x % (2 ^ m : Nat) := Int.emod_emod_of_dvd _ hd
  have h5 : 0 <= x % (2 ^ m : Nat) := Int.emod_nonneg _ (by omega)
  rw [e1] at h4 h5
  apply Int.ofNat.inj
  show (((x % (2 ^ k.bits : Nat)).toNat % 2 ^ m : Nat) : Int) = ((x % 2 ^ m).toNat : Int)
  rw [Int.natCast_emod, Int.toNat_of_nonneg h3, e1, h4, Int.toNat_of_nonneg h5]
 rw [e2, hw]
end Go.AE
namespace Go.AE
theorem F5 {P : Program} {d : Nat} {t : TypeId} {k : IntKind} {v : AV} (hu : P.underlying t = some (.int k)) (h : Has P (d + 1) t v) : ∃ n, v = .int k n /\ k.min <= n /\ n <= k.max := by
 simp only [Has, hu] at h
 obtain ⟨n, rfl, hw⟩ := h
 refine ⟨n, rfl, ?_⟩
 simpa [Lit.wf] using hw
theorem CX {P : Program} {d : Nat} {t : TypeId} {v : AV} (hu : P.underlying t = some .bool) (h : Has P (d + 1) t v) : ∃ b, v = .bool b := by
 simpa only [Has, hu] using h
theorem LC {P : Program} {d : Nat} {t : TypeId} {fs : Array Field} {v : AV} (hu : P.underlying t = some (.struct fs)) (h : Has P (d + 1) t v) : ∃ ps, v = .agg (uid P t) ps /\ kg (fun v t => Has P d t v) (fs.toList.map (·.type)) ps := by
 simpa only [Has, hu] using h
theorem Fv {P : Program} {d : Nat} {t e : TypeId} {n : Nat} {v : AV} (hu : P.underlying t = some (.array n e)) (h : Has P (d + 1) t v) : ∃ ps, v = .agg (uid P t) ps /\ ps.length = n /\ ∀ x ∈ ps, Has P d e x := by
 simpa only [Has, hu] using h
theorem YW {P : Program} {d : Nat} {t e : TypeId} {v : AV} (hu : P.underlying t = some (.slice e)) (h : Has P (d + 1) t v) : ∃ l, v = .slice e l false /\ l.length <= maxLen /\ ∀ x ∈ l, Has P d e x := by
 simpa only [Has, hu] using h
theorem jS {p : AV -> TypeId -> Prop} {t : TypeId} {ts : List TypeId} {as : List AV} (h : kg p (t :: ts) as) : ∃ a r, as = a :: r /\ p a t /\ kg p ts r := by
 cases as with
 | nil => simp [kg] at h
 | cons a r => exact ⟨a, r, rfl, h.1, h.2⟩
theorem Ev {p : AV -> TypeId -> Prop} {as : List AV} (h : kg p [] as) : as = [] := by
 cases as with
 | nil => rfl
 | cons a r => simp [kg] at h
end Go.AE
namespace Go.AE
abbrev Tab := FuncId -> List AV -> Option AV
structure LO where
 k : Nat
 i : List Int := []
 b : List Bool := []
 l : List (List AV) := []
 s : List (List UInt8) := []
 n : List Nat := []
 v : List AV := []
def LO.bad : LO := ⟨0, [], [], [], [], [], []⟩
def qE (P : Program) : Nat -> AV -> AV
 | 0, v => v
 | d + 1, v =>
  match v with
  | .slice e l _ => .slice e l false
  | .agg t ps => match P.underlying t with
   | some (.struct _) => .agg t (ps.map (qE P d))
   | _ => .agg t ps
  | v => v
def fG : AV -> List AV
 | .tuple vs => vs
 | _ => []
def vI (P : Program) : Nat -> List TypeId -> List AV -> List AV
 | _, [], _ => []
 | k, t :: ts, vs => iZ P true 8 t (vs.getD k .dead) :: vI P (k + 1) ts vs
def Cb (P : Program) (ts : List TypeId) (v : AV) : AV :=
 match ts with
 | [t] => iZ P true 8 t v
 | ts => .tuple (vI P 0 ts (fG v))
def aB (P : Program) (F : Tab) (f : FuncId) (args : List AV) : Bool :=
 match F f args, P.funcs[f]? with
 | some v, some fn => p9 P fn.resultTypes.toList v
 | _, _ => false
def aA (F : Tab) (f : FuncId) (args : List AV) : AV := (F f args).getD .dead
def Bb (P : Program) (kn : List FuncId) (F : Tab) (f : FuncId) (args : List AV) : Option (Bool × AV) :=
 if jf f kn then
  match P.funcs[f]? with
  | some fn => let a := args.map (qE P 4); some (aB P F f a, Cb P fn.resultTypes.toList (aA F f a))
  | none => none
 else none
def EY (P : Program) (F : Tab) : Prop := ∀ f args v, F f args = some v -> yO P f args v
section
variable {P : Program} {x : X}
theorem Jz {f : AV -> AV} (hf : ∀ t v cs, fits P t v = true -> rel P x v cs -> fits P t (f v) = true /\ rel P x (f v) cs) : ∀ (ts : List TypeId) (ps : List AV) (cs : List Value), dh P x ts ps cs -> dh P x ts (ps.map f) cs
 | [], [], cs, h => h
 | [], _ :: _, cs, h => h.elim
 | _ :: _, [], cs, h => h.elim
 | t :: ts, v :: vs, cs, ⟨c, r, h1, h2, h3, h4, h5⟩ => ⟨c, r, h1, (hf t v c h4 h2).2, h3, (hf t v c h4 h2).1, Jz hf ts vs r h5⟩
theorem Gt : ∀ (d : Nat) (v : AV) (cs : List Value), rel P x v cs -> rel P x (qE P d v) cs /\ (qE P d v).isA = v.isA /\ ∀ t, fits P t v = true -> fits P t (qE P d v) = true
 | 0, v, cs, h => ⟨h, rfl, fun _ h => h⟩
 | d + 1, v, cs, h => by
  cases v with
  | slice e l ex =>
   obtain ⟨base, len, cap, h1, h2, h3, h4, h5⟩ := h
   exact ⟨⟨base, len, cap, h1, h2, h3, fun k => absurd k (by simp), h5⟩, rfl, fun t ht => ht⟩
  | agg t ps =>
   simp only [qE]
   split
   . rename_i fs hu
     obtain ⟨k1, k2⟩ := lC h hu
     exact ⟨kV hu k1 (Jz (fun t v cs hf hr => ⟨(Gt d v cs hr).2.2 t hf, (Gt d v cs hr).1⟩) _ _ _ k2), rfl, fun u hu => hu⟩
   . exact ⟨h, rfl, fun _ h => h⟩
  | _ => exact ⟨h, rfl, fun _ h => h⟩
theorem OY (d : Nat) : ∀ (as : List AV) (vs : List Value), bA P x as vs -> bA P x (as.map (qE P d)) vs
 | [], vs, h => h
 | a :: as, vs, ⟨c, r, h1, h2, h3, h4⟩ => by
  obtain ⟨k1, k2, _⟩ := Gt d a c h2
  exact ⟨c, r, by rw [k2]; exact h1, k1, by rw [k2]; exact h3, OY d as r h4⟩
theorem Mt (hm : x.m = false) {vs : List AV} : ∀ (ts : List TypeId) (k : Nat) (us : List AV) (ds : List Value), gW P ts us = true -> bA P x us ds -> (∀ j, us.getD j .dead = vs.getD (k + j) .dead) -> bA P x (vI P k ts vs) ds
 | [], k, [], ds, _, h, _ => h
 | [], k, _ :: _, ds, hf, _, _ => by simp [gW] at hf
 | _ :: _, k, [], ds, hf, _, _ => by simp [gW] at hf
 | t :: ts, k, u :: us, ds, hf, ⟨c, r, h1, h2, h3, h4⟩, hj => by
  simp only [gW, Bool.and_eq_true] at hf
  have e : vs.getD k .dead = u := by simpa using (hj 0).symm
  have hv := vP (im := true) (fun _ => hm) (d := 8) hf.1 ⟨c, rfl, h2, h3⟩
  subst h1
  simp only [vI, e]
  exact jX hv (Mt hm ts (k + 1) us r hf.2 h4 fun j => by rw [show k + 1 + j = k + (j + 1) from by omega, <- hj]; rfl)
theorem abn (hm : x.m = false) {ts : List TypeId} {v : AV} {c : Value} (hg : p9 P ts v = true) (h : aK P x v c) : aK P x (Cb P ts v) c := by
 unfold p9 at hg
 simp only [Bool.and_eq_true] at hg
 obtain ⟨hpl, hg⟩ := hg
 clear hpl
 split at hg
 . exact vP (fun _ => hm) hg h
 . rename_i vs hne
   obtain ⟨cs, rfl, ⟨arr, rfl, hus⟩, _⟩ := h
   have e : Cb P ts (.tuple vs) = .tuple (vI P 0 ts vs) := by
    unfold Cb
    split
    . rename_i t; exact absurd rfl (hne t)
    . rfl
   rw [e]
   have : rel P x (.tuple (vI P 0 ts vs)) [.tuple arr] := ⟨arr, rfl, Mt hm ts 0 vs arr.toList hg hus fun j => by rw [Nat.zero_add]⟩
   exact bR this rfl
 . exact absurd hg (by simp)
end
theorem ZV {cx : Ctx} {kn : List FuncId} {F : Tab} (hs : cx.spec = Bb cx.P kn F) (hF : EY cx.P F) : cx.Good := by
 intro f args v h
 rw [hs] at h
 unfold Bb at h
 split at h
 . split at h
   . rename_i fn hfn
     simp only [Option.some.injEq, Prod.mk.injEq] at h
     obtain ⟨h1, h2⟩ := h
     unfold aB at h1
     split at h1
     . rename_i u fn' hu hfn'
       rw [hfn] at hfn'
       obtain rfl := Option.some.inj hfn'
       unfold aA at h2
       rw [hu, Option.getD_some] at h2
       subst h2
       intro w S cargs ha
       exact (hF f _ u hu w S cargs (OY 4 _ _ ha)).mono fun e w' ⟨rv, e1, e2, e3⟩ => ⟨rv, e1, e2, abn rfl h1 e3⟩
     . exact absurd h1 (by simp)
   . exact absurd h (by simp)
 . exact absurd h (by simp)
noncomputable def Dt (C : Tab -> Ctx) (d : Nat) : Nat -> Tab
 | 0 => fun _ _ => none
 | k + 1 => fun f args => aP (C (Dt C d k)) d f args
theorem KC {P : Program} {C : Tab -> Ctx} {kn : List FuncId} {d : Nat} (hP : ∀ F, (C F).P = P) (hs : ∀ F, (C F).spec = Bb P kn F) (hL : ∀ F, (C F).Loops) : ∀ k, EY P (Dt C d k)
 | 0 => fun f args v h => by simp [Dt] at h
 | k + 1 => fun f args v h => by
  have hF := KC hP hs hL k (d := d)
  have hg : (C (Dt C d k)).Good := ZV (by rw [hs, hP]) (by rw [hP]; exact hF)
  have := abA hg (hL _) h
  rwa [hP] at this
structure Rt (P : Program) (F : Tab) (f : FuncId) (args : List AV) (v : AV) : Prop where
 ok : aB P F f args = true
 val : aA F f args = v
def kZ (P : Program) (f : FuncId) (v : AV) : Bool :=
 match P.funcs[f]? with
 | some fn => p9 P fn.resultTypes.toList v
 | none => false
theorem Rt.of {P : Program} {F : Tab} {f : FuncId} {args : List AV} {v : AV} (h : F f args = some v) (hg : kZ P f v = true) : Rt P F f args v := by
 refine ⟨?_, by simp [aA, h]⟩
 unfold aB
 rw [h]
 unfold kZ at hg
 split at hg
 . rename_i fn hfn; rw [hfn]; exact hg
 . exact absurd hg (by simp)
theorem OG (b x : Bool) : cond b true x = (b || x) := by cases b <;> rfl
theorem qN (b x : Bool) : cond b x false = (b && x) := by cases b <;> rfl
theorem Lc (b x : Bool) : bX b true x = (b || x) := by cases b <;> cases x <;> rfl
theorem mE (b x : Bool) : bX b x true = (!b || x) := by cases b <;> cases x <;> rfl
theorem iO (k : IntKind) (n : Int) : aj (.int k n) = n := rfl
theorem bO (b : Bool) : av (.bool b) = b := rfl
theorem lO (e : TypeId) (l : List AV) (x : Bool) : ay (.slice e l x) = l := rfl
theorem pO (t : TypeId) (l : List AV) : au (.agg t l) = l := rfl
theorem tO (l : List AV) : fG (.tuple l) = l := rfl
theorem g0 (a : AV) (l : List AV) : (a :: l).getD 0 .dead = a := rfl
theorem g1 (a b : AV) (l : List AV) : (a :: b :: l).getD 1 .dead = b := rfl
theorem g2 (a b c : AV) (l : List AV) : (a :: b :: c :: l).getD 2 .dead = c := rfl
theorem g3 (a b c d : AV) (l : List AV) : (a :: b :: c :: d :: l).getD 3 .dead = d := rfl
theorem g4 (a b c d e : AV) (l : List AV) : (a :: b :: c :: d :: e :: l).getD 4 .dead = e := rfl
theorem kF (b : Bool) : bX b true true = true := by cases b <;> rfl
end Go.AE
namespace Go.AE
inductive Tr (σ : Type) where
 | out (lo : LO)
 | next (s : σ)
 | br (b : Bool) (x y : Tr σ)
 | bad
def Tr.eval {σ : Type} (k : σ -> LO) : Tr σ -> LO
 | .out lo => lo
 | .next s => k s
 | .br b x y => cond b (x.eval k) (y.eval k)
 | .bad => LO.bad
def Tr.run {σ : Type} (step : σ -> Tr σ) : Nat -> σ -> LO
 | 0, _ => LO.bad
 | n + 1, s => (step s).eval (Tr.run step n)
def Tr.go {σ R : Type} (lt : LO -> LT) (K : AX -> Fr -> Mm -> Option R) (nx : σ -> Option R) : Tr σ -> Option R
 | .out lo => (lt lo).go K
 | .next s => nx s
 | .br b x y => cond b (x.go lt K nx) (y.go lt K nx)
 | .bad => none
theorem Tr.DZ {σ R : Type} {lt : LO -> LT} {K : AX -> Fr -> Mm -> Option R} {nx : σ -> Option R} {k : σ -> LO} (hbad : (lt LO.bad).go K = none) (hnx : ∀ s, nx s = (lt (k s)).go K) :
    ∀ t : Tr σ, t.go lt K nx = (lt (t.eval k)).go K
 | .out lo => rfl
 | .next s => hnx s
 | .br b x y => by
  rw [Tr.go, Tr.eval, Tr.DZ hbad hnx x, Tr.DZ hbad hnx y]
  cases b <;> rfl
 | .bad => hbad.symm
theorem PV {σ R : Type} {step : σ -> Tr σ} {lt : LO -> LT} {sF : σ -> Fr} {sM : σ -> Mm} {B : Fr -> Mm -> (Fr -> Mm -> Option R) -> Option R} {K : AX -> Fr -> Mm -> Option R} (hbad : (lt LO.bad).go K = none)
    (h : ∀ s kk, B (sF s) (sM s) kk = (step s).go lt K (fun s => kk (sF s) (sM s))) : ∀ n s, iter n B (sF s) (sM s) = (lt (Tr.run step n s)).go K
 | 0, s => hbad.symm
 | n + 1, s => by
  show B (sF s) (sM s) (iter n B) = _
  rw [h s (iter n B)]
  exact Tr.DZ hbad (fun s => PV hbad h n s) (step s)
theorem abj {R : Type} {t : Tr Unit} {lt : LO -> LT} {K : AX -> Fr -> Mm -> Option R} {X : Option R} (hbad : (lt LO.bad).go K = none) (h : X = t.go lt K (fun _ => none)) : X = (lt (t.eval fun _ => LO.bad)).go K :=
 h.trans (Tr.DZ hbad (fun _ => hbad.symm) t)
theorem TY {R : Type} {X : List AV -> Mm -> Option R} {as as' : List AV} {M M' : Mm} {r : R} (h1 : as = as') (h2 : M = M') (h : X as' M' = some r) : X as M = some r := by
 subst h1; subst h2; exact h
inductive Pt where
 | any
 | int (k : IntKind)
 | intC (k : IntKind) (n : Int)
 | bool
 | boolC (b : Bool)
 | str
 | strC (s : List UInt8)
 | slice (e : TypeId) (x : Bool)
 | sliceL (e : TypeId) (ps : List Pt) (x : Bool)
 | nilp
 | ptr (r : Nat) (p : List Nat) (t : TypeId) (o : Option Nat)
 | rptr (t : TypeId) (p : Pt)
 | msl (r : Nat) (p : List Nat) (e : TypeId) (o c n : Option Nat)
 | mapv (r : Option Nat)
 | func (fn : FuncId) (f c : List Pt)
 | nilf
 | iface (t : TypeId) (p : Pt)
 | nili
 | agg (t : TypeId) (ps : List Pt)
 | aggO (t : TypeId)
 | tuple (ps : List Pt)
 | dead
 | yld (r : Nat)
def nW : List Nat -> List Nat -> Bool
 | [], [] => true
 | i :: p, j :: q => Nat.beq i j && nW p q
 | _, _ => false
theorem yX : ∀ {p q : List Nat}, nW p q = true -> p = q
 | [], [], _ => rfl
 | i :: p, j :: q, h => by
  simp only [nW, Bool.and_eq_true] at h
  rw [Nat.eq_of_beq_eq_true h.1, yX h.2]
 | [], j :: q, h => by simp [nW] at h
 | i :: p, [], h => by simp [nW] at h
def wM : Option Nat -> Nat -> Bool
 | none, _ => true
 | some i, j => Nat.beq i j
def xX : Option Nat -> Nat -> Nat
 | none, j => j
 | some i, _ => i
theorem Aa {o : Option Nat} {j : Nat} (h : wM o j = true) : xX o j = j := by
 cases o with
 | none => rfl
 | some i => exact Nat.eq_of_beq_eq_true h
def Ar : Option Nat -> Option Nat -> Bool
 | none, none => true
 | some i, some j => Nat.beq i j
 | _, _ => false
theorem Sb : ∀ {a b : Option Nat}, Ar a b = true -> a = b
 | none, none, _ => rfl
 | some i, some j, h => by rw [Nat.eq_of_beq_eq_true h]
 | none, some j, h => by simp [Ar] at h
 | some i, none, h => by simp [Ar] at h
def Ou : AV -> AV
 | .rptr _ v => v
 | _ => .dead
def JY : AV -> AV
 | .iface _ v => v
 | _ => .dead
def Eu : AV -> List AV
 | .func _ f _ => f
 | _ => []
def capOf : AV -> List AV
 | .func _ _ c => c
 | _ => []
def C9 : AV -> Nat
 | .ptr _ _ _ o => o
 | .msl _ _ _ o _ _ => o
 | _ => 0
def Nc : AV -> Nat
 | .msl _ _ _ _ c _ => c
 | _ => 0
def nS : AV -> Nat
 | .msl _ _ _ _ _ n => n
 | _ => 0
mutual
def Pt.ok : Pt -> AV -> Bool
 | .any, _ => true
 | .int k, .int k' _ => k == k'
 | .intC k n, .int k' m => k == k' && n == m
 | .bool, .bool _ => true
 | .boolC b, .bool c => b == c
 | .str, .str _ => true
 | .strC s, .str s' => s == s'
 | .slice e x, .slice e' _ x' => Nat.beq e e' && x == x'
 | .sliceL e ps x, .slice e' l x' => Nat.beq e e' && x == x' && Pt.jO ps l
 | .nilp, .nilp => true
 | .ptr r p t o, .ptr r' p' t' o' => Nat.beq r r' && nW p p' && Nat.beq t t' && wM o o'
 | .rptr t p, .rptr t' v => Nat.beq t t' && p.ok v
 | .msl r p e o c n, .msl r' p' e' o' c' n' => Nat.beq r r' && nW p p' && Nat.beq e e' && wM o o' && wM c c' && wM n n'
 | .mapv r, .mapv r' => Ar r r'
 | .func fn f c, .func (.func fn') f' c' => Nat.beq fn fn' && Pt.jO f f' && Pt.jO c c'
 | .nilf, .nilf => true
 | .iface t p, .iface t' v => Nat.beq t t' && p.ok v
 | .nili, .nili => true
 | .agg t ps, .agg t' l => Nat.beq t t' && Pt.jO ps l
 | .aggO t, .agg t' _ => Nat.beq t t'
 | .tuple ps, .tuple l => Pt.jO ps l
 | .dead, .dead => true
 | .yld r, .yld r' => Nat.beq r r'
 | _, _ => false
def Pt.jO : List Pt -> List AV -> Bool
 | [], [] => true
 | p :: ps, v :: vs => p.ok v && Pt.jO ps vs
 | _, _ => false
end
mutual
def Pt.nm : Pt -> AV -> AV
 | .any, v => v
 | .int k, v => .int k (aj v)
 | .intC k n, _ => .int k n
 | .bool, v => .bool (av v)
 | .boolC b, _ => .bool b
 | .str, v => .str (wZ v)
 | .strC s, _ => .str s
 | .slice e x, v => .slice e (ay v) x
 | .sliceL e ps x, v => .slice e (Pt.kL ps (ay v) 0) x
 | .nilp, _ => .nilp
 | .ptr r p t o, v => .ptr r p t (xX o (C9 v))
 | .rptr t p, v => .rptr t (p.nm (Ou v))
 | .msl r p e o c n, v => .msl r p e (xX o (C9 v)) (xX c (Nc v)) (xX n (nS v))
 | .mapv r, _ => .mapv r
 | .func fn f c, v => .func (.func fn) (Pt.kL f (Eu v) 0) (Pt.kL c (capOf v) 0)
 | .nilf, _ => .nilf
 | .iface t p, v => .iface t (p.nm (JY v))
 | .nili, _ => .nili
 | .agg t ps, v => .agg t (Pt.kL ps (au v) 0)
 | .aggO t, v => .agg t (au v)
 | .tuple ps, v => .tuple (Pt.kL ps (fG v) 0)
 | .dead, _ => .dead
 | .yld r, _ => .yld r
def Pt.kL : List Pt -> List AV -> Nat -> List AV
 | [], _, _ => []
 | p :: ps, l, i => p.nm (l.getD i .dead) :: Pt.kL ps l (i + 1)
end
mutual
theorem Pt.ok_eq : ∀ (p : Pt) (v : AV), p.ok v = true -> p.nm v = v
 | .any, v, _ => by simp only [Pt.nm]
 | .int k, v, h => by cases v <;> simp_all [Pt.ok, Pt.nm, aj]
 | .intC k n, v, h => by cases v <;> simp_all [Pt.ok, Pt.nm, aj]
 | .bool, v, h => by cases v <;> simp_all [Pt.ok, Pt.nm, av]
 | .boolC b, v, h => by cases v <;> simp_all [Pt.ok, Pt.nm, av]
 | .str, v, h => by cases v <;> simp_all [Pt.ok, Pt.nm, wZ]
 | .strC s, v, h => by cases v <;> simp_all [Pt.ok, Pt.nm, wZ]
 | .slice e x, v, h => by cases v <;> simp_all [Pt.ok, Pt.nm, ay]
 | .nilp, v, h => by cases v <;> simp_all [Pt.ok, Pt.nm, aj]
 | .nilf, v, h => by cases v <;> simp_all [Pt.ok, Pt.nm, aj]
 | .nili, v, h => by cases v <;> simp_all [Pt.ok, Pt.nm, aj]
 | .dead, v, h => by cases v <;> simp_all [Pt.ok, Pt.nm, aj]
 | .yld r, v, h => by cases v <;> simp_all [Pt.ok, Pt.nm]
 | .aggO t, v, h => by cases v <;> simp_all [Pt.ok, Pt.nm, au]
 | .sliceL e ps x, v, h => by
  cases v
  case slice e' l x' =>
   simp only [Pt.ok, Bool.and_eq_true, beq_iff_eq, Nat.beq_eq] at h
   obtain ⟨⟨rfl, rfl⟩, h⟩ := h
   simp only [Pt.nm, ay]
   rw [Pt.qQ ps l h]
  all_goals exact absurd h (by simp [Pt.ok])
 | .ptr r p t o, v, h => by
  cases v
  case ptr r' p' t' o' =>
   simp only [Pt.ok, Bool.and_eq_true, beq_iff_eq, Nat.beq_eq] at h
   obtain ⟨⟨⟨rfl, h1⟩, rfl⟩, h2⟩ := h
   obtain rfl := yX h1
   simp only [Pt.nm, C9]
   rw [Aa h2]
  all_goals exact absurd h (by simp [Pt.ok])
 | .rptr t p, v, h => by
  cases v
  case rptr t' v' =>
   simp only [Pt.ok, Bool.and_eq_true, beq_iff_eq, Nat.beq_eq] at h
   obtain ⟨rfl, h⟩ := h
   simp only [Pt.nm, Ou]
   rw [Pt.ok_eq p _ h]
  all_goals exact absurd h (by simp [Pt.ok])
 | .msl r p e o c n, v, h => by
  cases v
  case msl r' p' e' o' c' n' =>
   simp only [Pt.ok, Bool.and_eq_true, beq_iff_eq, Nat.beq_eq] at h
   obtain ⟨⟨⟨⟨⟨rfl, h1⟩, rfl⟩, h2⟩, h3⟩, h4⟩ := h
   obtain rfl := yX h1
   simp only [Pt.nm, C9, Nc, nS]
   rw [Aa h2, Aa h3, Aa h4]
  all_goals exact absurd h (by simp [Pt.ok])
 | .mapv r, v, h => by
  cases v
  case mapv r' =>
   simp only [Pt.ok, Bool.and_eq_true, beq_iff_eq, Nat.beq_eq] at h
   obtain rfl := Sb h
   simp only [Pt.nm]
  all_goals exact absurd h (by simp [Pt.ok])
 | .func fn f c, v, h => by
  cases v
  case func fn' f' c' =>
   cases fn'
   case func g =>
    simp only [Pt.ok, Bool.and_eq_true, Nat.beq_eq] at h
    obtain ⟨⟨rfl, h1⟩, h2⟩ := h
    simp only [Pt.nm, Eu, capOf]
    rw [Pt.qQ f _ h1, Pt.qQ c _ h2]
   all_goals exact absurd h (by simp [Pt.ok])
  all_goals exact absurd h (by simp [Pt.ok])
 | .iface t p, v, h => by
  cases v
  case iface t' v' =>
   simp only [Pt.ok, Bool.and_eq_true, beq_iff_eq, Nat.beq_eq] at h
   obtain ⟨rfl, h⟩ := h
   simp only [Pt.nm, JY]
   rw [Pt.ok_eq p _ h]
  all_goals exact absurd h (by simp [Pt.ok])
 | .agg t ps, v, h => by
  cases v
  case agg t' l =>
   simp only [Pt.ok, Bool.and_eq_true, beq_iff_eq, Nat.beq_eq] at h
   obtain ⟨rfl, h⟩ := h
   simp only [Pt.nm, au]
   rw [Pt.qQ ps l h]
  all_goals exact absurd h (by simp [Pt.ok])
 | .tuple ps, v, h => by
  cases v
  case tuple l =>
   simp only [Pt.ok, Bool.and_eq_true, beq_iff_eq, Nat.beq_eq] at h
   simp only [Pt.nm, fG]
   rw [Pt.qQ ps l h]
  all_goals exact absurd h (by simp [Pt.ok])
theorem Pt.Iu : ∀ (ps : List Pt) (all : List AV) (i : Nat) (l : List AV), all.drop i = l -> Pt.jO ps l = true -> Pt.kL ps all i = l
 | [], all, i, l, hd, h => by
  cases l
  . simp only [Pt.kL]
  . exact absurd h (by simp [Pt.jO])
 | p :: ps, all, i, l, hd, h => by
  cases l
  . exact absurd h (by simp [Pt.jO])
  . rename_i v vs
    simp only [Pt.jO, Bool.and_eq_true] at h
    have h0 : all.getD i .dead = v := by
     have := congrArg (·[0]?) hd
     simp only [List.getElem?_drop, Nat.add_zero, List.getElem?_cons_zero] at this
     simp [List.getD, this]
    have h1 : all.drop (i + 1) = vs := by
     have := congrArg List.tail hd
     simpa [List.tail_drop] using this
    simp only [Pt.kL]
    rw [h0, Pt.ok_eq p v h.1, Pt.Iu ps all (i + 1) vs h1 h.2]
theorem Pt.qQ (ps : List Pt) (l : List AV) (h : Pt.jO ps l = true) : Pt.kL ps l 0 = l := Pt.Iu ps l 0 l rfl h
end
def wU : List (Nat × Pt) -> List AV -> Bool
 | [], _ => true
 | (k, p) :: r, tm => p.ok (tm.getD k .dead) && wU r tm
def xu : List (Nat × Pt) -> List AV -> List (Nat × AV)
 | [], _ => []
 | (k, p) :: r, tm => (k, p.nm (tm.getD k .dead)) :: xu r tm
def keysOf : List (Nat × Pt) -> List Nat
 | [] => []
 | (k, _) :: r => k :: keysOf r
theorem Ej : ∀ {ps : List (Nat × Pt)} {tm : List AV}, wU ps tm = true -> xu ps tm = (keysOf ps).map fun k => (k, tm.getD k .dead)
 | [], _, _ => rfl
 | (k, p) :: r, tm, h => by
  simp only [wU, Bool.and_eq_true] at h
  simp only [xu, keysOf, List.map_cons]
  rw [Pt.ok_eq p _ h.1, Ej h.2]
def Cv : TF -> TF -> Bool
 | .own, .own => true
 | .viaT a, .viaT b => Nat.beq a b
 | .viaR r p, .viaR r' p' => Nat.beq r r' && nW p p'
 | _, _ => false
theorem aaU : ∀ {a b : TF}, Cv a b = true -> a = b
 | .own, .own, _ => rfl
 | .viaT a, .viaT b, h => by rw [Nat.eq_of_beq_eq_true h]
 | .viaR r p, .viaR r' p', h => by
  simp only [Cv, Bool.and_eq_true] at h
  rw [Nat.eq_of_beq_eq_true h.1, yX h.2]
 | .own, .viaT _, h | .own, .viaR _ _, h | .viaT _, .own, h | .viaT _, .viaR _ _, h | .viaR _ _, .own, h | .viaR _ _, .viaT _, h => by simp [Cv] at h
def yj : List (Nat × TF) -> List (Nat × TF) -> Bool
 | [], [] => true
 | (i, a) :: l, (j, b) :: m => Nat.beq i j && Cv a b && yj l m
 | _, _ => false
theorem Je : ∀ {l m : List (Nat × TF)}, yj l m = true -> l = m
 | [], [], _ => rfl
 | (i, a) :: l, (j, b) :: m, h => by
  simp only [yj, Bool.and_eq_true] at h
  rw [Nat.eq_of_beq_eq_true h.1.1, aaU h.1.2, Je h.2]
 | [], _ :: _, h | _ :: _, [], h => by simp [yj] at h
def vK : List (Nat × List Nat) -> List (Nat × List Nat) -> Bool
 | [], [] => true
 | (i, a) :: l, (j, b) :: m => Nat.beq i j && nW a b && vK l m
 | _, _ => false
theorem FK : ∀ {l m : List (Nat × List Nat)}, vK l m = true -> l = m
 | [], [], _ => rfl
 | (i, a) :: l, (j, b) :: m, h => by
  simp only [vK, Bool.and_eq_true] at h
  rw [Nat.eq_of_beq_eq_true h.1.1, yX h.1.2, FK h.2]
 | [], _ :: _, h | _ :: _, [], h => by simp [vK] at h
inductive RPt where
 | var (t : TypeId) (p : Pt)
 | arr (e : TypeId)
 | arrL (e : TypeId) (ps : List Pt)
 | map (k e : TypeId) (es : List (Pt × Pt))
 | bg (e : TypeId)
 | loop (fn : FuncId) (id n : Nat) (ps : List (Nat × Pt)) (st pd : Nat)
def tH : List (Pt × Pt) -> List (AV × AV) -> Bool
 | [], [] => true
 | (p, q) :: r, (k, v) :: l => p.ok k && q.ok v && tH r l
 | _, _ => false
def wJ : List (Pt × Pt) -> List (AV × AV) -> Nat -> List (AV × AV)
 | [], _, _ => []
 | (p, q) :: r, l, i => (p.nm (l.getD i (.dead, .dead)).1, q.nm (l.getD i (.dead, .dead)).2) :: wJ r l (i + 1)
theorem IW : ∀ (ps : List (Pt × Pt)) (all : List (AV × AV)) (i : Nat) (l : List (AV × AV)), all.drop i = l -> tH ps l = true -> wJ ps all i = l
 | [], all, i, l, hd, h => by
  cases l
  . simp only [wJ]
  . exact absurd h (by simp [tH])
 | (p, q) :: ps, all, i, l, hd, h => by
  cases l
  . exact absurd h (by simp [tH])
  . rename_i v vs
    obtain ⟨k, v⟩ := v
    simp only [tH, Bool.and_eq_true] at h
    have h0 : all.getD i (.dead, .dead) = (k, v) := by
     have := congrArg (·[0]?) hd
     simp only [List.getElem?_drop, Nat.add_zero, List.getElem?_cons_zero] at this
     simp [List.getD, this]
    have h1 : all.drop (i + 1) = vs := by
     have := congrArg List.tail hd
     simpa [List.tail_drop] using this
    simp only [wJ]
    rw [h0, Pt.ok_eq p k h.1.1, Pt.ok_eq q v h.1.2, IW ps all (i + 1) vs h1 h.2]
def EB : Row -> AV
 | .var _ v => v
 | _ => .dead
def tmR : Row -> List AV
 | .loop _ _ tm _ _ => tm
 | _ => []
def ow : Row -> List AV
 | .arr _ l => l
 | .bg _ l => l
 | _ => []
def NJ : Row -> List (AV × AV)
 | .map _ _ es => es
 | _ => []
def oR (M : Mm) (i : Nat) : Row := M.rows.getD i (.arr 0 [])
def vR (M : Mm) (i : Nat) : AV := EB (oR M i)
def pA (x : AV) (i : Nat) : AV := (au x).getD i .dead
def tA (fr : Fr) (i : Nat) : AV := fr.tmps.getD i .dead
def RPt.ok : RPt -> Row -> Bool
 | .var t p, .var t' v => Nat.beq t t' && p.ok v
 | .arr e, .arr e' _ => Nat.beq e e'
 | .arrL e ps, .arr e' l => Nat.beq e e' && Pt.jO ps l
 | .map k e es, .map k' e' l => Nat.beq k k' && Nat.beq e e' && tH es l
 | .bg e, .bg e' _ => Nat.beq e e'
 | .loop fn id n ps st pd, .loop fn' id' tm st' pd' => Nat.beq fn fn' && Nat.beq id id' && Nat.beq st st' && Nat.beq pd pd' && Eb n (keysOf ps) ⟨tm, []⟩ && wU ps tm
 | _, _ => false
def RPt.nm : RPt -> Row -> Row
 | .var t p, r => .var t (p.nm (EB r))
 | .arr e, r => .arr e (ow r)
 | .arrL e ps, r => .arr e (Pt.kL ps (ow r) 0)
 | .map k e es, r => .map k e (wJ es (NJ r) 0)
 | .bg e, r => .bg e (ow r)
 | .loop fn id n ps st pd, r => .loop fn id (aU n (xu ps (tmR r)) []).tmps st pd
theorem RPt.ok_eq : ∀ (p : RPt) (r : Row), p.ok r = true -> p.nm r = r
 | .var t p, r, h => by
  cases r
  case var t' v =>
   simp only [RPt.ok, Bool.and_eq_true, Nat.beq_eq] at h
   obtain ⟨rfl, h⟩ := h
   simp only [RPt.nm, EB]
   rw [Pt.ok_eq _ _ h]
  all_goals exact absurd h (by simp [RPt.ok])
 | .arr e, r, h => by
  cases r
  case arr e' l =>
   simp only [RPt.ok, Nat.beq_eq] at h
   subst h
   simp only [RPt.nm, ow]
  all_goals exact absurd h (by simp [RPt.ok])
 | .arrL e ps, r, h => by
  cases r
  case arr e' l =>
   simp only [RPt.ok, Bool.and_eq_true, Nat.beq_eq] at h
   obtain ⟨rfl, h⟩ := h
   simp only [RPt.nm, ow]
   rw [Pt.qQ _ _ h]
  all_goals exact absurd h (by simp [RPt.ok])
 | .map k e es, r, h => by
  cases r
  case map k' e' l =>
   simp only [RPt.ok, Bool.and_eq_true, Nat.beq_eq] at h
   obtain ⟨⟨rfl, rfl⟩, h⟩ := h
   simp only [RPt.nm, NJ]
   rw [IW es l 0 l rfl h]
  all_goals exact absurd h (by simp [RPt.ok])
 | .bg e, r, h => by
  cases r
  case bg e' l =>
   simp only [RPt.ok, Nat.beq_eq] at h
   subst h
   simp only [RPt.nm, ow]
  all_goals exact absurd h (by simp [RPt.ok])
 | .loop fn id n ps st pd, r, h => by
  cases r
  case loop fn' id' tm st' pd' =>
   simp only [RPt.ok, Bool.and_eq_true, Nat.beq_eq] at h
   obtain ⟨⟨⟨⟨⟨rfl, rfl⟩, rfl⟩, rfl⟩, h1⟩, h2⟩ := h
   have := N8 h1
   simp only [RPt.nm, tmR]
   rw [Ej h2, <- this]
  all_goals exact absurd h (by simp [RPt.ok])
def rZ : List RPt -> List Row -> Bool
 | [], [] => true
 | p :: ps, r :: rs => p.ok r && rZ ps rs
 | _, _ => false
def uz : List RPt -> List Row -> Nat -> List Row
 | [], _, _ => []
 | p :: ps, l, i => p.nm (l.getD i (.arr 0 [])) :: uz ps l (i + 1)
theorem Gb : ∀ (ps : List RPt) (all : List Row) (i : Nat) (l : List Row), all.drop i = l -> rZ ps l = true -> uz ps all i = l
 | [], all, i, l, hd, h => by
  cases l
  . simp only [uz]
  . exact absurd h (by simp [rZ])
 | p :: ps, all, i, l, hd, h => by
  cases l
  . exact absurd h (by simp [rZ])
  . rename_i v vs
    simp only [rZ, Bool.and_eq_true] at h
    have h0 : all.getD i (.arr 0 []) = v := by
     have := congrArg (·[0]?) hd
     simp only [List.getElem?_drop, Nat.add_zero, List.getElem?_cons_zero] at this
     simp [List.getD, this]
    have h1 : all.drop (i + 1) = vs := by
     have := congrArg List.tail hd
     simpa [List.tail_drop] using this
    simp only [uz]
    rw [h0, RPt.ok_eq p v h.1, Gb ps all (i + 1) vs h1 h.2]
structure StP where
 n : Nat
 ps : List (Nat × Pt)
 tf : List (Nat × TF)
 rs : List RPt
 ro : List (Nat × List Nat)
def StP.ok (p : StP) (fr : Fr) (M : Mm) : Bool := yj p.tf fr.tf && (vK p.ro M.ro && (Eb p.n (keysOf p.ps) fr && (wU p.ps fr.tmps && rZ p.rs M.rows)))
def StP.fr (p : StP) (fr : Fr) : Fr := aU p.n (xu p.ps fr.tmps) p.tf
def StP.mm (p : StP) (M : Mm) : Mm := ⟨uz p.rs M.rows 0, p.ro⟩
theorem StP.ok_eq {p : StP} {fr : Fr} {M : Mm} (h : p.ok fr M = true) : fr = p.fr fr /\ M = p.mm M := by
 simp only [StP.ok, Bool.and_eq_true] at h
 obtain ⟨h3, h5, h1, h2, h4⟩ := h
 constructor
 . have := N8 h1
   rw [<- Ej h2, <- Je h3] at this
   exact this
 . unfold StP.mm
   rw [Gb p.rs M.rows 0 M.rows rfl h4, FK h5]
structure ArP where
 as : List Pt
 rs : List RPt
 ro : List (Nat × List Nat)
def ArP.ok (p : ArP) (as : List AV) (M : Mm) : Bool := vK p.ro M.ro && (Pt.jO p.as as && rZ p.rs M.rows)
def ArP.args (p : ArP) (as : List AV) : List AV := Pt.kL p.as as 0
def ArP.mm (p : ArP) (M : Mm) : Mm := ⟨uz p.rs M.rows 0, p.ro⟩
theorem ArP.ok_eq {p : ArP} {as : List AV} {M : Mm} (h : p.ok as M = true) : as = p.args as /\ M = p.mm M := by
 simp only [ArP.ok, Bool.and_eq_true] at h
 obtain ⟨h5, h1, h4⟩ := h
 refine ⟨(Pt.qQ _ _ h1).symm, ?_⟩
 unfold ArP.mm
 rw [Gb p.rs M.rows 0 M.rows rfl h4, FK h5]
end Go.AE
namespace Go.AE
abbrev LO.I (x : LO) (n : Nat) : Int := x.i.getD n 0
abbrev LO.B (x : LO) (n : Nat) : Bool := x.b.getD n false
abbrev LO.L (x : LO) (n : Nat) : List AV := x.l.getD n []
def dG (cx : Ctx) (f : FuncId) (id : Nat) (l : Code) (dep : Nat) (fr : Fr) (M : Mm) (t : LT) : Prop :=
 ∀ (R : Type) (K : AX -> Fr -> Mm -> Option R) (r : R), t.go K = some r -> iter cx.n (fun fr' M' k => dB cx f (dH cx dep) dep l fr' M' (ou cx.P (cx.lose f id) M.rows.length (cx.kept f id) K k)) fr M = some r
def dF (cx : Ctx) (f : FuncId) (d : Nat) (args : List AV) (M : Mm) (t : LT) : Prop :=
 ∀ (R : Type) (K : Res -> Mm -> Option R) (r : R), t.go (oD K) = some r -> uJ cx (dH cx d) d f args M K = some r
section
variable {cx : Ctx} {f : FuncId} {id : Nat} {l : Code} {dep : Nat} {fr : Fr} {M : Mm} {t : LT} {pt : StP} {σ : Type} {sF : σ -> Fr} {sM : σ -> Mm} {step : σ -> Tr σ} {lt : LO -> LT} {s : σ}
theorem jM (ht : (if pt.ok fr M then some (lt (Tr.run step cx.n s)) else none) = some t) (e1 : pt.fr fr = sF s) (e2 : pt.mm M = sM s) (N : Nat) (hN : (sM s).rows.length = N)
    (bad : ∀ (R : Type) (K : AX -> Fr -> Mm -> Option R), (lt LO.bad).go K = none)
    (rd : ∀ (R : Type) (K : AX -> Fr -> Mm -> Option R) (s : σ) (kk : Fr -> Mm -> Option R), dB cx f (dH cx dep) dep l (sF s) (sM s) (ou cx.P (cx.lose f id) N (cx.kept f id) K kk) = (step s).go lt K (fun s => kk (sF s) (sM s))) :
    dG cx f id l dep fr M t := fun R K r hgo => by
 split at ht
 . rename_i hok
   obtain ⟨h1, h2⟩ := StP.ok_eq hok
   have h1 := h1.trans e1
   have h2 := h2.trans e2
   obtain rfl := Option.some.inj ht
   have := PV (B := fun fr' M' k => dB cx f (dH cx dep) dep l fr' M' (ou cx.P (cx.lose f id) N (cx.kept f id) K k)) (bad R K) (fun s kk => rd R K s kk) cx.n s
   have hl : M.rows.length = N := by rw [h2]; exact hN
   rw [hl, h1, h2]
   exact this.trans hgo
 . exact absurd ht (by simp)
theorem FC {d : Nat} (ht : (if Nat.beq dep d && pt.ok fr M then some (lt (Tr.run step cx.n s)) else none) = some t) (e1 : pt.fr fr = sF s) (e2 : pt.mm M = sM s) (N : Nat) (hN : (sM s).rows.length = N)
    (bad : ∀ (R : Type) (K : AX -> Fr -> Mm -> Option R), (lt LO.bad).go K = none)
    (rd : ∀ (R : Type) (K : AX -> Fr -> Mm -> Option R) (s : σ) (kk : Fr -> Mm -> Option R), dB cx f (dH cx d) d l (sF s) (sM s) (ou cx.P (cx.lose f id) N (cx.kept f id) K kk) = (step s).go lt K (fun s => kk (sF s) (sM s))) :
    dG cx f id l dep fr M t := by
 have hd : dep = d := by
  cases h : Nat.beq dep d with
  | true => exact Nat.eq_of_beq_eq_true h
  | false => rw [h] at ht; exact absurd ht (by simp)
 subst hd
 rw [Nat.beq_refl, Bool.true_and] at ht
 exact jM ht e1 e2 N hN bad rd
theorem iL {d : Nat} {pa : ArP} {args as' : List AV} {M' : Mm} {tr : Tr Unit} (ht : (if Nat.beq dep d && pa.ok args M then some (lt (tr.eval fun _ => LO.bad)) else none) = some t) (e1 : pa.args args = as') (e2 : pa.mm M = M')
    (bad : ∀ (R : Type) (K : AX -> Fr -> Mm -> Option R), (lt LO.bad).go K = none)
    (rd : ∀ (R : Type) (K : Res -> Mm -> Option R), uJ cx (dH cx d) d f as' M' K = tr.go lt (oD K) (fun _ => none)) :
    dF cx f dep args M t := fun R K r hgo => by
 have hd : dep = d := by
  cases h : Nat.beq dep d with
  | true => exact Nat.eq_of_beq_eq_true h
  | false => rw [h] at ht; exact absurd ht (by simp)
 subst hd
 rw [Nat.beq_refl, Bool.true_and] at ht
 split at ht
 . rename_i hok
   obtain ⟨h1, h2⟩ := ArP.ok_eq hok
   have h1 := h1.trans e1
   have h2 := h2.trans e2
   obtain rfl := Option.some.inj ht
   subst h1; subst h2
   exact (abj (bad _ _) (rd R K)).trans hgo
 . exact absurd ht (by simp)
end
end Go.AE
namespace Go.AE
theorem qY (m : Nat) (x : Int) (hm : m < 32) : aL .and .u32 x (2 ^ m - 1) = x % 2 ^ m :=
 NQ (w := 32) .u32 m x rfl hm (by
  have h1 : (0 : Int) < 2 ^ m := by exact_mod_cast Nat.two_pow_pos m
  have h2 : (2 : Int) ^ m < 2 ^ 32 := by exact_mod_cast Nat.pow_lt_pow_right (by omega) hm
  have h3 := Int.emod_nonneg x (b := 2 ^ m) (by omega)
  have h4 := Int.emod_lt_of_pos x h1
  rw [Int.toNat_of_nonneg h3]
  exact gQ h3 (by omega))
theorem Zy (m : Nat) (x : Int) (hm : m < 63) : aL .and .i64 x (2 ^ m - 1) = x % 2 ^ m :=
 NQ (w := 64) .i64 m x rfl (by omega) (by
  have h1 : (0 : Int) < 2 ^ m := by exact_mod_cast Nat.two_pow_pos m
  have h2 : (2 : Int) ^ m < 2 ^ 63 := by exact_mod_cast Nat.pow_lt_pow_right (by omega) hm
  have h3 := Int.emod_nonneg x (b := 2 ^ m) (by omega)
  have h4 := Int.emod_lt_of_pos x h1
  rw [Int.toNat_of_nonneg h3]
  exact bS (by omega) (by omega))
theorem CZ (k : Nat) {h l : Nat} (hl : l < 2 ^ k) (hd : h % 2 ^ k = 0) (hs : h + l < 4294967296) : aL .or .u32 (h : Int) (l : Int) = ((h + l : Nat) : Int) := by
 have a1 : (0 : Int) <= (h : Int) := Int.natCast_nonneg _
 have a2 : (0 : Int) <= (l : Int) := Int.natCast_nonneg _
 have a3 : (h : Int) < 4294967296 := by clear hl hd; omega
 have a4 : (l : Int) < 4294967296 := by clear hl hd; omega
 obtain ⟨b, hb⟩ : ∃ b, h = 2 ^ k * b := ⟨h / 2 ^ k, by
  have := Nat.div_add_mod h (2 ^ k)
  rw [hd] at this
  exact this.symm⟩
 rw [tu a1 a3 a2 a4, Int.toNat_natCast, Int.toNat_natCast, hb, <- Nat.two_pow_add_eq_or_of_lt hl]
theorem kC {x : Int} {m : Int} (h : 0 < m) : x.fdiv m = x / m := Int.fdiv_eq_ediv_of_nonneg x (by omega)
end Go.AE
namespace Go.AE
def zf (P : Program) (c : OpenClaim) : Bool := P.stopsHeard && P.mayEnter && (c.lifted == P.liftsFinal) && (P.make == some c.make)
theorem ab5 {P : Program} {f : FuncId} {fn : Func} {s : ChangeSpec} {c : OpenClaim}
    (h1 : (c.wf (OpenSpec.ofChange s)) = true) (h2 : laidOutB P = true) (h3 : mapsRowed P = true)
    (h4 : (fn.params.all (P.readableRec ·)) = true) (h5 : namedTie P c.named s.vars = true)
    (h6 : ((c.stops == []) && (P.stops == []) && (c.knobs == []) && (P.stopKnobs == [])) = true)
    (h7 : (c.inPlace == P.inPlace f) = true) (h8 : (c.unfollowed == P.unfollowed f) = true) (h9 : (c.recurses == P.recurses f) = true) (h10 : (c.named == P.varsNamed f) = true)
    (h11 : ((c.maps == (fn.params.toList ++ s.plain.varTypes P).any (P.mapsRec ·)) && (c.ifaces == (fn.params.toList ++ s.plain.varTypes P).any (P.ifacesRec ·)) && (c.mapsOut == P.mapsAmong fn.resultTypes.toList)) = true)
    (h12 : (c.loops == (fn.params.toList ++ s.plain.varTypes P).any (P.loopsFrom ·)) = true)
    (h13 : (c.wideKeys == (fn.params.toList ++ s.plain.varTypes P ++ fn.resultTypes.toList).any (P.wideKeysFrom ·)) = true)
    (h14 : (s.vars.all (P.varReadable ·) && fn.resultTypes.all (fun t => P.readableRec t && decide (t < P.types.size)) && (c.ifacesOut == fn.resultTypes.toList.any (P.ifacesRec ·)) && (c.loopsOut == fn.resultTypes.toList.any (P.loopsFrom ·))) = true)
    (h15 : (c.plainKeys == P.plainKeys) = true) (h16 : c.shortTexts.isNone = true) (h17 : zf P c = true)
    (h18 : ((c.kinds == (if c.domain.isEmpty then [] else fn.params.toList.map fun t => match P.underlying t with | some (.int k) => some k | _ => none)) && (c.pinned == c.pinnedBy)) = true)
    (h19 : (c.veiled == (fn.params.toList ++ s.plain.varTypes P ++ fn.resultTypes.toList).any (P.veiledRec ·)) = true)
    (h20 : c.veiledFits P fn.params.toList (fn.params.toList ++ s.plain.varTypes P ++ fn.resultTypes.toList) = true) : joinedFacts P f fn s c = true := by
 simp only [zf, Bool.and_eq_true] at h6 h11 h14 h17 h18
 obtain ⟨⟨⟨u1, u2⟩, u3⟩, u4⟩ := h6
 obtain ⟨⟨u5, u6⟩, u7⟩ := h11
 obtain ⟨⟨⟨u8, u9⟩, u10⟩, u11⟩ := h14
 obtain ⟨⟨⟨u12, u13⟩, u14⟩, u15⟩ := h17
 obtain ⟨u16, u17⟩ := h18
 simp only [joinedFacts, Bool.and_eq_true]
 and_intros <;> assumption
end Go.AE

/- CoreKeepsValid: whatever its arguments (any processor, any memory, any numbers), the law returns true, changes nothing and does not panic. Conditions: none. -/
import Derived.Test.YtcknhfnbdgleiaaCorA
import Derived.Test.YtcknhfnbdgleiaaKv1
namespace Go.Proofs.Ytcknhfnbdgleiaa
open Go.AE
set_option maxRecDepth 100000

theorem PY (l : List AV) (h : HasL (fun v t => Has Try.checked.prog 8 t v) Try.f15.params.toList l) : Ia Try.checked.prog 15 l (.bool true) := by
 have h0 : HasL (fun v t => Has Try.checked.prog 8 t v) [105, 24, 25, 25, 4] l := h
 obtain ⟨p0, r0, rfl, g0, h1⟩ := gq h0
 obtain ⟨p1, r1, rfl, g1, h2⟩ := gq h1
 obtain ⟨p2, r2, rfl, g2, h3⟩ := gq h2
 obtain ⟨p3, r3, rfl, g3, h4⟩ := gq h3
 obtain ⟨p4, r4, rfl, g4, h5⟩ := gq h4
 obtain rfl := Fb h5
 obtain ⟨pc, r, c, u, wt, ht, n, rfl, hpc, hr, hr2, hc, hc2⟩ := Qj g0
 obtain ⟨m, rfl, hm⟩ := Ql g1
 obtain ⟨p, rfl, hp⟩ := BO g2
 obtain ⟨v, rfl, hv⟩ := BO g3
 obtain ⟨ok, rfl⟩ := Bl Ct g4
 exact Keeps.E_ok 12 _ _ _ (Lg 0 pc hpc r c hr hr2 hc hc2 u wt ht n m hm p v hp hv ok)
set_option maxRecDepth 100000 in
theorem OD (os : Os) (started : os.Started) (H : Type) (enc : TypeId × Value → H) :
    ReturnsInHanded {} Try.checked os 15 .any (Rows.coreKeepsValidSpec.pre6 enc Try.checked.prog Try.f15 Rows.coreKeepsValidRow.domain false) (Rows.coreKeepsValidSpec.post enc Try.checked.prog Try.f15 false true false false) :=
 KL (tb := 4) Try.own started (by kernel_rfl) Try.func15
  (ChangeSpec.witness6 (enc := enc) (C := Try.checked) false ⟨#[], #[.agg #[.int .u32 0, .int .u32 0, .int .u32 0, .int .u32 0, .int .u32 0, .int .u32 0, .int .u32 0, .int .u32 0, .int .u32 0, .int .u32 0, .int .u32 0, .int .u32 0, .int .u32 0, .int .u32 0, .int .u32 0, .int .u32 0, .int .u32 0, .int .u32 0, .int .u32 0, .int .u32 0, .int .u32 0, .int .u32 0, .int .u32 0, .int .u32 0, .int .u32 0, .int .u32 0, .bool false, .bool false, .bool false, .int .i64 0], .agg #[.slice none 0 0], .int .u32 0, .int .u32 0, .bool false], []⟩ 8 (by kernel_rfl) (by kernel_rfl) (by kernel_rfl) (by kernel_rfl))
  Try.laidOut rfl (by kernel_rfl) rfl Ct (fun ds hds => by
   match ds, hds with
   | [d0, d1, d2, d3, d4], _ => rfl) PY
theorem Lb : (Rows.coreKeepsValidRow.wf (OpenSpec.ofChange Rows.coreKeepsValidSpec)) = true := by kernel_rfl
theorem KW : (Try.f15.params.all (Try.pinned.checked.prog.readableRec ·)) = true := by kernel_rfl
theorem K3 : namedTie Try.pinned.checked.prog Rows.coreKeepsValidRow.named Rows.coreKeepsValidSpec.vars = true := by kernel_rfl
theorem KE : (Rows.coreKeepsValidRow.inPlace == Try.pinned.checked.prog.inPlace 15) = true := by kernel_rfl
theorem K4 : (Rows.coreKeepsValidRow.unfollowed == Try.pinned.checked.prog.unfollowed 15) = true := by kernel_rfl
theorem KT : (Rows.coreKeepsValidRow.recurses == Try.pinned.checked.prog.recurses 15) = true := by kernel_rfl
theorem IY : (Rows.coreKeepsValidRow.named == Try.pinned.checked.prog.varsNamed 15) = true := by kernel_rfl
theorem OL : joinedFacts Try.pinned.checked.prog 15 Try.f15 Rows.coreKeepsValidSpec Rows.coreKeepsValidRow = true :=
 Nt Lb Try.laidOut Try.mapsRowed KW K3 Try.Rk KE K4 KT IY (by kernel_rfl) (by kernel_rfl) (by kernel_rfl) (by kernel_rfl) (by kernel_rfl) (by kernel_rfl) Try.Ce (by kernel_rfl) (by kernel_rfl) (by kernel_rfl)
theorem coreKeepsValid_holds : Rows.CoreKeepsValidSaid :=
 OpenClaim.holds_of_wide 15 Try.f15 rfl rfl rfl rfl rfl rfl rfl ⟨rfl, rfl, rfl, rfl, rfl⟩ rfl rfl rfl rfl rfl (by kernel_rfl) Try.func15 OL
  (of_decide_eq_true (by kernel_rfl)) (by unfold Func.isWrapper; first | (rw [if_pos (by decide +kernel)]; kernel_rfl) | (rw [if_neg (by decide +kernel)]; exact ⟨rfl, rfl⟩))
  (fun os started H enc _ => OD os started H enc)
end Go.Proofs.Ytcknhfnbdgleiaa

/- CoreComputes: whatever its arguments (any processor, any memory, any instruction), the law returns true, changes nothing and does not panic. Conditions: none. -/
import Derived.Test.YtcknhfnbdgleiaaCorA
import Derived.Test.YtcknhfnbdgleiaaCp1
namespace Go.Proofs.Ytcknhfnbdgleiaa
open Go.AE
set_option maxRecDepth 100000

theorem QW (l : List AV) (h : HasL (fun v t => Has Try.checked.prog 8 t v) Try.f14.params.toList l) : G8 Try.checked.prog 14 l (.bool true) := by
 have h0 : HasL (fun v t => Has Try.checked.prog 8 t v) [105, 24, 123] l := h
 obtain ⟨p0, r0, rfl, g0, h1⟩ := dG h0
 obtain ⟨p1, r1, rfl, g1, h2⟩ := dG h1
 obtain ⟨p2, r2, rfl, g2, h3⟩ := dG h2
 obtain rfl := Bu h3
 obtain ⟨pc, r, c, u, wt, ht, n, rfl, hpc, hr, hr2, hc, hc2⟩ := Rl g0
 obtain ⟨m, rfl, hm⟩ := QB g1
 obtain ⟨op, a, b, cc, imm, rfl⟩ := Qs g2
 exact Computes.E_ok 12 _ _ _ (FC 0 pc hpc r c hr hr2 hc hc2 u wt ht n m hm op a b cc imm)
set_option maxRecDepth 100000 in
theorem OH (os : Os) (started : os.Started) (H : Type) (enc : TypeId × Value → H) :
    ReturnsInHanded {} Try.checked os 14 .any (Rows.coreComputesSpec.pre6 enc Try.checked.prog Try.f14 Rows.coreComputesRow.domain false) (Rows.coreComputesSpec.post enc Try.checked.prog Try.f14 false true false false) :=
 K3 (tb := 4) Try.own started (by kernel_rfl) Try.func14
  (ChangeSpec.witness6 (enc := enc) (C := Try.checked) false ⟨#[], #[.agg #[.int .u32 0, .int .u32 0, .int .u32 0, .int .u32 0, .int .u32 0, .int .u32 0, .int .u32 0, .int .u32 0, .int .u32 0, .int .u32 0, .int .u32 0, .int .u32 0, .int .u32 0, .int .u32 0, .int .u32 0, .int .u32 0, .int .u32 0, .int .u32 0, .int .u32 0, .int .u32 0, .int .u32 0, .int .u32 0, .int .u32 0, .int .u32 0, .int .u32 0, .int .u32 0, .bool false, .bool false, .bool false, .int .i64 0], .agg #[.slice none 0 0], .agg #[.int .i64 0, .int .i64 0, .int .i64 0, .int .i64 0, .int .i64 0]], []⟩ 8 (by kernel_rfl) (by kernel_rfl) (by kernel_rfl) (by kernel_rfl))
  Try.laidOut rfl (by kernel_rfl) rfl Gj (fun ds hds => by
   match ds, hds with
   | [d0, d1, d2], _ => rfl) QW
theorem LB : (Rows.coreComputesRow.wf (OpenSpec.ofChange Rows.coreComputesSpec)) = true := by kernel_rfl
theorem Ld : (Try.f14.params.all (Try.pinned.checked.prog.readableRec ·)) = true := by kernel_rfl
theorem K9 : namedTie Try.pinned.checked.prog Rows.coreComputesRow.named Rows.coreComputesSpec.vars = true := by kernel_rfl
theorem KL : (Rows.coreComputesRow.inPlace == Try.pinned.checked.prog.inPlace 14) = true := by kernel_rfl
theorem K4 : (Rows.coreComputesRow.unfollowed == Try.pinned.checked.prog.unfollowed 14) = true := by kernel_rfl
theorem Ls : (Rows.coreComputesRow.recurses == Try.pinned.checked.prog.recurses 14) = true := by kernel_rfl
theorem Jv : (Rows.coreComputesRow.named == Try.pinned.checked.prog.varsNamed 14) = true := by kernel_rfl
theorem OX : joinedFacts Try.pinned.checked.prog 14 Try.f14 Rows.coreComputesSpec Rows.coreComputesRow = true :=
 ND LB Try.laidOut Try.mapsRowed Ld K9 Try.QV KL K4 Ls Jv (by kernel_rfl) (by kernel_rfl) (by kernel_rfl) (by kernel_rfl) (by kernel_rfl) (by kernel_rfl) Try.BR (by kernel_rfl) (by kernel_rfl) (by kernel_rfl)
theorem coreComputes_holds : Rows.CoreComputesSaid :=
 OpenClaim.holds_of_wide 14 Try.f14 rfl rfl rfl rfl rfl rfl rfl ⟨rfl, rfl, rfl, rfl, rfl⟩ rfl rfl rfl rfl rfl (by kernel_rfl) Try.func14 OX
  (of_decide_eq_true (by kernel_rfl)) (by unfold Func.isWrapper; first | (rw [if_pos (by decide +kernel)]; kernel_rfl) | (rw [if_neg (by decide +kernel)]; exact ⟨rfl, rfl⟩))
  (fun os started H enc _ => OH os started H enc)
end Go.Proofs.Ytcknhfnbdgleiaa

/- CoreStepsAsSpecified: whatever its arguments (any processor, any memory, any lines), the law returns true, changes nothing and does not panic. Conditions: none. -/
import Derived.Test.YtcknhfnbdgleiaaGreatGrA
namespace Go.Proofs.YtcknhfnbdgleiaaGreat
open Go.AE
set_option maxRecDepth 100000
theorem ab7 (l : List AV) (h : kg (fun v t => Has Tryz.checked.prog 8 t v) Tryz.f3.params.toList l) : wI Tryz.checked.prog 3 l (.bool true) := by
 have h0 : kg (fun v t => Has Tryz.checked.prog 8 t v) [26, 29, 22] l := h
 obtain ⟨p0, r0, rfl, g0, h1⟩ := lF h0
 obtain ⟨p1, r1, rfl, g1, h2⟩ := lF h1
 obtain ⟨p2, r2, rfl, g2, h3⟩ := lF h2
 obtain rfl := F4 h3
 obtain ⟨pc, r, c, u, wt, ht, n, rfl, hpc, hr, hr2, hc, hc2⟩ := abM g0
 obtain ⟨m, rfl, hm⟩ := X8 g1
 obtain ⟨p, rfl, hp⟩ := Au g2
 exact aar 13 _ _ _ (ab2 0 pc hpc r c hr hr2 hc hc2 u wt ht n m hm p hp)
set_option maxRecDepth 100000 in
theorem XF (os : Os) (started : os.Started) (H : Type) (enc : TypeId × Value -> H) :
    ReturnsInHanded {} Tryz.checked os 3 .any (Rows.coreStepsAsSpecifiedSpec.pre6 enc Tryz.checked.prog Tryz.f3 Rows.coreStepsAsSpecifiedRow.domain false) (Rows.coreStepsAsSpecifiedSpec.post enc Tryz.checked.prog Tryz.f3 false true false false) :=
 Zz (tb := 4) Tryz.own started (by kernel_rfl) Tryz.func3
  (ChangeSpec.witness6 (enc := enc) (C := Tryz.checked) false ⟨#[], #[.agg #[.int .u32 0, .int .u32 0, .int .u32 0, .int .u32 0, .int .u32 0, .int .u32 0, .int .u32 0, .int .u32 0, .int .u32 0, .int .u32 0, .int .u32 0, .int .u32 0, .int .u32 0, .int .u32 0, .int .u32 0, .int .u32 0, .int .u32 0, .int .u32 0, .int .u32 0, .int .u32 0, .int .u32 0, .int .u32 0, .int .u32 0, .int .u32 0, .int .u32 0, .int .u32 0, .bool false, .bool false, .bool false, .int .i64 0], .agg #[.slice none 0 0], .int .u32 0], []⟩ 8 (by kernel_rfl) (by kernel_rfl) (by kernel_rfl) (by kernel_rfl))
  Tryz.laidOut rfl (by kernel_rfl) rfl Cz (fun ds hds => by
   match ds, hds with
   | [d0, d1, d2], _ => rfl) ab7
theorem R5 : (Rows.coreStepsAsSpecifiedRow.wf (OpenSpec.ofChange Rows.coreStepsAsSpecifiedSpec)) = true := by kernel_rfl
theorem Zy : (Tryz.f3.params.all (Tryz.pinned.checked.prog.readableRec ·)) = true := by kernel_rfl
theorem abX : namedTie Tryz.pinned.checked.prog Rows.coreStepsAsSpecifiedRow.named Rows.coreStepsAsSpecifiedSpec.vars = true := by kernel_rfl
theorem Ry : (Rows.coreStepsAsSpecifiedRow.inPlace == Tryz.pinned.checked.prog.inPlace 3) = true := by kernel_rfl
theorem U2 : (Rows.coreStepsAsSpecifiedRow.unfollowed == Tryz.pinned.checked.prog.unfollowed 3) = true := by kernel_rfl
theorem acn : (Rows.coreStepsAsSpecifiedRow.recurses == Tryz.pinned.checked.prog.recurses 3) = true := by kernel_rfl
theorem aax : (Rows.coreStepsAsSpecifiedRow.named == Tryz.pinned.checked.prog.varsNamed 3) = true := by kernel_rfl
theorem YR : joinedFacts Tryz.pinned.checked.prog 3 Tryz.f3 Rows.coreStepsAsSpecifiedSpec Rows.coreStepsAsSpecifiedRow = true :=
 X5 R5 Tryz.laidOut Tryz.mapsRowed Zy abX Tryz.acA Ry U2 acn aax (by kernel_rfl) (by kernel_rfl) (by kernel_rfl) (by kernel_rfl) (by kernel_rfl) (by kernel_rfl) Tryz.xE (by kernel_rfl) (by kernel_rfl) (by kernel_rfl)
theorem coreStepsAsSpecified_holds : Rows.CoreStepsAsSpecifiedSaid :=
 OpenClaim.holds_of_wide 3 Tryz.f3 rfl rfl rfl rfl rfl rfl rfl ⟨rfl, rfl, rfl, rfl, rfl⟩ rfl rfl rfl rfl rfl (by kernel_rfl) Tryz.func3 YR
  (of_decide_eq_true (by kernel_rfl)) (by unfold Func.isWrapper; first | (rw [if_pos (by decide +kernel)]; kernel_rfl) | (rw [if_neg (by decide +kernel)]; exact ⟨rfl, rfl⟩))
  (fun os started H enc _ => XF os started H enc)
end Go.Proofs.YtcknhfnbdgleiaaGreat

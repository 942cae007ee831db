/- CoreAnswersAsSpecified: whatever its arguments (any processor, any memory, any lines, any answer), the law returns true, changes nothing and does not panic. Conditions: none. -/
import Derived.Test.YtcknhfnbdgleiaaGreatGrA
namespace Go.Proofs.YtcknhfnbdgleiaaGreat
open Go.AE
set_option maxRecDepth 100000
theorem SE (l : List AV) (h : kg (fun v t => Has Tryz.checked.prog 8 t v) Tryz.f4.params.toList l) : yO Tryz.checked.prog 4 l (.bool true) := by
 have h0 : kg (fun v t => Has Tryz.checked.prog 8 t v) [26, 29, 22, 22, 4] l := h
 obtain ⟨p0, r0, rfl, g0, h1⟩ := jS h0
 obtain ⟨p1, r1, rfl, g1, h2⟩ := jS h1
 obtain ⟨p2, r2, rfl, g2, h3⟩ := jS h2
 obtain ⟨p3, r3, rfl, g3, h4⟩ := jS h3
 obtain ⟨p4, r4, rfl, g4, h5⟩ := jS h4
 obtain rfl := Ev h5
 obtain ⟨pc, r, c, u, wt, ht, n, rfl, hpc, hr, hr2, hc, hc2⟩ := WX g0
 obtain ⟨m, rfl, hm⟩ := aby g1
 obtain ⟨p, rfl, hp⟩ := yQ g2
 obtain ⟨v, rfl, hv⟩ := yQ g3
 obtain ⟨ok, rfl⟩ := CX xI g4
 exact R6 13 _ _ _ (aau 0 pc hpc r c hr hr2 hc hc2 u wt ht n m hm p hp v ok)
set_option maxRecDepth 100000 in
theorem adz (os : Os) (started : os.Started) (H : Type) (enc : TypeId × Value -> H) :
    ReturnsInHanded {} Tryz.checked os 4 .any (Rows.coreAnswersAsSpecifiedSpec.pre6 enc Tryz.checked.prog Tryz.f4 Rows.coreAnswersAsSpecifiedRow.domain false) (Rows.coreAnswersAsSpecifiedSpec.post enc Tryz.checked.prog Tryz.f4 false true false false) :=
 WH (tb := 4) Tryz.own started (by kernel_rfl) Tryz.func4
  (ChangeSpec.witness6 (enc := enc) (C := Tryz.checked) false ⟨#[], #[.agg #[.int .u32 0, .int .u32 0, .int .u32 0, .int .u32 0, .int .u32 0, .int .u32 0, .int .u32 0, .int .u32 0, .int .u32 0, .int .u32 0, .int .u32 0, .int .u32 0, .int .u32 0, .int .u32 0, .int .u32 0, .int .u32 0, .int .u32 0, .int .u32 0, .int .u32 0, .int .u32 0, .int .u32 0, .int .u32 0, .int .u32 0, .int .u32 0, .int .u32 0, .int .u32 0, .bool false, .bool false, .bool false, .int .i64 0], .agg #[.slice none 0 0], .int .u32 0, .int .u32 0, .bool false], []⟩ 8 (by kernel_rfl) (by kernel_rfl) (by kernel_rfl) (by kernel_rfl))
  Tryz.laidOut rfl (by kernel_rfl) rfl xI (fun ds hds => by
   match ds, hds with
   | [d0, d1, d2, d3, d4], _ => rfl) SE
theorem VK : (Rows.coreAnswersAsSpecifiedRow.wf (OpenSpec.ofChange Rows.coreAnswersAsSpecifiedSpec)) = true := by kernel_rfl
theorem Zi : (Tryz.f4.params.all (Tryz.pinned.checked.prog.readableRec ·)) = true := by kernel_rfl
theorem VL : namedTie Tryz.pinned.checked.prog Rows.coreAnswersAsSpecifiedRow.named Rows.coreAnswersAsSpecifiedSpec.vars = true := by kernel_rfl
theorem QO : (Rows.coreAnswersAsSpecifiedRow.inPlace == Tryz.pinned.checked.prog.inPlace 4) = true := by kernel_rfl
theorem XL : (Rows.coreAnswersAsSpecifiedRow.unfollowed == Tryz.pinned.checked.prog.unfollowed 4) = true := by kernel_rfl
theorem Zh : (Rows.coreAnswersAsSpecifiedRow.recurses == Tryz.pinned.checked.prog.recurses 4) = true := by kernel_rfl
theorem Uw : (Rows.coreAnswersAsSpecifiedRow.named == Tryz.pinned.checked.prog.varsNamed 4) = true := by kernel_rfl
theorem aaH : joinedFacts Tryz.pinned.checked.prog 4 Tryz.f4 Rows.coreAnswersAsSpecifiedSpec Rows.coreAnswersAsSpecifiedRow = true :=
 ab5 VK Tryz.laidOut Tryz.mapsRowed Zi VL Tryz.Wy QO XL Zh Uw (by kernel_rfl) (by kernel_rfl) (by kernel_rfl) (by kernel_rfl) (by kernel_rfl) (by kernel_rfl) Tryz.zf (by kernel_rfl) (by kernel_rfl) (by kernel_rfl)
theorem coreAnswersAsSpecified_holds : Rows.CoreAnswersAsSpecifiedSaid :=
 OpenClaim.holds_of_wide 4 Tryz.f4 rfl rfl rfl rfl rfl rfl rfl ⟨rfl, rfl, rfl, rfl, rfl⟩ rfl rfl rfl rfl rfl (by kernel_rfl) Tryz.func4 aaH
  (of_decide_eq_true (by kernel_rfl)) (by unfold Func.isWrapper; first | (rw [if_pos (by decide +kernel)]; kernel_rfl) | (rw [if_neg (by decide +kernel)]; exact ⟨rfl, rfl⟩))
  (fun os started H enc _ => adz os started H enc)
end Go.Proofs.YtcknhfnbdgleiaaGreat

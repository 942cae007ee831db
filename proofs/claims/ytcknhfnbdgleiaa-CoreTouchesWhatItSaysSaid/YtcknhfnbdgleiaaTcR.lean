/- CoreTouchesWhatItSays: whatever its arguments (any processor, any memory, any lines, any bytes), the law returns true, changes nothing and does not panic. Conditions: none. -/
import Derived.Test.YtcknhfnbdgleiaaCorA
import Derived.Test.YtcknhfnbdgleiaaTc3
namespace Go.Proofs.Ytcknhfnbdgleiaa
open Go.AE
set_option maxRecDepth 100000
theorem XO (l : List AV) (h : jw (fun v t => Has Try.checked.prog 8 t v) Try.f12.params.toList l) : vH Try.checked.prog 12 l (.bool true) := by
 have h0 : jw (fun v t => Has Try.checked.prog 8 t v) [105, 24, 25, 106] l := h
 obtain ⟨p0, r0, rfl, g0, h1⟩ := jJ h0
 obtain ⟨p1, r1, rfl, g1, h2⟩ := jJ h1
 obtain ⟨p2, r2, rfl, g2, h3⟩ := jJ h2
 obtain ⟨p3, r3, rfl, g3, h4⟩ := jJ h3
 obtain rfl := Fb h4
 obtain ⟨pc, r, c, u, wt, ht, n, rfl, hpc, hr, hr2, hc, hc2⟩ := Tk g0
 obtain ⟨m, rfl, hm⟩ := SS g1
 obtain ⟨p, rfl, hp⟩ := zm g2
 obtain ⟨o, rfl, ho⟩ := RQ g3
 exact Touches.Y1 12 _ _ _ (RS 0 pc hpc r c hr hr2 hc hc2 u wt ht n m hm p hp o ho)
set_option maxRecDepth 100000 in
theorem TI (os : Os) (started : os.Started) (H : Type) (enc : TypeId × Value -> H) :
    ReturnsInHanded {} Try.checked os 12 .any (Rows.coreTouchesWhatItSaysSpec.pre6 enc Try.checked.prog Try.f12 Rows.coreTouchesWhatItSaysRow.domain false) (Rows.coreTouchesWhatItSaysSpec.post enc Try.checked.prog Try.f12 false true false false) :=
 Ux (tb := 4) Try.own started (by kernel_rfl) Try.func12
  (ChangeSpec.witness6 (enc := enc) (C := Try.checked) false ⟨#[], #[.agg #[.int .u32 0, .int .u32 0, .int .u32 0, .int .u32 0, .int .u32 0, .int .u32 0, .int .u32 0, .int .u32 0, .int .u32 0, .int .u32 0, .int .u32 0, .int .u32 0, .int .u32 0, .int .u32 0, .int .u32 0, .int .u32 0, .int .u32 0, .int .u32 0, .int .u32 0, .int .u32 0, .int .u32 0, .int .u32 0, .int .u32 0, .int .u32 0, .int .u32 0, .int .u32 0, .bool false, .bool false, .bool false, .int .i64 0], .agg #[.slice none 0 0], .int .u32 0, .slice none 0 0], []⟩ 8 (by kernel_rfl) (by kernel_rfl) (by kernel_rfl) (by kernel_rfl))
  Try.laidOut rfl (by kernel_rfl) rfl AA (fun ds hds => by
   match ds, hds with
   | [d0, d1, d2, d3], _ => rfl) XO
theorem Sj : (Rows.coreTouchesWhatItSaysRow.wf (OpenSpec.ofChange Rows.coreTouchesWhatItSaysSpec)) = true := by kernel_rfl
theorem XH : (Try.f12.params.all (Try.pinned.checked.prog.readableRec ·)) = true := by kernel_rfl
theorem Wp : namedTie Try.pinned.checked.prog Rows.coreTouchesWhatItSaysRow.named Rows.coreTouchesWhatItSaysSpec.vars = true := by kernel_rfl
theorem Za : (Rows.coreTouchesWhatItSaysRow.inPlace == Try.pinned.checked.prog.inPlace 12) = true := by kernel_rfl
theorem X3 : (Rows.coreTouchesWhatItSaysRow.unfollowed == Try.pinned.checked.prog.unfollowed 12) = true := by kernel_rfl
theorem Ro : (Rows.coreTouchesWhatItSaysRow.recurses == Try.pinned.checked.prog.recurses 12) = true := by kernel_rfl
theorem XU : (Rows.coreTouchesWhatItSaysRow.named == Try.pinned.checked.prog.varsNamed 12) = true := by kernel_rfl
theorem UE : joinedFacts Try.pinned.checked.prog 12 Try.f12 Rows.coreTouchesWhatItSaysSpec Rows.coreTouchesWhatItSaysRow = true :=
 Rk Sj Try.laidOut Try.mapsRowed XH Wp Try.O7 Za X3 Ro XU (by kernel_rfl) (by kernel_rfl) (by kernel_rfl) (by kernel_rfl) (by kernel_rfl) (by kernel_rfl) Try.xq (by kernel_rfl) (by kernel_rfl) (by kernel_rfl)
theorem coreTouchesWhatItSays_holds : Rows.CoreTouchesWhatItSaysSaid :=
 OpenClaim.holds_of_wide 12 Try.f12 rfl rfl rfl rfl rfl rfl rfl ⟨rfl, rfl, rfl, rfl, rfl⟩ rfl rfl rfl rfl rfl (by kernel_rfl) Try.func12 UE
  (of_decide_eq_true (by kernel_rfl)) (by unfold Func.isWrapper; first | (rw [if_pos (by decide +kernel)]; kernel_rfl) | (rw [if_neg (by decide +kernel)]; exact ⟨rfl, rfl⟩))
  (fun os started H enc _ => TI os started H enc)
end Go.Proofs.Ytcknhfnbdgleiaa

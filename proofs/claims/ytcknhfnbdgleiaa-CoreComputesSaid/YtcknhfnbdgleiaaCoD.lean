/- All that is said of loops is so; the functions' table. (Printed by a program of mine, gen.py.) -/
import Derived.Test.YtcknhfnbdgleiaaCoL0
import Derived.Test.YtcknhfnbdgleiaaCoL1
set_option linter.unusedVariables false
set_option linter.unusedSimpArgs false
namespace Go.Proofs.Ytcknhfnbdgleiaa
open Go.AE

theorem fn_24 : Pg.funcs[24]? = some Try.f24 := by kernel_rfl
theorem fn_57 : Pg.funcs[57]? = some Try.f57 := by kernel_rfl
theorem fn_75 : Pg.funcs[75]? = some Try.f75 := by kernel_rfl
theorem fn_121 : Pg.funcs[121]? = some Try.f121 := by kernel_rfl
theorem fn_123 : Pg.funcs[123]? = some Try.f123 := by kernel_rfl
theorem fn_129 : Pg.funcs[129]? = some Try.f129 := by kernel_rfl
theorem Pe : Pg.funcs[156]? = some Try.f156 := by kernel_rfl
set_option maxRecDepth 100000 in
theorem Mw (F : Tab) : (cx F).MS := by
 intro dep f id fr M t ht fn body hfn hbody
 simp only [cx] at ht
 split at ht
 · have hfn' : Pg.funcs[24]? = some fn := hfn
   rw [fn_24] at hfn'
   obtain rfl := Option.some.inj hfn'
   have ha := zR
   rw [hbody] at ha
   exact ⟨bn, ha, fun R K r hgo => Af F ht K r hgo⟩
 · have hfn' : Pg.funcs[57]? = some fn := hfn
   rw [fn_57] at hfn'
   obtain rfl := Option.some.inj hfn'
   have ha := A8
   rw [hbody] at ha
   exact ⟨bV, ha, fun R K r hgo => A9 F ht K r hgo⟩
 · have hfn' : Pg.funcs[75]? = some fn := hfn
   rw [fn_75] at hfn'
   obtain rfl := Option.some.inj hfn'
   have ha := yJ
   rw [hbody] at ha
   exact ⟨aX, ha, fun R K r hgo => yj F ht K r hgo⟩
 · have hfn' : Pg.funcs[121]? = some fn := hfn
   rw [fn_121] at hfn'
   obtain rfl := Option.some.inj hfn'
   have ha := uS
   rw [hbody] at ha
   exact ⟨aR, ha, fun R K r hgo => uU F ht K r hgo⟩
 · have hfn' : Pg.funcs[123]? = some fn := hfn
   rw [fn_123] at hfn'
   obtain rfl := Option.some.inj hfn'
   have ha := BN
   rw [hbody] at ha
   exact ⟨bZ, ha, fun R K r hgo => Di F ht K r hgo⟩
 · have hfn' : Pg.funcs[129]? = some fn := hfn
   rw [fn_129] at hfn'
   obtain rfl := Option.some.inj hfn'
   have ha := FM
   rw [hbody] at ha
   exact ⟨dS, ha, fun R K r hgo => F5 F ht K r hgo⟩
 · have hfn' : Pg.funcs[156]? = some fn := hfn
   rw [Pe] at hfn'
   obtain rfl := Option.some.inj hfn'
   have ha := qU
   rw [hbody] at ha
   exact ⟨aK, ha, fun R K r hgo => qC F ht K r hgo⟩
 · have hfn' : Pg.funcs[156]? = some fn := hfn
   rw [Pe] at hfn'
   obtain rfl := Option.some.inj hfn'
   have ha := rU
   rw [hbody] at ha
   exact ⟨aM, ha, fun R K r hgo => qz F ht K r hgo⟩
 · exact absurd ht (by simp)
set_option maxRecDepth 100000 in
theorem Rm (F : Tab) : (cx F).Acts := by
 intro dep f args M t ht R K r hgo
 simp only [cx] at ht
 split at ht
 · exact xW F ht K r hgo
 · exact uK F ht K r hgo
 · exact tJ F ht K r hgo
 · exact vY F ht K r hgo
 · split at ht
   · rename_i t2 h2
     obtain rfl := Option.some.inj ht
     exact wu F h2 K r hgo
   · exact sD F ht K r hgo
 · split at ht
   · rename_i t2 h2
     obtain rfl := Option.some.inj ht
     exact pG F h2 K r hgo
   · exact og F ht K r hgo
 · split at ht
   · rename_i t2 h2
     obtain rfl := Option.some.inj ht
     exact uj F h2 K r hgo
   · split at ht
     · rename_i t2 h2
       obtain rfl := Option.some.inj ht
       exact qQ F h2 K r hgo
     · exact qp F ht K r hgo
 · exact sW F ht K r hgo
 · exact vg F ht K r hgo
 · exact rF F ht K r hgo
 · exact uy F ht K r hgo
 · exact xK F ht K r hgo
 · exact absurd ht (by simp)
set_option maxRecDepth 100000 in
theorem Qx (F : Tab) : (cx F).News := by
 intro dep f args M v rs ht R K r hgo
 simp only [cx] at ht
 split at ht
 · exact zK F ht K r hgo
 · exact absurd ht (by simp)
theorem loops (F : Tab) : (cx F).Loops := ⟨Mw F, Rm F, Qx F⟩
/-- What the functions return, calls k deep. -/
noncomputable abbrev D : Nat → Tab := Dt cx 6
theorem D_ok (k : Nat) : GI Pg (D k) := Dt_ok (P := Pg) (C := cx) (kn := kn) (fun _ => rfl) (fun _ => rfl) loops k
end Go.Proofs.Ytcknhfnbdgleiaa

/- All that is said of loops is so; the functions' table. (Printed by a program of mine, gen.py.) -/
import Derived.Test.YtcknhfnbdgleiaaCoL0
import Derived.Test.YtcknhfnbdgleiaaCoL1
set_option linter.unusedVariables false
set_option linter.unusedSimpArgs false
namespace Go.Proofs.Ytcknhfnbdgleiaa
open Go.AE

theorem fn_24 : Pg.funcs[24]? = some Try.f24 := by kernel_rfl
theorem fn_57 : Pg.funcs[57]? = some Try.f57 := by kernel_rfl
theorem fn_75 : Pg.funcs[75]? = some Try.f75 := by kernel_rfl
theorem fn_121 : Pg.funcs[121]? = some Try.f121 := by kernel_rfl
theorem fn_123 : Pg.funcs[123]? = some Try.f123 := by kernel_rfl
theorem fn_129 : Pg.funcs[129]? = some Try.f129 := by kernel_rfl
theorem Pq : Pg.funcs[156]? = some Try.f156 := by kernel_rfl
set_option maxRecDepth 100000 in
theorem M8 (F : Tab) : (cx F).M7 := by
 intro dep f id fr M t ht fn body hfn hbody
 simp only [cx] at ht
 split at ht
 · have hfn' : Pg.funcs[24]? = some fn := hfn
   rw [fn_24] at hfn'
   obtain rfl := Option.some.inj hfn'
   have ha := zW
   rw [hbody] at ha
   exact ⟨bA, ha, fun R K r hgo => Aa F ht K r hgo⟩
 · have hfn' : Pg.funcs[57]? = some fn := hfn
   rw [fn_57] at hfn'
   obtain rfl := Option.some.inj hfn'
   have ha := Bb
   rw [hbody] at ha
   exact ⟨bT, ha, fun R K r hgo => AQ F ht K r hgo⟩
 · have hfn' : Pg.funcs[75]? = some fn := hfn
   rw [fn_75] at hfn'
   obtain rfl := Option.some.inj hfn'
   have ha := yN
   rw [hbody] at ha
   exact ⟨aW, ha, fun R K r hgo => yt F ht K r hgo⟩
 · have hfn' : Pg.funcs[121]? = some fn := hfn
   rw [fn_121] at hfn'
   obtain rfl := Option.some.inj hfn'
   have ha := vv
   rw [hbody] at ha
   exact ⟨aR, ha, fun R K r hgo => vg F ht K r hgo⟩
 · have hfn' : Pg.funcs[123]? = some fn := hfn
   rw [fn_123] at hfn'
   obtain rfl := Option.some.inj hfn'
   have ha := Cx
   rw [hbody] at ha
   exact ⟨bY, ha, fun R K r hgo => Co F ht K r hgo⟩
 · have hfn' : Pg.funcs[129]? = some fn := hfn
   rw [fn_129] at hfn'
   obtain rfl := Option.some.inj hfn'
   have ha := E9
   rw [hbody] at ha
   exact ⟨dV, ha, fun R K r hgo => FL F ht K r hgo⟩
 · have hfn' : Pg.funcs[156]? = some fn := hfn
   rw [Pq] at hfn'
   obtain rfl := Option.some.inj hfn'
   have ha := rV
   rw [hbody] at ha
   exact ⟨aK, ha, fun R K r hgo => qE F ht K r hgo⟩
 · have hfn' : Pg.funcs[156]? = some fn := hfn
   rw [Pq] at hfn'
   obtain rfl := Option.some.inj hfn'
   have ha := rC
   rw [hbody] at ha
   exact ⟨aM, ha, fun R K r hgo => qD F ht K r hgo⟩
 · exact absurd ht (by simp)
set_option maxRecDepth 100000 in
theorem Q7 (F : Tab) : (cx F).Acts := by
 intro dep f args M t ht R K r hgo
 simp only [cx] at ht
 split at ht
 · exact xW F ht K r hgo
 · exact tZ F ht K r hgo
 · exact tJ F ht K r hgo
 · exact uR F ht K r hgo
 · split at ht
   · rename_i t2 h2
     obtain rfl := Option.some.inj ht
     exact vL F h2 K r hgo
   · exact tT F ht K r hgo
 · split at ht
   · rename_i t2 h2
     obtain rfl := Option.some.inj ht
     exact pQ F h2 K r hgo
   · exact nW F ht K r hgo
 · split at ht
   · rename_i t2 h2
     obtain rfl := Option.some.inj ht
     exact uI F h2 K r hgo
   · split at ht
     · rename_i t2 h2
       obtain rfl := Option.some.inj ht
       exact rY F h2 K r hgo
     · exact rD F ht K r hgo
 · exact sZ F ht K r hgo
 · exact uQ F ht K r hgo
 · exact q9 F ht K r hgo
 · exact uo F ht K r hgo
 · exact xH F ht K r hgo
 · exact absurd ht (by simp)
set_option maxRecDepth 100000 in
theorem Qv (F : Tab) : (cx F).News := by
 intro dep f args M v rs ht R K r hgo
 simp only [cx] at ht
 split at ht
 · exact y5 F ht K r hgo
 · exact absurd ht (by simp)
theorem loops (F : Tab) : (cx F).Loops := ⟨M8 F, Q7 F, Qv F⟩
/-- What the functions return, calls k deep. -/
noncomputable abbrev D : Nat → Tab := Dt cx 6
theorem D_ok (k : Nat) : Iy Pg (D k) := Dt_ok (P := Pg) (C := cx) (kn := kn) (fun _ => rfl) (fun _ => rfl) loops k
end Go.Proofs.Ytcknhfnbdgleiaa

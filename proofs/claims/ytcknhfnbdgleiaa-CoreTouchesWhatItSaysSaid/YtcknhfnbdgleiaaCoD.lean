/- All that is said of loops is so; the functions' table. (Printed by a program of mine, gen.py.) -/
import Derived.Test.YtcknhfnbdgleiaaCoL0
import Derived.Test.YtcknhfnbdgleiaaCoL1
import Derived.Test.YtcknhfnbdgleiaaCoL2
set_option linter.unusedVariables false
set_option linter.unusedSimpArgs false
set_option maxRecDepth 100000
namespace Go.Proofs.Ytcknhfnbdgleiaa
open Go.AE
theorem WL : Pg.funcs[24]? = some Try.f24 := by kernel_rfl
theorem Ky : Pg.funcs[54]? = some Try.f54 := by kernel_rfl
theorem Vm : Pg.funcs[57]? = some Try.f57 := by kernel_rfl
theorem RP : Pg.funcs[75]? = some Try.f75 := by kernel_rfl
theorem Uz : Pg.funcs[121]? = some Try.f121 := by kernel_rfl
theorem VT : Pg.funcs[123]? = some Try.f123 := by kernel_rfl
theorem Xi : Pg.funcs[129]? = some Try.f129 := by kernel_rfl
theorem Lf : Pg.funcs[156]? = some Try.f156 := by kernel_rfl
theorem Ed (F : Tab) : (cx F).CJ := by
 intro dep f id fr M t ht fn body hfn hbody
 simp only [cx] at ht
 split at ht
 . have hfn' : Pg.funcs[24]? = some fn := hfn
   rw [WL] at hfn'
   obtain rfl := Option.some.inj hfn'
   have ha := Sc
   rw [hbody] at ha
   exact ⟨oG, ha, fun R K r hgo => Wh F ht K r hgo⟩
 . have hfn' : Pg.funcs[54]? = some fn := hfn
   rw [Ky] at hfn'
   obtain rfl := Option.some.inj hfn'
   have ha := YX
   rw [hbody] at ha
   exact ⟨oI, ha, fun R K r hgo => SK F ht K r hgo⟩
 . have hfn' : Pg.funcs[54]? = some fn := hfn
   rw [Ky] at hfn'
   obtain rfl := Option.some.inj hfn'
   have ha := Xp
   rw [hbody] at ha
   exact ⟨qj, ha, fun R K r hgo => P9 F ht K r hgo⟩
 . have hfn' : Pg.funcs[57]? = some fn := hfn
   rw [Vm] at hfn'
   obtain rfl := Option.some.inj hfn'
   have ha := Ry
   rw [hbody] at ha
   exact ⟨qG, ha, fun R K r hgo => XD F ht K r hgo⟩
 . have hfn' : Pg.funcs[75]? = some fn := hfn
   rw [RP] at hfn'
   obtain rfl := Option.some.inj hfn'
   have ha := WW
   rw [hbody] at ha
   exact ⟨pE, ha, fun R K r hgo => VU F ht K r hgo⟩
 . have hfn' : Pg.funcs[121]? = some fn := hfn
   rw [Uz] at hfn'
   obtain rfl := Option.some.inj hfn'
   have ha := Xw
   rw [hbody] at ha
   exact ⟨pR, ha, fun R K r hgo => RJ F ht K r hgo⟩
 . have hfn' : Pg.funcs[123]? = some fn := hfn
   rw [VT] at hfn'
   obtain rfl := Option.some.inj hfn'
   have ha := Vi
   rw [hbody] at ha
   exact ⟨qW, ha, fun R K r hgo => aaj F ht K r hgo⟩
 . have hfn' : Pg.funcs[129]? = some fn := hfn
   rw [Xi] at hfn'
   obtain rfl := Option.some.inj hfn'
   have ha := YD
   rw [hbody] at ha
   exact ⟨oZ, ha, fun R K r hgo => SY F ht K r hgo⟩
 . have hfn' : Pg.funcs[156]? = some fn := hfn
   rw [Lf] at hfn'
   obtain rfl := Option.some.inj hfn'
   have ha := S9
   rw [hbody] at ha
   exact ⟨pQ, ha, fun R K r hgo => Q6 F ht K r hgo⟩
 . have hfn' : Pg.funcs[156]? = some fn := hfn
   rw [Lf] at hfn'
   obtain rfl := Option.some.inj hfn'
   have ha := OO
   rw [hbody] at ha
   exact ⟨qm, ha, fun R K r hgo => V4 F ht K r hgo⟩
 . exact absurd ht (by simp)
theorem CX (F : Tab) : (cx F).y7 := by
 intro dep f args M t ht R K r hgo
 simp only [cx] at ht
 split at ht
 . exact Uo F ht K r hgo
 . exact Pe F ht K r hgo
 . exact Xd F ht K r hgo
 . exact Qd F ht K r hgo
 . split at ht
   . rename_i t2 h2
     obtain rfl := Option.some.inj ht
     exact Tp F h2 K r hgo
   . exact SV F ht K r hgo
 . split at ht
   . rename_i t2 h2
     obtain rfl := Option.some.inj ht
     exact U6 F h2 K r hgo
   . exact Tt F ht K r hgo
 . split at ht
   . rename_i t2 h2
     obtain rfl := Option.some.inj ht
     exact ZC F h2 K r hgo
   . split at ht
     . rename_i t2 h2
       obtain rfl := Option.some.inj ht
       exact Xx F h2 K r hgo
     . exact P6 F ht K r hgo
 . exact TM F ht K r hgo
 . exact UR F ht K r hgo
 . exact Yp F ht K r hgo
 . exact O6 F ht K r hgo
 . exact PD F ht K r hgo
 . exact absurd ht (by simp)
theorem Gi (F : Tab) : (cx F).zW := by
 intro dep f args M v rs ht R K r hgo
 simp only [cx] at ht
 split at ht
 . exact Xt F ht K r hgo
 . exact absurd ht (by simp)
theorem loops (F : Tab) : (cx F).Loops := ⟨Ed F, CX F, Gi F⟩
noncomputable abbrev D : Nat -> Tab := Dt cx 6
theorem Yt (k : Nat) : nC Pg (D k) := Kz (P := Pg) (C := cx) (kn := kn) (fun _ => rfl) (fun _ => rfl) loops k
end Go.Proofs.Ytcknhfnbdgleiaa

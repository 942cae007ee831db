/- All that is said of loops is so; the functions' table. (Printed by a program of mine, gen.py.) -/
import Derived.Test.YtcknhfnbdgleiaaCoL0
import Derived.Test.YtcknhfnbdgleiaaCoL1
set_option linter.unusedVariables false
set_option linter.unusedSimpArgs false
set_option maxRecDepth 100000
namespace Go.Proofs.Ytcknhfnbdgleiaa
open Go.AE
theorem Si : Pg.funcs[24]? = some Try.f24 := by kernel_rfl
theorem Jb : Pg.funcs[34]? = some Try.f34 := by kernel_rfl
theorem SH : Pg.funcs[57]? = some Try.f57 := by kernel_rfl
theorem ZT : Pg.funcs[75]? = some Try.f75 := by kernel_rfl
theorem Ze : Pg.funcs[121]? = some Try.f121 := by kernel_rfl
theorem Zb : Pg.funcs[123]? = some Try.f123 := by kernel_rfl
theorem Ux : Pg.funcs[129]? = some Try.f129 := by kernel_rfl
theorem Lx : Pg.funcs[156]? = some Try.f156 := by kernel_rfl
theorem Gp (F : Tab) : (cx F).GA := by
 intro dep f id fr M t ht fn body hfn hbody
 simp only [cx] at ht
 split at ht
 . have hfn' : Pg.funcs[24]? = some fn := hfn
   rw [Si] at hfn'
   obtain rfl := Option.some.inj hfn'
   have ha := RP
   rw [hbody] at ha
   exact ⟨qV, ha, fun R K r hgo => Ur F ht K r hgo⟩
 . have hfn' : Pg.funcs[34]? = some fn := hfn
   rw [Jb] at hfn'
   obtain rfl := Option.some.inj hfn'
   have ha := YO
   rw [hbody] at ha
   exact ⟨qA, ha, fun R K r hgo => aat F ht K r hgo⟩
 . have hfn' : Pg.funcs[34]? = some fn := hfn
   rw [Jb] at hfn'
   obtain rfl := Option.some.inj hfn'
   have ha := O5
   rw [hbody] at ha
   exact ⟨p9, ha, fun R K r hgo => QE F ht K r hgo⟩
 . have hfn' : Pg.funcs[57]? = some fn := hfn
   rw [SH] at hfn'
   obtain rfl := Option.some.inj hfn'
   have ha := Vn
   rw [hbody] at ha
   exact ⟨qH, ha, fun R K r hgo => SI F ht K r hgo⟩
 . have hfn' : Pg.funcs[75]? = some fn := hfn
   rw [ZT] at hfn'
   obtain rfl := Option.some.inj hfn'
   have ha := Yo
   rw [hbody] at ha
   exact ⟨qb, ha, fun R K r hgo => Yl F ht K r hgo⟩
 . have hfn' : Pg.funcs[121]? = some fn := hfn
   rw [Ze] at hfn'
   obtain rfl := Option.some.inj hfn'
   have ha := PI
   rw [hbody] at ha
   exact ⟨qx, ha, fun R K r hgo => VA F ht K r hgo⟩
 . have hfn' : Pg.funcs[123]? = some fn := hfn
   rw [Zb] at hfn'
   obtain rfl := Option.some.inj hfn'
   have ha := XI
   rw [hbody] at ha
   exact ⟨q9, ha, fun R K r hgo => VK F ht K r hgo⟩
 . have hfn' : Pg.funcs[129]? = some fn := hfn
   rw [Ux] at hfn'
   obtain rfl := Option.some.inj hfn'
   have ha := RH
   rw [hbody] at ha
   exact ⟨oK, ha, fun R K r hgo => Pe F ht K r hgo⟩
 . have hfn' : Pg.funcs[156]? = some fn := hfn
   rw [Lx] at hfn'
   obtain rfl := Option.some.inj hfn'
   have ha := Q7
   rw [hbody] at ha
   exact ⟨qz, ha, fun R K r hgo => P6 F ht K r hgo⟩
 . have hfn' : Pg.funcs[156]? = some fn := hfn
   rw [Lx] at hfn'
   obtain rfl := Option.some.inj hfn'
   have ha := Zh
   rw [hbody] at ha
   exact ⟨qZ, ha, fun R K r hgo => Xv F ht K r hgo⟩
 . exact absurd ht (by simp)
theorem FP (F : Tab) : (cx F).AJ := by
 intro dep f args M t ht R K r hgo
 simp only [cx] at ht
 split at ht
 . exact ZU F ht K r hgo
 . exact UJ F ht K r hgo
 . exact Zi F ht K r hgo
 . exact O4 F ht K r hgo
 . split at ht
   . rename_i t2 h2
     obtain rfl := Option.some.inj ht
     exact Wt F h2 K r hgo
   . exact YS F ht K r hgo
 . split at ht
   . rename_i t2 h2
     obtain rfl := Option.some.inj ht
     exact SN F h2 K r hgo
   . exact YH F ht K r hgo
 . split at ht
   . rename_i t2 h2
     obtain rfl := Option.some.inj ht
     exact TT F h2 K r hgo
   . split at ht
     . rename_i t2 h2
       obtain rfl := Option.some.inj ht
       exact U1 F h2 K r hgo
     . exact QF F ht K r hgo
 . exact Yw F ht K r hgo
 . exact Py F ht K r hgo
 . exact Qb F ht K r hgo
 . exact VZ F ht K r hgo
 . exact Pm F ht K r hgo
 . exact absurd ht (by simp)
theorem Dn (F : Tab) : (cx F).Ci := by
 intro dep f args M v rs ht R K r hgo
 simp only [cx] at ht
 split at ht
 . exact Rm F ht K r hgo
 . exact absurd ht (by simp)
theorem loops (F : Tab) : (cx F).Loops := ⟨Gp F, FP F, Dn F⟩
noncomputable abbrev D : Nat -> Tab := Dt cx 6
theorem TP (k : Nat) : nu Pg (D k) := Md (P := Pg) (C := cx) (kn := kn) (fun _ => rfl) (fun _ => rfl) loops k
end Go.Proofs.Ytcknhfnbdgleiaa

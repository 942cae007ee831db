/- All that is said of loops is so; the functions' table. (Printed by a program of mine, gen.py.) -/
import Derived.Test.YtcknhfnbdgleiaaTcL0
set_option linter.unusedVariables false
set_option linter.unusedSimpArgs false
namespace Go.Proofs.Ytcknhfnbdgleiaa.Touches
open Go.AE
theorem Ey : Pg.funcs[12]? = some Try.f12 := by kernel_rfl
set_option maxRecDepth 100000 in
theorem Ed (F : Tab) : (cx F).CJ := by
 intro dep f id fr M t ht fn body hfn hbody
 simp only [cx] at ht
 split at ht
 . have hfn' : Pg.funcs[12]? = some fn := hfn
   rw [Ey] at hfn'
   obtain rfl := Option.some.inj hfn'
   have ha := WE
   rw [hbody] at ha
   exact ⟨pY, ha, fun R K r hgo => TA F ht K r hgo⟩
 . have hfn' : Pg.funcs[12]? = some fn := hfn
   rw [Ey] at hfn'
   obtain rfl := Option.some.inj hfn'
   have ha := Ut
   rw [hbody] at ha
   exact ⟨qF, ha, fun R K r hgo => Ra F ht K r hgo⟩
 . have hfn' : Pg.funcs[12]? = some fn := hfn
   rw [Ey] at hfn'
   obtain rfl := Option.some.inj hfn'
   have ha := VX
   rw [hbody] at ha
   exact ⟨pW, ha, fun R K r hgo => Uh F ht K r hgo⟩
 . exact absurd ht (by simp)
theorem CX (F : Tab) : (cx F).y7 := Ctx.VQ fun _ _ _ _ => rfl
theorem Gi (F : Tab) : (cx F).zW := Ctx.ZT fun _ _ _ _ => rfl
theorem loops (F : Tab) : (cx F).Loops := ⟨Ed F, CX F, Gi F⟩
noncomputable abbrev E (k : Nat) : Tab := fun f args => aY (cx (D k)) 6 f args
theorem Xo {P : Program} {x : Ctx} {kn : List FuncId} {F : Tab} (hP : x.P = P) (hs : x.spec = pq P kn F) (hL : x.Loops) (hF : nC P F) : nC P (fun f args => aY x 6 f args) := fun f args v e => by
 have hg : x.Good := K8 (by rw [hs, hP]) (by rw [hP]; exact hF)
 have := Nq hg hL e
 rwa [hP] at this
theorem QT (F : Tab) : (cx F).P = Pg := rfl
theorem WB (F : Tab) : (cx F).spec = pq Pg kn F := rfl
theorem Va (F : Tab) (h : nC Pg F) : nC Pg (fun f args => aY (cx F) 6 f args) := Xo (QT F) (WB F) (loops F) h
theorem Y1 (k : Nat) : nC Pg (E k) := Va (D k) (Yt k)
end Go.Proofs.Ytcknhfnbdgleiaa.Touches

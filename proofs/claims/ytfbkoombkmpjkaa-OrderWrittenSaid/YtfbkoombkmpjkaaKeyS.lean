/- Maps with strings as keys. -/
import Derived.Test.YtfbkoombkmpjkaaMaps
import Derived.MapKept
namespace Go.Proofs.Ytfbkoombkmpjkaa
namespace Gv
open Go
def encS (k : ByteArray) : Value := .string k
theorem key_str {P : Program} {kt : TypeId} (h : P.underlying kt = some .string) : KeyOf P kt encS where
  check w b k := by
    have hD : ∀ D : Nat, (Instr.checkKey b (D + 1) kt (encS k)).run P w = .ok () w := fun D => by simp [Instr.checkKey, run_underlying h, encS]
    exact hD 9999
  find w k m := by
    have hn : ∀ (m : List (ByteArray × Value × Nat)) (i : Nat), Instr.findNow .string (encS k) (m.map (mkE encS)) i = some (fndI k m i) := by
      intro m
      induction m with
      | nil => intro i; rfl
      | cons x r ih =>
        intro i
        simp only [List.map_cons, Instr.findNow, mkE, encS, Instr.sameNow, fndI]
        by_cases hk : k = x.1
        · subst hk
          rw [(Go.MapKept.bytes_beq x.1 x.1).2 rfl]
          simp
        · have : (k == x.1) = false := by
            cases hb : k == x.1 with
            | false => rfl
            | true => exact absurd ((Go.MapKept.bytes_beq _ _).1 hb) hk
          simp only [this, if_neg hk]
          exact ih (i + 1)
    simp [Instr.findKey, run_underlying h, hn]
  same k := by
    simp only [Instr.sameBits, encS]
    exact (Go.MapKept.bytes_beq k k).2 rfl
end Gv
end Go.Proofs.Ytfbkoombkmpjkaa

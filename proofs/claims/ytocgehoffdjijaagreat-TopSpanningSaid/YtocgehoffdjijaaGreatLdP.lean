/- 'load' of a struct of two ints that lies in a list. -/
import Derived.Test.YtocgehoffdjijaaGreatPairs
import Derived.Test.YtocgehoffdjijaaGreatAggN
namespace Go.Proofs.YtocgehoffdjijaaGreat
namespace Gv
open Go.RowKit
section
variable {P : Program} {st : Bool} {K : Env → World → Prop} {ρ : Env} {w : World} {d : Nat} {ty : TypeId} {pos : String} {aft : Array Edge} {gd : Option (Nat × Bool)} {x : Operand} {t : TypeId}
theorem r_ldP {q : Option Addr} {a b : Value} (hsz : aggT P t 2 = true) (hx : ev ρ x = .pointer q) (h0 : rd w (q.map (·.add 0)) = some a) (h1 : rd w (q.map (·.add 1)) = some b) (h : K (up ρ d (.agg #[a, b])) w) :
    w1 P st ⟨some d, .load t x, ty, pos, aft, gd⟩ K ρ w := by
  obtain ⟨ha, i, hi | hi⟩ := aggT_spec hsz
  · obtain ⟨hi, hs⟩ := hi
    cases q with
    | none => simp [rd] at h0
    | some p =>
      have hr := run_loadCells_list (P := P) (w := w) p [a, b] fun j q hq => by
        match j, hq with
        | 0, hq => simp at hq; subst hq; simpa [rd] using h0
        | 1, hq => simp at hq; subst hq; simpa [rd] using h1
        | j + 2, hq => simp at hq
      refine w1_val (v := .agg #[a, b]) ?_ h
      have hr2 : (loadCells p 2).run P w = .ok #[a, b] w := by simpa using hr
      simp [execOp, Instr.loadAt, Instr.sureAddr, hx, loadVar, ha, sizeOf, typeInfo, hi, hs, hr2]
  · omega
end
end Gv
end Go.Proofs.YtocgehoffdjijaaGreat

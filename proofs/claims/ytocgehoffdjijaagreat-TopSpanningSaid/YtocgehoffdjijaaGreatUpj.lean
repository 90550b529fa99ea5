/- 'uptoj': stop where an 'if' begins that has its work in region i before its test. -/
import Derived.Test.YtocgehoffdjijaaGreatBools
namespace Go.Proofs.YtocgehoffdjijaaGreat
namespace Gv
def notReg2 (i : Nat) : Code → Bool
  | .seq (.region j _ _) _ => !(Nat.beq j i)
  | _ => true
theorem wc_seq_ne2 {P : Program} {Q : Exit → Env → World → Prop} {ρ : Env} {w : World} {a b : Code} (i : Nat) (_ : notReg2 i a = true) (h : wc P a (thenQ (wc P b Q) Q) ρ w) : wc P (.seq a b) Q ρ w := wc_seq h
section
variable {P : Program} {ρ : Env} {w : World} {d : Nat} {ty : TypeId} {pos : String} {aft : Array Edge} {gd : Option (Nat × Bool)} {c a b : Operand}
theorem rv_move_v {x : Operand} {v : Value} (h : ev ρ x = v) : (execOp (ev ρ) ⟨some d, .move x, ty, pos, aft, gd⟩).run P w = .ok (.value v) w := by rw [← h]; rfl
theorem rv_pick_tb {t : Bool} (hc : ev ρ c = .bool true) (ha : ev ρ a = .bool t) : (execOp (ev ρ) ⟨some d, .pick c a b, ty, pos, aft, gd⟩).run P w = .ok (.value (.bool t)) w := by simp [execOp, hc, ha, asBool]
theorem rv_pick_fb {t : Bool} (hc : ev ρ c = .bool false) (ha : ev ρ b = .bool t) : (execOp (ev ρ) ⟨some d, .pick c a b, ty, pos, aft, gd⟩).run P w = .ok (.value (.bool t)) w := by simp [execOp, hc, ha, asBool]
theorem rv_pick_t (hc : ev ρ c = .bool true) : (execOp (ev ρ) ⟨some d, .pick c a b, ty, pos, aft, gd⟩).run P w = .ok (.value (ev ρ a)) w := by simp [execOp, hc, asBool]
theorem rv_pick_f (hc : ev ρ c = .bool false) : (execOp (ev ρ) ⟨some d, .pick c a b, ty, pos, aft, gd⟩).run P w = .ok (.value (ev ρ b)) w := by simp [execOp, hc, asBool]
end
end Gv
end Go.Proofs.YtocgehoffdjijaaGreat

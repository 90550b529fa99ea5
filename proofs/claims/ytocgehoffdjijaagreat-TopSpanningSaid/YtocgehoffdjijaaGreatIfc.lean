/- Interfaces: values made, asserted, their methods called; panics. -/
import Derived.Test.YtocgehoffdjijaaGreatStr
import Derived.Test.YtocgehoffdjijaaGreatAggN
namespace Go.Proofs.YtocgehoffdjijaaGreat
namespace Gv
open Go.RowKit
def concreteT (P : Program) (t : TypeId) : Bool := match P.underlying t with | some (.interface _) => false | some _ => true | none => false
theorem concreteT_spec {P : Program} {t : TypeId} (h : concreteT P t = true) : ∃ u, P.underlying t = some u ∧ ∀ m, u ≠ .interface m := by
  unfold concreteT at h
  split at h
  · cases h
  · rename_i u hu hn
    exact ⟨_, hn, hu⟩
  · cases h
def zeroT (P : Program) (t : TypeId) : Option Value := (P.info? t).bind (·.zero)
/-- The method of a struct's type, by its name. -/
def methF (P : Program) (t : TypeId) (name : String) (f : FuncId) : Bool :=
  (match P.info? t with
    | some i => (match i.methods.find? (·.name == name) with | some m => m.path.isEmpty && (match m.func with | some (g, b) => Nat.beq g f && !b | none => false) | none => false)
    | none => false) && (match P.underlying t with | some (.struct _) => true | _ => false)
section
variable {P : Program} {st : Bool} {K : Env → World → Prop} {X : List PanicEntry → Env → World → Prop} {ρ : Env} {w : World} {d : Nat} {t s ty : TypeId} {pos : String} {aft : Array Edge} {gd : Option (Nat × Bool)} {x y : Operand} {v z : Value} {name : String} {f : FuncId}
theorem run_method {k : Nat} (h : methF P t name f = true) : (method (k + 1) t v name).run P w = .ok (f, v) w := by
  unfold methF at h
  simp only [Bool.and_eq_true] at h
  obtain ⟨h1, h2⟩ := h
  split at h1
  · rename_i i hi
    split at h1
    · rename_i m hm
      simp only [Bool.and_eq_true] at h1
      obtain ⟨hp, hf⟩ := h1
      split at hf
      · rename_i g b hfn
        simp only [Bool.and_eq_true, Bool.not_eq_true'] at hf
        obtain ⟨e, rfl⟩ := hf
        have e := Nat.eq_of_beq_eq_true e
        subst e
        split at h2
        · rename_i fs hu
          have hpl : m.path.toList = [] := by simpa using hp
          simp [method, typeInfo, hi, hm, hpl, follow, hfn, receiverAt, run_underlying hu, Place.get]
        · cases h2
      · cases hf
    · cases h1
  · cases h1
theorem run_invoke {ts : Array TypeId} {dd : Option Nat} (hx : ev ρ x = .iface t v) (hm : methF P t name f = true) (hf : callable P f = true) :
    (execOp (ev ρ) ⟨dd, .call ⟨.invoke x name, #[], ts⟩, ty, pos, aft, gd⟩).run P w = .ok (.enter f #[v]) w := by
  obtain ⟨k, hk⟩ : ∃ k, P.types.size + Made.depth = k + 1 := ⟨P.types.size + Made.depth - 1, by
    have : 0 < Made.depth := by decide
    omega⟩
  have h1 := run_method (P := P) (w := w) (k := k) (v := v) hm
  have h2 := run_callFunc (args := #[v]) hf w
  have hp : Sem.run P (Sem.program Sem.pure) w = .ok P w := rfl
  simp [execOp, resolve, invoke, callMethod, hx, hk, h1, h2, program, hp]
theorem r_invoke {ts : Array TypeId} {R : Value → World → Prop} (hx : ev ρ x = .iface t v) (hm : methF P t name f = true) (hf : callable P f = true) (hc : Calls P f #[v] w (Ret R)) (h : ∀ u w', R u w' → K (up ρ d u) w') :
    w1 P false ⟨some d, .call ⟨.invoke x name, #[], ts⟩, ty, pos, aft, gd⟩ K ρ w := by
  unfold w1
  rw [run_invoke hx hm hf]
  exact ⟨fun e => (by cases e), fun _ => hc.mono fun e w' ⟨u, he, hv⟩ => ⟨u, he, h u w' hv⟩⟩
/-- A method that only computes. -/
theorem r_invoke_q {ts : Array TypeId} {u : Value} (hx : ev ρ x = .iface t v) (hm : methF P t name f = true) (hf : callable P f = true) (hc : Calls P f #[v] w (Ret fun u' w' => u' = u ∧ w' = w)) (h : K (up ρ d u) w) :
    w1 P st ⟨some d, .call ⟨.invoke x name, #[], ts⟩, ty, pos, aft, gd⟩ K ρ w := by
  unfold w1
  rw [run_invoke hx hm hf]
  refine ⟨fun _ => ⟨rfl, u, hc.mono fun e w' ⟨u', he, hv⟩ => ⟨by rw [he, hv.1], hv.2⟩, h⟩, fun _ => hc.mono fun e w' ⟨u', he, hv⟩ => ⟨u', he, ?_⟩⟩
  rw [hv.1, hv.2]; exact h
theorem r_iface (ht : concreteT P t = true) (hx : ev ρ x = v) (h : K (up ρ d (.iface t v)) w) : w1 P st ⟨some d, .makeInterface t x, ty, pos, aft, gd⟩ K ρ w := by
  obtain ⟨u, hu, hn⟩ := concreteT_spec ht
  refine w1_val (v := .iface t v) ?_ h
  simp only [execOp, Instr.makeInterface, hx]
  cases u <;> first | exact absurd rfl (hn _) | simp [run_underlying hu]
theorem r_assert_t (ht : concreteT P t = true) (hx : ev ρ x = .iface t v) (h : K (up ρ d (.tuple #[v, .bool true])) w) : w1 P st ⟨some d, .typeAssert x s t true, ty, pos, aft, gd⟩ K ρ w := by
  obtain ⟨u, hu, hn⟩ := concreteT_spec ht
  refine w1_val (v := .tuple #[v, .bool true]) ?_ h
  simp only [execOp, Instr.typeAssert, hx]
  cases u <;> first | exact absurd rfl (hn _) | simp [run_underlying hu]
theorem r_assert_f {t' : TypeId} (ht : concreteT P t = true) (hx : ev ρ x = .iface t' v) (hne : Nat.beq t' t = false) (hz : zeroT P t = some z) (h : K (up ρ d (.tuple #[z, .bool false])) w) : w1 P st ⟨some d, .typeAssert x s t true, ty, pos, aft, gd⟩ K ρ w := by
  obtain ⟨u, hu, hn⟩ := concreteT_spec ht
  have hne' : t' ≠ t := fun e => by subst e; simp at hne
  unfold zeroT at hz
  obtain ⟨i, hi, hz⟩ := Option.bind_eq_some_iff.1 hz
  refine w1_val (v := .tuple #[z, .bool false]) ?_ h
  simp only [execOp, Instr.typeAssert, hx]
  cases u <;> first | exact absurd rfl (hn _) | simp [run_underlying hu, hne', zeroValue, typeInfo, hi, hz]
theorem r_assert (ht : concreteT P t = true) (hx : ev ρ x = .iface t v) (h : K (up ρ d v) w) : w1 P st ⟨some d, .typeAssert x s t false, ty, pos, aft, gd⟩ K ρ w := by
  obtain ⟨u, hu, hn⟩ := concreteT_spec ht
  refine w1_val (v := v) ?_ h
  simp only [execOp, Instr.typeAssert, hx]
  cases u <;> first | exact absurd rfl (hn _) | simp [run_underlying hu]
/-- 'panic(v)'. -/
theorem p_panic {dd : Option Nat} (hx : ev ρ x = .iface t v) (h : X [{ v := .iface t v, recovered := false }] ρ w) : w1P P ⟨dd, .panic x, ty, pos, aft, gd⟩ K X ρ w := by
  unfold w1P
  have : (execOp (ev ρ) ⟨dd, .panic x, ty, pos, aft, gd⟩).run P w = .halt (.panic (.iface t v)) w := by
    simp [execOp, Instr.panic, hx]
  rw [this]
  exact h
/-- A call of a function that may panic. -/
theorem p_call {f : FuncId} {xs : List Operand} {ts : Array TypeId} {R : Value → World → Prop} {Y : List PanicEntry → World → Prop} (hf : callable P f = true) (hc : Calls P f (xs.map (ev ρ)).toArray w (RetX R Y))
    (h : ∀ v w', R v w' → K (up ρ d v) w') (hY : ∀ ch w', Y ch w' → X ch ρ w') : w1P P ⟨some d, .call ⟨.value (.func f), xs.toArray, ts⟩, ty, pos, aft, gd⟩ K X ρ w := by
  unfold w1P
  rw [run_call hf]
  refine Calls.mono hc ?_
  rintro e w' (⟨v, he, hv⟩ | ⟨ch, he, hx⟩)
  · exact .inl ⟨v, he, h v w' hv⟩
  · exact .inr ⟨ch, he, hY ch w' hx⟩
end
def ifaceT (P : Program) (t : TypeId) : Bool := match P.underlying t with | some (.interface _) => true | _ => false
theorem ifaceT_spec {P : Program} {t : TypeId} (h : ifaceT P t = true) : ∃ m, P.underlying t = some (.interface m) := by
  unfold ifaceT at h; split at h
  · rename_i m hm; exact ⟨m, hm⟩
  · cases h
section
variable {P : Program} {st : Bool} {K : Env → World → Prop} {ρ : Env} {w : World} {d : Nat} {t t' s ty : TypeId} {pos : String} {aft : Array Edge} {gd : Option (Nat × Bool)} {x y : Operand} {v z : Value}
theorem run_ieq_nn (ht : ifaceT P t = true) (w : World) : (Op.equal t .nilIface .nilIface).run P w = .ok true w := by
  obtain ⟨m, hm⟩ := ifaceT_spec ht
  have h : ∀ d : Nat, (Op.equalIn (d + 1) t .nilIface .nilIface).run P w = .ok true w := fun d => by simp [Op.equalIn, run_underlying hm]
  simp [Op.equal, Op.maxDepth, h 9999]
theorem run_ieq_vn (ht : ifaceT P t = true) (w : World) : (Op.equal t (.iface t' v) .nilIface).run P w = .ok false w := by
  obtain ⟨m, hm⟩ := ifaceT_spec ht
  have h : ∀ d : Nat, (Op.equalIn (d + 1) t (.iface t' v) .nilIface).run P w = .ok false w := fun d => by simp [Op.equalIn, run_underlying hm]
  simp [Op.equal, Op.maxDepth, h 9999]
theorem r_ieq_t (ht : ifaceT P t = true) (hx : ev ρ x = .nilIface) (h : K (up ρ d (.bool true)) w) : w1 P st ⟨some d, .binOp .eql t x (.const .nilIface) s, ty, pos, aft, gd⟩ K ρ w := by
  refine w1_val (v := .bool true) ?_ h
  have hy : ev ρ (.const .nilIface) = .nilIface := rfl
  simp [execOp, hx, hy, eqGuard, binOp, run_ieq_nn ht]
theorem r_ieq_f (ht : ifaceT P t = true) (hx : ev ρ x = .iface t' v) (h : K (up ρ d (.bool false)) w) : w1 P st ⟨some d, .binOp .eql t x (.const .nilIface) s, ty, pos, aft, gd⟩ K ρ w := by
  refine w1_val (v := .bool false) ?_ h
  have hy : ev ρ (.const .nilIface) = .nilIface := rfl
  simp [execOp, hx, hy, eqGuard, binOp, run_ieq_vn ht]
theorem r_ine_f (ht : ifaceT P t = true) (hx : ev ρ x = .nilIface) (h : K (up ρ d (.bool false)) w) : w1 P st ⟨some d, .binOp .neq t x (.const .nilIface) s, ty, pos, aft, gd⟩ K ρ w := by
  refine w1_val (v := .bool false) ?_ h
  have hy : ev ρ (.const .nilIface) = .nilIface := rfl
  simp [execOp, hx, hy, eqGuard, binOp, run_ieq_nn ht]
theorem r_ine_t (ht : ifaceT P t = true) (hx : ev ρ x = .iface t' v) (h : K (up ρ d (.bool true)) w) : w1 P st ⟨some d, .binOp .neq t x (.const .nilIface) s, ty, pos, aft, gd⟩ K ρ w := by
  refine w1_val (v := .bool true) ?_ h
  have hy : ev ρ (.const .nilIface) = .nilIface := rfl
  simp [execOp, hx, hy, eqGuard, binOp, run_ieq_vn ht]
end
end Gv
end Go.Proofs.YtocgehoffdjijaaGreat

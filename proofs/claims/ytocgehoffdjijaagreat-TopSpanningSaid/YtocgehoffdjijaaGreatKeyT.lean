/- Maps whose keys are structs of two ints. -/
import Derived.Test.YtocgehoffdjijaaGreatKeyP
import Derived.Test.YtocgehoffdjijaaGreatEqA
namespace Go.Proofs.YtocgehoffdjijaaGreat
namespace Gv
open Go.WideMaps
section
variable {P : Program} {kt e : TypeId}
theorem key_str2 (h : eqInts P kt e 2 = true) {f0 f1 : Field} (hu : P.underlying kt = some (.struct #[f0, f1])) : KeyOf P kt encP := by
  have h' := h
  unfold eqInts at h'
  simp only [Bool.and_eq_true, Bool.not_eq_true', beq_iff_eq] at h'
  obtain ⟨⟨⟨⟨h1, h2⟩, _⟩, _⟩, h5⟩ := h'
  have he : P.underlying e = some (.int .i64) := by
    split at h1
    · assumption
    · cases h1
  rw [hu] at h5
  simp only [intFields, Bool.and_eq_true, bne_iff_ne, ne_eq, beq_iff_eq] at h5
  obtain ⟨⟨⟨⟨⟨n0, t0⟩, o0⟩, ⟨⟨n1, t1⟩, o1⟩, _⟩, _⟩, _⟩ := h5
  have henc : ∀ k : Int × Int, encP k = .agg (ints [k.1, k.2]).toArray := fun _ => rfl
  have heq : ∀ (w : World) (x y : Int × Int), (Op.equal kt (encP x) (encP y)).run P w = .ok (decide (x = y)) w := fun w x y => by
    have := run_eqA (w := w) h (A := [x.1, x.2]) (B := [y.1, y.2]) rfl rfl
    rw [show Op.equal kt (encP x) (encP y) = Op.equalIn 10000 kt (encP x) (encP y) from rfl, henc, henc, this]
    congr 1
    obtain ⟨a, b⟩ := x
    obtain ⟨c, d⟩ := y
    simp
  constructor
  · intro w b k
    have hck : ∀ (a : Int) (D : Nat), (Instr.checkKey b (D + 1) e (.int .i64 a)).run P w = .ok () w := fun a D => by simp [Instr.checkKey, run_underlying he]
    have p0 : (part e #[.int .i64 k.1, .int .i64 k.2] 0).run P w = .ok (.int .i64 k.1) w := run_part_plain w h2 rfl
    have p1 : (part e #[.int .i64 k.1, .int .i64 k.2] 1).run P w = .ok (.int .i64 k.2) w := run_part_plain w h2 rfl
    have hD : ∀ D : Nat, (Instr.checkKey b (D + 2) kt (encP k)).run P w = .ok () w := fun D => by
      unfold encP
      rw [Instr.checkKey]
      simp only [Sem.run_bind, run_underlying hu, Result.andThen_ok]
      rw [← Array.forIn_toList]
      simp [n0, n1, t0, t1, o0, o1, p0, p1, hck]
    exact hD 9998
  · intro w k m
    rw [run_findKey_eq w (by rw [hu])]
    have hh : ∀ (m : List ((Int × Int) × Value × Nat)) (i : Nat), (Instr.findAsking kt (encP k) (m.map (mkE encP)) i).run P w = .ok (fndI k m i) w := by
      intro m
      induction m with
      | nil => intro i; rfl
      | cons x r ih =>
        intro i
        simp only [List.map_cons, Instr.findAsking, mkE, Sem.run_bind, heq, Result.andThen_ok, fndI]
        by_cases hk : k = x.1
        · simp [hk]
        · simp only [hk, decide_false, if_false, Bool.false_eq_true]
          exact ih (i + 1)
    exact hh m 0
  · intro k
    unfold encP
    simp [Instr.sameBits]
end
end Gv
end Go.Proofs.YtocgehoffdjijaaGreat

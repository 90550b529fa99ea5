/- The row ForksVectors: it holds for every input. -/
import Derived.ChangeMaps5
import Derived.Test.YtkdakleckdkhiaaLift2
import Derived.Test.YtkdakleckdkhiaaXVec
namespace Go.Proofs.Ytkdakleckdkhiaa
open Go.ChangeShapes Go.WideShapes Go.ChangeAt Go.RowKit Go.WideMaps Gv

set_option maxRecDepth 100000 in
theorem forksVectors_lifted (os : Os) (started : os.Started) (H : Type) (enc : TypeId × Value → H) :
    ReturnsInHanded {} Try.checked os 15 .any (Rows.forksVectorsSpec.pre6 enc Try.prog Try.f15 Rows.forksVectorsRow.domain false) (Rows.forksVectorsSpec.post enc Try.prog Try.f15 false true false false) := by
  refine returnsInHanded_of_change (C := Try.checked) Try.own started (by kernel_rfl) Try.func15
    (ChangeSpec.witness6 (enc := enc) (C := Try.checked) false ⟨#[], #[.string ⟨#[]⟩], []⟩ 8 (by kernel_rfl) (by kernel_rfl) (by kernel_rfl) (by kernel_rfl)) ?_
  intro W base args ds gs before hval0 hW hcnd _
  have hval : ∀ (j : Nat) t v, Try.f15.params[j]? = some t → args[j]? = some v → Value.okWide Try.prog W .any base t v := hval0
  have hW' := hW
  obtain ⟨p, q, hA0, hV, rfl, hfz, hnd⟩ := hW
  have hA : DataW.TrodAll enc Try.prog W 0 (fun _ => true) true Try.f15.params.toList args.toList ds p := hA0
  rw [Try.params15] at hA hval
  obtain ⟨v0, d0, rfl, rfl, h0⟩ := trodAll_one hA
  obtain ⟨rfl, rfl⟩ := trodVars_none hV
  obtain ⟨sb0, rfl, rfl, rfl, ws0⟩ := Go.ChangeMaps.open_string Try.underlying9 (hval 0 9 v0 rfl rfl) h0
  obtain ⟨a0, rfl⟩ : ∃ l : List UInt8, sb0 = ⟨l.toArray⟩ := ⟨sb0.data.toList, by cases sb0; simp⟩
  clear hA0 hval0
  simp only [List.append_nil] at hW'
  refine (vectors_law a0 W).mono fun e W' he => ?_
  obtain ⟨v, rfl, rfl, hE⟩ := he
  refine ⟨_, rfl, law_post (tb := 4) Try.laidOut hW' (by decide +kernel) rfl Try.underlying4 rfl rfl hE.below⟩
theorem forksVectors_holds : Rows.ForksVectorsSaid :=
  OpenClaim.holds_of_wide 15 Try.f15 rfl rfl rfl rfl rfl rfl rfl ⟨rfl, rfl, rfl, rfl, rfl⟩ rfl rfl rfl rfl rfl (by kernel_rfl) Try.func15 (by kernel_rfl)
    (of_decide_eq_true (by kernel_rfl)) (by unfold Func.isWrapper; first | (rw [if_pos (by decide +kernel)]; kernel_rfl) | (rw [if_neg (by decide +kernel)]; exact ⟨rfl, rfl⟩))
    (fun os started H enc _ => forksVectors_lifted os started H enc)
end Go.Proofs.Ytkdakleckdkhiaa

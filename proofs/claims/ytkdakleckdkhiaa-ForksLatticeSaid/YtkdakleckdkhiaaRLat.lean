/- The row ForksLattice: it holds for every input. -/
import Derived.Test.YtkdakleckdkhiaaLiftR
import Derived.Test.YtkdakleckdkhiaaXLat
namespace Go.Proofs.Ytkdakleckdkhiaa
open Go.ChangeShapes Go.WideShapes Go.ChangeAt Go.RowKit Go.WideMaps Gv
theorem arrForksLattice69 : ArrOf Try.prog 69 22 3 := ⟨Try.underlying69, by kernel_rfl, by kernel_rfl⟩
set_option maxRecDepth 100000 in
theorem forksLattice_lifted (os : Os) (started : os.Started) (H : Type) (enc : TypeId × Value → H) :
    ReturnsInHanded {} Try.checked os 13 .any (Rows.forksLatticeSpec.pre6 enc Try.prog Try.f13 Rows.forksLatticeRow.domain false) (Rows.forksLatticeSpec.post enc Try.prog Try.f13 false true false false) := by
  refine returnsInHanded_of_change (C := Try.checked) Try.own started (by kernel_rfl) Try.func13
    (ChangeSpec.witness6 (enc := enc) (C := Try.checked) false ⟨#[], #[.int .i64 0, .agg #[.slice none 0 0, .slice none 0 0, .slice none 0 0]], []⟩ 8 (by kernel_rfl) (by kernel_rfl) (by kernel_rfl) (by kernel_rfl)) ?_
  intro W base args ds gs before hval0 hW hcnd _
  have hval : ∀ (j : Nat) t v, Try.f13.params[j]? = some t → args[j]? = some v → Value.okWide Try.prog W .any base t v := hval0
  have hW' := hW
  obtain ⟨p, q, hA0, hV, rfl, hfz, hnd⟩ := hW
  have hA : DataW.TrodAll enc Try.prog W 0 (fun _ => true) true Try.f13.params.toList args.toList ds p := hA0
  rw [Try.params13] at hA hval
  obtain ⟨v0, v1, d0, d1, p0, p1, rfl, rfl, rfl, h0, h1⟩ := trodAll_two hA
  obtain ⟨rfl, rfl⟩ := trodVars_none hV
  obtain ⟨a0, rfl, rfl, rfl, wa0⟩ := open_int Try.underlying3 (hval 0 3 v0 rfl rfl) h0
  obtain ⟨xs1, rfl, hxs1⟩ := okWide_arrOf arrForksLattice69 (hval 1 69 v1 rfl rfl)
  obtain ⟨_, _, _, A1, B1, C1, rfl, hA1, hB1, hC1⟩ := open_arr3 arrForksLattice69 Try.underlying22 Try.underlying3 (by kernel_rfl) hxs1 h1
  clear hA0 hval0
  simp only [List.append_nil] at hW'
  refine (lattice_law a0 _ _ _ A1 B1 C1 W hA1.1 hB1.1 hC1.1 hA1.2 hB1.2 hC1.2).mono fun e W' he => ?_
  obtain ⟨v, rfl, rfl, hE⟩ := he
  refine ⟨_, rfl, law_post (tb := 4) Try.laidOut hW' (by decide +kernel) rfl Try.underlying4 rfl rfl hE.below⟩
theorem forksLattice_holds : Rows.ForksLatticeSaid :=
  OpenClaim.holds_of_wide 13 Try.f13 rfl rfl rfl rfl rfl rfl rfl ⟨rfl, rfl, rfl, rfl, rfl⟩ rfl rfl rfl rfl rfl (by kernel_rfl) Try.func13 (by kernel_rfl)
    (of_decide_eq_true (by kernel_rfl)) (by unfold Func.isWrapper; first | (rw [if_pos (by decide +kernel)]; kernel_rfl) | (rw [if_neg (by decide +kernel)]; exact ⟨rfl, rfl⟩))
    (fun os started H enc _ => forksLattice_lifted os started H enc)
end Go.Proofs.Ytkdakleckdkhiaa

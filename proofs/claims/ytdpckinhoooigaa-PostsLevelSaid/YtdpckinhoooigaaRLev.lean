/- The row PostsLevel: it holds for every input. -/
import Derived.Test.YtdpckinhoooigaaLift2
import Derived.Test.YtdpckinhoooigaaXLev
namespace Go.Proofs.Ytdpckinhoooigaa
open Go.ChangeShapes Go.WideShapes Go.ChangeAt Go.RowKit Go.WideMaps Gv

set_option maxRecDepth 100000 in
theorem postsLevel_lifted (os : Os) (started : os.Started) (H : Type) (enc : TypeId × Value → H) :
    ReturnsInHanded {} Try.checked os 6 .any (Rows.postsLevelSpec.pre6 enc Try.prog Try.f6 Rows.postsLevelRow.domain false) (Rows.postsLevelSpec.post enc Try.prog Try.f6 false true false false) := by
  refine returnsInHanded_of_change (C := Try.checked) Try.own started (by kernel_rfl) Try.func6
    (ChangeSpec.witness6 (enc := enc) (C := Try.checked) false ⟨#[], #[.int .i64 0, .slice none 0 0], []⟩ 8 (by kernel_rfl) (by kernel_rfl) (by kernel_rfl) (by kernel_rfl)) ?_
  intro W base args ds gs before hval0 hW hcnd _
  have hval : ∀ (j : Nat) t v, Try.f6.params[j]? = some t → args[j]? = some v → Value.okWide Try.prog W .any base t v := hval0
  have hW' := hW
  obtain ⟨p, q, hA0, hV, rfl, hfz, hnd⟩ := hW
  have hA : DataW.TrodAll enc Try.prog W 0 (fun _ => true) true Try.f6.params.toList args.toList ds p := hA0
  rw [Try.params6] at hA hval
  obtain ⟨v0, v1, d0, d1, p0, p1, rfl, rfl, rfl, h0, h1⟩ := trodAll_two hA
  obtain ⟨rfl, rfl⟩ := trodVars_none hV
  obtain ⟨a0, rfl, rfl, rfl, wa0⟩ := open_int Try.underlying3 (hval 0 3 v0 rfl rfl) h0
  obtain ⟨pa1, la1, ca1, rfl⟩ := okWide_slice Try.underlying22 (hval 1 22 v1 rfl rfl)
  obtain ⟨T1, hT1, hTl1, _⟩ := open_tab Try.underlying22 Try.underlying27 Try.underlying3 (by kernel_rfl) (by kernel_rfl) rfl h1
  clear hA0 hval0
  simp only [List.append_nil] at hW'
  refine (plevel_any a0 _ T1 W hT1).mono fun e W' he => ?_
  obtain ⟨v, rfl, rfl, hE⟩ := he
  refine ⟨_, rfl, law_post (tb := 4) Try.laidOut hW' (by decide +kernel) rfl Try.underlying4 rfl rfl hE.below⟩
theorem postsLevel_holds : Rows.PostsLevelSaid :=
  OpenClaim.holds_of_wide 6 Try.f6 rfl rfl rfl rfl rfl rfl rfl ⟨rfl, rfl, rfl, rfl, rfl⟩ rfl rfl rfl rfl rfl (by kernel_rfl) Try.func6 (by kernel_rfl)
    (of_decide_eq_true (by kernel_rfl)) (by unfold Func.isWrapper; first | (rw [if_pos (by decide +kernel)]; kernel_rfl) | (rw [if_neg (by decide +kernel)]; exact ⟨rfl, rfl⟩))
    (fun os started H enc _ => postsLevel_lifted os started H enc)
end Go.Proofs.Ytdpckinhoooigaa

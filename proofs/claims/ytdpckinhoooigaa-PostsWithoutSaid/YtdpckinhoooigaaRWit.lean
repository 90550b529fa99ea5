/- posts: the row PostsWithout. -/
import Derived.Test.YtdpckinhoooigaaLift
import Derived.Test.YtdpckinhoooigaaXWit
namespace Go.Proofs.Ytdpckinhoooigaa
open Go.ChangeShapes Go.WideShapes Go.ChangeAt Go.RowKit Go.WideMaps Gv
theorem arr23 : ArrKey Try.prog 23 3 2 := ⟨Try.underlying23, by kernel_rfl, by kernel_rfl, by kernel_rfl⟩
set_option maxRecDepth 100000 in
theorem postsWithout_lifted (os : Os) (started : os.Started) (H : Type) (enc : TypeId × Value → H) :
    ReturnsInHanded {} Try.checked os 4 .any (Rows.postsWithoutSpec.pre6 enc Try.prog Try.f4 Rows.postsWithoutRow.domain false) (Rows.postsWithoutSpec.post enc Try.prog Try.f4 false true false false) := by
  refine returnsInHanded_of_change (C := Try.checked) Try.own started (by kernel_rfl) Try.func4
    (ChangeSpec.witness6 (enc := enc) (C := Try.checked) false ⟨#[], #[.slice none 0 0, .agg #[.int .i64 0, .int .i64 0]], []⟩ 8 (by kernel_rfl) (by kernel_rfl) (by kernel_rfl) (by kernel_rfl)) ?_
  intro W base args ds gs before hval0 hW hcnd _
  have hval : ∀ (j : Nat) t v, Try.f4.params[j]? = some t → args[j]? = some v → Value.okWide Try.prog W .any base t v := hval0
  have hW' := hW
  obtain ⟨p, q, hA0, hV, rfl, hfz, hnd⟩ := hW
  have hA : DataW.TrodAll enc Try.prog W 0 (fun _ => true) true Try.f4.params.toList args.toList ds p := hA0
  rw [Try.params4] at hA hval
  obtain ⟨v0, v1, d0, d1, p0, p1, rfl, rfl, rfl, h0, h1⟩ := trodAll_two hA
  obtain ⟨rfl, rfl⟩ := trodVars_none hV
  obtain ⟨pa, la, ca, rfl⟩ := okWide_slice Try.underlying22 (hval 0 22 v0 rfl rfl)
  obtain ⟨T, hT, hTl, _⟩ := open_tab Try.underlying22 Try.underlying27 Try.underlying3 (by kernel_rfl) (by kernel_rfl) rfl h0
  obtain ⟨xs, rfl, hxs⟩ := okWide_arr arr23 (hval 1 23 v1 rfl rfl)
  obtain ⟨b, c, rfl⟩ := open_pair arr23 Try.underlying3 hxs h1
  clear hA0 hval0
  simp only [List.append_nil] at hW'
  refine (wit_any b c _ T W hT hTl).mono fun e W' he => ?_
  obtain ⟨v, rfl, rfl, hE⟩ := he
  refine ⟨_, rfl, law_post (tb := 4) Try.laidOut hW' (by decide +kernel) rfl Try.underlying4 rfl rfl hE.below⟩
theorem postsWithout_holds : Rows.PostsWithoutSaid :=
  OpenClaim.holds_of_wide 4 Try.f4 rfl rfl rfl rfl rfl rfl rfl ⟨rfl, rfl, rfl, rfl, rfl⟩ rfl rfl rfl rfl rfl (by kernel_rfl) Try.func4 (by kernel_rfl)
    (of_decide_eq_true (by kernel_rfl)) (by unfold Func.isWrapper; first | (rw [if_pos (by decide +kernel)]; kernel_rfl) | (rw [if_neg (by decide +kernel)]; exact ⟨rfl, rfl⟩))
    (fun os started H enc _ => postsWithout_lifted os started H enc)
end Go.Proofs.Ytdpckinhoooigaa

/- Plain law: the permanent by the numbers of a row. No program in sight. -/
import Derived.Test.YtdpckinhoooigaaPMath2
namespace Go.Proofs.Ytdpckinhoooigaa
namespace PM
theorem sumL_perm {C C' : List Nat} (h : C.Perm C') (f : Nat → Int) : sumL C f = sumL C' f := by
  induction h with
  | nil => rfl
  | cons x _ ih => simp only [sumL_cons, ih]
  | swap x y l => simp only [sumL_cons]; omega
  | trans _ _ ih1 ih2 => exact ih1.trans ih2
theorem pL_permC : ∀ (R : List (Nat → Int)) {C C' : List Nat}, C.Perm C' → pL R C = pL R C'
  | [], C, C', h => by
    simp only [pL]
    by_cases e : C = []
    · subst e; rw [List.nil_perm.1 h]
    · rw [if_neg e, if_neg (fun e' => e (by subst e'; exact List.perm_nil.1 h))]
  | r :: rs, C, C', h => by
    simp only [pL]
    rw [sumL_perm h]
    apply sumL_congr
    intro c _
    rw [pL_permC rs (h.erase c)]
theorem map_erase_inj {f : Nat → Nat} (hf : ∀ a b, f a = f b → a = b) (c : Nat) : ∀ C : List Nat, (C.map f).erase (f c) = (C.erase c).map f
  | [] => rfl
  | a :: C => by
    by_cases e : a = c
    · subst e; simp
    · have : f a ≠ f c := fun h => e (hf _ _ h)
      rw [List.map_cons, List.erase_cons_tail (by simpa using this), List.erase_cons_tail (by simpa using e), List.map_cons, map_erase_inj hf c C]
theorem pL_mapC {f : Nat → Nat} (hf : ∀ a b, f a = f b → a = b) : ∀ (R : List (Nat → Int)) (C : List Nat), pL R (C.map f) = pL (R.map fun r c => r (f c)) C
  | [], C => by simp [pL]
  | r :: rs, C => by
    simp only [List.map_cons, pL]
    rw [show sumL (C.map f) (fun c => r c * pL rs ((C.map f).erase c)) = sumL C (fun c => r (f c) * pL rs ((C.map f).erase (f c))) by unfold sumL; rw [List.map_map]; rfl]
    apply sumL_congr
    intro c _
    rw [map_erase_inj hf, pL_mapC hf rs]
/-- The places behind c moved up. -/
def skip (c k : Nat) : Nat := if k < c then k else k + 1
theorem skip_inj (c : Nat) : ∀ a b, skip c a = skip c b → a = b := by
  intro a b; unfold skip; split <;> split <;> omega
theorem skip_perm {n c : Nat} (hc : c < n + 1) : ((List.range (n + 1)).erase c).Perm ((List.range n).map (skip c)) := by
  rw [List.perm_ext_iff_of_nodup]
  · intro a
    rw [List.nodup_range.mem_erase_iff]
    simp only [List.mem_range, List.mem_map]
    constructor
    · rintro ⟨h1, h2⟩
      by_cases e : a < c
      · exact ⟨a, by omega, by unfold skip; rw [if_pos e]⟩
      · exact ⟨a - 1, by omega, by unfold skip; rw [if_neg (by omega)]; omega⟩
    · rintro ⟨b, hb, rfl⟩
      unfold skip; split <;> omega
  · exact List.nodup_range.erase _
  · exact List.pairwise_map.2 (List.nodup_range.imp fun h e => h (skip_inj c _ _ e))
theorem per_expand {A : Nat → Nat → Int} {n i : Nat} (hi : i < n + 1) : per A (n + 1) = sumL (List.range (n + 1)) fun c => A i c * per (fun j k => A (skip i j) (skip c k)) n := by
  rw [per_row A hi]
  simp only [pL]
  apply sumL_congr
  intro c hc
  have hc' : c < n + 1 := by simpa using hc
  rw [pL_permC _ (skip_perm hc'), pL_perm ((skip_perm hi).map A), pL_mapC (skip_inj c), List.map_map, List.map_map]
  rfl
end PM
end Go.Proofs.Ytdpckinhoooigaa

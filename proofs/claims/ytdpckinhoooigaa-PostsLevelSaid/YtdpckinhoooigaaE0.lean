/- posts: small facts on tables. -/
import Derived.Test.YtdpckinhoooigaaL
namespace Go.Proofs.Ytdpckinhoooigaa
open Gv PM
theorem set_ent {T : List (List Int)} {i : Nat} {L : List Int} (hi : i < T.length) (r c : Nat) : ent (T.set i L) r c = if r = i then L.getD c 0 else ent T r c := by
  unfold ent
  by_cases e : r = i
  · subst e; simp [List.getD, hi]
  · simp [List.getD, e, Ne.symm e]
theorem IsTab.setrow {T : List (List Int)} (hT : IsTab T) {i : Nat} {L : List Int} (h1 : L.length = T.length) (h2 : ∀ x ∈ L, 0 ≤ x ∧ x ≤ 9) : IsTab (T.set i L) := by
  refine ⟨by simpa using hT.1, fun l hl => ?_⟩
  rw [List.length_set]
  rcases List.mem_or_eq_of_mem_set hl with h | rfl
  · exact hT.2 l h
  · exact ⟨h1, h2⟩
theorem tab_row {T : List (List Int)} (hT : IsTab T) {i : Nat} (hi : i < T.length) : (T.getD i []).length = T.length ∧ ∀ x ∈ T.getD i [], 0 ≤ x ∧ x ≤ 9 := hT.2 _ (getD_mem hi)
theorem tab_copy {T : List (List Int)} (hT : IsTab T) : (T.take 11).map (·.take 12) = T := by
  have h := hT.1
  rw [List.take_of_length_le (by omega)]
  conv => rhs; rw [← List.map_id T]
  apply List.map_congr_left
  intro l hl
  have := (hT.2 l hl).1
  exact List.take_of_length_le (by omega)
/-- The permanent of a table. -/
def perT (T : List (List Int)) : Int := per (ent T) T.length
theorem perT_bnd {T : List (List Int)} (hT : IsTab T) : 0 ≤ perT T ∧ perT T ≤ 12652843234348800 := by
  unfold perT
  rw [← pmI_per]
  have hA : ∀ j c, j < T.length → c < T.length → 0 ≤ ent T j c ∧ ent T j c ≤ 9 := fun j c hj hc => ent_ok hT hj hc
  have h1 := pmI_nonneg (A := ent T) (n := T.length) (i := T.length) (2 ^ T.length - 1) fun j c hj hc => (hA j c hj hc).1
  have h2 := pmI_le (A := ent T) (n := T.length) (i := T.length) (2 ^ T.length - 1) hA
  have h3 := bnd9_ten hT.1
  omega
theorem perm_any (v : Value) (T : List (List Int)) (hT : IsTab T) (w : World) (h : Tab w v T) :
    Calls Try.prog 21 #[v] w (Ret fun v w' => v = .tuple #[.int .i64 (perT T), .int .i64 0] ∧ Ext w w') := by
  have h1 := hT.1
  refine (permanent_any v T w h (by omega) fun l hl => by rw [(hT.2 l hl).1]; omega).mono ?_
  rintro e w' ⟨v', rfl, rfl, hE⟩
  refine ⟨_, rfl, ?_, hE⟩
  rw [if_pos hT, pmI_per]; rfl
theorem turnT_tab {T : List (List Int)} (hT : IsTab T) : IsTab (turnT T) := by
  refine ⟨by simpa [turnT] using hT.1, fun l hl => ?_⟩
  simp only [turnT, List.mem_map, List.mem_range] at hl
  obtain ⟨r, hr, rfl⟩ := hl
  refine ⟨by simp [turnT], fun x hx => ?_⟩
  simp only [List.mem_map, List.mem_range] at hx
  obtain ⟨c, hc, rfl⟩ := hx
  exact ent_ok hT hc hr
theorem turnT_per {T : List (List Int)} : perT (turnT T) = perT T := by
  unfold perT
  have hl : (turnT T).length = T.length := by simp [turnT]
  rw [hl, ← per_turn (ent T)]
  apply per_congr
  intro i c hi hc
  simp [ent, turnT, List.getD, hi, hc]
def sumR (T : List (List Int)) (i k : Nat) : List Int := (List.range T.length).map fun c => ent T i c + ent T k c
theorem exch_per {T : List (List Int)} {i k : Nat} (hi : i < T.length) (hk : k < T.length) : perT ((T.set i (T.getD k [])).set k (T.getD i [])) = perT T := by
  unfold perT
  simp only [List.length_set]
  rw [← per_exch hi hk (A := ent T)]
  apply per_congr
  intro r c hr hc
  rw [set_ent (by simpa using hk), set_ent hi]
  by_cases e1 : r = k
  · subst e1
    by_cases e2 : r = i
    · subst e2; simp [ent]
    · simp [e2, ent]
  · by_cases e2 : r = i
    · subst e2; simp [e1, ent]
    · simp [e1, e2]
theorem sum_per {T : List (List Int)} {i k : Nat} (hi : i < T.length) : perT (T.set i (sumR T i k)) = perT T + perT (T.set i (T.getD k [])) := by
  unfold perT
  simp only [List.length_set]
  have h := per_add (A := ent T) (n := T.length) (i := i) (k := k) hi
  have e1 : per (ent (T.set i (sumR T i k))) T.length = per (fun j c => if j = i then ent T i c + ent T k c else ent T j c) T.length := by
    apply per_congr
    intro r c hr hc
    rw [set_ent hi]
    simp [sumR, List.getD, hc]
  have e2 : per (ent (T.set i (T.getD k []))) T.length = per (fun j c => if j = i then ent T k c else ent T j c) T.length := by
    apply per_congr
    intro r c hr hc
    rw [set_ent hi]; rfl
  rw [e1, e2, h]
theorem ar23 : arrSz Try.prog 23 = some (2, 1) := by kernel_rfl
end Go.Proofs.Ytdpckinhoooigaa

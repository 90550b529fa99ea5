/- Plain law of TopSpanning: the streets' pairs, each once. No program in sight. -/
import Derived.Test.YtocgehoffdjijaaGreatTTr
namespace Go.Proofs.YtocgehoffdjijaaGreat
open Gv
set_option maxRecDepth 20000
/-- Whether a pair with such a number is in a list. -/
def metB (L : List (Int × Int)) (k : Nat) : Bool := L.any fun e => decide (16 * e.1 + e.2 = (k : Int))
def metV (L : List (Int × Int)) : List Value := (List.range 256).map fun k => .bool (metB L k)
theorem metV_len (L : List (Int × Int)) : (metV L).length = 256 := by simp [metV]
theorem metV_get (L : List (Int × Int)) {k : Nat} (hk : k < 256) : (metV L)[k]? = some (.bool (metB L k)) := by
  simp [metV, hk]
theorem metV_nil : metV [] = List.replicate 256 (.bool false) := by
  refine List.ext_getElem? fun k => ?_
  by_cases hk : k < 256
  · rw [metV_get _ hk, List.getElem?_replicate, if_pos hk]; rfl
  · rw [List.getElem?_eq_none (by rw [metV_len]; omega), List.getElem?_eq_none (by rw [List.length_replicate]; omega)]
theorem metB_app (L : List (Int × Int)) (e : Int × Int) (k : Nat) : metB (L ++ [e]) k = (metB L k || decide (16 * e.1 + e.2 = (k : Int))) := by
  unfold metB; rw [List.any_append]; simp
theorem metV_set (L : List (Int × Int)) {e : Int × Int} {c : Nat} (he : 16 * e.1 + e.2 = (c : Int)) : (metV L).set c (.bool true) = metV (L ++ [e]) := by
  refine List.ext_getElem? fun k => ?_
  by_cases hk : k < 256
  · rw [metV_get _ hk, metB_app, List.getElem?_set]
    by_cases e1 : c = k
    · subst e1
      rw [if_pos rfl, if_pos (by rw [metV_len]; exact hk), decide_eq_true he, Bool.or_true]
    · rw [if_neg e1, metV_get _ hk, decide_eq_false (by omega), Bool.or_false]
  · rw [List.getElem?_eq_none (by rw [List.length_set, metV_len]; omega), List.getElem?_eq_none (by rw [metV_len]; omega)]
/-- A street's number. -/
def numS (S : List N3) (k : Nat) : Nat := 16 * min (st S k).1 (st S k).2.1 + max (st S k).1 (st S k).2.1
theorem numS_eq (S : List N3) (k : Nat) : 16 * (edS S k).1 + (edS S k).2 = ((numS S k : Nat) : Int) := by
  unfold edS numS; dsimp only; omega
/-- The pairs of the first streets, each once. -/
def aL (S : List N3) : Nat → List (Int × Int)
  | 0 => []
  | i + 1 => if metB (aL S i) (numS S i) = true then aL S i else aL S i ++ [edS S i]
theorem aL_mem (S : List N3) : ∀ {i : Nat} {e}, e ∈ aL S i → ∃ k, k < i ∧ e = edS S k
  | 0, _, h => by cases h
  | i + 1, e, h => by
    simp only [aL] at h
    split at h
    · obtain ⟨k, hk, he⟩ := aL_mem S h; exact ⟨k, by omega, he⟩
    · rcases List.mem_append.1 h with h | h
      · obtain ⟨k, hk, he⟩ := aL_mem S h; exact ⟨k, by omega, he⟩
      · rw [List.mem_singleton] at h; exact ⟨i, by omega, h⟩
theorem aL_len (S : List N3) : ∀ i, (aL S i).length ≤ i
  | 0 => Nat.le_refl _
  | i + 1 => by
    have := aL_len S i
    simp only [aL]
    split
    · omega
    · rw [List.length_append, List.length_singleton]; omega
section
variable {n : Nat} {S : List N3}
theorem edS_lt (hS : NetOk n S) {k : Nat} (hk : k < S.length) : 0 ≤ (edS S k).1 ∧ (edS S k).1 < (edS S k).2 ∧ (edS S k).2 < (n : Int) := by
  obtain ⟨h1, h2, h3, _⟩ := hS.ok k hk
  unfold edS
  dsimp only
  omega
theorem edS_inj (hS : NetOk n S) {j k : Nat} (hj : j < S.length) (hk : k < S.length) (h : 16 * (edS S j).1 + (edS S j).2 = 16 * (edS S k).1 + (edS S k).2) : edS S j = edS S k := by
  have h1 := edS_lt hS hj
  have h2 := edS_lt hS hk
  have := hS.n16
  exact Prod.ext (by omega) (by omega)
theorem metB_iff (hS : NetOk n S) {i k : Nat} (hi : i ≤ S.length) (hk : k < S.length) : metB (aL S i) (numS S k) = true ↔ edS S k ∈ aL S i := by
  unfold metB
  rw [List.any_eq_true]
  constructor
  · rintro ⟨e, he, h⟩
    obtain ⟨j, hj, rfl⟩ := aL_mem S he
    have h' := of_decide_eq_true h
    rw [← numS_eq] at h'
    rw [← edS_inj hS (by omega) hk h']
    exact he
  · intro h; exact ⟨_, h, decide_eq_true (numS_eq S k)⟩
theorem aL_all (hS : NetOk n S) : ∀ {i : Nat}, i ≤ S.length → ∀ k, k < i → edS S k ∈ aL S i
  | 0, _, k, hk => by omega
  | i + 1, hi, k, hk => by
    simp only [aL]
    by_cases c : k < i
    · have := aL_all hS (i := i) (by omega) k c
      split
      · exact this
      · exact List.mem_append_left _ this
    · obtain rfl : k = i := by omega
      split
      · rename_i h; exact (metB_iff hS (by omega) (by omega)).1 h
      · exact List.mem_append_right _ (List.mem_singleton.2 rfl)
theorem aL_nodup (hS : NetOk n S) : ∀ {i : Nat}, i ≤ S.length → (aL S i).Nodup
  | 0, _ => List.nodup_nil
  | i + 1, hi => by
    have ih := aL_nodup hS (i := i) (by omega)
    simp only [aL]
    split
    · exact ih
    · rename_i h
      refine List.nodup_append.2 ⟨ih, List.nodup_cons.2 ⟨List.not_mem_nil, List.nodup_nil⟩, fun a ha b hb e => ?_⟩
      rw [List.mem_singleton] at hb
      subst hb
      subst e
      exact h ((metB_iff hS (by omega) (by omega)).2 ha)
theorem ed_mem {L : List (Int × Int)} {k : Nat} (hk : k < L.length) : Bg.ed L k ∈ L := by
  unfold Bg.ed
  rw [List.getD_eq_getElem?_getD, List.getElem?_eq_getElem hk]; exact List.getElem_mem hk
theorem aL_G (hS : NetOk n S) : ∀ k, k < (aL S S.length).length → (0 ≤ (Bg.ed (aL S S.length) k).1 ∧ (Bg.ed (aL S S.length) k).1 < (Bg.ed (aL S S.length) k).2 ∧ (Bg.ed (aL S S.length) k).2 < (n : Int)) ∧ ∀ j, j < k → Bg.ed (aL S S.length) j ≠ Bg.ed (aL S S.length) k := by
  intro k hk
  obtain ⟨i, hi, he⟩ := aL_mem S (ed_mem hk)
  refine ⟨he ▸ edS_lt hS hi, fun j hj e => ?_⟩
  have hnd := aL_nodup hS (Nat.le_refl S.length)
  have h2 := List.pairwise_iff_getElem.1 hnd j k (by omega) hk hj
  unfold Bg.ed at e
  rw [List.getD_eq_getElem?_getD, List.getD_eq_getElem?_getD, List.getElem?_eq_getElem hk, List.getElem?_eq_getElem (show j < _ by omega)] at e
  exact h2 e
theorem aL_isG (hS : NetOk n S) : Bg.IsG (n : Int) (aL S S.length) := isG_of ⟨hS.n1, hS.n16⟩ (aL_G hS)
theorem aL_inc (hS : NetOk n S) (hn : 2 ≤ n) (hl : Linked n S) {v : Nat} (hv : v < n) : ∃ k, k < (aL S S.length).length ∧ ((Bg.ed (aL S S.length) k).1 = (v : Int) ∨ (Bg.ed (aL S S.length) k).2 = (v : Int)) := by
  have key : ∀ j, j < S.length → (st S j).1 = v ∨ (st S j).2.1 = v → ∃ k, k < (aL S S.length).length ∧ ((Bg.ed (aL S S.length) k).1 = (v : Int) ∨ (Bg.ed (aL S S.length) k).2 = (v : Int)) := fun j hj h => by
    obtain ⟨k, hk, e⟩ := List.getElem_of_mem (aL_all hS (Nat.le_refl _) j hj)
    refine ⟨k, hk, ?_⟩
    have e2 : Bg.ed (aL S S.length) k = edS S j := by unfold Bg.ed; simp [List.getD, hk, e]
    rw [e2]
    unfold edS
    dsimp only
    omega
  by_cases c : v = 0
  · obtain ⟨j, hj, u, hu, h⟩ := hl 1 (Nat.le_refl _) (by omega)
    exact key j hj (by omega)
  · obtain ⟨j, hj, u, hu, h⟩ := hl v (by omega) hv
    exact key j hj (by omega)
theorem aL_core (hS : NetOk n S) (hn : 2 ≤ n) (hl : Linked n S) {v : Nat} (hv : v < n) : 1 ≤ (Bg.peC (aL S S.length) n n).getD v 0 := core_pos (fun k hk => (aL_G hS k hk).1) (fun _ h => aL_inc hS hn hl h) hv
end
theorem trL_take {S : List N3} {T : List Nat} {i : Nat} (hi : i < T.length) : trL S (T.take (i + 1)) = trL S (T.take i) ++ [edS S (T.getD i 0)] := by
  unfold trL
  rw [List.take_add_one, List.getElem?_eq_getElem hi, List.map_append]
  simp [List.getD, hi]
/-- Streets, each of which is one, and the first links of a chain. -/
def Chn (n : Nat) (S : List N3) (v : Nat) : Prop := (∀ k, k < S.length → okS n (st S k)) ∧ ∀ u, 1 ≤ u → u < v → ∃ k, k < S.length ∧ (st S k).1 = u - 1 ∧ (st S k).2.1 = u
theorem st_app {S : List N3} {e : N3} {k : Nat} (hk : k < S.length + 1) : st (S ++ [e]) k = if k < S.length then st S k else e := by
  unfold st
  rw [List.getD_eq_getElem?_getD, List.getD_eq_getElem?_getD]
  split
  · rename_i h; rw [List.getElem?_append_left h]
  · obtain rfl : k = S.length := by omega
    simp
theorem Chn.add {n v : Nat} {S : List N3} (h : Chn n S v) {e : N3} (he : okS n e) : Chn n (S ++ [e]) v := by
  refine ⟨fun k hk => ?_, fun u h1 h2 => ?_⟩
  · rw [List.length_append, List.length_singleton] at hk
    rw [st_app hk]
    split
    · rename_i hk2; exact h.1 k hk2
    · exact he
  · obtain ⟨k, hk, e1, e2⟩ := h.2 u h1 h2
    exact ⟨k, by rw [List.length_append]; omega, by rw [st_app (by omega), if_pos hk]; exact e1, by rw [st_app (by omega), if_pos hk]; exact e2⟩
theorem Chn.link {n v : Nat} {S : List N3} (h : Chn n S v) (hv : 1 ≤ v ∧ v < n) : Chn n (S ++ [(v - 1, v, 500)]) (v + 1) := by
  have h2 := h.add (e := (v - 1, v, 500)) ⟨by dsimp only; omega, hv.2, by dsimp only; omega, by show (500 : Nat) ≤ 1000; decide⟩
  refine ⟨h2.1, fun u h3 h4 => ?_⟩
  by_cases c : u < v
  · exact h2.2 u h3 c
  · obtain rfl : u = v := by omega
    exact ⟨S.length, by rw [List.length_append, List.length_singleton]; omega, by rw [st_app (by omega), if_neg (by omega)], by rw [st_app (by omega), if_neg (by omega)]⟩
theorem Chn.linked {n : Nat} {S : List N3} (h : Chn n S n) : Linked n S := fun v h1 h2 => by
  obtain ⟨k, hk, e1, e2⟩ := h.2 v h1 h2
  exact ⟨k, hk, v - 1, by omega, .inl ⟨e1, e2⟩⟩
theorem Chn.net {n : Nat} {S : List N3} (h : Chn n S n) (hn : 1 ≤ n ∧ n ≤ 16) (hl : S.length ≤ 60) : NetOk n S := ⟨hn.1, hn.2, hl, h.1⟩
end Go.Proofs.YtocgehoffdjijaaGreat

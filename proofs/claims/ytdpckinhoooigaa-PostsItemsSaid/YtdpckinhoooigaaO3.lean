/- posts: choices and blocks, as lists and as functions. -/
import Derived.Test.YtdpckinhoooigaaO
import Derived.Test.YtdpckinhoooigaaPCount
namespace Go.Proofs.Ytdpckinhoooigaa
open Gv PM MM
theorem chB_choice {T : List (List Int)} {l : List Int} (h : ChB T l) : Choice T.length (ent T) fun k => (l.getD k 0).toNat := by
  obtain ⟨h1, h2⟩ := h
  refine ⟨fun r hr => ?_, fun r r' hlt hr' => ?_⟩
  · obtain ⟨a, b, c, _⟩ := h2 r (by omega)
    exact ⟨by show (l.getD r 0).toNat < T.length; omega, c⟩
  · obtain ⟨a, b, c, d⟩ := h2 r' (by omega)
    obtain ⟨a', _⟩ := h2 r (by omega)
    have := d r hlt
    show (l.getD r 0).toNat ≠ (l.getD r' 0).toNat
    omega
theorem nats_getD {l : List Nat} {k : Nat} : (nats l).getD k 0 = ((l.getD k 0 : Nat) : Int) := by
  unfold nats
  simp only [List.getD, List.getElem?_map]
  cases l[k]? <;> simp
theorem map_range_getD {n k : Nat} {p : Nat → Nat} (hk : k < n) : ((List.range n).map p).getD k 0 = p k := by simp [List.getD, hk]
theorem choice_chB {T : List (List Int)} {p : Nat → Nat} (h : Choice T.length (ent T) p) : ChB T (nats ((List.range T.length).map p)) := by
  have hl : (nats ((List.range T.length).map p)).length = T.length := by simp [nats]
  refine ⟨hl, fun i hi => ?_⟩
  rw [hl] at hi
  unfold ChAt
  have e : ∀ k, k < T.length → (nats ((List.range T.length).map p)).getD k 0 = ((p k : Nat) : Int) := fun k hk => by rw [nats_getD, map_range_getD hk]
  rw [e i hi, Int.toNat_natCast]
  refine ⟨by omega, by have := (h.1 i hi).1; omega, (h.1 i hi).2, fun j hj => ?_⟩
  rw [e j (by omega)]
  have := h.2 j i hj hi
  omega
theorem asc_lt {n : Nat} {l : List Int} (h : Asc n l) : ∀ {i j : Nat}, i < j → j < l.length → l.getD i 0 < l.getD j 0
  | i, 0, hij, _ => by omega
  | i, j + 1, hij, hj => by
    have h1 := (h (j + 1) hj).2.2 (by omega)
    rw [Nat.add_sub_cancel] at h1
    by_cases e : i = j
    · subst e; exact h1
    · exact Int.lt_trans (asc_lt h (by omega) (by omega)) h1
theorem blB_none {T : List (List Int)} {l : List Int} (h : BlB T l) {p : Nat → Nat} (hp : Choice T.length (ent T) p) : False := by
  obtain ⟨hA, hlt⟩ := h
  have h1 : ((List.range l.length).map fun i => p (l.getD i 0).toNat).Nodup := nodup_map List.nodup_range fun i j hi hj e => by
    simp only [List.mem_range] at hi hj
    obtain ⟨a1, a2, _⟩ := hA i hi
    obtain ⟨b1, b2, _⟩ := hA j hj
    have := hp.inj (by omega) (by omega) e
    rcases Nat.lt_trichotomy i j with h | h | h
    · have := asc_lt hA h hj; omega
    · exact h
    · have := asc_lt hA h hi; omega
  have h2 := nodup_len (b := usedC T l) h1 fun c hc => by
    obtain ⟨i, hi, rfl⟩ := List.mem_map.1 hc
    simp only [List.mem_range] at hi
    obtain ⟨a1, a2, _⟩ := hA i hi
    have := hp.1 (l.getD i 0).toNat (by omega)
    simp only [usedC, List.mem_filter, List.mem_range, decide_eq_true_eq]
    exact ⟨this.1, i, hi, this.2⟩
  simp at h2
  omega
theorem isBlock_blB {T : List (List Int)} {B : List Nat} (h : IsBlock T B) : BlB T (nats B) := by
  obtain ⟨h1, h2, h3, h4⟩ := h
  have hl : (nats B).length = B.length := nats_length B
  constructor
  · intro i hi
    rw [hl] at hi
    unfold AscAt
    rw [nats_getD, nats_getD]
    have hm : B.getD i 0 ∈ B := getD_mem hi
    refine ⟨by omega, by have := h3 _ hm; omega, fun h0 => ?_⟩
    have := List.pairwise_iff_getElem.1 h2 (i - 1) i (by omega) hi (by omega)
    rw [getD_lt hi, getD_lt (by omega : i - 1 < B.length)]
    omega
  · rw [hl]
    refine h4 _ (List.nodup_range.sublist List.filter_sublist) fun c hc => ?_
    simp only [usedC, List.mem_filter, List.mem_range, decide_eq_true_eq] at hc
    obtain ⟨hc1, j, hj, hc2⟩ := hc
    rw [hl] at hj
    rw [nats_getD, Int.toNat_natCast] at hc2
    exact ⟨hc1, _, getD_mem hj, hc2⟩
theorem perT_pos {T : List (List Int)} (hT : IsTab T) : 0 < perT T ↔ ∃ p, Choice T.length (ent T) p :=
  per_pos fun _ _ hr hc => (ent_ok hT hr hc).1
end Go.Proofs.Ytdpckinhoooigaa

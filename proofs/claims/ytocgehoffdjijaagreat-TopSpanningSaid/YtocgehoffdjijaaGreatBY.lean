/- bags: density of a set; bags: isSet; bags: Density. -/
import Derived.Test.YtocgehoffdjijaaGreatBX
import Derived.Test.YtocgehoffdjijaaGreatBPG
import Derived.Test.YtocgehoffdjijaaGreatEqA
/- bags: density of a set. -/
namespace Go.Proofs.YtocgehoffdjijaaGreat
namespace Bg
open Gv
abbrev inS (S : List Int) (a : Int) : Prop := ∃ i, i < S.length ∧ S.getD i 0 = a
/-- The edges with both ends in a set, of the first k. -/
def insE (L : List (Int × Int)) (S : List Int) : Nat → Nat
  | 0 => 0
  | k + 1 => insE L S k + if inS S (L.getD k (0, 0)).1 ∧ inS S (L.getD k (0, 0)).2 then 1 else 0
theorem insE_le {L : List (Int × Int)} {S : List Int} : ∀ {k : Nat}, insE L S k ≤ k
  | 0 => Nat.le_refl _
  | k + 1 => by
    have := insE_le (L := L) (S := S) (k := k)
    simp only [insE]; split <;> omega
set_option maxRecDepth 20000 in
set_option maxHeartbeats 4000000 in
theorem density_any (n : Int) (v vs : Value) (L : List (Int × Int)) (S : List Int) (w : World) (h : Pairs2 w v L) (hS : Ints w vs S) (hl : L.length ≤ 1000) (hs0 : 0 < S.length) (hsl : S.length ≤ 1000) :
    Calls Tryz.prog 52 #[.agg #[.int .i64 n, v], vs] w (Ret fun v' w' => v' = .agg #[.int .i64 ((insE L S L.length / Nat.gcd (insE L S L.length) S.length : Nat) : Int), .int .i64 ((S.length / Nat.gcd (insE L S L.length) S.length : Nat) : Int)] ∧ Ext w w') := by
  obtain ⟨q, c, rfl, hqc⟩ := h.slice
  obtain ⟨qs, cs, rfl, hqs⟩ := hS.slice
  refine calls_of_wc (args := [.agg #[.int .i64 n, .slice q L.length c], .slice qs S.length cs]) Tryz.func52 rfl ?_ ?_; kernel_rfl
  repeat' (first|refine za ?_|refine zc ?_|refine zd ?_)
  refine r_boxN (cells := [.int .i64 n, .slice q L.length c]) rfl fun w1 hb1 hE1 hs1 => ?_
  obtain ⟨b1, eb1⟩ : ∃ b, b = w.heap.size := ⟨_, rfl⟩
  rw [← eb1] at hb1 ⊢
  repeat' (refine za ?_)
  refine r_allocN z48 fun w2 hb2 hE2 hs2 => ?_
  obtain ⟨b2, eb2⟩ : ∃ b, b = w1.heap.size := ⟨_, rfl⟩
  rw [← eb2] at hb2 ⊢
  repeat' (first|refine za ?_|refine zB ?_|refine zb ?_|refine zc ?_|refine ze ?_|refine zd ?_)
  refine r_fa (off := 1) rfl rfl ?_
  repeat' (refine za ?_)
  refine r_ld rfl rfl ((hb1.ext hE2).rd (v := .slice q L.length c) rfl) ?_
  repeat' (first|refine za ?_|refine zA ?_|refine zb ?_|refine ze ?_|refine zK ?_|refine zl ?_)
  refine wc_loop [1, 4, 9, 10] (fun (i : Nat) => [(5, .int .i64 (insE L S i)), (11, .int .i64 i)]) (fun i wk => i ≤ L.length ∧ Ext w2 wk) (fun i => L.length - i) 0 rfl ⟨rfl, rfl, trivial⟩ ⟨by omega, Ext.refl _⟩ ?_
  rintro i wk x ⟨hi, hE⟩
  have hle := insE_le (L := L) (S := S) (k := i)
  have hE0 := (hE1.trans hE2).trans hE
  by_cases hin : i < L.length
  · obtain ⟨hr0, hr1⟩ := (h.ext hE0).rd hin
    have hps := h.isSome (by omega)
    have hst : insE L S (i + 1) = insE L S i + if inS S (L.getD i (0, 0)).1 ∧ inS S (L.getD i (0, 0)).2 then 1 else 0 := rfl
    generalize L.getD i (0, 0) = ab at *
    obtain ⟨a, b⟩ := ab
    repeat' (first|refine za ?_|refine zb ?_|refine zc ?_|refine ze ?_|refine zd ?_|refine zC ?_|refine zL ?_|refine zX ?_|refine zk ?_|refine zl ?_)
    refine r_ldP ag46 rfl hr0 hr1 ?_
    repeat' (refine za ?_)
    refine r_allocN z46 fun w3 hb3 hE3 hs3 => ?_
    repeat' (refine za ?_)
    refine r_stN (ws := [.int .i64 a, .int .i64 b]) ag46 (by decide) hb3 (by rw [ints_length]; simp) rfl rfl rfl (by intro q hq; simp at hq; rcases hq with rfl | rfl <;> rfl) fun w4 h4 hC4 hs4 => ?_
    have hE4 : Ext wk w4 := Ch.trans' hE3 hC4 fun k hk e => by omega
    have hS4 := hS.ext (hE0.trans hE4)
    repeat' (first|refine za ?_|refine zA ?_|refine zb ?_|refine zc ?_|refine ze ?_|refine zd ?_)
    refine r_fa (off := 0) rfl rfl ?_
    repeat' (refine za ?_)
    refine r_ld rfl rfl (h4.rd (v := .int .i64 a) rfl) ?_
    repeat' (refine za ?_)
    (refine r_call_q (v := ?_) rfl ?_ ?_; rotate_left 1; focus exact contains_any _ S _ _ hS4 (by omega))
    by_cases c1 : inS S a
    · rw [decide_eq_true c1]
      repeat' (first|refine za ?_|refine zA ?_|refine zU ?_)
      refine r_fa (off := 1) rfl rfl ?_
      repeat' (refine zU ?_)
      refine r_ld rfl rfl (h4.rd (v := .int .i64 b) rfl) ?_
      repeat' (refine zU ?_)
      (refine r_call_q (v := ?_) rfl ?_ ?_; rotate_left 1; focus exact contains_any _ S _ _ hS4 (by omega))
      by_cases c2 : inS S b
      · rw [decide_eq_true c2]
        rw [if_pos ⟨c1, c2⟩] at hst
        repeat' (first|refine za ?_|refine zA ?_|refine zB ?_|refine zb ?_|refine ze ?_|refine zd ?_|refine zI ?_|refine zQ ?_|refine zX ?_|refine zh ?_)
        exact ⟨i + 1, ⟨by rw [hst]; rfl, rfl, trivial⟩, ⟨by omega, hE.trans hE4⟩, by omega⟩
      · rw [decide_eq_false c2]
        rw [if_neg fun hh => c2 hh.2] at hst
        repeat' (first|refine za ?_|refine zA ?_|refine zb ?_|refine ze ?_|refine zd ?_|refine zI ?_|refine zQ ?_|refine zY ?_|refine zk ?_|refine zh ?_)
        exact ⟨i + 1, ⟨by rw [hst]; rfl, rfl, trivial⟩, ⟨by omega, hE.trans hE4⟩, by omega⟩
    · rw [decide_eq_false c1]
      rw [if_neg fun hh => c1 hh.1] at hst
      repeat' (first|refine za ?_|refine zA ?_|refine zb ?_|refine ze ?_|refine zd ?_|refine zI ?_|refine zR ?_|refine zV ?_|refine zY ?_|refine zk ?_|refine zh ?_)
      exact ⟨i + 1, ⟨by rw [hst]; rfl, rfl, trivial⟩, ⟨by omega, hE.trans hE4⟩, by omega⟩
  · have : i = L.length := by omega
    subst this
    repeat' (first|refine za ?_|refine zA ?_|refine zb ?_|refine zc ?_|refine ze ?_|refine zd ?_|refine zC ?_|refine zK ?_|refine zY ?_|refine zm ?_|refine zg ?_|refine zj ?_)
    (refine r_call (R := ?_) rfl ?_ ?_; rotate_left 1; focus exact frac_any (insE L S L.length) S.length _ (by omega) (by omega) hs0)
    rintro v w5 ⟨rfl, hE5⟩
    generalize insE L S L.length = m at *
    repeat' (refine za ?_)
    refine r_stN (ws := [.int .i64 ((m / Nat.gcd m S.length : Nat) : Int), .int .i64 ((S.length / Nat.gcd m S.length : Nat) : Int)]) ag48 (by decide) (hb2.ext (hE.trans hE5)) (by rw [ints_length]; simp) rfl rfl rfl (by intro q hq; simp at hq; rcases hq with rfl | rfl <;> rfl) fun w6 h6 hC6 hs6 => ?_
    repeat' (first|refine zb ?_|refine ze ?_|refine zn ?_)
    refine post_c1 rfl rfl ag48 (by decide) h6 rfl ⟨rfl, Ch.trans' (hE0.trans hE5) hC6 fun k hk e => by omega⟩
end Bg
end Go.Proofs.YtocgehoffdjijaaGreat
/- bags: isSet. -/
namespace Go.Proofs.YtocgehoffdjijaaGreat
namespace Bg
open Gv
/-- A non-empty set of vertices, in ascending order. -/
def IsS (n : Int) (S : List Int) : Prop := 0 < S.length ∧ ∀ i, i < S.length → (0 ≤ S.getD i 0 ∧ S.getD i 0 < n) ∧ (0 < i → S.getD (i - 1) 0 < S.getD i 0)
instance (n : Int) (S : List Int) : Decidable (IsS n S) := by unfold IsS; infer_instance
set_option maxRecDepth 20000 in
set_option maxHeartbeats 4000000 in
theorem isSet_any (n : Int) (v : Value) (vs : Value) (S : List Int) (w : World) (hS : Ints w vs S) (hn : 1 ≤ n ∧ n ≤ 16) (hsl : S.length ≤ 1000) :
    Calls Tryz.prog 51 #[.agg #[.int .i64 n, v], vs] w (Ret fun v' w' => v' = .bool (decide (IsS n S)) ∧ Ext w w') := by
  obtain ⟨qs, cs, rfl, hqs⟩ := hS.slice
  refine calls_of_wc (args := [.agg #[.int .i64 n, v], .slice qs S.length cs]) Tryz.func51 rfl ?_ ?_; kernel_rfl
  repeat' (first|refine za ?_|refine zc ?_|refine zd ?_)
  refine r_boxN (cells := [.int .i64 n, v]) rfl fun w1 hb1 hE1 hs1 => ?_
  obtain ⟨b1, eb1⟩ : ∃ b, b = w.heap.size := ⟨_, rfl⟩
  rw [← eb1] at hb1 ⊢
  have hS1 := hS.ext hE1
  have hrn := hb1.rd (k := 0) (v := .int .i64 n) rfl
  repeat' (first|refine za ?_|refine zA ?_|refine zB ?_|refine zb ?_|refine zc ?_|refine ze ?_|refine zd ?_|refine zK ?_|refine zl ?_)
  refine wc_loop [1, 2, 7, 8] (fun (i : Nat) => [(9, .int .i64 i)]) (fun i wk => i ≤ S.length ∧ wk = w1 ∧ ∀ j, j < i → (0 ≤ S.getD j 0 ∧ S.getD j 0 < n) ∧ (0 < j → S.getD (j - 1) 0 < S.getD j 0)) (fun i => S.length - i) 0 rfl ⟨rfl, trivial⟩ ⟨by omega, rfl, fun j hj => by omega⟩ ?_
  rintro i wk x ⟨hi, rfl, hall⟩
  by_cases hin : i < S.length
  · have hr := hS1.rd (i := i) hin
    have hps := hS1.isSome (by omega)
    have bad : ¬ ((0 ≤ S.getD i 0 ∧ S.getD i 0 < n) ∧ (0 < i → S.getD (i - 1) 0 < S.getD i 0)) → decide (IsS n S) = false := fun hh => decide_eq_false fun hs => hh (hs.2 i hin)
    repeat' (first|refine za ?_|refine zA ?_|refine zB ?_|refine zb ?_|refine zc ?_|refine ze ?_|refine zd ?_|refine zC ?_|refine zL ?_|refine zM ?_|refine zX ?_|refine zk ?_|refine zl ?_)
    refine r_fa (off := 0) rfl rfl ?_
    repeat' (first|refine za ?_|refine zJ ?_|refine zM ?_)
    (refine r_call_q (v := ?_) rfl ?_ ?_; rotate_left 1; focus exact within_any _ _ _ _)
    by_cases c1 : 0 ≤ S.getD i 0 ∧ S.getD i 0 ≤ n - 1
    rotate_left 1
    · rw [decide_eq_false c1]
      repeat' (first|refine za ?_|refine zA ?_|refine zB ?_|refine zb ?_|refine zc ?_|refine ze ?_|refine zd ?_|refine zO ?_|refine zQ ?_|refine zV ?_|refine zW ?_|refine zX ?_|refine zn ?_|refine zf ?_|refine zi ?_)
      refine post1 (v := .bool false) rfl rfl ?_
      exact ⟨by rw [bad fun hh => c1 ⟨by omega, by omega⟩], hE1⟩
    rw [decide_eq_true c1]
    by_cases c0 : 0 < i
    · have e1 : ((i : Int) - 1).toNat = i - 1 := by omega
      have hr2 := hS1.rd (i := i - 1) (by omega)
      rw [← e1] at hr2
      by_cases c2 : S.getD (i - 1) 0 < S.getD i 0
      · rw [← e1] at c2
        repeat' (first|refine za ?_|refine zA ?_|refine zb ?_|refine ze ?_|refine zd ?_|refine zE ?_|refine zF ?_|refine zI ?_|refine zJ ?_|refine zL ?_|refine zM ?_|refine zO ?_|refine zQ ?_|refine zR ?_|refine zU ?_|refine zY ?_|refine zk ?_|refine zh ?_)
        refine ⟨i + 1, ⟨rfl, trivial⟩, ⟨by omega, rfl, fun j hj => ?_⟩, by omega⟩
        by_cases e : j = i
        · subst e; exact ⟨⟨c1.1, by omega⟩, fun _ => by rw [e1] at c2; exact c2⟩
        · exact hall j (by omega)
      · rw [← e1] at c2
        repeat' (first|refine za ?_|refine zA ?_|refine zB ?_|refine zb ?_|refine zc ?_|refine ze ?_|refine zd ?_|refine zE ?_|refine zF ?_|refine zJ ?_|refine zL ?_|refine zM ?_|refine zO ?_|refine zQ ?_|refine zR ?_|refine zU ?_|refine zX ?_|refine zn ?_|refine zf ?_|refine zi ?_)
        refine post1 (v := .bool false) rfl rfl ?_
        exact ⟨by rw [bad fun hh => c2 (by rw [e1]; exact hh.2 c0)], hE1⟩
    · repeat' (first|refine za ?_|refine zA ?_|refine zb ?_|refine ze ?_|refine zd ?_|refine zE ?_|refine zI ?_|refine zO ?_|refine zR ?_|refine zU ?_|refine zV ?_|refine zY ?_|refine zk ?_|refine zh ?_)
      refine ⟨i + 1, ⟨rfl, trivial⟩, ⟨by omega, rfl, fun j hj => ?_⟩, by omega⟩
      by_cases e : j = i
      · subst e; exact ⟨⟨c1.1, by omega⟩, fun h => absurd h c0⟩
      · exact hall j (by omega)
  · have : i = S.length := by omega
    subst this
    by_cases h0 : 0 < S.length
    · repeat' (first|refine za ?_|refine zA ?_|refine zB ?_|refine zb ?_|refine zc ?_|refine ze ?_|refine zd ?_|refine zC ?_|refine zE ?_|refine zK ?_|refine zY ?_|refine zm ?_|refine zn ?_|refine zg ?_|refine zj ?_)
      refine post1 (v := .bool true) rfl rfl ?_
      exact ⟨by rw [decide_eq_true (show IsS n S from ⟨h0, hall⟩)], hE1⟩
    · repeat' (first|refine za ?_|refine zA ?_|refine zB ?_|refine zb ?_|refine zc ?_|refine ze ?_|refine zd ?_|refine zC ?_|refine zE ?_|refine zK ?_|refine zY ?_|refine zm ?_|refine zn ?_|refine zg ?_|refine zj ?_)
      refine post1 (v := .bool false) rfl rfl ?_
      exact ⟨by rw [decide_eq_false fun hs : IsS n S => h0 hs.1], hE1⟩
end Bg
end Go.Proofs.YtocgehoffdjijaaGreat
/- bags: Density. -/
namespace Go.Proofs.YtocgehoffdjijaaGreat
namespace Bg
open Gv
def dnum (L : List (Int × Int)) (S : List Int) : Nat := insE L S L.length / Nat.gcd (insE L S L.length) S.length
def dden (L : List (Int × Int)) (S : List Int) : Nat := S.length / Nat.gcd (insE L S L.length) S.length
theorem built48z : Tryz.prog.built 47 [] = some #[.int .i64 0, .int .i64 0] := by kernel_rfl
section
variable {n : Int} {S : List Int}
theorem IsS.asc (h : IsS n S) : Asc S := fun i h0 hi => (h.2 i hi).2 h0
theorem IsS.rng (h : IsS n S) : ∀ v, v ∈ S → 0 ≤ v ∧ v < n := fun v hv => by
  obtain ⟨i, hi, rfl⟩ := List.getElem_of_mem hv
  have := (h.2 i hi).1
  rwa [getD_lt hi] at this
end
/-- What Density returns. -/
def DstR (n : Int) (L : List (Int × Int)) (S : List Int) (v : Value) : Prop :=
  if IsG n L ∧ IsS n S then v = .tuple #[.agg #[.int .i64 (dnum L S : Int), .int .i64 (dden L S : Int)], .int .i64 0] else v = .tuple #[.agg #[.int .i64 0, .int .i64 0], .int .i64 2]
set_option maxRecDepth 20000 in
set_option maxHeartbeats 4000000 in
theorem bdensity_any (n : Int) (ve vs : Value) (L : List (Int × Int)) (S : List Int) (w : World) (h : Pairs2 w ve L) (hS : Ints w vs S) (hl : L.length ≤ 1000) (hsl : S.length ≤ 1000) :
    Calls Tryz.prog 19 #[.int .i64 n, ve, vs] w (Ret fun v w' => DstR n L S v ∧ Ext w w') := by
  obtain ⟨qe, ce, rfl, hqe⟩ := h.slice
  obtain ⟨qs, cs, rfl, hqs⟩ := hS.slice
  refine calls_of_wc (args := [.int .i64 n, .slice qe L.length ce, .slice qs S.length cs]) Tryz.func19 rfl ?_ ?_; kernel_rfl
  repeat' (first|refine za ?_|refine zc ?_|refine zd ?_)
  refine r_allocN z48 fun w1 hb1 hE1 hs1 => ?_
  obtain ⟨b6, eb6⟩ : ∃ b, b = w.heap.size := ⟨_, rfl⟩
  rw [← eb6] at hb1 ⊢
  repeat' (first|refine za ?_|refine zA ?_|refine zB ?_|refine zb ?_|refine zc ?_|refine ze ?_|refine zd ?_)
  (refine r_call (R := ?_) rfl ?_ ?_; rotate_left 1; focus exact newGraph_any n _ L _ (h.ext hE1) hl)
  rintro v w2 ⟨rfl, hE2⟩
  have hb2 := hb1.ext hE2
  have hE02 := hE1.trans hE2
  by_cases hG : IsG n L
  rotate_left 1
  · rw [if_neg hG]
    repeat' (first|refine za ?_|refine zA ?_|refine zS ?_)
    refine r_allocN z72 fun w3 hb3 hE3 hs3 => ?_
    repeat' (refine za ?_)
    refine r_stN (ws := [.int .i64 0, .slice none 0 0]) ag72 (by decide) hb3 rfl rfl rfl rfl (by intro q hq; simp at hq; rcases hq with rfl | rfl <;> rfl) fun w4 h4 hC4 hs4 => ?_
    have hE4 : Ext w2 w4 := Ch.trans' hE3 hC4 fun k hk e => by omega
    repeat' (first|refine za ?_|refine zA ?_|refine zB ?_|refine zb ?_|refine zc ?_|refine ze ?_|refine zd ?_|refine zO ?_|refine zQ ?_|refine zV ?_|refine zX ?_)
    refine r_build built48z ?_
    repeat' (refine za ?_)
    refine r_stN (ws := [.int .i64 0, .int .i64 0]) ag48 (by decide) (hb2.ext hE4) (by rw [ints_length]; simp) rfl rfl rfl (by intro q hq; simp at hq; rcases hq with rfl | rfl <;> rfl) fun w5 h5 hC5 hs5 => ?_
    repeat' (first|refine za ?_|refine zB ?_|refine zb ?_|refine ze ?_|refine zn ?_|refine zf ?_)
    refine post_c2 (v := .int .i64 2) rfl rfl rfl ag48 (by decide) h5 rfl ⟨?_, Ch.trans' (hE02.trans hE4) hC5 fun k hk e => by omega⟩
    unfold DstR
    rw [if_neg fun c => hG c.1]
  rw [if_pos hG]
  have hn := hG.1
  repeat' (first|refine za ?_|refine zA ?_|refine zS ?_)
  refine r_allocN z72 fun w3 hb3 hE3 hs3 => ?_
  obtain ⟨b8, eb8⟩ : ∃ b, b = w2.heap.size := ⟨_, rfl⟩
  rw [← eb8] at hb3 ⊢
  repeat' (refine za ?_)
  refine r_stN (ws := [.int .i64 n, .slice qe L.length ce]) ag72 (by decide) hb3 rfl rfl rfl rfl (by intro q hq; simp at hq; rcases hq with rfl | rfl <;> rfl) fun w4 h4 hC4 hs4 => ?_
  have hE4 : Ext w2 w4 := Ch.trans' hE3 hC4 fun k hk e => by omega
  have hE04 := hE02.trans hE4
  have hsz2 := hE2.size
  repeat' (first|refine za ?_|refine zA ?_|refine zB ?_|refine zb ?_|refine zc ?_|refine ze ?_|refine zd ?_|refine zO ?_|refine zU ?_)
  refine r_ldN (vs := [.int .i64 n, .slice qe L.length ce]) ag72 (by decide) h4 rfl rfl ?_
  repeat' (first|refine zA ?_|refine zU ?_)
  (refine r_call (R := ?_) rfl ?_ ?_; rotate_left 1; focus exact isSet_any n _ _ S _ (hS.ext hE04) hn hsl)
  rintro v w5 ⟨hv, hE5⟩
  by_cases hSS : IsS n S
  · rw [decide_eq_true hSS] at hv
    subst hv
    repeat' (first|refine za ?_|refine zb ?_|refine zc ?_|refine ze ?_|refine zd ?_|refine zO ?_|refine zR ?_|refine zU ?_|refine zY ?_|refine zk ?_)
    refine r_ldN (vs := [.int .i64 n, .slice qe L.length ce]) ag72 (by decide) (h4.ext hE5) rfl rfl ?_
    have hE05 := hE04.trans hE5
    repeat' (first|refine za ?_|refine zA ?_)
    (refine r_call (R := ?_) rfl ?_ ?_; rotate_left 1; focus exact density_any n _ _ L S _ (h.ext hE05) (hS.ext hE05) hl hSS.1 (by have := set_len hSS.asc.nodup hSS.rng hn.2; omega))
    rintro v w6 ⟨rfl, hE6⟩
    have hX := (hE4.trans hE5).trans hE6
    repeat' (refine za ?_)
    refine r_stN (ws := [.int .i64 (dnum L S : Int), .int .i64 (dden L S : Int)]) ag48 (by decide) (hb2.ext hX) (by rw [ints_length]; simp) rfl rfl rfl (by intro q hq; simp at hq; rcases hq with rfl | rfl <;> rfl) fun w7 h7 hC7 hs7 => ?_
    repeat' (first|refine za ?_|refine zB ?_|refine zb ?_|refine ze ?_|refine zn ?_)
    refine post_c2 (v := .int .i64 0) rfl rfl rfl ag48 (by decide) h7 rfl ⟨?_, Ch.trans' (hE05.trans hE6) hC7 fun k hk e => by omega⟩
    unfold DstR
    rw [if_pos ⟨hG, hSS⟩]
  · rw [decide_eq_false hSS] at hv
    subst hv
    repeat' (first|refine za ?_|refine zb ?_|refine zc ?_|refine ze ?_|refine zd ?_|refine zO ?_|refine zR ?_|refine zU ?_|refine zX ?_)
    refine r_build built48z ?_
    repeat' (refine za ?_)
    refine r_stN (ws := [.int .i64 0, .int .i64 0]) ag48 (by decide) (hb2.ext (hE4.trans hE5)) (by rw [ints_length]; simp) rfl rfl rfl (by intro q hq; simp at hq; rcases hq with rfl | rfl <;> rfl) fun w6 h6 hC6 hs6 => ?_
    repeat' (first|refine za ?_|refine zB ?_|refine zb ?_|refine ze ?_|refine zn ?_|refine zf ?_)
    refine post_c2 (v := .int .i64 2) rfl rfl rfl ag48 (by decide) h6 rfl ⟨?_, Ch.trans' (hE04.trans hE5) hC6 fun k hk e => by omega⟩
    unfold DstR
    rw [if_neg fun c => hSS c.2]
end Bg
end Go.Proofs.YtocgehoffdjijaaGreat

/- bags: contracts of small functions: within, Index, Contains, mod, list, ints, gcd, frac; bags: frac; the law's copy of the edges; bags: newGraph. -/
import Derived.Test.YtocgehoffdjijaaGreatQ
import Derived.Test.YtocgehoffdjijaaGreatAggN
import Derived.Test.YtocgehoffdjijaaGreatPairs
import Derived.Test.YtocgehoffdjijaaGreatKeyT
import Derived.Test.YtocgehoffdjijaaGreatLdP
import Derived.Test.YtocgehoffdjijaaGreatNilS
/- bags: contracts of small functions: within, Index, Contains, mod, list, ints, gcd, frac. -/
namespace Go.Proofs.YtocgehoffdjijaaGreat
namespace Bg
open Gv
theorem el23 : elemI Tryz.prog 27 = some (3, .int .i64 0, 1, 8) := by kernel_rfl
set_option maxRecDepth 20000 in
set_option maxHeartbeats 400000 in
theorem within_any (n lo hi : Int) (w : World) :
    Calls Tryz.prog 92 #[.int .i64 n, .int .i64 lo, .int .i64 hi] w (Ret fun v w' => v = .bool (decide (lo ≤ n ∧ n ≤ hi)) ∧ w' = w) := by
  refine calls_of_wc (args := [.int .i64 n, .int .i64 lo, .int .i64 hi]) Tryz.func92 rfl ?_ ?_; kernel_rfl
  repeat' (first|refine za ?_|refine zA ?_|refine zB ?_|refine zb ?_|refine zc ?_|refine ze ?_|refine zd ?_|refine r_leq rfl rfl ?_|refine r_geq rfl rfl ?_|refine zQ ?_|refine zR ?_|refine zU ?_|refine zV ?_|refine zt (fun hcd => ?_) (fun hcd => ?_)|refine zn ?_)
  · refine post1 (v := .bool (decide (n ≤ hi))) rfl rfl ?_
    exact ⟨congrArg Value.bool (decide_eq_decide.2 (by omega)), rfl⟩
  · refine post1 (v := .bool false) rfl rfl ?_
    exact ⟨congrArg Value.bool (decide_eq_false (by omega)).symm, rfl⟩
/-- Where a number lies first. -/
def Idx (L : List Int) (a : Int) (r : Int) : Prop := (r = -1 ∧ ∀ i, i < L.length → L.getD i 0 ≠ a) ∨ ∃ i : Nat, i < L.length ∧ r = i ∧ L.getD i 0 = a ∧ ∀ j, j < i → L.getD j 0 ≠ a
set_option maxRecDepth 20000 in
set_option maxHeartbeats 400000 in
theorem index_any (v : Value) (L : List Int) (a : Int) (w : World) (h : Ints w v L) (hm : L.length < 9223372036854775807) :
    Calls Tryz.prog 128 #[v, .int .i64 a] w (Ret fun v w' => (∃ r, v = .int .i64 r ∧ Idx L a r) ∧ w' = w) := by
  obtain ⟨q, c, rfl, hqc⟩ := h.slice
  refine calls_of_wc (args := [.slice q L.length c, .int .i64 a]) Tryz.func128 rfl ?_ ?_; kernel_rfl
  repeat' (first|refine za ?_|refine zA ?_|refine zB ?_|refine zb ?_|refine zc ?_|refine ze ?_|refine zd ?_|refine zK ?_|refine zl ?_)
  refine wc_loop [0, 1, 7] (fun (k : Nat) => [(8, .int .i64 k)]) (fun k wk => wk = w ∧ k ≤ L.length ∧ ∀ i, i < k → L.getD i 0 ≠ a) (fun k => L.length - k) 0 rfl ⟨rfl, trivial⟩ ⟨rfl, by omega, by intro i hi; omega⟩ ?_
  rintro k wk x ⟨rfl, hk, hall⟩
  have hrk := fun (hk : k < L.length) => h.rd (i := k) hk
  have hps := fun (hk : 0 < L.length) => h.isSome hk
  repeat' (first|refine za ?_|refine zA ?_|refine zB ?_|refine zb ?_|refine zc ?_|refine ze ?_|refine zd ?_|refine r_lss rfl rfl ?_|refine zv (fun hcd => ?_) (fun hcd => ?_)|refine zk ?_|refine zl ?_|refine zm ?_|refine zn ?_|refine zg ?_|refine zj ?_)
  · have hr := hrk (by omega)
    have hps' := hps (by omega)
    repeat' (first|refine za ?_|refine zA ?_|refine zB ?_|refine zb ?_|refine zc ?_|refine ze ?_|refine zd ?_|refine r_eql rfl rfl ?_|refine zI ?_|refine zL ?_|refine zM ?_|refine zv (fun hcd => ?_) (fun hcd => ?_)|refine zk ?_|refine zn ?_|refine zf ?_|refine zh ?_|refine zi ?_)
    · refine post1 (v := .int .i64 (k : Int)) rfl rfl ?_
      exact ⟨⟨_, rfl, .inr ⟨k, by omega, rfl, by omega, hall⟩⟩, rfl⟩
    · refine ⟨k + 1, ⟨rfl, trivial⟩, ⟨rfl, by omega, fun i hi => ?_⟩, by omega⟩
      by_cases hik : i = k
      · subst hik; omega
      · exact hall i (by omega)
  · refine post1 (v := .int .i64 (-1)) rfl rfl ?_
    exact ⟨⟨-1, rfl, .inl ⟨rfl, fun i hi => hall i (by omega)⟩⟩, rfl⟩
set_option maxRecDepth 20000 in
set_option maxHeartbeats 400000 in
theorem contains_any (v : Value) (L : List Int) (a : Int) (w : World) (h : Ints w v L) (hm : L.length < 9223372036854775807) :
    Calls Tryz.prog 89 #[v, .int .i64 a] w (Ret fun v w' => v = .bool (decide (∃ i, i < L.length ∧ L.getD i 0 = a)) ∧ w' = w) := by
  obtain ⟨q, c, rfl, hqc⟩ := h.slice
  refine calls_of_wc (args := [.slice q L.length c, .int .i64 a]) Tryz.func89 rfl ?_ ?_; kernel_rfl
  repeat' (first|refine za ?_|refine zA ?_|refine zB ?_|refine zb ?_|refine zc ?_|refine ze ?_|refine zd ?_)
  (refine r_call (R := ?_) rfl ?_ ?_; rotate_left 1; focus exact index_any _ L a _ h hm)
  rintro v w' ⟨⟨r, rfl, hr⟩, rfl⟩
  repeat' (first|refine za ?_|refine zB ?_|refine zb ?_|refine ze ?_|refine r_geq rfl rfl ?_|refine zn ?_)
  refine post1 (v := .bool (decide (0 ≤ r))) rfl rfl ?_
  refine ⟨congrArg Value.bool (decide_eq_decide.2 ⟨fun h0 => ?_, fun ⟨i, hi, e⟩ => ?_⟩), rfl⟩
  · rcases hr with ⟨rfl, _⟩ | ⟨i, hi, rfl, e, _⟩
    · omega
    · exact ⟨i, hi, e⟩
  · rcases hr with ⟨rfl, hall⟩ | ⟨i, hi, rfl, _⟩
    · exact absurd e (hall i hi)
    · omega
theorem ik82 : intK Tryz.prog 82 = some .u64 := by kernel_rfl
theorem ik3 : intK Tryz.prog 3 = some .i64 := by kernel_rfl
theorem ik3s : (intK Tryz.prog 3).isSome = true := by rw [ik3]; rfl
theorem ik82s : (intK Tryz.prog 82).isSome = true := by rw [ik82]; rfl

theorem mod_bnd (x : Int) {n : Int} (h : 0 < n) : 0 ≤ (IntKind.u64.wrap x) % n ∧ (IntKind.u64.wrap x) % n < n :=
  ⟨Int.emod_nonneg _ (by omega), Int.emod_lt_of_pos _ h⟩
set_option maxRecDepth 20000 in
set_option maxHeartbeats 1000000 in
theorem gcd_any (a b : Nat) (w : World) (ha : a ≤ 1000000) (hb : b ≤ 1000000) :
    Calls Tryz.prog 107 #[.int .i64 a, .int .i64 b] w (Ret fun v w' => v = .int .i64 (Nat.gcd a b) ∧ Ext w w') := by
  refine calls_of_wc (args := [.int .i64 a, .int .i64 b]) Tryz.func107 rfl ?_ ?_; kernel_rfl
  repeat' (first|refine za ?_|refine zB ?_|refine zb ?_|refine zc ?_|refine ze ?_|refine zd ?_|refine zl ?_)
  refine wc_loop2 [] (fun (x y : Nat) => [(0, .int .i64 x), (1, .int .i64 y)]) (fun x y wk => x ≤ 1000000 ∧ y ≤ 1000000 ∧ Nat.gcd x y = Nat.gcd a b ∧ Ext w wk) (fun _ y => y) a b rfl ⟨rfl, rfl, trivial⟩ ⟨ha, hb, rfl, Ext.refl _⟩ ?_
  rintro x y wk z ⟨hx, hy, hg, hE⟩
  by_cases h0 : 0 < y
  · have hlt := Nat.mod_lt x h0
    repeat' (first|refine za ?_|refine zA ?_|refine zb ?_|refine zc ?_|refine ze ?_|refine zd ?_|refine zE ?_|refine zX ?_|refine zk ?_|refine zl ?_)
    (refine wc_drawn 5 (by kernel_rfl) (by kernel_rfl) ?_; simp only [List.take_succ_cons, List.take_zero, List.drop_succ_cons, List.drop_zero])
    repeat' (first|refine za ?_|refine zA ?_)
    refine r_rem_in rfl rfl (by omega) (by omega) ?_
    repeat' (first|refine za ?_|refine zB ?_|refine zb ?_|refine ze ?_|refine zh ?_)
    refine ⟨y, x % y, ⟨rfl, rfl, trivial⟩, ⟨hy, by omega, ?_, hE.trans (Ext.drew wk)⟩, by omega⟩
    rw [← hg, Nat.gcd_comm x y, Nat.gcd_rec y x, Nat.gcd_comm]
  · have : y = 0 := by omega
    subst this
    rw [Nat.gcd_zero_right] at hg
    subst hg
    repeat' (first|refine za ?_|refine zA ?_|refine zB ?_|refine zb ?_|refine zc ?_|refine ze ?_|refine zd ?_|refine zE ?_|refine zY ?_|refine zm ?_|refine zn ?_|refine zg ?_|refine zj ?_)
    refine post1 (v := .int .i64 ((Nat.gcd a b : Nat) : Int)) rfl rfl ?_
    exact ⟨rfl, hE⟩
end Bg
end Go.Proofs.YtocgehoffdjijaaGreat
/- bags: frac; the law's copy of the edges. -/
namespace Go.Proofs.YtocgehoffdjijaaGreat
namespace Bg
open Gv
theorem el22 : elemI Tryz.prog 37 = some (40, .agg #[.int .i64 0, .int .i64 0], 2, 16) := by kernel_rfl
theorem sz22 : sliceSz Tryz.prog 37 = some 2 := by kernel_rfl
theorem z48 : (Tryz.prog.info? 47).bind (·.zero) = some (.agg (ints (List.replicate 2 0)).toArray) := by kernel_rfl
theorem ag48 : aggT Tryz.prog 47 2 = true := by kernel_rfl
theorem built48 (a b : Int) : Tryz.prog.built 47 [(0, .int .i64 a), (1, .int .i64 b)] = some #[.int .i64 a, .int .i64 b] := by kernel_rfl
theorem prc_take (L : List (Int × Int)) : ∀ n : Nat, (prc L).take (n * 2) = prc (L.take n) := by
  induction L with
  | nil => intro n; simp [prc]
  | cons x r ih =>
    intro n
    cases n with
    | zero => simp [prc]
    | succ n =>
      have := ih n
      simp only [prc, List.flatMap_cons, List.take_succ_cons] at this ⊢
      rw [show (n + 1) * 2 = n * 2 + 1 + 1 by omega]
      simp only [List.cons_append, List.take_succ_cons, List.nil_append]
      rw [this]
set_option maxRecDepth 20000 in
set_option maxHeartbeats 1000000 in
theorem frac_any (a b : Nat) (w : World) (ha : a ≤ 1000000) (hb : b ≤ 1000000) (h0 : 0 < b) :
    Calls Tryz.prog 63 #[.int .i64 a, .int .i64 b] w (Ret fun v w' => v = .agg #[.int .i64 ((a / Nat.gcd a b : Nat) : Int), .int .i64 ((b / Nat.gcd a b : Nat) : Int)] ∧ Ext w w') := by
  have hg : 0 < Nat.gcd a b := Nat.gcd_pos_of_pos_right a h0
  refine calls_of_wc (args := [.int .i64 a, .int .i64 b]) Tryz.func63 rfl ?_ ?_; kernel_rfl
  repeat' (first|refine za ?_|refine zc ?_|refine zd ?_)
  refine r_allocN z48 fun w1 hb1 hE1 hs1 => ?_
  obtain ⟨b1, eb1⟩ : ∃ b, b = w.heap.size := ⟨_, rfl⟩
  rw [← eb1] at hb1 ⊢
  repeat' (first|refine za ?_|refine zA ?_|refine zb ?_|refine zc ?_|refine ze ?_|refine zd ?_)
  (refine r_call (R := ?_) rfl ?_ ?_; rotate_left 1; focus exact gcd_any a b _ ha hb)
  rintro v w2 ⟨rfl, hE2⟩
  generalize Nat.gcd a b = g at hg ⊢
  repeat' (first|refine za ?_|refine zB ?_|refine zb ?_|refine zc ?_|refine ze ?_)
  have hb2 := hb1.ext (hE2.trans (Ext.drew w2))
  (refine wc_drawn 6 (by kernel_rfl) (by kernel_rfl) ?_; simp only [List.take_succ_cons, List.take_zero, List.drop_succ_cons, List.drop_zero])
  repeat' (first|refine za ?_|refine zA ?_)
  refine r_quo_in rfl rfl (by omega) (by omega) ?_
  repeat' (first|refine za ?_|refine zA ?_)
  refine r_quo_in rfl rfl (by omega) (by omega) ?_
  repeat' (first|refine za ?_|refine zb ?_)
  refine r_build (built48 _ _) ?_
  repeat' (refine za ?_)
  refine r_stN (ws := [.int .i64 ((a : Int) / g), .int .i64 ((b : Int) / g)]) ag48 (by decide) hb2 (by rw [ints_length]; simp) rfl rfl rfl (by intro q hq; simp at hq; rcases hq with rfl | rfl <;> rfl) fun w3 h3 hC3 hs3 => ?_
  repeat' (first|refine zb ?_|refine ze ?_|refine zn ?_)
  refine post_c1 rfl rfl ag48 (by decide) h3 rfl ⟨rfl, Ch.trans' (hE1.trans (hE2.trans (Ext.drew w2))) hC3 fun k hk e => by omega⟩
end Bg
end Go.Proofs.YtocgehoffdjijaaGreat
/- bags: newGraph. -/
namespace Go.Proofs.YtocgehoffdjijaaGreat
namespace Bg
open Gv
theorem eq46 : eqInts Tryz.prog 40 3 2 = true := by kernel_rfl
theorem ag46 : aggT Tryz.prog 40 2 = true := by kernel_rfl
theorem ag72 : aggT Tryz.prog 109 2 = true := by kernel_rfl
theorem z46 : (Tryz.prog.info? 40).bind (·.zero) = some (.agg (ints (List.replicate 2 0)).toArray) := by kernel_rfl
theorem z72 : (Tryz.prog.info? 109).bind (·.zero) = some (.agg ([.int .i64 0, .slice none 0 0] : List Value).toArray) := by kernel_rfl
theorem built72 (n : Int) (q : Option Addr) (a c : Nat) : Tryz.prog.built 109 [(0, .int .i64 n), (1, .slice q a c)] = some #[.int .i64 n, .slice q a c] := by kernel_rfl
theorem built72z : Tryz.prog.built 109 [] = some #[.int .i64 0, .slice none 0 0] := by kernel_rfl
theorem kt46 : KeyOf Tryz.prog 40 encP := key_str2 eq46 Tryz.underlying40
theorem mp94 : mapT Tryz.prog 154 = some (40, 4, .bool false) := by kernel_rfl
/-- A graph, as the document says it. -/
def IsG (n : Int) (L : List (Int × Int)) : Prop := (1 ≤ n ∧ n ≤ 16) ∧ (L.length : Int) ≤ n * (n - 1) / 2 ∧ ∀ i, i < L.length → (0 ≤ (L.getD i (0, 0)).1 ∧ (L.getD i (0, 0)).1 < (L.getD i (0, 0)).2 ∧ (L.getD i (0, 0)).2 < n) ∧ ∀ k, k < i → L.getD k (0, 0) ≠ L.getD i (0, 0)
instance (n : Int) (L : List (Int × Int)) : Decidable (IsG n L) := by unfold IsG; infer_instance
/-- The edges before place i. -/
def seenF (L : List (Int × Int)) (i : Nat) : Int × Int → Option Value := fun k => if ∃ j, j < i ∧ L.getD j (0, 0) = k then some (.bool true) else none
theorem seenF_zero {L : List (Int × Int)} : seenF L 0 = fun _ => none := by
  funext k; unfold seenF; rw [if_neg (fun ⟨j, hj, _⟩ => by omega)]
theorem seenF_succ {L : List (Int × Int)} {i : Nat} : (fun k' => if k' = L.getD i (0, 0) then some (.bool true) else seenF L i k') = seenF L (i + 1) := by
  funext k
  unfold seenF
  by_cases e : k = L.getD i (0, 0)
  · rw [if_pos e, if_pos ⟨i, by omega, e.symm⟩]
  · rw [if_neg e]
    by_cases c : ∃ j, j < i ∧ L.getD j (0, 0) = k
    · obtain ⟨j, hj, hk⟩ := c
      rw [if_pos ⟨j, hj, hk⟩, if_pos ⟨j, by omega, hk⟩]
    · rw [if_neg c, if_neg]
      rintro ⟨j, hj, hk⟩
      by_cases e2 : j = i
      · subst e2; exact e hk.symm
      · exact c ⟨j, by omega, hk⟩
set_option maxRecDepth 20000 in
set_option maxHeartbeats 4000000 in
theorem newGraph_any (n : Int) (v : Value) (L : List (Int × Int)) (w : World) (h : Pairs2 w v L) (hl : L.length ≤ 1000) :
    Calls Tryz.prog 50 #[.int .i64 n, v] w (Ret fun v' w' => v' = (if IsG n L then .tuple #[.agg #[.int .i64 n, v], .bool true] else .tuple #[.agg #[.int .i64 0, .slice none 0 0], .bool false]) ∧ Ext w w') := by
  obtain ⟨q, c, rfl, hqc⟩ := h.slice
  refine calls_of_wc (args := [.int .i64 n, .slice q L.length c]) Tryz.func50 rfl ?_ ?_; kernel_rfl
  repeat' (first|refine za ?_|refine zc ?_|refine zd ?_)
  refine r_allocN z72 fun w1 hb1 hE1 hs1 => ?_
  obtain ⟨b1, eb1⟩ : ∃ b, b = w.heap.size := ⟨_, rfl⟩
  rw [← eb1] at hb1 ⊢
  repeat' (first|refine za ?_|refine zA ?_|refine zB ?_|refine zb ?_|refine zc ?_|refine ze ?_|refine zd ?_)
  (refine r_call_q (v := ?_) rfl ?_ ?_; rotate_left 1; focus exact within_any _ _ _ _)
  have bad : ∀ (wz : World) (K : World → Prop), True := fun _ _ => trivial
  by_cases hn : 1 ≤ n ∧ n ≤ 16
  rotate_left 1
  · rw [decide_eq_false hn, if_neg fun hh => hn hh.1]
    repeat' (first|refine za ?_|refine zA ?_|refine zb ?_|refine zc ?_|refine ze ?_|refine zd ?_|refine zO ?_|refine zQ ?_|refine zV ?_|refine zX ?_)
    refine r_build built72z ?_
    repeat' (refine za ?_)
    refine r_stN (ws := [.int .i64 0, .slice none 0 0]) ag72 (by decide) hb1 rfl rfl rfl rfl (by intro q hq; simp at hq; rcases hq with rfl | rfl <;> rfl) fun w2 h2 hC2 hs2 => ?_
    repeat' (first|refine za ?_|refine zB ?_|refine zb ?_|refine ze ?_|refine zn ?_|refine zf ?_)
    refine post_c2 rfl rfl rfl ag72 (by decide) h2 rfl ⟨rfl, Ch.trans' hE1 hC2 fun k hk e => by omega⟩
  rw [decide_eq_true hn]
  have hq : n * (n - 1) ≤ 16 * 15 := Int.mul_le_mul (by omega) (by omega) (by omega) (by omega)
  have hq0 : 0 ≤ n * (n - 1) := Int.mul_nonneg (by omega) (by omega)
  repeat' (first|refine za ?_|refine zA ?_|refine zJ ?_|refine zK ?_|refine zO ?_|refine zU ?_)
  refine r_mul_in rfl rfl (by omega) ?_
  repeat' (refine zU ?_)
  refine r_quo_in rfl rfl (by omega) (by decide) ?_
  by_cases hlen : (L.length : Int) ≤ n * (n - 1) / 2
  rotate_left 1
  · rw [if_neg fun hh => hlen hh.2.1]
    repeat' (first|refine za ?_|refine zb ?_|refine zc ?_|refine ze ?_|refine zd ?_|refine zE ?_|refine zR ?_|refine zU ?_|refine zX ?_)
    refine r_build built72z ?_
    repeat' (refine za ?_)
    refine r_stN (ws := [.int .i64 0, .slice none 0 0]) ag72 (by decide) hb1 rfl rfl rfl rfl (by intro q hq; simp at hq; rcases hq with rfl | rfl <;> rfl) fun w2 h2 hC2 hs2 => ?_
    repeat' (first|refine za ?_|refine zB ?_|refine zb ?_|refine ze ?_|refine zn ?_|refine zf ?_)
    refine post_c2 rfl rfl rfl ag72 (by decide) h2 rfl ⟨rfl, Ch.trans' hE1 hC2 fun k hk e => by omega⟩
  repeat' (first|refine za ?_|refine zb ?_|refine zc ?_|refine ze ?_|refine zd ?_|refine zE ?_|refine zR ?_|refine zU ?_|refine zY ?_|refine zk ?_)
  refine r_makeMap encP fun w2 hF2 hE2 hs2 => ?_
  obtain ⟨bm, ebm⟩ : ∃ b, b = w1.heap.size := ⟨_, rfl⟩
  rw [← ebm] at hF2 ⊢
  rw [← seenF_zero (L := L)] at hF2
  have hb2 := hb1.ext hE2
  repeat' (first|refine za ?_|refine zA ?_|refine zB ?_|refine zb ?_|refine zc ?_|refine ze ?_|refine zd ?_|refine zK ?_|refine zl ?_)
  refine wc_loop [0, 1, 4, 6, 24, 25] (fun (i : Nat) => [(26, .int .i64 i)]) (fun i wk => i ≤ L.length ∧ Ext w wk ∧ b1 + 1 < wk.heap.size ∧ Blk wk b1 109 [.int .i64 0, .slice none 0 0] ∧ MapF encP wk bm (seenF L i) ∧ ∀ j, j < i → (0 ≤ (L.getD j (0, 0)).1 ∧ (L.getD j (0, 0)).1 < (L.getD j (0, 0)).2 ∧ (L.getD j (0, 0)).2 < n) ∧ ∀ k, k < j → L.getD k (0, 0) ≠ L.getD j (0, 0)) (fun i => L.length - i) 0 rfl ⟨rfl, trivial⟩ ⟨by omega, hE1.trans hE2, by omega, hb2, hF2, fun j hj => by omega⟩ ?_
  rintro i wk x ⟨hi, hE, hsz, hB, hF, hall⟩
  by_cases hin : i < L.length
  · obtain ⟨hr0, hr1⟩ := (h.ext hE).rd hin
    have hps := h.isSome (by omega)
    generalize hab : L.getD i (0, 0) = ab at *
    obtain ⟨a, b⟩ := ab
    have hbad : ¬ ((0 ≤ a ∧ a < b ∧ b < n) ∧ ∀ k, k < i → L.getD k (0, 0) ≠ (a, b)) → ¬ IsG n L := fun hh hg => hh (by have := hg.2.2 i hin; rw [hab] at this; exact this)
    repeat' (first|refine za ?_|refine zb ?_|refine zc ?_|refine ze ?_|refine zd ?_|refine zC ?_|refine zL ?_|refine zX ?_|refine zk ?_|refine zl ?_)
    refine r_ldP ag46 rfl hr0 hr1 ?_
    repeat' (refine za ?_)
    refine r_allocN z46 fun w3 hb3 hE3 hs3 => ?_
    obtain ⟨b3, eb3⟩ : ∃ b, b = wk.heap.size := ⟨_, rfl⟩
    rw [← eb3] at hb3 ⊢
    repeat' (refine za ?_)
    refine r_stN (ws := [.int .i64 a, .int .i64 b]) ag46 (by decide) hb3 (by rw [ints_length]; simp) rfl rfl rfl (by intro q hq; simp at hq; rcases hq with rfl | rfl <;> rfl) fun w4 h4 hC4 hs4 => ?_
    have hE4 : Ext wk w4 := Ch.trans' hE3 hC4 fun k hk e => by omega
    have hB4 := hB.ext hE4
    have hF4 : MapF encP w4 bm (seenF L i) := (hF.keep (S := fun _ => False) hE4 fun e => e)
    have hEw4 := hE.trans hE4
    repeat' (first|refine za ?_|refine zb ?_|refine zc ?_|refine ze ?_|refine zd ?_)
    refine r_fa (off := 1) rfl rfl ?_
    repeat' (refine za ?_)
    refine r_ld rfl rfl (h4.rd (v := .int .i64 b) rfl) ?_
    repeat' (first|refine za ?_|refine zA ?_|refine zJ ?_)
    (refine r_call_q (v := ?_) rfl ?_ ?_; rotate_left 1; focus exact within_any _ _ _ _)
    by_cases hb5 : 1 ≤ b ∧ b ≤ n - 1
    rotate_left 1
    · rw [decide_eq_false hb5]
      repeat' (first|refine za ?_|refine zA ?_|refine zb ?_|refine zc ?_|refine ze ?_|refine zd ?_|refine zO ?_|refine zQ ?_|refine zV ?_|refine zX ?_)
      refine r_build built72z ?_
      repeat' (refine za ?_)
      refine r_stN (ws := [.int .i64 0, .slice none 0 0]) ag72 (by decide) hB4 rfl rfl rfl rfl (by intro q hq; simp at hq; rcases hq with rfl | rfl <;> rfl) fun w9 h9 hC9 hs9 => ?_
      repeat' (first|refine za ?_|refine zB ?_|refine zb ?_|refine ze ?_|refine zn ?_|refine zf ?_|refine zi ?_)
      refine post_c2 rfl rfl rfl ag72 (by decide) h9 rfl ⟨by rw [if_neg (hbad fun hh => hb5 ⟨by omega, by omega⟩)]; rfl, Ch.trans' hEw4 hC9 fun k hk e => by omega⟩
    rw [decide_eq_true hb5]
    repeat' (first|refine za ?_|refine zA ?_|refine zO ?_|refine zU ?_)
    refine r_fa (off := 0) rfl rfl ?_
    repeat' (refine zU ?_)
    refine r_ld rfl rfl (h4.rd (v := .int .i64 a) rfl) ?_
    repeat' (refine zU ?_)
    refine r_fa (off := 1) rfl rfl ?_
    repeat' (refine zU ?_)
    refine r_ld rfl rfl (h4.rd (v := .int .i64 b) rfl) ?_
    repeat' (first|refine zJ ?_|refine zU ?_)
    (refine r_call_q (v := ?_) rfl ?_ ?_; rotate_left 1; focus exact within_any _ _ _ _)
    by_cases ha5 : 0 ≤ a ∧ a ≤ b - 1
    rotate_left 1
    · rw [decide_eq_false ha5]
      repeat' (first|refine za ?_|refine zA ?_|refine zb ?_|refine zc ?_|refine ze ?_|refine zd ?_|refine zO ?_|refine zQ ?_|refine zR ?_|refine zU ?_|refine zV ?_|refine zX ?_)
      refine r_build built72z ?_
      repeat' (refine za ?_)
      refine r_stN (ws := [.int .i64 0, .slice none 0 0]) ag72 (by decide) hB4 rfl rfl rfl rfl (by intro q hq; simp at hq; rcases hq with rfl | rfl <;> rfl) fun w9 h9 hC9 hs9 => ?_
      repeat' (first|refine za ?_|refine zB ?_|refine zb ?_|refine ze ?_|refine zn ?_|refine zf ?_|refine zi ?_)
      refine post_c2 rfl rfl rfl ag72 (by decide) h9 rfl ⟨by rw [if_neg (hbad fun hh => ha5 ⟨by omega, by omega⟩)]; rfl, Ch.trans' hEw4 hC9 fun k hk e => by omega⟩
    rw [decide_eq_true ha5]
    repeat' (first|refine za ?_|refine zA ?_|refine zO ?_|refine zR ?_|refine zU ?_)
    refine r_ldN (vs := [.int .i64 a, .int .i64 b]) ag46 (by decide) h4 rfl rfl ?_
    repeat' (refine zU ?_)
    by_cases hse : ∃ j, j < i ∧ L.getD j (0, 0) = (a, b)
    · refine r_lookup (k := (a, b)) (v := .bool true) mp94 kt46 hF4 rfl rfl (by unfold seenF; rw [if_pos hse]; rfl) ?_
      repeat' (first|refine za ?_|refine zb ?_|refine zc ?_|refine ze ?_|refine zd ?_|refine zR ?_|refine zX ?_)
      refine r_build built72z ?_
      repeat' (refine za ?_)
      refine r_stN (ws := [.int .i64 0, .slice none 0 0]) ag72 (by decide) hB4 rfl rfl rfl rfl (by intro q hq; simp at hq; rcases hq with rfl | rfl <;> rfl) fun w9 h9 hC9 hs9 => ?_
      repeat' (first|refine za ?_|refine zB ?_|refine zb ?_|refine ze ?_|refine zn ?_|refine zf ?_|refine zi ?_)
      refine post_c2 rfl rfl rfl ag72 (by decide) h9 rfl ⟨by rw [if_neg (hbad fun hh => by obtain ⟨j, hj, e⟩ := hse; exact hh.2 j hj e)]; rfl, Ch.trans' hEw4 hC9 fun k hk e => by omega⟩
    · refine r_lookup (k := (a, b)) (v := .bool false) mp94 kt46 hF4 rfl rfl (by unfold seenF; rw [if_neg hse]; rfl) ?_
      repeat' (first|refine za ?_|refine zA ?_|refine zb ?_|refine ze ?_|refine zd ?_|refine zR ?_|refine zY ?_|refine zk ?_)
      refine r_ldN (vs := [.int .i64 a, .int .i64 b]) ag46 (by decide) h4 rfl rfl ?_
      repeat' (refine za ?_)
      refine r_mapUpdate (k := (a, b)) (v := .bool true) mp94 kt46 hF4 rfl rfl rfl fun w6 hF6 hC6 hs6 => ?_
      repeat' (first|refine za ?_|refine zA ?_|refine zb ?_|refine ze ?_|refine zd ?_|refine zI ?_|refine zh ?_)
      refine ⟨i + 1, ⟨rfl, trivial⟩, ⟨by omega, Ch.trans' hEw4 hC6 fun k hk e => by omega, by have := hC6.size; have := hE4.size; omega, hB4.keep hC6 (by omega), ?_, fun j hj => ?_⟩, by omega⟩
      · rw [← seenF_succ, hab]; exact hF6
      · by_cases e : j = i
        · subst e
          rw [hab]
          exact ⟨⟨ha5.1, by omega, by omega⟩, fun k hk e2 => hse ⟨k, hk, e2⟩⟩
        · exact hall j (by omega)
  · have : i = L.length := by omega
    subst this
    have hG : IsG n L := ⟨hn, hlen, hall⟩
    rw [if_pos hG]
    repeat' (first|refine za ?_|refine zA ?_|refine zb ?_|refine zc ?_|refine ze ?_|refine zd ?_|refine zC ?_|refine zY ?_|refine zm ?_|refine zg ?_|refine zj ?_)
    refine r_build (built72 _ _ _ _) ?_
    repeat' (refine za ?_)
    refine r_stN (ws := [.int .i64 n, .slice q L.length c]) ag72 (by decide) hB rfl rfl rfl rfl (by intro q hq; simp at hq; rcases hq with rfl | rfl <;> rfl) fun w9 h9 hC9 hs9 => ?_
    repeat' (first|refine za ?_|refine zB ?_|refine zb ?_|refine ze ?_|refine zn ?_)
    refine post_c2 rfl rfl rfl ag72 (by decide) h9 rfl ⟨rfl, Ch.trans' hE hC9 fun k hk e => by omega⟩
end Bg
end Go.Proofs.YtocgehoffdjijaaGreat

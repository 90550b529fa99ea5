/- order: contracts of small functions; newOrder; the reference's Order; order: the numbers of an order: table, inversions, descents, major, falls, excedances, records; order: inversions, descents, major, falls, excedances, records, highs; order: slices.Delete of an owned list; order: Table, Index; the reference's Table, total, Index; factorial; order: Order (the order with a table); the reference's Made; order: the reference's Made and Item; Item. -/
import Derived.Test.YtocgehoffdjijaaGreatBools
import Derived.Test.YtocgehoffdjijaaGreatQ
import Derived.Test.YtocgehoffdjijaaGreatOP
import Derived.Test.YtocgehoffdjijaaGreatAggN
import Derived.Test.YtocgehoffdjijaaGreatDelS
import Derived.Test.YtocgehoffdjijaaGreatEqA
import Derived.Test.YtocgehoffdjijaaGreatUpj
/- order: contracts of small functions; newOrder; the reference's Order. -/
namespace Go.Proofs.YtocgehoffdjijaaGreat
namespace Od
set_option maxRecDepth 20000
open Gv
theorem el29 : elemI Tryz.prog 27 = some (3, .int .i64 0, 1, 8) := by kernel_rfl
set_option maxHeartbeats 400000 in
theorem within_any (n lo hi : Int) (w : World) :
    Calls Tryz.prog 55 #[.int .i64 n, .int .i64 lo, .int .i64 hi] w (Ret fun v w' => v = .bool (decide (lo ≤ n ∧ n ≤ hi)) ∧ w' = w) := by
  refine calls_of_wc (args := [.int .i64 n, .int .i64 lo, .int .i64 hi]) Tryz.func55 rfl ?_ ?_; kernel_rfl
  repeat' (first|refine za ?_|refine zA ?_|refine zB ?_|refine zb ?_|refine zc ?_|refine ze ?_|refine zd ?_|refine r_leq rfl rfl ?_|refine r_geq rfl rfl ?_|refine zQ ?_|refine zR ?_|refine zU ?_|refine zV ?_|refine zt (fun hcd => ?_) (fun hcd => ?_)|refine zn ?_)
  · refine post1 (v := .bool (decide (n ≤ hi))) rfl rfl ?_
    exact ⟨congrArg Value.bool (decide_eq_decide.2 (by omega)), rfl⟩
  · refine post1 (v := .bool false) rfl rfl ?_
    exact ⟨congrArg Value.bool (decide_eq_false (by omega)).symm, rfl⟩
/-- Where a number lies first. -/
def Idx (L : List Int) (a : Int) (r : Int) : Prop := (r = -1 ∧ ∀ i, i < L.length → L.getD i 0 ≠ a) ∨ ∃ i : Nat, i < L.length ∧ r = i ∧ L.getD i 0 = a ∧ ∀ j, j < i → L.getD j 0 ≠ a
set_option maxHeartbeats 400000 in
theorem index_any (v : Value) (L : List Int) (a : Int) (w : World) (h : Ints w v L) (hm : L.length < 9223372036854775807) :
    Calls Tryz.prog 128 #[v, .int .i64 a] w (Ret fun v w' => (∃ r, v = .int .i64 r ∧ Idx L a r) ∧ w' = w) := by
  obtain ⟨q, c, rfl, hqc⟩ := h.slice
  refine calls_of_wc (args := [.slice q L.length c, .int .i64 a]) Tryz.func128 rfl ?_ ?_; kernel_rfl
  repeat' (first|refine za ?_|refine zA ?_|refine zB ?_|refine zb ?_|refine zc ?_|refine ze ?_|refine zd ?_|refine zK ?_|refine zl ?_)
  refine wc_loop [0, 1, 7] (fun (k : Nat) => [(8, .int .i64 k)]) (fun k wk => wk = w ∧ k ≤ L.length ∧ ∀ i, i < k → L.getD i 0 ≠ a) (fun k => L.length - k) 0 rfl ⟨rfl, trivial⟩ ⟨rfl, by omega, by intro i hi; omega⟩ ?_
  rintro k wk x ⟨rfl, hk, hall⟩
  have hrk := fun (hk : k < L.length) => h.rd (i := k) hk
  have hps := fun (hk : 0 < L.length) => h.isSome hk
  repeat' (first|refine za ?_|refine zA ?_|refine zB ?_|refine zb ?_|refine zc ?_|refine ze ?_|refine zd ?_|refine r_lss rfl rfl ?_|refine zv (fun hcd => ?_) (fun hcd => ?_)|refine zk ?_|refine zl ?_|refine zm ?_|refine zn ?_|refine zg ?_|refine zj ?_)
  · have hr := hrk (by omega)
    have hps' := hps (by omega)
    repeat' (first|refine za ?_|refine zA ?_|refine zB ?_|refine zb ?_|refine zc ?_|refine ze ?_|refine zd ?_|refine r_eql rfl rfl ?_|refine zI ?_|refine zL ?_|refine zM ?_|refine zv (fun hcd => ?_) (fun hcd => ?_)|refine zk ?_|refine zn ?_|refine zf ?_|refine zh ?_|refine zi ?_)
    · refine post1 (v := .int .i64 (k : Int)) rfl rfl ?_
      exact ⟨⟨_, rfl, .inr ⟨k, by omega, rfl, by omega, hall⟩⟩, rfl⟩
    · refine ⟨k + 1, ⟨rfl, trivial⟩, ⟨rfl, by omega, fun i hi => ?_⟩, by omega⟩
      by_cases hik : i = k
      · subst hik; omega
      · exact hall i (by omega)
  · refine post1 (v := .int .i64 (-1)) rfl rfl ?_
    exact ⟨⟨-1, rfl, .inl ⟨rfl, fun i hi => hall i (by omega)⟩⟩, rfl⟩
set_option maxHeartbeats 400000 in
theorem contains_any (v : Value) (L : List Int) (a : Int) (w : World) (h : Ints w v L) (hm : L.length < 9223372036854775807) :
    Calls Tryz.prog 89 #[v, .int .i64 a] w (Ret fun v w' => v = .bool (decide (∃ i, i < L.length ∧ L.getD i 0 = a)) ∧ w' = w) := by
  obtain ⟨q, c, rfl, hqc⟩ := h.slice
  refine calls_of_wc (args := [.slice q L.length c, .int .i64 a]) Tryz.func89 rfl ?_ ?_; kernel_rfl
  repeat' (first|refine za ?_|refine zA ?_|refine zB ?_|refine zb ?_|refine zc ?_|refine ze ?_|refine zd ?_)
  (refine r_call (R := ?_) rfl ?_ ?_; rotate_left 1; focus exact index_any _ L a _ h hm)
  rintro v w' ⟨⟨r, rfl, hr⟩, rfl⟩
  repeat' (first|refine za ?_|refine zB ?_|refine zb ?_|refine ze ?_|refine r_geq rfl rfl ?_|refine zn ?_)
  refine post1 (v := .bool (decide (0 ≤ r))) rfl rfl ?_
  refine ⟨congrArg Value.bool (decide_eq_decide.2 ⟨fun h0 => ?_, fun ⟨i, hi, e⟩ => ?_⟩), rfl⟩
  · rcases hr with ⟨rfl, _⟩ | ⟨i, hi, rfl, e, _⟩
    · omega
    · exact ⟨i, hi, e⟩
  · rcases hr with ⟨rfl, hall⟩ | ⟨i, hi, rfl, _⟩
    · exact absurd e (hall i hi)
    · omega
set_option maxHeartbeats 400000 in
theorem clone_any (v : Value) (L : List Int) (w : World) (h : Ints w v L) (hb : L.length ≤ 17592186044416) :
    Calls Tryz.prog 82 #[v] w (Ret fun v' w' => OwnI w' w.heap.size 3 v' L ∧ Ext w w') := by
  obtain ⟨q, c, rfl, hqc⟩ := h.slice
  refine calls_of_wc (args := [.slice q L.length c]) Tryz.func82 rfl ?_ ?_; kernel_rfl
  repeat' (first|refine za ?_|refine zA ?_|refine zB ?_|refine zb ?_|refine zc ?_|refine ze ?_|refine zd ?_)
  refine r_eqnil rfl rfl rfl ?_
  repeat' (first|refine zb ?_|refine ze ?_)
  refine wc_cond_b rfl (fun hq => ?_) (fun hq => ?_)
  · repeat' (first|refine za ?_|refine zB ?_|refine zb ?_|refine zc ?_|refine ze ?_|refine zd ?_|refine zn ?_|refine zf ?_)
    refine post1 (v := .slice none 0 0) rfl rfl ?_
    have : L = [] := by
      cases L with
      | nil => rfl
      | cons a l => have := h.isSome (by simp); simp [this] at hq
    subst this
    exact ⟨World.ownsRow_nil _ _ _ _, Ext.refl _⟩
  · repeat' (first|refine za ?_|refine zc ?_|refine ze ?_|refine zd ?_|refine zk ?_)
    refine r_buildS0 el29 fun w1 h1 hE1 => ?_
    repeat' (first|refine za ?_|refine zA ?_)
    refine r_append_i (A := []) (base := w.heap.size) el29 h1 (h.ext hE1) rfl rfl (by simp; omega) hE1.size ?_
    intro v' w2 h2 h3 _ _
    repeat' (first|refine za ?_|refine zB ?_|refine zb ?_|refine ze ?_|refine zn ?_)
    refine post1 (v := v') rfl rfl ?_
    exact ⟨by simpa using h2, Ch.trans' hE1 (Ch.grown h3 (S := fun k => k = w.heap.size) (by intro k hk; cases hk; rfl)) fun k hk e => by omega⟩
theorem mod_bnd (x : Int) {n : Int} (h : 0 < n) : 0 ≤ (IntKind.u64.wrap x) % n ∧ (IntKind.u64.wrap x) % n < n :=
  ⟨Int.emod_nonneg _ (by omega), Int.emod_lt_of_pos _ h⟩
set_option maxHeartbeats 1000000 in
theorem newOrder_any (v : Value) (L : List Int) (w : World) (h : Ints w v L) :
    Calls Tryz.prog 134 #[v] w (Ret fun v' w' => v' = (if IsOrd L then .tuple #[v, .bool true] else .tuple #[.slice none 0 0, .bool false]) ∧ w' = w) := by
  obtain ⟨q, c, rfl, hqc⟩ := h.slice
  refine calls_of_wc (args := [.slice q L.length c]) Tryz.func134 rfl ?_ ?_; kernel_rfl
  repeat' (first|refine za ?_|refine zA ?_|refine zB ?_|refine zb ?_|refine zc ?_|refine ze ?_|refine zd ?_|refine r_gtr rfl rfl ?_|refine zK ?_|refine zv (fun hcd => ?_) (fun hcd => ?_)|refine zk ?_|refine zl ?_|refine zn ?_|refine zf ?_)
  · refine post2 (v1 := .slice none 0 0) (v2 := .bool false) rfl rfl rfl ?_
    exact ⟨by rw [if_neg fun h => by have := h.1; omega], rfl⟩
  refine wc_loop [0, 9, 10] (fun (k : Nat) => [(11, .int .i64 k)]) (fun k wk => wk = w ∧ k ≤ L.length ∧ ∀ i, i < k → (1 ≤ L.getD i 0 ∧ L.getD i 0 ≤ L.length) ∧ ∀ k, k < i → L.getD k 0 ≠ L.getD i 0) (fun k => L.length - k) 0 rfl ⟨rfl, trivial⟩ ⟨rfl, by omega, fun i hi => by omega⟩ ?_
  rintro k wk x ⟨hw, hk, hall⟩
  obtain rfl := hw.symm
  repeat' (first|refine za ?_|refine zA ?_|refine zB ?_|refine zb ?_|refine zc ?_|refine ze ?_|refine zd ?_|refine zC ?_|refine zv (fun hcd => ?_) (fun hcd => ?_)|refine zk ?_|refine zl ?_|refine zm ?_|refine zn ?_|refine zg ?_|refine zj ?_)
  · have hkL : k < L.length := by omega
    have hr := h.rd hkL
    have hps := h.isSome (by omega)
    repeat' (first|refine za ?_|refine zA ?_|refine zB ?_|refine zb ?_|refine zc ?_|refine ze ?_|refine zd ?_|refine zK ?_|refine zL ?_|refine zM ?_)
    (refine r_call_q (v := ?_) rfl ?_ ?_; rotate_left 1; focus exact within_any _ _ _ _)
    repeat' (first|refine za ?_|refine zA ?_|refine zB ?_|refine zb ?_|refine zc ?_|refine ze ?_|refine zd ?_|refine zN ?_|refine zQ ?_|refine zU ?_|refine zV ?_|refine zu (fun hcd => ?_) (fun hcd => ?_)|refine zX ?_|refine zn ?_|refine zf ?_|refine zi ?_)
    · refine r_slice_i (l := 0) (h' := k) rfl h rfl bnd_none ⟨_, rfl⟩ (by omega) (by omega) ?_
      intro q' c' hs _ _
      have e : (L.drop 0).take (k - 0) = L.take k := by simp
      rw [e] at hs
      repeat' (first|refine zA ?_|refine zU ?_)
      (refine r_call_q (v := ?_) rfl ?_ ?_; rotate_left 1; focus exact contains_any _ (L.take k) (L.getD k 0) _ hs (by simp; omega))
      repeat' (first|refine za ?_|refine zA ?_|refine zB ?_|refine zb ?_|refine zc ?_|refine ze ?_|refine zd ?_|refine zI ?_|refine zR ?_|refine zv (fun hcd => ?_) (fun hcd => ?_)|refine zk ?_|refine zn ?_|refine zf ?_|refine zh ?_|refine zi ?_)
      · refine post2 (v1 := .slice none 0 0) (v2 := .bool false) rfl rfl rfl ?_
        obtain ⟨i, hi, hie⟩ := hcd
        rw [take_getD hi] at hie
        have hik : i < k := by simp at hi; omega
        exact ⟨by rw [if_neg fun h => (h.2 k hkL).2 i hik hie], rfl⟩
      · have hcd' := hcd
        refine ⟨k + 1, ⟨rfl, trivial⟩, ⟨rfl, by omega, fun i hi => ?_⟩, by omega⟩
        by_cases hik : i = k
        · subst hik
          exact ⟨by omega, fun j hj e => hcd' ⟨j, by simp; omega, by rw [take_getD (by simp; omega)]; exact e⟩⟩
        · exact hall i (by omega)
    · refine post2 (v1 := .slice none 0 0) (v2 := .bool false) rfl rfl rfl ?_
      exact ⟨by rw [if_neg fun h => hcd (h.2 k hkL).1], rfl⟩
  · refine post2 (v1 := .slice q L.length c) (v2 := .bool true) rfl rfl rfl ?_
    exact ⟨by rw [if_pos ⟨by omega, fun i hi => hall i (by omega)⟩], rfl⟩
end Od
end Go.Proofs.YtocgehoffdjijaaGreat
/- order: the numbers of an order: table, inversions, descents, major, falls, excedances, records. -/
namespace Go.Proofs.YtocgehoffdjijaaGreat
namespace Od
set_option maxRecDepth 20000
open Gv
theorem ar63 : arrSz Tryz.prog 159 = some (12, 1) := by kernel_rfl
theorem ag63 : aggT Tryz.prog 159 12 = true := by kernel_rfl
theorem av63 : arrV Tryz.prog 159 = some 12 := by kernel_rfl
theorem z63 : (Tryz.prog.info? 159).bind (·.zero) = some (.agg (ints (List.replicate 12 0)).toArray) := by kernel_rfl
theorem ints_lt {w : World} {v : Value} {L : List Int} (h : Ints w v L) (hl : 0 < L.length) : ∀ g, v.ownBlock = some g → g < w.heap.size := by
  obtain ⟨p, c, rfl, _, _, hm⟩ := h
  intro g hg
  rcases hm with h0 | ⟨b, o, rfl, hb, _⟩
  · omega
  · simp [Value.ownBlock] at hg; omega
theorem ints_at {R : List Int} {i : Nat} (h : i < R.length) : (ints R)[i]? = some (.int .i64 (R.getD i 0)) := ints_getD h
set_option maxRecDepth 20000 in
set_option maxHeartbeats 2000000 in
theorem tableRow_any (v : Value) (L : List Int) (w : World) (h : Ints w v L) (hm : L.length ≤ 12) :
    Calls Tryz.prog 98 #[v] w (Ret fun v' w' => (∃ R : List Int, v' = .agg (ints R).toArray ∧ R.length = 12 ∧ ∀ i, i < 12 → R.getD i 0 = cntB L i L.length) ∧ Ext w w') := by
  obtain ⟨q, c, rfl, hqc⟩ := h.slice
  refine calls_of_wc (args := [.slice q L.length c]) Tryz.func98 rfl ?_ ?_; kernel_rfl
  repeat' (first|refine za ?_|refine zc ?_|refine zd ?_)
  refine r_allocN z63 fun w1 hb1 hE1 hs1 => ?_
  repeat' (first|refine za ?_|refine zb ?_|refine zc ?_|refine ze ?_|refine zd ?_)
  refine r_allocN z63 fun w2 hb2 hE2 hs2 => ?_
  repeat' (first|refine za ?_|refine zA ?_|refine zb ?_|refine zc ?_|refine ze ?_|refine zd ?_|refine zK ?_|refine zl ?_)
  have hb12 := hb1.ext hE2
  have hE12 := hE1.trans hE2
  obtain ⟨b2, hbb2⟩ : ∃ b2, b2 = w.heap.size := ⟨_, rfl⟩
  obtain ⟨b3, hbb3⟩ : ∃ b3, b3 = w1.heap.size := ⟨_, rfl⟩
  rw [← hbb2] at hb12 ⊢
  rw [← hbb3] at hb2 ⊢
  refine wc_loop2 [0, 2, 3, 8, 9] (fun (k : Nat) (_ : List Int) => [(10, .int .i64 k)]) (fun k R wk => k ≤ L.length ∧ Ext w wk ∧ Blk wk b2 159 (ints (List.replicate 12 0)) ∧ Blk wk b3 159 (ints R) ∧ R.length = 12 ∧ ∀ i, i < 12 → R.getD i 0 = cntB L i k) (fun k _ => L.length - k) 0 (List.replicate 12 0) rfl ⟨rfl, trivial⟩
    ⟨by omega, hE12, hb12, hb2, by simp, fun i hi => rep0⟩ ?_
  rintro k R wk x ⟨hk, hE, g2, g3, hRl, hR⟩
  have hI := h.ext hE
  repeat' (first|refine za ?_|refine zA ?_|refine zb ?_|refine zc ?_|refine ze ?_|refine zd ?_|refine zC ?_|refine zv (fun hcd => ?_) (fun hcd => ?_)|refine zk ?_|refine zl ?_|refine zm ?_|refine zg ?_|refine zj ?_)
  · have hkL : k < L.length := by omega
    have hr := hI.rd hkL
    have hps := hI.isSome (by omega)
    repeat' (first|refine za ?_|refine zA ?_|refine zB ?_|refine zb ?_|refine zc ?_|refine ze ?_|refine zd ?_|refine zL ?_|refine zM ?_)
    refine r_slice_i (l := 0) (h' := k) rfl hI rfl bnd_none ⟨_, rfl⟩ (by omega) (by omega) ?_
    intro q' c' hs _ hsb
    have e : (L.drop 0).take (k - 0) = L.take k := by simp
    rw [e] at hs
    obtain ⟨k', hk'⟩ : ∃ k', k' = k - 0 := ⟨_, rfl⟩
    rw [← hk'] at hs hsb ⊢
    have hkk : k' = k := by omega
    clear hk'
    repeat' (first|refine za ?_|refine zA ?_|refine zb ?_|refine ze ?_|refine zK ?_|refine zl ?_)
    refine wc_loop2 [0, 2, 3, 4, 5, 8, 9, 10, 17, 18] (fun (m : Nat) (_ : List Int) => [(19, .int .i64 m)]) (fun m R' wk2 => m ≤ k ∧ Ext w wk2 ∧ Ch (fun g => g = b3) wk wk2 ∧ Blk wk2 b2 159 (ints (List.replicate 12 0)) ∧ Blk wk2 b3 159 (ints R') ∧ R'.length = 12 ∧
        ∀ i, i < 12 → R'.getD i 0 = cntB L i k + if i < m ∧ L.getD k 0 < L.getD i 0 then 1 else 0) (fun m _ => k - m) 0 R rfl ⟨rfl, trivial⟩ ⟨by omega, hE, Ch.refl _ _, g2, g3, hRl, fun i hi => by rw [hR i hi]; simp⟩ ?_
    rintro m R' wk2 x2 ⟨hmk, hE2', hE3, g2', g3', hRl', hR'⟩
    have hs2 := hs.keep hE3 fun g hg e => by
      rw [hsb] at hg
      have := ints_lt h (by omega) g hg
      omega
    repeat' (first|refine za ?_|refine zA ?_|refine zb ?_|refine zc ?_|refine ze ?_|refine zd ?_|refine zC ?_|refine zI ?_|refine zv (fun hcd => ?_) (fun hcd => ?_)|refine zk ?_|refine zl ?_|refine zm ?_|refine zg ?_|refine zj ?_|refine zh ?_)
    · have hmk2 : m < k := by omega
      have hrm := hs2.rd (i := m) (by simp; omega)
      rw [take_getD (by simp; omega)] at hrm
      have hpsq := hs2.isSome (by simp; omega)
      repeat' (first|refine za ?_|refine zA ?_|refine zB ?_|refine zb ?_|refine zc ?_|refine ze ?_|refine zd ?_|refine zC ?_|refine zI ?_|refine zL ?_|refine zM ?_|refine zv (fun hcd => ?_) (fun hcd => ?_)|refine zk ?_|refine zh ?_)
      · have g := g3'.rd (k := m) (ints_at (by omega))
        have g' : Gv.rd wk2 (some ⟨b3, ((m : Nat) : Int).toNat * 1, none⟩) = some (.int .i64 (R'.getD m 0)) := by rw [Int.toNat_natCast, Nat.mul_one]; exact g
        have hbd := cntB_bnd (L := L) (i := m) (n := k)
        have hRm := hR' m (by omega)
        rw [if_neg (by omega), Int.add_zero] at hRm
        rw [hRm] at g'
        refine r_idxA ar63 rfl rfl (by omega) (by omega) ?_
        repeat' (first|refine za ?_|refine zI ?_|refine zM ?_)
        refine r_idxA ar63 rfl rfl (by omega) (by omega) ?_
        repeat' (refine za ?_)
        refine r_st_blk (k := m) (v := .int .i64 (cntB L m k + 1)) rfl g3' (by show Value.pointer (some ⟨b3, ((m : Nat) : Int).toNat * 1, none⟩) = _; rw [Int.toNat_natCast, Nat.mul_one]) rfl rfl (by rw [ints_length]; omega) fun w4 h4 hC4 hs4 => ?_
        rw [ints_set] at h4
        repeat' (first|refine za ?_|refine zA ?_|refine zb ?_|refine ze ?_|refine zd ?_|refine zI ?_|refine zh ?_)
        refine ⟨m + 1, R'.set m (cntB L m k + 1), ⟨rfl, trivial⟩, ⟨by omega, Ch.trans' hE2' hC4 fun k hk e => by omega, ?_, g2'.keep hC4 (by omega), h4, by simpa using hRl', fun i hi => ?_⟩, by omega⟩
        · exact hE3.trans hC4
        · rw [getD_set (by omega)]
          by_cases e : i = m
          · subst e; rw [if_pos rfl, if_pos ⟨by omega, by omega⟩]
          · rw [if_neg e, hR' i hi]
            have : (i < m + 1 ∧ L.getD k 0 < L.getD i 0) ↔ (i < m ∧ L.getD k 0 < L.getD i 0) := by omega
            simp only [this]
      · refine ⟨m + 1, R', ⟨rfl, trivial⟩, ⟨by omega, hE2', hE3, g2', g3', hRl', fun i hi => ?_⟩, by omega⟩
        rw [hR' i hi]
        by_cases e : i = m
        · subst e; rw [if_neg (by omega), if_neg (by omega)]
        · have : (i < m + 1 ∧ L.getD k 0 < L.getD i 0) ↔ (i < m ∧ L.getD k 0 < L.getD i 0) := by omega
          simp only [this]
    · have hmk2 : m = k := by omega
      subst hmk2
      refine ⟨m + 1, R', ⟨rfl, trivial⟩, ⟨by omega, hE2', g2', g3', hRl', fun i hi => ?_⟩, by omega⟩
      rw [hR' i hi]; rfl
  · have hkL : k = L.length := by omega
    subst hkL
    refine r_ldN ag63 (by decide) g3 (by rw [ints_length]; exact hRl) rfl ?_
    repeat' (refine za ?_)
    refine r_stN (ws := ints R) ag63 (by decide) g2 (by rw [ints_length]; simp) (by rw [ints_length]; exact hRl) rfl rfl (ints_one R) fun w4 h4 hC4 hs4 => ?_
    repeat' (first|refine zb ?_|refine ze ?_|refine zn ?_)
    refine post_c1 rfl rfl ag63 (by decide) h4 (by rw [ints_length]; exact hRl) ⟨⟨R, rfl, hRl, hR⟩, Ch.trans' hE hC4 fun k hk e => by omega⟩
end Od
end Go.Proofs.YtocgehoffdjijaaGreat
/- order: inversions, descents, major, falls, excedances, records, highs. -/
namespace Go.Proofs.YtocgehoffdjijaaGreat
namespace Od
set_option maxRecDepth 20000
open Gv
end Od
end Go.Proofs.YtocgehoffdjijaaGreat
/- order: slices.Delete of an owned list. -/
namespace Go.Proofs.YtocgehoffdjijaaGreat
namespace Od
set_option maxRecDepth 20000
open Gv
set_option maxHeartbeats 1000000 in
theorem delete_any (L : List Int) (i c : Nat) (q : Option Addr) (w : World) (base : Nat) (h : OwnI w base 3 (.slice q L.length c) L) (hi : i < L.length) (hl : L.length < 9223372036854775807) :
    Calls Tryz.prog 97 #[.slice q L.length c, .int .i64 i, .int .i64 ((i : Int) + 1)] w (Ret fun v w' => OwnI w' base 3 v (L.eraseIdx i) ∧ Ch (fun k => (Value.slice q L.length c).ownBlock = some k) w w' ∧ ∀ g', v.ownBlock = some g' → (Value.slice q L.length c).ownBlock = some g') := by
  have h0 := h
  obtain ⟨hlen, h1⟩ := h
  rcases h1 with ⟨hv, hz⟩ | ⟨g, cap, cur, hv, hbg, hg, hnc, hcm, hcs, htk⟩
  · omega
  cases hv
  have hm63 : c ≤ 9223372036854775807 := hcm
  have hcap : c ≠ 0 := by omega
  refine calls_of_wc (args := [.slice (some ⟨g, 0, none⟩) L.length c, .int .i64 i, .int .i64 ((i : Int) + 1)]) Tryz.func97 rfl ?_ ?_; kernel_rfl
  repeat' (first|refine za ?_|refine zA ?_|refine zB ?_|refine zb ?_|refine zc ?_|refine ze ?_|refine zd ?_|refine zK ?_)
  refine r_slice3 (l := i) (h' := i + 1) (m := L.length) (c := c) rfl rfl ⟨_, rfl⟩ ⟨_, rfl⟩ ⟨_, rfl⟩ (by omega) (by omega) hnc ?_
  repeat' (first|refine za ?_|refine zA ?_|refine zB ?_|refine zb ?_|refine zc ?_|refine ze ?_|refine zd ?_|refine r_eql rfl rfl ?_|refine zK ?_|refine zv (fun hcd => ?_) (fun hcd => ?_)|refine zk ?_|refine zn ?_|refine zf ?_)
  · exfalso; omega
  (refine wc_drawn 6 (by kernel_rfl) (by kernel_rfl) ?_; simp only [List.take_succ_cons, List.take_zero, List.drop_succ_cons, List.drop_zero])
  repeat' (first|refine za ?_|refine zA ?_)
  have e0 : (if c = 0 then (some ⟨g, 0, none⟩ : Option Addr) else (some (⟨g, 0, none⟩ : Addr)).map fun a => a.add (0 * 1)) = some ⟨g, 0, none⟩ := by rw [if_neg hcap]; rfl
  refine r_slice (sz := 1) (l := 0) (h' := i) rfl rfl bnd_none ⟨_, rfl⟩ (by omega) (by omega) ?_
  rw [e0, Nat.sub_zero i, Nat.sub_zero c]
  repeat' (first|refine za ?_|refine zA ?_)
  refine r_slice_i (l := i + 1) (h' := L.length) rfl (h0.ints.ext (Ext.drew w)) rfl ⟨_, rfl⟩ bnd_none (by omega) (by omega) ?_
  intro q' c' hs _ _
  repeat' (first|refine za ?_|refine zb ?_)
  have ed : (L.drop (i + 1)).take (L.length - (i + 1)) = L.drop (i + 1) := List.take_of_length_le (by simp)
  rw [ed] at hs
  have hdl : (L.drop (i + 1)).length = L.length - (i + 1) := List.length_drop
  have hs2 : Sl w.drew 1 (.slice q' (L.length - (i + 1)) c') (L.length - (i + 1)) (ints (L.drop (i + 1))) := by
    have := hs
    unfold Ints at this
    rwa [hdl] at this
  have hgd : w.drew.heap[g]? = some (.cells cur 3 (0, 0)) := hg
  refine r_append_room (n := i) (m := L.length - (i + 1)) (g := g) (c := c) (cur := cur) el29 hgd rfl hs2 rfl (ints_one _) (by omega) (by omega) ?_
  obtain ⟨n', hn'⟩ : ∃ n', n' = L.length - 1 := ⟨_, rfl⟩
  rw [show i + (L.length - (i + 1)) = n' by omega]
  have hdx : (ints (L.drop (i + 1))).length = n' - i := by rw [ints_length, hdl]; omega
  have htl : (cur.toList.take i).length = i := by simp; omega
  obtain ⟨cur1, hcur1⟩ : ∃ cur1, cur1 = (cur.toList.take i ++ ints (L.drop (i + 1)) ++ cur.toList.drop n').toArray := ⟨_, rfl⟩
  rw [← hcur1]
  have hs1 : cur1.size = c := by rw [hcur1]; simp [hdx, hcs]; omega
  have hg1 : (w.drew.setRow g cur1).heap[g]? = some (.cells cur1 3 (0, 0)) := setRow_heap w.drew g _ _ _ _ hgd
  have hC1 : Ch (fun k => (Value.slice (some ⟨g, 0, none⟩) L.length c).ownBlock = some k) w (w.drew.setRow g cur1) :=
    ⟨rfl, rfl, rfl, by simp, fun k _ hk => setRow_other w.drew g k _ fun e => hk (by subst e; rfl)⟩
  obtain ⟨w1, hw1⟩ : ∃ w1, w1 = w.drew.setRow g cur1 := ⟨_, rfl⟩
  rw [← hw1] at hg1 hC1 ⊢
  repeat' (first|refine za ?_|refine zA ?_|refine zB ?_|refine zb ?_|refine zc ?_|refine ze ?_|refine zd ?_|refine zK ?_)
  have e1 : (if c = n' then (some ⟨g, 0, none⟩ : Option Addr) else (some (⟨g, 0, none⟩ : Addr)).map fun a => a.add (n' * 1)) = some ⟨g, n', none⟩ := by
    rw [if_neg (by omega)]
    simp [Addr.add]
    intro e; omega
  refine r_slice (sz := 1) (l := n') (h' := L.length) rfl rfl ⟨_, rfl⟩ ⟨_, rfl⟩ (by omega) (by omega) ?_
  rw [e1]
  repeat' (refine za ?_)
  refine r_clear (g := g) (o := n') (n := L.length - n') (c := c - n') (cur := cur1) el29 rfl hg1 rfl (by omega) (by omega) ?_
  obtain ⟨cur2, hcur2⟩ : ∃ cur2, cur2 = (cur1.toList.take n' ++ List.replicate (L.length - n') (Value.int .i64 0) ++ cur1.toList.drop (n' + (L.length - n'))).toArray := ⟨_, rfl⟩
  rw [← hcur2]
  have hg2 : (w1.setRow g cur2).heap[g]? = some (.cells cur2 3 (0, 0)) := setRow_heap w1 g _ _ _ _ hg1
  have hC2 : Ch (fun k => (Value.slice (some ⟨g, 0, none⟩) L.length c).ownBlock = some k) w1 (w1.setRow g cur2) :=
    ⟨rfl, rfl, rfl, by simp, fun k _ hk => setRow_other w1 g k _ fun e => hk (by subst e; rfl)⟩
  repeat' (first|refine za ?_|refine zA ?_|refine zB ?_|refine zb ?_|refine zc ?_|refine ze ?_|refine zd ?_|refine zn ?_)
  refine post1 (v := .slice (some ⟨g, 0, none⟩) n' c) rfl rfl ?_
  have hel : (L.eraseIdx i).length = n' := by rw [List.length_eraseIdx_of_lt hi]; omega
  refine ⟨⟨by rw [ints_length, Nat.mul_one], .inr ⟨g, c, cur2, by rw [hel], hbg, hg2, by omega, hcm, ?_, ?_⟩⟩, hC1.trans hC2, fun g' hg' => hg'⟩
  · rw [hcur2]; simp [hs1]; omega
  · have h1 : cur1.toList.take n' = cur.toList.take i ++ ints (L.drop (i + 1)) := by
      rw [hcur1, List.toList_toArray, List.take_append_of_le_length (by simp only [List.length_append]; omega), List.take_of_length_le (by simp only [List.length_append]; omega)]
    have h2 : cur.toList.take i = ints (L.take i) := by
      rw [← ints_take, ← htk, List.take_take]
      congr 1; omega
    rw [hel, hcur2, Nat.mul_one, List.toList_toArray, List.append_assoc, List.take_append_of_le_length (by rw [h1, List.length_append]; omega), List.take_of_length_le (by rw [h1, List.length_append]; omega), h1, h2, ← ints_append, ← List.eraseIdx_eq_take_drop_succ]end Od
end Go.Proofs.YtocgehoffdjijaaGreat
/- order: Table, Index; the reference's Table, total, Index; factorial. -/
namespace Go.Proofs.YtocgehoffdjijaaGreat
namespace Od
set_option maxRecDepth 20000
open Gv CY PO RW
set_option maxHeartbeats 1000000 in
theorem fac_any (n : Nat) (w : World) (hn : n ≤ 20) : Calls Tryz.prog 56 #[.int .i64 n] w (Ret fun v' w' => v' = .int .i64 (fac n) ∧ w' = w) := by
  refine calls_of_wc (args := [.int .i64 n]) Tryz.func56 rfl ?_ ?_; kernel_rfl
  repeat' (first|refine za ?_|refine zA ?_|refine zB ?_|refine zb ?_|refine zc ?_|refine ze ?_|refine zd ?_|refine zl ?_)
  refine wc_loop [0, 5] (fun (j : Nat) => [(3, .int .i64 (fac j)), (6, .int .i64 j)]) (fun j wk => j ≤ n ∧ wk = w) (fun j => n - j) 0 rfl ⟨rfl, rfl, trivial⟩ ⟨by omega, rfl⟩ ?_
  rintro j wk x ⟨hj, rfl⟩
  have hf := fac_pos j
  by_cases hjn : j < n
  · have h1 := fac_mul (j := j + 1) (by omega)
    have h3 := fac20 (m := j + 1) (by omega)
    rw [Nat.add_sub_cancel] at h1
    push_cast at h1
    repeat' (first|refine za ?_|refine zA ?_|refine zB ?_|refine zb ?_|refine zc ?_|refine ze ?_|refine zd ?_|refine zC ?_|refine zI ?_|refine zX ?_|refine zk ?_|refine zl ?_)
    refine r_mul_in rfl rfl (by rw [h1]; omega) ?_
    rw [h1]
    repeat' (first|refine za ?_|refine zA ?_|refine zB ?_|refine zb ?_|refine ze ?_|refine zd ?_|refine zI ?_|refine zh ?_)
    exact ⟨j + 1, ⟨rfl, rfl, trivial⟩, ⟨by omega, rfl⟩, by omega⟩
  · have : j = n := by omega
    subst this
    repeat' (first|refine za ?_|refine zA ?_|refine zB ?_|refine zb ?_|refine zc ?_|refine ze ?_|refine zd ?_|refine zC ?_|refine zY ?_|refine zm ?_|refine zn ?_|refine zg ?_|refine zj ?_)
    refine post1 (v := .int .i64 (fac j)) rfl rfl ?_
    exact ⟨rfl, rfl⟩
set_option maxRecDepth 20000 in
set_option maxHeartbeats 2000000 in
theorem index_ord (v : Value) (L : List Int) (w : World) (h : Ints w v L) :
    Calls Tryz.prog 95 #[v] w (Ret fun v' w' => v' = (if IsOrd L then .tuple #[.int .i64 (idxK L L.length), .int .i64 0] else .tuple #[.int .i64 0, .int .i64 2]) ∧ Ext w w') := by
  obtain ⟨q, c, rfl, hqc⟩ := h.slice
  refine calls_of_wc (args := [.slice q L.length c]) Tryz.func95 rfl ?_ ?_; kernel_rfl
  repeat' (first|refine za ?_|refine zA ?_|refine zB ?_|refine zb ?_|refine zc ?_|refine ze ?_|refine zd ?_)
  (refine r_call_q (v := ?_) rfl ?_ ?_; rotate_left 1; focus exact newOrder_any _ L _ h)
  by_cases hL : IsOrd L
  rotate_left 1
  · rw [if_neg hL, if_neg hL]
    repeat' (first|refine za ?_|refine zA ?_|refine zB ?_|refine zb ?_|refine zc ?_|refine ze ?_|refine zd ?_|refine zO ?_|refine zS ?_|refine zX ?_|refine zn ?_|refine zf ?_)
    refine post2 (v1 := .int .i64 0) (v2 := .int .i64 2) rfl rfl rfl ?_
    exact ⟨rfl, Ext.refl _⟩
  · rw [if_pos hL, if_pos hL]
    have hm := hL.1
    repeat' (first|refine za ?_|refine zA ?_|refine zB ?_|refine zb ?_|refine zc ?_|refine ze ?_|refine zd ?_|refine zO ?_|refine zS ?_|refine zY ?_|refine zk ?_)
    (refine r_call (R := ?_) rfl ?_ ?_; rotate_left 1; focus exact tableRow_any _ L _ h hm)
    rintro v w1 ⟨⟨R, rfl, hRl, hRv⟩, hE1⟩
    repeat' (first|refine za ?_|refine zA ?_|refine zb ?_|refine ze ?_|refine zl ?_)
    refine wc_loop [4, 17] (fun (k : Nat) => [(6, .int .i64 (idxK L (min k L.length))), (18, .int .i64 k)]) (fun k wk => k ≤ 12 ∧ wk = w1) (fun k => 12 - k) 0 rfl ⟨?_, rfl, trivial⟩ ⟨by omega, rfl⟩ ?_
    · show Value.int .i64 _ = Value.int .i64 _
      rw [Nat.zero_min]; rfl
    rintro k wk x ⟨hk, rfl⟩
    by_cases hk12 : k < 12
    · have hx := ints_at (R := R) (i := k) (by omega)
      rw [hRv k hk12] at hx
      repeat' (first|refine za ?_|refine zA ?_|refine zb ?_|refine zc ?_|refine ze ?_|refine zd ?_|refine zC ?_|refine zX ?_|refine zk ?_|refine zl ?_)
      refine r_index (m := 12) av63 rfl rfl (by omega) (by omega) (by simpa using hx) ?_
      by_cases hkn : k < L.length
      · rw [show min k L.length = k by omega]
        have b0 := idxK_bnd (L := L) (k := k) (by omega)
        have b1 := idxK_bnd (L := L) (k := k + 1) (by omega)
        have b2 := fac20 (m := L.length) (by omega)
        have b3 := (cntB_bnd (L := L) (i := k) (n := L.length)).1
        have b4 := fac_pos (L.length - 1 - k)
        have b5 : 0 ≤ cntB L k L.length * fac (L.length - 1 - k) := Int.mul_nonneg b3 (by omega)
        simp only [idxK] at b1
        have hsub : ((L.length : Int) - 1 - k) = ((L.length - 1 - k : Nat) : Int) := by omega
        repeat' (first|refine za ?_|refine zA ?_|refine zB ?_|refine zb ?_|refine zc ?_|refine ze ?_|refine zd ?_|refine zC ?_|refine zJ ?_|refine zK ?_|refine zX ?_)
        rw [hsub]
        (refine r_call_q (v := ?_) rfl ?_ ?_; rotate_left 1; focus exact fac_any (L.length - 1 - k) _ (by omega))
        refine wl_plain ?_
        refine r_mul_in rfl rfl (by omega) ?_
        repeat' (first|refine za ?_|refine zA ?_|refine zB ?_|refine zb ?_|refine ze ?_|refine zd ?_|refine zI ?_|refine zh ?_)
        refine ⟨k + 1, ⟨?_, rfl, trivial⟩, ⟨by omega, rfl⟩, by omega⟩
        show Value.int .i64 _ = Value.int .i64 _
        rw [show min (k + 1) L.length = k + 1 by omega]; rfl
      · repeat' (first|refine za ?_|refine zA ?_|refine zB ?_|refine zb ?_|refine zc ?_|refine ze ?_|refine zd ?_|refine zC ?_|refine zI ?_|refine zK ?_|refine zY ?_|refine zk ?_|refine zh ?_)
        refine ⟨k + 1, ⟨?_, rfl, trivial⟩, ⟨by omega, rfl⟩, by omega⟩
        show Value.int .i64 _ = Value.int .i64 _
        rw [show min (k + 1) L.length = min k L.length by omega]
    · have : k = 12 := by omega
      subst this
      rw [show min 12 L.length = L.length by omega]
      repeat' (first|refine za ?_|refine zA ?_|refine zB ?_|refine zb ?_|refine zc ?_|refine ze ?_|refine zd ?_|refine zC ?_|refine zY ?_|refine zm ?_|refine zn ?_|refine zg ?_|refine zj ?_)
      refine post2 (v1 := .int .i64 (idxK L L.length)) (v2 := .int .i64 0) rfl rfl rfl ?_
      exact ⟨rfl, hE1⟩
end Od
end Go.Proofs.YtocgehoffdjijaaGreat
/- order: Order (the order with a table); the reference's Made. -/
namespace Go.Proofs.YtocgehoffdjijaaGreat
namespace Od
set_option maxRecDepth 20000
open Gv CY PO RW MD
theorem eq63 : eqInts Tryz.prog 159 3 12 = true := by kernel_rfl
/-- A table that Order takes. -/
def IsTbl (t : List Int) : Prop := t.length ≤ 12 ∧ okK t t.length
instance (t : List Int) : Decidable (IsTbl t) := by unfold IsTbl; infer_instance
theorem iota_snoc {n : Nat} : iota (n + 1) = iota n ++ [(n : Int) + 1] := by
  unfold iota; rw [List.range_succ, List.map_append]; rfl
set_option maxRecDepth 20000 in
set_option maxHeartbeats 4000000 in
theorem order_any (v : Value) (t : List Int) (w : World) (h : Ints w v t) :
    Calls Tryz.prog 57 #[v] w (Ret fun v' w' => ((¬ IsTbl t ∧ v' = .tuple #[.slice none 0 0, .int .i64 2]) ∨ (IsTbl t ∧ ∃ u, v' = .tuple #[u, .int .i64 0] ∧ OwnI w' w.heap.size 3 u (outK t t.length))) ∧ Ext w w') := by
  obtain ⟨q, c, rfl, hqc⟩ := h.slice
  refine calls_of_wc (args := [.slice q t.length c]) Tryz.func57 rfl ?_ ?_; kernel_rfl
  by_cases hm : t.length ≤ 12
  rotate_left 1
  · by_cases hbig : t.length ≤ 9223372036854775807
    · repeat' (first|refine za ?_|refine zA ?_|refine zB ?_|refine zb ?_|refine zc ?_|refine ze ?_|refine zd ?_|refine zE ?_|refine zK ?_|refine zX ?_|refine zn ?_|refine zf ?_)
      refine post2 (v1 := .slice none 0 0) (v2 := .int .i64 2) rfl rfl rfl ?_
      exact ⟨.inl ⟨fun hh => hm hh.1, rfl⟩, Ext.refl _⟩
    · repeat' (first|refine za ?_|refine zA ?_|refine zB ?_|refine zb ?_|refine zc ?_|refine ze ?_|refine zd ?_|refine zE ?_|refine zK ?_|refine zX ?_|refine zn ?_|refine zf ?_)
      refine post2 (v1 := .slice none 0 0) (v2 := .int .i64 2) rfl rfl rfl ?_
      exact ⟨.inl ⟨fun hh => hm hh.1, rfl⟩, Ext.refl _⟩
  repeat' (first|refine za ?_|refine zA ?_|refine zB ?_|refine zb ?_|refine zc ?_|refine ze ?_|refine zd ?_|refine zE ?_|refine zK ?_|refine zY ?_|refine zk ?_|refine zl ?_)
  refine wc_loop2 [0, 5, 13, 14] (fun (k : Nat) (vo : Value) => [(15, .int .i64 k), (4, vo)]) (fun k vo wk => k ≤ t.length ∧ Ext w wk ∧ OwnI wk w.heap.size 3 vo (iota k)) (fun k _ => t.length - k) 0 (.slice none 0 0) rfl ⟨rfl, rfl, trivial⟩ ⟨by omega, Ext.refl _, World.ownsRow_nil _ _ _ _⟩ ?_
  rintro k vo wk x ⟨hk, hE, hO⟩
  have hil := iota_len (n := k)
  by_cases hkt : k < t.length
  · repeat' (first|refine za ?_|refine zA ?_|refine zB ?_|refine zb ?_|refine zc ?_|refine ze ?_|refine zd ?_|refine zC ?_|refine zI ?_|refine zX ?_|refine zk ?_|refine zl ?_)
    refine r_append1_i el29 hO rfl rfl (by omega) hE.size ?_
    intro v2 w2 q2 hv2 hg2 _ _
    have hC2 : Ch (fun g => w.heap.size ≤ g) wk w2 := Ch.grown hg2 fun g hg => (World.ownsRow.lt hO g hg).1
    repeat' (first|refine za ?_|refine zA ?_|refine zB ?_|refine zb ?_|refine ze ?_|refine zd ?_|refine zI ?_|refine zh ?_)
    exact ⟨k + 1, v2, ⟨rfl, rfl, trivial⟩, ⟨by omega, Ch.ext_new hE hC2 (Nat.le_refl _), by rw [iota_snoc]; exact hv2⟩, by omega⟩
  have hkn : k = t.length := by omega
  subst hkn
  repeat' (first|refine za ?_|refine zb ?_|refine zc ?_|refine ze ?_|refine zd ?_|refine zC ?_|refine zY ?_|refine zm ?_|refine zg ?_|refine zj ?_)
  refine r_allocN z63 fun w3 hb3 hE3 hs3 => ?_
  obtain ⟨b, hbb⟩ : ∃ b, b = wk.heap.size := ⟨_, rfl⟩
  rw [← hbb] at hb3 ⊢
  have hE03 : Ext w w3 := hE.trans hE3
  have hbw : w.heap.size ≤ b := by rw [hbb]; exact hE.size
  have hlb : ∀ g, vo.ownBlock = some g → g < b := fun g hg => by rw [hbb]; exact (World.ownsRow.lt hO g hg).2
  repeat' (first|refine za ?_|refine zA ?_|refine zb ?_|refine zc ?_|refine ze ?_|refine zd ?_|refine zK ?_|refine zl ?_)
  refine wc_loop3 [0, 7, 24, 25] (fun (k : Nat) (vl vu : Value) => [(26, .int .i64 k), (4, vl), (5, vu)]) (fun k vl vu wk => k ≤ t.length ∧ okK t k ∧ Ext w wk ∧ OwnI wk w.heap.size 3 vl (lft t k) ∧ (∀ g, vl.ownBlock = some g → g < b) ∧ OwnI wk (b + 1) 3 vu (outK t k) ∧ b < wk.heap.size ∧
    ∃ W : List Int, Blk wk b 159 (ints W) ∧ W.length = 12 ∧ ∀ i, i < 12 → W.getD i 0 = if i < k then t.getD i 0 else 0) (fun k _ _ => t.length - k) 0 vo (.slice none 0 0) rfl ⟨rfl, rfl, rfl, trivial⟩
    ⟨by omega, fun i hi => by omega, hE03, hO.ext hE3, hlb, World.ownsRow_nil _ _ _ _, hb3.lt, _, hb3, by simp, fun i hi => by rw [if_neg (by omega), rep0]⟩ ?_
  rintro k vl vu wk x ⟨hk, hok, hE, hL, hlb, hU, hbs, W, hW, hWl, hWv⟩
  have hll := lft_len hk hok
  have hul := outK_len (t := t) (k := k)
  by_cases hkt : k < t.length
  · have hr := (h.ext hE).rd (i := k) hkt
    have hps := h.isSome (by omega)
    obtain ⟨ql, cl, rfl, hqcl⟩ := hL.ints.slice
    repeat' (first|refine za ?_|refine zA ?_|refine zB ?_|refine zb ?_|refine zc ?_|refine ze ?_|refine zd ?_|refine zC ?_|refine zJ ?_|refine zK ?_|refine zL ?_|refine zM ?_|refine zX ?_|refine zk ?_|refine zl ?_)
    (refine r_call_q (v := ?_) rfl ?_ ?_; rotate_left 1; focus exact within_any _ _ _ _)
    by_cases hin : 0 ≤ t.getD k 0 ∧ t.getD k 0 ≤ ((lft t k).length : Int) - 1
    rotate_left 1
    · rw [decide_eq_false hin]
      repeat' (first|refine za ?_|refine zB ?_|refine zb ?_|refine zc ?_|refine ze ?_|refine zd ?_|refine zO ?_|refine zX ?_|refine zn ?_|refine zf ?_|refine zi ?_)
      refine post2 (v1 := .slice none 0 0) (v2 := .int .i64 2) rfl rfl rfl ?_
      refine ⟨.inl ⟨fun hh => ?_, rfl⟩, hE⟩
      have := hh.2 k hkt
      omega
    rw [decide_eq_true hin]
    obtain ⟨a, ha⟩ : ∃ a : Nat, t.getD k 0 = a := ⟨(t.getD k 0).toNat, by omega⟩
    have hlk : lft t (k + 1) = (lft t k).eraseIdx a := by simp only [lft]; rw [ha, Int.toNat_natCast]
    have huk : outK t (k + 1) = outK t k ++ [(lft t k).getD a 0] := by simp only [outK]; rw [ha, Int.toNat_natCast]
    have hok2 : okK t (k + 1) := fun i hi => by
      by_cases e : i = k
      · subst e; omega
      · exact hok i (by omega)
    rw [ha] at hr hin ⊢
    repeat' (first|refine za ?_|refine zA ?_|refine zb ?_|refine zc ?_|refine ze ?_|refine zd ?_|refine zO ?_|refine zY ?_|refine zk ?_)
    refine r_idxA ar63 rfl rfl (by omega) (by omega) ?_
    repeat' (refine za ?_)
    refine r_st_blk (k := k) rfl hW (by show Value.pointer _ = _; rw [Int.toNat_natCast, Nat.mul_one]) rfl rfl (by rw [ints_length]; omega) fun w4 h4 hC4 hs4 => ?_
    have h4' : Blk w4 b 159 (ints (W.set k a)) := by rw [← ints_set]; exact h4
    have hE4 : Ext w w4 := Ch.trans' hE hC4 fun g hg e => by omega
    have hL4 : OwnI w4 w.heap.size 3 (.slice ql (lft t k).length cl) (lft t k) := ownsRow_keep hL hC4 fun g hg e => by have := hlb g hg; omega
    have hU4 : OwnI w4 (b + 1) 3 vu (outK t k) := ownsRow_keep hU hC4 fun g hg e => by have := (World.ownsRow.lt hU g hg).1; omega
    have hrl := hL4.ints.rd (i := a) (by omega)
    have hpl := hL4.ints.isSome (by omega)
    repeat' (first|refine za ?_|refine zA ?_|refine zb ?_|refine zc ?_|refine ze ?_|refine zd ?_|refine zL ?_|refine zM ?_)
    refine r_append1_i el29 hU4 rfl rfl (by omega) (by omega) ?_
    intro v5 w5 q5 hv5 hg5 _ _
    have hC5 : Ch (fun g => b + 1 ≤ g) w4 w5 := Ch.grown hg5 fun g hg => (World.ownsRow.lt hU4 g hg).1
    have hE5 : Ext w w5 := Ch.trans' hE4 hC5 fun g hg e => by omega
    have hL5 : OwnI w5 w.heap.size 3 (.slice ql (lft t k).length cl) (lft t k) := ownsRow_keep hL4 hC5 fun g hg e => by have := hlb g hg; omega
    have hB5 : Blk w5 b 159 (ints (W.set k a)) := h4'.keep hC5 (by omega)
    repeat' (first|refine za ?_|refine zA ?_|refine zB ?_|refine zb ?_|refine ze ?_|refine zd ?_|refine zI ?_)
    (refine r_call (R := ?_) rfl ?_ ?_; rotate_left 1; focus exact delete_any (lft t k) a cl ql _ _ hL5 (by omega) (by omega))
    rintro v6 w6 ⟨hO6, hC6, hob⟩
    have hE6 : Ext w w6 := Ch.trans' hE5 hC6 fun g hg e => by have := (World.ownsRow.lt hL5 g e).1; omega
    repeat' (first|refine za ?_|refine zA ?_|refine zB ?_|refine zb ?_|refine ze ?_|refine zd ?_|refine zI ?_|refine zh ?_)
    refine ⟨k + 1, v6, v5, ⟨rfl, rfl, rfl, trivial⟩, ⟨by omega, hok2, hE6, by rw [hlk]; exact hO6, fun g hg => hlb g (hob g hg), ?_, ?_, W.set k a, ?_, by simpa using hWl, fun i hi => ?_⟩, by omega⟩
    · rw [huk]
      exact ownsRow_keep hv5 hC6 fun g hg e => by have := hlb g e; have := (World.ownsRow.lt hv5 g hg).1; omega
    · have := hC5.size; have := hC6.size; omega
    · exact hB5.keep hC6 fun e => by have := hlb b e; omega
    · rw [getD_set (by omega)]
      by_cases e : i = k
      · subst e; rw [if_pos rfl, if_pos (by omega), ha]
      · rw [if_neg e, hWv i hi]
        by_cases e2 : i < k
        · rw [if_pos e2, if_pos (by omega)]
        · rw [if_neg e2, if_neg (by omega)]
  · have hkn : k = t.length := by omega
    subst hkn
    have hT : IsTbl t := ⟨hm, hok⟩
    have hmp := (made_perm hok).2
    have hul' := outK_len (t := t) (k := t.length)
    repeat' (first|refine za ?_|refine zb ?_|refine wc_seq_ne 19 rfl ?_|refine ze ?_|refine zd ?_|refine zC ?_|refine zY ?_|refine zm ?_|refine zg ?_|refine zj ?_)
    refine wc_seq ?_
    refine wc_heldB (fun w' => Ext wk w') (.take 0 (.take 2 (.one 1 (.take 3 .done)))) (by kernel_rfl) (by kernel_rfl) (Ext.drew wk) ?_
    refine whB_take rfl rfl (fun w' hw' => rv_move_v (v := vu) rfl) ?_
    refine whB_take rfl rfl (fun w' hw' => rv_of rfl (fun _ h => r_ldN (vs := ints W) ag63 (by decide) (hW.ext hw') (by rw [ints_length]; exact hWl) rfl h) fun _ _ h => val_of h) ?_
    refine whB_one rfl rfl ?_
    (refine r_call (R := ?_) rfl ?_ ?_; rotate_left 1; focus exact tableRow_any _ (outK t t.length) _ (hU.ints.ext (Ext.drew wk)) (by omega))
    rintro v7 w7 ⟨⟨R, rfl, hRl, hRv⟩, hE7⟩
    have hS := (Ext.drew wk).trans hE7
    refine ⟨hS, ?_⟩
    have hRW : R = W := by
      refine list_ext (by omega) fun i hi => ?_
      rw [hRv i (by omega), hWv i (by omega)]
      by_cases e : i < t.length
      · rw [if_pos e, ← tbl_at (by omega), hmp]
      · rw [if_neg e, cntB_zero (by omega)]
    subst hRW
    refine whB_take rfl rfl (fun w' hw' => rv_of rfl (fun _ h => r_neqA_f (A := R) (B := R) eq63 rfl rfl hRl hRl rfl h) fun _ _ h => val_of h) ?_
    refine whB_done ?_
    repeat' (first|refine za ?_|refine zA ?_|refine zB ?_|refine zb ?_|refine zc ?_|refine ze ?_|refine zd ?_|refine zY ?_|refine zk ?_|refine zn ?_)
    refine post2 (v1 := vu) (v2 := .int .i64 0) rfl rfl rfl ?_
    exact ⟨.inr ⟨hT, vu, rfl, ownsRow_mono (hU.ext hS) (by omega)⟩, hE.trans hS⟩
end Od
end Go.Proofs.YtocgehoffdjijaaGreat
/- order: the reference's Made and Item; Item. -/
namespace Go.Proofs.YtocgehoffdjijaaGreat
namespace Od
set_option maxRecDepth 20000
open Gv CY PO RW MD
/-- What Item answers. -/
def IsItm (n k : Int) : Prop := 0 ≤ n ∧ n ≤ 12 ∧ 0 ≤ k ∧ k < fac n.toNat
instance (n k : Int) : Decidable (IsItm n k) := by unfold IsItm; infer_instance
set_option maxRecDepth 20000 in
set_option maxHeartbeats 4000000 in
theorem item_any (n k : Int) (w : World) :
    Calls Tryz.prog 23 #[.int .i64 n, .int .i64 k] w (Ret fun v' w' => ((¬ IsItm n k ∧ v' = .tuple #[.slice none 0 0, .int .i64 2]) ∨ (IsItm n k ∧ ∃ u, v' = .tuple #[u, .int .i64 0] ∧ OwnI w' w.heap.size 3 u (itm n.toNat k))) ∧ Ext w w') := by
  refine calls_of_wc (args := [.int .i64 n, .int .i64 k]) Tryz.func23 rfl ?_ ?_; kernel_rfl
  repeat' (first|refine za ?_|refine zA ?_|refine zB ?_|refine zb ?_|refine zc ?_|refine ze ?_|refine zd ?_)
  (refine r_call_q (v := ?_) rfl ?_ ?_; rotate_left 1; focus exact within_any _ _ _ _)
  by_cases hn : 0 ≤ n ∧ n ≤ 12
  rotate_left 1
  · rw [decide_eq_false hn]
    repeat' (first|refine za ?_|refine zA ?_|refine zB ?_|refine zb ?_|refine zc ?_|refine ze ?_|refine zd ?_|refine zO ?_|refine zQ ?_|refine zV ?_|refine zX ?_|refine zn ?_|refine zf ?_)
    refine post2 (v1 := .slice none 0 0) (v2 := .int .i64 2) rfl rfl rfl ?_
    exact ⟨.inl ⟨fun hh => hn ⟨hh.1, hh.2.1⟩, rfl⟩, Ext.refl _⟩
  rw [decide_eq_true hn]
  obtain ⟨N, rfl⟩ : ∃ N : Nat, n = (N : Int) := ⟨n.toNat, by omega⟩
  have hf := fac20 (m := N) (by omega)
  have hfp := fac_pos N
  repeat' (first|refine za ?_|refine zA ?_|refine zO ?_|refine zU ?_)
  (refine r_call_q (v := ?_) rfl ?_ ?_; rotate_left 1; focus exact fac_any N _ (by omega))
  repeat' (first|refine zJ ?_|refine zU ?_)
  (refine r_call_q (v := ?_) rfl ?_ ?_; rotate_left 1; focus exact within_any _ _ _ _)
  by_cases hk : 0 ≤ k ∧ k ≤ (fac N : Int) - 1
  rotate_left 1
  · rw [decide_eq_false hk]
    repeat' (first|refine za ?_|refine zB ?_|refine zb ?_|refine zc ?_|refine ze ?_|refine zd ?_|refine zO ?_|refine zR ?_|refine zU ?_|refine zX ?_|refine zn ?_|refine zf ?_)
    refine post2 (v1 := .slice none 0 0) (v2 := .int .i64 2) rfl rfl rfl ?_
    refine ⟨.inl ⟨fun hh => hk ⟨hh.2.2.1, ?_⟩, rfl⟩, Ext.refl _⟩
    have := hh.2.2.2
    rw [Int.toNat_natCast] at this
    omega
  rw [decide_eq_true hk]
  have h0 : 0 ≤ k := hk.1
  have h1 : k < fac N := by omega
  have hI : IsItm N k := ⟨by omega, hn.2, h0, by rw [Int.toNat_natCast]; exact h1⟩
  repeat' (first|refine za ?_|refine zA ?_|refine zB ?_|refine zb ?_|refine zc ?_|refine ze ?_|refine zd ?_|refine zJ ?_|refine zO ?_|refine zR ?_|refine zU ?_|refine zY ?_|refine zk ?_|refine zl ?_)
  refine wc_loop2 [0] (fun (m : Nat) (vo : Value) => [(7, .int .i64 ((N : Int) - 1 - m)), (1, .int .i64 (rmK N k m)), (6, vo)]) (fun m vo wk => m ≤ N ∧ Ext w wk ∧ OwnI wk w.heap.size 3 vo (tkK N k m)) (fun m _ => N - m) 0 (.slice none 0 0) rfl ⟨?_, rfl, rfl, trivial⟩ ⟨by omega, Ext.refl _, World.ownsRow_nil _ _ _ _⟩ ?_
  · show Value.int .i64 _ = Value.int .i64 _
    congr 1; omega
  rintro m vo wk x ⟨hm, hE, hO⟩
  have htl := tkK_len (n := N) (k := k) (m := m)
  have hb := rmK_bnd h0 h1 hm
  have hf := fac20 (m := N - m) (by omega)
  by_cases hmn : m < N
  · have hfp := fac_pos (N - 1 - m)
    have e : (N : Int) - 1 - m = ((N - 1 - m : Nat) : Int) := by omega
    rw [e]
    repeat' (first|refine za ?_|refine zA ?_|refine zb ?_|refine zc ?_|refine ze ?_|refine zd ?_|refine zF ?_|refine zX ?_|refine zk ?_|refine zl ?_)
    (refine r_call_q (v := ?_) rfl ?_ ?_; rotate_left 1; focus exact fac_any (N - 1 - m) _ (by omega))
    refine wl_plain ?_
    refine r_quo_in rfl rfl (by omega) (by omega) ?_
    repeat' (refine za ?_)
    refine r_append1_i el29 hO rfl rfl (by omega) hE.size ?_
    intro v2 w2 q2 hv2 hg2 _ _
    have hC2 : Ch (fun g => w.heap.size ≤ g) wk w2 := Ch.grown hg2 fun g hg => (World.ownsRow.lt hO g hg).1
    repeat' (first|refine za ?_|refine zA ?_|refine zB ?_|refine zb ?_|refine ze ?_|refine zd ?_)
    (refine r_call_q (v := ?_) rfl ?_ ?_; rotate_left 1; focus exact fac_any (N - 1 - m) _ (by omega))
    refine wl_plain ?_
    refine r_rem_in rfl rfl (by omega) (by omega) ?_
    repeat' (first|refine za ?_|refine zA ?_|refine zB ?_|refine zb ?_|refine ze ?_|refine zd ?_|refine zJ ?_|refine zh ?_)
    refine ⟨m + 1, v2, ⟨?_, rfl, rfl, trivial⟩, ⟨by omega, Ch.ext_new hE hC2 (Nat.le_refl _), hv2⟩, by omega⟩
    show Value.int .i64 _ = Value.int .i64 _
    congr 1; omega
  · have : m = N := by omega
    subst this
    rw [tkK_all] at hO
    obtain ⟨_, _, hl, hok⟩ := itm_ord h0 h1 (show m ≤ 12 by omega)
    have hl2 := tk_len (m := m) (k := k)
    repeat' (first|refine za ?_|refine zA ?_|refine zb ?_|refine zc ?_|refine ze ?_|refine zd ?_|refine zF ?_|refine zY ?_|refine zm ?_|refine zg ?_|refine zj ?_)
    (refine r_call (R := ?_) rfl ?_ ?_; rotate_left 1; focus exact order_any _ (tk m k) _ hO.ints)
    rintro v w3 ⟨hv, hE3⟩
    rw [hl2] at hv
    rcases hv with ⟨hno, _⟩ | ⟨_, u, rfl, hu⟩
    · exact absurd ⟨by omega, by rw [hl2]; exact hok⟩ hno
    repeat' (first|refine za ?_|refine zB ?_|refine zb ?_|refine ze ?_|refine zS ?_|refine zn ?_)
    refine post2 (v1 := u) (v2 := .int .i64 0) rfl rfl rfl ?_
    exact ⟨.inr ⟨hI, u, rfl, by rw [Int.toNat_natCast]; exact ownsRow_mono hu hE.size⟩, hE.trans hE3⟩
end Od
end Go.Proofs.YtocgehoffdjijaaGreat

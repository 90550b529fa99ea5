/- order: the reference's Factorial; the law OrderSums. -/
import Derived.Test.YtfbkoombkmpjkaaAw
namespace Go.Proofs.Ytfbkoombkmpjkaa
open Gv CY RW
theorem inv_ok (n : Nat) (k : Int) (w : World) (hn : n ≤ 18) (hk : 0 ≤ k) : Calls Try.prog 16 #[.int .i64 n, .int .i64 k] w (Ret fun v' w' => v' = .tuple #[.int .i64 (fI n k), .int .i64 0] ∧ Ext w w') := by
  have := inversionsN_any n k w
  rw [show cntV fI n k = .tuple #[.int .i64 (fI n k), .int .i64 0] by unfold cntV; rw [if_pos (by omega), Int.toNat_natCast]] at this
  exact this
theorem des_ok (n : Nat) (k : Int) (w : World) (hn : n ≤ 18) (hk : 0 ≤ k) : Calls Try.prog 17 #[.int .i64 n, .int .i64 k] w (Ret fun v' w' => v' = .tuple #[.int .i64 (fD n k), .int .i64 0] ∧ Ext w w') := by
  have := descentsN_any n k w
  rw [show cntV fD n k = .tuple #[.int .i64 (fD n k), .int .i64 0] by unfold cntV; rw [if_pos (by omega), Int.toNat_natCast]] at this
  exact this
theorem cyc_ok (n : Nat) (k : Int) (w : World) (hn : n ≤ 18) (hk : 0 ≤ k) : Calls Try.prog 18 #[.int .i64 n, .int .i64 k] w (Ret fun v' w' => v' = .tuple #[.int .i64 (fC n k), .int .i64 0] ∧ Ext w w') := by
  have := cyclesN_any n k w
  rw [show cntV fC n k = .tuple #[.int .i64 (fC n k), .int .i64 0] by unfold cntV; rw [if_pos (by omega), Int.toNat_natCast]] at this
  exact this
theorem fac_mul {j : Nat} (h : 1 ≤ j) : (fac (j - 1) : Int) * j = fac j := by
  obtain ⟨p, rfl⟩ : ∃ p, j = p + 1 := ⟨j - 1, by omega⟩
  show ((fac p : Nat) : Int) * ((p + 1 : Nat) : Int) = (((p + 1) * fac p : Nat) : Int)
  rw [← Int.natCast_mul, Nat.mul_comm]
theorem fac20 {m : Nat} (h : m ≤ 20) : (fac m : Int) ≤ 2432902008176640000 := by
  have := fac_mono h
  have h2 : fac 20 = 2432902008176640000 := by decide
  omega
set_option maxHeartbeats 1000000 in
theorem refFac_any (n : Nat) (w : World) (hn : n ≤ 20) : Calls Try.prog 20 #[.int .i64 n] w (Ret fun v' w' => v' = .int .i64 (fac n) ∧ w' = w) := by
  refine calls_of_wc (args := [.int .i64 n]) Try.func20 rfl ?_ ?_; kernel_rfl
  repeat' (first | refine wl_plain ?_ | refine r_move_v (v := .int _ _) rfl ?_ | refine r_move_v (v := .slice _ _ _) rfl ?_ | refine r_move_v (v := .bool _) rfl ?_ | refine r_move_v (v := .pointer _) rfl ?_ | refine r_move_v (v := .map _) rfl ?_ | refine r_move ?_ | refine r_assign_v (v := .int _ _) rfl ?_ | refine r_assign_v (v := .slice _ _ _) rfl ?_ | refine r_assign_v (v := .bool _) rfl ?_ | refine r_assign_v (v := .pointer _) rfl ?_ | refine r_assign_v (v := .map _) rfl ?_ | refine r_assign ?_ | refine wl_nil ?_ | refine wc_seq ?_ | refine thenQ_normal ?_ | refine wc_region ?_ | refine r_lss rfl rfl ?_ | refine r_eql rfl rfl ?_ | refine r_neq rfl rfl ?_ | refine r_leq rfl rfl ?_ | refine r_gtr rfl rfl ?_ | refine r_geq rfl rfl ?_ | refine r_add_in rfl rfl (by omega) ?_ | refine r_sub_in rfl rfl (by omega) ?_ | refine r_len rfl rfl ?_ | (refine r_idx (sz := 1) rfl rfl rfl (by first | rfl | assumption) (by omega) (by omega) ?_) | (refine r_idx (sz := 2) rfl rfl rfl (by first | rfl | assumption) (by omega) (by omega) ?_) | (refine r_ld rfl rfl (by assumption) ?_) | refine r_not_d rfl ?_ | refine r_not rfl ?_ | refine r_nilCheck rfl ?_ | refine r_pick_t rfl ?_ | refine r_pick_f rfl ?_ | refine r_ext rfl rfl ?_ | refine wl_run rfl rfl ?_ | refine wl_pass rfl rfl rfl ?_ | refine wl_dead rfl rfl ?_ | refine wl_if_t rfl rfl (fun hcd => ?_) (fun hcd => ?_) | refine wl_if_f rfl rfl (fun hcd => ?_) (fun hcd => ?_) | refine wc_cond_t rfl ?_ | refine wc_cond_f rfl ?_ | refine wc_cond_d rfl (fun hcd => ?_) (fun hcd => ?_) | refine wc_skip ?_ | refine wc_block ?_ | refine wc_exit ?_ | refine wc_ret ?_ | refine thenQ_ret ?_ | refine thenQ_exit ?_ | refine inBl_here ?_ | refine inBl_out rfl ?_ | refine inBl_normal ?_ | refine inBl_ret ?_)
  refine wc_loop [0] (fun (j : Nat) => [(3, .int .i64 (fac (j - 1))), (4, .int .i64 j)]) (fun j wk => 2 ≤ j ∧ (j ≤ n + 1 ∨ j = 2) ∧ wk = w) (fun j => n + 1 - j) 2 rfl ⟨rfl, rfl, trivial⟩ ⟨by omega, by omega, rfl⟩ ?_
  rintro j wk x ⟨h2, hj, rfl⟩
  have hf := fac_pos (j - 1)
  repeat' (first | refine wl_plain ?_ | refine r_move_v (v := .int _ _) rfl ?_ | refine r_move_v (v := .slice _ _ _) rfl ?_ | refine r_move_v (v := .bool _) rfl ?_ | refine r_move_v (v := .pointer _) rfl ?_ | refine r_move_v (v := .map _) rfl ?_ | refine r_move ?_ | refine r_assign_v (v := .int _ _) rfl ?_ | refine r_assign_v (v := .slice _ _ _) rfl ?_ | refine r_assign_v (v := .bool _) rfl ?_ | refine r_assign_v (v := .pointer _) rfl ?_ | refine r_assign_v (v := .map _) rfl ?_ | refine r_assign ?_ | refine wl_nil ?_ | refine wc_seq ?_ | refine thenQ_normal ?_ | refine wc_region ?_ | refine k_lss_t rfl rfl (by omega) ?_ | refine k_lss_f rfl rfl (by omega) ?_ | refine k_leq_t rfl rfl (by omega) ?_ | refine k_leq_f rfl rfl (by omega) ?_ | refine k_gtr_t rfl rfl (by omega) ?_ | refine k_gtr_f rfl rfl (by omega) ?_ | refine k_geq_t rfl rfl (by omega) ?_ | refine k_geq_f rfl rfl (by omega) ?_ | refine k_eql_t rfl rfl (by omega) ?_ | refine k_eql_f rfl rfl (by omega) ?_ | refine k_neq_t rfl rfl (by omega) ?_ | refine k_neq_f rfl rfl (by omega) ?_ | refine r_lss rfl rfl ?_ | refine r_eql rfl rfl ?_ | refine r_neq rfl rfl ?_ | refine r_leq rfl rfl ?_ | refine r_gtr rfl rfl ?_ | refine r_geq rfl rfl ?_ | refine r_add_in rfl rfl (by omega) ?_ | refine r_sub_in rfl rfl (by omega) ?_ | refine r_len rfl rfl ?_ | (refine r_idx (sz := 1) rfl rfl rfl (by first | rfl | assumption) (by omega) (by omega) ?_) | (refine r_idx (sz := 2) rfl rfl rfl (by first | rfl | assumption) (by omega) (by omega) ?_) | (refine r_ld rfl rfl (by assumption) ?_) | refine r_not_d rfl ?_ | refine r_not rfl ?_ | refine r_nilCheck rfl ?_ | refine r_pick_t rfl ?_ | refine r_pick_f rfl ?_ | refine r_ext rfl rfl ?_ | refine wl_run rfl rfl ?_ | refine wl_pass rfl rfl rfl ?_ | refine wl_dead rfl rfl ?_ | refine wl_if_t rfl rfl (fun hcd => ?_) (fun hcd => ?_) | refine wl_if_f rfl rfl (fun hcd => ?_) (fun hcd => ?_) | refine wc_cond_t rfl ?_ | refine wc_cond_f rfl ?_ | refine wc_cond_d rfl (fun hcd => ?_) (fun hcd => ?_) | refine wc_skip ?_ | refine wc_block ?_ | refine wc_exit ?_ | refine wc_ret ?_ | refine thenQ_ret ?_ | refine thenQ_exit ?_ | refine inBl_here ?_ | refine inBl_out rfl ?_ | refine inBl_normal ?_ | refine inBl_ret ?_)
  · have h1 := fac_mul (j := j) (by omega)
    have h3 := fac20 (m := j) (by omega)
    refine r_mul_in rfl rfl (by rw [h1]; omega) ?_
    rw [h1]
    repeat' (first | refine wl_plain ?_ | refine r_move_v (v := .int _ _) rfl ?_ | refine r_move_v (v := .slice _ _ _) rfl ?_ | refine r_move_v (v := .bool _) rfl ?_ | refine r_move_v (v := .pointer _) rfl ?_ | refine r_move_v (v := .map _) rfl ?_ | refine r_move ?_ | refine r_assign_v (v := .int _ _) rfl ?_ | refine r_assign_v (v := .slice _ _ _) rfl ?_ | refine r_assign_v (v := .bool _) rfl ?_ | refine r_assign_v (v := .pointer _) rfl ?_ | refine r_assign_v (v := .map _) rfl ?_ | refine r_assign ?_ | refine wl_nil ?_ | refine wc_seq ?_ | refine thenQ_normal ?_ | refine wc_region ?_ | refine k_lss_t rfl rfl (by omega) ?_ | refine k_lss_f rfl rfl (by omega) ?_ | refine k_leq_t rfl rfl (by omega) ?_ | refine k_leq_f rfl rfl (by omega) ?_ | refine k_gtr_t rfl rfl (by omega) ?_ | refine k_gtr_f rfl rfl (by omega) ?_ | refine k_geq_t rfl rfl (by omega) ?_ | refine k_geq_f rfl rfl (by omega) ?_ | refine k_eql_t rfl rfl (by omega) ?_ | refine k_eql_f rfl rfl (by omega) ?_ | refine k_neq_t rfl rfl (by omega) ?_ | refine k_neq_f rfl rfl (by omega) ?_ | refine r_lss rfl rfl ?_ | refine r_eql rfl rfl ?_ | refine r_neq rfl rfl ?_ | refine r_leq rfl rfl ?_ | refine r_gtr rfl rfl ?_ | refine r_geq rfl rfl ?_ | refine r_add_in rfl rfl (by omega) ?_ | refine r_sub_in rfl rfl (by omega) ?_ | refine r_len rfl rfl ?_ | (refine r_idx (sz := 1) rfl rfl rfl (by first | rfl | assumption) (by omega) (by omega) ?_) | (refine r_idx (sz := 2) rfl rfl rfl (by first | rfl | assumption) (by omega) (by omega) ?_) | (refine r_ld rfl rfl (by assumption) ?_) | refine r_not_d rfl ?_ | refine r_not rfl ?_ | refine r_nilCheck rfl ?_ | refine r_pick_t rfl ?_ | refine r_pick_f rfl ?_ | refine r_ext rfl rfl ?_ | refine wl_run rfl rfl ?_ | refine wl_pass rfl rfl rfl ?_ | refine wl_dead rfl rfl ?_ | refine wl_if_t rfl rfl (fun hcd => ?_) (fun hcd => ?_) | refine wl_if_f rfl rfl (fun hcd => ?_) (fun hcd => ?_) | refine wc_cond_t rfl ?_ | refine wc_cond_f rfl ?_ | refine wc_cond_d rfl (fun hcd => ?_) (fun hcd => ?_) | refine wc_skip ?_ | refine wc_block ?_ | refine wc_exit ?_ | refine wc_ret ?_ | refine thenQ_ret ?_ | refine thenQ_exit ?_ | refine inBl_here ?_ | refine inBl_out rfl ?_ | refine inBl_normal ?_ | refine inBl_ret ?_)
    exact ⟨j + 1, ⟨rfl, rfl, trivial⟩, ⟨by omega, by omega, rfl⟩, by omega⟩
  · refine post1 (v := .int .i64 (fac (j - 1))) rfl rfl ?_
    refine ⟨?_, rfl⟩
    by_cases h : j = n + 1
    · subst h; rfl
    · have : n = 0 ∨ n = 1 := by omega
      have hj2 : j = 2 := by omega
      subst hj2
      rcases this with rfl | rfl <;> rfl
end Go.Proofs.Ytfbkoombkmpjkaa

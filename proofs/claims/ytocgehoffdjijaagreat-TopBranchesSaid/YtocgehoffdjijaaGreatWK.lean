/- top: sums.Bound of one modulus; seven; top: seven; top: relay: small parts: sorting of at most one element, branches of a tree with two places; top: relay: the time in a tree with two places; top: relay: the ways in a tree with two places; top: relay: the tree with two places, as newTree makes it; its time; top: nine: the simple results of stage 9. -/
import Derived.Test.YtocgehoffdjijaaGreatT1
import Derived.Test.YtocgehoffdjijaaGreatOW
import Derived.Test.YtocgehoffdjijaaGreatPK
import Derived.Test.YtocgehoffdjijaaGreatUpj
import Derived.Test.YtocgehoffdjijaaGreatUK
import Derived.Test.YtocgehoffdjijaaGreatDelS
import Derived.Test.YtocgehoffdjijaaGreatBX
/- top: sums.Bound of one modulus; seven. -/
namespace Go.Proofs.YtocgehoffdjijaaGreat
open Gv
set_option maxRecDepth 20000
theorem in170 (n lo hi : Int) (w : World) (h1 : lo ≤ n) (h2 : n ≤ hi) : Calls Tryz.prog 170 #[.int .i64 n, .int .i64 lo, .int .i64 hi] w (Ret fun v w' => v = .bool true ∧ w' = w) := by
  refine calls_of_wc (args := [.int .i64 n, .int .i64 lo, .int .i64 hi]) Tryz.func170 rfl ?_ ?_; kernel_rfl
  repeat' (first|refine za ?_|refine zA ?_|refine zB ?_|refine zb ?_|refine zc ?_|refine ze ?_|refine zd ?_|refine zD ?_|refine zF ?_|refine zQ ?_|refine zU ?_|refine zn ?_)
  refine post1 (v := .bool true) rfl rfl ?_
  exact ⟨rfl, rfl⟩
theorem z202 : (Tryz.prog.info? 202).bind (·.zero) = some (.agg (ints [0, 0, 0]).toArray) := by kernel_rfl
theorem ag202 : aggT Tryz.prog 202 3 = true := by kernel_rfl
theorem fo202_0 : fldOff Tryz.prog 202 0 = some 0 := by kernel_rfl
theorem fo202_1 : fldOff Tryz.prog 202 1 = some 2 := by kernel_rfl
theorem as200 : arrSz Tryz.prog 200 = some (2, 1) := by kernel_rfl
theorem bt200 : Tryz.prog.built 200 [(0, .int .i64 1), (1, .int .i64 1)] = some #[.int .i64 1, .int .i64 1] := by kernel_rfl
theorem bt202 (n : Int) : Tryz.prog.built 202 [(0, .agg #[.int .i64 1, .int .i64 1]), (1, .int .i64 n)] = some #[.int .i64 1, .int .i64 1, .int .i64 n] := by kernel_rfl
theorem ints_one' {L : List Int} : ∀ q ∈ ints L, q.oneCell' = true := ints_one L
set_option maxHeartbeats 4000000 in
theorem newGroup5 (q : Option Addr) (c : Nat) (w : World) (h : Ints w (.slice q 1 c) [5]) :
    Calls Tryz.prog 133 #[.slice q 1 c] w (Ret fun v w' => v = .tuple #[.agg (ints [5, 1, 1]).toArray, .bool true] ∧ Ext w w') := by
  have hps := h.isSome (by simp)
  refine calls_of_wc (args := [.slice q 1 c]) Tryz.func133 rfl ?_ ?_; kernel_rfl
  repeat' (first|refine za ?_|refine zc ?_|refine zd ?_)
  refine r_allocN z202 fun w1 hb2 hE1 hs1 => ?_
  obtain ⟨b2, eb2⟩ : ∃ b, b = w.heap.size := ⟨_, rfl⟩
  rw [← eb2] at hb2 ⊢
  repeat' (first|refine za ?_|refine zA ?_|refine zB ?_|refine zb ?_|refine zc ?_|refine ze ?_|refine zd ?_|refine zK ?_)
  (refine r_call_q (v := ?_) rfl ?_ ?_; rotate_left 1; focus exact in170 1 1 2 w1 (by omega) (by omega))
  repeat' (first|refine za ?_|refine zb ?_|refine zc ?_|refine ze ?_|refine zd ?_|refine zO ?_|refine zY ?_|refine zk ?_)
  refine r_build (cells := #[.int .i64 1, .int .i64 1]) bt200 ?_
  repeat' (first|refine za ?_|refine zA ?_|refine zK ?_)
  refine r_build (cells := #[.int .i64 1, .int .i64 1, .int .i64 1]) (bt202 1) ?_
  repeat' (refine za ?_)
  refine r_allocN z202 fun w2 hb4 hE2 hs2 => ?_
  obtain ⟨b4, eb4⟩ : ∃ b, b = w1.heap.size := ⟨_, rfl⟩
  rw [← eb4] at hb4 ⊢
  repeat' (refine za ?_)
  refine r_stN (ws := ints [1, 1, 1]) ag202 (by decide) hb4 rfl rfl rfl rfl ints_one' fun w3 h4 hC3 hs3 => ?_
  have hE13 : Ext w1 w3 := Ch.trans' hE2 hC3 fun k hk e => by omega
  repeat' (first|refine za ?_|refine zA ?_|refine zb ?_|refine zc ?_|refine ze ?_|refine zd ?_|refine zK ?_|refine zl ?_)
  refine wc_loop [0, 2, 4, 16, 17] (fun (i : Nat) => [(18, .int .i64 i)]) (fun i wk => i ≤ 1 ∧ Blk wk b4 202 (ints (if i = 0 then [1, 1, 1] else [5, 1, 1])) ∧ Ch (fun k => k = b4) w3 wk) (fun i => 1 - i) 0 rfl ⟨rfl, trivial⟩ ⟨by omega, h4, Ch.refl _ _⟩ ?_
  rintro i wk x ⟨hi, hbk, hCk⟩
  have hEk : Ext w1 wk := Ch.trans' hE13 hCk fun k hk e => by omega
  by_cases hin : i < 1
  · obtain rfl : i = 0 := by omega
    have hrd := (h.ext (hE1.trans hEk)).rd (i := 0) (by simp)
    change rd wk (pidx q 0 1) = some (.int .i64 5) at hrd
    repeat' (first|refine za ?_|refine zA ?_|refine zB ?_|refine zb ?_|refine zc ?_|refine ze ?_|refine zd ?_|refine zC ?_|refine zL ?_|refine zM ?_|refine zX ?_|refine zk ?_|refine zl ?_)
    (refine r_call_q (v := ?_) rfl ?_ ?_; rotate_left 1; focus exact in170 5 2 24 wk (by omega) (by omega))
    repeat' (first|refine za ?_|refine zA ?_|refine zb ?_|refine ze ?_|refine zd ?_|refine zO ?_|refine zY ?_|refine zk ?_)
    refine r_fa fo202_0 rfl ?_
    repeat' (refine za ?_)
    refine r_idxE as200 rfl rfl (by omega) (by omega) ?_
    repeat' (refine za ?_)
    refine r_st_blk (k := 0 + 0 + ((0 : Nat) : Int).toNat) (v := .int .i64 5) co3 hbk rfl rfl rfl (by simp [ints]) fun w5 h5 hC5 hs5 => ?_
    repeat' (first|refine za ?_|refine zA ?_|refine zb ?_|refine ze ?_|refine zd ?_|refine zI ?_|refine zh ?_)
    exact ⟨1, ⟨rfl, trivial⟩, ⟨by omega, h5, hCk.trans hC5⟩, by omega⟩
  · obtain rfl : i = 1 := by omega
    have hbd : Blk wk.drew b4 202 (ints [5, 1, 1]) := Blk.ext hbk (Ext.drew wk)
    have hb2k : Blk wk.drew b2 202 (ints [0, 0, 0]) := (hb2.ext hEk).ext (Ext.drew wk)
    repeat' (first|refine za ?_|refine zb ?_|refine zc ?_|refine ze ?_|refine zd ?_|refine zC ?_|refine zY ?_|refine zm ?_|refine zg ?_|refine zj ?_)
    refine wc_heldB (fun w' => Ch (fun k => k = b2) wk.drew w') (.take 0 (.take 1 (.take 2 (.take 3 (.take 4 (.take 5 (.take 6 (.take 7 (.take 8 (.take 9 (.take 10 (.take 11 (.take 12 (.take 13 (.take 14 (.take 15 (.take 16 (.take 17 (.take 18 (.take 19 (.take 20 (.take 21 (.take 22 (.take 23 (.one 24 (.one 25 .done)))))))))))))))))))))))))) (by kernel_rfl) (by kernel_rfl) (Ch.refl _ _) ?_
    refine whB_take rfl rfl (fun w' hw' => rv_of rfl (fun _ h => r_ldN (vs := ints [5, 1, 1]) ag202 (by decide) (Blk.keep hbd hw' (by omega)) rfl rfl h) fun _ _ h => val_of h) ?_
    refine whB_take rfl rfl (fun w' hw' => rv_fa fo202_0 rfl) ?_
    refine whB_take rfl rfl (fun w' hw' => rv_idxE as200 rfl rfl (by omega) (by omega)) ?_
    refine whB_take (v := .int .i64 5) rfl rfl (fun w' hw' => rv_ld ct3 rfl ((Blk.keep hbd hw' (by omega)).rd rfl)) ?_
    refine whB_take rfl rfl (fun w' hw' => rv_fa fo202_0 rfl) ?_
    refine whB_take rfl rfl (fun w' hw' => rv_idxE as200 rfl rfl (by omega) (by omega)) ?_
    refine whB_take (v := .int .i64 1) rfl rfl (fun w' hw' => rv_ld ct3 rfl ((Blk.keep hbd hw' (by omega)).rd rfl)) ?_
    refine whB_take (v := .int .i64 5) rfl rfl (fun w' hw' => rv_of rfl (fun _ h => r_mul_n (a := 5) (b := 1) (c := 5) rfl rfl (by decide) (by decide) h) fun _ _ h => val_of h) ?_
    refine whB_take (v := .bool true) rfl rfl (fun w' hw' => rv_of rfl (fun _ h => r_leq rfl rfl (by rw [decide_eq_true (by decide)]; exact h)) fun _ _ h => val_of h) ?_
    refine whB_take (v := .bool true) rfl rfl (fun w' hw' => rv_move_v rfl) ?_
    refine whB_takeG rfl rfl rfl rfl (fun w' hw' => rv_fa fo202_1 rfl) ?_
    refine whB_takeG (v := .int .i64 1) rfl rfl rfl rfl (fun w' hw' => rv_ld ct3 rfl ((Blk.keep hbd hw' (by omega)).rd rfl)) ?_
    refine whB_takeG (v := .bool true) rfl rfl rfl rfl (fun w' hw' => rv_of rfl (fun _ h => r_eql rfl rfl (by rw [decide_eq_true (by decide)]; exact h)) fun _ _ h => val_of h) ?_
    refine whB_takeG (v := .bool true) rfl rfl rfl rfl (fun w' hw' => rv_move_v rfl) ?_
    refine whB_dead rfl rfl rfl rfl rfl ?_
    refine whB_dead rfl rfl rfl rfl rfl ?_
    refine whB_dead rfl rfl rfl rfl rfl ?_
    refine whB_dead rfl rfl rfl rfl rfl ?_
    refine whB_dead rfl rfl rfl rfl rfl ?_
    refine whB_dead rfl rfl rfl rfl rfl ?_
    refine whB_dead rfl rfl rfl rfl rfl ?_
    refine whB_dead rfl rfl rfl rfl rfl ?_
    refine whB_takeG (v := .bool true) rfl rfl rfl rfl (fun w' hw' => rv_pick_tb rfl rfl) ?_
    refine whB_take (v := .bool true) rfl rfl (fun w' hw' => rv_pick_tb rfl rfl) ?_
    refine whB_one rfl rfl ?_
    refine r_stN (ws := ints [5, 1, 1]) ag202 (by decide) hb2k rfl rfl rfl rfl ints_one' fun w5 h5 hC5 hs5 => ?_
    have hE5 : Ext w1 wk := hEk
    have hS5 : Ch (fun k => k = b2) wk.drew w5 := hC5
    refine ⟨hS5, whB_one rfl rfl ?_⟩
    refine r_assign_v (v := .bool true) rfl ?_
    refine ⟨hS5, whB_done ?_⟩
    repeat' (first|refine ze ?_|refine zn ?_)
    refine post_c2 (v := .bool true) rfl rfl rfl ag202 (by decide) h5 rfl ⟨rfl, ?_⟩
    exact Ch.trans' ((hE1.trans hEk).trans (Ext.drew wk)) hC5 fun k hk e => by omega
set_option maxHeartbeats 1000000 in
theorem Bound5 (q : Option Addr) (c : Nat) (w : World) (h : Ints w (.slice q 1 c) [5]) :
    Calls Tryz.prog 94 #[.slice q 1 c] w (Ret fun v w' => v = .tuple #[.int .i64 5, .int .i64 0] ∧ Ext w w') := by
  refine calls_of_wc (args := [.slice q 1 c]) Tryz.func94 rfl ?_ ?_; kernel_rfl
  repeat' (first|refine za ?_|refine zA ?_|refine zB ?_|refine zb ?_|refine zc ?_|refine ze ?_|refine zd ?_)
  (refine r_call (R := ?_) rfl ?_ ?_; rotate_left 1; focus exact newGroup5 q c w h)
  rintro _ w1 ⟨rfl, hE1⟩
  repeat' (first|refine za ?_|refine zA ?_|refine zS ?_)
  refine r_allocN z202 fun w2 hb4 hE2 hs2 => ?_
  obtain ⟨b4, eb4⟩ : ∃ b, b = w1.heap.size := ⟨_, rfl⟩
  rw [← eb4] at hb4 ⊢
  repeat' (refine za ?_)
  refine r_stN (ws := ints [5, 1, 1]) ag202 (by decide) hb4 rfl rfl rfl rfl ints_one' fun w3 h4 hC3 hs3 => ?_
  have hE13 : Ext w1 w3 := Ch.trans' hE2 hC3 fun k hk e => by omega
  have g0 : rd w3 (some ⟨b4, 0 + 0 + ((0 : Int)).toNat, none⟩) = some (.int .i64 5) := h4.rd rfl
  have g1 : rd w3 (some ⟨b4, 0 + 0 + ((1 : Int)).toNat, none⟩) = some (.int .i64 1) := h4.rd rfl
  repeat' (first|refine za ?_|refine zA ?_|refine zB ?_|refine zb ?_|refine zc ?_|refine ze ?_|refine zd ?_|refine zO ?_|refine zY ?_|refine zk ?_)
  refine r_fa fo202_0 rfl ?_
  repeat' (refine za ?_)
  refine r_idxE as200 rfl rfl (by omega) (by omega) ?_
  repeat' (first|refine za ?_|refine zM ?_)
  refine r_fa fo202_0 rfl ?_
  repeat' (refine za ?_)
  refine r_idxE as200 rfl rfl (by omega) (by omega) ?_
  repeat' (first|refine za ?_|refine zB ?_|refine zb ?_|refine ze ?_|refine zI ?_|refine zJ ?_|refine zM ?_|refine zn ?_)
  refine post2 (v1 := .int .i64 5) (v2 := .int .i64 0) rfl rfl rfl ?_
  exact ⟨rfl, hE1.trans hE13⟩
end Go.Proofs.YtocgehoffdjijaaGreat
/- top: seven. -/
namespace Go.Proofs.YtocgehoffdjijaaGreat
open Gv
set_option maxRecDepth 20000
theorem isOrd21 : Od.IsOrd [2, 1] := by decide
theorem idx21 : Od.idxK [2, 1] 2 = 1 := by decide
theorem isTab3 : Pp.IsTab [[3]] := by decide
theorem pm3 : Pp.PM.pmI (Pp.ent [[3]]) 1 1 (2 ^ 1 - 1) = 3 := by decide
theorem tab_one {w : World} {base : Nat} {v u : Value} {L : List Int} (h : Gv.Own w base 27 v [u]) (hu : Ints w u L) : Tab w v [L] :=
  ⟨[u], h.sl, fun i hi => by
    have : i = 0 := by simpa using hi
    subst this
    exact ⟨u, rfl, hu⟩⟩
set_option maxHeartbeats 4000000 in
theorem seven_any (w : World) : Calls Tryz.prog 54 #[] w (Ret fun v w' => v = .bool true ∧ Ext w w') := by
  refine calls_of_wc (args := []) Tryz.func54 rfl ?_ ?_; kernel_rfl
  repeat' (first|refine za ?_|refine zB ?_|refine zb ?_|refine zc ?_|refine ze ?_|refine zd ?_)
  refine r_buildI1 (a := 5) el27 rfl fun w1 h1 hE1 hs1 => ?_
  repeat' (refine za ?_)
  (refine r_call (R := ?_) rfl ?_ ?_; rotate_left 1; focus exact Bound5 _ 1 w1 h1)
  rintro _ w2 ⟨rfl, hE2⟩
  repeat' (first|refine za ?_|refine zA ?_|refine zB ?_|refine zb ?_|refine zc ?_|refine ze ?_|refine zd ?_|refine zS ?_)
  refine r_buildS2 (a1 := 2) (a2 := 1) el27 rfl rfl fun w3 h3 hE3 hs3 => ?_
  repeat' (refine za ?_)
  (refine r_call (R := ?_) rfl ?_ ?_; rotate_left 1; focus exact Od.index_ord _ [2, 1] w3 h3.ints)
  rintro v w4 ⟨hv, hE4⟩
  rw [if_pos isOrd21] at hv
  have hv' : v = .tuple #[.int .i64 1, .int .i64 0] := by rw [hv]; exact congrArg (fun x => Value.tuple #[.int .i64 x, .int .i64 0]) idx21
  clear hv
  subst hv'
  repeat' (first|refine za ?_|refine zA ?_|refine zB ?_|refine zb ?_|refine zc ?_|refine ze ?_|refine zd ?_|refine zS ?_)
  refine r_buildI1 (a := 3) el27 rfl fun w5 h5 hE5 hs5 => ?_
  repeat' (refine za ?_)
  refine r_buildS1 el35 (u := .slice (some ⟨w4.heap.size, 0, none⟩) 1 1) rfl rfl fun w6 h6 hE6 hs6 => ?_
  repeat' (refine za ?_)
  (refine r_call (R := ?_) rfl ?_ ?_; rotate_left 1; focus exact Pp.permanent_any _ [[3]] w6 (tab_one h6 (h5.ext hE6)) (by decide) (fun l hl => by (rw [List.mem_singleton.1 hl]); decide))
  rintro v w7 ⟨hv, hE7⟩
  rw [if_pos isTab3] at hv
  have hv' : v = .tuple #[.int .i64 3, .int .i64 0] := by rw [hv]; exact congrArg (fun x => Value.tuple #[.int .i64 x, .int .i64 0]) pm3
  clear hv
  subst hv'
  repeat' (first|refine za ?_|refine zA ?_|refine zB ?_|refine zb ?_|refine zc ?_|refine ze ?_|refine zd ?_|refine zG ?_|refine zQ ?_|refine zS ?_|refine zU ?_)
  (refine r_call (R := ?_) rfl ?_ ?_; rotate_left 1; focus exact four_any w7)
  rintro _ w8 ⟨rfl, hE8⟩
  repeat' (first|refine za ?_|refine zB ?_|refine zb ?_|refine ze ?_|refine zQ ?_|refine zn ?_)
  refine post1 (v := .bool true) rfl rfl ?_
  exact ⟨rfl, ((((((hE1.trans hE2).trans hE3).trans hE4).trans hE5).trans hE6).trans hE7).trans hE8⟩
end Go.Proofs.YtocgehoffdjijaaGreat
/- top: relay: small parts: sorting of at most one element, branches of a tree with two places. -/
namespace Go.Proofs.YtocgehoffdjijaaGreat
open Gv
set_option maxRecDepth 20000
theorem insSortN (q : Option Addr) (n c : Nat) (f : Value) (w : World) (hn : n ≤ 1) (hf : ∃ g cap, f = .func g #[] cap) : Calls Tryz.prog 184 #[.slice q n c, .int .i64 0, .int .i64 (n : Int), f] w (Ret fun _ w' => w' = w) := by
  obtain ⟨g, cap, rfl⟩ := hf
  refine calls_of_wc (args := [.slice q n c, .int .i64 0, .int .i64 (n : Int), .func g #[] cap]) Tryz.func184 rfl ?_ ?_; kernel_rfl
  repeat' (first|refine za ?_|refine zA ?_|refine zB ?_|refine zb ?_|refine zc ?_|refine ze ?_|refine zd ?_|refine zI ?_|refine zl ?_)
  refine wc_loop [0, 1, 2, 3] (fun (_ : Nat) => [(8, .int .i64 1)]) (fun _ wk => wk = w) (fun i => i) 0 rfl ⟨rfl, trivial⟩ rfl ?_
  rintro i wk x rfl
  repeat' (first|refine za ?_|refine zA ?_|refine zb ?_|refine zc ?_|refine ze ?_|refine zd ?_|refine zC ?_|refine zY ?_|refine zm ?_|refine zg ?_|refine zj ?_)
  exact post0n rfl rfl
set_option maxHeartbeats 1000000 in
theorem stableN (q : Option Addr) (n c : Nat) (f : Value) (w : World) (hn : n ≤ 1) (hf : ∃ g cap, f = .func g #[] cap) : Calls Tryz.prog 183 #[.slice q n c, .int .i64 (n : Int), f] w (Ret fun _ w' => w' = w) := by
  obtain ⟨g, cap, rfl⟩ := hf
  refine calls_of_wc (args := [.slice q n c, .int .i64 (n : Int), .func g #[] cap]) Tryz.func183 rfl ?_ ?_; kernel_rfl
  repeat' (first|refine za ?_|refine zA ?_|refine zB ?_|refine zb ?_|refine zc ?_|refine ze ?_|refine zd ?_|refine zl ?_)
  refine wc_loop [0, 1, 2, 6] (fun (_ : Nat) => [(7, .int .i64 0), (8, .int .i64 20)]) (fun _ wk => wk = w) (fun i => i) 0 rfl ⟨rfl, rfl, trivial⟩ rfl ?_
  rintro i wk x rfl
  repeat' (first|refine za ?_|refine zA ?_|refine zb ?_|refine zc ?_|refine ze ?_|refine zd ?_|refine zD ?_|refine zY ?_|refine zm ?_|refine zg ?_|refine zj ?_)
  (refine r_call (R := ?_) rfl ?_ ?_; rotate_left 1; focus exact insSortN q n c (.func g #[] cap) wk hn ⟨_, _, rfl⟩)
  rintro _ wk rfl
  repeat' (first|refine zb ?_|refine ze ?_|refine zl ?_)
  refine wc_loop [0, 1, 2] (fun (_ : Nat) => [(6, .int .i64 20)]) (fun _ wz => wz = wk) (fun i => i) 0 rfl ⟨rfl, trivial⟩ rfl ?_
  rintro i wz y rfl
  repeat' (first|refine za ?_|refine zA ?_|refine zb ?_|refine zc ?_|refine ze ?_|refine zd ?_|refine zC ?_|refine zY ?_|refine zm ?_|refine zg ?_|refine zj ?_)
  exact post0n rfl rfl
theorem sortSt (q : Option Addr) (n c : Nat) (f : Value) (w : World) (hn : n ≤ 1) (hf : ∃ g cap, f = .func g #[] cap) : Calls Tryz.prog 168 #[.slice q n c, f] w (Ret fun _ w' => w' = w) := by
  obtain ⟨g, cap, rfl⟩ := hf
  refine calls_of_wc (args := [.slice q n c, .func g #[] cap]) Tryz.func168 rfl ?_ ?_; kernel_rfl
  repeat' (first|refine za ?_|refine zA ?_|refine zd ?_|refine zK ?_)
  (refine r_call (R := ?_) rfl ?_ ?_; rotate_left 1; focus exact stableN q n c (.func g #[] cap) w hn ⟨_, _, rfl⟩)
  rintro _ w rfl
  repeat' (refine zb ?_)
  exact post0n rfl rfl
theorem falling1 (v : Value) (L : List Int) (f : Value) (w : World) (h : Ints w v L) (hn : L.length ≤ 1) (hf : ∃ g cap, f = .func g #[] cap) : Calls Tryz.prog 131 #[v, f] w (Ret fun v' w' => Ints w' v' L ∧ Ext w w') := by
  obtain ⟨g, cap, rfl⟩ := hf
  obtain ⟨q, c, rfl, _⟩ := h.slice
  refine calls_of_wc (args := [.slice q L.length c, .func g #[] cap]) Tryz.func131 rfl ?_ ?_; kernel_rfl
  repeat' (first|refine za ?_|refine zc ?_|refine zd ?_)
  refine r_box (v := .func g #[] cap) rfl rfl fun w1 hb1 hE1 hs1 => ?_
  repeat' (first|refine za ?_|refine zA ?_|refine zB ?_|refine zb ?_|refine zc ?_|refine ze ?_|refine zd ?_)
  (refine r_call (R := ?_) rfl ?_ ?_; rotate_left 1; focus exact clone82 _ L w1 (h.ext hE1) (by omega))
  rintro v2 w2 ⟨hv2, hE2⟩
  obtain ⟨q2, c2, rfl, _⟩ := hv2.ints.slice
  repeat' (first|refine za ?_|refine zA ?_|refine zB ?_|refine zb ?_|refine zc ?_|refine ze ?_|refine zd ?_)
  refine r_mkfn (as_ := []) (bs := [.tmp 3]) ?_
  repeat' (refine za ?_)
  (refine r_call (R := ?_) rfl ?_ ?_; rotate_left 1; focus exact sortSt q2 L.length c2 (.func (.func 169) #[] #[.pointer (some ⟨w.heap.size, 0, none⟩)]) w2 hn ⟨_, _, rfl⟩)
  rintro _ w2 rfl
  repeat' (first|refine za ?_|refine zA ?_|refine zB ?_|refine zb ?_|refine zc ?_|refine ze ?_|refine zd ?_|refine zn ?_)
  refine post1 (v := .slice q2 L.length c2) rfl rfl ?_
  exact ⟨hv2.ints, hE1.trans hE2⟩
theorem is130 (u f : Int) (b : Nat) (w : World) (hb : Box w b 3 (.int .i64 f)) (t : Bool) (ht : decide (u = f) = t) : Calls Tryz.prog 130 #[.int .i64 u, .pointer (some ⟨b, 0, none⟩)] w (Ret fun v w' => v = .bool t ∧ w' = w) := by
  have g := hb.rd
  refine calls_of_wc (args := [.int .i64 u, .pointer (some ⟨b, 0, none⟩)]) Tryz.func130 rfl ?_ ?_; kernel_rfl
  subst ht
  by_cases h : u = f
  · repeat' (first|refine za ?_|refine zA ?_|refine zB ?_|refine zb ?_|refine zc ?_|refine ze ?_|refine zd ?_|refine zG ?_|refine zM ?_|refine zn ?_)
    refine post1 (v := .bool true) rfl rfl ?_
    exact ⟨by rw [decide_eq_true h], rfl⟩
  · repeat' (first|refine za ?_|refine zA ?_|refine zB ?_|refine zb ?_|refine zc ?_|refine ze ?_|refine zd ?_|refine zG ?_|refine zM ?_|refine zn ?_)
    refine post1 (v := .bool false) rfl rfl ?_
    exact ⟨by rw [decide_eq_false h], rfl⟩
/-- slices.IndexFunc over one int. -/
theorem idxOne (q : Option Addr) (c : Nat) (u f : Int) (b : Nat) (w : World) (h : Ints w (.slice q 1 c) [u]) (hb : Box w b 3 (.int .i64 f)) :
    Calls Tryz.prog 121 #[.slice q 1 c, .func (.func 130) #[] #[.pointer (some ⟨b, 0, none⟩)]] w (Ret fun v w' => v = .int .i64 (if u = f then 0 else -1) ∧ w' = w) := by
  have hps := h.isSome (by simp)
  have hrd := h.rd (i := 0) (by simp)
  change rd w (pidx q 0 1) = some (.int .i64 u) at hrd
  refine calls_of_wc (args := [.slice q 1 c, .func (.func 130) #[] #[.pointer (some ⟨b, 0, none⟩)]]) Tryz.func121 rfl ?_ ?_; kernel_rfl
  repeat' (first|refine za ?_|refine zA ?_|refine zB ?_|refine zb ?_|refine zc ?_|refine ze ?_|refine zd ?_|refine zK ?_|refine zl ?_)
  refine wc_loop [0, 1, 7] (fun (k : Nat) => [(8, .int .i64 k)]) (fun k wk => wk = w ∧ k ≤ 1 ∧ (k = 1 → u ≠ f)) (fun k => 1 - k) 0 rfl ⟨rfl, trivial⟩ ⟨rfl, by omega, fun h => by omega⟩ ?_
  rintro k wk x ⟨rfl, hk, hne⟩
  by_cases hin : k < 1
  · obtain rfl : k = 0 := by omega
    by_cases e : u = f
    · repeat' (first|refine za ?_|refine zA ?_|refine zB ?_|refine zb ?_|refine zc ?_|refine ze ?_|refine zd ?_|refine zC ?_|refine zL ?_|refine zM ?_|refine zX ?_|refine zk ?_|refine zl ?_)
      refine r_callV (cap := [.pointer (some ⟨b, 0, none⟩)]) rfl rfl (is130 u f b wk hb true (decide_eq_true e)) ?_
      rintro v' w' ⟨rfl, rfl⟩
      repeat' (first|refine za ?_|refine zA ?_|refine zB ?_|refine zb ?_|refine zc ?_|refine ze ?_|refine zd ?_|refine zX ?_|refine zn ?_|refine zf ?_|refine zi ?_)
      refine post1 (v := .int .i64 0) rfl rfl ?_
      exact ⟨by rw [if_pos e], rfl⟩
    · repeat' (first|refine za ?_|refine zA ?_|refine zB ?_|refine zb ?_|refine zc ?_|refine ze ?_|refine zd ?_|refine zC ?_|refine zL ?_|refine zM ?_|refine zX ?_|refine zk ?_|refine zl ?_)
      refine r_callV (cap := [.pointer (some ⟨b, 0, none⟩)]) rfl rfl (is130 u f b wk hb false (decide_eq_false e)) ?_
      rintro v' w' ⟨rfl, rfl⟩
      repeat' (first|refine za ?_|refine zA ?_|refine zb ?_|refine ze ?_|refine zd ?_|refine zI ?_|refine zY ?_|refine zk ?_|refine zh ?_)
      exact ⟨1, ⟨rfl, trivial⟩, ⟨rfl, by omega, fun _ => e⟩, by omega⟩
  · obtain rfl : k = 1 := by omega
    repeat' (first|refine za ?_|refine zB ?_|refine zb ?_|refine zc ?_|refine ze ?_|refine zd ?_|refine zC ?_|refine zY ?_|refine zm ?_|refine zn ?_|refine zg ?_|refine zj ?_)
    refine post1 (v := .int .i64 (-1)) rfl rfl ?_
    exact ⟨by rw [if_neg (hne rfl)], rfl⟩
theorem r_slice_v {P : Program} {st : Bool} {K : Env → World → Prop} {ρ : Env} {w : World} {d : Nat} {t ty : TypeId} {pos : String} {aft : Array Edge} {gd : Option (Nat × Bool)} {x : Operand} {sz n : Nat} {v : Value} {lo hi : Option Operand} {q : Option Addr} {c l h' : Nat} (hi_ : sliceSz P t = some sz) (hx : ev ρ x = .slice q n c) (hl : bnd ρ lo l 0) (hh : bnd ρ hi h' n) (h1 : l ≤ h') (h2 : h' ≤ c)
    (hv : Value.slice (if c = l then q else q.map fun a => a.add (l * sz)) (h' - l) (c - l) = v) (h : K (up ρ d v) w) : w1 P st ⟨some d, .slice t x lo hi none, ty, pos, aft, gd⟩ K ρ w := r_slice hi_ hx hl hh h1 h2 (by rw [hv]; exact h)
/-- slices.DeleteFunc of one int. -/
theorem delOne (q : Option Addr) (c : Nat) (u f : Int) (b base : Nat) (w : World) (h : OwnI w base 3 (.slice q 1 c) [u]) (hb : Box w b 3 (.int .i64 f)) :
    Calls Tryz.prog 129 #[.slice q 1 c, .func (.func 130) #[] #[.pointer (some ⟨b, 0, none⟩)]] w (Ret fun v w' => Ints w' v (if u = f then [] else [u]) ∧ Ch (fun k => (Value.slice q 1 c).ownBlock = some k) w w') := by
  have hi := idxOne q c u f b w h.ints hb
  refine calls_of_wc (args := [.slice q 1 c, .func (.func 130) #[] #[.pointer (some ⟨b, 0, none⟩)]]) Tryz.func129 rfl ?_ ?_; kernel_rfl
  by_cases e : u = f
  · rw [if_pos e] at hi ⊢
    repeat' (first|refine za ?_|refine zA ?_|refine zB ?_|refine zb ?_|refine zc ?_|refine ze ?_|refine zd ?_)
    (refine r_call_q (v := ?_) rfl ?_ ?_; rotate_left 1; focus exact hi)
    repeat' (first|refine za ?_|refine zA ?_|refine zB ?_|refine zb ?_|refine zc ?_|refine ze ?_|refine zd ?_|refine zG ?_|refine zI ?_|refine zY ?_|refine zk ?_|refine zl ?_)
    refine wc_loop [0, 1] (fun (_ : Nat) => [(5, .int .i64 0), (6, .int .i64 1)]) (fun _ wk => wk = w) (fun k => k) 0 rfl ⟨rfl, rfl, trivial⟩ rfl ?_
    rintro k wk x rfl
    rcases h.2 with ⟨hv, _⟩ | ⟨g, cap, cur, hv, hbg, hg, hnc, hcm, hcs, htk⟩
    · cases hv
    cases hv
    have hc1 : 1 ≤ c := hnc
    repeat' (first|refine za ?_|refine zA ?_|refine zb ?_|refine zc ?_|refine ze ?_|refine zd ?_|refine zC ?_|refine zK ?_|refine zY ?_|refine zm ?_|refine zg ?_|refine zj ?_)
    refine r_slice_v (l := 0) (h' := 1) (v := .slice (some ⟨g, 0, none⟩) 1 c) sz27 rfl ⟨.i64, rfl⟩ rfl (by decide) hc1 (by rw [if_neg (by omega)]; rfl) ?_
    repeat' (refine za ?_)
    refine r_clear (g := g) (o := 0) (n := 1) (cur := cur) el27 rfl hg rfl (by decide) (by rw [hcs]; omega) ?_
    have hC2 : Ch (fun k => k = g) wk (wk.setRow g (cur.toList.take 0 ++ List.replicate 1 (Value.int .i64 0) ++ cur.toList.drop (0 + 1)).toArray) := ⟨rfl, rfl, rfl, by simp, fun k _ hk => setRow_other wk g k _ hk⟩
    repeat' (first|refine za ?_|refine zA ?_|refine zb ?_|refine zc ?_|refine ze ?_|refine zd ?_)
    refine r_slice_v (l := 0) (h' := 0) (v := .slice (some ⟨g, 0, none⟩) 0 c) sz27 rfl rfl ⟨.i64, rfl⟩ (by decide) (by omega) (by rw [if_neg (by omega)]; rfl) ?_
    repeat' (first|refine za ?_|refine zB ?_|refine zb ?_|refine ze ?_|refine zn ?_)
    refine post1 (v := .slice (some ⟨g, 0, none⟩) 0 c) rfl rfl ?_
    exact ⟨⟨_, _, rfl, Nat.zero_le _, rfl, .inl rfl⟩, hC2.mono fun k _ e => by rw [e]; rfl⟩
  · rw [if_neg e] at hi ⊢
    repeat' (first|refine za ?_|refine zA ?_|refine zB ?_|refine zb ?_|refine zc ?_|refine ze ?_|refine zd ?_)
    (refine r_call_q (v := ?_) rfl ?_ ?_; rotate_left 1; focus exact hi)
    repeat' (first|refine za ?_|refine zA ?_|refine zB ?_|refine zb ?_|refine zc ?_|refine ze ?_|refine zd ?_|refine zG ?_|refine zX ?_|refine zn ?_|refine zf ?_)
    refine post1 (v := .slice q 1 c) rfl rfl ?_
    exact ⟨h.ints, Ch.refl _ _⟩
/-- The tree with two places, as it is made. -/
structure Tr2 (b97 : Nat) (qn : Option Addr) (cn : Nat) (q0 q1 : Option Addr) (c0 c1 : Nat) (bm : Nat) (F : Int × Int → Option Value) (w : World) : Prop where
  r0 : rd w (pidx qn 0 1) = some (.slice q0 1 c0)
  r1 : rd w (pidx qn 1 1) = some (.slice q1 1 c1)
  i0 : Ints w (.slice q0 1 c0) [1]
  i1 : Ints w (.slice q1 1 c1) [0]
  mp : MapF encP w bm F
theorem fo97_0 : fldOff Tryz.prog 97 0 = some 0 := by kernel_rfl
theorem fo97_1 : fldOff Tryz.prog 97 1 = some 1 := by kernel_rfl
theorem ct95 : cellT Tryz.prog 95 = true := by kernel_rfl
abbrev trV (qn : Option Addr) (cn bm : Nat) : List Value := [.slice qn 2 cn, .map (some bm)]
set_option maxHeartbeats 2000000 in
/-- The neighbors of a place, without one of them. -/
theorem branches2 (qn qr : Option Addr) (cn cr bm : Nat) (a : Nat) (f u : Int) (w : World) (ha : a < 2) (hr : rd w (pidx qn a 1) = some (.slice qr 1 cr)) (hi : Ints w (.slice qr 1 cr) [u]) (hqn : qn.isSome = true) :
    Calls Tryz.prog 93 #[.agg (trV qn cn bm).toArray, .int .i64 (a : Int), .int .i64 f] w (Ret fun v w' => Ints w' v (if u = f then [] else [u]) ∧ Ext w w') := by
  refine calls_of_wc (args := [.agg (trV qn cn bm).toArray, .int .i64 (a : Int), .int .i64 f]) Tryz.func93 rfl ?_ ?_; kernel_rfl
  repeat' (first|refine za ?_|refine zc ?_|refine zd ?_)
  refine r_boxN (cells := trV qn cn bm) rfl fun w1 hb3 hE1 hs1 => ?_
  obtain ⟨b3, eb3⟩ : ∃ b, b = w.heap.size := ⟨_, rfl⟩
  rw [← eb3] at hb3 ⊢
  repeat' (refine za ?_)
  refine r_box (v := .int .i64 (a : Int)) rfl rfl fun w2 hb4 hE2 hs2 => ?_
  obtain ⟨b4, eb4⟩ : ∃ b, b = w1.heap.size := ⟨_, rfl⟩
  rw [← eb4] at hb4 ⊢
  repeat' (refine za ?_)
  refine r_box (v := .int .i64 f) rfl rfl fun w3 hb5 hE3 hs3 => ?_
  obtain ⟨b5, eb5⟩ : ∃ b, b = w2.heap.size := ⟨_, rfl⟩
  rw [← eb5] at hb5 ⊢
  have hE03 := (hE1.trans hE2).trans hE3
  have g0 : rd w3 (some ⟨b3, 0 + 0, none⟩) = some (.slice qn 2 cn) := (hb3.ext (hE2.trans hE3)).rd rfl
  have g4 := (hb4.ext hE3).rd
  have gr := rd_ext hr hE03
  repeat' (first|refine za ?_|refine zB ?_|refine zb ?_|refine zc ?_|refine ze ?_|refine zd ?_)
  refine r_fa fo97_0 rfl ?_
  repeat' (first|refine za ?_|refine zL ?_|refine zM ?_)
  (refine r_call (R := ?_) rfl ?_ ?_; rotate_left 1; focus exact clone82 _ [u] w3 (hi.ext hE03) (by simp))
  rintro v w4 ⟨hv, hE4⟩
  obtain ⟨q4, c4, rfl, _⟩ := hv.ints.slice
  repeat' (refine za ?_)
  refine r_mkfn (as_ := []) (bs := [.tmp 5]) ?_
  repeat' (refine za ?_)
  (refine r_call (R := ?_) rfl ?_ ?_; rotate_left 1; focus exact delOne q4 c4 u f b5 w3.heap.size w4 hv (hb5.ext hE4))
  rintro v5 w5 ⟨hv5, hC5⟩
  have hE35 : Ext w3 w5 := Ch.trans' hE4 hC5 fun k hk e => by have := (hv.lt k e).1; omega
  have hl5 : (if u = f then [] else [u] : List Int).length ≤ 1 := by split <;> simp
  obtain ⟨q5, c5, rfl, _⟩ := hv5.slice
  repeat' (first|refine za ?_|refine zA ?_|refine zB ?_|refine zb ?_|refine zc ?_|refine ze ?_|refine zd ?_)
  refine r_mkfn (as_ := []) (bs := [.tmp 3, .tmp 4]) ?_
  repeat' (refine za ?_)
  (refine r_call (R := ?_) rfl ?_ ?_; rotate_left 1; focus exact falling1 _ _ (.func (.func 132) #[] #[.pointer (some ⟨b3, 0, none⟩), .pointer (some ⟨b4, 0, none⟩)]) w5 hv5 hl5 ⟨_, _, rfl⟩)
  rintro v6 w6 ⟨hv6, hE6⟩
  obtain ⟨q6, c6, rfl, _⟩ := hv6.slice
  repeat' (first|refine za ?_|refine zB ?_|refine zb ?_|refine ze ?_|refine zn ?_)
  refine post1 rfl rfl ?_
  exact ⟨hv6, (hE03.trans hE35).trans hE6⟩
end Go.Proofs.YtocgehoffdjijaaGreat
/- top: relay: the time in a tree with two places. -/
namespace Go.Proofs.YtocgehoffdjijaaGreat
open Gv Go.WideMaps
set_option maxRecDepth 20000
theorem bt38 (a b : Int) : Tryz.prog.built 38 [(0, .int .i64 a), (1, .int .i64 b)] = some #[.int .i64 a, .int .i64 b] := by kernel_rfl
theorem z38 : (Tryz.prog.info? 38).bind (·.zero) = some (.agg [.int .i64 0, .int .i64 0].toArray) := by kernel_rfl
theorem ag38 : aggT Tryz.prog 38 2 = true := by kernel_rfl
theorem ag97 : aggT Tryz.prog 97 2 = true := by kernel_rfl
theorem ak38 : ArrKey Tryz.prog 38 3 2 := ⟨Tryz.underlying38, by kernel_rfl, by kernel_rfl, by kernel_rfl⟩
theorem k38 : KeyOf Tryz.prog 38 encP := key_pair ak38 Tryz.underlying3
theorem mp95 : mapT Tryz.prog 95 = some (38, 3, .int .i64 0) := by kernel_rfl
theorem Tr2.keepM {b97 : Nat} {qn : Option Addr} {cn : Nat} {q0 q1 : Option Addr} {c0 c1 bm : Nat} {F : Int × Int → Option Value} {w w' : World} (h : Tr2 b97 qn cn q0 q1 c0 c1 bm F w) {F' : Int × Int → Option Value} (hF : MapF encP w' bm F') (hC : Ch (fun k => k = bm) w w') : Tr2 b97 qn cn q0 q1 c0 c1 bm F' w' :=
  ⟨rd_keepM h.r0 h.mp hC, rd_keepM h.r1 h.mp hC, h.i0.keepM h.mp hC, h.i1.keepM h.mp hC, hF⟩
theorem Tr2.ext {b97 : Nat} {qn : Option Addr} {cn : Nat} {q0 q1 : Option Addr} {c0 c1 bm : Nat} {F : Int × Int → Option Value} {w w' : World} (h : Tr2 b97 qn cn q0 q1 c0 c1 bm F w) (hE : Ext w w') : Tr2 b97 qn cn q0 q1 c0 c1 bm F w' :=
  ⟨rd_ext h.r0 hE, rd_ext h.r1 hE, h.i0.ext hE, h.i1.ext hE, h.mp.ext hE⟩
set_option maxHeartbeats 4000000 in
theorem time01 (b97 : Nat) (qn : Option Addr) (cn : Nat) (q0 q1 : Option Addr) (c0 c1 bm : Nat) (F : Int × Int → Option Value) (w : World) (h : Tr2 b97 qn cn q0 q1 c0 c1 bm F w) (hq : qn.isSome = true) (hF : F (0, 1) = none) :
    Calls Tryz.prog 53 #[.agg (trV qn cn bm).toArray, .int .i64 0, .int .i64 1] w (Ret fun v w' => v = .int .i64 0 ∧ Tr2 b97 qn cn q0 q1 c0 c1 bm (fun k' => if k' = (0, 1) then some (.int .i64 0) else F k') w' ∧ Ch (fun k => k = bm) w w') := by
  refine calls_of_wc (args := [.agg (trV qn cn bm).toArray, .int .i64 0, .int .i64 1]) Tryz.func53 rfl ?_ ?_; kernel_rfl
  repeat' (first|refine za ?_|refine zc ?_|refine zd ?_)
  refine r_boxN (cells := trV qn cn bm) rfl fun w1 hb3 hE1 hs1 => ?_
  obtain ⟨b3, eb3⟩ : ∃ b, b = w.heap.size := ⟨_, rfl⟩
  rw [← eb3] at hb3 ⊢
  repeat' (first|refine za ?_|refine zA ?_|refine zB ?_|refine zb ?_|refine zc ?_|refine ze ?_|refine zd ?_)
  refine r_build (cells := #[.int .i64 0, .int .i64 1]) (bt38 0 1) ?_
  repeat' (refine za ?_)
  refine r_allocN z38 fun w2 hb7 hE2 hs2 => ?_
  obtain ⟨b7, eb7⟩ : ∃ b, b = w1.heap.size := ⟨_, rfl⟩
  rw [← eb7] at hb7 ⊢
  repeat' (refine za ?_)
  refine r_stN (ws := [.int .i64 0, .int .i64 1]) ag38 (by decide) hb7 rfl rfl rfl rfl (by intro q hq; simp at hq; rcases hq with rfl | rfl <;> rfl) fun w3 h7 hC3 hs3 => ?_
  have hE3 : Ext w1 w3 := Ch.trans' hE2 hC3 fun k hk e => by omega
  have h3 := h.ext (hE1.trans hE3)
  have hb33 := hb3.ext hE3
  have hbm : bm < b3 := by have := h.mp.lt; omega
  have g1 : rd w3 (some ⟨b3, 0 + 1, none⟩) = some (.map (some bm)) := hb33.rd rfl
  repeat' (first|refine za ?_|refine zb ?_|refine zc ?_|refine ze ?_|refine zd ?_)
  refine r_fa fo97_1 rfl ?_
  repeat' (first|refine za ?_|refine zM ?_)
  refine r_ldN (vs := [.int .i64 0, .int .i64 1]) ag38 (by decide) h7 rfl rfl ?_
  repeat' (refine za ?_)
  refine r_lookup_none (k := ((0 : Int), (1 : Int))) mp95 k38 h3.mp rfl rfl hF ?_
  repeat' (first|refine za ?_|refine zA ?_|refine zB ?_|refine zb ?_|refine zc ?_|refine ze ?_|refine zd ?_|refine zO ?_|refine zS ?_|refine zX ?_)
  refine r_ldN (vs := trV qn cn bm) ag97 (by decide) hb33 rfl rfl ?_
  repeat' (first|refine za ?_|refine zA ?_)
  (refine r_call (R := ?_) rfl ?_ ?_; rotate_left 1; focus exact branches2 qn q0 cn c0 bm 0 1 1 w3 (by omega) h3.r0 h3.i0 hq)
  rintro v w4 ⟨hv, hE4⟩
  rw [if_pos rfl] at hv
  obtain ⟨q4, c4, e4, _⟩ := hv.slice
  have e4' : v = .slice q4 0 c4 := e4
  clear e4
  subst e4'
  have h4 := h3.ext hE4
  have hb34 := hb33.ext hE4
  have h74 := Blk.ext h7 hE4
  have g14 : rd w4 (some ⟨b3, 0 + 1, none⟩) = some (.map (some bm)) := hb34.rd rfl
  repeat' (first|refine za ?_|refine zA ?_|refine zb ?_|refine ze ?_|refine zK ?_|refine zl ?_)
  refine wc_loop [0, 1, 2, 3, 7, 28, 29] (fun (_ : Nat) => [(10, .int .i64 0), (30, .int .i64 0)]) (fun _ wk => wk = w4) (fun k => k) 0 rfl ⟨rfl, rfl, trivial⟩ rfl ?_
  rintro k wk x rfl
  repeat' (first|refine za ?_|refine zb ?_|refine zc ?_|refine ze ?_|refine zd ?_|refine zC ?_|refine zY ?_|refine zm ?_|refine zg ?_|refine zj ?_)
  refine r_fa fo97_1 rfl ?_
  repeat' (first|refine za ?_|refine zM ?_)
  refine r_ldN (vs := [.int .i64 0, .int .i64 1]) ag38 (by decide) h74 rfl rfl ?_
  repeat' (first|refine za ?_|refine zA ?_)
  refine r_mapUpdate (k := ((0 : Int), (1 : Int))) (v := .int .i64 0) mp95 k38 h4.mp rfl rfl rfl fun w6 hF6 hC6 hs6 => ?_
  have h6 := h4.keepM hF6 hC6
  have g16 : rd w6 (some ⟨b3, 0 + 1, none⟩) = some (.map (some bm)) := (hb34.keep hC6 (by omega)).rd rfl
  have h76 := Blk.keep h74 hC6 (by omega)
  repeat' (first|refine za ?_|refine zb ?_|refine zc ?_|refine ze ?_|refine zd ?_)
  refine r_fa fo97_1 rfl ?_
  repeat' (first|refine za ?_|refine zM ?_)
  refine r_ldN (vs := [.int .i64 0, .int .i64 1]) ag38 (by decide) h76 rfl rfl ?_
  repeat' (refine za ?_)
  refine r_lookup (k := ((0 : Int), (1 : Int))) (v := .int .i64 0) mp95 k38 hF6 rfl rfl rfl ?_
  repeat' (first|refine za ?_|refine zB ?_|refine zb ?_|refine ze ?_|refine zn ?_)
  refine post1 (v := .int .i64 0) rfl rfl ?_
  exact ⟨rfl, h6, Ch.trans' (Ext.ch ((hE1.trans hE3).trans hE4)) hC6 fun k _ e => e⟩
set_option maxHeartbeats 4000000 in
theorem time1 (b97 : Nat) (qn : Option Addr) (cn : Nat) (q0 q1 : Option Addr) (c0 c1 bm : Nat) (F : Int × Int → Option Value) (w : World) (h : Tr2 b97 qn cn q0 q1 c0 c1 bm F w) (hq : qn.isSome = true) (hF : F (0, 1) = none) (hF1 : F (1, -1) = none) :
    Calls Tryz.prog 53 #[.agg (trV qn cn bm).toArray, .int .i64 1, .int .i64 (-1)] w (Ret fun v w' => v = .int .i64 1 ∧ Ch (fun k => k = bm) w w') := by
  refine calls_of_wc (args := [.agg (trV qn cn bm).toArray, .int .i64 1, .int .i64 (-1)]) Tryz.func53 rfl ?_ ?_; kernel_rfl
  repeat' (first|refine za ?_|refine zc ?_|refine zd ?_)
  refine r_boxN (cells := trV qn cn bm) rfl fun w1 hb3 hE1 hs1 => ?_
  obtain ⟨b3, eb3⟩ : ∃ b, b = w.heap.size := ⟨_, rfl⟩
  rw [← eb3] at hb3 ⊢
  repeat' (first|refine za ?_|refine zA ?_|refine zB ?_|refine zb ?_|refine zc ?_|refine ze ?_|refine zd ?_)
  refine r_build (cells := #[.int .i64 1, .int .i64 (-1)]) (bt38 1 (-1)) ?_
  repeat' (refine za ?_)
  refine r_allocN z38 fun w2 hb7 hE2 hs2 => ?_
  obtain ⟨b7, eb7⟩ : ∃ b, b = w1.heap.size := ⟨_, rfl⟩
  rw [← eb7] at hb7 ⊢
  repeat' (refine za ?_)
  refine r_stN (ws := [.int .i64 1, .int .i64 (-1)]) ag38 (by decide) hb7 rfl rfl rfl rfl (by intro q hq; simp at hq; rcases hq with rfl | rfl <;> rfl) fun w3 h7 hC3 hs3 => ?_
  have hE3 : Ext w1 w3 := Ch.trans' hE2 hC3 fun k hk e => by omega
  have h3 := h.ext (hE1.trans hE3)
  have hb33 := hb3.ext hE3
  have hbm : bm < b3 := by have := h.mp.lt; omega
  have g1 : rd w3 (some ⟨b3, 0 + 1, none⟩) = some (.map (some bm)) := hb33.rd rfl
  repeat' (first|refine za ?_|refine zb ?_|refine zc ?_|refine ze ?_|refine zd ?_)
  refine r_fa fo97_1 rfl ?_
  repeat' (first|refine za ?_|refine zM ?_)
  refine r_ldN (vs := [.int .i64 1, .int .i64 (-1)]) ag38 (by decide) h7 rfl rfl ?_
  repeat' (refine za ?_)
  refine r_lookup_none (k := ((1 : Int), (-1 : Int))) mp95 k38 h3.mp rfl rfl hF1 ?_
  repeat' (first|refine za ?_|refine zA ?_|refine zB ?_|refine zb ?_|refine zc ?_|refine ze ?_|refine zd ?_|refine zO ?_|refine zS ?_|refine zX ?_)
  refine r_ldN (vs := trV qn cn bm) ag97 (by decide) hb33 rfl rfl ?_
  repeat' (first|refine za ?_|refine zA ?_)
  (refine r_call (R := ?_) rfl ?_ ?_; rotate_left 1; focus exact branches2 qn q1 cn c1 bm 1 (-1) 0 w3 (by omega) h3.r1 h3.i1 hq)
  rintro v w4 ⟨hv, hE4⟩
  rw [if_neg (by decide)] at hv
  obtain ⟨q4, c4, e4, _⟩ := hv.slice
  have e4' : v = .slice q4 1 c4 := e4
  clear e4
  subst e4'
  have h4 := h3.ext hE4
  have hb34 := hb33.ext hE4
  have h74 := Blk.ext h7 hE4
  have hps := hv.isSome (by simp)
  have hrd := hv.rd (i := 0) (by simp)
  change rd w4 (pidx q4 0 1) = some (.int .i64 0) at hrd
  have hb4 : bm < w4.heap.size := h4.mp.lt
  repeat' (first|refine za ?_|refine zA ?_|refine zb ?_|refine ze ?_|refine zK ?_|refine zl ?_)
  refine wc_loop [0, 1, 2, 3, 7, 28, 29] (fun (i : Nat) => [(10, .int .i64 (i : Int)), (30, .int .i64 (i : Int))]) (fun i wk => i ≤ 1 ∧ Ch (fun k => k = bm) w4 wk ∧ ∃ F', MapF encP wk bm F' ∧ (i = 0 → wk = w4 ∧ F' = F)) (fun i => 1 - i) 0 rfl ⟨rfl, rfl, trivial⟩ ⟨by omega, Ch.refl _ _, F, h4.mp, fun _ => ⟨rfl, rfl⟩⟩ ?_
  rintro i wk x ⟨hi, hCk, F', hF', hi0⟩
  have hb3k := hb34.keep hCk (by omega)
  have h7k := Blk.keep h74 hCk (by omega)
  by_cases hin : i < 1
  · obtain rfl : i = 0 := by omega
    obtain ⟨rfl, rfl⟩ := hi0 rfl
    repeat' (first|refine za ?_|refine zA ?_|refine zB ?_|refine zb ?_|refine zc ?_|refine ze ?_|refine zd ?_|refine zC ?_|refine zI ?_|refine zL ?_|refine zM ?_|refine zX ?_|refine zk ?_|refine zl ?_)
    refine r_ldN (vs := trV qn cn bm) ag97 (by decide) hb3k rfl rfl ?_
    repeat' (first|refine za ?_|refine zA ?_)
    (refine r_call (R := ?_) rfl ?_ ?_; rotate_left 1; focus exact time01 b97 qn cn q0 q1 c0 c1 bm F' wk h4 hq hF)
    rintro _ w6 ⟨rfl, h6, hC6⟩
    repeat' (first|refine za ?_|refine zI ?_)
    refine r_max (c := 1) rfl rfl (by decide) ?_
    repeat' (first|refine za ?_|refine zA ?_|refine zB ?_|refine zb ?_|refine ze ?_|refine zd ?_|refine zI ?_|refine zh ?_)
    exact ⟨1, ⟨rfl, rfl, trivial⟩, ⟨by omega, hC6, _, h6.mp, fun h => by omega⟩, by omega⟩
  · obtain rfl : i = 1 := by omega
    have g14 : rd wk (some ⟨b3, 0 + 1, none⟩) = some (.map (some bm)) := hb3k.rd rfl
    repeat' (first|refine za ?_|refine zb ?_|refine zc ?_|refine ze ?_|refine zd ?_|refine zC ?_|refine zY ?_|refine zm ?_|refine zg ?_|refine zj ?_)
    refine r_fa fo97_1 rfl ?_
    repeat' (first|refine za ?_|refine zM ?_)
    refine r_ldN (vs := [.int .i64 1, .int .i64 (-1)]) ag38 (by decide) h7k rfl rfl ?_
    repeat' (first|refine za ?_|refine zA ?_)
    refine r_mapUpdate (k := ((1 : Int), (-1 : Int))) (v := .int .i64 1) mp95 k38 hF' rfl rfl rfl fun w6 hF6 hC6 hs6 => ?_
    have g16 : rd w6 (some ⟨b3, 0 + 1, none⟩) = some (.map (some bm)) := (hb3k.keep hC6 (by omega)).rd rfl
    have h76 := Blk.keep h7k hC6 (by omega)
    repeat' (first|refine za ?_|refine zb ?_|refine zc ?_|refine ze ?_|refine zd ?_)
    refine r_fa fo97_1 rfl ?_
    repeat' (first|refine za ?_|refine zM ?_)
    refine r_ldN (vs := [.int .i64 1, .int .i64 (-1)]) ag38 (by decide) h76 rfl rfl ?_
    repeat' (refine za ?_)
    refine r_lookup (k := ((1 : Int), (-1 : Int))) (v := .int .i64 1) mp95 k38 hF6 rfl rfl rfl ?_
    repeat' (first|refine za ?_|refine zB ?_|refine zb ?_|refine ze ?_|refine zn ?_)
    refine post1 (v := .int .i64 1) rfl rfl ?_
    exact ⟨rfl, Ch.trans' (Ext.ch ((hE1.trans hE3).trans hE4)) (hCk.trans hC6) fun k _ e => e⟩
end Go.Proofs.YtocgehoffdjijaaGreat
/- top: relay: the ways in a tree with two places. -/
namespace Go.Proofs.YtocgehoffdjijaaGreat
open Gv Go.WideMaps
set_option maxRecDepth 20000
def fillL (i : Nat) : List Int := [if 0 < i then -1 else 0, if 1 < i then -1 else 0]
theorem fillL_set {i : Nat} (h : i < 2) : (fillL i).set i (-1) = fillL (i + 1) := by rcases (by omega : i = 0 ∨ i = 1) with rfl | rfl <;> rfl
set_option maxHeartbeats 8000000 in
theorem far2 (b97 : Nat) (qn : Option Addr) (cn : Nat) (q0 q1 : Option Addr) (c0 c1 bm : Nat) (F : Int × Int → Option Value) (w : World) (h : Tr2 b97 qn cn q0 q1 c0 c1 bm F w) (hq : qn.isSome = true) :
    Calls Tryz.prog 46 #[.agg (trV qn cn bm).toArray, .int .i64 0] w (Ret fun v w' => Ints w' v [0, 1] ∧ Ext w w') := by
  refine calls_of_wc (args := [.agg (trV qn cn bm).toArray, .int .i64 0]) Tryz.func46 rfl ?_ ?_; kernel_rfl
  repeat' (first|refine za ?_|refine zc ?_|refine zd ?_)
  refine r_boxN (cells := trV qn cn bm) rfl fun w1 hb2 hE1 hs1 => ?_
  obtain ⟨b2, eb2⟩ : ∃ b, b = w.heap.size := ⟨_, rfl⟩
  rw [← eb2] at hb2 ⊢
  have g0 : rd w1 (some ⟨b2, 0 + 0, none⟩) = some (.slice qn 2 cn) := hb2.rd rfl
  repeat' (first|refine za ?_|refine zB ?_|refine zb ?_|refine zc ?_|refine ze ?_|refine zd ?_)
  refine r_fa fo97_0 rfl ?_
  repeat' (first|refine za ?_|refine zK ?_|refine zM ?_)
  refine r_make_i (n := 2) el27 rfl rfl (by decide) fun w2 ho2 hE2 hlt2 => ?_
  obtain ⟨go, ego⟩ : ∃ b, b = w1.heap.size := ⟨_, rfl⟩
  rw [← ego] at ho2 hlt2 ⊢
  have hof : OwnI w2 go 3 (.slice (some ⟨go, 0, none⟩) 2 2) (fillL 0) := ho2
  repeat' (first|refine za ?_|refine zA ?_|refine zB ?_|refine zb ?_|refine zc ?_|refine ze ?_|refine zd ?_|refine zK ?_|refine zl ?_)
  refine wc_loop [0, 1, 2, 5, 16] (fun (i : Nat) => [(17, .int .i64 i)]) (fun i wk => i ≤ 2 ∧ OwnI wk go 3 (.slice (some ⟨go, 0, none⟩) 2 2) (fillL i) ∧ Ch (fun k => k = go) w2 wk) (fun i => 2 - i) 0 rfl ⟨rfl, trivial⟩ ⟨by omega, hof, Ch.refl _ _⟩ ?_
  rintro i wk x ⟨hi, hok, hCk⟩
  by_cases hin : i < 2
  · repeat' (first|refine za ?_|refine zA ?_|refine zB ?_|refine zb ?_|refine zc ?_|refine ze ?_|refine zd ?_|refine zC ?_|refine zL ?_|refine zX ?_|refine zk ?_|refine zl ?_)
    refine r_st_i (i := i) (a := -1) co3 hok rfl rfl (by simp [fillL]; omega) fun w4 h4 hG hs4 => ?_
    rw [fillL_set hin] at h4
    repeat' (first|refine za ?_|refine zA ?_|refine zb ?_|refine ze ?_|refine zd ?_|refine zI ?_|refine zh ?_)
    exact ⟨i + 1, ⟨rfl, trivial⟩, ⟨by omega, h4, hCk.trans (Ch.grown hG fun k e => by cases e; rfl)⟩, by omega⟩
  obtain rfl : i = 2 := by omega
  clear hin hof ho2
  have hEk : Ext w1 wk := Ch.trans' hE2 hCk fun k hk e => by omega
  repeat' (first|refine za ?_|refine zA ?_|refine zb ?_|refine zc ?_|refine ze ?_|refine zd ?_|refine zC ?_|refine zL ?_|refine zY ?_|refine zm ?_|refine zg ?_|refine zj ?_)
  refine r_st_i (i := 0) (a := 0) co3 hok rfl rfl (by simp [fillL]) fun w4 h4 hG4 hs4 => ?_
  have hE4 : Ext w1 w4 := Ch.trans' hEk (Ch.grown hG4 (S := fun k => k = go) fun k e => by cases e; rfl) fun k hk e => by omega
  have ho4 : OwnI w4 go 3 (.slice (some ⟨go, 0, none⟩) 2 2) [0, -1] := h4
  have hgo4 : go < w4.heap.size := (h4.lt _ rfl).2
  repeat' (first|refine za ?_|refine zA ?_|refine zb ?_|refine zc ?_|refine ze ?_|refine zd ?_)
  refine r_buildS1 el27 (u := .int .i64 0) rfl rfl fun w5 h5 hE5 hs5 => ?_
  obtain ⟨b5, eb5⟩ : ∃ b, b = w4.heap.size := ⟨_, rfl⟩
  rw [← eb5] at h5 ⊢
  have hq5 : OwnI w5 b5 3 (.slice (some ⟨b5, 0, none⟩) 1 1) [0] := h5
  have hE15 := hE4.trans hE5
  have hb5 : b5 < w5.heap.size := (h5.lt _ rfl).2
  repeat' (first|refine za ?_|refine zB ?_|refine zb ?_|refine zc ?_|refine ze ?_|refine zd ?_|refine zl ?_)
  refine wc_loop2 [1, 2, 5] (fun (i : Nat) (v : Value) => [(7, v), (8, .int .i64 i)]) (fun i v wz => i ≤ 2 ∧ OwnI wz go 3 (.slice (some ⟨go, 0, none⟩) 2 2) (if i = 0 then [0, -1] else [0, 1]) ∧ OwnI wz b5 3 v (if i = 0 then [0] else [0, 1]) ∧ Ext w1 wz ∧ w5.heap.size ≤ wz.heap.size) (fun i _ => 2 - i) 0 (.slice (some ⟨b5, 0, none⟩) 1 1) rfl ⟨rfl, rfl, trivial⟩
    ⟨by omega, ownsRow_ext ho4 hE5, hq5, hE15, Nat.le_refl _⟩ ?_
  rintro i v wz y ⟨hi, hoz, hqz, hEz, hsz⟩
  by_cases hi2 : i < 2
  rotate_left 1
  · obtain rfl : i = 2 := by omega
    obtain ⟨qv, cv, rfl, _⟩ := hqz.ints.slice
    have hl : (if (2 : Nat) = 0 then [0] else [0, 1] : List Int).length = 2 := rfl
    rw [hl]
    repeat' (first|refine za ?_|refine zA ?_|refine zB ?_|refine zb ?_|refine zc ?_|refine ze ?_|refine zd ?_|refine zC ?_|refine zK ?_|refine zY ?_|refine zm ?_|refine zn ?_|refine zg ?_|refine zj ?_)
    refine post1 (v := .slice (some ⟨go, 0, none⟩) 2 2) rfl rfl ?_
    exact ⟨hoz.ints, hE1.trans hEz⟩
  have hz := h.ext (hE1.trans hEz)
  have hzd := hz.ext (Ext.drew wz)
  have hb2d : Blk wz.drew b2 97 (trV qn cn bm) := (hb2.ext hEz).ext (Ext.drew wz)
  by_cases hi0 : i = 0
  · subst hi0
    have hoz' : OwnI wz go 3 (.slice (some ⟨go, 0, none⟩) 2 2) [0, -1] := hoz
    have hqz' : OwnI wz b5 3 v [0] := hqz
    obtain ⟨qv, cv, ev', _⟩ := hqz'.ints.slice
    have ev2 : v = .slice qv 1 cv := ev'
    subst ev2
    have hpv := hqz'.ints.isSome (by simp)
    have hrq := (hqz'.ints.ext (Ext.drew wz)).rd (i := 0) (by simp)
    change rd wz.drew (pidx qv 0 1) = some (.int .i64 0) at hrq
    repeat' (first|refine za ?_|refine zA ?_|refine zb ?_|refine zc ?_|refine ze ?_|refine zd ?_|refine zC ?_|refine zK ?_|refine zX ?_|refine zk ?_|refine zl ?_)
    refine wc_heldB (fun w' => Ext wz.drew w') (.take 0 (.take 1 (.take 2 (.take 3 (.take 4 (.take 5 (.take 6 (.take 7 (.take 8 (.take 9 .done)))))))))) (by kernel_rfl) (by kernel_rfl) (Ext.refl _) ?_
    refine whB_take rfl rfl (fun w' hw' => rv_fa fo97_0 rfl) ?_
    refine whB_take (v := .slice qn 2 cn) rfl rfl (fun w' hw' => rv_ld ct35 rfl ((hb2d.ext hw').rd rfl)) ?_
    refine whB_take (v := .slice qv 1 cv) rfl rfl (fun w' hw' => rv_move_v rfl) ?_
    refine whB_take (v := .int .i64 ((0 : Nat) : Int)) rfl rfl (fun w' hw' => rv_move_v rfl) ?_
    refine whB_take rfl rfl (fun w' hw' => rv_idx sz27 rfl rfl hpv (by omega) (by omega)) ?_
    refine whB_take (v := .int .i64 0) rfl rfl (fun w' hw' => rv_ld ct3 rfl (rd_ext hrq hw')) ?_
    refine whB_take rfl rfl (fun w' hw' => rv_idx sz35 rfl rfl hq (by omega) (by omega)) ?_
    refine whB_take (v := .slice q0 1 c0) rfl rfl (fun w' hw' => rv_ld ct27 rfl (rd_ext hzd.r0 hw')) ?_
    refine whB_take (v := .int .i64 ((1 : Nat) : Int)) rfl rfl (fun w' hw' => rv_of rfl (fun _ h => r_len (by kernel_rfl) rfl h) fun _ _ h => val_of h) ?_
    refine whB_take (v := .int .i64 0) rfl rfl (fun w' hw' => rv_move_v rfl) ?_
    refine whB_done ?_
    have hp0 := hzd.i0.isSome (by simp)
    repeat' (first|refine ze ?_|refine zl ?_)
    refine wc_loop2 [1, 2, 5, 8, 42, 43] (fun (j : Nat) (v : Value) => [(7, v), (44, .int .i64 j)]) (fun j v wy => j ≤ 1 ∧ OwnI wy go 3 (.slice (some ⟨go, 0, none⟩) 2 2) (if j = 0 then [0, -1] else [0, 1]) ∧ OwnI wy b5 3 v (if j = 0 then [0] else [0, 1]) ∧ Ext w1 wy ∧ w5.heap.size ≤ wy.heap.size ∧ (j = 0 → v = .slice qv 1 cv ∧ Ext wz.drew wy)) (fun j _ => 1 - j) 0 (.slice qv 1 cv) rfl ⟨rfl, rfl, trivial⟩
      ⟨by omega, ownsRow_ext hoz' (Ext.drew wz), ownsRow_ext hqz' (Ext.drew wz), hEz.trans (Ext.drew wz), hsz, fun _ => ⟨rfl, Ext.refl _⟩⟩ ?_
    rintro j v wy y2 ⟨hj, hoy, hqy, hEy, hsy, hj0⟩
    by_cases hj1 : j < 1
    rotate_left 1
    · obtain rfl : j = 1 := by omega
      repeat' (first|refine za ?_|refine zA ?_|refine zB ?_|refine zb ?_|refine zc ?_|refine ze ?_|refine zd ?_|refine zC ?_|refine zI ?_|refine zY ?_|refine zm ?_|refine zg ?_|refine zj ?_|refine zh ?_)
      exact ⟨1, _, ⟨rfl, rfl, trivial⟩, ⟨by omega, hoy, hqy, hEy, hsy⟩, by omega⟩
    obtain rfl : j = 0 := by omega
    obtain ⟨rfl, hEzy⟩ := hj0 rfl
    have hoy' : OwnI wy go 3 (.slice (some ⟨go, 0, none⟩) 2 2) [0, -1] := hoy
    have hqy' : OwnI wy b5 3 (.slice qv 1 cv) [0] := hqy
    have e0 := (hzd.i0.ext hEzy).rd (i := 0) (by simp)
    change rd wy (pidx q0 0 1) = some (.int .i64 1) at e0
    have e1 : rd wy (pidx (some ⟨go, 0, none⟩) 1 1) = some (.int .i64 (-1)) := hoy'.ints.rd (i := 1) (by simp)
    have e2 : rd wy (pidx (some ⟨go, 0, none⟩) 0 1) = some (.int .i64 0) := hoy'.ints.rd (i := 0) (by simp)
    have e3 := rd_ext hrq hEzy
    repeat' (first|refine za ?_|refine zA ?_|refine zB ?_|refine zb ?_|refine zc ?_|refine ze ?_|refine zd ?_|refine zC ?_|refine zI ?_|refine zL ?_|refine zM ?_|refine zX ?_|refine zk ?_|refine zl ?_)
    refine r_st_i (i := 1) (a := 1) co3 hoy' rfl rfl (by simp) fun w7 h7 hG7 hs7 => ?_
    have hC7 : Ch (fun k => k = go) wy w7 := Ch.grown hG7 fun k e => by cases e; rfl
    have hq7 : OwnI w7 b5 3 (.slice qv 1 cv) [0] := ownsRow_keep hqy' hC7 fun g hg e => by have := (hqy'.lt g hg).1; omega
    have hE7 : Ext w1 w7 := Ch.trans' hEy hC7 fun k hk e => by omega
    repeat' (first|refine za ?_|refine zA ?_|refine zb ?_|refine ze ?_|refine zd ?_)
    refine r_append1_i (a := 1) el27 hq7 rfl rfl (by simp) (by have := hC7.size; omega) fun v8 w8 qx h8 hG8 hne8 hgb8 => ?_
    have hC8 : Ch (fun k => (Value.slice qv 1 cv).ownBlock = some k) w7 w8 := Ch.grown hG8 fun k e => e
    have hge : ∀ k, (Value.slice qv 1 cv).ownBlock = some k → b5 ≤ k := fun k e => (hq7.lt k e).1
    obtain ⟨q8, c8, rfl, _⟩ := h8.ints.slice
    have h78 : OwnI w8 go 3 (.slice (some ⟨go, 0, none⟩) 2 2) [0, 1] := ownsRow_keep h7 hC8 fun g hg e => by cases hg; have := hge _ e; change b5 ≤ go at this; omega
    repeat' (first|refine za ?_|refine zA ?_|refine zB ?_|refine zb ?_|refine ze ?_|refine zd ?_|refine zI ?_|refine zh ?_)
    exact ⟨1, _, ⟨rfl, rfl, trivial⟩, ⟨by omega, h78, h8, Ch.trans' hE7 hC8 (fun k hk e => by have := hge _ e; have := hE4.size; omega), by have := hC7.size; have := hC8.size; omega, fun h => by omega⟩, by omega⟩
  · obtain rfl : i = 1 := by omega
    have hoz' : OwnI wz go 3 (.slice (some ⟨go, 0, none⟩) 2 2) [0, 1] := hoz
    have hqz' : OwnI wz b5 3 v [0, 1] := hqz
    obtain ⟨qv, cv, ev', _⟩ := hqz'.ints.slice
    have ev2 : v = .slice qv 2 cv := ev'
    subst ev2
    have hpv := hqz'.ints.isSome (by simp)
    have hrq := (hqz'.ints.ext (Ext.drew wz)).rd (i := 1) (by simp)
    change rd wz.drew (pidx qv 1 1) = some (.int .i64 1) at hrq
    repeat' (first|refine za ?_|refine zA ?_|refine zb ?_|refine zc ?_|refine ze ?_|refine zd ?_|refine zC ?_|refine zK ?_|refine zX ?_|refine zk ?_|refine zl ?_)
    refine wc_heldB (fun w' => Ext wz.drew w') (.take 0 (.take 1 (.take 2 (.take 3 (.take 4 (.take 5 (.take 6 (.take 7 (.take 8 (.take 9 .done)))))))))) (by kernel_rfl) (by kernel_rfl) (Ext.refl _) ?_
    refine whB_take rfl rfl (fun w' hw' => rv_fa fo97_0 rfl) ?_
    refine whB_take (v := .slice qn 2 cn) rfl rfl (fun w' hw' => rv_ld ct35 rfl ((hb2d.ext hw').rd rfl)) ?_
    refine whB_take (v := .slice qv 2 cv) rfl rfl (fun w' hw' => rv_move_v rfl) ?_
    refine whB_take (v := .int .i64 ((1 : Nat) : Int)) rfl rfl (fun w' hw' => rv_move_v rfl) ?_
    refine whB_take rfl rfl (fun w' hw' => rv_idx sz27 rfl rfl hpv (by omega) (by omega)) ?_
    refine whB_take (v := .int .i64 1) rfl rfl (fun w' hw' => rv_ld ct3 rfl (rd_ext hrq hw')) ?_
    refine whB_take rfl rfl (fun w' hw' => rv_idx sz35 rfl rfl hq (by omega) (by omega)) ?_
    refine whB_take (v := .slice q1 1 c1) rfl rfl (fun w' hw' => rv_ld ct27 rfl (rd_ext hzd.r1 hw')) ?_
    refine whB_take (v := .int .i64 ((1 : Nat) : Int)) rfl rfl (fun w' hw' => rv_of rfl (fun _ h => r_len (by kernel_rfl) rfl h) fun _ _ h => val_of h) ?_
    refine whB_take (v := .int .i64 0) rfl rfl (fun w' hw' => rv_move_v rfl) ?_
    refine whB_done ?_
    have hp1 := hzd.i1.isSome (by simp)
    have e0 := hzd.i1.rd (i := 0) (by simp)
    change rd wz.drew (pidx q1 0 1) = some (.int .i64 0) at e0
    have hod : OwnI wz.drew go 3 (.slice (some ⟨go, 0, none⟩) 2 2) [0, 1] := ownsRow_ext hoz' (Ext.drew wz)
    have hqd : OwnI wz.drew b5 3 (.slice qv 2 cv) [0, 1] := ownsRow_ext hqz' (Ext.drew wz)
    have e2 : rd wz.drew (pidx (some ⟨go, 0, none⟩) 0 1) = some (.int .i64 0) := hod.ints.rd (i := 0) (by simp)
    repeat' (first|refine ze ?_|refine zl ?_)
    refine wc_loop [1, 2, 5, 8, 42, 43] (fun (j : Nat) => [(7, .slice qv 2 cv), (44, .int .i64 j)]) (fun j wy => j ≤ 1 ∧ wy = wz.drew) (fun j => 1 - j) 0 rfl ⟨rfl, rfl, trivial⟩ ⟨by omega, rfl⟩ ?_
    rintro j wy y2 ⟨hj, rfl⟩
    by_cases hj1 : j < 1
    · obtain rfl : j = 0 := by omega
      repeat' (first|refine za ?_|refine zA ?_|refine zB ?_|refine zb ?_|refine zc ?_|refine ze ?_|refine zd ?_|refine zC ?_|refine zI ?_|refine zL ?_|refine zM ?_|refine zX ?_|refine zY ?_|refine zk ?_|refine zl ?_|refine zh ?_)
      exact ⟨1, ⟨rfl, rfl, trivial⟩, ⟨by omega, rfl⟩, by omega⟩
    · obtain rfl : j = 1 := by omega
      repeat' (first|refine za ?_|refine zA ?_|refine zB ?_|refine zb ?_|refine zc ?_|refine ze ?_|refine zd ?_|refine zC ?_|refine zI ?_|refine zY ?_|refine zm ?_|refine zg ?_|refine zj ?_|refine zh ?_)
      exact ⟨2, _, ⟨rfl, rfl, trivial⟩, ⟨by omega, hod, hqd, hEz.trans (Ext.drew wz), hsz⟩, by omega⟩
end Go.Proofs.YtocgehoffdjijaaGreat
/- top: relay: the tree with two places, as newTree makes it; its time. -/
namespace Go.Proofs.YtocgehoffdjijaaGreat
open Gv Go.WideMaps
set_option maxRecDepth 20000
theorem within45 (a l u : Int) (t : Bool) (w : World) (ht : t = decide (l ≤ a ∧ a ≤ u)) : Calls Tryz.prog 45 #[.int .i64 a, .int .i64 l, .int .i64 u] w (Ret fun v w' => v = .bool t ∧ w' = w) := by
  refine calls_of_wc (args := [.int .i64 a, .int .i64 l, .int .i64 u]) Tryz.func45 rfl ?_ ?_; kernel_rfl
  subst ht
  by_cases h1 : l ≤ a
  · by_cases h2 : a ≤ u
    · repeat' (first|refine za ?_|refine zA ?_|refine zB ?_|refine zb ?_|refine zc ?_|refine ze ?_|refine zd ?_|refine zD ?_|refine zF ?_|refine zQ ?_|refine zU ?_|refine zn ?_)
      refine post1 (v := .bool true) rfl rfl ?_
      exact ⟨by rw [decide_eq_true ⟨h1, h2⟩], rfl⟩
    · repeat' (first|refine za ?_|refine zA ?_|refine zB ?_|refine zb ?_|refine zc ?_|refine ze ?_|refine zd ?_|refine zD ?_|refine zF ?_|refine zQ ?_|refine zU ?_|refine zn ?_)
      refine post1 (v := .bool false) rfl rfl ?_
      exact ⟨by rw [decide_eq_false fun h => h2 h.2], rfl⟩
  · repeat' (first|refine za ?_|refine zA ?_|refine zB ?_|refine zb ?_|refine zc ?_|refine ze ?_|refine zd ?_|refine zF ?_|refine zR ?_|refine zV ?_|refine zn ?_)
    refine post1 (v := .bool false) rfl rfl ?_
    exact ⟨by rw [decide_eq_false fun h => h1 h.1], rfl⟩
theorem ar38 : arrSz Tryz.prog 38 = some (2, 1) := by kernel_rfl
theorem z97 : (Tryz.prog.info? 97).bind (·.zero) = some (.agg [.slice none 0 0, .map none].toArray) := by kernel_rfl
theorem sz33 : sliceSz Tryz.prog 33 = some 2 := by kernel_rfl
theorem bt97 (u v : Value) (hu : u.oneCell' = true) (hv : v.oneCell' = true) : Tryz.prog.built 97 [(0, u), (1, v)] = some #[u, v] := by
  cases u <;> cases hu <;> cases v <;> cases hv <;> kernel_rfl
set_option maxHeartbeats 8000000 in
theorem newTree2 (q : Option Addr) (c : Nat) (w : World) (h0 : rd w ((pidx q 0 2).map fun a => a.add 0) = some (.int .i64 0)) (h1 : rd w ((pidx q 0 2).map fun a => a.add 1) = some (.int .i64 1)) (hq : q.isSome = true) :
    Calls Tryz.prog 44 #[.int .i64 2, .slice q 1 c] w (Ret fun v w' => ∃ bn bm q0 q1 c0 c1 b97, v = .tuple #[.agg (trV (some ⟨bn, 0, none⟩) 2 bm).toArray, .bool true] ∧ Tr2 b97 (some ⟨bn, 0, none⟩) 2 q0 q1 c0 c1 bm (fun _ => none) w' ∧ w.heap.size ≤ bm ∧ Ext w w') := by
  refine calls_of_wc (args := [.int .i64 2, .slice q 1 c]) Tryz.func44 rfl ?_ ?_; kernel_rfl
  repeat' (first|refine za ?_|refine zc ?_|refine zd ?_)
  refine r_allocN z97 fun w1 hb4 hE1 hs1 => ?_
  obtain ⟨b4, eb4⟩ : ∃ b, b = w.heap.size := ⟨_, rfl⟩
  rw [← eb4] at hb4 ⊢
  repeat' (first|refine za ?_|refine zA ?_|refine zB ?_|refine zb ?_|refine zc ?_|refine ze ?_|refine zd ?_)
  (refine r_call_q (v := ?_) rfl ?_ ?_; rotate_left 1; focus exact within45 2 1 30 true w1 (by decide))
  repeat' (first|refine za ?_|refine zA ?_|refine zb ?_|refine zc ?_|refine ze ?_|refine zd ?_|refine zH ?_|refine zJ ?_|refine zK ?_|refine zO ?_|refine zR ?_|refine zU ?_|refine zY ?_|refine zk ?_)
  refine r_make_v (n := 2) el35 rfl (by decide) rfl rfl (by decide) fun w2 hM2 hE2 hs2 => ?_
  obtain ⟨bn, ebn⟩ : ∃ b, b = w1.heap.size := ⟨_, rfl⟩
  rw [← ebn] at hM2 hs2 ⊢
  repeat' (refine za ?_)
  refine r_makeMap encP fun w3 hF3 hE3 hs3 => ?_
  obtain ⟨bm, ebm⟩ : ∃ b, b = w2.heap.size := ⟨_, rfl⟩
  rw [← ebm] at hF3 ⊢
  repeat' (refine za ?_)
  refine r_build (cells := #[.slice (some ⟨bn, 0, none⟩) 2 2, .map (some bm)]) (bt97 _ _ rfl rfl) ?_
  repeat' (refine za ?_)
  refine r_allocN z97 fun w4 hb6 hE4 hs4 => ?_
  obtain ⟨b6, eb6⟩ : ∃ b, b = w3.heap.size := ⟨_, rfl⟩
  rw [← eb6] at hb6 ⊢
  repeat' (refine za ?_)
  refine r_stN (ws := trV (some ⟨bn, 0, none⟩) 2 bm) ag97 (by decide) hb6 rfl rfl rfl rfl (by intro q hq; simp at hq; rcases hq with rfl | rfl <;> rfl) fun w5 h6 hC5 hs5 => ?_
  have hE13 : Ext w1 w3 := hE2.trans hE3
  have hE35 : Ext w3 w5 := Ch.trans' hE4 hC5 fun k hk e => by omega
  have hE05 : Ext w w5 := (hE1.trans hE13).trans hE35
  have hbn1 : bn < w2.heap.size := (hM2.lt _ rfl).2
  have hord : b4 < bn ∧ bn < bm ∧ bm < b6 ∧ w.heap.size ≤ b4 := ⟨by omega, by omega, by omega, by omega⟩
  have hM5 : Gv.Own w5 bn 27 (.slice (some ⟨bn, 0, none⟩) 2 2) [.slice none 0 0, .slice none 0 0] := hM2.ext (hE3.trans hE35)
  have hF5 : MapF encP w5 bm (fun _ => none) := hF3.ext hE35
  have h45 := hb4.ext (hE13.trans hE35)
  clear hM2 hF3 hb4 hb6 hC5
  repeat' (first|refine za ?_|refine zA ?_|refine zb ?_|refine zc ?_|refine ze ?_|refine zd ?_|refine zK ?_|refine zl ?_)
  refine wc_loop [0, 1, 4, 6, 24, 25] (fun (i : Nat) => [(5, .bool false), (26, .int .i64 i)]) (fun i wk => i ≤ 1 ∧ (i = 0 → wk = w5) ∧ (i = 1 → Ext w wk ∧ Blk wk b6 97 (trV (some ⟨bn, 0, none⟩) 2 bm) ∧ Blk wk b4 97 [.slice none 0 0, .map none] ∧ ∃ q0 q1 c0 c1, Gv.Own wk bn 27 (.slice (some ⟨bn, 0, none⟩) 2 2) [.slice q0 1 c0, .slice q1 1 c1] ∧ OwnI wk b6 3 (.slice q0 1 c0) [1] ∧ OwnI wk b6 3 (.slice q1 1 c1) [0] ∧ MapF encP wk bm (fun _ => none))) (fun i => 1 - i) 0 rfl ⟨rfl, rfl, trivial⟩ ⟨by omega, fun _ => rfl, fun h => by omega⟩ ?_
  rintro i wk x ⟨hi, hi0, hi1⟩
  by_cases hin : i < 1
  rotate_left 1
  · obtain rfl : i = 1 := by omega
    obtain ⟨hEk, h6k, h4k, q0, q1, c0, c1, hMk, hO0, hO1, hFk⟩ := hi1 rfl
    have hT : Tr2 b6 (some ⟨bn, 0, none⟩) 2 q0 q1 c0 c1 bm (fun _ => none) wk :=
      ⟨hMk.sl.rd1 0 rfl, hMk.sl.rd1 1 rfl, hO0.ints, hO1.ints, hFk⟩
    repeat' (first|refine za ?_|refine zb ?_|refine zc ?_|refine ze ?_|refine zd ?_|refine zC ?_|refine zY ?_|refine zm ?_|refine zg ?_|refine zj ?_)
    have hTd := hT.ext (Ext.drew wk)
    have h6d := h6k.ext (Ext.drew wk)
    refine wc_heldB (fun w' => Blk w' b6 97 (trV (some ⟨bn, 0, none⟩) 2 bm)) (.take 0 (.take 1 (.one 2 (.one 3 (.take 4 (.one 5 (.one 6 .done))))))) (by kernel_rfl) (by kernel_rfl) h6d ?_
    refine whB_take (v := .agg (trV (some ⟨bn, 0, none⟩) 2 bm).toArray) rfl rfl (fun w' hw' => rv_of rfl (fun _ h => r_ldN (vs := trV (some ⟨bn, 0, none⟩) 2 bm) ag97 (by decide) hw' rfl rfl h) fun _ _ h => val_of h) ?_
    refine whB_take (v := .agg (trV (some ⟨bn, 0, none⟩) 2 bm).toArray) rfl rfl (fun w' hw' => rv_of rfl (fun _ h => r_ldN (vs := trV (some ⟨bn, 0, none⟩) 2 bm) ag97 (by decide) hw' rfl rfl h) fun _ _ h => val_of h) ?_
    refine whB_one rfl rfl ?_
    (refine r_call (R := ?_) rfl ?_ ?_; rotate_left 1; focus exact far2 b6 (some ⟨bn, 0, none⟩) 2 q0 q1 c0 c1 bm (fun _ => none) wk.drew hTd rfl)
    rintro v wa ⟨hv, hEa⟩
    refine ⟨h6d.ext hEa, whB_one rfl rfl ?_⟩
    obtain ⟨qv, cv, rfl, _⟩ := hv.slice
    (refine r_call (R := ?_) rfl ?_ ?_; rotate_left 1; focus exact Bg.contains_any (.slice qv 2 cv) [0, 1] (-1) wa hv (by decide))
    rintro v wb ⟨hv2, rfl⟩
    rw [decide_eq_false (by rintro ⟨i, h1, h2⟩; change i < 2 at h1; rcases (by omega : i = 0 ∨ i = 1) with rfl | rfl <;> simp at h2)] at hv2
    subst hv2
    have hEb := (Ext.drew wk).trans hEa
    refine ⟨h6d.ext hEa, whB_take (v := .bool true) rfl rfl (fun w' hw' => rv_of rfl (fun _ h => r_not (b := false) rfl h) fun _ _ h => val_of h) (whB_one rfl rfl ?_)⟩
    refine r_stN (ws := trV (some ⟨bn, 0, none⟩) 2 bm) ag97 (by decide) (h4k.ext hEb) rfl rfl rfl rfl (by intro q hq; simp at hq; rcases hq with rfl | rfl <;> rfl) fun wc h4c hCc hsc => ?_
    refine ⟨(h6k.ext hEb).keep hCc (by omega), whB_one rfl rfl ?_⟩
    refine r_assign_v (v := .bool true) rfl ?_
    refine ⟨(h6k.ext hEb).keep hCc (by omega), whB_done ?_⟩
    have hEc : Ext w wc := Ch.trans' (hEk.trans hEb) hCc fun k hk e => by omega
    have hEk2 : Ch (fun k => k = b4) wk wc := Ch.trans' (Ext.ch hEb) hCc fun k _ e => e
    have hTc : Tr2 b6 (some ⟨bn, 0, none⟩) 2 q0 q1 c0 c1 bm (fun _ => none) wc :=
      ⟨rd_keep hT.r0 hEk2 (by rintro a e; cases e; show bn ≠ b4; omega), rd_keep hT.r1 hEk2 (by rintro a e; cases e; show bn ≠ b4; omega),
        hT.i0.keep hEk2 (fun g hg => by have := (hO0.lt g hg).1; omega), hT.i1.keep hEk2 (fun g hg => by have := (hO1.lt g hg).1; omega), hFk.keep hEk2 (by omega)⟩
    repeat' (first|refine ze ?_|refine zn ?_)
    refine post_c2 (v := .bool true) rfl rfl rfl ag97 (by decide) h4c rfl ?_
    exact ⟨bn, bm, q0, q1, c0, c1, b6, rfl, hTc, by omega, hEc⟩
  obtain rfl : i = 0 := by omega
  obtain rfl := hi0 rfl
  clear hi0 hi1
  have g0 := rd_ext h0 hE05
  have g1 := rd_ext h1 hE05
  repeat' (first|refine za ?_|refine zb ?_|refine zc ?_|refine ze ?_|refine zd ?_|refine zC ?_|refine zL ?_|refine zX ?_|refine zk ?_|refine zl ?_)
  refine r_ldP ag38 rfl g0 g1 ?_
  repeat' (refine za ?_)
  refine r_allocN z38 fun w6 hb8 hE6 hs6 => ?_
  obtain ⟨b8, eb8⟩ : ∃ b, b = wk.heap.size := ⟨_, rfl⟩
  rw [← eb8] at hb8 ⊢
  repeat' (refine za ?_)
  refine r_stN (ws := [.int .i64 0, .int .i64 1]) ag38 (by decide) hb8 rfl rfl rfl rfl (by intro q hq; simp at hq; rcases hq with rfl | rfl <;> rfl) fun w7 h8 hC7 hs7 => ?_
  have hE7 : Ext wk w7 := Ch.trans' hE6 hC7 fun k hk e => by omega
  clear hb8 hC7
  have k0 : rd w7 (some ⟨b8, 0, none⟩) = some (.int .i64 0) := h8.rd (k := 0) rfl
  have k1 : rd w7 (some ⟨b8, 1, none⟩) = some (.int .i64 1) := h8.rd (k := 1) rfl
  repeat' (first|refine za ?_|refine zb ?_|refine zc ?_|refine ze ?_|refine zd ?_)
  refine r_idxA ar38 rfl rfl (by omega) (by omega) ?_
  repeat' (first|refine za ?_|refine zA ?_|refine zJ ?_|refine zM ?_)
  (refine r_call_q (v := ?_) rfl ?_ ?_; rotate_left 1; focus exact within45 0 0 (2 - 1) true w7 (by decide))
  repeat' (first|refine za ?_|refine zA ?_|refine zO ?_|refine zU ?_)
  refine r_idxA ar38 rfl rfl (by omega) (by omega) ?_
  repeat' (first|refine zA ?_|refine zJ ?_|refine zM ?_|refine zU ?_)
  (refine r_call_q (v := ?_) rfl ?_ ?_; rotate_left 1; focus exact within45 1 0 (2 - 1) true w7 (by decide))
  repeat' (first|refine za ?_|refine zA ?_|refine zO ?_|refine zR ?_|refine zU ?_)
  refine r_idxA ar38 rfl rfl (by omega) (by omega) ?_
  repeat' (first|refine zM ?_|refine zU ?_)
  refine r_idxA ar38 rfl rfl (by omega) (by omega) ?_
  repeat' (first|refine za ?_|refine zb ?_|refine zc ?_|refine ze ?_|refine zG ?_|refine zM ?_|refine zR ?_|refine zU ?_|refine zY ?_|refine zk ?_)
  have hM7 := hM5.ext hE7
  have h67 := h6.ext hE7
  have h87 := h8
  have hF7 := hF5.ext hE7
  have h47 := h45.ext hE7
  have hE07 := hE05.trans hE7
  have hb8' : b6 < b8 := by have := h6.lt; omega
  clear hM5 h6 hF5 h45 hE7
  have hEde := Ext.drew w7
  refine wc_heldB (fun w' => Gv.rd w' (some ⟨b6, 0, none⟩) = some (.slice (some ⟨bn, 0, none⟩) 2 2) ∧ Gv.rd w' (some ⟨b8, 0, none⟩) = some (.int .i64 0) ∧ Gv.rd w' (some ⟨b8, 1, none⟩) = some (.int .i64 1)) (.take 0 (.take 1 (.take 2 (.take 3 (.take 4 (.take 5 (.take 6 (.take 7 (.take 8 (.take 10 (.take 11 (.two 9 (.one 12 (.one 13 (.take 14 (.one 15 .done)))) 12 (.one 9 (.one 13 (.take 14 (.one 15 .done)))))))))))))))) (by kernel_rfl) (by kernel_rfl) ⟨(h67.ext hEde).rd rfl, (h87.ext hEde).rd rfl, (h87.ext hEde).rd rfl⟩ ?_
  refine whB_take rfl rfl (fun w' hw' => rv_fa fo97_0 rfl) ?_
  refine whB_take (v := .slice (some ⟨bn, 0, none⟩) 2 2) rfl rfl (fun w' hw' => rv_ld ct35 rfl hw'.1) ?_
  refine whB_take (v := .pointer (some ⟨b8, 0, none⟩)) rfl rfl (fun w' hw' => rv_of rfl (fun _ h => r_idxA ar38 rfl rfl (by omega) (by omega) h) fun _ _ h => val_of h) ?_
  refine whB_take (v := .int .i64 ((0 : Nat) : Int)) rfl rfl (fun w' hw' => rv_ld ct3 rfl hw'.2.1) ?_
  refine whB_take rfl rfl (fun w' hw' => rv_fa fo97_0 rfl) ?_
  refine whB_take (v := .slice (some ⟨bn, 0, none⟩) 2 2) rfl rfl (fun w' hw' => rv_ld ct35 rfl hw'.1) ?_
  refine whB_take (v := .pointer (some ⟨b8, 0, none⟩)) rfl rfl (fun w' hw' => rv_of rfl (fun _ h => r_idxA ar38 rfl rfl (by omega) (by omega) h) fun _ _ h => val_of h) ?_
  refine whB_take (v := .int .i64 ((0 : Nat) : Int)) rfl rfl (fun w' hw' => rv_ld ct3 rfl hw'.2.1) ?_
  refine whB_take rfl rfl (fun w' hw' => rv_idx sz35 rfl rfl rfl (by omega) (by omega)) ?_
  refine whB_take (v := .pointer (some ⟨b8, 1, none⟩)) rfl rfl (fun w' hw' => rv_of rfl (fun _ h => r_idxA ar38 rfl rfl (by omega) (by omega) h) fun _ _ h => val_of h) ?_
  refine whB_take (v := .int .i64 ((1 : Nat) : Int)) rfl rfl (fun w' hw' => rv_ld ct3 rfl hw'.2.2) ?_
  have hrowe := hM7.sl.rd1 0 rfl
  refine whB_two rfl rfl rfl rfl ?_ ?_
  focus
    refine r_ld ct27 rfl (rd_ext hrowe hEde) ?_
    refine ⟨⟨(h67.ext hEde).rd rfl, (h87.ext hEde).rd rfl, (h87.ext hEde).rd rfl⟩, whB_one rfl rfl ?_⟩
    refine r_buildI1 (a := 1) el27 rfl fun wae hBae hEae hsae => ?_
    have hEdae := hEde.trans hEae
    refine ⟨⟨(h67.ext hEdae).rd rfl, (h87.ext hEdae).rd rfl, (h87.ext hEdae).rd rfl⟩, whB_one rfl rfl ?_⟩
    refine r_append_i (A := []) (base := b6) el27 (World.ownsRow_nil _ _ _ _) hBae rfl rfl (by simp) (by have := (h67.ext hEdae).lt; omega) fun v wbe hObe hGbe hnbe hgbe => ?_
    have hEbe := hEdae.trans (Ch.grown hGbe (S := fun _ => False) fun k e => by cases e)
    have hObe' : OwnI wbe b6 3 v [1] := hObe
    refine ⟨⟨(h67.ext hEbe).rd rfl, (h87.ext hEbe).rd rfl, (h87.ext hEbe).rd rfl⟩, ?_⟩
    refine whB_take rfl rfl (fun w' hw' => rv_idx sz35 rfl rfl rfl (by omega) (by omega)) (whB_one rfl rfl ?_)
    obtain ⟨qve, cve, ev0e, _⟩ := hObe'.ints.slice
    obtain rfl : v = .slice qve 1 cve := ev0e
    refine r_st_v (i := 0) (u := .slice qve 1 cve) co27 (hM7.ext hEbe) rfl rfl rfl (by simp) fun wce hMce hGce hsce => ?_
    have hCce : Ch (fun k => k = bn) wbe wce := Ch.grown hGce fun k e => by cases e; rfl
    have h6ce := (h67.ext hEbe).keep hCce (by omega)
    have h8ce := (h87.ext hEbe).keep hCce (by omega)
    refine ⟨⟨h6ce.rd rfl, h8ce.rd rfl, h8ce.rd rfl⟩, whB_done ?_⟩
    have hOce : OwnI wce b6 3 (.slice qve 1 cve) [1] := ownsRow_keep hObe' hCce fun g hg e => by have := (hObe'.lt g hg).1; omega
  rotate_left 1
  focus
    refine r_buildI1 (a := 1) el27 rfl fun wae hBae hEae hsae => ?_
    have hEdae := hEde.trans hEae
    refine ⟨⟨(h67.ext hEdae).rd rfl, (h87.ext hEdae).rd rfl, (h87.ext hEdae).rd rfl⟩, whB_one rfl rfl ?_⟩
    refine r_ld ct27 rfl (rd_ext hrowe hEdae) ?_
    refine ⟨⟨(h67.ext hEdae).rd rfl, (h87.ext hEdae).rd rfl, (h87.ext hEdae).rd rfl⟩, whB_one rfl rfl ?_⟩
    refine r_append_i (A := []) (base := b6) el27 (World.ownsRow_nil _ _ _ _) hBae rfl rfl (by simp) (by have := (h67.ext hEdae).lt; omega) fun v wbe hObe hGbe hnbe hgbe => ?_
    have hEbe := hEdae.trans (Ch.grown hGbe (S := fun _ => False) fun k e => by cases e)
    have hObe' : OwnI wbe b6 3 v [1] := hObe
    refine ⟨⟨(h67.ext hEbe).rd rfl, (h87.ext hEbe).rd rfl, (h87.ext hEbe).rd rfl⟩, ?_⟩
    refine whB_take rfl rfl (fun w' hw' => rv_idx sz35 rfl rfl rfl (by omega) (by omega)) (whB_one rfl rfl ?_)
    obtain ⟨qve, cve, ev0e, _⟩ := hObe'.ints.slice
    obtain rfl : v = .slice qve 1 cve := ev0e
    refine r_st_v (i := 0) (u := .slice qve 1 cve) co27 (hM7.ext hEbe) rfl rfl rfl (by simp) fun wce hMce hGce hsce => ?_
    have hCce : Ch (fun k => k = bn) wbe wce := Ch.grown hGce fun k e => by cases e; rfl
    have h6ce := (h67.ext hEbe).keep hCce (by omega)
    have h8ce := (h87.ext hEbe).keep hCce (by omega)
    refine ⟨⟨h6ce.rd rfl, h8ce.rd rfl, h8ce.rd rfl⟩, whB_done ?_⟩
    have hOce : OwnI wce b6 3 (.slice qve 1 cve) [1] := ownsRow_keep hObe' hCce fun g hg e => by have := (hObe'.lt g hg).1; omega
  all_goals
    have hMe : Gv.Own wce bn 27 (.slice (some ⟨bn, 0, none⟩) 2 2) [.slice qve 1 cve, .slice none 0 0] := hMce
    have h6e := h6ce
    have h8e := h8ce
    have hFe := (hF7.ext hEbe).keep hCce (by omega)
    have h4e := (h47.ext hEbe).keep hCce (by omega)
    have hE0e : Ext w wce := Ch.trans' (hE07.trans hEbe) hCce fun k hk e => by omega
    repeat' (refine ze ?_)
    have hEdf := Ext.drew wce
    refine wc_heldB (fun w' => Gv.rd w' (some ⟨b6, 0, none⟩) = some (.slice (some ⟨bn, 0, none⟩) 2 2) ∧ Gv.rd w' (some ⟨b8, 0, none⟩) = some (.int .i64 0) ∧ Gv.rd w' (some ⟨b8, 1, none⟩) = some (.int .i64 1)) (.take 0 (.take 1 (.take 2 (.take 3 (.take 4 (.take 5 (.take 6 (.take 7 (.take 8 (.take 10 (.take 11 (.two 9 (.one 12 (.one 13 (.take 14 (.one 15 .done)))) 12 (.one 9 (.one 13 (.take 14 (.one 15 .done)))))))))))))))) (by kernel_rfl) (by kernel_rfl) ⟨(h6e.ext hEdf).rd rfl, (h8e.ext hEdf).rd rfl, (h8e.ext hEdf).rd rfl⟩ ?_
    refine whB_take rfl rfl (fun w' hw' => rv_fa fo97_0 rfl) ?_
    refine whB_take (v := .slice (some ⟨bn, 0, none⟩) 2 2) rfl rfl (fun w' hw' => rv_ld ct35 rfl hw'.1) ?_
    refine whB_take (v := .pointer (some ⟨b8, 1, none⟩)) rfl rfl (fun w' hw' => rv_of rfl (fun _ h => r_idxA ar38 rfl rfl (by omega) (by omega) h) fun _ _ h => val_of h) ?_
    refine whB_take (v := .int .i64 ((1 : Nat) : Int)) rfl rfl (fun w' hw' => rv_ld ct3 rfl hw'.2.2) ?_
    refine whB_take rfl rfl (fun w' hw' => rv_fa fo97_0 rfl) ?_
    refine whB_take (v := .slice (some ⟨bn, 0, none⟩) 2 2) rfl rfl (fun w' hw' => rv_ld ct35 rfl hw'.1) ?_
    refine whB_take (v := .pointer (some ⟨b8, 1, none⟩)) rfl rfl (fun w' hw' => rv_of rfl (fun _ h => r_idxA ar38 rfl rfl (by omega) (by omega) h) fun _ _ h => val_of h) ?_
    refine whB_take (v := .int .i64 ((1 : Nat) : Int)) rfl rfl (fun w' hw' => rv_ld ct3 rfl hw'.2.2) ?_
    refine whB_take rfl rfl (fun w' hw' => rv_idx sz35 rfl rfl rfl (by omega) (by omega)) ?_
    refine whB_take (v := .pointer (some ⟨b8, 0, none⟩)) rfl rfl (fun w' hw' => rv_of rfl (fun _ h => r_idxA ar38 rfl rfl (by omega) (by omega) h) fun _ _ h => val_of h) ?_
    refine whB_take (v := .int .i64 ((0 : Nat) : Int)) rfl rfl (fun w' hw' => rv_ld ct3 rfl hw'.2.1) ?_
    have hrowf := hMe.sl.rd1 1 rfl
    refine whB_two rfl rfl rfl rfl ?_ ?_
    focus
      refine r_ld ct27 rfl (rd_ext hrowf hEdf) ?_
      refine ⟨⟨(h6e.ext hEdf).rd rfl, (h8e.ext hEdf).rd rfl, (h8e.ext hEdf).rd rfl⟩, whB_one rfl rfl ?_⟩
      refine r_buildI1 (a := 0) el27 rfl fun waf hBaf hEaf hsaf => ?_
      have hEdaf := hEdf.trans hEaf
      refine ⟨⟨(h6e.ext hEdaf).rd rfl, (h8e.ext hEdaf).rd rfl, (h8e.ext hEdaf).rd rfl⟩, whB_one rfl rfl ?_⟩
      refine r_append_i (A := []) (base := b6) el27 (World.ownsRow_nil _ _ _ _) hBaf rfl rfl (by simp) (by have := (h6e.ext hEdaf).lt; omega) fun v wbf hObf hGbf hnbf hgbf => ?_
      have hEbf := hEdaf.trans (Ch.grown hGbf (S := fun _ => False) fun k e => by cases e)
      have hObf' : OwnI wbf b6 3 v [0] := hObf
      refine ⟨⟨(h6e.ext hEbf).rd rfl, (h8e.ext hEbf).rd rfl, (h8e.ext hEbf).rd rfl⟩, ?_⟩
      refine whB_take rfl rfl (fun w' hw' => rv_idx sz35 rfl rfl rfl (by omega) (by omega)) (whB_one rfl rfl ?_)
      obtain ⟨qvf, cvf, ev0f, _⟩ := hObf'.ints.slice
      obtain rfl : v = .slice qvf 1 cvf := ev0f
      refine r_st_v (i := 1) (u := .slice qvf 1 cvf) co27 (hMe.ext hEbf) rfl rfl rfl (by simp) fun wcf hMcf hGcf hscf => ?_
      have hCcf : Ch (fun k => k = bn) wbf wcf := Ch.grown hGcf fun k e => by cases e; rfl
      have h6cf := (h6e.ext hEbf).keep hCcf (by omega)
      have h8cf := (h8e.ext hEbf).keep hCcf (by omega)
      refine ⟨⟨h6cf.rd rfl, h8cf.rd rfl, h8cf.rd rfl⟩, whB_done ?_⟩
      have hOcf : OwnI wcf b6 3 (.slice qvf 1 cvf) [0] := ownsRow_keep hObf' hCcf fun g hg e => by have := (hObf'.lt g hg).1; omega
      have hOzf : OwnI wcf b6 3 (.slice qve 1 cve) [1] := ownsRow_keep (OwnI.ext hOce hEbf) hCcf fun g hg e => by have := (hOce.lt g hg).1; omega
    rotate_left 1
    focus
      refine r_buildI1 (a := 0) el27 rfl fun waf hBaf hEaf hsaf => ?_
      have hEdaf := hEdf.trans hEaf
      refine ⟨⟨(h6e.ext hEdaf).rd rfl, (h8e.ext hEdaf).rd rfl, (h8e.ext hEdaf).rd rfl⟩, whB_one rfl rfl ?_⟩
      refine r_ld ct27 rfl (rd_ext hrowf hEdaf) ?_
      refine ⟨⟨(h6e.ext hEdaf).rd rfl, (h8e.ext hEdaf).rd rfl, (h8e.ext hEdaf).rd rfl⟩, whB_one rfl rfl ?_⟩
      refine r_append_i (A := []) (base := b6) el27 (World.ownsRow_nil _ _ _ _) hBaf rfl rfl (by simp) (by have := (h6e.ext hEdaf).lt; omega) fun v wbf hObf hGbf hnbf hgbf => ?_
      have hEbf := hEdaf.trans (Ch.grown hGbf (S := fun _ => False) fun k e => by cases e)
      have hObf' : OwnI wbf b6 3 v [0] := hObf
      refine ⟨⟨(h6e.ext hEbf).rd rfl, (h8e.ext hEbf).rd rfl, (h8e.ext hEbf).rd rfl⟩, ?_⟩
      refine whB_take rfl rfl (fun w' hw' => rv_idx sz35 rfl rfl rfl (by omega) (by omega)) (whB_one rfl rfl ?_)
      obtain ⟨qvf, cvf, ev0f, _⟩ := hObf'.ints.slice
      obtain rfl : v = .slice qvf 1 cvf := ev0f
      refine r_st_v (i := 1) (u := .slice qvf 1 cvf) co27 (hMe.ext hEbf) rfl rfl rfl (by simp) fun wcf hMcf hGcf hscf => ?_
      have hCcf : Ch (fun k => k = bn) wbf wcf := Ch.grown hGcf fun k e => by cases e; rfl
      have h6cf := (h6e.ext hEbf).keep hCcf (by omega)
      have h8cf := (h8e.ext hEbf).keep hCcf (by omega)
      refine ⟨⟨h6cf.rd rfl, h8cf.rd rfl, h8cf.rd rfl⟩, whB_done ?_⟩
      have hOcf : OwnI wcf b6 3 (.slice qvf 1 cvf) [0] := ownsRow_keep hObf' hCcf fun g hg e => by have := (hObf'.lt g hg).1; omega
      have hOzf : OwnI wcf b6 3 (.slice qve 1 cve) [1] := ownsRow_keep (OwnI.ext hOce hEbf) hCcf fun g hg e => by have := (hOce.lt g hg).1; omega
    all_goals
      have hMf : Gv.Own wcf bn 27 (.slice (some ⟨bn, 0, none⟩) 2 2) [.slice qve 1 cve, .slice qvf 1 cvf] := hMcf
      have hFf := (hFe.ext hEbf).keep hCcf (by omega)
      have h4f := (h4e.ext hEbf).keep hCcf (by omega)
      have hE0f : Ext w wcf := Ch.trans' (hE0e.trans hEbf) hCcf fun k hk e => by omega
      repeat' (first|refine za ?_|refine zA ?_|refine zb ?_|refine ze ?_|refine zd ?_|refine zI ?_|refine zh ?_)
      exact ⟨1, ⟨rfl, rfl, trivial⟩, ⟨by omega, fun h => by omega, fun _ => ⟨hE0f, h6cf, h4f, qve, qvf, cve, cvf, hMf, hOzf, hOcf, hFf⟩⟩, by omega⟩
end Go.Proofs.YtocgehoffdjijaaGreat
/- top: nine: the simple results of stage 9. -/
namespace Go.Proofs.YtocgehoffdjijaaGreat
open Gv Go.WideMaps
set_option maxRecDepth 20000
set_option maxHeartbeats 4000000 in
theorem Time2 (q : Option Addr) (c : Nat) (w : World) (h0 : rd w ((pidx q 0 2).map fun a => a.add 0) = some (.int .i64 0)) (h1 : rd w ((pidx q 0 2).map fun a => a.add 1) = some (.int .i64 1)) (hq : q.isSome = true) :
    Calls Tryz.prog 20 #[.int .i64 2, .slice q 1 c, .int .i64 1] w (Ret fun v w' => v = .tuple #[.int .i64 1, .int .i64 0] ∧ Ext w w') := by
  refine calls_of_wc (args := [.int .i64 2, .slice q 1 c, .int .i64 1]) Tryz.func20 rfl ?_ ?_; kernel_rfl
  repeat' (first|refine za ?_|refine zA ?_|refine zB ?_|refine zb ?_|refine zc ?_|refine ze ?_|refine zd ?_)
  (refine r_call (R := ?_) rfl ?_ ?_; rotate_left 1; focus exact newTree2 q c w h0 h1 hq)
  rintro v w1 ⟨bn, bm, q0, q1, c0, c1, b97, rfl, hT, hbm, hE1⟩
  repeat' (first|refine za ?_|refine zA ?_|refine zS ?_)
  refine r_allocN z97 fun w2 hb8 hE2 hs2 => ?_
  obtain ⟨b8, eb8⟩ : ∃ b, b = w1.heap.size := ⟨_, rfl⟩
  rw [← eb8] at hb8 ⊢
  repeat' (refine za ?_)
  refine r_stN (ws := trV (some ⟨bn, 0, none⟩) 2 bm) ag97 (by decide) hb8 rfl rfl rfl rfl (by intro q hq; simp at hq; rcases hq with rfl | rfl <;> rfl) fun w3 h8 hC3 hs3 => ?_
  have hE3 : Ext w1 w3 := Ch.trans' hE2 hC3 fun k hk e => by omega
  repeat' (first|refine za ?_|refine zA ?_|refine zB ?_|refine zb ?_|refine zc ?_|refine ze ?_|refine zd ?_|refine zJ ?_|refine zO ?_|refine zU ?_)
  (refine r_call_q (v := ?_) rfl ?_ ?_; rotate_left 1; focus exact within45 1 0 (2 - 1) true w3 (by decide))
  repeat' (first|refine za ?_|refine zb ?_|refine zc ?_|refine ze ?_|refine zd ?_|refine zO ?_|refine zR ?_|refine zU ?_|refine zY ?_|refine zk ?_)
  refine r_ldN (vs := trV (some ⟨bn, 0, none⟩) 2 bm) ag97 (by decide) h8 rfl rfl ?_
  repeat' (first|refine za ?_|refine zA ?_)
  (refine r_call (R := ?_) rfl ?_ ?_; rotate_left 1; focus exact time1 b97 (some ⟨bn, 0, none⟩) 2 q0 q1 c0 c1 bm (fun _ => none) w3 (hT.ext hE3) rfl rfl rfl)
  rintro v w4 ⟨rfl, hC4⟩
  repeat' (first|refine za ?_|refine zB ?_|refine zb ?_|refine ze ?_|refine zn ?_)
  refine post2 (v1 := .int .i64 1) (v2 := .int .i64 0) rfl rfl rfl ?_
  exact ⟨rfl, Ch.trans' (hE1.trans hE3) hC4 fun k hk e => by omega⟩
theorem tab_two {w : World} {b g : Nat} {e : TypeId} {v1 v2 : Value} {A B : List Int} (h : Gv.Own w b e (.slice (some ⟨g, 0, none⟩) 2 2) [v1, v2]) (h1 : Ints w v1 A) (h2 : Ints w v2 B) : Tab w (.slice (some ⟨g, 0, none⟩) 2 2) [A, B] :=
  ⟨[v1, v2], h.sl, fun i hi => by
    change i < 2 at hi
    rcases (by omega : i = 0 ∨ i = 1) with rfl | rfl
    · exact ⟨v1, rfl, h1⟩
    · exact ⟨v2, rfl, h2⟩⟩
abbrev T03 : List (List Int) := [[0, 3], [3, 0]]
theorem miles03 : Miles T03 := by
  refine ⟨by decide, by decide, ?_, ?_, ?_, ?_⟩
  · intro i hi; change i < 2 at hi; rcases (by omega : i = 0 ∨ i = 1) with rfl | rfl <;> rfl
  · intro i j hi hj; change i < 2 at hi; change j < 2 at hj
    rcases (by omega : i = 0 ∨ i = 1) with rfl | rfl <;> rcases (by omega : j = 0 ∨ j = 1) with rfl | rfl <;> decide
  · intro i j hi hj; change i < 2 at hi; change j < 2 at hj
    rcases (by omega : i = 0 ∨ i = 1) with rfl | rfl <;> rcases (by omega : j = 0 ∨ j = 1) with rfl | rfl <;> decide
  · intro i hi; change i < 2 at hi; rcases (by omega : i = 0 ∨ i = 1) with rfl | rfl <;> decide
theorem best03 : bestT T03 = [0, 1] := by decide +kernel
theorem len03 : lenK T03 (bestT T03) (bestT T03).length = 6 := by decide +kernel
theorem eT33 : elemI Tryz.prog 33 = some (38, .agg #[.int .i64 0, .int .i64 0], 2, 16) := by kernel_rfl
set_option maxHeartbeats 4000000 in
theorem nine_any (w : World) : Calls Tryz.prog 21 #[] w (Ret fun v w' => v = .bool true ∧ Ext w w') := by
  refine calls_of_wc (args := []) Tryz.func21 rfl ?_ ?_; kernel_rfl
  repeat' (first|refine za ?_|refine zB ?_|refine zb ?_|refine zc ?_|refine ze ?_|refine zd ?_)
  refine r_buildS2 (a1 := 0) (a2 := 3) el27 rfl rfl fun w1 h1 hE1 hs1 => ?_
  repeat' (refine za ?_)
  refine r_buildS2 (a1 := 3) (a2 := 0) el27 rfl rfl fun w2 h2 hE2 hs2 => ?_
  repeat' (refine za ?_)
  refine r_buildV2 (u1 := .slice (some ⟨w.heap.size, 0, none⟩) 2 2) (u2 := .slice (some ⟨w1.heap.size, 0, none⟩) 2 2) el35 rfl rfl rfl rfl fun w3 h3 hE3 hs3 => ?_
  repeat' (refine za ?_)
  (refine r_call (R := ?_) rfl ?_ ?_; rotate_left 1; focus exact Best_any T03 miles03 (some ⟨w2.heap.size, 0, none⟩) 2 w3 (tab_two h3 (h1.ints.ext (hE2.trans hE3)) (h2.ints.ext hE3)))
  rintro v w4 ⟨u, rfl, hu, hE4⟩
  rw [best03] at hu
  rw [len03]
  obtain ⟨qu, cu, eu, _⟩ := hu.ints.slice
  obtain rfl : u = .slice qu 2 cu := eu
  repeat' (first|refine za ?_|refine zA ?_|refine zB ?_|refine zb ?_|refine zc ?_|refine ze ?_|refine zd ?_|refine zS ?_)
  refine r_build (cells := #[.int .i64 0, .int .i64 1]) (bt38 0 1) ?_
  repeat' (refine za ?_)
  refine r_buildS1q (a := .int .i64 0) (b := .int .i64 1) eT33 rfl fun w5 h5 hE5 hs5 => ?_
  have hp5 : Pairs2 w5 (.slice (some ⟨w4.heap.size, 0, none⟩) 1 1) [(0, 1)] := h5
  obtain ⟨g0, g1⟩ := hp5.rd (i := 0) (by decide)
  repeat' (refine za ?_)
  (refine r_call (R := ?_) rfl ?_ ?_; rotate_left 1; focus exact Time2 (some ⟨w4.heap.size, 0, none⟩) 1 w5 g0 g1 rfl)
  rintro _ w6 ⟨rfl, hE6⟩
  repeat' (first|refine za ?_|refine zA ?_|refine zB ?_|refine zb ?_|refine zc ?_|refine ze ?_|refine zd ?_|refine zG ?_|refine zS ?_|refine zU ?_)
  refine r_buildS2 (a1 := 0) (a2 := 1) el27 rfl rfl fun w7 h7 hE7 hs7 => ?_
  repeat' (refine zU ?_)
  have hu7 : Ints w7 (.slice qu 2 cu) [0, 1] := hu.ints.ext ((hE5.trans hE6).trans hE7)
  (refine r_call (R := ?_) rfl ?_ ?_; rotate_left 1; focus exact ints25 _ _ [0, 1] [0, 1] w7 hu7 h7.ints (by decide) (by decide))
  rintro _ w8 ⟨rfl, hE8⟩
  rw [decide_eq_true rfl]
  repeat' (first|refine za ?_|refine zA ?_|refine zG ?_|refine zQ ?_|refine zU ?_)
  (refine r_call (R := ?_) rfl ?_ ?_; rotate_left 1; focus exact seven_any w8)
  rintro _ w9 ⟨rfl, hE9⟩
  repeat' (first|refine za ?_|refine zB ?_|refine zb ?_|refine ze ?_|refine zQ ?_|refine zn ?_)
  refine post1 (v := .bool true) rfl rfl ?_
  exact ⟨rfl, (((((((hE1.trans hE2).trans hE3).trans hE4).trans hE5).trans hE6).trans hE7).trans hE8).trans hE9⟩
end Go.Proofs.YtocgehoffdjijaaGreat

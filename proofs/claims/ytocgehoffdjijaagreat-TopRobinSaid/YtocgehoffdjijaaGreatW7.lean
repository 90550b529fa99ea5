/- TopRobin, walked. -/
import Derived.Test.YtocgehoffdjijaaGreatW6
import Derived.Test.YtocgehoffdjijaaGreatPK
namespace Go.Proofs.YtocgehoffdjijaaGreat
open Gv Go.WideMaps
set_option maxRecDepth 20000
def rowR (i k : Nat) : List Int := (List.range k).map fun c => if i = c then 0 else 1
def tabR (N i : Nat) : List (List Int) := (List.range i).map fun r => rowR r N
def setP (C : List Int) (p : Int × Int) : List Int := (C.set p.1.toNat p.2).set p.2.toNat p.1
def setK (N : Nat) (L : List (Int × Int)) (k : Nat) : List Int := (L.take k).foldl setP (List.replicate N 0)
theorem setK_len (N : Nat) (L : List (Int × Int)) (k : Nat) : (setK N L k).length = N := by
  have : ∀ (l : List (Int × Int)) (C : List Int), (l.foldl setP C).length = C.length := by
    intro l
    induction l with
    | nil => intro C; rfl
    | cons p l ih => intro C; rw [List.foldl_cons, ih]; simp [setP]
  unfold setK; rw [this]; simp
theorem setK_succ {N k : Nat} {L : List (Int × Int)} (h : k < L.length) : setK N L (k + 1) = setP (setK N L k) (L.getD k (0, 0)) := by
  unfold setK
  rw [List.take_succ_eq_append_getElem h, List.foldl_append, show L.getD k (0, 0) = L[k] by simp [List.getD, h]]
  rfl
def layR (N i : Nat) : List (Int × List Int) := (List.range i).map fun r => (1, setK N (rndK N r (N - 1)) (rndK N r (N - 1)).length)
def inR (N : Nat) : Prop := ∀ r, r < N - 1 → ∀ k, k < (rndK N r (N - 1)).length → 0 ≤ ((rndK N r (N - 1)).getD k (0, 0)).1 ∧ ((rndK N r (N - 1)).getD k (0, 0)).1 < N ∧ 0 ≤ ((rndK N r (N - 1)).getD k (0, 0)).2 ∧ ((rndK N r (N - 1)).getD k (0, 0)).2 < N
instance (N : Nat) : Decidable (inR N) := by unfold inR; infer_instance
theorem inR_all : ∀ m, m < 5 → inR (2 + 2 * m) := by decide +kernel
theorem isTabR : ∀ m, m < 5 → Pp.IsTab (tabR (2 + 2 * m) (2 + 2 * m)) := by decide +kernel
theorem isLevelR : ∀ m, m < 5 → Pp.IsLevel (tabR (2 + 2 * m) (2 + 2 * m)) := by decide +kernel
theorem rsumR : ∀ m, m < 5 → Pp.rsum (tabR (2 + 2 * m) (2 + 2 * m)) 0 (tabR (2 + 2 * m) (2 + 2 * m)).length = 1 + 2 * m := by decide +kernel
theorem splitR : ∀ m, m < 5 → Pp.SplitOk (tabR (2 + 2 * m) (2 + 2 * m)) (layR (2 + 2 * m) (1 + 2 * m)) := by decide +kernel
theorem rowR_succ (i k : Nat) : rowR i (k + 1) = rowR i k ++ [if i = k then 0 else 1] := by unfold rowR; rw [List.range_succ, List.map_append]; rfl
theorem rowR_len (i k : Nat) : (rowR i k).length = k := by simp [rowR]
theorem tabR_succ (N i : Nat) : tabR N i ++ [rowR i N] = tabR N (i + 1) := by unfold tabR; rw [List.range_succ, List.map_append]; rfl
theorem layR_succ (N i : Nat) : layR N i ++ [(1, setK N (rndK N i (N - 1)) (rndK N i (N - 1)).length)] = layR N (i + 1) := by unfold layR; rw [List.range_succ, List.map_append]; rfl
theorem rounds_get {N i : Nat} (h : i < N - 1) : (rounds N).getD i [] = rndK N i (N - 1) := by simp [rounds, List.getD, h]
theorem az38 : arrSz0 Tryz.prog 38 = some (2, 1) := by kernel_rfl
theorem el68 : elemI Tryz.prog 68 = some (70, .agg #[.int .i64 0, .slice none 0 0], 2, 32) := by kernel_rfl
theorem bt70 (a : Int) (q : Option Addr) (n c : Nat) : Tryz.prog.built 70 [(0, .int .i64 a), (1, .slice q n c)] = some #[.int .i64 a, .slice q n c] := by kernel_rfl
set_option maxHeartbeats 8000000 in
theorem TopRobin_true (n : Int) (w : World) : Calls Tryz.prog 7 #[.int .i64 n] w (Ret fun v w' => v = .bool true ∧ Ext w w') := by
  refine calls_of_wc (args := [.int .i64 n]) Tryz.func7 rfl ?_ ?_; kernel_rfl
  repeat' (first|refine za ?_|refine zA ?_|refine zB ?_|refine zb ?_|refine zc ?_|refine ze ?_|refine zd ?_)
  (refine r_call (R := ?_) rfl ?_ ?_; rotate_left 1; focus exact mod9 n 5 w (by decide))
  rintro v w1 ⟨hv, hw1⟩
  subst w1
  have hb := mod9_bnd n (n := 5) (by decide)
  obtain ⟨m, hm⟩ : ∃ m : Nat, (IntKind.u64.wrap n) % 5 = m := ⟨_, (Int.toNat_of_nonneg hb.1).symm⟩
  rw [hm] at hv hb
  subst hv
  have hm5 : m < 5 := by omega
  obtain ⟨N, hN⟩ : ∃ N, N = 2 + 2 * m := ⟨_, rfl⟩
  have hIn : inR N := by rw [hN]; exact inR_all m hm5
  repeat' (refine za ?_)
  refine r_mul_in rfl rfl (by omega) ?_
  repeat' (first|refine za ?_|refine zA ?_|refine zB ?_|refine zb ?_|refine zc ?_|refine ze ?_|refine zd ?_|refine zI ?_)
  rw [show 2 + 2 * (m : Int) = (N : Int) by omega]
  (refine r_call (R := ?_) rfl ?_ ?_; rotate_left 1; focus exact Rounds_any N (by omega) (by omega) (by omega) w)
  rintro v w1 ⟨u, rfl, hRr, hE1⟩
  obtain ⟨qr, cr, eu, _⟩ := hRr.slice
  rw [rounds_len] at eu
  subst eu
  have hsz1 := hE1.size
  repeat' (first|refine za ?_|refine zA ?_|refine zB ?_|refine zb ?_|refine zc ?_|refine ze ?_|refine zd ?_|refine zS ?_|refine zl ?_)
  refine wc_loop2 [0, 2, 3, 4] (fun (i : Nat) (v : Value) => [(5, v), (6, .int .i64 i)]) (fun i v wk => i ≤ N ∧ RowsI wk w1.heap.size 27 v (tabR N i) ∧ Ext w1 wk) (fun i _ => N - i) 0 (.slice none 0 0) rfl ⟨rfl, rfl, trivial⟩
    ⟨by omega, RowsG.nil _ _ _ _, Ext.refl _⟩ ?_
  rintro i v wk x ⟨hi, hT, hEk⟩
  by_cases hin : i < N
  · repeat' (first|refine za ?_|refine zA ?_|refine zB ?_|refine zb ?_|refine zc ?_|refine ze ?_|refine zd ?_|refine zC ?_|refine zX ?_|refine zk ?_|refine zl ?_)
    refine wc_loop2 [0, 2, 3, 4, 5, 6] (fun (k : Nat) (u : Value) => [(7, u), (8, .int .i64 k)]) (fun k u wz => k ≤ N ∧ OwnI wz wk.heap.size 3 u (rowR i k) ∧ Ext wk wz) (fun k _ => N - k) 0 (.slice none 0 0) rfl ⟨rfl, rfl, trivial⟩
      ⟨by omega, World.ownsRow_nil _ _ _ _, Ext.refl _⟩ ?_
    rintro k u wz y ⟨hk, hO, hEz⟩
    have hrl := rowR_len i k
    by_cases hkn : k < N
    · by_cases hik : i = k
      · have hs : rowR i k ++ [0] = rowR i (k + 1) := by rw [rowR_succ, if_pos hik]
        repeat' (first|refine za ?_|refine zA ?_|refine zB ?_|refine zb ?_|refine zc ?_|refine ze ?_|refine zd ?_|refine zC ?_|refine zG ?_|refine zX ?_|refine zk ?_|refine zl ?_)
        refine r_append1_i (a := 0) el27 hO rfl rfl (by omega) hEz.size fun v1 w3 _ hO3 hG3 hne3 hgb3 => ?_
        have hE3 : Ext wk w3 := Ch.trans' hEz (Ch.grown hG3 (S := fun k => wk.heap.size ≤ k) fun k e => (World.ownsRow.lt hO k e).1) fun k hk e => by omega
        rw [hs] at hO3
        repeat' (first|refine za ?_|refine zA ?_|refine zB ?_|refine zb ?_|refine ze ?_|refine zd ?_|refine zI ?_|refine zh ?_)
        exact ⟨k + 1, v1, ⟨rfl, rfl, trivial⟩, ⟨by omega, hO3, hE3⟩, by omega⟩
      · have hs : rowR i k ++ [1] = rowR i (k + 1) := by rw [rowR_succ, if_neg hik]
        repeat' (first|refine za ?_|refine zA ?_|refine zB ?_|refine zb ?_|refine zc ?_|refine ze ?_|refine zd ?_|refine zC ?_|refine zG ?_|refine zX ?_|refine zY ?_|refine zk ?_|refine zl ?_)
        refine r_append1_i (a := 1) el27 hO rfl rfl (by omega) hEz.size fun v1 w3 _ hO3 hG3 hne3 hgb3 => ?_
        have hE3 : Ext wk w3 := Ch.trans' hEz (Ch.grown hG3 (S := fun k => wk.heap.size ≤ k) fun k e => (World.ownsRow.lt hO k e).1) fun k hk e => by omega
        rw [hs] at hO3
        repeat' (first|refine za ?_|refine zA ?_|refine zB ?_|refine zb ?_|refine ze ?_|refine zd ?_|refine zI ?_|refine zh ?_)
        exact ⟨k + 1, v1, ⟨rfl, rfl, trivial⟩, ⟨by omega, hO3, hE3⟩, by omega⟩
    · obtain rfl : k = N := by omega
      obtain ⟨vs, h1, h2', h3⟩ := hT.ext keepsI hEz
      obtain ⟨q, c, rfl, _⟩ := hO.ints.slice
      repeat' (first|refine za ?_|refine zA ?_|refine zb ?_|refine zc ?_|refine ze ?_|refine zd ?_|refine zC ?_|refine zY ?_|refine zm ?_|refine zg ?_|refine zj ?_)
      refine r_append1_v (u := .slice q (rowR i k).length c) el35 rfl (by decide) h1 rfl rfl rfl (by rw [h2']; simp [tabR]; omega) (hEk.trans hEz).size fun v' w4 _ hO4 hG4 hne hgb => ?_
      have hC4 := Ch.grown hG4 (S := fun k => v.ownBlock = some k) fun k e => e
      have hE4 : Ext w1 w4 := Ch.trans' (hEk.trans hEz) hC4 fun k hk e => by have := (h1.lt k e).1; omega
      have hR4 := RowsG.push keepsI (a := rowR i k) h2' h3 hO.ints (fun g hg => by
        have h5 := hO.lt g hg
        refine ⟨fun e => ?_, h5.2⟩
        obtain ⟨vs0, h10, _⟩ := hT
        have := (h10.lt g e).2
        omega) hO4 hC4 hgb
      rw [tabR_succ] at hR4
      repeat' (first|refine za ?_|refine zA ?_|refine zB ?_|refine zb ?_|refine ze ?_|refine zd ?_|refine zI ?_|refine zh ?_)
      exact ⟨i + 1, v', ⟨rfl, rfl, trivial⟩, ⟨by omega, hR4, hE4⟩, by omega⟩
  obtain rfl : N = i := by omega
  have hRk := hRr.ext keepsP hEk
  have hTab := hT.tab
  repeat' (first|refine za ?_|refine zA ?_|refine zB ?_|refine zb ?_|refine zc ?_|refine ze ?_|refine zd ?_|refine zC ?_|refine zY ?_|refine zl ?_|refine zm ?_|refine zg ?_|refine zj ?_)
  have hqs : qr.isSome = true := by
    obtain ⟨vs, h1, h2, h3⟩ := hRk
    exact h1.sl.isSome (by rw [h2, rounds_len]; omega)
  refine wc_loop2 [0, 3, 4, 5] (fun (i : Nat) (v : Value) => [(2, .bool false), (10, v), (11, .int .i64 i)]) (fun i v wl => i ≤ N - 1 ∧ OwnY wl wk.heap.size 70 v (layR N i) ∧ Ext wk wl) (fun i _ => N - 1 - i) 0 (.slice none 0 0) rfl ⟨rfl, rfl, rfl, trivial⟩
    ⟨by omega, OwnY.nil _ _ _, Ext.refl _⟩ ?_
  rintro i vl wl x2 ⟨hi1, hY, hEl⟩
  have hlr : (layR N i).length = i := by simp [layR]
  by_cases hin1 : i < N - 1
  · have hRl := hRk.ext keepsP hEl
    repeat' (first|refine za ?_|refine zA ?_|refine zb ?_|refine zc ?_|refine ze ?_|refine zd ?_|refine zC ?_|refine zK ?_|refine zX ?_|refine zk ?_|refine zl ?_)
    refine r_make_i (n := N) el27 rfl rfl (by omega) fun w2 ho2 hE2 hlt2 => ?_
    obtain ⟨go, ego⟩ : ∃ b, b = wl.heap.size := ⟨_, rfl⟩
    rw [← ego] at ho2 hlt2 ⊢
    have hEl2 := hEl.trans hE2
    repeat' (first|refine za ?_|refine zB ?_|refine zb ?_|refine zc ?_|refine ze ?_|refine zd ?_|refine zl ?_)
    refine wc_loop [0, 3, 4, 5, 10, 11, 12] (fun (k : Nat) => [(2, .bool false), (13, .int .i64 k)]) (fun k wz => k ≤ (rndK N i (N - 1)).length ∧ OwnI wz go 3 (.slice (some ⟨go, 0, none⟩) N N) (setK N (rndK N i (N - 1)) k) ∧ Ext wl wz ∧ wl.heap.size < wz.heap.size) (fun k => (rndK N i (N - 1)).length - k) 0 rfl ⟨rfl, rfl, trivial⟩
      ⟨by omega, by (show OwnI w2 go 3 _ (setK N (rndK N i (N - 1)) 0)); exact ho2, hE2, by omega⟩ ?_
    rintro k wz y ⟨hk, hO, hEz, hsz⟩
    have hRz := hRl.ext keepsP hEz
    obtain ⟨qp, mp, hrd, hP⟩ := Gv.RowsP.rd hRz (i := i) (by rw [rounds_len]; omega)
    rw [rounds_get hin1] at hrd hP
    have hCl := setK_len N (rndK N i (N - 1)) k
    have hbk := rndK_len N i (N - 1)
    by_cases hkn : k < (rndK N i (N - 1)).length
    · have hab := hIn i hin1 k hkn
      have hsucc := setK_succ (N := N) hkn
      obtain ⟨A, B, hAB⟩ : ∃ A B, (rndK N i (N - 1)).getD k (0, 0) = (A, B) := ⟨_, _, rfl⟩
      obtain ⟨g0, g1⟩ := (hP.ext (Ext.drew wz)).rd (i := k) hkn
      have hpp := hP.isSome (by omega)
      rw [hAB] at hab hsucc g0 g1
      obtain ⟨h1, h2, h3, h4⟩ := hab
      dsimp only at h1 h2 h3 h4 g0 g1
      obtain ⟨a, rfl⟩ : ∃ a : Nat, A = a := ⟨A.toNat, by omega⟩
      obtain ⟨b, rfl⟩ : ∃ b : Nat, B = b := ⟨B.toNat, by omega⟩
      have hset : ((setK N (rndK N i (N - 1)) k).set a (b : Int)).set b (a : Int) = setK N (rndK N i (N - 1)) (k + 1) := by rw [hsucc]; rfl
      have hrdd := rd_ext hrd (Ext.drew wz)
      have hOd : OwnI wz.drew go 3 (.slice (some ⟨go, 0, none⟩) N N) (setK N (rndK N i (N - 1)) k) := ownsRow_ext hO (Ext.drew wz)
      repeat' (first|refine za ?_|refine zA ?_|refine zb ?_|refine zc ?_|refine ze ?_|refine zd ?_|refine zC ?_|refine zK ?_|refine zL ?_|refine zM ?_|refine zX ?_|refine zk ?_|refine zl ?_)
      (refine wc_drawn 17 (by kernel_rfl) (by kernel_rfl) ?_; simp only [List.take_succ_cons, List.take_zero, List.drop_succ_cons, List.drop_zero])
      repeat' (first|refine za ?_|refine zA ?_|refine zL ?_|refine zM ?_)
      refine r_idxQ az38 rfl (pidx_isSome hpp) rfl (by decide) (by decide) ?_
      repeat' (first|refine za ?_|refine zA ?_|refine zL ?_|refine zM ?_)
      refine r_idxQ az38 rfl (pidx_isSome hpp) rfl (by decide) (by decide) ?_
      repeat' (first|refine za ?_|refine zA ?_|refine zB ?_|refine zb ?_|refine zc ?_|refine ze ?_|refine zd ?_|refine zC ?_|refine zF ?_|refine zL ?_|refine zM ?_|refine zR ?_|refine zU ?_|refine zY ?_|refine zk ?_)
      refine r_st_i (i := a) (a := (b : Int)) co3 hOd rfl rfl (by omega) fun w4 h4 hG4 hs4 => ?_
      repeat' (first|refine za ?_|refine zA ?_|refine zb ?_|refine ze ?_|refine zd ?_|refine zL ?_)
      refine r_st_i (i := b) (a := (a : Int)) co3 h4 rfl rfl (by rw [List.length_set]; omega) fun w5 h5 hG5 hs5 => ?_
      rw [hset] at h5
      have hC5 : Ch (fun k => k = go) wz.drew w5 := (Ch.grown hG4 fun k e => by cases e; rfl).trans (Ch.grown hG5 fun k e => by cases e; rfl)
      have hE5 : Ext wl w5 := Ch.trans' (hEz.trans (Ext.drew wz)) hC5 fun k hk e => by omega
      repeat' (first|refine za ?_|refine zA ?_|refine zB ?_|refine zb ?_|refine ze ?_|refine zd ?_|refine zI ?_|refine zh ?_)
      exact ⟨k + 1, ⟨rfl, rfl, trivial⟩, ⟨by omega, h5, hE5, by have := hC5.size; have : wz.drew.heap.size = wz.heap.size := rfl; omega⟩, by omega⟩
    · have hke : k = (rndK N i (N - 1)).length := by omega
      rw [hke] at hO
      repeat' (first|refine za ?_|refine zA ?_|refine zb ?_|refine zc ?_|refine ze ?_|refine zd ?_|refine zC ?_|refine zK ?_|refine zL ?_|refine zM ?_|refine zY ?_|refine zm ?_|refine zg ?_|refine zj ?_)
      refine r_build (cells := #[.int .i64 1, .slice (some ⟨go, 0, none⟩) N N]) (bt70 _ _ _ _) ?_
      repeat' (refine za ?_)
      refine r_buildS1q el68 rfl fun w6 hs6 hE6 hz6 => ?_
      have hEz6 := hEz.trans hE6
      repeat' (refine za ?_)
      refine r_appendY (l := setK N (rndK N i (N - 1)) (rndK N i (N - 1)).length) el68 (by decide) (hY.ext hEz6) hs6 (hO.ints.ext hE6) (fun g hg => ?_) rfl rfl (by omega) (hEl.trans hEz6).size fun v' w7 hY7 hC7 hb7 => ?_
      · cases hg
        refine ⟨by have := hE6.size; have := hEz6.size; (show go < _); omega, fun e => ?_⟩
        obtain ⟨xs, hx, _⟩ := hY
        have := (World.ownsRow.lt hx go e).2
        omega
      rw [layR_succ] at hY7
      have hE7 : Ext wk w7 := Ch.trans' (hEl.trans hEz6) hC7 fun k hk e => by
        obtain ⟨xs, hx, _⟩ := hY
        have := (World.ownsRow.lt hx k e).1
        omega
      repeat' (first|refine za ?_|refine zA ?_|refine zB ?_|refine zb ?_|refine ze ?_|refine zd ?_|refine zI ?_|refine zh ?_)
      exact ⟨i + 1, v', ⟨rfl, rfl, rfl, trivial⟩, ⟨by omega, hY7, hE7⟩, by omega⟩
  obtain rfl : i = N - 1 := by omega
  have hTl := hTab.ext hEl
  have hlt : (tabR N N).length = N := by simp [tabR]
  have hm2 : ∀ l ∈ tabR N N, l.length < 9223372036854775807 := fun l hl => by
    unfold tabR at hl
    obtain ⟨r, _, rfl⟩ := List.mem_map.1 hl
    rw [rowR_len]; omega
  have p1 : Pp.IsTab (tabR N N) := by rw [hN]; exact isTabR m hm5
  have p2 : Pp.IsLevel (tabR N N) := by rw [hN]; exact isLevelR m hm5
  have p3 : Pp.rsum (tabR N N) 0 (tabR N N).length = (N : Int) - 1 := by
    have := rsumR m hm5
    rw [← hN] at this
    rw [this]; omega
  have p4 : Pp.SplitOk (tabR N N) (layR N (N - 1)) := by
    have := splitR m hm5
    rw [← hN, show 1 + 2 * m = N - 1 by omega] at this
    exact this
  repeat' (first|refine za ?_|refine zA ?_|refine zb ?_|refine zc ?_|refine ze ?_|refine zd ?_|refine zC ?_|refine zK ?_|refine zY ?_|refine zm ?_|refine zg ?_|refine zj ?_)
  (refine r_call (R := ?_) rfl ?_ ?_; rotate_left 1; focus exact Pp.Level_any v (tabR N N) wl hTl (by omega) hm2)
  rintro v1 w8 ⟨hv1, hE8⟩
  rw [if_pos p1, if_pos p2, p3] at hv1
  subst hv1
  repeat' (first|refine za ?_|refine zA ?_|refine zB ?_|refine zb ?_|refine zc ?_|refine ze ?_|refine zd ?_|refine zG ?_|refine zJ ?_|refine zK ?_|refine zQ ?_|refine zS ?_|refine zU ?_)
  have hm3 : ∀ x ∈ layR N (N - 1), x.2.length < 9223372036854775807 := fun x hx => by
    unfold layR at hx
    obtain ⟨r, _, rfl⟩ := List.mem_map.1 hx
    rw [setK_len]; omega
  (refine r_call (R := ?_) rfl ?_ ?_; rotate_left 1; focus exact Pp.checkSplit_any v vl (tabR N N) (layR N (N - 1)) w8 (hTl.ext hE8) (hY.lays.ext hE8) (by omega) hm2 (by omega) hm3)
  rintro v2 w9 ⟨hv2, hE9⟩
  rw [if_pos p1, if_pos p2, if_pos p4] at hv2
  subst hv2
  repeat' (first|refine za ?_|refine zA ?_|refine zG ?_|refine zQ ?_|refine zU ?_)
  (refine r_call (R := ?_) rfl ?_ ?_; rotate_left 1; focus exact nine_any w9)
  rintro _ w10 ⟨rfl, hE10⟩
  repeat' (first|refine za ?_|refine zB ?_|refine zb ?_|refine ze ?_|refine zQ ?_|refine zn ?_)
  refine post1 (v := .bool true) rfl rfl ?_
  exact ⟨rfl, ((((hE1.trans hEk).trans hEl).trans hE8).trans hE9).trans hE10⟩
end Go.Proofs.YtocgehoffdjijaaGreat

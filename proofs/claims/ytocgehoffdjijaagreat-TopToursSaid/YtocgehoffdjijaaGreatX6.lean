/- TopTours: round.Length, the law walked. -/
import Derived.Test.YtocgehoffdjijaaGreatX5
namespace Go.Proofs.YtocgehoffdjijaaGreat
open Gv Go.WideMaps
set_option maxRecDepth 20000
/-- A tour: the first stop, then each other one once. -/
structure IsTr (N : Nat) (M : List Nat) : Prop where
  len : M.length = N
  fst : M.getD 0 0 = 0
  lt : ∀ i, i < N → M.getD i 0 < N
  inj : ∀ i j, i < j → j < N → M.getD i 0 ≠ M.getD j 0
set_option maxHeartbeats 4000000 in
theorem isTour_any (T : List (List Int)) (M : List Nat) (hT : IsTr T.length M) (h1 : 1 ≤ T.length) (h11 : T.length ≤ 11) (q ql : Option Addr) (c c2 : Nat) (w : World) (hl : Ints w (.slice ql M.length c2) (ni M)) :
    Calls Tryz.prog 58 #[.slice q T.length c, .slice ql M.length c2] w (Ret fun v w' => v = .bool true ∧ w' = w) := by
  have hlen := hT.len
  have hnl := ni_len M
  have hps := hl.isSome (by omega)
  have g0 := hl.rd (i := 0) (by omega)
  rw [ni_get, hT.fst] at g0
  refine calls_of_wc (args := [.slice q T.length c, .slice ql M.length c2]) Tryz.func58 rfl ?_ ?_; kernel_rfl
  repeat' (first|refine za ?_|refine zA ?_|refine zB ?_|refine zb ?_|refine zc ?_|refine ze ?_|refine zd ?_|refine zH ?_|refine zK ?_|refine zL ?_|refine zM ?_|refine zR ?_|refine zU ?_|refine zY ?_|refine zk ?_|refine zl ?_)
  refine wc_loop [0, 1, 18, 19] (fun (i : Nat) => [(4, .bool false), (20, .int .i64 i)]) (fun i wk => i ≤ M.length ∧ wk = w) (fun i => M.length - i) 0 rfl ⟨rfl, rfl, trivial⟩ ⟨by omega, rfl⟩ ?_
  rintro i wk x ⟨hi, rfl⟩
  by_cases hin : i < M.length
  rotate_left 1
  · repeat' (first|refine za ?_|refine zB ?_|refine zb ?_|refine zc ?_|refine ze ?_|refine zd ?_|refine zC ?_|refine zY ?_|refine zm ?_|refine zn ?_|refine zg ?_|refine zj ?_)
    refine post1 (v := .bool true) rfl rfl ?_
    exact ⟨rfl, rfl⟩
  have gi := hl.rd (i := i) (by omega)
  rw [ni_get] at gi
  have hlt := hT.lt i (by omega)
  repeat' (first|refine za ?_|refine zA ?_|refine zB ?_|refine zb ?_|refine zc ?_|refine ze ?_|refine zd ?_|refine zC ?_|refine zJ ?_|refine zK ?_|refine zL ?_|refine zM ?_|refine zX ?_|refine zk ?_|refine zl ?_)
  (refine r_call_q (v := ?_) rfl ?_ ?_; rotate_left 1; focus exact in90 (M.getD i 0 : Nat) 0 ((T.length : Int) - 1) wk (by omega) (by omega))
  repeat' (first|refine za ?_|refine zA ?_|refine zO ?_|refine zU ?_)
  refine r_slice_i (l := 0) (h' := i) rfl (by rw [ni_len]; exact hl) (by rw [ni_len]; rfl) bnd_none ⟨_, rfl⟩ (by omega) (by omega) ?_
  intro q' c' hs _ _
  repeat' (first|refine zA ?_|refine zU ?_)
  have hLl : ((ni M).drop 0 |>.take (i - 0)).length = i := by simp; omega
  have hc := Bg.contains_any _ _ ((M.getD i 0 : Nat) : Int) wk hs (by omega)
  rw [decide_eq_false (by
    rintro ⟨j, hj, e⟩
    rw [hLl] at hj
    have e2 : (List.take (i - 0) (List.drop 0 (ni M))).getD j 0 = ((M.getD j 0 : Nat) : Int) := by
      rw [← ni_get]; simp [List.getD, hj]
    rw [e2] at e
    have := hT.inj j i hj (by omega)
    omega)] at hc
  (refine r_call_q (v := ?_) rfl ?_ ?_; rotate_left 1; focus exact hc)
  repeat' (first|refine za ?_|refine zA ?_|refine zb ?_|refine ze ?_|refine zd ?_|refine zI ?_|refine zR ?_|refine zY ?_|refine zk ?_|refine zh ?_)
  exact ⟨i + 1, ⟨rfl, rfl, trivial⟩, ⟨by omega, rfl⟩, by omega⟩
set_option maxHeartbeats 4000000 in
theorem Length_any (T : List (List Int)) (hM : Miles T) (M : List Nat) (hT : IsTr T.length M) (q ql : Option Addr) (c c2 : Nat) (w : World) (h : Tab w (.slice q T.length c) T) (hl : Ints w (.slice ql M.length c2) (ni M)) :
    Calls Tryz.prog 24 #[.slice q T.length c, .slice ql M.length c2] w (Ret fun v w' => v = .tuple #[.int .i64 (lenK T M M.length), .int .i64 0] ∧ Ext w w') := by
  have hlen := hT.len
  have h11 := hM.n11
  refine calls_of_wc (args := [.slice q T.length c, .slice ql M.length c2]) Tryz.func24 rfl ?_ ?_; kernel_rfl
  repeat' (first|refine za ?_|refine zA ?_|refine zB ?_|refine zb ?_|refine zc ?_|refine ze ?_|refine zd ?_)
  (refine r_call_q (v := ?_) rfl ?_ ?_; rotate_left 1; focus exact isMiles_any q c T w h hM)
  repeat' (first|refine za ?_|refine zA ?_|refine zO ?_|refine zU ?_)
  (refine r_call_q (v := ?_) rfl ?_ ?_; rotate_left 1; focus exact isTour_any T M hT hM.n1 hM.n11 q ql c c2 w hl)
  repeat' (first|refine za ?_|refine zA ?_|refine zb ?_|refine zc ?_|refine ze ?_|refine zd ?_|refine zO ?_|refine zR ?_|refine zU ?_|refine zY ?_|refine zk ?_)
  (refine r_call (R := ?_) rfl ?_ ?_; rotate_left 1; focus exact length49 T hM q ql c c2 M w h hl (fun i hi => hT.lt i (by omega)) (by omega))
  rintro _ w2 ⟨rfl, hE2⟩
  repeat' (first|refine za ?_|refine zB ?_|refine zb ?_|refine ze ?_|refine zn ?_)
  refine post2 (v1 := .int .i64 (lenK T M M.length)) (v2 := .int .i64 0) rfl rfl rfl ?_
  exact ⟨rfl, hE2⟩
theorem stops_tour {m k : Nat} (hm : m < 6) (hk : k < Od.RW.fac m) : IsTr (m + 1) (0 :: stops m k) := by
  obtain ⟨_, hF, hl⟩ := stops_fit hm hk
  have hmem : ∀ i, i < m → (stops m k).getD i 0 ∈ stops m k := fun i hi => by
    rw [List.getD_eq_getElem?_getD, List.getElem?_eq_getElem (by omega)]; exact List.getElem_mem _
  have hr : ∀ i, i < m → 1 ≤ (stops m k).getD i 0 ∧ (stops m k).getD i 0 < m + 1 := fun i hi => (lft0_bit (by omega)).1 ((hF.2 _).1 (hmem i hi))
  refine ⟨by simp [hl], rfl, fun i hi => ?_, fun i j hij hj => ?_⟩
  · cases i with
    | zero => simp
    | succ i => simpa using (hr i (by omega)).2
  · cases j with
    | zero => omega
    | succ j =>
      cases i with
      | zero =>
        have := (hr j (by omega)).1
        simp only [List.getD_cons_zero, List.getD_cons_succ]; omega
      | succ i =>
        simp only [List.getD_cons_succ]
        intro e
        simp only [List.getD, List.getElem?_eq_getElem (show i < (stops m k).length by omega), List.getElem?_eq_getElem (show j < (stops m k).length by omega), Option.getD_some] at e
        have := (List.getElem_inj hF.1).1 e
        omega
end Go.Proofs.YtocgehoffdjijaaGreat

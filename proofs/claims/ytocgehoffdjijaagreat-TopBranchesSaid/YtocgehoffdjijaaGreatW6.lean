/- top: rows of several makers; relay.Rounds. -/
import Derived.Test.YtocgehoffdjijaaGreatWK
namespace Go.Proofs.YtocgehoffdjijaaGreat
open Gv Go.WideMaps
set_option maxRecDepth 20000
namespace Gv
/-- Owned slice of slices, of which each shows what Q says. -/
def RowsG {α : Type} (Q : World → Value → α → Prop) (w : World) (base : Nat) (e : TypeId) (v : Value) (R : List α) : Prop :=
  ∃ vs, Gv.Own w base e v vs ∧ vs.length = R.length ∧ ∀ (j : Nat) (a : α), R[j]? = some a → ∃ u, vs[j]? = some u ∧ Q w u a ∧ ∀ g, u.ownBlock = some g → v.ownBlock ≠ some g ∧ g < w.heap.size
theorem RowsG.nil {α : Type} (Q : World → Value → α → Prop) (w : World) (base : Nat) (e : TypeId) : RowsG Q w base e (.slice none 0 0) [] :=
  ⟨[], World.ownsRow_nil _ _ _ _, rfl, fun j a h => by simp at h⟩
def KeepsG {α : Type} (Q : World → Value → α → Prop) : Prop := ∀ (S : Nat → Prop) (w w' : World) (u : Value) (a : α), Q w u a → Ch S w w' → (∀ g, u.ownBlock = some g → ¬ S g) → Q w' u a
theorem RowsG.keep {α : Type} {Q : World → Value → α → Prop} (hQ : KeepsG Q) {S : Nat → Prop} {w w' : World} {base : Nat} {e : TypeId} {v : Value} {R : List α} (h : RowsG Q w base e v R) (hC : Ch S w w') (hS : ∀ g, S g → w.heap.size ≤ g) : RowsG Q w' base e v R := by
  obtain ⟨vs, h1, h2, h3⟩ := h
  refine ⟨vs, ownsRow_keep h1 hC fun g hg hs => by have := (h1.lt g hg).2; have := hS g hs; omega, h2, fun j a hj => ?_⟩
  obtain ⟨u, hu, hq, hg⟩ := h3 j a hj
  exact ⟨u, hu, hQ S w w' u a hq hC fun g hg' hs => by have := (hg g hg').2; have := hS g hs; omega, fun g hg' => ⟨(hg g hg').1, Nat.lt_of_lt_of_le (hg g hg').2 hC.size⟩⟩
theorem RowsG.ext {α : Type} {Q : World → Value → α → Prop} (hQ : KeepsG Q) {w w' : World} {base : Nat} {e : TypeId} {v : Value} {R : List α} (h : RowsG Q w base e v R) (hC : Ext w w') : RowsG Q w' base e v R :=
  h.keep hQ hC fun _ e => e.elim
theorem RowsG.push {α : Type} {Q : World → Value → α → Prop} (hQ : KeepsG Q) {w w' : World} {base : Nat} {e : TypeId} {v v' u : Value} {vs : List Value} {R : List α} {a : α}
    (h2 : vs.length = R.length) (h3 : ∀ (j : Nat) (a : α), R[j]? = some a → ∃ u, vs[j]? = some u ∧ Q w u a ∧ ∀ g, u.ownBlock = some g → v.ownBlock ≠ some g ∧ g < w.heap.size) (hu : Q w u a) (hg : ∀ g, u.ownBlock = some g → v.ownBlock ≠ some g ∧ g < w.heap.size)
    (hO : Gv.Own w' base e v' (vs ++ [u])) (hC : Ch (fun k => v.ownBlock = some k) w w') (hb : ∀ g, v'.ownBlock = some g → v.ownBlock = some g ∨ w.heap.size ≤ g) : RowsG Q w' base e v' (R ++ [a]) := by
  refine ⟨vs ++ [u], hO, by simp [h2], fun j b hj => ?_⟩
  have hn : ∀ x g, Q w x b → x.ownBlock = some g → (v.ownBlock ≠ some g ∧ g < w.heap.size) → v'.ownBlock ≠ some g ∧ g < w'.heap.size := fun x g _ hx hh =>
    ⟨fun e => (hb g e).elim hh.1 fun e1 => by omega, Nat.lt_of_lt_of_le hh.2 hC.size⟩
  by_cases hj1 : j < R.length
  · rw [List.getElem?_append_left hj1] at hj
    obtain ⟨x, hx, hq, hgx⟩ := h3 j b hj
    exact ⟨x, by rw [List.getElem?_append_left (by omega)]; exact hx, hQ _ w w' x b hq hC fun g hg' e => (hgx g hg').1 e, fun g hg' => hn x g hq hg' (hgx g hg')⟩
  · rw [List.getElem?_append_right (by omega)] at hj
    have hj0 : j - R.length = 0 := by
      have := (List.getElem?_eq_some_iff.1 hj).1
      simp at this; omega
    rw [hj0] at hj
    have hab : a = b := by simpa using hj
    subst hab
    exact ⟨u, by rw [List.getElem?_append_right (by omega), h2, hj0]; rfl, hQ _ w w' u a hu hC fun g hg' e => (hg g hg').1 e, fun g hg' => hn u g hu hg' (hg g hg')⟩
theorem keepsP : KeepsG (fun w u (L : List (Int × Int)) => Pairs2 w u L) := fun _ _ _ _ _ h hC hS => Pairs2.keep h hC hS
theorem keepsI : KeepsG (fun w u (L : List Int) => Ints w u L) := fun _ _ _ _ _ h hC hS => Ints.keep h hC hS
abbrev RowsP := RowsG (fun w u (L : List (Int × Int)) => Pairs2 w u L)
abbrev RowsI := RowsG (fun w u (L : List Int) => Ints w u L)
theorem RowsP.rd {w : World} {base : Nat} {e : TypeId} {p : Option Addr} {n c : Nat} {R : List (List (Int × Int))} (h : RowsP w base e (.slice p n c) R) {i : Nat} (hi : i < R.length) :
    ∃ q m, Gv.rd w (pidx p i 1) = some (.slice q (R.getD i []).length m) ∧ Pairs2 w (.slice q (R.getD i []).length m) (R.getD i []) := by
  obtain ⟨vs, h1, h2, h3⟩ := h
  obtain ⟨u, hu, hq, _⟩ := h3 i (R.getD i []) (by simp [List.getD, hi])
  obtain ⟨q, m, rfl, _⟩ := hq.slice
  exact ⟨q, m, h1.sl.rd1 i hu, hq⟩
theorem RowsI.tab {w : World} {base : Nat} {e : TypeId} {v : Value} {R : List (List Int)} (h : RowsI w base e v R) : Tab w v R := by
  obtain ⟨vs, h1, h2, h3⟩ := h
  refine ⟨vs, h2 ▸ h1.sl, fun i hi => ?_⟩
  obtain ⟨u, hu, hq, _⟩ := h3 i R[i] (by simp [hi])
  exact ⟨u, hu, hq⟩
theorem RowsG.slice {α : Type} {Q : World → Value → α → Prop} {w : World} {base : Nat} {e : TypeId} {v : Value} {R : List α} (h : RowsG Q w base e v R) : ∃ p c, v = .slice p R.length c ∧ R.length ≤ c := by
  obtain ⟨vs, h1, h2, h3⟩ := h; rw [← h2]; exact h1.sl.slice
end Gv
def wOf (N i v : Nat) : Nat := (2 * i + 2 * (N - 1) - v) % (N - 1)
def rndS (N i v : Nat) : List (Int × Int) := (if v = i then [((v : Int), (N : Int) - 1)] else []) ++ (if v < wOf N i v then [((v : Int), (wOf N i v : Int))] else [])
def rndK (N i : Nat) : Nat → List (Int × Int)
  | 0 => []
  | k + 1 => rndK N i k ++ rndS N i k
theorem rndK_len (N i : Nat) : ∀ k, (rndK N i k).length ≤ 2 * k
  | 0 => Nat.le_refl _
  | k + 1 => by
    have := rndK_len N i k
    have h2 : (rndS N i k).length ≤ 2 := by unfold rndS; split <;> split <;> simp
    simp only [rndK, List.length_append]; omega
theorem wOf_cast {N i k : Nat} (h2 : 2 ≤ N) (hk : k < N - 1) : (2 * (i : Int) - (k : Int) + 2 * ((N : Int) - 1)) % ((N : Int) - 1) = (wOf N i k : Int) := by
  unfold wOf
  rw [Int.natCast_emod]
  have e1 : ((2 * i + 2 * (N - 1) - k : Nat) : Int) = 2 * (i : Int) - (k : Int) + 2 * ((N : Int) - 1) := by omega
  have e2 : ((N - 1 : Nat) : Int) = (N : Int) - 1 := by omega
  rw [e1, e2]
theorem wOf_lt {N i k : Nat} (h2 : 2 ≤ N) : wOf N i k < N - 1 := Nat.mod_lt _ (by omega)
def rounds (N : Nat) : List (List (Int × Int)) := (List.range (N - 1)).map fun i => rndK N i (N - 1)
theorem rounds_len (N : Nat) : (rounds N).length = N - 1 := by simp [rounds]
theorem el33 : elemI Tryz.prog 33 = some (38, .agg #[.int .i64 0, .int .i64 0], 2, 16) := by kernel_rfl
theorem el65 : elemI Tryz.prog 65 = some (33, .slice none 0 0, 1, 24) := by kernel_rfl
set_option maxHeartbeats 8000000 in
theorem Rounds_any (N : Nat) (h2 : 2 ≤ N) (h20 : N ≤ 20) (he : N % 2 = 0) (w : World) :
    Calls Tryz.prog 29 #[.int .i64 (N : Int)] w (Ret fun v w' => ∃ u, v = .tuple #[u, .int .i64 0] ∧ RowsP w' w.heap.size 33 u (rounds N) ∧ Ext w w') := by
  refine calls_of_wc (args := [.int .i64 (N : Int)]) Tryz.func29 rfl ?_ ?_; kernel_rfl
  repeat' (first|refine za ?_|refine zA ?_|refine zB ?_|refine zb ?_|refine zc ?_|refine ze ?_|refine zd ?_)
  (refine r_call_q (v := ?_) rfl ?_ ?_; rotate_left 1; focus exact within45 N 2 20 true w (by rw [decide_eq_true ⟨by omega, by omega⟩]))
  repeat' (first|refine za ?_|refine zA ?_|refine zO ?_|refine zU ?_)
  refine r_rem_v (c := 0) rfl rfl (by omega) (by omega) (by omega) ?_
  repeat' (first|refine za ?_|refine zA ?_|refine zB ?_|refine zb ?_|refine zc ?_|refine ze ?_|refine zd ?_|refine zG ?_|refine zJ ?_|refine zR ?_|refine zU ?_|refine zY ?_|refine zk ?_|refine zl ?_)
  refine wc_loop2 [0, 2, 3, 18] (fun (i : Nat) (v : Value) => [(4, v), (19, .int .i64 i)]) (fun i v wk => i ≤ N - 1 ∧ RowsP wk w.heap.size 33 v ((List.range i).map fun i => rndK N i (N - 1)) ∧ Ext w wk) (fun i _ => N - 1 - i) 0 (.slice none 0 0) rfl ⟨rfl, rfl, trivial⟩
    ⟨by omega, RowsG.nil _ _ _ _, Ext.refl _⟩ ?_
  rintro i v wk x ⟨hi, hR, hE⟩
  by_cases hin : i < N - 1
  rotate_left 1
  · obtain rfl : i = N - 1 := by omega
    obtain ⟨q, c, ev', _⟩ := hR.slice
    have hl : ((List.range (N - 1)).map fun i => rndK N i (N - 1)).length = N - 1 := by simp
    rw [hl] at ev'
    subst ev'
    repeat' (first|refine za ?_|refine zA ?_|refine zB ?_|refine zb ?_|refine zc ?_|refine ze ?_|refine zd ?_|refine zC ?_|refine zY ?_|refine zm ?_|refine zn ?_|refine zg ?_|refine zj ?_)
    refine post2 (v1 := .slice q (N - 1) c) (v2 := .int .i64 0) rfl rfl rfl ?_
    exact ⟨_, rfl, hR, hE⟩
  repeat' (first|refine za ?_|refine zA ?_|refine zB ?_|refine zb ?_|refine zc ?_|refine ze ?_|refine zd ?_|refine zC ?_|refine zJ ?_|refine zX ?_|refine zk ?_|refine zl ?_)
  refine wc_loop2 [0, 2, 3, 4, 5, 18, 19, 23] (fun (k : Nat) (u : Value) => [(6, u), (24, .int .i64 k)]) (fun k u wz => k ≤ N - 1 ∧ OwnP wz wk.heap.size 38 u (rndK N i k) ∧ Ext wk wz) (fun k _ => N - 1 - k) 0 (.slice none 0 0) rfl ⟨rfl, rfl, trivial⟩
    ⟨by omega, OwnP.nil _ _ _, Ext.refl _⟩ ?_
  rintro k u wz y ⟨hk, hO, hEz⟩
  by_cases hkn : k < N - 1
  rotate_left 1
  · obtain rfl : k = N - 1 := by omega
    obtain ⟨vs, h1, h2', h3⟩ := hR.ext keepsP hEz
    obtain ⟨q, c, rfl, _⟩ := hO.pairs.slice
    repeat' (first|refine za ?_|refine zA ?_|refine zb ?_|refine zc ?_|refine ze ?_|refine zd ?_|refine zC ?_|refine zY ?_|refine zm ?_|refine zg ?_|refine zj ?_)
    refine r_append1_v (u := .slice q (rndK N i (N - 1)).length c) el65 rfl (by decide) h1 rfl rfl rfl (by rw [h2']; simp; omega) (hE.trans hEz).size fun v' w4 _ hO4 hG4 hne hgb => ?_
    have hC4 := Ch.grown hG4 (S := fun k => v.ownBlock = some k) fun k e => e
    have hE4 : Ext w w4 := Ch.trans' (hE.trans hEz) hC4 fun k hk e => by have := (h1.lt k e).1; omega
    have hR4 := RowsG.push keepsP (a := rndK N i (N - 1)) h2' h3 hO.pairs (fun g hg => by
      have h5 := hO.lt g hg
      refine ⟨fun e => ?_, h5.2⟩
      obtain ⟨vs0, h10, _⟩ := hR
      have := (h10.lt g e).2
      omega) hO4 hC4 hgb
    have hsn : (List.range i).map (fun i => rndK N i (N - 1)) ++ [rndK N i (N - 1)] = (List.range (i + 1)).map fun i => rndK N i (N - 1) := by rw [List.range_succ, List.map_append]; rfl
    rw [hsn] at hR4
    repeat' (first|refine za ?_|refine zA ?_|refine zB ?_|refine zb ?_|refine ze ?_|refine zd ?_|refine zI ?_|refine zh ?_)
    exact ⟨i + 1, v', ⟨rfl, rfl, trivial⟩, ⟨by omega, hR4, hE4⟩, by omega⟩
  have hw := wOf_lt (N := N) (i := i) (k := k) h2
  have hln := rndK_len N i k
  have hcast := wOf_cast (i := i) h2 hkn
  have hstep : rndK N i (k + 1) = rndK N i k ++ rndS N i k := rfl
  obtain ⟨W, eW⟩ : ∃ W, W = wOf N i k := ⟨_, rfl⟩
  rw [← eW] at hw hcast
  have hfin : ∀ (u' : Value) (w' : World), OwnP w' wk.heap.size 38 u' (rndK N i k ++ rndS N i k) → Ext wk w' → (k + 1 ≤ N - 1 ∧ OwnP w' wk.heap.size 38 u' (rndK N i (k + 1)) ∧ Ext wk w') := fun u' w' h1 h2 => ⟨by omega, h1, h2⟩
  by_cases hki : k = i
  · subst hki
    repeat' (first|refine za ?_|refine zA ?_|refine zB ?_|refine zb ?_|refine zc ?_|refine ze ?_|refine zd ?_|refine zC ?_|refine zG ?_|refine zJ ?_|refine zX ?_|refine zk ?_|refine zl ?_)
    refine r_build (cells := #[.int .i64 (k : Int), .int .i64 ((N : Int) - 1)]) (bt38 _ _) ?_
    repeat' (refine za ?_)
    refine r_append1_p el33 (by decide) hO rfl rfl (by omega) hEz.size fun v1 w3 _ hO3 hG3 hne3 hgb3 => ?_
    have hE3 : Ext wk w3 := Ch.trans' hEz (Ch.grown hG3 (S := fun k => wk.heap.size ≤ k) fun k e => (World.ownsRow.lt hO k e).1) fun k hk e => by omega
    repeat' (first|refine za ?_|refine zA ?_|refine zB ?_|refine zb ?_|refine zc ?_|refine ze ?_|refine zd ?_)
    refine r_mul_in rfl rfl (by omega) ?_
    repeat' (first|refine za ?_|refine zA ?_|refine zJ ?_)
    refine r_mul_in rfl rfl (by omega) ?_
    repeat' (first|refine za ?_|refine zA ?_|refine zI ?_|refine zJ ?_)
    refine r_rem_v (c := (W : Int)) rfl rfl (by omega) (by omega) hcast ?_
    by_cases hkw : k < W
    · have hS : [((k : Int), (N : Int) - 1)] ++ [((k : Int), (W : Int))] = rndS N k k := by unfold rndS; rw [← eW, if_pos rfl, if_pos hkw]
      repeat' (first|refine za ?_|refine zA ?_|refine zB ?_|refine zb ?_|refine zc ?_|refine ze ?_|refine zd ?_|refine zC ?_|refine zX ?_)
      refine r_build (cells := #[.int .i64 (k : Int), .int .i64 (W : Int)]) (bt38 _ _) ?_
      repeat' (refine za ?_)
      refine r_append1_p el33 (by decide) hO3 rfl rfl (by simp; omega) hE3.size fun v2 w4 _ hO4 hG4 hne hgb => ?_
      have hE4 : Ext wk w4 := Ch.trans' hE3 (Ch.grown hG4 (S := fun k => wk.heap.size ≤ k) fun k e => (World.ownsRow.lt hO3 k e).1) fun k hk e => by omega
      rw [List.append_assoc, hS] at hO4
      repeat' (first|refine za ?_|refine zA ?_|refine zB ?_|refine zb ?_|refine ze ?_|refine zd ?_|refine zI ?_|refine zh ?_)
      exact ⟨k + 1, v2, ⟨rfl, rfl, trivial⟩, hfin v2 w4 hO4 hE4, by omega⟩
    · have hS : [((k : Int), (N : Int) - 1)] = rndS N k k := by unfold rndS; rw [← eW, if_pos rfl, if_neg hkw]; rfl
      rw [hS] at hO3
      repeat' (first|refine za ?_|refine zA ?_|refine zB ?_|refine zb ?_|refine zc ?_|refine ze ?_|refine zd ?_|refine zC ?_|refine zI ?_|refine zY ?_|refine zk ?_|refine zh ?_)
      exact ⟨k + 1, v1, ⟨rfl, rfl, trivial⟩, hfin v1 w3 hO3 hE3, by omega⟩
  · repeat' (first|refine za ?_|refine zA ?_|refine zB ?_|refine zb ?_|refine zc ?_|refine ze ?_|refine zd ?_|refine zC ?_|refine zG ?_|refine zX ?_|refine zY ?_|refine zk ?_|refine zl ?_)
    refine r_mul_in rfl rfl (by omega) ?_
    repeat' (first|refine za ?_|refine zA ?_|refine zJ ?_)
    refine r_mul_in rfl rfl (by omega) ?_
    repeat' (first|refine za ?_|refine zA ?_|refine zI ?_|refine zJ ?_)
    refine r_rem_v (c := (W : Int)) rfl rfl (by omega) (by omega) hcast ?_
    by_cases hkw : k < W
    · have hS : [((k : Int), (W : Int))] = rndS N i k := by unfold rndS; rw [← eW, if_neg hki, if_pos hkw]; rfl
      repeat' (first|refine za ?_|refine zA ?_|refine zB ?_|refine zb ?_|refine zc ?_|refine ze ?_|refine zd ?_|refine zC ?_|refine zX ?_)
      refine r_build (cells := #[.int .i64 (k : Int), .int .i64 (W : Int)]) (bt38 _ _) ?_
      repeat' (refine za ?_)
      refine r_append1_p el33 (by decide) hO rfl rfl (by omega) hEz.size fun v2 w4 _ hO4 hG4 hne hgb => ?_
      have hE4 : Ext wk w4 := Ch.trans' hEz (Ch.grown hG4 (S := fun k => wk.heap.size ≤ k) fun k e => (World.ownsRow.lt hO k e).1) fun k hk e => by omega
      rw [hS] at hO4
      repeat' (first|refine za ?_|refine zA ?_|refine zB ?_|refine zb ?_|refine ze ?_|refine zd ?_|refine zI ?_|refine zh ?_)
      exact ⟨k + 1, v2, ⟨rfl, rfl, trivial⟩, hfin v2 w4 hO4 hE4, by omega⟩
    · have hS0 : rndS N i k = [] := by unfold rndS; rw [← eW, if_neg hki, if_neg hkw]; rfl
      repeat' (first|refine za ?_|refine zA ?_|refine zB ?_|refine zb ?_|refine zc ?_|refine ze ?_|refine zd ?_|refine zC ?_|refine zI ?_|refine zY ?_|refine zk ?_|refine zh ?_)
      exact ⟨k + 1, u, ⟨rfl, rfl, trivial⟩, hfin u wz (by rw [hS0, List.append_nil]; exact hO) hEz, by omega⟩
end Go.Proofs.YtocgehoffdjijaaGreat

/- posts: Choose. -/
import Derived.Test.YtdpckinhoooigaaH
namespace Go.Proofs.Ytdpckinhoooigaa
open Gv PM MM
def nats (l : List Nat) : List Int := l.map fun k : Nat => (k : Int)
theorem nats_snoc (l : List Nat) (k : Nat) : nats (l ++ [k]) = nats l ++ [(k : Int)] := by simp [nats]
theorem nats_length (l : List Nat) : (nats l).length = l.length := by simp [nats]
/-- Rows in ascending order that have positive numbers in fewer columns than there are rows in it. -/
def IsBlock (T : List (List Int)) (B : List Nat) : Prop :=
  B ≠ [] ∧ B.Pairwise (· < ·) ∧ (∀ q, q ∈ B → q < T.length) ∧ ∀ cs : List Nat, cs.Nodup → (∀ c, c ∈ cs → c < T.length ∧ ∃ q, q ∈ B ∧ ent T q c ≠ 0) → cs.length < B.length
theorem made_iff {w0 w : World} {T : List (List Int)} {tv rv cv : Value} {bm : Nat} {rows cols : List Int} (h : Made w0 w T tv bm rv cv rows cols) :
    (∃ p, Choice T.length (ent T) p) ↔ ¬ ∃ r, r < T.length ∧ Rf cols r = -1 := by
  obtain ⟨_, _, _, _, _, h6, h7, _⟩ := h
  rw [h6.iff]
  constructor
  · rintro hall ⟨r, hr, e⟩; have := hall r hr; omega
  · intro hno r hr
    apply Int.not_lt.1
    intro hneg
    exact hno ⟨r, hr, h7 r hr hneg⟩
/-- What Choose returns. -/
def Chosen (w w' : World) (T : List (List Int)) (v : Value) : Prop :=
  (¬ IsTab T ∧ v = .tuple #[.slice none 0 0, .slice none 0 0, .int .i64 2]) ∨
  (IsTab T ∧ (¬ ∃ p, Choice T.length (ent T) p) ∧ ∃ bv B, v = .tuple #[.slice none 0 0, bv, .int .i64 0] ∧ OwnI w' w.heap.size 3 bv (nats B) ∧ IsBlock T B) ∨
  (IsTab T ∧ ∃ cv p, v = .tuple #[cv, .slice none 0 0, .int .i64 0] ∧ OwnI w' w.heap.size 3 cv (nats ((List.range T.length).map p)) ∧ First T.length (ent T) p)
/-- A beginning of the first choice. -/
structure Begun (T T' : List (List Int)) (pre : List Nat) : Prop where
  tab : IsTab T'
  len : T'.length = T.length
  iff : ∀ p, Choice T.length (ent T') p ↔ Choice T.length (ent T) p ∧ ∀ j, j < pre.length → p j = pre.getD j 0
  ex : ∃ p, Choice T.length (ent T') p
  min : ∀ p, Choice T.length (ent T) p → ∀ j, j < pre.length → (∀ i, i < j → p i = pre.getD i 0) → pre.getD j 0 ≤ p j
theorem getD_snoc_lt {l : List Nat} {c j : Nat} (h : j < l.length) : (l ++ [c]).getD j 0 = l.getD j 0 := by simp [List.getD, List.getElem?_append, h]
theorem getD_snoc_eq {l : List Nat} {c : Nat} : (l ++ [c]).getD l.length 0 = c := by simp [List.getD]
theorem Begun.next {T T' : List (List Int)} {pre : List Nat} {c : Nat} (h : Begun T T' pre) (hk : pre.length < T.length)
    (hex : ∃ p, Choice T.length (ent (withT T' pre.length c)) p) (hno : ∀ c', c' < c → ¬ ∃ p, Choice T.length (ent T') p ∧ p pre.length = c') : Begun T (withT T' pre.length c) (pre ++ [c]) := by
  have hw : ∀ p, Choice T.length (ent (withT T' pre.length c)) p ↔ Choice T.length (ent T') p ∧ p pre.length = c := fun p => by
    rw [choice_congr (B := withF (ent T') pre.length c) fun i k hi hk => withT_ent (by rw [h.len]; exact hi) (by rw [h.len]; exact hk)]
    exact with_choice hk
  refine ⟨withT_tab h.tab _ _, by rw [withT_length, h.len], fun p => ?_, hex, fun p hp j hj hpre => ?_⟩
  · rw [hw, h.iff]
    simp only [List.length_append, List.length_singleton]
    constructor
    · rintro ⟨⟨h1, h2⟩, h3⟩
      refine ⟨h1, fun j hj => ?_⟩
      by_cases e : j = pre.length
      · subst e; rw [getD_snoc_eq]; exact h3
      · rw [getD_snoc_lt (by omega)]; exact h2 j (by omega)
    · rintro ⟨h1, h2⟩
      refine ⟨⟨h1, fun j hj => ?_⟩, ?_⟩
      · have := h2 j (by omega); rwa [getD_snoc_lt hj] at this
      · have := h2 pre.length (by omega); rwa [getD_snoc_eq] at this
  · simp only [List.length_append, List.length_singleton] at hj
    by_cases e : j = pre.length
    · subst e
      rw [getD_snoc_eq]
      apply Nat.not_lt.1
      intro hlt
      refine hno (p pre.length) hlt ⟨p, (h.iff p).2 ⟨hp, fun j hj => ?_⟩, rfl⟩
      have := hpre j hj
      rwa [getD_snoc_lt hj] at this
    · rw [getD_snoc_lt (by omega)]
      exact h.min p hp j (by omega) fun i hi => by have := hpre i hi; rwa [getD_snoc_lt (by omega)] at this
theorem Begun.first {T T' : List (List Int)} {pre : List Nat} (h : Begun T T' pre) (hl : pre.length = T.length) : First T.length (ent T) fun j => pre.getD j 0 := by
  obtain ⟨p, hp⟩ := h.ex
  obtain ⟨h1, h2⟩ := (h.iff p).1 hp
  refine ⟨⟨fun r hr => ?_, fun r r' hlt hr' => ?_⟩, fun p' hp' k hk hpre => h.min p' hp' k (by omega) hpre⟩
  · have := h2 r (by omega)
    show pre.getD r 0 < T.length ∧ ent T r (pre.getD r 0) ≠ 0
    rw [← this]; exact h1.1 r hr
  · show pre.getD r 0 ≠ pre.getD r' 0
    rw [← h2 r (by omega), ← h2 r' (by omega)]; exact h1.2 r r' hlt hr'
theorem map_getD_range (l : List Nat) : (List.range l.length).map (fun j => l.getD j 0) = l := by
  apply List.ext_getElem
  · simp
  · intro i h1 h2; simp [List.getD, h2]
set_option maxHeartbeats 1000000 in
theorem choose_any (T : List (List Int)) (w : World) (v : Value) (h : Tab w v T) (hm : T.length < 9223372036854775807) (hm2 : ∀ l ∈ T, l.length < 9223372036854775807) :
    Calls Try.prog 31 #[v] w (Ret fun v' w' => Chosen w w' T v' ∧ Ext w w') := by
  obtain ⟨q, c0, rfl, hqc⟩ := h.slice
  refine calls_of_wc (args := [.slice q T.length c0]) Try.func31 rfl ?_ ?_; kernel_rfl
  repeat' (first | refine wl_plain ?_ | refine r_move_v (v := .int _ _) rfl ?_ | refine r_move_v (v := .slice _ _ _) rfl ?_ | refine r_move_v (v := .bool _) rfl ?_ | refine r_move_v (v := .pointer _) rfl ?_ | refine r_move_v (v := .map _) rfl ?_ | refine r_move ?_ | refine r_assign_v (v := .int _ _) rfl ?_ | refine r_assign_v (v := .slice _ _ _) rfl ?_ | refine r_assign_v (v := .bool _) rfl ?_ | refine r_assign_v (v := .pointer _) rfl ?_ | refine r_assign_v (v := .map _) rfl ?_ | refine r_assign ?_ | refine wl_nil ?_ | refine wc_seq ?_ | refine thenQ_normal ?_ | refine wc_region ?_ | refine r_lss rfl rfl ?_ | refine r_eql rfl rfl ?_ | refine r_neq rfl rfl ?_ | refine r_leq rfl rfl ?_ | refine r_gtr rfl rfl ?_ | refine r_geq rfl rfl ?_ | refine r_add_in rfl rfl (by omega) ?_ | refine r_sub_in rfl rfl (by omega) ?_ | refine r_len rfl rfl ?_ | (refine r_idx (sz := 1) rfl rfl rfl (by first | rfl | assumption) (by omega) (by omega) ?_) | (refine r_idx (sz := 2) rfl rfl rfl (by first | rfl | assumption) (by omega) (by omega) ?_) | (refine r_ld rfl rfl (by assumption) ?_) | refine r_not_d rfl ?_ | refine r_not rfl ?_ | refine r_nilCheck rfl ?_ | refine r_pick_t rfl ?_ | refine r_pick_f rfl ?_ | refine r_ext rfl rfl ?_ | refine wl_run rfl rfl ?_ | refine wl_pass rfl rfl rfl ?_ | refine wl_dead rfl rfl ?_ | refine wl_if_t rfl rfl (fun hcd => ?_) (fun hcd => ?_) | refine wl_if_f rfl rfl (fun hcd => ?_) (fun hcd => ?_) | refine wc_cond_t rfl ?_ | refine wc_cond_f rfl ?_ | refine wc_cond_d rfl (fun hcd => ?_) (fun hcd => ?_) | refine wc_skip ?_ | refine wc_block ?_ | refine wc_exit ?_ | refine wc_ret ?_ | refine thenQ_ret ?_ | refine thenQ_exit ?_ | refine inBl_here ?_ | refine inBl_out rfl ?_ | refine inBl_normal ?_ | refine inBl_ret ?_)
  (refine r_call (R := ?_) rfl ?_ ?_; rotate_left 1; focus exact isTable_any _ T _ h hm hm2)
  rintro v w1 ⟨rfl, hE1⟩
  repeat' (first | refine wl_plain ?_ | refine r_move_v (v := .int _ _) rfl ?_ | refine r_move_v (v := .slice _ _ _) rfl ?_ | refine r_move_v (v := .bool _) rfl ?_ | refine r_move_v (v := .pointer _) rfl ?_ | refine r_move_v (v := .map _) rfl ?_ | refine r_move ?_ | refine r_assign_v (v := .int _ _) rfl ?_ | refine r_assign_v (v := .slice _ _ _) rfl ?_ | refine r_assign_v (v := .bool _) rfl ?_ | refine r_assign_v (v := .pointer _) rfl ?_ | refine r_assign_v (v := .map _) rfl ?_ | refine r_assign ?_ | refine wl_nil ?_ | refine wc_seq ?_ | refine thenQ_normal ?_ | refine wc_region ?_ | refine r_lss rfl rfl ?_ | refine r_eql rfl rfl ?_ | refine r_neq rfl rfl ?_ | refine r_leq rfl rfl ?_ | refine r_gtr rfl rfl ?_ | refine r_geq rfl rfl ?_ | refine r_add_in rfl rfl (by omega) ?_ | refine r_sub_in rfl rfl (by omega) ?_ | refine r_len rfl rfl ?_ | (refine r_idx (sz := 1) rfl rfl rfl (by first | rfl | assumption) (by omega) (by omega) ?_) | (refine r_idx (sz := 2) rfl rfl rfl (by first | rfl | assumption) (by omega) (by omega) ?_) | (refine r_ld rfl rfl (by assumption) ?_) | refine r_not_d rfl ?_ | refine r_not rfl ?_ | refine r_nilCheck rfl ?_ | refine r_pick_t rfl ?_ | refine r_pick_f rfl ?_ | refine r_ext rfl rfl ?_ | refine wl_run rfl rfl ?_ | refine wl_pass rfl rfl rfl ?_ | refine wl_dead rfl rfl ?_ | refine wl_if_t rfl rfl (fun hcd => ?_) (fun hcd => ?_) | refine wl_if_f rfl rfl (fun hcd => ?_) (fun hcd => ?_) | refine wc_cond_t rfl ?_ | refine wc_cond_f rfl ?_ | refine wc_cond_d rfl (fun hcd => ?_) (fun hcd => ?_) | refine wc_skip ?_ | refine wc_block ?_ | refine wc_exit ?_ | refine wc_ret ?_ | refine thenQ_ret ?_ | refine thenQ_exit ?_ | refine inBl_here ?_ | refine inBl_out rfl ?_ | refine inBl_normal ?_ | refine inBl_ret ?_)
  · refine post3 (v1 := .slice none 0 0) (v2 := .slice none 0 0) (v3 := .int .i64 2) rfl rfl rfl rfl ?_
    exact ⟨.inl ⟨hcd, rfl⟩, hE1⟩
  have hT : IsTab T := Decidable.not_not.1 hcd
  have hn := hT.1
  (refine r_call (R := ?_) rfl ?_ ?_; rotate_left 1; focus exact newMatching_any T hT _ _ (h.ext hE1))
  rintro v w2 ⟨bm, rv, cv, rows, cols, rfl, hMd, hE2, hbm⟩
  obtain ⟨m1, m2, m3, m4, m5, m6, m7, m8, m9⟩ := id hMd
  have g2 := m1.rd (k := 2) (v := cv) rfl
  repeat' (first | refine wl_plain ?_ | refine r_move_v (v := .int _ _) rfl ?_ | refine r_move_v (v := .slice _ _ _) rfl ?_ | refine r_move_v (v := .bool _) rfl ?_ | refine r_move_v (v := .pointer _) rfl ?_ | refine r_move_v (v := .map _) rfl ?_ | refine r_move ?_ | refine r_assign_v (v := .int _ _) rfl ?_ | refine r_assign_v (v := .slice _ _ _) rfl ?_ | refine r_assign_v (v := .bool _) rfl ?_ | refine r_assign_v (v := .pointer _) rfl ?_ | refine r_assign_v (v := .map _) rfl ?_ | refine r_assign ?_ | refine wl_nil ?_ | refine wc_seq ?_ | refine thenQ_normal ?_ | refine wc_region ?_ | refine r_lss rfl rfl ?_ | refine r_eql rfl rfl ?_ | refine r_neq rfl rfl ?_ | refine r_leq rfl rfl ?_ | refine r_gtr rfl rfl ?_ | refine r_geq rfl rfl ?_ | refine r_add_in rfl rfl (by omega) ?_ | refine r_sub_in rfl rfl (by omega) ?_ | refine r_len rfl rfl ?_ | (refine r_idx (sz := 1) rfl rfl rfl (by first | rfl | assumption) (by omega) (by omega) ?_) | (refine r_idx (sz := 2) rfl rfl rfl (by first | rfl | assumption) (by omega) (by omega) ?_) | (refine r_ld rfl rfl (by assumption) ?_) | refine r_not_d rfl ?_ | refine r_not rfl ?_ | refine r_nilCheck rfl ?_ | refine r_pick_t rfl ?_ | refine r_pick_f rfl ?_ | refine r_ext rfl rfl ?_ | refine wl_run rfl rfl ?_ | refine wl_pass rfl rfl rfl ?_ | refine wl_dead rfl rfl ?_ | refine wl_if_t rfl rfl (fun hcd => ?_) (fun hcd => ?_) | refine wl_if_f rfl rfl (fun hcd => ?_) (fun hcd => ?_) | refine wc_cond_t rfl ?_ | refine wc_cond_f rfl ?_ | refine wc_cond_d rfl (fun hcd => ?_) (fun hcd => ?_) | refine wc_skip ?_ | refine wc_block ?_ | refine wc_exit ?_ | refine wc_ret ?_ | refine thenQ_ret ?_ | refine thenQ_exit ?_ | refine inBl_here ?_ | refine inBl_out rfl ?_ | refine inBl_normal ?_ | refine inBl_ret ?_)
  refine r_fa (off := 2) rfl rfl ?_
  repeat' (first | refine wl_plain ?_ | refine r_move_v (v := .int _ _) rfl ?_ | refine r_move_v (v := .slice _ _ _) rfl ?_ | refine r_move_v (v := .bool _) rfl ?_ | refine r_move_v (v := .pointer _) rfl ?_ | refine r_move_v (v := .map _) rfl ?_ | refine r_move ?_ | refine r_assign_v (v := .int _ _) rfl ?_ | refine r_assign_v (v := .slice _ _ _) rfl ?_ | refine r_assign_v (v := .bool _) rfl ?_ | refine r_assign_v (v := .pointer _) rfl ?_ | refine r_assign_v (v := .map _) rfl ?_ | refine r_assign ?_ | refine wl_nil ?_ | refine wc_seq ?_ | refine thenQ_normal ?_ | refine wc_region ?_ | refine r_lss rfl rfl ?_ | refine r_eql rfl rfl ?_ | refine r_neq rfl rfl ?_ | refine r_leq rfl rfl ?_ | refine r_gtr rfl rfl ?_ | refine r_geq rfl rfl ?_ | refine r_add_in rfl rfl (by omega) ?_ | refine r_sub_in rfl rfl (by omega) ?_ | refine r_len rfl rfl ?_ | (refine r_idx (sz := 1) rfl rfl rfl (by first | rfl | assumption) (by omega) (by omega) ?_) | (refine r_idx (sz := 2) rfl rfl rfl (by first | rfl | assumption) (by omega) (by omega) ?_) | (refine r_ld rfl rfl (by assumption) ?_) | refine r_not_d rfl ?_ | refine r_not rfl ?_ | refine r_nilCheck rfl ?_ | refine r_pick_t rfl ?_ | refine r_pick_f rfl ?_ | refine r_ext rfl rfl ?_ | refine wl_run rfl rfl ?_ | refine wl_pass rfl rfl rfl ?_ | refine wl_dead rfl rfl ?_ | refine wl_if_t rfl rfl (fun hcd => ?_) (fun hcd => ?_) | refine wl_if_f rfl rfl (fun hcd => ?_) (fun hcd => ?_) | refine wc_cond_t rfl ?_ | refine wc_cond_f rfl ?_ | refine wc_cond_d rfl (fun hcd => ?_) (fun hcd => ?_) | refine wc_skip ?_ | refine wc_block ?_ | refine wc_exit ?_ | refine wc_ret ?_ | refine thenQ_ret ?_ | refine thenQ_exit ?_ | refine inBl_here ?_ | refine inBl_out rfl ?_ | refine inBl_normal ?_ | refine inBl_ret ?_)
  (refine r_call (R := ?_) rfl ?_ ?_; rotate_left 1; focus exact index_any _ cols (-1) _ m3 (by omega))
  rintro v w3 ⟨⟨r, rfl, hr⟩, rfl⟩
  have hE3 : Ext w w3 := hE1.trans hE2
  repeat' (first | refine wl_plain ?_ | refine r_move_v (v := .int _ _) rfl ?_ | refine r_move_v (v := .slice _ _ _) rfl ?_ | refine r_move_v (v := .bool _) rfl ?_ | refine r_move_v (v := .pointer _) rfl ?_ | refine r_move_v (v := .map _) rfl ?_ | refine r_move ?_ | refine r_assign_v (v := .int _ _) rfl ?_ | refine r_assign_v (v := .slice _ _ _) rfl ?_ | refine r_assign_v (v := .bool _) rfl ?_ | refine r_assign_v (v := .pointer _) rfl ?_ | refine r_assign_v (v := .map _) rfl ?_ | refine r_assign ?_ | refine wl_nil ?_ | refine wc_seq ?_ | refine thenQ_normal ?_ | refine wc_region ?_ | refine r_lss rfl rfl ?_ | refine r_eql rfl rfl ?_ | refine r_neq rfl rfl ?_ | refine r_leq rfl rfl ?_ | refine r_gtr rfl rfl ?_ | refine r_geq rfl rfl ?_ | refine r_add_in rfl rfl (by omega) ?_ | refine r_sub_in rfl rfl (by omega) ?_ | refine r_len rfl rfl ?_ | (refine r_idx (sz := 1) rfl rfl rfl (by first | rfl | assumption) (by omega) (by omega) ?_) | (refine r_idx (sz := 2) rfl rfl rfl (by first | rfl | assumption) (by omega) (by omega) ?_) | (refine r_ld rfl rfl (by assumption) ?_) | refine r_not_d rfl ?_ | refine r_not rfl ?_ | refine r_nilCheck rfl ?_ | refine r_pick_t rfl ?_ | refine r_pick_f rfl ?_ | refine r_ext rfl rfl ?_ | refine wl_run rfl rfl ?_ | refine wl_pass rfl rfl rfl ?_ | refine wl_dead rfl rfl ?_ | refine wl_if_t rfl rfl (fun hcd => ?_) (fun hcd => ?_) | refine wl_if_f rfl rfl (fun hcd => ?_) (fun hcd => ?_) | refine wc_cond_t rfl ?_ | refine wc_cond_f rfl ?_ | refine wc_cond_d rfl (fun hcd => ?_) (fun hcd => ?_) | refine wc_skip ?_ | refine wc_block ?_ | refine wc_exit ?_ | refine wc_ret ?_ | refine thenQ_ret ?_ | refine thenQ_exit ?_ | refine inBl_here ?_ | refine inBl_out rfl ?_ | refine inBl_normal ?_ | refine inBl_ret ?_)
  · -- a row has no column: a block
    obtain ⟨ri, hri, hrl, hrv⟩ : ∃ ri : Nat, ri < T.length ∧ r = ri ∧ Rf cols ri = -1 := by
      rcases hr with ⟨rfl, _⟩ | ⟨i, hi, rfl, e, _⟩
      · omega
      · exact ⟨i, by omega, rfl, e⟩
    subst hrl
    obtain ⟨gr, gc, hM⟩ := m9 (by omega)
    (refine r_call (R := ?_) rfl ?_ ?_; rotate_left 1; focus exact enter_any T hT _ _ (.slice q T.length c0) rv cv (h.ext hE1) bm gr gc ri rows cols hM m6.1 hri)
    rintro v w4 ⟨br, ok, rfl, rows', cols', rc', F', hM4, hF4, hR4, hC4, hbr, hrc, hf4, ht4⟩
    have hok : ok = false := by
      cases ok with
      | false => rfl
      | true =>
        obtain ⟨S, hS, hSr⟩ := m6.2 ri hri (by omega)
        exact absurd hSr ((ht4 rfl).f S hS).1
    subst hok
    obtain ⟨rfl, rfl, hcl⟩ := hf4 rfl
    have hg := hM.grlo
    have hE4 : Ext w w4 := Ch.trans' hE3 hC4 fun k hk e => by have := hE1.size; omega
    repeat' (first | refine wl_plain ?_ | refine r_move_v (v := .int _ _) rfl ?_ | refine r_move_v (v := .slice _ _ _) rfl ?_ | refine r_move_v (v := .bool _) rfl ?_ | refine r_move_v (v := .pointer _) rfl ?_ | refine r_move_v (v := .map _) rfl ?_ | refine r_move ?_ | refine r_assign_v (v := .int _ _) rfl ?_ | refine r_assign_v (v := .slice _ _ _) rfl ?_ | refine r_assign_v (v := .bool _) rfl ?_ | refine r_assign_v (v := .pointer _) rfl ?_ | refine r_assign_v (v := .map _) rfl ?_ | refine r_assign ?_ | refine wl_nil ?_ | refine wc_seq ?_ | refine thenQ_normal ?_ | refine wc_region ?_ | refine r_lss rfl rfl ?_ | refine r_eql rfl rfl ?_ | refine r_neq rfl rfl ?_ | refine r_leq rfl rfl ?_ | refine r_gtr rfl rfl ?_ | refine r_geq rfl rfl ?_ | refine r_add_in rfl rfl (by omega) ?_ | refine r_sub_in rfl rfl (by omega) ?_ | refine r_len rfl rfl ?_ | (refine r_idx (sz := 1) rfl rfl rfl (by first | rfl | assumption) (by omega) (by omega) ?_) | (refine r_idx (sz := 2) rfl rfl rfl (by first | rfl | assumption) (by omega) (by omega) ?_) | (refine r_ld rfl rfl (by assumption) ?_) | refine r_not_d rfl ?_ | refine r_not rfl ?_ | refine r_nilCheck rfl ?_ | refine r_pick_t rfl ?_ | refine r_pick_f rfl ?_ | refine r_ext rfl rfl ?_ | refine wl_run rfl rfl ?_ | refine wl_pass rfl rfl rfl ?_ | refine wl_dead rfl rfl ?_ | refine wl_if_t rfl rfl (fun hcd => ?_) (fun hcd => ?_) | refine wl_if_f rfl rfl (fun hcd => ?_) (fun hcd => ?_) | refine wc_cond_t rfl ?_ | refine wc_cond_f rfl ?_ | refine wc_cond_d rfl (fun hcd => ?_) (fun hcd => ?_) | refine wc_skip ?_ | refine wc_block ?_ | refine wc_exit ?_ | refine wc_ret ?_ | refine thenQ_ret ?_ | refine thenQ_exit ?_ | refine inBl_here ?_ | refine inBl_out rfl ?_ | refine inBl_normal ?_ | refine inBl_ret ?_)
    refine wc_loop2 [0, 8, 31, 32] (fun (i : Nat) out => [(33, .int .i64 i), (7, out)]) (fun i out wk => i ≤ T.length ∧ Ch (fun k => w4.heap.size ≤ k) w4 wk ∧ ∃ B : List Nat, OwnI wk w4.heap.size 3 out (nats B) ∧ B.Pairwise (· < ·) ∧ (∀ q, q ∈ B ↔ q < i ∧ rc' q) ∧ B.length ≤ i)
      (fun i _ => T.length - i) 0 (.slice none 0 0) rfl ⟨rfl, rfl, trivial⟩ ⟨by omega, Ch.refl _ _, [], World.ownsRow_nil _ _ _ _, List.Pairwise.nil, by simp, by simp⟩ ?_
    rintro i out wk x ⟨hi, hCk, B, hB, hBs, hBm, hBl⟩
    have hFk := hF4.keep hCk (by have := hF4.lt; omega)
    repeat' (first | refine wl_plain ?_ | refine r_move_v (v := .int _ _) rfl ?_ | refine r_move_v (v := .slice _ _ _) rfl ?_ | refine r_move_v (v := .bool _) rfl ?_ | refine r_move_v (v := .pointer _) rfl ?_ | refine r_move_v (v := .map _) rfl ?_ | refine r_move ?_ | refine r_assign_v (v := .int _ _) rfl ?_ | refine r_assign_v (v := .slice _ _ _) rfl ?_ | refine r_assign_v (v := .bool _) rfl ?_ | refine r_assign_v (v := .pointer _) rfl ?_ | refine r_assign_v (v := .map _) rfl ?_ | refine r_assign ?_ | refine wl_nil ?_ | refine wc_seq ?_ | refine thenQ_normal ?_ | refine wc_region ?_ | refine r_lss rfl rfl ?_ | refine r_eql rfl rfl ?_ | refine r_neq rfl rfl ?_ | refine r_leq rfl rfl ?_ | refine r_gtr rfl rfl ?_ | refine r_geq rfl rfl ?_ | refine r_add_in rfl rfl (by omega) ?_ | refine r_sub_in rfl rfl (by omega) ?_ | refine r_len rfl rfl ?_ | (refine r_idx (sz := 1) rfl rfl rfl (by first | rfl | assumption) (by omega) (by omega) ?_) | (refine r_idx (sz := 2) rfl rfl rfl (by first | rfl | assumption) (by omega) (by omega) ?_) | (refine r_ld rfl rfl (by assumption) ?_) | refine r_not_d rfl ?_ | refine r_not rfl ?_ | refine r_nilCheck rfl ?_ | refine r_pick_t rfl ?_ | refine r_pick_f rfl ?_ | refine r_ext rfl rfl ?_ | refine wl_run rfl rfl ?_ | refine wl_pass rfl rfl rfl ?_ | refine wl_dead rfl rfl ?_ | refine wl_if_t rfl rfl (fun hcd => ?_) (fun hcd => ?_) | refine wl_if_f rfl rfl (fun hcd => ?_) (fun hcd => ?_) | refine wc_cond_t rfl ?_ | refine wc_cond_f rfl ?_ | refine wc_cond_d rfl (fun hcd => ?_) (fun hcd => ?_) | refine wc_skip ?_ | refine wc_block ?_ | refine wc_exit ?_ | refine wc_ret ?_ | refine thenQ_ret ?_ | refine thenQ_exit ?_ | refine inBl_here ?_ | refine inBl_out rfl ?_ | refine inBl_normal ?_ | refine inBl_ret ?_)
    · have hiT : i < T.length := by omega
      by_cases hrci : rc' i
      · refine r_lookup (k := (i : Int)) (v := .bool true) mp81 ki3 hFk rfl rfl (congrArg (fun z => z.getD (Value.bool false)) ((hR4.1 i).2 hrci)) ?_
        repeat' (first | refine wl_plain ?_ | refine r_move_v (v := .int _ _) rfl ?_ | refine r_move_v (v := .slice _ _ _) rfl ?_ | refine r_move_v (v := .bool _) rfl ?_ | refine r_move_v (v := .pointer _) rfl ?_ | refine r_move_v (v := .map _) rfl ?_ | refine r_move ?_ | refine r_assign_v (v := .int _ _) rfl ?_ | refine r_assign_v (v := .slice _ _ _) rfl ?_ | refine r_assign_v (v := .bool _) rfl ?_ | refine r_assign_v (v := .pointer _) rfl ?_ | refine r_assign_v (v := .map _) rfl ?_ | refine r_assign ?_ | refine wl_nil ?_ | refine wc_seq ?_ | refine thenQ_normal ?_ | refine wc_region ?_ | refine r_lss rfl rfl ?_ | refine r_eql rfl rfl ?_ | refine r_neq rfl rfl ?_ | refine r_leq rfl rfl ?_ | refine r_gtr rfl rfl ?_ | refine r_geq rfl rfl ?_ | refine r_add_in rfl rfl (by omega) ?_ | refine r_sub_in rfl rfl (by omega) ?_ | refine r_len rfl rfl ?_ | (refine r_idx (sz := 1) rfl rfl rfl (by first | rfl | assumption) (by omega) (by omega) ?_) | (refine r_idx (sz := 2) rfl rfl rfl (by first | rfl | assumption) (by omega) (by omega) ?_) | (refine r_ld rfl rfl (by assumption) ?_) | refine r_not_d rfl ?_ | refine r_not rfl ?_ | refine r_nilCheck rfl ?_ | refine r_pick_t rfl ?_ | refine r_pick_f rfl ?_ | refine r_ext rfl rfl ?_ | refine wl_run rfl rfl ?_ | refine wl_pass rfl rfl rfl ?_ | refine wl_dead rfl rfl ?_ | refine wl_if_t rfl rfl (fun hcd => ?_) (fun hcd => ?_) | refine wl_if_f rfl rfl (fun hcd => ?_) (fun hcd => ?_) | refine wc_cond_t rfl ?_ | refine wc_cond_f rfl ?_ | refine wc_cond_d rfl (fun hcd => ?_) (fun hcd => ?_) | refine wc_skip ?_ | refine wc_block ?_ | refine wc_exit ?_ | refine wc_ret ?_ | refine thenQ_ret ?_ | refine thenQ_exit ?_ | refine inBl_here ?_ | refine inBl_out rfl ?_ | refine inBl_normal ?_ | refine inBl_ret ?_)
        refine r_append1_i (base := w4.heap.size) el27 hB rfl rfl (by rw [nats_length]; omega) hCk.size fun v5 w5 q5 h5 hg5 _ hb5 => ?_
        repeat' (first | refine wl_plain ?_ | refine r_move_v (v := .int _ _) rfl ?_ | refine r_move_v (v := .slice _ _ _) rfl ?_ | refine r_move_v (v := .bool _) rfl ?_ | refine r_move_v (v := .pointer _) rfl ?_ | refine r_move_v (v := .map _) rfl ?_ | refine r_move ?_ | refine r_assign_v (v := .int _ _) rfl ?_ | refine r_assign_v (v := .slice _ _ _) rfl ?_ | refine r_assign_v (v := .bool _) rfl ?_ | refine r_assign_v (v := .pointer _) rfl ?_ | refine r_assign_v (v := .map _) rfl ?_ | refine r_assign ?_ | refine wl_nil ?_ | refine wc_seq ?_ | refine thenQ_normal ?_ | refine wc_region ?_ | refine r_lss rfl rfl ?_ | refine r_eql rfl rfl ?_ | refine r_neq rfl rfl ?_ | refine r_leq rfl rfl ?_ | refine r_gtr rfl rfl ?_ | refine r_geq rfl rfl ?_ | refine r_add_in rfl rfl (by omega) ?_ | refine r_sub_in rfl rfl (by omega) ?_ | refine r_len rfl rfl ?_ | (refine r_idx (sz := 1) rfl rfl rfl (by first | rfl | assumption) (by omega) (by omega) ?_) | (refine r_idx (sz := 2) rfl rfl rfl (by first | rfl | assumption) (by omega) (by omega) ?_) | (refine r_ld rfl rfl (by assumption) ?_) | refine r_not_d rfl ?_ | refine r_not rfl ?_ | refine r_nilCheck rfl ?_ | refine r_pick_t rfl ?_ | refine r_pick_f rfl ?_ | refine r_ext rfl rfl ?_ | refine wl_run rfl rfl ?_ | refine wl_pass rfl rfl rfl ?_ | refine wl_dead rfl rfl ?_ | refine wl_if_t rfl rfl (fun hcd => ?_) (fun hcd => ?_) | refine wl_if_f rfl rfl (fun hcd => ?_) (fun hcd => ?_) | refine wc_cond_t rfl ?_ | refine wc_cond_f rfl ?_ | refine wc_cond_d rfl (fun hcd => ?_) (fun hcd => ?_) | refine wc_skip ?_ | refine wc_block ?_ | refine wc_exit ?_ | refine wc_ret ?_ | refine thenQ_ret ?_ | refine thenQ_exit ?_ | refine inBl_here ?_ | refine inBl_out rfl ?_ | refine inBl_normal ?_ | refine inBl_ret ?_)
        refine ⟨i + 1, v5, ⟨rfl, rfl, trivial⟩, ⟨by omega, hCk.trans (Ch.grown hg5 fun g hg => (World.ownsRow.lt hB g hg).1), B ++ [i], nats_snoc B i ▸ h5, ?_, fun q => ?_, by simp; omega⟩, by omega⟩
        · rw [List.pairwise_append]
          exact ⟨hBs, by simp, fun a ha b hb => by simp at hb; subst hb; exact ((hBm a).1 ha).1⟩
        · simp only [List.mem_append, List.mem_singleton, hBm]
          constructor
          · rintro (⟨a, b⟩ | rfl)
            · exact ⟨by omega, b⟩
            · exact ⟨by omega, hrci⟩
          · rintro ⟨a, b⟩
            by_cases e : q = i
            · exact .inr e
            · exact .inl ⟨by omega, b⟩
      · refine r_lookup (k := (i : Int)) (v := .bool false) mp81 ki3 hFk rfl rfl (congrArg (fun z => z.getD (Value.bool false)) (hR4.none hrci)) ?_
        repeat' (first | refine wl_plain ?_ | refine r_move_v (v := .int _ _) rfl ?_ | refine r_move_v (v := .slice _ _ _) rfl ?_ | refine r_move_v (v := .bool _) rfl ?_ | refine r_move_v (v := .pointer _) rfl ?_ | refine r_move_v (v := .map _) rfl ?_ | refine r_move ?_ | refine r_assign_v (v := .int _ _) rfl ?_ | refine r_assign_v (v := .slice _ _ _) rfl ?_ | refine r_assign_v (v := .bool _) rfl ?_ | refine r_assign_v (v := .pointer _) rfl ?_ | refine r_assign_v (v := .map _) rfl ?_ | refine r_assign ?_ | refine wl_nil ?_ | refine wc_seq ?_ | refine thenQ_normal ?_ | refine wc_region ?_ | refine r_lss rfl rfl ?_ | refine r_eql rfl rfl ?_ | refine r_neq rfl rfl ?_ | refine r_leq rfl rfl ?_ | refine r_gtr rfl rfl ?_ | refine r_geq rfl rfl ?_ | refine r_add_in rfl rfl (by omega) ?_ | refine r_sub_in rfl rfl (by omega) ?_ | refine r_len rfl rfl ?_ | (refine r_idx (sz := 1) rfl rfl rfl (by first | rfl | assumption) (by omega) (by omega) ?_) | (refine r_idx (sz := 2) rfl rfl rfl (by first | rfl | assumption) (by omega) (by omega) ?_) | (refine r_ld rfl rfl (by assumption) ?_) | refine r_not_d rfl ?_ | refine r_not rfl ?_ | refine r_nilCheck rfl ?_ | refine r_pick_t rfl ?_ | refine r_pick_f rfl ?_ | refine r_ext rfl rfl ?_ | refine wl_run rfl rfl ?_ | refine wl_pass rfl rfl rfl ?_ | refine wl_dead rfl rfl ?_ | refine wl_if_t rfl rfl (fun hcd => ?_) (fun hcd => ?_) | refine wl_if_f rfl rfl (fun hcd => ?_) (fun hcd => ?_) | refine wc_cond_t rfl ?_ | refine wc_cond_f rfl ?_ | refine wc_cond_d rfl (fun hcd => ?_) (fun hcd => ?_) | refine wc_skip ?_ | refine wc_block ?_ | refine wc_exit ?_ | refine wc_ret ?_ | refine thenQ_ret ?_ | refine thenQ_exit ?_ | refine inBl_here ?_ | refine inBl_out rfl ?_ | refine inBl_normal ?_ | refine inBl_ret ?_)
        refine ⟨i + 1, out, ⟨rfl, rfl, trivial⟩, ⟨by omega, hCk, B, hB, hBs, fun q => ?_, by omega⟩, by omega⟩
        rw [hBm]
        constructor
        · rintro ⟨a, b⟩; exact ⟨by omega, b⟩
        · rintro ⟨a, b⟩
          refine ⟨?_, b⟩
          by_cases e : q = i
          · subst e; exact absurd b hrci
          · omega
    · have hin : i = T.length := by omega
      subst hin
      refine post3 (v1 := .slice none 0 0) (v2 := out) (v3 := .int .i64 0) rfl rfl rfl rfl ?_
      have hBr : ri ∈ B := (hBm ri).2 ⟨hri, hrc⟩
      refine ⟨.inr (.inl ⟨hT, fun ⟨p, hp⟩ => (made_iff hMd).1 ⟨p, hp⟩ ⟨ri, hri, hrv⟩, out, B, rfl, ownsRow_mono hB hE4.size, ⟨(fun e => by rw [e] at hBr; cases hBr), hBs, fun q hq => ((hBm q).1 hq).1, fun cs hcn hcs => ?_⟩⟩), Ch.ext_new hE4 hCk hE4.size⟩
      exact closed_fewer m6.1 (S := rc') (fun q hq hrq c hc hA => (hcl q hrq).2 c hc hA) hri hrc (by omega) B hBm (hBs.imp fun h => Nat.ne_of_lt h) cs hcn hcs
  · -- there is a choice
    have hex : ∃ p, Choice T.length (ent T) p := (made_iff hMd).2 fun ⟨ri, hri, e⟩ => by
      rcases hr with ⟨rfl, hall⟩ | ⟨i, hi, rfl, e', _⟩
      · exact hall ri (by omega) e
      · omega
    refine wc_loop4 [46, 47] (fun (k : Nat) (lv out : Value) (_ : List (List Int) × List Nat) => [(48, .int .i64 k), (10, lv), (11, out)])
      (fun k lv out s wk => k ≤ T.length ∧ s.2.length = k ∧ Begun T s.1 s.2 ∧ Tab wk lv s.1 ∧ OwnI wk w3.heap.size 3 out (nats s.2) ∧ Ext w wk ∧ w3.heap.size ≤ wk.heap.size) (fun k _ _ _ => T.length - k) 0 (.slice q T.length c0) (.slice none 0 0) (T, []) rfl ⟨rfl, rfl, rfl, trivial⟩
      ⟨by omega, rfl, ⟨hT, rfl, fun p => by simp, hex, fun p hp j hj => by simp at hj⟩, h.ext hE3, World.ownsRow_nil _ _ _ _, hE3, Nat.le_refl _⟩ ?_
    rintro k lv out ⟨T', pre⟩ wk x ⟨hk, hpl, hBg, hTab, hO, hEk, hsz⟩
    dsimp only at hpl hBg hTab hO
    obtain ⟨ql, cl, rfl, hql⟩ := hTab.slice
    have hlen := hBg.len
    repeat' (first | refine wl_plain ?_ | refine r_move_v (v := .int _ _) rfl ?_ | refine r_move_v (v := .slice _ _ _) rfl ?_ | refine r_move_v (v := .bool _) rfl ?_ | refine r_move_v (v := .pointer _) rfl ?_ | refine r_move_v (v := .map _) rfl ?_ | refine r_move ?_ | refine r_assign_v (v := .int _ _) rfl ?_ | refine r_assign_v (v := .slice _ _ _) rfl ?_ | refine r_assign_v (v := .bool _) rfl ?_ | refine r_assign_v (v := .pointer _) rfl ?_ | refine r_assign_v (v := .map _) rfl ?_ | refine r_assign ?_ | refine wl_nil ?_ | refine wc_seq ?_ | refine thenQ_normal ?_ | refine wc_region ?_ | refine r_lss rfl rfl ?_ | refine r_eql rfl rfl ?_ | refine r_neq rfl rfl ?_ | refine r_leq rfl rfl ?_ | refine r_gtr rfl rfl ?_ | refine r_geq rfl rfl ?_ | refine r_add_in rfl rfl (by omega) ?_ | refine r_sub_in rfl rfl (by omega) ?_ | refine r_len rfl rfl ?_ | (refine r_idx (sz := 1) rfl rfl rfl (by first | rfl | assumption) (by omega) (by omega) ?_) | (refine r_idx (sz := 2) rfl rfl rfl (by first | rfl | assumption) (by omega) (by omega) ?_) | (refine r_ld rfl rfl (by assumption) ?_) | refine r_not_d rfl ?_ | refine r_not rfl ?_ | refine r_nilCheck rfl ?_ | refine r_pick_t rfl ?_ | refine r_pick_f rfl ?_ | refine r_ext rfl rfl ?_ | refine wl_run rfl rfl ?_ | refine wl_pass rfl rfl rfl ?_ | refine wl_dead rfl rfl ?_ | refine wl_if_t rfl rfl (fun hcd => ?_) (fun hcd => ?_) | refine wl_if_f rfl rfl (fun hcd => ?_) (fun hcd => ?_) | refine wc_cond_t rfl ?_ | refine wc_cond_f rfl ?_ | refine wc_cond_d rfl (fun hcd => ?_) (fun hcd => ?_) | refine wc_skip ?_ | refine wc_block ?_ | refine wc_exit ?_ | refine wc_ret ?_ | refine thenQ_ret ?_ | refine thenQ_exit ?_ | refine inBl_here ?_ | refine inBl_out rfl ?_ | refine inBl_normal ?_ | refine inBl_ret ?_)
    · have hkT : k < T.length := by omega
      obtain ⟨q2, m2, hrd, hR⟩ := hTab.rd (i := k) (by omega)
      have hps := hTab.isSome (by omega)
      have hrl : (T'.getD k []).length = T.length := by rw [(hBg.tab.2 _ (getD_mem (by omega))).1, hlen]
      repeat' (first | refine wl_plain ?_ | refine r_move_v (v := .int _ _) rfl ?_ | refine r_move_v (v := .slice _ _ _) rfl ?_ | refine r_move_v (v := .bool _) rfl ?_ | refine r_move_v (v := .pointer _) rfl ?_ | refine r_move_v (v := .map _) rfl ?_ | refine r_move ?_ | refine r_assign_v (v := .int _ _) rfl ?_ | refine r_assign_v (v := .slice _ _ _) rfl ?_ | refine r_assign_v (v := .bool _) rfl ?_ | refine r_assign_v (v := .pointer _) rfl ?_ | refine r_assign_v (v := .map _) rfl ?_ | refine r_assign ?_ | refine wl_nil ?_ | refine wc_seq ?_ | refine thenQ_normal ?_ | refine wc_region ?_ | refine r_lss rfl rfl ?_ | refine r_eql rfl rfl ?_ | refine r_neq rfl rfl ?_ | refine r_leq rfl rfl ?_ | refine r_gtr rfl rfl ?_ | refine r_geq rfl rfl ?_ | refine r_add_in rfl rfl (by omega) ?_ | refine r_sub_in rfl rfl (by omega) ?_ | refine r_len rfl rfl ?_ | (refine r_idx (sz := 1) rfl rfl rfl (by first | rfl | assumption) (by omega) (by omega) ?_) | (refine r_idx (sz := 2) rfl rfl rfl (by first | rfl | assumption) (by omega) (by omega) ?_) | (refine r_ld rfl rfl (by assumption) ?_) | refine r_not_d rfl ?_ | refine r_not rfl ?_ | refine r_nilCheck rfl ?_ | refine r_pick_t rfl ?_ | refine r_pick_f rfl ?_ | refine r_ext rfl rfl ?_ | refine wl_run rfl rfl ?_ | refine wl_pass rfl rfl rfl ?_ | refine wl_dead rfl rfl ?_ | refine wl_if_t rfl rfl (fun hcd => ?_) (fun hcd => ?_) | refine wl_if_f rfl rfl (fun hcd => ?_) (fun hcd => ?_) | refine wc_cond_t rfl ?_ | refine wc_cond_f rfl ?_ | refine wc_cond_d rfl (fun hcd => ?_) (fun hcd => ?_) | refine wc_skip ?_ | refine wc_block ?_ | refine wc_exit ?_ | refine wc_ret ?_ | refine thenQ_ret ?_ | refine thenQ_exit ?_ | refine inBl_here ?_ | refine inBl_out rfl ?_ | refine inBl_normal ?_ | refine inBl_ret ?_)
      refine wc_loop [12, 46, 47, 48, 54, 55] (fun (c : Nat) => [(56, .int .i64 c), (10, .slice ql T'.length cl), (11, out)]) (fun c wk2 => c ≤ T.length ∧ Ext wk wk2 ∧ ∀ c', c' < c → ¬ ∃ p, Choice T.length (ent T') p ∧ p pre.length = c')
        (fun c => T.length - c) 0 rfl ⟨rfl, rfl, rfl, trivial⟩ ⟨by omega, Ext.refl _, fun c' hc' => by omega⟩ ?_
      rintro c wk2 x2 ⟨hc, hE2k, hno⟩
      have hR2 := hR.ext hE2k
      repeat' (first | refine wl_plain ?_ | refine r_move_v (v := .int _ _) rfl ?_ | refine r_move_v (v := .slice _ _ _) rfl ?_ | refine r_move_v (v := .bool _) rfl ?_ | refine r_move_v (v := .pointer _) rfl ?_ | refine r_move_v (v := .map _) rfl ?_ | refine r_move ?_ | refine r_assign_v (v := .int _ _) rfl ?_ | refine r_assign_v (v := .slice _ _ _) rfl ?_ | refine r_assign_v (v := .bool _) rfl ?_ | refine r_assign_v (v := .pointer _) rfl ?_ | refine r_assign_v (v := .map _) rfl ?_ | refine r_assign ?_ | refine wl_nil ?_ | refine wc_seq ?_ | refine thenQ_normal ?_ | refine wc_region ?_ | refine r_lss rfl rfl ?_ | refine r_eql rfl rfl ?_ | refine r_neq rfl rfl ?_ | refine r_leq rfl rfl ?_ | refine r_gtr rfl rfl ?_ | refine r_geq rfl rfl ?_ | refine r_add_in rfl rfl (by omega) ?_ | refine r_sub_in rfl rfl (by omega) ?_ | refine r_len rfl rfl ?_ | (refine r_idx (sz := 1) rfl rfl rfl (by first | rfl | assumption) (by omega) (by omega) ?_) | (refine r_idx (sz := 2) rfl rfl rfl (by first | rfl | assumption) (by omega) (by omega) ?_) | (refine r_ld rfl rfl (by assumption) ?_) | refine r_not_d rfl ?_ | refine r_not rfl ?_ | refine r_nilCheck rfl ?_ | refine r_pick_t rfl ?_ | refine r_pick_f rfl ?_ | refine r_ext rfl rfl ?_ | refine wl_run rfl rfl ?_ | refine wl_pass rfl rfl rfl ?_ | refine wl_dead rfl rfl ?_ | refine wl_if_t rfl rfl (fun hcd => ?_) (fun hcd => ?_) | refine wl_if_f rfl rfl (fun hcd => ?_) (fun hcd => ?_) | refine wc_cond_t rfl ?_ | refine wc_cond_f rfl ?_ | refine wc_cond_d rfl (fun hcd => ?_) (fun hcd => ?_) | refine wc_skip ?_ | refine wc_block ?_ | refine wc_exit ?_ | refine wc_ret ?_ | refine thenQ_ret ?_ | refine thenQ_exit ?_ | refine inBl_here ?_ | refine inBl_out rfl ?_ | refine inBl_normal ?_ | refine inBl_ret ?_)
      · have hcT : c < T.length := by omega
        have hcell := hR2.rd (i := c) (by omega)
        have hps2 := hR2.isSome (by omega)
        have hxx : (T'.getD k []).getD c 0 = ent T' k c := rfl
        rw [hxx] at hcell
        repeat' (first | refine wl_plain ?_ | refine r_move_v (v := .int _ _) rfl ?_ | refine r_move_v (v := .slice _ _ _) rfl ?_ | refine r_move_v (v := .bool _) rfl ?_ | refine r_move_v (v := .pointer _) rfl ?_ | refine r_move_v (v := .map _) rfl ?_ | refine r_move ?_ | refine r_assign_v (v := .int _ _) rfl ?_ | refine r_assign_v (v := .slice _ _ _) rfl ?_ | refine r_assign_v (v := .bool _) rfl ?_ | refine r_assign_v (v := .pointer _) rfl ?_ | refine r_assign_v (v := .map _) rfl ?_ | refine r_assign ?_ | refine wl_nil ?_ | refine wc_seq ?_ | refine thenQ_normal ?_ | refine wc_region ?_ | refine r_lss rfl rfl ?_ | refine r_eql rfl rfl ?_ | refine r_neq rfl rfl ?_ | refine r_leq rfl rfl ?_ | refine r_gtr rfl rfl ?_ | refine r_geq rfl rfl ?_ | refine r_add_in rfl rfl (by omega) ?_ | refine r_sub_in rfl rfl (by omega) ?_ | refine r_len rfl rfl ?_ | (refine r_idx (sz := 1) rfl rfl rfl (by first | rfl | assumption) (by omega) (by omega) ?_) | (refine r_idx (sz := 2) rfl rfl rfl (by first | rfl | assumption) (by omega) (by omega) ?_) | (refine r_ld rfl rfl (by assumption) ?_) | refine r_not_d rfl ?_ | refine r_not rfl ?_ | refine r_nilCheck rfl ?_ | refine r_pick_t rfl ?_ | refine r_pick_f rfl ?_ | refine r_ext rfl rfl ?_ | refine wl_run rfl rfl ?_ | refine wl_pass rfl rfl rfl ?_ | refine wl_dead rfl rfl ?_ | refine wl_if_t rfl rfl (fun hcd => ?_) (fun hcd => ?_) | refine wl_if_f rfl rfl (fun hcd => ?_) (fun hcd => ?_) | refine wc_cond_t rfl ?_ | refine wc_cond_f rfl ?_ | refine wc_cond_d rfl (fun hcd => ?_) (fun hcd => ?_) | refine wc_skip ?_ | refine wc_block ?_ | refine wc_exit ?_ | refine wc_ret ?_ | refine thenQ_ret ?_ | refine thenQ_exit ?_ | refine inBl_here ?_ | refine inBl_out rfl ?_ | refine inBl_normal ?_ | refine inBl_ret ?_)
        (refine r_call (R := ?_) rfl ?_ ?_; rotate_left 1; focus exact with_any T' hBg.tab _ _ (hTab.ext hE2k) k c (by omega) (by omega))
        rintro nv w5 ⟨hOT5, hE5⟩
        have hTab5 := hOT5.tab
        have hE5k : Ext wk w5 := hE2k.trans hE5
        repeat' (first | refine wl_plain ?_ | refine r_move_v (v := .int _ _) rfl ?_ | refine r_move_v (v := .slice _ _ _) rfl ?_ | refine r_move_v (v := .bool _) rfl ?_ | refine r_move_v (v := .pointer _) rfl ?_ | refine r_move_v (v := .map _) rfl ?_ | refine r_move ?_ | refine r_assign_v (v := .int _ _) rfl ?_ | refine r_assign_v (v := .slice _ _ _) rfl ?_ | refine r_assign_v (v := .bool _) rfl ?_ | refine r_assign_v (v := .pointer _) rfl ?_ | refine r_assign_v (v := .map _) rfl ?_ | refine r_assign ?_ | refine wl_nil ?_ | refine wc_seq ?_ | refine thenQ_normal ?_ | refine wc_region ?_ | refine r_lss rfl rfl ?_ | refine r_eql rfl rfl ?_ | refine r_neq rfl rfl ?_ | refine r_leq rfl rfl ?_ | refine r_gtr rfl rfl ?_ | refine r_geq rfl rfl ?_ | refine r_add_in rfl rfl (by omega) ?_ | refine r_sub_in rfl rfl (by omega) ?_ | refine r_len rfl rfl ?_ | (refine r_idx (sz := 1) rfl rfl rfl (by first | rfl | assumption) (by omega) (by omega) ?_) | (refine r_idx (sz := 2) rfl rfl rfl (by first | rfl | assumption) (by omega) (by omega) ?_) | (refine r_ld rfl rfl (by assumption) ?_) | refine r_not_d rfl ?_ | refine r_not rfl ?_ | refine r_nilCheck rfl ?_ | refine r_pick_t rfl ?_ | refine r_pick_f rfl ?_ | refine r_ext rfl rfl ?_ | refine wl_run rfl rfl ?_ | refine wl_pass rfl rfl rfl ?_ | refine wl_dead rfl rfl ?_ | refine wl_if_t rfl rfl (fun hcd => ?_) (fun hcd => ?_) | refine wl_if_f rfl rfl (fun hcd => ?_) (fun hcd => ?_) | refine wc_cond_t rfl ?_ | refine wc_cond_f rfl ?_ | refine wc_cond_d rfl (fun hcd => ?_) (fun hcd => ?_) | refine wc_skip ?_ | refine wc_block ?_ | refine wc_exit ?_ | refine wc_ret ?_ | refine thenQ_ret ?_ | refine thenQ_exit ?_ | refine inBl_here ?_ | refine inBl_out rfl ?_ | refine inBl_normal ?_ | refine inBl_ret ?_)
        · -- positive: is there a choice?
          (refine r_call (R := ?_) rfl ?_ ?_; rotate_left 1; focus exact newMatching_any _ (withT_tab hBg.tab k c) _ _ hTab5)
          rintro v w6 ⟨bm6, rv6, cv6, rows6, cols6, rfl, hMd6, hE6, _⟩
          repeat' (first | refine wl_plain ?_ | refine r_move_v (v := .int _ _) rfl ?_ | refine r_move_v (v := .slice _ _ _) rfl ?_ | refine r_move_v (v := .bool _) rfl ?_ | refine r_move_v (v := .pointer _) rfl ?_ | refine r_move_v (v := .map _) rfl ?_ | refine r_move ?_ | refine r_assign_v (v := .int _ _) rfl ?_ | refine r_assign_v (v := .slice _ _ _) rfl ?_ | refine r_assign_v (v := .bool _) rfl ?_ | refine r_assign_v (v := .pointer _) rfl ?_ | refine r_assign_v (v := .map _) rfl ?_ | refine r_assign ?_ | refine wl_nil ?_ | refine wc_seq ?_ | refine thenQ_normal ?_ | refine wc_region ?_ | refine r_lss rfl rfl ?_ | refine r_eql rfl rfl ?_ | refine r_neq rfl rfl ?_ | refine r_leq rfl rfl ?_ | refine r_gtr rfl rfl ?_ | refine r_geq rfl rfl ?_ | refine r_add_in rfl rfl (by omega) ?_ | refine r_sub_in rfl rfl (by omega) ?_ | refine r_len rfl rfl ?_ | (refine r_idx (sz := 1) rfl rfl rfl (by first | rfl | assumption) (by omega) (by omega) ?_) | (refine r_idx (sz := 2) rfl rfl rfl (by first | rfl | assumption) (by omega) (by omega) ?_) | (refine r_ld rfl rfl (by assumption) ?_) | refine r_not_d rfl ?_ | refine r_not rfl ?_ | refine r_nilCheck rfl ?_ | refine r_pick_t rfl ?_ | refine r_pick_f rfl ?_ | refine r_ext rfl rfl ?_ | refine wl_run rfl rfl ?_ | refine wl_pass rfl rfl rfl ?_ | refine wl_dead rfl rfl ?_ | refine wl_if_t rfl rfl (fun hcd => ?_) (fun hcd => ?_) | refine wl_if_f rfl rfl (fun hcd => ?_) (fun hcd => ?_) | refine wc_cond_t rfl ?_ | refine wc_cond_f rfl ?_ | refine wc_cond_d rfl (fun hcd => ?_) (fun hcd => ?_) | refine wc_skip ?_ | refine wc_block ?_ | refine wc_exit ?_ | refine wc_ret ?_ | refine thenQ_ret ?_ | refine thenQ_exit ?_ | refine inBl_here ?_ | refine inBl_out rfl ?_ | refine inBl_normal ?_ | refine inBl_ret ?_)
          (refine r_call (R := ?_) rfl ?_ ?_; rotate_left 1; focus exact full_any _ _ _ _ _ _ _ _ _ (by rw [withT_length, hlen]; exact hn) hMd6)
          rintro v w7 ⟨rfl, rfl⟩
          have hE7 : Ext wk w7 := hE5k.trans hE6
          have hiff := made_iff hMd6
          rw [withT_length, hlen] at hiff
          repeat' (first | refine wl_plain ?_ | refine r_move_v (v := .int _ _) rfl ?_ | refine r_move_v (v := .slice _ _ _) rfl ?_ | refine r_move_v (v := .bool _) rfl ?_ | refine r_move_v (v := .pointer _) rfl ?_ | refine r_move_v (v := .map _) rfl ?_ | refine r_move ?_ | refine r_assign_v (v := .int _ _) rfl ?_ | refine r_assign_v (v := .slice _ _ _) rfl ?_ | refine r_assign_v (v := .bool _) rfl ?_ | refine r_assign_v (v := .pointer _) rfl ?_ | refine r_assign_v (v := .map _) rfl ?_ | refine r_assign ?_ | refine wl_nil ?_ | refine wc_seq ?_ | refine thenQ_normal ?_ | refine wc_region ?_ | refine r_lss rfl rfl ?_ | refine r_eql rfl rfl ?_ | refine r_neq rfl rfl ?_ | refine r_leq rfl rfl ?_ | refine r_gtr rfl rfl ?_ | refine r_geq rfl rfl ?_ | refine r_add_in rfl rfl (by omega) ?_ | refine r_sub_in rfl rfl (by omega) ?_ | refine r_len rfl rfl ?_ | (refine r_idx (sz := 1) rfl rfl rfl (by first | rfl | assumption) (by omega) (by omega) ?_) | (refine r_idx (sz := 2) rfl rfl rfl (by first | rfl | assumption) (by omega) (by omega) ?_) | (refine r_ld rfl rfl (by assumption) ?_) | refine r_not_d rfl ?_ | refine r_not rfl ?_ | refine r_nilCheck rfl ?_ | refine r_pick_t rfl ?_ | refine r_pick_f rfl ?_ | refine r_ext rfl rfl ?_ | refine wl_run rfl rfl ?_ | refine wl_pass rfl rfl rfl ?_ | refine wl_dead rfl rfl ?_ | refine wl_if_t rfl rfl (fun hcd => ?_) (fun hcd => ?_) | refine wl_if_f rfl rfl (fun hcd => ?_) (fun hcd => ?_) | refine wc_cond_t rfl ?_ | refine wc_cond_f rfl ?_ | refine wc_cond_d rfl (fun hcd => ?_) (fun hcd => ?_) | refine wc_skip ?_ | refine wc_block ?_ | refine wc_exit ?_ | refine wc_ret ?_ | refine thenQ_ret ?_ | refine thenQ_exit ?_ | refine inBl_here ?_ | refine inBl_out rfl ?_ | refine inBl_normal ?_ | refine inBl_ret ?_)
          · have hfull := hcd
            rw [withT_length, hlen] at hfull
            have hexw := hiff.2 hfull
            refine r_append1_i (base := w3.heap.size) el27 (hO.ext hE7) rfl rfl (by rw [nats_length]; omega) (by have := hE7.size; omega) fun v8 w8 q8 h8 hg8 _ hb8 => ?_
            have hC8 : Ch (fun k => w3.heap.size ≤ k) w7 w8 := Ch.grown hg8 fun g hg => (World.ownsRow.lt hO g hg).1
            repeat' (first | refine wl_plain ?_ | refine r_move_v (v := .int _ _) rfl ?_ | refine r_move_v (v := .slice _ _ _) rfl ?_ | refine r_move_v (v := .bool _) rfl ?_ | refine r_move_v (v := .pointer _) rfl ?_ | refine r_move_v (v := .map _) rfl ?_ | refine r_move ?_ | refine r_assign_v (v := .int _ _) rfl ?_ | refine r_assign_v (v := .slice _ _ _) rfl ?_ | refine r_assign_v (v := .bool _) rfl ?_ | refine r_assign_v (v := .pointer _) rfl ?_ | refine r_assign_v (v := .map _) rfl ?_ | refine r_assign ?_ | refine wl_nil ?_ | refine wc_seq ?_ | refine thenQ_normal ?_ | refine wc_region ?_ | refine r_lss rfl rfl ?_ | refine r_eql rfl rfl ?_ | refine r_neq rfl rfl ?_ | refine r_leq rfl rfl ?_ | refine r_gtr rfl rfl ?_ | refine r_geq rfl rfl ?_ | refine r_add_in rfl rfl (by omega) ?_ | refine r_sub_in rfl rfl (by omega) ?_ | refine r_len rfl rfl ?_ | (refine r_idx (sz := 1) rfl rfl rfl (by first | rfl | assumption) (by omega) (by omega) ?_) | (refine r_idx (sz := 2) rfl rfl rfl (by first | rfl | assumption) (by omega) (by omega) ?_) | (refine r_ld rfl rfl (by assumption) ?_) | refine r_not_d rfl ?_ | refine r_not rfl ?_ | refine r_nilCheck rfl ?_ | refine r_pick_t rfl ?_ | refine r_pick_f rfl ?_ | refine r_ext rfl rfl ?_ | refine wl_run rfl rfl ?_ | refine wl_pass rfl rfl rfl ?_ | refine wl_dead rfl rfl ?_ | refine wl_if_t rfl rfl (fun hcd => ?_) (fun hcd => ?_) | refine wl_if_f rfl rfl (fun hcd => ?_) (fun hcd => ?_) | refine wc_cond_t rfl ?_ | refine wc_cond_f rfl ?_ | refine wc_cond_d rfl (fun hcd => ?_) (fun hcd => ?_) | refine wc_skip ?_ | refine wc_block ?_ | refine wc_exit ?_ | refine wc_ret ?_ | refine thenQ_ret ?_ | refine thenQ_exit ?_ | refine inBl_here ?_ | refine inBl_out rfl ?_ | refine inBl_normal ?_ | refine inBl_ret ?_)
            refine ⟨k + 1, nv, v8, (withT T' k c, pre ++ [c]), ⟨rfl, rfl, rfl, trivial⟩, ⟨by omega, by simp [hpl], ?_, ?_, ?_, Ch.ext_new (hEk.trans hE7) hC8 hE3.size, by have := hC8.size; have := hE7.size; omega⟩, by omega⟩
            · have := hBg.next (c := c) (by omega) (by rw [hpl]; exact hexw) hno
              rw [hpl] at this; exact this
            · refine OwnT.tab ((hOT5.ext hE6).keep (Ch.grown hg8 (S := fun g => out.ownBlock = some g) fun g hg => hg) fun g hg _ e => ?_)
              have := (World.ownsRow.lt hO g e).2
              have := hE2k.size
              omega
            · exact nats_snoc pre c ▸ h8
          · have hfull := hcd
            rw [withT_length, hlen] at hfull
            refine ⟨c + 1, ⟨rfl, rfl, rfl, trivial⟩, ⟨by omega, hE7, fun c' hc' => ?_⟩, by omega⟩
            by_cases e : c' = c
            · subst e
              rintro ⟨p, hp, hpc⟩
              refine hfull (hiff.1 ⟨p, ?_⟩)
              rw [choice_congr (B := withF (ent T') k c') fun i k' hi hk' => withT_ent (by omega) (by omega)]
              exact (with_choice hkT).2 ⟨hp, by rw [← hpl]; exact hpc⟩
            · exact hno c' (by omega)
        · refine ⟨c + 1, ⟨rfl, rfl, rfl, trivial⟩, ⟨by omega, hE5k, fun c' hc' => ?_⟩, by omega⟩
          by_cases e : c' = c
          · subst e
            rintro ⟨p, hp, hpc⟩
            have h1 := (hp.1 k hkT).2
            rw [hpl] at hpc
            rw [hpc] at h1
            have := (ent_ok hBg.tab (i := k) (c := c') (by omega) (by omega)).1
            omega
          · exact hno c' (by omega)
      · exfalso
        obtain ⟨p, hp⟩ := hBg.ex
        exact hno (p k) (by have := (hp.1 k hkT).1; omega) ⟨p, hp, by rw [hpl]⟩
    · have hkn : k = T.length := by omega
      subst hkn
      refine post3 (v1 := out) (v2 := .slice none 0 0) (v3 := .int .i64 0) rfl rfl rfl rfl ?_
      refine ⟨.inr (.inr ⟨hT, out, fun j => pre.getD j 0, rfl, ?_, hBg.first hpl⟩), hEk⟩
      rw [← hpl, map_getD_range]
      exact ownsRow_mono hO hE3.size
end Go.Proofs.Ytdpckinhoooigaa

/- posts: level, Level. -/
import Derived.Test.YtdpckinhoooigaaC
import Derived.Test.YtdpckinhoooigaaB
namespace Go.Proofs.Ytdpckinhoooigaa
open Gv PM
/- Sums of rows and columns. -/
def rsum (T : List (List Int)) (r k : Nat) : Int := sumN k fun c => ent T r c
def csum (T : List (List Int)) (c k : Nat) : Int := sumN k fun r => ent T r c
def IsLevel (T : List (List Int)) : Prop := ∀ i, i < T.length → rsum T i T.length = rsum T 0 T.length ∧ csum T i T.length = rsum T 0 T.length
instance (T : List (List Int)) : Decidable (IsLevel T) := by unfold IsLevel; infer_instance
theorem sumN_le_mul {f : Nat → Int} {b : Int} : ∀ {n : Nat}, (∀ c, c < n → 0 ≤ f c ∧ f c ≤ b) → 0 ≤ sumN n f ∧ sumN n f ≤ b * n
  | 0, _ => by simp [sumN]
  | n + 1, h => by
    have := sumN_le_mul (n := n) fun c hc => h c (by omega)
    have := h n (by omega)
    simp only [sumN]
    push_cast
    rw [Int.mul_add]
    omega
theorem rsum_le {T : List (List Int)} (hT : IsTab T) {r k : Nat} (hr : r < T.length) (hk : k ≤ T.length) : 0 ≤ rsum T r k ∧ rsum T r k ≤ 90 := by
  have h := sumN_le_mul (n := k) (f := fun c => ent T r c) (b := 9) fun c hc => ent_ok hT hr (by omega)
  have := hT.1
  unfold rsum; omega
theorem csum_le {T : List (List Int)} (hT : IsTab T) {c k : Nat} (hr : c < T.length) (hk : k ≤ T.length) : 0 ≤ csum T c k ∧ csum T c k ≤ 90 := by
  have h := sumN_le_mul (n := k) (f := fun r => ent T r c) (b := 9) fun r hr' => ent_ok hT (by omega) hr
  have := hT.1
  unfold csum; omega
/-- The sums behind i rows and k numbers of the next one. -/
def SumsAt (T : List (List Int)) (i k : Nat) (L : List Int) : Prop :=
  L.length = 2 * T.length ∧ (∀ r, r < T.length → L.getD r 0 = if r < i then rsum T r T.length else if r = i then rsum T r k else 0) ∧
    ∀ c, c < T.length → L.getD (T.length + c) 0 = csum T c i + if c < k then ent T i c else 0
theorem getD_set {α : Type} {L : List α} {i j : Nat} {a d : α} (hi : i < L.length) : (L.set i a).getD j d = if j = i then a else L.getD j d := by
  simp only [List.getD, List.getElem?_set]
  by_cases e : i = j
  · subst e; simp [hi]
  · simp [e, Ne.symm e]
theorem foldMax_ge (l : List Int) : ∀ a, a ≤ l.foldl (fun a b => if b > a then b else a) a ∧ ∀ x, x ∈ l → x ≤ l.foldl (fun a b => if b > a then b else a) a := by
  induction l with
  | nil => intro a; simp
  | cons y l ih =>
    intro a
    simp only [List.foldl_cons, List.mem_cons]
    have h := ih (if y > a then y else a)
    refine ⟨by have := h.1; split at this <;> rename_i hc <;> split <;> omega, ?_⟩
    rintro x (rfl | hx)
    · have := h.1; split at this <;> rename_i hc <;> split <;> omega
    · exact h.2 x hx
theorem foldMin_le (l : List Int) : ∀ a, l.foldl (fun a b => if b < a then b else a) a ≤ a ∧ ∀ x, x ∈ l → l.foldl (fun a b => if b < a then b else a) a ≤ x := by
  induction l with
  | nil => intro a; simp
  | cons y l ih =>
    intro a
    simp only [List.foldl_cons, List.mem_cons]
    have h := ih (if y < a then y else a)
    refine ⟨by have := h.1; split at this <;> rename_i hc <;> split <;> omega, ?_⟩
    rintro x (rfl | hx)
    · have := h.1; split at this <;> rename_i hc <;> split <;> omega
    · exact h.2 x hx
theorem fold_same (l : List Int) (a : Int) (h : ∀ x, x ∈ l → x = a) : l.foldl (fun a b => if b > a then b else a) a = a ∧ l.foldl (fun a b => if b < a then b else a) a = a := by
  induction l with
  | nil => simp
  | cons y l ih =>
    have : y = a := h y List.mem_cons_self
    subst this
    simp only [List.foldl_cons, Int.lt_irrefl, if_false, gt_iff_lt]
    exact ih fun x hx => h x (List.mem_cons_of_mem _ hx)
theorem max_eq_min {L : List Int} (h : 0 < L.length) : maxL L = minL L ↔ ∀ i, i < L.length → L.getD i 0 = L.getD 0 0 := by
  cases L with
  | nil => simp at h
  | cons a l =>
    have h1 := foldMax_ge l a
    have h2 := foldMin_le l a
    have e : maxL (a :: l) = l.foldl (fun a b => if b > a then b else a) a := rfl
    have e2 : minL (a :: l) = l.foldl (fun a b => if b < a then b else a) a := rfl
    rw [e, e2]
    constructor
    · intro he i hi
      cases i with
      | zero => rfl
      | succ i =>
        have hi' : i < l.length := by simpa using hi
        have hx : l[i] ∈ l := List.getElem_mem hi'
        have := h1.2 _ hx
        have := h2.2 _ hx
        have hg : (a :: l).getD (i + 1) 0 = l[i] := by simp [List.getD, hi']
        rw [hg]
        show l[i] = a
        omega
    · intro hall
      have := fold_same l a fun x hx => by
        obtain ⟨i, hi, rfl⟩ := List.getElem_of_mem hx
        have := hall (i + 1) (by simpa using hi)
        simpa [List.getD, hi] using this
      rw [this.1, this.2]
theorem sums_level {T : List (List Int)} {L : List Int} (h : SumsAt T T.length 0 L) (hn : 0 < T.length) : maxL L = minL L ↔ IsLevel T := by
  obtain ⟨hl, hr, hc⟩ := h
  rw [max_eq_min (by omega)]
  have h0 := hr 0 hn
  rw [if_pos hn] at h0
  unfold IsLevel
  constructor
  · intro hall i hi
    have h1 := hall i (by omega)
    have h2 := hall (T.length + i) (by omega)
    rw [hr i hi, if_pos hi, h0] at h1
    rw [hc i hi, h0] at h2
    simp at h2
    exact ⟨h1, h2⟩
  · intro hall i hi
    by_cases hi' : i < T.length
    · rw [hr i hi', if_pos hi', h0]; exact (hall i hi').1
    · have := hc (i - T.length) (by omega)
      rw [show T.length + (i - T.length) = i by omega] at this
      rw [this, h0]
      have := (hall (i - T.length) (by omega)).2
      simp [this]
theorem sums_step {T : List (List Int)} {i k : Nat} {L : List Int} (h : SumsAt T i k L) (hi : i < T.length) (hk : k < T.length) :
    SumsAt T i (k + 1) ((L.set i (rsum T i k + ent T i k)).set (T.length + k) (csum T k i + ent T i k)) := by
  obtain ⟨hl, hr, hc⟩ := h
  refine ⟨by simpa using hl, fun r hr' => ?_, fun c hc' => ?_⟩
  · rw [getD_set (by simp; omega), if_neg (by omega), getD_set (by omega), hr r hr']
    by_cases e : r = i
    · subst e; simp [rsum, sumN]
    · simp [e]
  · rw [getD_set (by simp; omega), getD_set (by omega)]
    by_cases e : c = k
    · subst e; simp
    · rw [if_neg (by omega), if_neg (by omega), hc c hc']
      have : c < k + 1 ↔ c < k := by omega
      simp only [this]
theorem sums_row {T : List (List Int)} {i : Nat} {L : List Int} (h : SumsAt T i T.length L) : SumsAt T (i + 1) 0 L := by
  obtain ⟨hl, hr, hc⟩ := h
  refine ⟨hl, fun r hr' => ?_, fun c hc' => ?_⟩
  · rw [hr r hr']
    by_cases e : r = i
    · subst e; simp
    · have : r < i + 1 ↔ r < i := by omega
      simp only [this, e, if_false]
      by_cases e2 : r < i
      · simp [e2]
      · simp only [e2, if_false]; split <;> simp [rsum, sumN]
  · rw [hc c hc', if_pos hc']; simp [csum, sumN]
set_option maxHeartbeats 1000000 in
theorem level_any (v : Value) (T : List (List Int)) (w : World) (h : Tab w v T) (hT : IsTab T) :
    Calls Try.prog 52 #[v] w (Ret fun v w' => v = .tuple #[.int .i64 (rsum T 0 T.length), .bool (decide (IsLevel T))] ∧ Ext w w') := by
  obtain ⟨q, c0, rfl, hqc⟩ := h.slice
  have hn := hT.1
  have hrow : ∀ i, i < T.length → (T.getD i []).length = T.length := fun i hi => (hT.2 _ (getD_mem hi)).1
  refine calls_of_wc (args := [.slice q T.length c0]) Try.func52 rfl ?_ ?_; kernel_rfl
  repeat' (first | refine wl_plain ?_ | refine r_move_v (v := .int _ _) rfl ?_ | refine r_move_v (v := .slice _ _ _) rfl ?_ | refine r_move_v (v := .bool _) rfl ?_ | refine r_move_v (v := .pointer _) rfl ?_ | refine r_move_v (v := .map _) rfl ?_ | refine r_move ?_ | refine r_assign_v (v := .int _ _) rfl ?_ | refine r_assign_v (v := .slice _ _ _) rfl ?_ | refine r_assign_v (v := .bool _) rfl ?_ | refine r_assign_v (v := .pointer _) rfl ?_ | refine r_assign_v (v := .map _) rfl ?_ | refine r_assign ?_ | refine wl_nil ?_ | refine wc_seq ?_ | refine thenQ_normal ?_ | refine wc_region ?_ | refine r_lss rfl rfl ?_ | refine r_eql rfl rfl ?_ | refine r_neq rfl rfl ?_ | refine r_leq rfl rfl ?_ | refine r_gtr rfl rfl ?_ | refine r_geq rfl rfl ?_ | refine r_add_in rfl rfl (by omega) ?_ | refine r_sub_in rfl rfl (by omega) ?_ | refine r_len rfl rfl ?_ | (refine r_idx (sz := 1) rfl rfl rfl (by first | rfl | assumption) (by omega) (by omega) ?_) | (refine r_idx (sz := 2) rfl rfl rfl (by first | rfl | assumption) (by omega) (by omega) ?_) | (refine r_ld rfl rfl (by assumption) ?_) | refine r_not_d rfl ?_ | refine r_not rfl ?_ | refine r_nilCheck rfl ?_ | refine r_pick_t rfl ?_ | refine r_pick_f rfl ?_ | refine r_ext rfl rfl ?_ | refine wl_run rfl rfl ?_ | refine wl_pass rfl rfl rfl ?_ | refine wl_dead rfl rfl ?_ | refine wl_if_t rfl rfl (fun hcd => ?_) (fun hcd => ?_) | refine wl_if_f rfl rfl (fun hcd => ?_) (fun hcd => ?_) | refine wc_cond_t rfl ?_ | refine wc_cond_f rfl ?_ | refine wc_cond_d rfl (fun hcd => ?_) (fun hcd => ?_) | refine wc_skip ?_ | refine wc_block ?_ | refine wc_exit ?_ | refine wc_ret ?_ | refine thenQ_ret ?_ | refine thenQ_exit ?_ | refine inBl_here ?_ | refine inBl_out rfl ?_ | refine inBl_normal ?_ | refine inBl_ret ?_)
  · have h0 : T.length = 0 := by omega
    refine post2 (v1 := .int .i64 0) (v2 := .bool true) rfl rfl rfl ?_
    refine ⟨?_, Ext.refl _⟩
    rw [decide_eq_true (show IsLevel T from fun i hi => by omega), h0]
    rfl
  have hpos : 0 < T.length := by omega
  refine r_mul_in rfl rfl (by omega) ?_
  repeat' (first | refine wl_plain ?_ | refine r_move_v (v := .int _ _) rfl ?_ | refine r_move_v (v := .slice _ _ _) rfl ?_ | refine r_move_v (v := .bool _) rfl ?_ | refine r_move_v (v := .pointer _) rfl ?_ | refine r_move_v (v := .map _) rfl ?_ | refine r_move ?_ | refine r_assign_v (v := .int _ _) rfl ?_ | refine r_assign_v (v := .slice _ _ _) rfl ?_ | refine r_assign_v (v := .bool _) rfl ?_ | refine r_assign_v (v := .pointer _) rfl ?_ | refine r_assign_v (v := .map _) rfl ?_ | refine r_assign ?_ | refine wl_nil ?_ | refine wc_seq ?_ | refine thenQ_normal ?_ | refine wc_region ?_ | refine r_lss rfl rfl ?_ | refine r_eql rfl rfl ?_ | refine r_neq rfl rfl ?_ | refine r_leq rfl rfl ?_ | refine r_gtr rfl rfl ?_ | refine r_geq rfl rfl ?_ | refine r_add_in rfl rfl (by omega) ?_ | refine r_sub_in rfl rfl (by omega) ?_ | refine r_len rfl rfl ?_ | (refine r_idx (sz := 1) rfl rfl rfl (by first | rfl | assumption) (by omega) (by omega) ?_) | (refine r_idx (sz := 2) rfl rfl rfl (by first | rfl | assumption) (by omega) (by omega) ?_) | (refine r_ld rfl rfl (by assumption) ?_) | refine r_not_d rfl ?_ | refine r_not rfl ?_ | refine r_nilCheck rfl ?_ | refine r_pick_t rfl ?_ | refine r_pick_f rfl ?_ | refine r_ext rfl rfl ?_ | refine wl_run rfl rfl ?_ | refine wl_pass rfl rfl rfl ?_ | refine wl_dead rfl rfl ?_ | refine wl_if_t rfl rfl (fun hcd => ?_) (fun hcd => ?_) | refine wl_if_f rfl rfl (fun hcd => ?_) (fun hcd => ?_) | refine wc_cond_t rfl ?_ | refine wc_cond_f rfl ?_ | refine wc_cond_d rfl (fun hcd => ?_) (fun hcd => ?_) | refine wc_skip ?_ | refine wc_block ?_ | refine wc_exit ?_ | refine wc_ret ?_ | refine thenQ_ret ?_ | refine thenQ_exit ?_ | refine inBl_here ?_ | refine inBl_out rfl ?_ | refine inBl_normal ?_ | refine inBl_ret ?_)
  have e2 : (2 : Int) * (T.length : Int) = ((2 * T.length : Nat) : Int) := by omega
  refine r_make_i (n := 2 * T.length) el27 (congrArg (Value.int .i64) e2) (congrArg (Value.int .i64) e2) (by omega) fun w1 h1 hE1 hs1 => ?_
  repeat' (first | refine wl_plain ?_ | refine r_move_v (v := .int _ _) rfl ?_ | refine r_move_v (v := .slice _ _ _) rfl ?_ | refine r_move_v (v := .bool _) rfl ?_ | refine r_move_v (v := .pointer _) rfl ?_ | refine r_move_v (v := .map _) rfl ?_ | refine r_move ?_ | refine r_assign_v (v := .int _ _) rfl ?_ | refine r_assign_v (v := .slice _ _ _) rfl ?_ | refine r_assign_v (v := .bool _) rfl ?_ | refine r_assign_v (v := .pointer _) rfl ?_ | refine r_assign_v (v := .map _) rfl ?_ | refine r_assign ?_ | refine wl_nil ?_ | refine wc_seq ?_ | refine thenQ_normal ?_ | refine wc_region ?_ | refine r_lss rfl rfl ?_ | refine r_eql rfl rfl ?_ | refine r_neq rfl rfl ?_ | refine r_leq rfl rfl ?_ | refine r_gtr rfl rfl ?_ | refine r_geq rfl rfl ?_ | refine r_add_in rfl rfl (by omega) ?_ | refine r_sub_in rfl rfl (by omega) ?_ | refine r_len rfl rfl ?_ | (refine r_idx (sz := 1) rfl rfl rfl (by first | rfl | assumption) (by omega) (by omega) ?_) | (refine r_idx (sz := 2) rfl rfl rfl (by first | rfl | assumption) (by omega) (by omega) ?_) | (refine r_ld rfl rfl (by assumption) ?_) | refine r_not_d rfl ?_ | refine r_not rfl ?_ | refine r_nilCheck rfl ?_ | refine r_pick_t rfl ?_ | refine r_pick_f rfl ?_ | refine r_ext rfl rfl ?_ | refine wl_run rfl rfl ?_ | refine wl_pass rfl rfl rfl ?_ | refine wl_dead rfl rfl ?_ | refine wl_if_t rfl rfl (fun hcd => ?_) (fun hcd => ?_) | refine wl_if_f rfl rfl (fun hcd => ?_) (fun hcd => ?_) | refine wc_cond_t rfl ?_ | refine wc_cond_f rfl ?_ | refine wc_cond_d rfl (fun hcd => ?_) (fun hcd => ?_) | refine wc_skip ?_ | refine wc_block ?_ | refine wc_exit ?_ | refine wc_ret ?_ | refine thenQ_ret ?_ | refine thenQ_exit ?_ | refine inBl_here ?_ | refine inBl_out rfl ?_ | refine inBl_normal ?_ | refine inBl_ret ?_)
  refine wc_loop [0, 4, 16, 17] (fun (i : Nat) => [(18, .int .i64 i)]) (fun i wk => i ≤ T.length ∧ (∃ L, OwnI wk w.heap.size 3 (.slice (some ⟨w.heap.size, 0, none⟩) (2 * T.length) (2 * T.length)) L ∧ SumsAt T i 0 L) ∧ Ext w wk)
    (fun i => T.length - i) 0 rfl ⟨rfl, trivial⟩ ⟨by omega, ⟨_, h1, ⟨by simp, fun r hr => ?_, fun c hc => ?_⟩⟩, hE1⟩ ?_
  · by_cases e : r = 0
    · subst e; simp [List.getD, hpos, rsum, sumN]
    · simp [List.getD, List.getElem?_replicate, e]; split <;> rfl
  · simp [List.getD, List.getElem?_replicate, csum, sumN]; split <;> rfl
  rintro i wk x ⟨hi, ⟨L, hL, hS⟩, hE⟩
  repeat' (first | refine wl_plain ?_ | refine r_move_v (v := .int _ _) rfl ?_ | refine r_move_v (v := .slice _ _ _) rfl ?_ | refine r_move_v (v := .bool _) rfl ?_ | refine r_move_v (v := .pointer _) rfl ?_ | refine r_move_v (v := .map _) rfl ?_ | refine r_move ?_ | refine r_assign_v (v := .int _ _) rfl ?_ | refine r_assign_v (v := .slice _ _ _) rfl ?_ | refine r_assign_v (v := .bool _) rfl ?_ | refine r_assign_v (v := .pointer _) rfl ?_ | refine r_assign_v (v := .map _) rfl ?_ | refine r_assign ?_ | refine wl_nil ?_ | refine wc_seq ?_ | refine thenQ_normal ?_ | refine wc_region ?_ | refine r_lss rfl rfl ?_ | refine r_eql rfl rfl ?_ | refine r_neq rfl rfl ?_ | refine r_leq rfl rfl ?_ | refine r_gtr rfl rfl ?_ | refine r_geq rfl rfl ?_ | refine r_add_in rfl rfl (by omega) ?_ | refine r_sub_in rfl rfl (by omega) ?_ | refine r_len rfl rfl ?_ | (refine r_idx (sz := 1) rfl rfl rfl (by first | rfl | assumption) (by omega) (by omega) ?_) | (refine r_idx (sz := 2) rfl rfl rfl (by first | rfl | assumption) (by omega) (by omega) ?_) | (refine r_ld rfl rfl (by assumption) ?_) | refine r_not_d rfl ?_ | refine r_not rfl ?_ | refine r_nilCheck rfl ?_ | refine r_pick_t rfl ?_ | refine r_pick_f rfl ?_ | refine r_ext rfl rfl ?_ | refine wl_run rfl rfl ?_ | refine wl_pass rfl rfl rfl ?_ | refine wl_dead rfl rfl ?_ | refine wl_if_t rfl rfl (fun hcd => ?_) (fun hcd => ?_) | refine wl_if_f rfl rfl (fun hcd => ?_) (fun hcd => ?_) | refine wc_cond_t rfl ?_ | refine wc_cond_f rfl ?_ | refine wc_cond_d rfl (fun hcd => ?_) (fun hcd => ?_) | refine wc_skip ?_ | refine wc_block ?_ | refine wc_exit ?_ | refine wc_ret ?_ | refine thenQ_ret ?_ | refine thenQ_exit ?_ | refine inBl_here ?_ | refine inBl_out rfl ?_ | refine inBl_normal ?_ | refine inBl_ret ?_)
  · have hiT : i < T.length := by omega
    obtain ⟨q2, m2, hrd0, hR0⟩ := h.rd hiT
    have hrd := rd_ext hrd0 hE
    have hps := h.isSome hpos
    have hlen := hrow i hiT
    repeat' (first | refine wl_plain ?_ | refine r_move_v (v := .int _ _) rfl ?_ | refine r_move_v (v := .slice _ _ _) rfl ?_ | refine r_move_v (v := .bool _) rfl ?_ | refine r_move_v (v := .pointer _) rfl ?_ | refine r_move_v (v := .map _) rfl ?_ | refine r_move ?_ | refine r_assign_v (v := .int _ _) rfl ?_ | refine r_assign_v (v := .slice _ _ _) rfl ?_ | refine r_assign_v (v := .bool _) rfl ?_ | refine r_assign_v (v := .pointer _) rfl ?_ | refine r_assign_v (v := .map _) rfl ?_ | refine r_assign ?_ | refine wl_nil ?_ | refine wc_seq ?_ | refine thenQ_normal ?_ | refine wc_region ?_ | refine r_lss rfl rfl ?_ | refine r_eql rfl rfl ?_ | refine r_neq rfl rfl ?_ | refine r_leq rfl rfl ?_ | refine r_gtr rfl rfl ?_ | refine r_geq rfl rfl ?_ | refine r_add_in rfl rfl (by omega) ?_ | refine r_sub_in rfl rfl (by omega) ?_ | refine r_len rfl rfl ?_ | (refine r_idx (sz := 1) rfl rfl rfl (by first | rfl | assumption) (by omega) (by omega) ?_) | (refine r_idx (sz := 2) rfl rfl rfl (by first | rfl | assumption) (by omega) (by omega) ?_) | (refine r_ld rfl rfl (by assumption) ?_) | refine r_not_d rfl ?_ | refine r_not rfl ?_ | refine r_nilCheck rfl ?_ | refine r_pick_t rfl ?_ | refine r_pick_f rfl ?_ | refine r_ext rfl rfl ?_ | refine wl_run rfl rfl ?_ | refine wl_pass rfl rfl rfl ?_ | refine wl_dead rfl rfl ?_ | refine wl_if_t rfl rfl (fun hcd => ?_) (fun hcd => ?_) | refine wl_if_f rfl rfl (fun hcd => ?_) (fun hcd => ?_) | refine wc_cond_t rfl ?_ | refine wc_cond_f rfl ?_ | refine wc_cond_d rfl (fun hcd => ?_) (fun hcd => ?_) | refine wc_skip ?_ | refine wc_block ?_ | refine wc_exit ?_ | refine wc_ret ?_ | refine thenQ_ret ?_ | refine thenQ_exit ?_ | refine inBl_here ?_ | refine inBl_out rfl ?_ | refine inBl_normal ?_ | refine inBl_ret ?_)
    refine wc_loop [0, 4, 5, 16, 17, 18, 23, 24] (fun (k : Nat) => [(25, .int .i64 k)]) (fun k wk => k ≤ T.length ∧ (∃ L, OwnI wk w.heap.size 3 (.slice (some ⟨w.heap.size, 0, none⟩) (2 * T.length) (2 * T.length)) L ∧ SumsAt T i k L) ∧ Ext w wk)
      (fun k => T.length - k) 0 rfl ⟨rfl, trivial⟩ ⟨by omega, ⟨L, hL, hS⟩, hE⟩ ?_
    rintro k wk2 x2 ⟨hk, ⟨L2, hL2, hS2⟩, hE2⟩
    have hR2 := hR0.ext hE2
    repeat' (first | refine wl_plain ?_ | refine r_move_v (v := .int _ _) rfl ?_ | refine r_move_v (v := .slice _ _ _) rfl ?_ | refine r_move_v (v := .bool _) rfl ?_ | refine r_move_v (v := .pointer _) rfl ?_ | refine r_move_v (v := .map _) rfl ?_ | refine r_move ?_ | refine r_assign_v (v := .int _ _) rfl ?_ | refine r_assign_v (v := .slice _ _ _) rfl ?_ | refine r_assign_v (v := .bool _) rfl ?_ | refine r_assign_v (v := .pointer _) rfl ?_ | refine r_assign_v (v := .map _) rfl ?_ | refine r_assign ?_ | refine wl_nil ?_ | refine wc_seq ?_ | refine thenQ_normal ?_ | refine wc_region ?_ | refine r_lss rfl rfl ?_ | refine r_eql rfl rfl ?_ | refine r_neq rfl rfl ?_ | refine r_leq rfl rfl ?_ | refine r_gtr rfl rfl ?_ | refine r_geq rfl rfl ?_ | refine r_add_in rfl rfl (by omega) ?_ | refine r_sub_in rfl rfl (by omega) ?_ | refine r_len rfl rfl ?_ | (refine r_idx (sz := 1) rfl rfl rfl (by first | rfl | assumption) (by omega) (by omega) ?_) | (refine r_idx (sz := 2) rfl rfl rfl (by first | rfl | assumption) (by omega) (by omega) ?_) | (refine r_ld rfl rfl (by assumption) ?_) | refine r_not_d rfl ?_ | refine r_not rfl ?_ | refine r_nilCheck rfl ?_ | refine r_pick_t rfl ?_ | refine r_pick_f rfl ?_ | refine r_ext rfl rfl ?_ | refine wl_run rfl rfl ?_ | refine wl_pass rfl rfl rfl ?_ | refine wl_dead rfl rfl ?_ | refine wl_if_t rfl rfl (fun hcd => ?_) (fun hcd => ?_) | refine wl_if_f rfl rfl (fun hcd => ?_) (fun hcd => ?_) | refine wc_cond_t rfl ?_ | refine wc_cond_f rfl ?_ | refine wc_cond_d rfl (fun hcd => ?_) (fun hcd => ?_) | refine wc_skip ?_ | refine wc_block ?_ | refine wc_exit ?_ | refine wc_ret ?_ | refine thenQ_ret ?_ | refine thenQ_exit ?_ | refine inBl_here ?_ | refine inBl_out rfl ?_ | refine inBl_normal ?_ | refine inBl_ret ?_)
    · have hkT : k < T.length := by omega
      have hc1 := hR2.rd (i := k) (by omega)
      have hps2 := hR2.isSome (by omega)
      have hA := ent_ok hT hiT hkT
      have hrb := rsum_le hT (r := i) (k := k) hiT (by omega)
      have hcb := csum_le hT (c := k) (k := i) hkT (by omega)
      have hsl := hS2.1
      have hr1 := hL2.ints.rd (i := i) (by omega)
      have hv1 : L2.getD i 0 = rsum T i k := by rw [hS2.2.1 i hiT]; simp
      have hxx : (T.getD i []).getD k 0 = ent T i k := rfl
      rw [hxx] at hc1
      rw [hv1] at hr1
      repeat' (first | refine wl_plain ?_ | refine r_move_v (v := .int _ _) rfl ?_ | refine r_move_v (v := .slice _ _ _) rfl ?_ | refine r_move_v (v := .bool _) rfl ?_ | refine r_move_v (v := .pointer _) rfl ?_ | refine r_move_v (v := .map _) rfl ?_ | refine r_move ?_ | refine r_assign_v (v := .int _ _) rfl ?_ | refine r_assign_v (v := .slice _ _ _) rfl ?_ | refine r_assign_v (v := .bool _) rfl ?_ | refine r_assign_v (v := .pointer _) rfl ?_ | refine r_assign_v (v := .map _) rfl ?_ | refine r_assign ?_ | refine wl_nil ?_ | refine wc_seq ?_ | refine thenQ_normal ?_ | refine wc_region ?_ | refine r_lss rfl rfl ?_ | refine r_eql rfl rfl ?_ | refine r_neq rfl rfl ?_ | refine r_leq rfl rfl ?_ | refine r_gtr rfl rfl ?_ | refine r_geq rfl rfl ?_ | refine r_add_in rfl rfl (by omega) ?_ | refine r_sub_in rfl rfl (by omega) ?_ | refine r_len rfl rfl ?_ | (refine r_idx (sz := 1) rfl rfl rfl (by first | rfl | assumption) (by omega) (by omega) ?_) | (refine r_idx (sz := 2) rfl rfl rfl (by first | rfl | assumption) (by omega) (by omega) ?_) | (refine r_ld rfl rfl (by assumption) ?_) | refine r_not_d rfl ?_ | refine r_not rfl ?_ | refine r_nilCheck rfl ?_ | refine r_pick_t rfl ?_ | refine r_pick_f rfl ?_ | refine r_ext rfl rfl ?_ | refine wl_run rfl rfl ?_ | refine wl_pass rfl rfl rfl ?_ | refine wl_dead rfl rfl ?_ | refine wl_if_t rfl rfl (fun hcd => ?_) (fun hcd => ?_) | refine wl_if_f rfl rfl (fun hcd => ?_) (fun hcd => ?_) | refine wc_cond_t rfl ?_ | refine wc_cond_f rfl ?_ | refine wc_cond_d rfl (fun hcd => ?_) (fun hcd => ?_) | refine wc_skip ?_ | refine wc_block ?_ | refine wc_exit ?_ | refine wc_ret ?_ | refine thenQ_ret ?_ | refine thenQ_exit ?_ | refine inBl_here ?_ | refine inBl_out rfl ?_ | refine inBl_normal ?_ | refine inBl_ret ?_)
      refine r_st_i (i := i) (e := 3) (base := w.heap.size) rfl hL2 rfl rfl (by omega) fun w3 h3 hg3 hs3 => ?_
      have hC3 : Ch (fun k => w.heap.size ≤ k) wk2 w3 := Ch.grown hg3 (by intro k hk; cases hk; exact Nat.le_refl _)
      have hE3 : Ext w w3 := Ch.ext_new hE2 hC3 (Nat.le_refl _)
      have hR3 := hR0.ext hE3
      have hv2 : (L2.set i (rsum T i k + ent T i k)).getD (T.length + k) 0 = csum T k i := by
        rw [getD_set (by omega), if_neg (by omega), hS2.2.2 k hkT]; simp
      have hr2 := h3.ints.rd (i := T.length + k) (by simp; omega)
      rw [hv2] at hr2
      repeat' (first | refine wl_plain ?_ | refine r_move_v (v := .int _ _) rfl ?_ | refine r_move_v (v := .slice _ _ _) rfl ?_ | refine r_move_v (v := .bool _) rfl ?_ | refine r_move_v (v := .pointer _) rfl ?_ | refine r_move_v (v := .map _) rfl ?_ | refine r_move ?_ | refine r_assign_v (v := .int _ _) rfl ?_ | refine r_assign_v (v := .slice _ _ _) rfl ?_ | refine r_assign_v (v := .bool _) rfl ?_ | refine r_assign_v (v := .pointer _) rfl ?_ | refine r_assign_v (v := .map _) rfl ?_ | refine r_assign ?_ | refine wl_nil ?_ | refine wc_seq ?_ | refine thenQ_normal ?_ | refine wc_region ?_ | refine r_lss rfl rfl ?_ | refine r_eql rfl rfl ?_ | refine r_neq rfl rfl ?_ | refine r_leq rfl rfl ?_ | refine r_gtr rfl rfl ?_ | refine r_geq rfl rfl ?_ | refine r_add_in rfl rfl (by omega) ?_ | refine r_sub_in rfl rfl (by omega) ?_ | refine r_len rfl rfl ?_ | (refine r_idx (sz := 1) rfl rfl rfl (by first | rfl | assumption) (by omega) (by omega) ?_) | (refine r_idx (sz := 2) rfl rfl rfl (by first | rfl | assumption) (by omega) (by omega) ?_) | (refine r_ld rfl rfl (by assumption) ?_) | refine r_not_d rfl ?_ | refine r_not rfl ?_ | refine r_nilCheck rfl ?_ | refine r_pick_t rfl ?_ | refine r_pick_f rfl ?_ | refine r_ext rfl rfl ?_ | refine wl_run rfl rfl ?_ | refine wl_pass rfl rfl rfl ?_ | refine wl_dead rfl rfl ?_ | refine wl_if_t rfl rfl (fun hcd => ?_) (fun hcd => ?_) | refine wl_if_f rfl rfl (fun hcd => ?_) (fun hcd => ?_) | refine wc_cond_t rfl ?_ | refine wc_cond_f rfl ?_ | refine wc_cond_d rfl (fun hcd => ?_) (fun hcd => ?_) | refine wc_skip ?_ | refine wc_block ?_ | refine wc_exit ?_ | refine wc_ret ?_ | refine thenQ_ret ?_ | refine thenQ_exit ?_ | refine inBl_here ?_ | refine inBl_out rfl ?_ | refine inBl_normal ?_ | refine inBl_ret ?_)
      refine r_st_i (i := T.length + k) (e := 3) (base := w.heap.size) rfl h3 rfl rfl (by simp; omega) fun w4 h4 hg4 hs4 => ?_
      have hC4 : Ch (fun k => w.heap.size ≤ k) w3 w4 := Ch.grown hg4 (by intro k hk; cases hk; exact Nat.le_refl _)
      repeat' (first | refine wl_plain ?_ | refine r_move_v (v := .int _ _) rfl ?_ | refine r_move_v (v := .slice _ _ _) rfl ?_ | refine r_move_v (v := .bool _) rfl ?_ | refine r_move_v (v := .pointer _) rfl ?_ | refine r_move_v (v := .map _) rfl ?_ | refine r_move ?_ | refine r_assign_v (v := .int _ _) rfl ?_ | refine r_assign_v (v := .slice _ _ _) rfl ?_ | refine r_assign_v (v := .bool _) rfl ?_ | refine r_assign_v (v := .pointer _) rfl ?_ | refine r_assign_v (v := .map _) rfl ?_ | refine r_assign ?_ | refine wl_nil ?_ | refine wc_seq ?_ | refine thenQ_normal ?_ | refine wc_region ?_ | refine r_lss rfl rfl ?_ | refine r_eql rfl rfl ?_ | refine r_neq rfl rfl ?_ | refine r_leq rfl rfl ?_ | refine r_gtr rfl rfl ?_ | refine r_geq rfl rfl ?_ | refine r_add_in rfl rfl (by omega) ?_ | refine r_sub_in rfl rfl (by omega) ?_ | refine r_len rfl rfl ?_ | (refine r_idx (sz := 1) rfl rfl rfl (by first | rfl | assumption) (by omega) (by omega) ?_) | (refine r_idx (sz := 2) rfl rfl rfl (by first | rfl | assumption) (by omega) (by omega) ?_) | (refine r_ld rfl rfl (by assumption) ?_) | refine r_not_d rfl ?_ | refine r_not rfl ?_ | refine r_nilCheck rfl ?_ | refine r_pick_t rfl ?_ | refine r_pick_f rfl ?_ | refine r_ext rfl rfl ?_ | refine wl_run rfl rfl ?_ | refine wl_pass rfl rfl rfl ?_ | refine wl_dead rfl rfl ?_ | refine wl_if_t rfl rfl (fun hcd => ?_) (fun hcd => ?_) | refine wl_if_f rfl rfl (fun hcd => ?_) (fun hcd => ?_) | refine wc_cond_t rfl ?_ | refine wc_cond_f rfl ?_ | refine wc_cond_d rfl (fun hcd => ?_) (fun hcd => ?_) | refine wc_skip ?_ | refine wc_block ?_ | refine wc_exit ?_ | refine wc_ret ?_ | refine thenQ_ret ?_ | refine thenQ_exit ?_ | refine inBl_here ?_ | refine inBl_out rfl ?_ | refine inBl_normal ?_ | refine inBl_ret ?_)
      exact ⟨k + 1, ⟨rfl, trivial⟩, ⟨by omega, ⟨_, h4, sums_step hS2 hiT hkT⟩, Ch.ext_new hE3 hC4 (Nat.le_refl _)⟩, by omega⟩
    · have hkn : k = T.length := by omega
      subst hkn
      repeat' (first | refine wl_plain ?_ | refine r_move_v (v := .int _ _) rfl ?_ | refine r_move_v (v := .slice _ _ _) rfl ?_ | refine r_move_v (v := .bool _) rfl ?_ | refine r_move_v (v := .pointer _) rfl ?_ | refine r_move_v (v := .map _) rfl ?_ | refine r_move ?_ | refine r_assign_v (v := .int _ _) rfl ?_ | refine r_assign_v (v := .slice _ _ _) rfl ?_ | refine r_assign_v (v := .bool _) rfl ?_ | refine r_assign_v (v := .pointer _) rfl ?_ | refine r_assign_v (v := .map _) rfl ?_ | refine r_assign ?_ | refine wl_nil ?_ | refine wc_seq ?_ | refine thenQ_normal ?_ | refine wc_region ?_ | refine r_lss rfl rfl ?_ | refine r_eql rfl rfl ?_ | refine r_neq rfl rfl ?_ | refine r_leq rfl rfl ?_ | refine r_gtr rfl rfl ?_ | refine r_geq rfl rfl ?_ | refine r_add_in rfl rfl (by omega) ?_ | refine r_sub_in rfl rfl (by omega) ?_ | refine r_len rfl rfl ?_ | (refine r_idx (sz := 1) rfl rfl rfl (by first | rfl | assumption) (by omega) (by omega) ?_) | (refine r_idx (sz := 2) rfl rfl rfl (by first | rfl | assumption) (by omega) (by omega) ?_) | (refine r_ld rfl rfl (by assumption) ?_) | refine r_not_d rfl ?_ | refine r_not rfl ?_ | refine r_nilCheck rfl ?_ | refine r_pick_t rfl ?_ | refine r_pick_f rfl ?_ | refine r_ext rfl rfl ?_ | refine wl_run rfl rfl ?_ | refine wl_pass rfl rfl rfl ?_ | refine wl_dead rfl rfl ?_ | refine wl_if_t rfl rfl (fun hcd => ?_) (fun hcd => ?_) | refine wl_if_f rfl rfl (fun hcd => ?_) (fun hcd => ?_) | refine wc_cond_t rfl ?_ | refine wc_cond_f rfl ?_ | refine wc_cond_d rfl (fun hcd => ?_) (fun hcd => ?_) | refine wc_skip ?_ | refine wc_block ?_ | refine wc_exit ?_ | refine wc_ret ?_ | refine thenQ_ret ?_ | refine thenQ_exit ?_ | refine inBl_here ?_ | refine inBl_out rfl ?_ | refine inBl_normal ?_ | refine inBl_ret ?_)
      exact ⟨i + 1, ⟨rfl, trivial⟩, ⟨by omega, ⟨L2, hL2, sums_row hS2⟩, hE2⟩, by omega⟩
  · have hin : i = T.length := by omega
    subst hin
    have hsl := hS.1
    have hLI := hL.ints.ext (Ext.drew wk)
    have hr0 := hLI.rd (i := 0) (by omega)
    have hv0 : L.getD 0 0 = rsum T 0 T.length := by rw [hS.2.1 0 hpos, if_pos hpos]
    rw [hv0] at hr0
    (refine wc_drawn 9 (by kernel_rfl) (by kernel_rfl) ?_; simp only [List.take_succ_cons, List.take_zero, List.drop_succ_cons, List.drop_zero])
    repeat' (first | refine wl_plain ?_ | refine r_move_v (v := .int _ _) rfl ?_ | refine r_move_v (v := .slice _ _ _) rfl ?_ | refine r_move_v (v := .bool _) rfl ?_ | refine r_move_v (v := .pointer _) rfl ?_ | refine r_move_v (v := .map _) rfl ?_ | refine r_move ?_ | refine r_assign_v (v := .int _ _) rfl ?_ | refine r_assign_v (v := .slice _ _ _) rfl ?_ | refine r_assign_v (v := .bool _) rfl ?_ | refine r_assign_v (v := .pointer _) rfl ?_ | refine r_assign_v (v := .map _) rfl ?_ | refine r_assign ?_ | refine wl_nil ?_ | refine wc_seq ?_ | refine thenQ_normal ?_ | refine wc_region ?_ | refine r_lss rfl rfl ?_ | refine r_eql rfl rfl ?_ | refine r_neq rfl rfl ?_ | refine r_leq rfl rfl ?_ | refine r_gtr rfl rfl ?_ | refine r_geq rfl rfl ?_ | refine r_add_in rfl rfl (by omega) ?_ | refine r_sub_in rfl rfl (by omega) ?_ | refine r_len rfl rfl ?_ | (refine r_idx (sz := 1) rfl rfl rfl (by first | rfl | assumption) (by omega) (by omega) ?_) | (refine r_idx (sz := 2) rfl rfl rfl (by first | rfl | assumption) (by omega) (by omega) ?_) | (refine r_ld rfl rfl (by assumption) ?_) | refine r_not_d rfl ?_ | refine r_not rfl ?_ | refine r_nilCheck rfl ?_ | refine r_pick_t rfl ?_ | refine r_pick_f rfl ?_ | refine r_ext rfl rfl ?_ | refine wl_run rfl rfl ?_ | refine wl_pass rfl rfl rfl ?_ | refine wl_dead rfl rfl ?_ | refine wl_if_t rfl rfl (fun hcd => ?_) (fun hcd => ?_) | refine wl_if_f rfl rfl (fun hcd => ?_) (fun hcd => ?_) | refine wc_cond_t rfl ?_ | refine wc_cond_f rfl ?_ | refine wc_cond_d rfl (fun hcd => ?_) (fun hcd => ?_) | refine wc_skip ?_ | refine wc_block ?_ | refine wc_exit ?_ | refine wc_ret ?_ | refine thenQ_ret ?_ | refine thenQ_exit ?_ | refine inBl_here ?_ | refine inBl_out rfl ?_ | refine inBl_normal ?_ | refine inBl_ret ?_)
    (refine r_call_q (v := ?_) rfl ?_ ?_; rotate_left 1; focus exact max_any _ L _ hLI (by omega) (by omega))
    repeat' (first | refine wl_plain ?_ | refine r_move_v (v := .int _ _) rfl ?_ | refine r_move_v (v := .slice _ _ _) rfl ?_ | refine r_move_v (v := .bool _) rfl ?_ | refine r_move_v (v := .pointer _) rfl ?_ | refine r_move_v (v := .map _) rfl ?_ | refine r_move ?_ | refine r_assign_v (v := .int _ _) rfl ?_ | refine r_assign_v (v := .slice _ _ _) rfl ?_ | refine r_assign_v (v := .bool _) rfl ?_ | refine r_assign_v (v := .pointer _) rfl ?_ | refine r_assign_v (v := .map _) rfl ?_ | refine r_assign ?_ | refine wl_nil ?_ | refine wc_seq ?_ | refine thenQ_normal ?_ | refine wc_region ?_ | refine r_lss rfl rfl ?_ | refine r_eql rfl rfl ?_ | refine r_neq rfl rfl ?_ | refine r_leq rfl rfl ?_ | refine r_gtr rfl rfl ?_ | refine r_geq rfl rfl ?_ | refine r_add_in rfl rfl (by omega) ?_ | refine r_sub_in rfl rfl (by omega) ?_ | refine r_len rfl rfl ?_ | (refine r_idx (sz := 1) rfl rfl rfl (by first | rfl | assumption) (by omega) (by omega) ?_) | (refine r_idx (sz := 2) rfl rfl rfl (by first | rfl | assumption) (by omega) (by omega) ?_) | (refine r_ld rfl rfl (by assumption) ?_) | refine r_not_d rfl ?_ | refine r_not rfl ?_ | refine r_nilCheck rfl ?_ | refine r_pick_t rfl ?_ | refine r_pick_f rfl ?_ | refine r_ext rfl rfl ?_ | refine wl_run rfl rfl ?_ | refine wl_pass rfl rfl rfl ?_ | refine wl_dead rfl rfl ?_ | refine wl_if_t rfl rfl (fun hcd => ?_) (fun hcd => ?_) | refine wl_if_f rfl rfl (fun hcd => ?_) (fun hcd => ?_) | refine wc_cond_t rfl ?_ | refine wc_cond_f rfl ?_ | refine wc_cond_d rfl (fun hcd => ?_) (fun hcd => ?_) | refine wc_skip ?_ | refine wc_block ?_ | refine wc_exit ?_ | refine wc_ret ?_ | refine thenQ_ret ?_ | refine thenQ_exit ?_ | refine inBl_here ?_ | refine inBl_out rfl ?_ | refine inBl_normal ?_ | refine inBl_ret ?_)
    (refine r_call_q (v := ?_) rfl ?_ ?_; rotate_left 1; focus exact min_any _ L _ hLI (by omega) (by omega))
    repeat' (first | refine wl_plain ?_ | refine r_move_v (v := .int _ _) rfl ?_ | refine r_move_v (v := .slice _ _ _) rfl ?_ | refine r_move_v (v := .bool _) rfl ?_ | refine r_move_v (v := .pointer _) rfl ?_ | refine r_move_v (v := .map _) rfl ?_ | refine r_move ?_ | refine r_assign_v (v := .int _ _) rfl ?_ | refine r_assign_v (v := .slice _ _ _) rfl ?_ | refine r_assign_v (v := .bool _) rfl ?_ | refine r_assign_v (v := .pointer _) rfl ?_ | refine r_assign_v (v := .map _) rfl ?_ | refine r_assign ?_ | refine wl_nil ?_ | refine wc_seq ?_ | refine thenQ_normal ?_ | refine wc_region ?_ | refine r_lss rfl rfl ?_ | refine r_eql rfl rfl ?_ | refine r_neq rfl rfl ?_ | refine r_leq rfl rfl ?_ | refine r_gtr rfl rfl ?_ | refine r_geq rfl rfl ?_ | refine r_add_in rfl rfl (by omega) ?_ | refine r_sub_in rfl rfl (by omega) ?_ | refine r_len rfl rfl ?_ | (refine r_idx (sz := 1) rfl rfl rfl (by first | rfl | assumption) (by omega) (by omega) ?_) | (refine r_idx (sz := 2) rfl rfl rfl (by first | rfl | assumption) (by omega) (by omega) ?_) | (refine r_ld rfl rfl (by assumption) ?_) | refine r_not_d rfl ?_ | refine r_not rfl ?_ | refine r_nilCheck rfl ?_ | refine r_pick_t rfl ?_ | refine r_pick_f rfl ?_ | refine r_ext rfl rfl ?_ | refine wl_run rfl rfl ?_ | refine wl_pass rfl rfl rfl ?_ | refine wl_dead rfl rfl ?_ | refine wl_if_t rfl rfl (fun hcd => ?_) (fun hcd => ?_) | refine wl_if_f rfl rfl (fun hcd => ?_) (fun hcd => ?_) | refine wc_cond_t rfl ?_ | refine wc_cond_f rfl ?_ | refine wc_cond_d rfl (fun hcd => ?_) (fun hcd => ?_) | refine wc_skip ?_ | refine wc_block ?_ | refine wc_exit ?_ | refine wc_ret ?_ | refine thenQ_ret ?_ | refine thenQ_exit ?_ | refine inBl_here ?_ | refine inBl_out rfl ?_ | refine inBl_normal ?_ | refine inBl_ret ?_)
    refine post2 (v1 := .int .i64 (rsum T 0 T.length)) (v2 := .bool (decide (maxL L = minL L))) rfl rfl rfl ?_
    refine ⟨?_, hE.trans (Ext.drew wk)⟩
    rw [decide_eq_decide.2 (sums_level hS hpos)]
set_option maxHeartbeats 400000 in
theorem Level_any (v : Value) (T : List (List Int)) (w : World) (h : Tab w v T) (hm : T.length < 9223372036854775807) (hm2 : ∀ l ∈ T, l.length < 9223372036854775807) :
    Calls Try.prog 25 #[v] w (Ret fun v w' => v = (if IsTab T then (if IsLevel T then .tuple #[.int .i64 (rsum T 0 T.length), .bool true, .int .i64 0] else .tuple #[.int .i64 0, .bool false, .int .i64 0]) else .tuple #[.int .i64 0, .bool false, .int .i64 2]) ∧ Ext w w') := by
  obtain ⟨q, c0, rfl, hqc⟩ := h.slice
  refine calls_of_wc (args := [.slice q T.length c0]) Try.func25 rfl ?_ ?_; kernel_rfl
  repeat' (first | refine wl_plain ?_ | refine r_move_v (v := .int _ _) rfl ?_ | refine r_move_v (v := .slice _ _ _) rfl ?_ | refine r_move_v (v := .bool _) rfl ?_ | refine r_move_v (v := .pointer _) rfl ?_ | refine r_move_v (v := .map _) rfl ?_ | refine r_move ?_ | refine r_assign_v (v := .int _ _) rfl ?_ | refine r_assign_v (v := .slice _ _ _) rfl ?_ | refine r_assign_v (v := .bool _) rfl ?_ | refine r_assign_v (v := .pointer _) rfl ?_ | refine r_assign_v (v := .map _) rfl ?_ | refine r_assign ?_ | refine wl_nil ?_ | refine wc_seq ?_ | refine thenQ_normal ?_ | refine wc_region ?_ | refine r_lss rfl rfl ?_ | refine r_eql rfl rfl ?_ | refine r_neq rfl rfl ?_ | refine r_leq rfl rfl ?_ | refine r_gtr rfl rfl ?_ | refine r_geq rfl rfl ?_ | refine r_add_in rfl rfl (by omega) ?_ | refine r_sub_in rfl rfl (by omega) ?_ | refine r_len rfl rfl ?_ | (refine r_idx (sz := 1) rfl rfl rfl (by first | rfl | assumption) (by omega) (by omega) ?_) | (refine r_idx (sz := 2) rfl rfl rfl (by first | rfl | assumption) (by omega) (by omega) ?_) | (refine r_ld rfl rfl (by assumption) ?_) | refine r_not_d rfl ?_ | refine r_not rfl ?_ | refine r_nilCheck rfl ?_ | refine r_pick_t rfl ?_ | refine r_pick_f rfl ?_ | refine r_ext rfl rfl ?_ | refine wl_run rfl rfl ?_ | refine wl_pass rfl rfl rfl ?_ | refine wl_dead rfl rfl ?_ | refine wl_if_t rfl rfl (fun hcd => ?_) (fun hcd => ?_) | refine wl_if_f rfl rfl (fun hcd => ?_) (fun hcd => ?_) | refine wc_cond_t rfl ?_ | refine wc_cond_f rfl ?_ | refine wc_cond_d rfl (fun hcd => ?_) (fun hcd => ?_) | refine wc_skip ?_ | refine wc_block ?_ | refine wc_exit ?_ | refine wc_ret ?_ | refine thenQ_ret ?_ | refine thenQ_exit ?_ | refine inBl_here ?_ | refine inBl_out rfl ?_ | refine inBl_normal ?_ | refine inBl_ret ?_)
  (refine r_call (R := ?_) rfl ?_ ?_; rotate_left 1; focus exact isTable_any _ T _ h hm hm2)
  rintro v w1 ⟨rfl, hE1⟩
  repeat' (first | refine wl_plain ?_ | refine r_move_v (v := .int _ _) rfl ?_ | refine r_move_v (v := .slice _ _ _) rfl ?_ | refine r_move_v (v := .bool _) rfl ?_ | refine r_move_v (v := .pointer _) rfl ?_ | refine r_move_v (v := .map _) rfl ?_ | refine r_move ?_ | refine r_assign_v (v := .int _ _) rfl ?_ | refine r_assign_v (v := .slice _ _ _) rfl ?_ | refine r_assign_v (v := .bool _) rfl ?_ | refine r_assign_v (v := .pointer _) rfl ?_ | refine r_assign_v (v := .map _) rfl ?_ | refine r_assign ?_ | refine wl_nil ?_ | refine wc_seq ?_ | refine thenQ_normal ?_ | refine wc_region ?_ | refine r_lss rfl rfl ?_ | refine r_eql rfl rfl ?_ | refine r_neq rfl rfl ?_ | refine r_leq rfl rfl ?_ | refine r_gtr rfl rfl ?_ | refine r_geq rfl rfl ?_ | refine r_add_in rfl rfl (by omega) ?_ | refine r_sub_in rfl rfl (by omega) ?_ | refine r_len rfl rfl ?_ | (refine r_idx (sz := 1) rfl rfl rfl (by first | rfl | assumption) (by omega) (by omega) ?_) | (refine r_idx (sz := 2) rfl rfl rfl (by first | rfl | assumption) (by omega) (by omega) ?_) | (refine r_ld rfl rfl (by assumption) ?_) | refine r_not_d rfl ?_ | refine r_not rfl ?_ | refine r_nilCheck rfl ?_ | refine r_pick_t rfl ?_ | refine r_pick_f rfl ?_ | refine r_ext rfl rfl ?_ | refine wl_run rfl rfl ?_ | refine wl_pass rfl rfl rfl ?_ | refine wl_dead rfl rfl ?_ | refine wl_if_t rfl rfl (fun hcd => ?_) (fun hcd => ?_) | refine wl_if_f rfl rfl (fun hcd => ?_) (fun hcd => ?_) | refine wc_cond_t rfl ?_ | refine wc_cond_f rfl ?_ | refine wc_cond_d rfl (fun hcd => ?_) (fun hcd => ?_) | refine wc_skip ?_ | refine wc_block ?_ | refine wc_exit ?_ | refine wc_ret ?_ | refine thenQ_ret ?_ | refine thenQ_exit ?_ | refine inBl_here ?_ | refine inBl_out rfl ?_ | refine inBl_normal ?_ | refine inBl_ret ?_)
  · refine post3 (v1 := .int .i64 0) (v2 := .bool false) (v3 := .int .i64 2) rfl rfl rfl rfl ?_
    exact ⟨by rw [if_neg hcd], hE1⟩
  have hT : IsTab T := Decidable.not_not.1 hcd
  (refine r_call (R := ?_) rfl ?_ ?_; rotate_left 1; focus exact level_any _ T _ (h.ext hE1) hT)
  rintro v w2 ⟨rfl, hE2⟩
  repeat' (first | refine wl_plain ?_ | refine r_move_v (v := .int _ _) rfl ?_ | refine r_move_v (v := .slice _ _ _) rfl ?_ | refine r_move_v (v := .bool _) rfl ?_ | refine r_move_v (v := .pointer _) rfl ?_ | refine r_move_v (v := .map _) rfl ?_ | refine r_move ?_ | refine r_assign_v (v := .int _ _) rfl ?_ | refine r_assign_v (v := .slice _ _ _) rfl ?_ | refine r_assign_v (v := .bool _) rfl ?_ | refine r_assign_v (v := .pointer _) rfl ?_ | refine r_assign_v (v := .map _) rfl ?_ | refine r_assign ?_ | refine wl_nil ?_ | refine wc_seq ?_ | refine thenQ_normal ?_ | refine wc_region ?_ | refine r_lss rfl rfl ?_ | refine r_eql rfl rfl ?_ | refine r_neq rfl rfl ?_ | refine r_leq rfl rfl ?_ | refine r_gtr rfl rfl ?_ | refine r_geq rfl rfl ?_ | refine r_add_in rfl rfl (by omega) ?_ | refine r_sub_in rfl rfl (by omega) ?_ | refine r_len rfl rfl ?_ | (refine r_idx (sz := 1) rfl rfl rfl (by first | rfl | assumption) (by omega) (by omega) ?_) | (refine r_idx (sz := 2) rfl rfl rfl (by first | rfl | assumption) (by omega) (by omega) ?_) | (refine r_ld rfl rfl (by assumption) ?_) | refine r_not_d rfl ?_ | refine r_not rfl ?_ | refine r_nilCheck rfl ?_ | refine r_pick_t rfl ?_ | refine r_pick_f rfl ?_ | refine r_ext rfl rfl ?_ | refine wl_run rfl rfl ?_ | refine wl_pass rfl rfl rfl ?_ | refine wl_dead rfl rfl ?_ | refine wl_if_t rfl rfl (fun hcd => ?_) (fun hcd => ?_) | refine wl_if_f rfl rfl (fun hcd => ?_) (fun hcd => ?_) | refine wc_cond_t rfl ?_ | refine wc_cond_f rfl ?_ | refine wc_cond_d rfl (fun hcd => ?_) (fun hcd => ?_) | refine wc_skip ?_ | refine wc_block ?_ | refine wc_exit ?_ | refine wc_ret ?_ | refine thenQ_ret ?_ | refine thenQ_exit ?_ | refine inBl_here ?_ | refine inBl_out rfl ?_ | refine inBl_normal ?_ | refine inBl_ret ?_)
  · rename_i hcd2
    refine post3 (v1 := .int .i64 0) (v2 := .bool false) (v3 := .int .i64 0) rfl rfl rfl rfl ?_
    exact ⟨by rw [if_pos hT, if_neg (by assumption)], hE1.trans hE2⟩
  · refine post3 (v1 := .int .i64 (rsum T 0 T.length)) (v2 := .bool true) (v3 := .int .i64 0) rfl rfl rfl rfl ?_
    exact ⟨by rw [if_pos hT, if_pos (Decidable.not_not.1 (by assumption))], hE1.trans hE2⟩
end Go.Proofs.Ytdpckinhoooigaa

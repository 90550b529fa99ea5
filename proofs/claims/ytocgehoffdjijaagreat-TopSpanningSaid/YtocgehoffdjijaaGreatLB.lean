/- top: seals: areCuts, shares, isFair; top: seals: lists. -/
import Derived.Test.YtocgehoffdjijaaGreatLA
/- top: seals: areCuts, shares, isFair. -/
namespace Go.Proofs.YtocgehoffdjijaaGreat
open Gv
set_option maxRecDepth 20000
def ni (L : List Nat) : List Int := L.map fun (n : Nat) => (n : Int)
theorem ni_len (L : List Nat) : (ni L).length = L.length := by simp [ni]
theorem ni_get (L : List Nat) (i : Nat) : (ni L).getD i 0 = ((L.getD i 0 : Nat) : Int) := by
  simp only [ni, List.getD_eq_getElem?_getD, List.getElem?_map]; cases L[i]? <;> rfl
theorem cutsOk_get {s : Str} : ∀ {L : List Nat} {a : Nat}, cutsOk s L a = true → ∀ i, i < L.length → a ≤ L.getD i 0 ∧ L.getD i 0 + 1 ≤ s.length ∧ (0 < i → L.getD (i - 1) 0 < L.getD i 0)
  | [], _, _, i, hi => by simp at hi
  | c :: r, a, h, i, hi => by
    simp only [cutsOk, Bool.and_eq_true, decide_eq_true_eq] at h
    obtain ⟨⟨h1, h2⟩, h3⟩ := h
    cases i with
    | zero => exact ⟨h1, h2, fun h => absurd h (Nat.lt_irrefl 0)⟩
    | succ i =>
      simp only [List.length_cons] at hi
      have ih := cutsOk_get h3 i (by omega)
      refine ⟨?_, ih.2.1, fun _ => ?_⟩
      · have := ih.1; simp only [List.getD_cons_succ]; omega
      · cases i with
        | zero => have := ih.1; simp only [List.getD_cons_succ, Nat.add_sub_cancel, List.getD_cons_zero]; omega
        | succ i => have := ih.2.2 (by omega); simpa using this
theorem within84 (n lo hi : Int) (w : World) (h1 : lo ≤ n) (h2 : n ≤ hi) : Calls Tryz.prog 84 #[.int .i64 n, .int .i64 lo, .int .i64 hi] w (Ret fun v w' => v = .bool true ∧ w' = w) := by
  refine calls_of_wc (args := [.int .i64 n, .int .i64 lo, .int .i64 hi]) Tryz.func84 rfl ?_ ?_; kernel_rfl
  repeat' (first|refine za ?_|refine zA ?_|refine zB ?_|refine zb ?_|refine zc ?_|refine ze ?_|refine zd ?_|refine zD ?_|refine zF ?_|refine zQ ?_|refine zU ?_|refine zn ?_)
  refine post1 (v := .bool true) rfl rfl ?_
  exact ⟨rfl, rfl⟩
set_option maxHeartbeats 1000000 in
theorem areCuts_any (s : Str) (v : Value) (L : List Nat) (w : World) (h : Ints w v (ni L)) (hs : s.length ≤ 1000) (hc : cutsOk s L 1 = true) (hL : L.length ≤ 1000) :
    Calls Tryz.prog 42 #[str s, v, .int .i64 1] w (Ret fun v w' => v = .bool true ∧ w' = w) := by
  obtain ⟨q, c, rfl, hqc⟩ := h.slice
  rw [ni_len] at h hqc ⊢
  refine calls_of_wc (args := [str s, .slice q L.length c, .int .i64 1]) Tryz.func42 rfl ?_ ?_; kernel_rfl
  repeat' (first|refine za ?_|refine zA ?_|refine zB ?_|refine zb ?_|refine zc ?_|refine ze ?_|refine zd ?_|refine zK ?_|refine zl ?_)
  refine wc_loop [0, 1, 2, 9, 10] (fun (k : Nat) => [(11, .int .i64 k)]) (fun k wk => wk = w ∧ k ≤ L.length) (fun k => L.length - k) 0 rfl ⟨rfl, trivial⟩ ⟨rfl, by omega⟩ ?_
  rintro k wk x ⟨rfl, hk⟩
  by_cases hin : k < L.length
  · have hps := h.isSome (by rw [ni_len]; omega)
    have hrd := h.rd (i := k) (by rw [ni_len]; omega)
    obtain ⟨g1, g2, g3⟩ := cutsOk_get hc k hin
    rw [ni_get] at hrd
    by_cases hk0 : 0 < k
    · have hr2 := h.rd (i := k - 1) (by rw [ni_len]; omega)
      rw [ni_get] at hr2
      have g3 := g3 hk0
      have hr2 : rd wk (pidx q ((k : Int) - 1).toNat 1) = some (.int .i64 ((L.getD (k - 1) 0 : Nat) : Int)) := by rw [show ((k : Int) - 1).toNat = k - 1 by omega]; exact hr2
      repeat' (first|refine za ?_|refine zA ?_|refine zB ?_|refine zb ?_|refine zc ?_|refine ze ?_|refine zd ?_|refine zC ?_|refine zL ?_|refine zM ?_|refine zX ?_|refine zk ?_|refine zl ?_)
      refine r_slen st9 (a := s) rfl ?_
      repeat' (first|refine za ?_|refine zJ ?_)
      (refine r_call_q (v := ?_) rfl ?_ ?_; rotate_left 1; focus exact within84 ((L.getD k 0 : Nat) : Int) 1 ((s.length : Int) - 1) _ (by omega) (by omega))
      repeat' (first|refine za ?_|refine zA ?_|refine zb ?_|refine ze ?_|refine zd ?_|refine zE ?_|refine zF ?_|refine zI ?_|refine zJ ?_|refine zL ?_|refine zM ?_|refine zO ?_|refine zQ ?_|refine zR ?_|refine zU ?_|refine zY ?_|refine zk ?_|refine zh ?_)
      exact ⟨k + 1, ⟨rfl, trivial⟩, ⟨rfl, by omega⟩, by omega⟩
    · repeat' (first|refine za ?_|refine zA ?_|refine zB ?_|refine zb ?_|refine zc ?_|refine ze ?_|refine zd ?_|refine zC ?_|refine zL ?_|refine zM ?_|refine zX ?_|refine zk ?_|refine zl ?_)
      refine r_slen st9 (a := s) rfl ?_
      repeat' (first|refine za ?_|refine zJ ?_)
      (refine r_call_q (v := ?_) rfl ?_ ?_; rotate_left 1; focus exact within84 ((L.getD k 0 : Nat) : Int) 1 ((s.length : Int) - 1) _ (by omega) (by omega))
      repeat' (first|refine za ?_|refine zA ?_|refine zb ?_|refine ze ?_|refine zd ?_|refine zE ?_|refine zI ?_|refine zO ?_|refine zR ?_|refine zU ?_|refine zV ?_|refine zY ?_|refine zk ?_|refine zh ?_)
      exact ⟨k + 1, ⟨rfl, trivial⟩, ⟨rfl, by omega⟩, by omega⟩
  · repeat' (first|refine za ?_|refine zB ?_|refine zb ?_|refine zc ?_|refine ze ?_|refine zd ?_|refine zC ?_|refine zY ?_|refine zm ?_|refine zn ?_|refine zg ?_|refine zj ?_)
    refine post1 (v := .bool true) rfl rfl ?_
    exact ⟨rfl, rfl⟩
theorem clone82 (v : Value) (L : List Int) (w : World) (h : Ints w v L) (hb : L.length ≤ 17592186044416) :
    Calls Tryz.prog 82 #[v] w (Ret fun v' w' => OwnI w' w.heap.size 3 v' L ∧ Ext w w') := by
  obtain ⟨q, c, rfl, hqc⟩ := h.slice
  refine calls_of_wc (args := [.slice q L.length c]) Tryz.func82 rfl ?_ ?_; kernel_rfl
  repeat' (first|refine za ?_|refine zA ?_|refine zB ?_|refine zb ?_|refine zc ?_|refine ze ?_|refine zd ?_)
  refine r_eqnil rfl rfl rfl ?_
  repeat' (first|refine zb ?_|refine ze ?_)
  refine wc_cond_b rfl (fun hq => ?_) (fun hq => ?_)
  · repeat' (first|refine za ?_|refine zB ?_|refine zb ?_|refine zc ?_|refine ze ?_|refine zd ?_|refine zn ?_|refine zf ?_)
    refine post1 (v := .slice none 0 0) rfl rfl ?_
    have : L = [] := by
      cases L with
      | nil => rfl
      | cons a l => have := h.isSome (by simp); simp [this] at hq
    subst this
    exact ⟨World.ownsRow_nil _ _ _ _, Ext.refl _⟩
  · repeat' (first|refine za ?_|refine zc ?_|refine ze ?_|refine zd ?_|refine zk ?_)
    refine r_buildS0 el27 fun w1 h1 hE1 => ?_
    repeat' (first|refine za ?_|refine zA ?_)
    refine r_append_i (A := []) (base := w.heap.size) el27 h1 (h.ext hE1) rfl rfl (by simp; omega) hE1.size ?_
    intro v' w2 h2 h3 _ _
    repeat' (first|refine za ?_|refine zB ?_|refine zb ?_|refine ze ?_|refine zn ?_)
    refine post1 (v := v') rfl rfl ?_
    exact ⟨by simpa using h2, Ch.trans' hE1 (Ch.grown h3 (S := fun k => k = w.heap.size) (by intro k hk; cases hk; rfl)) fun k hk e => by omega⟩
/-- The pieces that have come, and those to come. -/
def shI (s : Str) (L : List Nat) (i at_ : Nat) (a b : Str) : Prop :=
  (if i % 2 = 0 then (a ++ (shs s (L.drop i) at_).1, b ++ (shs s (L.drop i) at_).2) else (a ++ (shs s (L.drop i) at_).2, b ++ (shs s (L.drop i) at_).1)) = shs s L 0
theorem shI_zero (s : Str) (L : List Nat) : shI s L 0 0 [] [] := by simp [shI]
theorem shI_even {s : Str} {L : List Nat} {i at_ : Nat} {a b : Str} (h : shI s L i at_ a b) (hi : i < L.length) (he : i % 2 = 0) : shI s L (i + 1) (L.getD i 0) (a ++ (s.drop at_).take (L.getD i 0 - at_)) b := by
  unfold shI at h ⊢
  rw [if_pos he, List.drop_eq_getElem_cons hi] at h
  rw [if_neg (by omega), ← h, show L.getD i 0 = L[i] by simp [List.getD, hi]]
  simp only [shs, List.append_assoc]
theorem shI_odd {s : Str} {L : List Nat} {i at_ : Nat} {a b : Str} (h : shI s L i at_ a b) (hi : i < L.length) (he : ¬ i % 2 = 0) : shI s L (i + 1) (L.getD i 0) a (b ++ (s.drop at_).take (L.getD i 0 - at_)) := by
  unfold shI at h ⊢
  rw [if_neg he, List.drop_eq_getElem_cons hi] at h
  rw [if_pos (by omega), ← h, show L.getD i 0 = L[i] by simp [List.getD, hi]]
  simp only [shs, List.append_assoc]
theorem shI_endE {s : Str} {L : List Nat} {at_ : Nat} {a b : Str} (h : shI s L L.length at_ a b) (he : L.length % 2 = 0) : shs s L 0 = (a ++ (s.drop at_).take (s.length - at_), b) := by
  unfold shI at h
  rw [if_pos he, List.drop_length] at h
  rw [← h]
  simp only [shs, List.append_nil]
  rw [List.take_of_length_le (by simp)]
theorem shI_endO {s : Str} {L : List Nat} {at_ : Nat} {a b : Str} (h : shI s L L.length at_ a b) (he : ¬ L.length % 2 = 0) : shs s L 0 = (a, b ++ (s.drop at_).take (s.length - at_)) := by
  unfold shI at h
  rw [if_neg he, List.drop_length] at h
  rw [← h]
  simp only [shs, List.append_nil]
  rw [List.take_of_length_le (by simp)]
theorem z185 : (Tryz.prog.info? 185).bind (·.zero) = some (.agg [str [], str []].toArray) := by kernel_rfl
theorem as185 : arrSz Tryz.prog 185 = some (2, 1) := by kernel_rfl
theorem ct9 : cellT Tryz.prog 9 = true := by kernel_rfl
theorem co9 : Tryz.prog.cellsOf 9 = 1 := by kernel_rfl
theorem cutsOk_mono {s : Str} {L : List Nat} {a : Nat} (h : cutsOk s L a = true) : ∀ d i, i + d < L.length → L.getD i 0 ≤ L.getD (i + d) 0
  | 0, _, _ => Nat.le_refl _
  | d + 1, i, hi => by
    have ih := cutsOk_mono h d i (by omega)
    have := (cutsOk_get h (i + (d + 1)) hi).2.2 (by omega)
    rw [show i + (d + 1) - 1 = i + d by omega] at this
    omega
def nxS (s : Str) (L : List Nat) (i : Nat) : Nat := if i < L.length then L.getD i 0 else s.length
theorem nxS_get (s : Str) (L : List Nat) {i : Nat} (h : i < L.length + 1) : (ni L ++ [(s.length : Int)]).getD i 0 = (nxS s L i : Int) := by
  unfold nxS
  by_cases hi : i < L.length
  · rw [if_pos hi, ← ni_get, List.getD_eq_getElem?_getD, List.getD_eq_getElem?_getD, List.getElem?_append_left (by rw [ni_len]; exact hi)]
  · rw [if_neg hi]
    obtain rfl : i = L.length := by omega
    rw [List.getD_eq_getElem?_getD, List.getElem?_append_right (by rw [ni_len]; omega), ni_len]
    simp
/-- What holds between two rounds of 'shares'. -/
structure ShW (s : Str) (L : List Nat) (b : Nat) (q : Option Addr) (c i at_ : Nat) (A B : Str) (w0 wk : World) : Prop where
  ile : i ≤ L.length + 1
  blk : Blk wk b 185 [str A, str B]
  ints : Ints wk (.slice q (L.length + 1) c) (ni L ++ [(s.length : Int)])
  inv : i ≤ L.length → shI s L i at_ A B ∧ at_ ≤ s.length ∧ A.length + B.length ≤ at_ ∧ ∀ j, i ≤ j → j < L.length → at_ ≤ L.getD j 0
  fin : i = L.length + 1 → shs s L 0 = (A, B)
  ch : Ch (fun k => k = b) w0 wk
theorem ShW.nx {s : Str} {L : List Nat} {b : Nat} {q : Option Addr} {c i at_ : Nat} {A B : Str} {w0 wk : World} (h : ShW s L b q c i at_ A B w0 wk) (hc : cutsOk s L 1 = true) (hi : i < L.length + 1) : at_ ≤ nxS s L i ∧ nxS s L i ≤ s.length := by
  obtain ⟨_, h2, _, h4⟩ := h.inv (by omega)
  unfold nxS
  by_cases hil : i < L.length
  · rw [if_pos hil]; exact ⟨h4 i (Nat.le_refl _) hil, by have := (cutsOk_get hc i hil).2.1; omega⟩
  · rw [if_neg hil]; exact ⟨h2, Nat.le_refl _⟩
theorem ShW.step {s : Str} {L : List Nat} {b : Nat} {q : Option Addr} {c i at_ : Nat} {A B A' B' : Str} {w0 wk w' : World} (h : ShW s L b q c i at_ A B w0 wk) (hc : cutsOk s L 1 = true) (hi : i < L.length + 1)
    (hA : A' = if i % 2 = 0 then A ++ (s.drop at_).take (nxS s L i - at_) else A) (hB : B' = if i % 2 = 0 then B else B ++ (s.drop at_).take (nxS s L i - at_)) (hb : Blk w' b 185 [str A', str B']) (hC : Ch (fun k => k = b) wk w')
    (hq : ∀ g, (Value.slice q (L.length + 1) c).ownBlock = some g → g ≠ b) : ShW s L b q c (i + 1) (nxS s L i) A' B' w0 w' := by
  have hnx := h.nx hc hi
  obtain ⟨h1, h2, h3, h4⟩ := h.inv (by omega)
  refine ⟨by omega, hb, h.ints.keep hC fun g hg e => hq g hg e, fun hil => ⟨?_, hnx.2, ?_, fun j hj hjl => ?_⟩, fun he => ?_, h.ch.trans hC⟩
  · have e : nxS s L i = L.getD i 0 := by unfold nxS; rw [if_pos (by omega)]
    rw [hA, hB, e]
    by_cases hp : i % 2 = 0
    · rw [if_pos hp, if_pos hp]; exact shI_even h1 (by omega) hp
    · rw [if_neg hp, if_neg hp]; exact shI_odd h1 (by omega) hp
  · rw [hA, hB]
    split <;> simp only [List.length_append, List.length_take, List.length_drop] <;> omega
  · have e : nxS s L i = L.getD i 0 := by unfold nxS; rw [if_pos (by omega)]
    rw [e]
    have := cutsOk_mono hc (j - i) i (by omega)
    rwa [show i + (j - i) = j by omega] at this
  · obtain rfl : i = L.length := by omega
    have e : nxS s L L.length = s.length := by unfold nxS; rw [if_neg (by omega)]
    rw [hA, hB, e]
    by_cases hp : L.length % 2 = 0
    · rw [if_pos hp, if_pos hp]; exact shI_endE h1 hp
    · rw [if_neg hp, if_neg hp]; exact shI_endO h1 hp
theorem r_rem_v {P : Program} {st : Bool} {K : Env → World → Prop} {ρ : Env} {w : World} {d : Nat} {ty t t2 : TypeId} {pos : String} {aft : Array Edge} {gd : Option (Nat × Bool)} {x y : Operand} {k : IntKind} {a b c : Int} (hx : ev ρ x = .int k a) (hy : ev ρ y = .int k b) (ha : 0 ≤ a) (hb : 0 < b) (hc : a % b = c) (h : K (up ρ d (.int k c)) w) :
    w1 P st ⟨some d, .binOp .rem t x y t2, ty, pos, aft, gd⟩ K ρ w := r_rem_in hx hy ha hb (by rw [hc]; exact h)
theorem r_sadd_v {P : Program} {st : Bool} {K : Env → World → Prop} {ρ : Env} {w : World} {d : Nat} {t t2 ty : TypeId} {pos : String} {aft : Array Edge} {gd : Option (Nat × Bool)} {x y : Operand} {a b c : Str} (hx : ev ρ x = str a) (hy : ev ρ y = str b) (hb : a.length + b.length ≤ 9223372036854775807) (hc : a ++ b = c) (h : K (up ρ d (str c)) w) :
    w1 P st ⟨some d, .binOp .add t x y t2, ty, pos, aft, gd⟩ K ρ w := r_sadd hx hy (by omega) (by rw [hc]; exact h)
theorem r_ssub_v {P : Program} {st : Bool} {K : Env → World → Prop} {ρ : Env} {w : World} {d : Nat} {t ty : TypeId} {pos : String} {aft : Array Edge} {gd : Option (Nat × Bool)} {x z u : Operand} {a c : Str} {i j : Int} {k k' : IntKind} (ht : strT P t = true) (hx : ev ρ x = str a) (hy : ev ρ z = .int k i) (hu : ev ρ u = .int k' j) (h0 : 0 ≤ i) (h1 : i ≤ j) (h2 : j ≤ a.length)
    (hc : (a.drop i.toNat).take (j.toNat - i.toNat) = c) (h : K (up ρ d (str c)) w) : w1 P st ⟨some d, .slice t x (some z) (some u) none, ty, pos, aft, gd⟩ K ρ w := r_ssub ht hx hy hu h0 h1 h2 (by rw [hc]; exact h)
set_option maxHeartbeats 2000000 in
theorem shares_any (s : Str) (v : Value) (L : List Nat) (w : World) (h : Ints w v (ni L)) (hs : s.length ≤ 1000) (hc : cutsOk s L 1 = true) (hL : L.length ≤ 1000) :
    Calls Tryz.prog 83 #[str s, v] w (Ret fun v w' => v = .tuple #[str (shs s L 0).1, str (shs s L 0).2] ∧ Ext w w') := by
  obtain ⟨q, c, rfl, hqc⟩ := h.slice
  rw [ni_len] at h hqc ⊢
  refine calls_of_wc (args := [str s, .slice q L.length c]) Tryz.func83 rfl ?_ ?_; kernel_rfl
  repeat' (first|refine za ?_|refine zB ?_|refine zb ?_|refine zc ?_|refine ze ?_|refine zd ?_)
  refine r_allocN z185 fun w1 hb1 hE1 hs1 => ?_
  obtain ⟨b1, eb1⟩ : ∃ b, b = w.heap.size := ⟨_, rfl⟩
  rw [← eb1] at hb1 ⊢
  repeat' (first|refine za ?_|refine zA ?_|refine zB ?_|refine zb ?_|refine zc ?_|refine ze ?_|refine zd ?_)
  (refine r_call (R := ?_) rfl ?_ ?_; rotate_left 1; focus exact clone82 (.slice q L.length c) (ni L) w1 (h.ext hE1) (by rw [ni_len]; omega))
  rintro vc w2 ⟨hv, hE2⟩
  obtain ⟨q2, c2, rfl, hqc2⟩ := hv.ints.slice
  rw [ni_len] at hv hqc2 ⊢
  repeat' (first|refine za ?_|refine zA ?_)
  refine r_slen st9 (a := s) rfl ?_
  repeat' (refine za ?_)
  refine r_append1_i (a := (s.length : Int)) el27 hv rfl rfl (by rw [ni_len]; omega) hE2.size fun v' w3 qx h3 hG hne hgb => ?_
  obtain ⟨q3, c3, rfl, hqc3⟩ := h3.ints.slice
  rw [List.length_append, ni_len, List.length_singleton] at h3 hqc3 ⊢
  have hE3 : Ext w1 w3 := Ch.trans' hE2 (Ch.grown hG (S := fun k => w1.heap.size ≤ k) fun k e => (hv.lt k e).1) fun k hk e => by omega
  have hq3 : ∀ g, (Value.slice q3 (L.length + 1) c3).ownBlock = some g → g ≠ b1 := fun g hg => by have := (h3.lt g hg).1; omega
  have hb3 := hb1.ext hE3
  have hi3 : Ints w3 (.slice q3 (L.length + 1) c3) (ni L ++ [(s.length : Int)]) := h3.ints
  repeat' (first|refine za ?_|refine zA ?_|refine zb ?_|refine ze ?_|refine zK ?_|refine zl ?_)
  refine wc_loop [0, 1, 6, 15, 16] (fun (z : Nat × Nat) => [(7, .int .i64 z.2), (17, .int .i64 z.1)]) (fun z wk => ∃ A B, ShW s L b1 q3 c3 z.1 z.2 A B w3 wk) (fun z => L.length + 1 - z.1) (0, 0) rfl ⟨rfl, rfl, trivial⟩
    ⟨[], [], ⟨by simp, hb3, hi3, fun _ => ⟨shI_zero s L, by simp, by simp, fun j _ _ => by simp⟩, fun h => by simp at h, Ch.refl _ _⟩⟩ ?_
  rintro ⟨i, at_⟩ wk x ⟨A, B, hW⟩
  dsimp only at hW ⊢
  by_cases hin : i < L.length + 1
  · have hnx := hW.nx hc hin
    obtain ⟨_, h2, h3, _⟩ := hW.inv (by omega)
    have hps := hW.ints.isSome (by simp)
    have hrd := Ints.rd (i := i) (L := ni L ++ [(s.length : Int)]) (n := L.length + 1) hW.ints (by simp [ni_len]; omega)
    rw [nxS_get s L hin] at hrd
    have hstep := fun A' B' w' hA hB hb hC => hW.step (A' := A') (B' := B') (w' := w') hc hin hA hB hb hC hq3
    obtain ⟨nx, hnxe⟩ : ∃ n, n = nxS s L i := ⟨_, rfl⟩
    rw [← hnxe] at hnx hrd hstep
    have hbd := hW.blk.ext (Ext.drew wk)
    obtain ⟨pc, hpc⟩ : ∃ pc, pc = (s.drop at_).take (nx - at_) := ⟨_, rfl⟩
    have hpl : pc.length ≤ nx - at_ := by rw [hpc]; simp; omega
    rw [← hpc] at hstep
    by_cases hp : i % 2 = 0
    · have g0 : rd wk.drew (some ⟨b1, ((0 : Int)).toNat * 1, none⟩) = some (str A) := hbd.rd rfl
      simp only [if_pos hp] at hstep
      repeat' (first|refine za ?_|refine zA ?_|refine zB ?_|refine zb ?_|refine zc ?_|refine ze ?_|refine zd ?_|refine zC ?_|refine zL ?_|refine zM ?_|refine zX ?_|refine zk ?_|refine zl ?_)
      (refine wc_drawn 8 (by kernel_rfl) (by kernel_rfl) ?_; simp only [List.take_succ_cons, List.take_zero, List.drop_succ_cons, List.drop_zero])
      repeat' (first|refine za ?_|refine zA ?_)
      refine r_rem_v (c := 0) rfl rfl (by omega) (by omega) (by omega) ?_
      repeat' (refine za ?_)
      refine r_idxA as185 rfl rfl (by omega) (by omega) ?_
      repeat' (first|refine za ?_|refine zA ?_|refine zM ?_)
      refine r_ssub_v (c := pc) st9 (a := s) rfl rfl rfl (by omega) (by omega) (by omega) (by rw [Int.toNat_natCast, Int.toNat_natCast, hpc]) ?_
      repeat' (first|refine za ?_|refine zb ?_)
      refine r_sadd_v (a := A) (b := pc) rfl rfl (by omega) rfl ?_
      repeat' (refine za ?_)
      refine r_idxA as185 rfl rfl (by omega) (by omega) ?_
      repeat' (refine za ?_)
      refine r_st_blk (v := str (A ++ pc)) co9 hbd rfl rfl rfl (by simp) fun w4 h4 hC4 hs4 => ?_
      repeat' (first|refine za ?_|refine zA ?_|refine zB ?_|refine zb ?_|refine ze ?_|refine zd ?_|refine zI ?_|refine zh ?_)
      exact ⟨(i + 1, nx), ⟨rfl, rfl, trivial⟩, ⟨A ++ pc, B, hstep _ _ _ rfl rfl h4 hC4.from_drew⟩, by dsimp only; omega⟩
    · have g0 : rd wk.drew (some ⟨b1, ((1 : Int)).toNat * 1, none⟩) = some (str B) := hbd.rd rfl
      simp only [if_neg hp] at hstep
      repeat' (first|refine za ?_|refine zA ?_|refine zB ?_|refine zb ?_|refine zc ?_|refine ze ?_|refine zd ?_|refine zC ?_|refine zL ?_|refine zM ?_|refine zX ?_|refine zk ?_|refine zl ?_)
      (refine wc_drawn 8 (by kernel_rfl) (by kernel_rfl) ?_; simp only [List.take_succ_cons, List.take_zero, List.drop_succ_cons, List.drop_zero])
      repeat' (first|refine za ?_|refine zA ?_)
      refine r_rem_v (c := 1) rfl rfl (by omega) (by omega) (by omega) ?_
      repeat' (refine za ?_)
      refine r_idxA as185 rfl rfl (by omega) (by omega) ?_
      repeat' (first|refine za ?_|refine zA ?_|refine zM ?_)
      refine r_ssub_v (c := pc) st9 (a := s) rfl rfl rfl (by omega) (by omega) (by omega) (by rw [Int.toNat_natCast, Int.toNat_natCast, hpc]) ?_
      repeat' (first|refine za ?_|refine zb ?_)
      refine r_sadd_v (a := B) (b := pc) rfl rfl (by omega) rfl ?_
      repeat' (refine za ?_)
      refine r_idxA as185 rfl rfl (by omega) (by omega) ?_
      repeat' (refine za ?_)
      refine r_st_blk (v := str (B ++ pc)) co9 hbd rfl rfl rfl (by simp) fun w4 h4 hC4 hs4 => ?_
      repeat' (first|refine za ?_|refine zA ?_|refine zB ?_|refine zb ?_|refine ze ?_|refine zd ?_|refine zI ?_|refine zh ?_)
      exact ⟨(i + 1, nx), ⟨rfl, rfl, trivial⟩, ⟨A, B ++ pc, hstep _ _ _ rfl rfl h4 hC4.from_drew⟩, by dsimp only; omega⟩
  · obtain rfl : i = L.length + 1 := by have := hW.ile; omega
    have hfin := hW.fin rfl
    repeat' (first|refine za ?_|refine zb ?_|refine zc ?_|refine ze ?_|refine zd ?_|refine zC ?_|refine zY ?_|refine zm ?_|refine zg ?_|refine zj ?_)
    have hbd := hW.blk.ext (Ext.drew wk)
    have g0 : rd wk.drew (some ⟨b1, ((0 : Int)).toNat * 1, none⟩) = some (str A) := hbd.rd rfl
    have g1 : rd wk.drew (some ⟨b1, ((1 : Int)).toNat * 1, none⟩) = some (str B) := hbd.rd rfl
    (refine wc_drawn 5 (by kernel_rfl) (by kernel_rfl) ?_; simp only [List.take_succ_cons, List.take_zero, List.drop_succ_cons, List.drop_zero])
    repeat' (refine za ?_)
    refine r_idxA as185 rfl rfl (by omega) (by omega) ?_
    repeat' (first|refine za ?_|refine zM ?_)
    refine r_idxA as185 rfl rfl (by omega) (by omega) ?_
    repeat' (first|refine za ?_|refine zB ?_|refine zb ?_|refine ze ?_|refine zM ?_|refine zn ?_)
    refine post2 rfl (v1 := str A) (v2 := str B) rfl rfl ?_
    rw [hfin]
    exact ⟨rfl, (Ch.trans' (hE1.trans hE3) hW.ch fun k hk e => by omega).drew⟩
theorem shs_ltr {s : Str} (h : okC s = true) : ∀ (L : List Nat) (a : Nat), (∀ c, c ∈ (shs s L a).1 → c ∈ s) ∧ (∀ c, c ∈ (shs s L a).2 → c ∈ s) ∧ (shs s L a).1.length + (shs s L a).2.length ≤ (L.length + 1) * s.length
  | [], a => ⟨fun c hc => List.mem_of_mem_drop hc, fun c hc => by simp [shs] at hc, by simp [shs]⟩
  | x :: r, a => by
    obtain ⟨h1, h2, h3⟩ := shs_ltr h r x
    refine ⟨fun c hc => ?_, h1, ?_⟩
    · simp only [shs, List.mem_append] at hc
      exact hc.elim (fun h => List.mem_of_mem_drop (List.mem_of_mem_take h)) (h2 c)
    · simp only [shs, List.length_append, List.length_take, List.length_drop, List.length_cons]
      rw [Nat.succ_mul]
      omega
theorem ltr_of {s t : Str} (h : okC s = true) (hm : ∀ c, c ∈ t → c ∈ s) (hl : t.length ≤ 1000) : Ltr t := ⟨hl, fun i hi => by
  have hc := hm (t.getD i 0) (by rw [show t.getD i 0 = t[i] by simp [List.getD, hi]]; exact List.getElem_mem hi)
  unfold okC at h
  simp only [Bool.and_eq_true, List.all_eq_true, decide_eq_true_eq] at h
  have := h.2 _ hc
  exact ⟨(t.getD i 0).toNat - 97, by omega, by omega⟩⟩
theorem eqc_cL (a b : Str) : eqc a b = decide (cL a = cL b) := by
  unfold eqc cL
  rw [Bool.eq_iff_iff]
  simp only [Bool.and_eq_true, beq_iff_eq, decide_eq_true_eq, List.cons.injEq, Int.natCast_inj, and_true]
  constructor
  · rintro ⟨⟨⟨h1, h2⟩, h3⟩, h4⟩; exact ⟨h1, h2, h3, h4⟩
  · rintro ⟨h1, h2, h3, h4⟩; exact ⟨⟨⟨h1, h2⟩, h3⟩, h4⟩
theorem eq87 : eqInts Tryz.prog 87 3 4 = true := by kernel_rfl
theorem isFair_any (s : Str) (v : Value) (L : List Nat) (w : World) (h : Ints w v (ni L)) (hs : okC s = true) (hc : cutsOk s L 1 = true) (hL : L.length ≤ 24) :
    Calls Tryz.prog 41 #[str s, v] w (Ret fun v w' => v = .bool (fairC s L) ∧ Ext w w') := by
  have hl := okC_len hs
  obtain ⟨h1, h2, h3⟩ := shs_ltr hs L 0
  have hb : (shs s L 0).1.length + (shs s L 0).2.length ≤ 1000 := Nat.le_trans h3 (Nat.le_trans (Nat.mul_le_mul (by omega : L.length + 1 ≤ 25) hl) (by decide))
  have hA := ltr_of hs h1 (by omega)
  have hB := ltr_of hs h2 (by omega)
  obtain ⟨q, c, rfl, hqc⟩ := h.slice
  refine calls_of_wc (args := [str s, .slice q (ni L).length c]) Tryz.func41 rfl ?_ ?_; kernel_rfl
  repeat' (first|refine za ?_|refine zA ?_|refine zB ?_|refine zb ?_|refine zc ?_|refine ze ?_|refine zd ?_)
  (refine r_call (R := ?_) rfl ?_ ?_; rotate_left 1; focus exact shares_any s _ L _ h (by omega) hc (by omega))
  rintro _ w1 ⟨rfl, hE1⟩
  have e : fairC s L = decide (cL (shs s L 0).1 = cL (shs s L 0).2) := eqc_cL _ _
  rw [e]
  generalize (shs s L 0).1 = A at *
  generalize (shs s L 0).2 = B at *
  repeat' (first|refine za ?_|refine zA ?_|refine zB ?_|refine zb ?_|refine zc ?_|refine ze ?_|refine zd ?_|refine zS ?_)
  (refine r_call (R := ?_) rfl ?_ ?_; rotate_left 1; focus exact of_any A _ hA)
  rintro _ w2 ⟨rfl, hE2⟩
  repeat' (first|refine za ?_|refine zA ?_)
  (refine r_call (R := ?_) rfl ?_ ?_; rotate_left 1; focus exact of_any B _ hB)
  rintro _ w3 ⟨rfl, hE3⟩
  repeat' (refine za ?_)
  refine r_eqA (A := cL A) (B := cL B) eq87 rfl rfl rfl rfl ?_
  repeat' (first|refine za ?_|refine zB ?_|refine zb ?_|refine ze ?_|refine zn ?_)
  refine post1 (v := .bool (decide (cL A = cL B))) rfl rfl ?_
  exact ⟨rfl, (hE1.trans hE2).trans hE3⟩
end Go.Proofs.YtocgehoffdjijaaGreat
/- top: seals: lists. -/
namespace Go.Proofs.YtocgehoffdjijaaGreat
open Gv
set_option maxRecDepth 20000
namespace Gv
theorem OwnI.kt {base : Nat} {w w' : World} {v : Value} {L : List Int} (h : OwnI w base 3 v L) (hk : Kt 3 w w') : OwnI w' base 3 v L := by
  refine ⟨h.1, ?_⟩
  rcases h.2 with hn | ⟨g, cap, cur, rfl, hb, hg, rest⟩
  · exact .inl hn
  · exact .inr ⟨g, cap, cur, rfl, hb, hk _ _ _ hg, rest⟩
theorem OwnI.base0 {base : Nat} {w : World} {v : Value} {L : List Int} (h : OwnI w base 3 v L) : OwnI w 0 3 v L := by
  refine ⟨h.1, ?_⟩
  rcases h.2 with hn | ⟨g, cap, cur, rfl, hb, hg, rest⟩
  · exact .inl hn
  · exact .inr ⟨g, cap, cur, rfl, Nat.zero_le _, hg, rest⟩
theorem Box.kt {w w' : World} {b : Nat} {t : TypeId} {v : Value} (h : Box w b t v) (hk : Kt t w w') : Box w' b t v := hk _ _ _ h
end Gv
def Kts (w w' : World) : Prop := ∀ t, t ∈ [3, 112, 145] → Kt t w w'
theorem Kts.refl (w : World) : Kts w w := fun _ _ _ _ _ h => h
theorem Kts.trans {a b c : World} (h : Kts a b) (h' : Kts b c) : Kts a c := fun t ht => (h t ht).trans (h' t ht)
theorem Kts.of_ext {a b : World} (h : Ext a b) : Kts a b := fun _ _ => Kt.of_ext h
theorem Kts.k3 {a b : World} (h : Kts a b) : Kt 3 a b := h 3 (by simp)
theorem Kts.k112 {a b : World} (h : Kts a b) : Kt 112 a b := h 112 (by simp)
theorem Kts.k145 {a b : World} (h : Kts a b) : Kt 145 a b := h 145 (by simp)
/-- The variables of a walk over lists. -/
structure ExtI (bm bt by_ be m to l : Nat) (w : World) : Prop where
  f1 : Box w bm 3 (.int .i64 (m : Int))
  f2 : Box w bt 3 (.int .i64 (to : Int))
  f3 : Box w by_ 112 (.func (.yield l) #[] #[])
  f4 : Box w be 145 (.func (.func 81) #[] #[.pointer (some ⟨bm, 0, none⟩), .pointer (some ⟨by_, 0, none⟩), .pointer (some ⟨bt, 0, none⟩), .pointer (some ⟨be, 0, none⟩)])
theorem ExtI.kts {bm bt by_ be m to l : Nat} {w w' : World} (h : ExtI bm bt by_ be m to l w) (hk : Kts w w') : ExtI bm bt by_ be m to l w' := ⟨Box.kt h.f1 hk.k3, Box.kt h.f2 hk.k3, Box.kt h.f3 hk.k112, Box.kt h.f4 hk.k145⟩
/-- How many lists there are behind the positions ahead of x. -/
def cntX (to k : Nat) (L : List Nat) (a x : Nat) : Nat := ((List.range' a (x - a)).flatMap fun y => lsts to k (L ++ [y]) (y + 1)).length
theorem cntX_zero (to k : Nat) (L : List Nat) (a : Nat) : cntX to k L a a = 0 := by simp [cntX]
theorem range'_split {a x to : Nat} (h1 : a ≤ x) (h2 : x < to) : List.range' a (to - a) = List.range' a (x - a) ++ x :: List.range' (x + 1) (to - (x + 1)) := by
  rw [show to - a = (x - a) + (to - x) by omega, ← List.range'_append_1, show a + (x - a) = x by omega, show to - x = (to - (x + 1)) + 1 by omega, List.range'_succ]
theorem cntX_succ {to k : Nat} {L : List Nat} {a x : Nat} (h1 : a ≤ x) : cntX to k L a (x + 1) = cntX to k L a x + (lsts to k (L ++ [x]) (x + 1)).length := by
  unfold cntX
  rw [show x + 1 - a = (x - a) + 1 by omega, List.range'_concat, show a + 1 * (x - a) = x by omega, List.flatMap_append, List.length_append]
  simp
theorem lsts_at {to k : Nat} {L : List Nat} {a x j : Nat} {z : List Nat} (h1 : a ≤ x) (h2 : x < to) (hz : (lsts to k (L ++ [x]) (x + 1))[j]? = some z) : (lsts to (k + 1) L a)[cntX to k L a x + j]? = some z := by
  have hj := (List.getElem?_eq_some_iff.1 hz).1
  simp only [lsts]
  rw [range'_split h1 h2, List.flatMap_append, List.flatMap_cons]
  rw [List.getElem?_append_right (by unfold cntX; omega)]
  rw [show cntX to k L a x + j - ((List.range' a (x - a)).flatMap fun y => lsts to k (L ++ [y]) (y + 1)).length = j by unfold cntX; omega]
  rw [List.getElem?_append_left hj]
  exact hz
theorem lsts_len {to k : Nat} {L : List Nat} {a x : Nat} (h1 : a ≤ x) (h2 : to ≤ x) (h3 : x ≤ to ∨ x = a) : (lsts to (k + 1) L a).length = cntX to k L a x := by
  simp only [lsts, cntX]
  rw [show x - a = to - a by omega]
/-- What comes to a round. -/
def EnL (L : List Nat) (xs : List Value) (w : World) : Prop := ∃ v, xs = [v] ∧ OwnI w 0 3 v (ni L)
theorem ni_append (L : List Nat) (x : Nat) : ni (L ++ [x]) = ni L ++ [(x : Int)] := by simp [ni]
theorem ct112 : cellT Tryz.prog 112 = true := by kernel_rfl
theorem ct145 : cellT Tryz.prog 145 = true := by kernel_rfl
theorem z145 : (Tryz.prog.info? 145).bind (·.zero) = some .nilFunc := by kernel_rfl
theorem co145 : Tryz.prog.cellsOf 145 = 1 := by kernel_rfl
namespace Gv
theorem r_buildI1 {P : Program} {K : Env → World → Prop} {ρ : Env} {w : World} {d : Nat} {t e ty : TypeId} {pos : String} {aft : Array Edge} {gd : Option (Nat × Bool)} {x : Operand} {a : Int} {by_ : Nat} (hi : elemI P t = some (e, .int .i64 0, 1, by_)) (h1 : ev ρ x = .int .i64 a)
    (h : ∀ w', Ints w' (.slice (some ⟨w.heap.size, 0, none⟩) 1 1) [a] → Ext w w' → w'.heap.size = w.heap.size + 1 → K (up ρ d (.slice (some ⟨w.heap.size, 0, none⟩) 1 1)) w') :
    w1 P false ⟨some d, .buildSlice t 1 #[(0, x)], ty, pos, aft, gd⟩ K ρ w := by
  refine w1_val' (v := .slice (some ⟨w.heap.size, 0, none⟩) 1 1) (w' := w.alloc (.cells #[.int .i64 a] e)) ?_ (h _ ?_ (Ch.alloc w _) (by simp))
  · simp [execOp, h1, run_buildSlice1 hi (u := .int .i64 a) rfl]
  · exact ⟨_, 1, rfl, Nat.le_refl _, rfl, .inr ⟨w.heap.size, 0, rfl, by simp, fun j q hj => by
      rw [cell_of_row _ _ _ _ _ _ (alloc_new w _)]
      simpa [ints] using hj⟩⟩
end Gv
abbrev capE (bm by_ bt be : Nat) : List Value := [.pointer (some ⟨bm, 0, none⟩), .pointer (some ⟨by_, 0, none⟩), .pointer (some ⟨bt, 0, none⟩), .pointer (some ⟨be, 0, none⟩)]
set_option maxHeartbeats 4000000 in
theorem extend_any (l bm bt by_ be m to : Nat) (J Jx : Nat → World → Prop) (items : List (List Nat)) (Dt : World → Prop) (hto : to ≤ 1000) (hm : m ≤ 1000)
    (hJ : ∀ i w w', Nx w w' → J i w → J i w') (hDt : ∀ w w', Kts w w' → Dt w → Dt w')
    (hY : ∀ i w x xs, items[i]? = some x → EnL x xs w → J i w → Dt w → YieldAt Fence.wide 0 Tryz.prog l xs.toArray w (fun e w' => (e = .returned (.bool true) ∧ J (i + 1) w' ∧ Dt w' ∧ Kts w w') ∨ (e = .returned (.bool false) ∧ Jx i w' ∧ Kts w w'))) :
    ∀ (k : Nat) (L : List Nat) (a : Nat) (v : Value) (base : Nat) (w : World), L.length + k = m → a ≤ 1001 → OwnI w 0 3 v (ni L) → (∀ j x, (lsts to k L a)[j]? = some x → items[base + j]? = some x) → J base w → Dt w → ExtI bm bt by_ be m to l w →
      Calls Tryz.prog 81 #[v, .int .i64 (a : Int), .pointer (some ⟨bm, 0, none⟩), .pointer (some ⟨by_, 0, none⟩), .pointer (some ⟨bt, 0, none⟩), .pointer (some ⟨be, 0, none⟩)] w
        (Ret fun r w' => ∃ b, r = .bool b ∧ Kts w w' ∧ (b = true → J (base + (lsts to k L a).length) w' ∧ Dt w') ∧ (b = false → ∃ i, Jx i w')) := by
  intro k
  induction k with
  | zero =>
    intro L a v base w hk ha hv hit hj hd hI
    obtain ⟨q, c, rfl, hqc⟩ := hv.ints.slice
    rw [ni_len] at hv hqc ⊢
    have g2 := hI.f1.rd
    have g3 := hI.f3.rd
    have hl : L.length = m := by omega
    refine calls_of_wc (args := [.slice q L.length c, .int .i64 (a : Int), .pointer (some ⟨bm, 0, none⟩), .pointer (some ⟨by_, 0, none⟩), .pointer (some ⟨bt, 0, none⟩), .pointer (some ⟨be, 0, none⟩)]) Tryz.func81 rfl ?_ ?_; kernel_rfl
    repeat' (first|refine za ?_|refine zA ?_|refine zB ?_|refine zb ?_|refine wc_seq_ne 2 rfl ?_|refine ze ?_|refine zd ?_|refine zG ?_|refine zK ?_|refine zM ?_|refine zX ?_)
    refine wc_seq ?_
    refine wc_regionR ?_
    refine wlR_plain ?_
    refine r_ld ct112 rfl g3 ?_
    refine wlR_plain ?_
    refine r_move_v (v := .slice q L.length c) rfl ?_
    refine wlR_yieldX (R1 := fun w' => J (base + 1) w' ∧ Dt w' ∧ Kts w w') (R2 := fun w' => Jx base w' ∧ Kts w w') rfl (hY base w L [.slice q L.length c] (hit 0 L rfl) ⟨_, rfl, hv⟩ hj hd) ?_ ?_
    · rintro w5 ⟨h1, h2, h3⟩
      refine wlR_plain ?_
      refine r_assign_v (v := .bool true) rfl ?_
      refine wlR_nil ?_
      repeat' (first|refine ze ?_|refine zn ?_|refine zf ?_)
      refine post1 (v := .bool true) rfl rfl ?_
      exact ⟨true, rfl, h3, fun _ => ⟨h1, h2⟩, (fun e => by cases e)⟩
    · rintro w5 ⟨h1, h3⟩
      refine wlR_plain ?_
      refine r_assign_v (v := .bool false) rfl ?_
      refine wlR_nil ?_
      repeat' (first|refine ze ?_|refine zn ?_|refine zf ?_)
      refine post1 (v := .bool false) rfl rfl ?_
      exact ⟨false, rfl, h3, (fun e => by cases e), fun _ => ⟨base, h1⟩⟩
  | succ k ih =>
    intro L a v base w hk ha hv hit hj hd hI
    obtain ⟨q, c, rfl, hqc⟩ := hv.ints.slice
    rw [ni_len] at hv hqc ⊢
    have g2 := hI.f1.rd
    refine calls_of_wc (args := [.slice q L.length c, .int .i64 (a : Int), .pointer (some ⟨bm, 0, none⟩), .pointer (some ⟨by_, 0, none⟩), .pointer (some ⟨bt, 0, none⟩), .pointer (some ⟨be, 0, none⟩)]) Tryz.func81 rfl ?_ ?_; kernel_rfl
    repeat' (first|refine za ?_|refine zA ?_|refine zB ?_|refine zb ?_|refine zc ?_|refine ze ?_|refine zd ?_|refine zG ?_|refine zK ?_|refine zM ?_|refine zY ?_|refine zk ?_|refine zl ?_)
    refine wc_loop [0, 2, 3, 4, 5] (fun (x : Nat) => [(8, .bool false), (9, .int .i64 (x : Int))]) (fun x wk => a ≤ x ∧ (x ≤ to ∨ x = a) ∧ J (base + cntX to k L a x) wk ∧ Dt wk ∧ Kts w wk) (fun x => to - x) a rfl ⟨rfl, rfl, trivial⟩
      ⟨Nat.le_refl _, .inr rfl, by rw [cntX_zero]; exact hj, hd, Kts.refl w⟩ ?_
    rintro x wk y ⟨hax, hxt, hjk, hdk, hkk⟩
    have hIk := hI.kts hkk
    have g4 := hIk.f2.rd
    by_cases hin : x < to
    · have hvk := hv.kt hkk.k3
      repeat' (first|refine za ?_|refine zA ?_|refine zb ?_|refine zc ?_|refine ze ?_|refine zd ?_|refine zC ?_|refine zM ?_|refine zX ?_|refine zk ?_|refine zl ?_)
      have hrec : ∀ v3 w3, OwnI w3 0 3 v3 (ni L ++ [(x : Int)]) → Ext wk w3 → Calls Tryz.prog 81 #[v3, .int .i64 ((x : Int) + 1), .pointer (some ⟨bm, 0, none⟩), .pointer (some ⟨by_, 0, none⟩), .pointer (some ⟨bt, 0, none⟩), .pointer (some ⟨be, 0, none⟩)] w3
          (Ret fun r w' => ∃ b, r = .bool b ∧ Kts wk w' ∧ (b = true → J (base + cntX to k L a (x + 1)) w' ∧ Dt w') ∧ (b = false → ∃ i, Jx i w')) := by
        intro v3 w3 h3 hE3
        have := ih (L ++ [x]) (x + 1) v3 (base + cntX to k L a x) w3 (by simp; omega) (by omega) (by rw [ni_append]; exact h3) (fun j z hz => by
          rw [Nat.add_assoc]; exact hit _ _ (lsts_at hax hin hz)) (hJ _ _ _ hE3.nx hjk) (hDt _ _ (Kts.of_ext hE3) hdk) (hIk.kts (Kts.of_ext hE3))
        refine this.mono ?_
        rintro e w' ⟨r, he, b, hb, hK, ht, hf⟩
        refine ⟨r, he, b, hb, (Kts.of_ext hE3).trans hK, fun e => ?_, hf⟩
        rw [cntX_succ hax, ← Nat.add_assoc]; exact ht e
      have hend : ∀ (w' : World), J (base + cntX to k L a (x + 1)) w' → Dt w' → Kts wk w' → a ≤ x + 1 ∧ (x + 1 ≤ to ∨ x + 1 = a) ∧ J (base + cntX to k L a (x + 1)) w' ∧ Dt w' ∧ Kts w w' := fun w' h1 h2 h3 => ⟨by omega, by omega, h1, h2, hkk.trans h3⟩
      refine wc_heldB (fun w' => Box w' be 145 (.func (.func 81) #[] (capE bm by_ bt be).toArray)) (.take 0 (.take 1 (.take 3 (.take 6 (.take 7 (.two 2 (.one 4 (.one 5 (.one 8 (.take 9 .done)))) 4 (.one 2 (.one 5 (.one 8 (.take 9 .done)))))))))) (by kernel_rfl) (by kernel_rfl) (hIk.f4.ext (Ext.drew wk)) ?_
      refine whB_take rfl rfl (fun w' hw' => rv_ld ct145 rfl hw'.rd) ?_
      repeat' (refine whB_take rfl rfl (fun w' hw' => rv_move) ?_)
      refine whB_take rfl rfl (fun w' hw' => rv_of rfl (fun _ h => r_add_in rfl rfl (by omega) h) fun _ _ h => val_of h) ?_
      refine whB_two rfl rfl rfl rfl ?_ ?_
      · (refine r_call (R := ?_) rfl ?_ ?_; rotate_left 1; focus exact clone82 (.slice q L.length c) (ni L) wk.drew (hvk.ints.ext (Ext.drew wk)) (by rw [ni_len]; omega))
        rintro vc w2 ⟨hc2, hE2⟩
        refine ⟨hIk.f4.ext ((Ext.drew wk).trans hE2), whB_one rfl rfl ?_⟩
        refine r_buildI1 (a := (x : Int)) el27 rfl fun w3 h3 hE3 hs3 => ?_
        refine ⟨hIk.f4.ext (((Ext.drew wk).trans hE2).trans hE3), whB_one rfl rfl ?_⟩
        refine r_append_i (base := wk.drew.heap.size) el27 (hc2.ext hE3) h3 rfl rfl (by rw [ni_len]; simp; omega) (hE2.trans hE3).size fun v4 w4 h4 hG _ _ => ?_
        have hE4 : Ext wk w4 := Ch.trans' (((Ext.drew wk).trans hE2).trans hE3) (Ch.grown hG (S := fun k => wk.heap.size ≤ k) fun k e => (hc2.lt k e).1) fun k hk e => by omega
        refine ⟨hIk.f4.ext hE4, whB_one rfl rfl ?_⟩
        refine r_callV (cap := capE bm by_ bt be) rfl rfl (hrec v4 w4 h4.base0 hE4) ?_
        rintro _ w5 ⟨b, rfl, hK5, ht, hf⟩
        refine ⟨Box.kt hIk.f4 hK5.k145, whB_take rfl rfl (fun w' hw' => rv_of rfl (fun _ h => r_not (b := b) rfl h) fun _ _ h => val_of h) (whB_done ?_)⟩
        cases b with
        | true =>
          obtain ⟨h1, h2⟩ := ht rfl
          repeat' (first|refine za ?_|refine zA ?_|refine zB ?_|refine zb ?_|refine ze ?_|refine zd ?_|refine zI ?_|refine zY ?_|refine zk ?_|refine zh ?_)
          exact ⟨x + 1, ⟨rfl, rfl, trivial⟩, hend _ h1 h2 hK5, by omega⟩
        | false =>
          repeat' (first|refine za ?_|refine zB ?_|refine zb ?_|refine zc ?_|refine ze ?_|refine zd ?_|refine zX ?_|refine zn ?_|refine zf ?_|refine zi ?_)
          refine post1 (v := .bool false) rfl rfl ?_
          exact ⟨false, rfl, hkk.trans hK5, (fun e => by cases e), hf⟩
      · refine r_buildI1 (a := (x : Int)) el27 rfl fun w3 h3 hE3 hs3 => ?_
        refine ⟨hIk.f4.ext ((Ext.drew wk).trans hE3), whB_one rfl rfl ?_⟩
        (refine r_call (R := ?_) rfl ?_ ?_; rotate_left 1; focus exact clone82 (.slice q L.length c) (ni L) w3 (hvk.ints.ext ((Ext.drew wk).trans hE3)) (by rw [ni_len]; omega))
        rintro vc w2 ⟨hc2, hE2⟩
        refine ⟨hIk.f4.ext (((Ext.drew wk).trans hE3).trans hE2), whB_one rfl rfl ?_⟩
        refine r_append_i (base := w3.heap.size) el27 hc2 (h3.ext hE2) rfl rfl (by rw [ni_len]; simp; omega) hE2.size fun v4 w4 h4 hG _ _ => ?_
        have hE4 : Ext wk w4 := Ch.trans' (((Ext.drew wk).trans hE3).trans hE2) (Ch.grown hG (S := fun k => w3.heap.size ≤ k) fun k e => (hc2.lt k e).1) fun k hk e => by have := ((Ext.drew wk).trans hE3).size; omega
        refine ⟨hIk.f4.ext hE4, whB_one rfl rfl ?_⟩
        refine r_callV (cap := capE bm by_ bt be) rfl rfl (hrec v4 w4 h4.base0 hE4) ?_
        rintro _ w5 ⟨b, rfl, hK5, ht, hf⟩
        refine ⟨Box.kt hIk.f4 hK5.k145, whB_take rfl rfl (fun w' hw' => rv_of rfl (fun _ h => r_not (b := b) rfl h) fun _ _ h => val_of h) (whB_done ?_)⟩
        cases b with
        | true =>
          obtain ⟨h1, h2⟩ := ht rfl
          repeat' (first|refine za ?_|refine zA ?_|refine zB ?_|refine zb ?_|refine ze ?_|refine zd ?_|refine zI ?_|refine zY ?_|refine zk ?_|refine zh ?_)
          exact ⟨x + 1, ⟨rfl, rfl, trivial⟩, hend _ h1 h2 hK5, by omega⟩
        | false =>
          repeat' (first|refine za ?_|refine zB ?_|refine zb ?_|refine zc ?_|refine ze ?_|refine zd ?_|refine zX ?_|refine zn ?_|refine zf ?_|refine zi ?_)
          refine post1 (v := .bool false) rfl rfl ?_
          exact ⟨false, rfl, hkk.trans hK5, (fun e => by cases e), hf⟩
    · repeat' (first|refine za ?_|refine zA ?_|refine zB ?_|refine zb ?_|refine zc ?_|refine ze ?_|refine zd ?_|refine zC ?_|refine zM ?_|refine zY ?_|refine zm ?_|refine zn ?_|refine zg ?_|refine zj ?_)
      refine post1 (v := .bool true) rfl rfl ?_
      refine ⟨true, rfl, hkk, fun _ => ⟨?_, hdk⟩, (fun e => by cases e)⟩
      rw [lsts_len hax (by omega) hxt]
      exact hjk
end Go.Proofs.YtocgehoffdjijaaGreat

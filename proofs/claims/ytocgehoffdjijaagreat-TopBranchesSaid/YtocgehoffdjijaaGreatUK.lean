/- top: round: distances; the shortest rest of a tour; top: round: isMiles, rest, length; top: round: length, Best. -/
import Derived.Test.YtocgehoffdjijaaGreatSC
import Derived.Test.YtocgehoffdjijaaGreatKeyT
import Derived.Test.YtocgehoffdjijaaGreatUpj
import Derived.Test.YtocgehoffdjijaaGreatNilS
/- top: round: distances; the shortest rest of a tour. -/
namespace Go.Proofs.YtocgehoffdjijaaGreat
namespace Gv
section
variable {P : Program} {st : Bool} {K : Env → World → Prop} {ρ : Env} {w : World} {d : Nat} {ty t t2 : TypeId} {pos : String} {aft : Array Edge} {gd : Option (Nat × Bool)} {x y : Operand}
theorem r_shlN {m n r : Nat} (hx : ev ρ x = .int .i64 (m : Int)) (hy : ev ρ y = .int .i64 (n : Int)) (hn : n < 63) (hr : m * 2 ^ n = r) (hb : r < 9223372036854775808) (h : K (up ρ d (.int .i64 (r : Int))) w) :
    w1 P st ⟨some d, .binOp .shl t x y t2, ty, pos, aft, gd⟩ K ρ w := by
  have e : m <<< n = r := by rw [Nat.shiftLeft_eq]; exact hr
  refine r_shl hx hy (by omega) (by rw [e]; exact hb) ?_
  rw [e]; exact h
theorem r_shrN {m n r : Nat} (hx : ev ρ x = .int .i64 (m : Int)) (hy : ev ρ y = .int .i64 (n : Int)) (hn : n < 63) (hr : m / 2 ^ n = r) (h : K (up ρ d (.int .i64 (r : Int))) w) :
    w1 P st ⟨some d, .binOp .shr t x y t2, ty, pos, aft, gd⟩ K ρ w := by
  refine r_shr hx hy (by omega) ?_
  rw [Nat.shiftRight_eq_div_pow, hr]; exact h
theorem r_andN {m n r : Nat} (hx : ev ρ x = .int .i64 (m : Int)) (hy : ev ρ y = .int .i64 (n : Int)) (hm : m < 9223372036854775808) (hn : n < 9223372036854775808) (hr : m &&& n = r) (h : K (up ρ d (.int .i64 (r : Int))) w) :
    w1 P st ⟨some d, .binOp .and t x y t2, ty, pos, aft, gd⟩ K ρ w := r_and hx hy (by omega) (by omega) (by rw [hr]; exact h)
theorem r_add_v {a b c : Int} (hx : ev ρ x = .int .i64 a) (hy : ev ρ y = .int .i64 b) (hb : -9223372036854775808 ≤ a + b ∧ a + b ≤ 9223372036854775807) (hc : a + b = c) (h : K (up ρ d (.int .i64 c)) w) :
    w1 P st ⟨some d, .binOp .add t x y t2, ty, pos, aft, gd⟩ K ρ w := r_add_in hx hy hb (by rw [hc]; exact h)
/-- A number without one of its bits. -/
def cl (m v : Nat) : Nat := m &&& (2 ^ 64 - (2 ^ v + 1))
theorem cl_le (m v : Nat) : cl m v ≤ m := Nat.and_le_left
theorem cl_bit {m v i : Nat} (hv : v < 64) (hm : m < 2 ^ 64) : (cl m v).testBit i = (m.testBit i && decide (i ≠ v)) := by
  unfold cl
  rw [Nat.testBit_and, Nat.testBit_two_pow_sub_succ (Nat.pow_lt_pow_right (by decide) hv)]
  by_cases hi : i < 64
  · rw [decide_eq_true hi, Bool.true_and, Nat.testBit_two_pow]
    by_cases e : i = v
    · subst e; simp
    · have e' : ¬ v = i := fun h => e h.symm
      simp [e, e']
  · have : m.testBit i = false := Nat.testBit_lt_two_pow (Nat.lt_of_lt_of_le hm (Nat.pow_le_pow_right (by decide) (by omega)))
    rw [this]; rfl
theorem cl_same {m v : Nat} (hv : v < 64) (hm : m < 2 ^ 64) (h : m.testBit v = false) : cl m v = m := by
  refine Nat.eq_of_testBit_eq fun i => ?_
  rw [cl_bit hv hm]
  by_cases e : i = v
  · subst e; rw [h]; rfl
  · simp [e]
theorem cl_ne {m v : Nat} (hv : v < 64) (hm : m < 2 ^ 64) (h : m.testBit v = true) : cl m v < m := by
  refine Nat.lt_of_le_of_ne (cl_le m v) fun e => ?_
  have := cl_bit (i := v) hv hm
  rw [e, h] at this
  simp at this
theorem r_andNot {m v n r : Nat} (hx : ev ρ x = .int .i64 (m : Int)) (hy : ev ρ y = .int .i64 (n : Int)) (hm : m < 2 ^ 63) (hv : v < 63) (hn : n = 2 ^ v) (hr : cl m v = r) (h : K (up ρ d (.int .i64 (r : Int))) w) :
    w1 P st ⟨some d, .binOp .andNot t x y t2, ty, pos, aft, gd⟩ K ρ w := by
  subst hn
  have hv64 : 2 ^ v < 2 ^ 64 := Nat.pow_lt_pow_right (by decide) (by omega)
  refine r_bits hx hy (.inr (.inr (.inr rfl))) (v := .int .i64 (r : Int)) ?_ h
  have e : (BitVec.ofInt 64 (m : Int) &&& ~~~ BitVec.ofInt 64 ((2 ^ v : Nat) : Int)).toNat = r := by
    rw [ofInt_nat, ofInt_nat, BitVec.toNat_and, BitVec.toNat_not, BitVec.toNat_ofNat, BitVec.toNat_ofNat, Nat.mod_eq_of_lt (by omega), Nat.mod_eq_of_lt hv64, ← hr]
    unfold cl
    congr 1
    omega
  have hb : r < 2 ^ 63 := by rw [← hr]; exact Nat.lt_of_le_of_lt (cl_le m v) hm
  show (Sem.pure (Value.int .i64 (IntKind.i64.wrap ((BitVec.ofInt 64 (m : Int) &&& ~~~ BitVec.ofInt 64 ((2 ^ v : Nat) : Int)).toNat : Int)))).run P w = _
  rw [e, wrap_nat hb]
  rfl
end
theorem shr_bit (m v : Nat) : m / 2 ^ v &&& 1 = if m.testBit v then 1 else 0 := by
  rw [Nat.and_one_is_mod, Nat.testBit_eq_decide_div_mod_eq]
  have := Nat.mod_two_eq_zero_or_one (m / 2 ^ v)
  rcases this with h | h <;> rw [h] <;> rfl
/- What a map's block is not. -/
theorem MapF.nobox {κ : Type} [DecidableEq κ] {enc : κ → Value} {w : World} {bm : Nat} {F : κ → Option Value} (h : MapF enc w bm F) {c : Array Value} {t : TypeId} {r : Nat × Nat} : w.heap[bm]? ≠ some (.cells c t r) := by
  obtain ⟨m, k, h1, _⟩ := h
  intro e; have := h1.1.symm.trans e; cases this
theorem cell_ne {κ : Type} [DecidableEq κ] {enc : κ → Value} {w : World} {bm b i : Nat} {F : κ → Option Value} {u : Value} (h : MapF enc w bm F) (hc : w.cell? ⟨b, i, none⟩ = some u) : b ≠ bm := by
  rintro rfl
  obtain ⟨m, k, h1, _⟩ := h
  unfold World.cell? at hc
  dsimp only at hc
  rw [h1.1] at hc
  cases hc
theorem rd_keepM {κ : Type} [DecidableEq κ] {enc : κ → Value} {w w' : World} {bm : Nat} {F : κ → Option Value} {p : Option Addr} {v : Value} (h : Gv.rd w p = some v) (hF : MapF enc w bm F) (hC : Ch (fun k => k = bm) w w') : Gv.rd w' p = some v := by
  refine rd_keep h hC fun a ha e => ?_
  obtain ⟨q, rfl, hq⟩ := rd_some h
  cases ha
  obtain ⟨m, k, h1, _⟩ := hF
  unfold World.cell? at hq
  rw [e, h1.1] at hq
  cases hq
theorem Sl.keepM {κ : Type} [DecidableEq κ] {enc : κ → Value} {w w' : World} {bm sz n : Nat} {F : κ → Option Value} {v : Value} {xs : List Value} (h : Sl w sz v n xs) (hF : MapF enc w bm F) (hC : Ch (fun k => k = bm) w w') : Sl w' sz v n xs := by
  obtain ⟨p, c, rfl, hn, hl, hm⟩ := h
  refine ⟨p, c, rfl, hn, hl, ?_⟩
  rcases hm with hm | ⟨b, o, rfl, hb, hm⟩
  · exact .inl hm
  · refine .inr ⟨b, o, rfl, Nat.lt_of_lt_of_le hb hC.size, fun j u hj => ?_⟩
    rw [World.cell?_of_block (w := w) (hC.block b hb (cell_ne hF (hm j u hj)))]
    exact hm j u hj
theorem Ints.keepM {κ : Type} [DecidableEq κ] {enc : κ → Value} {w w' : World} {bm : Nat} {F : κ → Option Value} {v : Value} {L : List Int} (h : Ints w v L) (hF : MapF enc w bm F) (hC : Ch (fun k => k = bm) w w') : Ints w' v L := Sl.keepM h hF hC
theorem Tab.keepM {κ : Type} [DecidableEq κ] {enc : κ → Value} {w w' : World} {bm : Nat} {F : κ → Option Value} {v : Value} {T : List (List Int)} (h : Tab w v T) (hF : MapF enc w bm F) (hC : Ch (fun k => k = bm) w w') : Tab w' v T := by
  obtain ⟨vs, h1, h2⟩ := h
  exact ⟨vs, h1.keepM hF hC, fun i hi => let ⟨u, hu, hl⟩ := h2 i hi; ⟨u, hu, hl.keepM hF hC⟩⟩
end Gv
open Gv
set_option maxRecDepth 20000
def dT (T : List (List Int)) (a b : Nat) : Int := (T.getD a []).getD b 0
/-- Distances. -/
structure Miles (T : List (List Int)) : Prop where
  n1 : 1 ≤ T.length
  n11 : T.length ≤ 11
  row : ∀ i, i < T.length → (T.getD i []).length = T.length
  rng : ∀ i j, i < T.length → j < T.length → 0 ≤ dT T i j ∧ dT T i j ≤ 1000
  sym : ∀ i j, i < T.length → j < T.length → dT T i j = dT T j i
  diag : ∀ i, i < T.length → dT T i i = 0
def stepL (L n : Int) : Int := if L < 0 ∨ n < L then n else L
def rsF (T : List (List Int)) : Nat → Nat → Nat → Int
  | 0, s, _ => dT T s 0
  | f + 1, s, left => if left = 0 then dT T s 0 else (List.range T.length).foldl (fun L v => if left.testBit v then stepL L (dT T s v + rsF T f v (cl left v)) else L) (-1)
def rs (T : List (List Int)) (s left : Nat) : Int := rsF T left s left
/-- The least so far. -/
def rsK (T : List (List Int)) (s left k : Nat) : Int := (List.range k).foldl (fun L v => if left.testBit v then stepL L (dT T s v + rs T v (cl left v)) else L) (-1)
theorem foldl_congr' {α β : Type} {f g : β → α → β} : ∀ (l : List α) (b : β), (∀ b a, a ∈ l → f b a = g b a) → l.foldl f b = l.foldl g b
  | [], _, _ => rfl
  | a :: l, b, h => by
    rw [List.foldl_cons, List.foldl_cons, h b a (by simp)]
    exact foldl_congr' l _ fun b a ha => h b a (by simp [ha])
theorem rsF_more {T : List (List Int)} (hn : T.length ≤ 11) : ∀ (left f s : Nat), left < 2 ^ 11 → left ≤ f → rsF T f s left = rs T s left := by
  intro left
  induction left using Nat.strongRecOn with
  | _ left ih =>
    intro f s hb hf
    by_cases h0 : left = 0
    · subst h0
      cases f with
      | zero => rfl
      | succ f => simp only [rsF, if_true, rs]
    · obtain ⟨f, rfl⟩ : ∃ f', f = f' + 1 := ⟨f - 1, by omega⟩
      obtain ⟨l, hl⟩ : ∃ l, left = l + 1 := ⟨left - 1, by omega⟩
      have e : rs T s left = rsF T (l + 1) s left := by unfold rs; rw [hl]
      rw [e]
      simp only [rsF, if_neg h0]
      refine foldl_congr' _ _ fun L v hv => ?_
      rw [List.mem_range] at hv
      by_cases hb2 : left.testBit v = true
      · rw [if_pos hb2, if_pos hb2]
        have hlt := cl_ne (m := left) (v := v) (by omega) (by omega) hb2
        rw [ih _ hlt f v (by omega) (by omega), ih _ hlt l v (by omega) (by omega)]
      · rw [if_neg hb2, if_neg hb2]
theorem rs_zero (T : List (List Int)) (s : Nat) : rs T s 0 = dT T s 0 := rfl
theorem rs_eq {T : List (List Int)} (hn : T.length ≤ 11) {s left : Nat} (hb : left < 2 ^ 11) (h0 : left ≠ 0) : rs T s left = rsK T s left T.length := by
  obtain ⟨l, hl⟩ : ∃ l, left = l + 1 := ⟨left - 1, by omega⟩
  have e : rs T s left = rsF T (l + 1) s left := by unfold rs; rw [hl]
  rw [e]
  simp only [rsF, if_neg h0, rsK]
  refine foldl_congr' _ _ fun L v hv => ?_
  rw [List.mem_range] at hv
  by_cases hb2 : left.testBit v = true
  · rw [if_pos hb2, if_pos hb2]
    have hlt := cl_ne (m := left) (v := v) (by omega) (by omega) hb2
    rw [rsF_more hn _ l v (by omega) (by omega)]
  · rw [if_neg hb2, if_neg hb2]
theorem rsK_succ (T : List (List Int)) (s left k : Nat) : rsK T s left (k + 1) = if left.testBit k then stepL (rsK T s left k) (dT T s k + rs T k (cl left k)) else rsK T s left k := by
  simp only [rsK, List.range_succ, List.foldl_append, List.foldl_cons, List.foldl_nil]
theorem stepL_b {L n B : Int} (_ : -1 ≤ L) (h2 : L ≤ B) (h3 : -1 ≤ n) (h4 : n ≤ B) : -1 ≤ stepL L n ∧ stepL L n ≤ B := by unfold stepL; split <;> omega
theorem rs_bnd {T : List (List Int)} (hM : Miles T) : ∀ (left s : Nat), left < 2 ^ 11 → s < T.length → -1 ≤ rs T s left ∧ rs T s left ≤ 1000 * (left + 1) := by
  intro left
  induction left using Nat.strongRecOn with
  | _ left ih =>
    intro s hb hs
    by_cases h0 : left = 0
    · subst h0
      rw [rs_zero]
      have := hM.rng s 0 hs hM.n1
      omega
    · rw [rs_eq hM.n11 hb h0]
      have : ∀ k, k ≤ T.length → -1 ≤ rsK T s left k ∧ rsK T s left k ≤ 1000 * (left + 1) := by
        intro k
        induction k with
        | zero => intro _; simp [rsK]; omega
        | succ k ihk =>
          intro hk
          obtain ⟨a, b⟩ := ihk (by omega)
          rw [rsK_succ]
          by_cases hb2 : left.testBit k = true
          · rw [if_pos hb2]
            have hlt := cl_ne (m := left) (v := k) (by have := hM.n11; omega) (by omega) hb2
            have h1 := ih _ hlt k (by omega) (by omega)
            have h2 := hM.rng s k hs (by omega)
            exact stepL_b a b (by omega) (by omega)
          · rw [if_neg hb2]; exact ⟨a, b⟩
      exact this _ (Nat.le_refl _)
theorem rsK_bnd {T : List (List Int)} (hM : Miles T) {left s : Nat} (hb : left < 2 ^ 11) (hs : s < T.length) : ∀ k, k ≤ T.length → -1 ≤ rsK T s left k ∧ rsK T s left k ≤ 1000 * (left + 1) := by
  intro k
  induction k with
  | zero => intro _; simp [rsK]; omega
  | succ k ihk =>
    intro hk
    obtain ⟨a, b⟩ := ihk (by omega)
    rw [rsK_succ]
    by_cases hb2 : left.testBit k = true
    · rw [if_pos hb2]
      have hlt := cl_ne (m := left) (v := k) (by have := hM.n11; omega) (by omega) hb2
      have h1 := rs_bnd hM (cl left k) k (by omega) (by omega)
      have h2 := hM.rng s k hs (by omega)
      exact stepL_b a b (by omega) (by omega)
    · rw [if_neg hb2]; exact ⟨a, b⟩
end Go.Proofs.YtocgehoffdjijaaGreat
/- top: round: isMiles, rest, length. -/
namespace Go.Proofs.YtocgehoffdjijaaGreat
open Gv
set_option maxRecDepth 20000
theorem in90 (n lo hi : Int) (w : World) (h1 : lo ≤ n) (h2 : n ≤ hi) : Calls Tryz.prog 90 #[.int .i64 n, .int .i64 lo, .int .i64 hi] w (Ret fun v w' => v = .bool true ∧ w' = w) := by
  refine calls_of_wc (args := [.int .i64 n, .int .i64 lo, .int .i64 hi]) Tryz.func90 rfl ?_ ?_; kernel_rfl
  repeat' (first|refine za ?_|refine zA ?_|refine zB ?_|refine zb ?_|refine zc ?_|refine ze ?_|refine zd ?_|refine zD ?_|refine zF ?_|refine zQ ?_|refine zU ?_|refine zn ?_)
  refine post1 (v := .bool true) rfl rfl ?_
  exact ⟨rfl, rfl⟩
theorem miles91 (n : Int) (w : World) (h : 0 ≤ n ∧ n ≤ 1000) : Calls Tryz.prog 91 #[.int .i64 n] w (Ret fun v w' => v = .bool false ∧ w' = w) := by
  refine calls_of_wc (args := [.int .i64 n]) Tryz.func91 rfl ?_ ?_; kernel_rfl
  repeat' (first|refine za ?_|refine zA ?_|refine zB ?_|refine zb ?_|refine zc ?_|refine ze ?_|refine zd ?_)
  (refine r_call_q (v := ?_) rfl ?_ ?_; rotate_left 1; focus exact in90 n 0 1000 w h.1 h.2)
  repeat' (first|refine za ?_|refine zB ?_|refine zb ?_|refine ze ?_|refine zO ?_|refine zn ?_)
  refine post1 (v := .bool false) rfl rfl ?_
  exact ⟨rfl, rfl⟩
set_option maxHeartbeats 400000 in
theorem index121g (f : FuncId) (hf : callable Tryz.prog f = true) (v : Value) (L : List Int) (w : World) (h : Ints w v L) (hm : L.length ≤ 1000) (hc : ∀ n w', n ∈ L → Calls Tryz.prog f #[.int .i64 n] w' (Ret fun v w'' => v = .bool false ∧ w'' = w')) :
    Calls Tryz.prog 121 #[v, .func (.func f) #[] #[]] w (Ret fun v w' => v = .int .i64 (-1) ∧ w' = w) := by
  obtain ⟨q, c, rfl, hqc⟩ := h.slice
  refine calls_of_wc (args := [.slice q L.length c, .func (.func f) #[] #[]]) Tryz.func121 rfl ?_ ?_; kernel_rfl
  repeat' (first|refine za ?_|refine zA ?_|refine zB ?_|refine zb ?_|refine zc ?_|refine ze ?_|refine zd ?_|refine zK ?_|refine zl ?_)
  refine wc_loop [0, 1, 7] (fun (k : Nat) => [(8, .int .i64 k)]) (fun k wk => wk = w ∧ k ≤ L.length) (fun k => L.length - k) 0 rfl ⟨rfl, trivial⟩ ⟨rfl, by omega⟩ ?_
  rintro k wk x ⟨rfl, hk⟩
  by_cases hin : k < L.length
  · have hps := h.isSome (by omega)
    have hrd := h.rd (i := k) (by omega)
    repeat' (first|refine za ?_|refine zA ?_|refine zB ?_|refine zb ?_|refine zc ?_|refine ze ?_|refine zd ?_|refine zC ?_|refine zL ?_|refine zM ?_|refine zX ?_|refine zk ?_|refine zl ?_)
    refine r_callV (cap := []) rfl hf (hc _ _ (getD_mem hin)) ?_
    rintro v' w' ⟨rfl, rfl⟩
    repeat' (first|refine za ?_|refine zA ?_|refine zb ?_|refine ze ?_|refine zd ?_|refine zI ?_|refine zY ?_|refine zk ?_|refine zh ?_)
    exact ⟨k + 1, ⟨rfl, trivial⟩, ⟨rfl, by omega⟩, by omega⟩
  · repeat' (first|refine za ?_|refine zB ?_|refine zb ?_|refine zc ?_|refine ze ?_|refine zd ?_|refine zC ?_|refine zY ?_|refine zm ?_|refine zn ?_|refine zg ?_|refine zj ?_)
    refine post1 (v := .int .i64 (-1)) rfl rfl ?_
    exact ⟨rfl, rfl⟩
theorem contains76g (f : FuncId) (hf : callable Tryz.prog f = true) (v : Value) (L : List Int) (w : World) (h : Ints w v L) (hm : L.length ≤ 1000) (hc : ∀ n w', n ∈ L → Calls Tryz.prog f #[.int .i64 n] w' (Ret fun v w'' => v = .bool false ∧ w'' = w')) :
    Calls Tryz.prog 76 #[v, .func (.func f) #[] #[]] w (Ret fun v w' => v = .bool false ∧ w' = w) := by
  obtain ⟨q, c, rfl, hqc⟩ := h.slice
  refine calls_of_wc (args := [.slice q L.length c, .func (.func f) #[] #[]]) Tryz.func76 rfl ?_ ?_; kernel_rfl
  repeat' (first|refine za ?_|refine zA ?_|refine zB ?_|refine zb ?_|refine zc ?_|refine ze ?_|refine zd ?_)
  (refine r_call_q (v := ?_) rfl ?_ ?_; rotate_left 1; focus exact index121g f hf _ L _ h hm hc)
  repeat' (first|refine za ?_|refine zB ?_|refine zb ?_|refine ze ?_|refine zF ?_|refine zn ?_)
  refine post1 (v := .bool false) rfl rfl ?_
  exact ⟨rfl, rfl⟩
theorem Miles.mem {T : List (List Int)} (hM : Miles T) {i : Nat} (hi : i < T.length) : ∀ n, n ∈ T.getD i [] → 0 ≤ n ∧ n ≤ 1000 := by
  intro n hn
  obtain ⟨j, hj, rfl⟩ := List.getElem_of_mem hn
  have := hM.rng i j hi (by rw [← hM.row i hi]; exact hj)
  unfold dT at this
  rwa [getD_lt hj] at this
set_option maxHeartbeats 2000000 in
theorem isMiles_any (q : Option Addr) (c : Nat) (T : List (List Int)) (w : World) (h : Tab w (.slice q T.length c) T) (hM : Miles T) :
    Calls Tryz.prog 47 #[.slice q T.length c] w (Ret fun v w' => v = .bool true ∧ w' = w) := by
  have h1 := hM.n1
  have h11 := hM.n11
  have hps := h.isSome (by omega)
  refine calls_of_wc (args := [.slice q T.length c]) Tryz.func47 rfl ?_ ?_; kernel_rfl
  repeat' (first|refine za ?_|refine zA ?_|refine zB ?_|refine zb ?_|refine zc ?_|refine ze ?_|refine zd ?_|refine zK ?_)
  (refine r_call_q (v := ?_) rfl ?_ ?_; rotate_left 1; focus exact in90 (T.length : Int) 1 11 w (by omega) (by omega))
  repeat' (first|refine za ?_|refine zA ?_|refine zb ?_|refine zc ?_|refine ze ?_|refine zd ?_|refine zK ?_|refine zO ?_|refine zY ?_|refine zk ?_|refine zl ?_)
  refine wc_loop [0, 13, 14] (fun (i : Nat) => [(15, .int .i64 i)]) (fun i wk => wk = w ∧ i ≤ T.length) (fun i => T.length - i) 0 rfl ⟨rfl, trivial⟩ ⟨rfl, by omega⟩ ?_
  rintro i wk x ⟨rfl, hi⟩
  by_cases hin : i < T.length
  · obtain ⟨qr, m, hr, hI⟩ := h.rd hin
    have hmem := hM.mem hin
    have hrow := hM.row i hin
    rw [hrow] at hr
    have hI' : Ints wk (.slice qr T.length m) (T.getD i []) := by rw [← hrow]; exact hI
    repeat' (first|refine za ?_|refine zA ?_|refine zB ?_|refine zb ?_|refine zc ?_|refine ze ?_|refine zd ?_|refine zC ?_|refine zH ?_|refine zK ?_|refine zL ?_|refine zM ?_|refine zU ?_|refine zX ?_|refine zk ?_|refine zl ?_)
    (refine r_call_q (v := ?_) rfl ?_ ?_; rotate_left 1; focus exact contains76g 91 rfl _ (T.getD i []) _ hI' (by omega) fun n w' hn => miles91 n w' (hmem n hn))
    repeat' (first|refine za ?_|refine zA ?_|refine zb ?_|refine ze ?_|refine zd ?_|refine zI ?_|refine zR ?_|refine zY ?_|refine zk ?_|refine zh ?_)
    exact ⟨i + 1, ⟨rfl, trivial⟩, ⟨rfl, by omega⟩, by omega⟩
  obtain rfl : i = T.length := by omega
  repeat' (first|refine za ?_|refine zA ?_|refine zb ?_|refine zc ?_|refine ze ?_|refine zd ?_|refine zC ?_|refine zK ?_|refine zY ?_|refine zl ?_|refine zm ?_|refine zg ?_|refine zj ?_)
  refine wc_loop [0, 29, 30] (fun (i : Nat) => [(31, .int .i64 i)]) (fun i wz => wz = wk ∧ i ≤ T.length) (fun i => T.length - i) 0 rfl ⟨rfl, trivial⟩ ⟨rfl, by omega⟩ ?_
  rintro i wz y ⟨rfl, hi⟩
  by_cases hin : i < T.length
  · obtain ⟨qr, m, hr, hI⟩ := h.rd hin
    have hrow := hM.row i hin
    rw [hrow] at hr
    have hI' : Ints wz (.slice qr T.length m) (T.getD i []) := by rw [← hrow]; exact hI
    have hpr := hI'.isSome (by omega)
    repeat' (first|refine za ?_|refine zA ?_|refine zB ?_|refine zb ?_|refine zc ?_|refine ze ?_|refine zd ?_|refine zC ?_|refine zK ?_|refine zL ?_|refine zM ?_|refine zX ?_|refine zk ?_|refine zl ?_)
    refine wc_loop [0, 5, 29, 30, 31, 36, 37] (fun (j : Nat) => [(38, .int .i64 j)]) (fun j wy => wy = wz ∧ j ≤ T.length) (fun j => T.length - j) 0 rfl ⟨rfl, trivial⟩ ⟨rfl, by omega⟩ ?_
    rintro j wy z ⟨rfl, hj⟩
    by_cases hjn : j < T.length
    · obtain ⟨qj, mj, hrj, hIj⟩ := h.rd hjn
      have hrowj := hM.row j hjn
      rw [hrowj] at hrj
      have hIj' : Ints wy (.slice qj T.length mj) (T.getD j []) := by rw [← hrowj]; exact hIj
      have hpj := hIj'.isSome (by omega)
      have e1 : rd wy (pidx qr j 1) = some (.int .i64 (dT T i j)) := hI'.rd (by omega)
      have e2 : rd wy (pidx qj i 1) = some (.int .i64 (dT T i j)) := by rw [hM.sym i j hin hjn]; exact hIj'.rd (by omega)
      by_cases hij : i = j
      · subst hij
        rw [hM.diag i hin] at e1 e2
        repeat' (first|refine za ?_|refine zA ?_|refine zB ?_|refine zb ?_|refine zc ?_|refine ze ?_|refine zd ?_|refine zC ?_|refine zG ?_|refine zH ?_|refine zI ?_|refine zL ?_|refine zM ?_|refine zQ ?_|refine zR ?_|refine zU ?_|refine zX ?_|refine zY ?_|refine zk ?_|refine zl ?_|refine zh ?_)
        exact ⟨i + 1, ⟨rfl, trivial⟩, ⟨rfl, by omega⟩, by omega⟩
      · generalize dT T i j = x at *
        repeat' (first|refine za ?_|refine zA ?_|refine zB ?_|refine zb ?_|refine zc ?_|refine ze ?_|refine zd ?_|refine zC ?_|refine zG ?_|refine zH ?_|refine zI ?_|refine zL ?_|refine zM ?_|refine zR ?_|refine zU ?_|refine zV ?_|refine zX ?_|refine zY ?_|refine zk ?_|refine zl ?_|refine zh ?_)
        exact ⟨j + 1, ⟨rfl, trivial⟩, ⟨rfl, by omega⟩, by omega⟩
    · obtain rfl : j = T.length := by omega
      repeat' (first|refine za ?_|refine zA ?_|refine zb ?_|refine zc ?_|refine ze ?_|refine zd ?_|refine zC ?_|refine zI ?_|refine zY ?_|refine zm ?_|refine zg ?_|refine zj ?_|refine zh ?_)
      exact ⟨i + 1, ⟨rfl, trivial⟩, ⟨rfl, by omega⟩, by omega⟩
  · repeat' (first|refine za ?_|refine zB ?_|refine zb ?_|refine zc ?_|refine ze ?_|refine zd ?_|refine zC ?_|refine zY ?_|refine zm ?_|refine zn ?_|refine zg ?_|refine zj ?_)
    refine post1 (v := .bool true) rfl rfl ?_
    exact ⟨rfl, rfl⟩
theorem mp102 : mapT Tryz.prog 102 = some (104, 3, .int .i64 0) := by kernel_rfl
theorem eq104 : eqInts Tryz.prog 104 3 2 = true := by kernel_rfl
theorem k104 : KeyOf Tryz.prog 104 encP := key_str2 eq104 Tryz.underlying104
theorem ag104 : aggT Tryz.prog 104 2 = true := by kernel_rfl
theorem z104 : (Tryz.prog.info? 104).bind (·.zero) = some (.agg [.int .i64 0, .int .i64 0].toArray) := by kernel_rfl
theorem fo104_0 : fldOff Tryz.prog 104 0 = some 0 := by kernel_rfl
theorem fo104_1 : fldOff Tryz.prog 104 1 = some 1 := by kernel_rfl
theorem sz105 : sliceSz Tryz.prog 105 = some 1 := by kernel_rfl
theorem bt104 (a b : Int) : Tryz.prog.built 104 [(0, .int .i64 a), (1, .int .i64 b)] = some #[.int .i64 a, .int .i64 b] := by kernel_rfl
namespace Gv
theorem r_lookup_none {κ : Type} [DecidableEq κ] {enc : κ → Value} {P : Program} {st : Bool} {K : Env → World → Prop} {ρ : Env} {w : World} {d : Nat} {ty : TypeId} {pos : String} {aft : Array Edge} {gd : Option (Nat × Bool)} {x y : Operand} {t kt e : TypeId} {z : Value} {b : Nat} {F : κ → Option Value} {k : κ}
    (ht : mapT P t = some (kt, e, z)) (hk : KeyOf P kt enc) (h0 : MapF enc w b F) (hx : ev ρ x = .map (some b)) (hy : ev ρ y = enc k) (hv : F k = none) (h : K (up ρ d (.tuple #[z, .bool false])) w) :
    w1 P st ⟨some d, .lookup t x y true, ty, pos, aft, gd⟩ K ρ w := r_lookup_ok ht hk h0 hx hy (by rw [hv]; exact h)
end Gv
/-- What is known is right. -/
def KnR (T : List (List Int)) (F : Int × Int → Option Value) : Prop := ∀ a b u, F (a, b) = some u → ∃ s l : Nat, a = s ∧ b = l ∧ u = .int .i64 (rs T s l)
theorem KnR.get {T : List (List Int)} {F : Int × Int → Option Value} (h : KnR T F) {s l : Nat} {u : Value} (hu : F ((s : Int), (l : Int)) = some u) : u = .int .i64 (rs T s l) := by
  obtain ⟨s', l', h1, h2, h3⟩ := h _ _ _ hu
  obtain rfl : s = s' := by omega
  obtain rfl : l = l' := by omega
  exact h3
theorem KnR.set {T : List (List Int)} {F : Int × Int → Option Value} (h : KnR T F) (s l : Nat) : KnR T (fun k' => if k' = ((s : Int), (l : Int)) then some (.int .i64 (rs T s l)) else F k') := by
  intro a b u hu
  dsimp only at hu
  split at hu
  · rename_i e
    cases e; cases hu
    exact ⟨s, l, rfl, rfl, rfl⟩
  · exact h a b u hu
theorem bit_lt {n left k : Nat} (h : left < 2 ^ n) (hb : left.testBit k = true) : k < n := by
  by_cases hk : k < n
  · exact hk
  · have := Nat.testBit_lt_two_pow (Nat.lt_of_lt_of_le h (Nat.pow_le_pow_right (by decide) (by omega : n ≤ k)))
    rw [this] at hb; cases hb
set_option maxHeartbeats 8000000 in
theorem rest_any (T : List (List Int)) (hM : Miles T) (q : Option Addr) (c bm : Nat) : ∀ (left s : Nat) (F : Int × Int → Option Value) (w : World), left < 2 ^ T.length → s < T.length → Tab w (.slice q T.length c) T → MapF encP w bm F → KnR T F →
    Calls Tryz.prog 48 #[.slice q T.length c, .map (some bm), .agg #[.int .i64 (s : Int), .int .i64 (left : Int)]] w (Ret fun v w' => v = .int .i64 (rs T s left) ∧ ∃ F', MapF encP w' bm F' ∧ KnR T F' ∧ Ch (fun k => k = bm) w w') := by
  have h11 := hM.n11
  have hn1 := hM.n1
  have hpn : 2 ^ T.length ≤ 2 ^ 11 := Nat.pow_le_pow_right (by decide) h11
  intro left
  induction left using Nat.strongRecOn with
  | _ left ih =>
  intro s F w hb hs hT hF hK
  have hb11 : left < 2048 := by omega
  have hps := hT.isSome (by omega)
  obtain ⟨qr, m, hr0, hI0⟩ := hT.rd hs
  rw [hM.row s hs] at hr0
  have hI0' : Ints w (.slice qr T.length m) (T.getD s []) := by rw [← hM.row s hs]; exact hI0
  have hpr := hI0'.isSome (by have := hM.row s hs; omega)
  refine calls_of_wc (args := [.slice q T.length c, .map (some bm), .agg #[.int .i64 (s : Int), .int .i64 (left : Int)]]) Tryz.func48 rfl ?_ ?_; kernel_rfl
  repeat' (first|refine za ?_|refine zc ?_|refine zd ?_)
  refine r_boxN (cells := [.int .i64 (s : Int), .int .i64 (left : Int)]) rfl fun w1 hb5 hE1 hs1 => ?_
  obtain ⟨b5, eb5⟩ : ∃ b, b = w.heap.size := ⟨_, rfl⟩
  rw [← eb5] at hb5 ⊢
  have hF1 := hF.ext hE1
  have hbm : bm < b5 := by have := hF.lt; omega
  have g0 : rd w1 (some ⟨b5, 0 + 0, none⟩) = some (.int .i64 (s : Int)) := hb5.rd rfl
  have g1 : rd w1 (some ⟨b5, 0 + 1, none⟩) = some (.int .i64 (left : Int)) := hb5.rd rfl
  repeat' (first|refine za ?_|refine zB ?_|refine zb ?_|refine zc ?_|refine ze ?_|refine zd ?_)
  refine r_fa fo104_1 rfl ?_
  by_cases h0 : left = 0
  · subst h0
    have hr1 : rd w1 (pidx q s 1) = some (.slice qr T.length m) := rd_ext hr0 hE1
    have e1 : rd w1 (pidx qr 0 1) = some (.int .i64 (dT T s 0)) := rd_ext (hI0'.rd (by have := hM.row s hs; omega)) hE1
    rw [rs_zero]
    generalize dT T s 0 = x at *
    repeat' (first|refine za ?_|refine zA ?_|refine zb ?_|refine zc ?_|refine ze ?_|refine zd ?_|refine zG ?_|refine zM ?_|refine zX ?_)
    refine r_fa fo104_0 rfl ?_
    repeat' (first|refine za ?_|refine zB ?_|refine zb ?_|refine ze ?_|refine zL ?_|refine zM ?_|refine zn ?_|refine zf ?_)
    refine post1 (v := .int .i64 x) rfl rfl ?_
    exact ⟨rfl, F, hF1, hK, Ext.ch hE1⟩
  have hrsn := rs_eq h11 (s := s) (left := left) (by omega) h0
  have hfin : ∀ (F' : Int × Int → Option Value) (w' : World), MapF encP w' bm F' → KnR T F' → Ch (fun k => k = bm) w1 w' → ∃ F', MapF encP w' bm F' ∧ KnR T F' ∧ Ch (fun k => k = bm) w w' := fun F' w' h1 h2 h3 => ⟨F', h1, h2, Ch.trans' (Ext.ch hE1) h3 fun k _ e => e⟩
  repeat' (first|refine za ?_|refine zA ?_|refine zb ?_|refine zc ?_|refine ze ?_|refine zd ?_|refine zG ?_|refine zM ?_|refine zY ?_|refine zk ?_)
  refine r_ldN (vs := [.int .i64 (s : Int), .int .i64 (left : Int)]) ag104 (by decide) hb5 rfl rfl ?_
  repeat' (refine za ?_)
  cases hk : F ((s : Int), (left : Int)) with
  | some u =>
    obtain rfl := hK.get hk
    refine r_lookup_some (k := ((s : Int), (left : Int))) mp102 k104 hF1 rfl rfl hk ?_
    repeat' (first|refine za ?_|refine zA ?_|refine zB ?_|refine zb ?_|refine zc ?_|refine ze ?_|refine zd ?_|refine zO ?_|refine zS ?_|refine zY ?_|refine zk ?_)
    refine r_ldN (vs := [.int .i64 (s : Int), .int .i64 (left : Int)]) ag104 (by decide) hb5 rfl rfl ?_
    repeat' (refine za ?_)
    refine r_lookup (k := ((s : Int), (left : Int))) (v := .int .i64 (rs T s left)) mp102 k104 hF1 rfl rfl (by rw [hk]; rfl) ?_
    repeat' (first|refine za ?_|refine zB ?_|refine zb ?_|refine ze ?_|refine zn ?_)
    refine post1 (v := .int .i64 (rs T s left)) rfl rfl ?_
    exact ⟨rfl, hfin _ _ hF1 hK (Ch.refl _ _)⟩
  | none =>
    refine r_lookup_none (k := ((s : Int), (left : Int))) mp102 k104 hF1 rfl rfl hk ?_
    repeat' (first|refine za ?_|refine zA ?_|refine zB ?_|refine zb ?_|refine zc ?_|refine ze ?_|refine zd ?_|refine zK ?_|refine zO ?_|refine zS ?_|refine zX ?_|refine zl ?_)
    refine wc_loop [0, 1, 5, 30, 31] (fun (k : Nat) => [(9, .int .i64 (rsK T s left k)), (32, .int .i64 k)]) (fun k wk => k ≤ T.length ∧ ∃ F', MapF encP wk bm F' ∧ KnR T F' ∧ Ch (fun k => k = bm) w1 wk) (fun k => T.length - k) 0 rfl ⟨rfl, rfl, trivial⟩ ⟨by omega, F, hF1, hK, Ch.refl _ _⟩ ?_
    rintro k wk x ⟨hk2, F', hF', hK', hCk⟩
    have hb5k := hb5.keep hCk (by omega)
    have gk1 : rd wk (some ⟨b5, 0 + 1, none⟩) = some (.int .i64 (left : Int)) := hb5k.rd rfl
    by_cases hkn : k < T.length
    · have hbnd := rsK_bnd hM (left := left) (s := s) (by omega) hs k (by omega)
      have hsucc := rsK_succ T s left k
      repeat' (first|refine za ?_|refine zA ?_|refine zB ?_|refine zb ?_|refine zc ?_|refine ze ?_|refine zd ?_|refine zC ?_|refine zX ?_|refine zk ?_|refine zl ?_)
      refine r_fa fo104_1 rfl ?_
      repeat' (first|refine za ?_|refine zA ?_|refine zM ?_)
      refine r_shrN (m := left) (n := k) rfl rfl (by omega) rfl ?_
      repeat' (refine za ?_)
      by_cases hbit : left.testBit k = true
      · refine r_andN (m := left / 2 ^ k) (n := 1) (r := 1) rfl rfl (Nat.lt_of_le_of_lt (Nat.div_le_self _ _) (by omega)) (by decide) (by rw [shr_bit, if_pos hbit]) ?_
        rw [if_pos hbit] at hsucc
        have hltl := cl_ne (m := left) (v := k) (by omega) (by omega) hbit
        have hr2 := rs_bnd hM (cl left k) k (by omega) hkn
        have hd2 := hM.rng s k hs hkn
        have h2k : 2 ^ k < 2 ^ 11 := Nat.pow_lt_pow_right (by decide) (by omega)
        have hTk : Tab wk.drew (.slice q T.length c) T := ((hT.ext hE1).keepM hF1 hCk).ext (Ext.drew wk)
        have hFd := hF'.ext (Ext.drew wk)
        have hb5d := hb5k.ext (Ext.drew wk)
        obtain ⟨qk, mk, hrk, hIk⟩ := hTk.rd hs
        rw [hM.row s hs] at hrk
        have hIk' : Ints wk.drew (.slice qk T.length mk) (T.getD s []) := by rw [← hM.row s hs]; exact hIk
        have hpk := hIk'.isSome (by have := hM.row s hs; omega)
        have hek : rd wk.drew (pidx qk k 1) = some (.int .i64 (dT T s k)) := hIk'.rd (by have := hM.row s hs; omega)
        have hcall := ih (cl left k) hltl k F' wk.drew (by omega) hkn hTk hFd hK'
        generalize hcle : cl left k = lk at *
        obtain ⟨X, hX⟩ : ∃ X, dT T s k + rs T k lk = X := ⟨_, rfl⟩
        rw [hX] at hsucc
        generalize dT T s k = dk at *
        generalize rs T k lk = rk at *
        generalize rsK T s left k = L at *
        repeat' (first|refine za ?_|refine zb ?_|refine zc ?_|refine ze ?_|refine zG ?_|refine zX ?_)
        refine wc_heldB (fun w' => Ch (fun k => k = bm) wk.drew w') (.take 0 (.take 1 (.take 2 (.take 3 (.take 4 (.take 5 (.take 6 (.take 7 (.take 8 (.take 9 (.take 10 (.take 11 (.take 12 (.take 13 (.take 14 (.take 15 (.take 16 (.one 17 (.take 18 (.one 19 .done)))))))))))))))))))) (by kernel_rfl) (by kernel_rfl) (Ch.refl _ _) ?_
        refine whB_take (v := .slice q T.length c) rfl rfl (fun w' hw' => rv_move_v rfl) ?_
        refine whB_take rfl rfl (fun w' hw' => rv_fa fo104_0 rfl) ?_
        refine whB_take (v := .int .i64 (s : Int)) rfl rfl (fun w' hw' => rv_ld ct3 rfl ((hb5d.keep hw' (by omega)).rd rfl)) ?_
        refine whB_take rfl rfl (fun w' hw' => rv_idx sz105 rfl rfl hps (by omega) (by omega)) ?_
        refine whB_take (v := .slice qk T.length mk) rfl rfl (fun w' hw' => rv_ld ct27 rfl (rd_keepM hrk hFd hw')) ?_
        refine whB_take (v := .int .i64 (k : Int)) rfl rfl (fun w' hw' => rv_move_v rfl) ?_
        refine whB_take rfl rfl (fun w' hw' => rv_idx sz27 rfl rfl hpk (by omega) (by omega)) ?_
        refine whB_take (v := .int .i64 dk) rfl rfl (fun w' hw' => rv_ld ct3 rfl (rd_keepM hek hFd hw')) ?_
        refine whB_take (v := .slice q T.length c) rfl rfl (fun w' hw' => rv_move_v rfl) ?_
        refine whB_take (v := .map (some bm)) rfl rfl (fun w' hw' => rv_move_v rfl) ?_
        refine whB_take (v := .int .i64 (k : Int)) rfl rfl (fun w' hw' => rv_move_v rfl) ?_
        refine whB_take rfl rfl (fun w' hw' => rv_fa fo104_1 rfl) ?_
        refine whB_take (v := .int .i64 (left : Int)) rfl rfl (fun w' hw' => rv_ld ct3 rfl ((hb5d.keep hw' (by omega)).rd rfl)) ?_
        refine whB_take (v := .int .i64 (k : Int)) rfl rfl (fun w' hw' => rv_move_v rfl) ?_
        refine whB_take rfl rfl (fun w' hw' => rv_of rfl (fun _ h => r_shlN (m := 1) (n := k) (r := 2 ^ k) rfl rfl (by omega) (Nat.one_mul _) (by omega) h) fun _ _ h => val_of h) ?_
        refine whB_take rfl rfl (fun w' hw' => rv_of rfl (fun _ h => r_andNot (m := left) (v := k) (n := 2 ^ k) (r := lk) rfl rfl (by omega) (by omega) rfl hcle h) fun _ _ h => val_of h) ?_
        refine whB_take rfl rfl (fun w' hw' => rv_of rfl (fun _ h => r_build (bt104 (k : Int) (lk : Int)) h) fun _ _ h => val_of h) ?_
        refine whB_one rfl rfl ?_
        (refine r_call (R := ?_) rfl ?_ ?_; rotate_left 1; focus exact hcall)
        rintro _ w6 ⟨rfl, F6, hF6, hK6, hC6⟩
        refine ⟨hC6, ?_⟩
        refine whB_take (v := .int .i64 X) rfl rfl (fun w' hw' => rv_of rfl (fun _ h => r_add_v (c := X) rfl rfl (by omega) hX h) fun _ _ h => val_of h) ?_
        refine whB_one rfl rfl ?_
        refine r_assign_v (v := .int .i64 X) rfl ?_
        refine ⟨hC6, whB_done ?_⟩
        have hC16 : Ch (fun k => k = bm) w1 w6 := hCk.trans hC6.from_drew
        by_cases hs1 : L < 0
        · have e : rsK T s left (k + 1) = X := by rw [hsucc]; unfold stepL; rw [if_pos (.inl hs1)]
          repeat' (first|refine za ?_|refine zA ?_|refine zB ?_|refine zb ?_|refine zc ?_|refine ze ?_|refine zd ?_|refine zC ?_|refine zI ?_|refine zQ ?_|refine zV ?_|refine zX ?_|refine zh ?_)
          exact ⟨k + 1, ⟨by rw [e]; rfl, rfl, trivial⟩, ⟨by omega, F6, hF6, hK6, hC16⟩, by omega⟩
        · by_cases hs2 : X < L
          · have e : rsK T s left (k + 1) = X := by rw [hsucc]; unfold stepL; rw [if_pos (.inr hs2)]
            repeat' (first|refine za ?_|refine zA ?_|refine zB ?_|refine zb ?_|refine zc ?_|refine ze ?_|refine zd ?_|refine zC ?_|refine zI ?_|refine zR ?_|refine zU ?_|refine zX ?_|refine zh ?_)
            exact ⟨k + 1, ⟨by rw [e]; rfl, rfl, trivial⟩, ⟨by omega, F6, hF6, hK6, hC16⟩, by omega⟩
          · have e : rsK T s left (k + 1) = L := by rw [hsucc]; unfold stepL; rw [if_neg (by omega)]
            repeat' (first|refine za ?_|refine zA ?_|refine zb ?_|refine zc ?_|refine ze ?_|refine zd ?_|refine zC ?_|refine zI ?_|refine zR ?_|refine zU ?_|refine zY ?_|refine zk ?_|refine zh ?_)
            exact ⟨k + 1, ⟨by rw [e]; rfl, rfl, trivial⟩, ⟨by omega, F6, hF6, hK6, hC16⟩, by omega⟩
      · refine r_andN (m := left / 2 ^ k) (n := 1) (r := 0) rfl rfl (Nat.lt_of_le_of_lt (Nat.div_le_self _ _) (by omega)) (by decide) (by rw [shr_bit, if_neg hbit]) ?_
        rw [if_neg hbit] at hsucc
        repeat' (first|refine za ?_|refine zA ?_|refine zb ?_|refine ze ?_|refine zd ?_|refine zG ?_|refine zI ?_|refine zY ?_|refine zk ?_|refine zh ?_)
        exact ⟨k + 1, ⟨by rw [hsucc]; rfl, rfl, trivial⟩, ⟨by omega, F', hF', hK', hCk⟩, by omega⟩
    · obtain rfl : k = T.length := by omega
      rw [← hrsn]
      repeat' (first|refine za ?_|refine zA ?_|refine zb ?_|refine zc ?_|refine ze ?_|refine zd ?_|refine zC ?_|refine zY ?_|refine zm ?_|refine zg ?_|refine zj ?_)
      refine r_ldN (vs := [.int .i64 (s : Int), .int .i64 (left : Int)]) ag104 (by decide) hb5k rfl rfl ?_
      repeat' (first|refine za ?_|refine zA ?_)
      refine r_mapUpdate (k := ((s : Int), (left : Int))) (v := .int .i64 (rs T s left)) mp102 k104 hF' rfl rfl rfl fun w6 hF6 hC6 hs6 => ?_
      repeat' (first|refine za ?_|refine zA ?_|refine zb ?_|refine zc ?_|refine ze ?_|refine zd ?_)
      refine r_ldN (vs := [.int .i64 (s : Int), .int .i64 (left : Int)]) ag104 (by decide) (hb5k.keep hC6 (by omega)) rfl rfl ?_
      repeat' (refine za ?_)
      refine r_lookup (k := ((s : Int), (left : Int))) (v := .int .i64 (rs T s left)) mp102 k104 hF6 rfl rfl (by rw [if_pos rfl]; rfl) ?_
      repeat' (first|refine za ?_|refine zB ?_|refine zb ?_|refine ze ?_|refine zn ?_)
      refine post1 (v := .int .i64 (rs T s left)) rfl rfl ?_
      exact ⟨rfl, hfin _ _ hF6 (hK'.set s left) (hCk.trans hC6)⟩
end Go.Proofs.YtocgehoffdjijaaGreat
/- top: round: length, Best. -/
namespace Go.Proofs.YtocgehoffdjijaaGreat
open Gv
set_option maxRecDepth 20000
theorem rsK_cases {T : List (List Int)} {s left : Nat} (hnn : ∀ v, v < T.length → left.testBit v = true → 0 ≤ dT T s v + rs T v (cl left v)) :
    ∀ k, k ≤ T.length → ((∀ j, j < k → left.testBit j = false) ∧ rsK T s left k = -1) ∨ (0 ≤ rsK T s left k ∧ ∃ j, j < k ∧ left.testBit j = true ∧ rsK T s left k = dT T s j + rs T j (cl left j)) := by
  intro k
  induction k with
  | zero => intro _; exact .inl ⟨fun j hj => by omega, by simp [rsK]⟩
  | succ k ih =>
    intro hk
    rw [rsK_succ]
    by_cases hb2 : left.testBit k = true
    · rw [if_pos hb2]
      have h0 := hnn k (by omega) hb2
      right
      rcases ih (by omega) with ⟨_, e⟩ | ⟨h1, j, hj, hjb, e⟩
      · have e2 : stepL (rsK T s left k) (dT T s k + rs T k (cl left k)) = dT T s k + rs T k (cl left k) := by unfold stepL; rw [if_pos (by omega)]
        rw [e2]
        exact ⟨h0, k, by omega, hb2, rfl⟩
      · unfold stepL
        split
        · exact ⟨h0, k, by omega, hb2, rfl⟩
        · exact ⟨h1, j, by omega, hjb, e⟩
    · rw [if_neg hb2]
      rcases ih (by omega) with ⟨h1, e⟩ | ⟨h1, j, hj, hjb, e⟩
      · refine .inl ⟨fun j hj => ?_, e⟩
        by_cases ej : j = k
        · subst ej; simpa using hb2
        · exact h1 j (by omega)
      · exact .inr ⟨h1, j, by omega, hjb, e⟩
theorem bit_some {T : List (List Int)} {left : Nat} (hb : left < 2 ^ T.length) (h0 : left ≠ 0) : ¬ ∀ j, j < T.length → left.testBit j = false := by
  intro h
  obtain ⟨i, hi⟩ := Nat.exists_testBit_of_ne_zero h0
  have := h i (bit_lt hb hi)
  rw [hi] at this; cases this
theorem rs_nn {T : List (List Int)} (hM : Miles T) : ∀ (left s : Nat), left < 2 ^ T.length → s < T.length → 0 ≤ rs T s left := by
  have hpn : 2 ^ T.length ≤ 2 ^ 11 := Nat.pow_le_pow_right (by decide) hM.n11
  intro left
  induction left using Nat.strongRecOn with
  | _ left ih =>
    intro s hb hs
    by_cases h0 : left = 0
    · subst h0; rw [rs_zero]; exact (hM.rng s 0 hs hM.n1).1
    · rw [rs_eq hM.n11 (by omega) h0]
      rcases rsK_cases (T := T) (s := s) (left := left) (fun v hv hbv => by
        have h1 := ih _ (cl_ne (by have := hM.n11; omega) (by omega) hbv) v (Nat.lt_of_le_of_lt (cl_le _ _) hb) hv
        have h2 := (hM.rng s v hs hv).1
        omega) T.length (Nat.le_refl _) with ⟨h1, _⟩ | ⟨h1, _⟩
      · exact absurd h1 (bit_some hb h0)
      · exact h1
def goodV (T : List (List Int)) (s left v : Nat) : Bool := left.testBit v && decide (dT T s v + rs T v (cl left v) = rs T s left)
theorem good_ex {T : List (List Int)} (hM : Miles T) {left s : Nat} (hb : left < 2 ^ T.length) (hs : s < T.length) (h0 : left ≠ 0) : ∃ v, v < T.length ∧ goodV T s left v = true := by
  have hpn : 2 ^ T.length ≤ 2 ^ 11 := Nat.pow_le_pow_right (by decide) hM.n11
  rcases rsK_cases (T := T) (s := s) (left := left) (fun v hv hbv => by
    have h1 := rs_nn hM (cl left v) v (Nat.lt_of_le_of_lt (cl_le _ _) hb) hv
    have h2 := (hM.rng s v hs hv).1
    omega) T.length (Nat.le_refl _) with ⟨h1, _⟩ | ⟨_, j, hj, hjb, e⟩
  · exact absurd h1 (bit_some hb h0)
  · rw [← rs_eq hM.n11 (by omega) h0] at e
    exact ⟨j, hj, by unfold goodV; rw [hjb, e]; simp⟩
/-- The stops behind a stop, on the first shortest way through those that are left. -/
def btF (T : List (List Int)) : Nat → Nat → Nat → List Nat
  | 0, _, _ => []
  | f + 1, s, left => if left = 0 then [] else match (List.range T.length).find? (goodV T s left) with
    | none => []
    | some v => v :: btF T f v (cl left v)
def bestT (T : List (List Int)) : List Nat := 0 :: btF T (2 ^ T.length - 2) 0 (2 ^ T.length - 2)
theorem btF_zero (T : List (List Int)) (f s : Nat) : btF T f s 0 = [] := by cases f <;> simp [btF]
theorem btF_step {T : List (List Int)} {f s left v : Nat} (h0 : left ≠ 0) (hv : v < T.length) (hg : goodV T s left v = true) (hn : ∀ j, j < v → goodV T s left j = false) : btF T (f + 1) s left = v :: btF T f v (cl left v) := by
  have : (List.range T.length).find? (goodV T s left) = some v := by
    rw [List.find?_eq_some_iff_getElem]
    refine ⟨hg, v, by simpa using hv, by simp, fun j hj => ?_⟩
    rw [List.getElem_range, hn j hj]; rfl
  simp only [btF, if_neg h0, this]
def lenK (T : List (List Int)) (L : List Nat) : Nat → Int
  | 0 => 0
  | k + 1 => lenK T L k + dT T (L.getD k 0) (L.getD ((k + 1) % L.length) 0)
theorem lenK_b {T : List (List Int)} (hM : Miles T) {L : List Nat} (hL : ∀ i, i < L.length → L.getD i 0 < T.length) : ∀ k, k ≤ L.length → 0 ≤ lenK T L k ∧ lenK T L k ≤ 1000 * k
  | 0, _ => ⟨Int.le_refl _, Int.le_refl _⟩
  | k + 1, h => by
    have ih := lenK_b hM hL k (by omega)
    have := hM.rng _ _ (hL k (by omega)) (hL ((k + 1) % L.length) (Nat.mod_lt _ (by omega)))
    simp only [lenK]
    omega
set_option maxHeartbeats 2000000 in
theorem length49 (T : List (List Int)) (hM : Miles T) (q ql : Option Addr) (c cl' : Nat) (L : List Nat) (w : World) (hT : Tab w (.slice q T.length c) T) (hl : Ints w (.slice ql L.length cl') (ni L)) (hL : ∀ i, i < L.length → L.getD i 0 < T.length) (hLl : L.length ≤ 5000) :
    Calls Tryz.prog 49 #[.slice q T.length c, .slice ql L.length cl'] w (Ret fun v w' => v = .int .i64 (lenK T L L.length) ∧ Ext w w') := by
  have hn1 := hM.n1
  have hps := hT.isSome (by omega)
  refine calls_of_wc (args := [.slice q T.length c, .slice ql L.length cl']) Tryz.func49 rfl ?_ ?_; kernel_rfl
  repeat' (first|refine za ?_|refine zA ?_|refine zB ?_|refine zb ?_|refine zc ?_|refine ze ?_|refine zd ?_|refine zK ?_|refine zl ?_)
  refine wc_loop [0, 1, 8, 9] (fun (i : Nat) => [(5, .int .i64 (lenK T L i)), (10, .int .i64 i)]) (fun i wk => i ≤ L.length ∧ Ext w wk) (fun i => L.length - i) 0 rfl ⟨rfl, rfl, trivial⟩ ⟨by omega, Ext.refl _⟩ ?_
  rintro i wk x ⟨hi, hE⟩
  by_cases hin : i < L.length
  · have hpl := hl.isSome (by rw [ni_len]; omega)
    have hEd := hE.trans (Ext.drew wk)
    have hj : (i + 1) % L.length < L.length := Nat.mod_lt _ (by omega)
    have h1 := (hl.ext hE).rd (i := i) (by rw [ni_len]; omega)
    have h2 := (hl.ext hEd).rd (i := (i + 1) % L.length) (by rw [ni_len]; omega)
    rw [ni_get] at h1 h2
    have hA := hL i hin
    have hB := hL _ hj
    have hsucc : lenK T L (i + 1) = lenK T L i + dT T (L.getD i 0) (L.getD ((i + 1) % L.length) 0) := rfl
    have hb := lenK_b hM hL i hi
    have hd := hM.rng _ _ hA hB
    generalize L.getD i 0 = a at *
    generalize hjj : (i + 1) % L.length = j at *
    generalize L.getD j 0 = b at *
    obtain ⟨qa, ma, hra, hIa⟩ := (hT.ext hEd).rd hA
    rw [hM.row a hA] at hra
    have hIa' : Ints wk.drew (.slice qa T.length ma) (T.getD a []) := by rw [← hM.row a hA]; exact hIa
    have hpa := hIa'.isSome (by have := hM.row a hA; omega)
    have hab : rd wk.drew (pidx qa b 1) = some (.int .i64 (dT T a b)) := hIa'.rd (by have := hM.row a hA; omega)
    obtain ⟨X, hX⟩ : ∃ X, lenK T L i + dT T a b = X := ⟨_, rfl⟩
    rw [hX] at hsucc
    generalize dT T a b = d at *
    generalize lenK T L i = l at *
    repeat' (first|refine za ?_|refine zA ?_|refine zB ?_|refine zb ?_|refine zc ?_|refine ze ?_|refine zd ?_|refine zC ?_|refine zL ?_|refine zM ?_|refine zX ?_|refine zk ?_|refine zl ?_)
    (refine wc_drawn 15 (by kernel_rfl) (by kernel_rfl) ?_; simp only [List.take_succ_cons, List.take_zero, List.drop_succ_cons, List.drop_zero])
    repeat' (first|refine za ?_|refine zA ?_|refine zI ?_|refine zK ?_|refine zL ?_|refine zM ?_)
    refine r_rem_n (a := i + 1) (b := L.length) (c := j) rfl rfl (by omega) hjj ?_
    repeat' (first|refine za ?_|refine zA ?_|refine zB ?_|refine zb ?_|refine ze ?_|refine zd ?_|refine zI ?_|refine zL ?_|refine zM ?_|refine zh ?_)
    exact ⟨i + 1, ⟨by rw [hsucc, ← hX]; rfl, rfl, trivial⟩, ⟨by omega, hEd⟩, by omega⟩
  · obtain rfl : i = L.length := by omega
    repeat' (first|refine za ?_|refine zA ?_|refine zB ?_|refine zb ?_|refine zc ?_|refine ze ?_|refine zd ?_|refine zC ?_|refine zY ?_|refine zm ?_|refine zn ?_|refine zg ?_|refine zj ?_)
    refine post1 rfl rfl ⟨rfl, hE⟩
/-- What holds in 'Best', between two stops. -/
structure BsI (T : List (List Int)) (b6 bm base : Nat) (w0 : World) (v : Value) (s left f : Nat) (tour : List Nat) (w : World) : Prop where
  sl : s < T.length
  lb : left < 2 ^ T.length
  lf : left ≤ f
  hb : Blk w b6 104 [.int .i64 (s : Int), .int .i64 (left : Int)]
  ht : OwnI w base 3 v (ni tour)
  kn : ∃ F, MapF encP w bm F ∧ KnR T F
  pl : bestT T = tour ++ btF T f s left
  tl : tour.length + left ≤ 2 ^ T.length
  te : ∀ i, i < tour.length → tour.getD i 0 < T.length
  ext : Ext w0 w
  bs : base ≤ w.heap.size
theorem BsI.stepM {T : List (List Int)} {b6 bm base : Nat} {w0 w w' : World} {v : Value} {s left f : Nat} {tour : List Nat} (h : BsI T b6 bm base w0 v s left f tour w) {F' : Int × Int → Option Value} (hF : MapF encP w' bm F') (hK : KnR T F') (hC : Ch (fun k => k = bm) w w') (hbm : w0.heap.size ≤ bm) : BsI T b6 bm base w0 v s left f tour w' := by
  obtain ⟨F, hF0, _⟩ := h.kn
  refine ⟨h.sl, h.lb, h.lf, h.hb.keep hC fun e => ?_, ownsRow_keep h.ht hC fun g hg e => ?_, ⟨F', hF, hK⟩, h.pl, h.tl, h.te, Ch.trans' h.ext hC (fun k hk e => by omega), Nat.le_trans h.bs hC.size⟩
  · subst e; exact hF0.nobox h.hb
  · subst e
    rcases h.ht.2 with ⟨rfl, _⟩ | ⟨g', cap, cells, rfl, _, hh, _⟩
    · cases hg
    · cases hg; exact hF0.nobox hh
theorem BsI.stepE {T : List (List Int)} {b6 bm base : Nat} {w0 w w' : World} {v : Value} {s left f : Nat} {tour : List Nat} (h : BsI T b6 bm base w0 v s left f tour w) (hE : Ext w w') : BsI T b6 bm base w0 v s left f tour w' := by
  obtain ⟨F, hF0, hK⟩ := h.kn
  exact ⟨h.sl, h.lb, h.lf, h.hb.ext hE, ownsRow_ext h.ht hE, ⟨F, hF0.ext hE, hK⟩, h.pl, h.tl, h.te, h.ext.trans hE, Nat.le_trans h.bs hE.size⟩
set_option maxHeartbeats 8000000 in
theorem Best_any (T : List (List Int)) (hM : Miles T) (q : Option Addr) (c : Nat) (w : World) (hT : Tab w (.slice q T.length c) T) :
    Calls Tryz.prog 18 #[.slice q T.length c] w (Ret fun v w' => ∃ u, v = .tuple #[u, .int .i64 (lenK T (bestT T) (bestT T).length), .int .i64 0] ∧ OwnI w' w.heap.size 3 u (ni (bestT T)) ∧ Ext w w') := by
  have hn1 := hM.n1
  have hn11 := hM.n11
  have hpn : 2 ^ T.length ≤ 2 ^ 11 := Nat.pow_le_pow_right (by decide) hn11
  have hp2 : 2 ≤ 2 ^ T.length := Nat.le_trans (by decide : 2 ≤ 2 ^ 1) (Nat.pow_le_pow_right (by decide) hn1)
  have hps := hT.isSome (by omega)
  refine calls_of_wc (args := [.slice q T.length c]) Tryz.func18 rfl ?_ ?_; kernel_rfl
  repeat' (first|refine za ?_|refine zA ?_|refine zB ?_|refine zb ?_|refine zc ?_|refine ze ?_|refine zd ?_)
  (refine r_call_q (v := ?_) rfl ?_ ?_; rotate_left 1; focus exact isMiles_any q c T w hT hM)
  repeat' (first|refine za ?_|refine zb ?_|refine zc ?_|refine ze ?_|refine zd ?_|refine zO ?_|refine zY ?_|refine zk ?_)
  refine r_makeMap encP fun w1 hF1 hE1 hs1 => ?_
  obtain ⟨bm, ebm⟩ : ∃ b, b = w.heap.size := ⟨_, rfl⟩
  rw [← ebm] at hF1 ⊢
  obtain ⟨full, hfull⟩ : ∃ full, full = 2 ^ T.length - 2 := ⟨_, rfl⟩
  repeat' (first|refine za ?_|refine zA ?_|refine zB ?_|refine zb ?_|refine zc ?_|refine ze ?_|refine zd ?_|refine zK ?_)
  refine r_shlN (m := 1) (n := T.length) (r := full + 2) rfl rfl (by omega) (by omega) (by omega) ?_
  refine za ?_
  refine r_sub_v (c := (full : Int)) rfl rfl (by rw [show ((full + 2 : Nat) : Int) - 2 = (full : Int) by omega]; exact wrap_in (by omega) (by omega)) ?_
  repeat' (refine za ?_)
  refine r_build (cells := #[.int .i64 0, .int .i64 (full : Int)]) (bt104 0 (full : Int)) ?_
  repeat' (refine za ?_)
  refine r_allocN z104 fun w2 hb2 hE2 hs2 => ?_
  obtain ⟨b6, eb6⟩ : ∃ b, b = w1.heap.size := ⟨_, rfl⟩
  rw [← eb6] at hb2 ⊢
  repeat' (refine za ?_)
  refine r_stN (ws := [.int .i64 0, .int .i64 (full : Int)]) ag104 (by decide) hb2 rfl rfl rfl rfl (by intro q hq; simp at hq; rcases hq with rfl | rfl <;> rfl) fun w3 hb3 hC3 hs3 => ?_
  have hE13 : Ext w1 w3 := Ch.trans' hE2 hC3 fun k hk e => by omega
  repeat' (first|refine za ?_|refine zb ?_|refine zc ?_|refine ze ?_|refine zd ?_)
  refine r_buildS1 el27 (u := .int .i64 0) rfl rfl fun w4 h4 hE4 hs4 => ?_
  have ht4 : OwnI w4 w3.heap.size 3 (.slice (some ⟨w3.heap.size, 0, none⟩) 1 1) (ni [0]) := h4
  have hE04 := (hE1.trans hE13).trans hE4
  have hb6m : bm < b6 := by omega
  have hbw : w.heap.size ≤ bm := by omega
  have hb6w : b6 < w3.heap.size := hb3.lt
  have hI4 : BsI T b6 bm w3.heap.size w (.slice (some ⟨w3.heap.size, 0, none⟩) 1 1) 0 full full [0] w4 :=
    ⟨by omega, by omega, Nat.le_refl _, hb3.ext hE4, ht4, ⟨_, (hF1.ext hE13).ext hE4, fun a b u h => by cases h⟩, by rw [hfull]; rfl, by simp; omega, fun i hi => by (have h : i = 0 := by simpa using hi); (subst h; exact hn1), hE04, hE4.size⟩
  generalize hw3 : w3.heap.size = base at *
  generalize (Value.slice (some ⟨base, 0, none⟩) 1 1) = v4 at *
  repeat' (first|refine za ?_|refine zB ?_|refine zb ?_|refine zc ?_|refine ze ?_|refine zl ?_)
  refine wc_loop2 [0, 5, 6] (fun (z : Nat × Nat × Nat × List Nat) (v : Value) => [(7, v)]) (fun z v wk => BsI T b6 bm base w v z.1 z.2.1 z.2.2.1 z.2.2.2 wk) (fun z _ => z.2.1) (0, full, full, [0]) v4 rfl ⟨rfl, trivial⟩ hI4 ?_
  rintro ⟨s, left, f, tour⟩ v wk x hI
  dsimp only at hI ⊢
  have g1 : rd wk (some ⟨b6, 0 + 1, none⟩) = some (.int .i64 (left : Int)) := hI.hb.rd rfl
  obtain ⟨qv, cv, rfl, _⟩ := hI.ht.ints.slice
  have hlb := hI.lb
  repeat' (first|refine za ?_|refine zc ?_|refine zd ?_)
  refine r_fa fo104_1 rfl ?_
  by_cases h0 : left = 0
  · subst h0
    have hpl := hI.pl
    rw [btF_zero, List.append_nil] at hpl
    have hl : (ni tour).length = tour.length := ni_len tour
    have hti := hI.ht
    rw [hl] at hti
    have hte := hI.te
    have htl := hI.tl
    rw [hpl]
    repeat' (first|refine za ?_|refine zA ?_|refine zb ?_|refine zc ?_|refine ze ?_|refine zd ?_|refine zE ?_|refine zM ?_|refine zY ?_|refine zm ?_|refine zg ?_|refine zj ?_)
    rw [hl]
    (refine r_call (R := ?_) rfl ?_ ?_; rotate_left 1; focus exact length49 T hM q qv c cv tour wk (hT.ext hI.ext) hti.ints hte (by omega))
    rintro _ w6 ⟨rfl, hE6⟩
    repeat' (first|refine za ?_|refine zB ?_|refine zb ?_|refine ze ?_|refine zn ?_)
    refine post3 rfl (v1 := .slice qv tour.length cv) (v2 := .int .i64 (lenK T tour tour.length)) (v3 := .int .i64 0) rfl rfl rfl ?_
    exact ⟨_, rfl, ownsRow_mono (ownsRow_ext hti hE6) (by omega), hI.ext.trans hE6⟩
  · obtain ⟨F, hF, hK⟩ := hI.kn
    repeat' (first|refine za ?_|refine zA ?_|refine zb ?_|refine zc ?_|refine ze ?_|refine zd ?_|refine zE ?_|refine zM ?_|refine zX ?_|refine zk ?_|refine zl ?_)
    refine r_ldN (vs := [.int .i64 (s : Int), .int .i64 (left : Int)]) ag104 (by decide) hI.hb rfl rfl ?_
    repeat' (refine za ?_)
    (refine r_call (R := ?_) rfl ?_ ?_; rotate_left 1; focus exact rest_any T hM q c bm left s F wk hlb hI.sl (hT.ext hI.ext) hF hK)
    rintro _ w5 ⟨rfl, F5, hF5, hK5, hC5⟩
    have hI5 := hI.stepM hF5 hK5 hC5 hbw
    obtain ⟨f', rfl⟩ : ∃ f', f = f' + 1 := ⟨f - 1, by have := hI.lf; omega⟩
    obtain ⟨R, hR⟩ : ∃ R, rs T s left = R := ⟨_, rfl⟩
    rw [hR]
    repeat' (first|refine za ?_|refine zA ?_|refine zB ?_|refine zb ?_|refine zc ?_|refine ze ?_|refine zd ?_|refine zK ?_|refine zl ?_)
    refine wc_loop [0, 5, 6, 8, 29] (fun (k : Nat) => [(7, .slice qv (ni tour).length cv), (30, .int .i64 k)]) (fun k wz => k ≤ T.length ∧ (∀ j, j < k → goodV T s left j = false) ∧ BsI T b6 bm base w (.slice qv (ni tour).length cv) s left (f' + 1) tour wz) (fun k => T.length - k) 0 rfl ⟨rfl, rfl, trivial⟩ ⟨by omega, fun j hj => by omega, hI5⟩ ?_
    rintro k wz y ⟨hk, hng, hIz⟩
    by_cases hkn : k < T.length
    rotate_left 1
    · obtain ⟨v, hv, hg⟩ := good_ex hM hlb hI.sl h0
      have := hng v (by omega)
      rw [hg] at this; cases this
    have h2k : 2 ^ k < 2 ^ 11 := Nat.pow_lt_pow_right (by decide) (by omega)
    have hs := hIz.sl
    obtain ⟨Fz, hFz, hKz⟩ := hIz.kn
    obtain ⟨lk, hlk⟩ : ∃ lk, cl left k = lk := ⟨_, rfl⟩
    have hlkl : lk ≤ left := by rw [← hlk]; exact cl_le _ _
    have hIzd := hIz.stepE (Ext.drew wz)
    repeat' (first|refine za ?_|refine zA ?_|refine zB ?_|refine zb ?_|refine zc ?_|refine ze ?_|refine zd ?_|refine zC ?_|refine zX ?_|refine zk ?_|refine zl ?_)
    refine wc_heldB (fun w' => Ext wz.drew w') (.take 0 (.take 1 (.take 2 (.take 3 (.take 4 (.take 5 (.take 6 (.one 7 (.one 8 .done))))))))) (by kernel_rfl) (by kernel_rfl) (Ext.refl _) ?_
    refine whB_take (v := .int .i64 (k : Int)) rfl rfl (fun w' hw' => rv_move_v rfl) ?_
    refine whB_take rfl rfl (fun w' hw' => rv_fa fo104_1 rfl) ?_
    refine whB_take (v := .int .i64 (left : Int)) rfl rfl (fun w' hw' => rv_ld ct3 rfl ((hIzd.hb.ext hw').rd rfl)) ?_
    refine whB_take (v := .int .i64 (k : Int)) rfl rfl (fun w' hw' => rv_move_v rfl) ?_
    refine whB_take rfl rfl (fun w' hw' => rv_of rfl (fun _ h => r_shlN (m := 1) (n := k) (r := 2 ^ k) rfl rfl (by omega) (Nat.one_mul _) (by omega) h) fun _ _ h => val_of h) ?_
    refine whB_take rfl rfl (fun w' hw' => rv_of rfl (fun _ h => r_andNot (m := left) (v := k) (n := 2 ^ k) (r := lk) rfl rfl (by omega) (by omega) rfl hlk h) fun _ _ h => val_of h) ?_
    refine whB_take rfl rfl (fun w' hw' => rv_of rfl (fun _ h => r_build (bt104 (k : Int) (lk : Int)) h) fun _ _ h => val_of h) ?_
    refine whB_one rfl rfl ?_
    refine r_allocN z104 fun w7 hb7 hE7 hs7 => ?_
    obtain ⟨b10, eb10⟩ : ∃ b, b = wz.drew.heap.size := ⟨_, rfl⟩
    rw [← eb10] at hb7 ⊢
    refine ⟨hE7, whB_one rfl rfl ?_⟩
    refine r_stN (ws := [.int .i64 (k : Int), .int .i64 (lk : Int)]) ag104 (by decide) hb7 rfl rfl rfl rfl (by intro q hq; simp at hq; rcases hq with rfl | rfl <;> rfl) fun w8 hb8 hC8 hs8 => ?_
    have hE8 : Ext wz.drew w8 := Ch.trans' hE7 hC8 fun k hk e => by omega
    refine ⟨hE8, whB_done ?_⟩
    have hI8 := hIzd.stepE hE8
    have hF8 := (hFz.ext (Ext.drew wz)).ext hE8
    have hbm10 : bm < b10 := by have := (hFz.ext (Ext.drew wz)).lt; omega
    have hb6b : b6 < b10 := by have := hIzd.hb.lt; omega
    by_cases hbit : left.testBit k = true
    rotate_left 1
    · have hsame : lk = left := by rw [← hlk]; exact cl_same (by omega) (by omega) (by simpa using hbit)
      have g6 : rd w8.drew (some ⟨b6, 0 + 1, none⟩) = some (.int .i64 (left : Int)) := (hI8.hb.ext (Ext.drew w8)).rd rfl
      have g10 : rd w8.drew (some ⟨b10, 0 + 1, none⟩) = some (.int .i64 (lk : Int)) := (hb8.ext (Ext.drew w8)).rd rfl
      repeat' (first|refine zc ?_|refine ze ?_)
      (refine wc_drawn 20 (by kernel_rfl) (by kernel_rfl) ?_; simp only [List.take_succ_cons, List.take_zero, List.drop_succ_cons, List.drop_zero])
      repeat' (refine za ?_)
      refine r_fa fo104_1 rfl ?_
      repeat' (first|refine za ?_|refine zM ?_)
      refine r_fa fo104_1 rfl ?_
      repeat' (first|refine za ?_|refine zA ?_|refine zb ?_|refine ze ?_|refine zd ?_|refine zH ?_|refine zI ?_|refine zM ?_|refine zR ?_|refine zV ?_|refine zY ?_|refine zk ?_|refine zh ?_)
      refine ⟨k + 1, ⟨rfl, rfl, trivial⟩, ⟨by omega, fun j hj => ?_, hI8.stepE (Ext.drew w8)⟩, by omega⟩
      by_cases ej : j = k
      · subst ej; unfold goodV; rw [show left.testBit j = false by simpa using hbit]; rfl
      · exact hng j (by omega)
    have hltl : lk < left := by rw [← hlk]; exact cl_ne (by omega) (by omega) hbit
    have hI9 := hI8.stepE (Ext.drew w8)
    have hF9 := hF8.ext (Ext.drew w8)
    have hb9 := hb8.ext (Ext.drew w8)
    have hT9 : Tab w8.drew (.slice q T.length c) T := hT.ext hI9.ext
    obtain ⟨qk, mk, hrk, hIk⟩ := hT9.rd hs
    rw [hM.row s hs] at hrk
    have hIk' : Ints w8.drew (.slice qk T.length mk) (T.getD s []) := by rw [← hM.row s hs]; exact hIk
    have hpk := hIk'.isSome (by have := hM.row s hs; omega)
    have hek : rd w8.drew (pidx qk k 1) = some (.int .i64 (dT T s k)) := hIk'.rd (by have := hM.row s hs; omega)
    have hcall := rest_any T hM q c bm lk k Fz w8.drew (by omega) hkn hT9 hF9 hKz
    have hr2 := rs_bnd hM lk k (by omega) hkn
    have hd2 := hM.rng s k hs hkn
    have hgood : goodV T s left k = decide (dT T s k + rs T k lk = R) := by unfold goodV; rw [hbit, hlk, hR]; rfl
    obtain ⟨X, hX⟩ : ∃ X, dT T s k + rs T k lk = X := ⟨_, rfl⟩
    rw [hX] at hgood
    generalize dT T s k = dk at *
    generalize rs T k lk = rk at *
    obtain ⟨t, ht⟩ : ∃ t, decide (X = R) = t := ⟨_, rfl⟩
    rw [ht] at hgood
    repeat' (first|refine zc ?_|refine ze ?_)
    refine wc_heldB (fun w' => Ch (fun k => k = bm) w8.drew w') (.take 0 (.take 1 (.take 2 (.take 3 (.take 4 (.take 5 (.take 6 (.take 7 (.take 8 (.take 9 (.take 10 (.take 11 (.take 12 (.take 13 (.take 14 (.take 15 (.take 16 (.take 19 (.one 17 (.take 18 (.take 20 (.take 21 .done)))))))))))))))))))))) (by kernel_rfl) (by kernel_rfl) (Ch.refl _ _) ?_
    refine whB_take rfl rfl (fun w' hw' => rv_fa fo104_1 rfl) ?_
    refine whB_take (v := .int .i64 (left : Int)) rfl rfl (fun w' hw' => rv_ld ct3 rfl ((hI9.hb.keep hw' (by omega)).rd rfl)) ?_
    refine whB_take rfl rfl (fun w' hw' => rv_fa fo104_1 rfl) ?_
    refine whB_take (v := .int .i64 (lk : Int)) rfl rfl (fun w' hw' => rv_ld ct3 rfl ((hb9.keep hw' (by omega)).rd rfl)) ?_
    refine whB_take (v := .bool true) rfl rfl (fun w' hw' => rv_of rfl (fun _ h => r_neq rfl rfl (by rw [decide_eq_true (by omega)]; exact h)) fun _ _ h => val_of h) ?_
    refine whB_take (v := .bool true) rfl rfl (fun w' hw' => rv_move_v rfl) ?_
    refine whB_takeG (v := .slice q T.length c) rfl rfl rfl rfl (fun w' hw' => rv_move_v rfl) ?_
    refine whB_takeG rfl rfl rfl rfl (fun w' hw' => rv_fa fo104_0 rfl) ?_
    refine whB_takeG (v := .int .i64 (s : Int)) rfl rfl rfl rfl (fun w' hw' => rv_ld ct3 rfl ((hI9.hb.keep hw' (by omega)).rd rfl)) ?_
    refine whB_takeG rfl rfl rfl rfl (fun w' hw' => rv_idx sz35 rfl rfl hps (by omega) (by omega)) ?_
    refine whB_takeG (v := .slice qk T.length mk) rfl rfl rfl rfl (fun w' hw' => rv_ld ct27 rfl (rd_keepM hrk hF9 hw')) ?_
    refine whB_takeG (v := .int .i64 (k : Int)) rfl rfl rfl rfl (fun w' hw' => rv_move_v rfl) ?_
    refine whB_takeG rfl rfl rfl rfl (fun w' hw' => rv_idx sz27 rfl rfl hpk (by omega) (by omega)) ?_
    refine whB_takeG (v := .int .i64 dk) rfl rfl rfl rfl (fun w' hw' => rv_ld ct3 rfl (rd_keepM hek hF9 hw')) ?_
    refine whB_takeG (v := .slice q T.length c) rfl rfl rfl rfl (fun w' hw' => rv_move_v rfl) ?_
    refine whB_takeG (v := .map (some bm)) rfl rfl rfl rfl (fun w' hw' => rv_move_v rfl) ?_
    refine whB_takeG rfl rfl rfl rfl (fun w' hw' => rv_of rfl (fun _ h => r_ldN (vs := [.int .i64 (k : Int), .int .i64 (lk : Int)]) ag104 (by decide) (hb9.keep hw' (by omega)) rfl rfl h) fun _ _ h => val_of h) ?_
    refine whB_takeG (v := .int .i64 R) rfl rfl rfl rfl (fun w' hw' => rv_move_v rfl) ?_
    refine whB_oneG rfl rfl rfl rfl ?_
    (refine r_call (R := ?_) rfl ?_ ?_; rotate_left 1; focus exact hcall)
    rintro _ w10 ⟨rfl, F10, hF10, hK10, hC10⟩
    refine ⟨hC10, ?_⟩
    refine whB_takeG (v := .int .i64 X) rfl rfl rfl rfl (fun w' hw' => rv_of rfl (fun _ h => r_add_v (c := X) rfl rfl (by omega) hX h) fun _ _ h => val_of h) ?_
    refine whB_takeG (v := .bool t) rfl rfl rfl rfl (fun w' hw' => rv_of rfl (fun _ h => r_eql rfl rfl (by rw [ht]; exact h)) fun _ _ h => val_of h) ?_
    refine whB_take (v := .bool t) rfl rfl (fun w' hw' => rv_pick_tb rfl rfl) ?_
    refine whB_done ?_
    have hI10 := hI9.stepM hF10 hK10 hC10 hbw
    cases t with
    | false =>
      repeat' (first|refine za ?_|refine zA ?_|refine zb ?_|refine ze ?_|refine zd ?_|refine zI ?_|refine zY ?_|refine zk ?_|refine zh ?_)
      refine ⟨k + 1, ⟨rfl, rfl, trivial⟩, ⟨by omega, fun j hj => ?_, hI10⟩, by omega⟩
      by_cases ej : j = k
      · subst ej; exact hgood
      · exact hng j (by omega)
    | true =>
      have hb10k : Blk w10 b10 104 [.int .i64 (k : Int), .int .i64 (lk : Int)] := hb9.keep hC10 (by omega)
      repeat' (first|refine za ?_|refine zc ?_|refine ze ?_|refine zd ?_|refine zX ?_)
      refine r_ldN (vs := [.int .i64 (k : Int), .int .i64 (lk : Int)]) ag104 (by decide) hb10k rfl rfl ?_
      repeat' (refine za ?_)
      refine r_stN (ws := [.int .i64 (k : Int), .int .i64 (lk : Int)]) ag104 (by decide) hI10.hb rfl rfl rfl rfl (by intro q hq; simp at hq; rcases hq with rfl | rfl <;> rfl) fun w11 hb11 hC11 hs11 => ?_
      have ht11 : OwnI w11 base 3 (.slice qv (ni tour).length cv) (ni tour) := ownsRow_keep hI10.ht hC11 fun g hg e => by have := (hI10.ht.lt g hg).1; omega
      have hbase : base ≤ w11.heap.size := Nat.le_trans hI10.bs hC11.size
      have hlt := hIz.tl
      repeat' (first|refine za ?_|refine zA ?_|refine zb ?_|refine zc ?_|refine ze ?_|refine zd ?_)
      refine r_append1_i (a := (k : Int)) el27 ht11 rfl rfl (by rw [ni_len]; omega) hbase fun v' w12 qx h12 hG hne hgb => ?_
      have hC12 : Ch (fun g => (Value.slice qv (ni tour).length cv).ownBlock = some g) w11 w12 := Ch.grown hG fun k e => e
      have hge : ∀ g, (Value.slice qv (ni tour).length cv).ownBlock = some g → base ≤ g := fun g hg => (ht11.lt g hg).1
      obtain ⟨q12, c12, rfl, _⟩ := h12.ints.slice
      have hF12 : MapF encP w12 bm F10 := (hF10.keep hC11 (by omega)).keep hC12 fun e => by have := hge _ e; omega
      repeat' (first|refine za ?_|refine zB ?_|refine zb ?_|refine ze ?_|refine zm ?_|refine zg ?_|refine zj ?_|refine zZ ?_|refine zh ?_)
      refine ⟨(k, lk, f', tour ++ [k]), _, ⟨rfl, trivial⟩, ⟨hkn, Nat.lt_of_le_of_lt hlkl hlb, by have := hIz.lf; dsimp only; omega, hb11.keep hC12 fun e => by have := hge _ e; omega, by rw [ni_append]; exact h12, ⟨F10, hF12, hK10⟩, ?_, ?_, ?_, ?_, Nat.le_trans hbase hC12.size⟩, by dsimp only; omega⟩
      · dsimp only
        rw [hIz.pl, btF_step h0 hkn hgood hng, hlk, List.append_assoc]; rfl
      · dsimp only
        rw [List.length_append, List.length_singleton]; omega
      · dsimp only
        intro i hi
        rw [List.getD_eq_getElem?_getD]
        by_cases hil : i < tour.length
        · rw [List.getElem?_append_left hil, ← List.getD_eq_getElem?_getD]; exact hIz.te i hil
        · rw [List.length_append, List.length_singleton] at hi
          rw [List.getElem?_append_right (by omega), show i - tour.length = 0 by omega]
          exact hkn
      · exact Ch.trans' (Ch.trans' hI10.ext hC11 fun g hg e => by omega) hC12 fun g hg e => by have := hge _ e; omega
end Go.Proofs.YtocgehoffdjijaaGreat

/- Plain law: the first shortest tour, and the orders one after another. No program in sight. -/
import Derived.Test.YtocgehoffdjijaaGreatUK
import Derived.Test.YtocgehoffdjijaaGreatOP
namespace Go.Proofs.YtocgehoffdjijaaGreat
open Gv
set_option maxRecDepth 20000
/-- How long the way from a stop through others and back to the first one is. -/
def rc (T : List (List Int)) : Nat → List Nat → Int
  | s, [] => dT T s 0
  | s, v :: L => dT T s v + rc T v L
theorem lenK_rc {T : List (List Int)} {M : List Nat} (h0 : M.getD 0 0 = 0) : ∀ d j, j + d + 1 = M.length → lenK T M M.length = lenK T M j + rc T (M.getD j 0) (M.drop (j + 1))
  | 0, j, h => by
    have e1 : M.drop (j + 1) = [] := List.drop_eq_nil_of_le (by omega)
    have e2 : lenK T M M.length = lenK T M (j + 1) := by congr 1; omega
    have e3 : (j + 1) % M.length = 0 := by rw [show M.length = j + 1 by omega]; exact Nat.mod_self _
    rw [e1, e2]
    simp only [lenK, rc]
    rw [e3, h0]
  | d + 1, j, h => by
    rw [lenK_rc h0 d (j + 1) (by omega)]
    have e : M.drop (j + 1) = M.getD (j + 1) 0 :: M.drop (j + 1 + 1) := by
      rw [List.drop_eq_getElem_cons (by omega)]; simp [List.getD, show j + 1 < M.length by omega]
    rw [e]
    simp only [lenK, rc]
    rw [Nat.mod_eq_of_lt (by omega)]; omega
theorem lenK_tour {T : List (List Int)} (L : List Nat) : lenK T (0 :: L) (L.length + 1) = rc T 0 L := by
  have := lenK_rc (T := T) (M := 0 :: L) rfl L.length 0 (by simp)
  simpa [lenK] using this
/-- The stops that are left, each once. -/
def Fit (L : List Nat) (left : Nat) : Prop := L.Nodup ∧ ∀ v, v ∈ L ↔ left.testBit v = true
theorem fit_nil {left : Nat} (h : Fit [] left) : left = 0 := by
  refine Nat.eq_of_testBit_eq fun i => ?_
  rw [Nat.zero_testBit]
  cases e : left.testBit i with
  | false => rfl
  | true => exact absurd ((h.2 i).2 e) (by simp)
theorem fit_zero {L : List Nat} (h : Fit L 0) : L = [] := by
  cases L with
  | nil => rfl
  | cons v L => have := (h.2 v).1 (by simp); simp at this
theorem bit_lt64 {left v : Nat} (hl : left < 2 ^ 11) (h : left.testBit v = true) : v < 64 := by have := bit_lt hl h; omega
theorem fit_cons {v : Nat} {L : List Nat} {left : Nat} (hl : left < 2 ^ 11) (h : Fit (v :: L) left) : left.testBit v = true ∧ Fit L (cl left v) := by
  have hv := (h.2 v).1 (by simp)
  have hv64 := bit_lt64 hl hv
  have hn := List.nodup_cons.1 h.1
  refine ⟨hv, hn.2, fun u => ?_⟩
  rw [cl_bit hv64 (by omega)]
  have := h.2 u
  simp only [List.mem_cons] at this
  constructor
  · intro hu
    rw [this.1 (.inr hu)]
    have : u ≠ v := by rintro rfl; exact hn.1 hu
    simp [this]
  · intro hu
    simp only [Bool.and_eq_true, decide_eq_true_eq] at hu
    exact (this.2 hu.1).resolve_left hu.2
theorem fit_cons' {v : Nat} {L : List Nat} {left : Nat} (hl : left < 2 ^ 11) (hv : left.testBit v = true) (h : Fit L (cl left v)) : Fit (v :: L) left := by
  have hv64 := bit_lt64 hl hv
  have hm : ∀ u, u ∈ L ↔ left.testBit u = true ∧ u ≠ v := fun u => by rw [h.2 u, cl_bit hv64 (by omega)]; simp
  refine ⟨List.nodup_cons.2 ⟨fun h2 => ((hm v).1 h2).2 rfl, h.1⟩, fun u => ?_⟩
  simp only [List.mem_cons]
  constructor
  · rintro (rfl | hu)
    · exact hv
    · exact ((hm u).1 hu).1
  · intro hu
    by_cases e : u = v
    · exact .inl e
    · exact .inr ((hm u).2 ⟨hu, e⟩)
theorem rsK_le {T : List (List Int)} (hM : Miles T) {s left : Nat} (hb : left < 2 ^ T.length) (hs : s < T.length) : ∀ k, k ≤ T.length → ∀ j, j < k → left.testBit j = true → rsK T s left k ≤ dT T s j + rs T j (cl left j) := by
  have hnn : ∀ v, v < T.length → left.testBit v = true → 0 ≤ dT T s v + rs T v (cl left v) := fun v hv _ => by
    have h1 := rs_nn hM (cl left v) v (Nat.lt_of_le_of_lt (cl_le _ _) hb) hv
    have h2 := (hM.rng s v hs hv).1
    omega
  intro k
  induction k with
  | zero => intro _ j hj; omega
  | succ k ih =>
    intro hk j hj hjb
    rw [rsK_succ]
    have hc := rsK_cases hnn k (by omega)
    by_cases hkb : left.testBit k = true
    · rw [if_pos hkb]
      unfold stepL
      by_cases e : j = k
      · subst e; split <;> omega
      · have h1 := ih (by omega) j (by omega) hjb
        rcases hc with ⟨h2, _⟩ | ⟨h2, _⟩
        · have := h2 j (by omega); rw [hjb] at this; cases this
        · split <;> omega
    · rw [if_neg hkb]
      exact ih (by omega) j (by have : j ≠ k := by rintro rfl; exact hkb hjb
                                omega) hjb
theorem pow_le11 {T : List (List Int)} (hM : Miles T) : 2 ^ T.length ≤ 2 ^ 11 := Nat.pow_le_pow_right (by decide) hM.n11
theorem rs_le {T : List (List Int)} (hM : Miles T) {s left v : Nat} (hb : left < 2 ^ T.length) (hs : s < T.length) (hv : left.testBit v = true) : rs T s left ≤ dT T s v + rs T v (cl left v) := by
  have hp := pow_le11 hM
  have h0 : left ≠ 0 := by rintro rfl; simp at hv
  rw [rs_eq hM.n11 (by omega) h0]
  exact rsK_le hM hb hs _ (Nat.le_refl _) v (bit_lt hb hv) hv
/-- No way is shorter than the rest. -/
theorem rs_rc {T : List (List Int)} (hM : Miles T) : ∀ (L : List Nat) (s left : Nat), left < 2 ^ T.length → s < T.length → Fit L left → rs T s left ≤ rc T s L
  | [], s, left, _, _, hf => by rw [fit_nil hf, rs_zero]; exact Int.le_refl _
  | v :: L, s, left, hb, hs, hf => by
    have hp := pow_le11 hM
    obtain ⟨hv, hf'⟩ := fit_cons (by omega) hf
    have h1 := rs_le hM hb hs hv
    have h2 := rs_rc hM L v (cl left v) (Nat.lt_of_le_of_lt (cl_le _ _) hb) (bit_lt hb hv) hf'
    simp only [rc]; omega
theorem least_nat (p : Nat → Bool) : ∀ n, (∃ v, v < n ∧ p v = true) → ∃ v, v < n ∧ p v = true ∧ ∀ j, j < v → p j = false
  | 0, h => by obtain ⟨v, hv, _⟩ := h; omega
  | n + 1, h => by
    by_cases h1 : ∃ v, v < n ∧ p v = true
    · obtain ⟨v, hv, h2, h3⟩ := least_nat p n h1
      exact ⟨v, by omega, h2, h3⟩
    · obtain ⟨v, hv, h2⟩ := h
      have e : v = n := by
        by_cases e : v = n
        · exact e
        · exact absurd ⟨v, by omega, h2⟩ h1
      subst e
      refine ⟨v, hv, h2, fun j hj => ?_⟩
      cases e : p j with
      | false => rfl
      | true => exact absurd ⟨j, hj, e⟩ h1
/-- The first shortest way takes the first stop that is good. -/
theorem bt_first {T : List (List Int)} (hM : Miles T) {f s left : Nat} (hf : left ≤ f) (hb : left < 2 ^ T.length) (hs : s < T.length) (h0 : left ≠ 0) :
    ∃ v f', v < T.length ∧ goodV T s left v = true ∧ (∀ j, j < v → goodV T s left j = false) ∧ cl left v ≤ f' ∧ btF T f s left = v :: btF T f' v (cl left v) := by
  have hp := pow_le11 hM
  obtain ⟨v, hv, hg, hn⟩ := least_nat _ _ (good_ex hM hb hs h0)
  obtain ⟨f', rfl⟩ : ∃ f', f = f' + 1 := ⟨f - 1, by omega⟩
  have hvb : left.testBit v = true := by unfold goodV at hg; simp only [Bool.and_eq_true] at hg; exact hg.1
  have := cl_ne (bit_lt64 (by omega) hvb) (by omega) hvb
  exact ⟨v, f', hv, hg, hn, by omega, btF_step h0 hv hg hn⟩
theorem good_spec {T : List (List Int)} {s left v : Nat} : goodV T s left v = true ↔ left.testBit v = true ∧ dT T s v + rs T v (cl left v) = rs T s left := by unfold goodV; simp
theorem fit_bt {T : List (List Int)} (hM : Miles T) : ∀ (left f s : Nat), left ≤ f → left < 2 ^ T.length → s < T.length → Fit (btF T f s left) left ∧ rc T s (btF T f s left) = rs T s left := by
  have hp := pow_le11 hM
  intro left
  induction left using Nat.strongRecOn with
  | _ left ih =>
    intro f s hf hb hs
    by_cases h0 : left = 0
    · subst h0
      rw [btF_zero, rs_zero]
      exact ⟨⟨List.nodup_nil, fun v => by simp⟩, rfl⟩
    · obtain ⟨v, f', hv, hg, hn, hf', e⟩ := bt_first hM hf hb hs h0
      obtain ⟨hvb, hgs⟩ := good_spec.1 hg
      have hc := cl_ne (bit_lt64 (by omega) hvb) (by omega) hvb
      obtain ⟨h1, h2⟩ := ih _ hc f' v hf' (by omega) hv
      rw [e]
      exact ⟨fit_cons' (by omega) hvb h1, by simp only [rc]; rw [h2]; exact hgs⟩
/-- Of the shortest ways it is the first one. -/
theorem bt_lex {T : List (List Int)} (hM : Miles T) : ∀ (L : List Nat) (left f s : Nat), left ≤ f → left < 2 ^ T.length → s < T.length → Fit L left → rc T s L = rs T s left → btF T f s left = L ∨ ni (btF T f s left) < ni L
  | [], left, f, s, hf, hb, hs, hF, _ => by rw [fit_nil hF, btF_zero]; exact .inl rfl
  | u :: L, left, f, s, hf, hb, hs, hF, hr => by
    have hp := pow_le11 hM
    obtain ⟨hub, hF'⟩ := fit_cons (by omega) hF
    have h0 : left ≠ 0 := by rintro rfl; simp at hub
    obtain ⟨v, f', hv, hg, hn, hf', e⟩ := bt_first hM hf hb hs h0
    have hul := bit_lt hb hub
    have hcl := Nat.lt_of_le_of_lt (cl_le left u) hb
    have h1 := rs_le hM hb hs hub
    have h2 := rs_rc hM L u (cl left u) hcl hul hF'
    simp only [rc] at hr
    have hgu : goodV T s left u = true := good_spec.2 ⟨hub, by omega⟩
    have hvu : v ≤ u := by
      by_cases h : v ≤ u
      · exact h
      · have := hn u (by omega); rw [hgu] at this; cases this
    rw [e]
    by_cases hvu' : v = u
    · subst hvu'
      rcases bt_lex hM L (cl left v) f' v hf' hcl hv hF' (by omega) with h | h
      · exact .inl (by rw [h])
      · refine .inr ?_
        show (((v : Nat) : Int) :: ni (btF T f' v (cl left v))) < (((v : Nat) : Int) :: ni L)
        exact List.cons_lt_cons_iff.2 (.inr ⟨rfl, h⟩)
    · refine .inr ?_
      show (((v : Nat) : Int) :: ni (btF T f' v (cl left v))) < (((u : Nat) : Int) :: ni L)
      exact List.cons_lt_cons_iff.2 (.inl (by omega))
theorem itm_step : ∀ m, m < 6 → ∀ a, a < Od.RW.fac m → a + 1 < Od.RW.fac m → Od.MD.itm m (a : Nat) < Od.MD.itm m ((a + 1 : Nat) : Int) := by decide +kernel
theorem itm_mono {m : Nat} (hm : m < 6) : ∀ d a : Nat, a + d + 1 < Od.RW.fac m → Od.MD.itm m (a : Nat) < Od.MD.itm m ((a + d + 1 : Nat) : Int)
  | 0, a, h => itm_step m hm a (by omega) h
  | d + 1, a, h => List.lt_trans (itm_mono hm d a (by omega)) (itm_step m hm (a + d + 1) (by omega) h)
theorem itm_lt {m : Nat} (hm : m < 6) {a b : Nat} (h : a < b) (hb : b < Od.RW.fac m) : Od.MD.itm m (a : Nat) < Od.MD.itm m (b : Nat) := by
  have := itm_mono hm (b - a - 1) a (by omega)
  rw [show a + (b - a - 1) + 1 = b by omega] at this
  exact this
def lft0 (n : Nat) : Nat := 2 ^ n - 2
theorem lft0_bit {n v : Nat} (h : 1 ≤ n) : (lft0 n).testBit v = true ↔ 1 ≤ v ∧ v < n := by
  unfold lft0
  have h2 : 2 ≤ 2 ^ n := Nat.le_trans (by decide : 2 ≤ 2 ^ 1) (Nat.pow_le_pow_right (by decide) h)
  have e : 2 ^ n = 2 * 2 ^ (n - 1) := by rw [← Nat.pow_succ']; congr 1; omega
  have e2 : 2 ^ n - 2 = 2 * (2 ^ (n - 1) - 1) := by omega
  rw [e2]
  cases v with
  | zero => simp
  | succ v =>
    rw [Nat.testBit_succ, show 2 * (2 ^ (n - 1) - 1) / 2 = 2 ^ (n - 1) - 1 by omega, Nat.testBit_two_pow_sub_one]
    simp; omega
/-- The stops of an order. -/
def stops (m : Nat) (k : Nat) : List Nat := (Od.MD.itm m (k : Nat)).map Int.toNat
theorem ni_toNat {L : List Int} (h : ∀ x ∈ L, 0 ≤ x) : ni (L.map Int.toNat) = L := by
  unfold ni
  rw [List.map_map]
  conv => rhs; rw [← List.map_id L]
  exact List.map_congr_left fun x hx => Int.toNat_of_nonneg (h x hx)
theorem ord_fit {L : List Int} {n : Nat} (h : Od.IsOrd L) (hl : L.length + 1 = n) : (∀ x ∈ L, 0 ≤ x) ∧ Fit (L.map Int.toNat) (lft0 n) := by
  have hr : ∀ x ∈ L, 1 ≤ x ∧ x ≤ L.length := fun x hx => by
    obtain ⟨i, hi, rfl⟩ := List.getElem_of_mem hx
    have := (h.2 i hi).1
    simpa [List.getD, hi] using this
  have hnd : (L.map Int.toNat).Nodup := by
    rw [List.nodup_iff_pairwise_ne, List.pairwise_map, List.pairwise_iff_getElem]
    intro i j hi hj hij e
    have h1 := (h.2 j hj).2 i hij
    simp only [List.getD, List.getElem?_eq_getElem hi, List.getElem?_eq_getElem hj, Option.getD_some] at h1
    have h2 := hr _ (List.getElem_mem hi)
    have h3 := hr _ (List.getElem_mem hj)
    omega
  refine ⟨fun x hx => by have := hr x hx; omega, hnd, fun v => ?_⟩
  rw [lft0_bit (by omega)]
  have hsub : ∀ v, v ∈ L.map Int.toNat → 1 ≤ v ∧ v < n := fun v hv => by
    obtain ⟨x, hx, rfl⟩ := List.mem_map.1 hv
    have := hr x hx; omega
  refine ⟨hsub v, fun hv => ?_⟩
  obtain ⟨i, hi, e⟩ := Od.PO.surj h.ok (x := v - 1) (by omega)
  refine List.mem_map.2 ⟨L.getD i 0, ?_, ?_⟩
  · rw [List.getD_eq_getElem?_getD, List.getElem?_eq_getElem hi]; exact List.getElem_mem hi
  · have h1 := (h.2 i hi).1
    unfold Od.CY.nxt at e
    omega
theorem fit_len {L : List Nat} {n : Nat} (h : Fit L (lft0 n)) (hn : 1 ≤ n) : L.length = n - 1 := by
  have hp : L.Perm (List.range' 1 (n - 1)) := (List.perm_ext_iff_of_nodup h.1 List.nodup_range').2 fun v => by
    rw [h.2 v, lft0_bit hn, List.mem_range'_1]; omega
  rw [hp.length_eq]; simp
theorem fit_ok {L : List Nat} {n : Nat} (h : Fit L (lft0 n)) (hn : 1 ≤ n) : Od.CY.Ok (ni L) := by
  have hl := fit_len h hn
  refine ⟨fun i hi => ?_, fun i k hk hi e => ?_⟩
  · rw [ni_len] at hi ⊢
    rw [ni_get]
    have hm : L.getD i 0 ∈ L := by rw [List.getD_eq_getElem?_getD, List.getElem?_eq_getElem hi]; exact List.getElem_mem hi
    have := (lft0_bit hn).1 ((h.2 _).1 hm)
    omega
  · rw [ni_len] at hi
    rw [ni_get, ni_get] at e
    have e2 : L.getD k 0 = L.getD i 0 := by omega
    simp only [List.getD, List.getElem?_eq_getElem hi, List.getElem?_eq_getElem (show k < L.length by omega), Option.getD_some] at e2
    have := (List.getElem_inj h.1).1 e2
    omega
/-- How long the tour of an order is. -/
def costT (T : List (List Int)) (m k : Nat) : Int := lenK T (0 :: stops m k) (m + 1)
theorem stops_fit {m k : Nat} (hm : m < 6) (hk : k < Od.RW.fac m) : ni (stops m k) = Od.MD.itm m (k : Nat) ∧ Fit (stops m k) (lft0 (m + 1)) ∧ (stops m k).length = m := by
  obtain ⟨h1, _, h2, _⟩ := Od.MD.itm_ord (n := m) (k := (k : Nat)) (by omega) (by omega) (by omega)
  obtain ⟨h3, h4⟩ := ord_fit (n := m + 1) h1 (by rw [h2])
  exact ⟨ni_toNat h3, h4, by unfold stops; rw [List.length_map, h2]⟩
theorem lft0_lt (n : Nat) : lft0 n < 2 ^ n := by unfold lft0; have := Nat.two_pow_pos n; omega
theorem costT_rc {T : List (List Int)} {m k : Nat} (hm : m < 6) (hk : k < Od.RW.fac m) : costT T m k = rc T 0 (stops m k) := by
  unfold costT
  have := lenK_tour (T := T) (stops m k)
  rw [(stops_fit hm hk).2.2] at this
  exact this
theorem tours_law {T : List (List Int)} {m j : Nat} (hM : Miles T) (hN : T.length = m + 1) (hm : m < 6) (hj : j < Od.RW.fac m) (h1 : ∀ i, i < j → costT T m j < costT T m i) (h2 : ∀ i, i < Od.RW.fac m → costT T m j ≤ costT T m i) :
    costT T m j = lenK T (bestT T) (bestT T).length ∧ ni (bestT T) = 0 :: Od.MD.itm m (j : Nat) := by
  obtain ⟨hF, hr⟩ := fit_bt hM (lft0 T.length) (lft0 T.length) 0 (Nat.le_refl _) (lft0_lt _) hM.n1
  obtain ⟨B, hB⟩ : ∃ B, B = btF T (lft0 T.length) 0 (lft0 T.length) := ⟨_, rfl⟩
  rw [← hB] at hF hr
  have hbest : bestT T = 0 :: B := by rw [hB]; rfl
  have hBl := fit_len hF hM.n1
  obtain ⟨e1, e2, e3⟩ := Od.MD.itm_idx (fit_ok hF hM.n1)
  rw [ni_len] at e1 e2 e3
  obtain ⟨k0, hk0⟩ : ∃ k0 : Nat, Od.idxK (ni B) B.length = k0 := ⟨_, (Int.toNat_of_nonneg e2).symm⟩
  rw [hk0] at e1 e3
  have hBm : B.length = m := by omega
  rw [hBm] at e1 e3
  have hk0l : k0 < Od.RW.fac m := by omega
  have hst : stops m k0 = B := by
    unfold stops; rw [e1]; unfold ni; rw [List.map_map]
    conv => rhs; rw [← List.map_id B]
    exact List.map_congr_left fun x _ => by simp
  have hc0 : costT T m k0 = rs T 0 (lft0 T.length) := by rw [costT_rc hm hk0l, hst, hr]
  obtain ⟨f1, f2, f3⟩ := stops_fit hm hj
  have hcj := costT_rc (T := T) hm hj
  rw [← hN] at f2
  have hge := rs_rc hM (stops m j) 0 _ (lft0_lt _) hM.n1 f2
  have hle := h2 k0 hk0l
  have heq : rc T 0 (stops m j) = rs T 0 (lft0 T.length) := by omega
  have hlex := bt_lex hM (stops m j) (lft0 T.length) (lft0 T.length) 0 (Nat.le_refl _) (lft0_lt _) hM.n1 f2 heq
  rw [← hB] at hlex
  have hjk : j = k0 := by
    rcases Nat.lt_trichotomy j k0 with h | h | h
    · have hlt := itm_lt hm h hk0l
      rw [e1] at hlt
      rcases hlex with h3 | h3
      · rw [h3, f1] at hlt; exact absurd hlt (List.lt_irrefl _)
      · rw [f1] at h3; exact absurd (List.lt_trans hlt h3) (List.lt_irrefl _)
    · exact h
    · have := h1 k0 h; omega
  subst hjk
  refine ⟨?_, ?_⟩
  · rw [hc0, hbest, ← hr, ← lenK_tour B]; rfl
  · rw [hbest]; show ((0 : Nat) : Int) :: ni B = _; rw [← e1]; rfl
end Go.Proofs.YtocgehoffdjijaaGreat

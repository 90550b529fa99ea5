/- Plain law: the order with a table, number by number; the order with a number. No program in sight. -/
import Derived.Test.YtfbkoombkmpjkaaPMade
namespace Go.Proofs.Ytfbkoombkmpjkaa
open CY PO RW
namespace MD
/-- What is left, and the order, after k numbers of the table. -/
def lft (t : List Int) : Nat → List Int
  | 0 => iota t.length
  | k + 1 => (lft t k).eraseIdx (t.getD k 0).toNat
def outK (t : List Int) : Nat → List Int
  | 0 => []
  | k + 1 => outK t k ++ [(lft t k).getD (t.getD k 0).toNat 0]
/-- The table's numbers before place k are ones. -/
def okK (t : List Int) (k : Nat) : Prop := ∀ i, i < k → 0 ≤ t.getD i 0 ∧ t.getD i 0 + i < t.length
instance (t : List Int) (k : Nat) : Decidable (okK t k) := by unfold okK; infer_instance
theorem lft_len {t : List Int} : ∀ {k : Nat}, k ≤ t.length → okK t k → (lft t k).length = t.length - k
  | 0, _, _ => by simp [lft, iota_len]
  | k + 1, hk, h => by
    have ih := lft_len (t := t) (k := k) (by omega) fun i hi => h i (by omega)
    have h1 := h k (by omega)
    simp only [lft]
    rw [List.length_eraseIdx_of_lt (by omega), ih]; omega
theorem outK_len {t : List Int} : ∀ {k : Nat}, (outK t k).length = k
  | 0 => rfl
  | k + 1 => by simp [outK, outK_len]
theorem okK_ok : ∀ {t : List Int}, okK t t.length → okT t
  | [], _ => trivial
  | a :: t, h => by
    refine ⟨?_, okK_ok fun i hi => ?_⟩
    · have := h 0 (by simp)
      simp at this
      omega
    · have := h (i + 1) (by simpa using hi)
      simp at this ⊢
      omega
theorem ok_okK : ∀ {t : List Int}, okT t → okK t t.length
  | [], _ => fun i hi => by simp at hi
  | a :: t, h => by
    intro i hi
    cases i with
    | zero => have := h.1; simp; omega
    | succ i =>
      have := ok_okK h.2 i (by simpa using hi)
      simp at this ⊢
      omega
theorem mk_out {t : List Int} : ∀ {d k : Nat}, k + d = t.length → outK t k ++ mk (t.drop k) (lft t k) = outK t t.length
  | 0, k, h => by
    have : k = t.length := by omega
    subst this
    rw [List.drop_of_length_le (Nat.le_refl _)]
    simp [mk]
  | d + 1, k, h => by
    have hk : k < t.length := by omega
    have e : t.drop k = t.getD k 0 :: t.drop (k + 1) := by
      rw [List.drop_eq_getElem_cons hk]; simp [List.getD, hk]
    rw [e]
    simp only [mk]
    rw [← mk_out (t := t) (d := d) (k := k + 1) (by omega)]
    simp only [outK, lft, List.append_assoc, List.singleton_append]
/-- The order with a table. -/
theorem made_eq {t : List Int} : outK t t.length = mk t (iota t.length) := by
  have := mk_out (t := t) (d := t.length) (k := 0) (by omega)
  simpa [outK, lft] using this.symm
theorem made_perm {t : List Int} (h : okK t t.length) : (outK t t.length).Perm (iota t.length) ∧ tbl (outK t t.length) = t := by
  rw [made_eq, tbl_tb]
  exact mk_tb (okK_ok h) iota_asc iota_len
theorem made_ord {t : List Int} (h : okK t t.length) (hl : t.length ≤ 12) : IsOrd (outK t t.length) := by
  refine ord_of (perm_ok ?_) (by rw [outK_len]; exact hl)
  rw [outK_len]
  exact (made_perm h).1
/-- An order is the one with its table. -/
theorem made_tbl {L : List Int} (h : Ok L) : okK (tbl L) L.length ∧ outK (tbl L) L.length = L := by
  have h1 := mk_of_tb (L := L) iota_asc (ok_perm h)
  rw [← tbl_tb] at h1
  have h2 := ok_okK h1.2
  have h3 := made_eq (t := tbl L)
  rw [tbl_len] at h2 h3
  exact ⟨h2, by rw [h3]; exact h1.1⟩
/-- The table of the order with number k. -/
def tk : Nat → Int → List Int
  | 0, _ => []
  | m + 1, k => k / fac m :: tk m (k % fac m)
theorem tk_len : ∀ {m : Nat} {k : Int}, (tk m k).length = m
  | 0, _ => rfl
  | m + 1, _ => by simp [tk, tk_len]
theorem fac_succ {m : Nat} : (fac (m + 1) : Int) = ((m : Int) + 1) * fac m := by
  show (((m + 1) * fac m : Nat) : Int) = _
  push_cast; rfl
theorem tk_ok : ∀ {m : Nat} {k : Int}, 0 ≤ k → k < fac m → okT (tk m k)
  | 0, _, _, _ => trivial
  | m + 1, k, h0, h1 => by
    have hp : (0 : Int) < fac m := by have := fac_pos m; omega
    rw [fac_succ] at h1
    refine ⟨⟨Int.ediv_nonneg h0 (by omega), ?_⟩, tk_ok (Int.emod_nonneg _ (by omega)) (Int.emod_lt_of_pos _ hp)⟩
    rw [tk_len]
    have := Int.ediv_lt_of_lt_mul hp h1
    omega
/-- The number of a table. -/
def val : List Int → Int
  | [] => 0
  | a :: t => a * fac t.length + val t
theorem val_bnd : ∀ {t : List Int}, okT t → 0 ≤ val t ∧ val t < fac t.length
  | [], _ => by simp [val, fac]
  | a :: t, ⟨⟨h0, h1⟩, h2⟩ => by
    have ih := val_bnd h2
    have hp : (0 : Int) < fac t.length := by have := fac_pos t.length; omega
    have a1 : 0 ≤ a * fac t.length := Int.mul_nonneg h0 (by omega)
    have a2 : a * fac t.length ≤ (t.length : Int) * fac t.length := Int.mul_le_mul_of_nonneg_right h1 (by omega)
    simp only [val, List.length_cons]
    rw [fac_succ, Int.add_mul, Int.one_mul]
    omega
theorem tk_val : ∀ {t : List Int}, okT t → tk t.length (val t) = t
  | [], _ => rfl
  | a :: t, ⟨_, h2⟩ => by
    have hb := val_bnd h2
    have hp : (0 : Int) < fac t.length := by have := fac_pos t.length; omega
    simp only [List.length_cons, tk, val]
    have e1 : (a * fac t.length + val t) / fac t.length = a := by
      rw [Int.add_comm, Int.add_mul_ediv_right _ _ (by omega), Int.ediv_eq_zero_of_lt hb.1 hb.2]; omega
    have e2 : (a * fac t.length + val t) % fac t.length = val t := by
      rw [Int.add_comm, Int.add_mul_emod_self_right, Int.emod_eq_of_lt hb.1 hb.2]
    rw [e1, e2, tk_val h2]
def rmK (n : Nat) (k : Int) : Nat → Int
  | 0 => k
  | m + 1 => rmK n k m % fac (n - 1 - m)
def tkK (n : Nat) (k : Int) : Nat → List Int
  | 0 => []
  | m + 1 => tkK n k m ++ [rmK n k m / fac (n - 1 - m)]
theorem tkK_len {n : Nat} {k : Int} : ∀ {m : Nat}, (tkK n k m).length = m
  | 0 => rfl
  | m + 1 => by simp [tkK, tkK_len]
theorem tkK_eq {n : Nat} {k : Int} : ∀ {m : Nat}, m ≤ n → tkK n k m ++ tk (n - m) (rmK n k m) = tk n k
  | 0, _ => rfl
  | m + 1, h => by
    rw [← tkK_eq (n := n) (k := k) (m := m) (by omega)]
    have e : n - m = (n - 1 - m) + 1 := by omega
    rw [e, show n - (m + 1) = n - 1 - m by omega]
    simp only [tk, tkK, rmK, List.append_assoc, List.singleton_append]
theorem tkK_all {n : Nat} {k : Int} : tkK n k n = tk n k := by
  have := tkK_eq (n := n) (k := k) (Nat.le_refl n)
  rw [Nat.sub_self] at this
  simpa [tk] using this
theorem rmK_bnd {n : Nat} {k : Int} (h0 : 0 ≤ k) (h1 : k < fac n) : ∀ {m : Nat}, m ≤ n → 0 ≤ rmK n k m ∧ rmK n k m < fac (n - m)
  | 0, _ => ⟨h0, h1⟩
  | m + 1, h => by
    have hp : (0 : Int) < fac (n - 1 - m) := by have := fac_pos (n - 1 - m); omega
    simp only [rmK]
    rw [show n - (m + 1) = n - 1 - m by omega]
    exact ⟨Int.emod_nonneg _ (by omega), Int.emod_lt_of_pos _ hp⟩
/-- The order with number k. -/
def itm (n : Nat) (k : Int) : List Int := outK (tk n k) n
theorem idx_val {L : List Int} : ∀ {d k : Nat}, k + d = L.length → idxK L k + val ((tbl L).drop k) = idxK L L.length
  | 0, k, h => by
    have : k = L.length := by omega
    subst this
    rw [List.drop_of_length_le (by rw [tbl_len]; omega)]
    simp [val]
  | d + 1, k, h => by
    have hk : k < (tbl L).length := by rw [tbl_len]; omega
    have e : (tbl L).drop k = cntB L k L.length :: (tbl L).drop (k + 1) := by
      rw [List.drop_eq_getElem_cons hk]
      congr 1
      have := tbl_at (L := L) (i := k) (by omega)
      simp only [List.getD, List.getElem?_eq_getElem hk, Option.getD_some] at this
      exact this
    rw [e, ← idx_val (L := L) (d := d) (k := k + 1) (by omega)]
    simp only [val, idxK, List.length_drop, tbl_len]
    rw [show L.length - (k + 1) = L.length - 1 - k by omega]
    omega
theorem idx_eq {L : List Int} : idxK L L.length = val (tbl L) := by
  have := idx_val (L := L) (d := L.length) (k := 0) (by omega)
  simpa [idxK] using this.symm
theorem itm_idx {L : List Int} (h : Ok L) : itm L.length (idxK L L.length) = L ∧ 0 ≤ idxK L L.length ∧ idxK L L.length < fac L.length := by
  obtain ⟨h1, h2⟩ := made_tbl h
  have h3 : okT (tbl L) := okK_ok (by rw [tbl_len]; exact h1)
  have h4 := val_bnd h3
  have h5 := tk_val h3
  rw [tbl_len] at h4 h5
  rw [idx_eq]
  exact ⟨by unfold itm; rw [h5]; exact h2, h4⟩
theorem itm_ord {n : Nat} {k : Int} (h0 : 0 ≤ k) (h1 : k < fac n) (hn : n ≤ 12) : IsOrd (itm n k) ∧ tbl (itm n k) = tk n k ∧ (itm n k).length = n ∧ okK (tk n k) n := by
  have h2 := ok_okK (tk_ok h0 h1)
  have h3 := made_ord (t := tk n k) h2 (by rw [tk_len]; exact hn)
  have h4 := (made_perm (t := tk n k) h2).2
  rw [tk_len] at h3 h4 h2
  exact ⟨h3, h4, outK_len, h2⟩
end MD
end Go.Proofs.Ytfbkoombkmpjkaa

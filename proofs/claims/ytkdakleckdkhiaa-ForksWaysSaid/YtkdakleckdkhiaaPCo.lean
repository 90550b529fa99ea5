/- forks: pairs of trees counted, plain. -/
import Derived.Test.YtkdakleckdkhiaaPAl
namespace Go.Proofs.Ytkdakleckdkhiaa
theorem texts_of (n : Nat) : ∀ L : List Str, (∀ s, s ∈ L → ∃ t : T, s = t.text ∧ t.size = n) → ∃ ts : List T, ts.map T.text = L ∧ ∀ t, t ∈ ts → t.size = n
  | [], _ => ⟨[], rfl, by simp⟩
  | s :: L, h => by
    obtain ⟨t, e, ht⟩ := h s (by simp)
    obtain ⟨ts, e2, hts⟩ := texts_of n L fun z hz => h z (by simp [hz])
    refine ⟨t :: ts, by simp [e, e2], fun z hz => ?_⟩
    rcases List.mem_cons.1 hz with rfl | hz
    · exact ht
    · exact hts z hz
def cntP (ts us : List T) : Nat := (ts.map fun a => us.countP fun b => decide (a.le b)).sum
theorem cntP_perm {ts us : List T} (h : ts.Perm us) : cntP ts ts = cntP us us := by
  unfold cntP
  have h1 : (ts.map fun a => ts.countP fun b => decide (a.le b)) = ts.map fun a => us.countP fun b => decide (a.le b) :=
    List.map_congr_left fun a _ => h.countP_eq _
  rw [h1]
  exact (h.map _).sum_nat
theorem cntP_take {ts us : List T} {i : Nat} (h : i < ts.length) : cntP (ts.take (i + 1)) us = cntP (ts.take i) us + us.countP fun b => decide ((ts.getD i .lf).le b) := by
  unfold cntP
  rw [List.take_succ_eq_append_getElem h, show ts.getD i .lf = ts[i] by simp [List.getD, h], List.map_append, List.sum_append]
  simp
theorem countP_take {us : List T} {p : T → Bool} {j : Nat} (h : j < us.length) : (us.take (j + 1)).countP p = (us.take j).countP p + if p (us.getD j .lf) then 1 else 0 := by
  rw [List.take_succ_eq_append_getElem h, show us.getD j .lf = us[j] by simp [List.getD, h], List.countP_append]
  simp [List.countP_cons]
/-- The trees with n forks in the order of their texts. -/
theorem allT (n : Nat) : ∃ ts : List T, ts.map T.text = allS n ∧ (∀ t, t ∈ ts → t.size = n) ∧ ts.Nodup ∧ ∀ t : T, t ∈ ts ↔ t.size = n := by
  obtain ⟨ts, e, hs⟩ := texts_of n (allS n) fun s hs => (allS_mem n s).1 hs
  refine ⟨ts, e, hs, ?_, fun t => ⟨hs t, fun ht => ?_⟩⟩
  · have := allS_nodup n
    rw [← e] at this
    exact List.Pairwise.imp (fun h e => h (by rw [e])) (List.pairwise_map.1 this)
  · have : t.text ∈ allS n := (allS_mem n _).2 ⟨t, rfl, ht⟩
    rw [← e, List.mem_map] at this
    obtain ⟨z, hz, e2⟩ := this
    rwa [text_inj e2] at hz
theorem tb_nodup : ∀ m, m < 6 → ((tb m).getD m []).Nodup := by decide +kernel
theorem allT_perm {n : Nat} (hn : n < 6) {ts : List T} (hd : ts.Nodup) (hm : ∀ t : T, t ∈ ts ↔ t.size = n) : ts.Perm ((tb n).getD n []) :=
  (List.perm_ext_iff_of_nodup hd (tb_nodup n hn)).2 fun t => by rw [hm, tb_mem n n t (Nat.le_refl _)]
theorem cat_bnd5 : ∀ n, n < 6 → (cat n).getD n 0 ≤ 42 := by decide +kernel
theorem allS_len5 {n : Nat} (h : n < 6) : (allS n).length ≤ 42 := by
  have := cat_bnd5 n h
  rw [← al_cat, getD_map_len] at this
  exact this
theorem getD_text {ts : List T} {i : Nat} (h : i < ts.length) : (ts.map T.text).getD i [] = (ts.getD i .lf).text := by
  simp [List.getD, h]
end Go.Proofs.Ytkdakleckdkhiaa

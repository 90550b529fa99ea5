/- Plain law: Second and First, as the program writes them. No program in sight. -/
import Derived.Test.YtfbkoombkmpjkaaPFoata
namespace Go.Proofs.Ytfbkoombkmpjkaa
open CY PO RW MD
namespace FO
def pr (a : Int) (g : Bool) (x : Int) : Bool := decide (a < x) == g
theorem pr_iff {a x : Int} {g : Bool} : pr a g x = true ↔ decide (a < x) = g := by unfold pr; simp
theorem drop_cons' {L : List Int} {k : Nat} (h : k < L.length) : L.drop k = L.getD k 0 :: L.drop (k + 1) := by
  rw [List.drop_eq_getElem_cons h]; simp [List.getD, h]
theorem part_snoc {L : List Int} {b k : Nat} (h : k < L.length) (hb : b ≤ k) : (L.drop b).take (k - b) ++ [L.getD k 0] = (L.drop b).take (k + 1 - b) := by
  have e : k + 1 - b = (k - b) + 1 := by omega
  rw [e, take_snocI (by simp; omega)]
  congr 2
  simp [List.getD, show b + (k - b) = k by omega]
theorem shf_sR {L : List Int} {a : Int} {g : Bool} : ∀ {k : Nat}, k ≤ L.length → (shf L a g k).1 ++ sR (pr a g) ((L.drop (shf L a g k).2).take (k - (shf L a g k).2)) (L.drop k) = sR (pr a g) [] L
  | 0, _ => by simp [shf]
  | k + 1, h => by
    have ih := shf_sR (L := L) (a := a) (g := g) (k := k) (by omega)
    have hb := (shf_bnd (L := L) (a := a) (g := g) (k := k) (by omega)).1
    rw [drop_cons' (L := L) (k := k) (by omega)] at ih
    rw [← ih]
    simp only [shf, sR]
    by_cases c : decide (a < L.getD k 0) = g
    · rw [if_pos c, if_pos (pr_iff.2 c)]
      simp
    · rw [if_neg c, if_neg fun h => c (pr_iff.1 h), part_snoc (by omega) hb]
theorem shf_all' {L : List Int} {a : Int} {g : Bool} : (shf L a g L.length).1 = sR (pr a g) [] L := by
  have := shf_sR (L := L) (a := a) (g := g) (Nat.le_refl _)
  rw [List.drop_of_length_le (Nat.le_refl _)] at this
  simpa [sR] using this
/-- What bkL has written after k numbers, and where the open part begins. -/
def bkP (L : List Int) (a : Int) (g : Bool) : Nat → List Int × Nat
  | 0 => ([], 0)
  | k + 1 => if k ≠ 0 ∧ decide (a < L.getD k 0) = g then ((bkP L a g k).1 ++ (L.drop ((bkP L a g k).2 + 1)).take (k - ((bkP L a g k).2 + 1)) ++ [L.getD (bkP L a g k).2 0], k) else bkP L a g k
def bkL (L : List Int) (a : Int) (g : Bool) : List Int := if L.length = 0 then [] else
  (bkP L a g L.length).1 ++ (L.drop ((bkP L a g L.length).2 + 1)).take (L.length - ((bkP L a g L.length).2 + 1)) ++ [L.getD (bkP L a g L.length).2 0]
theorem bkP_lt {L : List Int} {a : Int} {g : Bool} : ∀ {k : Nat}, 1 ≤ k → (bkP L a g k).2 < k
  | 1, _ => by simp [bkP]
  | k + 2, _ => by
    have := bkP_lt (L := L) (a := a) (g := g) (k := k + 1) (by omega)
    show (if k + 1 ≠ 0 ∧ _ then _ else bkP L a g (k + 1)).2 < _
    split
    · exact Nat.lt_succ_self _
    · omega
theorem bkP_bR {L : List Int} {a : Int} {g : Bool} : ∀ {k : Nat}, 1 ≤ k → k ≤ L.length →
    (bkP L a g k).1 ++ bR (pr a g) (L.getD (bkP L a g k).2 0) ((L.drop ((bkP L a g k).2 + 1)).take (k - ((bkP L a g k).2 + 1))) (L.drop k) = bR (pr a g) (L.getD 0 0) [] (L.drop 1)
  | 1, _, _ => by simp [bkP]
  | k + 2, _, h => by
    have ih := bkP_bR (L := L) (a := a) (g := g) (k := k + 1) (by omega) (by omega)
    have hb := bkP_lt (L := L) (a := a) (g := g) (k := k + 1) (by omega)
    rw [drop_cons' (L := L) (k := k + 1) (by omega)] at ih
    rw [← ih]
    have hstep : bkP L a g (k + 1 + 1) = if k + 1 ≠ 0 ∧ decide (a < L.getD (k + 1) 0) = g then ((bkP L a g (k + 1)).1 ++ (L.drop ((bkP L a g (k + 1)).2 + 1)).take (k + 1 - ((bkP L a g (k + 1)).2 + 1)) ++ [L.getD (bkP L a g (k + 1)).2 0], k + 1) else bkP L a g (k + 1) := rfl
    rw [hstep]
    simp only [bR]
    by_cases c : decide (a < L.getD (k + 1) 0) = g
    · rw [if_pos ⟨by omega, c⟩, if_pos (pr_iff.2 c)]
      simp
    · rw [if_neg fun h => c h.2, if_neg fun h => c (pr_iff.1 h), part_snoc (by omega) (by omega)]
theorem back_bL {L : List Int} {a : Int} {g : Bool} : bkL L a g = bL (pr a g) L := by
  unfold bkL
  by_cases h : L.length = 0
  · rw [if_pos h, List.eq_nil_of_length_eq_zero h]; rfl
  · rw [if_neg h]
    have := bkP_bR (L := L) (a := a) (g := g) (k := L.length) (by omega) (Nat.le_refl _)
    rw [List.drop_of_length_le (Nat.le_refl _)] at this
    simp only [bR] at this
    rw [List.append_assoc, this]
    cases L with
    | nil => simp at h
    | cons x r => rfl
def lst (l : List Int) : Int := l.getD (l.length - 1) 0
theorem lst_snoc {l : List Int} {a : Int} : lst (l ++ [a]) = a := by simp [lst, List.getD]
theorem snoc_of {l : List Int} (h : l ≠ []) : l = l.take (l.length - 1) ++ [lst l] := by
  have h0 : 0 < l.length := List.length_pos_iff.2 h
  have := take_snocI (R := l) (i := l.length - 1) (by omega)
  rw [show l.length - 1 + 1 = l.length by omega, List.take_length] at this
  exact this
/-- One number less. -/
def unst (l : List Int) : List Int := bkL (l.take (l.length - 1)) (lst l) (decide (lst l < l.getD 0 0))
theorem secStep_eq {l : List Int} {a : Int} (h : l ≠ []) : secStep l a = sR (pr a (decide (a < lst l))) [] l ++ [a] := by
  unfold secStep
  rw [if_neg fun e => h (List.eq_nil_of_length_eq_zero e), shf_all']; rfl
theorem lastP_lst {l : List Int} {a : Int} (h : l ≠ []) : lastP (pr a (decide (a < lst l))) l := ⟨_, _, snoc_of h, pr_iff.2 rfl⟩
theorem unst_sec {l : List Int} {a : Int} : unst (secStep l a) = l := by
  by_cases h : l = []
  · subst h; rfl
  · have hl := lastP_lst (a := a) h
    rw [secStep_eq h]
    obtain ⟨y, r, e, hy⟩ := sR_head (cur := []) hl
    unfold unst
    rw [lst_snoc]
    have e1 : (sR (pr a (decide (a < lst l))) [] l ++ [a]).take ((sR (pr a (decide (a < lst l))) [] l ++ [a]).length - 1) = sR (pr a (decide (a < lst l))) [] l := by simp
    rw [e1, back_bL]
    have e2 : (sR (pr a (decide (a < lst l))) [] l ++ [a]).getD 0 0 = y := by rw [e]; rfl
    rw [e2, pr_iff.1 hy]
    simpa using bL_sR (cur := []) (by simp) hl
theorem sec_unst {l : List Int} (h : l ≠ []) : secStep (unst l) (lst l) = l := by
  have hs := snoc_of h
  generalize hm : l.take (l.length - 1) = m at hs
  have hun : unst l = bL (pr (lst l) (decide (lst l < l.getD 0 0))) m := by unfold unst; rw [back_bL, hm]
  rw [hun]
  generalize lst l = a at *
  cases m with
  | nil => simp only [bL]; rw [hs]; rfl
  | cons x r =>
    have hx0 : l.getD 0 0 = x := by rw [hs]; rfl
    rw [hx0]
    have hx : pr a (decide (a < x)) x = true := pr_iff.2 rfl
    simp only [bL]
    have hlp := bR_last (r := r) (x := x) (cur := []) hx
    have hne : bR (pr a (decide (a < x))) x [] r ≠ [] := fun e => by rw [e] at hlp; obtain ⟨A, y, e2, _⟩ := hlp; simp at e2
    rw [secStep_eq hne]
    obtain ⟨A, y, e2, hy⟩ := hlp
    have hg : decide (a < lst (bR (pr a (decide (a < x))) x [] r)) = decide (a < x) := by rw [e2, lst_snoc]; exact pr_iff.1 hy
    rw [hg, sR_bR hx (by simp), hs]
    rfl
theorem secStep_perm {l : List Int} {a : Int} : (secStep l a).Perm (l ++ [a]) := by
  by_cases h : l = []
  · subst h; exact List.Perm.refl _
  · rw [secStep_eq h]
    exact List.Perm.append_right _ (by simpa using sR_perm (cur := []) (lastP_lst (a := a) h))
theorem sec_perm {L : List Int} : ∀ {k : Nat}, k ≤ L.length → (sec L k).Perm (L.take k)
  | 0, _ => by simp [sec]
  | k + 1, h => by
    rw [take_snocI (by omega)]
    exact secStep_perm.trans ((sec_perm (by omega)).append_right _)
theorem sec_ord {L : List Int} (h : IsOrd L) : IsOrd (sec L L.length) := by
  have hp := sec_perm (L := L) (Nat.le_refl _)
  rw [List.take_length] at hp
  refine ord_of (perm_ok ?_) (by rw [sec_len]; exact h.1)
  rw [sec_len]
  exact hp.trans (ok_perm h.ok)
theorem sec_lst {L : List Int} {k : Nat} : lst (sec L (k + 1)) = L.getD k 0 := by
  simp only [sec, secStep]; rw [lst_snoc]
/-- What is left, m numbers less. -/
def fr (L : List Int) : Nat → List Int
  | 0 => L
  | m + 1 => unst (fr L m)
def lasts (L : List Int) : Nat → List Int
  | 0 => []
  | m + 1 => lasts L m ++ [lst (fr L m)]
def fst (L : List Int) : List Int := (lasts L L.length).reverse
theorem bR_len {p : Int → Bool} : ∀ {r : List Int} {x : Int} {cur : List Int}, (bR p x cur r).length = cur.length + 1 + r.length
  | [], _, _ => by simp [bR]
  | y :: r, x, cur => by
    simp only [bR]
    split
    · simp [bR_len (r := r)]; omega
    · rw [bR_len (r := r)]; simp; omega
theorem back_len {L : List Int} {a : Int} {g : Bool} : (bkL L a g).length = L.length := by
  rw [back_bL]
  cases L with
  | nil => rfl
  | cons x r => simp [bL, bR_len]; omega
theorem fr_len {L : List Int} : ∀ {m : Nat}, (fr L m).length = L.length - m
  | 0 => rfl
  | m + 1 => by
    simp only [fr, unst]
    rw [back_len, List.length_take, fr_len]; omega
theorem lasts_len {L : List Int} : ∀ {m : Nat}, (lasts L m).length = m
  | 0 => rfl
  | m + 1 => by simp [lasts, lasts_len]
theorem lasts_at {L : List Int} : ∀ {m i : Nat}, i < m → (lasts L m).getD i 0 = lst (fr L i)
  | m + 1, i, h => by
    simp only [lasts]
    rw [snoc_at, lasts_len]
    by_cases e : i < m
    · rw [if_pos e, lasts_at e]
    · rw [if_neg e, if_pos (by omega), show i = m by omega]
theorem fst_len {L : List Int} : (fst L).length = L.length := by unfold fst; rw [List.length_reverse, lasts_len]
theorem fst_at {L : List Int} {i : Nat} (h : i < L.length) : (fst L).getD i 0 = lst (fr L (L.length - 1 - i)) := by
  unfold fst
  rw [rev_at (by rw [lasts_len]; exact h), lasts_len, lasts_at (by omega)]
/-- First undoes Second. -/
theorem fr_sec {L : List Int} : ∀ {m : Nat}, m ≤ L.length → fr (sec L L.length) m = sec L (L.length - m)
  | 0, _ => rfl
  | m + 1, h => by
    simp only [fr]
    rw [fr_sec (by omega), show L.length - m = (L.length - (m + 1)) + 1 by omega]
    simp only [sec]
    rw [unst_sec]
theorem fst_sec {L : List Int} : fst (sec L L.length) = L := by
  refine list_ext (by rw [fst_len, sec_len]) fun i hi => ?_
  rw [fst_len, sec_len] at hi
  rw [fst_at (by rw [sec_len]; exact hi), sec_len, fr_sec (by omega), show L.length - (L.length - 1 - i) = i + 1 by omega, sec_lst]
/-- Second undoes First. -/
theorem sec_fst {L : List Int} : ∀ {d m : Nat}, m + d = L.length → sec (fst L) d = fr L m
  | 0, m, h => by
    have : (fr L m).length = 0 := by rw [fr_len]; omega
    rw [List.eq_nil_of_length_eq_zero this]; rfl
  | d + 1, m, h => by
    simp only [sec]
    rw [sec_fst (L := L) (d := d) (m := m + 1) (by omega), fst_at (by omega), show L.length - 1 - d = m by omega]
    simp only [fr]
    exact sec_unst fun e => by have := fr_len (L := L) (m := m); rw [e] at this; simp at this; omega
theorem sec_fst_all {L : List Int} : sec (fst L) (fst L).length = L := by
  rw [fst_len]; exact sec_fst (m := 0) (by omega)
theorem fst_ord {L : List Int} (h : IsOrd L) : IsOrd (fst L) := by
  have hp := sec_perm (L := fst L) (Nat.le_refl _)
  rw [List.take_length, sec_fst_all] at hp
  refine ord_of (perm_ok ?_) (by rw [fst_len]; exact h.1)
  rw [fst_len]
  exact hp.symm.trans (ok_perm h.ok)
theorem low_pos {x : Int} {cur : List Int} (h : ∀ z ∈ cur, z < x) : low x cur = cur.length ∧ high x cur = 0 := by
  refine ⟨low_all h, ?_⟩
  unfold high; rw [List.countP_eq_zero]; intro z hz; have := h z hz; simp; omega
theorem low_neg {x : Int} {cur : List Int} (h : ∀ z ∈ cur, x < z) : low x cur = 0 ∧ high x cur = cur.length := by
  refine ⟨low_none fun z hz => Int.le_of_lt (h z hz), ?_⟩
  unfold high; rw [List.countP_eq_length]; intro z hz; have := h z hz; simp; omega
/-- The second order has as many inversions as the descents add up to. -/
theorem sec_inv {L : List Int} : ∀ {k : Nat}, k ≤ L.length → sumI (tb (sec L k)) = sumI (dsc L k)
  | 0, _ => rfl
  | k + 1, h => by
    have ih := sec_inv (L := L) (k := k) (by omega)
    simp only [sec, dsc]
    by_cases h0 : k = 0
    · subst h0; rfl
    · have hne : sec L k ≠ [] := fun e => by have := sec_len (L := L) (k := k); rw [e] at this; simp at this; omega
      have hl : lst (sec L k) = L.getD (k - 1) 0 := by
        obtain ⟨j, rfl⟩ : ∃ j, k = j + 1 := ⟨k - 1, by omega⟩
        rw [sec_lst, Nat.add_sub_cancel]
      rw [secStep_eq hne, tb_snoc, hl]
      have hlp := lastP_lst (a := L.getD k 0) hne
      rw [hl] at hlp
      generalize hs : sec L k = s at *
      generalize L.getD k 0 = a at *
      have hsl : s.length = k := by rw [← hs, sec_len]
      have hh : high a (sR (pr a (decide (a < L.getD (k - 1) 0))) [] s) = high a s := by unfold high; exact (by simpa using sR_perm (cur := []) hlp : (sR _ [] s).Perm s).countP_eq _
      rw [hh]
      by_cases c : a < L.getD (k - 1) 0
      · rw [if_pos ⟨by omega, c⟩, sumI_snoc]
        have hd : decide (a < L.getD (k - 1) 0) = true := decide_eq_true c
        rw [hd] at hlp ⊢
        have hinv := sR_inv (p := pr a true) (s := 1) (fun cur x hx hc => by
          have hx' : a < x := of_decide_eq_true (pr_iff.1 hx)
          have := low_pos (x := x) (cur := cur) fun z hz => by
            have hz' := hc z hz
            have : ¬ a < z := fun h => by have := pr_iff.2 (decide_eq_true h); rw [this] at hz'; cases hz'
            omega
          rw [this.1, this.2]; omega) (cur := []) (by simp) hlp
        rw [List.nil_append] at hinv
        rw [hinv, ih]
        have hcnt : (cntF (pr a true) s : Int) + high a s = k := by
          rw [← hsl]
          unfold cntF high
          have : ∀ l : List Int, l.countP (fun x => !pr a true x) + l.countP (fun y => decide (a < y)) = l.length := by
            intro l; induction l with
            | nil => rfl
            | cons y r ihr =>
              simp only [List.countP_cons, List.length_cons, pr] at ihr ⊢
              by_cases cy : a < y
              · simp [cy] at ihr ⊢; omega
              · simp [cy] at ihr ⊢; omega
          have := this s
          omega
        omega
      · rw [if_neg fun h => c h.2, List.append_nil]
        have hd : decide (a < L.getD (k - 1) 0) = false := decide_eq_false c
        rw [hd] at hlp ⊢
        have hinv := sR_inv (p := pr a false) (s := -1) (fun cur x hx hc => by
          have hx' : ¬ a < x := of_decide_eq_false (pr_iff.1 hx)
          have := low_neg (x := x) (cur := cur) fun z hz => by
            have hz' := hc z hz
            have : a < z := Classical.byContradiction fun h => by have := pr_iff.2 (decide_eq_false h); rw [this] at hz'; cases hz'
            omega
          rw [this.1, this.2]; omega) (cur := []) (by simp) hlp
        rw [List.nil_append] at hinv
        rw [hinv, ih]
        have hcnt : cntF (pr a false) s = high a s := by
          unfold cntF high
          refine List.countP_congr fun y _ => ?_
          simp [pr]
        omega
/-- Neighbouring numbers keep their order. -/
theorem sec_filter {L : List Int} (hn : L.Nodup) (v : Int) : ∀ {k : Nat}, k ≤ L.length → (sec L k).filter (fun x => x == v || x == v + 1) = (L.take k).filter (fun x => x == v || x == v + 1)
  | 0, _ => by simp [sec]
  | k + 1, h => by
    have ih := sec_filter hn v (k := k) (by omega)
    rw [take_snocI (by omega), List.filter_append, ← ih]
    simp only [sec]
    by_cases hne : sec L k = []
    · rw [hne]; rfl
    · have hlp := lastP_lst (a := L.getD k 0) hne
      rw [secStep_eq hne, List.filter_append]
      congr 1
      have hmem : ∀ z, z ∈ sec L k → z ≠ L.getD k 0 := fun z hz e => by
        have h1 := (sec_perm (L := L) (k := k) (by omega)).subset hz
        obtain ⟨i, hi, hz2⟩ := List.getElem_of_mem h1
        have hik : i < k := by simp at hi; omega
        rw [List.nodup_iff_pairwise_ne, List.pairwise_iff_getElem] at hn
        have := hn i k (by omega) (by omega) hik
        simp only [List.getElem_take] at hz2
        rw [hz2, e] at this
        simp [List.getD, show k < L.length by omega] at this
      have hperm : (sR (pr (L.getD k 0) (decide (L.getD k 0 < lst (sec L k)))) [] (sec L k)).Perm (sec L k) := by simpa using sR_perm (cur := []) hlp
      have hgen : ∀ {l cur : List Int}, (∀ z ∈ cur, pr (L.getD k 0) (decide (L.getD k 0 < lst (sec L k))) z = false) → (∀ z ∈ cur ++ l, z ≠ L.getD k 0) → lastP (pr (L.getD k 0) (decide (L.getD k 0 < lst (sec L k)))) l →
          (sR (pr (L.getD k 0) (decide (L.getD k 0 < lst (sec L k)))) cur l).filter (fun x => x == v || x == v + 1) = (cur ++ l).filter (fun x => x == v || x == v + 1) := by
        intro l
        induction l with
        | nil => intro cur _ _ h; obtain ⟨A, y, e, _⟩ := h; simp at e
        | cons x r ihr =>
          intro cur hc hm hl
          simp only [sR]
          by_cases hx : pr (L.getD k 0) (decide (L.getD k 0 < lst (sec L k))) x = true
          · rw [if_pos hx]
            have hS : (sR (pr (L.getD k 0) (decide (L.getD k 0 < lst (sec L k)))) [] r).filter (fun x => x == v || x == v + 1) = r.filter (fun x => x == v || x == v + 1) := by
              by_cases hr : r = []
              · subst hr; rfl
              · simpa using ihr (cur := []) (by simp) (fun z hz => hm z (by simp at hz ⊢; simp [hz])) (lastP_cons hl hr)
            rw [List.filter_cons, List.filter_append, List.filter_append, hS, List.filter_cons]
            by_cases c : (x == v || x == v + 1) = true
            · have hn' : cur.filter (fun x => x == v || x == v + 1) = [] := by
                rw [List.filter_eq_nil_iff]
                intro z hz hqz
                have hzp := hc z hz
                have hz1 := hm z (by simp [hz])
                have hx1 := hm x (by simp)
                simp only [Bool.or_eq_true, beq_iff_eq] at c hqz
                unfold pr at hx hzp
                by_cases d1 : L.getD k 0 < x <;> by_cases d2 : L.getD k 0 < z
                · simp only [d1, d2, decide_true] at hx hzp; rw [hx] at hzp; cases hzp
                · omega
                · omega
                · simp only [d1, d2, decide_false] at hx hzp; rw [hx] at hzp; cases hzp
              rw [hn']; simp
            · simp [c]
          · rw [if_neg hx]
            have hx' : pr (L.getD k 0) (decide (L.getD k 0 < lst (sec L k))) x = false := by simpa using hx
            have hr : r ≠ [] := fun e => by subst e; exact hx (lastP_one hl)
            have := ihr (cur := cur ++ [x]) (fun z hz => ?_) (fun z hz => hm z (by simpa using hz)) (lastP_cons hl hr)
            · simpa using this
            · rcases List.mem_append.1 hz with h1 | h1
              · exact hc z h1
              · simp at h1; subst h1; exact hx'
      simpa using hgen (cur := []) (by simp) (fun z hz => hmem z (by simpa using hz)) hlp
end FO
end Go.Proofs.Ytfbkoombkmpjkaa

/- Plain laws of bags: shares, ways to move, sets and densities, peeling. -/
import Derived.Test.YtocgehoffdjijaaGreatCore
namespace Go.Proofs.YtocgehoffdjijaaGreat
namespace Bg
section
abbrev ed (L : List (Int × Int)) (k : Nat) : Int × Int := L.getD k (0, 0)
/-- The edges at a vertex among the first m, with their other ends. -/
def nb (L : List (Int × Int)) (v : Int) : Nat → List (Int × Int)
  | 0 => []
  | m + 1 => nb L v m ++ if (ed L m).1 = v then [((m : Int), (ed L m).2)] else if (ed L m).2 = v then [((m : Int), (ed L m).1)] else []
theorem nb_prefix {L : List (Int × Int)} {v : Int} {m : Nat} : ∀ {n : Nat}, m ≤ n → ∃ r, nb L v n = nb L v m ++ r
  | 0, h => by have : m = 0 := by omega
               subst this; exact ⟨[], by simp⟩
  | n + 1, h => by
    by_cases e : m = n + 1
    · subst e; exact ⟨[], by simp⟩
    · obtain ⟨r, hr⟩ := nb_prefix (L := L) (v := v) (m := m) (n := n) (by omega)
      exact ⟨r ++ _, by rw [nb, hr, List.append_assoc]⟩
theorem nb_at {L : List (Int × Int)} {v : Int} {m n : Nat} {x : Int × Int} (hm : m < n) (h : nb L v (m + 1) = nb L v m ++ [x]) : (nb L v n)[(nb L v m).length]? = some x := by
  obtain ⟨r, hr⟩ := nb_prefix (L := L) (v := v) (m := m + 1) (n := n) (by omega)
  rw [hr, h]; simp
theorem nb_mem {L : List (Int × Int)} {v : Int} {x : Int × Int} : ∀ {n : Nat}, x ∈ nb L v n → ∃ k : Nat, k < n ∧ x.1 = k ∧ (((ed L k).1 = v ∧ x.2 = (ed L k).2) ∨ ((ed L k).2 = v ∧ x.2 = (ed L k).1))
  | 0, h => by simp [nb] at h
  | n + 1, h => by
    rw [nb, List.mem_append] at h
    rcases h with h | h
    · obtain ⟨k, h1, h2⟩ := nb_mem h
      exact ⟨k, by omega, h2⟩
    · refine ⟨n, by omega, ?_⟩
      split at h
      · rename_i c
        simp at h; subst h; exact ⟨rfl, .inl ⟨c, rfl⟩⟩
      · split at h
        · rename_i c
          simp at h; subst h; exact ⟨rfl, .inr ⟨c, rfl⟩⟩
        · simp at h
theorem nb_of {L : List (Int × Int)} {v : Int} {k : Nat} : ∀ {n : Nat}, k < n → ((ed L k).1 = v → ((k : Int), (ed L k).2) ∈ nb L v n) ∧ ((ed L k).1 ≠ v → (ed L k).2 = v → ((k : Int), (ed L k).1) ∈ nb L v n)
  | 0, h => by omega
  | n + 1, h => by
    by_cases e : k = n
    · subst e
      constructor
      · intro c; rw [nb, if_pos c]; simp
      · intro c c2; rw [nb, if_neg c, if_pos c2]; simp
    · obtain ⟨h1, h2⟩ := nb_of (L := L) (v := v) (k := k) (n := n) (by omega)
      exact ⟨fun c => by rw [nb]; exact List.mem_append_left _ (h1 c), fun c c2 => by rw [nb]; exact List.mem_append_left _ (h2 c c2)⟩
/-- How much of an edge a vertex has. -/
def hs (L Sh : List (Int × Int)) (k : Nat) (v : Int) : Int := if (ed L k).1 = v then (ed Sh k).1 else (ed Sh k).2
def hj (L : List (Int × Int)) (k : Nat) (v : Int) : Nat := if (ed L k).1 = v then 0 else 1
def setS (L Sh : List (Int × Int)) (k : Nat) (v x : Int) : List (Int × Int) := Sh.set k (if (ed L k).1 = v then (x, (ed Sh k).2) else ((ed Sh k).1, x))
def cont (e s : Int × Int) (v : Int) : Int := (if e.1 = v then s.1 else 0) + if e.2 = v then s.2 else 0
def sumTo (f : Nat → Int) : Nat → Int
  | 0 => 0
  | n + 1 => sumTo f n + f n
def ldE (L Sh : List (Int × Int)) (v : Int) : Int := sumTo (fun k => cont (ed L k) (ed Sh k) v) L.length
def sm (Sh : List (Int × Int)) (k : Nat) : Int := (ed Sh k).1 + (ed Sh k).2
theorem sumTo_congr {f g : Nat → Int} : ∀ {n : Nat}, (∀ k, k < n → f k = g k) → sumTo f n = sumTo g n
  | 0, _ => rfl
  | n + 1, h => by rw [sumTo, sumTo, sumTo_congr fun k hk => h k (by omega), h n (by omega)]
theorem sumTo_set {f g : Nat → Int} {k : Nat} : ∀ {n : Nat}, k < n → (∀ j, j ≠ k → j < n → g j = f j) → sumTo g n = sumTo f n + (g k - f k)
  | 0, h, _ => by omega
  | n + 1, h, hg => by
    rw [sumTo, sumTo]
    by_cases e : k = n
    · subst e
      rw [sumTo_congr fun j hj => hg j (by omega) (by omega)]; omega
    · rw [sumTo_set (f := f) (k := k) (by omega) fun j h1 h2 => hg j h1 (by omega), hg n (fun h => e h.symm) (by omega)]; omega
theorem sumTo_le {f g : Nat → Int} : ∀ {n : Nat}, (∀ k, k < n → f k ≤ g k) → sumTo f n ≤ sumTo g n
  | 0, _ => Int.le_refl _
  | n + 1, h => by
    have := sumTo_le (f := f) (g := g) (n := n) fun k hk => h k (by omega)
    have := h n (by omega)
    rw [sumTo, sumTo]; omega
theorem ed_set {Sh : List (Int × Int)} {k j : Nat} {p : Int × Int} (hk : k < Sh.length) : ed (Sh.set k p) j = if j = k then p else ed Sh j := by
  unfold ed
  rw [List.getD_eq_getElem?_getD, List.getElem?_set, List.getD_eq_getElem?_getD]
  by_cases e : k = j
  · subst e; simp [hk]
  · rw [if_neg e, if_neg fun h => e h.symm]
theorem ldE_set {L Sh : List (Int × Int)} {k : Nat} {p : Int × Int} {v : Int} (hk : k < L.length) (hl : Sh.length = L.length) :
    ldE L (Sh.set k p) v = ldE L Sh v + (cont (ed L k) p v - cont (ed L k) (ed Sh k) v) := by
  unfold ldE
  rw [sumTo_set (f := fun k => cont (ed L k) (ed Sh k) v) hk fun j hj hn => by simp only [ed_set (hl ▸ hk), if_neg hj]]
  simp only [ed_set (hl ▸ hk), if_true]
theorem setS_length {L Sh : List (Int × Int)} {k : Nat} {v x : Int} : (setS L Sh k v x).length = Sh.length := by simp [setS]
theorem setS_other {L Sh : List (Int × Int)} {k j : Nat} {v x : Int} (hk : k < Sh.length) (h : j ≠ k) : ed (setS L Sh k v x) j = ed Sh j := by
  rw [setS, ed_set hk, if_neg h]
theorem hs_setS {L Sh : List (Int × Int)} {k : Nat} {v x : Int} (hk : k < Sh.length) : hs L (setS L Sh k v x) k v = x := by
  unfold hs; rw [setS, ed_set hk, if_pos rfl]
  generalize ed L k = p
  by_cases e : p.1 = v
  · simp only [if_pos e]
  · simp only [if_neg e]
/-- k joins a and b. -/
def Jn (L : List (Int × Int)) (k : Nat) (a b : Int) : Prop := ed L k = (a, b) ∨ ed L k = (b, a)
theorem Jn.symm {L : List (Int × Int)} {k : Nat} {a b : Int} (h : Jn L k a b) : Jn L k b a := h.elim .inr .inl
theorem Jn.other {L : List (Int × Int)} {k : Nat} {a b : Int} (h : Jn L k a b) : (ed L k).1 + (ed L k).2 - a = b := by
  rcases h with h | h <;> rw [h] <;> dsimp only <;> omega
theorem hs_other {L Sh : List (Int × Int)} {k : Nat} {a b x : Int} (hk : k < Sh.length) (h : Jn L k a b) (hab : a ≠ b) : hs L (setS L Sh k a x) k b = hs L Sh k b := by
  unfold hs; rw [setS, ed_set hk, if_pos rfl]
  rcases h with h | h <;> rw [h] <;> dsimp only
  · simp [hab]
  · simp [hab.symm]
theorem sm_setS {L Sh : List (Int × Int)} {k : Nat} {a x : Int} (hk : k < Sh.length) : sm (setS L Sh k a x) k = sm Sh k + (x - hs L Sh k a) := by
  unfold sm hs; rw [setS, ed_set hk, if_pos rfl]
  by_cases e : (ed L k).1 = a
  · simp only [e, if_true]; omega
  · simp only [e, if_false]; omega
theorem ldE_setS {L Sh : List (Int × Int)} {k : Nat} {a x v : Int} (hk : k < L.length) (hl : Sh.length = L.length) (ha : (ed L k).1 = a ∨ (ed L k).2 = a) (hd : (ed L k).1 ≠ (ed L k).2) :
    ldE L (setS L Sh k a x) v = ldE L Sh v + if v = a then x - hs L Sh k a else 0 := by
  rw [setS, ldE_set hk hl]
  unfold hs cont
  generalize ed L k = e at *
  obtain ⟨p, q⟩ := e
  dsimp only at *
  by_cases c : p = a
  · subst c
    simp only [if_true]
    by_cases c2 : v = p
    · subst c2; simp only [if_true]; omega
    · simp only [if_neg c2, if_neg fun h : p = v => c2 h.symm]; omega
  · have hq : q = a := ha.elim (fun h => absurd h c) id
    subst hq
    simp only [if_neg c]
    by_cases c2 : v = q
    · subst c2; simp only [if_true]; omega
    · simp only [if_neg c2, if_neg fun h : q = v => c2 h.symm]; omega
/-- What is shared: no vertex has less than nothing; no edge is given more than wholly; a load is what a vertex has, and at most 'most'. -/
structure Shr (L Sh : List (Int × Int)) (Ld : List Int) (most whole : Int) : Prop where
  len : Sh.length = L.length
  ldlen : Ld.length = 16
  pos : ∀ k, k < L.length → 0 ≤ (ed Sh k).1 ∧ 0 ≤ (ed Sh k).2
  sum : ∀ k, k < L.length → sm Sh k ≤ whole
  load : ∀ v : Nat, v < 16 → Ld.getD v 0 = ldE L Sh v
  le : ∀ v : Nat, v < 16 → Ld.getD v 0 ≤ most
theorem sumTo_zero : ∀ {n : Nat}, sumTo (fun _ => 0) n = 0
  | 0 => rfl
  | n + 1 => by rw [sumTo, sumTo_zero]; rfl
theorem Shr.zero {L : List (Int × Int)} {most whole : Int} (hm : 0 ≤ most) (hw : 0 ≤ whole) : Shr L (List.replicate L.length (0, 0)) (List.replicate 16 0) most whole := by
  have he : ∀ k, ed (List.replicate L.length ((0 : Int), (0 : Int))) k = (0, 0) := fun k => by
    unfold ed; rw [List.getD_eq_getElem?_getD, List.getElem?_replicate]; split <;> rfl
  have hg : ∀ v, (List.replicate 16 (0 : Int)).getD v 0 = 0 := fun v => by rw [List.getD_eq_getElem?_getD, List.getElem?_replicate]; split <;> rfl
  refine ⟨by simp, by simp, fun k _ => by rw [he]; exact ⟨Int.le_refl _, Int.le_refl _⟩, fun k _ => by unfold sm; rw [he]; exact hw, fun v _ => ?_, fun v _ => by rw [hg]; exact hm⟩
  rw [hg]; unfold ldE
  have : (fun k => cont (ed L k) (ed (List.replicate L.length (0, 0)) k) v) = fun _ => 0 := by
    funext k; rw [he]; unfold cont; split <;> split <;> rfl
  rw [this, sumTo_zero]
theorem hs_nonneg {L Sh : List (Int × Int)} {k : Nat} {v : Int} (h : 0 ≤ (ed Sh k).1 ∧ 0 ≤ (ed Sh k).2) : 0 ≤ hs L Sh k v := by unfold hs; split <;> omega

theorem cont_nonneg {e s : Int × Int} {v : Int} (h : 0 ≤ s.1 ∧ 0 ≤ s.2) : 0 ≤ cont e s v := by unfold cont; split <;> split <;> omega
theorem ldE_nonneg {L Sh : List (Int × Int)} {v : Int} (h : ∀ k, k < L.length → 0 ≤ (ed Sh k).1 ∧ 0 ≤ (ed Sh k).2) : 0 ≤ ldE L Sh v := by
  have := sumTo_le (f := fun _ => 0) (g := fun k => cont (ed L k) (ed Sh k) v) (n := L.length) fun k hk => cont_nonneg (h k hk)
  rwa [sumTo_zero] at this
theorem hs_le_sm {L Sh : List (Int × Int)} {k : Nat} {v : Int} (h : 0 ≤ (ed Sh k).1 ∧ 0 ≤ (ed Sh k).2) : hs L Sh k v ≤ sm Sh k := by unfold hs sm; split <;> omega
/-- The map of the vertices that are known: by which edge each was found. -/
def viaF : List Int → List Nat → Int → Option Nat
  | q :: qs, e :: es, v => if v = q then some e else viaF qs es v
  | _, _, _ => none
theorem viaF_at : ∀ {Qs : List Int} {Es : List Nat} {j : Nat}, Qs.Nodup → Es.length = Qs.length → j < Qs.length → viaF Qs Es (Qs.getD j 0) = some (Es.getD j 0)
  | [], _, _, _, _, h => by simp at h
  | q :: qs, [], _, _, h, _ => by simp at h
  | q :: qs, e :: es, 0, _, _, _ => by simp [viaF]
  | q :: qs, e :: es, j + 1, hn, hl, hj => by
    have hn' := List.nodup_cons.1 hn
    have hj' : j < qs.length := by simpa using hj
    have h1 : qs.getD j 0 ∈ qs := by rw [List.getD_eq_getElem?_getD, List.getElem?_eq_getElem hj']; exact List.getElem_mem hj'
    simp only [viaF, List.getD_cons_succ]
    rw [if_neg fun c => hn'.1 (by rw [← c]; exact h1)]
    exact viaF_at hn'.2 (by simpa using hl) hj'
theorem viaF_none : ∀ {Qs : List Int} {Es : List Nat} {v : Int}, Es.length = Qs.length → (viaF Qs Es v = none ↔ v ∉ Qs)
  | [], _, _, _ => by simp [viaF]
  | q :: qs, [], _, h => by simp at h
  | q :: qs, e :: es, v, hl => by
    have := viaF_none (Qs := qs) (Es := es) (v := v) (by simpa using hl)
    simp only [viaF, List.mem_cons, not_or]
    by_cases c : v = q
    · simp [c]
    · simp [c, this]
theorem viaF_snoc : ∀ {Qs : List Int} {Es : List Nat} {u v : Int} {k : Nat}, Es.length = Qs.length → u ∉ Qs → viaF (Qs ++ [u]) (Es ++ [k]) v = if v = u then some k else viaF Qs Es v
  | [], [], _, _, _, _, _ => rfl
  | [], _ :: _, _, _, _, h, _ => by simp at h
  | q :: qs, [], _, _, _, h, _ => by simp at h
  | q :: qs, e :: es, u, v, k, hl, hu => by
    simp only [List.mem_cons, not_or] at hu
    have := viaF_snoc (Qs := qs) (Es := es) (u := u) (v := v) (k := k) (by simpa using hl) hu.2
    simp only [List.cons_append, viaF, this]
    by_cases c : v = q
    · have : v ≠ u := fun h => hu.1 (h ▸ c)
      have h2 : ¬ q = u := fun h => hu.1 h.symm
      simp [c, h2]
    · simp [c]
/-- The search's tree. -/
structure Tr (L Sh : List (Int × Int)) (e : Nat) (n : Int) (Qs : List Int) (Es : List Nat) (pr : Nat → Nat) : Prop where
  len : Es.length = Qs.length
  two : 2 ≤ Qs.length
  q0 : Qs.getD 0 0 = (ed L e).1
  q1 : Qs.getD 1 0 = (ed L e).2
  e01 : ∀ j, j < 2 → Es.getD j 0 = e
  nodup : Qs.Nodup
  rng : ∀ v, v ∈ Qs → 0 ≤ v ∧ v < n
  par : ∀ j, 2 ≤ j → j < Qs.length → Es.getD j 0 < L.length ∧ pr j < j ∧ Jn L (Es.getD j 0) (Qs.getD (pr j) 0) (Qs.getD j 0) ∧ 0 < hs L Sh (Es.getD j 0) (Qs.getD (pr j) 0)
theorem getD_memI {Qs : List Int} {j : Nat} (h : j < Qs.length) : Qs.getD j 0 ∈ Qs := by
  rw [List.getD_eq_getElem?_getD, List.getElem?_eq_getElem h]; exact List.getElem_mem h
theorem nodup_getD {Qs : List Int} (h : Qs.Nodup) {i j : Nat} (hi : i < Qs.length) (hj : j < Qs.length) (e : Qs.getD i 0 = Qs.getD j 0) : i = j := by
  rw [List.getD_eq_getElem?_getD, List.getD_eq_getElem?_getD, List.getElem?_eq_getElem hi, List.getElem?_eq_getElem hj] at e
  exact (List.getElem_inj h).1 e
section
variable {L Sh : List (Int × Int)} {e : Nat} {n : Int} {Qs : List Int} {Es : List Nat} {pr : Nat → Nat}
theorem Tr.ne_e (h : Tr L Sh e n Qs Es pr) {j : Nat} (h2 : 2 ≤ j) (hj : j < Qs.length) : Es.getD j 0 ≠ e := by
  intro he
  obtain ⟨_, hp, hJ, _⟩ := h.par j h2 hj
  rw [he] at hJ
  rcases hJ with hJ | hJ
  · have h1 := h.q1; rw [hJ] at h1
    have := nodup_getD h.nodup (by have := h.two; omega) hj h1; omega
  · have h1 := h.q0; rw [hJ] at h1
    have := nodup_getD h.nodup (by have := h.two; omega) hj h1; omega
/-- Different vertices were found by different edges. -/
theorem Tr.inj (h : Tr L Sh e n Qs Es pr) {i j : Nat} (h2 : 2 ≤ i) (hij : i < j) (hj : j < Qs.length) : Es.getD i 0 ≠ Es.getD j 0 := by
  intro he
  obtain ⟨_, hpi, hJi, _⟩ := h.par i h2 (by omega)
  obtain ⟨_, hpj, hJj, _⟩ := h.par j (by omega) hj
  rw [he] at hJi
  rcases hJi with hJi | hJi <;> rcases hJj with hJj | hJj <;> rw [hJi] at hJj <;> simp only [Prod.mk.injEq] at hJj
  · have := nodup_getD h.nodup (i := i) (j := j) (by omega) hj hJj.2; omega
  · have := nodup_getD h.nodup (i := pr i) (j := j) (by omega) hj hJj.1; omega
  · have := nodup_getD h.nodup (i := pr i) (j := j) (by omega) hj hJj.2; omega
  · have := nodup_getD h.nodup (i := i) (j := j) (by omega) hj hJj.1; omega
theorem Tr.jne (h : Tr L Sh e n Qs Es pr) {j : Nat} (h2 : 2 ≤ j) (hj : j < Qs.length) : Qs.getD j 0 ≠ Qs.getD (pr j) 0 := by
  obtain ⟨_, hp, _, _⟩ := h.par j h2 hj
  intro c
  have := nodup_getD h.nodup hj (by omega) c; omega
end
/-- A way down from j of which each edge can spare A. -/
inductive Way (L Sh : List (Int × Int)) (Qs : List Int) (Es : List Nat) (pr : Nat → Nat) (A : Int) : Nat → Prop
  | base {j : Nat} : j < 2 → Way L Sh Qs Es pr A j
  | step {j : Nat} : 2 ≤ j → A ≤ hs L Sh (Es.getD j 0) (Qs.getD (pr j) 0) → Way L Sh Qs Es pr A (pr j) → Way L Sh Qs Es pr A j
/-- What stands while A is moved down the way, at vertex j. -/
structure Mv (L Sh Sh' : List (Int × Int)) (Ld' : List Int) (e : Nat) (Qs : List Int) (Es : List Nat) (A : Int) (j : Nat) : Prop where
  len : Sh'.length = L.length
  pos : ∀ k, k < L.length → 0 ≤ (ed Sh' k).1 ∧ 0 ≤ (ed Sh' k).2
  same : ∀ i, i ≤ j → ed Sh' (Es.getD i 0) = ed Sh (Es.getD i 0)
  sum : ∀ k, k < L.length → sm Sh' k = sm Sh k
  load : ∀ v : Nat, v < 16 → Ld'.getD v 0 = ldE L Sh' v + if (v : Int) = Qs.getD j 0 then A else 0
section
variable {L Sh Sh' : List (Int × Int)} {Ld Ld' : List Int} {e : Nat} {n : Int} {Qs : List Int} {Es : List Nat} {pr : Nat → Nat} {A : Int} {j : Nat}
theorem Mv.start {most whole : Int} (h : Shr L Sh Ld most whole) (hl : ∀ v : Nat, v < 16 → Ld'.getD v 0 = Ld.getD v 0 + if (v : Int) = Qs.getD j 0 then A else 0) : Mv L Sh Sh Ld' e Qs Es A j :=
  ⟨h.len, h.pos, fun _ _ => rfl, fun _ _ => rfl, fun v hv => by rw [hl v hv, h.load v hv]⟩
/-- One step down. -/
theorem Mv.step (h : Mv L Sh Sh' Ld' e Qs Es A j) (hT : Tr L Sh e n Qs Es pr) (hd : ∀ k, k < L.length → (ed L k).1 ≠ (ed L k).2) (h2 : 2 ≤ j) (hj : j < Qs.length) (hA : 0 ≤ A) (hw : A ≤ hs L Sh (Es.getD j 0) (Qs.getD (pr j) 0)) :
    Mv L Sh (setS L (setS L Sh' (Es.getD j 0) (Qs.getD j 0) (hs L Sh' (Es.getD j 0) (Qs.getD j 0) + A)) (Es.getD j 0) (Qs.getD (pr j) 0) (hs L (setS L Sh' (Es.getD j 0) (Qs.getD j 0) (hs L Sh' (Es.getD j 0) (Qs.getD j 0) + A)) (Es.getD j 0) (Qs.getD (pr j) 0) - A)) Ld' e Qs Es A (pr j) := by
  obtain ⟨hk, hp, hJ, _⟩ := hT.par j h2 hj
  have hne := hT.jne h2 hj
  have hinj := fun i (hi : i ≤ pr j) => show Es.getD i 0 ≠ Es.getD j 0 from by
    by_cases c : 2 ≤ i
    · exact hT.inj c (by omega) hj
    · rw [hT.e01 i (by omega)]; exact (hT.ne_e h2 hj).symm
  have hsame := h.same j (Nat.le_refl _)
  generalize hkk : Es.getD j 0 = k at *
  generalize hvv : Qs.getD j 0 = v at *
  generalize huu : Qs.getD (pr j) 0 = u at *
  have hk' : k < Sh'.length := by rw [h.len]; exact hk
  obtain ⟨S1, hS1⟩ : ∃ S1, S1 = setS L Sh' k v (hs L Sh' k v + A) := ⟨_, rfl⟩
  have hS1l : S1.length = L.length := by rw [hS1, setS_length, h.len]
  have hk1 : k < S1.length := by rw [hS1l]; exact hk
  have hsu : hs L S1 k u = hs L Sh k u := by
    rw [hS1, hs_other hk' hJ.symm hne]; unfold hs; rw [hsame]
  rw [← hS1]
  obtain ⟨S2, hS2⟩ : ∃ S2, S2 = setS L S1 k u (hs L S1 k u - A) := ⟨_, rfl⟩
  rw [← hS2]
  have hS2l : S2.length = L.length := by rw [hS2, setS_length, hS1l]
  have hoth : ∀ i, i ≠ k → ed S2 i = ed Sh' i := fun i hi => by rw [hS2, setS_other hk1 hi, hS1, setS_other hk' hi]
  have hends : ∀ a, a = v ∨ a = u → (ed L k).1 = a ∨ (ed L k).2 = a := fun a ha => by
    rcases hJ with hJ | hJ <;> rw [hJ] <;> dsimp only <;> rcases ha with rfl | rfl <;> simp
  have hsm : sm S2 k = sm Sh' k := by
    rw [hS2, sm_setS hk1, hS1, sm_setS hk']; omega
  refine ⟨hS2l, fun i hi => ?_, fun i hi => ?_, fun i hi => ?_, fun x hx => ?_⟩
  · by_cases c : i = k
    · subst c
      have hv0 := hs_nonneg (L := L) (v := v) (h.pos i hk)
      have hvv : hs L S2 i v = hs L Sh' i v + A := by rw [hS2, hs_other hk1 hJ (Ne.symm hne), hS1, hs_setS hk']
      have huu : hs L S2 i u = hs L Sh i u - A := by rw [hS2, hs_setS hk1, hsu]
      rcases hJ with hJ | hJ <;> unfold hs at hvv huu <;> rw [hJ] at hvv huu <;> dsimp only at hvv huu
      · simp only [if_true, if_neg (Ne.symm hne)] at hvv huu
        have h1 : hs L Sh i u = (ed Sh i).1 := by unfold hs; rw [hJ]; simp
        have h2 : hs L Sh' i v = (ed Sh' i).2 := by unfold hs; rw [hJ]; simp [Ne.symm hne]
        omega
      · simp only [if_true, if_neg hne] at hvv huu
        have h1 : hs L Sh i u = (ed Sh i).2 := by unfold hs; rw [hJ]; simp [hne]
        have h2 : hs L Sh' i v = (ed Sh' i).1 := by unfold hs; rw [hJ]; simp
        omega
    · rw [hoth i c]; exact h.pos i hi
  · rw [hoth _ (hinj i hi)]; exact h.same i (by omega)
  · by_cases c : i = k
    · subst c; rw [hsm]; exact h.sum i hi
    · unfold sm; rw [hoth i c]; exact h.sum i hi
  · rw [h.load x hx, hS2, ldE_setS hk hS1l (hends u (.inr rfl)) (hd k hk), hS1, ldE_setS hk h.len (hends v (.inl rfl)) (hd k hk)]
    by_cases c1 : (x : Int) = v
    · have c2 : (x : Int) ≠ u := fun c => hne (c1.symm.trans c)
      simp only [c1, hne, if_true, if_false]; omega
    · by_cases c2 : (x : Int) = u
      · simp only [if_neg c1, if_pos c2]; omega
      · simp only [if_neg c1, if_neg c2]; omega
/-- The last step. -/
theorem Mv.last {most whole : Int} (h : Mv L Sh Sh' Ld' e Qs Es A j) (hS : Shr L Sh Ld most whole) (hT : Tr L Sh e n Qs Es pr) (hd : ∀ k, k < L.length → (ed L k).1 ≠ (ed L k).2) (he : e < L.length) (h2 : j < 2) (hA : 0 ≤ A) (hleft : sm Sh e + A ≤ whole)
    (hlen : Ld'.length = 16) (hle : ∀ v : Nat, v < 16 → Ld'.getD v 0 ≤ most) :
    Shr L (setS L Sh' e (Qs.getD j 0) (hs L Sh' e (Qs.getD j 0) + A)) Ld' most whole ∧ sm (setS L Sh' e (Qs.getD j 0) (hs L Sh' e (Qs.getD j 0) + A)) e = sm Sh e + A ∧
      ∀ k, k < L.length → k ≠ e → sm (setS L Sh' e (Qs.getD j 0) (hs L Sh' e (Qs.getD j 0) + A)) k = sm Sh k := by
  have he' : e < Sh'.length := by rw [h.len]; exact he
  have hend : (ed L e).1 = Qs.getD j 0 ∨ (ed L e).2 = Qs.getD j 0 := by
    have : j = 0 ∨ j = 1 := by omega
    rcases this with rfl | rfl
    · exact .inl hT.q0.symm
    · exact .inr hT.q1.symm
  have h0 := h.load
  generalize Qs.getD j 0 = v at *
  have hoth : ∀ i, i ≠ e → ed (setS L Sh' e v (hs L Sh' e v + A)) i = ed Sh' i := fun i hi => setS_other he' hi
  have hse : sm (setS L Sh' e v (hs L Sh' e v + A)) e = sm Sh e + A := by rw [sm_setS he', h.sum e he]; omega
  have hsk : ∀ k, k < L.length → k ≠ e → sm (setS L Sh' e v (hs L Sh' e v + A)) k = sm Sh k := fun k hk hke => by
    unfold sm; rw [hoth k hke]; exact h.sum k hk
  refine ⟨⟨by rw [setS_length, h.len], hlen, fun k hk => ?_, fun k hk => ?_, fun x hx => ?_, hle⟩, hse, hsk⟩
  · by_cases c : k = e
    · subst c
      have hp := h.pos k hk
      have hv0 := hs_nonneg (L := L) (v := v) hp
      rw [setS, ed_set he', if_pos rfl]
      split <;> dsimp only <;> omega
    · rw [hoth k c]; exact h.pos k hk
  · by_cases c : k = e
    · subst c; rw [hse]; exact hleft
    · rw [hsk k hk c]; exact hS.sum k hk
  · rw [h0 x hx, ldE_setS he h.len hend (hd e he)]
    by_cases c : (x : Int) = v
    · simp only [if_pos c]; omega
    · simp only [if_neg c]
end
end
section
abbrev bothIn (L : List (Int × Int)) (S : List Int) (k : Nat) : Prop := (ed L k).1 ∈ S ∧ (ed L k).2 ∈ S
/-- The number of edges inside a set. -/
def insM (L : List (Int × Int)) (S : List Int) : Int := sumTo (fun k => if bothIn L S k then 1 else 0) L.length
def cS (L Sh : List (Int × Int)) (S : List Int) (k : Nat) : Int := (if (ed L k).1 ∈ S then (ed Sh k).1 else 0) + (if (ed L k).2 ∈ S then (ed Sh k).2 else 0)
def sumL (f : Int → Int) : List Int → Int
  | [] => 0
  | v :: r => f v + sumL f r
theorem sumTo_add {f g : Nat → Int} : ∀ {n : Nat}, sumTo (fun k => f k + g k) n = sumTo f n + sumTo g n
  | 0 => rfl
  | n + 1 => by rw [sumTo, sumTo, sumTo, sumTo_add (n := n)]; omega
theorem sumTo_mul {f : Nat → Int} {c : Int} : ∀ {n : Nat}, sumTo (fun k => c * f k) n = c * sumTo f n
  | 0 => by simp [sumTo]
  | n + 1 => by rw [sumTo, sumTo, sumTo_mul (n := n), Int.mul_add]
theorem sumTo_eq {f g : Nat → Int} : ∀ {n : Nat}, (∀ k, k < n → f k ≤ g k) → sumTo f n = sumTo g n → ∀ k, k < n → f k = g k
  | 0, _, _, k, hk => by omega
  | n + 1, h, e, k, hk => by
    have h1 := sumTo_le (f := f) (g := g) (n := n) fun k hk => h k (by omega)
    have h2 := h n (by omega)
    rw [sumTo, sumTo] at e
    by_cases c : k = n
    · subst c
      have : sumTo f k ≤ sumTo g k := h1
      omega
    · exact sumTo_eq (n := n) (fun k hk => h k (by omega)) (by omega) k (by omega)
theorem sumTo_lt {f g : Nat → Int} {n e : Nat} (h : ∀ k, k < n → f k ≤ g k) (he : e < n) (hlt : f e < g e) : sumTo f n < sumTo g n := by
  have h1 := sumTo_le h
  have : sumTo f n ≠ sumTo g n := fun c => by have := sumTo_eq h c e he; omega
  omega
theorem sumL_le {f : Int → Int} {c : Int} : ∀ {S : List Int}, (∀ v, v ∈ S → f v ≤ c) → sumL f S ≤ c * S.length
  | [], _ => by simp [sumL]
  | v :: r, h => by
    have := sumL_le (S := r) fun v hv => h v (by simp [hv])
    have := h v (by simp)
    rw [sumL, List.length_cons, Int.natCast_add, Int.mul_add]; omega
theorem sumL_eq {f : Int → Int} {c : Int} : ∀ {S : List Int}, (∀ v, v ∈ S → f v ≤ c) → sumL f S = c * S.length → ∀ v, v ∈ S → f v = c
  | [], _, _, v, hv => by simp at hv
  | u :: r, h, e, v, hv => by
    have h1 := sumL_le (S := r) fun v hv => h v (by simp [hv])
    have h2 := h u (by simp)
    rw [sumL, List.length_cons, Int.natCast_add, Int.mul_add] at e
    rcases List.mem_cons.1 hv with rfl | hv
    · omega
    · exact sumL_eq (fun v hv => h v (by simp [hv])) (by omega) v hv
theorem sumL_const {f : Int → Int} {c : Int} : ∀ {S : List Int}, (∀ v, v ∈ S → f v = c) → sumL f S = c * S.length
  | [], _ => by simp [sumL]
  | v :: r, h => by
    have := sumL_const (S := r) fun v hv => h v (by simp [hv])
    have := h v (by simp)
    rw [sumL, List.length_cons, Int.natCast_add, Int.mul_add]; omega
/-- The loads of a set, added up edge by edge. -/
theorem load_sum {L Sh : List (Int × Int)} : ∀ {S : List Int}, S.Nodup → sumL (ldE L Sh) S = sumTo (cS L Sh S) L.length
  | [], _ => by
    have : cS L Sh [] = fun _ => 0 := by funext k; simp [cS]
    rw [this, sumTo_zero]; rfl
  | v :: r, h => by
    have hn := List.nodup_cons.1 h
    rw [sumL, load_sum hn.2, ldE, ← sumTo_add]
    refine sumTo_congr fun k _ => ?_
    have key : ∀ (a x : Int), (if a ∈ v :: r then x else 0) = (if a = v then x else 0) + if a ∈ r then x else 0 := fun a x => by
      by_cases c : a = v
      · subst c; simp [hn.1]
      · simp [c]
    unfold cont cS
    rw [key, key]; omega
/-- A set of which all have as much as they can, and all that they have is of edges inside. -/
structure Clo (L Sh : List (Int × Int)) (Ld : List Int) (most n : Int) (S : List Int) : Prop where
  rng : ∀ v, v ∈ S → 0 ≤ v ∧ v < n
  full : ∀ v, v ∈ S → Ld.getD v.toNat 0 = most
  one : ∀ k, k < L.length → (ed L k).1 ∈ S → 0 < (ed Sh k).1 → (ed L k).2 ∈ S
  two : ∀ k, k < L.length → (ed L k).2 ∈ S → 0 < (ed Sh k).2 → (ed L k).1 ∈ S
section
variable {L Sh : List (Int × Int)} {Ld : List Int} {most whole n : Int} {S T : List Int}
theorem Shr.loadI (h : Shr L Sh Ld most whole) {v : Int} (h0 : 0 ≤ v ∧ v < 16) : Ld.getD v.toNat 0 = ldE L Sh v ∧ Ld.getD v.toNat 0 ≤ most := by
  have h1 := h.load v.toNat (by omega)
  have h2 := h.le v.toNat (by omega)
  rw [Int.toNat_of_nonneg h0.1] at h1
  exact ⟨h1, h2⟩
theorem Clo.cs (h : Shr L Sh Ld most whole) (hc : Clo L Sh Ld most n S) {k : Nat} (hk : k < L.length) : cS L Sh S k = if bothIn L S k then sm Sh k else 0 := by
  have hp := h.pos k hk
  have h1 := hc.one k hk
  have h2 := hc.two k hk
  unfold cS bothIn sm
  generalize ed L k = e at *
  generalize ed Sh k = s at *
  by_cases c1 : e.1 ∈ S
  · by_cases c2 : e.2 ∈ S
    · simp [c1, c2]
    · have : ¬ 0 < s.1 := fun c => c2 (h1 c1 c)
      simp [c1, c2]; omega
  · by_cases c2 : e.2 ∈ S
    · have : ¬ 0 < s.2 := fun c => c1 (h2 c2 c)
      simp [c1, c2]; omega
    · simp [c1, c2]
theorem Clo.sum (h : Shr L Sh Ld most whole) (hc : Clo L Sh Ld most n S) (hn : n ≤ 16) (hS : S.Nodup) : most * S.length = sumTo (fun k => if bothIn L S k then sm Sh k else 0) L.length := by
  rw [← sumL_const (f := ldE L Sh) fun v hv => ?_, load_sum hS]
  · exact sumTo_congr fun k hk => hc.cs h hk
  · have := hc.rng v hv
    rw [← (h.loadI (v := v) ⟨this.1, by omega⟩).1]; exact hc.full v hv
theorem insM_mul {c : Int} : c * insM L S = sumTo (fun k => if bothIn L S k then c else 0) L.length := by
  unfold insM
  rw [← sumTo_mul]
  refine sumTo_congr fun k _ => ?_
  split <;> simp
theorem insM_nonneg : 0 ≤ insM L S := by
  unfold insM
  have := sumTo_le (f := fun _ => 0) (g := fun k => if bothIn L S k then 1 else 0) (n := L.length) fun k _ => by split <;> decide
  rwa [sumTo_zero] at this
theorem insM_le : insM L S ≤ L.length := by
  have h := sumTo_le (f := fun k => if bothIn L S k then 1 else 0) (g := fun _ => 1) (n := L.length) fun k _ => by split <;> decide
  have h2 : ∀ n : Nat, sumTo (fun _ => 1) n = n := by
    intro n
    induction n with
    | zero => rfl
    | succ n ih => rw [sumTo, ih]; omega
  rw [h2] at h
  exact h
/-- Where not all could be given: the set is denser. -/
theorem Clo.denser (h : Shr L Sh Ld most whole) (hc : Clo L Sh Ld most n S) (hn : n ≤ 16) (hS : S.Nodup) {e : Nat} (he : e < L.length) (hb : bothIn L S e) (hlt : sm Sh e < whole) : most * S.length < whole * insM L S := by
  rw [hc.sum h hn hS, insM_mul]
  refine sumTo_lt (fun k hk => ?_) he ?_
  · have := h.sum k hk
    split <;> omega
  · simp only [if_pos hb]; exact hlt
/-- Where all is given: no set is denser. -/
theorem Shr.bound (h : Shr L Sh Ld most whole) (ha : ∀ k, k < L.length → sm Sh k = whole) (hT : T.Nodup) (hr : ∀ v, v ∈ T → 0 ≤ v ∧ v < 16) : whole * insM L T ≤ most * T.length := by
  have h1 := sumL_le (f := ldE L Sh) (c := most) (S := T) fun v hv => by
    have := h.loadI (hr v hv); omega
  rw [load_sum hT] at h1
  refine Int.le_trans ?_ h1
  rw [insM_mul]
  refine sumTo_le fun k hk => ?_
  have := ha k hk
  have hp := h.pos k hk
  unfold cS bothIn
  unfold sm at this
  split
  · rename_i c; rw [if_pos c.1, if_pos c.2]; omega
  · split <;> split <;> omega
theorem Shr.clo (h : Shr L Sh Ld most whole) (ha : ∀ k, k < L.length → sm Sh k = whole) (hT : T.Nodup) (hr : ∀ v, v ∈ T → 0 ≤ v ∧ v < n) (hn : n ≤ 16) (heq : whole * insM L T = most * T.length) : Clo L Sh Ld most n T := by
  have hle : ∀ v, v ∈ T → ldE L Sh v ≤ most := fun v hv => by
    have := hr v hv
    have := h.loadI (v := v) ⟨this.1, by omega⟩; omega
  have h1 := sumL_le (f := ldE L Sh) (c := most) (S := T) hle
  have hk : ∀ k, k < L.length → (if bothIn L T k then whole else 0) ≤ cS L Sh T k := fun k hk => by
    have := ha k hk
    have hp := h.pos k hk
    unfold cS bothIn
    unfold sm at this
    split
    · rename_i c; rw [if_pos c.1, if_pos c.2]; omega
    · split <;> split <;> omega
  have h2 := sumTo_le hk
  rw [← load_sum hT, ← insM_mul] at h2
  have e1 : sumL (ldE L Sh) T = most * T.length := by omega
  have e2 := sumTo_eq hk (by rw [← load_sum hT, ← insM_mul]; omega)
  have hz : ∀ k, k < L.length → ¬ bothIn L T k → cS L Sh T k = 0 := fun k hk c => by
    have := e2 k hk; rw [if_neg c] at this; exact this.symm
  refine ⟨hr, fun v hv => ?_, fun k hk c1 c2 => ?_, fun k hk c1 c2 => ?_⟩
  · have h3 := hr v hv
    rw [(h.loadI (v := v) ⟨h3.1, by omega⟩).1]
    exact sumL_eq hle e1 v hv
  · by_cases c : (ed L k).2 ∈ T
    · exact c
    · have := hz k hk fun hh => c hh.2
      unfold cS at this; rw [if_pos c1, if_neg c] at this; omega
  · by_cases c : (ed L k).1 ∈ T
    · exact c
    · have := hz k hk fun hh => c hh.1
      unfold cS at this; rw [if_neg c, if_pos c1] at this; omega
theorem Clo.exact (h : Shr L Sh Ld most whole) (ha : ∀ k, k < L.length → sm Sh k = whole) (hc : Clo L Sh Ld most n S) (hn : n ≤ 16) (hS : S.Nodup) : whole * insM L S = most * S.length := by
  rw [hc.sum h hn hS, insM_mul]
  refine sumTo_congr fun k hk => ?_
  rw [ha k hk]
end
end
section
theorem getD_snoc_lt {α : Type} {Q : List α} {x d : α} {j : Nat} (h : j < Q.length) : (Q ++ [x]).getD j d = Q.getD j d := by
  rw [List.getD_eq_getElem?_getD, List.getD_eq_getElem?_getD, List.getElem?_append_left h]
theorem getD_snoc_eq {α : Type} {Q : List α} {x d : α} : (Q ++ [x]).getD Q.length d = x := by simp [List.getD]
theorem range_len : ∀ (m : Nat) (Q : List Int), Q.Nodup → (∀ v, v ∈ Q → 0 ≤ v ∧ v < m) → Q.length ≤ m
  | 0, Q, _, hr => by
    cases Q with
    | nil => exact Nat.le_refl _
    | cons a r => have := hr a (by simp); omega
  | m + 1, Q, hn, hr => by
    by_cases c : (m : Int) ∈ Q
    · have h1 := range_len m (Q.erase (m : Int)) (hn.erase _) fun v hv => by
        have h2 := hr v (List.mem_of_mem_erase hv)
        have h3 : v ≠ (m : Int) := fun e => by subst e; exact (List.Nodup.not_mem_erase hn) hv
        omega
      rw [List.length_erase_of_mem c] at h1
      omega
    · have := range_len m Q hn fun v hv => by
        have h2 := hr v hv
        have h3 : v ≠ (m : Int) := fun e => c (e ▸ hv)
        omega
      omega
theorem set_len {n : Int} {Q : List Int} (hn : Q.Nodup) (hr : ∀ v, v ∈ Q → 0 ≤ v ∧ v < n) (h0 : n ≤ 16) : Q.length ≤ 16 := by
  refine range_len 16 Q hn fun v hv => ?_
  have := hr v hv; omega
section
variable {L Sh : List (Int × Int)} {e : Nat} {n : Int} {Qs : List Int} {Es : List Nat} {pr : Nat → Nat}
theorem Tr.start (he : (ed L e).1 ≠ (ed L e).2) (h1 : 0 ≤ (ed L e).1 ∧ (ed L e).1 < n) (h2 : 0 ≤ (ed L e).2 ∧ (ed L e).2 < n) : Tr L Sh e n [(ed L e).1, (ed L e).2] [e, e] pr :=
  ⟨rfl, by simp, rfl, rfl, fun j hj => by match j, hj with | 0, _ => rfl | 1, _ => rfl, by simpa [ed] using he, fun v hv => by simp at hv; rcases hv with rfl | rfl <;> assumption, fun j h1 h2 => by simp at h2; omega⟩
theorem Tr.push (h : Tr L Sh e n Qs Es pr) {u : Int} {k i : Nat} (hu : u ∉ Qs) (hr : 0 ≤ u ∧ u < n) (hk : k < L.length) (hi : i < Qs.length) (hJ : Jn L k (Qs.getD i 0) u) (hp : 0 < hs L Sh k (Qs.getD i 0)) :
    Tr L Sh e n (Qs ++ [u]) (Es ++ [k]) (fun j => if j = Qs.length then i else pr j) := by
  have hl := h.len
  have h2 := h.two
  have gE : ∀ j, j < Qs.length → (Es ++ [k]).getD j 0 = Es.getD j 0 := fun j hj => getD_snoc_lt (by omega)
  have gE2 : (Es ++ [k]).getD Qs.length 0 = k := by rw [← hl]; exact getD_snoc_eq
  refine ⟨by simp [hl], by simp; omega, by rw [getD_snoc_lt (by omega)]; exact h.q0, by rw [getD_snoc_lt (by omega)]; exact h.q1, fun j hj => by rw [gE j (by omega)]; exact h.e01 j hj, ?_, fun v hv => ?_, fun j hj1 hj2 => ?_⟩
  · rw [List.nodup_append]; exact ⟨h.nodup, by simp, fun a ha b hb => by simp at hb; subst hb; rintro rfl; exact hu ha⟩
  · rcases List.mem_append.1 hv with hv | hv
    · exact h.rng v hv
    · simp at hv; subst hv; exact hr
  · by_cases c : j = Qs.length
    · subst c
      simp only [if_true, gE2, getD_snoc_eq]
      rw [getD_snoc_lt hi]
      exact ⟨hk, hi, hJ, hp⟩
    · have hj3 : j < Qs.length := by simp at hj2; omega
      obtain ⟨a1, a2, a3, a4⟩ := h.par j hj1 hj3
      simp only [if_neg c, gE j hj3]
      rw [getD_snoc_lt hj3, getD_snoc_lt (by omega)]
      exact ⟨a1, a2, a3, a4⟩
end
/-- A vertex has been looked at: all that it has something of an edge with are known. -/
def Seen (L Sh : List (Int × Int)) (Qs : List Int) (v : Int) : Prop := ∀ x, x ∈ nb L v L.length → 0 < hs L Sh x.1.toNat v → x.2 ∈ Qs
theorem Seen.mono {L Sh : List (Int × Int)} {Qs Qs' : List Int} {v : Int} (h : Seen L Sh Qs v) (hm : ∀ u, u ∈ Qs → u ∈ Qs') : Seen L Sh Qs' v := fun x hx hp => hm _ (h x hx hp)
theorem Clo.of_seen {L Sh : List (Int × Int)} {Ld : List Int} {most whole n : Int} {Qs S : List Int} (hd : ∀ k, k < L.length → (ed L k).1 ≠ (ed L k).2) (hr : ∀ v, v ∈ Qs → 0 ≤ v ∧ v < n) (hn : n ≤ 16) (hS : Shr L Sh Ld most whole)
    (hf : ∀ v, v ∈ Qs → ¬ Ld.getD v.toNat 0 < most) (hs_ : ∀ v, v ∈ Qs → Seen L Sh Qs v) (hm : ∀ v, v ∈ S ↔ v ∈ Qs) : Clo L Sh Ld most n S := by
  refine ⟨fun v hv => hr v ((hm v).1 hv), fun v hv => ?_, fun k hk h1 h2 => ?_, fun k hk h1 h2 => ?_⟩
  · have := hr v ((hm v).1 hv)
    have h1 := (hS.loadI (v := v) (by omega)).2
    have := hf v ((hm v).1 hv)
    omega
  · have := hs_ _ ((hm _).1 h1) _ ((nb_of hk).1 rfl)
    refine (hm _).2 (this ?_)
    simp only [Int.toNat_natCast]
    unfold hs; rw [if_pos rfl]; exact h2
  · have := hs_ _ ((hm _).1 h1) _ ((nb_of hk).2 (hd k hk) rfl)
    refine (hm _).2 (this ?_)
    simp only [Int.toNat_natCast]
    unfold hs; rw [if_neg (hd k hk)]; exact h2
/-- A set in ascending order. -/
def Asc (S : List Int) : Prop := ∀ i, 0 < i → i < S.length → S.getD (i - 1) 0 < S.getD i 0
theorem Asc.lt {S : List Int} (h : Asc S) : ∀ {i j : Nat}, i < j → j < S.length → S.getD i 0 < S.getD j 0 := by
  intro i j hij
  induction j with
  | zero => omega
  | succ j ih =>
    intro hj
    have h1 := h (j + 1) (by omega) hj
    rw [Nat.add_sub_cancel] at h1
    by_cases c : i = j
    · subst c; exact h1
    · have := ih (by omega) (by omega); omega
theorem Asc.nodup {S : List Int} (h : Asc S) : S.Nodup := by
  rw [List.nodup_iff_pairwise_ne, List.pairwise_iff_getElem]
  intro i j hi hj hij e
  have := h.lt hij hj
  rw [List.getD_eq_getElem?_getD, List.getD_eq_getElem?_getD, List.getElem?_eq_getElem hi, List.getElem?_eq_getElem hj] at this
  simp at this; omega
theorem Asc.tail {a : Int} {S : List Int} (h : Asc (a :: S)) : Asc S ∧ ∀ v, v ∈ S → a < v := by
  refine ⟨fun i h0 hi => ?_, fun v hv => ?_⟩
  · have := h (i + 1) (by omega) (by simpa using hi)
    obtain ⟨j, rfl⟩ : ∃ j, i = j + 1 := ⟨i - 1, by omega⟩
    simpa using this
  · obtain ⟨i, hi, rfl⟩ := List.getElem_of_mem hv
    have := h.lt (i := 0) (j := i + 1) (by omega) (by simpa using hi)
    simpa [List.getD, hi] using this
/-- Sets in ascending order with the same members are the same. -/
theorem Asc.ext : ∀ {S T : List Int}, Asc S → Asc T → (∀ v, v ∈ S ↔ v ∈ T) → S = T
  | [], [], _, _, _ => rfl
  | [], b :: T, _, _, h => by have := (h b).2 (by simp); simp at this
  | a :: S, [], _, _, h => by have := (h a).1 (by simp); simp at this
  | a :: S, b :: T, h1, h2, h => by
    obtain ⟨t1, l1⟩ := h1.tail
    obtain ⟨t2, l2⟩ := h2.tail
    have hab : a = b := by
      have ha := (h a).1 (by simp)
      have hb := (h b).2 (by simp)
      rcases List.mem_cons.1 ha with e | ha
      · exact e
      · rcases List.mem_cons.1 hb with e | hb
        · exact e.symm
        · have := l2 a ha; have := l1 b hb; omega
    subst hab
    rw [Asc.ext t1 t2 fun v => ?_]
    have := h v
    simp only [List.mem_cons] at this
    constructor
    · intro hv
      rcases this.1 (.inr hv) with e | e
      · subst e; have := l1 v hv; omega
      · exact e
    · intro hv
      rcases this.2 (.inr hv) with e | e
      · subst e; have := l2 v hv; omega
      · exact e
theorem asc_sort {Q : List Int} (h : Q.Nodup) : Asc (Q.mergeSort fun x y => decide (x ≤ y)) := by
  have h1 := List.pairwise_mergeSort (le := fun x y : Int => decide (x ≤ y)) (fun a b c h1 h2 => by simp at *; omega) (fun a b => by simp; omega) Q
  have h2 : (Q.mergeSort fun x y => decide (x ≤ y)).Nodup := (List.mergeSort_perm Q _).nodup_iff.2 h
  generalize Q.mergeSort (fun x y => decide (x ≤ y)) = S at *
  intro i h0 hi
  have a1 := List.pairwise_iff_getElem.1 h1 (i - 1) i (by omega) hi (by omega)
  have a2 := List.pairwise_iff_getElem.1 (List.nodup_iff_pairwise_ne.1 h2) (i - 1) i (by omega) hi (by omega)
  rw [List.getD_eq_getElem?_getD, List.getD_eq_getElem?_getD, List.getElem?_eq_getElem hi, List.getElem?_eq_getElem (by omega)]
  simp at *; omega
theorem mem_sort {Q : List Int} {v : Int} : v ∈ Q.mergeSort (fun x y => decide (x ≤ y)) ↔ v ∈ Q := (List.mergeSort_perm Q _).mem_iff
end
section
def Fix (L Sh : List (Int × Int)) (n : Int) (fr : Int → Bool) : Prop := ∀ v, 0 ≤ v → v < n → ∀ x, x ∈ nb L v L.length → 0 < hs L Sh x.1.toNat v → fr x.2 = true → fr v = true
structure Rnd (L Sh : List (Int × Int)) (Ld : List Int) (most n : Int) (fr0 fr : Int → Bool) : Prop where
  a : ∀ T, Clo L Sh Ld most n T → ∀ v, v ∈ T → fr v = false
  rng : ∀ v, fr v = true → 0 ≤ v ∧ v < n
  base : ∀ v, 0 ≤ v → v < n → Ld.getD v.toNat 0 < most → fr v = true
  mono : ∀ v, fr0 v = true → fr v = true
  fixd : Fix L Sh n fr0 → ∀ v, fr v = fr0 v
def upF (fr : Int → Bool) (v : Int) (y : Bool) : Int → Bool := fun x => if x = v then y else fr x
def cF (fr : Int → Bool) : Nat → Nat
  | 0 => 0
  | m + 1 => cF fr m + if fr m then 1 else 0
theorem cF_mono {f g : Int → Bool} (h : ∀ v, f v = true → g v = true) : ∀ m, cF f m ≤ cF g m
  | 0 => Nat.le_refl _
  | m + 1 => by
    have := cF_mono h m
    have := h m
    simp only [cF]
    cases hf : f m <;> cases hg : g m <;> simp_all <;> omega
theorem cF_lt {f g : Int → Bool} (h : ∀ v, f v = true → g v = true) {v : Nat} (h1 : f v = false) (h2 : g v = true) : ∀ {m : Nat}, v < m → cF f m < cF g m
  | 0, hv => by omega
  | m + 1, hv => by
    simp only [cF]
    by_cases c : v = m
    · subst c
      have := cF_mono h v
      simp [h1, h2]; omega
    · have := cF_lt h h1 h2 (m := m) (by omega)
      have := h m
      cases hf : f m <;> cases hg : g m <;> simp_all <;> omega
theorem cF_full {f : Int → Bool} : ∀ {m : Nat}, m ≤ cF f m → ∀ v : Nat, v < m → f v = true
  | 0, _, v, hv => by omega
  | m + 1, h, v, hv => by
    have hle : ∀ k, cF f k ≤ k := fun k => by
      induction k with
      | zero => exact Nat.le_refl _
      | succ k ih => simp only [cF]; split <;> omega
    have h1 := hle m
    simp only [cF] at h
    by_cases c : v = m
    · subst c
      cases hf : f v
      · simp [hf] at h; omega
      · rfl
    · refine cF_full (m := m) ?_ v (by omega)
      split at h <;> omega
section
variable {L Sh : List (Int × Int)} {Ld : List Int} {most whole n : Int} {fr0 fr : Int → Bool}
/-- Before the first round: free is whoever has less than it can. -/
theorem Rnd.start (h : ∀ v, fr v = true ↔ 0 ≤ v ∧ v < n ∧ Ld.getD v.toNat 0 < most) : Rnd L Sh Ld most n fr fr := by
  refine ⟨fun T hT v hv => ?_, fun v hv => ?_, fun v h0 h1 h2 => (h v).2 ⟨h0, h1, h2⟩, fun v hv => hv, fun _ _ => rfl⟩
  · cases hf : fr v
    · rfl
    · have := ((h v).1 hf).2.2
      have := hT.full v hv; omega
  · have := (h v).1 hv; exact ⟨this.1, this.2.1⟩
theorem Rnd.step (h : Rnd L Sh Ld most n fr0 fr) {v : Int} (hv : 0 ≤ v ∧ v < n) {x : Int × Int} (hx : x ∈ nb L v L.length) : Rnd L Sh Ld most n fr0 (upF fr v (fr v || (fr x.2 && decide (0 < hs L Sh x.1.toNat v)))) := by
  have hmono : ∀ u, fr u = true → upF fr v (fr v || (fr x.2 && decide (0 < hs L Sh x.1.toNat v))) u = true := fun u hu => by
    unfold upF; split
    · rename_i e; subst e; rw [hu]; rfl
    · exact hu
  refine ⟨fun T hT u hu => ?_, fun u hu => ?_, fun u h0 h1 h2 => hmono u (h.base u h0 h1 h2), fun u hu => hmono u (h.mono u hu), fun hf u => ?_⟩
  · unfold upF
    split
    · rename_i e
      subst e
      rw [h.a T hT u hu, Bool.false_or]
      by_cases hp : 0 < hs L Sh x.1.toNat u
      · obtain ⟨k, hk, e1, e2⟩ := nb_mem hx
        rw [e1] at hp
        simp only [Int.toNat_natCast] at hp
        have hm : x.2 ∈ T := by
          unfold hs at hp
          rcases e2 with ⟨e2, e3⟩ | ⟨e2, e3⟩
          · rw [if_pos e2] at hp
            rw [e3]; exact hT.one k hk (by rw [e2]; exact hu) hp
          · by_cases c : (ed L k).1 = u
            · rw [e3, c]; exact hu
            · rw [if_neg c] at hp
              rw [e3]; exact hT.two k hk (by rw [e2]; exact hu) hp
        rw [h.a T hT _ hm]; rfl
      · rw [decide_eq_false hp, Bool.and_false]
    · exact h.a T hT u hu
  · unfold upF at hu
    split at hu
    · rename_i e; subst e; exact hv
    · exact h.rng u hu
  · unfold upF
    split
    · rename_i e
      subst e
      rw [h.fixd hf u, h.fixd hf x.2]
      by_cases hp : 0 < hs L Sh x.1.toNat u
      · rw [decide_eq_true hp, Bool.and_true]
        cases h1 : fr0 x.2
        · rw [Bool.or_false]
        · rw [hf u hv.1 hv.2 x hx hp h1]; rfl
      · rw [decide_eq_false hp, Bool.and_false, Bool.or_false]
    · exact h.fixd hf u
/-- A round is over. -/
theorem Rnd.done (h : Rnd L Sh Ld most n fr0 fr) {r : Nat} (hr : Fix L Sh n fr0 ∨ r ≤ cF fr0 n.toNat) (hp : ∀ v, 0 ≤ v → v < n → ∀ x, x ∈ nb L v L.length → 0 < hs L Sh x.1.toNat v → fr0 x.2 = true → fr v = true) :
    (Fix L Sh n fr ∨ r + 1 ≤ cF fr n.toNat) ∧ Rnd L Sh Ld most n fr fr := by
  refine ⟨?_, h.a, h.rng, h.base, fun _ h => h, fun _ _ => rfl⟩
  by_cases hf : Fix L Sh n fr0
  · left
    have he : fr = fr0 := funext (h.fixd hf)
    rw [he]; exact hf
  · have hr := hr.resolve_left hf
    by_cases hc : ∃ v, fr v = true ∧ fr0 v = false
    · right
      obtain ⟨v, h1, h2⟩ := hc
      have hv := h.rng v h1
      have := cF_lt (f := fr0) (g := fr) h.mono (v := v.toNat) (by rw [Int.toNat_of_nonneg hv.1]; exact h2) (by rw [Int.toNat_of_nonneg hv.1]; exact h1) (m := n.toNat) (by omega)
      omega
    · left
      have he : fr = fr0 := funext fun v => by
        cases h1 : fr v <;> cases h2 : fr0 v
        · rfl
        · have := h.mono v h2; rw [h1] at this; cases this
        · exact absurd ⟨v, h1, h2⟩ hc
        · rfl
      intro v h0 h1 x hx hp' hu
      exact hp v h0 h1 x hx hp' (by rw [← he]; exact hu)
/-- After all rounds. -/
theorem fix_end (hr : Fix L Sh n fr ∨ n.toNat ≤ cF fr n.toNat) : Fix L Sh n fr := by
  rcases hr with hr | hr
  · exact hr
  · intro v h0 h1 _ _ _ _
    have := cF_full hr v.toNat (by omega)
    rwa [Int.toNat_of_nonneg h0] at this
/-- The vertices that are not free: the greatest closed set. -/
theorem Rnd.clo (h : Rnd L Sh Ld most n fr fr) (hx : Fix L Sh n fr) (hS : Shr L Sh Ld most whole) (hn : n ≤ 16) (hG : ∀ k, k < L.length → 0 ≤ (ed L k).1 ∧ (ed L k).1 < (ed L k).2 ∧ (ed L k).2 < n) {F : List Int} (hF : ∀ v, v ∈ F ↔ 0 ≤ v ∧ v < n ∧ fr v = false) :
    Clo L Sh Ld most n F ∧ ∀ T, Clo L Sh Ld most n T → ∀ v, v ∈ T → v ∈ F := by
  refine ⟨⟨fun v hv => ?_, fun v hv => ?_, fun k hk h1 h2 => ?_, fun k hk h1 h2 => ?_⟩, fun T hT v hv => ?_⟩
  · have := (hF v).1 hv; exact ⟨this.1, this.2.1⟩
  · have h1 := (hF v).1 hv
    have h2 := (hS.loadI (v := v) (by omega)).2
    have h3 : ¬ Ld.getD v.toNat 0 < most := fun c => by have := h.base v h1.1 h1.2.1 c; rw [h1.2.2] at this; cases this
    omega
  · have hg := hG k hk
    have hv := (hF _).1 h1
    refine (hF _).2 ⟨by omega, by omega, ?_⟩
    cases hf : fr (ed L k).2
    · rfl
    · have := hx _ hv.1 hv.2.1 _ ((nb_of hk).1 rfl) (by simp only [Int.toNat_natCast]; unfold hs; rw [if_pos rfl]; exact h2) hf
      rw [hv.2.2] at this; cases this
  · have hg := hG k hk
    have hv := (hF _).1 h1
    refine (hF _).2 ⟨by omega, by omega, ?_⟩
    cases hf : fr (ed L k).1
    · rfl
    · have := hx _ hv.1 hv.2.1 _ ((nb_of hk).2 (by omega) rfl) (by simp only [Int.toNat_natCast]; unfold hs; rw [if_neg (by omega)]; exact h2) hf
      rw [hv.2.2] at this; cases this
  · have := hT.rng v hv
    exact (hF v).2 ⟨this.1, this.2, h.a T hT v hv⟩
end
end
section
structure Dens (n : Int) (L : List (Int × Int)) (S : List Int) : Prop where
  asc : Asc S
  pos : 0 < S.length
  rng : ∀ v, v ∈ S → 0 ≤ v ∧ v < n
  best : ∀ T : List Int, T.Nodup → (∀ v, v ∈ T → 0 ≤ v ∧ v < n) → insM L T * S.length ≤ insM L S * T.length
  all : ∀ T : List Int, T.Nodup → (∀ v, v ∈ T → 0 ≤ v ∧ v < n) → insM L T * S.length = insM L S * T.length → ∀ v, v ∈ T → v ∈ S
/-- A share that proves a density. -/
structure ShOk (L Sh : List (Int × Int)) (num den : Int) : Prop where
  len : Sh.length = L.length
  pos : ∀ k, k < L.length → 0 ≤ (ed Sh k).1 ∧ 0 ≤ (ed Sh k).2
  sum : ∀ k, k < L.length → sm Sh k = den
  load : ∀ v : Nat, v < 16 → ldE L Sh v ≤ num
theorem insM_congr {L : List (Int × Int)} {S T : List Int} (h : ∀ v, v ∈ S ↔ v ∈ T) : insM L S = insM L T := by
  unfold insM
  refine sumTo_congr fun k _ => ?_
  have h1 := h (ed L k).1
  have h2 := h (ed L k).2
  by_cases c : bothIn L S k
  · rw [if_pos c, if_pos ⟨h1.1 c.1, h2.1 c.2⟩]
  · rw [if_neg c, if_neg fun c' => c ⟨h1.2 c'.1, h2.2 c'.2⟩]
/-- There is only one. -/
theorem Dens.uniq {n : Int} {L : List (Int × Int)} {S T : List Int} (h : Dens n L S) (h' : Dens n L T) : S = T := by
  have e1 := h.best T h'.asc.nodup h'.rng
  have e2 := h'.best S h.asc.nodup h.rng
  exact Asc.ext h.asc h'.asc fun v => ⟨h'.all S h.asc.nodup h.rng (by omega) v, h.all T h'.asc.nodup h'.rng (by omega) v⟩
theorem red_eq {a b c d : Nat} (hb : 0 < b) (hd : 0 < d) (h : a * d = c * b) : a / Nat.gcd a b = c / Nat.gcd c d ∧ b / Nat.gcd a b = d / Nat.gcd c d := by
  have g1 : 0 < Nat.gcd a b := Nat.gcd_pos_of_pos_right a hb
  have g2 : 0 < Nat.gcd c d := Nat.gcd_pos_of_pos_right c hd
  obtain ⟨a', ha⟩ := Nat.gcd_dvd_left a b
  obtain ⟨b', hb'⟩ := Nat.gcd_dvd_right a b
  obtain ⟨c', hc⟩ := Nat.gcd_dvd_left c d
  obtain ⟨d', hd'⟩ := Nat.gcd_dvd_right c d
  have q1 : a / Nat.gcd a b = a' := Nat.div_eq_of_eq_mul_right g1 ha
  have q2 : b / Nat.gcd a b = b' := Nat.div_eq_of_eq_mul_right g1 hb'
  have q3 : c / Nat.gcd c d = c' := Nat.div_eq_of_eq_mul_right g2 hc
  have q4 : d / Nat.gcd c d = d' := Nat.div_eq_of_eq_mul_right g2 hd'
  have p1 : Nat.Coprime a' b' := by have := Nat.coprime_div_gcd_div_gcd g1; rwa [q1, q2] at this
  have p2 : Nat.Coprime c' d' := by have := Nat.coprime_div_gcd_div_gcd g2; rwa [q3, q4] at this
  rw [q1, q2, q3, q4]
  generalize Nat.gcd a b = g at *
  generalize Nat.gcd c d = e at *
  have hx : a' * d' = c' * b' := by
    rw [ha, hd', hc, hb'] at h
    have : (g * e) * (a' * d') = (g * e) * (c' * b') := by
      calc (g * e) * (a' * d') = g * a' * (e * d') := by ac_rfl
        _ = e * c' * (g * b') := h
        _ = (g * e) * (c' * b') := by ac_rfl
    exact Nat.eq_of_mul_eq_mul_left (Nat.mul_pos g1 g2) this
  have d1 : a' ∣ c' := p1.dvd_of_dvd_mul_right (by rw [← hx]; exact Nat.dvd_mul_right _ _)
  have d2 : c' ∣ a' := p2.dvd_of_dvd_mul_right (by rw [hx]; exact Nat.dvd_mul_right _ _)
  have e1 : a' = c' := Nat.dvd_antisymm d1 d2
  have d3 : b' ∣ d' := p1.symm.dvd_of_dvd_mul_left (by rw [hx]; exact Nat.dvd_mul_left _ _)
  have d4 : d' ∣ b' := p2.symm.dvd_of_dvd_mul_left (by rw [← hx]; exact Nat.dvd_mul_left _ _)
  exact ⟨e1, Nat.dvd_antisymm d3 d4⟩
theorem red_pos {a b : Nat} (hb : 0 < b) : 0 < b / Nat.gcd a b := Nat.div_pos (Nat.le_of_dvd hb (Nat.gcd_dvd_right a b)) (Nat.gcd_pos_of_pos_right a hb)
theorem red_le {a b : Nat} : a / Nat.gcd a b ≤ a ∧ b / Nat.gcd a b ≤ b := ⟨Nat.div_le_self _ _, Nat.div_le_self _ _⟩
/-- Lowest terms: the same fraction. -/
theorem red_same {a b : Nat} : a / Nat.gcd a b * b = b / Nat.gcd a b * a := by
  obtain ⟨a', ha⟩ := Nat.gcd_dvd_left a b
  obtain ⟨b', hb'⟩ := Nat.gcd_dvd_right a b
  by_cases g0 : Nat.gcd a b = 0
  · rw [g0]; simp
  have g1 : 0 < Nat.gcd a b := by omega
  have q1 : a / Nat.gcd a b = a' := Nat.div_eq_of_eq_mul_right g1 ha
  have q2 : b / Nat.gcd a b = b' := Nat.div_eq_of_eq_mul_right g1 hb'
  rw [q1, q2]
  generalize Nat.gcd a b = g at *
  rw [hb', ha]; ac_rfl
/-- Fractions with small denominators that grow: their measure falls. -/
theorem frac_meas {a b c d : Nat} (hb : 0 < b ∧ b ≤ 16) (hd : 0 < d ∧ d ≤ 16) (h : a * d < b * c) : 256 * a / b < 256 * c / d := by
  rw [Nat.lt_div_iff_mul_lt hd.1]
  have h1 := Nat.div_mul_le_self (256 * a) b
  generalize 256 * a / b = q at *
  have h2 : q * b * d ≤ 256 * a * d := Nat.mul_le_mul_right d h1
  have h3 : b * d ≤ 16 * 16 := Nat.mul_le_mul hb.2 hd.2
  have h4 : 256 * (a * d + 1) ≤ 256 * (b * c) := Nat.mul_le_mul_left 256 h
  have e1 : q * b * d = b * (q * d) := by ac_rfl
  have e2 : 256 * a * d = 256 * (a * d) := by ac_rfl
  have e3 : 256 * (b * c) = b * (256 * c) := by ac_rfl
  have h5 : b * (q * d + (d - 1)) < b * (256 * c) := by
    rw [Nat.mul_add, Nat.mul_sub, Nat.mul_one]
    have : b ≤ b * d := Nat.le_mul_of_pos_right b hd.1
    omega
  have h6 := Nat.lt_of_mul_lt_mul_left h5
  omega
section
variable {L Sh : List (Int × Int)} {Ld : List Int} {num den n : Int} {F : List Int}
/-- All given, at a density that a set has: the greatest closed set is the greatest densest set. -/
theorem Dens.of_clo (hS : Shr L Sh Ld num den) (ha : ∀ k, k < L.length → sm Sh k = den) (hn : n ≤ 16) (hd : 0 < den) (hF : Asc F) (hc : Clo L Sh Ld num n F) (hg : ∀ T, Clo L Sh Ld num n T → ∀ v, v ∈ T → v ∈ F)
    {T0 : List Int} (h0 : T0.Nodup) (hr0 : ∀ v, v ∈ T0 → 0 ≤ v ∧ v < n) (hp0 : 0 < T0.length) (he0 : num * T0.length = den * insM L T0) : Dens n L F ∧ num * F.length = den * insM L F ∧ ShOk L Sh num den := by
  have hex := hc.exact hS ha hn hF.nodup
  have hT0 := hg T0 (hS.clo ha h0 hr0 hn he0.symm)
  have hFp : 0 < F.length := by
    match T0, hp0, hT0 with
    | v :: r, _, h => exact List.length_pos_of_mem (h v (by simp))
  have hbest : ∀ T : List Int, T.Nodup → (∀ v, v ∈ T → 0 ≤ v ∧ v < n) → den * insM L T ≤ num * T.length := fun T hT hr => hS.bound ha hT fun v hv => by have := hr v hv; omega
  -- den * insM F = num * |F|
  have key : ∀ T : List Int, den * (insM L T * F.length) = den * insM L T * F.length := fun T => by rw [Int.mul_assoc]
  have key2 : ∀ T : List Int, den * (insM L F * T.length) = num * T.length * F.length := fun T => by rw [← Int.mul_assoc, hex, Int.mul_assoc, Int.mul_assoc, Int.mul_comm (F.length : Int)]
  refine ⟨⟨hF, hFp, hc.rng, fun T hT hr => ?_, fun T hT hr he => ?_⟩, hex.symm, ⟨hS.len, hS.pos, ha, fun v hv => by rw [← hS.load v hv]; exact hS.le v hv⟩⟩
  · have h1 := Int.mul_le_mul_of_nonneg_right (hbest T hT hr) (show (0 : Int) ≤ F.length by omega)
    rw [← key, ← key2] at h1
    exact Int.le_of_mul_le_mul_left h1 hd
  · refine hg T (hS.clo ha hT hr hn ?_)
    have h1 : den * insM L T * F.length = num * T.length * F.length := by rw [← key, ← key2, he]
    exact Int.eq_of_mul_eq_mul_right (by omega) h1
end
/-- All vertices. -/
def allV : Nat → List Int
  | 0 => []
  | m + 1 => allV m ++ [(m : Int)]
theorem allV_len : ∀ m, (allV m).length = m
  | 0 => rfl
  | m + 1 => by rw [allV, List.length_append, allV_len m]; rfl
theorem allV_mem {v : Int} : ∀ {m : Nat}, v ∈ allV m ↔ 0 ≤ v ∧ v < m
  | 0 => by simp [allV]; try omega
  | m + 1 => by rw [allV, List.mem_append, allV_mem (m := m), List.mem_singleton]; omega
theorem allV_nodup : ∀ m, (allV m).Nodup
  | 0 => List.nodup_nil
  | m + 1 => by
    rw [allV, List.nodup_append]
    exact ⟨allV_nodup m, by simp, fun a ha b hb => by have := allV_mem.1 ha; simp at hb; omega⟩
theorem insM_all {L : List (Int × Int)} {m : Nat} (hG : ∀ k, k < L.length → 0 ≤ (ed L k).1 ∧ (ed L k).1 < (ed L k).2 ∧ (ed L k).2 < m) : insM L (allV m) = L.length := by
  unfold insM
  rw [sumTo_congr (g := fun _ => 1) fun k hk => ?_]
  · have h2 : ∀ n : Nat, sumTo (fun _ => 1) n = n := by
      intro n
      induction n with
      | zero => rfl
      | succ n ih => rw [sumTo, ih]; omega
    exact h2 _
  · have := hG k hk
    rw [if_pos ⟨allV_mem.2 (by omega), allV_mem.2 (by omega)⟩]
end
section
/-- The neighbors of v among those in P. -/
def nbP (L : List (Int × Int)) (P : Int → Bool) (v : Int) : Int := sumTo (fun k => if ((ed L k).1 = v ∧ P (ed L k).2 = true) ∨ ((ed L k).2 = v ∧ P (ed L k).1 = true) then 1 else 0) L.length
theorem nbP_mono {L : List (Int × Int)} {P Q : Int → Bool} {v : Int} (h : ∀ u, P u = true → Q u = true) : nbP L P v ≤ nbP L Q v := by
  refine sumTo_le fun k _ => ?_
  by_cases c : ((ed L k).1 = v ∧ P (ed L k).2 = true) ∨ ((ed L k).2 = v ∧ P (ed L k).1 = true)
  · rw [if_pos c, if_pos (c.imp (fun c => ⟨c.1, h _ c.2⟩) fun c => ⟨c.1, h _ c.2⟩)]; exact Int.le_refl _
  · rw [if_neg c]; split <;> decide
theorem nbP_on {L : List (Int × Int)} {P Q : Int → Bool} {v : Int} (h : ∀ k, k < L.length → (P (ed L k).1 = true → Q (ed L k).1 = true) ∧ (P (ed L k).2 = true → Q (ed L k).2 = true)) : nbP L P v ≤ nbP L Q v := by
  refine sumTo_le fun k hk => ?_
  have hk := h k hk
  by_cases c : ((ed L k).1 = v ∧ P (ed L k).2 = true) ∨ ((ed L k).2 = v ∧ P (ed L k).1 = true)
  · rw [if_pos c, if_pos (c.imp (fun c => ⟨c.1, hk.2 c.2⟩) fun c => ⟨c.1, hk.1 c.2⟩)]; exact Int.le_refl _
  · rw [if_neg c]; split <;> decide
theorem nbP_nonneg {L : List (Int × Int)} {P : Int → Bool} {v : Int} : 0 ≤ nbP L P v := by
  have := sumTo_le (f := fun _ => 0) (g := fun k => if ((ed L k).1 = v ∧ P (ed L k).2 = true) ∨ ((ed L k).2 = v ∧ P (ed L k).1 = true) then 1 else 0) (n := L.length) fun k _ => by split <;> decide
  rwa [sumTo_zero] at this
theorem nbP_le {L : List (Int × Int)} {P : Int → Bool} {v : Int} : nbP L P v ≤ L.length := by
  have h := sumTo_le (f := fun k => if ((ed L k).1 = v ∧ P (ed L k).2 = true) ∨ ((ed L k).2 = v ∧ P (ed L k).1 = true) then 1 else 0) (g := fun _ => 1) (n := L.length) fun k _ => by split <;> decide
  have h2 : ∀ n : Nat, sumTo (fun _ => 1) n = n := by
    intro n
    induction n with
    | zero => rfl
    | succ n ih => rw [sumTo, ih]; omega
  rw [h2] at h
  exact h
def cntU (v : Int) : List (Int × Int) → Int
  | [] => 0
  | x :: r => (if x.2 = v then 1 else 0) + cntU v r
theorem cntU_append {v : Int} : ∀ {A B : List (Int × Int)}, cntU v (A ++ B) = cntU v A + cntU v B
  | [], B => by simp [cntU]
  | x :: A, B => by rw [List.cons_append, cntU, cntU, cntU_append]; omega
theorem cntU_nb {L : List (Int × Int)} {x v : Int} : ∀ {m : Nat}, cntU v (nb L x m) = sumTo (fun k => if (ed L k).1 = x then (if (ed L k).2 = v then 1 else 0) else if (ed L k).2 = x then (if (ed L k).1 = v then 1 else 0) else 0) m
  | 0 => rfl
  | m + 1 => by
    rw [nb, cntU_append, cntU_nb (m := m), sumTo]
    congr 1
    split
    · simp [cntU]
    · split <;> simp [cntU]
abbrev out (O : List Int) (u : Int) : Bool := !decide (u ∈ O)
/-- x is removed: each of its neighbors has one neighbor less. -/
theorem nbP_snoc {L : List (Int × Int)} {O : List Int} {x v : Int} (hd : ∀ k, k < L.length → (ed L k).1 ≠ (ed L k).2) (hx : x ∉ O) : nbP L (out (O ++ [x])) v = nbP L (out O) v - cntU v (nb L x L.length) := by
  rw [cntU_nb]
  unfold nbP
  have key : ∀ m, m ≤ L.length → sumTo (fun k => if ((ed L k).1 = v ∧ out (O ++ [x]) (ed L k).2 = true) ∨ ((ed L k).2 = v ∧ out (O ++ [x]) (ed L k).1 = true) then 1 else 0) m =
      sumTo (fun k => if ((ed L k).1 = v ∧ out O (ed L k).2 = true) ∨ ((ed L k).2 = v ∧ out O (ed L k).1 = true) then 1 else 0) m -
      sumTo (fun k => if (ed L k).1 = x then (if (ed L k).2 = v then 1 else 0) else if (ed L k).2 = x then (if (ed L k).1 = v then 1 else 0) else 0) m := by
    intro m
    induction m with
    | zero => intro _; rfl
    | succ m ih =>
      intro hm
      have hne := hd m (by omega)
      rw [sumTo, sumTo, sumTo, ih (by omega)]
      have : (if ((ed L m).1 = v ∧ out (O ++ [x]) (ed L m).2 = true) ∨ ((ed L m).2 = v ∧ out (O ++ [x]) (ed L m).1 = true) then (1 : Int) else 0) = (if ((ed L m).1 = v ∧ out O (ed L m).2 = true) ∨ ((ed L m).2 = v ∧ out O (ed L m).1 = true) then 1 else 0) -
          if (ed L m).1 = x then (if (ed L m).2 = v then 1 else 0) else if (ed L m).2 = x then (if (ed L m).1 = v then 1 else 0) else 0 := by
        have ho : ∀ u, out (O ++ [x]) u = true ↔ u ∉ O ∧ u ≠ x := fun u => by simp [out]
        have ho2 : ∀ u, out O u = true ↔ u ∉ O := fun u => by simp [out]
        simp only [ho, ho2]
        generalize (ed L m).1 = a at *
        generalize (ed L m).2 = b at *
        clear ih
        by_cases c1 : a = x
        · subst c1
          by_cases c2 : b = v
          · subst c2; simp [hx, hne]
          · simp [c2, Ne.symm hne]
        · by_cases c2 : b = x
          · subst c2
            by_cases c3 : a = v
            · subst c3; simp [hx, Ne.symm hne, c1]
            · simp [c1, c3]
          · simp [c1, c2]
      rw [this]; omega
  exact key _ (Nat.le_refl _)
/-- The first vertex that is left with the fewest neighbors left. -/
def pk (L : List (Int × Int)) (O : List Int) : Nat → Int
  | 0 => -1
  | m + 1 => if (m : Int) ∉ O ∧ (pk L O m < 0 ∨ nbP L (out O) m < nbP L (out O) (pk L O m)) then m else pk L O m
theorem pk_spec {L : List (Int × Int)} {O : List Int} : ∀ {m : Nat}, (pk L O m = -1 ∧ ∀ v : Nat, v < m → (v : Int) ∈ O) ∨ (0 ≤ pk L O m ∧ pk L O m < m ∧ pk L O m ∉ O ∧ ∀ v : Nat, v < m → (v : Int) ∉ O → nbP L (out O) (pk L O m) ≤ nbP L (out O) v)
  | 0 => .inl ⟨rfl, fun v hv => by omega⟩
  | m + 1 => by
    have ih := pk_spec (L := L) (O := O) (m := m)
    rw [pk]
    by_cases c : (m : Int) ∉ O ∧ (pk L O m < 0 ∨ nbP L (out O) m < nbP L (out O) (pk L O m))
    · rw [if_pos c]
      refine .inr ⟨by omega, by omega, c.1, fun v hv hvO => ?_⟩
      by_cases e : v = m
      · subst e; exact Int.le_refl _
      · rcases ih with ⟨i1, i2⟩ | ⟨i1, i2, i3, i4⟩
        · exact absurd (i2 v (by omega)) hvO
        · have := i4 v (by omega) hvO
          rcases c.2 with c2 | c2 <;> omega
    · rw [if_neg c]
      rcases ih with ⟨i1, i2⟩ | ⟨i1, i2, i3, i4⟩
      · left
        refine ⟨i1, fun v hv => ?_⟩
        by_cases e : v = m
        · subst e
          by_cases hm : (v : Int) ∈ O
          · exact hm
          · exact absurd ⟨hm, .inl (by omega)⟩ c
        · exact i2 v (by omega)
      · right
        refine ⟨i1, by omega, i3, fun v hv hvO => ?_⟩
        by_cases e : v = m
        · subst e
          have : ¬ nbP L (out O) v < nbP L (out O) (pk L O v) := fun h => c ⟨hvO, .inr h⟩
          omega
        · exact i4 v (by omega) hvO
theorem range_len_ge : ∀ (m : Nat) (O : List Int), (∀ v : Nat, v < m → (v : Int) ∈ O) → m ≤ O.length
  | 0, _, _ => Nat.zero_le _
  | m + 1, O, h => by
    have hm := h m (by omega)
    have := range_len_ge m (O.erase (m : Int)) fun v hv => (List.mem_erase_of_ne (by omega)).2 (h v (by omega))
    rw [List.length_erase_of_mem hm] at this
    have := List.length_pos_of_mem hm
    omega
/-- The order of removing. -/
def peO (L : List (Int × Int)) (n : Nat) : Nat → List Int
  | 0 => []
  | r + 1 => peO L n r ++ [pk L (peO L n r) n]
def peM (L : List (Int × Int)) (n : Nat) : Nat → Int
  | 0 => 0
  | r + 1 => max (peM L n r) (nbP L (out (peO L n r)) (pk L (peO L n r) n))
def peC (L : List (Int × Int)) (n : Nat) : Nat → List Int
  | 0 => List.replicate n 0
  | r + 1 => (peC L n r).set (pk L (peO L n r) n).toNat (peM L n (r + 1))
section
variable {L : List (Int × Int)} {n : Nat}
theorem peO_len : ∀ r, (peO L n r).length = r
  | 0 => rfl
  | r + 1 => by rw [peO, List.length_append, peO_len r]; rfl
theorem peC_len : ∀ r, (peC L n r).length = n
  | 0 => by simp [peC]
  | r + 1 => by rw [peC, List.length_set, peC_len r]
theorem peO_ok : ∀ {r : Nat}, r ≤ n → (peO L n r).Nodup ∧ ∀ v, v ∈ peO L n r → 0 ≤ v ∧ v < n
  | 0, _ => ⟨List.nodup_nil, fun v hv => by cases hv⟩
  | r + 1, h => by
    obtain ⟨h1, h2⟩ := peO_ok (r := r) (by omega)
    have hlen := peO_len (L := L) (n := n) r
    have hs := pk_spec (L := L) (O := peO L n r) (m := n)
    rcases hs with ⟨s1, s2⟩ | ⟨s1, s2, s3, s4⟩
    · exfalso
      have := range_len_ge n (peO L n r) s2
      omega
    · rw [peO]
      refine ⟨?_, fun v hv => ?_⟩
      · rw [List.nodup_append]; exact ⟨h1, by simp, fun a ha b hb => by simp at hb; subst hb; rintro rfl; exact s3 ha⟩
      · rcases List.mem_append.1 hv with hv | hv
        · exact h2 v hv
        · simp at hv; subst hv; exact ⟨s1, s2⟩
theorem pk_ok {r : Nat} (hr : r < n) : 0 ≤ pk L (peO L n r) n ∧ pk L (peO L n r) n < n ∧ pk L (peO L n r) n ∉ peO L n r ∧ ∀ v : Nat, v < n → (v : Int) ∉ peO L n r → nbP L (out (peO L n r)) (pk L (peO L n r) n) ≤ nbP L (out (peO L n r)) v := by
  rcases pk_spec (L := L) (O := peO L n r) (m := n) with ⟨s1, s2⟩ | h
  · have := range_len_ge n (peO L n r) s2
    rw [peO_len] at this; omega
  · exact h
theorem peM_mono {r : Nat} : peM L n r ≤ peM L n (r + 1) := by rw [peM]; exact Int.le_max_left _ _
theorem peM_le {r s : Nat} (h : r ≤ s) : peM L n r ≤ peM L n s := by
  induction s with
  | zero => have : r = 0 := by omega
            subst this; exact Int.le_refl _
  | succ s ih =>
    by_cases e : r = s + 1
    · subst e; exact Int.le_refl _
    · exact Int.le_trans (ih (by omega)) peM_mono
theorem peM_nonneg : ∀ r, 0 ≤ peM L n r := fun r => by
  have := peM_le (L := L) (n := n) (Nat.zero_le r)
  exact this
/-- A set in which each has at least k neighbors of it. -/
def KSet (L : List (Int × Int)) (n : Nat) (k : Int) (C : Int → Bool) : Prop := ∀ v, C v = true → (0 ≤ v ∧ v < n) ∧ k ≤ nbP L C v
/-- As long as the most is less than k, no vertex of such a set is removed. -/
theorem KSet.low {k : Int} {C : Int → Bool} (hC : KSet L n k C) : ∀ {r : Nat}, r ≤ n → peM L n r < k → ∀ v, C v = true → v ∉ peO L n r
  | 0, _, _, v, _ => by simp [peO]
  | r + 1, hr, hm, v, hv => by
    have ih := hC.low (r := r) (by omega) (Int.lt_of_le_of_lt peM_mono hm)
    rw [peO, List.mem_append, List.mem_singleton]
    rintro (h | h)
    · exact ih v hv h
    · have h1 := (hC v hv).2
      have h2 := nbP_mono (L := L) (P := C) (Q := out (peO L n r)) (v := v) fun u hu => by simp [out, ih u hu]
      rw [peM, ← h] at hm
      have := Int.le_max_right (peM L n r) (nbP L (out (peO L n r)) v)
      omega
theorem mem_later {r : Nat} : ∀ {s : Nat}, r < s → pk L (peO L n r) n ∈ peO L n s
  | 0, h => by omega
  | s + 1, h => by
    rw [peO, List.mem_append]
    by_cases e : r = s
    · subst e; exact .inr (by simp)
    · exact .inl (mem_later (by omega))
/-- The core number of the vertex that is removed in round r, and of each vertex. -/
theorem peC_get : ∀ {s : Nat}, s ≤ n → ∀ r, r < s → (peC L n s).getD (pk L (peO L n r) n).toNat 0 = peM L n (r + 1)
  | 0, _, r, hr => by omega
  | s + 1, hs, r, hr => by
    have hp := pk_ok (L := L) (n := n) (r := s) (by omega)
    rw [peC, List.getD_eq_getElem?_getD, List.getElem?_set]
    by_cases e : r = s
    · subst e
      rw [if_pos rfl, if_pos (by rw [peC_len]; omega)]; rfl
    · have hq := pk_ok (L := L) (n := n) (r := r) (by omega)
      have hin : pk L (peO L n r) n ∈ peO L n s := mem_later (by omega)
      have hne : pk L (peO L n s) n ≠ pk L (peO L n r) n := fun c => hp.2.2.1 (c ▸ hin)
      rw [if_neg (by omega), ← List.getD_eq_getElem?_getD]
      exact peC_get (by omega) r (by omega)
theorem peO_mem {v : Int} : ∀ {s : Nat}, v ∈ peO L n s → ∃ r, r < s ∧ v = pk L (peO L n r) n
  | 0, h => by simp [peO] at h
  | s + 1, h => by
    rw [peO, List.mem_append, List.mem_singleton] at h
    rcases h with h | h
    · obtain ⟨r, h1, h2⟩ := peO_mem h; exact ⟨r, by omega, h2⟩
    · exact ⟨s, by omega, h⟩
/-- Each vertex is removed once. -/
theorem peO_all {v : Nat} (hv : v < n) : (v : Int) ∈ peO L n n := by
  by_cases c : (v : Int) ∈ peO L n n
  · exact c
  · exfalso
    obtain ⟨h1, h2⟩ := peO_ok (L := L) (n := n) (r := n) (Nat.le_refl _)
    have h3 := range_len n ((v : Int) :: peO L n n) (List.nodup_cons.2 ⟨c, h1⟩) fun u hu => by
      rcases List.mem_cons.1 hu with rfl | hu
      · omega
      · exact h2 u hu
    rw [List.length_cons, peO_len] at h3; omega
/-- A vertex is in a set in which each has at least k neighbors exactly if its core number is at least k. -/
theorem core_iff (hG : ∀ k, k < L.length → 0 ≤ (ed L k).1 ∧ (ed L k).1 < (ed L k).2 ∧ (ed L k).2 < n) {k : Int} (hk : 0 < k) {v : Nat} (hv : v < n) : k ≤ (peC L n n).getD v 0 ↔ ∃ C, KSet L n k C ∧ C v = true := by
  obtain ⟨r, hr, hvr⟩ := peO_mem (peO_all (L := L) hv)
  have hc := peC_get (L := L) (n := n) (s := n) (Nat.le_refl _) r hr
  rw [← hvr, Int.toNat_natCast] at hc
  rw [hc]
  constructor
  · intro h
    -- the first round in which the most is at least k
    have : ∃ t, t ≤ r ∧ peM L n t < k ∧ k ≤ peM L n (t + 1) := by
      clear hc hvr hv
      induction r with
      | zero => exact ⟨0, Nat.le_refl _, hk, h⟩
      | succ r ih =>
        by_cases c : k ≤ peM L n (r + 1)
        · obtain ⟨t, h1, h2, h3⟩ := ih (by omega) c
          exact ⟨t, by omega, h2, h3⟩
        · exact ⟨r + 1, Nat.le_refl _, by omega, h⟩
    obtain ⟨t, h1, h2, h3⟩ := this
    have hp := pk_ok (L := L) (n := n) (r := t) (by omega)
    have hge : k ≤ nbP L (out (peO L n t)) (pk L (peO L n t) n) := by
      rw [peM] at h3
      rcases Int.le_total (nbP L (out (peO L n t)) (pk L (peO L n t) n)) (peM L n t) with c | c
      · rw [Int.max_eq_left c] at h3; omega
      · rw [Int.max_eq_right c] at h3; exact h3
    refine ⟨fun u => decide (0 ≤ u ∧ u < n) && out (peO L n t) u, fun u hu => ?_, ?_⟩
    · simp only [Bool.and_eq_true, decide_eq_true_eq] at hu
      refine ⟨hu.1, ?_⟩
      have hle := hp.2.2.2 u.toNat (by omega) (by rw [Int.toNat_of_nonneg hu.1.1]; simpa [out] using hu.2)
      rw [Int.toNat_of_nonneg hu.1.1] at hle
      have : nbP L (out (peO L n t)) u ≤ nbP L (fun u => decide (0 ≤ u ∧ u < (n : Int)) && out (peO L n t) u) u := nbP_on fun j hj => by
        have := hG j hj
        exact ⟨fun h => by simp only [Bool.and_eq_true, decide_eq_true_eq]; exact ⟨by omega, h⟩, fun h => by simp only [Bool.and_eq_true, decide_eq_true_eq]; exact ⟨by omega, h⟩⟩
      omega
    · simp only [Bool.and_eq_true, decide_eq_true_eq]
      refine ⟨by omega, ?_⟩
      have := (pk_ok (L := L) (n := n) (r := r) hr).2.2.1
      rw [← hvr] at this
      have hsub : ∀ u, u ∈ peO L n t → u ∈ peO L n r := fun u hu => by
        obtain ⟨q, hq, rfl⟩ := peO_mem hu
        exact mem_later (by omega)
      have h4 : (v : Int) ∉ peO L n t := fun c => this (hsub _ c)
      simp [out, h4]
  · rintro ⟨C, hC, hCv⟩
    by_cases c : k ≤ peM L n (r + 1)
    · exact c
    · exfalso
      have := hC.low (r := r + 1) (by omega) (by omega) v hCv
      exact this (by rw [hvr]; exact mem_later (by omega))
theorem peC_le {v : Nat} (hv : v < n) : 0 ≤ (peC L n n).getD v 0 ∧ (peC L n n).getD v 0 ≤ peM L n n := by
  obtain ⟨r, hr, hvr⟩ := peO_mem (peO_all (L := L) hv)
  have hc := peC_get (L := L) (n := n) (s := n) (Nat.le_refl _) r hr
  rw [← hvr, Int.toNat_natCast] at hc
  rw [hc]
  exact ⟨peM_nonneg _, peM_le (by omega)⟩
theorem peC_top (hn : 0 < n) : ∃ v, v < n ∧ (peC L n n).getD v 0 = peM L n n := by
  obtain ⟨m, rfl⟩ : ∃ m, n = m + 1 := ⟨n - 1, by omega⟩
  have hp := pk_ok (L := L) (n := m + 1) (r := m) (by omega)
  exact ⟨(pk L (peO L (m + 1) m) (m + 1)).toNat, by omega, peC_get (Nat.le_refl _) m (by omega)⟩
def degF (L : List (Int × Int)) (v : Int) (i : Nat) : Int := sumTo (fun k => if (ed L k).1 = v ∨ (ed L k).2 = v then 1 else 0) i
theorem degF_all {v : Int} : degF L v L.length = nbP L (out []) v := by
  unfold degF nbP
  refine sumTo_congr fun k _ => ?_
  simp [out]
theorem degF_le {v : Int} {i : Nat} : 0 ≤ degF L v i ∧ degF L v i ≤ i := by
  have h := sumTo_le (f := fun k => if (ed L k).1 = v ∨ (ed L k).2 = v then 1 else 0) (g := fun _ => 1) (n := i) fun k _ => by split <;> decide
  have h0 := sumTo_le (f := fun _ => 0) (g := fun k => if (ed L k).1 = v ∨ (ed L k).2 = v then 1 else 0) (n := i) fun k _ => by split <;> decide
  have h2 : ∀ n : Nat, sumTo (fun _ => 1) n = n := by
    intro n
    induction n with
    | zero => rfl
    | succ n ih => rw [sumTo, ih]; omega
  rw [h2] at h
  rw [sumTo_zero] at h0
  exact ⟨h0, h⟩
theorem cntU_le {v : Int} : ∀ {A : List (Int × Int)}, 0 ≤ cntU v A ∧ cntU v A ≤ A.length
  | [] => by simp [cntU]
  | x :: A => by
    have := cntU_le (v := v) (A := A)
    rw [cntU, List.length_cons]; split <;> omega
theorem nb_len {v : Int} : ∀ {m : Nat}, (nb L v m).length ≤ m
  | 0 => Nat.le_refl _
  | m + 1 => by
    have := nb_len (v := v) (m := m)
    rw [nb, List.length_append]
    split
    · simp; omega
    · split <;> simp <;> omega
end
end
end Bg
end Go.Proofs.YtocgehoffdjijaaGreat

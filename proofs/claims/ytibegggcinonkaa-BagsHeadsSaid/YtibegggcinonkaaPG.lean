/- Plain law: edges, shares, loads; moving along a way keeps all sums. No program in sight. -/
import Derived.Test.YtibegggcinonkaaRows
namespace Go.Proofs.Ytibegggcinonkaa
abbrev ed (L : List (Int × Int)) (k : Nat) : Int × Int := L.getD k (0, 0)
/-- The edges at a vertex among the first m, with their other ends. -/
def nb (L : List (Int × Int)) (v : Int) : Nat → List (Int × Int)
  | 0 => []
  | m + 1 => nb L v m ++ if (ed L m).1 = v then [((m : Int), (ed L m).2)] else if (ed L m).2 = v then [((m : Int), (ed L m).1)] else []
theorem nb_prefix {L : List (Int × Int)} {v : Int} {m : Nat} : ∀ {n : Nat}, m ≤ n → ∃ r, nb L v n = nb L v m ++ r
  | 0, h => by have : m = 0 := by omega
               subst this; exact ⟨[], by simp⟩
  | n + 1, h => by
    by_cases e : m = n + 1
    · subst e; exact ⟨[], by simp⟩
    · obtain ⟨r, hr⟩ := nb_prefix (L := L) (v := v) (m := m) (n := n) (by omega)
      exact ⟨r ++ _, by rw [nb, hr, List.append_assoc]⟩
theorem nb_at {L : List (Int × Int)} {v : Int} {m n : Nat} {x : Int × Int} (hm : m < n) (h : nb L v (m + 1) = nb L v m ++ [x]) : (nb L v n)[(nb L v m).length]? = some x := by
  obtain ⟨r, hr⟩ := nb_prefix (L := L) (v := v) (m := m + 1) (n := n) (by omega)
  rw [hr, h]; simp
theorem nb_mem {L : List (Int × Int)} {v : Int} {x : Int × Int} : ∀ {n : Nat}, x ∈ nb L v n → ∃ k : Nat, k < n ∧ x.1 = k ∧ (((ed L k).1 = v ∧ x.2 = (ed L k).2) ∨ ((ed L k).2 = v ∧ x.2 = (ed L k).1))
  | 0, h => by simp [nb] at h
  | n + 1, h => by
    rw [nb, List.mem_append] at h
    rcases h with h | h
    · obtain ⟨k, h1, h2⟩ := nb_mem h
      exact ⟨k, by omega, h2⟩
    · refine ⟨n, by omega, ?_⟩
      split at h
      · rename_i c
        simp at h; subst h; exact ⟨rfl, .inl ⟨c, rfl⟩⟩
      · split at h
        · rename_i c
          simp at h; subst h; exact ⟨rfl, .inr ⟨c, rfl⟩⟩
        · simp at h
theorem nb_of {L : List (Int × Int)} {v : Int} {k : Nat} : ∀ {n : Nat}, k < n → ((ed L k).1 = v → ((k : Int), (ed L k).2) ∈ nb L v n) ∧ ((ed L k).1 ≠ v → (ed L k).2 = v → ((k : Int), (ed L k).1) ∈ nb L v n)
  | 0, h => by omega
  | n + 1, h => by
    by_cases e : k = n
    · subst e
      constructor
      · intro c; rw [nb, if_pos c]; simp
      · intro c c2; rw [nb, if_neg c, if_pos c2]; simp
    · obtain ⟨h1, h2⟩ := nb_of (L := L) (v := v) (k := k) (n := n) (by omega)
      exact ⟨fun c => by rw [nb]; exact List.mem_append_left _ (h1 c), fun c c2 => by rw [nb]; exact List.mem_append_left _ (h2 c c2)⟩
/-- How much of an edge a vertex has. -/
def hs (L Sh : List (Int × Int)) (k : Nat) (v : Int) : Int := if (ed L k).1 = v then (ed Sh k).1 else (ed Sh k).2
def hj (L : List (Int × Int)) (k : Nat) (v : Int) : Nat := if (ed L k).1 = v then 0 else 1
def setS (L Sh : List (Int × Int)) (k : Nat) (v x : Int) : List (Int × Int) := Sh.set k (if (ed L k).1 = v then (x, (ed Sh k).2) else ((ed Sh k).1, x))
def cont (e s : Int × Int) (v : Int) : Int := (if e.1 = v then s.1 else 0) + if e.2 = v then s.2 else 0
def sumTo (f : Nat → Int) : Nat → Int
  | 0 => 0
  | n + 1 => sumTo f n + f n
def ldE (L Sh : List (Int × Int)) (v : Int) : Int := sumTo (fun k => cont (ed L k) (ed Sh k) v) L.length
def sm (Sh : List (Int × Int)) (k : Nat) : Int := (ed Sh k).1 + (ed Sh k).2
theorem sumTo_congr {f g : Nat → Int} : ∀ {n : Nat}, (∀ k, k < n → f k = g k) → sumTo f n = sumTo g n
  | 0, _ => rfl
  | n + 1, h => by rw [sumTo, sumTo, sumTo_congr fun k hk => h k (by omega), h n (by omega)]
theorem sumTo_set {f g : Nat → Int} {k : Nat} : ∀ {n : Nat}, k < n → (∀ j, j ≠ k → j < n → g j = f j) → sumTo g n = sumTo f n + (g k - f k)
  | 0, h, _ => by omega
  | n + 1, h, hg => by
    rw [sumTo, sumTo]
    by_cases e : k = n
    · subst e
      rw [sumTo_congr fun j hj => hg j (by omega) (by omega)]; omega
    · rw [sumTo_set (f := f) (k := k) (by omega) fun j h1 h2 => hg j h1 (by omega), hg n (fun h => e h.symm) (by omega)]; omega
theorem sumTo_le {f g : Nat → Int} : ∀ {n : Nat}, (∀ k, k < n → f k ≤ g k) → sumTo f n ≤ sumTo g n
  | 0, _ => Int.le_refl _
  | n + 1, h => by
    have := sumTo_le (f := f) (g := g) (n := n) fun k hk => h k (by omega)
    have := h n (by omega)
    rw [sumTo, sumTo]; omega
theorem ed_set {Sh : List (Int × Int)} {k j : Nat} {p : Int × Int} (hk : k < Sh.length) : ed (Sh.set k p) j = if j = k then p else ed Sh j := by
  unfold ed
  rw [List.getD_eq_getElem?_getD, List.getElem?_set, List.getD_eq_getElem?_getD]
  by_cases e : k = j
  · subst e; simp [hk]
  · rw [if_neg e, if_neg fun h => e h.symm]
theorem ldE_set {L Sh : List (Int × Int)} {k : Nat} {p : Int × Int} {v : Int} (hk : k < L.length) (hl : Sh.length = L.length) :
    ldE L (Sh.set k p) v = ldE L Sh v + (cont (ed L k) p v - cont (ed L k) (ed Sh k) v) := by
  unfold ldE
  rw [sumTo_set (f := fun k => cont (ed L k) (ed Sh k) v) hk fun j hj hn => by simp only [ed_set (hl ▸ hk), if_neg hj]]
  simp only [ed_set (hl ▸ hk), if_true]
theorem setS_length {L Sh : List (Int × Int)} {k : Nat} {v x : Int} : (setS L Sh k v x).length = Sh.length := by simp [setS]
theorem setS_other {L Sh : List (Int × Int)} {k j : Nat} {v x : Int} (hk : k < Sh.length) (h : j ≠ k) : ed (setS L Sh k v x) j = ed Sh j := by
  rw [setS, ed_set hk, if_neg h]
theorem hs_setS {L Sh : List (Int × Int)} {k : Nat} {v x : Int} (hk : k < Sh.length) : hs L (setS L Sh k v x) k v = x := by
  unfold hs; rw [setS, ed_set hk, if_pos rfl]
  generalize ed L k = p
  by_cases e : p.1 = v
  · simp only [if_pos e]
  · simp only [if_neg e]
/-- k joins a and b. -/
def Jn (L : List (Int × Int)) (k : Nat) (a b : Int) : Prop := ed L k = (a, b) ∨ ed L k = (b, a)
theorem Jn.symm {L : List (Int × Int)} {k : Nat} {a b : Int} (h : Jn L k a b) : Jn L k b a := h.elim .inr .inl
theorem Jn.other {L : List (Int × Int)} {k : Nat} {a b : Int} (h : Jn L k a b) : (ed L k).1 + (ed L k).2 - a = b := by
  rcases h with h | h <;> rw [h] <;> dsimp only <;> omega
theorem hs_other {L Sh : List (Int × Int)} {k : Nat} {a b x : Int} (hk : k < Sh.length) (h : Jn L k a b) (hab : a ≠ b) : hs L (setS L Sh k a x) k b = hs L Sh k b := by
  unfold hs; rw [setS, ed_set hk, if_pos rfl]
  rcases h with h | h <;> rw [h] <;> dsimp only
  · simp [hab]
  · simp [hab.symm]
theorem sm_setS {L Sh : List (Int × Int)} {k : Nat} {a x : Int} (hk : k < Sh.length) : sm (setS L Sh k a x) k = sm Sh k + (x - hs L Sh k a) := by
  unfold sm hs; rw [setS, ed_set hk, if_pos rfl]
  by_cases e : (ed L k).1 = a
  · simp only [e, if_true]; omega
  · simp only [e, if_false]; omega
theorem ldE_setS {L Sh : List (Int × Int)} {k : Nat} {a x v : Int} (hk : k < L.length) (hl : Sh.length = L.length) (ha : (ed L k).1 = a ∨ (ed L k).2 = a) (hd : (ed L k).1 ≠ (ed L k).2) :
    ldE L (setS L Sh k a x) v = ldE L Sh v + if v = a then x - hs L Sh k a else 0 := by
  rw [setS, ldE_set hk hl]
  unfold hs cont
  generalize ed L k = e at *
  obtain ⟨p, q⟩ := e
  dsimp only at *
  by_cases c : p = a
  · subst c
    simp only [if_true]
    by_cases c2 : v = p
    · subst c2; simp only [if_true]; omega
    · simp only [if_neg c2, if_neg fun h : p = v => c2 h.symm]; omega
  · have hq : q = a := ha.elim (fun h => absurd h c) id
    subst hq
    simp only [if_neg c]
    by_cases c2 : v = q
    · subst c2; simp only [if_true]; omega
    · simp only [if_neg c2, if_neg fun h : q = v => c2 h.symm]; omega
/-- What is shared: no vertex has less than nothing; no edge is given more than wholly; a load is what a vertex has, and at most 'most'. -/
structure Shr (L Sh : List (Int × Int)) (Ld : List Int) (most whole : Int) : Prop where
  len : Sh.length = L.length
  ldlen : Ld.length = 16
  pos : ∀ k, k < L.length → 0 ≤ (ed Sh k).1 ∧ 0 ≤ (ed Sh k).2
  sum : ∀ k, k < L.length → sm Sh k ≤ whole
  load : ∀ v : Nat, v < 16 → Ld.getD v 0 = ldE L Sh v
  le : ∀ v : Nat, v < 16 → Ld.getD v 0 ≤ most
theorem sumTo_zero : ∀ {n : Nat}, sumTo (fun _ => 0) n = 0
  | 0 => rfl
  | n + 1 => by rw [sumTo, sumTo_zero]; rfl
theorem Shr.zero {L : List (Int × Int)} {most whole : Int} (hm : 0 ≤ most) (hw : 0 ≤ whole) : Shr L (List.replicate L.length (0, 0)) (List.replicate 16 0) most whole := by
  have he : ∀ k, ed (List.replicate L.length ((0 : Int), (0 : Int))) k = (0, 0) := fun k => by
    unfold ed; rw [List.getD_eq_getElem?_getD, List.getElem?_replicate]; split <;> rfl
  have hg : ∀ v, (List.replicate 16 (0 : Int)).getD v 0 = 0 := fun v => by rw [List.getD_eq_getElem?_getD, List.getElem?_replicate]; split <;> rfl
  refine ⟨by simp, by simp, fun k _ => by rw [he]; exact ⟨Int.le_refl _, Int.le_refl _⟩, fun k _ => by unfold sm; rw [he]; exact hw, fun v _ => ?_, fun v _ => by rw [hg]; exact hm⟩
  rw [hg]; unfold ldE
  have : (fun k => cont (ed L k) (ed (List.replicate L.length (0, 0)) k) v) = fun _ => 0 := by
    funext k; rw [he]; unfold cont; split <;> split <;> rfl
  rw [this, sumTo_zero]
theorem hs_nonneg {L Sh : List (Int × Int)} {k : Nat} {v : Int} (h : 0 ≤ (ed Sh k).1 ∧ 0 ≤ (ed Sh k).2) : 0 ≤ hs L Sh k v := by unfold hs; split <;> omega

theorem cont_nonneg {e s : Int × Int} {v : Int} (h : 0 ≤ s.1 ∧ 0 ≤ s.2) : 0 ≤ cont e s v := by unfold cont; split <;> split <;> omega
theorem ldE_nonneg {L Sh : List (Int × Int)} {v : Int} (h : ∀ k, k < L.length → 0 ≤ (ed Sh k).1 ∧ 0 ≤ (ed Sh k).2) : 0 ≤ ldE L Sh v := by
  have := sumTo_le (f := fun _ => 0) (g := fun k => cont (ed L k) (ed Sh k) v) (n := L.length) fun k hk => cont_nonneg (h k hk)
  rwa [sumTo_zero] at this
theorem hs_le_sm {L Sh : List (Int × Int)} {k : Nat} {v : Int} (h : 0 ≤ (ed Sh k).1 ∧ 0 ≤ (ed Sh k).2) : hs L Sh k v ≤ sm Sh k := by unfold hs sm; split <;> omega
/-- The map of the vertices that are known: by which edge each was found. -/
def viaF : List Int → List Nat → Int → Option Nat
  | q :: qs, e :: es, v => if v = q then some e else viaF qs es v
  | _, _, _ => none
theorem viaF_at : ∀ {Qs : List Int} {Es : List Nat} {j : Nat}, Qs.Nodup → Es.length = Qs.length → j < Qs.length → viaF Qs Es (Qs.getD j 0) = some (Es.getD j 0)
  | [], _, _, _, _, h => by simp at h
  | q :: qs, [], _, _, h, _ => by simp at h
  | q :: qs, e :: es, 0, _, _, _ => by simp [viaF]
  | q :: qs, e :: es, j + 1, hn, hl, hj => by
    have hn' := List.nodup_cons.1 hn
    have hj' : j < qs.length := by simpa using hj
    have h1 : qs.getD j 0 ∈ qs := by rw [List.getD_eq_getElem?_getD, List.getElem?_eq_getElem hj']; exact List.getElem_mem hj'
    simp only [viaF, List.getD_cons_succ]
    rw [if_neg fun c => hn'.1 (by rw [← c]; exact h1)]
    exact viaF_at hn'.2 (by simpa using hl) hj'
theorem viaF_none : ∀ {Qs : List Int} {Es : List Nat} {v : Int}, Es.length = Qs.length → (viaF Qs Es v = none ↔ v ∉ Qs)
  | [], _, _, _ => by simp [viaF]
  | q :: qs, [], _, h => by simp at h
  | q :: qs, e :: es, v, hl => by
    have := viaF_none (Qs := qs) (Es := es) (v := v) (by simpa using hl)
    simp only [viaF, List.mem_cons, not_or]
    by_cases c : v = q
    · simp [c]
    · simp [c, this]
theorem viaF_snoc : ∀ {Qs : List Int} {Es : List Nat} {u v : Int} {k : Nat}, Es.length = Qs.length → u ∉ Qs → viaF (Qs ++ [u]) (Es ++ [k]) v = if v = u then some k else viaF Qs Es v
  | [], [], _, _, _, _, _ => rfl
  | [], _ :: _, _, _, _, h, _ => by simp at h
  | q :: qs, [], _, _, _, h, _ => by simp at h
  | q :: qs, e :: es, u, v, k, hl, hu => by
    simp only [List.mem_cons, not_or] at hu
    have := viaF_snoc (Qs := qs) (Es := es) (u := u) (v := v) (k := k) (by simpa using hl) hu.2
    simp only [List.cons_append, viaF, this]
    by_cases c : v = q
    · have : v ≠ u := fun h => hu.1 (h ▸ c)
      have h2 : ¬ q = u := fun h => hu.1 h.symm
      simp [c, h2]
    · simp [c]
/-- The search's tree. -/
structure Tr (L Sh : List (Int × Int)) (e : Nat) (n : Int) (Qs : List Int) (Es : List Nat) (pr : Nat → Nat) : Prop where
  len : Es.length = Qs.length
  two : 2 ≤ Qs.length
  q0 : Qs.getD 0 0 = (ed L e).1
  q1 : Qs.getD 1 0 = (ed L e).2
  e01 : ∀ j, j < 2 → Es.getD j 0 = e
  nodup : Qs.Nodup
  rng : ∀ v, v ∈ Qs → 0 ≤ v ∧ v < n
  par : ∀ j, 2 ≤ j → j < Qs.length → Es.getD j 0 < L.length ∧ pr j < j ∧ Jn L (Es.getD j 0) (Qs.getD (pr j) 0) (Qs.getD j 0) ∧ 0 < hs L Sh (Es.getD j 0) (Qs.getD (pr j) 0)
theorem getD_memI {Qs : List Int} {j : Nat} (h : j < Qs.length) : Qs.getD j 0 ∈ Qs := by
  rw [List.getD_eq_getElem?_getD, List.getElem?_eq_getElem h]; exact List.getElem_mem h
theorem nodup_getD {Qs : List Int} (h : Qs.Nodup) {i j : Nat} (hi : i < Qs.length) (hj : j < Qs.length) (e : Qs.getD i 0 = Qs.getD j 0) : i = j := by
  rw [List.getD_eq_getElem?_getD, List.getD_eq_getElem?_getD, List.getElem?_eq_getElem hi, List.getElem?_eq_getElem hj] at e
  exact (List.getElem_inj h).1 e
section
variable {L Sh : List (Int × Int)} {e : Nat} {n : Int} {Qs : List Int} {Es : List Nat} {pr : Nat → Nat}
theorem Tr.ne_e (h : Tr L Sh e n Qs Es pr) {j : Nat} (h2 : 2 ≤ j) (hj : j < Qs.length) : Es.getD j 0 ≠ e := by
  intro he
  obtain ⟨_, hp, hJ, _⟩ := h.par j h2 hj
  rw [he] at hJ
  rcases hJ with hJ | hJ
  · have h1 := h.q1; rw [hJ] at h1
    have := nodup_getD h.nodup (by have := h.two; omega) hj h1; omega
  · have h1 := h.q0; rw [hJ] at h1
    have := nodup_getD h.nodup (by have := h.two; omega) hj h1; omega
/-- Different vertices were found by different edges. -/
theorem Tr.inj (h : Tr L Sh e n Qs Es pr) {i j : Nat} (h2 : 2 ≤ i) (hij : i < j) (hj : j < Qs.length) : Es.getD i 0 ≠ Es.getD j 0 := by
  intro he
  obtain ⟨_, hpi, hJi, _⟩ := h.par i h2 (by omega)
  obtain ⟨_, hpj, hJj, _⟩ := h.par j (by omega) hj
  rw [he] at hJi
  rcases hJi with hJi | hJi <;> rcases hJj with hJj | hJj <;> rw [hJi] at hJj <;> simp only [Prod.mk.injEq] at hJj
  · have := nodup_getD h.nodup (i := i) (j := j) (by omega) hj hJj.2; omega
  · have := nodup_getD h.nodup (i := pr i) (j := j) (by omega) hj hJj.1; omega
  · have := nodup_getD h.nodup (i := pr i) (j := j) (by omega) hj hJj.2; omega
  · have := nodup_getD h.nodup (i := i) (j := j) (by omega) hj hJj.1; omega
theorem Tr.jne (h : Tr L Sh e n Qs Es pr) {j : Nat} (h2 : 2 ≤ j) (hj : j < Qs.length) : Qs.getD j 0 ≠ Qs.getD (pr j) 0 := by
  obtain ⟨_, hp, _, _⟩ := h.par j h2 hj
  intro c
  have := nodup_getD h.nodup hj (by omega) c; omega
end
/-- A way down from j of which each edge can spare A. -/
inductive Way (L Sh : List (Int × Int)) (Qs : List Int) (Es : List Nat) (pr : Nat → Nat) (A : Int) : Nat → Prop
  | base {j : Nat} : j < 2 → Way L Sh Qs Es pr A j
  | step {j : Nat} : 2 ≤ j → A ≤ hs L Sh (Es.getD j 0) (Qs.getD (pr j) 0) → Way L Sh Qs Es pr A (pr j) → Way L Sh Qs Es pr A j
/-- What stands while A is moved down the way, at vertex j. -/
structure Mv (L Sh Sh' : List (Int × Int)) (Ld' : List Int) (e : Nat) (Qs : List Int) (Es : List Nat) (A : Int) (j : Nat) : Prop where
  len : Sh'.length = L.length
  pos : ∀ k, k < L.length → 0 ≤ (ed Sh' k).1 ∧ 0 ≤ (ed Sh' k).2
  same : ∀ i, i ≤ j → ed Sh' (Es.getD i 0) = ed Sh (Es.getD i 0)
  sum : ∀ k, k < L.length → sm Sh' k = sm Sh k
  load : ∀ v : Nat, v < 16 → Ld'.getD v 0 = ldE L Sh' v + if (v : Int) = Qs.getD j 0 then A else 0
section
variable {L Sh Sh' : List (Int × Int)} {Ld Ld' : List Int} {e : Nat} {n : Int} {Qs : List Int} {Es : List Nat} {pr : Nat → Nat} {A : Int} {j : Nat}
theorem Mv.start {most whole : Int} (h : Shr L Sh Ld most whole) (hl : ∀ v : Nat, v < 16 → Ld'.getD v 0 = Ld.getD v 0 + if (v : Int) = Qs.getD j 0 then A else 0) : Mv L Sh Sh Ld' e Qs Es A j :=
  ⟨h.len, h.pos, fun _ _ => rfl, fun _ _ => rfl, fun v hv => by rw [hl v hv, h.load v hv]⟩
/-- One step down. -/
theorem Mv.step (h : Mv L Sh Sh' Ld' e Qs Es A j) (hT : Tr L Sh e n Qs Es pr) (hd : ∀ k, k < L.length → (ed L k).1 ≠ (ed L k).2) (h2 : 2 ≤ j) (hj : j < Qs.length) (hA : 0 ≤ A) (hw : A ≤ hs L Sh (Es.getD j 0) (Qs.getD (pr j) 0)) :
    Mv L Sh (setS L (setS L Sh' (Es.getD j 0) (Qs.getD j 0) (hs L Sh' (Es.getD j 0) (Qs.getD j 0) + A)) (Es.getD j 0) (Qs.getD (pr j) 0) (hs L (setS L Sh' (Es.getD j 0) (Qs.getD j 0) (hs L Sh' (Es.getD j 0) (Qs.getD j 0) + A)) (Es.getD j 0) (Qs.getD (pr j) 0) - A)) Ld' e Qs Es A (pr j) := by
  obtain ⟨hk, hp, hJ, _⟩ := hT.par j h2 hj
  have hne := hT.jne h2 hj
  have hinj := fun i (hi : i ≤ pr j) => show Es.getD i 0 ≠ Es.getD j 0 from by
    by_cases c : 2 ≤ i
    · exact hT.inj c (by omega) hj
    · rw [hT.e01 i (by omega)]; exact (hT.ne_e h2 hj).symm
  have hsame := h.same j (Nat.le_refl _)
  generalize hkk : Es.getD j 0 = k at *
  generalize hvv : Qs.getD j 0 = v at *
  generalize huu : Qs.getD (pr j) 0 = u at *
  have hk' : k < Sh'.length := by rw [h.len]; exact hk
  obtain ⟨S1, hS1⟩ : ∃ S1, S1 = setS L Sh' k v (hs L Sh' k v + A) := ⟨_, rfl⟩
  have hS1l : S1.length = L.length := by rw [hS1, setS_length, h.len]
  have hk1 : k < S1.length := by rw [hS1l]; exact hk
  have hsu : hs L S1 k u = hs L Sh k u := by
    rw [hS1, hs_other hk' hJ.symm hne]; unfold hs; rw [hsame]
  rw [← hS1]
  obtain ⟨S2, hS2⟩ : ∃ S2, S2 = setS L S1 k u (hs L S1 k u - A) := ⟨_, rfl⟩
  rw [← hS2]
  have hS2l : S2.length = L.length := by rw [hS2, setS_length, hS1l]
  have hoth : ∀ i, i ≠ k → ed S2 i = ed Sh' i := fun i hi => by rw [hS2, setS_other hk1 hi, hS1, setS_other hk' hi]
  have hends : ∀ a, a = v ∨ a = u → (ed L k).1 = a ∨ (ed L k).2 = a := fun a ha => by
    rcases hJ with hJ | hJ <;> rw [hJ] <;> dsimp only <;> rcases ha with rfl | rfl <;> simp
  have hsm : sm S2 k = sm Sh' k := by
    rw [hS2, sm_setS hk1, hS1, sm_setS hk']; omega
  refine ⟨hS2l, fun i hi => ?_, fun i hi => ?_, fun i hi => ?_, fun x hx => ?_⟩
  · by_cases c : i = k
    · subst c
      have hv0 := hs_nonneg (L := L) (v := v) (h.pos i hk)
      have hvv : hs L S2 i v = hs L Sh' i v + A := by rw [hS2, hs_other hk1 hJ (Ne.symm hne), hS1, hs_setS hk']
      have huu : hs L S2 i u = hs L Sh i u - A := by rw [hS2, hs_setS hk1, hsu]
      rcases hJ with hJ | hJ <;> unfold hs at hvv huu <;> rw [hJ] at hvv huu <;> dsimp only at hvv huu
      · simp only [if_true, if_neg (Ne.symm hne)] at hvv huu
        have h1 : hs L Sh i u = (ed Sh i).1 := by unfold hs; rw [hJ]; simp
        have h2 : hs L Sh' i v = (ed Sh' i).2 := by unfold hs; rw [hJ]; simp [Ne.symm hne]
        omega
      · simp only [if_true, if_neg hne] at hvv huu
        have h1 : hs L Sh i u = (ed Sh i).2 := by unfold hs; rw [hJ]; simp [hne]
        have h2 : hs L Sh' i v = (ed Sh' i).1 := by unfold hs; rw [hJ]; simp
        omega
    · rw [hoth i c]; exact h.pos i hi
  · rw [hoth _ (hinj i hi)]; exact h.same i (by omega)
  · by_cases c : i = k
    · subst c; rw [hsm]; exact h.sum i hi
    · unfold sm; rw [hoth i c]; exact h.sum i hi
  · rw [h.load x hx, hS2, ldE_setS hk hS1l (hends u (.inr rfl)) (hd k hk), hS1, ldE_setS hk h.len (hends v (.inl rfl)) (hd k hk)]
    by_cases c1 : (x : Int) = v
    · have c2 : (x : Int) ≠ u := fun c => hne (c1.symm.trans c)
      simp only [c1, hne, if_true, if_false]; omega
    · by_cases c2 : (x : Int) = u
      · simp only [if_neg c1, if_pos c2]; omega
      · simp only [if_neg c1, if_neg c2]; omega
/-- The last step. -/
theorem Mv.last {most whole : Int} (h : Mv L Sh Sh' Ld' e Qs Es A j) (hS : Shr L Sh Ld most whole) (hT : Tr L Sh e n Qs Es pr) (hd : ∀ k, k < L.length → (ed L k).1 ≠ (ed L k).2) (he : e < L.length) (h2 : j < 2) (hA : 0 ≤ A) (hleft : sm Sh e + A ≤ whole)
    (hlen : Ld'.length = 16) (hle : ∀ v : Nat, v < 16 → Ld'.getD v 0 ≤ most) :
    Shr L (setS L Sh' e (Qs.getD j 0) (hs L Sh' e (Qs.getD j 0) + A)) Ld' most whole ∧ sm (setS L Sh' e (Qs.getD j 0) (hs L Sh' e (Qs.getD j 0) + A)) e = sm Sh e + A ∧
      ∀ k, k < L.length → k ≠ e → sm (setS L Sh' e (Qs.getD j 0) (hs L Sh' e (Qs.getD j 0) + A)) k = sm Sh k := by
  have he' : e < Sh'.length := by rw [h.len]; exact he
  have hend : (ed L e).1 = Qs.getD j 0 ∨ (ed L e).2 = Qs.getD j 0 := by
    have : j = 0 ∨ j = 1 := by omega
    rcases this with rfl | rfl
    · exact .inl hT.q0.symm
    · exact .inr hT.q1.symm
  have h0 := h.load
  generalize Qs.getD j 0 = v at *
  have hoth : ∀ i, i ≠ e → ed (setS L Sh' e v (hs L Sh' e v + A)) i = ed Sh' i := fun i hi => setS_other he' hi
  have hse : sm (setS L Sh' e v (hs L Sh' e v + A)) e = sm Sh e + A := by rw [sm_setS he', h.sum e he]; omega
  have hsk : ∀ k, k < L.length → k ≠ e → sm (setS L Sh' e v (hs L Sh' e v + A)) k = sm Sh k := fun k hk hke => by
    unfold sm; rw [hoth k hke]; exact h.sum k hk
  refine ⟨⟨by rw [setS_length, h.len], hlen, fun k hk => ?_, fun k hk => ?_, fun x hx => ?_, hle⟩, hse, hsk⟩
  · by_cases c : k = e
    · subst c
      have hp := h.pos k hk
      have hv0 := hs_nonneg (L := L) (v := v) hp
      rw [setS, ed_set he', if_pos rfl]
      split <;> dsimp only <;> omega
    · rw [hoth k c]; exact h.pos k hk
  · by_cases c : k = e
    · subst c; rw [hse]; exact hleft
    · rw [hsk k hk c]; exact hS.sum k hk
  · rw [h0 x hx, ldE_setS he h.len hend (hd e he)]
    by_cases c : (x : Int) = v
    · simp only [if_pos c]; omega
    · simp only [if_neg c]
end
end Go.Proofs.Ytibegggcinonkaa

/- Plain law: what a share proves about the density of sets. -/
import Derived.Test.YtibegggcinonkaaPG
namespace Go.Proofs.Ytibegggcinonkaa
abbrev bothIn (L : List (Int × Int)) (S : List Int) (k : Nat) : Prop := (ed L k).1 ∈ S ∧ (ed L k).2 ∈ S
/-- The number of edges inside a set. -/
def insM (L : List (Int × Int)) (S : List Int) : Int := sumTo (fun k => if bothIn L S k then 1 else 0) L.length
def cS (L Sh : List (Int × Int)) (S : List Int) (k : Nat) : Int := (if (ed L k).1 ∈ S then (ed Sh k).1 else 0) + (if (ed L k).2 ∈ S then (ed Sh k).2 else 0)
def sumL (f : Int → Int) : List Int → Int
  | [] => 0
  | v :: r => f v + sumL f r
theorem sumTo_add {f g : Nat → Int} : ∀ {n : Nat}, sumTo (fun k => f k + g k) n = sumTo f n + sumTo g n
  | 0 => rfl
  | n + 1 => by rw [sumTo, sumTo, sumTo, sumTo_add (n := n)]; omega
theorem sumTo_mul {f : Nat → Int} {c : Int} : ∀ {n : Nat}, sumTo (fun k => c * f k) n = c * sumTo f n
  | 0 => by simp [sumTo]
  | n + 1 => by rw [sumTo, sumTo, sumTo_mul (n := n), Int.mul_add]
theorem sumTo_eq {f g : Nat → Int} : ∀ {n : Nat}, (∀ k, k < n → f k ≤ g k) → sumTo f n = sumTo g n → ∀ k, k < n → f k = g k
  | 0, _, _, k, hk => by omega
  | n + 1, h, e, k, hk => by
    have h1 := sumTo_le (f := f) (g := g) (n := n) fun k hk => h k (by omega)
    have h2 := h n (by omega)
    rw [sumTo, sumTo] at e
    by_cases c : k = n
    · subst c
      have : sumTo f k ≤ sumTo g k := h1
      omega
    · exact sumTo_eq (n := n) (fun k hk => h k (by omega)) (by omega) k (by omega)
theorem sumTo_lt {f g : Nat → Int} {n e : Nat} (h : ∀ k, k < n → f k ≤ g k) (he : e < n) (hlt : f e < g e) : sumTo f n < sumTo g n := by
  have h1 := sumTo_le h
  have : sumTo f n ≠ sumTo g n := fun c => by have := sumTo_eq h c e he; omega
  omega
theorem sumL_le {f : Int → Int} {c : Int} : ∀ {S : List Int}, (∀ v, v ∈ S → f v ≤ c) → sumL f S ≤ c * S.length
  | [], _ => by simp [sumL]
  | v :: r, h => by
    have := sumL_le (S := r) fun v hv => h v (by simp [hv])
    have := h v (by simp)
    rw [sumL, List.length_cons, Int.natCast_add, Int.mul_add]; omega
theorem sumL_eq {f : Int → Int} {c : Int} : ∀ {S : List Int}, (∀ v, v ∈ S → f v ≤ c) → sumL f S = c * S.length → ∀ v, v ∈ S → f v = c
  | [], _, _, v, hv => by simp at hv
  | u :: r, h, e, v, hv => by
    have h1 := sumL_le (S := r) fun v hv => h v (by simp [hv])
    have h2 := h u (by simp)
    rw [sumL, List.length_cons, Int.natCast_add, Int.mul_add] at e
    rcases List.mem_cons.1 hv with rfl | hv
    · omega
    · exact sumL_eq (fun v hv => h v (by simp [hv])) (by omega) v hv
theorem sumL_const {f : Int → Int} {c : Int} : ∀ {S : List Int}, (∀ v, v ∈ S → f v = c) → sumL f S = c * S.length
  | [], _ => by simp [sumL]
  | v :: r, h => by
    have := sumL_const (S := r) fun v hv => h v (by simp [hv])
    have := h v (by simp)
    rw [sumL, List.length_cons, Int.natCast_add, Int.mul_add]; omega
/-- The loads of a set, added up edge by edge. -/
theorem load_sum {L Sh : List (Int × Int)} : ∀ {S : List Int}, S.Nodup → sumL (ldE L Sh) S = sumTo (cS L Sh S) L.length
  | [], _ => by
    have : cS L Sh [] = fun _ => 0 := by funext k; simp [cS]
    rw [this, sumTo_zero]; rfl
  | v :: r, h => by
    have hn := List.nodup_cons.1 h
    rw [sumL, load_sum hn.2, ldE, ← sumTo_add]
    refine sumTo_congr fun k _ => ?_
    have key : ∀ (a x : Int), (if a ∈ v :: r then x else 0) = (if a = v then x else 0) + if a ∈ r then x else 0 := fun a x => by
      by_cases c : a = v
      · subst c; simp [hn.1]
      · simp [c]
    unfold cont cS
    rw [key, key]; omega
/-- A set of which all have as much as they can, and all that they have is of edges inside. -/
structure Clo (L Sh : List (Int × Int)) (Ld : List Int) (most n : Int) (S : List Int) : Prop where
  rng : ∀ v, v ∈ S → 0 ≤ v ∧ v < n
  full : ∀ v, v ∈ S → Ld.getD v.toNat 0 = most
  one : ∀ k, k < L.length → (ed L k).1 ∈ S → 0 < (ed Sh k).1 → (ed L k).2 ∈ S
  two : ∀ k, k < L.length → (ed L k).2 ∈ S → 0 < (ed Sh k).2 → (ed L k).1 ∈ S
section
variable {L Sh : List (Int × Int)} {Ld : List Int} {most whole n : Int} {S T : List Int}
theorem Shr.loadI (h : Shr L Sh Ld most whole) {v : Int} (h0 : 0 ≤ v ∧ v < 16) : Ld.getD v.toNat 0 = ldE L Sh v ∧ Ld.getD v.toNat 0 ≤ most := by
  have h1 := h.load v.toNat (by omega)
  have h2 := h.le v.toNat (by omega)
  rw [Int.toNat_of_nonneg h0.1] at h1
  exact ⟨h1, h2⟩
theorem Clo.cs (h : Shr L Sh Ld most whole) (hc : Clo L Sh Ld most n S) {k : Nat} (hk : k < L.length) : cS L Sh S k = if bothIn L S k then sm Sh k else 0 := by
  have hp := h.pos k hk
  have h1 := hc.one k hk
  have h2 := hc.two k hk
  unfold cS bothIn sm
  generalize ed L k = e at *
  generalize ed Sh k = s at *
  by_cases c1 : e.1 ∈ S
  · by_cases c2 : e.2 ∈ S
    · simp [c1, c2]
    · have : ¬ 0 < s.1 := fun c => c2 (h1 c1 c)
      simp [c1, c2]; omega
  · by_cases c2 : e.2 ∈ S
    · have : ¬ 0 < s.2 := fun c => c1 (h2 c2 c)
      simp [c1, c2]; omega
    · simp [c1, c2]
theorem Clo.sum (h : Shr L Sh Ld most whole) (hc : Clo L Sh Ld most n S) (hn : n ≤ 16) (hS : S.Nodup) : most * S.length = sumTo (fun k => if bothIn L S k then sm Sh k else 0) L.length := by
  rw [← sumL_const (f := ldE L Sh) fun v hv => ?_, load_sum hS]
  · exact sumTo_congr fun k hk => hc.cs h hk
  · have := hc.rng v hv
    rw [← (h.loadI (v := v) ⟨this.1, by omega⟩).1]; exact hc.full v hv
theorem insM_mul {c : Int} : c * insM L S = sumTo (fun k => if bothIn L S k then c else 0) L.length := by
  unfold insM
  rw [← sumTo_mul]
  refine sumTo_congr fun k _ => ?_
  split <;> simp
theorem insM_nonneg : 0 ≤ insM L S := by
  unfold insM
  have := sumTo_le (f := fun _ => 0) (g := fun k => if bothIn L S k then 1 else 0) (n := L.length) fun k _ => by split <;> decide
  rwa [sumTo_zero] at this
theorem insM_le : insM L S ≤ L.length := by
  have h := sumTo_le (f := fun k => if bothIn L S k then 1 else 0) (g := fun _ => 1) (n := L.length) fun k _ => by split <;> decide
  have h2 : ∀ n : Nat, sumTo (fun _ => 1) n = n := by
    intro n
    induction n with
    | zero => rfl
    | succ n ih => rw [sumTo, ih]; omega
  rw [h2] at h
  exact h
/-- Where not all could be given: the set is denser. -/
theorem Clo.denser (h : Shr L Sh Ld most whole) (hc : Clo L Sh Ld most n S) (hn : n ≤ 16) (hS : S.Nodup) {e : Nat} (he : e < L.length) (hb : bothIn L S e) (hlt : sm Sh e < whole) : most * S.length < whole * insM L S := by
  rw [hc.sum h hn hS, insM_mul]
  refine sumTo_lt (fun k hk => ?_) he ?_
  · have := h.sum k hk
    split <;> omega
  · simp only [if_pos hb]; exact hlt
/-- Where all is given: no set is denser. -/
theorem Shr.bound (h : Shr L Sh Ld most whole) (ha : ∀ k, k < L.length → sm Sh k = whole) (hT : T.Nodup) (hr : ∀ v, v ∈ T → 0 ≤ v ∧ v < 16) : whole * insM L T ≤ most * T.length := by
  have h1 := sumL_le (f := ldE L Sh) (c := most) (S := T) fun v hv => by
    have := h.loadI (hr v hv); omega
  rw [load_sum hT] at h1
  refine Int.le_trans ?_ h1
  rw [insM_mul]
  refine sumTo_le fun k hk => ?_
  have := ha k hk
  have hp := h.pos k hk
  unfold cS bothIn
  unfold sm at this
  split
  · rename_i c; rw [if_pos c.1, if_pos c.2]; omega
  · split <;> split <;> omega
theorem Shr.clo (h : Shr L Sh Ld most whole) (ha : ∀ k, k < L.length → sm Sh k = whole) (hT : T.Nodup) (hr : ∀ v, v ∈ T → 0 ≤ v ∧ v < n) (hn : n ≤ 16) (heq : whole * insM L T = most * T.length) : Clo L Sh Ld most n T := by
  have hle : ∀ v, v ∈ T → ldE L Sh v ≤ most := fun v hv => by
    have := hr v hv
    have := h.loadI (v := v) ⟨this.1, by omega⟩; omega
  have h1 := sumL_le (f := ldE L Sh) (c := most) (S := T) hle
  have hk : ∀ k, k < L.length → (if bothIn L T k then whole else 0) ≤ cS L Sh T k := fun k hk => by
    have := ha k hk
    have hp := h.pos k hk
    unfold cS bothIn
    unfold sm at this
    split
    · rename_i c; rw [if_pos c.1, if_pos c.2]; omega
    · split <;> split <;> omega
  have h2 := sumTo_le hk
  rw [← load_sum hT, ← insM_mul] at h2
  have e1 : sumL (ldE L Sh) T = most * T.length := by omega
  have e2 := sumTo_eq hk (by rw [← load_sum hT, ← insM_mul]; omega)
  have hz : ∀ k, k < L.length → ¬ bothIn L T k → cS L Sh T k = 0 := fun k hk c => by
    have := e2 k hk; rw [if_neg c] at this; exact this.symm
  refine ⟨hr, fun v hv => ?_, fun k hk c1 c2 => ?_, fun k hk c1 c2 => ?_⟩
  · have h3 := hr v hv
    rw [(h.loadI (v := v) ⟨h3.1, by omega⟩).1]
    exact sumL_eq hle e1 v hv
  · by_cases c : (ed L k).2 ∈ T
    · exact c
    · have := hz k hk fun hh => c hh.2
      unfold cS at this; rw [if_pos c1, if_neg c] at this; omega
  · by_cases c : (ed L k).1 ∈ T
    · exact c
    · have := hz k hk fun hh => c hh.1
      unfold cS at this; rw [if_neg c, if_pos c1] at this; omega
theorem Clo.exact (h : Shr L Sh Ld most whole) (ha : ∀ k, k < L.length → sm Sh k = whole) (hc : Clo L Sh Ld most n S) (hn : n ≤ 16) (hS : S.Nodup) : whole * insM L S = most * S.length := by
  rw [hc.sum h hn hS, insM_mul]
  refine sumTo_congr fun k hk => ?_
  rw [ha k hk]
end
end Go.Proofs.Ytibegggcinonkaa

/- Plain law: the permanent of a level table is at least n! (k/n)^n (van der Waerden's inequality): Alexandrov's inequality for permanents by weights and a Laplacian, then Gurvits' descent. No program in sight. -/
import Derived.Test.YtdpckinhoooigaaPMath2
namespace Go.Proofs.Ytdpckinhoooigaa
namespace VW
theorem sqn (a : Rat) : 0 ≤ a * a := by
  rcases Rat.le_total (a := 0) (b := a) with h | h
  · exact Rat.mul_nonneg h h
  · have := Rat.mul_nonneg (a := -a) (b := -a) (by grind) (by grind); grind
def sm (C : List Nat) (f : Nat → Rat) : Rat := match C with
  | [] => 0
  | c :: C => f c + sm C f
theorem sm_cons (c : Nat) (C : List Nat) (f : Nat → Rat) : sm (c :: C) f = f c + sm C f := rfl
theorem sm_nil (f : Nat → Rat) : sm [] f = 0 := rfl
theorem sm_congr {f g : Nat → Rat} : ∀ {C : List Nat}, (∀ c, c ∈ C → f c = g c) → sm C f = sm C g
  | [], _ => rfl
  | c :: C, h => by rw [sm_cons, sm_cons, h c (by simp), sm_congr fun d hd => h d (by simp [hd])]
theorem sm_add (f g : Nat → Rat) : ∀ C : List Nat, sm C (fun c => f c + g c) = sm C f + sm C g
  | [] => by rw [sm_nil, sm_nil, sm_nil]; grind
  | c :: C => by rw [sm_cons, sm_cons, sm_cons, sm_add f g C]; grind
theorem sm_sub (f g : Nat → Rat) : ∀ C : List Nat, sm C (fun c => f c - g c) = sm C f - sm C g
  | [] => by rw [sm_nil, sm_nil, sm_nil]; grind
  | c :: C => by rw [sm_cons, sm_cons, sm_cons, sm_sub f g C]; grind
theorem sm_mul (a : Rat) (f : Nat → Rat) : ∀ C : List Nat, sm C (fun c => a * f c) = a * sm C f
  | [] => by simp [sm_nil]
  | c :: C => by rw [sm_cons, sm_cons, sm_mul a f C]; grind
theorem sm_zero : ∀ C : List Nat, sm C (fun _ => 0) = 0
  | [] => rfl
  | c :: C => by rw [sm_cons, sm_zero C]; grind
theorem sm_le {f g : Nat → Rat} : ∀ {C : List Nat}, (∀ c, c ∈ C → f c ≤ g c) → sm C f ≤ sm C g
  | [], _ => Rat.le_refl
  | c :: C, h => by
    have h1 := h c (by simp)
    have h2 := sm_le (C := C) fun d hd => h d (by simp [hd])
    rw [sm_cons, sm_cons]; grind
theorem sm_nonneg {f : Nat → Rat} {C : List Nat} (h : ∀ c, c ∈ C → 0 ≤ f c) : 0 ≤ sm C f := by
  have := sm_le h
  rwa [sm_zero] at this
theorem sm_pos {f : Nat → Rat} {c : Nat} {C : List Nat} (h : ∀ d, d ∈ c :: C → 0 < f d) : 0 < sm (c :: C) f := by
  have h1 := h c (by simp)
  have h2 := sm_nonneg (f := f) (C := C) fun d hd => Rat.le_of_lt (h d (by simp [hd]))
  rw [sm_cons]; grind
theorem sm_pos' {f : Nat → Rat} {C : List Nat} (hC : C ≠ []) (h : ∀ d, d ∈ C → 0 < f d) : 0 < sm C f := by
  cases C with
  | nil => exact absurd rfl hC
  | cons c C => exact sm_pos h
theorem sm_erase {c : Nat} {f : Nat → Rat} : ∀ {C : List Nat}, c ∈ C → sm (C.erase c) f = sm C f - f c
  | [], h => by cases h
  | a :: C, h => by
    by_cases e : a = c
    · subst e; rw [List.erase_cons_head, sm_cons]; grind
    · rw [List.erase_cons_tail (by simpa using e), sm_cons, sm_cons, sm_erase ((List.mem_cons.1 h).resolve_left (Ne.symm e))]; grind
theorem sm_swap (g : Nat → Nat → Rat) (D : List Nat) : ∀ C : List Nat, sm C (fun c => sm D (fun d => g c d)) = sm D (fun d => sm C (fun c => g c d))
  | [] => by simp only [sm_nil]; rw [sm_zero]
  | c :: C => by simp only [sm_cons]; rw [sm_swap g D C, ← sm_add]
/-- With one place left out. -/
theorem sm_skip {j : Nat} {f : Nat → Rat} : ∀ {C : List Nat}, C.Nodup → sm C (fun i => if i = j then 0 else f i) = sm (C.erase j) f
  | [], _ => rfl
  | a :: C, h => by
    have hn := List.nodup_cons.1 h
    by_cases e : a = j
    · subst e
      rw [List.erase_cons_head, sm_cons, if_pos rfl]
      rw [sm_congr (g := f) fun c hc => if_neg (by rintro rfl; exact hn.1 hc)]; grind
    · rw [List.erase_cons_tail (by simpa using e), sm_cons, sm_cons, if_neg e, sm_skip hn.2]
theorem sm_zero_of {f : Nat → Rat} : ∀ {C : List Nat}, (∀ c, c ∈ C → 0 ≤ f c) → sm C f = 0 → ∀ c, c ∈ C → f c = 0
  | [], _, _, c, hc => by cases hc
  | a :: C, h, e, c, hc => by
    have h1 := h a (by simp)
    have h2 := sm_nonneg (f := f) (C := C) fun d hd => h d (by simp [hd])
    rw [sm_cons] at e
    rcases List.mem_cons.1 hc with rfl | hc
    · grind
    · exact sm_zero_of (fun d hd => h d (by simp [hd])) (by grind) c hc
/-- Either the columns give b, or something sees b and none of them. -/
theorem alt (C : List Nat) (M : Nat → Nat → Rat) : ∀ D : List Nat, D.Nodup → ∀ b : Nat → Rat,
    (∃ y : Nat → Rat, ∀ i, i ∈ C → b i = sm D (fun j => y j * M i j)) ∨ (∃ z : Nat → Rat, (∀ j, j ∈ D → sm C (fun i => z i * M i j) = 0) ∧ sm C (fun i => z i * b i) ≠ 0)
  | [], _, b => by
    by_cases h : ∀ i, i ∈ C → b i = 0
    · exact .inl ⟨fun _ => 0, fun i hi => by rw [h i hi]; rfl⟩
    · refine .inr ⟨b, (fun j hj => by cases hj), fun e => h ?_⟩
      have := sm_zero_of (fun c _ => sqn (b c)) e
      intro i hi
      have := this i hi
      grind
  | j :: D, hD, b => by
    have hn := List.nodup_cons.1 hD
    rcases alt C M D hn.2 (fun i => M i j) with ⟨y0, h0⟩ | ⟨z0, h0, h1⟩
    · rcases alt C M D hn.2 b with ⟨y, hy⟩ | ⟨z, hz, hb⟩
      · refine .inl ⟨fun k => if k = j then 0 else y k, fun i hi => ?_⟩
        show b i = (if j = j then 0 else y j) * M i j + sm D (fun k => (if k = j then 0 else y k) * M i k)
        have e : sm D (fun k => (if k = j then 0 else y k) * M i k) = sm D (fun k => y k * M i k) := sm_congr fun k hk => by rw [if_neg (by rintro rfl; exact hn.1 hk)]
        rw [e, if_pos rfl, hy i hi]; grind
      · refine .inr ⟨z, fun k hk => ?_, hb⟩
        rcases List.mem_cons.1 hk with rfl | hk
        · rw [sm_congr (g := fun i => sm D (fun j => y0 j * (z i * M i j))) (fun i hi => by
            rw [h0 i hi, ← sm_mul]; exact sm_congr fun j _ => by grind), sm_swap]
          rw [sm_congr (g := fun _ => 0) (fun j hj => by rw [sm_mul, hz j hj]; grind), sm_zero]
        · exact hz k hk
    · obtain ⟨v, hv⟩ : ∃ v, v = sm C (fun i => z0 i * M i j) := ⟨_, rfl⟩
      obtain ⟨s, hs⟩ : ∃ s, s = sm C (fun i => z0 i * b i) := ⟨_, rfl⟩
      rw [← hv] at h1
      rcases alt C M D hn.2 (fun i => b i - s / v * M i j) with ⟨y, hy⟩ | ⟨z, hz, hb⟩
      · refine .inl ⟨fun k => if k = j then s / v else y k, fun i hi => ?_⟩
        show b i = (if j = j then s / v else y j) * M i j + sm D (fun k => (if k = j then s / v else y k) * M i k)
        have e : sm D (fun k => (if k = j then s / v else y k) * M i k) = sm D (fun k => y k * M i k) := sm_congr fun k hk => by rw [if_neg (by rintro rfl; exact hn.1 hk)]
        rw [e, if_pos rfl, ← hy i hi]; grind
      · obtain ⟨u, hu⟩ : ∃ u, u = sm C (fun i => z i * M i j) := ⟨_, rfl⟩
        have hlin : ∀ f : Nat → Rat, sm C (fun i => (z i - u / v * z0 i) * f i) = sm C (fun i => z i * f i) - u / v * sm C (fun i => z0 i * f i) := fun f => by
          rw [← sm_mul, ← sm_sub]; exact sm_congr fun i _ => by grind
        refine .inr ⟨fun i => z i - u / v * z0 i, fun k hk => ?_, ?_⟩
        · rw [hlin]
          rcases List.mem_cons.1 hk with rfl | hk
          · rw [← hu, ← hv]; grind
          · rw [hz k hk, h0 k hk]; grind
        · rw [hlin, ← hs]
          have e : sm C (fun i => z i * (b i - s / v * M i j)) = sm C (fun i => z i * b i) - s / v * u := by
            rw [hu, ← sm_mul, ← sm_sub]; exact sm_congr fun i _ => by grind
          rw [e] at hb
          intro e2; apply hb; grind
section
variable {C : List Nat} {S : Nat → Nat → Rat} {d : Nat → Rat}
theorem lap (hS : ∀ i j, S i j = S j i) (hd : ∀ j, j ∈ C → d j = sm C (fun i => S i j)) (u : Nat → Rat) :
    sm C (fun j => sm C (fun i => S i j * ((u i - u j) * (u i - u j)))) = 2 * (sm C (fun j => d j * (u j * u j)) - sm C (fun j => u j * sm C (fun i => S i j * u i))) := by
  have e1 : sm C (fun j => sm C (fun i => S i j * (u i * u i))) = sm C (fun j => d j * (u j * u j)) := by
    rw [sm_swap]
    refine sm_congr fun i hi => ?_
    rw [hd i hi, sm_congr (g := fun j => u i * u i * S j i) fun j _ => by rw [hS i j]; grind, sm_mul]; grind
  have e2 : sm C (fun j => sm C (fun i => S i j * (u j * u j))) = sm C (fun j => d j * (u j * u j)) :=
    sm_congr fun j hj => by rw [hd j hj, sm_congr (g := fun i => u j * u j * S i j) fun i _ => by grind, sm_mul]; grind
  have e3 : sm C (fun j => sm C (fun i => S i j * ((u i - u j) * (u i - u j)))) = sm C (fun j => (sm C (fun i => S i j * (u i * u i)) - 2 * (u j * sm C (fun i => S i j * u i))) + sm C (fun i => S i j * (u j * u j))) := by
    refine sm_congr fun j _ => ?_
    rw [← sm_mul, ← sm_mul, ← sm_sub, ← sm_add]
    exact sm_congr fun i _ => by grind
  rw [e3, sm_add, sm_sub, sm_mul, e1, e2]; grind
theorem hyp (hC : C.Nodup) (hS : ∀ i j, S i j = S j i) (hpos : ∀ i, i ∈ C → ∀ j, j ∈ C → i ≠ j → 0 < S i j) (hdg : ∀ i, S i i = 0) (hd : ∀ j, j ∈ C → d j = sm C (fun i => S i j))
    (H : ∀ y t : Nat → Rat, (∀ j, j ∈ C → d j * t j = sm C (fun i => S i j * y i)) → sm C (fun j => y j * sm C (fun i => S i j * y i)) ≤ sm C (fun j => d j * (t j * t j)))
    (x : Nat → Rat) (hx : sm C (fun j => d j * x j) = 0) : sm C (fun j => x j * sm C (fun i => S i j * x i)) ≤ 0 := by
  have hnn : ∀ i, i ∈ C → ∀ j, j ∈ C → 0 ≤ S i j := fun i hi j hj => by
    by_cases e : i = j
    · subst e; rw [hdg]; exact Rat.le_refl
    · exact Rat.le_of_lt (hpos i hi j hj e)
  have hE : ∀ u : Nat → Rat, sm C (fun j => u j * sm C (fun i => S i j * u i)) ≤ sm C (fun j => d j * (u j * u j)) := fun u => by
    have h1 := lap hS hd u
    have h2 : 0 ≤ sm C (fun j => sm C (fun i => S i j * ((u i - u j) * (u i - u j)))) := sm_nonneg fun j hj => sm_nonneg fun i hi => Rat.mul_nonneg (hnn i hi j hj) (sqn _)
    grind
  rcases alt C (fun i j => (if i = j then d i else 0) - S i j) C hC (fun i => d i * x i) with ⟨y, hy⟩ | ⟨z, hz, hb⟩
  · -- d y - S y = d x
    have hy' : ∀ j, j ∈ C → d j * (y j - x j) = sm C (fun i => S i j * y i) := fun j hj => by
      have h1 := hy j hj
      rw [sm_congr (g := fun k => (if k = j then d j * y j else 0) - S k j * y k) fun k _ => by
        rw [hS j k]; by_cases e : j = k
        · subst e; rw [if_pos rfl, if_pos rfl]; grind
        · rw [if_neg e, if_neg (Ne.symm e)]; grind, sm_sub] at h1
      have h2 : sm C (fun k => if k = j then d j * y j else 0) = d j * y j := by
        have h3 := sm_erase hj (f := fun k => if k = j then d j * y j else 0)
        rw [sm_congr (g := fun _ => 0) fun k hk => if_neg (by rintro rfl; exact hC.not_mem_erase hk), sm_zero, if_pos rfl] at h3
        grind
      rw [h2] at h1; grind
    have h1 := H y (fun j => y j - x j) hy'
    have e1 : sm C (fun j => y j * sm C (fun i => S i j * y i)) = sm C (fun j => d j * (y j * y j)) - sm C (fun j => d j * (x j * y j)) := by
      rw [← sm_sub]; exact sm_congr fun j hj => by rw [← hy' j hj]; grind
    have e2 : sm C (fun j => d j * ((y j - x j) * (y j - x j))) = sm C (fun j => d j * (y j * y j)) - 2 * sm C (fun j => d j * (x j * y j)) + sm C (fun j => d j * (x j * x j)) := by
      rw [← sm_mul, ← sm_sub, ← sm_add]; exact sm_congr fun j hj => by grind
    rw [e1, e2] at h1
    have h2 := hE (fun j => x j - y j)
    have e3 : sm C (fun j => (x j - y j) * sm C (fun i => S i j * (x i - y i))) = sm C (fun j => x j * sm C (fun i => S i j * x i)) - 2 * sm C (fun j => x j * sm C (fun i => S i j * y i)) + sm C (fun j => y j * sm C (fun i => S i j * y i)) := by
      have e4 : sm C (fun j => y j * sm C (fun i => S i j * x i)) = sm C (fun j => x j * sm C (fun i => S i j * y i)) := by
        rw [sm_congr (g := fun j => sm C (fun i => y j * (S i j * x i))) fun j _ => by rw [sm_mul], sm_swap]
        exact sm_congr fun i _ => by rw [← sm_mul]; exact sm_congr fun j _ => by rw [hS]; grind
      have e5 : ∀ j, sm C (fun i => S i j * (x i - y i)) = sm C (fun i => S i j * x i) - sm C (fun i => S i j * y i) := fun j => by
        rw [← sm_sub]; exact sm_congr fun i _ => by grind
      rw [sm_congr (g := fun j => ((x j * sm C (fun i => S i j * x i) - x j * sm C (fun i => S i j * y i)) - y j * sm C (fun i => S i j * x i)) + y j * sm C (fun i => S i j * y i)) fun j _ => by rw [e5]; grind, sm_add, sm_sub, sm_sub, e4]; grind
    have e6 : sm C (fun j => d j * ((x j - y j) * (x j - y j))) = sm C (fun j => d j * (y j * y j)) - 2 * sm C (fun j => d j * (x j * y j)) + sm C (fun j => d j * (x j * x j)) := by
      rw [← sm_mul, ← sm_sub, ← sm_add]; exact sm_congr fun j hj => by grind
    have e7 : sm C (fun j => x j * sm C (fun i => S i j * y i)) = sm C (fun j => d j * (x j * y j)) - sm C (fun j => d j * (x j * x j)) := by
      rw [← sm_sub]; exact sm_congr fun j hj => by rw [← hy' j hj]; grind
    rw [e3, e6, e1, e7] at h2
    grind
  · exfalso
    apply hb
    have hz' : ∀ j, j ∈ C → d j * z j = sm C (fun i => S i j * z i) := fun j hj => by
      have h1 := hz j hj
      rw [sm_congr (g := fun k => (if k = j then d j * z j else 0) - S k j * z k) fun k _ => by
        by_cases e : k = j
        · subst e; rw [if_pos rfl, if_pos rfl]; grind
        · rw [if_neg e, if_neg e]; grind, sm_sub] at h1
      have h2 : sm C (fun k => if k = j then d j * z j else 0) = d j * z j := by
        have h3 := sm_erase hj (f := fun k => if k = j then d j * z j else 0)
        rw [sm_congr (g := fun _ => 0) fun k hk => if_neg (by rintro rfl; exact hC.not_mem_erase hk), sm_zero, if_pos rfl] at h3
        grind
      rw [h2] at h1; grind
    have h1 := lap hS hd z
    have e1 : sm C (fun j => z j * sm C (fun i => S i j * z i)) = sm C (fun j => d j * (z j * z j)) := sm_congr fun j hj => by rw [← hz' j hj]; grind
    have h2 : sm C (fun j => sm C (fun i => S i j * ((z i - z j) * (z i - z j)))) = 0 := by grind
    have h3 : ∀ i, i ∈ C → ∀ j, j ∈ C → z i = z j := fun i hi j hj => by
      by_cases e : i = j
      · rw [e]
      · have h4 := sm_zero_of (fun j hj => sm_nonneg fun i hi => Rat.mul_nonneg (hnn i hi j hj) (sqn _)) h2 j hj
        have h5 := sm_zero_of (fun i hi => Rat.mul_nonneg (hnn i hi j hj) (sqn (z i - z j))) h4 i hi
        have h6 := hpos i hi j hj e
        grind
    cases C with
    | nil => rfl
    | cons c C =>
      rw [sm_congr (g := fun j => z c * (d j * x j)) fun j hj => by rw [h3 j hj c (by simp)], sm_mul, hx]; grind
end
def pr : List (Nat → Rat) → List Nat → Rat
  | [], _ => 1
  | r :: R, C => sm C fun c => r c * pr R (C.erase c)
theorem pr_cons (r : Nat → Rat) (R : List (Nat → Rat)) (C : List Nat) : pr (r :: R) C = sm C fun c => r c * pr R (C.erase c) := rfl
theorem pr_two (a b : Nat → Rat) (R : List (Nat → Rat)) (C : List Nat) (hC : C.Nodup) : pr (a :: b :: R) C = sm C (fun c => sm C (fun d => if d = c then 0 else a c * (b d * pr R ((C.erase c).erase d)))) := by
  rw [pr_cons]
  refine sm_congr fun c _ => ?_
  rw [pr_cons, ← sm_mul, ← sm_skip hC]
theorem pr_swap (a b : Nat → Rat) (R : List (Nat → Rat)) (C : List Nat) (hC : C.Nodup) : pr (a :: b :: R) C = pr (b :: a :: R) C := by
  rw [pr_two a b R C hC, pr_two b a R C hC, sm_swap]
  refine sm_congr fun c _ => sm_congr fun d _ => ?_
  by_cases e : d = c
  · subst e; rw [if_pos rfl, if_pos rfl]
  · rw [if_neg e, if_neg (Ne.symm e), List.erase_comm]; grind
theorem pr_perm {R R' : List (Nat → Rat)} (h : R.Perm R') : ∀ C : List Nat, C.Nodup → pr R C = pr R' C := by
  induction h with
  | nil => intro C _; rfl
  | cons x _ ih => intro C hC; rw [pr_cons, pr_cons]; exact sm_congr fun c _ => by rw [ih _ (hC.erase c)]
  | swap x y l => intro C hC; exact pr_swap y x l C hC
  | trans _ _ ih1 ih2 => intro C hC; rw [ih1 C hC, ih2 C hC]
theorem pr_congr1 {a b : Nat → Rat} {R : List (Nat → Rat)} {C : List Nat} (h : ∀ c, c ∈ C → a c = b c) : pr (a :: R) C = pr (b :: R) C := by
  rw [pr_cons, pr_cons]; exact sm_congr fun c hc => by rw [h c hc]
theorem pr_lin (s t : Rat) (a b : Nat → Rat) (R : List (Nat → Rat)) (C : List Nat) : pr ((fun c => s * a c + t * b c) :: R) C = s * pr (a :: R) C + t * pr (b :: R) C := by
  rw [pr_cons, pr_cons, pr_cons, ← sm_mul, ← sm_mul, ← sm_add]; exact sm_congr fun c _ => by grind
/-- Positive rows. -/
def Pos (C : List Nat) (a : Nat → Rat) : Prop := ∀ c, c ∈ C → 0 < a c
theorem pr_pos {k : Nat} : ∀ {R : List (Nat → Rat)} {C : List Nat}, C.Nodup → C.length = R.length + k → (∀ r, r ∈ R → Pos C r) → 0 < pr R C
  | [], C, _, _, _ => by simp only [pr]; grind
  | r :: R, C, hC, hl, h => by
    have hne : C ≠ [] := by rintro rfl; simp at hl; omega
    rw [pr_cons]
    refine sm_pos' hne fun c hc => Rat.mul_pos (h r (by simp) c hc) (pr_pos (k := k) (hC.erase c) ?_ fun s hs d hd => h s (by simp [hs]) d (List.mem_of_mem_erase hd))
    rw [List.length_erase_of_mem hc, hl, List.length_cons]; omega
theorem divle {q t b c : Rat} (hq : 0 < q) (h5 : q * t = b) (h2 : c * q ≤ b * b) : c ≤ q * (t * t) := by
  subst h5
  by_cases h8 : c ≤ q * (t * t)
  · exact h8
  · exfalso
    have := Rat.mul_pos hq (show 0 < c - q * (t * t) by grind)
    grind
/-- From one positive vector to all. -/
theorem turnp {A B D α β : Rat} (hα : 0 < α) (hD : 0 < D) (h : A * (α * α) - 2 * (B * (α * β)) + D * (β * β) ≤ 0) : A * D ≤ B * B := by
  have h1 := sqn (D * β - B * α)
  have h2 := Rat.mul_nonneg (Rat.le_of_lt hD) (show 0 ≤ -(A * (α * α) - 2 * (B * (α * β)) + D * (β * β)) by grind)
  have h3 : 0 ≤ (B * B - A * D) * (α * α) := by grind
  have h4 := Rat.mul_pos hα hα
  by_cases h5 : A * D ≤ B * B
  · exact h5
  · exfalso
    have := Rat.mul_pos (show 0 < A * D - B * B by grind) h4
    grind
theorem af : ∀ (R : List (Nat → Rat)) (C : List Nat), C.Nodup → C.length = R.length + 2 → (∀ r, r ∈ R → Pos C r) → ∀ p x, Pos C p → pr (x :: x :: R) C * pr (p :: p :: R) C ≤ pr (x :: p :: R) C * pr (x :: p :: R) C
  | [], C, hC, hl, _, p, x, _ => by
    match C, hl with
    | [c, d], _ =>
      have hcd : c ≠ d := by have := (List.nodup_cons.1 hC).1; simpa using this
      have key : ∀ a b : Nat → Rat, pr [a, b] [c, d] = a c * b d + a d * b c := fun a b => by
        simp only [pr, sm_cons, sm_nil, List.erase_cons_head]
        rw [List.erase_cons_tail (by simpa using hcd), List.erase_cons_head]
        simp only [sm_cons, sm_nil]; grind
      rw [key, key, key]
      have := sqn (x c * p d - x d * p c)
      grind
  | a :: R, C, hC, hl, hR, p, x, hp => by
    have ha : Pos C a := hR a (by simp)
    have hle : ∀ j, j ∈ C → (C.erase j).length = R.length + 2 := fun j hj => by rw [List.length_erase_of_mem hj, hl, List.length_cons]; omega
    have hRe : ∀ j, ∀ r, r ∈ R → Pos (C.erase j) r := fun j r hr c hc => hR r (by simp [hr]) c (List.mem_of_mem_erase hc)
    have hae : ∀ j, Pos (C.erase j) a := fun j c hc => ha c (List.mem_of_mem_erase hc)
    have hq : ∀ j, j ∈ C → 0 < pr (a :: a :: R) (C.erase j) := fun j hj => pr_pos (k := 0) (hC.erase j) (by rw [hle j hj]; simp) fun r hr => by
      simp only [List.mem_cons] at hr
      rcases hr with rfl | rfl | hr
      · exact hae j
      · exact hae j
      · exact hRe j r hr
    obtain ⟨S, hS⟩ : ∃ S : Nat → Nat → Rat, S = fun i j => if i = j then 0 else a i * (a j * pr (a :: R) ((C.erase j).erase i)) := ⟨_, rfl⟩
    have hSe : ∀ j, j ∈ C → ∀ u : Nat → Rat, sm C (fun i => S i j * u i) = a j * pr ((fun i => a i * u i) :: a :: R) (C.erase j) := fun j _ u => by
      rw [pr_cons, ← sm_mul, ← sm_skip hC]
      refine sm_congr fun i _ => ?_
      rw [hS]; dsimp only
      by_cases e : i = j
      · rw [if_pos e, if_pos e]; grind
      · rw [if_neg e, if_neg e]; grind
    have hQ : ∀ u v : Nat → Rat, pr ((fun i => a i * u i) :: (fun i => a i * v i) :: a :: R) C = sm C (fun j => u j * sm C (fun i => S i j * v i)) := fun u v => by
      rw [pr_cons]
      refine sm_congr fun j hj => ?_
      rw [hSe j hj]; grind
    have hd : ∀ j, j ∈ C → a j * pr (a :: a :: R) (C.erase j) = sm C (fun i => S i j) := fun j hj => by
      have h1 := hSe j hj (fun _ => 1)
      rw [sm_congr (g := fun i => S i j) fun i _ => by grind] at h1
      rw [h1, pr_congr1 (a := fun i => a i * 1) (b := a) fun c _ => by grind]
    -- what is 0 with a is not positive
    have main : ∀ u : Nat → Rat, sm C (fun j => a j * pr (a :: a :: R) (C.erase j) * u j) = 0 → sm C (fun j => u j * sm C (fun i => S i j * u i)) ≤ 0 := fun u hu => by
      refine hyp hC ?_ ?_ ?_ hd ?_ u hu
      · intro i j; rw [hS]; dsimp only
        by_cases e : i = j
        · subst e; rfl
        · rw [if_neg e, if_neg (Ne.symm e), List.erase_comm]; grind
      · intro i hi j hj e
        rw [hS]; dsimp only; rw [if_neg e]
        have hi' : i ∈ C.erase j := (List.mem_erase_of_ne e).2 hi
        refine Rat.mul_pos (ha i hi) (Rat.mul_pos (ha j hj) (pr_pos (k := 0) ((hC.erase j).erase i) ?_ fun r hr c hc => hR r hr c (List.mem_of_mem_erase (List.mem_of_mem_erase hc))))
        rw [List.length_erase_of_mem hi', hle j hj]; simp
      · intro i; rw [hS]; dsimp only; rw [if_pos rfl]
      · intro y t ht
        obtain ⟨Y, hY⟩ : ∃ Y : Nat → Rat, Y = fun i => a i * y i := ⟨_, rfl⟩
        rw [← hQ y y, ← hY]
        have e1 : pr (Y :: Y :: a :: R) C = sm C (fun j => a j * pr (Y :: Y :: R) (C.erase j)) := by
          rw [pr_perm (R' := a :: Y :: Y :: R) ((List.Perm.swap a Y R).cons Y |>.trans (List.Perm.swap a Y (Y :: R))) C hC, pr_cons]
        rw [e1]
        refine sm_le fun j hj => ?_
        have h1 := ht j hj
        rw [hSe j hj, ← hY] at h1
        have h2 := af R (C.erase j) (hC.erase j) (hle j hj) (hRe j) a Y (hae j)
        have h3 := hq j hj
        have h4 := ha j hj
        obtain ⟨q, eq⟩ : ∃ q, q = pr (a :: a :: R) (C.erase j) := ⟨_, rfl⟩
        obtain ⟨b, eb⟩ : ∃ b, b = pr (Y :: a :: R) (C.erase j) := ⟨_, rfl⟩
        obtain ⟨c, ec⟩ : ∃ c, c = pr (Y :: Y :: R) (C.erase j) := ⟨_, rfl⟩
        rw [← eq] at h1 h2 h3 ⊢
        rw [← eb] at h1 h2
        rw [← ec] at h2 ⊢
        have h5 : q * t j = b := by
          have : a j * (q * t j - b) = 0 := by grind
          have h6 : a j ≠ 0 := by grind
          grind
        have h7 := divle h3 h5 h2
        have := Rat.mul_nonneg (Rat.le_of_lt h4) (show 0 ≤ q * (t j * t j) - c by grind)
        grind
    -- from a to p
    have hQa : ∀ y, pr (y :: a :: a :: R) C = sm C (fun j => y j * pr (a :: a :: R) (C.erase j)) := fun y => rfl
    obtain ⟨α, hα⟩ : ∃ α, α = pr (p :: a :: a :: R) C := ⟨_, rfl⟩
    obtain ⟨β, hβ⟩ : ∃ β, β = pr (x :: a :: a :: R) C := ⟨_, rfl⟩
    have hαp : 0 < α := by
      rw [hα]
      refine pr_pos (k := 0) hC (by rw [hl]; simp) fun r hr => ?_
      simp only [List.mem_cons] at hr
      rcases hr with rfl | rfl | rfl | hr
      · exact hp
      · exact ha
      · exact ha
      · exact hR r (by simp [hr])
    have hDp : 0 < pr (p :: p :: a :: R) C := by
      refine pr_pos (k := 0) hC (by rw [hl]; simp) fun r hr => ?_
      simp only [List.mem_cons] at hr
      rcases hr with rfl | rfl | rfl | hr
      · exact hp
      · exact hp
      · exact ha
      · exact hR r (by simp [hr])
    obtain ⟨z, hz⟩ : ∃ z : Nat → Rat, z = fun c => α * x c + (-β) * p c := ⟨_, rfl⟩
    have hz0 : pr (z :: a :: a :: R) C = 0 := by rw [hz, pr_lin, ← hα, ← hβ]; grind
    have hzz : pr (z :: z :: a :: R) C = pr (x :: x :: a :: R) C * (α * α) - 2 * (pr (x :: p :: a :: R) C * (α * β)) + pr (p :: p :: a :: R) C * (β * β) := by
      have e1 : pr (z :: z :: a :: R) C = α * pr (x :: z :: a :: R) C + (-β) * pr (p :: z :: a :: R) C := by
        conv => lhs; rw [show z :: z :: a :: R = (fun c => α * x c + (-β) * p c) :: z :: a :: R by rw [← hz]]
        rw [pr_lin]
      have e2 : ∀ y, pr (y :: z :: a :: R) C = α * pr (y :: x :: a :: R) C + (-β) * pr (y :: p :: a :: R) C := fun y => by
        rw [pr_swap y z _ C hC, pr_swap y x _ C hC, pr_swap y p _ C hC]
        conv => lhs; rw [hz]
        rw [pr_lin]
      rw [e1, e2, e2, pr_swap p x _ C hC]; grind
    refine turnp hαp hDp (β := β) ?_
    rw [← hzz]
    have hu : ∀ c, c ∈ C → a c * (z c / a c) = z c := fun c hc => by have := ha c hc; grind
    have h1 := main (fun c => z c / a c) (by
      rw [← hz0, hQa]
      exact sm_congr fun c hc => by have := hu c hc; grind)
    rw [← hQ] at h1
    rw [pr_congr1 (b := z) hu, pr_swap _ _ _ C hC, pr_congr1 (b := z) hu] at h1
    exact h1
theorem mulpow (a b : Rat) : ∀ n : Nat, (a * b) ^ n = a ^ n * b ^ n
  | 0 => by rw [Rat.pow_zero, Rat.pow_zero, Rat.pow_zero]; grind
  | n + 1 => by rw [Rat.pow_succ, Rat.pow_succ, Rat.pow_succ, mulpow a b n]; grind
theorem divpos {a b : Rat} (ha : 0 < a) (hb : 0 < b) : 0 < a / b := by rw [Rat.div_def]; exact Rat.mul_pos ha (Rat.inv_pos.2 hb)
theorem cancel {a b c : Rat} (h : 0 < a) (h2 : a * b ≤ a * c) : b ≤ c := Rat.le_of_mul_le_mul_left h2 h
/-- What Gurvits' descent needs of a sequence of permanents. -/
theorem seq_le {g : Nat → Rat} {M : Nat} (hp : ∀ k, k ≤ M → 0 < g k) (hl : ∀ k, k + 2 ≤ M → g k * g (k + 2) ≤ g (k + 1) * g (k + 1)) : ∀ k, k + 1 ≤ M → g (k + 1) * g 0 ≤ g k * g 1
  | 0, _ => by grind
  | k + 1, h => by
    have ih := seq_le hp hl k (by omega)
    have h1 := hl k (by omega)
    have p0 := hp 0 (by omega)
    have pk := hp k (by omega)
    have pk1 := hp (k + 1) (by omega)
    by_cases h2 : g (k + 1 + 1) * g 0 ≤ g (k + 1) * g 1
    · exact h2
    · exfalso
      have h3 := Rat.mul_pos pk (show 0 < g (k + 1 + 1) * g 0 - g (k + 1) * g 1 by grind)
      have h4 := Rat.mul_nonneg (Rat.le_of_lt pk1) (show 0 ≤ g k * g 1 - g (k + 1) * g 0 by grind)
      have h5 := Rat.mul_nonneg (Rat.le_of_lt p0) (show 0 ≤ g (k + 1) * g (k + 1) - g k * g (k + 2) by grind)
      grind
theorem seq_pow {g : Nat → Rat} {M : Nat} (hp : ∀ k, k ≤ M → 0 < g k) (hl : ∀ k, k + 2 ≤ M → g k * g (k + 2) ≤ g (k + 1) * g (k + 1)) : ∀ k, k ≤ M → g k * g 0 ^ k ≤ g 0 * g 1 ^ k
  | 0, _ => by grind
  | k + 1, h => by
    have ih := seq_pow hp hl k (by omega)
    have h1 := seq_le hp hl k h
    have p0 := Rat.pow_pos (n := k) (hp 0 (by omega))
    have p1 := hp 1 (by omega)
    have h2 := Rat.mul_nonneg (Rat.le_of_lt p0) (show 0 ≤ g k * g 1 - g (k + 1) * g 0 by grind)
    have h3 := Rat.mul_nonneg (Rat.le_of_lt p1) (show 0 ≤ g 0 * g 1 ^ k - g k * g 0 ^ k by grind)
    rw [Rat.pow_succ, Rat.pow_succ]; grind
/-- A sum of rows. -/
def lc : List Rat → List (Nat → Rat) → Nat → Rat
  | x :: X, r :: D, c => x * r c + lc X D c
  | _, _, _ => 0
def pdr : List Rat → Rat
  | [] => 1
  | x :: X => x * pdr X
theorem pdr_pos : ∀ {X : List Rat}, (∀ x, x ∈ X → 0 < x) → 0 < pdr X
  | [], _ => by simp only [pdr]; grind
  | x :: X, h => Rat.mul_pos (h x (by simp)) (pdr_pos fun y hy => h y (by simp [hy]))
theorem lc_nonneg {C : List Nat} : ∀ {X : List Rat} {D : List (Nat → Rat)}, (∀ x, x ∈ X → 0 < x) → (∀ r, r ∈ D → Pos C r) → ∀ c, c ∈ C → 0 ≤ lc X D c
  | [], _, _, _, c, _ => by simp only [lc]; exact Rat.le_refl
  | x :: X, [], _, _, c, _ => by simp only [lc]; exact Rat.le_refl
  | x :: X, r :: D, h1, h2, c, hc => by
    have h3 := lc_nonneg (X := X) (D := D) (fun y hy => h1 y (by simp [hy])) (fun s hs => h2 s (by simp [hs])) c hc
    have h4 := Rat.mul_pos (h1 x (by simp)) (h2 r (by simp) c hc)
    simp only [lc]; grind
theorem lc_pos {C : List Nat} {x : Rat} {X : List Rat} {r : Nat → Rat} {D : List (Nat → Rat)} (h1 : ∀ y, y ∈ x :: X → 0 < y) (h2 : ∀ s, s ∈ r :: D → Pos C s) : Pos C (lc (x :: X) (r :: D)) := fun c hc => by
  have h3 := lc_nonneg (X := X) (D := D) (fun y hy => h1 y (by simp [hy])) (fun s hs => h2 s (by simp [hs])) c hc
  have h4 := Rat.mul_pos (h1 x (by simp)) (h2 r (by simp) c hc)
  simp only [lc]; grind
def Cap (C : List Nat) (D E : List (Nat → Rat)) (G : Rat) : Prop :=
  ∀ X : List Rat, X.length = D.length → (∀ x, x ∈ X → 0 < x) → G * pdr X ≤ pr (List.replicate D.length (lc X D) ++ E) C
theorem pos_app {C : List Nat} {a : Nat → Rat} {E : List (Nat → Rat)} {k : Nat} (ha : Pos C a) (hE : ∀ r, r ∈ E → Pos C r) : ∀ r, r ∈ List.replicate k a ++ E → Pos C r := fun r hr => by
  rcases List.mem_append.1 hr with h | h
  · rw [(List.mem_replicate.1 h).2]; exact ha
  · exact hE r h
theorem cap_step {C : List Nat} {r : Nat → Rat} {D E : List (Nat → Rat)} {G : Rat} (hC : C.Nodup) (hl : C.length = (D.length + 1) + E.length) (hr : Pos C r) (hD : ∀ s, s ∈ D → Pos C s) (hE : ∀ s, s ∈ E → Pos C s) (h : Cap C (r :: D) E G) :
    Cap C D (r :: E) (G * (D.length : Rat) ^ D.length / ((D.length : Rat) + 1) ^ (D.length + 1)) := by
  intro X hX hXp
  match D, X, hX with
  | [], [], _ =>
    have h1 := h [1] rfl (by simp; grind)
    have e : pr (List.replicate 1 (lc [1] [r]) ++ E) C = pr (r :: E) C := pr_congr1 fun c _ => by simp only [lc]; grind
    simp only [List.length_cons, List.length_nil, pdr] at h1 ⊢
    rw [e] at h1
    simp only [List.replicate_zero, List.nil_append]
    have h2 : G * ((0 : Nat) : Rat) ^ 0 / (((0 : Nat) : Rat) + 1) ^ (0 + 1) * 1 = G := by
      have : (((0 : Nat) : Rat)) = 0 := rfl
      rw [this]; grind
    rw [h2]; grind
  | d :: D, x :: X, hX =>
    obtain ⟨m, hm⟩ : ∃ m, m = (d :: D).length := ⟨_, rfl⟩
    obtain ⟨y, hy⟩ : ∃ y, y = lc (x :: X) (d :: D) := ⟨_, rfl⟩
    have hyp' : Pos C y := by rw [hy]; exact lc_pos hXp hD
    obtain ⟨P, hP⟩ : ∃ P, P = pdr (x :: X) := ⟨_, rfl⟩
    have hPp : 0 < P := by rw [hP]; exact pdr_pos hXp
    rw [← hm] at hl ⊢
    rw [← hy, ← hP]
    have hm1 : 1 ≤ m := by rw [hm]; simp
    have hmr : (0 : Rat) < (m : Rat) := by exact_mod_cast hm1
    obtain ⟨f0, ef0⟩ : ∃ f, f = pr (List.replicate (m + 1) y ++ E) C := ⟨_, rfl⟩
    obtain ⟨f1, ef1⟩ : ∃ f, f = pr (List.replicate m y ++ r :: E) C := ⟨_, rfl⟩
    rw [← ef1]
    have p0 : 0 < f0 := by rw [ef0]; exact pr_pos (k := 0) hC (by simp; omega) (pos_app hyp' hE)
    have hrE : ∀ s, s ∈ r :: E → Pos C s := fun s hs => by
      rcases List.mem_cons.1 hs with rfl | hs
      · exact hr
      · exact hE s hs
    have p1 : 0 < f1 := by rw [ef1]; exact pr_pos (k := 0) hC (by simp; omega) (pos_app hyp' hrE)
    have key : ∀ t : Rat, 0 < t → G * (t * P) * f0 ^ m ≤ (f0 + t * f1) ^ (m + 1) := fun t ht => by
      obtain ⟨z, hz⟩ : ∃ z, z = lc (t :: x :: X) (r :: d :: D) := ⟨_, rfl⟩
      have hzp : Pos C z := by
        rw [hz]; refine lc_pos (fun a ha => ?_) fun s hs => ?_
        · rcases List.mem_cons.1 ha with rfl | ha
          · exact ht
          · exact hXp a ha
        · rcases List.mem_cons.1 hs with rfl | hs
          · exact hr
          · exact hD s hs
      have hzy : z = fun c => t * r c + 1 * y c := by rw [hz, hy]; funext c; simp only [lc]; grind
      obtain ⟨g, hg⟩ : ∃ g : Nat → Rat, g = fun k => pr (List.replicate k z ++ (List.replicate (m + 1 - k) y ++ E)) C := ⟨_, rfl⟩
      have g0 : g 0 = f0 := by rw [hg, ef0]; simp
      have g1 : g 1 = f0 + t * f1 := by
        rw [hg]; dsimp only
        simp only [List.replicate_one, Nat.add_sub_cancel, List.cons_append, List.nil_append]
        conv => lhs; rw [hzy]
        rw [pr_lin, ef0, ef1, List.replicate_succ, List.cons_append, pr_perm (R' := List.replicate m y ++ r :: E) List.perm_middle.symm C hC]; grind
      have hgp : ∀ k, k ≤ m + 1 → 0 < g k := fun k hk => by
        rw [hg]; dsimp only
        exact pr_pos (k := 0) hC (by simp; omega) (pos_app hzp (pos_app hyp' hE))
      have hgl : ∀ k, k + 2 ≤ m + 1 → g k * g (k + 2) ≤ g (k + 1) * g (k + 1) := fun k hk => by
        obtain ⟨j, hj⟩ : ∃ j, m + 1 = k + 2 + j := ⟨m + 1 - (k + 2), by omega⟩
        obtain ⟨R, hR⟩ : ∃ R, R = List.replicate k z ++ (List.replicate j y ++ E) := ⟨_, rfl⟩
        have a0 : g k = pr (y :: y :: R) C := by
          rw [hg, hR]; dsimp only
          rw [show m + 1 - k = j + 2 by omega]
          refine pr_perm ?_ C hC
          simp only [List.replicate_succ, List.cons_append]
          exact List.perm_middle.trans (List.perm_middle.cons y)
        have a1 : g (k + 1) = pr (z :: y :: R) C := by
          rw [hg, hR]; dsimp only
          rw [show m + 1 - (k + 1) = j + 1 by omega]
          refine pr_perm ?_ C hC
          simp only [List.replicate_succ, List.cons_append]
          exact List.perm_middle.cons z
        have a2 : g (k + 2) = pr (z :: z :: R) C := by
          rw [hg, hR]; dsimp only
          rw [show m + 1 - (k + 2) = j by omega]
          simp only [List.replicate_succ, List.cons_append]
        rw [a0, a1, a2]
        have := af R C hC (by rw [hR]; simp; omega) (by rw [hR]; exact pos_app hzp (pos_app hyp' hE)) y z hyp'
        grind
      have h1 := seq_pow hgp hgl (m + 1) (Nat.le_refl _)
      rw [g0, g1] at h1
      have h2 := h (t :: x :: X) (by simp at hX ⊢; exact hX) (fun a ha => by
        rcases List.mem_cons.1 ha with rfl | ha
        · exact ht
        · exact hXp a ha)
      have e2 : pr (List.replicate (r :: d :: D).length (lc (t :: x :: X) (r :: d :: D)) ++ E) C = g (m + 1) := by
        rw [hg, ← hz]; dsimp only
        rw [List.length_cons, ← hm]; simp
      have e3 : pdr (t :: x :: X) = t * P := by rw [hP]; rfl
      rw [e2, e3] at h2
      have h3 : f0 * (g (m + 1) * f0 ^ m) ≤ f0 * (f0 + t * f1) ^ (m + 1) := by rw [Rat.pow_succ] at h1; grind
      have h4 := Rat.le_of_mul_le_mul_left h3 p0
      have h5 := Rat.mul_nonneg (Rat.le_of_lt (Rat.pow_pos (n := m) p0)) (show 0 ≤ g (m + 1) - G * (t * P) by grind)
      grind
    obtain ⟨u, hu⟩ : ∃ u : Rat, u = (m : Rat) := ⟨_, rfl⟩
    rw [← hu] at hmr ⊢
    obtain ⟨t, ht⟩ : ∃ t, t = f0 / (u * f1) := ⟨_, rfl⟩
    have hup := Rat.mul_pos hmr p1
    have htp : 0 < t := by rw [ht]; exact divpos p0 hup
    have htu : t * (u * f1) = f0 := by
      rw [ht]; refine Rat.div_mul_cancel fun e => ?_
      rw [e] at hup; exact absurd hup (by decide)
    have h1 := key t htp
    have h2 : (f0 + t * f1) ^ (m + 1) * u ^ (m + 1) = (f0 * (u + 1)) ^ (m + 1) := by
      rw [← mulpow]; congr 1; grind
    have h3 : (f0 * (u + 1)) ^ (m + 1) = f0 ^ (m + 1) * (u + 1) ^ (m + 1) := mulpow _ _ _
    obtain ⟨V, hV⟩ : ∃ V, V = (u + 1) ^ (m + 1) := ⟨_, rfl⟩
    obtain ⟨U, hU⟩ : ∃ U, U = u ^ m := ⟨_, rfl⟩
    obtain ⟨F, hF⟩ : ∃ F, F = f0 ^ m := ⟨_, rfl⟩
    have hVp : 0 < V := by rw [hV]; exact Rat.pow_pos (by grind)
    have hUp : 0 < U := by rw [hU]; exact Rat.pow_pos hmr
    have hFp : 0 < F := by rw [hF]; exact Rat.pow_pos p0
    rw [h3, ← hV, Rat.pow_succ u, ← hU, Rat.pow_succ f0, ← hF] at h2
    rw [← hF] at h1
    rw [← hV, ← hU]
    obtain ⟨W, hW⟩ : ∃ W, W = (f0 + t * f1) ^ (m + 1) := ⟨_, rfl⟩
    rw [← hW] at h1 h2
    clear hW h3 hF hU hV key hX hXp hD h hE hC hl hr hrE ef0 ef1 hP hy hyp'
    have h4 : (F * f0) * (G * P * U) ≤ (F * f0) * (V * f1) := by
      have h5 := Rat.mul_nonneg (Rat.le_of_lt (Rat.mul_pos hUp hup)) (show 0 ≤ W - G * (t * P) * F by grind)
      have e1 : U * (u * f1) * (W - G * (t * P) * F) = (W * (U * u)) * f1 - (t * (u * f1)) * (G * P * U * F) := by grind
      rw [e1, h2, htu] at h5
      grind
    have h5 := cancel (Rat.mul_pos hFp p0) h4
    refine cancel hVp ?_
    have e : V * (G * U / V * P) = G * P * U := by grind
    rw [e]; exact h5
/-- All rows. -/
theorem cap_all {C : List Nat} (hC : C.Nodup) : ∀ (D E : List (Nat → Rat)) (G : Rat), C.length = D.length + E.length → (∀ s, s ∈ D → Pos C s) → (∀ s, s ∈ E → Pos C s) → Cap C D E G → G ≤ (D.length : Rat) ^ D.length * pr (D.reverse ++ E) C
  | [], E, G, _, _, _, h => by
    have h1 := h [] rfl (by simp)
    have e : (([] : List (Nat → Rat)).length : Rat) ^ ([] : List (Nat → Rat)).length = 1 := rfl
    rw [e]
    simp only [pdr, List.length_nil, List.replicate_zero, List.nil_append, List.reverse_nil] at h1 ⊢
    grind
  | r :: D, E, G, hl, hD, hE, h => by
    have hD' : ∀ s, s ∈ D → Pos C s := fun s hs => hD s (by simp [hs])
    have h1 := cap_all hC D (r :: E) _ (by rw [hl]; simp; omega) hD' (fun s hs => by
      rcases List.mem_cons.1 hs with rfl | hs
      · exact hD _ (by simp)
      · exact hE s hs) (cap_step hC (by rw [hl]; simp) (hD r (by simp)) hD' hE h)
    rw [List.reverse_cons, List.append_assoc, List.singleton_append]
    obtain ⟨p, hp⟩ : ∃ p, p = pr (D.reverse ++ r :: E) C := ⟨_, rfl⟩
    obtain ⟨m, hm⟩ : ∃ m, m = D.length := ⟨_, rfl⟩
    have e : ((r :: D).length : Rat) ^ (r :: D).length = ((m : Rat) + 1) ^ (m + 1) := by
      rw [List.length_cons, ← hm]; congr 1; exact_mod_cast rfl
    rw [e, ← hp]
    rw [← hp, ← hm] at h1
    have hm0 : (0 : Rat) ≤ (m : Rat) := by exact_mod_cast Nat.zero_le m
    have hV : 0 < ((m : Rat) + 1) ^ (m + 1) := Rat.pow_pos (by grind)
    have hU : 0 < (m : Rat) ^ m := by
      by_cases h0 : m = 0
      · subst h0; decide
      · exact Rat.pow_pos (by exact_mod_cast Nat.pos_of_ne_zero h0)
    obtain ⟨V, eV⟩ : ∃ V, V = ((m : Rat) + 1) ^ (m + 1) := ⟨_, rfl⟩
    obtain ⟨U, eU⟩ : ∃ U, U = (m : Rat) ^ m := ⟨_, rfl⟩
    rw [← eV] at h1 hV ⊢
    rw [← eU] at h1 hU
    refine cancel hU ?_
    have h2 := Rat.mul_nonneg (Rat.le_of_lt hV) (show 0 ≤ U * p - G * U / V by grind)
    have e2 : V * (U * p - G * U / V) = U * (V * p) - U * G := by grind
    grind
def pd : List Nat → (Nat → Rat) → Rat
  | [], _ => 1
  | c :: C, y => y c * pd C y
theorem pd_erase {y : Nat → Rat} {c : Nat} : ∀ {C : List Nat}, c ∈ C → y c * pd (C.erase c) y = pd C y
  | [], h => by cases h
  | a :: C, h => by
    by_cases e : a = c
    · subst e; rw [List.erase_cons_head]; rfl
    · have := pd_erase (y := y) ((List.mem_cons.1 h).resolve_left (Ne.symm e))
      rw [List.erase_cons_tail (by simpa using e)]
      simp only [pd]; rw [← this]; grind
theorem sm_const (a : Rat) : ∀ C : List Nat, sm C (fun _ => a) = (C.length : Rat) * a
  | [] => by
    have : (([] : List Nat).length : Rat) = 0 := rfl
    rw [sm_nil, this]; grind
  | c :: C => by
    have : ((c :: C).length : Rat) = (C.length : Rat) + 1 := by rw [List.length_cons]; exact_mod_cast rfl
    rw [sm_cons, sm_const a C, this]; grind
def fct : Nat → Nat
  | 0 => 1
  | n + 1 => (n + 1) * fct n
theorem pr_rep (y : Nat → Rat) : ∀ (m : Nat) (C : List Nat), C.length = m → pr (List.replicate m y) C = (fct m : Rat) * pd C y
  | 0, C, h => by
    have : C = [] := List.length_eq_zero_iff.1 h
    subst this
    have : ((fct 0 : Nat) : Rat) = 1 := rfl
    rw [this]; simp only [List.replicate_zero, pr, pd]; grind
  | m + 1, C, h => by
    rw [List.replicate_succ, pr_cons, sm_congr (g := fun _ => (fct m : Rat) * pd C y) fun c hc => by
      rw [pr_rep y m (C.erase c) (by rw [List.length_erase_of_mem hc]; omega), ← pd_erase hc]; grind, sm_const, h]
    have : ((fct (m + 1) : Nat) : Rat) = ((m + 1 : Nat) : Rat) * (fct m : Rat) := by exact_mod_cast rfl
    rw [this]; grind
theorem tangent {A B : Rat} (hA : 0 < A) (hB : 0 ≤ B) : ∀ n : Nat, A ^ (n + 1) + ((n : Rat) + 1) * A ^ n * (B - A) ≤ B ^ (n + 1)
  | 0 => by
    have : ((0 : Nat) : Rat) = 0 := rfl
    rw [this]; grind
  | n + 1 => by
    have ih := tangent hA hB n
    have e : ((n + 1 : Nat) : Rat) = (n : Rat) + 1 := by exact_mod_cast rfl
    have hn : (0 : Rat) ≤ (n : Rat) := by exact_mod_cast Nat.zero_le n
    obtain ⟨a, ha⟩ : ∃ a, a = A ^ n := ⟨_, rfl⟩
    obtain ⟨b, hb⟩ : ∃ b, b = B ^ (n + 1) := ⟨_, rfl⟩
    have hap : 0 < a := by rw [ha]; exact Rat.pow_pos hA
    rw [e, Rat.pow_succ A (n + 1), Rat.pow_succ B (n + 1), Rat.pow_succ A n, ← ha, ← hb]
    rw [Rat.pow_succ A n, ← ha, ← hb] at ih
    have h1 := Rat.mul_nonneg hB (show 0 ≤ b - (a * A + ((n : Rat) + 1) * a * (B - A)) by grind)
    have h2 := Rat.mul_nonneg (Rat.mul_nonneg (show 0 ≤ (n : Rat) + 1 by grind) (Rat.le_of_lt hap)) (sqn (B - A))
    grind
/- Sums and products: the mean. -/
theorem natc (n : Nat) : ((n + 1 : Nat) : Rat) = (n : Rat) + 1 := by exact_mod_cast rfl
theorem nat0 : ((0 : Nat) : Rat) = 0 := rfl
theorem natnn (n : Nat) : (0 : Rat) ≤ (n : Rat) := by exact_mod_cast Nat.zero_le n
theorem kkpos (k : Nat) : 0 < (k : Rat) ^ k := by
  by_cases h0 : k = 0
  · subst h0; decide
  · exact Rat.pow_pos (by exact_mod_cast Nat.pos_of_ne_zero h0)
theorem am_step {K : Nat} {s P x : Rat} (hs : 0 ≤ s) (hP : 0 < P) (hx : 0 < x) (h : (K : Rat) ^ K * P ≤ s ^ K) : ((K + 1 : Nat) : Rat) ^ (K + 1) * (P * x) ≤ (s + x) ^ (K + 1) := by
  by_cases hK : K = 0
  · subst hK
    rw [natc, nat0] at *
    rw [Rat.pow_zero, Rat.pow_zero] at h
    have := Rat.mul_nonneg (Rat.le_of_lt hx) (show 0 ≤ 1 - P by grind)
    grind
  · have hk : (0 : Rat) < (K : Rat) := by exact_mod_cast Nat.pos_of_ne_zero hK
    have hs0 : 0 < s := by
      by_cases e : 0 < s
      · exact e
      · exfalso
        have e0 : s = 0 := by grind
        subst e0
        obtain ⟨j, rfl⟩ : ∃ j, K = j + 1 := ⟨K - 1, by omega⟩
        rw [Rat.pow_succ 0, Rat.mul_zero] at h
        have := Rat.mul_pos (kkpos (j + 1)) hP
        grind
    have h1 := tangent (A := ((K : Rat) + 1) * s) (B := (K : Rat) * (s + x)) (Rat.mul_pos (by grind) hs0) (Rat.mul_nonneg (Rat.le_of_lt hk) (by grind)) K
    rw [mulpow, mulpow, mulpow, Rat.pow_succ s] at h1
    rw [natc]
    have hkk := kkpos K
    obtain ⟨k, ek⟩ : ∃ k : Rat, k = (K : Rat) := ⟨_, rfl⟩
    rw [← ek] at h h1 hk hkk ⊢
    obtain ⟨u, hu⟩ : ∃ u, u = k ^ K := ⟨_, rfl⟩
    obtain ⟨v, hv⟩ : ∃ v, v = s ^ K := ⟨_, rfl⟩
    obtain ⟨a, ha⟩ : ∃ a, a = (k + 1) ^ K := ⟨_, rfl⟩
    obtain ⟨z, hz⟩ : ∃ z, z = (s + x) ^ (K + 1) := ⟨_, rfl⟩
    have hap : 0 < a := by rw [ha]; exact Rat.pow_pos (by grind)
    rw [Rat.pow_succ k, ← hu, Rat.pow_succ (k + 1), ← ha, ← hv, ← hz] at h1
    rw [Rat.pow_succ (k + 1), ← ha, ← hz]
    rw [← hu, ← hv] at h
    rw [← hu] at hkk
    clear hu hv ha hz ek
    refine cancel (Rat.mul_pos hkk hk) ?_
    have h2 := Rat.mul_nonneg (Rat.le_of_lt (Rat.mul_pos (Rat.mul_pos (Rat.mul_pos hap (show 0 < k + 1 by grind)) hx) hk)) (show 0 ≤ v - u * P by grind)
    grind
theorem am_more {K : Nat} {s P x : Rat} (hs : 0 ≤ s) (hP : 0 < P) (hx : 0 < x) (h : (K : Rat) ^ K * P ≤ s ^ K) : ∀ a : Nat, ((K + a : Nat) : Rat) ^ (K + a) * (P * x ^ a) ≤ (s + (a : Rat) * x) ^ (K + a)
  | 0 => by
    rw [nat0, Rat.pow_zero, Nat.add_zero, show P * 1 = P by grind, show s + 0 * x = s by grind]; exact h
  | a + 1 => by
    have ih := am_more hs hP hx h a
    have h1 := am_step (K := K + a) (s := s + (a : Rat) * x) (P := P * x ^ a) (x := x) (by have := Rat.mul_nonneg (natnn a) (Rat.le_of_lt hx); grind) (Rat.mul_pos hP (Rat.pow_pos hx)) hx ih
    rw [natc a, Rat.pow_succ x, show P * (x ^ a * x) = P * x ^ a * x by grind, show s + ((a : Rat) + 1) * x = s + (a : Rat) * x + x by grind]
    exact h1
def cs : List (Nat → Nat) → Nat → Nat
  | [], _ => 0
  | a :: A, c => a c + cs A c
def rr (a : Nat → Nat) : Nat → Rat := fun c => (a c : Rat)
def pw : List Rat → List (Nat → Nat) → Nat → Rat
  | x :: X, a :: A, c => x ^ a c * pw X A c
  | _, _, _ => 1
theorem pw_pos {c : Nat} : ∀ {X : List Rat} {A : List (Nat → Nat)}, (∀ x, x ∈ X → 0 < x) → 0 < pw X A c
  | [], _, _ => by simp only [pw]; grind
  | x :: X, [], _ => by simp only [pw]; grind
  | x :: X, a :: A, h => Rat.mul_pos (Rat.pow_pos (h x (by simp))) (pw_pos fun y hy => h y (by simp [hy]))
theorem lcn {c : Nat} : ∀ {X : List Rat} {A : List (Nat → Nat)}, (∀ x, x ∈ X → 0 < x) → 0 ≤ lc X (A.map rr) c
  | [], _, _ => by simp only [lc]; exact Rat.le_refl
  | x :: X, [], _ => by simp only [List.map_nil, lc]; exact Rat.le_refl
  | x :: X, a :: A, h => by
    have h1 := lcn (c := c) (X := X) (A := A) fun y hy => h y (by simp [hy])
    have h2 := Rat.mul_nonneg (Rat.le_of_lt (h x (by simp))) (natnn (a c))
    simp only [List.map_cons, lc, rr]; grind
theorem am_rows {c : Nat} : ∀ {X : List Rat} {A : List (Nat → Nat)}, X.length = A.length → (∀ x, x ∈ X → 0 < x) → (cs A c : Rat) ^ cs A c * pw X A c ≤ lc X (A.map rr) c ^ cs A c
  | [], [], _, _ => by simp only [cs, pw, Rat.pow_zero]; grind
  | x :: X, a :: A, hl, h => by
    have hX : ∀ y, y ∈ X → 0 < y := fun y hy => h y (by simp [hy])
    have h1 := am_rows (c := c) (X := X) (A := A) (by simpa using hl) hX
    have h2 := am_more (lcn hX) (pw_pos hX) (h x (by simp)) h1 (a c)
    have e1 : cs (a :: A) c = cs A c + a c := Nat.add_comm _ _
    have e2 : pw (x :: X) (a :: A) c = pw X A c * x ^ a c := Rat.mul_comm _ _
    have e3 : lc (x :: X) ((a :: A).map rr) c = lc X (A.map rr) c + (a c : Rat) * x := by simp only [List.map_cons, lc, rr]; grind
    rw [e1, e2, e3]; exact h2
theorem pd_nonneg {f : Nat → Rat} : ∀ {C : List Nat}, (∀ c, c ∈ C → 0 ≤ f c) → 0 ≤ pd C f
  | [], _ => by simp only [pd]; grind
  | c :: C, h => Rat.mul_nonneg (h c (by simp)) (pd_nonneg fun d hd => h d (by simp [hd]))
theorem pd_le {f g : Nat → Rat} : ∀ {C : List Nat}, (∀ c, c ∈ C → 0 ≤ f c ∧ f c ≤ g c) → pd C f ≤ pd C g
  | [], _ => Rat.le_refl
  | c :: C, h => by
    have h1 := h c (by simp)
    have h2 := pd_le (C := C) fun d hd => h d (by simp [hd])
    have h3 := pd_nonneg (f := f) (C := C) fun d hd => (h d (by simp [hd])).1
    have h4 := Rat.mul_nonneg (show 0 ≤ g c by grind) (show 0 ≤ pd C g - pd C f by grind)
    have h5 := Rat.mul_nonneg h3 (show 0 ≤ g c - f c by grind)
    simp only [pd]; grind
theorem pd_mul (f g : Nat → Rat) : ∀ C : List Nat, pd C (fun c => f c * g c) = pd C f * pd C g
  | [] => by simp only [pd]; grind
  | c :: C => by simp only [pd]; rw [pd_mul f g C]; grind
theorem pd_pow (f : Nat → Rat) (k : Nat) : ∀ C : List Nat, pd C (fun c => f c ^ k) = pd C f ^ k
  | [] => by simp only [pd]; clear f; induction k with
    | zero => rw [Rat.pow_zero]
    | succ k ih => rw [Rat.pow_succ, ← ih]; grind
  | c :: C => by simp only [pd]; rw [pd_pow f k C, mulpow]
theorem pd_const (a : Rat) : ∀ C : List Nat, pd C (fun _ => a) = a ^ C.length
  | [] => by simp only [pd, List.length_nil, Rat.pow_zero]
  | c :: C => by simp only [pd, List.length_cons]; rw [pd_const a C, Rat.pow_succ]; grind
theorem pd_congr {f g : Nat → Rat} : ∀ {C : List Nat}, (∀ c, c ∈ C → f c = g c) → pd C f = pd C g
  | [], _ => rfl
  | c :: C, h => by simp only [pd]; rw [h c (by simp), pd_congr fun d hd => h d (by simp [hd])]
def rs (a : Nat → Nat) : List Nat → Nat
  | [] => 0
  | c :: C => a c + rs a C
theorem powadd (x : Rat) (m : Nat) : ∀ n : Nat, x ^ (m + n) = x ^ m * x ^ n
  | 0 => by rw [Nat.add_zero, Rat.pow_zero]; grind
  | n + 1 => by rw [show m + (n + 1) = (m + n) + 1 by omega, Rat.pow_succ, Rat.pow_succ, powadd x m n]; grind
theorem pd_exp (x : Rat) (a : Nat → Nat) : ∀ C : List Nat, pd C (fun c => x ^ a c) = x ^ rs a C
  | [] => by simp only [pd, rs, Rat.pow_zero]
  | c :: C => by simp only [pd, rs]; rw [pd_exp x a C, powadd]
theorem pd_pw {C : List Nat} {k : Nat} : ∀ {X : List Rat} {A : List (Nat → Nat)}, X.length = A.length → (∀ a, a ∈ A → rs a C = k) → pd C (fun c => pw X A c) = pdr X ^ k
  | [], [], _, _ => by
    simp only [pw, pdr]; rw [pd_const]
    have : ∀ n : Nat, (1 : Rat) ^ n = 1 := fun n => by
      induction n with
      | zero => rw [Rat.pow_zero]
      | succ n ih => rw [Rat.pow_succ, ih]; grind
    rw [this, this]
  | x :: X, a :: A, hl, h => by
    have h1 := pd_pw (C := C) (k := k) (X := X) (A := A) (by simpa using hl) fun b hb => h b (by simp [hb])
    simp only [pw, pdr]
    rw [pd_mul, h1, pd_exp, h a (by simp), mulpow]
theorem pow_lt {a b : Rat} (ha : 0 ≤ a) (h : a < b) : ∀ k : Nat, a ^ (k + 1) < b ^ (k + 1)
  | 0 => by grind
  | k + 1 => by
    have ih := pow_lt ha h k
    have h1 := Rat.mul_pos (show 0 < b by grind) (show 0 < b ^ (k + 1) - a ^ (k + 1) by grind)
    have h2 := Rat.mul_nonneg (Rat.pow_nonneg (n := k + 1) ha) (show 0 ≤ b - a by grind)
    rw [Rat.pow_succ a (k + 1), Rat.pow_succ b (k + 1)]; grind
theorem root_le {a b : Rat} {k : Nat} (hb : 0 ≤ b) (hk : 1 ≤ k) (h : a ^ k ≤ b ^ k) : a ≤ b := by
  by_cases e : a ≤ b
  · exact e
  · exfalso
    obtain ⟨j, rfl⟩ : ∃ j, k = j + 1 := ⟨k - 1, by omega⟩
    have := pow_lt hb (show b < a by grind) j
    grind
/-- Positive tables of numbers whose sums of rows and columns are the same. -/
theorem vdw_pos {C : List Nat} {A : List (Nat → Nat)} {k : Nat} (hC : C.Nodup) (hl : C.length = A.length) (hk : 1 ≤ k) (hp : ∀ a, a ∈ A → ∀ c, c ∈ C → 1 ≤ a c) (hr : ∀ a, a ∈ A → rs a C = k) (hc : ∀ c, c ∈ C → cs A c = k) :
    (fct A.length : Rat) * (k : Rat) ^ A.length ≤ (A.length : Rat) ^ A.length * pr (A.map rr) C := by
  have hpos : ∀ s, s ∈ A.map rr → Pos C s := fun s hs c hc => by
    obtain ⟨a, ha, rfl⟩ := List.mem_map.1 hs
    have := hp a ha c hc
    unfold rr; exact_mod_cast this
  have h1 := cap_all hC (A.map rr) [] ((fct A.length : Rat) * (k : Rat) ^ A.length) (by simp [hl]) hpos (by simp) ?_
  · rw [List.length_map, List.append_nil, pr_perm (List.reverse_perm _) C hC] at h1; exact h1
  · intro X hX hXp
    rw [List.length_map] at hX
    rw [List.length_map, List.append_nil, pr_rep _ _ C hl]
    have h2 : (k : Rat) ^ A.length * pdr X ≤ pd C (lc X (A.map rr)) := by
      refine root_le (k := k) (pd_nonneg fun c _ => lcn hXp) hk ?_
      rw [mulpow, ← pd_pw hX hr, ← pd_pow]
      have e : ((k : Rat) ^ A.length) ^ k = pd C (fun _ => (k : Rat) ^ k) := by
        rw [pd_pow, pd_const, hl]
      rw [e, ← pd_mul]
      refine pd_le fun c hcc => ⟨Rat.mul_nonneg (Rat.le_of_lt (kkpos k)) (Rat.le_of_lt (pw_pos hXp)), ?_⟩
      have := am_rows (c := c) hX hXp
      rw [hc c hcc] at this
      exact this
    have h3 := Rat.mul_nonneg (natnn (fct A.length)) (show 0 ≤ pd C (lc X (A.map rr)) - (k : Rat) ^ A.length * pdr X by grind)
    grind
/- Numbers that may be 0. -/
open PM
theorem cast_sm (f : Nat → Int) : ∀ C : List Nat, sm C (fun c => (f c : Rat)) = (sumL C f : Rat)
  | [] => by rw [sm_nil, sumL_nil]; rfl
  | c :: C => by rw [sm_cons, sumL_cons, cast_sm f C]; push_cast; rfl
theorem cast_pr : ∀ (R : List (Nat → Int)) (C : List Nat), C.length = R.length → pr (R.map fun r c => (r c : Rat)) C = (pL R C : Rat)
  | [], C, h => by
    have : C = [] := List.length_eq_zero_iff.1 h
    subst this; rfl
  | r :: R, C, h => by
    rw [List.map_cons, pr_cons]
    show _ = ((sumL C fun c => r c * pL R (C.erase c) : Int) : Rat)
    rw [← cast_sm]
    refine sm_congr fun c hc => ?_
    rw [cast_pr R (C.erase c) (by rw [List.length_erase_of_mem hc, h]; simp)]; push_cast; rfl
theorem sumL_le' {f g : Nat → Int} : ∀ {C : List Nat}, (∀ c, c ∈ C → f c ≤ g c) → sumL C f ≤ sumL C g
  | [], _ => Int.le_refl _
  | c :: C, h => by
    have h1 := h c (by simp)
    have h2 := sumL_le' (C := C) fun d hd => h d (by simp [hd])
    rw [sumL_cons, sumL_cons]; omega
theorem sumL_lin (a b : Int) (f g : Nat → Int) : ∀ C : List Nat, sumL C (fun c => a * f c + b * g c) = a * sumL C f + b * sumL C g
  | [] => by simp [sumL_nil]
  | c :: C => by rw [sumL_cons, sumL_cons, sumL_cons, sumL_lin a b f g C]; grind
theorem sumL_sc (a : Int) (f : Nat → Int) : ∀ C : List Nat, sumL C (fun c => a * f c) = a * sumL C f
  | [] => by simp [sumL_nil]
  | c :: C => by rw [sumL_cons, sumL_cons, sumL_sc a f C]; grind
theorem pL_nonneg : ∀ {R : List (Nat → Int)} {C : List Nat}, (∀ r, r ∈ R → ∀ c, c ∈ C → 0 ≤ r c) → 0 ≤ pL R C
  | [], C, _ => by simp only [pL]; split <;> decide
  | r :: R, C, h => by
    have h1 : ∀ c, c ∈ C → 0 ≤ r c * pL R (C.erase c) := fun c hc => Int.mul_nonneg (h r (by simp) c hc) (pL_nonneg fun s hs d hd => h s (by simp [hs]) d (List.mem_of_mem_erase hd))
    have h2 := sumL_le' (f := fun _ => 0) h1
    have h3 : ∀ C : List Nat, sumL C (fun _ => 0) = 0 := fun C => by induction C with | nil => rfl | cons c C ih => rw [sumL_cons, ih]; rfl
    rw [h3] at h2
    exact h2
def more (N : Int) (r : Nat → Int) : Nat → Int := fun c => N * r c + 1
theorem near_one (r : Nat → Int) (F : Nat → Int) (Dg : Nat → Int) (C : List Nat) : ∃ D : Int, ∀ N : Int, 1 ≤ N → (∀ c, c ∈ C → 0 ≤ r c) → (∀ c, c ∈ C → 0 ≤ F c) → (∀ c, c ∈ C → 0 ≤ Dg c) → sumL C (fun c => (N * r c + 1) * (N * F c + Dg c)) ≤ N * (N * sumL C (fun c => r c * F c) + D) := by
  refine ⟨sumL C fun c => r c * Dg c + F c + Dg c, fun N hN h1 h2 h3 => ?_⟩
  have e : N * (N * sumL C (fun c => r c * F c) + sumL C fun c => r c * Dg c + F c + Dg c) = sumL C (fun c => N * N * (r c * F c) + N * (r c * Dg c + F c + Dg c)) := by
    rw [sumL_lin]; grind
  rw [e]
  refine sumL_le' fun c hc => ?_
  have h4 := Int.mul_nonneg (show 0 ≤ N - 1 by omega) (h3 c hc)
  grind
theorem near : ∀ (R : List (Nat → Int)) (C : List Nat), (∀ r, r ∈ R → ∀ c, c ∈ C → 0 ≤ r c) → ∃ D : Int, 0 ≤ D ∧ ∀ N : Int, 1 ≤ N → N * pL (R.map (more N)) C ≤ N ^ R.length * (N * pL R C + D)
  | [], C, _ => ⟨0, Int.le_refl _, fun N _ => by simp⟩
  | r :: R, C, h => by
    have hr : ∀ c, c ∈ C → 0 ≤ r c := h r (by simp)
    have hR : ∀ c, ∀ s, s ∈ R → ∀ d, d ∈ C.erase c → 0 ≤ s d := fun c s hs d hd => h s (by simp [hs]) d (List.mem_of_mem_erase hd)
    have ih : ∀ c, ∃ D : Int, 0 ≤ D ∧ ∀ N : Int, 1 ≤ N → N * pL (R.map (more N)) (C.erase c) ≤ N ^ R.length * (N * pL R (C.erase c) + D) := fun c => near R (C.erase c) (hR c)
    obtain ⟨Dg, hD⟩ : ∃ Dg : Nat → Int, ∀ c, 0 ≤ Dg c ∧ ∀ N : Int, 1 ≤ N → N * pL (R.map (more N)) (C.erase c) ≤ N ^ R.length * (N * pL R (C.erase c) + Dg c) := ⟨fun c => (ih c).choose, fun c => (ih c).choose_spec⟩
    obtain ⟨D, hd⟩ := near_one r (fun c => pL R (C.erase c)) Dg C
    have hN1 : ∀ N : Int, 1 ≤ N → N * pL ((r :: R).map (more N)) C ≤ N ^ (R.length + 1) * (N * pL (r :: R) C + D) := fun N hN => by
      have h1 := hd N hN hr (fun c _ => pL_nonneg (hR c)) fun c _ => (hD c).1
      have hNp : (0 : Int) ≤ N ^ R.length := Int.pow_nonneg (by omega)
      have e1 : N * pL ((r :: R).map (more N)) C = sumL C (fun c => (N * r c + 1) * (N * pL (R.map (more N)) (C.erase c))) := by
        show N * sumL C (fun c => more N r c * pL (R.map (more N)) (C.erase c)) = _
        rw [← sumL_sc]; unfold more; congr 1; funext c; grind
      have h2 : sumL C (fun c => (N * r c + 1) * (N * pL (R.map (more N)) (C.erase c))) ≤ sumL C (fun c => N ^ R.length * ((N * r c + 1) * (N * pL R (C.erase c) + Dg c))) := sumL_le' fun c hc => by
        have h3 := (hD c).2 N hN
        have h4 := Int.mul_nonneg (show 0 ≤ N * r c + 1 by have := Int.mul_nonneg (show 0 ≤ N by omega) (hr c hc); omega) (show 0 ≤ N ^ R.length * (N * pL R (C.erase c) + Dg c) - N * pL (R.map (more N)) (C.erase c) by omega)
        grind
      have e4 := sumL_sc (N ^ R.length) (fun c => (N * r c + 1) * (N * pL R (C.erase c) + Dg c)) C
      have h5 := Int.mul_nonneg hNp (show 0 ≤ N * (N * sumL C (fun c => r c * pL R (C.erase c)) + D) - sumL C (fun c => (N * r c + 1) * (N * pL R (C.erase c) + Dg c)) by omega)
      have e5 : pL (r :: R) C = sumL C (fun c => r c * pL R (C.erase c)) := rfl
      rw [e1, e5, Int.pow_succ]
      rw [e4] at h2
      grind
    refine ⟨D.toNat, by omega, fun N hN => ?_⟩
    have h1 := hN1 N hN
    have h2 := Int.mul_nonneg (show 0 ≤ N ^ (R.length + 1) from Int.pow_nonneg (by omega)) (show 0 ≤ (D.toNat : Int) - D by omega)
    rw [List.length_cons]; grind
theorem rs_cast {N : Int} (f : Nat → Int) : ∀ C : List Nat, (∀ c, c ∈ C → 0 ≤ N * f c + 1) → ((rs (fun c => (N * f c + 1).toNat) C : Nat) : Int) = N * sumL C f + C.length
  | [], _ => by simp [rs, sumL_nil]
  | c :: C, h => by
    have h1 := h c (by simp)
    have ih := rs_cast f C fun d hd => h d (by simp [hd])
    simp only [rs, sumL_cons, List.length_cons]
    push_cast
    rw [ih, Int.toNat_of_nonneg h1]; grind
theorem cs_cast {N : Int} {A : Nat → Nat → Int} {c : Nat} : ∀ I : List Nat, (∀ i, i ∈ I → 0 ≤ N * A i c + 1) → ((cs (I.map fun i c => (N * A i c + 1).toNat) c : Nat) : Int) = N * sumL I (fun i => A i c) + I.length
  | [], _ => by simp [cs, sumL_nil]
  | i :: I, h => by
    have h1 := h i (by simp)
    have ih := cs_cast I fun d hd => h d (by simp [hd])
    simp only [List.map_cons, cs, sumL_cons, List.length_cons]
    push_cast
    rw [ih, Int.toNat_of_nonneg h1]; grind
theorem pr_congrA {A B : Nat → Nat → Rat} : ∀ (R C : List Nat), (∀ i, i ∈ R → ∀ c, c ∈ C → A i c = B i c) → pr (R.map A) C = pr (R.map B) C
  | [], _, _ => rfl
  | i :: R, C, h => by
    rw [List.map_cons, List.map_cons, pr_cons, pr_cons]
    exact sm_congr fun c hc => by rw [h i (by simp) c hc, pr_congrA R (C.erase c) fun j hj d hd => h j (by simp [hj]) d (List.mem_of_mem_erase hd)]
/-- The permanent of a level table (van der Waerden's inequality). -/
theorem vdw {A : Nat → Nat → Int} {n k : Nat} (h0 : ∀ i c, i < n → c < n → 0 ≤ A i c) (hr : ∀ i, i < n → sumL (List.range n) (A i) = k) (hc : ∀ c, c < n → sumL (List.range n) (fun i => A i c) = k) :
    (fct n : Int) * (k : Int) ^ n ≤ (n : Int) ^ n * per A n := by
  by_cases hn : n = 0
  · subst hn; simp [fct, per, pL]
  have hm : ∀ i, i ∈ List.range n ↔ i < n := fun i => List.mem_range
  obtain ⟨D, hD0, hD⟩ := near ((List.range n).map A) (List.range n) (fun r hr c hc => by
    obtain ⟨i, hi, rfl⟩ := List.mem_map.1 hr
    exact h0 i c ((hm i).1 hi) ((hm c).1 hc))
  rw [List.length_map, List.length_range] at hD
  -- the tables N A + 1
  have key : ∀ N : Nat, 1 ≤ N → (fct n : Int) * ((N * k + n : Nat) : Int) ^ n ≤ (n : Int) ^ n * pL (((List.range n).map A).map (more (N : Int))) (List.range n) := fun N hN => by
    have hnn : ∀ i c, i < n → c < n → 0 ≤ (N : Int) * A i c := fun i c hi hc => Int.mul_nonneg (by omega) (h0 i c hi hc)
    have h1 := vdw_pos (C := List.range n) (A := (List.range n).map fun i c => ((N : Int) * A i c + 1).toNat) (k := N * k + n) List.nodup_range (by simp) (by omega) (fun a ha c hc => by
        obtain ⟨i, hi, rfl⟩ := List.mem_map.1 ha
        have := hnn i c ((hm i).1 hi) ((hm c).1 hc)
        show 1 ≤ ((N : Int) * A i c + 1).toNat
        omega) (fun a ha => by
        obtain ⟨i, hi, rfl⟩ := List.mem_map.1 ha
        have h2 := rs_cast (N := (N : Int)) (A i) (List.range n) fun c hc => by have := hnn i c ((hm i).1 hi) ((hm c).1 hc); omega
        rw [hr i ((hm i).1 hi), List.length_range] at h2
        exact_mod_cast h2) (fun c hcc => by
        have h2 := cs_cast (N := (N : Int)) (A := A) (c := c) (List.range n) fun i hi => by have := hnn i c ((hm i).1 hi) ((hm c).1 hcc); omega
        rw [hc c ((hm c).1 hcc), List.length_range] at h2
        exact_mod_cast h2)
    rw [List.length_map, List.length_range] at h1
    have e : pr (((List.range n).map fun i c => ((N : Int) * A i c + 1).toNat).map rr) (List.range n) = (pL (((List.range n).map A).map (more (N : Int))) (List.range n) : Rat) := by
      rw [← cast_pr _ _ (by simp), List.map_map, List.map_map, List.map_map]
      refine pr_congrA _ _ fun i hi c hc => ?_
      have h2 := hnn i c ((hm i).1 hi) ((hm c).1 hc)
      show ((((N : Int) * A i c + 1).toNat : Nat) : Rat) = ((more (N : Int) (A i) c : Int) : Rat)
      have h3 : ((((N : Int) * A i c + 1).toNat : Nat) : Int) = more (N : Int) (A i) c := by unfold more; omega
      rw [← h3]; rfl
    rw [e] at h1
    exact_mod_cast h1
  obtain ⟨p, hp⟩ : ∃ p, p = per A n := ⟨_, rfl⟩
  have hp' : pL ((List.range n).map A) (List.range n) = p := hp.symm
  rw [hp'] at hD
  rw [← hp]
  obtain ⟨a, ha⟩ : ∃ a : Int, a = (n : Int) ^ n := ⟨_, rfl⟩
  obtain ⟨b, hb⟩ : ∃ b : Int, b = (fct n : Int) * (k : Int) ^ n := ⟨_, rfl⟩
  have ha0 : 0 ≤ a := by rw [ha]; exact Int.pow_nonneg (by omega)
  have key2 : ∀ N : Nat, 1 ≤ N → (N : Int) * b ≤ a * ((N : Int) * p + D) := fun N hN => by
    have h1 := key N hN
    have h2 := hD N (by omega)
    have hNp : (0 : Int) < (N : Int) ^ n := Int.pow_pos (by omega)
    have h3 : ((N * k : Nat) : Int) ^ n ≤ ((N * k + n : Nat) : Int) ^ n := by exact_mod_cast Nat.pow_le_pow_left (Nat.le_add_right (N * k) n) n
    have e3 : ((N * k : Nat) : Int) ^ n = (N : Int) ^ n * (k : Int) ^ n := by push_cast; exact Int.mul_pow ..
    rw [e3] at h3
    rw [← ha] at h1
    have hf : (0 : Int) ≤ (fct n : Int) := by omega
    have h4 := Int.mul_nonneg hf (show 0 ≤ ((N * k + n : Nat) : Int) ^ n - (N : Int) ^ n * (k : Int) ^ n by omega)
    obtain ⟨q, hq⟩ : ∃ q, q = pL (((List.range n).map A).map (more (N : Int))) (List.range n) := ⟨_, rfl⟩
    rw [← hq] at h1 h2
    obtain ⟨M, hM⟩ : ∃ M : Int, M = (N : Int) ^ n := ⟨_, rfl⟩
    rw [← hM] at h2 h4 hNp
    have h5 : M * b ≤ a * q := by rw [hb]; grind
    have h6 := Int.mul_nonneg ha0 (show 0 ≤ M * ((N : Int) * p + D) - (N : Int) * q by omega)
    have h7 := Int.mul_nonneg (show 0 ≤ (N : Int) by omega) (show 0 ≤ a * q - M * b by omega)
    refine Int.le_of_mul_le_mul_left (a := M) ?_ hNp
    grind
  by_cases hle : b ≤ a * p
  · rw [← hb, ← ha]; exact hle
  · exfalso
    have h1 := key2 (a * D + 1).toNat (by have := Int.mul_nonneg ha0 hD0; omega)
    have h2 := Int.mul_nonneg ha0 hD0
    rw [Int.toNat_of_nonneg (by omega)] at h1
    have h3 := Int.mul_nonneg (show 0 ≤ a * D + 1 by omega) (show 0 ≤ b - a * p - 1 by omega)
    grind
end VW
end Go.Proofs.Ytdpckinhoooigaa

/- The walk's own calculus: a weakest precondition over an environment of slots, and its soundness over the kit's Code.wp. -/
import Derived.Test.YtfbkoombkmpjkaaRows
import Derived.WalkKit
import Derived.StillTail
import Derived.OrdersHeld
import Derived.KernelRfl
namespace Go.Proofs.Ytfbkoombkmpjkaa
namespace Gv

abbrev Env := Nat → Value
def up (ρ : Env) (i : Nat) (v : Value) : Env := fun j => bif Nat.beq j i then v else ρ j
def upo (ρ : Env) (d : Option Nat) (v : Value) : Env := match d with | some i => up ρ i v | none => ρ
def ev (ρ : Env) (x : Operand) : Value :=
  match x with
  | .tmp t => ρ t
  | .const v => v
  | .global g => .pointer (some ⟨g, 0, none⟩)
  | .func f => .func (.func f) #[] #[]
def envOf (a : Act) : Env := fun t => a.tmps.getD t undef

theorem ev_fun (a : Act) : ev (envOf a) = a.eval := by funext x; cases x <;> rfl

theorem up_same (ρ : Env) (i : Nat) (v : Value) : up ρ i v i = v := by simp [up]
theorem up_ne (ρ : Env) (i j : Nat) (v : Value) (h : j ≠ i) : up ρ i v j = ρ j := by
  have : Nat.beq j i = false := by
    cases hb : Nat.beq j i
    · rfl
    · exact absurd (Nat.eq_of_beq_eq_true hb) h
  simp [up, this]
theorem up_id (ρ : Env) (i : Nat) (v : Value) (h : ρ i = v) : up ρ i v = ρ := by
  funext j
  by_cases hj : j = i
  · subst hj; rw [up_same, h]
  · rw [up_ne _ _ _ _ hj]

def inv (n : Nat) (a : Act) : Prop := a.defers = [] ∧ a.tmps.size = n

theorem envOf_put (a : Act) (d : Nat) (v : Value) (h : d < a.tmps.size) : envOf (a.put (some d) v) = up (envOf a) d v := by
  funext j
  by_cases hj : j = d
  · subst hj
    rw [up_same]
    simp [envOf, Act.put, Array.getD, h]
  · rw [up_ne _ _ _ _ hj]
    simp only [envOf, Act.put, Array.getD_eq_getD_getElem?]
    rw [Array.getElem?_setIfInBounds_ne (by omega)]
theorem inv_put {n : Nat} {a : Act} (h : inv n a) (d : Option Nat) (v : Value) : inv n (a.put d v) := by
  cases d <;> simp_all [inv, Act.put]

def dstOk (n : Nat) (o : Oper) : Bool := match o.dst with | some d => Nat.blt d n | none => true
theorem envOf_puto {n : Nat} {a : Act} (h : inv n a) (o : Oper) (ho : dstOk n o = true) (v : Value) : envOf (a.put o.dst v) = upo (envOf a) o.dst v := by
  unfold dstOk at ho
  cases hd : o.dst with
  | none => rfl
  | some d =>
    rw [hd] at ho
    exact envOf_put a d v (by rw [h.2]; simpa using ho)

def After (P : Program) (st : Bool) (d : Option Nat) (K : Env → World → Prop) (ρ : Env) (w : World) : Result Next → Prop
  | .ok (.value v) w' => (st = true → w' = w) ∧ K (upo ρ d v) w'
  | .ok .skip w' => (st = true → w' = w) ∧ K (upo ρ d undef) w'
  | .ok (.enter f args) w' =>
    (st = true → w' = w ∧ ∃ v, Calls P f args w (fun e w'' => e = .returned v ∧ w'' = w) ∧ K (upo ρ d v) w) ∧
    (st = false → Calls P f args w' (fun e w'' => ∃ v, e = .returned v ∧ K (upo ρ d v) w''))
  | _ => False
def w1 (P : Program) (st : Bool) (o : Oper) (K : Env → World → Prop) (ρ : Env) (w : World) : Prop := After P st o.dst K ρ w ((execOp (ev ρ) o).run P w)
def wl (P : Program) (st : Bool) (ops : Array Oper) : List Oper → (Env → World → Prop) → Env → World → Prop
  | [], K, ρ, w => K ρ w
  | o :: r, K, ρ, w =>
    match o.guard with
    | none => w1 P st o (wl P st ops r K) ρ w
    | some (j, b) => (∃ t tb, (ops[j]?).bind (·.dst) = some t ∧ ρ t = .bool tb ∧
        (tb = b → w1 P st o (wl P st ops r K) (up ρ t (.bool b)) w) ∧ (tb = (!b) → wl P st ops r K (upo (up ρ t (.bool (!b))) o.dst undef) w)) ∨
      (∃ t, (ops[j]?).bind (·.dst) = some t ∧ ρ t = undef ∧ wl P st ops r K (upo ρ o.dst undef) w)

theorem yielded_of {ops : Array Oper} {a : Act} {j t : Nat} {tb : Bool} (h : (ops[j]?).bind (·.dst) = some t) (ht : envOf a t = .bool tb) :
    yielded ops a.tmps j = some tb := by
  unfold yielded
  rw [h]
  simp only [envOf, Array.getD_eq_getD_getElem?] at ht
  simp only [Option.bind_some]
  cases hx : a.tmps[t]? with
  | none => rw [hx] at ht; simp [undef] at ht
  | some v => rw [hx] at ht; simp at ht; subst ht; rfl

theorem yielded_undef {ops : Array Oper} {a : Act} {j t : Nat} (h : (ops[j]?).bind (·.dst) = some t) (ht : envOf a t = undef) :
    yielded ops a.tmps j = none := by
  unfold yielded
  rw [h]
  simp only [envOf, Array.getD_eq_getD_getElem?] at ht
  simp only [Option.bind_some]
  cases hx : a.tmps[t]? with
  | none => rfl
  | some v => rw [hx] at ht; simp [undef] at ht; subst ht; rfl

theorem w1_wp {P : Program} {n : Nat} {o : Oper} {a : Act} {w : World} {K : Env → World → Prop} {next : Act → World → Prop} {Q : Exit → Act → World → Prop}
    (ha : inv n a) (ho : dstOk n o = true) (h : w1 P false o K (envOf a) w) (hK : ∀ a w, inv n a → K (envOf a) w → next a w) : o.wp P a w next Q := by
  unfold w1 at h
  rw [ev_fun] at h
  unfold Oper.wp
  generalize (execOp a.eval o).run P w = r at *
  cases r with
  | halt x w' => cases x <;> exact h.elim
  | ok x w' =>
    cases x with
    | value v => exact hK _ _ (inv_put ha _ _) (by rw [envOf_puto ha o ho]; exact h.2)
    | skip => exact hK _ _ (inv_put ha _ _) (by rw [envOf_puto ha o ho]; exact h.2)
    | enter f args =>
      refine (h.2 rfl).mono ?_
      rintro e w'' ⟨v, rfl, hv⟩
      exact hK _ _ (inv_put ha _ _) (by rw [envOf_puto ha o ho]; exact hv)
    | _ => exact h.elim
theorem w1_still {P : Program} {n : Nat} {o : Oper} {a : Act} {w : World} {K : Env → World → Prop} {next : Act → Prop}
    (ha : inv n a) (ho : dstOk n o = true) (h : w1 P true o K (envOf a) w) (hK : ∀ a, inv n a → K (envOf a) w → next a) : o.still P a w next := by
  unfold w1 at h
  rw [ev_fun] at h
  unfold Oper.still
  generalize (execOp a.eval o).run P w = r at *
  cases r with
  | halt x w' => cases x <;> exact h.elim
  | ok x w' =>
    cases x with
    | value v =>
      obtain ⟨h1, h2⟩ := h
      have := h1 rfl; subst this
      exact ⟨rfl, hK _ (inv_put ha _ _) (by rw [envOf_puto ha o ho]; exact h2)⟩
    | skip =>
      obtain ⟨h1, h2⟩ := h
      have := h1 rfl; subst this
      exact ⟨rfl, hK _ (inv_put ha _ _) (by rw [envOf_puto ha o ho]; exact h2)⟩
    | enter f args =>
      obtain ⟨hw, v, hc, hv⟩ := h.1 rfl
      exact ⟨hw, v, hc, hK _ (inv_put ha _ _) (by rw [envOf_puto ha o ho]; exact hv)⟩
    | _ => exact h.elim

theorem wl_wp {P : Program} {n : Nat} {ops : Array Oper} {Q : Exit → Act → World → Prop} {K : Env → World → Prop}
    (hK : ∀ a w, inv n a → K (envOf a) w → Q .normal a w) : ∀ (l : List Oper) (a : Act) (w : World), inv n a → l.all (dstOk n) = true →
      wl P false ops l K (envOf a) w → wpList P ops Q l a w
  | [], a, w, ha, _, h => hK a w ha h
  | o :: r, a, w, ha, hd, h => by
    simp only [List.all_cons, Bool.and_eq_true] at hd
    have ih := wl_wp (P := P) (ops := ops) (Q := Q) hK r
    unfold wl at h
    unfold wpList
    cases hg : o.guard with
    | none =>
      rw [hg] at h
      simp only [Region.wanted, hg, if_true]
      exact .inl (w1_wp ha hd.1 h (fun a w ha h => ih a w ha hd.2 h))
    | some jb =>
      obtain ⟨j, b⟩ := jb
      rw [hg] at h
      rcases h with h | ⟨t, ht, hb, h⟩
      rotate_left 1
      · simp only [Region.wanted, hg, yielded_undef ht hb]
        rw [if_neg (by simp)]
        rw [← envOf_puto ha o hd.1] at h
        exact ih _ _ (inv_put ha _ _) hd.2 h
      obtain ⟨t, tb, ht, hb, h1, h2⟩ := h
      simp only [Region.wanted, hg, yielded_of ht hb]
      by_cases he : tb = b
      · subst he
        rw [if_pos (by simp)]
        have := h1 rfl
        rw [up_id _ _ _ hb] at this
        exact .inl (w1_wp ha hd.1 this (fun a w ha h => ih a w ha hd.2 h))
      · have he' : tb = !b := by cases tb <;> cases b <;> simp_all
        rw [if_neg (by simp [he])]
        have := h2 he'
        subst he'
        rw [up_id _ _ _ hb, ← envOf_puto ha o hd.1] at this
        exact ih _ _ (inv_put ha _ _) hd.2 this
theorem wl_still {P : Program} {n : Nat} {ops : Array Oper} {Q : Act → Prop} {K : Env → World → Prop} {w : World}
    (hK : ∀ a, inv n a → K (envOf a) w → Q a) : ∀ (l : List Oper) (a : Act), inv n a → l.all (dstOk n) = true →
      wl P true ops l K (envOf a) w → wpStill P ops w Q l a
  | [], a, ha, _, h => hK a ha h
  | o :: r, a, ha, hd, h => by
    simp only [List.all_cons, Bool.and_eq_true] at hd
    have ih := wl_still (P := P) (ops := ops) (Q := Q) hK r
    unfold wl at h
    unfold wpStill
    cases hg : o.guard with
    | none =>
      rw [hg] at h
      simp only [Region.wanted, hg, if_true]
      exact w1_still ha hd.1 h (fun a ha h => ih a ha hd.2 h)
    | some jb =>
      obtain ⟨j, b⟩ := jb
      rw [hg] at h
      rcases h with h | ⟨t, ht, hb, h⟩
      rotate_left 1
      · simp only [Region.wanted, hg, yielded_undef ht hb]
        rw [if_neg (by simp)]
        rw [← envOf_puto ha o hd.1] at h
        exact ih _ (inv_put ha _ _) hd.2 h
      obtain ⟨t, tb, ht, hb, h1, h2⟩ := h
      simp only [Region.wanted, hg, yielded_of ht hb]
      by_cases he : tb = b
      · subst he
        rw [if_pos (by simp)]
        have := h1 rfl
        rw [up_id _ _ _ hb] at this
        exact w1_still ha hd.1 this (fun a ha h => ih a ha hd.2 h)
      · have he' : tb = !b := by cases tb <;> cases b <;> simp_all
        rw [if_neg (by simp [he])]
        have := h2 he'
        subst he'
        rw [up_id _ _ _ hb, ← envOf_puto ha o hd.1] at this
        exact ih _ (inv_put ha _ _) hd.2 this

/- Regions that draw their order and store: a plan of what comes up; 'true': taken first, whatever the order, since it yields the same in every world of S. -/
def planOk (ops : Array Oper) : List (Nat × Bool) → Array Bool → Bool
  | [], listed => (Region.ready .any ops listed).isEmpty
  | (i, true) :: r, listed => Region.free .any ops listed i && (Region.ready .any ops listed).contains i && planOk ops r (listed.setIfInBounds i true)
  | (i, false) :: r, listed => (Region.ready .any ops listed == [i]) && planOk ops r (listed.setIfInBounds i true)
def wh (P : Program) (ops : Array Oper) (S : World → Prop) : List (Nat × Bool) → (Env → World → Prop) → Env → World → Prop
  | [], K, ρ, w => K ρ w
  | (i, true) :: r, K, ρ, w => ∃ o v, ops[i]? = some o ∧ o.guard = none ∧ (∀ w', S w' → (execOp (ev ρ) o).run P w' = .ok (.value v) w') ∧ wh P ops S r K (upo ρ o.dst v) w
  | (i, false) :: r, K, ρ, w => ∃ o, ops[i]? = some o ∧ o.guard = none ∧ w1 P false o (fun ρ' w' => S w' ∧ wh P ops S r K ρ' w') ρ w
def QN (n : Nat) (K : Env → World → Prop) : Exit → Act → World → Prop
  | .normal, a, w => inv n a ∧ K (envOf a) w
  | _, _, _ => False
theorem wh_any {P : Program} {n : Nat} {ops : Array Oper} {S : World → Prop} {K : Env → World → Prop} (hd : ops.toList.all (dstOk n) = true) (hs : Region.noSelect ops = true) :
    ∀ (plan : List (Nat × Bool)) (listed : Array Bool) (fuel : Nat) (a : Act) (w : World), planOk ops plan listed = true → plan.length ≤ fuel → S w → inv n a → wh P ops S plan K (envOf a) w →
      wpAnyH P .any ops (QN n K) S fuel listed a w
  | [], listed, fuel, a, w, hp, hf, hS, ha, h => by
    simp only [planOk, List.isEmpty_iff] at hp
    cases fuel with
    | zero => exact ⟨hp, ha, h⟩
    | succ f => exact ⟨fun _ => ⟨ha, h⟩, fun i hi => by rw [hp] at hi; cases hi⟩
  | (i, true) :: r, listed, fuel, a, w, hp, hf, hS, ha, h => by
    simp only [planOk, Bool.and_eq_true] at hp
    obtain ⟨o, v, ho, hg, hy, hr⟩ := h
    have hdo : dstOk n o = true := List.all_eq_true.1 hd o (by rw [Array.mem_toList_iff]; exact Array.mem_of_getElem? ho)
    cases fuel with
    | zero => simp at hf
    | succ f =>
      refine wpAnyH_take (v := v) ho hs hp.1.1 hp.1.2 (fun c a w hq => hq.elim) (.inl ⟨by simp [Region.wanted, hg], fun w' hw' => ?_⟩) hS ?_
      · rw [← ev_fun]; exact hy w' hw'
      · refine wh_any hd hs r _ f _ w hp.2 (by simpa using hf) hS (inv_put ha _ _) ?_
        rw [envOf_puto ha o hdo]; exact hr
  | (i, false) :: r, listed, fuel, a, w, hp, hf, hS, ha, h => by
    simp only [planOk, Bool.and_eq_true, beq_iff_eq] at hp
    obtain ⟨o, ho, hg, hr⟩ := h
    have hdo : dstOk n o = true := List.all_eq_true.1 hd o (by rw [Array.mem_toList_iff]; exact Array.mem_of_getElem? ho)
    cases fuel with
    | zero => simp at hf
    | succ f =>
      refine wpAnyH_all hp.1 (by simp) fun j hj => ?_
      simp only [List.mem_singleton] at hj
      subst hj
      unfold wpOp
      simp only [ho, Region.wanted, hg, if_true]
      exact .inl (w1_wp ha hdo hr fun a' w' ha' h' => ⟨h'.1, wh_any hd hs r _ f a' w' hp.2 (by simpa using hf) h'.1 ha' h'.2⟩)

/- Plans in which, at a place, either of two may come up. -/
inductive PB where
  | done
  | take (i : Nat) (r : PB)
  | one (i : Nat) (r : PB)
  | two (i : Nat) (r : PB) (j : Nat) (s : PB)
def PB.len : PB → Nat
  | .done => 0
  | .take _ r => r.len + 1
  | .one _ r => r.len + 1
  | .two _ r _ s => max r.len s.len + 1
def planOkB (ops : Array Oper) : PB → Array Bool → Bool
  | .done, listed => (Region.ready .any ops listed).isEmpty
  | .take i r, listed => Region.free .any ops listed i && (Region.ready .any ops listed).contains i && planOkB ops r (listed.setIfInBounds i true)
  | .one i r, listed => (Region.ready .any ops listed == [i]) && planOkB ops r (listed.setIfInBounds i true)
  | .two i r j s, listed => (Region.ready .any ops listed == [i, j]) && (planOkB ops r (listed.setIfInBounds i true) && planOkB ops s (listed.setIfInBounds j true))
/-- The guard of an operation lets it come up. -/
def GdOk (ops : Array Oper) (ρ : Env) (o : Oper) : Prop := match o.guard with
  | none => True
  | some (j, b) => ∃ t, (ops[j]?).bind (·.dst) = some t ∧ ρ t = .bool b
theorem GdOk.of_none {ops : Array Oper} {ρ : Env} {o : Oper} (h : o.guard = none) : GdOk ops ρ o := by unfold GdOk; rw [h]; trivial
theorem GdOk.of_some {ops : Array Oper} {ρ : Env} {o : Oper} {j t : Nat} {b : Bool} (h : o.guard = some (j, b)) (hj : (ops[j]?).bind (·.dst) = some t) (ht : ρ t = .bool b) : GdOk ops ρ o := by
  unfold GdOk; rw [h]; exact ⟨t, hj, ht⟩
theorem GdOk.wanted {ops : Array Oper} {a : Act} {o : Oper} (h : GdOk ops (envOf a) o) : Region.wanted o (yielded ops a.tmps) = true := by
  unfold GdOk at h
  unfold Region.wanted
  cases hg : o.guard with
  | none => rfl
  | some jb =>
    obtain ⟨j, b⟩ := jb
    rw [hg] at h
    obtain ⟨t, hj, ht⟩ := h
    simp [yielded_of hj ht]
def whB (P : Program) (ops : Array Oper) (S : World → Prop) : PB → (Env → World → Prop) → Env → World → Prop
  | .done, K, ρ, w => K ρ w
  | .take i r, K, ρ, w => ∃ o v, ops[i]? = some o ∧ GdOk ops ρ o ∧ (∀ w', S w' → (execOp (ev ρ) o).run P w' = .ok (.value v) w') ∧ whB P ops S r K (upo ρ o.dst v) w
  | .one i r, K, ρ, w => ∃ o, ops[i]? = some o ∧ GdOk ops ρ o ∧ w1 P false o (fun ρ' w' => S w' ∧ whB P ops S r K ρ' w') ρ w
  | .two i r j s, K, ρ, w => (∃ o, ops[i]? = some o ∧ GdOk ops ρ o ∧ w1 P false o (fun ρ' w' => S w' ∧ whB P ops S r K ρ' w') ρ w) ∧
      (∃ o, ops[j]? = some o ∧ GdOk ops ρ o ∧ w1 P false o (fun ρ' w' => S w' ∧ whB P ops S s K ρ' w') ρ w)
theorem whB_any {P : Program} {n : Nat} {ops : Array Oper} {S : World → Prop} {K : Env → World → Prop} (hd : ops.toList.all (dstOk n) = true) (hs : Region.noSelect ops = true) :
    ∀ (plan : PB) (listed : Array Bool) (fuel : Nat) (a : Act) (w : World), planOkB ops plan listed = true → plan.len ≤ fuel → S w → inv n a → whB P ops S plan K (envOf a) w →
      wpAnyH P .any ops (QN n K) S fuel listed a w
  | .done, listed, fuel, a, w, hp, hf, hS, ha, h => by
    simp only [planOkB, List.isEmpty_iff] at hp
    cases fuel with
    | zero => exact ⟨hp, ha, h⟩
    | succ f => exact ⟨fun _ => ⟨ha, h⟩, fun i hi => by rw [hp] at hi; cases hi⟩
  | .take i r, listed, fuel, a, w, hp, hf, hS, ha, h => by
    simp only [planOkB, Bool.and_eq_true] at hp
    obtain ⟨o, v, ho, hg, hy, hr⟩ := h
    have hdo : dstOk n o = true := List.all_eq_true.1 hd o (by rw [Array.mem_toList_iff]; exact Array.mem_of_getElem? ho)
    cases fuel with
    | zero => simp [PB.len] at hf
    | succ f =>
      refine wpAnyH_take (v := v) ho hs hp.1.1 hp.1.2 (fun c a w hq => hq.elim) (.inl ⟨hg.wanted, fun w' hw' => ?_⟩) hS ?_
      · rw [← ev_fun]; exact hy w' hw'
      · refine whB_any hd hs r _ f _ w hp.2 (by simpa [PB.len] using hf) hS (inv_put ha _ _) ?_
        rw [envOf_puto ha o hdo]; exact hr
  | .one i r, listed, fuel, a, w, hp, hf, hS, ha, h => by
    simp only [planOkB, Bool.and_eq_true, beq_iff_eq] at hp
    obtain ⟨o, ho, hg, hr⟩ := h
    have hdo : dstOk n o = true := List.all_eq_true.1 hd o (by rw [Array.mem_toList_iff]; exact Array.mem_of_getElem? ho)
    cases fuel with
    | zero => simp [PB.len] at hf
    | succ f =>
      refine wpAnyH_all hp.1 (by simp) fun j hj => ?_
      simp only [List.mem_singleton] at hj
      subst hj
      unfold wpOp
      simp only [ho, hg.wanted, if_true]
      exact .inl (w1_wp ha hdo hr fun a' w' ha' h' => ⟨h'.1, whB_any hd hs r _ f a' w' hp.2 (by simpa [PB.len] using hf) h'.1 ha' h'.2⟩)
  | .two i r j s, listed, fuel, a, w, hp, hf, hS, ha, h => by
    simp only [planOkB, Bool.and_eq_true, beq_iff_eq] at hp
    obtain ⟨⟨o, ho, hg, hr⟩, ⟨o2, ho2, hg2, hr2⟩⟩ := h
    have hdo : dstOk n o = true := List.all_eq_true.1 hd o (by rw [Array.mem_toList_iff]; exact Array.mem_of_getElem? ho)
    have hdo2 : dstOk n o2 = true := List.all_eq_true.1 hd o2 (by rw [Array.mem_toList_iff]; exact Array.mem_of_getElem? ho2)
    cases fuel with
    | zero => simp [PB.len] at hf
    | succ f =>
      simp only [PB.len] at hf
      refine wpAnyH_all hp.1 (by simp) fun k hk => ?_
      simp only [List.mem_cons, List.not_mem_nil, or_false] at hk
      rcases hk with rfl | rfl
      · unfold wpOp
        simp only [ho, hg.wanted, if_true]
        exact .inl (w1_wp ha hdo hr fun a' w' ha' h' => ⟨h'.1, whB_any hd hs r _ f a' w' hp.2.1 (by omega) h'.1 ha' h'.2⟩)
      · unfold wpOp
        simp only [ho2, hg2.wanted, if_true]
        exact .inl (w1_wp ha hdo2 hr2 fun a' w' ha' h' => ⟨h'.1, whB_any hd hs s _ f a' w' hp.2.2 (by omega) h'.1 ha' h'.2⟩)
def PB.ofList : List (Nat × Bool) → PB
  | [] => .done
  | (i, true) :: r => .take i (PB.ofList r)
  | (i, false) :: r => .one i (PB.ofList r)
theorem PB.ofList_len : ∀ l : List (Nat × Bool), (PB.ofList l).len = l.length
  | [] => rfl
  | (i, true) :: r => by simp [PB.ofList, PB.len, PB.ofList_len r]
  | (i, false) :: r => by simp [PB.ofList, PB.len, PB.ofList_len r]
theorem planOkB_ofList (ops : Array Oper) : ∀ (l : List (Nat × Bool)) (listed : Array Bool), planOkB ops (PB.ofList l) listed = planOk ops l listed
  | [], _ => rfl
  | (i, true) :: r, listed => by simp only [PB.ofList, planOkB, planOk, planOkB_ofList ops r]
  | (i, false) :: r, listed => by simp only [PB.ofList, planOkB, planOk, planOkB_ofList ops r]
theorem whB_ofList {P : Program} {ops : Array Oper} {S : World → Prop} {K : Env → World → Prop} : ∀ (l : List (Nat × Bool)) (ρ : Env) (w : World), wh P ops S l K ρ w → whB P ops S (PB.ofList l) K ρ w
  | [], _, _, h => h
  | (i, true) :: r, ρ, w, h => by
    obtain ⟨o, v, h1, h2, h3, h4⟩ := h
    exact ⟨o, v, h1, .of_none h2, h3, whB_ofList r _ w h4⟩
  | (i, false) :: r, ρ, w, h => by
    obtain ⟨o, h1, h2, h3⟩ := h
    refine ⟨o, h1, .of_none h2, ?_⟩
    unfold w1 at *
    generalize (execOp (ev ρ) o).run P w = x at *
    cases x with
    | halt x w' => cases x <;> exact h3.elim
    | ok x w' =>
      cases x with
      | value v => exact ⟨h3.1, h3.2.1, whB_ofList r _ _ h3.2.2⟩
      | skip => exact ⟨h3.1, h3.2.1, whB_ofList r _ _ h3.2.2⟩
      | enter f args =>
        refine ⟨fun e => (by cases e), fun e => ?_⟩
        refine (h3.2 e).mono ?_
        rintro e w'' ⟨v, he, hv⟩
        exact ⟨v, he, hv.1, whB_ofList r _ _ hv.2⟩
      | _ => exact h3.elim

def thenQ (next : Env → World → Prop) (Q : Exit → Env → World → Prop) : Exit → Env → World → Prop
  | .normal, ρ, w => next ρ w
  | e, ρ, w => Q e ρ w
def inBl (id : Nat) (Q : Exit → Env → World → Prop) : Exit → Env → World → Prop
  | .exit i, ρ, w => (i = id → Q .normal ρ w) ∧ (i ≠ id → Q (.exit i) ρ w)
  | e, ρ, w => Q e ρ w
def wc (P : Program) : Code → (Exit → Env → World → Prop) → Env → World → Prop
  | .skip, Q, ρ, w => Q .normal ρ w
  | .label _, Q, ρ, w => Q .normal ρ w
  | .region _ ops false, Q, ρ, w => wl P false ops ops.toList (Q .normal) ρ w
  | .region _ ops true, Q, ρ, w => P.follows .mixedOrders = true ∧ ((∃ n, Region.lexTailB .any ops n = true ∧
      wl P true ops (ops.toList.take n) (fun ρ' w' => wl P false ops (ops.toList.drop n) (Q .normal) ρ' w') ρ w.drew) ∨
    (∃ S plan, Region.noSelect ops = true ∧ planOkB ops plan (Array.replicate ops.size false) = true ∧ plan.len ≤ ops.size ∧ S w.drew ∧ whB P ops S plan (Q .normal) ρ w.drew))
  | .seq a b, Q, ρ, w => wc P a (thenQ (wc P b Q) Q) ρ w
  | .cond c a b, Q, ρ, w => ∃ t, ev ρ c = .bool t ∧ (t = true → wc P a Q ρ w) ∧ (t = false → wc P b Q ρ w)
  | .block id b, Q, ρ, w => wc P b (inBl id Q) ρ w
  | .loop b, Q, ρ, w => ∃ (I : Env → World → Prop) (μ : Env → World → Nat), I ρ w ∧
      ∀ ρ w, I ρ w → wc P b (thenQ (fun ρ' w' => I ρ' w' ∧ μ ρ' w' < μ ρ w) Q) ρ w
  | .exit id, Q, ρ, w => Q (.exit id) ρ w
  | .ret, Q, ρ, w => Q .ret ρ w
  | _, _, _, _ => False
def codeOk (n : Nat) : Code → Bool
  | .skip | .label _ | .exit _ | .ret => true
  | .region _ ops _ => ops.toList.all (dstOk n)
  | .seq a b => codeOk n a && codeOk n b
  | .cond _ a b => codeOk n a && codeOk n b
  | .block _ b => codeOk n b
  | .loop b => codeOk n b
  | _ => false

def lift (n : Nat) (Q : Exit → Env → World → Prop) : Exit → Act → World → Prop := fun e a w => inv n a ∧ Q e (envOf a) w

theorem wc_wp {P : Program} {n : Nat} : ∀ (c : Code) (Q : Exit → Env → World → Prop) (a : Act) (w : World), codeOk n c = true → inv n a →
    wc P c Q (envOf a) w → c.wp P (lift n Q) a w
  | .skip, Q, a, w, _, ha, h => wp_skip ⟨ha, h⟩
  | .label _, Q, a, w, _, ha, h => wp_label ⟨ha, h⟩
  | .region id ops false, Q, a, w, hc, ha, h => wp_region_list (wl_wp (fun _ _ ha h => ⟨ha, h⟩) _ a w ha hc h)
  | .region id ops true, Q, a, w, hc, ha, h => by
    obtain ⟨hm, h⟩ := h
    have hs := hc
    rcases h with ⟨k, hB, h⟩ | ⟨S, plan, hsel, hp, hlen, hS, h⟩
    rotate_left 1
    · have := wp_region_any (id := id) (P := P) (ops := ops) (Q := QN n (Q .normal)) (a := a) (w := w) hm (wpAny_of_held _ _ _ _ (whB_any hc hsel plan _ _ a w.drew hp hlen hS ha h))
      refine Code.wp_mono ?_ this
      rintro e a' w' hq
      cases e with
      | normal => exact hq
      | _ => exact hq.elim
    simp only [codeOk, List.all_eq_true] at hs
    have := wp_region_still_tail (id := id) (P := P) (Q := lift n Q) (a := a) (w := w) (l := ops.toList) k hm (by simpa using hB)
      (wl_still (n := n) (fun a' ha' h' => wl_wp (Q := lift n Q) (fun _ _ ha h => ⟨ha, h⟩) _ a' _ ha' (List.all_eq_true.2 fun o ho => hs o (List.mem_of_mem_drop ho)) h') _ a ha
        (List.all_eq_true.2 fun o ho => hs o (List.mem_of_mem_take ho)) (by simpa using h))
    simpa using this
  | .seq x y, Q, a, w, hc, ha, h => by
    simp only [codeOk, Bool.and_eq_true] at hc
    refine wp_seq (Code.wp_mono ?_ (wc_wp x _ a w hc.1 ha h))
    rintro e a' w' ⟨ha', hq⟩
    cases e with
    | normal => exact wc_wp y Q a' w' hc.2 ha' hq
    | _ => exact ⟨ha', hq⟩
  | .cond c x y, Q, a, w, hc, ha, h => by
    simp only [codeOk, Bool.and_eq_true] at hc
    obtain ⟨t, ht, h1, h2⟩ := h
    rw [ev_fun] at ht
    exact wp_cond_split ht (fun e => wc_wp x Q a w hc.1 ha (h1 e)) (fun e => wc_wp y Q a w hc.2 ha (h2 e))
  | .block id b, Q, a, w, hc, ha, h => by
    refine wp_block (Code.wp_mono ?_ (wc_wp b _ a w hc ha h))
    rintro e a' w' ⟨ha', hq⟩
    cases e with
    | exit i =>
      simp only [Exit.inBlock]
      split
      · rename_i he; exact ⟨ha', hq.1 he⟩
      · rename_i he; exact ⟨ha', hq.2 he⟩
    | _ => exact ⟨ha', hq⟩
  | .loop b, Q, a, w, hc, ha, h => by
    obtain ⟨I, μ, hI, hr⟩ := h
    refine wp_loop (fun a w => inv n a ∧ I (envOf a) w) (fun a w => μ (envOf a) w) ⟨ha, hI⟩ ?_
    rintro a w ⟨ha, hI⟩
    refine Code.wp_mono ?_ (wc_wp b _ a w hc ha (hr _ _ hI))
    rintro e a' w' ⟨ha', hq⟩
    cases e with
    | normal => exact ⟨⟨ha', hq.1⟩, hq.2⟩
    | _ => exact ⟨ha', hq⟩
  | .exit id, Q, a, w, _, ha, h => wp_exit ⟨ha, h⟩
  | .ret, Q, a, w, _, ha, h => wp_ret ⟨ha, h⟩
  | .goto _, _, _, _, hc, _, _ => by simp [codeOk] at hc
  | .rangeFunc .., _, _, _, hc, _, _ => by simp [codeOk] at hc
  | .scope _, _, _, _, hc, _, _ => by simp [codeOk] at hc
  | .refuse _, _, _, _, hc, _, _ => by simp [codeOk] at hc

def resV (P : Program) (fn : Func) (ρ : Env) (w : World) (v : Value) : Prop :=
  ∀ tmps : Array Value, (∀ t, tmps.getD t undef = ρ t) → (results fn tmps).run P w = .ok v w
def post (P : Program) (fn : Func) (R : Value → World → Prop) : Exit → Env → World → Prop
  | .normal, ρ, w | .ret, ρ, w => ∃ v, resV P fn ρ w v ∧ R v w
  | _, _, _ => False
def env0 (l : List Value) : Env := fun j => l.getD j undef

/-- A contract: it returns, and R holds of what it returns and of the world behind. -/
def Ret (R : Value → World → Prop) : Ending → World → Prop := fun e w' => ∃ v, e = .returned v ∧ R v w'
theorem calls_of_wc {P : Program} {f : FuncId} {fn : Func} {c : Code} {args : List Value} {w : World} {R : Value → World → Prop}
    (hf : P.funcs[f]? = some fn) (hb : fn.body = some c) (hk : codeOk (args.length + (fn.ntmps - args.length)) c = true)
    (h : wc P c (post P fn R) (env0 args) w) : Calls P f args.toArray w (Ret R) := by
  refine calls_of_wp hf hb ?_
  have ha : inv (args.length + (fn.ntmps - args.length)) { tmps := args.toArray ++ Array.replicate (fn.ntmps - args.toArray.size) undef, defers := [] } := by
    simp [inv]
  have he : envOf { tmps := args.toArray ++ Array.replicate (fn.ntmps - args.toArray.size) undef, defers := [] } = env0 args := by
    funext j
    simp only [envOf, env0, Array.getD_eq_getD_getElem?, List.getD_eq_getElem?_getD, Array.getElem?_append, List.size_toArray, List.getElem?_toArray, Array.getElem?_replicate]
    split
    · rfl
    · rename_i hj
      rw [List.getElem?_eq_none (by omega)]
      split <;> rfl
  refine Code.wp_mono ?_ (wc_wp c _ _ w hk ha (he ▸ h))
  rintro e a w' ⟨ha, hq⟩
  cases e with
  | normal => obtain ⟨v, hv, hR⟩ := hq; exact ⟨ha.1, v, hv a.tmps (fun _ => rfl), v, rfl, hR⟩
  | ret => obtain ⟨v, hv, hR⟩ := hq; exact ⟨ha.1, v, hv a.tmps (fun _ => rfl), v, rfl, hR⟩
  | _ => exact hq.elim
theorem res1 {P : Program} {fn : Func} {t : Nat} (h : fn.results = #[.tmp t]) (ρ : Env) (w : World) : resV P fn ρ w (ρ t) := by
  intro tmps ht
  simp [results, h, ht]
theorem res2 {P : Program} {fn : Func} {t u : Nat} (h : fn.results = #[.tmp t, .tmp u]) (ρ : Env) (w : World) : resV P fn ρ w (.tuple #[ρ t, ρ u]) := by
  intro tmps ht
  simp [results, h, ht]
theorem res3 {P : Program} {fn : Func} {t u x : Nat} (h : fn.results = #[.tmp t, .tmp u, .tmp x]) (ρ : Env) (w : World) : resV P fn ρ w (.tuple #[ρ t, ρ u, ρ x]) := by
  intro tmps ht
  simp [results, h, ht]
theorem res4 {P : Program} {fn : Func} {t u x y : Nat} (h : fn.results = #[.tmp t, .tmp u, .tmp x, .tmp y]) (ρ : Env) (w : World) : resV P fn ρ w (.tuple #[ρ t, ρ u, ρ x, ρ y]) := by
  intro tmps ht
  simp [results, h, ht]
theorem res0 {P : Program} {fn : Func} (h : fn.results = #[]) (ρ : Env) (w : World) : resV P fn ρ w (.tuple #[]) := by
  intro tmps ht
  simp [results, h]

theorem post0 {P : Program} {fn : Func} {R : Value → World → Prop} {ρ : Env} {w : World} (h : fn.results = #[]) (hR : R (.tuple #[]) w) : post P fn R .ret ρ w := ⟨_, res0 h ρ w, hR⟩
theorem post0n {P : Program} {fn : Func} {R : Value → World → Prop} {ρ : Env} {w : World} (h : fn.results = #[]) (hR : R (.tuple #[]) w) : post P fn R .normal ρ w := ⟨_, res0 h ρ w, hR⟩
theorem post1 {P : Program} {fn : Func} {R : Value → World → Prop} {ρ : Env} {w : World} {t : Nat} {v : Value} (h : fn.results = #[.tmp t]) (hv : ρ t = v) (hR : R v w) : post P fn R .ret ρ w :=
  ⟨ρ t, res1 h ρ w, hv ▸ hR⟩
theorem post2 {P : Program} {fn : Func} {R : Value → World → Prop} {ρ : Env} {w : World} {t u : Nat} {v1 v2 : Value} (h : fn.results = #[.tmp t, .tmp u]) (h1 : ρ t = v1) (h2 : ρ u = v2) (hR : R (.tuple #[v1, v2]) w) : post P fn R .ret ρ w :=
  ⟨_, res2 h ρ w, by rw [h1, h2]; exact hR⟩
theorem post3 {P : Program} {fn : Func} {R : Value → World → Prop} {ρ : Env} {w : World} {t u s : Nat} {v1 v2 v3 : Value} (h : fn.results = #[.tmp t, .tmp u, .tmp s]) (h1 : ρ t = v1) (h2 : ρ u = v2) (h3 : ρ s = v3)
    (hR : R (.tuple #[v1, v2, v3]) w) : post P fn R .ret ρ w := ⟨_, res3 h ρ w, by rw [h1, h2, h3]; exact hR⟩
theorem post4 {P : Program} {fn : Func} {R : Value → World → Prop} {ρ : Env} {w : World} {t u s q : Nat} {v1 v2 v3 v4 : Value} (h : fn.results = #[.tmp t, .tmp u, .tmp s, .tmp q]) (h1 : ρ t = v1) (h2 : ρ u = v2) (h3 : ρ s = v3) (h4 : ρ q = v4)
    (hR : R (.tuple #[v1, v2, v3, v4]) w) : post P fn R .ret ρ w := ⟨_, res4 h ρ w, by rw [h1, h2, h3, h4]; exact hR⟩

/- Frames: what a piece of code leaves alone. -/
def agr (keep : List Nat) (ρ ρ' : Env) : Prop := ∀ j, j ∈ keep → ρ' j = ρ j
def offDst (keep : List Nat) (o : Oper) : Bool := match o.dst with | some d => keep.all (fun j => !Nat.beq j d) | none => true
def off (keep : List Nat) : Code → Bool
  | .region _ ops _ => ops.toList.all (offDst keep)
  | .seq a b => off keep a && off keep b
  | .cond _ a b => off keep a && off keep b
  | .block _ b => off keep b
  | .loop b => off keep b
  | _ => true
theorem agr.refl (keep : List Nat) (ρ : Env) : agr keep ρ ρ := fun _ _ => rfl
theorem agr.trans {keep : List Nat} {a b c : Env} (h : agr keep a b) (h' : agr keep b c) : agr keep a c := fun j hj => (h' j hj).trans (h j hj)
theorem agr_upo {keep : List Nat} {o : Oper} (h : offDst keep o = true) (ρ : Env) (v : Value) : agr keep ρ (upo ρ o.dst v) := by
  intro j hj
  unfold offDst at h
  cases hd : o.dst with
  | none => rfl
  | some d =>
    rw [hd] at h
    simp only [List.all_eq_true, Bool.not_eq_true'] at h
    have := h j hj
    exact up_ne _ _ _ _ (by rintro rfl; simp at this)
theorem w1_mono {P : Program} {st : Bool} {o : Oper} {K K' : Env → World → Prop} {ρ : Env} {w : World} (h : w1 P st o K ρ w)
    (hK : ∀ v w', K (upo ρ o.dst v) w' → K' (upo ρ o.dst v) w') : w1 P st o K' ρ w := by
  unfold w1 at *
  generalize (execOp (ev ρ) o).run P w = r at *
  cases r with
  | halt x w' => cases x <;> exact h.elim
  | ok x w' =>
    cases x with
    | value v => exact ⟨h.1, hK _ _ h.2⟩
    | skip => exact ⟨h.1, hK _ _ h.2⟩
    | enter f args =>
      refine ⟨fun e => ?_, fun e => ?_⟩
      · obtain ⟨a, v, hc, hv⟩ := h.1 e; exact ⟨a, v, hc, hK _ _ hv⟩
      · refine (h.2 e).mono ?_
        rintro e w'' ⟨v, he, hv⟩
        exact ⟨v, he, hK _ _ hv⟩
    | _ => exact h.elim
theorem wl_frame {P : Program} {st : Bool} {ops : Array Oper} {keep : List Nat} : ∀ (l : List Oper) (K K' : Env → World → Prop) (ρ0 ρ : Env) (w : World),
    l.all (offDst keep) = true → agr keep ρ0 ρ → (∀ ρ' w', agr keep ρ0 ρ' → K ρ' w' → K' ρ' w') → wl P st ops l K ρ w → wl P st ops l K' ρ w
  | [], K, K', ρ0, ρ, w, _, hρ, hK, h => hK _ _ hρ h
  | o :: r, K, K', ρ0, ρ, w, ho, hρ, hK, h => by
    simp only [List.all_cons, Bool.and_eq_true] at ho
    unfold wl at *
    cases hg : o.guard with
    | none =>
      rw [hg] at h
      exact w1_mono h fun v w' h' => wl_frame r K K' ρ0 _ w' ho.2 (hρ.trans (agr_upo ho.1 _ _)) hK h'
    | some jb =>
      obtain ⟨j, b⟩ := jb
      rw [hg] at h
      rcases h with h | ⟨t, ht, hb, h⟩
      rotate_left 1
      · exact .inr ⟨t, ht, hb, wl_frame r K K' ρ0 _ w ho.2 (hρ.trans (agr_upo ho.1 _ _)) hK h⟩
      obtain ⟨t, tb, ht, hb, h1, h2⟩ := h
      refine .inl ⟨t, tb, ht, hb, fun e => ?_, fun e => ?_⟩
      · subst e
        have := h1 rfl
        rw [up_id _ _ _ hb] at this ⊢
        exact w1_mono this fun v w' h' => wl_frame r K K' ρ0 _ w' ho.2 (hρ.trans (agr_upo ho.1 _ _)) hK h'
      · subst e
        have := h2 rfl
        rw [up_id _ _ _ hb] at this ⊢
        exact wl_frame r K K' ρ0 _ w ho.2 (hρ.trans (agr_upo ho.1 _ _)) hK this
theorem whB_frame {P : Program} {ops : Array Oper} {S : World → Prop} {keep : List Nat} (ho : ops.toList.all (offDst keep) = true) : ∀ (plan : PB) (K K' : Env → World → Prop) (ρ0 ρ : Env) (w : World),
    agr keep ρ0 ρ → (∀ ρ' w', agr keep ρ0 ρ' → K ρ' w' → K' ρ' w') → whB P ops S plan K ρ w → whB P ops S plan K' ρ w
  | .done, K, K', ρ0, ρ, w, hρ, hK, h => hK _ _ hρ h
  | .take i r, K, K', ρ0, ρ, w, hρ, hK, h => by
    obtain ⟨o, v, h1, h2, h3, h4⟩ := h
    have hoo : offDst keep o = true := List.all_eq_true.1 ho o (by rw [Array.mem_toList_iff]; exact Array.mem_of_getElem? h1)
    exact ⟨o, v, h1, h2, h3, whB_frame ho r K K' ρ0 _ w (hρ.trans (agr_upo hoo _ _)) hK h4⟩
  | .one i r, K, K', ρ0, ρ, w, hρ, hK, h => by
    obtain ⟨o, h1, h2, h3⟩ := h
    have hoo : offDst keep o = true := List.all_eq_true.1 ho o (by rw [Array.mem_toList_iff]; exact Array.mem_of_getElem? h1)
    exact ⟨o, h1, h2, w1_mono h3 fun v w' h' => ⟨h'.1, whB_frame ho r K K' ρ0 _ w' (hρ.trans (agr_upo hoo _ _)) hK h'.2⟩⟩
  | .two i r j s, K, K', ρ0, ρ, w, hρ, hK, h => by
    obtain ⟨⟨o, h1, h2, h3⟩, ⟨o2, g1, g2, g3⟩⟩ := h
    have hoo : offDst keep o = true := List.all_eq_true.1 ho o (by rw [Array.mem_toList_iff]; exact Array.mem_of_getElem? h1)
    have hoo2 : offDst keep o2 = true := List.all_eq_true.1 ho o2 (by rw [Array.mem_toList_iff]; exact Array.mem_of_getElem? g1)
    exact ⟨⟨o, h1, h2, w1_mono h3 fun v w' h' => ⟨h'.1, whB_frame ho r K K' ρ0 _ w' (hρ.trans (agr_upo hoo _ _)) hK h'.2⟩⟩,
      ⟨o2, g1, g2, w1_mono g3 fun v w' h' => ⟨h'.1, whB_frame ho s K K' ρ0 _ w' (hρ.trans (agr_upo hoo2 _ _)) hK h'.2⟩⟩⟩
theorem wc_frame {P : Program} {keep : List Nat} : ∀ (c : Code) (Q Q' : Exit → Env → World → Prop) (ρ0 ρ : Env) (w : World),
    off keep c = true → agr keep ρ0 ρ → (∀ e ρ' w', agr keep ρ0 ρ' → Q e ρ' w' → Q' e ρ' w') → wc P c Q ρ w → wc P c Q' ρ w
  | .skip, Q, Q', ρ0, ρ, w, _, hρ, hQ, h => hQ _ _ _ hρ h
  | .label _, Q, Q', ρ0, ρ, w, _, hρ, hQ, h => hQ _ _ _ hρ h
  | .exit _, Q, Q', ρ0, ρ, w, _, hρ, hQ, h => hQ _ _ _ hρ h
  | .ret, Q, Q', ρ0, ρ, w, _, hρ, hQ, h => hQ _ _ _ hρ h
  | .region _ ops false, Q, Q', ρ0, ρ, w, ho, hρ, hQ, h => wl_frame ops.toList _ _ ρ0 ρ w ho hρ (fun ρ' w' => hQ .normal ρ' w') h
  | .region _ ops true, Q, Q', ρ0, ρ, w, ho, hρ, hQ, h => by
    obtain ⟨hm, h⟩ := h
    rcases h with ⟨n, hB, h⟩ | ⟨S, plan, hsel, hp, hlen, hS, h⟩
    rotate_left 1
    · exact ⟨hm, .inr ⟨S, plan, hsel, hp, hlen, hS, whB_frame ho plan _ _ ρ0 ρ _ hρ (fun ρ' w' => hQ .normal ρ' w') h⟩⟩
    simp only [off, List.all_eq_true] at ho
    refine ⟨hm, .inl ⟨n, hB, wl_frame _ _ _ ρ0 ρ _ (List.all_eq_true.2 fun o h => ho o (List.mem_of_mem_take h)) hρ (fun ρ' w' hρ' h' => ?_) h⟩⟩
    exact wl_frame _ _ _ ρ0 ρ' w' (List.all_eq_true.2 fun o h => ho o (List.mem_of_mem_drop h)) hρ' (fun ρ' w' => hQ .normal ρ' w') h'
  | .seq x y, Q, Q', ρ0, ρ, w, ho, hρ, hQ, h => by
    simp only [off, Bool.and_eq_true] at ho
    refine wc_frame x _ _ ρ0 ρ w ho.1 hρ (fun e ρ' w' hρ' h' => ?_) h
    cases e with
    | normal => exact wc_frame y Q Q' ρ0 ρ' w' ho.2 hρ' hQ h'
    | _ => exact hQ _ _ _ hρ' h'
  | .cond c x y, Q, Q', ρ0, ρ, w, ho, hρ, hQ, h => by
    simp only [off, Bool.and_eq_true] at ho
    obtain ⟨t, ht, h1, h2⟩ := h
    exact ⟨t, ht, fun e => wc_frame x Q Q' ρ0 ρ w ho.1 hρ hQ (h1 e), fun e => wc_frame y Q Q' ρ0 ρ w ho.2 hρ hQ (h2 e)⟩
  | .block id b, Q, Q', ρ0, ρ, w, ho, hρ, hQ, h => by
    refine wc_frame b _ _ ρ0 ρ w ho hρ (fun e ρ' w' hρ' h' => ?_) h
    cases e with
    | exit i => exact ⟨fun e => hQ _ _ _ hρ' (h'.1 e), fun e => hQ _ _ _ hρ' (h'.2 e)⟩
    | _ => exact hQ _ _ _ hρ' h'
  | .loop b, Q, Q', ρ0, ρ, w, ho, hρ, hQ, h => by
    obtain ⟨I, μ, hI, hr⟩ := h
    refine ⟨fun ρ' w' => agr keep ρ0 ρ' ∧ I ρ' w', μ, ⟨hρ, hI⟩, fun ρ1 w1 ⟨hρ1, hI1⟩ => ?_⟩
    refine wc_frame b _ _ ρ0 ρ1 w1 ho hρ1 (fun e ρ' w' hρ' h' => ?_) (hr ρ1 w1 hI1)
    cases e with
    | normal => exact ⟨⟨hρ', h'.1⟩, h'.2⟩
    | _ => exact hQ _ _ _ hρ' h'
  | .goto _, _, _, _, _, _, _, _, _, h => h.elim
  | .rangeFunc .., _, _, _, _, _, _, _, _, h => h.elim
  | .scope _, _, _, _, _, _, _, _, _, h => h.elim
  | .refuse _, _, _, _, _, _, _, _, _, h => h.elim
theorem wc_mono {P : Program} {c : Code} {Q Q' : Exit → Env → World → Prop} {ρ : Env} {w : World} (h : wc P c Q ρ w) (hQ : ∀ e ρ' w', Q e ρ' w' → Q' e ρ' w') : wc P c Q' ρ w :=
  wc_frame (keep := []) c Q Q' ρ ρ w (by
    have h1 : ∀ o : Oper, offDst [] o = true := by intro o; unfold offDst; cases o.dst <;> rfl
    have : ∀ c, off [] c = true := by
      intro c
      induction c with
      | region id ops d => simp [off, h1]
      | seq a b iha ihb => simp [off, iha, ihb]
      | cond c a b iha ihb => simp [off, iha, ihb]
      | block id b ih => simpa [off] using ih
      | loop b ih => simpa [off] using ih
      | _ => rfl
    exact this c) (fun _ _ => rfl) (fun e ρ' w' _ => hQ e ρ' w') h

def memb : List Nat → Nat → Bool
  | [], _ => false
  | a :: l, j => bif Nat.beq j a then true else memb l j
theorem memb_iff : ∀ (l : List Nat) (j : Nat), memb l j = true ↔ j ∈ l
  | [], j => by simp [memb]
  | a :: l, j => by
    simp only [memb, List.mem_cons]
    have := memb_iff l j
    by_cases h : j = a
    · subst h; simp
    · have hb : Nat.beq j a = false := by
        cases hb : Nat.beq j a
        · rfl
        · exact absurd (Nat.eq_of_beq_eq_true hb) h
      simp [hb, h, this]
/-- Slots 'keep' as they were, all others unknown. -/
def over (ρ : Env) (keep : List Nat) (x : Env) : Env := fun j => bif memb keep j then ρ j else x j
def updl (ρ : Env) : List (Nat × Value) → Env
  | [] => ρ
  | p :: r => up (updl ρ r) p.1 p.2
def agree (ρ : Env) : List (Nat × Value) → Prop
  | [] => True
  | p :: r => ρ p.1 = p.2 ∧ agree ρ r
theorem env_eq {ρ ρ' : Env} {keep : List Nat} (h : agr keep ρ ρ') : ∀ (l : List (Nat × Value)), agree ρ' l → ρ' = updl (over ρ keep ρ') l
  | [], _ => by
    funext j
    simp only [updl, over]
    cases hm : memb keep j
    · rfl
    · exact h j ((memb_iff _ _).1 hm)
  | p :: r, hl => by
    have ih := env_eq h r hl.2
    simp only [updl]
    rw [← ih]
    exact (up_id _ _ _ hl.1).symm

theorem least {p : Nat → Prop} (h : ∃ n, p n) : ∃ n, p n ∧ ∀ k, p k → n ≤ k := by
  obtain ⟨n, hn⟩ := h
  induction n using Nat.strongRecOn with
  | _ n ih =>
    by_cases hk : ∃ k, k < n ∧ p k
    · obtain ⟨k, hlt, hp⟩ := hk; exact ih k hlt hp
    · exact ⟨n, hn, fun k hp => Nat.le_of_not_lt fun hlt => hk ⟨k, hlt, hp⟩⟩
open Classical in
noncomputable def leastOf (p : Nat → Prop) : Nat := if h : ∃ n, p n then Classical.choose (least h) else 0
theorem leastOf_spec {p : Nat → Prop} (h : ∃ n, p n) : p (leastOf p) ∧ ∀ k, p k → leastOf p ≤ k := by
  unfold leastOf
  rw [dif_pos h]
  exact Classical.choose_spec (least h)
/-- A loop: the state 's' gives the slots 'st s'; the slots 'keep' stay; all others are unknown at the head. -/
theorem wc_loop {P : Program} {b : Code} {Q : Exit → Env → World → Prop} {ρ : Env} {w : World} {σ : Type} (keep : List Nat) (st : σ → List (Nat × Value)) (I : σ → World → Prop) (μ : σ → Nat)
    (s0 : σ) (hk : off keep b = true) (h0 : agree ρ (st s0)) (hI : I s0 w)
    (hr : ∀ s w x, I s w → wc P b (thenQ (fun ρ' w' => ∃ s', agree ρ' (st s') ∧ I s' w' ∧ μ s' < μ s) Q) (updl (over ρ keep x) (st s)) w) :
    wc P (.loop b) Q ρ w := by
  refine ⟨fun ρ' w' => agr keep ρ ρ' ∧ ∃ s, agree ρ' (st s) ∧ I s w', fun ρ' w' => leastOf fun m => ∃ s, agree ρ' (st s) ∧ I s w' ∧ μ s = m, ⟨agr.refl _ _, s0, h0, hI⟩, ?_⟩
  rintro ρ1 w1 ⟨hρ1, s1, hs1, hI1⟩
  have hex : ∃ m, ∃ s, agree ρ1 (st s) ∧ I s w1 ∧ μ s = m := ⟨_, s1, hs1, hI1, rfl⟩
  obtain ⟨⟨s, hs, hIs, hμ⟩, _⟩ := leastOf_spec hex
  have := hr s w1 ρ1 hIs
  rw [← env_eq hρ1 _ hs] at this
  refine wc_frame b _ _ ρ1 ρ1 w1 hk (agr.refl _ _) ?_ this
  intro e ρ' w' hρ' h'
  cases e with
  | normal =>
    obtain ⟨s', ha', hI', hlt⟩ := h'
    refine ⟨⟨hρ1.trans hρ', s', ha', hI'⟩, ?_⟩
    have := (leastOf_spec (p := fun m => ∃ s, agree ρ' (st s) ∧ I s w' ∧ μ s = m) ⟨_, s', ha', hI', rfl⟩).2 _ ⟨s', ha', hI', rfl⟩
    exact Nat.lt_of_le_of_lt this (Nat.lt_of_lt_of_le hlt (Nat.le_of_eq hμ))
  | _ => exact h'
theorem wc_loop2 {P : Program} {bd : Code} {Q : Exit → Env → World → Prop} {ρ : Env} {w : World} {α β : Type} (keep : List Nat) (st : α → β → List (Nat × Value)) (I : α → β → World → Prop) (μ : α → β → Nat)
    (a0 : α) (b0 : β) (hk : off keep bd = true) (h0 : agree ρ (st a0 b0)) (hI : I a0 b0 w)
    (hr : ∀ a b w x, I a b w → wc P bd (thenQ (fun ρ' w' => ∃ a' b', agree ρ' (st a' b') ∧ I a' b' w' ∧ μ a' b' < μ a b) Q) (updl (over ρ keep x) (st a b)) w) :
    wc P (.loop bd) Q ρ w :=
  wc_loop (σ := α × β) keep (fun s => st s.1 s.2) (fun s w => I s.1 s.2 w) (fun s => μ s.1 s.2) (a0, b0) hk h0 hI fun s w x hI => wc_mono (hr s.1 s.2 w x hI) fun e ρ' w' h => by
    cases e with
    | normal => obtain ⟨a', b', h⟩ := h; exact ⟨(a', b'), h⟩
    | _ => exact h
theorem wc_loop3 {P : Program} {bd : Code} {Q : Exit → Env → World → Prop} {ρ : Env} {w : World} {α β γ : Type} (keep : List Nat) (st : α → β → γ → List (Nat × Value)) (I : α → β → γ → World → Prop) (μ : α → β → γ → Nat)
    (a0 : α) (b0 : β) (c0 : γ) (hk : off keep bd = true) (h0 : agree ρ (st a0 b0 c0)) (hI : I a0 b0 c0 w)
    (hr : ∀ a b c w x, I a b c w → wc P bd (thenQ (fun ρ' w' => ∃ a' b' c', agree ρ' (st a' b' c') ∧ I a' b' c' w' ∧ μ a' b' c' < μ a b c) Q) (updl (over ρ keep x) (st a b c)) w) :
    wc P (.loop bd) Q ρ w :=
  wc_loop (σ := α × β × γ) keep (fun s => st s.1 s.2.1 s.2.2) (fun s w => I s.1 s.2.1 s.2.2 w) (fun s => μ s.1 s.2.1 s.2.2) (a0, b0, c0) hk h0 hI fun s w x hI => wc_mono (hr s.1 s.2.1 s.2.2 w x hI) fun e ρ' w' h => by
    cases e with
    | normal => obtain ⟨a', b', c', h⟩ := h; exact ⟨(a', b', c'), h⟩
    | _ => exact h
theorem wc_loop4 {P : Program} {bd : Code} {Q : Exit → Env → World → Prop} {ρ : Env} {w : World} {α β γ δ : Type} (keep : List Nat) (st : α → β → γ → δ → List (Nat × Value)) (I : α → β → γ → δ → World → Prop) (μ : α → β → γ → δ → Nat)
    (a0 : α) (b0 : β) (c0 : γ) (d0 : δ) (hk : off keep bd = true) (h0 : agree ρ (st a0 b0 c0 d0)) (hI : I a0 b0 c0 d0 w)
    (hr : ∀ a b c d w x, I a b c d w → wc P bd (thenQ (fun ρ' w' => ∃ a' b' c' d', agree ρ' (st a' b' c' d') ∧ I a' b' c' d' w' ∧ μ a' b' c' d' < μ a b c d) Q) (updl (over ρ keep x) (st a b c d)) w) :
    wc P (.loop bd) Q ρ w :=
  wc_loop (σ := α × β × γ × δ) keep (fun s => st s.1 s.2.1 s.2.2.1 s.2.2.2) (fun s w => I s.1 s.2.1 s.2.2.1 s.2.2.2 w) (fun s => μ s.1 s.2.1 s.2.2.1 s.2.2.2) (a0, b0, c0, d0) hk h0 hI fun s w x hI => wc_mono (hr s.1 s.2.1 s.2.2.1 s.2.2.2 w x hI) fun e ρ' w' h => by
    cases e with
    | normal => obtain ⟨a', b', c', d', h⟩ := h; exact ⟨(a', b', c', d'), h⟩
    | _ => exact h
theorem wc_loop5 {P : Program} {bd : Code} {Q : Exit → Env → World → Prop} {ρ : Env} {w : World} {α β γ δ ε : Type} (keep : List Nat) (st : α → β → γ → δ → ε → List (Nat × Value)) (I : α → β → γ → δ → ε → World → Prop) (μ : α → β → γ → δ → ε → Nat)
    (a0 : α) (b0 : β) (c0 : γ) (d0 : δ) (e0 : ε) (hk : off keep bd = true) (h0 : agree ρ (st a0 b0 c0 d0 e0)) (hI : I a0 b0 c0 d0 e0 w)
    (hr : ∀ a b c d e w x, I a b c d e w → wc P bd (thenQ (fun ρ' w' => ∃ a' b' c' d' e', agree ρ' (st a' b' c' d' e') ∧ I a' b' c' d' e' w' ∧ μ a' b' c' d' e' < μ a b c d e) Q) (updl (over ρ keep x) (st a b c d e)) w) :
    wc P (.loop bd) Q ρ w :=
  wc_loop (σ := α × β × γ × δ × ε) keep (fun s => st s.1 s.2.1 s.2.2.1 s.2.2.2.1 s.2.2.2.2) (fun s w => I s.1 s.2.1 s.2.2.1 s.2.2.2.1 s.2.2.2.2 w) (fun s => μ s.1 s.2.1 s.2.2.1 s.2.2.2.1 s.2.2.2.2) (a0, b0, c0, d0, e0) hk h0 hI fun s w x hI => wc_mono (hr s.1 s.2.1 s.2.2.1 s.2.2.2.1 s.2.2.2.2 w x hI) fun e ρ' w' h => by
    cases e with
    | normal => obtain ⟨a', b', c', d', e', h⟩ := h; exact ⟨(a', b', c', d', e'), h⟩
    | _ => exact h
/-- Where ways meet: what the first piece leaves. -/
theorem wc_join {P : Program} {c d : Code} {Q : Exit → Env → World → Prop} {ρ : Env} {w : World} {σ : Type} (keep : List Nat) (st : σ → List (Nat × Value)) (I : σ → World → Prop)
    (hk : off keep c = true)
    (h1 : wc P c (thenQ (fun ρ' w' => ∃ s, agree ρ' (st s) ∧ I s w') Q) ρ w)
    (h2 : ∀ s w x, I s w → wc P d Q (updl (over ρ keep x) (st s)) w) : wc P (.seq c d) Q ρ w := by
  refine wc_frame c _ _ ρ ρ w hk (agr.refl _ _) ?_ h1
  intro e ρ' w' hρ' h'
  cases e with
  | normal =>
    obtain ⟨s, hs, hI⟩ := h'
    have := h2 s w' ρ' hI
    rw [← env_eq hρ' _ hs] at this
    exact this
  | _ => exact h'
/-- Where the ways of a test meet again. -/
theorem wc_joinB {P : Program} {c d : Code} {Q : Exit → Env → World → Prop} {ρ : Env} {w : World} (keep : List Nat) (t : Nat) (p : Prop) [Decidable p]
    (hk : off keep c = true)
    (h1 : wc P c (thenQ (fun ρ' w' => ρ' t = .bool (decide p) ∧ w' = w) Q) ρ w)
    (h2 : ∀ x, wc P d Q (up (over ρ keep x) t (.bool (decide p))) w) : wc P (.seq c d) Q ρ w := by
  refine wc_join (σ := Unit) keep (fun _ => [(t, .bool (decide p))]) (fun _ w' => w' = w) hk ?_ ?_
  · refine wc_mono h1 fun e ρ' w' h => ?_
    cases e with
    | normal => exact ⟨(), ⟨h.1, trivial⟩, h.2⟩
    | _ => exact h
  · rintro _ w' x rfl
    exact h2 x
section
variable {P : Program} {st : Bool} {K : Env → World → Prop} {ρ : Env} {w : World} {d : Nat} {ty : TypeId} {pos : String} {aft : Array Edge} {gd : Option (Nat × Bool)}

theorem w1_val {o : Oper} {v : Value} (hr : (execOp (ev ρ) o).run P w = .ok (.value v) w) (h : K (upo ρ o.dst v) w) : w1 P st o K ρ w := by
  unfold w1; rw [hr]; exact ⟨fun _ => rfl, h⟩
theorem w1_val' {o : Oper} {v : Value} {w' : World} (hr : (execOp (ev ρ) o).run P w = .ok (.value v) w') (h : K (upo ρ o.dst v) w') : w1 P false o K ρ w := by
  unfold w1; rw [hr]; exact ⟨fun e => (by cases e), h⟩
theorem w1_skip' {o : Oper} {w' : World} (hr : (execOp (ev ρ) o).run P w = .ok .skip w') (h : K (upo ρ o.dst undef) w') : w1 P false o K ρ w := by
  unfold w1; rw [hr]; exact ⟨fun e => (by cases e), h⟩

theorem wl_nil {ops : Array Oper} (h : K ρ w) : wl P st ops [] K ρ w := h
theorem wl_plain {ops : Array Oper} {x : Op} {dd : Option Nat} {r : List Oper} (h : w1 P st ⟨dd, x, ty, pos, aft, none⟩ (wl P st ops r K) ρ w) :
    wl P st ops (⟨dd, x, ty, pos, aft, none⟩ :: r) K ρ w := h
theorem wl_run {ops : Array Oper} {x : Op} {dd : Option Nat} {r : List Oper} {j t : Nat} {b : Bool} (ht : (ops[j]?).bind (·.dst) = some t) (hb : ρ t = .bool b)
    (h : w1 P st ⟨dd, x, ty, pos, aft, some (j, b)⟩ (wl P st ops r K) ρ w) : wl P st ops (⟨dd, x, ty, pos, aft, some (j, b)⟩ :: r) K ρ w :=
  .inl ⟨t, b, ht, hb, fun _ => by rw [up_id _ _ _ hb]; exact h, fun e => by cases b <;> cases e⟩
theorem wl_pass {ops : Array Oper} {x : Op} {dd : Option Nat} {r : List Oper} {j t : Nat} {b b' : Bool} (ht : (ops[j]?).bind (·.dst) = some t) (hb : ρ t = .bool b') (hn : b' = !b)
    (h : wl P st ops r K (upo ρ dd undef) w) : wl P st ops (⟨dd, x, ty, pos, aft, some (j, b)⟩ :: r) K ρ w :=
  .inl ⟨t, b', ht, hb, fun e => (by subst e; cases b' <;> cases hn), fun e => (by rw [e] at hb; rw [up_id _ _ _ hb]; exact h)⟩
theorem wl_if_t {ops : Array Oper} {x : Op} {dd : Option Nat} {r : List Oper} {j t : Nat} {p : Prop} [Decidable p] (ht : (ops[j]?).bind (·.dst) = some t) (hb : ρ t = .bool (decide p))
    (h1 : p → w1 P st ⟨dd, x, ty, pos, aft, some (j, true)⟩ (wl P st ops r K) (up ρ t (.bool true)) w) (h2 : ¬p → wl P st ops r K (upo (up ρ t (.bool false)) dd undef) w) :
    wl P st ops (⟨dd, x, ty, pos, aft, some (j, true)⟩ :: r) K ρ w :=
  .inl ⟨t, decide p, ht, hb, fun e => h1 (by simpa using e), fun e => h2 (by simpa using e)⟩
theorem wl_if_f {ops : Array Oper} {x : Op} {dd : Option Nat} {r : List Oper} {j t : Nat} {p : Prop} [Decidable p] (ht : (ops[j]?).bind (·.dst) = some t) (hb : ρ t = .bool (decide p))
    (h1 : ¬p → w1 P st ⟨dd, x, ty, pos, aft, some (j, false)⟩ (wl P st ops r K) (up ρ t (.bool false)) w) (h2 : p → wl P st ops r K (upo (up ρ t (.bool true)) dd undef) w) :
    wl P st ops (⟨dd, x, ty, pos, aft, some (j, false)⟩ :: r) K ρ w :=
  .inl ⟨t, decide p, ht, hb, fun e => h1 (by simpa using e), fun e => h2 (by simpa using e)⟩
theorem wl_dead {ops : Array Oper} {x : Op} {dd : Option Nat} {r : List Oper} {j t : Nat} {b : Bool} (ht : (ops[j]?).bind (·.dst) = some t) (hb : ρ t = undef)
    (h : wl P st ops r K (upo ρ dd undef) w) : wl P st ops (⟨dd, x, ty, pos, aft, some (j, b)⟩ :: r) K ρ w := .inr ⟨t, ht, hb, h⟩

theorem wc_skip {Q : Exit → Env → World → Prop} (h : Q .normal ρ w) : wc P .skip Q ρ w := h
theorem wc_label {Q : Exit → Env → World → Prop} {l : Nat} (h : Q .normal ρ w) : wc P (.label l) Q ρ w := h
theorem wc_seq {Q : Exit → Env → World → Prop} {a b : Code} (h : wc P a (thenQ (wc P b Q) Q) ρ w) : wc P (.seq a b) Q ρ w := h
theorem wc_block {Q : Exit → Env → World → Prop} {id : Nat} {b : Code} (h : wc P b (inBl id Q) ρ w) : wc P (.block id b) Q ρ w := h
theorem wc_exit {Q : Exit → Env → World → Prop} {id : Nat} (h : Q (.exit id) ρ w) : wc P (.exit id) Q ρ w := h
theorem wc_ret {Q : Exit → Env → World → Prop} (h : Q .ret ρ w) : wc P .ret Q ρ w := h
theorem wc_region {Q : Exit → Env → World → Prop} {id : Nat} {l : List Oper} (h : wl P false l.toArray l (Q .normal) ρ w) : wc P (.region id l.toArray false) Q ρ w := h
theorem wc_drawn {Q : Exit → Env → World → Prop} {id : Nat} {l : List Oper} (n : Nat) (hm : P.follows .mixedOrders = true) (hB : Region.lexTailB .any l.toArray n = true)
    (h : wl P true l.toArray (l.take n) (fun ρ' w' => wl P false l.toArray (l.drop n) (Q .normal) ρ' w') ρ w.drew) : wc P (.region id l.toArray true) Q ρ w := ⟨hm, .inl ⟨n, hB, h⟩⟩
theorem wc_held {Q : Exit → Env → World → Prop} {id : Nat} {ops : Array Oper} (S : World → Prop) (plan : List (Nat × Bool)) (hm : P.follows .mixedOrders = true)
    (hp : (Region.noSelect ops && planOk ops plan (Array.replicate ops.size false) && Nat.ble plan.length ops.size) = true) (hS : S w.drew) (h : wh P ops S plan (Q .normal) ρ w.drew) : wc P (.region id ops true) Q ρ w := by
  simp only [Bool.and_eq_true] at hp
  exact ⟨hm, .inr ⟨S, PB.ofList plan, hp.1.1, by rw [planOkB_ofList]; exact hp.1.2, by rw [PB.ofList_len]; exact Nat.le_of_ble_eq_true hp.2, hS, whB_ofList plan _ _ h⟩⟩
theorem wc_heldB {Q : Exit → Env → World → Prop} {id : Nat} {ops : Array Oper} (S : World → Prop) (plan : PB) (hm : P.follows .mixedOrders = true)
    (hp : (Region.noSelect ops && planOkB ops plan (Array.replicate ops.size false) && Nat.ble plan.len ops.size) = true) (hS : S w.drew) (h : whB P ops S plan (Q .normal) ρ w.drew) : wc P (.region id ops true) Q ρ w := by
  simp only [Bool.and_eq_true] at hp
  exact ⟨hm, .inr ⟨S, plan, hp.1.1, hp.1.2, Nat.le_of_ble_eq_true hp.2, hS, h⟩⟩
theorem whB_done {ops : Array Oper} {S : World → Prop} (h : K ρ w) : whB P ops S .done K ρ w := h
theorem whB_take {ops : Array Oper} {S : World → Prop} {i : Nat} {r : PB} {o : Oper} {v : Value} (ho : ops[i]? = some o) (hg : o.guard = none) (hy : ∀ w', S w' → (execOp (ev ρ) o).run P w' = .ok (.value v) w')
    (h : whB P ops S r K (upo ρ o.dst v) w) : whB P ops S (.take i r) K ρ w := ⟨o, v, ho, .of_none hg, hy, h⟩
theorem whB_one {ops : Array Oper} {S : World → Prop} {i : Nat} {r : PB} {o : Oper} (ho : ops[i]? = some o) (hg : o.guard = none)
    (h : w1 P false o (fun ρ' w' => S w' ∧ whB P ops S r K ρ' w') ρ w) : whB P ops S (.one i r) K ρ w := ⟨o, ho, .of_none hg, h⟩
theorem whB_two {ops : Array Oper} {S : World → Prop} {i j : Nat} {r s : PB} {o o2 : Oper} (ho : ops[i]? = some o) (hg : o.guard = none) (ho2 : ops[j]? = some o2) (hg2 : o2.guard = none)
    (h : w1 P false o (fun ρ' w' => S w' ∧ whB P ops S r K ρ' w') ρ w) (h2 : w1 P false o2 (fun ρ' w' => S w' ∧ whB P ops S s K ρ' w') ρ w) : whB P ops S (.two i r j s) K ρ w := ⟨⟨o, ho, .of_none hg, h⟩, ⟨o2, ho2, .of_none hg2, h2⟩⟩
theorem whB_takeG {ops : Array Oper} {S : World → Prop} {i j t : Nat} {b : Bool} {r : PB} {o : Oper} {v : Value} (ho : ops[i]? = some o) (hg : o.guard = some (j, b)) (hj : (ops[j]?).bind (·.dst) = some t) (ht : ρ t = .bool b) (hy : ∀ w', S w' → (execOp (ev ρ) o).run P w' = .ok (.value v) w')
    (h : whB P ops S r K (upo ρ o.dst v) w) : whB P ops S (.take i r) K ρ w := ⟨o, v, ho, .of_some hg hj ht, hy, h⟩
theorem whB_oneG {ops : Array Oper} {S : World → Prop} {i j t : Nat} {b : Bool} {r : PB} {o : Oper} (ho : ops[i]? = some o) (hg : o.guard = some (j, b)) (hj : (ops[j]?).bind (·.dst) = some t) (ht : ρ t = .bool b)
    (h : w1 P false o (fun ρ' w' => S w' ∧ whB P ops S r K ρ' w') ρ w) : whB P ops S (.one i r) K ρ w := ⟨o, ho, .of_some hg hj ht, h⟩
theorem wh_nil {ops : Array Oper} {S : World → Prop} (h : K ρ w) : wh P ops S [] K ρ w := h
theorem wh_take {ops : Array Oper} {S : World → Prop} {i : Nat} {r : List (Nat × Bool)} {o : Oper} {v : Value} (ho : ops[i]? = some o) (hg : o.guard = none) (hy : ∀ w', S w' → (execOp (ev ρ) o).run P w' = .ok (.value v) w')
    (h : wh P ops S r K (upo ρ o.dst v) w) : wh P ops S ((i, true) :: r) K ρ w := ⟨o, v, ho, hg, hy, h⟩
theorem wh_exec {ops : Array Oper} {S : World → Prop} {i : Nat} {r : List (Nat × Bool)} {o : Oper} (ho : ops[i]? = some o) (hg : o.guard = none)
    (h : w1 P false o (fun ρ' w' => S w' ∧ wh P ops S r K ρ' w') ρ w) : wh P ops S ((i, false) :: r) K ρ w := ⟨o, ho, hg, h⟩
theorem wc_cond_t {Q : Exit → Env → World → Prop} {c : Operand} {a b : Code} (hc : ev ρ c = .bool true) (h : wc P a Q ρ w) : wc P (.cond c a b) Q ρ w :=
  ⟨true, hc, fun _ => h, fun e => by cases e⟩
theorem wc_cond_f {Q : Exit → Env → World → Prop} {c : Operand} {a b : Code} (hc : ev ρ c = .bool false) (h : wc P b Q ρ w) : wc P (.cond c a b) Q ρ w :=
  ⟨false, hc, fun e => (by cases e), fun _ => h⟩
theorem wc_cond_d {Q : Exit → Env → World → Prop} {c : Operand} {a b : Code} {p : Prop} [Decidable p] (hc : ev ρ c = .bool (decide p)) (h1 : p → wc P a Q ρ w) (h2 : ¬p → wc P b Q ρ w) :
    wc P (.cond c a b) Q ρ w := ⟨decide p, hc, fun e => h1 (by simpa using e), fun e => h2 (by simpa using e)⟩
theorem wc_cond_b {Q : Exit → Env → World → Prop} {c : Operand} {a b : Code} {t : Bool} (hc : ev ρ c = .bool t) (h1 : t = true → wc P a Q ρ w) (h2 : t = false → wc P b Q ρ w) :
    wc P (.cond c a b) Q ρ w := ⟨t, hc, h1, h2⟩
theorem thenQ_normal {next : Env → World → Prop} {Q : Exit → Env → World → Prop} (h : next ρ w) : thenQ next Q .normal ρ w := h
theorem thenQ_ret {next : Env → World → Prop} {Q : Exit → Env → World → Prop} (h : Q .ret ρ w) : thenQ next Q .ret ρ w := h
theorem thenQ_exit {next : Env → World → Prop} {Q : Exit → Env → World → Prop} {i : Nat} (h : Q (.exit i) ρ w) : thenQ next Q (.exit i) ρ w := h
theorem inBl_normal {Q : Exit → Env → World → Prop} {id : Nat} (h : Q .normal ρ w) : inBl id Q .normal ρ w := h
theorem inBl_ret {Q : Exit → Env → World → Prop} {id : Nat} (h : Q .ret ρ w) : inBl id Q .ret ρ w := h
theorem inBl_here {Q : Exit → Env → World → Prop} {id : Nat} (h : Q .normal ρ w) : inBl id Q (.exit id) ρ w := ⟨fun _ => h, fun e => absurd rfl e⟩
theorem inBl_out {Q : Exit → Env → World → Prop} {id i : Nat} (hb : Nat.beq i id = false) (h : Q (.exit i) ρ w) : inBl id Q (.exit i) ρ w :=
  ⟨fun e => (by subst e; simp at hb), fun _ => h⟩

theorem r_move {x : Operand} (h : K (up ρ d (ev ρ x)) w) : w1 P st ⟨some d, .move x, ty, pos, aft, gd⟩ K ρ w := w1_val rfl h
theorem r_assign {x : Operand} (h : K (up ρ d (ev ρ x)) w) : w1 P st ⟨some d, .assign x, ty, pos, aft, gd⟩ K ρ w := w1_val rfl h
theorem r_move_v {x : Operand} {v : Value} (hx : ev ρ x = v) (h : K (up ρ d v) w) : w1 P st ⟨some d, .move x, ty, pos, aft, gd⟩ K ρ w := w1_val rfl (by rw [← hx] at h; exact h)
theorem r_assign_v {x : Operand} {v : Value} (hx : ev ρ x = v) (h : K (up ρ d v) w) : w1 P st ⟨some d, .assign x, ty, pos, aft, gd⟩ K ρ w := w1_val rfl (by rw [← hx] at h; exact h)
theorem r_pick_t {c a b : Operand} (hc : ev ρ c = .bool true) (h : K (up ρ d (ev ρ a)) w) : w1 P st ⟨some d, .pick c a b, ty, pos, aft, gd⟩ K ρ w :=
  w1_val (v := ev ρ a) (by simp [execOp, hc, asBool]) h
theorem r_pick_f {c a b : Operand} (hc : ev ρ c = .bool false) (h : K (up ρ d (ev ρ b)) w) : w1 P st ⟨some d, .pick c a b, ty, pos, aft, gd⟩ K ρ w :=
  w1_val (v := ev ρ b) (by simp [execOp, hc, asBool]) h
theorem r_pick {c a b : Operand} {t x y : Bool} (hc : ev ρ c = .bool t) (ha : ev ρ a = .bool x) (hb : ev ρ b = .bool y) (h : K (up ρ d (.bool (bif t then x else y))) w) :
    w1 P st ⟨some d, .pick c a b, ty, pos, aft, gd⟩ K ρ w := by
  cases t
  · exact r_pick_f hc (by rw [hb]; exact h)
  · exact r_pick_t hc (by rw [ha]; exact h)

theorem wrap_in {n : Int} (h0 : -9223372036854775808 ≤ n) (h1 : n ≤ 9223372036854775807) : IntKind.i64.wrap n = n := IntWalk.i64_in n ⟨h0, h1⟩

variable {x y : Operand} {a b : Int} {k : IntKind}
theorem r_add_in {t t2 : TypeId} (hx : ev ρ x = .int .i64 a) (hy : ev ρ y = .int .i64 b) (hc : -9223372036854775808 ≤ a + b ∧ a + b ≤ 9223372036854775807) (h : K (up ρ d (.int .i64 (a + b))) w) :
    w1 P st ⟨some d, .binOp .add t x y t2, ty, pos, aft, gd⟩ K ρ w :=
  w1_val (v := .int .i64 (a + b)) (by simp [execOp, hx, hy, eqGuard, binOp, Op.intArith, wrap_in hc.1 hc.2]) h
theorem r_sub_in {t t2 : TypeId} (hx : ev ρ x = .int .i64 a) (hy : ev ρ y = .int .i64 b) (hc : -9223372036854775808 ≤ a - b ∧ a - b ≤ 9223372036854775807) (h : K (up ρ d (.int .i64 (a - b))) w) :
    w1 P st ⟨some d, .binOp .sub t x y t2, ty, pos, aft, gd⟩ K ρ w :=
  w1_val (v := .int .i64 (a - b)) (by simp [execOp, hx, hy, eqGuard, binOp, Op.intArith, wrap_in hc.1 hc.2]) h
theorem r_mul_in {t t2 : TypeId} (hx : ev ρ x = .int .i64 a) (hy : ev ρ y = .int .i64 b) (hc : -9223372036854775808 ≤ a * b ∧ a * b ≤ 9223372036854775807) (h : K (up ρ d (.int .i64 (a * b))) w) :
    w1 P st ⟨some d, .binOp .mul t x y t2, ty, pos, aft, gd⟩ K ρ w :=
  w1_val (v := .int .i64 (a * b)) (by simp [execOp, hx, hy, eqGuard, binOp, Op.intArith, wrap_in hc.1 hc.2]) h
theorem r_add {t t2 : TypeId} (hx : ev ρ x = .int k a) (hy : ev ρ y = .int k b) (h : K (up ρ d (.int k (k.wrap (a + b)))) w) :
    w1 P st ⟨some d, .binOp .add t x y t2, ty, pos, aft, gd⟩ K ρ w :=
  w1_val (v := .int k (k.wrap (a + b))) (by simp [execOp, hx, hy, eqGuard, binOp, Op.intArith]) h
theorem r_sub {t t2 : TypeId} (hx : ev ρ x = .int k a) (hy : ev ρ y = .int k b) (h : K (up ρ d (.int k (k.wrap (a - b)))) w) :
    w1 P st ⟨some d, .binOp .sub t x y t2, ty, pos, aft, gd⟩ K ρ w :=
  w1_val (v := .int k (k.wrap (a - b))) (by simp [execOp, hx, hy, eqGuard, binOp, Op.intArith]) h
theorem r_mul {t t2 : TypeId} (hx : ev ρ x = .int k a) (hy : ev ρ y = .int k b) (h : K (up ρ d (.int k (k.wrap (a * b)))) w) :
    w1 P st ⟨some d, .binOp .mul t x y t2, ty, pos, aft, gd⟩ K ρ w :=
  w1_val (v := .int k (k.wrap (a * b))) (by simp [execOp, hx, hy, eqGuard, binOp, Op.intArith]) h
theorem r_rem {t t2 : TypeId} (hx : ev ρ x = .int k a) (hy : ev ρ y = .int k b) (hb : b ≠ 0) (h : K (up ρ d (.int k (a.tmod b))) w) :
    w1 P st ⟨some d, .binOp .rem t x y t2, ty, pos, aft, gd⟩ K ρ w :=
  w1_val (v := .int k (a.tmod b)) (by simp [execOp, hx, hy, eqGuard, binOp, Op.intDiv, hb]) h
theorem r_quo {t t2 : TypeId} (hx : ev ρ x = .int k a) (hy : ev ρ y = .int k b) (hb : b ≠ 0) (h : K (up ρ d (.int k (k.wrap (a.tdiv b)))) w) :
    w1 P st ⟨some d, .binOp .quo t x y t2, ty, pos, aft, gd⟩ K ρ w :=
  w1_val (v := .int k (k.wrap (a.tdiv b))) (by simp [execOp, hx, hy, eqGuard, binOp, Op.intDiv, hb]) h
theorem r_rem_in {t t2 : TypeId} (hx : ev ρ x = .int k a) (hy : ev ρ y = .int k b) (ha : 0 ≤ a) (hb : 0 < b) (h : K (up ρ d (.int k (a % b))) w) :
    w1 P st ⟨some d, .binOp .rem t x y t2, ty, pos, aft, gd⟩ K ρ w :=
  r_rem hx hy (by omega) (by rw [Int.tmod_eq_emod_of_nonneg ha]; exact h)
theorem r_quo_in {t t2 : TypeId} (hx : ev ρ x = .int .i64 a) (hy : ev ρ y = .int .i64 b) (ha : 0 ≤ a ∧ a ≤ 9223372036854775807) (hb : 0 < b) (h : K (up ρ d (.int .i64 (a / b))) w) :
    w1 P st ⟨some d, .binOp .quo t x y t2, ty, pos, aft, gd⟩ K ρ w :=
  r_quo hx hy (by omega) (by
    rw [Int.tdiv_eq_ediv_of_nonneg ha.1, wrap_in]
    · exact h
    · have := Int.ediv_nonneg ha.1 (Int.le_of_lt hb); omega
    · have := Int.ediv_le_self b ha.1; omega)
theorem r_eql {t t2 : TypeId} (hx : ev ρ x = .int k a) (hy : ev ρ y = .int k b) (h : K (up ρ d (.bool (decide (a = b)))) w) :
    w1 P st ⟨some d, .binOp .eql t x y t2, ty, pos, aft, gd⟩ K ρ w :=
  w1_val (v := .bool (decide (a = b))) (by simp [execOp, hx, hy, eqGuard, binOp, Op.intCmp]; rfl) h
theorem r_neq {t t2 : TypeId} (hx : ev ρ x = .int k a) (hy : ev ρ y = .int k b) (h : K (up ρ d (.bool (decide (a ≠ b)))) w) :
    w1 P st ⟨some d, .binOp .neq t x y t2, ty, pos, aft, gd⟩ K ρ w :=
  w1_val (v := .bool (decide (a ≠ b))) (by
    have : (a != b) = decide (a ≠ b) := by by_cases h : a = b <;> simp [h]
    simp [execOp, hx, hy, eqGuard, binOp, Op.intCmp, this]) h
theorem r_lss {t t2 : TypeId} (hx : ev ρ x = .int k a) (hy : ev ρ y = .int k b) (h : K (up ρ d (.bool (decide (a < b)))) w) :
    w1 P st ⟨some d, .binOp .lss t x y t2, ty, pos, aft, gd⟩ K ρ w :=
  w1_val (v := .bool (decide (a < b))) (by simp [execOp, hx, hy, eqGuard, binOp, Op.intCmp]) h
theorem r_leq {t t2 : TypeId} (hx : ev ρ x = .int k a) (hy : ev ρ y = .int k b) (h : K (up ρ d (.bool (decide (a ≤ b)))) w) :
    w1 P st ⟨some d, .binOp .leq t x y t2, ty, pos, aft, gd⟩ K ρ w :=
  w1_val (v := .bool (decide (a ≤ b))) (by simp [execOp, hx, hy, eqGuard, binOp, Op.intCmp]) h
theorem r_gtr {t t2 : TypeId} (hx : ev ρ x = .int k a) (hy : ev ρ y = .int k b) (h : K (up ρ d (.bool (decide (b < a)))) w) :
    w1 P st ⟨some d, .binOp .gtr t x y t2, ty, pos, aft, gd⟩ K ρ w :=
  w1_val (v := .bool (decide (b < a))) (by simp [execOp, hx, hy, eqGuard, binOp, Op.intCmp]) h
theorem r_geq {t t2 : TypeId} (hx : ev ρ x = .int k a) (hy : ev ρ y = .int k b) (h : K (up ρ d (.bool (decide (b ≤ a)))) w) :
    w1 P st ⟨some d, .binOp .geq t x y t2, ty, pos, aft, gd⟩ K ρ w :=
  w1_val (v := .bool (decide (b ≤ a))) (by simp [execOp, hx, hy, eqGuard, binOp, Op.intCmp]) h
theorem r_bits {t t2 : TypeId} {op : BinOp} {v : Value} (hx : ev ρ x = .int k a) (hy : ev ρ y = .int k b) (ho : op = .and ∨ op = .or ∨ op = .xor ∨ op = .andNot) (hv : (Op.intBits op k a b).run P w = .ok v w)
    (h : K (up ρ d v) w) : w1 P st ⟨some d, .binOp op t x y t2, ty, pos, aft, gd⟩ K ρ w := by
  refine w1_val (v := v) ?_ h
  rcases ho with rfl | rfl | rfl | rfl <;> simp [execOp, hx, hy, eqGuard, binOp, hv]
theorem ofInt_nat (n : Nat) : BitVec.ofInt 64 (n : Int) = BitVec.ofNat 64 n := by simp
theorem wrap_nat {n : Nat} (h : n < 2 ^ 63) : IntKind.i64.wrap (n : Int) = n := wrap_in (by omega) (by omega)
theorem r_and {t t2 : TypeId} {m n : Nat} (hx : ev ρ x = .int .i64 (m : Int)) (hy : ev ρ y = .int .i64 (n : Int)) (hm : m < 2 ^ 63) (hn : n < 2 ^ 63) (h : K (up ρ d (.int .i64 ((m &&& n : Nat) : Int))) w) :
    w1 P st ⟨some d, .binOp .and t x y t2, ty, pos, aft, gd⟩ K ρ w := by
  refine r_bits hx hy (.inl rfl) ?_ h
  have hle : m &&& n ≤ m := Nat.and_le_left
  have e : (BitVec.ofInt 64 (m : Int) &&& BitVec.ofInt 64 (n : Int)).toNat = m &&& n := by
    rw [ofInt_nat, ofInt_nat, BitVec.toNat_and, BitVec.toNat_ofNat, BitVec.toNat_ofNat, Nat.mod_eq_of_lt (by omega), Nat.mod_eq_of_lt (by omega)]
  show (Sem.pure (Value.int .i64 (IntKind.i64.wrap ((BitVec.ofInt 64 (m : Int) &&& BitVec.ofInt 64 (n : Int)).toNat : Int)))).run P w = _
  rw [e, wrap_nat (by omega)]
  rfl
theorem or_lt63 {m n : Nat} (hm : m < 2 ^ 63) (hn : n < 2 ^ 63) : m ||| n < 2 ^ 63 := Nat.or_lt_two_pow hm hn
theorem r_or {t t2 : TypeId} {m n : Nat} (hx : ev ρ x = .int .i64 (m : Int)) (hy : ev ρ y = .int .i64 (n : Int)) (hm : m < 2 ^ 63) (hn : n < 2 ^ 63) (h : K (up ρ d (.int .i64 ((m ||| n : Nat) : Int))) w) :
    w1 P st ⟨some d, .binOp .or t x y t2, ty, pos, aft, gd⟩ K ρ w := by
  refine r_bits hx hy (.inr (.inl rfl)) ?_ h
  have hle := or_lt63 hm hn
  have e : (BitVec.ofInt 64 (m : Int) ||| BitVec.ofInt 64 (n : Int)).toNat = m ||| n := by
    rw [ofInt_nat, ofInt_nat, BitVec.toNat_or, BitVec.toNat_ofNat, BitVec.toNat_ofNat, Nat.mod_eq_of_lt (by omega), Nat.mod_eq_of_lt (by omega)]
  show (Sem.pure (Value.int .i64 (IntKind.i64.wrap ((BitVec.ofInt 64 (m : Int) ||| BitVec.ofInt 64 (n : Int)).toNat : Int)))).run P w = _
  rw [e, wrap_nat hle]
  rfl
theorem r_shl {t t2 : TypeId} {m n : Nat} (hx : ev ρ x = .int .i64 (m : Int)) (hy : ev ρ y = .int .i64 (n : Int)) (hn : n < 64) (hm : m <<< n < 2 ^ 63) (h : K (up ρ d (.int .i64 ((m <<< n : Nat) : Int))) w) :
    w1 P st ⟨some d, .binOp .shl t x y t2, ty, pos, aft, gd⟩ K ρ w := by
  refine w1_val (v := .int .i64 ((m <<< n : Nat) : Int)) ?_ h
  have e : (m : Int) * 2 ^ n = ((m <<< n : Nat) : Int) := by rw [Nat.shiftLeft_eq]; push_cast; rfl
  simp [execOp, hx, hy, eqGuard, binOp]
  rw [e, wrap_nat hm]
  simp
theorem r_shr {t t2 : TypeId} {m n : Nat} (hx : ev ρ x = .int .i64 (m : Int)) (hy : ev ρ y = .int .i64 (n : Int)) (hn : n < 64) (h : K (up ρ d (.int .i64 ((m >>> n : Nat) : Int))) w) :
    w1 P st ⟨some d, .binOp .shr t x y t2, ty, pos, aft, gd⟩ K ρ w := by
  refine w1_val (v := .int .i64 ((m >>> n : Nat) : Int)) ?_ h
  have e : (m : Int).fdiv (2 ^ n) = ((m >>> n : Nat) : Int) := by
    rw [Nat.shiftRight_eq_div_pow, Int.fdiv_eq_ediv_of_nonneg _ (by exact Int.le_of_lt (Int.pow_pos (by decide)))]; push_cast; rfl
  simp [execOp, hx, hy, eqGuard, binOp, Int.shiftRight_eq_div_pow]
theorem r_not {t : TypeId} {b : Bool} (hx : ev ρ x = .bool b) (h : K (up ρ d (.bool (!b))) w) : w1 P st ⟨some d, .unOp .not t x, ty, pos, aft, gd⟩ K ρ w :=
  w1_val (v := .bool (!b)) (by simp [execOp, hx, Op.unary]) h
theorem r_not_d {t : TypeId} {p : Prop} [Decidable p] (hx : ev ρ x = .bool (decide p)) (h : K (up ρ d (.bool (decide ¬p))) w) : w1 P st ⟨some d, .unOp .not t x, ty, pos, aft, gd⟩ K ρ w :=
  r_not hx (by rw [← decide_not]; exact h)
theorem r_neg {t : TypeId} (hx : ev ρ x = .int .i64 a) (hc : -9223372036854775808 ≤ -a ∧ -a ≤ 9223372036854775807) (h : K (up ρ d (.int .i64 (-a))) w) : w1 P st ⟨some d, .unOp .neg t x, ty, pos, aft, gd⟩ K ρ w :=
  w1_val (v := .int .i64 (-a)) (by simp [execOp, hx, Op.unary, Op.intArith, wrap_in hc.1 hc.2]) h
def intK (P : Program) (t : TypeId) : Option IntKind := match P.underlying t with | some (.int k) => some k | _ => none
theorem intK_spec {t : TypeId} {k : IntKind} (h : intK P t = some k) : P.underlying t = some (.int k) := by
  unfold intK at h; split at h <;> simp_all
theorem r_conv {s t : TypeId} {k' : IntKind} (hs : (intK P s).isSome = true) (ht : intK P t = some k') (hx : ev ρ x = .int k a) (h : K (up ρ d (.int k' (k'.wrap a))) w) :
    w1 P st ⟨some d, .convert s t x, ty, pos, aft, gd⟩ K ρ w := by
  obtain ⟨ks, hks⟩ := Option.isSome_iff_exists.1 hs
  have h1 := intK_spec hks
  have h2 := intK_spec ht
  exact w1_val (v := .int k' (k'.wrap a)) (by simp [execOp, hx, convert, run_underlying h1, run_underlying h2, Conv.intToInt]) h
def sliceT (P : Program) (t : TypeId) : Bool := match P.underlying t with | some (.slice _) => true | _ => false
theorem r_len {t : TypeId} {p : Option Addr} {n c : Nat} (ht : sliceT P t = true) (hx : ev ρ x = .slice p n c) (h : K (up ρ d (.int .i64 (n : Int))) w) :
    w1 P st ⟨some d, .call ⟨.builtin .len, #[x], #[t]⟩, ty, pos, aft, gd⟩ K ρ w := by
  unfold sliceT at ht
  split at ht
  · rename_i e he
    exact w1_val (v := .int .i64 (n : Int)) (by simp [execOp, resolve, invoke, builtin, Builtin.len_, hx, run_underlying he, goInt]) h
  · cases ht
theorem r_cap {t : TypeId} {p : Option Addr} {n c : Nat} (ht : sliceT P t = true) (hx : ev ρ x = .slice p n c) (h : K (up ρ d (.int .i64 (c : Int))) w) :
    w1 P st ⟨some d, .call ⟨.builtin .cap, #[x], #[t]⟩, ty, pos, aft, gd⟩ K ρ w := by
  unfold sliceT at ht
  split at ht
  · rename_i e he
    exact w1_val (v := .int .i64 (c : Int)) (by simp [execOp, resolve, invoke, builtin, Builtin.cap_, hx, run_underlying he, goInt]) h
  · cases ht
theorem r_min {ts : Array TypeId} {c : Int} (hx : ev ρ x = .int k a) (hy : ev ρ y = .int k b) (hc : (if b < a then b else a) = c) (h : K (up ρ d (.int k c)) w) :
    w1 P st ⟨some d, .call ⟨.builtin .min, #[x, y], ts⟩, ty, pos, aft, gd⟩ K ρ w :=
  w1_val (v := .int k c) (by simp [execOp, resolve, invoke, builtin, Builtin.min_, Builtin.min2, hx, hy, ← hc]) h
theorem r_max {ts : Array TypeId} {c : Int} (hx : ev ρ x = .int k a) (hy : ev ρ y = .int k b) (hc : (if b > a then b else a) = c) (h : K (up ρ d (.int k c)) w) :
    w1 P st ⟨some d, .call ⟨.builtin .max, #[x, y], ts⟩, ty, pos, aft, gd⟩ K ρ w :=
  w1_val (v := .int k c) (by simp [execOp, resolve, invoke, builtin, Builtin.max_, Builtin.max2, hx, hy, ← hc]) h
theorem r_ext {vs : Array Value} {i : Nat} {v : Value} (hx : ev ρ x = .tuple vs) (hv : vs[i]? = some v) (h : K (up ρ d v) w) :
    w1 P st ⟨some d, .extract x i, ty, pos, aft, gd⟩ K ρ w :=
  w1_val (v := v) (by simp [execOp, hx, Instr.extract, hv]) h
theorem r_mkfn {fn : Fn} {as_ bs : List Operand} (h : K (up ρ d (.func fn (as_.map (ev ρ)).toArray (bs.map (ev ρ)).toArray)) w) : w1 P st ⟨some d, .makeFunc fn as_.toArray bs.toArray, ty, pos, aft, gd⟩ K ρ w :=
  w1_val (v := .func fn (as_.map (ev ρ)).toArray (bs.map (ev ρ)).toArray) (by simp [execOp, Instr.makeFunc]) h

/- Addresses in slices. -/
def pidx (p : Option Addr) (i sz : Nat) : Option Addr := p.map fun q => q.add (i * sz)
def rd (w : World) (p : Option Addr) : Option Value := p.bind w.cell?
def sliceSz (P : Program) (t : TypeId) : Option Nat := match P.underlying t with | some (.slice e) => (P.info? e).map (·.size) | _ => none
theorem sliceSz_spec {t : TypeId} {sz : Nat} (h : sliceSz P t = some sz) : ∃ e i, P.underlying t = some (.slice e) ∧ P.info? e = some i ∧ i.size = sz := by
  unfold sliceSz at h
  split at h
  · rename_i e he
    cases hi : P.info? e with
    | none => rw [hi] at h; cases h
    | some i => rw [hi] at h; simp at h; exact ⟨e, i, he, hi, h⟩
  · cases h
theorem r_idx {t : TypeId} {sz : Nat} {p : Option Addr} {n c : Nat} (ht : sliceSz P t = some sz) (hx : ev ρ x = .slice p n c) (hy : ev ρ y = .int k a) (hp : p.isSome = true) (h0 : 0 ≤ a) (h1 : a < n)
    (h : K (up ρ d (.pointer (pidx p a.toNat sz))) w) : w1 P st ⟨some d, .indexAddr t x y, ty, pos, aft, gd⟩ K ρ w := by
  obtain ⟨e, i, he, hi, hs⟩ := sliceSz_spec ht
  obtain ⟨q, rfl⟩ := Option.isSome_iff_exists.1 hp
  refine w1_val (v := .pointer (some (q.add (a.toNat * sz)))) ?_ h
  simp [execOp, Instr.indexAt, hx, hy, asIntOf, run_underlying he, h0, h1, sizeOf, typeInfo, hi, hs]
def cellT (P : Program) (t : TypeId) : Bool := match P.underlying t with | some (.struct _) | some (.array _ _) | none => false | _ => true
theorem cellT_spec {t : TypeId} (h : cellT P t = true) (w : World) : (isAgg t).run P w = .ok false w := by
  unfold cellT at h
  cases hd : P.underlying t with
  | none => rw [hd] at h; cases h
  | some dsc =>
    rw [hd] at h
    cases dsc <;> first | (cases h; done) | simp [isAgg, run_underlying hd]
theorem rd_some {p : Option Addr} {v : Value} (h : rd w p = some v) : ∃ q, p = some q ∧ w.cell? q = some v := by
  cases p with
  | none => cases h
  | some q => exact ⟨q, rfl, h⟩
theorem r_ld {t : TypeId} {p : Option Addr} {v : Value} (ht : cellT P t = true) (hx : ev ρ x = .pointer p) (hp : rd w p = some v) (h : K (up ρ d v) w) :
    w1 P st ⟨some d, .load t x, ty, pos, aft, gd⟩ K ρ w := by
  obtain ⟨q, rfl, hq⟩ := rd_some hp
  exact w1_val (v := v) (by simp [execOp, Instr.loadAt, Instr.sureAddr, hx, loadVar, cellT_spec ht, load, Sem.run, hq]) h
theorem r_nilCheck {p : Addr} (hx : ev ρ x = .pointer (some p)) (h : K (up ρ d (.pointer (some p))) w) : w1 P st ⟨some d, .nilCheck x, ty, pos, aft, gd⟩ K ρ w :=
  w1_val (v := .pointer (some p)) (by simp [execOp, hx]) h

/- Calls. -/
def callable (P : Program) (f : FuncId) : Bool := match P.funcs[f]? with | some fn => !(fn.name == "runtime.NumGoroutine") && fn.body.isSome | none => false
theorem run_callFunc {f : FuncId} {args : Array Value} (hf : callable P f = true) (w : World) : (callFunc f args).run P w = .ok (.enter f args) w := by
  unfold callable at hf
  cases hfn : P.funcs[f]? with
  | none => rw [hfn] at hf; cases hf
  | some fn =>
    rw [hfn] at hf
    simp only [Bool.and_eq_true, Bool.not_eq_true'] at hf
    have hn : fn.name ≠ "runtime.NumGoroutine" := by simpa using hf.1
    have hb : fn.body ≠ none := by intro h; simp [h] at hf
    simp [callFunc, program, Sem.run, hfn, hn, hb]
theorem Ret.mono {f : FuncId} {args : Array Value} {R R' : Value → World → Prop} (h : Calls P f args w (Ret R)) (hr : ∀ v w', R v w' → R' v w') : Calls P f args w (Ret R') :=
  Calls.mono h fun _ _ ⟨v, he, hv⟩ => ⟨v, he, hr _ _ hv⟩
theorem run_call {f : FuncId} {xs : List Operand} {ts : Array TypeId} {dd : Option Nat} (hf : callable P f = true) :
    (execOp (ev ρ) ⟨dd, .call ⟨.value (.func f), xs.toArray, ts⟩, ty, pos, aft, gd⟩).run P w = .ok (.enter f (xs.map (ev ρ)).toArray) w := by
  have := run_callFunc (args := (xs.map (ev ρ)).toArray) hf w
  simpa [execOp, resolve, Deferred.ofValue, invoke, ev] using this
theorem r_call {f : FuncId} {xs : List Operand} {ts : Array TypeId} {R : Value → World → Prop} (hf : callable P f = true) (hc : Calls P f (xs.map (ev ρ)).toArray w (Ret R))
    (h : ∀ v w', R v w' → K (up ρ d v) w') : w1 P false ⟨some d, .call ⟨.value (.func f), xs.toArray, ts⟩, ty, pos, aft, gd⟩ K ρ w := by
  unfold w1
  rw [run_call hf]
  exact ⟨fun e => (by cases e), fun _ => hc.mono fun e w' ⟨v, he, hv⟩ => ⟨v, he, h v w' hv⟩⟩
theorem r_call0 {f : FuncId} {xs : List Operand} {ts : Array TypeId} {R : Value → World → Prop} (hf : callable P f = true) (hc : Calls P f (xs.map (ev ρ)).toArray w (Ret R))
    (h : ∀ v w', R v w' → K ρ w') : w1 P false ⟨none, .call ⟨.value (.func f), xs.toArray, ts⟩, ty, pos, aft, gd⟩ K ρ w := by
  unfold w1
  rw [run_call hf]
  exact ⟨fun e => (by cases e), fun _ => hc.mono fun e w' ⟨v, he, hv⟩ => ⟨v, he, h v w' hv⟩⟩
/-- A call of a function that only computes: in a region that draws its order, too. -/
theorem r_call_q {f : FuncId} {xs : List Operand} {ts : Array TypeId} {v : Value} (hf : callable P f = true) (hc : Calls P f (xs.map (ev ρ)).toArray w (Ret fun v' w' => v' = v ∧ w' = w)) (h : K (up ρ d v) w) :
    w1 P st ⟨some d, .call ⟨.value (.func f), xs.toArray, ts⟩, ty, pos, aft, gd⟩ K ρ w := by
  unfold w1
  rw [run_call hf]
  refine ⟨fun _ => ⟨rfl, v, hc.mono ?_, h⟩, fun _ => hc.mono ?_⟩
  · rintro e w' ⟨v', rfl, rfl, rfl⟩; exact ⟨rfl, rfl⟩
  · rintro e w' ⟨v', rfl, rfl, rfl⟩; exact ⟨v', rfl, h⟩
theorem r_callV {f : FuncId} {cap : List Value} {xs : List Operand} {ts : Array TypeId} {g : Nat} {R : Value → World → Prop} (hg : ρ g = .func (.func f) #[] cap.toArray) (hf : callable P f = true)
    (hc : Calls P f (xs.map (ev ρ) ++ cap).toArray w (Ret R)) (h : ∀ v w', R v w' → K (up ρ d v) w') :
    w1 P false ⟨some d, .call ⟨.value (.tmp g), xs.toArray, ts⟩, ty, pos, aft, gd⟩ K ρ w := by
  unfold w1
  have : (execOp (ev ρ) ⟨some d, .call ⟨.value (.tmp g), xs.toArray, ts⟩, ty, pos, aft, gd⟩).run P w = .ok (.enter f (xs.map (ev ρ) ++ cap).toArray) w := by
    have := run_callFunc (args := (xs.map (ev ρ) ++ cap).toArray) hf w
    simpa [execOp, resolve, Deferred.ofValue, invoke, ev, hg] using this
  rw [this]
  exact ⟨fun e => (by cases e), fun _ => hc.mono fun e w' ⟨v, he, hv⟩ => ⟨v, he, h v w' hv⟩⟩
end
attribute [irreducible] wl wc w1 wh whB thenQ inBl
end Gv
end Go.Proofs.Ytfbkoombkmpjkaa

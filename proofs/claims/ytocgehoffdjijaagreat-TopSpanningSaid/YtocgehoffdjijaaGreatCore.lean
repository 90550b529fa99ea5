/- The walk's own calculus: a weakest precondition over an environment of slots, and its soundness over the kit's Code.wp. -/
import Derived.Test.YtocgehoffdjijaaGreatRows
import Derived.WalkKit
import Derived.StillTail
import Derived.OrdersHeld
import Derived.OrdersIn
import Derived.RangeFuncLeaves
import Derived.RangeFuncNested
import Derived.KernelRfl
namespace Go.Proofs.YtocgehoffdjijaaGreat
namespace Gv

abbrev Env := Nat → Value
def up (ρ : Env) (i : Nat) (v : Value) : Env := fun j => bif Nat.beq j i then v else ρ j
def upo (ρ : Env) (d : Option Nat) (v : Value) : Env := match d with | some i => up ρ i v | none => ρ
def ev (ρ : Env) (x : Operand) : Value :=
  match x with
  | .tmp t => bif Nat.beq t 1000000 then undef else ρ t
  | .const v => v
  | .global g => .pointer (some ⟨g, 0, none⟩)
  | .func f => .func (.func f) #[] #[]
/- Slot 1000000 of an environment: the blocks for the deferred calls of the ranges over functions so far ('marks'). -/
def mark (D : Nat) : Deferred := { target := .collected D, args := #[] }
def mkv (M : List Nat) : Value := .tuple (Value.bool true :: M.map fun D => Value.pointer (some ⟨D, 0, none⟩)).toArray
def dblk (d : Deferred) : Nat := match d.target with | .collected r => r | _ => 0
def envOf (a : Act) : Env := fun t => bif Nat.beq t 1000000 then mkv (a.defers.map dblk) else a.tmps.getD t undef
theorem dblk_mark (M : List Nat) : (M.map mark).map dblk = M := by
  induction M with
  | nil => rfl
  | cons D M ih => simpa [mark, dblk] using ih
theorem mkv_inj {M M' : List Nat} (h : mkv M = mkv M') : M = M' := by
  simp only [mkv, Value.tuple.injEq] at h
  have h2 := congrArg Array.toList h
  simp only [List.cons.injEq, true_and] at h2
  exact (List.map_inj_right (by intro a b hab; simpa using hab)).1 h2
theorem beq_ne {j i : Nat} (h : j ≠ i) : Nat.beq j i = false := by
  cases hb : Nat.beq j i
  · rfl
  · exact absurd (Nat.eq_of_beq_eq_true hb) h
theorem envOf_slot (a : Act) {t : Nat} (h : t ≠ 1000000) : envOf a t = a.tmps.getD t undef := by simp only [envOf, beq_ne h, cond_false]
theorem envOf_mk (a : Act) : envOf a 1000000 = mkv (a.defers.map dblk) := rfl

theorem ev_fun (a : Act) (h : a.tmps.size ≤ 1000000) : ev (envOf a) = a.eval := by
  funext x
  cases x with
  | tmp t =>
    show (bif Nat.beq t 1000000 then undef else envOf a t) = a.tmps.getD t undef
    by_cases ht : t = 1000000
    · subst ht
      rw [Array.getD_eq_getD_getElem?, Array.getElem?_eq_none h]; rfl
    · rw [beq_ne ht, cond_false, envOf_slot a ht]
  | _ => rfl

theorem up_same (ρ : Env) (i : Nat) (v : Value) : up ρ i v i = v := by simp [up]
theorem up_ne (ρ : Env) (i j : Nat) (v : Value) (h : j ≠ i) : up ρ i v j = ρ j := by
  have : Nat.beq j i = false := by
    cases hb : Nat.beq j i
    · rfl
    · exact absurd (Nat.eq_of_beq_eq_true hb) h
  simp [up, this]
theorem up_id (ρ : Env) (i : Nat) (v : Value) (h : ρ i = v) : up ρ i v = ρ := by
  funext j
  by_cases hj : j = i
  · subst hj; rw [up_same, h]
  · rw [up_ne _ _ _ _ hj]

def inv (n : Nat) (a : Act) : Prop := (∃ M : List Nat, a.defers = M.map mark) ∧ a.tmps.size = n ∧ n ≤ 1000000
theorem inv.small {n : Nat} {a : Act} (h : inv n a) : a.tmps.size ≤ 1000000 := by rw [h.2.1]; exact h.2.2

theorem envOf_put (a : Act) (d : Nat) (v : Value) (h : d < a.tmps.size) (hs : a.tmps.size ≤ 1000000) : envOf (a.put (some d) v) = up (envOf a) d v := by
  funext j
  by_cases hm : j = 1000000
  · subst hm
    rw [up_ne _ _ _ _ (by omega)]; rfl
  · by_cases hj : j = d
    · subst hj
      rw [up_same, envOf_slot _ hm]
      simp [Act.put, Array.getD, h]
    · rw [up_ne _ _ _ _ hj, envOf_slot _ hm, envOf_slot _ hm]
      simp only [Act.put, Array.getD_eq_getD_getElem?]
      rw [Array.getElem?_setIfInBounds_ne (by omega)]
theorem inv_put {n : Nat} {a : Act} (h : inv n a) (d : Option Nat) (v : Value) : inv n (a.put d v) := by
  cases d <;> simp_all [inv, Act.put]

def noDefer (o : Oper) : Bool := match o.op with | .defer _ => false | _ => true
theorem noDefer_spec {o : Oper} (h : noDefer o = true) : ∀ c, o.op ≠ .defer c := by
  intro c hc; unfold noDefer at h; rw [hc] at h; cases h
def dstOk (n : Nat) (o : Oper) : Bool := (match o.dst with | some d => Nat.blt d n | none => true) && noDefer o
theorem envOf_puto {n : Nat} {a : Act} (h : inv n a) (o : Oper) (ho : dstOk n o = true) (v : Value) : envOf (a.put o.dst v) = upo (envOf a) o.dst v := by
  unfold dstOk at ho
  simp only [Bool.and_eq_true] at ho
  replace ho := ho.1
  cases hd : o.dst with
  | none => rfl
  | some d =>
    rw [hd] at ho
    exact envOf_put a d v (by rw [h.2.1]; simpa using ho) h.small

def After (P : Program) (st : Bool) (d : Option Nat) (K : Env → World → Prop) (ρ : Env) (w : World) : Result Next → Prop
  | .ok (.value v) w' => (st = true → w' = w) ∧ K (upo ρ d v) w'
  | .ok .skip w' => (st = true → w' = w) ∧ K (upo ρ d undef) w'
  | .ok (.enter f args) w' =>
    (st = true → w' = w ∧ ∃ v, Calls P f args w (fun e w'' => e = .returned v ∧ w'' = w) ∧ K (upo ρ d v) w) ∧
    (st = false → Calls P f args w' (fun e w'' => ∃ v, e = .returned v ∧ K (upo ρ d v) w''))
  | _ => False
def w1 (P : Program) (st : Bool) (o : Oper) (K : Env → World → Prop) (ρ : Env) (w : World) : Prop := After P st o.dst K ρ w ((execOp (ev ρ) o).run P w)
def wl (P : Program) (st : Bool) (ops : Array Oper) : List Oper → (Env → World → Prop) → Env → World → Prop
  | [], K, ρ, w => K ρ w
  | o :: r, K, ρ, w =>
    match o.guard with
    | none => w1 P st o (wl P st ops r K) ρ w
    | some (j, b) => (∃ t tb, (ops[j]?).bind (·.dst) = some t ∧ ρ t = .bool tb ∧
        (tb = b → w1 P st o (wl P st ops r K) (up ρ t (.bool b)) w) ∧ (tb = (!b) → wl P st ops r K (upo (up ρ t (.bool (!b))) o.dst undef) w)) ∨
      (∃ t, (ops[j]?).bind (·.dst) = some t ∧ ρ t = undef ∧ wl P st ops r K (upo ρ o.dst undef) w)

theorem yielded_of {ops : Array Oper} {a : Act} {j t : Nat} {tb : Bool} (h : (ops[j]?).bind (·.dst) = some t) (ht : envOf a t = .bool tb) :
    yielded ops a.tmps j = some tb := by
  unfold yielded
  rw [h]
  have hm : t ≠ 1000000 := by rintro rfl; rw [envOf_mk] at ht; simp [mkv] at ht
  simp only [envOf_slot a hm, Array.getD_eq_getD_getElem?] at ht
  simp only [Option.bind_some]
  cases hx : a.tmps[t]? with
  | none => rw [hx] at ht; simp [undef] at ht
  | some v => rw [hx] at ht; simp at ht; subst ht; rfl

theorem yielded_undef {ops : Array Oper} {a : Act} {j t : Nat} (h : (ops[j]?).bind (·.dst) = some t) (ht : envOf a t = undef) :
    yielded ops a.tmps j = none := by
  unfold yielded
  rw [h]
  have hm : t ≠ 1000000 := by rintro rfl; rw [envOf_mk] at ht; simp [mkv, undef] at ht
  simp only [envOf_slot a hm, Array.getD_eq_getD_getElem?] at ht
  simp only [Option.bind_some]
  cases hx : a.tmps[t]? with
  | none => rfl
  | some v => rw [hx] at ht; simp [undef] at ht; subst ht; rfl

theorem w1_wp {P : Program} {n : Nat} {o : Oper} {a : Act} {w : World} {K : Env → World → Prop} {next : Act → World → Prop} {Q : Exit → Act → World → Prop}
    (ha : inv n a) (ho : dstOk n o = true) (h : w1 P false o K (envOf a) w) (hK : ∀ a w, inv n a → K (envOf a) w → next a w) : o.wp P a w next Q := by
  unfold w1 at h
  rw [ev_fun _ ha.small] at h
  unfold Oper.wp
  generalize (execOp a.eval o).run P w = r at *
  cases r with
  | halt x w' => cases x <;> exact h.elim
  | ok x w' =>
    cases x with
    | value v => exact hK _ _ (inv_put ha _ _) (by rw [envOf_puto ha o ho]; exact h.2)
    | skip => exact hK _ _ (inv_put ha _ _) (by rw [envOf_puto ha o ho]; exact h.2)
    | enter f args =>
      refine (h.2 rfl).mono ?_
      rintro e w'' ⟨v, rfl, hv⟩
      exact hK _ _ (inv_put ha _ _) (by rw [envOf_puto ha o ho]; exact hv)
    | _ => exact h.elim
theorem w1_still {P : Program} {n : Nat} {o : Oper} {a : Act} {w : World} {K : Env → World → Prop} {next : Act → Prop}
    (ha : inv n a) (ho : dstOk n o = true) (h : w1 P true o K (envOf a) w) (hK : ∀ a, inv n a → K (envOf a) w → next a) : o.still P a w next := by
  unfold w1 at h
  rw [ev_fun _ ha.small] at h
  unfold Oper.still
  generalize (execOp a.eval o).run P w = r at *
  cases r with
  | halt x w' => cases x <;> exact h.elim
  | ok x w' =>
    cases x with
    | value v =>
      obtain ⟨h1, h2⟩ := h
      have := h1 rfl; subst this
      exact ⟨rfl, hK _ (inv_put ha _ _) (by rw [envOf_puto ha o ho]; exact h2)⟩
    | skip =>
      obtain ⟨h1, h2⟩ := h
      have := h1 rfl; subst this
      exact ⟨rfl, hK _ (inv_put ha _ _) (by rw [envOf_puto ha o ho]; exact h2)⟩
    | enter f args =>
      obtain ⟨hw, v, hc, hv⟩ := h.1 rfl
      exact ⟨hw, v, hc, hK _ (inv_put ha _ _) (by rw [envOf_puto ha o ho]; exact hv)⟩
    | _ => exact h.elim

theorem wl_wp {P : Program} {n : Nat} {ops : Array Oper} {Q : Exit → Act → World → Prop} {K : Env → World → Prop}
    (hK : ∀ a w, inv n a → K (envOf a) w → Q .normal a w) : ∀ (l : List Oper) (a : Act) (w : World), inv n a → l.all (dstOk n) = true →
      wl P false ops l K (envOf a) w → wpList P ops Q l a w
  | [], a, w, ha, _, h => hK a w ha h
  | o :: r, a, w, ha, hd, h => by
    simp only [List.all_cons, Bool.and_eq_true] at hd
    have ih := wl_wp (P := P) (ops := ops) (Q := Q) hK r
    unfold wl at h
    unfold wpList
    cases hg : o.guard with
    | none =>
      rw [hg] at h
      simp only [Region.wanted, hg, if_true]
      exact .inl (w1_wp ha hd.1 h (fun a w ha h => ih a w ha hd.2 h))
    | some jb =>
      obtain ⟨j, b⟩ := jb
      rw [hg] at h
      rcases h with h | ⟨t, ht, hb, h⟩
      rotate_left 1
      · simp only [Region.wanted, hg, yielded_undef ht hb]
        rw [if_neg (by simp)]
        rw [← envOf_puto ha o hd.1] at h
        exact ih _ _ (inv_put ha _ _) hd.2 h
      obtain ⟨t, tb, ht, hb, h1, h2⟩ := h
      simp only [Region.wanted, hg, yielded_of ht hb]
      by_cases he : tb = b
      · subst he
        rw [if_pos (by simp)]
        have := h1 rfl
        rw [up_id _ _ _ hb] at this
        exact .inl (w1_wp ha hd.1 this (fun a w ha h => ih a w ha hd.2 h))
      · have he' : tb = !b := by cases tb <;> cases b <;> simp_all
        rw [if_neg (by simp [he])]
        have := h2 he'
        subst he'
        rw [up_id _ _ _ hb, ← envOf_puto ha o hd.1] at this
        exact ih _ _ (inv_put ha _ _) hd.2 this
theorem wl_still {P : Program} {n : Nat} {ops : Array Oper} {Q : Act → Prop} {K : Env → World → Prop} {w : World}
    (hK : ∀ a, inv n a → K (envOf a) w → Q a) : ∀ (l : List Oper) (a : Act), inv n a → l.all (dstOk n) = true →
      wl P true ops l K (envOf a) w → wpStill P ops w Q l a
  | [], a, ha, _, h => hK a ha h
  | o :: r, a, ha, hd, h => by
    simp only [List.all_cons, Bool.and_eq_true] at hd
    have ih := wl_still (P := P) (ops := ops) (Q := Q) hK r
    unfold wl at h
    unfold wpStill
    cases hg : o.guard with
    | none =>
      rw [hg] at h
      simp only [Region.wanted, hg, if_true]
      exact w1_still ha hd.1 h (fun a ha h => ih a ha hd.2 h)
    | some jb =>
      obtain ⟨j, b⟩ := jb
      rw [hg] at h
      rcases h with h | ⟨t, ht, hb, h⟩
      rotate_left 1
      · simp only [Region.wanted, hg, yielded_undef ht hb]
        rw [if_neg (by simp)]
        rw [← envOf_puto ha o hd.1] at h
        exact ih _ (inv_put ha _ _) hd.2 h
      obtain ⟨t, tb, ht, hb, h1, h2⟩ := h
      simp only [Region.wanted, hg, yielded_of ht hb]
      by_cases he : tb = b
      · subst he
        rw [if_pos (by simp)]
        have := h1 rfl
        rw [up_id _ _ _ hb] at this
        exact w1_still ha hd.1 this (fun a ha h => ih a ha hd.2 h)
      · have he' : tb = !b := by cases tb <;> cases b <;> simp_all
        rw [if_neg (by simp [he])]
        have := h2 he'
        subst he'
        rw [up_id _ _ _ hb, ← envOf_puto ha o hd.1] at this
        exact ih _ (inv_put ha _ _) hd.2 this

/- Regions that draw their order and store: a plan of what comes up; 'true': taken first, whatever the order, since it yields the same in every world of S. -/
def planOk (ops : Array Oper) : List (Nat × Bool) → Array Bool → Bool
  | [], listed => (Region.ready .any ops listed).isEmpty
  | (i, true) :: r, listed => Region.free .any ops listed i && (Region.ready .any ops listed).contains i && planOk ops r (listed.setIfInBounds i true)
  | (i, false) :: r, listed => (Region.ready .any ops listed == [i]) && planOk ops r (listed.setIfInBounds i true)
def wh (P : Program) (ops : Array Oper) (S : World → Prop) : List (Nat × Bool) → (Env → World → Prop) → Env → World → Prop
  | [], K, ρ, w => K ρ w
  | (i, true) :: r, K, ρ, w => ∃ o v, ops[i]? = some o ∧ o.guard = none ∧ (∀ w', S w' → (execOp (ev ρ) o).run P w' = .ok (.value v) w') ∧ wh P ops S r K (upo ρ o.dst v) w
  | (i, false) :: r, K, ρ, w => ∃ o, ops[i]? = some o ∧ o.guard = none ∧ w1 P false o (fun ρ' w' => S w' ∧ wh P ops S r K ρ' w') ρ w
def QN (n : Nat) (K : Env → World → Prop) : Exit → Act → World → Prop
  | .normal, a, w => inv n a ∧ K (envOf a) w
  | _, _, _ => False
theorem wh_any {P : Program} {n : Nat} {ops : Array Oper} {S : World → Prop} {K : Env → World → Prop} (hd : ops.toList.all (dstOk n) = true) (hs : Region.noSelect ops = true) :
    ∀ (plan : List (Nat × Bool)) (listed : Array Bool) (fuel : Nat) (a : Act) (w : World), planOk ops plan listed = true → plan.length ≤ fuel → S w → inv n a → wh P ops S plan K (envOf a) w →
      wpAnyH P .any ops (QN n K) S fuel listed a w
  | [], listed, fuel, a, w, hp, hf, hS, ha, h => by
    simp only [planOk, List.isEmpty_iff] at hp
    cases fuel with
    | zero => exact ⟨hp, ha, h⟩
    | succ f => exact ⟨fun _ => ⟨ha, h⟩, fun i hi => by rw [hp] at hi; cases hi⟩
  | (i, true) :: r, listed, fuel, a, w, hp, hf, hS, ha, h => by
    simp only [planOk, Bool.and_eq_true] at hp
    obtain ⟨o, v, ho, hg, hy, hr⟩ := h
    have hdo : dstOk n o = true := List.all_eq_true.1 hd o (by rw [Array.mem_toList_iff]; exact Array.mem_of_getElem? ho)
    cases fuel with
    | zero => simp at hf
    | succ f =>
      refine wpAnyH_take (v := v) ho hs hp.1.1 hp.1.2 (fun c a w hq => hq.elim) (.inl ⟨by simp [Region.wanted, hg], fun w' hw' => ?_⟩) hS ?_
      · rw [← ev_fun _ ha.small]; exact hy w' hw'
      · refine wh_any hd hs r _ f _ w hp.2 (by simpa using hf) hS (inv_put ha _ _) ?_
        rw [envOf_puto ha o hdo]; exact hr
  | (i, false) :: r, listed, fuel, a, w, hp, hf, hS, ha, h => by
    simp only [planOk, Bool.and_eq_true, beq_iff_eq] at hp
    obtain ⟨o, ho, hg, hr⟩ := h
    have hdo : dstOk n o = true := List.all_eq_true.1 hd o (by rw [Array.mem_toList_iff]; exact Array.mem_of_getElem? ho)
    cases fuel with
    | zero => simp at hf
    | succ f =>
      refine wpAnyH_all hp.1 (by simp) fun j hj => ?_
      simp only [List.mem_singleton] at hj
      subst hj
      unfold wpOp
      simp only [ho, Region.wanted, hg, if_true]
      exact .inl (w1_wp ha hdo hr fun a' w' ha' h' => ⟨h'.1, wh_any hd hs r _ f a' w' hp.2 (by simpa using hf) h'.1 ha' h'.2⟩)

/- Plans in which, at a place, either of two may come up. -/
inductive PB where
  | done
  | take (i : Nat) (r : PB)
  | one (i : Nat) (r : PB)
  | two (i : Nat) (r : PB) (j : Nat) (s : PB)
  | three (i : Nat) (r : PB) (j : Nat) (s : PB) (k : Nat) (q : PB)
def PB.len : PB → Nat
  | .done => 0
  | .take _ r => r.len + 1
  | .one _ r => r.len + 1
  | .two _ r _ s => max r.len s.len + 1
  | .three _ r _ s _ q => max (max r.len s.len) q.len + 1
def planOkB (ops : Array Oper) : PB → Array Bool → Bool
  | .done, listed => (Region.ready .any ops listed).isEmpty
  | .take i r, listed => Region.free .any ops listed i && (Region.ready .any ops listed).contains i && planOkB ops r (listed.setIfInBounds i true)
  | .one i r, listed => (Region.ready .any ops listed == [i]) && planOkB ops r (listed.setIfInBounds i true)
  | .two i r j s, listed => (Region.ready .any ops listed == [i, j]) && (planOkB ops r (listed.setIfInBounds i true) && planOkB ops s (listed.setIfInBounds j true))
  | .three i r j s k q, listed => (Region.ready .any ops listed == [i, j, k]) && (planOkB ops r (listed.setIfInBounds i true) && (planOkB ops s (listed.setIfInBounds j true) && planOkB ops q (listed.setIfInBounds k true)))
/-- The guard of an operation lets it come up. -/
def GdOk (ops : Array Oper) (ρ : Env) (o : Oper) : Prop := match o.guard with
  | none => True
  | some (j, b) => ∃ t, (ops[j]?).bind (·.dst) = some t ∧ ρ t = .bool b
theorem GdOk.of_none {ops : Array Oper} {ρ : Env} {o : Oper} (h : o.guard = none) : GdOk ops ρ o := by unfold GdOk; rw [h]; trivial
theorem GdOk.of_some {ops : Array Oper} {ρ : Env} {o : Oper} {j t : Nat} {b : Bool} (h : o.guard = some (j, b)) (hj : (ops[j]?).bind (·.dst) = some t) (ht : ρ t = .bool b) : GdOk ops ρ o := by
  unfold GdOk; rw [h]; exact ⟨t, hj, ht⟩
/-- The guard of an operation bars it. -/
def GdNo (ops : Array Oper) (ρ : Env) (o : Oper) : Prop := ∃ j b t, o.guard = some (j, b) ∧ (ops[j]?).bind (·.dst) = some t ∧ ρ t = .bool (!b)
theorem GdNo.wanted {ops : Array Oper} {a : Act} {o : Oper} (h : GdNo ops (envOf a) o) : Region.wanted o (yielded ops a.tmps) = false := by
  obtain ⟨j, b, t, hg, hj, ht⟩ := h
  unfold Region.wanted
  rw [hg]
  simp only [yielded_of hj ht]
  cases b <;> rfl
theorem GdOk.wanted {ops : Array Oper} {a : Act} {o : Oper} (h : GdOk ops (envOf a) o) : Region.wanted o (yielded ops a.tmps) = true := by
  unfold GdOk at h
  unfold Region.wanted
  cases hg : o.guard with
  | none => rfl
  | some jb =>
    obtain ⟨j, b⟩ := jb
    rw [hg] at h
    obtain ⟨t, hj, ht⟩ := h
    simp [yielded_of hj ht]
def whB (P : Program) (ops : Array Oper) (S : World → Prop) : PB → (Env → World → Prop) → Env → World → Prop
  | .done, K, ρ, w => K ρ w
  | .take i r, K, ρ, w => ∃ o v, ops[i]? = some o ∧ ((GdOk ops ρ o ∧ ∀ w', S w' → (execOp (ev ρ) o).run P w' = .ok (.value v) w') ∨ (GdNo ops ρ o ∧ v = undef)) ∧ whB P ops S r K (upo ρ o.dst v) w
  | .one i r, K, ρ, w => ∃ o, ops[i]? = some o ∧ GdOk ops ρ o ∧ w1 P false o (fun ρ' w' => S w' ∧ whB P ops S r K ρ' w') ρ w
  | .two i r j s, K, ρ, w => (∃ o, ops[i]? = some o ∧ GdOk ops ρ o ∧ w1 P false o (fun ρ' w' => S w' ∧ whB P ops S r K ρ' w') ρ w) ∧
      (∃ o, ops[j]? = some o ∧ GdOk ops ρ o ∧ w1 P false o (fun ρ' w' => S w' ∧ whB P ops S s K ρ' w') ρ w)
  | .three i r j s k q, K, ρ, w => (∃ o, ops[i]? = some o ∧ GdOk ops ρ o ∧ w1 P false o (fun ρ' w' => S w' ∧ whB P ops S r K ρ' w') ρ w) ∧
      (∃ o, ops[j]? = some o ∧ GdOk ops ρ o ∧ w1 P false o (fun ρ' w' => S w' ∧ whB P ops S s K ρ' w') ρ w) ∧
      (∃ o, ops[k]? = some o ∧ GdOk ops ρ o ∧ w1 P false o (fun ρ' w' => S w' ∧ whB P ops S q K ρ' w') ρ w)
theorem whB_any {P : Program} {n : Nat} {ops : Array Oper} {S : World → Prop} {K : Env → World → Prop} (hd : ops.toList.all (dstOk n) = true) (hs : Region.noSelect ops = true) :
    ∀ (plan : PB) (listed : Array Bool) (fuel : Nat) (a : Act) (w : World), planOkB ops plan listed = true → plan.len ≤ fuel → S w → inv n a → whB P ops S plan K (envOf a) w →
      wpAnyH P .any ops (QN n K) S fuel listed a w
  | .done, listed, fuel, a, w, hp, hf, hS, ha, h => by
    simp only [planOkB, List.isEmpty_iff] at hp
    cases fuel with
    | zero => exact ⟨hp, ha, h⟩
    | succ f => exact ⟨fun _ => ⟨ha, h⟩, fun i hi => by rw [hp] at hi; cases hi⟩
  | .take i r, listed, fuel, a, w, hp, hf, hS, ha, h => by
    simp only [planOkB, Bool.and_eq_true] at hp
    obtain ⟨o, v, ho, hgy, hr⟩ := h
    have hdo : dstOk n o = true := List.all_eq_true.1 hd o (by rw [Array.mem_toList_iff]; exact Array.mem_of_getElem? ho)
    cases fuel with
    | zero => simp [PB.len] at hf
    | succ f =>
      refine wpAnyH_take (v := v) ho hs hp.1.1 hp.1.2 (fun c a w hq => hq.elim) ?_ hS ?_
      · rcases hgy with ⟨hg, hy⟩ | ⟨hg, rfl⟩
        · exact .inl ⟨hg.wanted, fun w' hw' => by rw [← ev_fun _ ha.small]; exact hy w' hw'⟩
        · exact .inr ⟨hg.wanted, rfl⟩
      · refine whB_any hd hs r _ f _ w hp.2 (by simpa [PB.len] using hf) hS (inv_put ha _ _) ?_
        rw [envOf_puto ha o hdo]; exact hr
  | .one i r, listed, fuel, a, w, hp, hf, hS, ha, h => by
    simp only [planOkB, Bool.and_eq_true, beq_iff_eq] at hp
    obtain ⟨o, ho, hg, hr⟩ := h
    have hdo : dstOk n o = true := List.all_eq_true.1 hd o (by rw [Array.mem_toList_iff]; exact Array.mem_of_getElem? ho)
    cases fuel with
    | zero => simp [PB.len] at hf
    | succ f =>
      refine wpAnyH_all hp.1 (by simp) fun j hj => ?_
      simp only [List.mem_singleton] at hj
      subst hj
      unfold wpOp
      simp only [ho, hg.wanted, if_true]
      exact .inl (w1_wp ha hdo hr fun a' w' ha' h' => ⟨h'.1, whB_any hd hs r _ f a' w' hp.2 (by simpa [PB.len] using hf) h'.1 ha' h'.2⟩)
  | .two i r j s, listed, fuel, a, w, hp, hf, hS, ha, h => by
    simp only [planOkB, Bool.and_eq_true, beq_iff_eq] at hp
    obtain ⟨⟨o, ho, hg, hr⟩, ⟨o2, ho2, hg2, hr2⟩⟩ := h
    have hdo : dstOk n o = true := List.all_eq_true.1 hd o (by rw [Array.mem_toList_iff]; exact Array.mem_of_getElem? ho)
    have hdo2 : dstOk n o2 = true := List.all_eq_true.1 hd o2 (by rw [Array.mem_toList_iff]; exact Array.mem_of_getElem? ho2)
    cases fuel with
    | zero => simp [PB.len] at hf
    | succ f =>
      simp only [PB.len] at hf
      refine wpAnyH_all hp.1 (by simp) fun k hk => ?_
      simp only [List.mem_cons, List.not_mem_nil, or_false] at hk
      rcases hk with rfl | rfl
      · unfold wpOp
        simp only [ho, hg.wanted, if_true]
        exact .inl (w1_wp ha hdo hr fun a' w' ha' h' => ⟨h'.1, whB_any hd hs r _ f a' w' hp.2.1 (by omega) h'.1 ha' h'.2⟩)
      · unfold wpOp
        simp only [ho2, hg2.wanted, if_true]
        exact .inl (w1_wp ha hdo2 hr2 fun a' w' ha' h' => ⟨h'.1, whB_any hd hs s _ f a' w' hp.2.2 (by omega) h'.1 ha' h'.2⟩)
  | .three i r j s k q, listed, fuel, a, w, hp, hf, hS, ha, h => by
    simp only [planOkB, Bool.and_eq_true, beq_iff_eq] at hp
    obtain ⟨⟨o, ho, hg, hr⟩, ⟨o2, ho2, hg2, hr2⟩, ⟨o3, ho3, hg3, hr3⟩⟩ := h
    have hdo : dstOk n o = true := List.all_eq_true.1 hd o (by rw [Array.mem_toList_iff]; exact Array.mem_of_getElem? ho)
    have hdo2 : dstOk n o2 = true := List.all_eq_true.1 hd o2 (by rw [Array.mem_toList_iff]; exact Array.mem_of_getElem? ho2)
    have hdo3 : dstOk n o3 = true := List.all_eq_true.1 hd o3 (by rw [Array.mem_toList_iff]; exact Array.mem_of_getElem? ho3)
    cases fuel with
    | zero => simp [PB.len] at hf
    | succ f =>
      simp only [PB.len] at hf
      refine wpAnyH_all hp.1 (by simp) fun x hx => ?_
      simp only [List.mem_cons, List.not_mem_nil, or_false] at hx
      rcases hx with rfl | rfl | rfl
      · unfold wpOp
        simp only [ho, hg.wanted, if_true]
        exact .inl (w1_wp ha hdo hr fun a' w' ha' h' => ⟨h'.1, whB_any hd hs r _ f a' w' hp.2.1 (by omega) h'.1 ha' h'.2⟩)
      · unfold wpOp
        simp only [ho2, hg2.wanted, if_true]
        exact .inl (w1_wp ha hdo2 hr2 fun a' w' ha' h' => ⟨h'.1, whB_any hd hs s _ f a' w' hp.2.2.1 (by omega) h'.1 ha' h'.2⟩)
      · unfold wpOp
        simp only [ho3, hg3.wanted, if_true]
        exact .inl (w1_wp ha hdo3 hr3 fun a' w' ha' h' => ⟨h'.1, whB_any hd hs q _ f a' w' hp.2.2.2 (by omega) h'.1 ha' h'.2⟩)
def PB.ofList : List (Nat × Bool) → PB
  | [] => .done
  | (i, true) :: r => .take i (PB.ofList r)
  | (i, false) :: r => .one i (PB.ofList r)
theorem PB.ofList_len : ∀ l : List (Nat × Bool), (PB.ofList l).len = l.length
  | [] => rfl
  | (i, true) :: r => by simp [PB.ofList, PB.len, PB.ofList_len r]
  | (i, false) :: r => by simp [PB.ofList, PB.len, PB.ofList_len r]
theorem planOkB_ofList (ops : Array Oper) : ∀ (l : List (Nat × Bool)) (listed : Array Bool), planOkB ops (PB.ofList l) listed = planOk ops l listed
  | [], _ => rfl
  | (i, true) :: r, listed => by simp only [PB.ofList, planOkB, planOk, planOkB_ofList ops r]
  | (i, false) :: r, listed => by simp only [PB.ofList, planOkB, planOk, planOkB_ofList ops r]
theorem whB_ofList {P : Program} {ops : Array Oper} {S : World → Prop} {K : Env → World → Prop} : ∀ (l : List (Nat × Bool)) (ρ : Env) (w : World), wh P ops S l K ρ w → whB P ops S (PB.ofList l) K ρ w
  | [], _, _, h => h
  | (i, true) :: r, ρ, w, h => by
    obtain ⟨o, v, h1, h2, h3, h4⟩ := h
    exact ⟨o, v, h1, .inl ⟨.of_none h2, h3⟩, whB_ofList r _ w h4⟩
  | (i, false) :: r, ρ, w, h => by
    obtain ⟨o, h1, h2, h3⟩ := h
    refine ⟨o, h1, .of_none h2, ?_⟩
    unfold w1 at *
    generalize (execOp (ev ρ) o).run P w = x at *
    cases x with
    | halt x w' => cases x <;> exact h3.elim
    | ok x w' =>
      cases x with
      | value v => exact ⟨h3.1, h3.2.1, whB_ofList r _ _ h3.2.2⟩
      | skip => exact ⟨h3.1, h3.2.1, whB_ofList r _ _ h3.2.2⟩
      | enter f args =>
        refine ⟨fun e => (by cases e), fun e => ?_⟩
        refine (h3.2 e).mono ?_
        rintro e w'' ⟨v, he, hv⟩
        exact ⟨v, he, hv.1, whB_ofList r _ _ hv.2⟩
      | _ => exact h3.elim

/-- Two environments that differ in destinations of these operations alone. -/
def sameBut (ops : Array Oper) (ρ ρ' : Env) : Prop := ∀ j, (∀ o ∈ ops.toList, o.dst ≠ some j) → ρ' j = ρ j
theorem sameBut.refl (ops : Array Oper) (ρ : Env) : sameBut ops ρ ρ := fun _ _ => rfl
theorem sameBut.upo {ops : Array Oper} {ρ0 ρ : Env} {o : Oper} (h : sameBut ops ρ0 ρ) (ho : o ∈ ops.toList) (v : Value) : sameBut ops ρ0 (upo ρ o.dst v) := by
  intro j hj
  rw [← h j hj]
  have := hj o ho
  cases hd : o.dst with
  | none => rfl
  | some d => exact up_ne _ _ _ _ (by rintro rfl; exact this hd)
theorem sameBut.unupo {ops : Array Oper} {ρ0 ρ : Env} {o : Oper} {v : Value} (h : sameBut ops ρ0 (Gv.upo ρ o.dst v)) (ho : o ∈ ops.toList) : sameBut ops ρ0 ρ := by
  intro j hj
  rw [← h j hj]
  have := hj o ho
  cases hd : o.dst with
  | none => rfl
  | some d => exact (up_ne _ _ _ _ (by rintro rfl; exact this hd)).symm
/-- An operation that may panic: X tells what holds then. -/
def AfterP (P : Program) (d : Option Nat) (K : Env → World → Prop) (X : List PanicEntry → Env → World → Prop) (ρ : Env) : Result Next → Prop
  | .ok (.enter f args) w' => Calls P f args w' (fun e w'' => (∃ v, e = .returned v ∧ K (upo ρ d v) w'') ∨ ∃ ch, e = .panicked ch ∧ X ch ρ w'')
  | .halt (.panic v) w' => X [{ v, recovered := false }] ρ w'
  | _ => False
def w1P (P : Program) (o : Oper) (K : Env → World → Prop) (X : List PanicEntry → Env → World → Prop) (ρ : Env) (w : World) : Prop := AfterP P o.dst K X ρ ((execOp (ev ρ) o).run P w)
theorem w1P_wp {P : Program} {n : Nat} {o : Oper} {a : Act} {w : World} {K : Env → World → Prop} {X : List PanicEntry → Env → World → Prop} {next : Act → World → Prop} {Q : Exit → Act → World → Prop}
    (ha : inv n a) (ho : dstOk n o = true) (h : w1P P o K X (envOf a) w) (hK : ∀ a' w, inv n a' → (∃ v, envOf a' = upo (envOf a) o.dst v) → K (envOf a') w → next a' w) (hX : ∀ ch w, X ch (envOf a) w → Q (.panic ch) a w) : o.wp P a w next Q := by
  unfold w1P at h
  rw [ev_fun _ ha.small] at h
  unfold Oper.wp
  generalize (execOp a.eval o).run P w = r at *
  cases r with
  | halt x w' =>
    cases x with
    | panic v => exact hX _ _ h
    | _ => exact h.elim
  | ok x w' =>
    cases x with
    | enter f args =>
      refine Calls.mono h ?_
      rintro e w'' (⟨v, rfl, hv⟩ | ⟨ch, rfl, hx⟩)
      · exact hK _ _ (inv_put ha _ _) ⟨v, envOf_puto ha o ho v⟩ (by rw [envOf_puto ha o ho]; exact hv)
      · exact hX _ _ hx
    | _ => exact h.elim
/-- As 'whB', in a region in which something may panic. -/
def whP (P : Program) (ops : Array Oper) (S : World → Prop) (X : List PanicEntry → World → Prop) : PB → (Env → World → Prop) → Env → World → Prop
  | .done, K, ρ, w => K ρ w
  | .take i r, K, ρ, w => ∃ o v, ops[i]? = some o ∧ GdOk ops ρ o ∧ (∀ w', S w' → (execOp (ev ρ) o).run P w' = .ok (.value v) w') ∧ whP P ops S X r K (upo ρ o.dst v) w
  | .one i r, K, ρ, w => ∃ o, ops[i]? = some o ∧ GdOk ops ρ o ∧ (w1 P false o (fun ρ' w' => S w' ∧ whP P ops S X r K ρ' w') ρ w ∨ w1P P o (fun ρ' w' => S w' ∧ whP P ops S X r K ρ' w') (fun ch _ => X ch) ρ w)
  | _, _, _, _ => False
def QP (n : Nat) (ops : Array Oper) (ρ0 : Env) (X : List PanicEntry → World → Prop) (K : Env → World → Prop) : Exit → Act → World → Prop
  | .normal, a, w => inv n a ∧ K (envOf a) w
  | .panic ch, a, w => inv n a ∧ sameBut ops ρ0 (envOf a) ∧ X ch w
  | _, _, _ => False
theorem inv_unput {n : Nat} {a : Act} {d : Option Nat} {v : Value} (h : inv n (a.put d v)) : inv n a := by
  cases d <;> simp_all [inv, Act.put]
theorem w1_wpS {P : Program} {n : Nat} {ops : Array Oper} {ρ0 : Env} {o : Oper} {a : Act} {w : World} {K : Env → World → Prop} {next : Act → World → Prop} {Q : Exit → Act → World → Prop}
    (ha : inv n a) (ho : dstOk n o = true) (hm : o ∈ ops.toList) (hs : sameBut ops ρ0 (envOf a)) (h : w1 P false o K (envOf a) w) (hK : ∀ a w, inv n a → sameBut ops ρ0 (envOf a) → K (envOf a) w → next a w) : o.wp P a w next Q := by
  unfold w1 at h
  rw [ev_fun _ ha.small] at h
  unfold Oper.wp
  generalize (execOp a.eval o).run P w = r at *
  cases r with
  | halt x w' => cases x <;> exact h.elim
  | ok x w' =>
    cases x with
    | value v => exact hK _ _ (inv_put ha _ _) (by rw [envOf_puto ha o ho]; exact hs.upo hm _) (by rw [envOf_puto ha o ho]; exact h.2)
    | skip => exact hK _ _ (inv_put ha _ _) (by rw [envOf_puto ha o ho]; exact hs.upo hm _) (by rw [envOf_puto ha o ho]; exact h.2)
    | enter f args =>
      refine (h.2 rfl).mono ?_
      rintro e w'' ⟨v, rfl, hv⟩
      exact hK _ _ (inv_put ha _ _) (by rw [envOf_puto ha o ho]; exact hs.upo hm _) (by rw [envOf_puto ha o ho]; exact hv)
    | _ => exact h.elim
theorem whP_any {P : Program} {n : Nat} {ops : Array Oper} {S : World → Prop} {X : List PanicEntry → World → Prop} {K : Env → World → Prop} {ρ0 : Env} (hd : ops.toList.all (dstOk n) = true) (hs : Region.noSelect ops = true) :
    ∀ (plan : PB) (listed : Array Bool) (fuel : Nat) (a : Act) (w : World), planOkB ops plan listed = true → plan.len ≤ fuel → S w → inv n a → sameBut ops ρ0 (envOf a) → whP P ops S X plan K (envOf a) w →
      wpAnyH P .any ops (QP n ops ρ0 X K) S fuel listed a w
  | .done, listed, fuel, a, w, hp, hf, hS, ha, hsb, h => by
    simp only [planOkB, List.isEmpty_iff] at hp
    cases fuel with
    | zero => exact ⟨hp, ha, h⟩
    | succ f => exact ⟨fun _ => ⟨ha, h⟩, fun i hi => by rw [hp] at hi; cases hi⟩
  | .take i r, listed, fuel, a, w, hp, hf, hS, ha, hsb, h => by
    simp only [planOkB, Bool.and_eq_true] at hp
    obtain ⟨o, v, ho, hg, hy, hr⟩ := h
    have hmem : o ∈ ops.toList := by rw [Array.mem_toList_iff]; exact Array.mem_of_getElem? ho
    have hdo : dstOk n o = true := List.all_eq_true.1 hd o hmem
    cases fuel with
    | zero => simp [PB.len] at hf
    | succ f =>
      refine wpAnyH_take (v := v) ho hs hp.1.1 hp.1.2 (fun c a w hq => ?_) (.inl ⟨hg.wanted, fun w' hw' => ?_⟩) hS ?_
      · have hi := inv_unput hq.1
        exact ⟨hi, (sameBut.unupo (v := v) (by rw [← envOf_puto hi o hdo]; exact hq.2.1) hmem), hq.2.2⟩
      · rw [← ev_fun _ ha.small]; exact hy w' hw'
      · refine whP_any hd hs r _ f _ w hp.2 (by simpa [PB.len] using hf) hS (inv_put ha _ _) ?_ ?_
        · rw [envOf_puto ha o hdo]; exact hsb.upo hmem _
        · rw [envOf_puto ha o hdo]; exact hr
  | .one i r, listed, fuel, a, w, hp, hf, hS, ha, hsb, h => by
    simp only [planOkB, Bool.and_eq_true, beq_iff_eq] at hp
    obtain ⟨o, ho, hg, hr⟩ := h
    have hmem : o ∈ ops.toList := by rw [Array.mem_toList_iff]; exact Array.mem_of_getElem? ho
    have hdo : dstOk n o = true := List.all_eq_true.1 hd o hmem
    cases fuel with
    | zero => simp [PB.len] at hf
    | succ f =>
      refine wpAnyH_all hp.1 (by simp) fun j hj => ?_
      simp only [List.mem_singleton] at hj
      subst hj
      unfold wpOp
      simp only [ho, hg.wanted, if_true]
      rcases hr with hr | hr
      · exact .inl (w1_wpS ha hdo hmem hsb hr fun a' w' ha' hs' h' => ⟨h'.1, whP_any hd hs r _ f a' w' hp.2 (by simpa [PB.len] using hf) h'.1 ha' hs' h'.2⟩)
      · exact .inl (w1P_wp ha hdo hr (fun a' w' ha' he' h' => ⟨h'.1, whP_any hd hs r _ f a' w' hp.2 (by simpa [PB.len] using hf) h'.1 ha' (by obtain ⟨v, e⟩ := he'; rw [e]; exact hsb.upo hmem v) h'.2⟩) fun ch w hx => ⟨ha, hsb, hx⟩)
  | .two .., _, _, _, _, _, _, _, _, _, h => h.elim
  | .three .., _, _, _, _, _, _, _, _, _, h => h.elim

/- Ranges over functions: rounds; the iterator's contract; what the law's own book-keeping turns. -/
/-- Only records of loops at or beyond B have turned (and new blocks have come). -/
structure Lk (B : Nat) (w w' : World) : Prop where
  os : w'.os = w.os
  tape : w'.tape = w.tape
  output : w'.output = w.output
  size : w.heap.size ≤ w'.heap.size
  block : ∀ k, k < w.heap.size → (B ≤ k → ∀ r, w.heap[k]? ≠ some (.loop r)) → w'.heap[k]? = w.heap[k]?
/-- New blocks have come: no other has turned. -/
def Nx (w w' : World) : Prop := w'.os = w.os ∧ w'.tape = w.tape ∧ w'.output = w.output ∧ w.heap.size ≤ w'.heap.size ∧ ∀ k, k < w.heap.size → w'.heap[k]? = w.heap[k]?
theorem Nx.lk {B : Nat} {w w' : World} (h : Nx w w') : Lk B w w' := ⟨h.1, h.2.1, h.2.2.1, h.2.2.2.1, fun k hk _ => h.2.2.2.2 k hk⟩
theorem Nx.alloc (w : World) (o : Obj) : Nx w (w.alloc o) := ⟨rfl, rfl, rfl, by simp, fun k hk => by
  show (w.heap.push o)[k]? = _
  rw [Array.getElem?_push, if_neg (by omega)]⟩
theorem Lk.put {B l : Nat} {w : World} {r r' : Loop} (h : w.heap[l]? = some (.loop r)) (hl : B ≤ l) : Lk B w (w.putObj l (.loop r')) :=
  ⟨rfl, rfl, rfl, by simp, fun k _ hn => World.putObj_heap_other (fun e => by subst e; exact hn hl r h)⟩
/-- The records of loops and the blocks for deferred calls at or beyond B lie as they lay. -/
def KpB (B : Nat) (w w' : World) : Prop := ∀ k, B ≤ k → ∀ o, w.heap[k]? = some o → ((∃ r, o = .loop r) ∨ (∃ ds, o = .deferred ds)) → w'.heap[k]? = some o
/-- The rows and variables of the type T lie as they lay. -/
def Kt (T : TypeId) (w w' : World) : Prop := ∀ (k : Nat) (c : Array Value) (r : Nat × Nat), w.heap[k]? = some (Obj.cells c T r) → w'.heap[k]? = some (Obj.cells c T r)
theorem Kt.trans {T : TypeId} {a b c : World} (h : Kt T a b) (h' : Kt T b c) : Kt T a c := fun k x r hk => h' k x r (h k x r hk)
theorem Lk.kt {B : Nat} {T : TypeId} {w w' : World} (h : Lk B w w') : Kt T w w' := fun k c r hk => by
  rw [h.block k (Array.getElem?_eq_some_iff.1 hk).1 fun _ r' e => by rw [hk] at e; cases e]; exact hk
def IterC (P : Program) (f : FuncId) (lb : List Value) (items : List (List Value)) (T : TypeId) (Dt : World → Prop) : Prop :=
  ∀ (l : Nat) (J : Nat → World → Prop) (W : World), (∀ i w w', Nx w w' → J i w → J i w') → J 0 W → Dt W →
    (∀ i w x, items[i]? = some x → J i w → Dt w → YieldAt Fence.wide 0 P l x.toArray w (fun e w' => e = .returned (.bool true) ∧ J (i + 1) w' ∧ Dt w' ∧ Kt T w w')) →
    Calls P f (.func (.yield l) #[] #[] :: lb).toArray W (fun e w' => ∃ v, e = .returned v ∧ J items.length w')
/-- As 'IterC', where a round may say 'no more' (Jx), and what comes is told by a relation. -/
def IterX (P : Program) (f : FuncId) (lb : List Value) {α : Type} (items : List α) (E : α → List Value → World → Prop) (T : List TypeId) (Dt : World → Prop) : Prop :=
  ∀ (l : Nat) (J Jx : Nat → World → Prop) (W : World), (∀ i w w', Nx w w' → J i w → J i w') → (∀ i w w', Nx w w' → Jx i w → Jx i w') → J 0 W → Dt W →
    (∀ i w x xs, items[i]? = some x → E x xs w → J i w → Dt w → YieldAt Fence.wide 0 P l xs.toArray w (fun e w' => (e = .returned (.bool true) ∧ J (i + 1) w' ∧ Dt w' ∧ ∀ t, t ∈ T → Kt t w w') ∨ (e = .returned (.bool false) ∧ Jx i w' ∧ ∀ t, t ∈ T → Kt t w w'))) →
    Calls P f (.func (.yield l) #[] #[] :: lb).toArray W (fun e w' => ∃ v, e = .returned v ∧ (J items.length w' ∨ ∃ i, Jx i w'))
def bindPs : List Nat → List Value → Env → Env
  | p :: ps, x :: xs, ρ => bindPs ps xs (up ρ p x)
  | _, _, ρ => ρ
def rndQ (B : Nat) (W : World) (R : World → Prop) : Exit → Env → World → Prop
  | .normal, _, w => KpB B W w ∧ R w
  | _, _, _ => False
def rndX (B : Nat) (W : World) (R : World → Prop) (X : Exit → World → Prop) : Exit → Env → World → Prop
  | .normal, _, w => KpB B W w ∧ R w
  | .ret, _, w => KpB B W w ∧ X .ret w
  | .exit i, _, w => KpB B W w ∧ X (.exit i) w
  | _, _, _ => False
def noG (Q : Exit → Env → World → Prop) : Exit → Env → World → Prop
  | .goto _, _, _ => False
  | e, ρ, w => Q e ρ w

def w1R (P : Program) (o : Oper) (K : Env → World → Prop) (ρ : Env) (w : World) : Prop := ∃ l f tmps assign body,
  (execOp (ev ρ) o).run P w = .ok (.round l f tmps assign body) w ∧ RoundIn Fence.wide 0 P l f tmps assign body w (fun e w' => ∃ v, e = .returned v ∧ K (upo ρ o.dst v) w')
/-- As 'wl', in a region in which yield may be called. -/
def wlR (P : Program) (ops : Array Oper) : List Oper → (Env → World → Prop) → Env → World → Prop
  | [], K, ρ, w => K ρ w
  | o :: r, K, ρ, w =>
    match o.guard with
    | none => w1 P false o (wlR P ops r K) ρ w ∨ w1R P o (wlR P ops r K) ρ w
    | some (j, b) => (∃ t tb, (ops[j]?).bind (·.dst) = some t ∧ ρ t = .bool tb ∧
        (tb = b → w1 P false o (wlR P ops r K) (up ρ t (.bool b)) w ∨ w1R P o (wlR P ops r K) (up ρ t (.bool b)) w) ∧ (tb = (!b) → wlR P ops r K (upo (up ρ t (.bool (!b))) o.dst undef) w)) ∨
      (∃ t, (ops[j]?).bind (·.dst) = some t ∧ ρ t = undef ∧ wlR P ops r K (upo ρ o.dst undef) w)

/-- As 'wl', in a region in which something may panic. -/
def wlP (P : Program) (ops : Array Oper) (X : List PanicEntry → Env → World → Prop) : List Oper → (Env → World → Prop) → Env → World → Prop
  | [], K, ρ, w => K ρ w
  | o :: r, K, ρ, w =>
    match o.guard with
    | none => w1 P false o (wlP P ops X r K) ρ w ∨ w1P P o (wlP P ops X r K) X ρ w
    | some (j, b) => (∃ t tb, (ops[j]?).bind (·.dst) = some t ∧ ρ t = .bool tb ∧
        (tb = b → w1 P false o (wlP P ops X r K) (up ρ t (.bool b)) w ∨ w1P P o (wlP P ops X r K) X (up ρ t (.bool b)) w) ∧ (tb = (!b) → wlP P ops X r K (upo (up ρ t (.bool (!b))) o.dst undef) w)) ∨
      (∃ t, (ops[j]?).bind (·.dst) = some t ∧ ρ t = undef ∧ wlP P ops X r K (upo ρ o.dst undef) w)

def thenQ (next : Env → World → Prop) (Q : Exit → Env → World → Prop) : Exit → Env → World → Prop
  | .normal, ρ, w => next ρ w
  | e, ρ, w => Q e ρ w
def inBl (id : Nat) (Q : Exit → Env → World → Prop) : Exit → Env → World → Prop
  | .exit i, ρ, w => (i = id → Q .normal ρ w) ∧ (i ≠ id → Q (.exit i) ρ w)
  | e, ρ, w => Q e ρ w
def wc (P : Program) : Code → (Exit → Env → World → Prop) → Env → World → Prop
  | .skip, Q, ρ, w => Q .normal ρ w
  | .label _, Q, ρ, w => Q .normal ρ w
  | .region _ ops false, Q, ρ, w => wl P false ops ops.toList (Q .normal) ρ w ∨ wlR P ops ops.toList (Q .normal) ρ w ∨ wlP P ops (fun ch => Q (.panic ch)) ops.toList (Q .normal) ρ w
  | .region _ ops true, Q, ρ, w => P.follows .mixedOrders = true ∧ ((∃ n, Region.lexTailB .any ops n = true ∧
      wl P true ops (ops.toList.take n) (fun ρ' w' => wl P false ops (ops.toList.drop n) (Q .normal) ρ' w') ρ w.drew) ∨
    (∃ S plan, Region.noSelect ops = true ∧ planOkB ops plan (Array.replicate ops.size false) = true ∧ plan.len ≤ ops.size ∧ S w.drew ∧ whB P ops S plan (Q .normal) ρ w.drew) ∨
    (∃ S plan X, Region.noSelect ops = true ∧ planOkB ops plan (Array.replicate ops.size false) = true ∧ plan.len ≤ ops.size ∧ S w.drew ∧ (∀ ch ρ' w', sameBut ops ρ ρ' → X ch w' → Q (.panic ch) ρ' w') ∧ whP P ops S X plan (Q .normal) ρ w.drew))
  | .seq a b, Q, ρ, w => wc P a (thenQ (wc P b Q) Q) ρ w
  | .cond c a b, Q, ρ, w => ∃ t, ev ρ c = .bool t ∧ (t = true → wc P a Q ρ w) ∧ (t = false → wc P b Q ρ w)
  | .block id b, Q, ρ, w => wc P b (inBl id Q) ρ w
  | .loop b, Q, ρ, w => ∃ (I : Env → World → Prop) (μ : Env → World → Nat), I ρ w ∧
      ∀ ρ w, I ρ w → wc P b (thenQ (fun ρ' w' => I ρ' w' ∧ μ ρ' w' < μ ρ w) Q) ρ w
  | .exit id, Q, ρ, w => Q (.exit id) ρ w
  | .ret, Q, ρ, w => Q .ret ρ w
  | .scope b, Q, ρ, w => wc P b (noG Q) ρ w
  | .rangeFunc g ps a b, Q, ρ, w => (∃ (f : FuncId) (lb : List Value) (items : List (List Value)) (T : TypeId) (Dt : World → Prop) (I : Nat → World → Prop) (asg : List Value → Env) (M : List Nat),
      ρ 1000000 = mkv M ∧ ev ρ g = .func (.func f) #[] lb.toArray ∧ (∀ args w, (callFunc f args).run P w = .ok (.enter f args) w) ∧ IterC P f lb items T Dt ∧ (∀ x, x ∈ items → x.length = ps.size) ∧
      (∀ W W', Lk w.heap.size W W' → Dt W → Dt W') ∧ (∀ i W W', Lk w.heap.size W W' → I i W → I i W') ∧ Dt w ∧ I 0 w ∧
      (∀ (i : Nat) (W : World) (x : List Value), items[i]? = some x → wc P a (fun e ρ' w' => e = .normal ∧ ρ' = asg x ∧ w' = W) (bindPs ps.toList x (up ρ 1000000 (mkv []))) W) ∧
      (∀ (i : Nat) (W : World) (x : List Value), items[i]? = some x → w.heap.size ≤ W.heap.size → I i W → Dt W → wc P b (rndQ w.heap.size W (fun w' => I (i + 1) w' ∧ Dt w' ∧ Kt T W w')) (asg x) W) ∧
      (∀ W, I items.length W → W.heap[w.heap.size]? = some (.deferred (some [])) → Q .normal (up ρ 1000000 (mkv (w.heap.size :: M))) W)) ∨
      (∃ (α : Type) (E : α → List Value → World → Prop) (f : FuncId) (lb : List Value) (items : List α) (T : List TypeId) (Dt : World → Prop) (I : Nat → World → Prop) (Ix : Exit → Nat → World → Prop) (asg : List Value → Env) (M : List Nat),
      ρ 1000000 = mkv M ∧ ev ρ g = .func (.func f) #[] lb.toArray ∧ (∀ args w, (callFunc f args).run P w = .ok (.enter f args) w) ∧ IterX P f lb items E T Dt ∧ (∀ x xs w, E x xs w → xs.length = ps.size) ∧
      (∀ W W', Lk w.heap.size W W' → Dt W → Dt W') ∧ (∀ i W W', Lk w.heap.size W W' → I i W → I i W') ∧ (∀ e i W W', Lk w.heap.size W W' → Ix e i W → Ix e i W') ∧ (∀ x xs W W', Lk w.heap.size W W' → E x xs W → E x xs W') ∧ Dt w ∧ I 0 w ∧
      (∀ (i : Nat) (W : World) (x : α) (xs : List Value), items[i]? = some x → E x xs W → wc P a (fun e ρ' w' => e = .normal ∧ ρ' = asg xs ∧ w' = W) (bindPs ps.toList xs (up ρ 1000000 (mkv []))) W) ∧
      (∀ (i : Nat) (W : World) (x : α) (xs : List Value), items[i]? = some x → E x xs W → w.heap.size ≤ W.heap.size → I i W → Dt W → wc P b (rndX w.heap.size W (fun w' => I (i + 1) w' ∧ Dt w' ∧ ∀ t, t ∈ T → Kt t W w') (fun e w' => Ix e i w' ∧ ∀ t, t ∈ T → Kt t W w')) (asg xs) W) ∧
      (∀ W, I items.length W → W.heap[w.heap.size]? = some (.deferred (some [])) → Q .normal (up ρ 1000000 (mkv (w.heap.size :: M))) W) ∧
      (∀ e i W, Ix e i W → (e = .ret ∨ ∃ j, e = .exit j) → W.heap[w.heap.size]? = some (.deferred (some [])) → Q e (up ρ 1000000 (mkv (w.heap.size :: M))) W))
  | _, _, _, _ => False
/-- No range over a function, no scope. -/
def plainC : Code → Bool
  | .skip | .label _ | .exit _ | .ret | .region .. => true
  | .seq a b => plainC a && plainC b
  | .cond _ a b => plainC a && plainC b
  | .block _ b => plainC b
  | .loop b => plainC b
  | _ => false
def codeOk (n : Nat) : Code → Bool
  | .skip | .label _ | .exit _ | .ret => true
  | .region _ ops _ => ops.toList.all (dstOk n)
  | .seq a b => codeOk n a && codeOk n b
  | .cond _ a b => codeOk n a && codeOk n b
  | .block _ b => codeOk n b
  | .loop b => codeOk n b
  | .scope b => codeOk n b
  | .rangeFunc _ ps a b => codeOk n a && codeOk n b && plainC a && plainC b && ps.toList.all (fun p => Nat.blt p n)
  | _ => false

def lift (n : Nat) (Q : Exit → Env → World → Prop) : Exit → Act → World → Prop := fun e a w => inv n a ∧ Q e (envOf a) w
/-- The wide fence, within a round or not. -/
abbrev Fr (ro : Option Nat) : Fence := { Fence.wide with round := ro }
theorem Fr.calls {ro : Option Nat} {n : Nat} {P : Program} {f : FuncId} {args : Array Value} {w : World} {R : Ending → World → Prop} (h : Calls P f args w R) : CallsIn (Fr ro) n P f args w R :=
  callsIn_wide.2 h
theorem Fr.round {ro : Option Nat} {n m : Nat} {P : Program} {l : Nat} {f : FuncId} {tmps : Array Value} {assign body : Code} {w : World} {R : Ending → World → Prop}
    (h : RoundIn Fence.wide n P l f tmps assign body w R) : RoundIn (Fr ro) m P l f tmps assign body w R :=
  ⟨trivial, fun c cs _ => h.2 c cs (room_wide _)⟩
theorem Fr.round' {ro : Option Nat} {n m : Nat} {P : Program} {l : Nat} {f : FuncId} {tmps : Array Value} {assign body : Code} {w : World} {R : Ending → World → Prop}
    (h : RoundIn (Fr ro) n P l f tmps assign body w R) : RoundIn Fence.wide m P l f tmps assign body w R :=
  ⟨trivial, fun c cs _ => h.2 c cs (room_wide _)⟩
theorem Fr.rows {ro : Option Nat} {n : Nat} {P : Program} {row : String} {args : Array Value} {w : World} {R : Value → World → Prop} (h : Rows P row args w R) : RowsIn (Fr ro) n P row args w R :=
  fun c cs _ => let ⟨v, w', r, s⟩ := h c cs; ⟨v, w', r, stepsIn_wide.2 s⟩

theorem opsIn_of_lone {P : Program} {ro : Option Nat} {m : Nat} {ops : Array Oper} {Q : Exit → Act → World → Prop} (hnd : ∀ o ∈ ops, noDefer o = true) (hQ : ¬ LetsOut Q) :
    ∀ (l : List Nat) (a : Act) (w : World), wpOps P ops Q l a w → wpOpsIn (Fr ro) m P ops Q l a w
  | [], a, w, h => h
  | i :: r, a, w, h => by
    have ih := opsIn_of_lone (P := P) (ro := ro) (m := m) hnd hQ r
    simp only [wpOps] at h
    simp only [wpOpsIn]
    cases ho : ops[i]? with
    | none => rw [ho] at h; exact ih a w h
    | some o =>
      rw [ho] at h
      have hno := noDefer_spec (hnd o (Array.mem_of_getElem? ho))
      by_cases hw : Region.wanted o (yielded ops a.tmps) = true
      · simp only [hw, if_true] at h ⊢
        rcases h with h | ⟨_, hl⟩
        · refine ⟨fun _ _ => trivial, ?_⟩
          rw [Oper.semAt_eq _ _ _ hno]
          unfold Oper.wp at h
          generalize (execOp a.eval o).run P w = x at h ⊢
          cases x with
          | halt x w' => cases x <;> exact h
          | ok x w' =>
            cases x with
            | value v => exact ih _ _ h
            | skip => exact ih _ _ h
            | defer d => exact ih _ _ h
            | enter f args =>
              refine ⟨fun e => (by simp [Fence.wide] at e), (Fr.calls h).mono ?_⟩
              intro e w'' he
              cases e with
              | returned v => exact ih _ _ he
              | panicked ch => exact he
              | outgrown => exact he
            | row row args => exact ⟨fun e => (by simp [Fence.wide] at e), (Fr.rows h).mono fun v w'' he => ih _ _ he⟩
            | _ => exact h.elim
        · exact absurd hl hQ
      · simp only [hw, Bool.false_eq_true, if_false] at h ⊢
        exact ⟨fun _ _ => trivial, ih _ _ h⟩

theorem w1_in {P : Program} {n m : Nat} {ro : Option Nat} {o : Oper} {a : Act} {w : World} {K : Env → World → Prop} {next : Act → World → Prop} {Q : Exit → Act → World → Prop}
    (ha : inv n a) (ho : dstOk n o = true) (h : w1 P false o K (envOf a) w) (hK : ∀ a w, inv n a → K (envOf a) w → next a w) : o.wpIn (Fr ro) m P a w next Q := by
  have hno := noDefer_spec (Bool.and_eq_true_iff.1 ho).2
  unfold w1 at h
  rw [ev_fun _ ha.small] at h
  refine ⟨fun _ _ => trivial, ?_⟩
  rw [Oper.semAt_eq _ _ _ hno]
  generalize (execOp a.eval o).run P w = r at *
  cases r with
  | halt x w' => cases x <;> exact h.elim
  | ok x w' =>
    cases x with
    | value v => exact hK _ _ (inv_put ha _ _) (by rw [envOf_puto ha o ho]; exact h.2)
    | skip => exact hK _ _ (inv_put ha _ _) (by rw [envOf_puto ha o ho]; exact h.2)
    | enter f args =>
      refine ⟨fun e => (by simp [Fence.wide] at e), (Fr.calls (h.2 rfl)).mono ?_⟩
      rintro e w'' ⟨v, rfl, hv⟩
      exact hK _ _ (inv_put ha _ _) (by rw [envOf_puto ha o ho]; exact hv)
    | _ => exact h.elim
theorem w1R_in {P : Program} {n m : Nat} {ro : Option Nat} {o : Oper} {a : Act} {w : World} {K : Env → World → Prop} {next : Act → World → Prop} {Q : Exit → Act → World → Prop}
    (ha : inv n a) (ho : dstOk n o = true) (h : w1R P o K (envOf a) w) (hK : ∀ a w, inv n a → K (envOf a) w → next a w) : o.wpIn (Fr ro) m P a w next Q := by
  have hno := noDefer_spec (Bool.and_eq_true_iff.1 ho).2
  obtain ⟨l, f, tmps, assign, body, hr, h⟩ := h
  rw [ev_fun _ ha.small] at hr
  refine ⟨fun _ _ => trivial, ?_⟩
  rw [Oper.semAt_eq _ _ _ hno, hr]
  refine ⟨fun e => (by simp [Fence.wide] at e), (Fr.round h).mono ?_⟩
  rintro e w'' ⟨v, rfl, hv⟩
  exact hK _ _ (inv_put ha _ _) (by rw [envOf_puto ha o ho]; exact hv)
theorem wl_in {P : Program} {n m : Nat} {ro : Option Nat} {ops : Array Oper} {Q : Exit → Act → World → Prop} {K : Env → World → Prop}
    (hK : ∀ a w, inv n a → K (envOf a) w → Q .normal a w) : ∀ (l : List Oper) (a : Act) (w : World), inv n a → l.all (dstOk n) = true →
      wl P false ops l K (envOf a) w → wpListIn (Fr ro) m P ops Q l a w
  | [], a, w, ha, _, h => hK a w ha h
  | o :: r, a, w, ha, hd, h => by
    simp only [List.all_cons, Bool.and_eq_true] at hd
    have ih := wl_in (P := P) (m := m) (ro := ro) (ops := ops) (Q := Q) hK r
    unfold wl at h
    unfold wpListIn
    cases hg : o.guard with
    | none =>
      rw [hg] at h
      simp only [Region.wanted, hg, if_true]
      exact w1_in ha hd.1 h (fun a w ha h => ih a w ha hd.2 h)
    | some jb =>
      obtain ⟨j, b⟩ := jb
      rw [hg] at h
      rcases h with h | ⟨t, ht, hb, h⟩
      rotate_left 1
      · simp only [Region.wanted, hg, yielded_undef ht hb]
        rw [if_neg (by simp)]
        rw [← envOf_puto ha o hd.1] at h
        exact ⟨fun _ _ => trivial, ih _ _ (inv_put ha _ _) hd.2 h⟩
      obtain ⟨t, tb, ht, hb, h1, h2⟩ := h
      simp only [Region.wanted, hg, yielded_of ht hb]
      by_cases he : tb = b
      · subst he
        rw [if_pos (by simp)]
        have := h1 rfl
        rw [up_id _ _ _ hb] at this
        exact w1_in ha hd.1 this (fun a w ha h => ih a w ha hd.2 h)
      · have he' : tb = !b := by cases tb <;> cases b <;> simp_all
        rw [if_neg (by simp [he])]
        have := h2 he'
        subst he'
        rw [up_id _ _ _ hb, ← envOf_puto ha o hd.1] at this
        exact ⟨fun _ _ => trivial, ih _ _ (inv_put ha _ _) hd.2 this⟩
theorem wlR_in {P : Program} {n m : Nat} {ro : Option Nat} {ops : Array Oper} {Q : Exit → Act → World → Prop} {K : Env → World → Prop}
    (hK : ∀ a w, inv n a → K (envOf a) w → Q .normal a w) : ∀ (l : List Oper) (a : Act) (w : World), inv n a → l.all (dstOk n) = true →
      wlR P ops l K (envOf a) w → wpListIn (Fr ro) m P ops Q l a w
  | [], a, w, ha, _, h => hK a w ha h
  | o :: r, a, w, ha, hd, h => by
    simp only [List.all_cons, Bool.and_eq_true] at hd
    have ih := wlR_in (P := P) (m := m) (ro := ro) (ops := ops) (Q := Q) hK r
    unfold wlR at h
    unfold wpListIn
    cases hg : o.guard with
    | none =>
      rw [hg] at h
      simp only [Region.wanted, hg, if_true]
      rcases h with h | h
      · exact w1_in ha hd.1 h (fun a w ha h => ih a w ha hd.2 h)
      · exact w1R_in ha hd.1 h (fun a w ha h => ih a w ha hd.2 h)
    | some jb =>
      obtain ⟨j, b⟩ := jb
      rw [hg] at h
      rcases h with h | ⟨t, ht, hb, h⟩
      rotate_left 1
      · simp only [Region.wanted, hg, yielded_undef ht hb]
        rw [if_neg (by simp)]
        rw [← envOf_puto ha o hd.1] at h
        exact ⟨fun _ _ => trivial, ih _ _ (inv_put ha _ _) hd.2 h⟩
      obtain ⟨t, tb, ht, hb, h1, h2⟩ := h
      simp only [Region.wanted, hg, yielded_of ht hb]
      by_cases he : tb = b
      · subst he
        rw [if_pos (by simp)]
        have := h1 rfl
        rw [up_id _ _ _ hb] at this
        rcases this with this | this
        · exact w1_in ha hd.1 this (fun a w ha h => ih a w ha hd.2 h)
        · exact w1R_in ha hd.1 this (fun a w ha h => ih a w ha hd.2 h)
      · have he' : tb = !b := by cases tb <;> cases b <;> simp_all
        rw [if_neg (by simp [he])]
        have := h2 he'
        subst he'
        rw [up_id _ _ _ hb, ← envOf_puto ha o hd.1] at this
        exact ⟨fun _ _ => trivial, ih _ _ (inv_put ha _ _) hd.2 this⟩
theorem w1P_in {P : Program} {n m : Nat} {ro : Option Nat} {o : Oper} {a : Act} {w : World} {K : Env → World → Prop} {X : List PanicEntry → Env → World → Prop} {next : Act → World → Prop} {Q : Exit → Act → World → Prop}
    (ha : inv n a) (ho : dstOk n o = true) (h : w1P P o K X (envOf a) w) (hK : ∀ a w, inv n a → K (envOf a) w → next a w) (hX : ∀ ch a w, inv n a → X ch (envOf a) w → Q (.panic ch) a w) : o.wpIn (Fr ro) m P a w next Q := by
  have hno := noDefer_spec (Bool.and_eq_true_iff.1 ho).2
  unfold w1P at h
  rw [ev_fun _ ha.small] at h
  refine ⟨fun _ _ => trivial, ?_⟩
  rw [Oper.semAt_eq _ _ _ hno]
  generalize (execOp a.eval o).run P w = r at *
  cases r with
  | halt x w' =>
    cases x with
    | panic v => exact hX _ _ _ ha h
    | _ => exact h.elim
  | ok x w' =>
    cases x with
    | enter f args =>
      refine ⟨fun e => (by simp [Fence.wide] at e), (Fr.calls h).mono ?_⟩
      rintro e w'' (⟨v, rfl, hv⟩ | ⟨ch, rfl, hx⟩)
      · exact hK _ _ (inv_put ha _ _) (by rw [envOf_puto ha o ho]; exact hv)
      · exact hX _ _ _ ha hx
    | _ => exact h.elim
theorem wlP_in {P : Program} {n m : Nat} {ro : Option Nat} {ops : Array Oper} {Q : Exit → Act → World → Prop} {K : Env → World → Prop} {X : List PanicEntry → Env → World → Prop}
    (hK : ∀ a w, inv n a → K (envOf a) w → Q .normal a w) (hX : ∀ ch a w, inv n a → X ch (envOf a) w → Q (.panic ch) a w) : ∀ (l : List Oper) (a : Act) (w : World), inv n a → l.all (dstOk n) = true →
      wlP P ops X l K (envOf a) w → wpListIn (Fr ro) m P ops Q l a w
  | [], a, w, ha, _, h => hK a w ha h
  | o :: r, a, w, ha, hd, h => by
    simp only [List.all_cons, Bool.and_eq_true] at hd
    have ih := wlP_in (P := P) (m := m) (ro := ro) (ops := ops) (Q := Q) hK hX r
    unfold wlP at h
    unfold wpListIn
    cases hg : o.guard with
    | none =>
      rw [hg] at h
      simp only [Region.wanted, hg, if_true]
      rcases h with h | h
      · exact w1_in ha hd.1 h (fun a w ha h => ih a w ha hd.2 h)
      · exact w1P_in ha hd.1 h (fun a w ha h => ih a w ha hd.2 h) hX
    | some jb =>
      obtain ⟨j, b⟩ := jb
      rw [hg] at h
      rcases h with h | ⟨t, ht, hb, h⟩
      rotate_left 1
      · simp only [Region.wanted, hg, yielded_undef ht hb]
        rw [if_neg (by simp)]
        rw [← envOf_puto ha o hd.1] at h
        exact ⟨fun _ _ => trivial, ih _ _ (inv_put ha _ _) hd.2 h⟩
      obtain ⟨t, tb, ht, hb, h1, h2⟩ := h
      simp only [Region.wanted, hg, yielded_of ht hb]
      by_cases he : tb = b
      · subst he
        rw [if_pos (by simp)]
        have := h1 rfl
        rw [up_id _ _ _ hb] at this
        rcases this with this | this
        · exact w1_in ha hd.1 this (fun a w ha h => ih a w ha hd.2 h)
        · exact w1P_in ha hd.1 this (fun a w ha h => ih a w ha hd.2 h) hX
      · have he' : tb = !b := by cases tb <;> cases b <;> simp_all
        rw [if_neg (by simp [he])]
        have := h2 he'
        subst he'
        rw [up_id _ _ _ hb, ← envOf_puto ha o hd.1] at this
        exact ⟨fun _ _ => trivial, ih _ _ (inv_put ha _ _) hd.2 this⟩
theorem any_of_still_tail {P : Program} {Q : Exit → Act → World → Prop} {a : Act} {w : World} {l : List Oper} (n : Nat) (hB : Region.lexTailB .any l.toArray n = true)
    (h : wpStill P l.toArray w (fun a' => wpList P l.toArray Q (l.drop n) a' w) (l.take n) a) : wpAny P .any l.toArray Q l.toArray.size (Array.replicate l.toArray.size false) a w := by
  simp only [Region.lexTailB, Bool.and_eq_true, decide_eq_true_eq] at hB
  obtain ⟨⟨⟨⟨hsel, hn⟩, hs⟩, hc⟩, hlex⟩ := hB
  have hn' : n < l.length := by simpa using hn
  have htl : (l.take n).length = n := by simp; omega
  have hdl : (l.drop n).length = l.toArray.size - n := by simp
  have inv0 : HeadInv .any l.toArray n (Array.replicate l.toArray.size false) :=
    ⟨by simp, fun j oj _ hl => (by rw [getD_replicate_false] at hl; cases hl), fun t _ ht => getD_in (by simpa using ht) (getD_replicate_false _ _)⟩
  have H := wpAnyL_lex (md := .any) (g := l.toArray.size - n) hsel hs hc hn (l.take n) 0 _ a (fun j hj => by
    have hj' : j < n := by rw [htl] at hj; exact hj
    simp [hj']) (by simpa using htl) inv0 (by rw [htl]; exact hlex) h
  have := wpAny_of_head (Q' := Q) (g := l.toArray.size - n) (fun listed a' hL => by
    have := wpAny_of_seq (md := .any) (Q' := Q) (l.drop n) n listed a' w (fun j => by simp [List.getElem?_drop]) (by rw [hdl]; exact hL.1) hL.2
    rwa [hdl] at this) _ _ _ H
  rw [htl, show n + (l.toArray.size - n) = l.toArray.size by omega] at this
  exact this
theorem QN_noOut (n : Nat) (K : Env → World → Prop) : ¬ LetsOut (QN n K) := fun ⟨_, _, h⟩ => h
theorem drawn_in {P : Program} {n m : Nat} {ro : Option Nat} {id : Nat} {ops : Array Oper} {Q : Exit → Act → World → Prop} {a : Act} {w : World} (hm : P.follows .mixedOrders = true) (hd : ops.toList.all (dstOk n) = true) (hQ : ¬ LetsOut Q)
    (h : wpAny P .any ops Q ops.size (Array.replicate ops.size false) a w.drew) : (Code.region id ops true).wpIn (Fr ro) m P Q a w :=
  wpIn_region_draw fun t => by
    simp only [Region.schedule, hm, Bool.true_or, if_true]
    refine opsIn_of_lone (fun o ho => ?_) hQ _ _ _ (wpAny_sound ops.size t _ a _ h)
    exact (Bool.and_eq_true_iff.1 (List.all_eq_true.1 hd o (by simpa using ho))).2
theorem QP_noOut (n : Nat) (ops : Array Oper) (ρ0 : Env) (X : List PanicEntry → World → Prop) (K : Env → World → Prop) : ¬ LetsOut (QP n ops ρ0 X K) := fun ⟨_, _, h⟩ => h
theorem QN_lift {n : Nat} {Q : Exit → Env → World → Prop} (e : Exit) (a : Act) (w : World) (h : QN n (Q .normal) e a w) : lift n Q e a w := by
  cases e with
  | normal => exact h
  | _ => exact h.elim

theorem bind_env {n : Nat} (hn : n ≤ 1000000) : ∀ (ps : List Nat) (xs : List Value) (tmps : Array Value), tmps.size = n → (∀ p ∈ ps, p < n) →
    envOf { tmps := (ps.zip xs).foldl (fun t (px : Nat × Value) => t.setIfInBounds px.1 px.2) tmps, defers := [] } = bindPs ps xs (envOf { tmps, defers := [] })
  | [], xs, tmps, _, _ => by simp [bindPs]
  | p :: ps, [], tmps, _, _ => by simp [bindPs]
  | p :: ps, x :: xs, tmps, hs, hp => by
    simp only [List.zip_cons_cons, List.foldl_cons, bindPs]
    rw [bind_env hn ps xs _ (by simpa using hs) (fun q hq => hp q (by simp [hq]))]
    congr 1
    exact envOf_put { tmps, defers := [] } p x (by rw [hs]; exact hp p (by simp)) (by rw [hs]; exact hn)
theorem bind_size : ∀ (ps : List Nat) (xs : List Value) (tmps : Array Value), ((ps.zip xs).foldl (fun t (px : Nat × Value) => t.setIfInBounds px.1 px.2) tmps).size = tmps.size
  | [], xs, tmps => by simp
  | p :: ps, [], tmps => by simp
  | p :: ps, x :: xs, tmps => by
    simp only [List.zip_cons_cons, List.foldl_cons]
    rw [bind_size ps xs]; simp

theorem wc_in {P : Program} {n m : Nat} : ∀ (c : Code) (ro : Option Nat) (Q : Exit → Env → World → Prop) (a : Act) (w : World), codeOk n c = true → (ro = none ∨ plainC c = true) → inv n a →
    wc P c Q (envOf a) w → c.wpIn (Fr ro) m P (lift n Q) a w
  | .skip, ro, Q, a, w, _, _, ha, h => wpIn_skip ⟨ha, h⟩
  | .label _, ro, Q, a, w, _, _, ha, h => wpIn_label ⟨ha, h⟩
  | .region id ops false, ro, Q, a, w, hc, _, ha, h => by
    rcases h with h | h | h
    · exact wpIn_region_list (wl_in (fun _ _ ha h => ⟨ha, h⟩) _ a w ha hc h)
    · exact wpIn_region_list (wlR_in (fun _ _ ha h => ⟨ha, h⟩) _ a w ha hc h)
    · exact wpIn_region_list (wlP_in (fun _ _ ha h => ⟨ha, h⟩) (fun _ _ _ ha h => ⟨ha, h⟩) _ a w ha hc h)
  | .region id ops true, ro, Q, a, w, hc, _, ha, h => by
    obtain ⟨hm, h⟩ := h
    have hs := hc
    simp only [codeOk] at hc
    rcases h with ⟨k, hB, h⟩ | ⟨S, plan, hsel, hp, hlen, hS, h⟩ | ⟨S, plan, X, hsel, hp, hlen, hS, hX, h⟩
    rotate_left 1
    · exact wpIn_mono (drawn_in hm hc (QN_noOut n (Q .normal)) (wpAny_of_held _ _ _ _ (whB_any hc hsel plan _ _ a w.drew hp hlen hS ha h))) QN_lift
    · refine wpIn_mono (drawn_in hm hc (QP_noOut n ops (envOf a) X (Q .normal)) (wpAny_of_held _ _ _ _ (whP_any hc hsel plan _ _ a w.drew hp hlen hS ha (sameBut.refl _ _) h))) ?_
      intro e a' w' hq
      cases e with
      | normal => exact hq
      | panic ch => exact ⟨hq.1, hX ch _ w' hq.2.1 hq.2.2⟩
      | _ => exact hq.elim
    refine wpIn_mono (drawn_in hm hc (QN_noOut n (Q .normal)) ?_) QN_lift
    simp only [codeOk, List.all_eq_true] at hs
    have := any_of_still_tail (P := P) (Q := QN n (Q .normal)) (a := a) (w := w.drew) (l := ops.toList) k (by simpa using hB)
      (wl_still (n := n) (fun a' ha' h' => wl_wp (Q := QN n (Q .normal)) (fun _ _ ha h => ⟨ha, h⟩) _ a' _ ha' (List.all_eq_true.2 fun o ho => hs o (List.mem_of_mem_drop ho)) h') _ a ha
        (List.all_eq_true.2 fun o ho => hs o (List.mem_of_mem_take ho)) (by simpa using h))
    simpa using this
  | .seq x y, ro, Q, a, w, hc, hp, ha, h => by
    simp only [codeOk, Bool.and_eq_true] at hc
    have hpx : ro = none ∨ plainC x = true := hp.imp id fun e => by simp only [plainC, Bool.and_eq_true] at e; exact e.1
    have hpy : ro = none ∨ plainC y = true := hp.imp id fun e => by simp only [plainC, Bool.and_eq_true] at e; exact e.2
    refine wpIn_seq (wpIn_mono (wc_in x ro _ a w hc.1 hpx ha h) ?_)
    rintro e a' w' ⟨ha', hq⟩
    cases e with
    | normal => exact wc_in y ro Q a' w' hc.2 hpy ha' hq
    | _ => exact ⟨ha', hq⟩
  | .cond c x y, ro, Q, a, w, hc, hp, ha, h => by
    simp only [codeOk, Bool.and_eq_true] at hc
    have hpx : ro = none ∨ plainC x = true := hp.imp id fun e => by simp only [plainC, Bool.and_eq_true] at e; exact e.1
    have hpy : ro = none ∨ plainC y = true := hp.imp id fun e => by simp only [plainC, Bool.and_eq_true] at e; exact e.2
    obtain ⟨t, ht, h1, h2⟩ := h
    rw [ev_fun _ ha.small] at ht
    exact wpIn_cond_split ht (fun e => wc_in x ro Q a w hc.1 hpx ha (h1 e)) (fun e => wc_in y ro Q a w hc.2 hpy ha (h2 e))
  | .block id b, ro, Q, a, w, hc, hp, ha, h => by
    have hpb : ro = none ∨ plainC b = true := hp.imp (fun e => e) fun e => by simp only [plainC] at e; exact e
    refine wpIn_block (wpIn_mono (wc_in b ro _ a w hc hpb ha h) ?_)
    rintro e a' w' ⟨ha', hq⟩
    cases e with
    | exit i =>
      simp only [Exit.inBlock]
      split
      · rename_i he; exact ⟨ha', hq.1 he⟩
      · rename_i he; exact ⟨ha', hq.2 he⟩
    | _ => exact ⟨ha', hq⟩
  | .loop b, ro, Q, a, w, hc, hp, ha, h => by
    have hpb : ro = none ∨ plainC b = true := hp.imp (fun e => e) fun e => by simp only [plainC] at e; exact e
    obtain ⟨I, μ, hI, hr⟩ := h
    refine wpIn_loop (fun a w => inv n a ∧ I (envOf a) w) (fun a w => μ (envOf a) w) ⟨ha, hI⟩ ?_
    rintro a w ⟨ha, hI⟩
    refine wpIn_mono (wc_in b ro _ a w hc hpb ha (hr _ _ hI)) ?_
    rintro e a' w' ⟨ha', hq⟩
    cases e with
    | normal => exact ⟨⟨ha', hq.1⟩, hq.2⟩
    | _ => exact ⟨ha', hq⟩
  | .exit id, ro, Q, a, w, _, _, ha, h => wpIn_exit ⟨ha, h⟩
  | .ret, ro, Q, a, w, _, _, ha, h => wpIn_ret ⟨ha, h⟩
  | .scope b, ro, Q, a, w, hc, hp, ha, h => by
    have hro : ro = none := hp.elim id fun e => by simp [plainC] at e
    subst hro
    have hb := wc_in (m := m) b none (noG Q) a w hc (.inl rfl) ha h
    refine wpIn_wide.2 (wp_scope_straight (Code.wp_mono ?_ (wpIn_wide.1 hb)))
    rintro e a' w' ⟨ha', hq⟩
    cases e with
    | goto l => exact hq.elim
    | _ => exact ⟨ha', hq⟩
  | .rangeFunc g ps x y, ro, Q, a, w, hc, hp, ha, h => by
    have hro : ro = none := hp.elim id fun e => by simp [plainC] at e
    subst hro
    simp only [codeOk, Bool.and_eq_true] at hc
    obtain ⟨⟨⟨⟨hcx, hcy⟩, hpx⟩, hpy⟩, hps⟩ := hc
    rcases h with ⟨f, lb, items, T, Dt, I, asg, M, hM, hg, hcall, hit, hlen, hDt, hI, hDt0, hI0, hasg, hbody, hdone⟩ | ⟨α, E, f, lb, items, T, Dt, I, Ix, asg, M, hM, hg, hcall, hit, hlen, hDt, hI, hIx, hE, hDt0, hI0, hasg, hbody, hdone, hstop⟩
    · rw [ev_fun _ ha.small] at hg
      obtain ⟨M', hM'⟩ := ha.1
      have hMM : M' = M := mkv_inj (by rw [← hM, envOf_mk, hM', dblk_mark])
      subst hMM
      refine wpIn_rangeFunc ?_
      intro fn hfn
      obtain ⟨rec, hrec⟩ : ∃ rec : LoopState → Option Code → Loop, rec = fun st pe => { state := st, pending := pe, fn, tmps := a.tmps, params := ps, assign := x, body := y, defers := w.heap.size } := ⟨_, rfl⟩
      obtain ⟨W1, hW1⟩ : ∃ W1, (w.alloc (.deferred (some []))).alloc (.loop (rec .ready none)) = W1 := ⟨_, rfl⟩
      have hL1 : W1.heap[w.heap.size + 1]? = some (.loop (rec .ready none)) := by
        rw [← hW1]; have := World.alloc_heap_new (w.alloc (.deferred (some []))) (.loop (rec .ready none)); rwa [World.size_alloc] at this
      have hK1 : W1.heap[w.heap.size]? = some (.deferred (some [])) := by
        rw [← hW1]; exact (Nx.alloc (w.alloc (.deferred (some []))) _).2.2.2.2 _ (by simp) |>.trans (World.alloc_heap_new w _)
      have hlk1 : ∀ K : World → Prop, (∀ W W', Lk w.heap.size W W' → K W → K W') → K w → K W1 := fun K hK h => by
        rw [← hW1]; exact hK _ _ (Nx.alloc _ _).lk (hK _ _ (Nx.alloc _ _).lk h)
      have hs1 : w.heap.size + 1 < W1.heap.size := (Array.getElem?_eq_some_iff.1 hL1).1
      refine ⟨w.heap.size + 1, [mark w.heap.size], W1, { target := .fn (.func f) lb.toArray, args := #[.func (.yield (w.heap.size + 1)) #[] #[]] }, W1, f,
        #[.func (.yield (w.heap.size + 1)) #[] #[]] ++ lb.toArray, W1, ?_, ?_, fun _ _ => trivial, ?_, fun e => by simp [Fence.wide] at e, ?_⟩
      · rw [← hW1, hrec]; exact run_enterLoop_outer _ _ _ _ _
      · simp only [resolve, hg]
        simp [go_sem]
      · simp [invoke, go_sem, hcall]
      · have := hit (w.heap.size + 1) (fun i W => I i W ∧ w.heap.size ≤ W.heap.size ∧ W.heap[w.heap.size + 1]? = some (.loop (rec .ready none)) ∧ W.heap[w.heap.size]? = some (.deferred (some []))) W1 ?_
          ⟨hlk1 (I 0) (hI 0) hI0, by omega, hL1, hK1⟩ (hlk1 Dt hDt hDt0) ?_
        · have h2 := (Fr.calls (ro := none) (n := m - 1) this).mono (R' := rangePost (Fr none) m P (w.heap.size + 1) (lift n Q) { a with defers := [mark w.heap.size] ++ a.defers }) ?_
          · simpa using h2
          rintro e W2 ⟨v, rfl, hi, hsz, hl, hk⟩
          refine ⟨none, _, by have := run_endLoop (P := P) hl (by rw [hrec]; simp); rw [hrec] at this; exact this, ?_⟩
          refine ⟨⟨⟨w.heap.size :: M', by simp [hM', mark]⟩, ha.2⟩, ?_⟩
          have he : envOf { a with defers := [mark w.heap.size] ++ a.defers } = up (envOf a) 1000000 (mkv (w.heap.size :: M')) := by
            funext j
            by_cases hj : j = 1000000
            · subst hj
              rw [up_same, envOf_mk]
              show mkv (dblk (mark w.heap.size) :: a.defers.map dblk) = _
              rw [hM', dblk_mark]; rfl
            · rw [up_ne _ _ _ _ hj, envOf_slot _ hj, envOf_slot _ hj]
          rw [he]
          exact hdone _ (hI _ _ _ (Lk.put hl (by omega)) hi) ((World.putObj_heap_other (by omega)).trans hk)
        · rintro i A B hx ⟨h1, h2, h3, h4⟩
          have hlt1 := (Array.getElem?_eq_some_iff.1 h3).1
          have hlt2 := (Array.getElem?_eq_some_iff.1 h4).1
          exact ⟨hI _ _ _ hx.lk h1, Nat.le_trans h2 hx.2.2.2.1, (hx.2.2.2.2 _ hlt1).trans h3, (hx.2.2.2.2 _ hlt2).trans h4⟩
        · rintro i W xs hxs ⟨hi, hsz, hl, hk⟩ hd
          have hxl : xs.toArray.size = ps.size := by simpa using hlen xs (List.mem_of_getElem? hxs)
          have hy := run_yield (P := P) (args := xs.toArray) hl (by rw [hrec]; exact hxl)
          rw [hrec] at hy
          refine ⟨fn, _, x, y, hy, Fr.round' (ro := none) (roundIn_of_wpIn (n := 0) trivial ?_)⟩
          clear hy
          have hzip : (ps.zip xs.toArray).foldl (fun t (px : Nat × Value) => t.setIfInBounds px.1 px.2) a.tmps = (ps.toList.zip xs).foldl (fun t (px : Nat × Value) => t.setIfInBounds px.1 px.2) a.tmps := by
            rw [← Array.foldl_toList, Array.toList_zip]
          have hbind := bind_env ha.2.2 ps.toList xs a.tmps ha.2.1 (fun p hp => by have := List.all_eq_true.1 hps p hp; simpa using this)
          have h0 : envOf { tmps := a.tmps, defers := [] } = up (envOf a) 1000000 (mkv []) := by
            funext j
            by_cases hj : j = 1000000
            · subst hj; rw [up_same]; rfl
            · rw [up_ne _ _ _ _ hj, envOf_slot _ hj, envOf_slot _ hj]
          rw [h0] at hbind
          have hinv : inv n { tmps := (ps.toList.zip xs).foldl (fun t (px : Nat × Value) => t.setIfInBounds px.1 px.2) a.tmps, defers := [] } :=
            ⟨⟨[], rfl⟩, by rw [bind_size]; exact ha.2.1, ha.2.2⟩
          have hx1 := wc_in (m := 0) x (some (w.heap.size + 1)) _ _ W hcx (.inr hpx) hinv (by rw [hbind]; exact hasg i W xs hxs)
          rw [hzip]
          refine wpIn_mono hx1 ?_
          rintro e a1 W' ⟨ha1, rfl, hea, hWW⟩
          subst W'
          have hlt : w.heap.size + 1 < W.heap.size := (Array.getElem?_eq_some_iff.1 hl).1
          refine ⟨_, run_beginRound hl (by rw [hrec]), ?_⟩
          have hl2 : (W.putObj (w.heap.size + 1) (.loop { rec .ready none with state := .busy })).heap[w.heap.size + 1]? = some (.loop { rec .ready none with state := .busy }) := World.putObj_heap_same hlt
          have hk2 : (W.putObj (w.heap.size + 1) (.loop { rec .ready none with state := .busy })).heap[w.heap.size]? = some (.deferred (some [])) := (World.putObj_heap_other (by omega)).trans hk
          have hlk := Lk.put (B := w.heap.size) (r' := { rec .ready none with state := .busy }) hl (by omega)
          have hy1 := wc_in (m := 0) y (some (w.heap.size + 1)) _ _ _ hcy (.inr hpy) ha1 (by rw [hea]; exact hbody i _ xs hxs (by simp; omega) (hI _ _ _ hlk hi) (hDt _ _ hlk hd))
          refine wpIn_mono hy1 ?_
          rintro e a3 W3 ⟨ha3, hq⟩
          cases e with
          | normal =>
            obtain ⟨hkp, hi3, hd3, hkt3⟩ := hq
            have hl3 := hkp _ (by omega) _ hl2 (.inl ⟨_, rfl⟩)
            have hk3 := hkp _ (Nat.le_refl _) _ hk2 (.inr ⟨_, rfl⟩)
            have hlt3 : w.heap.size + 1 < W3.heap.size := (Array.getElem?_eq_some_iff.1 hl3).1
            refine ⟨_, _, run_endRound (P := P) none hl3, ?_⟩
            have hlk3 := Lk.put (B := w.heap.size) (r' := { { rec .ready none with state := .busy } with state := if (none : Option Code).isNone then .ready else .done, pending := none }) hl3 (by omega)
            refine ⟨rfl, ⟨hI _ _ _ hlk3 hi3, by simp; omega, ?_, (World.putObj_heap_other (by omega)).trans hk3⟩, hDt _ _ hlk3 hd3, hlk.kt.trans (hkt3.trans hlk3.kt)⟩
            rw [World.putObj_heap_same hlt3, hrec]
            rfl
          | _ => exact hq.elim
    · rw [ev_fun _ ha.small] at hg
      obtain ⟨M', hM'⟩ := ha.1
      have hMM : M' = M := mkv_inj (by rw [← hM, envOf_mk, hM', dblk_mark])
      subst hMM
      refine wpIn_rangeFunc ?_
      intro fn hfn
      obtain ⟨rec, hrec⟩ : ∃ rec : LoopState → Option Code → Loop, rec = fun st pe => { state := st, pending := pe, fn, tmps := a.tmps, params := ps, assign := x, body := y, defers := w.heap.size } := ⟨_, rfl⟩
      obtain ⟨W1, hW1⟩ : ∃ W1, (w.alloc (.deferred (some []))).alloc (.loop (rec .ready none)) = W1 := ⟨_, rfl⟩
      have hL1 : W1.heap[w.heap.size + 1]? = some (.loop (rec .ready none)) := by
        rw [← hW1]; have := World.alloc_heap_new (w.alloc (.deferred (some []))) (.loop (rec .ready none)); rwa [World.size_alloc] at this
      have hK1 : W1.heap[w.heap.size]? = some (.deferred (some [])) := by
        rw [← hW1]; exact (Nx.alloc (w.alloc (.deferred (some []))) _).2.2.2.2 _ (by simp) |>.trans (World.alloc_heap_new w _)
      have hlk1 : ∀ K : World → Prop, (∀ W W', Lk w.heap.size W W' → K W → K W') → K w → K W1 := fun K hK h => by
        rw [← hW1]; exact hK _ _ (Nx.alloc _ _).lk (hK _ _ (Nx.alloc _ _).lk h)
      have hs1 : w.heap.size + 1 < W1.heap.size := (Array.getElem?_eq_some_iff.1 hL1).1
      refine ⟨w.heap.size + 1, [mark w.heap.size], W1, { target := .fn (.func f) lb.toArray, args := #[.func (.yield (w.heap.size + 1)) #[] #[]] }, W1, f,
        #[.func (.yield (w.heap.size + 1)) #[] #[]] ++ lb.toArray, W1, ?_, ?_, fun _ _ => trivial, ?_, fun e => by simp [Fence.wide] at e, ?_⟩
      · rw [← hW1, hrec]; exact run_enterLoop_outer _ _ _ _ _
      · simp only [resolve, hg]
        simp [go_sem]
      · simp [invoke, go_sem, hcall]
      · have := hit (w.heap.size + 1) (fun i W => I i W ∧ w.heap.size ≤ W.heap.size ∧ W.heap[w.heap.size + 1]? = some (.loop (rec .ready none)) ∧ W.heap[w.heap.size]? = some (.deferred (some [])))
          (fun i W => ∃ c e, ((c = Code.ret ∧ e = Exit.ret) ∨ ∃ j, c = Code.exit j ∧ e = Exit.exit j) ∧ Ix e i W ∧ w.heap.size ≤ W.heap.size ∧ W.heap[w.heap.size + 1]? = some (.loop (rec .done (some c))) ∧ W.heap[w.heap.size]? = some (.deferred (some []))) W1 ?_ ?_
          ⟨hlk1 (I 0) (hI 0) hI0, by omega, hL1, hK1⟩ (hlk1 Dt hDt hDt0) ?_
        · have h2 := (Fr.calls (ro := none) (n := m - 1) this).mono (R' := rangePost (Fr none) m P (w.heap.size + 1) (lift n Q) { a with defers := [mark w.heap.size] ++ a.defers }) ?_
          · simpa using h2
          have he : envOf { a with defers := [mark w.heap.size] ++ a.defers } = up (envOf a) 1000000 (mkv (w.heap.size :: M')) := by
            funext j
            by_cases hj : j = 1000000
            · subst hj
              rw [up_same, envOf_mk]
              show mkv (dblk (mark w.heap.size) :: a.defers.map dblk) = _
              rw [hM', dblk_mark]; rfl
            · rw [up_ne _ _ _ _ hj, envOf_slot _ hj, envOf_slot _ hj]
          have hin : inv n { a with defers := [mark w.heap.size] ++ a.defers } := ⟨⟨w.heap.size :: M', by simp [hM', mark]⟩, ha.2⟩
          rintro e W2 ⟨v, rfl, ⟨hi, hsz, hl, hk⟩ | ⟨i, c, e, hce, hi, hsz, hl, hk⟩⟩
          rotate_left
          · refine ⟨some c, _, by have := run_endLoop (P := P) hl (by rw [hrec]; simp); rw [hrec] at this; exact this, ?_⟩
            rcases hce with ⟨rfl, rfl⟩ | ⟨j, rfl, rfl⟩
            · exact wpIn_ret ⟨hin, by rw [he]; exact hstop _ _ _ (hIx _ _ _ _ (Lk.put hl (by omega)) hi) (.inl rfl) ((World.putObj_heap_other (by omega)).trans hk)⟩
            · exact wpIn_exit ⟨hin, by rw [he]; exact hstop _ _ _ (hIx _ _ _ _ (Lk.put hl (by omega)) hi) (.inr ⟨_, rfl⟩) ((World.putObj_heap_other (by omega)).trans hk)⟩
          refine ⟨none, _, by have := run_endLoop (P := P) hl (by rw [hrec]; simp); rw [hrec] at this; exact this, ?_⟩
          refine ⟨hin, ?_⟩
          rw [he]
          exact hdone _ (hI _ _ _ (Lk.put hl (by omega)) hi) ((World.putObj_heap_other (by omega)).trans hk)
        · rintro i A B hx ⟨h1, h2, h3, h4⟩
          have hlt1 := (Array.getElem?_eq_some_iff.1 h3).1
          have hlt2 := (Array.getElem?_eq_some_iff.1 h4).1
          exact ⟨hI _ _ _ hx.lk h1, Nat.le_trans h2 hx.2.2.2.1, (hx.2.2.2.2 _ hlt1).trans h3, (hx.2.2.2.2 _ hlt2).trans h4⟩
        · rintro i A B hx ⟨c, e, hce, h1, h2, h3, h4⟩
          have hlt1 := (Array.getElem?_eq_some_iff.1 h3).1
          have hlt2 := (Array.getElem?_eq_some_iff.1 h4).1
          exact ⟨c, e, hce, hIx _ _ _ _ hx.lk h1, Nat.le_trans h2 hx.2.2.2.1, (hx.2.2.2.2 _ hlt1).trans h3, (hx.2.2.2.2 _ hlt2).trans h4⟩
        · rintro i W z xs hxs hex ⟨hi, hsz, hl, hk⟩ hd
          have hxl : xs.toArray.size = ps.size := by simpa using hlen z xs _ hex
          have hy := run_yield (P := P) (args := xs.toArray) hl (by rw [hrec]; exact hxl)
          rw [hrec] at hy
          refine ⟨fn, _, x, y, hy, Fr.round' (ro := none) (roundIn_of_wpIn (n := 0) trivial ?_)⟩
          clear hy
          have hzip : (ps.zip xs.toArray).foldl (fun t (px : Nat × Value) => t.setIfInBounds px.1 px.2) a.tmps = (ps.toList.zip xs).foldl (fun t (px : Nat × Value) => t.setIfInBounds px.1 px.2) a.tmps := by
            rw [← Array.foldl_toList, Array.toList_zip]
          have hbind := bind_env ha.2.2 ps.toList xs a.tmps ha.2.1 (fun p hp => by have := List.all_eq_true.1 hps p hp; simpa using this)
          have h0 : envOf { tmps := a.tmps, defers := [] } = up (envOf a) 1000000 (mkv []) := by
            funext j
            by_cases hj : j = 1000000
            · subst hj; rw [up_same]; rfl
            · rw [up_ne _ _ _ _ hj, envOf_slot _ hj, envOf_slot _ hj]
          rw [h0] at hbind
          have hinv : inv n { tmps := (ps.toList.zip xs).foldl (fun t (px : Nat × Value) => t.setIfInBounds px.1 px.2) a.tmps, defers := [] } :=
            ⟨⟨[], rfl⟩, by rw [bind_size]; exact ha.2.1, ha.2.2⟩
          have hx1 := wc_in (m := 0) x (some (w.heap.size + 1)) _ _ W hcx (.inr hpx) hinv (by rw [hbind]; exact hasg i W z xs hxs hex)
          rw [hzip]
          refine wpIn_mono hx1 ?_
          rintro e a1 W' ⟨ha1, rfl, hea, hWW⟩
          subst W'
          have hlt : w.heap.size + 1 < W.heap.size := (Array.getElem?_eq_some_iff.1 hl).1
          refine ⟨_, run_beginRound hl (by rw [hrec]), ?_⟩
          have hl2 : (W.putObj (w.heap.size + 1) (.loop { rec .ready none with state := .busy })).heap[w.heap.size + 1]? = some (.loop { rec .ready none with state := .busy }) := World.putObj_heap_same hlt
          have hk2 : (W.putObj (w.heap.size + 1) (.loop { rec .ready none with state := .busy })).heap[w.heap.size]? = some (.deferred (some [])) := (World.putObj_heap_other (by omega)).trans hk
          have hlk := Lk.put (B := w.heap.size) (r' := { rec .ready none with state := .busy }) hl (by omega)
          have hy1 := wc_in (m := 0) y (some (w.heap.size + 1)) _ _ _ hcy (.inr hpy) ha1 (by rw [hea]; exact hbody i _ z xs hxs (hE _ _ _ _ hlk hex) (by simp; omega) (hI _ _ _ hlk hi) (hDt _ _ hlk hd))
          refine wpIn_mono hy1 ?_
          rintro e a3 W3 ⟨ha3, hq⟩
          cases e with
          | normal =>
            obtain ⟨hkp, hi3, hd3, hkt3⟩ := hq
            have hl3 := hkp _ (by omega) _ hl2 (.inl ⟨_, rfl⟩)
            have hk3 := hkp _ (Nat.le_refl _) _ hk2 (.inr ⟨_, rfl⟩)
            have hlt3 : w.heap.size + 1 < W3.heap.size := (Array.getElem?_eq_some_iff.1 hl3).1
            refine ⟨_, _, run_endRound (P := P) none hl3, ?_⟩
            have hlk3 := Lk.put (B := w.heap.size) (r' := { { rec .ready none with state := .busy } with state := if (none : Option Code).isNone then .ready else .done, pending := none }) hl3 (by omega)
            refine .inl ⟨rfl, ⟨hI _ _ _ hlk3 hi3, by simp; omega, ?_, (World.putObj_heap_other (by omega)).trans hk3⟩, hDt _ _ hlk3 hd3, fun t ht => hlk.kt.trans ((hkt3 t ht).trans hlk3.kt)⟩
            rw [World.putObj_heap_same hlt3, hrec]
            rfl
          | ret =>
            obtain ⟨hkp, hi3, hkt3⟩ := hq
            have hl3 := hkp _ (by omega) _ hl2 (.inl ⟨_, rfl⟩)
            have hk3 := hkp _ (Nat.le_refl _) _ hk2 (.inr ⟨_, rfl⟩)
            have hlt3 : w.heap.size + 1 < W3.heap.size := (Array.getElem?_eq_some_iff.1 hl3).1
            refine ⟨_, _, run_endRound (P := P) (some .ret) hl3, .inr ⟨rfl, ⟨.ret, .ret, .inl ⟨rfl, rfl⟩, hIx _ _ _ _ (Lk.put hl3 (by omega)) hi3, by simp; omega, ?_, (World.putObj_heap_other (by omega)).trans hk3⟩, fun t ht => hlk.kt.trans ((hkt3 t ht).trans (Lk.put (B := w.heap.size) hl3 (by omega)).kt)⟩⟩
            rw [World.putObj_heap_same hlt3, hrec]
            rfl
          | exit j =>
            obtain ⟨hkp, hi3, hkt3⟩ := hq
            have hl3 := hkp _ (by omega) _ hl2 (.inl ⟨_, rfl⟩)
            have hk3 := hkp _ (Nat.le_refl _) _ hk2 (.inr ⟨_, rfl⟩)
            have hlt3 : w.heap.size + 1 < W3.heap.size := (Array.getElem?_eq_some_iff.1 hl3).1
            refine ⟨_, _, run_endRound (P := P) (some (.exit j)) hl3, .inr ⟨rfl, ⟨.exit j, .exit j, .inr ⟨j, rfl, rfl⟩, hIx _ _ _ _ (Lk.put hl3 (by omega)) hi3, by simp; omega, ?_, (World.putObj_heap_other (by omega)).trans hk3⟩, fun t ht => hlk.kt.trans ((hkt3 t ht).trans (Lk.put (B := w.heap.size) hl3 (by omega)).kt)⟩⟩
            rw [World.putObj_heap_same hlt3, hrec]
            rfl
          | _ => exact hq.elim
  | .goto _, _, _, _, _, hc, _, _, _ => by simp [codeOk] at hc
  | .refuse _, _, _, _, _, hc, _, _, _ => by simp [codeOk] at hc

def resV (P : Program) (fn : Func) (ρ : Env) (w : World) (v : Value) : Prop :=
  ∀ tmps : Array Value, (∀ t, t ≠ 1000000 → tmps.getD t undef = ρ t) → (results fn tmps).run P w = .ok v w
/-- The blocks for deferred calls lie open and empty. -/
def Mk (M : List Nat) (w : World) : Prop := M.Nodup ∧ ∀ D ∈ M, w.heap[D]? = some (.deferred (some []))
def closeM : List Nat → World → World
  | [], w => w
  | D :: M, w => closeM M (w.putObj D (.deferred none))
def post (P : Program) (fn : Func) (R : Value → World → Prop) : Exit → Env → World → Prop
  | .normal, ρ, w | .ret, ρ, w => ∃ M, ρ 1000000 = mkv M ∧ Mk M w ∧ ∃ v, resV P fn ρ (closeM M w) v ∧ R v (closeM M w)
  | _, _, _ => False
def env0 (l : List Value) : Env := fun j => bif Nat.beq j 1000000 then mkv [] else l.getD j undef

/-- A contract: it returns, and R holds of what it returns and of the world behind. -/
def Ret (R : Value → World → Prop) : Ending → World → Prop := fun e w' => ∃ v, e = .returned v ∧ R v w'
theorem leaves_marks {P : Program} {fn : Func} {tmps : Array Value} {R : Ending → World → Prop} {v : Value} : ∀ (M : List Nat) (w : World), Mk M w → (results fn tmps).run P (closeM M w) = .ok v (closeM M w) → R (.returned v) (closeM M w) →
    LeavesInM Fence.wide 0 P fn tmps R (M.map mark) .returning w
  | [], w, _, h, hR => ⟨v, h, hR⟩
  | D :: M, w, hM, h, hR => by
    refine ⟨by simp, .inl ⟨D, _, rfl, run_takeDeferred (hM.2 D (by simp)), ?_⟩⟩
    refine leaves_marks M _ ⟨(List.nodup_cons.1 hM.1).2, fun D' hD' => ?_⟩ h hR
    have hne : D' ≠ D := by rintro rfl; exact (List.nodup_cons.1 hM.1).1 hD'
    exact (World.putObj_heap_other hne).trans (hM.2 D' (by simp [hD']))
theorem calls_of_wc {P : Program} {f : FuncId} {fn : Func} {c : Code} {args : List Value} {w : World} {R : Value → World → Prop}
    (hf : P.funcs[f]? = some fn) (hb : fn.body = some c) (hk : (codeOk (args.length + (fn.ntmps - args.length)) c && Nat.ble (args.length + (fn.ntmps - args.length)) 1000000) = true)
    (h : wc P c (post P fn R) (env0 args) w) : Calls P f args.toArray w (Ret R) := by
  simp only [Bool.and_eq_true] at hk
  refine callsIn_wide.1 (callsIn_of_wp_marks (n := 0) hf hb trivial ?_)
  have ha : inv (args.length + (fn.ntmps - args.length)) { tmps := args.toArray ++ Array.replicate (fn.ntmps - args.toArray.size) undef, defers := [] } :=
    ⟨⟨[], rfl⟩, by simp, Nat.le_of_ble_eq_true hk.2⟩
  have he : envOf { tmps := args.toArray ++ Array.replicate (fn.ntmps - args.toArray.size) undef, defers := [] } = env0 args := by
    funext j
    by_cases hj : j = 1000000
    · subst hj; rfl
    rw [envOf_slot _ hj]
    simp only [env0, beq_ne hj, cond_false, Array.getD_eq_getD_getElem?, List.getD_eq_getElem?_getD, Array.getElem?_append, List.size_toArray, List.getElem?_toArray, Array.getElem?_replicate]
    split
    · rfl
    · rename_i hj
      rw [List.getElem?_eq_none (by omega)]
      split <;> rfl
  have hend : ∀ (a : Act) (w : World), inv (args.length + (fn.ntmps - args.length)) a → (∃ M, envOf a 1000000 = mkv M ∧ Mk M w ∧ ∃ v, resV P fn (envOf a) (closeM M w) v ∧ R v (closeM M w)) →
      LeavesInM Fence.wide 0 P fn a.tmps (Ret R) a.defers .returning w := by
    rintro a w ⟨⟨M', hM'⟩, _⟩ ⟨M, hM, hMk, v, hv, hR⟩
    have hMM : M' = M := mkv_inj (by rw [← hM, envOf_mk, hM', dblk_mark])
    subst hMM
    rw [hM']
    exact leaves_marks M' w hMk (hv a.tmps (fun t ht => (envOf_slot a ht).symm)) ⟨v, rfl, hR⟩
  refine wpIn_mono (wc_in (m := 0) c none _ _ w hk.1 (.inl rfl) ha (he ▸ h)) ?_
  rintro e a w ⟨ha, hq⟩
  cases e with
  | normal => exact hend a w ha hq
  | ret => exact hend a w ha hq
  | _ => exact hq.elim
/-- A contract of a function that may panic. -/
def RetX (R : Value → World → Prop) (X : List PanicEntry → World → Prop) : Ending → World → Prop := fun e w' => (∃ v, e = .returned v ∧ R v w') ∨ ∃ ch, e = .panicked ch ∧ X ch w'
def postX (P : Program) (fn : Func) (R : Value → World → Prop) (X : List PanicEntry → World → Prop) : Exit → Env → World → Prop
  | .panic ch, ρ, w => ρ 1000000 = mkv [] ∧ X ch w
  | e, ρ, w => post P fn R e ρ w
theorem px_ret {P : Program} {fn : Func} {R : Value → World → Prop} {X : List PanicEntry → World → Prop} {ρ : Env} {w : World} (h : post P fn R .ret ρ w) : postX P fn R X .ret ρ w := h
theorem px_normal {P : Program} {fn : Func} {R : Value → World → Prop} {X : List PanicEntry → World → Prop} {ρ : Env} {w : World} (h : post P fn R .normal ρ w) : postX P fn R X .normal ρ w := h
theorem px_panic {P : Program} {fn : Func} {R : Value → World → Prop} {X : List PanicEntry → World → Prop} {ρ : Env} {w : World} {ch : List PanicEntry} (h : X ch w) (hm : ρ 1000000 = mkv [] := by exact rfl) : postX P fn R X (.panic ch) ρ w := ⟨hm, h⟩
theorem calls_of_wcX {P : Program} {f : FuncId} {fn : Func} {c : Code} {args : List Value} {w : World} {R : Value → World → Prop} {X : List PanicEntry → World → Prop}
    (hf : P.funcs[f]? = some fn) (hb : fn.body = some c) (hk : (codeOk (args.length + (fn.ntmps - args.length)) c && Nat.ble (args.length + (fn.ntmps - args.length)) 1000000) = true)
    (h : wc P c (postX P fn R X) (env0 args) w) : Calls P f args.toArray w (RetX R X) := by
  simp only [Bool.and_eq_true] at hk
  refine callsIn_wide.1 (callsIn_of_wp_marks (n := 0) hf hb trivial ?_)
  have ha : inv (args.length + (fn.ntmps - args.length)) { tmps := args.toArray ++ Array.replicate (fn.ntmps - args.toArray.size) undef, defers := [] } :=
    ⟨⟨[], rfl⟩, by simp, Nat.le_of_ble_eq_true hk.2⟩
  have he : envOf { tmps := args.toArray ++ Array.replicate (fn.ntmps - args.toArray.size) undef, defers := [] } = env0 args := by
    funext j
    by_cases hj : j = 1000000
    · subst hj; rfl
    rw [envOf_slot _ hj]
    simp only [env0, beq_ne hj, cond_false, Array.getD_eq_getD_getElem?, List.getD_eq_getElem?_getD, Array.getElem?_append, List.size_toArray, List.getElem?_toArray, Array.getElem?_replicate]
    split
    · rfl
    · rename_i hj
      rw [List.getElem?_eq_none (by omega)]
      split <;> rfl
  have hend : ∀ (a : Act) (w : World), inv (args.length + (fn.ntmps - args.length)) a → (∃ M, envOf a 1000000 = mkv M ∧ Mk M w ∧ ∃ v, resV P fn (envOf a) (closeM M w) v ∧ R v (closeM M w)) →
      LeavesInM Fence.wide 0 P fn a.tmps (RetX R X) a.defers .returning w := by
    rintro a w ⟨⟨M', hM'⟩, _⟩ ⟨M, hM, hMk, v, hv, hR⟩
    have hMM : M' = M := mkv_inj (by rw [← hM, envOf_mk, hM', dblk_mark])
    subst hMM
    rw [hM']
    exact leaves_marks M' w hMk (hv a.tmps (fun t ht => (envOf_slot a ht).symm)) (.inl ⟨v, rfl, hR⟩)
  refine wpIn_mono (wc_in (m := 0) c none _ _ w hk.1 (.inl rfl) ha (he ▸ h)) ?_
  rintro e a w ⟨ha, hq⟩
  cases e with
  | normal => exact hend a w ha hq
  | ret => exact hend a w ha hq
  | panic ch =>
    obtain ⟨hm, hx⟩ := hq
    obtain ⟨⟨M', hM'⟩, _⟩ := ha
    have hMM : M' = [] := mkv_inj (by rw [← hm, envOf_mk, hM', dblk_mark])
    subst hMM
    show LeavesInM _ _ _ _ _ _ a.defers _ _
    rw [hM']
    exact (.inr ⟨ch, rfl, hx⟩ : RetX R X (.panicked ch) w)
  | _ => exact hq.elim
theorem res1 {P : Program} {fn : Func} {t : Nat} (h : fn.results = #[.tmp t]) (ρ : Env) (w : World) (ht' : t ≠ 1000000) : resV P fn ρ w (ρ t) := by
  intro tmps ht
  have h1 := ht t ht'
  simp only [Array.getD_eq_getD_getElem?] at h1
  simp [results, h, h1]
theorem res2 {P : Program} {fn : Func} {t u : Nat} (h : fn.results = #[.tmp t, .tmp u]) (ρ : Env) (w : World) (ht' : t ≠ 1000000) (hu' : u ≠ 1000000) : resV P fn ρ w (.tuple #[ρ t, ρ u]) := by
  intro tmps ht
  have h1 := ht t ht'
  have h2 := ht u hu'
  simp only [Array.getD_eq_getD_getElem?] at h1 h2
  simp [results, h, h1, h2]
theorem res3 {P : Program} {fn : Func} {t u x : Nat} (h : fn.results = #[.tmp t, .tmp u, .tmp x]) (ρ : Env) (w : World) (ht' : t ≠ 1000000) (hu' : u ≠ 1000000) (hx' : x ≠ 1000000) : resV P fn ρ w (.tuple #[ρ t, ρ u, ρ x]) := by
  intro tmps ht
  have h1 := ht t ht'
  have h2 := ht u hu'
  have h3 := ht x hx'
  simp only [Array.getD_eq_getD_getElem?] at h1 h2 h3
  simp [results, h, h1, h2, h3]
theorem res4 {P : Program} {fn : Func} {t u x y : Nat} (h : fn.results = #[.tmp t, .tmp u, .tmp x, .tmp y]) (ρ : Env) (w : World) (ht' : t ≠ 1000000) (hu' : u ≠ 1000000) (hx' : x ≠ 1000000) (hy' : y ≠ 1000000) : resV P fn ρ w (.tuple #[ρ t, ρ u, ρ x, ρ y]) := by
  intro tmps ht
  have h1 := ht t ht'
  have h2 := ht u hu'
  have h3 := ht x hx'
  have h4 := ht y hy'
  simp only [Array.getD_eq_getD_getElem?] at h1 h2 h3 h4
  simp [results, h, h1, h2, h3, h4]
theorem res0 {P : Program} {fn : Func} (h : fn.results = #[]) (ρ : Env) (w : World) : resV P fn ρ w (.tuple #[]) := by
  intro tmps ht
  simp [results, h]

theorem Mk.nil (w : World) : Mk [] w := ⟨List.nodup_nil, fun _ h => by cases h⟩
theorem postM {P : Program} {fn : Func} {R : Value → World → Prop} {ρ : Env} {w : World} {v : Value} (hm : ρ 1000000 = mkv []) (h : resV P fn ρ w v) (hR : R v w) : post P fn R .ret ρ w := ⟨[], hm, Mk.nil w, v, h, hR⟩
theorem post0 {P : Program} {fn : Func} {R : Value → World → Prop} {ρ : Env} {w : World} (h : fn.results = #[]) (hR : R (.tuple #[]) w) (hm : ρ 1000000 = mkv [] := by exact rfl) : post P fn R .ret ρ w := postM hm (res0 h ρ w) hR
theorem post0n {P : Program} {fn : Func} {R : Value → World → Prop} {ρ : Env} {w : World} (h : fn.results = #[]) (hR : R (.tuple #[]) w) (hm : ρ 1000000 = mkv [] := by exact rfl) : post P fn R .normal ρ w := ⟨[], hm, Mk.nil w, _, res0 h ρ w, hR⟩
theorem post1 {P : Program} {fn : Func} {R : Value → World → Prop} {ρ : Env} {w : World} {t : Nat} {v : Value} (h : fn.results = #[.tmp t]) (hv : ρ t = v) (hR : R v w) (hm : ρ 1000000 = mkv [] := by exact rfl) (ht : t ≠ 1000000 := by decide) : post P fn R .ret ρ w :=
  postM hm (res1 h ρ w ht) (hv ▸ hR)
theorem post2 {P : Program} {fn : Func} {R : Value → World → Prop} {ρ : Env} {w : World} {t u : Nat} {v1 v2 : Value} (h : fn.results = #[.tmp t, .tmp u]) (h1 : ρ t = v1) (h2 : ρ u = v2) (hR : R (.tuple #[v1, v2]) w) (hm : ρ 1000000 = mkv [] := by exact rfl) (ht : t ≠ 1000000 := by decide) (hu : u ≠ 1000000 := by decide) : post P fn R .ret ρ w :=
  postM hm (res2 h ρ w ht hu) (by rw [h1, h2]; exact hR)
theorem post3 {P : Program} {fn : Func} {R : Value → World → Prop} {ρ : Env} {w : World} {t u s : Nat} {v1 v2 v3 : Value} (h : fn.results = #[.tmp t, .tmp u, .tmp s]) (h1 : ρ t = v1) (h2 : ρ u = v2) (h3 : ρ s = v3)
    (hR : R (.tuple #[v1, v2, v3]) w) (hm : ρ 1000000 = mkv [] := by exact rfl) (ht : t ≠ 1000000 := by decide) (hu : u ≠ 1000000 := by decide) (hs : s ≠ 1000000 := by decide) : post P fn R .ret ρ w := postM hm (res3 h ρ w ht hu hs) (by rw [h1, h2, h3]; exact hR)
theorem post4 {P : Program} {fn : Func} {R : Value → World → Prop} {ρ : Env} {w : World} {t u s q : Nat} {v1 v2 v3 v4 : Value} (h : fn.results = #[.tmp t, .tmp u, .tmp s, .tmp q]) (h1 : ρ t = v1) (h2 : ρ u = v2) (h3 : ρ s = v3) (h4 : ρ q = v4)
    (hR : R (.tuple #[v1, v2, v3, v4]) w) (hm : ρ 1000000 = mkv [] := by exact rfl) (ht : t ≠ 1000000 := by decide) (hu : u ≠ 1000000 := by decide) (hs : s ≠ 1000000 := by decide) (hq : q ≠ 1000000 := by decide) : post P fn R .ret ρ w := postM hm (res4 h ρ w ht hu hs hq) (by rw [h1, h2, h3, h4]; exact hR)

/- Frames: what a piece of code leaves alone. -/
def agr (keep : List Nat) (ρ ρ' : Env) : Prop := ∀ j, j ∈ keep → ρ' j = ρ j
def offDst (keep : List Nat) (o : Oper) : Bool := match o.dst with | some d => keep.all (fun j => !Nat.beq j d) | none => true
def off (keep : List Nat) : Code → Bool
  | .region _ ops _ => ops.toList.all (offDst keep)
  | .seq a b => off keep a && off keep b
  | .cond _ a b => off keep a && off keep b
  | .block _ b => off keep b
  | .loop b => off keep b
  | .scope b => off keep b
  | .rangeFunc .. => keep.all (fun j => !Nat.beq j 1000000)
  | _ => true
theorem agr.refl (keep : List Nat) (ρ : Env) : agr keep ρ ρ := fun _ _ => rfl
theorem agr.trans {keep : List Nat} {a b c : Env} (h : agr keep a b) (h' : agr keep b c) : agr keep a c := fun j hj => (h' j hj).trans (h j hj)
theorem agr_upo {keep : List Nat} {o : Oper} (h : offDst keep o = true) (ρ : Env) (v : Value) : agr keep ρ (upo ρ o.dst v) := by
  intro j hj
  unfold offDst at h
  cases hd : o.dst with
  | none => rfl
  | some d =>
    rw [hd] at h
    simp only [List.all_eq_true, Bool.not_eq_true'] at h
    have := h j hj
    exact up_ne _ _ _ _ (by rintro rfl; simp at this)
theorem w1_mono {P : Program} {st : Bool} {o : Oper} {K K' : Env → World → Prop} {ρ : Env} {w : World} (h : w1 P st o K ρ w)
    (hK : ∀ v w', K (upo ρ o.dst v) w' → K' (upo ρ o.dst v) w') : w1 P st o K' ρ w := by
  unfold w1 at *
  generalize (execOp (ev ρ) o).run P w = r at *
  cases r with
  | halt x w' => cases x <;> exact h.elim
  | ok x w' =>
    cases x with
    | value v => exact ⟨h.1, hK _ _ h.2⟩
    | skip => exact ⟨h.1, hK _ _ h.2⟩
    | enter f args =>
      refine ⟨fun e => ?_, fun e => ?_⟩
      · obtain ⟨a, v, hc, hv⟩ := h.1 e; exact ⟨a, v, hc, hK _ _ hv⟩
      · refine (h.2 e).mono ?_
        rintro e w'' ⟨v, he, hv⟩
        exact ⟨v, he, hK _ _ hv⟩
    | _ => exact h.elim
theorem wl_frame {P : Program} {st : Bool} {ops : Array Oper} {keep : List Nat} : ∀ (l : List Oper) (K K' : Env → World → Prop) (ρ0 ρ : Env) (w : World),
    l.all (offDst keep) = true → agr keep ρ0 ρ → (∀ ρ' w', agr keep ρ0 ρ' → K ρ' w' → K' ρ' w') → wl P st ops l K ρ w → wl P st ops l K' ρ w
  | [], K, K', ρ0, ρ, w, _, hρ, hK, h => hK _ _ hρ h
  | o :: r, K, K', ρ0, ρ, w, ho, hρ, hK, h => by
    simp only [List.all_cons, Bool.and_eq_true] at ho
    unfold wl at *
    cases hg : o.guard with
    | none =>
      rw [hg] at h
      exact w1_mono h fun v w' h' => wl_frame r K K' ρ0 _ w' ho.2 (hρ.trans (agr_upo ho.1 _ _)) hK h'
    | some jb =>
      obtain ⟨j, b⟩ := jb
      rw [hg] at h
      rcases h with h | ⟨t, ht, hb, h⟩
      rotate_left 1
      · exact .inr ⟨t, ht, hb, wl_frame r K K' ρ0 _ w ho.2 (hρ.trans (agr_upo ho.1 _ _)) hK h⟩
      obtain ⟨t, tb, ht, hb, h1, h2⟩ := h
      refine .inl ⟨t, tb, ht, hb, fun e => ?_, fun e => ?_⟩
      · subst e
        have := h1 rfl
        rw [up_id _ _ _ hb] at this ⊢
        exact w1_mono this fun v w' h' => wl_frame r K K' ρ0 _ w' ho.2 (hρ.trans (agr_upo ho.1 _ _)) hK h'
      · subst e
        have := h2 rfl
        rw [up_id _ _ _ hb] at this ⊢
        exact wl_frame r K K' ρ0 _ w ho.2 (hρ.trans (agr_upo ho.1 _ _)) hK this
theorem w1R_mono {P : Program} {o : Oper} {K K' : Env → World → Prop} {ρ : Env} {w : World} (h : w1R P o K ρ w)
    (hK : ∀ v w', K (upo ρ o.dst v) w' → K' (upo ρ o.dst v) w') : w1R P o K' ρ w := by
  obtain ⟨l, f, tmps, a, b, h1, h2⟩ := h
  exact ⟨l, f, tmps, a, b, h1, h2.mono fun e w' ⟨v, he, hv⟩ => ⟨v, he, hK _ _ hv⟩⟩
theorem wlR_frame {P : Program} {ops : Array Oper} {keep : List Nat} : ∀ (l : List Oper) (K K' : Env → World → Prop) (ρ0 ρ : Env) (w : World),
    l.all (offDst keep) = true → agr keep ρ0 ρ → (∀ ρ' w', agr keep ρ0 ρ' → K ρ' w' → K' ρ' w') → wlR P ops l K ρ w → wlR P ops l K' ρ w
  | [], K, K', ρ0, ρ, w, _, hρ, hK, h => hK _ _ hρ h
  | o :: r, K, K', ρ0, ρ, w, ho, hρ, hK, h => by
    simp only [List.all_cons, Bool.and_eq_true] at ho
    unfold wlR at *
    cases hg : o.guard with
    | none =>
      rw [hg] at h
      exact h.imp (fun h => w1_mono h fun v w' h' => wlR_frame r K K' ρ0 _ w' ho.2 (hρ.trans (agr_upo ho.1 _ _)) hK h')
        (fun h => w1R_mono h fun v w' h' => wlR_frame r K K' ρ0 _ w' ho.2 (hρ.trans (agr_upo ho.1 _ _)) hK h')
    | some jb =>
      obtain ⟨j, b⟩ := jb
      rw [hg] at h
      rcases h with h | ⟨t, ht, hb, h⟩
      rotate_left 1
      · exact .inr ⟨t, ht, hb, wlR_frame r K K' ρ0 _ w ho.2 (hρ.trans (agr_upo ho.1 _ _)) hK h⟩
      obtain ⟨t, tb, ht, hb, h1, h2⟩ := h
      refine .inl ⟨t, tb, ht, hb, fun e => ?_, fun e => ?_⟩
      · subst e
        have := h1 rfl
        rw [up_id _ _ _ hb] at this ⊢
        exact this.imp (fun h => w1_mono h fun v w' h' => wlR_frame r K K' ρ0 _ w' ho.2 (hρ.trans (agr_upo ho.1 _ _)) hK h')
          (fun h => w1R_mono h fun v w' h' => wlR_frame r K K' ρ0 _ w' ho.2 (hρ.trans (agr_upo ho.1 _ _)) hK h')
      · subst e
        have := h2 rfl
        rw [up_id _ _ _ hb] at this ⊢
        exact wlR_frame r K K' ρ0 _ w ho.2 (hρ.trans (agr_upo ho.1 _ _)) hK this
theorem w1P_mono {P : Program} {o : Oper} {K K' : Env → World → Prop} {X X' : List PanicEntry → Env → World → Prop} {ρ : Env} {w : World} (h : w1P P o K X ρ w)
    (hK : ∀ v w', K (upo ρ o.dst v) w' → K' (upo ρ o.dst v) w') (hX : ∀ ch w', X ch ρ w' → X' ch ρ w') : w1P P o K' X' ρ w := by
  unfold w1P at *
  generalize (execOp (ev ρ) o).run P w = r at *
  cases r with
  | halt x w' =>
    cases x with
    | panic v => exact hX _ _ h
    | _ => exact h.elim
  | ok x w' =>
    cases x with
    | enter f args =>
      refine Calls.mono h ?_
      rintro e w'' (⟨v, he, hv⟩ | ⟨ch, he, hx⟩)
      · exact .inl ⟨v, he, hK _ _ hv⟩
      · exact .inr ⟨ch, he, hX _ _ hx⟩
    | _ => exact h.elim
theorem wlP_frame {P : Program} {ops : Array Oper} {keep : List Nat} {X X' : List PanicEntry → Env → World → Prop} : ∀ (l : List Oper) (K K' : Env → World → Prop) (ρ0 ρ : Env) (w : World),
    l.all (offDst keep) = true → agr keep ρ0 ρ → (∀ ρ' w', agr keep ρ0 ρ' → K ρ' w' → K' ρ' w') → (∀ ch ρ' w', agr keep ρ0 ρ' → X ch ρ' w' → X' ch ρ' w') → wlP P ops X l K ρ w → wlP P ops X' l K' ρ w
  | [], K, K', ρ0, ρ, w, _, hρ, hK, _, h => hK _ _ hρ h
  | o :: r, K, K', ρ0, ρ, w, ho, hρ, hK, hX, h => by
    simp only [List.all_cons, Bool.and_eq_true] at ho
    unfold wlP at *
    cases hg : o.guard with
    | none =>
      rw [hg] at h
      exact h.imp (fun h => w1_mono h fun v w' h' => wlP_frame r K K' ρ0 _ w' ho.2 (hρ.trans (agr_upo ho.1 _ _)) hK hX h')
        (fun h => w1P_mono h (fun v w' h' => wlP_frame r K K' ρ0 _ w' ho.2 (hρ.trans (agr_upo ho.1 _ _)) hK hX h') fun ch w' h' => hX ch _ _ hρ h')
    | some jb =>
      obtain ⟨j, b⟩ := jb
      rw [hg] at h
      rcases h with h | ⟨t, ht, hb, h⟩
      rotate_left 1
      · exact .inr ⟨t, ht, hb, wlP_frame r K K' ρ0 _ w ho.2 (hρ.trans (agr_upo ho.1 _ _)) hK hX h⟩
      obtain ⟨t, tb, ht, hb, h1, h2⟩ := h
      refine .inl ⟨t, tb, ht, hb, fun e => ?_, fun e => ?_⟩
      · subst e
        have := h1 rfl
        rw [up_id _ _ _ hb] at this ⊢
        exact this.imp (fun h => w1_mono h fun v w' h' => wlP_frame r K K' ρ0 _ w' ho.2 (hρ.trans (agr_upo ho.1 _ _)) hK hX h')
          (fun h => w1P_mono h (fun v w' h' => wlP_frame r K K' ρ0 _ w' ho.2 (hρ.trans (agr_upo ho.1 _ _)) hK hX h') fun ch w' h' => hX ch _ _ hρ h')
      · subst e
        have := h2 rfl
        rw [up_id _ _ _ hb] at this ⊢
        exact wlP_frame r K K' ρ0 _ w ho.2 (hρ.trans (agr_upo ho.1 _ _)) hK hX this
theorem whB_frame {P : Program} {ops : Array Oper} {S : World → Prop} {keep : List Nat} (ho : ops.toList.all (offDst keep) = true) : ∀ (plan : PB) (K K' : Env → World → Prop) (ρ0 ρ : Env) (w : World),
    agr keep ρ0 ρ → (∀ ρ' w', agr keep ρ0 ρ' → K ρ' w' → K' ρ' w') → whB P ops S plan K ρ w → whB P ops S plan K' ρ w
  | .done, K, K', ρ0, ρ, w, hρ, hK, h => hK _ _ hρ h
  | .take i r, K, K', ρ0, ρ, w, hρ, hK, h => by
    obtain ⟨o, v, h1, h2, h4⟩ := h
    have hoo : offDst keep o = true := List.all_eq_true.1 ho o (by rw [Array.mem_toList_iff]; exact Array.mem_of_getElem? h1)
    exact ⟨o, v, h1, h2, whB_frame ho r K K' ρ0 _ w (hρ.trans (agr_upo hoo _ _)) hK h4⟩
  | .one i r, K, K', ρ0, ρ, w, hρ, hK, h => by
    obtain ⟨o, h1, h2, h3⟩ := h
    have hoo : offDst keep o = true := List.all_eq_true.1 ho o (by rw [Array.mem_toList_iff]; exact Array.mem_of_getElem? h1)
    exact ⟨o, h1, h2, w1_mono h3 fun v w' h' => ⟨h'.1, whB_frame ho r K K' ρ0 _ w' (hρ.trans (agr_upo hoo _ _)) hK h'.2⟩⟩
  | .two i r j s, K, K', ρ0, ρ, w, hρ, hK, h => by
    obtain ⟨⟨o, h1, h2, h3⟩, ⟨o2, g1, g2, g3⟩⟩ := h
    have hoo : offDst keep o = true := List.all_eq_true.1 ho o (by rw [Array.mem_toList_iff]; exact Array.mem_of_getElem? h1)
    have hoo2 : offDst keep o2 = true := List.all_eq_true.1 ho o2 (by rw [Array.mem_toList_iff]; exact Array.mem_of_getElem? g1)
    exact ⟨⟨o, h1, h2, w1_mono h3 fun v w' h' => ⟨h'.1, whB_frame ho r K K' ρ0 _ w' (hρ.trans (agr_upo hoo _ _)) hK h'.2⟩⟩,
      ⟨o2, g1, g2, w1_mono g3 fun v w' h' => ⟨h'.1, whB_frame ho s K K' ρ0 _ w' (hρ.trans (agr_upo hoo2 _ _)) hK h'.2⟩⟩⟩
  | .three i r j s k q, K, K', ρ0, ρ, w, hρ, hK, h => by
    obtain ⟨⟨o, h1, h2, h3⟩, ⟨o2, g1, g2, g3⟩, ⟨o3, f1, f2, f3⟩⟩ := h
    have hoo : offDst keep o = true := List.all_eq_true.1 ho o (by rw [Array.mem_toList_iff]; exact Array.mem_of_getElem? h1)
    have hoo2 : offDst keep o2 = true := List.all_eq_true.1 ho o2 (by rw [Array.mem_toList_iff]; exact Array.mem_of_getElem? g1)
    have hoo3 : offDst keep o3 = true := List.all_eq_true.1 ho o3 (by rw [Array.mem_toList_iff]; exact Array.mem_of_getElem? f1)
    exact ⟨⟨o, h1, h2, w1_mono h3 fun v w' h' => ⟨h'.1, whB_frame ho r K K' ρ0 _ w' (hρ.trans (agr_upo hoo _ _)) hK h'.2⟩⟩,
      ⟨o2, g1, g2, w1_mono g3 fun v w' h' => ⟨h'.1, whB_frame ho s K K' ρ0 _ w' (hρ.trans (agr_upo hoo2 _ _)) hK h'.2⟩⟩,
      ⟨o3, f1, f2, w1_mono f3 fun v w' h' => ⟨h'.1, whB_frame ho q K K' ρ0 _ w' (hρ.trans (agr_upo hoo3 _ _)) hK h'.2⟩⟩⟩
theorem agr_sameBut {ops : Array Oper} {keep : List Nat} {ρ ρ' : Env} (ho : ops.toList.all (offDst keep) = true) (h : sameBut ops ρ ρ') : agr keep ρ ρ' := by
  intro j hj
  refine h j fun o hm hd => ?_
  have := List.all_eq_true.1 ho o hm
  unfold offDst at this
  rw [hd] at this
  simp only [List.all_eq_true, Bool.not_eq_true'] at this
  have := this j hj
  simp at this
theorem whP_frame {P : Program} {ops : Array Oper} {S : World → Prop} {X : List PanicEntry → World → Prop} {keep : List Nat} (ho : ops.toList.all (offDst keep) = true) : ∀ (plan : PB) (K K' : Env → World → Prop) (ρ0 ρ : Env) (w : World),
    agr keep ρ0 ρ → (∀ ρ' w', agr keep ρ0 ρ' → K ρ' w' → K' ρ' w') → whP P ops S X plan K ρ w → whP P ops S X plan K' ρ w
  | .done, K, K', ρ0, ρ, w, hρ, hK, h => hK _ _ hρ h
  | .take i r, K, K', ρ0, ρ, w, hρ, hK, h => by
    obtain ⟨o, v, h1, h2, h3, h4⟩ := h
    have hoo : offDst keep o = true := List.all_eq_true.1 ho o (by rw [Array.mem_toList_iff]; exact Array.mem_of_getElem? h1)
    exact ⟨o, v, h1, h2, h3, whP_frame ho r K K' ρ0 _ w (hρ.trans (agr_upo hoo _ _)) hK h4⟩
  | .one i r, K, K', ρ0, ρ, w, hρ, hK, h => by
    obtain ⟨o, h1, h2, h3⟩ := h
    have hoo : offDst keep o = true := List.all_eq_true.1 ho o (by rw [Array.mem_toList_iff]; exact Array.mem_of_getElem? h1)
    exact ⟨o, h1, h2, h3.imp (fun h3 => w1_mono h3 fun v w' h' => ⟨h'.1, whP_frame ho r K K' ρ0 _ w' (hρ.trans (agr_upo hoo _ _)) hK h'.2⟩)
      (fun h3 => w1P_mono h3 (fun v w' h' => ⟨h'.1, whP_frame ho r K K' ρ0 _ w' (hρ.trans (agr_upo hoo _ _)) hK h'.2⟩) fun _ _ hx => hx)⟩
  | .two .., _, _, _, _, _, _, _, h => h.elim
  | .three .., _, _, _, _, _, _, _, h => h.elim
theorem wc_frame {P : Program} {keep : List Nat} : ∀ (c : Code) (Q Q' : Exit → Env → World → Prop) (ρ0 ρ : Env) (w : World),
    off keep c = true → agr keep ρ0 ρ → (∀ e ρ' w', agr keep ρ0 ρ' → Q e ρ' w' → Q' e ρ' w') → wc P c Q ρ w → wc P c Q' ρ w
  | .skip, Q, Q', ρ0, ρ, w, _, hρ, hQ, h => hQ _ _ _ hρ h
  | .label _, Q, Q', ρ0, ρ, w, _, hρ, hQ, h => hQ _ _ _ hρ h
  | .exit _, Q, Q', ρ0, ρ, w, _, hρ, hQ, h => hQ _ _ _ hρ h
  | .ret, Q, Q', ρ0, ρ, w, _, hρ, hQ, h => hQ _ _ _ hρ h
  | .region _ ops false, Q, Q', ρ0, ρ, w, ho, hρ, hQ, h => h.imp (wl_frame ops.toList _ _ ρ0 ρ w ho hρ (fun ρ' w' => hQ .normal ρ' w')) (Or.imp (wlR_frame ops.toList _ _ ρ0 ρ w ho hρ (fun ρ' w' => hQ .normal ρ' w')) (wlP_frame ops.toList _ _ ρ0 ρ w ho hρ (fun ρ' w' => hQ .normal ρ' w') (fun ch ρ' w' => hQ (.panic ch) ρ' w')))
  | .region _ ops true, Q, Q', ρ0, ρ, w, ho, hρ, hQ, h => by
    obtain ⟨hm, h⟩ := h
    rcases h with ⟨n, hB, h⟩ | ⟨S, plan, hsel, hp, hlen, hS, h⟩ | ⟨S, plan, X, hsel, hp, hlen, hS, hX, h⟩
    rotate_left 1
    · exact ⟨hm, .inr (.inl ⟨S, plan, hsel, hp, hlen, hS, whB_frame ho plan _ _ ρ0 ρ _ hρ (fun ρ' w' => hQ .normal ρ' w') h⟩)⟩
    · refine ⟨hm, .inr (.inr ⟨S, plan, X, hsel, hp, hlen, hS, fun ch ρ' w' hsb hx => hQ _ _ _ (hρ.trans (agr_sameBut ho hsb)) (hX ch ρ' w' hsb hx), whP_frame ho plan _ _ ρ0 ρ _ hρ (fun ρ' w' => hQ .normal ρ' w') h⟩)⟩
    simp only [off, List.all_eq_true] at ho
    refine ⟨hm, .inl ⟨n, hB, wl_frame _ _ _ ρ0 ρ _ (List.all_eq_true.2 fun o h => ho o (List.mem_of_mem_take h)) hρ (fun ρ' w' hρ' h' => ?_) h⟩⟩
    exact wl_frame _ _ _ ρ0 ρ' w' (List.all_eq_true.2 fun o h => ho o (List.mem_of_mem_drop h)) hρ' (fun ρ' w' => hQ .normal ρ' w') h'
  | .seq x y, Q, Q', ρ0, ρ, w, ho, hρ, hQ, h => by
    simp only [off, Bool.and_eq_true] at ho
    refine wc_frame x _ _ ρ0 ρ w ho.1 hρ (fun e ρ' w' hρ' h' => ?_) h
    cases e with
    | normal => exact wc_frame y Q Q' ρ0 ρ' w' ho.2 hρ' hQ h'
    | _ => exact hQ _ _ _ hρ' h'
  | .cond c x y, Q, Q', ρ0, ρ, w, ho, hρ, hQ, h => by
    simp only [off, Bool.and_eq_true] at ho
    obtain ⟨t, ht, h1, h2⟩ := h
    exact ⟨t, ht, fun e => wc_frame x Q Q' ρ0 ρ w ho.1 hρ hQ (h1 e), fun e => wc_frame y Q Q' ρ0 ρ w ho.2 hρ hQ (h2 e)⟩
  | .block id b, Q, Q', ρ0, ρ, w, ho, hρ, hQ, h => by
    refine wc_frame b _ _ ρ0 ρ w ho hρ (fun e ρ' w' hρ' h' => ?_) h
    cases e with
    | exit i => exact ⟨fun e => hQ _ _ _ hρ' (h'.1 e), fun e => hQ _ _ _ hρ' (h'.2 e)⟩
    | _ => exact hQ _ _ _ hρ' h'
  | .loop b, Q, Q', ρ0, ρ, w, ho, hρ, hQ, h => by
    obtain ⟨I, μ, hI, hr⟩ := h
    refine ⟨fun ρ' w' => agr keep ρ0 ρ' ∧ I ρ' w', μ, ⟨hρ, hI⟩, fun ρ1 w1 ⟨hρ1, hI1⟩ => ?_⟩
    refine wc_frame b _ _ ρ0 ρ1 w1 ho hρ1 (fun e ρ' w' hρ' h' => ?_) (hr ρ1 w1 hI1)
    cases e with
    | normal => exact ⟨⟨hρ', h'.1⟩, h'.2⟩
    | _ => exact hQ _ _ _ hρ' h'
  | .scope b, Q, Q', ρ0, ρ, w, ho, hρ, hQ, h => by
    refine wc_frame b _ _ ρ0 ρ w ho hρ (fun e ρ' w' hρ' h' => ?_) h
    cases e with
    | goto _ => exact h'
    | _ => exact hQ _ _ _ hρ' h'
  | .rangeFunc g ps a b, Q, Q', ρ0, ρ, w, ho, hρ, hQ, h => by
    have hmk : ∀ (v : Value), ∀ j ∈ keep, up ρ 1000000 v j = ρ j := fun v j hj => by
      simp only [off, List.all_eq_true, Bool.not_eq_true'] at ho
      have := ho j hj
      exact up_ne _ _ _ _ (by rintro rfl; simp at this)
    rcases h with ⟨f, lb, items, T, Dt, I, asg, M, hM, hg, hcall, hit, hlen, hDt, hI, hDt0, hI0, hasg, hbody, hdone⟩ | ⟨α, E, f, lb, items, T, Dt, I, Ix, asg, M, hM, hg, hcall, hit, hlen, hDt, hI, hIx, hE, hDt0, hI0, hasg, hbody, hdone, hstop⟩
    · exact .inl ⟨f, lb, items, T, Dt, I, asg, M, hM, hg, hcall, hit, hlen, hDt, hI, hDt0, hI0, hasg, hbody, fun W h1 h2 => hQ _ _ _ (hρ.trans fun j hj => hmk _ j hj) (hdone W h1 h2)⟩
    · exact .inr ⟨α, E, f, lb, items, T, Dt, I, Ix, asg, M, hM, hg, hcall, hit, hlen, hDt, hI, hIx, hE, hDt0, hI0, hasg, hbody, fun W h1 h2 => hQ _ _ _ (hρ.trans fun j hj => hmk _ j hj) (hdone W h1 h2),
        fun e i W h1 h2 h3 => hQ _ _ _ (hρ.trans fun j hj => hmk _ j hj) (hstop e i W h1 h2 h3)⟩
  | .goto _, _, _, _, _, _, _, _, _, h => h.elim
  | .refuse _, _, _, _, _, _, _, _, _, h => h.elim
theorem wc_mono {P : Program} {c : Code} {Q Q' : Exit → Env → World → Prop} {ρ : Env} {w : World} (h : wc P c Q ρ w) (hQ : ∀ e ρ' w', Q e ρ' w' → Q' e ρ' w') : wc P c Q' ρ w :=
  wc_frame (keep := []) c Q Q' ρ ρ w (by
    have h1 : ∀ o : Oper, offDst [] o = true := by intro o; unfold offDst; cases o.dst <;> rfl
    have : ∀ c, off [] c = true := by
      intro c
      induction c with
      | region id ops d => simp [off, h1]
      | seq a b iha ihb => simp [off, iha, ihb]
      | cond c a b iha ihb => simp [off, iha, ihb]
      | block id b ih => simpa [off] using ih
      | loop b ih => simpa [off] using ih
      | scope b ih => simpa [off] using ih
      | rangeFunc g ps a b iha ihb => simp [off]
      | _ => rfl
    exact this c) (fun _ _ => rfl) (fun e ρ' w' _ => hQ e ρ' w') h

def memb : List Nat → Nat → Bool
  | [], _ => false
  | a :: l, j => bif Nat.beq j a then true else memb l j
theorem memb_iff : ∀ (l : List Nat) (j : Nat), memb l j = true ↔ j ∈ l
  | [], j => by simp [memb]
  | a :: l, j => by
    simp only [memb, List.mem_cons]
    have := memb_iff l j
    by_cases h : j = a
    · subst h; simp
    · have hb : Nat.beq j a = false := by
        cases hb : Nat.beq j a
        · rfl
        · exact absurd (Nat.eq_of_beq_eq_true hb) h
      simp [hb, h, this]
/-- Slots 'keep' as they were, all others unknown. -/
def over (ρ : Env) (keep : List Nat) (x : Env) : Env := fun j => bif memb keep j then ρ j else x j
def updl (ρ : Env) : List (Nat × Value) → Env
  | [] => ρ
  | p :: r => up (updl ρ r) p.1 p.2
def agree (ρ : Env) : List (Nat × Value) → Prop
  | [] => True
  | p :: r => ρ p.1 = p.2 ∧ agree ρ r
theorem env_eq {ρ ρ' : Env} {keep : List Nat} (h : agr keep ρ ρ') : ∀ (l : List (Nat × Value)), agree ρ' l → ρ' = updl (over ρ keep ρ') l
  | [], _ => by
    funext j
    simp only [updl, over]
    cases hm : memb keep j
    · rfl
    · exact h j ((memb_iff _ _).1 hm)
  | p :: r, hl => by
    have ih := env_eq h r hl.2
    simp only [updl]
    rw [← ih]
    exact (up_id _ _ _ hl.1).symm

theorem least {p : Nat → Prop} (h : ∃ n, p n) : ∃ n, p n ∧ ∀ k, p k → n ≤ k := by
  obtain ⟨n, hn⟩ := h
  induction n using Nat.strongRecOn with
  | _ n ih =>
    by_cases hk : ∃ k, k < n ∧ p k
    · obtain ⟨k, hlt, hp⟩ := hk; exact ih k hlt hp
    · exact ⟨n, hn, fun k hp => Nat.le_of_not_lt fun hlt => hk ⟨k, hlt, hp⟩⟩
open Classical in
noncomputable def leastOf (p : Nat → Prop) : Nat := if h : ∃ n, p n then Classical.choose (least h) else 0
theorem leastOf_spec {p : Nat → Prop} (h : ∃ n, p n) : p (leastOf p) ∧ ∀ k, p k → leastOf p ≤ k := by
  unfold leastOf
  rw [dif_pos h]
  exact Classical.choose_spec (least h)
/-- A loop: the state 's' gives the slots 'st s'; the slots 'keep' stay; all others are unknown at the head. -/
theorem wc_loopM {P : Program} {b : Code} {Q : Exit → Env → World → Prop} {ρ : Env} {w : World} {σ : Type} (keep : List Nat) (st : σ → List (Nat × Value)) (I : σ → World → Prop) (μ : σ → Nat)
    (s0 : σ) (hk : off keep b = true) (h0 : agree ρ (st s0)) (hI : I s0 w)
    (hr : ∀ s w x, I s w → wc P b (thenQ (fun ρ' w' => ∃ s', agree ρ' (st s') ∧ I s' w' ∧ μ s' < μ s) Q) (updl (over ρ keep x) (st s)) w) :
    wc P (.loop b) Q ρ w := by
  refine ⟨fun ρ' w' => agr keep ρ ρ' ∧ ∃ s, agree ρ' (st s) ∧ I s w', fun ρ' w' => leastOf fun m => ∃ s, agree ρ' (st s) ∧ I s w' ∧ μ s = m, ⟨agr.refl _ _, s0, h0, hI⟩, ?_⟩
  rintro ρ1 w1 ⟨hρ1, s1, hs1, hI1⟩
  have hex : ∃ m, ∃ s, agree ρ1 (st s) ∧ I s w1 ∧ μ s = m := ⟨_, s1, hs1, hI1, rfl⟩
  obtain ⟨⟨s, hs, hIs, hμ⟩, _⟩ := leastOf_spec hex
  have := hr s w1 ρ1 hIs
  rw [← env_eq hρ1 _ hs] at this
  refine wc_frame b _ _ ρ1 ρ1 w1 hk (agr.refl _ _) ?_ this
  intro e ρ' w' hρ' h'
  cases e with
  | normal =>
    obtain ⟨s', ha', hI', hlt⟩ := h'
    refine ⟨⟨hρ1.trans hρ', s', ha', hI'⟩, ?_⟩
    have := (leastOf_spec (p := fun m => ∃ s, agree ρ' (st s) ∧ I s w' ∧ μ s = m) ⟨_, s', ha', hI', rfl⟩).2 _ ⟨s', ha', hI', rfl⟩
    exact Nat.lt_of_le_of_lt this (Nat.lt_of_lt_of_le hlt (Nat.le_of_eq hμ))
  | _ => exact h'
/-- A loop in which no function is ranged over. -/
theorem wc_loop {P : Program} {b : Code} {Q : Exit → Env → World → Prop} {ρ : Env} {w : World} {σ : Type} (keep : List Nat) (st : σ → List (Nat × Value)) (I : σ → World → Prop) (μ : σ → Nat)
    (s0 : σ) (hk : off (1000000 :: keep) b = true) (h0 : agree ρ (st s0)) (hI : I s0 w)
    (hr : ∀ s w x, I s w → wc P b (thenQ (fun ρ' w' => ∃ s', agree ρ' (st s') ∧ I s' w' ∧ μ s' < μ s) Q) (updl (over ρ (1000000 :: keep) x) (st s)) w) :
    wc P (.loop b) Q ρ w := wc_loopM (1000000 :: keep) st I μ s0 hk h0 hI hr
theorem wc_loop2 {P : Program} {bd : Code} {Q : Exit → Env → World → Prop} {ρ : Env} {w : World} {α β : Type} (keep : List Nat) (st : α → β → List (Nat × Value)) (I : α → β → World → Prop) (μ : α → β → Nat)
    (a0 : α) (b0 : β) (hk : off (1000000 :: keep) bd = true) (h0 : agree ρ (st a0 b0)) (hI : I a0 b0 w)
    (hr : ∀ a b w x, I a b w → wc P bd (thenQ (fun ρ' w' => ∃ a' b', agree ρ' (st a' b') ∧ I a' b' w' ∧ μ a' b' < μ a b) Q) (updl (over ρ (1000000 :: keep) x) (st a b)) w) :
    wc P (.loop bd) Q ρ w :=
  wc_loop (σ := α × β) keep (fun s => st s.1 s.2) (fun s w => I s.1 s.2 w) (fun s => μ s.1 s.2) (a0, b0) hk h0 hI fun s w x hI => wc_mono (hr s.1 s.2 w x hI) fun e ρ' w' h => by
    cases e with
    | normal => obtain ⟨a', b', h⟩ := h; exact ⟨(a', b'), h⟩
    | _ => exact h
theorem wc_loop3 {P : Program} {bd : Code} {Q : Exit → Env → World → Prop} {ρ : Env} {w : World} {α β γ : Type} (keep : List Nat) (st : α → β → γ → List (Nat × Value)) (I : α → β → γ → World → Prop) (μ : α → β → γ → Nat)
    (a0 : α) (b0 : β) (c0 : γ) (hk : off (1000000 :: keep) bd = true) (h0 : agree ρ (st a0 b0 c0)) (hI : I a0 b0 c0 w)
    (hr : ∀ a b c w x, I a b c w → wc P bd (thenQ (fun ρ' w' => ∃ a' b' c', agree ρ' (st a' b' c') ∧ I a' b' c' w' ∧ μ a' b' c' < μ a b c) Q) (updl (over ρ (1000000 :: keep) x) (st a b c)) w) :
    wc P (.loop bd) Q ρ w :=
  wc_loop (σ := α × β × γ) keep (fun s => st s.1 s.2.1 s.2.2) (fun s w => I s.1 s.2.1 s.2.2 w) (fun s => μ s.1 s.2.1 s.2.2) (a0, b0, c0) hk h0 hI fun s w x hI => wc_mono (hr s.1 s.2.1 s.2.2 w x hI) fun e ρ' w' h => by
    cases e with
    | normal => obtain ⟨a', b', c', h⟩ := h; exact ⟨(a', b', c'), h⟩
    | _ => exact h
theorem wc_loop4 {P : Program} {bd : Code} {Q : Exit → Env → World → Prop} {ρ : Env} {w : World} {α β γ δ : Type} (keep : List Nat) (st : α → β → γ → δ → List (Nat × Value)) (I : α → β → γ → δ → World → Prop) (μ : α → β → γ → δ → Nat)
    (a0 : α) (b0 : β) (c0 : γ) (d0 : δ) (hk : off (1000000 :: keep) bd = true) (h0 : agree ρ (st a0 b0 c0 d0)) (hI : I a0 b0 c0 d0 w)
    (hr : ∀ a b c d w x, I a b c d w → wc P bd (thenQ (fun ρ' w' => ∃ a' b' c' d', agree ρ' (st a' b' c' d') ∧ I a' b' c' d' w' ∧ μ a' b' c' d' < μ a b c d) Q) (updl (over ρ (1000000 :: keep) x) (st a b c d)) w) :
    wc P (.loop bd) Q ρ w :=
  wc_loop (σ := α × β × γ × δ) keep (fun s => st s.1 s.2.1 s.2.2.1 s.2.2.2) (fun s w => I s.1 s.2.1 s.2.2.1 s.2.2.2 w) (fun s => μ s.1 s.2.1 s.2.2.1 s.2.2.2) (a0, b0, c0, d0) hk h0 hI fun s w x hI => wc_mono (hr s.1 s.2.1 s.2.2.1 s.2.2.2 w x hI) fun e ρ' w' h => by
    cases e with
    | normal => obtain ⟨a', b', c', d', h⟩ := h; exact ⟨(a', b', c', d'), h⟩
    | _ => exact h
theorem wc_loop5 {P : Program} {bd : Code} {Q : Exit → Env → World → Prop} {ρ : Env} {w : World} {α β γ δ ε : Type} (keep : List Nat) (st : α → β → γ → δ → ε → List (Nat × Value)) (I : α → β → γ → δ → ε → World → Prop) (μ : α → β → γ → δ → ε → Nat)
    (a0 : α) (b0 : β) (c0 : γ) (d0 : δ) (e0 : ε) (hk : off (1000000 :: keep) bd = true) (h0 : agree ρ (st a0 b0 c0 d0 e0)) (hI : I a0 b0 c0 d0 e0 w)
    (hr : ∀ a b c d e w x, I a b c d e w → wc P bd (thenQ (fun ρ' w' => ∃ a' b' c' d' e', agree ρ' (st a' b' c' d' e') ∧ I a' b' c' d' e' w' ∧ μ a' b' c' d' e' < μ a b c d e) Q) (updl (over ρ (1000000 :: keep) x) (st a b c d e)) w) :
    wc P (.loop bd) Q ρ w :=
  wc_loop (σ := α × β × γ × δ × ε) keep (fun s => st s.1 s.2.1 s.2.2.1 s.2.2.2.1 s.2.2.2.2) (fun s w => I s.1 s.2.1 s.2.2.1 s.2.2.2.1 s.2.2.2.2 w) (fun s => μ s.1 s.2.1 s.2.2.1 s.2.2.2.1 s.2.2.2.2) (a0, b0, c0, d0, e0) hk h0 hI fun s w x hI => wc_mono (hr s.1 s.2.1 s.2.2.1 s.2.2.2.1 s.2.2.2.2 w x hI) fun e ρ' w' h => by
    cases e with
    | normal => obtain ⟨a', b', c', d', e', h⟩ := h; exact ⟨(a', b', c', d', e'), h⟩
    | _ => exact h
theorem wc_loop2M {P : Program} {bd : Code} {Q : Exit → Env → World → Prop} {ρ : Env} {w : World} {α β : Type} (keep : List Nat) (st : α → β → List (Nat × Value)) (I : α → β → World → Prop) (μ : α → β → Nat)
    (a0 : α) (b0 : β) (hk : off keep bd = true) (h0 : agree ρ (st a0 b0)) (hI : I a0 b0 w)
    (hr : ∀ a b w x, I a b w → wc P bd (thenQ (fun ρ' w' => ∃ a' b', agree ρ' (st a' b') ∧ I a' b' w' ∧ μ a' b' < μ a b) Q) (updl (over ρ keep x) (st a b)) w) :
    wc P (.loop bd) Q ρ w :=
  wc_loopM (σ := α × β) keep (fun s => st s.1 s.2) (fun s w => I s.1 s.2 w) (fun s => μ s.1 s.2) (a0, b0) hk h0 hI fun s w x hI => wc_mono (hr s.1 s.2 w x hI) fun e ρ' w' h => by
    cases e with
    | normal => obtain ⟨a', b', h⟩ := h; exact ⟨(a', b'), h⟩
    | _ => exact h
theorem wc_loop3M {P : Program} {bd : Code} {Q : Exit → Env → World → Prop} {ρ : Env} {w : World} {α β γ : Type} (keep : List Nat) (st : α → β → γ → List (Nat × Value)) (I : α → β → γ → World → Prop) (μ : α → β → γ → Nat)
    (a0 : α) (b0 : β) (c0 : γ) (hk : off keep bd = true) (h0 : agree ρ (st a0 b0 c0)) (hI : I a0 b0 c0 w)
    (hr : ∀ a b c w x, I a b c w → wc P bd (thenQ (fun ρ' w' => ∃ a' b' c', agree ρ' (st a' b' c') ∧ I a' b' c' w' ∧ μ a' b' c' < μ a b c) Q) (updl (over ρ keep x) (st a b c)) w) :
    wc P (.loop bd) Q ρ w :=
  wc_loopM (σ := α × β × γ) keep (fun s => st s.1 s.2.1 s.2.2) (fun s w => I s.1 s.2.1 s.2.2 w) (fun s => μ s.1 s.2.1 s.2.2) (a0, b0, c0) hk h0 hI fun s w x hI => wc_mono (hr s.1 s.2.1 s.2.2 w x hI) fun e ρ' w' h => by
    cases e with
    | normal => obtain ⟨a', b', c', h⟩ := h; exact ⟨(a', b', c'), h⟩
    | _ => exact h
theorem wc_loop4M {P : Program} {bd : Code} {Q : Exit → Env → World → Prop} {ρ : Env} {w : World} {α β γ δ : Type} (keep : List Nat) (st : α → β → γ → δ → List (Nat × Value)) (I : α → β → γ → δ → World → Prop) (μ : α → β → γ → δ → Nat)
    (a0 : α) (b0 : β) (c0 : γ) (d0 : δ) (hk : off keep bd = true) (h0 : agree ρ (st a0 b0 c0 d0)) (hI : I a0 b0 c0 d0 w)
    (hr : ∀ a b c d w x, I a b c d w → wc P bd (thenQ (fun ρ' w' => ∃ a' b' c' d', agree ρ' (st a' b' c' d') ∧ I a' b' c' d' w' ∧ μ a' b' c' d' < μ a b c d) Q) (updl (over ρ keep x) (st a b c d)) w) :
    wc P (.loop bd) Q ρ w :=
  wc_loopM (σ := α × β × γ × δ) keep (fun s => st s.1 s.2.1 s.2.2.1 s.2.2.2) (fun s w => I s.1 s.2.1 s.2.2.1 s.2.2.2 w) (fun s => μ s.1 s.2.1 s.2.2.1 s.2.2.2) (a0, b0, c0, d0) hk h0 hI fun s w x hI => wc_mono (hr s.1 s.2.1 s.2.2.1 s.2.2.2 w x hI) fun e ρ' w' h => by
    cases e with
    | normal => obtain ⟨a', b', c', d', h⟩ := h; exact ⟨(a', b', c', d'), h⟩
    | _ => exact h
theorem wc_loop5M {P : Program} {bd : Code} {Q : Exit → Env → World → Prop} {ρ : Env} {w : World} {α β γ δ ε : Type} (keep : List Nat) (st : α → β → γ → δ → ε → List (Nat × Value)) (I : α → β → γ → δ → ε → World → Prop) (μ : α → β → γ → δ → ε → Nat)
    (a0 : α) (b0 : β) (c0 : γ) (d0 : δ) (e0 : ε) (hk : off keep bd = true) (h0 : agree ρ (st a0 b0 c0 d0 e0)) (hI : I a0 b0 c0 d0 e0 w)
    (hr : ∀ a b c d e w x, I a b c d e w → wc P bd (thenQ (fun ρ' w' => ∃ a' b' c' d' e', agree ρ' (st a' b' c' d' e') ∧ I a' b' c' d' e' w' ∧ μ a' b' c' d' e' < μ a b c d e) Q) (updl (over ρ keep x) (st a b c d e)) w) :
    wc P (.loop bd) Q ρ w :=
  wc_loopM (σ := α × β × γ × δ × ε) keep (fun s => st s.1 s.2.1 s.2.2.1 s.2.2.2.1 s.2.2.2.2) (fun s w => I s.1 s.2.1 s.2.2.1 s.2.2.2.1 s.2.2.2.2 w) (fun s => μ s.1 s.2.1 s.2.2.1 s.2.2.2.1 s.2.2.2.2) (a0, b0, c0, d0, e0) hk h0 hI fun s w x hI => wc_mono (hr s.1 s.2.1 s.2.2.1 s.2.2.2.1 s.2.2.2.2 w x hI) fun e ρ' w' h => by
    cases e with
    | normal => obtain ⟨a', b', c', d', e', h⟩ := h; exact ⟨(a', b', c', d', e'), h⟩
    | _ => exact h
/-- Where ways meet: what the first piece leaves. -/
theorem wc_joinM {P : Program} {c d : Code} {Q : Exit → Env → World → Prop} {ρ : Env} {w : World} {σ : Type} (keep : List Nat) (st : σ → List (Nat × Value)) (I : σ → World → Prop)
    (hk : off keep c = true)
    (h1 : wc P c (thenQ (fun ρ' w' => ∃ s, agree ρ' (st s) ∧ I s w') Q) ρ w)
    (h2 : ∀ s w x, I s w → wc P d Q (updl (over ρ keep x) (st s)) w) : wc P (.seq c d) Q ρ w := by
  refine wc_frame c _ _ ρ ρ w hk (agr.refl _ _) ?_ h1
  intro e ρ' w' hρ' h'
  cases e with
  | normal =>
    obtain ⟨s, hs, hI⟩ := h'
    have := h2 s w' ρ' hI
    rw [← env_eq hρ' _ hs] at this
    exact this
  | _ => exact h'
theorem wc_join {P : Program} {c d : Code} {Q : Exit → Env → World → Prop} {ρ : Env} {w : World} {σ : Type} (keep : List Nat) (st : σ → List (Nat × Value)) (I : σ → World → Prop)
    (hk : off (1000000 :: keep) c = true)
    (h1 : wc P c (thenQ (fun ρ' w' => ∃ s, agree ρ' (st s) ∧ I s w') Q) ρ w)
    (h2 : ∀ s w x, I s w → wc P d Q (updl (over ρ (1000000 :: keep) x) (st s)) w) : wc P (.seq c d) Q ρ w := wc_joinM (1000000 :: keep) st I hk h1 h2
/-- Where the ways of a test meet again. -/
theorem wc_joinB {P : Program} {c d : Code} {Q : Exit → Env → World → Prop} {ρ : Env} {w : World} (keep : List Nat) (t : Nat) (p : Prop) [Decidable p]
    (hk : off (1000000 :: keep) c = true)
    (h1 : wc P c (thenQ (fun ρ' w' => ρ' t = .bool (decide p) ∧ w' = w) Q) ρ w)
    (h2 : ∀ x, wc P d Q (up (over ρ (1000000 :: keep) x) t (.bool (decide p))) w) : wc P (.seq c d) Q ρ w := by
  refine wc_join (σ := Unit) keep (fun _ => [(t, .bool (decide p))]) (fun _ w' => w' = w) hk ?_ ?_
  · refine wc_mono h1 fun e ρ' w' h => ?_
    cases e with
    | normal => exact ⟨(), ⟨h.1, trivial⟩, h.2⟩
    | _ => exact h
  · rintro _ w' x rfl
    exact h2 x
section
variable {P : Program} {st : Bool} {K : Env → World → Prop} {ρ : Env} {w : World} {d : Nat} {ty : TypeId} {pos : String} {aft : Array Edge} {gd : Option (Nat × Bool)}

theorem w1_val {o : Oper} {v : Value} (hr : (execOp (ev ρ) o).run P w = .ok (.value v) w) (h : K (upo ρ o.dst v) w) : w1 P st o K ρ w := by
  unfold w1; rw [hr]; exact ⟨fun _ => rfl, h⟩
theorem w1_val' {o : Oper} {v : Value} {w' : World} (hr : (execOp (ev ρ) o).run P w = .ok (.value v) w') (h : K (upo ρ o.dst v) w') : w1 P false o K ρ w := by
  unfold w1; rw [hr]; exact ⟨fun e => (by cases e), h⟩
theorem w1_skip' {o : Oper} {w' : World} (hr : (execOp (ev ρ) o).run P w = .ok .skip w') (h : K (upo ρ o.dst undef) w') : w1 P false o K ρ w := by
  unfold w1; rw [hr]; exact ⟨fun e => (by cases e), h⟩

theorem wl_nil {ops : Array Oper} (h : K ρ w) : wl P st ops [] K ρ w := h
theorem wl_plain {ops : Array Oper} {x : Op} {dd : Option Nat} {r : List Oper} (h : w1 P st ⟨dd, x, ty, pos, aft, none⟩ (wl P st ops r K) ρ w) :
    wl P st ops (⟨dd, x, ty, pos, aft, none⟩ :: r) K ρ w := h
theorem wl_run {ops : Array Oper} {x : Op} {dd : Option Nat} {r : List Oper} {j t : Nat} {b : Bool} (ht : (ops[j]?).bind (·.dst) = some t) (hb : ρ t = .bool b)
    (h : w1 P st ⟨dd, x, ty, pos, aft, some (j, b)⟩ (wl P st ops r K) ρ w) : wl P st ops (⟨dd, x, ty, pos, aft, some (j, b)⟩ :: r) K ρ w :=
  .inl ⟨t, b, ht, hb, fun _ => by rw [up_id _ _ _ hb]; exact h, fun e => by cases b <;> cases e⟩
theorem wl_pass {ops : Array Oper} {x : Op} {dd : Option Nat} {r : List Oper} {j t : Nat} {b b' : Bool} (ht : (ops[j]?).bind (·.dst) = some t) (hb : ρ t = .bool b') (hn : b' = !b)
    (h : wl P st ops r K (upo ρ dd undef) w) : wl P st ops (⟨dd, x, ty, pos, aft, some (j, b)⟩ :: r) K ρ w :=
  .inl ⟨t, b', ht, hb, fun e => (by subst e; cases b' <;> cases hn), fun e => (by rw [e] at hb; rw [up_id _ _ _ hb]; exact h)⟩
theorem wl_if_t {ops : Array Oper} {x : Op} {dd : Option Nat} {r : List Oper} {j t : Nat} {p : Prop} [Decidable p] (ht : (ops[j]?).bind (·.dst) = some t) (hb : ρ t = .bool (decide p))
    (h1 : p → w1 P st ⟨dd, x, ty, pos, aft, some (j, true)⟩ (wl P st ops r K) (up ρ t (.bool true)) w) (h2 : ¬p → wl P st ops r K (upo (up ρ t (.bool false)) dd undef) w) :
    wl P st ops (⟨dd, x, ty, pos, aft, some (j, true)⟩ :: r) K ρ w :=
  .inl ⟨t, decide p, ht, hb, fun e => h1 (by simpa using e), fun e => h2 (by simpa using e)⟩
theorem wl_if_f {ops : Array Oper} {x : Op} {dd : Option Nat} {r : List Oper} {j t : Nat} {p : Prop} [Decidable p] (ht : (ops[j]?).bind (·.dst) = some t) (hb : ρ t = .bool (decide p))
    (h1 : ¬p → w1 P st ⟨dd, x, ty, pos, aft, some (j, false)⟩ (wl P st ops r K) (up ρ t (.bool false)) w) (h2 : p → wl P st ops r K (upo (up ρ t (.bool true)) dd undef) w) :
    wl P st ops (⟨dd, x, ty, pos, aft, some (j, false)⟩ :: r) K ρ w :=
  .inl ⟨t, decide p, ht, hb, fun e => h1 (by simpa using e), fun e => h2 (by simpa using e)⟩
theorem wl_dead {ops : Array Oper} {x : Op} {dd : Option Nat} {r : List Oper} {j t : Nat} {b : Bool} (ht : (ops[j]?).bind (·.dst) = some t) (hb : ρ t = undef)
    (h : wl P st ops r K (upo ρ dd undef) w) : wl P st ops (⟨dd, x, ty, pos, aft, some (j, b)⟩ :: r) K ρ w := .inr ⟨t, ht, hb, h⟩

theorem wc_skip {Q : Exit → Env → World → Prop} (h : Q .normal ρ w) : wc P .skip Q ρ w := h
theorem wc_label {Q : Exit → Env → World → Prop} {l : Nat} (h : Q .normal ρ w) : wc P (.label l) Q ρ w := h
theorem wc_seq {Q : Exit → Env → World → Prop} {a b : Code} (h : wc P a (thenQ (wc P b Q) Q) ρ w) : wc P (.seq a b) Q ρ w := h
theorem wc_block {Q : Exit → Env → World → Prop} {id : Nat} {b : Code} (h : wc P b (inBl id Q) ρ w) : wc P (.block id b) Q ρ w := h
theorem wc_exit {Q : Exit → Env → World → Prop} {id : Nat} (h : Q (.exit id) ρ w) : wc P (.exit id) Q ρ w := h
theorem wc_ret {Q : Exit → Env → World → Prop} (h : Q .ret ρ w) : wc P .ret Q ρ w := h
theorem wc_region {Q : Exit → Env → World → Prop} {id : Nat} {l : List Oper} (h : wl P false l.toArray l (Q .normal) ρ w) : wc P (.region id l.toArray false) Q ρ w := .inl h
theorem wc_regionR {Q : Exit → Env → World → Prop} {id : Nat} {l : List Oper} (h : wlR P l.toArray l (Q .normal) ρ w) : wc P (.region id l.toArray false) Q ρ w := .inr (.inl h)
theorem wc_regionP {Q : Exit → Env → World → Prop} {id : Nat} {l : List Oper} (h : wlP P l.toArray (fun ch => Q (.panic ch)) l (Q .normal) ρ w) : wc P (.region id l.toArray false) Q ρ w := .inr (.inr h)
theorem wlP_nil {ops : Array Oper} {X : List PanicEntry → Env → World → Prop} (h : K ρ w) : wlP P ops X [] K ρ w := h
theorem wlP_plain {ops : Array Oper} {X : List PanicEntry → Env → World → Prop} {x : Op} {dd : Option Nat} {r : List Oper} (h : w1 P false ⟨dd, x, ty, pos, aft, none⟩ (wlP P ops X r K) ρ w) :
    wlP P ops X (⟨dd, x, ty, pos, aft, none⟩ :: r) K ρ w := .inl h
theorem wlP_run {ops : Array Oper} {X : List PanicEntry → Env → World → Prop} {x : Op} {dd : Option Nat} {r : List Oper} {j t : Nat} {b : Bool} (ht : (ops[j]?).bind (·.dst) = some t) (hb : ρ t = .bool b)
    (h : w1 P false ⟨dd, x, ty, pos, aft, some (j, b)⟩ (wlP P ops X r K) ρ w) : wlP P ops X (⟨dd, x, ty, pos, aft, some (j, b)⟩ :: r) K ρ w :=
  .inl ⟨t, b, ht, hb, fun _ => (by rw [up_id _ _ _ hb]; exact .inl h), fun e => (by cases b <;> cases e)⟩
theorem wlP_pass {ops : Array Oper} {X : List PanicEntry → Env → World → Prop} {x : Op} {dd : Option Nat} {r : List Oper} {j t : Nat} {b b' : Bool} (ht : (ops[j]?).bind (·.dst) = some t) (hb : ρ t = .bool b') (hn : b' = !b)
    (h : wlP P ops X r K (upo ρ dd undef) w) : wlP P ops X (⟨dd, x, ty, pos, aft, some (j, b)⟩ :: r) K ρ w :=
  .inl ⟨t, b', ht, hb, fun e => (by subst e; cases b' <;> cases hn), fun e => (by rw [e] at hb; rw [up_id _ _ _ hb]; exact h)⟩
theorem wlP_dead {ops : Array Oper} {X : List PanicEntry → Env → World → Prop} {x : Op} {dd : Option Nat} {r : List Oper} {j t : Nat} {b : Bool} (ht : (ops[j]?).bind (·.dst) = some t) (hb : ρ t = undef)
    (h : wlP P ops X r K (upo ρ dd undef) w) : wlP P ops X (⟨dd, x, ty, pos, aft, some (j, b)⟩ :: r) K ρ w := .inr ⟨t, ht, hb, h⟩
theorem wlP_may {ops : Array Oper} {X : List PanicEntry → Env → World → Prop} {x : Op} {dd : Option Nat} {r : List Oper} (h : w1P P ⟨dd, x, ty, pos, aft, none⟩ (wlP P ops X r K) X ρ w) :
    wlP P ops X (⟨dd, x, ty, pos, aft, none⟩ :: r) K ρ w := .inr h
theorem wc_scope {Q : Exit → Env → World → Prop} {b : Code} (h : wc P b (noG Q) ρ w) : wc P (.scope b) Q ρ w := h
theorem wc_rangeFunc {Q : Exit → Env → World → Prop} {g : Operand} {ps : Array Tmp} {a b : Code} (h : ∃ (f : FuncId) (lb : List Value) (items : List (List Value)) (T : TypeId) (Dt : World → Prop) (I : Nat → World → Prop) (asg : List Value → Env) (M : List Nat),
      ρ 1000000 = mkv M ∧ ev ρ g = .func (.func f) #[] lb.toArray ∧ (∀ args w, (callFunc f args).run P w = .ok (.enter f args) w) ∧ IterC P f lb items T Dt ∧ (∀ x, x ∈ items → x.length = ps.size) ∧
      (∀ W W', Lk w.heap.size W W' → Dt W → Dt W') ∧ (∀ i W W', Lk w.heap.size W W' → I i W → I i W') ∧ Dt w ∧ I 0 w ∧
      (∀ (i : Nat) (W : World) (x : List Value), items[i]? = some x → wc P a (fun e ρ' w' => e = .normal ∧ ρ' = asg x ∧ w' = W) (bindPs ps.toList x (up ρ 1000000 (mkv []))) W) ∧
      (∀ (i : Nat) (W : World) (x : List Value), items[i]? = some x → w.heap.size ≤ W.heap.size → I i W → Dt W → wc P b (rndQ w.heap.size W (fun w' => I (i + 1) w' ∧ Dt w' ∧ Kt T W w')) (asg x) W) ∧
      (∀ W, I items.length W → W.heap[w.heap.size]? = some (.deferred (some [])) → Q .normal (up ρ 1000000 (mkv (w.heap.size :: M))) W)) : wc P (.rangeFunc g ps a b) Q ρ w := .inl h
theorem wc_rangeFuncX {Q : Exit → Env → World → Prop} {g : Operand} {ps : Array Tmp} {a b : Code} (h : ∃ (α : Type) (E : α → List Value → World → Prop) (f : FuncId) (lb : List Value) (items : List α) (T : List TypeId) (Dt : World → Prop) (I : Nat → World → Prop) (Ix : Exit → Nat → World → Prop) (asg : List Value → Env) (M : List Nat),
      ρ 1000000 = mkv M ∧ ev ρ g = .func (.func f) #[] lb.toArray ∧ (∀ args w, (callFunc f args).run P w = .ok (.enter f args) w) ∧ IterX P f lb items E T Dt ∧ (∀ x xs w, E x xs w → xs.length = ps.size) ∧
      (∀ W W', Lk w.heap.size W W' → Dt W → Dt W') ∧ (∀ i W W', Lk w.heap.size W W' → I i W → I i W') ∧ (∀ e i W W', Lk w.heap.size W W' → Ix e i W → Ix e i W') ∧ (∀ x xs W W', Lk w.heap.size W W' → E x xs W → E x xs W') ∧ Dt w ∧ I 0 w ∧
      (∀ (i : Nat) (W : World) (x : α) (xs : List Value), items[i]? = some x → E x xs W → wc P a (fun e ρ' w' => e = .normal ∧ ρ' = asg xs ∧ w' = W) (bindPs ps.toList xs (up ρ 1000000 (mkv []))) W) ∧
      (∀ (i : Nat) (W : World) (x : α) (xs : List Value), items[i]? = some x → E x xs W → w.heap.size ≤ W.heap.size → I i W → Dt W → wc P b (rndX w.heap.size W (fun w' => I (i + 1) w' ∧ Dt w' ∧ ∀ t, t ∈ T → Kt t W w') (fun e w' => Ix e i w' ∧ ∀ t, t ∈ T → Kt t W w')) (asg xs) W) ∧
      (∀ W, I items.length W → W.heap[w.heap.size]? = some (.deferred (some [])) → Q .normal (up ρ 1000000 (mkv (w.heap.size :: M))) W) ∧
      (∀ e i W, Ix e i W → (e = .ret ∨ ∃ j, e = .exit j) → W.heap[w.heap.size]? = some (.deferred (some [])) → Q e (up ρ 1000000 (mkv (w.heap.size :: M))) W)) : wc P (.rangeFunc g ps a b) Q ρ w := .inr h
theorem noG_normal {Q : Exit → Env → World → Prop} (h : Q .normal ρ w) : noG Q .normal ρ w := h
theorem noG_ret {Q : Exit → Env → World → Prop} (h : Q .ret ρ w) : noG Q .ret ρ w := h
theorem noG_exit {Q : Exit → Env → World → Prop} {i : Nat} (h : Q (.exit i) ρ w) : noG Q (.exit i) ρ w := h
theorem wlR_nil {ops : Array Oper} (h : K ρ w) : wlR P ops [] K ρ w := h
theorem wlR_plain {ops : Array Oper} {x : Op} {dd : Option Nat} {r : List Oper} (h : w1 P false ⟨dd, x, ty, pos, aft, none⟩ (wlR P ops r K) ρ w) :
    wlR P ops (⟨dd, x, ty, pos, aft, none⟩ :: r) K ρ w := .inl h
theorem wlR_run {ops : Array Oper} {x : Op} {dd : Option Nat} {r : List Oper} {j t : Nat} {b : Bool} (ht : (ops[j]?).bind (·.dst) = some t) (hb : ρ t = .bool b)
    (h : w1 P false ⟨dd, x, ty, pos, aft, some (j, b)⟩ (wlR P ops r K) ρ w) : wlR P ops (⟨dd, x, ty, pos, aft, some (j, b)⟩ :: r) K ρ w :=
  .inl ⟨t, b, ht, hb, fun _ => by rw [up_id _ _ _ hb]; exact .inl h, fun e => by cases b <;> cases e⟩
/-- A call of yield. -/
theorem wlR_yield {ops : Array Oper} {dd g : Nat} {xs : List Operand} {ts : Array TypeId} {r : List Oper} {j t : Nat} {b : Bool} {l : Nat} {R : World → Prop} (ht : (ops[j]?).bind (·.dst) = some t) (hb : ρ t = .bool b)
    (hg : ev ρ (.tmp g) = .func (.yield l) #[] #[]) (hy : YieldAt Fence.wide 0 P l (xs.map (ev ρ)).toArray w (fun e w' => e = .returned (.bool true) ∧ R w'))
    (h : ∀ w', R w' → wlR P ops r K (up ρ dd (.bool true)) w') : wlR P ops (⟨some dd, .call ⟨.value (.tmp g), xs.toArray, ts⟩, ty, pos, aft, some (j, b)⟩ :: r) K ρ w := by
  refine .inl ⟨t, b, ht, hb, fun _ => ?_, fun e => by cases b <;> cases e⟩
  rw [up_id _ _ _ hb]
  obtain ⟨fn, tmps, assign, body, hy, hR⟩ := hy
  refine .inr ⟨l, fn, tmps, assign, body, ?_, hR.mono ?_⟩
  · simp [execOp, resolve, Deferred.ofValue, invoke, hg, hy]
  · rintro e w' ⟨rfl, hw⟩
    exact ⟨_, rfl, h w' hw⟩
/-- A call of yield that may answer either way. -/
theorem wlR_yieldX {ops : Array Oper} {dd g : Nat} {xs : List Operand} {ts : Array TypeId} {r : List Oper} {l : Nat} {R1 R2 : World → Prop}
    (hg : ev ρ (.tmp g) = .func (.yield l) #[] #[]) (hy : YieldAt Fence.wide 0 P l (xs.map (ev ρ)).toArray w (fun e w' => (e = .returned (.bool true) ∧ R1 w') ∨ (e = .returned (.bool false) ∧ R2 w')))
    (h : ∀ w', R1 w' → wlR P ops r K (up ρ dd (.bool true)) w') (h2 : ∀ w', R2 w' → wlR P ops r K (up ρ dd (.bool false)) w') : wlR P ops (⟨some dd, .call ⟨.value (.tmp g), xs.toArray, ts⟩, ty, pos, aft, none⟩ :: r) K ρ w := by
  obtain ⟨fn, tmps, assign, body, hy, hR⟩ := hy
  refine .inr ⟨l, fn, tmps, assign, body, ?_, hR.mono ?_⟩
  · simp [execOp, resolve, Deferred.ofValue, invoke, hg, hy]
  · rintro e w' (⟨rfl, hw⟩ | ⟨rfl, hw⟩)
    · exact ⟨_, rfl, h w' hw⟩
    · exact ⟨_, rfl, h2 w' hw⟩
theorem wlR_pass {ops : Array Oper} {x : Op} {dd : Option Nat} {r : List Oper} {j t : Nat} {b b' : Bool} (ht : (ops[j]?).bind (·.dst) = some t) (hb : ρ t = .bool b') (hn : b' = !b)
    (h : wlR P ops r K (upo ρ dd undef) w) : wlR P ops (⟨dd, x, ty, pos, aft, some (j, b)⟩ :: r) K ρ w :=
  .inl ⟨t, b', ht, hb, fun e => (by subst e; cases b' <;> cases hn), fun e => (by rw [e] at hb; rw [up_id _ _ _ hb]; exact h)⟩
theorem wlR_dead {ops : Array Oper} {x : Op} {dd : Option Nat} {r : List Oper} {j t : Nat} {b : Bool} (ht : (ops[j]?).bind (·.dst) = some t) (hb : ρ t = undef)
    (h : wlR P ops r K (upo ρ dd undef) w) : wlR P ops (⟨dd, x, ty, pos, aft, some (j, b)⟩ :: r) K ρ w := .inr ⟨t, ht, hb, h⟩
theorem wc_drawn {Q : Exit → Env → World → Prop} {id : Nat} {l : List Oper} (n : Nat) (hm : P.follows .mixedOrders = true) (hB : Region.lexTailB .any l.toArray n = true)
    (h : wl P true l.toArray (l.take n) (fun ρ' w' => wl P false l.toArray (l.drop n) (Q .normal) ρ' w') ρ w.drew) : wc P (.region id l.toArray true) Q ρ w := ⟨hm, .inl ⟨n, hB, h⟩⟩
theorem wc_held {Q : Exit → Env → World → Prop} {id : Nat} {ops : Array Oper} (S : World → Prop) (plan : List (Nat × Bool)) (hm : P.follows .mixedOrders = true)
    (hp : (Region.noSelect ops && planOk ops plan (Array.replicate ops.size false) && Nat.ble plan.length ops.size) = true) (hS : S w.drew) (h : wh P ops S plan (Q .normal) ρ w.drew) : wc P (.region id ops true) Q ρ w := by
  simp only [Bool.and_eq_true] at hp
  exact ⟨hm, .inr (.inl ⟨S, PB.ofList plan, hp.1.1, by rw [planOkB_ofList]; exact hp.1.2, by rw [PB.ofList_len]; exact Nat.le_of_ble_eq_true hp.2, hS, whB_ofList plan _ _ h⟩)⟩
theorem wc_heldB {Q : Exit → Env → World → Prop} {id : Nat} {ops : Array Oper} (S : World → Prop) (plan : PB) (hm : P.follows .mixedOrders = true)
    (hp : (Region.noSelect ops && planOkB ops plan (Array.replicate ops.size false) && Nat.ble plan.len ops.size) = true) (hS : S w.drew) (h : whB P ops S plan (Q .normal) ρ w.drew) : wc P (.region id ops true) Q ρ w := by
  simp only [Bool.and_eq_true] at hp
  exact ⟨hm, .inr (.inl ⟨S, plan, hp.1.1, hp.1.2, Nat.le_of_ble_eq_true hp.2, hS, h⟩)⟩
theorem wc_heldP {Q : Exit → Env → World → Prop} {id : Nat} {ops : Array Oper} (S : World → Prop) (plan : PB) (X : List PanicEntry → World → Prop) (hm : P.follows .mixedOrders = true)
    (hp : (Region.noSelect ops && planOkB ops plan (Array.replicate ops.size false) && Nat.ble plan.len ops.size) = true) (hS : S w.drew) (hX : ∀ ch ρ' w', sameBut ops ρ ρ' → X ch w' → Q (.panic ch) ρ' w') (h : whP P ops S X plan (Q .normal) ρ w.drew) : wc P (.region id ops true) Q ρ w := by
  simp only [Bool.and_eq_true] at hp
  exact ⟨hm, .inr (.inr ⟨S, plan, X, hp.1.1, hp.1.2, Nat.le_of_ble_eq_true hp.2, hS, hX, h⟩)⟩
theorem whP_done {ops : Array Oper} {S : World → Prop} {X : List PanicEntry → World → Prop} (h : K ρ w) : whP P ops S X .done K ρ w := h
theorem whP_take {ops : Array Oper} {S : World → Prop} {X : List PanicEntry → World → Prop} {i : Nat} {r : PB} {o : Oper} {v : Value} (ho : ops[i]? = some o) (hg : o.guard = none) (hy : ∀ w', S w' → (execOp (ev ρ) o).run P w' = .ok (.value v) w')
    (h : whP P ops S X r K (upo ρ o.dst v) w) : whP P ops S X (.take i r) K ρ w := ⟨o, v, ho, .of_none hg, hy, h⟩
theorem whP_one {ops : Array Oper} {S : World → Prop} {X : List PanicEntry → World → Prop} {i : Nat} {r : PB} {o : Oper} (ho : ops[i]? = some o) (hg : o.guard = none)
    (h : w1 P false o (fun ρ' w' => S w' ∧ whP P ops S X r K ρ' w') ρ w) : whP P ops S X (.one i r) K ρ w := ⟨o, ho, .of_none hg, .inl h⟩
theorem whP_may {ops : Array Oper} {S : World → Prop} {X : List PanicEntry → World → Prop} {i : Nat} {r : PB} {o : Oper} (ho : ops[i]? = some o) (hg : o.guard = none)
    (h : w1P P o (fun ρ' w' => S w' ∧ whP P ops S X r K ρ' w') (fun ch _ => X ch) ρ w) : whP P ops S X (.one i r) K ρ w := ⟨o, ho, .of_none hg, .inr h⟩
theorem thenQ_panic {next : Env → World → Prop} {Q : Exit → Env → World → Prop} {ch : List PanicEntry} (h : Q (.panic ch) ρ w) : thenQ next Q (.panic ch) ρ w := h
theorem inBl_panic {Q : Exit → Env → World → Prop} {id : Nat} {ch : List PanicEntry} (h : Q (.panic ch) ρ w) : inBl id Q (.panic ch) ρ w := h
theorem noG_panic {Q : Exit → Env → World → Prop} {ch : List PanicEntry} (h : Q (.panic ch) ρ w) : noG Q (.panic ch) ρ w := h
theorem whB_done {ops : Array Oper} {S : World → Prop} (h : K ρ w) : whB P ops S .done K ρ w := h
theorem whB_take {ops : Array Oper} {S : World → Prop} {i : Nat} {r : PB} {o : Oper} {v : Value} (ho : ops[i]? = some o) (hg : o.guard = none) (hy : ∀ w', S w' → (execOp (ev ρ) o).run P w' = .ok (.value v) w')
    (h : whB P ops S r K (upo ρ o.dst v) w) : whB P ops S (.take i r) K ρ w := ⟨o, v, ho, .inl ⟨.of_none hg, hy⟩, h⟩
theorem whB_one {ops : Array Oper} {S : World → Prop} {i : Nat} {r : PB} {o : Oper} (ho : ops[i]? = some o) (hg : o.guard = none)
    (h : w1 P false o (fun ρ' w' => S w' ∧ whB P ops S r K ρ' w') ρ w) : whB P ops S (.one i r) K ρ w := ⟨o, ho, .of_none hg, h⟩
theorem whB_two {ops : Array Oper} {S : World → Prop} {i j : Nat} {r s : PB} {o o2 : Oper} (ho : ops[i]? = some o) (hg : o.guard = none) (ho2 : ops[j]? = some o2) (hg2 : o2.guard = none)
    (h : w1 P false o (fun ρ' w' => S w' ∧ whB P ops S r K ρ' w') ρ w) (h2 : w1 P false o2 (fun ρ' w' => S w' ∧ whB P ops S s K ρ' w') ρ w) : whB P ops S (.two i r j s) K ρ w := ⟨⟨o, ho, .of_none hg, h⟩, ⟨o2, ho2, .of_none hg2, h2⟩⟩
theorem whB_three {ops : Array Oper} {S : World → Prop} {i j k : Nat} {r s q : PB} {o o2 o3 : Oper} (ho : ops[i]? = some o) (hg : o.guard = none) (ho2 : ops[j]? = some o2) (hg2 : o2.guard = none) (ho3 : ops[k]? = some o3) (hg3 : o3.guard = none)
    (h : w1 P false o (fun ρ' w' => S w' ∧ whB P ops S r K ρ' w') ρ w) (h2 : w1 P false o2 (fun ρ' w' => S w' ∧ whB P ops S s K ρ' w') ρ w) (h3 : w1 P false o3 (fun ρ' w' => S w' ∧ whB P ops S q K ρ' w') ρ w) : whB P ops S (.three i r j s k q) K ρ w :=
  ⟨⟨o, ho, .of_none hg, h⟩, ⟨o2, ho2, .of_none hg2, h2⟩, ⟨o3, ho3, .of_none hg3, h3⟩⟩
theorem whB_takeG {ops : Array Oper} {S : World → Prop} {i j t : Nat} {b : Bool} {r : PB} {o : Oper} {v : Value} (ho : ops[i]? = some o) (hg : o.guard = some (j, b)) (hj : (ops[j]?).bind (·.dst) = some t) (ht : ρ t = .bool b) (hy : ∀ w', S w' → (execOp (ev ρ) o).run P w' = .ok (.value v) w')
    (h : whB P ops S r K (upo ρ o.dst v) w) : whB P ops S (.take i r) K ρ w := ⟨o, v, ho, .inl ⟨.of_some hg hj ht, hy⟩, h⟩
theorem whB_dead {ops : Array Oper} {S : World → Prop} {i j t : Nat} {b b' : Bool} {r : PB} {o : Oper} (ho : ops[i]? = some o) (hg : o.guard = some (j, b)) (hj : (ops[j]?).bind (·.dst) = some t) (ht : ρ t = .bool b') (hn : b' = !b)
    (h : whB P ops S r K (upo ρ o.dst undef) w) : whB P ops S (.take i r) K ρ w := ⟨o, undef, ho, .inr ⟨⟨j, b, t, hg, hj, by rw [ht, hn]⟩, rfl⟩, h⟩
theorem whB_oneG {ops : Array Oper} {S : World → Prop} {i j t : Nat} {b : Bool} {r : PB} {o : Oper} (ho : ops[i]? = some o) (hg : o.guard = some (j, b)) (hj : (ops[j]?).bind (·.dst) = some t) (ht : ρ t = .bool b)
    (h : w1 P false o (fun ρ' w' => S w' ∧ whB P ops S r K ρ' w') ρ w) : whB P ops S (.one i r) K ρ w := ⟨o, ho, .of_some hg hj ht, h⟩
theorem wh_nil {ops : Array Oper} {S : World → Prop} (h : K ρ w) : wh P ops S [] K ρ w := h
theorem wh_take {ops : Array Oper} {S : World → Prop} {i : Nat} {r : List (Nat × Bool)} {o : Oper} {v : Value} (ho : ops[i]? = some o) (hg : o.guard = none) (hy : ∀ w', S w' → (execOp (ev ρ) o).run P w' = .ok (.value v) w')
    (h : wh P ops S r K (upo ρ o.dst v) w) : wh P ops S ((i, true) :: r) K ρ w := ⟨o, v, ho, hg, hy, h⟩
theorem wh_exec {ops : Array Oper} {S : World → Prop} {i : Nat} {r : List (Nat × Bool)} {o : Oper} (ho : ops[i]? = some o) (hg : o.guard = none)
    (h : w1 P false o (fun ρ' w' => S w' ∧ wh P ops S r K ρ' w') ρ w) : wh P ops S ((i, false) :: r) K ρ w := ⟨o, ho, hg, h⟩
theorem wc_cond_t {Q : Exit → Env → World → Prop} {c : Operand} {a b : Code} (hc : ev ρ c = .bool true) (h : wc P a Q ρ w) : wc P (.cond c a b) Q ρ w :=
  ⟨true, hc, fun _ => h, fun e => by cases e⟩
theorem wc_cond_f {Q : Exit → Env → World → Prop} {c : Operand} {a b : Code} (hc : ev ρ c = .bool false) (h : wc P b Q ρ w) : wc P (.cond c a b) Q ρ w :=
  ⟨false, hc, fun e => (by cases e), fun _ => h⟩
theorem wc_cond_d {Q : Exit → Env → World → Prop} {c : Operand} {a b : Code} {p : Prop} [Decidable p] (hc : ev ρ c = .bool (decide p)) (h1 : p → wc P a Q ρ w) (h2 : ¬p → wc P b Q ρ w) :
    wc P (.cond c a b) Q ρ w := ⟨decide p, hc, fun e => h1 (by simpa using e), fun e => h2 (by simpa using e)⟩
theorem wc_cond_b {Q : Exit → Env → World → Prop} {c : Operand} {a b : Code} {t : Bool} (hc : ev ρ c = .bool t) (h1 : t = true → wc P a Q ρ w) (h2 : t = false → wc P b Q ρ w) :
    wc P (.cond c a b) Q ρ w := ⟨t, hc, h1, h2⟩
theorem thenQ_normal {next : Env → World → Prop} {Q : Exit → Env → World → Prop} (h : next ρ w) : thenQ next Q .normal ρ w := h
theorem thenQ_ret {next : Env → World → Prop} {Q : Exit → Env → World → Prop} (h : Q .ret ρ w) : thenQ next Q .ret ρ w := h
theorem thenQ_exit {next : Env → World → Prop} {Q : Exit → Env → World → Prop} {i : Nat} (h : Q (.exit i) ρ w) : thenQ next Q (.exit i) ρ w := h
theorem inBl_normal {Q : Exit → Env → World → Prop} {id : Nat} (h : Q .normal ρ w) : inBl id Q .normal ρ w := h
theorem inBl_ret {Q : Exit → Env → World → Prop} {id : Nat} (h : Q .ret ρ w) : inBl id Q .ret ρ w := h
theorem inBl_here {Q : Exit → Env → World → Prop} {id : Nat} (h : Q .normal ρ w) : inBl id Q (.exit id) ρ w := ⟨fun _ => h, fun e => absurd rfl e⟩
theorem inBl_out {Q : Exit → Env → World → Prop} {id i : Nat} (hb : Nat.beq i id = false) (h : Q (.exit i) ρ w) : inBl id Q (.exit i) ρ w :=
  ⟨fun e => (by subst e; simp at hb), fun _ => h⟩

theorem r_move {x : Operand} (h : K (up ρ d (ev ρ x)) w) : w1 P st ⟨some d, .move x, ty, pos, aft, gd⟩ K ρ w := w1_val rfl h
theorem r_assign {x : Operand} (h : K (up ρ d (ev ρ x)) w) : w1 P st ⟨some d, .assign x, ty, pos, aft, gd⟩ K ρ w := w1_val rfl h
theorem r_move_v {x : Operand} {v : Value} (hx : ev ρ x = v) (h : K (up ρ d v) w) : w1 P st ⟨some d, .move x, ty, pos, aft, gd⟩ K ρ w := w1_val rfl (by rw [← hx] at h; exact h)
theorem r_assign_v {x : Operand} {v : Value} (hx : ev ρ x = v) (h : K (up ρ d v) w) : w1 P st ⟨some d, .assign x, ty, pos, aft, gd⟩ K ρ w := w1_val rfl (by rw [← hx] at h; exact h)
theorem r_pick_t {c a b : Operand} (hc : ev ρ c = .bool true) (h : K (up ρ d (ev ρ a)) w) : w1 P st ⟨some d, .pick c a b, ty, pos, aft, gd⟩ K ρ w :=
  w1_val (v := ev ρ a) (by simp [execOp, hc, asBool]) h
theorem r_pick_f {c a b : Operand} (hc : ev ρ c = .bool false) (h : K (up ρ d (ev ρ b)) w) : w1 P st ⟨some d, .pick c a b, ty, pos, aft, gd⟩ K ρ w :=
  w1_val (v := ev ρ b) (by simp [execOp, hc, asBool]) h
theorem r_pick {c a b : Operand} {t x y : Bool} (hc : ev ρ c = .bool t) (ha : ev ρ a = .bool x) (hb : ev ρ b = .bool y) (h : K (up ρ d (.bool (bif t then x else y))) w) :
    w1 P st ⟨some d, .pick c a b, ty, pos, aft, gd⟩ K ρ w := by
  cases t
  · exact r_pick_f hc (by rw [hb]; exact h)
  · exact r_pick_t hc (by rw [ha]; exact h)

theorem wrap_in {n : Int} (h0 : -9223372036854775808 ≤ n) (h1 : n ≤ 9223372036854775807) : IntKind.i64.wrap n = n := IntWalk.i64_in n ⟨h0, h1⟩

variable {x y : Operand} {a b : Int} {k : IntKind}
theorem r_add_in {t t2 : TypeId} (hx : ev ρ x = .int .i64 a) (hy : ev ρ y = .int .i64 b) (hc : -9223372036854775808 ≤ a + b ∧ a + b ≤ 9223372036854775807) (h : K (up ρ d (.int .i64 (a + b))) w) :
    w1 P st ⟨some d, .binOp .add t x y t2, ty, pos, aft, gd⟩ K ρ w :=
  w1_val (v := .int .i64 (a + b)) (by simp [execOp, hx, hy, eqGuard, binOp, Op.intArith, wrap_in hc.1 hc.2]) h
theorem r_sub_in {t t2 : TypeId} (hx : ev ρ x = .int .i64 a) (hy : ev ρ y = .int .i64 b) (hc : -9223372036854775808 ≤ a - b ∧ a - b ≤ 9223372036854775807) (h : K (up ρ d (.int .i64 (a - b))) w) :
    w1 P st ⟨some d, .binOp .sub t x y t2, ty, pos, aft, gd⟩ K ρ w :=
  w1_val (v := .int .i64 (a - b)) (by simp [execOp, hx, hy, eqGuard, binOp, Op.intArith, wrap_in hc.1 hc.2]) h
theorem r_mul_in {t t2 : TypeId} (hx : ev ρ x = .int .i64 a) (hy : ev ρ y = .int .i64 b) (hc : -9223372036854775808 ≤ a * b ∧ a * b ≤ 9223372036854775807) (h : K (up ρ d (.int .i64 (a * b))) w) :
    w1 P st ⟨some d, .binOp .mul t x y t2, ty, pos, aft, gd⟩ K ρ w :=
  w1_val (v := .int .i64 (a * b)) (by simp [execOp, hx, hy, eqGuard, binOp, Op.intArith, wrap_in hc.1 hc.2]) h
theorem r_add {t t2 : TypeId} (hx : ev ρ x = .int k a) (hy : ev ρ y = .int k b) (h : K (up ρ d (.int k (k.wrap (a + b)))) w) :
    w1 P st ⟨some d, .binOp .add t x y t2, ty, pos, aft, gd⟩ K ρ w :=
  w1_val (v := .int k (k.wrap (a + b))) (by simp [execOp, hx, hy, eqGuard, binOp, Op.intArith]) h
theorem r_sub {t t2 : TypeId} (hx : ev ρ x = .int k a) (hy : ev ρ y = .int k b) (h : K (up ρ d (.int k (k.wrap (a - b)))) w) :
    w1 P st ⟨some d, .binOp .sub t x y t2, ty, pos, aft, gd⟩ K ρ w :=
  w1_val (v := .int k (k.wrap (a - b))) (by simp [execOp, hx, hy, eqGuard, binOp, Op.intArith]) h
theorem r_mul {t t2 : TypeId} (hx : ev ρ x = .int k a) (hy : ev ρ y = .int k b) (h : K (up ρ d (.int k (k.wrap (a * b)))) w) :
    w1 P st ⟨some d, .binOp .mul t x y t2, ty, pos, aft, gd⟩ K ρ w :=
  w1_val (v := .int k (k.wrap (a * b))) (by simp [execOp, hx, hy, eqGuard, binOp, Op.intArith]) h
theorem r_rem {t t2 : TypeId} (hx : ev ρ x = .int k a) (hy : ev ρ y = .int k b) (hb : b ≠ 0) (h : K (up ρ d (.int k (a.tmod b))) w) :
    w1 P st ⟨some d, .binOp .rem t x y t2, ty, pos, aft, gd⟩ K ρ w :=
  w1_val (v := .int k (a.tmod b)) (by simp [execOp, hx, hy, eqGuard, binOp, Op.intDiv, hb]) h
theorem r_quo {t t2 : TypeId} (hx : ev ρ x = .int k a) (hy : ev ρ y = .int k b) (hb : b ≠ 0) (h : K (up ρ d (.int k (k.wrap (a.tdiv b)))) w) :
    w1 P st ⟨some d, .binOp .quo t x y t2, ty, pos, aft, gd⟩ K ρ w :=
  w1_val (v := .int k (k.wrap (a.tdiv b))) (by simp [execOp, hx, hy, eqGuard, binOp, Op.intDiv, hb]) h
theorem r_rem_in {t t2 : TypeId} (hx : ev ρ x = .int k a) (hy : ev ρ y = .int k b) (ha : 0 ≤ a) (hb : 0 < b) (h : K (up ρ d (.int k (a % b))) w) :
    w1 P st ⟨some d, .binOp .rem t x y t2, ty, pos, aft, gd⟩ K ρ w :=
  r_rem hx hy (by omega) (by rw [Int.tmod_eq_emod_of_nonneg ha]; exact h)
theorem r_quo_in {t t2 : TypeId} (hx : ev ρ x = .int .i64 a) (hy : ev ρ y = .int .i64 b) (ha : 0 ≤ a ∧ a ≤ 9223372036854775807) (hb : 0 < b) (h : K (up ρ d (.int .i64 (a / b))) w) :
    w1 P st ⟨some d, .binOp .quo t x y t2, ty, pos, aft, gd⟩ K ρ w :=
  r_quo hx hy (by omega) (by
    rw [Int.tdiv_eq_ediv_of_nonneg ha.1, wrap_in]
    · exact h
    · have := Int.ediv_nonneg ha.1 (Int.le_of_lt hb); omega
    · have := Int.ediv_le_self b ha.1; omega)
theorem r_eql {t t2 : TypeId} (hx : ev ρ x = .int k a) (hy : ev ρ y = .int k b) (h : K (up ρ d (.bool (decide (a = b)))) w) :
    w1 P st ⟨some d, .binOp .eql t x y t2, ty, pos, aft, gd⟩ K ρ w :=
  w1_val (v := .bool (decide (a = b))) (by simp [execOp, hx, hy, eqGuard, binOp, Op.intCmp]; rfl) h
theorem r_neq {t t2 : TypeId} (hx : ev ρ x = .int k a) (hy : ev ρ y = .int k b) (h : K (up ρ d (.bool (decide (a ≠ b)))) w) :
    w1 P st ⟨some d, .binOp .neq t x y t2, ty, pos, aft, gd⟩ K ρ w :=
  w1_val (v := .bool (decide (a ≠ b))) (by
    have : (a != b) = decide (a ≠ b) := by by_cases h : a = b <;> simp [h]
    simp [execOp, hx, hy, eqGuard, binOp, Op.intCmp, this]) h
theorem r_lss {t t2 : TypeId} (hx : ev ρ x = .int k a) (hy : ev ρ y = .int k b) (h : K (up ρ d (.bool (decide (a < b)))) w) :
    w1 P st ⟨some d, .binOp .lss t x y t2, ty, pos, aft, gd⟩ K ρ w :=
  w1_val (v := .bool (decide (a < b))) (by simp [execOp, hx, hy, eqGuard, binOp, Op.intCmp]) h
theorem r_leq {t t2 : TypeId} (hx : ev ρ x = .int k a) (hy : ev ρ y = .int k b) (h : K (up ρ d (.bool (decide (a ≤ b)))) w) :
    w1 P st ⟨some d, .binOp .leq t x y t2, ty, pos, aft, gd⟩ K ρ w :=
  w1_val (v := .bool (decide (a ≤ b))) (by simp [execOp, hx, hy, eqGuard, binOp, Op.intCmp]) h
theorem r_gtr {t t2 : TypeId} (hx : ev ρ x = .int k a) (hy : ev ρ y = .int k b) (h : K (up ρ d (.bool (decide (b < a)))) w) :
    w1 P st ⟨some d, .binOp .gtr t x y t2, ty, pos, aft, gd⟩ K ρ w :=
  w1_val (v := .bool (decide (b < a))) (by simp [execOp, hx, hy, eqGuard, binOp, Op.intCmp]) h
theorem r_geq {t t2 : TypeId} (hx : ev ρ x = .int k a) (hy : ev ρ y = .int k b) (h : K (up ρ d (.bool (decide (b ≤ a)))) w) :
    w1 P st ⟨some d, .binOp .geq t x y t2, ty, pos, aft, gd⟩ K ρ w :=
  w1_val (v := .bool (decide (b ≤ a))) (by simp [execOp, hx, hy, eqGuard, binOp, Op.intCmp]) h
theorem r_bits {t t2 : TypeId} {op : BinOp} {v : Value} (hx : ev ρ x = .int k a) (hy : ev ρ y = .int k b) (ho : op = .and ∨ op = .or ∨ op = .xor ∨ op = .andNot) (hv : (Op.intBits op k a b).run P w = .ok v w)
    (h : K (up ρ d v) w) : w1 P st ⟨some d, .binOp op t x y t2, ty, pos, aft, gd⟩ K ρ w := by
  refine w1_val (v := v) ?_ h
  rcases ho with rfl | rfl | rfl | rfl <;> simp [execOp, hx, hy, eqGuard, binOp, hv]
theorem ofInt_nat (n : Nat) : BitVec.ofInt 64 (n : Int) = BitVec.ofNat 64 n := by simp
theorem wrap_nat {n : Nat} (h : n < 2 ^ 63) : IntKind.i64.wrap (n : Int) = n := wrap_in (by omega) (by omega)
theorem r_and {t t2 : TypeId} {m n : Nat} (hx : ev ρ x = .int .i64 (m : Int)) (hy : ev ρ y = .int .i64 (n : Int)) (hm : m < 2 ^ 63) (hn : n < 2 ^ 63) (h : K (up ρ d (.int .i64 ((m &&& n : Nat) : Int))) w) :
    w1 P st ⟨some d, .binOp .and t x y t2, ty, pos, aft, gd⟩ K ρ w := by
  refine r_bits hx hy (.inl rfl) ?_ h
  have hle : m &&& n ≤ m := Nat.and_le_left
  have e : (BitVec.ofInt 64 (m : Int) &&& BitVec.ofInt 64 (n : Int)).toNat = m &&& n := by
    rw [ofInt_nat, ofInt_nat, BitVec.toNat_and, BitVec.toNat_ofNat, BitVec.toNat_ofNat, Nat.mod_eq_of_lt (by omega), Nat.mod_eq_of_lt (by omega)]
  show (Sem.pure (Value.int .i64 (IntKind.i64.wrap ((BitVec.ofInt 64 (m : Int) &&& BitVec.ofInt 64 (n : Int)).toNat : Int)))).run P w = _
  rw [e, wrap_nat (by omega)]
  rfl
theorem or_lt63 {m n : Nat} (hm : m < 2 ^ 63) (hn : n < 2 ^ 63) : m ||| n < 2 ^ 63 := Nat.or_lt_two_pow hm hn
theorem r_or {t t2 : TypeId} {m n : Nat} (hx : ev ρ x = .int .i64 (m : Int)) (hy : ev ρ y = .int .i64 (n : Int)) (hm : m < 2 ^ 63) (hn : n < 2 ^ 63) (h : K (up ρ d (.int .i64 ((m ||| n : Nat) : Int))) w) :
    w1 P st ⟨some d, .binOp .or t x y t2, ty, pos, aft, gd⟩ K ρ w := by
  refine r_bits hx hy (.inr (.inl rfl)) ?_ h
  have hle := or_lt63 hm hn
  have e : (BitVec.ofInt 64 (m : Int) ||| BitVec.ofInt 64 (n : Int)).toNat = m ||| n := by
    rw [ofInt_nat, ofInt_nat, BitVec.toNat_or, BitVec.toNat_ofNat, BitVec.toNat_ofNat, Nat.mod_eq_of_lt (by omega), Nat.mod_eq_of_lt (by omega)]
  show (Sem.pure (Value.int .i64 (IntKind.i64.wrap ((BitVec.ofInt 64 (m : Int) ||| BitVec.ofInt 64 (n : Int)).toNat : Int)))).run P w = _
  rw [e, wrap_nat hle]
  rfl
theorem r_shl {t t2 : TypeId} {m n : Nat} (hx : ev ρ x = .int .i64 (m : Int)) (hy : ev ρ y = .int .i64 (n : Int)) (hn : n < 64) (hm : m <<< n < 2 ^ 63) (h : K (up ρ d (.int .i64 ((m <<< n : Nat) : Int))) w) :
    w1 P st ⟨some d, .binOp .shl t x y t2, ty, pos, aft, gd⟩ K ρ w := by
  refine w1_val (v := .int .i64 ((m <<< n : Nat) : Int)) ?_ h
  have e : (m : Int) * 2 ^ n = ((m <<< n : Nat) : Int) := by rw [Nat.shiftLeft_eq]; push_cast; rfl
  simp [execOp, hx, hy, eqGuard, binOp]
  rw [e, wrap_nat hm]
  simp
theorem r_shr {t t2 : TypeId} {m n : Nat} (hx : ev ρ x = .int .i64 (m : Int)) (hy : ev ρ y = .int .i64 (n : Int)) (hn : n < 64) (h : K (up ρ d (.int .i64 ((m >>> n : Nat) : Int))) w) :
    w1 P st ⟨some d, .binOp .shr t x y t2, ty, pos, aft, gd⟩ K ρ w := by
  refine w1_val (v := .int .i64 ((m >>> n : Nat) : Int)) ?_ h
  have e : (m : Int).fdiv (2 ^ n) = ((m >>> n : Nat) : Int) := by
    rw [Nat.shiftRight_eq_div_pow, Int.fdiv_eq_ediv_of_nonneg _ (by exact Int.le_of_lt (Int.pow_pos (by decide)))]; push_cast; rfl
  simp [execOp, hx, hy, eqGuard, binOp, Int.shiftRight_eq_div_pow]
theorem r_not {t : TypeId} {b : Bool} (hx : ev ρ x = .bool b) (h : K (up ρ d (.bool (!b))) w) : w1 P st ⟨some d, .unOp .not t x, ty, pos, aft, gd⟩ K ρ w :=
  w1_val (v := .bool (!b)) (by simp [execOp, hx, Op.unary]) h
theorem r_not_d {t : TypeId} {p : Prop} [Decidable p] (hx : ev ρ x = .bool (decide p)) (h : K (up ρ d (.bool (decide ¬p))) w) : w1 P st ⟨some d, .unOp .not t x, ty, pos, aft, gd⟩ K ρ w :=
  r_not hx (by rw [← decide_not]; exact h)
theorem r_neg {t : TypeId} (hx : ev ρ x = .int .i64 a) (hc : -9223372036854775808 ≤ -a ∧ -a ≤ 9223372036854775807) (h : K (up ρ d (.int .i64 (-a))) w) : w1 P st ⟨some d, .unOp .neg t x, ty, pos, aft, gd⟩ K ρ w :=
  w1_val (v := .int .i64 (-a)) (by simp [execOp, hx, Op.unary, Op.intArith, wrap_in hc.1 hc.2]) h
def intK (P : Program) (t : TypeId) : Option IntKind := match P.underlying t with | some (.int k) => some k | _ => none
theorem intK_spec {t : TypeId} {k : IntKind} (h : intK P t = some k) : P.underlying t = some (.int k) := by
  unfold intK at h; split at h <;> simp_all
theorem r_conv {s t : TypeId} {k' : IntKind} (hs : (intK P s).isSome = true) (ht : intK P t = some k') (hx : ev ρ x = .int k a) (h : K (up ρ d (.int k' (k'.wrap a))) w) :
    w1 P st ⟨some d, .convert s t x, ty, pos, aft, gd⟩ K ρ w := by
  obtain ⟨ks, hks⟩ := Option.isSome_iff_exists.1 hs
  have h1 := intK_spec hks
  have h2 := intK_spec ht
  exact w1_val (v := .int k' (k'.wrap a)) (by simp [execOp, hx, convert, run_underlying h1, run_underlying h2, Conv.intToInt]) h
def sliceT (P : Program) (t : TypeId) : Bool := match P.underlying t with | some (.slice _) => true | _ => false
theorem r_len {t : TypeId} {p : Option Addr} {n c : Nat} (ht : sliceT P t = true) (hx : ev ρ x = .slice p n c) (h : K (up ρ d (.int .i64 (n : Int))) w) :
    w1 P st ⟨some d, .call ⟨.builtin .len, #[x], #[t]⟩, ty, pos, aft, gd⟩ K ρ w := by
  unfold sliceT at ht
  split at ht
  · rename_i e he
    exact w1_val (v := .int .i64 (n : Int)) (by simp [execOp, resolve, invoke, builtin, Builtin.len_, hx, run_underlying he, goInt]) h
  · cases ht
theorem r_cap {t : TypeId} {p : Option Addr} {n c : Nat} (ht : sliceT P t = true) (hx : ev ρ x = .slice p n c) (h : K (up ρ d (.int .i64 (c : Int))) w) :
    w1 P st ⟨some d, .call ⟨.builtin .cap, #[x], #[t]⟩, ty, pos, aft, gd⟩ K ρ w := by
  unfold sliceT at ht
  split at ht
  · rename_i e he
    exact w1_val (v := .int .i64 (c : Int)) (by simp [execOp, resolve, invoke, builtin, Builtin.cap_, hx, run_underlying he, goInt]) h
  · cases ht
theorem r_min {ts : Array TypeId} {c : Int} (hx : ev ρ x = .int k a) (hy : ev ρ y = .int k b) (hc : (if b < a then b else a) = c) (h : K (up ρ d (.int k c)) w) :
    w1 P st ⟨some d, .call ⟨.builtin .min, #[x, y], ts⟩, ty, pos, aft, gd⟩ K ρ w :=
  w1_val (v := .int k c) (by simp [execOp, resolve, invoke, builtin, Builtin.min_, Builtin.min2, hx, hy, ← hc]) h
theorem r_max {ts : Array TypeId} {c : Int} (hx : ev ρ x = .int k a) (hy : ev ρ y = .int k b) (hc : (if b > a then b else a) = c) (h : K (up ρ d (.int k c)) w) :
    w1 P st ⟨some d, .call ⟨.builtin .max, #[x, y], ts⟩, ty, pos, aft, gd⟩ K ρ w :=
  w1_val (v := .int k c) (by simp [execOp, resolve, invoke, builtin, Builtin.max_, Builtin.max2, hx, hy, ← hc]) h
theorem r_ext {vs : Array Value} {i : Nat} {v : Value} (hx : ev ρ x = .tuple vs) (hv : vs[i]? = some v) (h : K (up ρ d v) w) :
    w1 P st ⟨some d, .extract x i, ty, pos, aft, gd⟩ K ρ w :=
  w1_val (v := v) (by simp [execOp, hx, Instr.extract, hv]) h
theorem r_mkfn {fn : Fn} {as_ bs : List Operand} (h : K (up ρ d (.func fn (as_.map (ev ρ)).toArray (bs.map (ev ρ)).toArray)) w) : w1 P st ⟨some d, .makeFunc fn as_.toArray bs.toArray, ty, pos, aft, gd⟩ K ρ w :=
  w1_val (v := .func fn (as_.map (ev ρ)).toArray (bs.map (ev ρ)).toArray) (by simp [execOp, Instr.makeFunc]) h

/- Addresses in slices. -/
def pidx (p : Option Addr) (i sz : Nat) : Option Addr := p.map fun q => q.add (i * sz)
def rd (w : World) (p : Option Addr) : Option Value := p.bind w.cell?
def sliceSz (P : Program) (t : TypeId) : Option Nat := match P.underlying t with | some (.slice e) => (P.info? e).map (·.size) | _ => none
theorem sliceSz_spec {t : TypeId} {sz : Nat} (h : sliceSz P t = some sz) : ∃ e i, P.underlying t = some (.slice e) ∧ P.info? e = some i ∧ i.size = sz := by
  unfold sliceSz at h
  split at h
  · rename_i e he
    cases hi : P.info? e with
    | none => rw [hi] at h; cases h
    | some i => rw [hi] at h; simp at h; exact ⟨e, i, he, hi, h⟩
  · cases h
theorem r_idx {t : TypeId} {sz : Nat} {p : Option Addr} {n c : Nat} (ht : sliceSz P t = some sz) (hx : ev ρ x = .slice p n c) (hy : ev ρ y = .int k a) (hp : p.isSome = true) (h0 : 0 ≤ a) (h1 : a < n)
    (h : K (up ρ d (.pointer (pidx p a.toNat sz))) w) : w1 P st ⟨some d, .indexAddr t x y, ty, pos, aft, gd⟩ K ρ w := by
  obtain ⟨e, i, he, hi, hs⟩ := sliceSz_spec ht
  obtain ⟨q, rfl⟩ := Option.isSome_iff_exists.1 hp
  refine w1_val (v := .pointer (some (q.add (a.toNat * sz)))) ?_ h
  simp [execOp, Instr.indexAt, hx, hy, asIntOf, run_underlying he, h0, h1, sizeOf, typeInfo, hi, hs]
def cellT (P : Program) (t : TypeId) : Bool := match P.underlying t with | some (.struct _) | some (.array _ _) | none => false | _ => true
theorem cellT_spec {t : TypeId} (h : cellT P t = true) (w : World) : (isAgg t).run P w = .ok false w := by
  unfold cellT at h
  cases hd : P.underlying t with
  | none => rw [hd] at h; cases h
  | some dsc =>
    rw [hd] at h
    cases dsc <;> first | (cases h; done) | simp [isAgg, run_underlying hd]
theorem rd_some {p : Option Addr} {v : Value} (h : rd w p = some v) : ∃ q, p = some q ∧ w.cell? q = some v := by
  cases p with
  | none => cases h
  | some q => exact ⟨q, rfl, h⟩
theorem r_ld {t : TypeId} {p : Option Addr} {v : Value} (ht : cellT P t = true) (hx : ev ρ x = .pointer p) (hp : rd w p = some v) (h : K (up ρ d v) w) :
    w1 P st ⟨some d, .load t x, ty, pos, aft, gd⟩ K ρ w := by
  obtain ⟨q, rfl, hq⟩ := rd_some hp
  exact w1_val (v := v) (by simp [execOp, Instr.loadAt, Instr.sureAddr, hx, loadVar, cellT_spec ht, load, Sem.run, hq]) h
theorem r_nilCheck {p : Addr} (hx : ev ρ x = .pointer (some p)) (h : K (up ρ d (.pointer (some p))) w) : w1 P st ⟨some d, .nilCheck x, ty, pos, aft, gd⟩ K ρ w :=
  w1_val (v := .pointer (some p)) (by simp [execOp, hx]) h

/- Calls. -/
def callable (P : Program) (f : FuncId) : Bool := match P.funcs[f]? with | some fn => !(fn.name == "runtime.NumGoroutine") && fn.body.isSome | none => false
theorem run_callFunc {f : FuncId} {args : Array Value} (hf : callable P f = true) (w : World) : (callFunc f args).run P w = .ok (.enter f args) w := by
  unfold callable at hf
  cases hfn : P.funcs[f]? with
  | none => rw [hfn] at hf; cases hf
  | some fn =>
    rw [hfn] at hf
    simp only [Bool.and_eq_true, Bool.not_eq_true'] at hf
    have hn : fn.name ≠ "runtime.NumGoroutine" := by simpa using hf.1
    have hb : fn.body ≠ none := by intro h; simp [h] at hf
    simp [callFunc, program, Sem.run, hfn, hn, hb]
theorem Ret.mono {f : FuncId} {args : Array Value} {R R' : Value → World → Prop} (h : Calls P f args w (Ret R)) (hr : ∀ v w', R v w' → R' v w') : Calls P f args w (Ret R') :=
  Calls.mono h fun _ _ ⟨v, he, hv⟩ => ⟨v, he, hr _ _ hv⟩
theorem run_call {f : FuncId} {xs : List Operand} {ts : Array TypeId} {dd : Option Nat} (hf : callable P f = true) :
    (execOp (ev ρ) ⟨dd, .call ⟨.value (.func f), xs.toArray, ts⟩, ty, pos, aft, gd⟩).run P w = .ok (.enter f (xs.map (ev ρ)).toArray) w := by
  have := run_callFunc (args := (xs.map (ev ρ)).toArray) hf w
  simpa [execOp, resolve, Deferred.ofValue, invoke, ev] using this
theorem r_call {f : FuncId} {xs : List Operand} {ts : Array TypeId} {R : Value → World → Prop} (hf : callable P f = true) (hc : Calls P f (xs.map (ev ρ)).toArray w (Ret R))
    (h : ∀ v w', R v w' → K (up ρ d v) w') : w1 P false ⟨some d, .call ⟨.value (.func f), xs.toArray, ts⟩, ty, pos, aft, gd⟩ K ρ w := by
  unfold w1
  rw [run_call hf]
  exact ⟨fun e => (by cases e), fun _ => hc.mono fun e w' ⟨v, he, hv⟩ => ⟨v, he, h v w' hv⟩⟩
theorem r_call0 {f : FuncId} {xs : List Operand} {ts : Array TypeId} {R : Value → World → Prop} (hf : callable P f = true) (hc : Calls P f (xs.map (ev ρ)).toArray w (Ret R))
    (h : ∀ v w', R v w' → K ρ w') : w1 P false ⟨none, .call ⟨.value (.func f), xs.toArray, ts⟩, ty, pos, aft, gd⟩ K ρ w := by
  unfold w1
  rw [run_call hf]
  exact ⟨fun e => (by cases e), fun _ => hc.mono fun e w' ⟨v, he, hv⟩ => ⟨v, he, h v w' hv⟩⟩
/-- A call of a function that only computes: in a region that draws its order, too. -/
theorem r_call_q {f : FuncId} {xs : List Operand} {ts : Array TypeId} {v : Value} (hf : callable P f = true) (hc : Calls P f (xs.map (ev ρ)).toArray w (Ret fun v' w' => v' = v ∧ w' = w)) (h : K (up ρ d v) w) :
    w1 P st ⟨some d, .call ⟨.value (.func f), xs.toArray, ts⟩, ty, pos, aft, gd⟩ K ρ w := by
  unfold w1
  rw [run_call hf]
  refine ⟨fun _ => ⟨rfl, v, hc.mono ?_, h⟩, fun _ => hc.mono ?_⟩
  · rintro e w' ⟨v', rfl, rfl, rfl⟩; exact ⟨rfl, rfl⟩
  · rintro e w' ⟨v', rfl, rfl, rfl⟩; exact ⟨v', rfl, h⟩
theorem r_callV {f : FuncId} {cap : List Value} {xs : List Operand} {ts : Array TypeId} {g : Nat} {R : Value → World → Prop} (hg : ev ρ (.tmp g) = .func (.func f) #[] cap.toArray) (hf : callable P f = true)
    (hc : Calls P f (xs.map (ev ρ) ++ cap).toArray w (Ret R)) (h : ∀ v w', R v w' → K (up ρ d v) w') :
    w1 P false ⟨some d, .call ⟨.value (.tmp g), xs.toArray, ts⟩, ty, pos, aft, gd⟩ K ρ w := by
  unfold w1
  have : (execOp (ev ρ) ⟨some d, .call ⟨.value (.tmp g), xs.toArray, ts⟩, ty, pos, aft, gd⟩).run P w = .ok (.enter f (xs.map (ev ρ) ++ cap).toArray) w := by
    have := run_callFunc (args := (xs.map (ev ρ) ++ cap).toArray) hf w
    simpa [execOp, resolve, Deferred.ofValue, invoke, hg] using this
  rw [this]
  exact ⟨fun e => (by cases e), fun _ => hc.mono fun e w' ⟨v, he, hv⟩ => ⟨v, he, h v w' hv⟩⟩
end
attribute [irreducible] wl wlR wlP wc w1 w1R w1P wh whB whP thenQ inBl noG
end Gv
end Go.Proofs.YtocgehoffdjijaaGreat

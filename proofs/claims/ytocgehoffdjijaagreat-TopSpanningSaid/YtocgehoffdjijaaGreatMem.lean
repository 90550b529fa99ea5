/- Memory: what a call leaves alone, slices that are read, rows that are owned; the rules for append, make, stores, boxes. -/
import Derived.Test.YtocgehoffdjijaaGreatCore
namespace Go.Proofs.YtocgehoffdjijaaGreat
namespace Gv
open Go.RowKit

theorem alloc_old (w : World) (o : Obj) (k : Nat) (h : k < w.heap.size) : (w.alloc o).heap[k]? = w.heap[k]? := by
  show (w.heap.push o)[k]? = w.heap[k]?
  rw [Array.getElem?_push, if_neg (Nat.ne_of_lt h)]
theorem alloc_new (w : World) (o : Obj) : (w.alloc o).heap[w.heap.size]? = some o := by
  show (w.heap.push o)[w.heap.size]? = some o
  simp
structure Ch (S : Nat → Prop) (w w' : World) : Prop where
  os : w'.os = w.os
  tape : w'.tape = w.tape
  output : w'.output = w.output
  size : w.heap.size ≤ w'.heap.size
  block : ∀ k, k < w.heap.size → ¬ S k → w'.heap[k]? = w.heap[k]?
/-- Nothing that was there has changed. -/
def Ext (w w' : World) : Prop := Ch (fun _ => False) w w'
theorem Ch.refl (S : Nat → Prop) (w : World) : Ch S w w := ⟨rfl, rfl, rfl, Nat.le_refl _, fun _ _ _ => rfl⟩
theorem Ch.trans' {S S' : Nat → Prop} {a b c : World} (h : Ch S a b) (h' : Ch S' b c) (hs : ∀ k, k < a.heap.size → S' k → S k) : Ch S a c :=
  ⟨h'.os.trans h.os, h'.tape.trans h.tape, h'.output.trans h.output, Nat.le_trans h.size h'.size,
    fun k hk hn => (h'.block k (Nat.lt_of_lt_of_le hk h.size) (fun e => hn (hs k hk e))).trans (h.block k hk hn)⟩
theorem Ch.trans {S : Nat → Prop} {a b c : World} (h : Ch S a b) (h' : Ch S b c) : Ch S a c := h.trans' h' fun _ _ e => e
theorem Ch.mono {S S' : Nat → Prop} {a b : World} (h : Ch S a b) (hs : ∀ k, k < a.heap.size → S k → S' k) : Ch S' a b := (Ch.refl S' a).trans' h hs
theorem Ch.grown {S : Nat → Prop} {w w' : World} {row : Option Nat} (h : w.grownBy w' row) (hs : ∀ k, row = some k → S k) : Ch S w w' :=
  ⟨h.os, h.tape, h.output, h.size, fun k hk hn => h.block k hk fun e => hn (hs k e.symm)⟩
theorem Ch.below {B : Nat} {w w' : World} (h : Ch (fun k => B ≤ k) w w') (hB : B ≤ w.heap.size) : Below B w w' :=
  ⟨h.os, h.tape, h.output, h.size, fun k hk => h.block k (by omega) (by omega)⟩
theorem Ch.drew {S : Nat → Prop} {w w' : World} (h : Ch S w w') : Ch S w w'.drew := ⟨h.os, h.tape, h.output, h.size, h.block⟩
theorem Ch.from_drew {S : Nat → Prop} {w w' : World} (h : Ch S w.drew w') : Ch S w w' := ⟨h.os, h.tape, h.output, h.size, h.block⟩
theorem Ch.alloc {S : Nat → Prop} (w : World) (o : Obj) : Ch S w (w.alloc o) := ⟨rfl, rfl, rfl, by simp, fun k hk _ => alloc_old w o k hk⟩
theorem Ext.refl (w : World) : Ext w w := Ch.refl _ w
theorem Ext.drew (w : World) : Ext w w.drew := ⟨rfl, rfl, rfl, Nat.le_refl _, fun _ _ _ => rfl⟩
theorem Ext.trans {a b c : World} (h : Ext a b) (h' : Ext b c) : Ext a c := Ch.trans h h'
theorem Ext.ch {S : Nat → Prop} {a b : World} (h : Ext a b) : Ch S a b := Ch.mono h fun _ _ e => e.elim
theorem Ext.size {a b : World} (h : Ext a b) : a.heap.size ≤ b.heap.size := Ch.size h
theorem Ext.of_below {w w' : World} (h : Below w.heap.size w w') : Ext w w' := ⟨h.os, h.tape, h.output, h.size, fun k hk _ => h.block k hk⟩
theorem Ext.below {w w' : World} (h : Ext w w') : Below w.heap.size w w' := ⟨h.os, h.tape, h.output, h.size, fun k hk => h.block k hk (fun e => e)⟩
theorem Ch.ext_new {B : Nat} {a b c : World} (h : Ext a b) (h' : Ch (fun k => B ≤ k) b c) (hB : a.heap.size ≤ B) : Ext a c :=
  Ch.trans' h h' fun k hk e => by omega

theorem rd_keep {S : Nat → Prop} {w w' : World} {p : Option Addr} {v : Value} (h : rd w p = some v) (hc : Ch S w w') (hs : ∀ a, p = some a → ¬ S a.block) : rd w' p = some v := by
  obtain ⟨q, rfl, hq⟩ := rd_some h
  simp only [rd, Option.bind_some]
  rw [World.cell?_of_block (w := w) (hc.block _ (World.block_lt_of_cell? w q hq) (hs q rfl))]
  exact hq
theorem rd_ext {w w' : World} {p : Option Addr} {v : Value} (h : rd w p = some v) (hc : Ext w w') : rd w' p = some v := rd_keep h hc fun _ _ e => e
/-- A slice value that reads as these cells (n elements of sz cells). -/
def Sl (w : World) (sz : Nat) (v : Value) (n : Nat) (xs : List Value) : Prop :=
  ∃ p c, v = .slice p n c ∧ n ≤ c ∧ xs.length = n * sz ∧
    (n = 0 ∨ ∃ b o, p = some ⟨b, o, none⟩ ∧ b < w.heap.size ∧ ∀ j u, xs[j]? = some u → w.cell? ⟨b, o + j, none⟩ = some u)
def Sl.blk (v : Value) : Option Nat := v.ownBlock
section
variable {w w' : World} {sz n : Nat} {v : Value} {xs : List Value}
theorem Sl.nil (w : World) (sz : Nat) : Sl w sz (.slice none 0 0) 0 [] := ⟨none, 0, rfl, Nat.le_refl _, by simp, .inl rfl⟩
theorem Sl.keep {S : Nat → Prop} (h : Sl w sz v n xs) (hc : Ch S w w') (hs : ∀ g, v.ownBlock = some g → ¬ S g) : Sl w' sz v n xs := by
  obtain ⟨p, c, rfl, hn, hl, hm⟩ := h
  refine ⟨p, c, rfl, hn, hl, ?_⟩
  rcases hm with hm | ⟨b, o, rfl, hb, hm⟩
  · exact .inl hm
  · refine .inr ⟨b, o, rfl, Nat.lt_of_lt_of_le hb hc.size, fun j u hj => ?_⟩
    rw [World.cell?_of_block (w := w) (hc.block b hb (hs b rfl))]
    exact hm j u hj
theorem Sl.ext (h : Sl w sz v n xs) (hc : Ext w w') : Sl w' sz v n xs := h.keep hc fun _ _ e => e
theorem Sl.slice (h : Sl w sz v n xs) : ∃ p c, v = .slice p n c ∧ n ≤ c := by obtain ⟨p, c, h1, h2, _⟩ := h; exact ⟨p, c, h1, h2⟩
theorem Sl.length (h : Sl w sz v n xs) : xs.length = n * sz := by obtain ⟨p, c, h1, h2, h3, _⟩ := h; exact h3
theorem Sl.isSome {p : Option Addr} {c m : Nat} (h : Sl w sz (.slice p m c) n xs) (hn : 0 < n) : p.isSome = true := by
  obtain ⟨p', c', he, _, _, hm⟩ := h
  cases he
  rcases hm with hm | ⟨b, o, rfl, _⟩
  · omega
  · rfl
theorem Sl.rd {p : Option Addr} {c m : Nat} (h : Sl w sz (.slice p m c) n xs) (i j : Nat) {u : Value} (hu : xs[i * sz + j]? = some u) (_hj : j < sz) : Gv.rd w ((pidx p i sz).map fun a => a.add j) = some u := by
  obtain ⟨p', c', he, _, hl, hm⟩ := h
  cases he
  rcases hm with hm | ⟨b, o, rfl, _, hm⟩
  · subst hm
    have : xs = [] := List.eq_nil_of_length_eq_zero (by simpa using hl)
    subst this
    cases hu
  · simp only [pidx, Gv.rd, Option.map_some, Option.bind_some, Addr.add_lit]
    rw [Nat.add_assoc]
    exact hm _ u hu
theorem Sl.rd1 {p : Option Addr} {c m : Nat} (h : Sl w 1 (.slice p m c) n xs) (i : Nat) {u : Value} (hu : xs[i]? = some u) : Gv.rd w (pidx p i 1) = some u := by
  have := h.rd i 0 (by simpa using hu) (by decide)
  cases p with
  | none => exact this
  | some q => simpa [pidx, Gv.rd, Addr.add] using this
end

/-- An owned row of one-cell elements. -/
def Own (w : World) (base : Nat) (e : TypeId) (v : Value) (xs : List Value) : Prop := w.ownsRow base e 1 v xs.length xs
section
variable {w w' : World} {base : Nat} {e : TypeId} {v : Value} {xs : List Value} {n sz : Nat}
theorem ownsRow_keep {S : Nat → Prop} (h : w.ownsRow base e sz v n xs) (hc : Ch S w w') (hs : ∀ g, v.ownBlock = some g → ¬ S g) : w'.ownsRow base e sz v n xs := by
  refine ⟨h.1, ?_⟩
  rcases h.2 with hn | ⟨g, cap, cur, rfl, hb, hg, rest⟩
  · exact .inl hn
  · refine .inr ⟨g, cap, cur, rfl, hb, ?_, rest⟩
    rw [hc.block g (Array.getElem?_eq_some_iff.1 hg).1 (hs g rfl)]
    exact hg
theorem ownsRow_ext (h : w.ownsRow base e sz v n xs) (hc : Ext w w') : w'.ownsRow base e sz v n xs := ownsRow_keep h hc fun _ _ e => e
theorem ownsRow_sl (h : w.ownsRow base e sz v n xs) : Sl w sz v n xs := by
  rcases h.2 with ⟨rfl, rfl⟩ | ⟨g, cap, cur, rfl, hb, hg, hn, hm, hs, ht⟩
  · exact ⟨none, 0, rfl, Nat.le_refl _, h.1, .inl rfl⟩
  · refine ⟨_, cap, rfl, hn, h.1, .inr ⟨g, 0, rfl, (Array.getElem?_eq_some_iff.1 hg).1, fun j u hj => ?_⟩⟩
    have := h.cells (g := g) rfl j u hj
    rw [Addr.add_lit] at this
    exact this
theorem ownsRow_base (h : w.ownsRow base e sz v n xs) {b' : Nat} (hb : ∀ g, v.ownBlock = some g → b' ≤ g) : w.ownsRow b' e sz v n xs := by
  refine ⟨h.1, ?_⟩
  rcases h.2 with hn | ⟨g, cap, cur, rfl, _, rest⟩
  · exact .inl hn
  · exact .inr ⟨g, cap, cur, rfl, hb g rfl, rest⟩
theorem ownsRow_mono (h : w.ownsRow base e sz v n xs) {b' : Nat} (hb : b' ≤ base) : w.ownsRow b' e sz v n xs :=
  ownsRow_base h fun g hg => Nat.le_trans hb (h.lt g hg).1
theorem Own.nil (w : World) (base : Nat) (e : TypeId) : Own w base e (.slice none 0 0) [] := World.ownsRow_nil w base e 1
theorem Own.keep {S : Nat → Prop} (h : Own w base e v xs) (hc : Ch S w w') (hs : ∀ g, v.ownBlock = some g → ¬ S g) : Own w' base e v xs := ownsRow_keep h hc hs
theorem Own.ext (h : Own w base e v xs) (hc : Ext w w') : Own w' base e v xs := ownsRow_ext h hc
theorem Own.sl (h : Own w base e v xs) : Sl w 1 v xs.length xs := ownsRow_sl h
theorem Own.lt (h : Own w base e v xs) : ∀ g, v.ownBlock = some g → base ≤ g ∧ g < w.heap.size := World.ownsRow.lt h
theorem Own.mono (h : Own w base e v xs) {b' : Nat} (hb : b' ≤ base) : Own w b' e v xs := ownsRow_mono h hb
end

def elemI (P : Program) (t : TypeId) : Option (TypeId × Value × Nat × Nat) :=
  match P.underlying t with
  | some (.slice e) => match P.info? e with
    | some i => match i.zero with
      | some z => some (e, z, i.size, i.bytes)
      | none => none
    | none => none
  | _ => none
theorem elemI_spec {P : Program} {t e : TypeId} {z : Value} {sz by_ : Nat} (h : elemI P t = some (e, z, sz, by_)) :
    P.underlying t = some (.slice e) ∧ ∃ i, P.info? e = some i ∧ i.zero = some z ∧ i.size = sz ∧ i.bytes = by_ := by
  unfold elemI at h
  split at h
  · rename_i e' he
    split at h
    · rename_i i hi
      split at h
      · rename_i z' hz
        cases h
        exact ⟨he, i, hi, hz, rfl, rfl⟩
      · cases h
    · cases h
  · cases h

section
variable {P : Program} {st : Bool} {K : Env → World → Prop} {ρ : Env} {w : World} {d : Nat} {ty : TypeId} {pos : String} {aft : Array Edge} {gd : Option (Nat × Bool)}
variable {x y : Operand} {t e ty' : TypeId} {z v u : Value} {sz by_ base n m : Nat} {xs news : List Value}

theorem run_append_sl (hi : elemI P t = some (e, z, sz, by_)) (hzs : z.cells.size = sz) (hsz : 0 < sz) (hby : 0 < by_)
    (hown : w.ownsRow base e sz v n xs) (hsl : Sl w sz u m news) (h1 : ∀ q ∈ news, q.oneCell' = true)
    (hb : (n + m) * by_ ≤ 140737488355328) (hbase : base ≤ w.heap.size) :
    ∃ v' w', (Builtin.append_ #[t, t] ty #[v, u]).run P w = .ok v' w' ∧ w'.ownsRow base e sz v' (n + m) (xs ++ news) ∧ w.grownBy w' v.ownBlock ∧
      (v' = .slice none 0 0 ↔ v = .slice none 0 0 ∧ m = 0) ∧ (∀ g, v'.ownBlock = some g → v.ownBlock = some g ∨ w.heap.size ≤ g) := by
  obtain ⟨ht, i, hi, hz, hs, hbb⟩ := elemI_spec hi
  have h63 : n + m ≤ maxLen := by
    have := Nat.le_mul_of_pos_right (n + m) hby
    simp only [maxLen]; omega
  have some_case : ∀ (a : Addr) (c : Nat), u = .slice (some a) m c → news.length = m * sz → (∀ j q, news[j]? = some q → w.cell? (a.add j) = some q) →
      ∃ v' w', (Builtin.append_ #[t, t] ty #[v, u]).run P w = .ok v' w' ∧ w'.ownsRow base e sz v' (n + m) (xs ++ news) ∧ w.grownBy w' v.ownBlock ∧
      (v' = .slice none 0 0 ↔ v = .slice none 0 0 ∧ m = 0) ∧ (∀ g, v'.ownBlock = some g → v.ownBlock = some g ∨ w.heap.size ≤ g) := by
    intro a c hu hl hnews
    subst hu
    rcases hown.2 with ⟨rfl, rfl⟩ | ⟨g, cap, cur, rfl, hbg, hg, hnc, hcm, hcs, htake⟩
    · have hx : xs = [] := List.eq_nil_of_length_eq_zero (by simpa using hown.1)
      subst hx
      obtain ⟨v', w', hr, h2, h3, h4⟩ := run_append_own (P := P) w w.heap.size t ty e i z sz by_ ht hi hz hs hbb hzs hsz _ 0 [] (World.ownsRow_nil w _ e sz) a m c news hl hnews h1 h63 hb (Nat.le_refl _)
      exact ⟨v', w', hr, ownsRow_mono h2 hbase, h3, h4, fun g hg => .inr (World.ownsRow.lt h2 g hg).1⟩
    · obtain ⟨v', w', hr, h2, h3, h4⟩ := run_append_own (P := P) w base t ty e i z sz by_ ht hi hz hs hbb hzs hsz _ n xs hown a m c news hl hnews h1 h63 hb hbase
      refine ⟨v', w', hr, h2, h3, h4, fun g' hg' => ?_⟩
      by_cases hroom : n + m ≤ cap
      · have hr' := run_append_room (P := P) w t ty e i ht hi g n cap cur hg a m c news (by rw [hs]; exact hl) hnews h1 hroom (by rw [hs, hl, hcs, ← Nat.add_mul]; exact Nat.mul_le_mul_right _ hroom)
        rw [hr'] at hr
        cases hr
        exact .inl hg'
      · have hr' := run_append_grow (P := P) w t ty e i z ht hi hz ⟨g, 0, none⟩ n cap xs (by rw [hs]; exact hown.1) (hown.cells (g := g) rfl) a m c news (by rw [hs]; exact hl) hnews (by omega) (by simp only [maxLen] at h63; omega) (growslice_fits (by omega) (by rw [hbb]; exact hb))
        rw [hr'] at hr
        cases hr
        simp only [Value.ownBlock, Option.some.injEq] at hg'
        exact .inr (by omega)
  obtain ⟨q, c, rfl, hmc, hl, hm⟩ := hsl
  rcases hm with rfl | ⟨b, o, rfl, hbl, hm⟩
  · have hn0 : news = [] := List.eq_nil_of_length_eq_zero (by simpa using hl)
    subst hn0
    cases q with
    | some a => exact some_case a c rfl (by simp) (by simp)
    | none =>
      refine ⟨v, w, ?_, by simpa using hown, ⟨rfl, rfl, rfl, Nat.le_refl _, fun _ _ _ => rfl⟩, by simp, fun g hg => .inl hg⟩
      rcases hown.2 with ⟨rfl, rfl⟩ | ⟨g, cap, cur, rfl, hb', hg, hn, hm, hcs, htk⟩
      · simp [Builtin.append_, run_underlying ht, sizeOf, typeInfo, hi, Builtin.lenOf, Builtin.firstCells]
      · simp [Builtin.append_, run_underlying ht, sizeOf, typeInfo, hi, Builtin.lenOf, Builtin.firstCells, hn, storeCells]
  · exact some_case ⟨b, o, none⟩ c rfl hl (fun j u hj => by rw [Addr.add_lit]; exact hm j u hj)
theorem r_append (hi : elemI P t = some (e, z, sz, by_)) (hzs : z.cells.size = sz) (hsz : 0 < sz) (hby : 0 < by_)
    (hown : w.ownsRow base e sz v n xs) (hsl : Sl w sz u m news) (hx : ev ρ x = v) (hy : ev ρ y = u) (h1 : ∀ q ∈ news, q.oneCell' = true)
    (hb : (n + m) * by_ ≤ 140737488355328) (hbase : base ≤ w.heap.size)
    (h : ∀ v' w', w'.ownsRow base e sz v' (n + m) (xs ++ news) → w.grownBy w' v.ownBlock → (v' = .slice none 0 0 ↔ v = .slice none 0 0 ∧ m = 0) → (∀ g, v'.ownBlock = some g → v.ownBlock = some g ∨ w.heap.size ≤ g) → K (up ρ d v') w') :
    w1 P false ⟨some d, .call ⟨.builtin .append, #[x, y], #[t, t]⟩, ty, pos, aft, gd⟩ K ρ w := by
  obtain ⟨v', w', hr, h2, h3, h4, h5⟩ := run_append_sl (ty := ty) hi hzs hsz hby hown hsl h1 hb hbase
  refine w1_val' (v := v') (w' := w') ?_ (h v' w' h2 h3 h4 h5)
  simp [execOp, resolve, invoke, builtin, hx, hy, hr]

theorem run_buildSlice1 (hi : elemI P t = some (e, z, 1, by_)) (hu : u.oneCell' = true) :
    (Instr.buildSlice t 1 #[(0, u)]).run P w = .ok (.slice (some ⟨w.heap.size, 0, none⟩) 1 1) (w.alloc (.cells #[u] e)) := by
  obtain ⟨ht, i, hi, hz, hs', hbb⟩ := elemI_spec hi
  have hc : u.cells = #[u] := by cases u <;> first | rfl | cases hu
  have ha : ∀ f : Nat → Value, ((Array.range 1).map f).setIfInBounds 0 u = #[u] := by intro f; apply Array.ext'; simp [Array.toList_setIfInBounds, List.range_succ]
  simp [Instr.buildSlice, run_underlying ht, sizeOf, typeInfo, hi, hs', zeroValue, hz, Instr.fill, hc, newRow, newObj, ha]
  rfl
/-- 'append(s, x)': the cell that holds x, then the append. -/
theorem r_append1 {ops : Array Oper} {r : List Oper} {d' dm : Nat} {ty2 : TypeId} {pos' : String} {aft' : Array Edge} (hi : elemI P t = some (e, z, 1, by_)) (hzs : z.cells.size = 1) (hby : 0 < by_)
    (hown : w.ownsRow base e 1 v n xs) (hy : ev ρ y = u) (hx : ev (up ρ dm (.slice (some ⟨w.heap.size, 0, none⟩) 1 1)) (.tmp d') = v) (h1 : u.oneCell' = true) (hb : (n + 1) * by_ ≤ 140737488355328) (hbase : base ≤ w.heap.size)
    (h : ∀ v' w' q, w'.ownsRow base e 1 v' (n + 1) (xs ++ [u]) → w.grownBy w' v.ownBlock → v' ≠ .slice none 0 0 → (∀ g, v'.ownBlock = some g → v.ownBlock = some g ∨ w.heap.size ≤ g) → wl P false ops r K (up (up ρ dm q) d v') w') (hdm : Nat.beq dm 1000000 = false := by first | assumption | rfl) :
    w1 P false ⟨some dm, .buildSlice t 1 #[(0, y)], ty, pos, aft, none⟩ (wl P false ops (⟨some d, .call ⟨.builtin .append, #[.tmp d', .tmp dm], #[t, t]⟩, ty2, pos', aft', none⟩ :: r) K) ρ w := by
  refine w1_val' (v := .slice (some ⟨w.heap.size, 0, none⟩) 1 1) (w' := w.alloc (.cells #[u] e)) ?_ ?_
  · simp [execOp, hy, run_buildSlice1 hi h1]
  · refine wl_plain ?_
    have hsl : Sl (w.alloc (.cells #[u] e)) 1 (.slice (some ⟨w.heap.size, 0, none⟩) 1 1) 1 [u] :=
      ⟨_, 1, rfl, Nat.le_refl _, rfl, .inr ⟨w.heap.size, 0, rfl, by simp, fun j q hj => by
        rw [cell_of_row _ _ _ _ _ _ (alloc_new w _)]
        cases j with
        | zero => simpa using hj
        | succ j => simp at hj⟩⟩
    refine r_append hi hzs (by decide) hby (hown.alloc _) hsl hx (by simp [ev, upo, up, hdm]) (by simpa using h1) hb (by simp; omega) ?_
    intro v' w' h2 h3 h4 h5
    refine h v' w' _ h2 ((fun hg => ⟨hg.os, hg.tape, hg.output, Nat.le_trans (by simp) hg.size, fun k hk hn => (hg.block k (by simp; omega) hn).trans (alloc_old w _ k hk)⟩) h3) (fun e => ?_) (fun g hg => ?_)
    · have := h4.1 e
      omega
    · rcases h5 g hg with h6 | h6
      · exact .inl h6
      · simp at h6; exact .inr (by omega)
theorem r_make {a : Int} {k : IntKind} (hi : elemI P t = some (e, z, 1, by_)) (hz1 : z.oneCell' = true) (hx : ev ρ x = .int k a) (hy : ev ρ y = .int k a) (h0 : 0 ≤ a) (hby : 0 < by_) (hb : a.toNat * by_ ≤ 140737488355328)
    (h : ∀ w', w'.ownsRow w.heap.size e 1 (.slice (some ⟨w.heap.size, 0, none⟩) a.toNat a.toNat) a.toNat (List.replicate a.toNat z) → Ext w w' → K (up ρ d (.slice (some ⟨w.heap.size, 0, none⟩) a.toNat a.toNat)) w') :
    w1 P false ⟨some d, .makeSlice t x y, ty, pos, aft, gd⟩ K ρ w := by
  obtain ⟨ht, i, hi, hz, hs', hbb⟩ := elemI_spec hi
  obtain ⟨n, rfl⟩ := Int.eq_ofNat_of_zero_le h0
  simp only [Int.toNat_natCast] at *
  have h63 : n ≤ 140737488355328 := Nat.le_trans (Nat.le_mul_of_pos_right n hby) hb
  have hb2 : (i.bytes : Int) * (n : Int) ≤ 281474976710656 := by
    have : ((i.bytes * n : Nat) : Int) ≤ 281474976710656 := by rw [hbb, Nat.mul_comm]; omega
    rwa [Int.natCast_mul] at this
  have hr := run_make (P := P) w t e i z ht hi hz k k (n : Int) (n : Int) (by omega) (Int.le_refl _) hb2 (by omega)
  simp only [Int.toNat_natCast] at hr
  refine w1_val' (v := .slice (some ⟨w.heap.size, 0, none⟩) n n) (w' := w.alloc (.cells (madeCells z.cells (n * i.size)) e)) ?_ (h _ ?_ (Ch.alloc w _))
  · simp [execOp, hx, hy, hr]
  · have hc : z.cells = #[z] := by cases z <;> first | rfl | cases hz1
    have hl : (madeCells z.cells (n * i.size)).toList = List.replicate n z := by
      rw [hs', hc]
      apply List.ext_getElem
      · simp [madeCells]
      · intro j h1 h2
        simp [madeCells, Nat.mod_one]
    refine ⟨by simp, .inr ⟨w.heap.size, n, _, rfl, Nat.le_refl _, alloc_new w _, Nat.le_refl _, by simp only [maxLen]; omega, by rw [size_madeCells, hs'], ?_⟩⟩
    rw [hl]
    simp
theorem run_store1 {a : Addr} {cur : Array Value} (hsz : P.cellsOf ty' = 1) (h1 : u.oneCell' = true) (hg : w.heap[a.block]? = some (.cells cur e (0, 0))) (ha : a.off < cur.size) (hs : a.spot = none := by rfl) :
    (storeVar ty' a u).run P w = .ok () (w.setRow a.block (cur.toList.set a.off u).toArray) := by
  obtain ⟨b, o, s⟩ := a
  subst hs
  have hc : u.cells = #[u] := by cases u <;> first | rfl | cases h1
  unfold Program.cellsOf at hsz
  cases hi : P.info? ty' with
  | none => rw [hi] at hsz; cases hsz
  | some i =>
    rw [hi] at hsz
    simp only [Option.map_some, Option.getD_some] at hsz
    have hr := run_storeCells_at P b o e [u] 0 cur w hg (by have := ha; simp only [List.length_singleton] at *; omega) (by simpa using h1)
    have he : cur.toList.take (o + 0) ++ [u] ++ cur.toList.drop (o + 0 + [u].length) = cur.toList.set o u := by
      rw [List.set_eq_take_append_cons_drop, if_pos (by simpa using ha)]
      simp
    rw [he] at hr
    simp [storeVar, sizeOf, typeInfo, hi, hsz, hc, hr]
/-- A store to a place of an owned row. -/
theorem r_st_own {i c : Nat} {p : Option Addr} (hsz : P.cellsOf ty' = 1) (hx : ev ρ x = .pointer (pidx p i 1)) (hy : ev ρ y = u) (h1 : u.oneCell' = true)
    (hown : w.ownsRow base e 1 (.slice p n c) n xs) (hin : i < n)
    (h : ∀ w', w'.ownsRow base e 1 (.slice p n c) n (xs.set i u) → w.grownBy w' (Value.slice p n c).ownBlock → w'.heap.size = w.heap.size → K ρ w') :
    w1 P false ⟨none, .store ty' x y, ty, pos, aft, gd⟩ K ρ w := by
  rcases hown.2 with ⟨hv, hn⟩ | ⟨g, cap, cur, hv, hb, hg, hnc, hcm, hcs, htk⟩
  · omega
  · cases hv
    have hlen : xs.length = n := by simpa using hown.1
    have hcur : n ≤ cur.size := by omega
    refine w1_skip' (w' := w.setRow g (cur.toList.set i u).toArray) ?_ (h _ ?_ ?_ ?_)
    · have hr := run_store1 (P := P) (w := w) (ty' := ty') (a := ⟨g, i, none⟩) hsz h1 hg (by show i < cur.size; omega)
      simp [execOp, Instr.storeAt, Instr.sureAddr, hx, hy, pidx, Addr.add_lit, hr]
    · refine ⟨by simpa using hown.1, .inr ⟨g, c, _, rfl, hb, setRow_heap w g cur _ e _ hg, hnc, hcm, by simpa using hcs, ?_⟩⟩
      rw [← htk]
      simp [List.take_set]
    · exact ⟨rfl, rfl, rfl, by simp, fun k _ hk => setRow_other w g k _ (fun e => hk (by simp [Value.ownBlock, e]))⟩
    · simp

def bnd (ρ : Env) (lo : Option Operand) (l dflt : Nat) : Prop := match lo with | none => l = dflt | some o => ∃ k, ev ρ o = .int k (l : Int)
theorem bnd_none {dflt : Nat} : bnd ρ none dflt dflt := rfl
theorem bnd_some {o : Operand} {k : IntKind} {a : Int} {dflt : Nat} (h : ev ρ o = .int k a) (h0 : 0 ≤ a) : bnd ρ (some o) a.toNat dflt := ⟨k, by rw [Int.toNat_of_nonneg h0]; exact h⟩
theorem run_slice {lo hi : Option Operand} {q : Option Addr} {c l h' : Nat} (hi_ : sliceSz P t = some sz) (hl : bnd ρ lo l 0) (hh : bnd ρ hi h' n) (h1 : l ≤ h') (h2 : h' ≤ c) :
    (Instr.sliceAt t (.slice q n c) (lo.map (ev ρ)) (hi.map (ev ρ)) none).run P w = .ok (.slice (if c = l then q else q.map fun a => a.add (l * sz)) (h' - l) (c - l)) w := by
  obtain ⟨e, i, he, hi', hs⟩ := sliceSz_spec hi_
  have e1 : ∀ y code (k : IntKind) (m : Nat), m ≤ y → (Instr.sliceBound (.int k (m : Int)) y code).run P w = .ok m w := by
    intro y code k m hm
    have : (0 : Int) ≤ (m : Int) ∧ (m : Int) ≤ (y : Int) := by omega
    simp [Instr.sliceBound, asIntOf, hm]
  cases lo with
  | none =>
    have hl' : l = 0 := hl
    subst hl'
    cases hi with
    | none =>
      have hh' : h' = n := hh
      subst hh'
      simp [Instr.sliceAt, Instr.slice, Instr.sliceBounds, run_underlying he, sizeOf, typeInfo, hi']
    | some o2 =>
      obtain ⟨k2, hk2⟩ := hh
      simp [Instr.sliceAt, Instr.slice, Instr.sliceBounds, run_underlying he, sizeOf, typeInfo, hi', hk2, e1 _ _ _ _ h2]
  | some o1 =>
    obtain ⟨k1, hk1⟩ := hl
    cases hi with
    | none =>
      have hh' : h' = n := hh
      subst hh'
      simp [Instr.sliceAt, Instr.slice, Instr.sliceBounds, run_underlying he, sizeOf, typeInfo, hi', hs, hk1, e1 _ _ _ _ h1]
    | some o2 =>
      obtain ⟨k2, hk2⟩ := hh
      simp [Instr.sliceAt, Instr.slice, Instr.sliceBounds, run_underlying he, sizeOf, typeInfo, hi', hs, hk1, hk2, e1 _ _ _ _ h1, e1 _ _ _ _ h2]
theorem r_slice {lo hi : Option Operand} {q : Option Addr} {c l h' : Nat} (hi_ : sliceSz P t = some sz) (hx : ev ρ x = .slice q n c) (hl : bnd ρ lo l 0) (hh : bnd ρ hi h' n) (h1 : l ≤ h') (h2 : h' ≤ c)
    (h : K (up ρ d (.slice (if c = l then q else q.map fun a => a.add (l * sz)) (h' - l) (c - l))) w) :
    w1 P st ⟨some d, .slice t x lo hi none, ty, pos, aft, gd⟩ K ρ w := by
  refine w1_val (v := .slice (if c = l then q else q.map fun a => a.add (l * sz)) (h' - l) (c - l)) ?_ h
  simp [execOp, hx, run_slice (w := w) hi_ hl hh h1 h2]
/-- A part of a slice that is read. -/
theorem Sl.part {q : Option Addr} {c m l h' : Nat} (hs : Sl w sz (.slice q m c) n xs) (h1 : l ≤ h') (h2 : h' ≤ n) :
    Sl w sz (.slice (if c = l then q else q.map fun a => a.add (l * sz)) (h' - l) (c - l)) (h' - l) ((xs.drop (l * sz)).take ((h' - l) * sz)) := by
  obtain ⟨p', c', he, hnc, hlen, hm⟩ := hs
  cases he
  refine ⟨_, _, rfl, by omega, ?_, ?_⟩
  · rw [List.length_take, List.length_drop, hlen, ← Nat.sub_mul]
    exact Nat.min_eq_left (Nat.mul_le_mul_right _ (by omega))
  · rcases hm with rfl | ⟨b, o, rfl, hb, hm⟩
    · left; omega
    · by_cases hlh : h' = l
      · left; omega
      · right
        rw [if_neg (by omega)]
        refine ⟨b, o + l * sz, by simp [Addr.add_lit], hb, fun j u hj => ?_⟩
        rw [List.getElem?_take] at hj
        split at hj
        · rw [List.getElem?_drop] at hj
          rw [Nat.add_assoc]
          exact hm _ u hj
        · cases hj
theorem part_block {q : Option Addr} {c m l h' : Nat} : (Value.slice (if c = l then q else q.map fun a => a.add (l * sz)) (h' - l) (c - l)).ownBlock = (Value.slice q m c).ownBlock := by
  split
  · cases q <;> rfl
  · cases q with
    | none => rfl
    | some a => simp [Value.ownBlock, Addr.add]; split <;> rfl
theorem r_slice_r {lo hi : Option Operand} {q : Option Addr} {c l h' : Nat} (hi_ : sliceSz P t = some sz) (hs : Sl w sz (.slice q n c) n xs) (hx : ev ρ x = .slice q n c) (hl : bnd ρ lo l 0) (hh : bnd ρ hi h' n) (h1 : l ≤ h') (h2 : h' ≤ n)
    (h : ∀ q' c', Sl w sz (.slice q' (h' - l) c') (h' - l) ((xs.drop (l * sz)).take ((h' - l) * sz)) → (Value.slice q' (h' - l) c').ownBlock = (Value.slice q n c).ownBlock → K (up ρ d (.slice q' (h' - l) c')) w) :
    w1 P st ⟨some d, .slice t x lo hi none, ty, pos, aft, gd⟩ K ρ w := by
  obtain ⟨_, _, he, hnc, _⟩ := id hs
  cases he
  exact r_slice hi_ hx hl hh h1 (by omega) (h _ _ (hs.part h1 h2) part_block)
end
theorem getD_lt {α : Type} {L : List α} {d : α} {i : Nat} (h : i < L.length) : L.getD i d = L[i] := by simp [List.getD, h]
theorem getD_mem {α : Type} {L : List α} {d : α} {i : Nat} (h : i < L.length) : L.getD i d ∈ L := by rw [getD_lt h]; exact List.getElem_mem h
/- Lists of ints. -/
def ints (L : List Int) : List Value := L.map (Value.int .i64)
def Ints (w : World) (v : Value) (L : List Int) : Prop := Sl w 1 v L.length (ints L)
def OwnI (w : World) (base : Nat) (e : TypeId) (v : Value) (L : List Int) : Prop := w.ownsRow base e 1 v L.length (ints L)
theorem ints_length (L : List Int) : (ints L).length = L.length := by simp [ints]
theorem ints_get {L : List Int} {i : Nat} (h : i < L.length) : (ints L)[i]? = some (.int .i64 L[i]) := by simp [ints, h]
theorem ints_getD {L : List Int} {i : Nat} (h : i < L.length) : (ints L)[i]? = some (.int .i64 (L.getD i 0)) := by simp [ints, h, List.getD]
theorem ints_one (L : List Int) : ∀ q ∈ ints L, q.oneCell' = true := by
  intro q hq
  simp only [ints, List.mem_map] at hq
  obtain ⟨a, _, rfl⟩ := hq
  rfl
theorem ints_append (A B : List Int) : ints (A ++ B) = ints A ++ ints B := by simp [ints]
theorem ints_take (A : List Int) (n : Nat) : (ints A).take n = ints (A.take n) := by simp [ints, List.map_take]
theorem ints_drop (A : List Int) (n : Nat) : (ints A).drop n = ints (A.drop n) := by simp [ints, List.map_drop]
theorem ints_set (A : List Int) (n : Nat) (a : Int) : (ints A).set n (.int .i64 a) = ints (A.set n a) := by simp [ints, List.map_set]
theorem ints_replicate (n : Nat) (a : Int) : List.replicate n (.int .i64 a) = ints (List.replicate n a) := by simp [ints]
theorem OwnI.ints {w : World} {base : Nat} {e : TypeId} {v : Value} {L : List Int} (h : OwnI w base e v L) : Ints w v L := ownsRow_sl h
theorem Ints.ext {w w' : World} {v : Value} {L : List Int} (h : Ints w v L) (hc : Ext w w') : Ints w' v L := Sl.ext h hc
theorem Ints.keep {S : Nat → Prop} {w w' : World} {v : Value} {L : List Int} (h : Ints w v L) (hc : Ch S w w') (hs : ∀ g, v.ownBlock = some g → ¬ S g) : Ints w' v L := Sl.keep h hc hs
theorem OwnI.ext {w w' : World} {base : Nat} {e : TypeId} {v : Value} {L : List Int} (h : OwnI w base e v L) (hc : Ext w w') : OwnI w' base e v L := ownsRow_ext h hc
theorem Ints.rd {w : World} {p : Option Addr} {n c : Nat} {L : List Int} (h : Ints w (.slice p n c) L) {i : Nat} (hi : i < L.length) : rd w (pidx p i 1) = some (.int .i64 (L.getD i 0)) := Sl.rd1 h i (ints_getD hi)
theorem Ints.isSome {w : World} {p : Option Addr} {n c : Nat} {L : List Int} (h : Ints w (.slice p n c) L) (hl : 0 < L.length) : p.isSome = true := Sl.isSome h hl
theorem Ints.slice {w : World} {v : Value} {L : List Int} (h : Ints w v L) : ∃ p c, v = .slice p L.length c ∧ L.length ≤ c := Sl.slice h
section
variable {P : Program} {st : Bool} {K : Env → World → Prop} {ρ : Env} {w : World} {d : Nat} {ty : TypeId} {pos : String} {aft : Array Edge} {gd : Option (Nat × Bool)}
variable {x y : Operand} {t e ty' : TypeId} {z v u : Value} {by_ base n m : Nat} {A B : List Int} {xs ys : List Value}
theorem Own.length_eq (h : w.ownsRow base e 1 v n xs) : xs.length = n := by simpa using h.1
theorem r_slice_i {lo hi : Option Operand} {q : Option Addr} {c l h' : Nat} (hi_ : sliceSz P t = some 1) (hs : Ints w (.slice q A.length c) A) (hx : ev ρ x = .slice q A.length c) (hl : bnd ρ lo l 0) (hh : bnd ρ hi h' A.length) (h1 : l ≤ h') (h2 : h' ≤ A.length)
    (h : ∀ q' c', Ints w (.slice q' (h' - l) c') ((A.drop l).take (h' - l)) → h' - l ≤ c' → (Value.slice q' (h' - l) c').ownBlock = (Value.slice q A.length c).ownBlock → K (up ρ d (.slice q' (h' - l) c')) w) :
    w1 P st ⟨some d, .slice t x lo hi none, ty, pos, aft, gd⟩ K ρ w := by
  refine r_slice_r hi_ hs hx hl hh h1 h2 fun q' c' hq hb => h q' c' ?_ ?_ hb
  · have hlen : ((A.drop l).take (h' - l)).length = h' - l := by simp; omega
    unfold Ints
    rw [hlen, ← ints_take, ← ints_drop]
    simpa using hq
  · obtain ⟨_, _, he, hn, _⟩ := hq; cases he; exact hn
theorem r_append_i (hi : elemI P t = some (e, .int .i64 0, 1, 8)) (hown : OwnI w base e v A) (hsl : Ints w u B) (hx : ev ρ x = v) (hy : ev ρ y = u)
    (hb : A.length + B.length ≤ 17592186044416) (hbase : base ≤ w.heap.size)
    (h : ∀ v' w', OwnI w' base e v' (A ++ B) → w.grownBy w' v.ownBlock → (v' = .slice none 0 0 ↔ v = .slice none 0 0 ∧ B = []) → (∀ g, v'.ownBlock = some g → v.ownBlock = some g ∨ w.heap.size ≤ g) → K (up ρ d v') w') :
    w1 P false ⟨some d, .call ⟨.builtin .append, #[x, y], #[t, t]⟩, ty, pos, aft, gd⟩ K ρ w := by
  refine r_append hi rfl (by decide) (by decide) hown hsl hx hy (ints_one B) (by omega) hbase fun v' w' h1 h2 h3 h4 => h v' w' ?_ h2 ?_ h4
  · unfold OwnI; rw [List.length_append, ints_append]; exact h1
  · rw [h3, List.length_eq_zero_iff]
theorem r_append1_i {ops : Array Oper} {r : List Oper} {d' dm : Nat} {a : Int} {ty2 : TypeId} {pos' : String} {aft' : Array Edge} (hi : elemI P t = some (e, .int .i64 0, 1, 8))
    (hown : OwnI w base e v A) (hy : ev ρ y = .int .i64 a) (hx : ev (up ρ dm (.slice (some ⟨w.heap.size, 0, none⟩) 1 1)) (.tmp d') = v) (hb : A.length + 1 ≤ 17592186044416) (hbase : base ≤ w.heap.size)
    (h : ∀ v' w' q, OwnI w' base e v' (A ++ [a]) → w.grownBy w' v.ownBlock → v' ≠ .slice none 0 0 → (∀ g, v'.ownBlock = some g → v.ownBlock = some g ∨ w.heap.size ≤ g) → wl P false ops r K (up (up ρ dm q) d v') w') (hdm : Nat.beq dm 1000000 = false := by first | assumption | rfl) :
    w1 P false ⟨some dm, .buildSlice t 1 #[(0, y)], ty, pos, aft, none⟩ (wl P false ops (⟨some d, .call ⟨.builtin .append, #[.tmp d', .tmp dm], #[t, t]⟩, ty2, pos', aft', none⟩ :: r) K) ρ w := by
  refine r_append1 hi rfl (by decide) hown hy hx rfl (by omega) hbase fun v' w' q h1 h2 h3 h4 => h v' w' q ?_ h2 h3 h4
  unfold OwnI; rw [List.length_append, ints_append]; exact h1
theorem r_append1_v {ops : Array Oper} {r : List Oper} {d' dm : Nat} {ty2 : TypeId} {pos' : String} {aft' : Array Edge} (hi : elemI P t = some (e, z, 1, by_)) (hzs : z.cells.size = 1) (hby : 0 < by_ ∧ by_ ≤ 1024)
    (hown : Own w base e v xs) (hy : ev ρ y = u) (hx : ev (up ρ dm (.slice (some ⟨w.heap.size, 0, none⟩) 1 1)) (.tmp d') = v) (h1 : u.oneCell' = true) (hb : xs.length + 1 ≤ 137438953472) (hbase : base ≤ w.heap.size)
    (h : ∀ v' w' q, Own w' base e v' (xs ++ [u]) → w.grownBy w' v.ownBlock → v' ≠ .slice none 0 0 → (∀ g, v'.ownBlock = some g → v.ownBlock = some g ∨ w.heap.size ≤ g) → wl P false ops r K (up (up ρ dm q) d v') w') (hdm : Nat.beq dm 1000000 = false := by first | assumption | rfl) :
    w1 P false ⟨some dm, .buildSlice t 1 #[(0, y)], ty, pos, aft, none⟩ (wl P false ops (⟨some d, .call ⟨.builtin .append, #[.tmp d', .tmp dm], #[t, t]⟩, ty2, pos', aft', none⟩ :: r) K) ρ w := by
  refine r_append1 hi hzs hby.1 hown hy hx h1 ?_ hbase fun v' w' q h1 h2 h3 h4 => h v' w' q ?_ h2 h3 h4
  · have := Nat.mul_le_mul hb hby.2; omega
  · unfold Own; rw [List.length_append]; exact h1
theorem r_make_i {k : IntKind} {n : Nat} (hi : elemI P t = some (e, .int .i64 0, 1, 8)) (hx : ev ρ x = .int k (n : Int)) (hy : ev ρ y = .int k (n : Int)) (hb : n ≤ 17592186044416)
    (h : ∀ w', OwnI w' w.heap.size e (.slice (some ⟨w.heap.size, 0, none⟩) n n) (List.replicate n 0) → Ext w w' → w.heap.size < w'.heap.size → K (up ρ d (.slice (some ⟨w.heap.size, 0, none⟩) n n)) w') :
    w1 P false ⟨some d, .makeSlice t x y, ty, pos, aft, gd⟩ K ρ w := by
  refine r_make hi rfl hx hy (by omega) (by decide) (by simp; omega) fun w' h1 h2 => ?_
  simp only [Int.toNat_natCast] at h1 ⊢
  refine h w' ?_ h2 (h1.lt _ rfl).2
  unfold OwnI; rw [List.length_replicate, ← ints_replicate]; exact h1
theorem r_make_v {k : IntKind} {n : Nat} (hi : elemI P t = some (e, z, 1, by_)) (hz1 : z.oneCell' = true) (hby : 0 < by_ ∧ by_ ≤ 1024) (hx : ev ρ x = .int k (n : Int)) (hy : ev ρ y = .int k (n : Int)) (hb : n ≤ 137438953472)
    (h : ∀ w', Own w' w.heap.size e (.slice (some ⟨w.heap.size, 0, none⟩) n n) (List.replicate n z) → Ext w w' → w.heap.size < w'.heap.size → K (up ρ d (.slice (some ⟨w.heap.size, 0, none⟩) n n)) w') :
    w1 P false ⟨some d, .makeSlice t x y, ty, pos, aft, gd⟩ K ρ w := by
  refine r_make hi hz1 hx hy (by omega) hby.1 ?_ fun w' h1 h2 => ?_
  · simp only [Int.toNat_natCast]; have := Nat.mul_le_mul hb hby.2; omega
  simp only [Int.toNat_natCast] at h1 ⊢
  refine h w' ?_ h2 (h1.lt _ rfl).2
  unfold Own; rw [List.length_replicate]; exact h1
theorem r_st_i {i c : Nat} {p : Option Addr} {a : Int} (hsz : P.cellsOf ty' = 1) (hown : OwnI w base e (.slice p n c) A) (hx : ev ρ x = .pointer (pidx p i 1)) (hy : ev ρ y = .int .i64 a) (hin : i < A.length)
    (h : ∀ w', OwnI w' base e (.slice p n c) (A.set i a) → w.grownBy w' (Value.slice p n c).ownBlock → w'.heap.size = w.heap.size → K ρ w') :
    w1 P false ⟨none, .store ty' x y, ty, pos, aft, gd⟩ K ρ w := by
  obtain ⟨q, c', he, _⟩ := (OwnI.ints hown).slice
  cases he
  refine r_st_own hsz hx hy rfl hown hin fun w' h1 h2 h3 => h w' ?_ h2 h3
  unfold OwnI; rw [List.length_set, ← ints_set]; exact h1
theorem r_st_v {i c : Nat} {p : Option Addr} (hsz : P.cellsOf ty' = 1) (hown : Own w base e (.slice p n c) xs) (hx : ev ρ x = .pointer (pidx p i 1)) (hy : ev ρ y = u) (h1 : u.oneCell' = true) (hin : i < xs.length)
    (h : ∀ w', Own w' base e (.slice p n c) (xs.set i u) → w.grownBy w' (Value.slice p n c).ownBlock → w'.heap.size = w.heap.size → K ρ w') :
    w1 P false ⟨none, .store ty' x y, ty, pos, aft, gd⟩ K ρ w := by
  obtain ⟨q, c', he, _⟩ := hown.sl.slice
  cases he
  refine r_st_own hsz hx hy h1 hown hin fun w' h1 h2 h3 => h w' ?_ h2 h3
  unfold Own; rw [List.length_set]; exact h1
end
/- Lists of lists of ints. -/
def Tab (w : World) (v : Value) (T : List (List Int)) : Prop :=
  ∃ vs, Sl w 1 v T.length vs ∧ ∀ i (h : i < T.length), ∃ u, vs[i]? = some u ∧ Ints w u T[i]
theorem Tab.ext {w w' : World} {v : Value} {T : List (List Int)} (h : Tab w v T) (hc : Ext w w') : Tab w' v T := by
  obtain ⟨vs, h1, h2⟩ := h
  exact ⟨vs, h1.ext hc, fun i hi => let ⟨u, hu, hl⟩ := h2 i hi; ⟨u, hu, hl.ext hc⟩⟩
theorem Tab.slice {w : World} {v : Value} {T : List (List Int)} (h : Tab w v T) : ∃ p c, v = .slice p T.length c ∧ T.length ≤ c := by
  obtain ⟨vs, h1, _⟩ := h; exact Sl.slice h1
theorem Tab.isSome {w : World} {p : Option Addr} {n c : Nat} {T : List (List Int)} (h : Tab w (.slice p n c) T) (hl : 0 < T.length) : p.isSome = true := by
  obtain ⟨vs, h1, _⟩ := h; exact Sl.isSome h1 hl
theorem Tab.rd {w : World} {p : Option Addr} {n c : Nat} {T : List (List Int)} (h : Tab w (.slice p n c) T) {i : Nat} (hi : i < T.length) :
    ∃ q m, Gv.rd w (pidx p i 1) = some (.slice q (T.getD i []).length m) ∧ Ints w (.slice q (T.getD i []).length m) (T.getD i []) := by
  obtain ⟨vs, h1, h2⟩ := h
  obtain ⟨u, hu, hl⟩ := h2 i hi
  have e : T.getD i [] = T[i] := by simp [List.getD, hi]
  rw [e]
  obtain ⟨q, m, rfl, _⟩ := hl.slice
  exact ⟨q, m, Sl.rd1 h1 i hu, hl⟩
/-- Owned rows of ints: all blocks from lo to below hi, no two the same. -/
def OwnT (w : World) (lo hi : Nat) (eo ei : TypeId) (v : Value) (T : List (List Int)) : Prop :=
  ∃ vs, Own w lo eo v vs ∧ vs.length = T.length ∧ (∀ (i : Nat) (u : Value), vs[i]? = some u → OwnI w lo ei u (T.getD i [])) ∧
    (∀ (i j : Nat) (u u' : Value) (g : Nat), vs[i]? = some u → vs[j]? = some u' → u.ownBlock = some g → u'.ownBlock = some g → i = j) ∧
    (∀ (i : Nat) (u : Value) (g : Nat), vs[i]? = some u → u.ownBlock = some g → g < hi ∧ v.ownBlock ≠ some g) ∧ (∀ g, v.ownBlock = some g → g < hi)
section
variable {w w' : World} {lo hi : Nat} {eo ei : TypeId} {v u : Value} {T : List (List Int)} {L : List Int}
theorem OwnT.nil (w : World) (lo hi : Nat) (eo ei : TypeId) : OwnT w lo hi eo ei (.slice none 0 0) [] :=
  ⟨[], Own.nil _ _ _, rfl, by simp, by simp, by simp, by intro g hg; cases hg⟩
theorem OwnT.tab (h : OwnT w lo hi eo ei v T) : Tab w v T := by
  obtain ⟨vs, h1, h2, h3, _⟩ := h
  refine ⟨vs, h2 ▸ h1.sl, fun i hi => ?_⟩
  have hi' : i < vs.length := by omega
  refine ⟨vs[i], by simp [hi'], ?_⟩
  have := (h3 i vs[i] (by simp [hi'])).ints
  rwa [show T.getD i [] = T[i] by simp [List.getD, hi]] at this
theorem OwnT.keep {S : Nat → Prop} (h : OwnT w lo hi eo ei v T) (hc : Ch S w w') (hs : ∀ g, lo ≤ g → g < hi → ¬ S g) : OwnT w' lo hi eo ei v T := by
  obtain ⟨vs, h1, h2, h3, h4, h5, h6⟩ := h
  exact ⟨vs, h1.keep hc fun g hg => hs g (h1.lt g hg).1 (h6 g hg), h2,
    fun i u hu => ownsRow_keep (h3 i u hu) hc fun g hg => hs g (World.ownsRow.lt (h3 i u hu) g hg).1 (h5 i u g hu hg).1, h4, h5, h6⟩
theorem OwnT.ext (h : OwnT w lo hi eo ei v T) (hc : Ext w w') : OwnT w' lo hi eo ei v T := h.keep hc fun _ _ _ e => e
theorem OwnT.raise (h : OwnT w lo hi eo ei v T) {hi' : Nat} (hh : hi ≤ hi') : OwnT w lo hi' eo ei v T := by
  obtain ⟨vs, h1, h2, h3, h4, h5, h6⟩ := h
  exact ⟨vs, h1, h2, h3, h4, fun i u g hu hg => ⟨Nat.lt_of_lt_of_le (h5 i u g hu hg).1 hh, (h5 i u g hu hg).2⟩, fun g hg => Nat.lt_of_lt_of_le (h6 g hg) hh⟩
theorem OwnT.lower (h : OwnT w lo hi eo ei v T) {lo' : Nat} (hh : lo' ≤ lo) : OwnT w lo' hi eo ei v T := by
  obtain ⟨vs, h1, h2, h3, h4, h5, h6⟩ := h
  exact ⟨vs, h1.mono hh, h2, fun i u hu => ownsRow_mono (h3 i u hu) hh, h4, h5, h6⟩
theorem OwnT.slice (h : OwnT w lo hi eo ei v T) : ∃ p c, v = .slice p T.length c ∧ T.length ≤ c := h.tab.slice
/-- A row, to be read and written. -/
theorem OwnT.row {p : Option Addr} {n c : Nat} (h : OwnT w lo hi eo ei (.slice p n c) T) {i : Nat} (hi' : i < T.length) :
    ∃ q m, Gv.rd w (pidx p i 1) = some (.slice q (T.getD i []).length m) ∧ OwnI w lo ei (.slice q (T.getD i []).length m) (T.getD i []) ∧
      (∀ g, (Value.slice q (T.getD i []).length m).ownBlock = some g → lo ≤ g ∧ g < hi) ∧
      (∀ w' L', L'.length = (T.getD i []).length → OwnI w' lo ei (.slice q (T.getD i []).length m) L' → w.grownBy w' (Value.slice q (T.getD i []).length m).ownBlock → OwnT w' lo hi eo ei (.slice p n c) (T.set i L')) := by
  obtain ⟨vs, h1, h2, h3, h4, h5, h6⟩ := h
  have hiv : i < vs.length := by omega
  have hu : vs[i]? = some vs[i] := by simp [hiv]
  have ho := h3 i vs[i] hu
  obtain ⟨q, m, hq, _⟩ := ho.ints.slice
  rw [hq] at ho hu
  refine ⟨q, m, Sl.rd1 h1.sl i hu, ho, fun g hg => ⟨(World.ownsRow.lt ho g hg).1, (h5 i _ g hu hg).1⟩, fun w' L' hl ho' hg => ?_⟩
  have hc : Ch (fun k => (Value.slice q (T.getD i []).length m).ownBlock = some k) w w' := Ch.grown hg fun k hk => hk
  refine ⟨vs, h1.keep hc fun g hg' => fun e => (h5 i _ g hu e).2 hg', by simp [h2], fun j u hj => ?_, h4, h5, h6⟩
  by_cases hji : j = i
  · subst hji
    rw [hu] at hj
    cases hj
    have : (T.set j L').getD j [] = L' := by simp [List.getD, hi']
    rw [this]
    exact ho'
  · have : (T.set i L').getD j [] = T.getD j [] := by simp [List.getD, Ne.symm hji]
    rw [this]
    exact ownsRow_keep (h3 j u hj) hc fun g hg' e => hji (h4 j i u _ g hj hu hg' e)
/-- Behind an append of a new row. -/
theorem OwnT.push {hi' : Nat} {v' : Value} (h : OwnT w lo hi eo ei v T) (hr : OwnI w lo ei u L) (hn : ∀ g, u.ownBlock = some g → hi ≤ g ∧ g < hi')
    (ha : ∀ vs, Own w lo eo v vs → Own w' lo eo v' (vs ++ [u])) (hg : w.grownBy w' v.ownBlock) (hb : ∀ g, v'.ownBlock = some g → v.ownBlock = some g ∨ w.heap.size ≤ g)
    (hhi0 : hi ≤ hi') (hhi2 : w'.heap.size ≤ hi') : OwnT w' lo hi' eo ei v' (T ++ [L]) := by
  obtain ⟨vs, h1, h2, h3, h4, h5, h6⟩ := h
  have hc : Ch (fun k => v.ownBlock = some k) w w' := Ch.grown hg fun k hk => hk
  have hlt : ∀ (i : Nat) (u' : Value) (g : Nat), vs[i]? = some u' → u'.ownBlock = some g → g < w.heap.size := fun i u' g hu hg' => (World.ownsRow.lt (h3 i u' hu) g hg').2
  have hult : ∀ g, u.ownBlock = some g → g < w.heap.size := fun g hg' => (World.ownsRow.lt hr g hg').2
  refine ⟨vs ++ [u], ha vs h1, by simp [h2], ?_, ?_, ?_, ?_⟩
  · intro i u' hu'
    rw [List.getElem?_append] at hu'
    split at hu'
    · rename_i hi2
      have : (T ++ [L]).getD i [] = T.getD i [] := by simp [List.getD, List.getElem?_append, show i < T.length by omega]
      rw [this]
      exact ownsRow_keep (h3 i u' hu') hc fun g hg' e => (h5 i u' g hu' hg').2 e
    · rename_i hi2
      have hi3 : i = vs.length := by
        have := (List.getElem?_eq_some_iff.1 hu').1
        simp at this; omega
      subst hi3
      simp at hu'
      subst hu'
      have : (T ++ [L]).getD vs.length [] = L := by simp [List.getD, h2]
      rw [this]
      exact ownsRow_keep hr hc fun g hg' e => by have := hn g hg'; have := h6 g e; omega
  · intro i j u1 u2 g hu1 hu2 hg1 hg2
    rw [List.getElem?_append] at hu1 hu2
    have last : ∀ (i : Nat) (u' : Value), ¬ i < vs.length → [u][i - vs.length]? = some u' → i = vs.length ∧ u' = u := by
      intro i u' hi2 hu'
      have := (List.getElem?_eq_some_iff.1 hu').1
      simp at this
      have hi3 : i = vs.length := by omega
      subst hi3
      simp at hu'
      exact ⟨rfl, hu'.symm⟩
    split at hu1 <;> split at hu2
    · exact h4 i j u1 u2 g hu1 hu2 hg1 hg2
    · rename_i hj
      obtain ⟨_, rfl⟩ := last j u2 hj hu2
      have := hn g hg2; have := (h5 i u1 g hu1 hg1).1; omega
    · rename_i hi2 _
      obtain ⟨_, rfl⟩ := last i u1 hi2 hu1
      have := hn g hg1; have := (h5 j u2 g hu2 hg2).1; omega
    · rename_i hi2 hj
      rw [(last i u1 hi2 hu1).1, (last j u2 hj hu2).1]
  · intro i u' g hu' hg'
    rw [List.getElem?_append] at hu'
    split at hu'
    · refine ⟨Nat.lt_of_lt_of_le (h5 i u' g hu' hg').1 hhi0, fun e => ?_⟩
      rcases hb g e with e | e
      · exact (h5 i u' g hu' hg').2 e
      · have := hlt i u' g hu' hg'; omega
    · rename_i hi2
      have := (List.getElem?_eq_some_iff.1 hu').1
      simp at this
      have hi3 : i = vs.length := by omega
      subst hi3
      simp at hu'
      subst hu'
      refine ⟨(hn g hg').2, fun e => ?_⟩
      rcases hb g e with e | e
      · have := h6 g e; have := (hn g hg').1; omega
      · have := hult g hg'; omega
  · intro g hg'
    rcases hb g hg' with e | e
    · have := h6 g e; omega
    · have h7 := ha vs h1
      have := (h7.lt g hg').2
      omega
end
section
variable {P : Program} {K : Env → World → Prop} {ρ : Env} {w : World} {d : Nat} {ty : TypeId} {pos : String} {aft : Array Edge}
variable {y : Operand} {t eo ei : TypeId} {z v u : Value} {by_ lo hi : Nat} {L : List Int} {T : List (List Int)}
/-- 'append(rows, row)' of a new row. -/
theorem r_push {ops : Array Oper} {r : List Oper} {d' dm : Nat} {ty2 : TypeId} {pos' : String} {aft' : Array Edge} (hi_ : elemI P t = some (eo, z, 1, by_)) (hzs : z.cells.size = 1) (hby : 0 < by_ ∧ by_ ≤ 1024)
    (hT : OwnT w lo hi eo ei v T) (hu : OwnI w hi ei u L) (hy : ev ρ y = u) (hx : ev (up ρ dm (.slice (some ⟨w.heap.size, 0, none⟩) 1 1)) (.tmp d') = v) (hb : T.length + 1 ≤ 137438953472) (hlo : lo ≤ hi) (hhi : hi ≤ w.heap.size)
    (h : ∀ v' w' q, OwnT w' lo w'.heap.size eo ei v' (T ++ [L]) → w.grownBy w' v.ownBlock → Ch (fun k => lo ≤ k) w w' → wl P false ops r K (up (up ρ dm q) d v') w') (hdm : Nat.beq dm 1000000 = false := by first | assumption | rfl) :
    w1 P false ⟨some dm, .buildSlice t 1 #[(0, y)], ty, pos, aft, none⟩ (wl P false ops (⟨some d, .call ⟨.builtin .append, #[.tmp d', .tmp dm], #[t, t]⟩, ty2, pos', aft', none⟩ :: r) K) ρ w := by
  obtain ⟨vs, hvs, hlen, hrest⟩ := id hT
  have h1 : u.oneCell' = true := by obtain ⟨p, c, rfl, _⟩ := hu.ints.slice; rfl
  refine r_append1_v hi_ hzs hby hvs hy hx h1 (by omega) (by omega) fun v' w' q h2 h3 h4 h5 => ?_
  have hch : Ch (fun k => lo ≤ k) w w' := Ch.grown h3 fun k hk => (hvs.lt k hk).1
  refine h v' w' q ?_ h3 hch
  refine OwnT.push (w := w) (hi := hi) hT (ownsRow_mono hu hlo) (fun g hg => ⟨(World.ownsRow.lt hu g hg).1, Nat.lt_of_lt_of_le (World.ownsRow.lt hu g hg).2 h3.size⟩) ?_ h3 h5 (Nat.le_trans hhi h3.size) (Nat.le_refl _)
  intro vs' hvs'
  have : vs' = vs := by
    have h6 := hvs'.sl
    have h7 := hvs.sl
    rcases hvs'.2 with ⟨hn, h0⟩ | ⟨g, cap, cur, hv, hb, hg, hnc, hcm, hcs, htk⟩
    · subst hn
      have h8 := List.eq_nil_of_length_eq_zero h0
      rw [h8]
      have : vs.length = 0 := by
        rcases hvs.2 with ⟨_, h0'⟩ | ⟨g, cap, cur, hv, _⟩
        · exact h0'
        · cases hv
      exact (List.eq_nil_of_length_eq_zero this).symm
    · rcases hvs.2 with ⟨hn, h0⟩ | ⟨g2, cap2, cur2, hv2, hb2, hg2, hnc2, hcm2, hcs2, htk2⟩
      · rw [hn] at hv; cases hv
      · rw [hv] at hv2
        simp only [Value.slice.injEq, Option.some.injEq, Addr.mk.injEq] at hv2
        obtain ⟨⟨hgg, _⟩, hll, _⟩ := hv2
        subst hgg
        rw [hg] at hg2
        cases hg2
        rw [← htk, ← htk2]
        congr 1
        omega
  rw [this]; exact h2
end
section
variable {P : Program} {st : Bool} {K : Env → World → Prop} {ρ : Env} {w : World} {d : Nat} {ty : TypeId} {pos : String} {aft : Array Edge} {gd : Option (Nat × Bool)}
variable {x y : Operand} {t : TypeId} {v u : Value}
/-- A variable of its own: a block of one cell. -/
def Box (w : World) (b : Nat) (t : TypeId) (v : Value) : Prop := w.heap[b]? = some (.cells #[v] t (0, 0))
theorem Box.rd {b : Nat} (h : Box w b t v) : rd w (some ⟨b, 0, none⟩) = some v := by
  simp only [Gv.rd, Option.bind_some]
  rw [cell_of_row w b 0 _ _ _ h]
  rfl
theorem Box.lt {b : Nat} (h : Box w b t v) : b < w.heap.size := (Array.getElem?_eq_some_iff.1 h).1
theorem Box.keep {w' : World} {S : Nat → Prop} {b : Nat} (h : Box w b t v) (hc : Ch S w w') (hs : ¬ S b) : Box w' b t v := by
  unfold Box; rw [hc.block b h.lt hs]; exact h
theorem Box.ext {w' : World} {b : Nat} (h : Box w b t v) (hc : Ext w w') : Box w' b t v := h.keep hc fun e => e
theorem r_box (hx : ev ρ x = v) (h1 : v.oneCell' = true)
    (h : ∀ w', Box w' w.heap.size t v → Ext w w' → w'.heap.size = w.heap.size + 1 → K (up ρ d (.pointer (some ⟨w.heap.size, 0, none⟩))) w') :
    w1 P false ⟨some d, .box t x, ty, pos, aft, gd⟩ K ρ w := by
  have hc : v.cells = #[v] := by cases v <;> first | rfl | cases h1
  refine w1_val' (v := .pointer (some ⟨w.heap.size, 0, none⟩)) (w' := w.alloc (.cells #[v] t)) ?_ (h _ (alloc_new w _) (Ch.alloc w _) (by simp))
  simp [execOp, Instr.box, newVar, newRow, newObj, hx, hc]
  rfl
theorem r_alloc {z : Value} (hi : (P.info? t).bind (·.zero) = some z) (h1 : z.oneCell' = true)
    (h : ∀ w', Box w' w.heap.size t z → Ext w w' → w'.heap.size = w.heap.size + 1 → K (up ρ d (.pointer (some ⟨w.heap.size, 0, none⟩))) w') :
    w1 P false ⟨some d, .alloc t, ty, pos, aft, gd⟩ K ρ w := by
  have hc : z.cells = #[z] := by cases z <;> first | rfl | cases h1
  cases hinfo : P.info? t with
  | none => rw [hinfo] at hi; cases hi
  | some i =>
    rw [hinfo] at hi
    simp only [Option.bind_some] at hi
    refine w1_val' (v := .pointer (some ⟨w.heap.size, 0, none⟩)) (w' := w.alloc (.cells #[z] t)) ?_ (h _ (alloc_new w _) (Ch.alloc w _) (by simp))
    simp [execOp, Instr.alloc, zeroValue, typeInfo, hinfo, hi, newVar, newRow, newObj, hc]
    rfl
theorem r_st_box {b : Nat} {u' : Value} {t' : TypeId} (hsz : P.cellsOf t = 1) (hb : Box w b t' u') (hx : ev ρ x = .pointer (some ⟨b, 0, none⟩)) (hy : ev ρ y = v) (h1 : v.oneCell' = true)
    (h : ∀ w', Box w' b t' v → Ch (fun k => k = b) w w' → w'.heap.size = w.heap.size → K ρ w') :
    w1 P false ⟨none, .store t x y, ty, pos, aft, gd⟩ K ρ w := by
  have hr := run_store1 (P := P) (w := w) (ty' := t) (u := v) (a := ⟨b, 0, none⟩) hsz h1 hb (by show 0 < 1; omega)
  refine w1_skip' (w' := w.setRow b #[v]) ?_ (h _ ?_ ?_ ?_)
  · simp [execOp, Instr.storeAt, Instr.sureAddr, hx, hy, hr]
  · exact setRow_heap w b _ _ _ _ hb
  · exact ⟨rfl, rfl, rfl, by simp, fun k _ hk => setRow_other w b k _ hk⟩
  · simp
/-- A slice against nil. -/
theorem r_eqnil {t2 : TypeId} {p : Option Addr} {n c : Nat} (ht : sliceT P t = true) (hx : ev ρ x = .slice p n c) (hy : ev ρ y = .slice none 0 0) (h : K (up ρ d (.bool (!p.isSome))) w) :
    w1 P st ⟨some d, .binOp .eql t x y t2, ty, pos, aft, gd⟩ K ρ w := by
  unfold sliceT at ht
  split at ht
  · rename_i e he
    have hq : ∀ D : Nat, (Op.equalIn (D + 1) t (.slice p n c) (.slice none 0 0)).run P w = .ok (!p.isSome) w := fun D => by
      cases p <;> simp [Op.equalIn, run_underlying he]
    refine w1_val (v := .bool (!p.isSome)) ?_ h
    have hq' := hq 9999
    simp [execOp, hx, hy, eqGuard, binOp, Op.equal, Op.maxDepth, hq']
  · cases ht
theorem r_buildS0 {e : TypeId} {z : Value} {sz by_ : Nat} (hi : elemI P t = some (e, z, sz, by_)) 
    (h : ∀ w', w'.ownsRow w.heap.size e sz (.slice (some ⟨w.heap.size, 0, none⟩) 0 0) 0 [] → Ext w w' → K (up ρ d (.slice (some ⟨w.heap.size, 0, none⟩) 0 0)) w') :
    w1 P false ⟨some d, .buildSlice t 0 #[], ty, pos, aft, gd⟩ K ρ w := by
  obtain ⟨ht, i, hi', hz, hs', hbb⟩ := elemI_spec hi
  refine w1_val' (v := .slice (some ⟨w.heap.size, 0, none⟩) 0 0) (w' := w.alloc (.cells #[] e)) ?_ (h _ ⟨by simp, .inr ⟨w.heap.size, 0, #[], rfl, Nat.le_refl _, alloc_new w _, by simp, by simp, by simp, by simp⟩⟩ (Ch.alloc w _))
  have h0 : ∀ f : Nat → Value, (Array.range 0).map f = #[] := fun f => by apply Array.ext'; simp
  simp [execOp, Instr.buildSlice, run_underlying ht, sizeOf, typeInfo, hi', Instr.fill, newRow, newObj, h0]
  rfl
end
section
variable {P : Program} {st : Bool} {K : Env → World → Prop} {ρ : Env} {w : World} {d : Nat} {ty : TypeId} {pos : String} {aft : Array Edge} {gd : Option (Nat × Bool)}
variable {x y : Operand} {t : TypeId} {v u : Value} {vs : List Value} {b k : Nat}
/-- A block of known cells: a struct behind a pointer. -/
def Blk (w : World) (b : Nat) (t : TypeId) (vs : List Value) : Prop := w.heap[b]? = some (.cells vs.toArray t (0, 0))
theorem Blk.rd (h : Blk w b t vs) {k : Nat} {v : Value} (hv : vs[k]? = some v) : Gv.rd w (some ⟨b, k, none⟩) = some v := by
  simp only [Gv.rd, Option.bind_some]
  rw [cell_of_row w b k _ _ _ h]
  simpa using hv
theorem Blk.lt (h : Blk w b t vs) : b < w.heap.size := (Array.getElem?_eq_some_iff.1 h).1
theorem Blk.keep {w' : World} {S : Nat → Prop} (h : Blk w b t vs) (hc : Ch S w w') (hs : ¬ S b) : Blk w' b t vs := by
  unfold Blk; rw [hc.block b h.lt hs]; exact h
theorem Blk.ext {w' : World} (h : Blk w b t vs) (hc : Ext w w') : Blk w' b t vs := h.keep hc fun e => e
def fldOff (P : Program) (s k : Nat) : Option Nat := match P.underlying s with
  | some (.struct fs) => (fs[k]?).bind fun f => (P.info? f.type).bind fun i => if i.size = 0 then none else some f.offset
  | _ => none
theorem r_fa {s off : Nat} {o : Nat} (hf : fldOff P s k = some off) (hx : ev ρ x = .pointer (some ⟨b, o, none⟩)) (h : K (up ρ d (.pointer (some ⟨b, o + off, none⟩))) w) :
    w1 P st ⟨some d, .fieldAddr s x k, ty, pos, aft, gd⟩ K ρ w := by
  unfold fldOff at hf
  split at hf
  · rename_i fs hs
    cases hfk : fs[k]? with
    | none => rw [hfk] at hf; cases hf
    | some f =>
      rw [hfk] at hf
      simp only [Option.bind_some] at hf
      cases hi : P.info? f.type with
      | none => rw [hi] at hf; cases hf
      | some i =>
        rw [hi] at hf
        simp only [Option.bind_some] at hf
        split at hf
        · cases hf
        · rename_i h0
          cases hf
          refine w1_val (v := .pointer (some ⟨b, o + f.offset, none⟩)) ?_ h
          simp [execOp, Instr.fieldAt, run_underlying hs, hfk, Instr.sureAddr, hx, fieldPlace, sizeOf, typeInfo, hi, h0, Addr.add_lit]
  · cases hf
theorem r_st_blk {t' : TypeId} {k : Nat} (hsz : P.cellsOf t = 1) (hb : Blk w b t' vs) (hx : ev ρ x = .pointer (some ⟨b, k, none⟩)) (hy : ev ρ y = v) (h1 : v.oneCell' = true) (hk : k < vs.length)
    (h : ∀ w', Blk w' b t' (vs.set k v) → Ch (fun k => k = b) w w' → w'.heap.size = w.heap.size → K ρ w') :
    w1 P false ⟨none, .store t x y, ty, pos, aft, gd⟩ K ρ w := by
  have hr := run_store1 (P := P) (w := w) (ty' := t) (u := v) (a := ⟨b, k, none⟩) hsz h1 hb (by show k < vs.toArray.size; simpa using hk)
  refine w1_skip' (w' := w.setRow b (vs.set k v).toArray) ?_ (h _ ?_ ?_ ?_)
  · simp [execOp, Instr.storeAt, Instr.sureAddr, hx, hy, hr]
  · exact setRow_heap w b _ _ _ _ hb
  · exact ⟨rfl, rfl, rfl, by simp, fun k _ hk => setRow_other w b k _ hk⟩
  · simp
theorem r_build {parts : List (Nat × Operand)} {cells : Array Value} (hb : P.built t (parts.map fun p => (p.1, ev ρ p.2)) = some cells) (h : K (up ρ d (.agg cells)) w) :
    w1 P st ⟨some d, .build t parts.toArray, ty, pos, aft, gd⟩ K ρ w := by
  refine w1_val (v := .agg cells) ?_ h
  have hr := run_build (P := P) w t (parts.toArray.map fun p => (p.1, ev ρ p.2)) cells (by simpa using hb)
  simp [execOp]
  simp at hr
  simp [hr]
theorem r_boxN {cells : List Value} (hx : ev ρ x = .agg cells.toArray)
    (h : ∀ w', Blk w' w.heap.size t cells → Ext w w' → w'.heap.size = w.heap.size + 1 → K (up ρ d (.pointer (some ⟨w.heap.size, 0, none⟩))) w') :
    w1 P false ⟨some d, .box t x, ty, pos, aft, gd⟩ K ρ w := by
  refine w1_val' (v := .pointer (some ⟨w.heap.size, 0, none⟩)) (w' := w.alloc (.cells cells.toArray t)) ?_ (h _ (alloc_new w _) (Ch.alloc w _) (by simp))
  simp [execOp, Instr.box, newVar, newRow, newObj, hx, Value.cells]
  rfl
end
section
variable {P : Program} {ρ : Env} {w : World} {d : Nat} {ty : TypeId} {pos : String} {aft : Array Edge} {gd : Option (Nat × Bool)} {x y : Operand} {t : TypeId} {v : Value}
theorem rv_of {o : Oper} (hd : o.dst = some d) (h : ∀ K : Env → World → Prop, K (up ρ d v) w → w1 P true o K ρ w) (hn : ∀ n w', (execOp (ev ρ) o).run P w = .ok n w' → ∃ u, n = .value u) : (execOp (ev ρ) o).run P w = .ok (.value v) w := by
  have := h (fun ρ' _ => ρ' d = v) (up_same _ _ _)
  rw [show w1 P true o (fun ρ' _ => ρ' d = v) ρ w = After P true o.dst (fun ρ' _ => ρ' d = v) ρ w ((execOp (ev ρ) o).run P w) from by unfold w1; rfl] at this
  generalize hr : (execOp (ev ρ) o).run P w = r at *
  cases r with
  | halt a b => cases a <;> exact this.elim
  | ok n w' =>
    obtain ⟨u, rfl⟩ := hn n w' rfl
    obtain ⟨h1, h2⟩ := this
    have := h1 rfl; subst this
    rw [hd] at h2
    simp only [upo, up_same] at h2
    rw [h2]
theorem val_of {s : Sem Value} {n : Next} {w' : World} (h : (do pure (Next.value (← s)) : Sem Next).run P w = .ok n w') : ∃ u, n = .value u := by
  rw [Sem.run_bind] at h
  cases hs : s.run P w with
  | ok a w1 => rw [hs] at h; simp at h; exact ⟨a, h.1.symm⟩
  | halt a w1 => rw [hs] at h; simp at h
theorem rv_move : (execOp (ev ρ) ⟨some d, .move x, ty, pos, aft, gd⟩).run P w = .ok (.value (ev ρ x)) w := rfl
theorem rv_ld {p : Option Addr} (ht : cellT P t = true) (hx : ev ρ x = .pointer p) (hp : rd w p = some v) : (execOp (ev ρ) ⟨some d, .load t x, ty, pos, aft, gd⟩).run P w = .ok (.value v) w :=
  rv_of rfl (fun _ h => r_ld ht hx hp h) fun _ _ h => val_of h
theorem rv_fa {s k off b o : Nat} (hf : fldOff P s k = some off) (hx : ev ρ x = .pointer (some ⟨b, o, none⟩)) : (execOp (ev ρ) ⟨some d, .fieldAddr s x k, ty, pos, aft, gd⟩).run P w = .ok (.value (.pointer (some ⟨b, o + off, none⟩))) w :=
  rv_of rfl (fun _ h => r_fa hf hx h) fun _ _ h => val_of h
theorem rv_nil {p : Addr} (hx : ev ρ x = .pointer (some p)) : (execOp (ev ρ) ⟨some d, .nilCheck x, ty, pos, aft, gd⟩).run P w = .ok (.value (.pointer (some p))) w := by simp [execOp, hx]
theorem rv_idx {sz : Nat} {p : Option Addr} {n c : Nat} {k : IntKind} {a : Int} (ht : sliceSz P t = some sz) (hx : ev ρ x = .slice p n c) (hy : ev ρ y = .int k a) (hp : p.isSome = true) (h0 : 0 ≤ a) (h1 : a < n) :
    (execOp (ev ρ) ⟨some d, .indexAddr t x y, ty, pos, aft, gd⟩).run P w = .ok (.value (.pointer (pidx p a.toNat sz))) w :=
  rv_of rfl (fun _ h => r_idx ht hx hy hp h0 h1 h) fun _ _ h => val_of h
end
def boolT (P : Program) (t : TypeId) : Bool := match P.underlying t with | some .bool => true | _ => false
theorem r_neqB {P : Program} {st : Bool} {K : Env → World → Prop} {ρ : Env} {w : World} {d : Nat} {ty : TypeId} {pos : String} {aft : Array Edge} {gd : Option (Nat × Bool)} {x y : Operand} {t t2 : TypeId} {a b : Bool}
    (ht : boolT P t = true) (hx : ev ρ x = .bool a) (hy : ev ρ y = .bool b) (h : K (up ρ d (.bool (a != b))) w) : w1 P st ⟨some d, .binOp .neq t x y t2, ty, pos, aft, gd⟩ K ρ w := by
  unfold boolT at ht
  split at ht
  · rename_i he
    have hq : ∀ D : Nat, (Op.equalIn (D + 1) t (.bool a) (.bool b)).run P w = .ok (a == b) w := fun D => by simp [Op.equalIn, run_underlying he]
    refine w1_val (v := .bool (a != b)) ?_ h
    have hq' := hq 9999
    simp [execOp, hx, hy, eqGuard, binOp, Op.equal, Op.maxDepth, hq']
    cases a <;> cases b <;> rfl
  · cases ht
end Gv
end Go.Proofs.YtocgehoffdjijaaGreat

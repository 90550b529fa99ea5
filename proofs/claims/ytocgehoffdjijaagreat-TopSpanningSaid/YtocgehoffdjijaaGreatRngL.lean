/- Ranges over functions: the rule, and what abides the book-keeping. -/
import Derived.Test.YtocgehoffdjijaaGreatMaps
import Derived.Test.YtocgehoffdjijaaGreatPairs
namespace Go.Proofs.YtocgehoffdjijaaGreat
namespace Gv
theorem Nx.ext {w w' : World} (h : Nx w w') : Ext w w' := ⟨h.1, h.2.1, h.2.2.1, h.2.2.2.1, fun k hk _ => h.2.2.2.2 k hk⟩
theorem Ext.nx {w w' : World} (h : Ext w w') : Nx w w' := ⟨h.os, h.tape, h.output, h.size, fun k hk => h.block k hk fun e => e⟩
/-- A block that is none of the book-keeping's. -/
def CM (w : World) (k : Nat) : Prop := (∀ r, w.heap[k]? ≠ some (.loop r)) ∧ ∀ ds, w.heap[k]? ≠ some (.deferred ds)
theorem CM.cells {w : World} {k : Nat} {c : Array Value} {t : TypeId} {r : Nat × Nat} (h : w.heap[k]? = some (.cells c t r)) : CM w k := ⟨fun _ e => (by rw [h] at e; cases e), fun _ e => (by rw [h] at e; cases e)⟩
theorem CM.map {w : World} {k : Nat} {m : Array MapEntry} {c : Nat} (h : w.heap[k]? = some (.map m c)) : CM w k := ⟨fun _ e => (by rw [h] at e; cases e), fun _ e => (by rw [h] at e; cases e)⟩
theorem CM.out {w : World} {k : Nat} (h : w.heap.size ≤ k) : CM w k := by
  have : w.heap[k]? = none := Array.getElem?_eq_none h
  exact ⟨fun _ e => (by rw [this] at e; cases e), fun _ e => (by rw [this] at e; cases e)⟩
theorem Box.cm {w : World} {b : Nat} {t : TypeId} {v : Value} (h : Box w b t v) : CM w b := .cells h
theorem Blk.cm {w : World} {b : Nat} {t : TypeId} {vs : List Value} (h : Blk w b t vs) : CM w b := .cells h
theorem MapF.cm {κ : Type} [DecidableEq κ] {enc : κ → Value} {w : World} {b : Nat} {F : κ → Option Value} (h : MapF enc w b F) : CM w b := by
  obtain ⟨m, c, h1, _⟩ := h; exact .map h1.1
theorem row_cm {w : World} {base sz n : Nat} {e : TypeId} {v : Value} {xs : List Value} (h : w.ownsRow base e sz v n xs) {g : Nat} (hg : v.ownBlock = some g) : CM w g := by
  rcases h.2 with ⟨rfl, _⟩ | ⟨g', cap, cells, rfl, _, hh, _⟩
  · cases hg
  · cases hg; exact .cells hh
theorem CM.not {B : Nat} {w : World} {k : Nat} (hk : CM w k) : ¬ (B ≤ k ∧ ∃ r, w.heap[k]? = some (.loop r)) := fun ⟨_, r, hr⟩ => hk.1 r hr
section
variable {B : Nat} {w w' : World} (h : Lk B w w')
include h
theorem Lk.ch : Ch (fun k => B ≤ k ∧ ∃ r, w.heap[k]? = some (.loop r)) w w' := ⟨h.os, h.tape, h.output, h.size, fun k hk hn => h.block k hk fun hB r hr => hn ⟨hB, r, hr⟩⟩
theorem Ch.lk {S : Nat → Prop} {w0 : World} (hc : Ch S w0 w) (hB : w0.heap.size ≤ B) : Ch S w0 w' := hc.trans' h.ch fun k hk e => by omega
theorem Ext.lk {w0 : World} (hc : Ext w0 w) (hB : w0.heap.size ≤ B) : Ext w0 w' := Ch.lk h hc hB
theorem row_lk {base sz n : Nat} {e : TypeId} {v : Value} {xs : List Value} (hr : w.ownsRow base e sz v n xs) : w'.ownsRow base e sz v n xs := ownsRow_keep hr h.ch fun _ hg => CM.not (row_cm hr hg)
theorem OwnI.lk {base : Nat} {e : TypeId} {v : Value} {L : List Int} (hr : OwnI w base e v L) : OwnI w' base e v L := row_lk h hr
theorem OwnP.lk {base : Nat} {e : TypeId} {v : Value} {L : List (Int × Int)} (hr : OwnP w base e v L) : OwnP w' base e v L := row_lk h hr
theorem Box.lk {b : Nat} {t : TypeId} {v : Value} (hb : Box w b t v) : Box w' b t v := hb.keep h.ch (CM.not hb.cm)
theorem Blk.lk {b : Nat} {t : TypeId} {vs : List Value} (hb : Blk w b t vs) : Blk w' b t vs := hb.keep h.ch (CM.not hb.cm)
theorem MapF.lk {κ : Type} [DecidableEq κ] {enc : κ → Value} {b : Nat} {F : κ → Option Value} (hb : MapF enc w b F) : MapF enc w' b F := hb.keep h.ch (CM.not hb.cm)
theorem Mk.lk {M : List Nat} (hM : Mk M w) : Mk M w' := ⟨hM.1, fun D hD => by
  have h1 := hM.2 D hD
  rw [h.block D (Array.getElem?_eq_some_iff.1 h1).1 (fun _ r e => by rw [h1] at e; cases e)]; exact h1⟩
end
theorem KpB.of_ch {B : Nat} {S : Nat → Prop} {w w' : World} (h : Ch S w w') (hs : ∀ k, S k → CM w k) : KpB B w w' := by
  intro k _ o ho hk
  have hlt : k < w.heap.size := (Array.getElem?_eq_some_iff.1 ho).1
  rw [h.block k hlt fun e => ?_]
  · exact ho
  · have := hs k e
    rcases hk with ⟨r, rfl⟩ | ⟨ds, rfl⟩
    · exact this.1 r ho
    · exact this.2 ds ho
theorem KpB.of_ext {B : Nat} {w w' : World} (h : Ext w w') : KpB B w w' := KpB.of_ch h fun _ e => e.elim
theorem Mk.ch {M : List Nat} {S : Nat → Prop} {w w' : World} (hM : Mk M w) (h : Ch S w w') (hs : ∀ k, S k → CM w k) : Mk M w' := ⟨hM.1, fun D hD => by
  have h1 := hM.2 D hD
  rw [h.block D (Array.getElem?_eq_some_iff.1 h1).1 (fun e => (hs D e).2 _ h1)]; exact h1⟩
theorem Mk.ext {M : List Nat} {w w' : World} (hM : Mk M w) (h : Ext w w') : Mk M w' := hM.ch h fun _ e => e.elim
theorem Mk.lt {M : List Nat} {w : World} (hM : Mk M w) {D : Nat} (hD : D ∈ M) : D < w.heap.size := (Array.getElem?_eq_some_iff.1 (hM.2 D hD)).1
theorem Mk.cons {M : List Nat} {w0 w : World} (hM : Mk M w) (h0 : Mk M w0) (hD : w.heap[w0.heap.size]? = some (.deferred (some []))) : Mk (w0.heap.size :: M) w :=
  ⟨List.nodup_cons.2 ⟨fun hm => by have := h0.lt hm; omega, hM.1⟩, fun D hm => by
    rcases List.mem_cons.1 hm with rfl | hm
    · exact hD
    · exact hM.2 D hm⟩
theorem closeM_ch : ∀ (M : List Nat) (w : World), Ch (fun k => k ∈ M) w (closeM M w) ∧ (closeM M w).heap.size = w.heap.size
  | [], w => ⟨Ch.refl _ w, rfl⟩
  | D :: M, w => by
    obtain ⟨h1, h2⟩ := closeM_ch M (w.putObj D (.deferred none))
    refine ⟨Ch.trans' (S := fun k => k ∈ D :: M) (b := w.putObj D (.deferred none)) ⟨rfl, rfl, rfl, by simp, fun k _ hk => World.putObj_heap_other (by rintro rfl; exact hk (by simp))⟩ h1 fun k _ hk => List.mem_cons_of_mem _ hk, ?_⟩
    show (closeM M _).heap.size = _
    rw [h2]; simp
section
variable {P : Program} {fn : Func} {R : Value → World → Prop} {ρ : Env} {w : World} {t u : Nat} {v v1 v2 : Value}
theorem postK1 (M : List Nat) (hm : ρ 1000000 = mkv M) (hM : Mk M w) (h : fn.results = #[.tmp t]) (hv : ρ t = v) (hR : ∀ w', Ch (fun k => k ∈ M) w w' → R v w') (ht : t ≠ 1000000 := by decide) : post P fn R .ret ρ w :=
  ⟨M, hm, hM, v, hv ▸ res1 h ρ _ ht, hR _ (closeM_ch M w).1⟩
theorem postK2 (M : List Nat) (hm : ρ 1000000 = mkv M) (hM : Mk M w) (h : fn.results = #[.tmp t, .tmp u]) (h1 : ρ t = v1) (h2 : ρ u = v2) (hR : ∀ w', Ch (fun k => k ∈ M) w w' → R (.tuple #[v1, v2]) w') (ht : t ≠ 1000000 := by decide) (hu : u ≠ 1000000 := by decide) : post P fn R .ret ρ w :=
  ⟨M, hm, hM, _, by have := res2 (P := P) h ρ (closeM M w) ht hu; rw [h1, h2] at this; exact this, hR _ (closeM_ch M w).1⟩
end
theorem Kt.of_ch {T : TypeId} {S : Nat → Prop} {w w' : World} (h : Ch S w w') (hs : ∀ k, S k → ∀ c r, w.heap[k]? ≠ some (.cells c T r)) : Kt T w w' := fun k c r hk => by
  rw [h.block k (Array.getElem?_eq_some_iff.1 hk).1 fun e => hs k e c r hk]; exact hk
theorem Kt.of_ext {T : TypeId} {w w' : World} (h : Ext w w') : Kt T w w' := Kt.of_ch h fun _ e => e.elim
theorem Blk.kt {T : TypeId} {w w' : World} {b : Nat} {vs : List Value} (hb : Blk w b T vs) (h : Kt T w w') : Blk w' b T vs := h _ _ _ hb
/-- The rule, where two ints come. -/
theorem wc_range {P : Program} {g : Operand} {p1 p2 : Nat} {a b : Code} {Q : Exit → Env → World → Prop} {ρ : Env} {w : World} {f : FuncId} {lb : List Value}
    (items : List (Int × Int)) (T : TypeId) (Dt : World → Prop) (I : Nat → World → Prop) (asg : Int → Int → Env) (M : List Nat)
    (hM : ρ 1000000 = mkv M) (hg : ev ρ g = .func (.func f) #[] lb.toArray) (hf : callable P f = true) (hit : IterC P f lb (items.map fun x => [.int .i64 x.1, .int .i64 x.2]) T Dt)
    (hDt : ∀ W W', Lk w.heap.size W W' → Dt W → Dt W') (hI : ∀ i W W', Lk w.heap.size W W' → I i W → I i W') (hD0 : Dt w) (hI0 : I 0 w)
    (hasg : ∀ (k u : Int) (W : World), wc P a (fun e ρ' w' => e = .normal ∧ ρ' = asg k u ∧ w' = W) (up (up (up ρ 1000000 (mkv [])) p1 (.int .i64 k)) p2 (.int .i64 u)) W)
    (hbody : ∀ (i : Nat) (W : World) (k u : Int), items[i]? = some (k, u) → w.heap.size ≤ W.heap.size → I i W → Dt W → wc P b (rndQ w.heap.size W (fun w' => I (i + 1) w' ∧ Dt w' ∧ Kt T W w')) (asg k u) W)
    (hdone : ∀ W, I items.length W → W.heap[w.heap.size]? = some (.deferred (some [])) → Q .normal (up ρ 1000000 (mkv (w.heap.size :: M))) W) :
    wc P (.rangeFunc g #[p1, p2] a b) Q ρ w := by
  have hx : ∀ {i : Nat} {x : List Value}, (items.map fun x => [Value.int .i64 x.1, .int .i64 x.2])[i]? = some x → ∃ k u, items[i]? = some (k, u) ∧ x = [.int .i64 k, .int .i64 u] := by
    intro i x h
    rw [List.getElem?_map] at h
    cases hi : items[i]? with
    | none => rw [hi] at h; cases h
    | some ku => rw [hi] at h; simp at h; exact ⟨ku.1, ku.2, rfl, h.symm⟩
  refine wc_rangeFunc ⟨f, lb, items.map fun x => [.int .i64 x.1, .int .i64 x.2], T, Dt, I, fun x => match x with | [.int _ k, .int _ u] => asg k u | _ => ρ, M, hM, hg, fun args w => run_callFunc hf w, hit, ?_, hDt, hI, hD0, hI0, ?_, ?_, ?_⟩
  · intro x hx
    obtain ⟨ku, _, rfl⟩ := List.mem_map.1 hx
    rfl
  · intro i W x h
    obtain ⟨k, u, _, rfl⟩ := hx h
    exact hasg k u W
  · intro i W x h hs hi hd
    obtain ⟨k, u, hku, rfl⟩ := hx h
    exact hbody i W k u hku hs hi hd
  · intro W hi hk
    rw [List.length_map] at hi
    exact hdone W hi hk
/-- As above; the slots behind the assigns are found by their walk. -/
theorem wc_rangeE {P : Program} {g : Operand} {p1 p2 : Nat} {a b : Code} {Q : Exit → Env → World → Prop} {ρ : Env} {w : World} {f : FuncId} {lb : List Value}
    (items : List (Int × Int)) (T : TypeId) (Dt : World → Prop) (I : Nat → World → Prop) (M : List Nat)
    (hM : ρ 1000000 = mkv M) (hg : ev ρ g = .func (.func f) #[] lb.toArray) (hf : callable P f = true) (hit : IterC P f lb (items.map fun x => [.int .i64 x.1, .int .i64 x.2]) T Dt)
    (hDt : ∀ W W', Lk w.heap.size W W' → Dt W → Dt W') (hI : ∀ i W W', Lk w.heap.size W W' → I i W → I i W') (hD0 : Dt w) (hI0 : I 0 w)
    (hbody : ∃ asg : Int → Int → Env, (∀ (k u : Int) (W : World), wc P a (fun e ρ' w' => e = .normal ∧ ρ' = asg k u ∧ w' = W) (up (up (up ρ 1000000 (mkv [])) p1 (.int .i64 k)) p2 (.int .i64 u)) W) ∧
      ∀ (i : Nat) (W : World) (k u : Int), items[i]? = some (k, u) → w.heap.size ≤ W.heap.size → I i W → Dt W → wc P b (rndQ w.heap.size W (fun w' => I (i + 1) w' ∧ Dt w' ∧ Kt T W w')) (asg k u) W)
    (hdone : ∀ W, I items.length W → W.heap[w.heap.size]? = some (.deferred (some [])) → Q .normal (up ρ 1000000 (mkv (w.heap.size :: M))) W) :
    wc P (.rangeFunc g #[p1, p2] a b) Q ρ w := by
  obtain ⟨asg, h1, h2⟩ := hbody
  exact wc_range items T Dt I asg M hM hg hf hit hDt hI hD0 hI0 h1 h2 hdone
end Gv
end Go.Proofs.YtocgehoffdjijaaGreat

/- bags: newSharing, shared; bags: full; bags: Densest. -/
import Derived.Test.YtocgehoffdjijaaGreatBU
import Derived.Test.YtocgehoffdjijaaGreatBPG
import Derived.Test.YtocgehoffdjijaaGreatBY
/- bags: newSharing, shared. -/
namespace Go.Proofs.YtocgehoffdjijaaGreat
namespace Bg
set_option maxRecDepth 20000
open Gv
theorem built89 (n most whole : Int) (q' q : Option Addr) (a' c' a c : Nat) : Tryz.prog.built 130 [(0, .agg #[.int .i64 n, .slice q' a' c']), (1, .int .i64 most), (2, .int .i64 whole), (3, .slice q a c)] =
    some (.int .i64 n :: .slice q' a' c' :: .int .i64 most :: .int .i64 whole :: .slice q a c :: ints (List.replicate 16 0)).toArray := by kernel_rfl
theorem fo48_0 : fldOff Tryz.prog 47 0 = some 0 := by kernel_rfl
theorem fo48_1 : fldOff Tryz.prog 47 1 = some 1 := by kernel_rfl
set_option maxRecDepth 20000 in
set_option maxHeartbeats 4000000 in
theorem newSharing_any (n num den : Int) (ve : Value) (L : List (Int × Int)) (w : World) (h : Pairs2 w ve L) (hl : L.length ≤ 1000) (hel : ∀ g, ve.ownBlock = some g → g < w.heap.size) :
    Calls Tryz.prog 108 #[.agg #[.int .i64 n, ve], .agg #[.int .i64 num, .int .i64 den]] w (Ret fun v w' => ∃ b q c, v = .pointer (some ⟨b, 0, none⟩) ∧ ShW w' b w.heap.size n num den ve q c L (List.replicate L.length (0, 0)) (List.replicate 16 0) ∧ Ext w w') := by
  obtain ⟨qe, ce, rfl, hqe⟩ := h.slice
  refine calls_of_wc (args := [.agg #[.int .i64 n, .slice qe L.length ce], .agg #[.int .i64 num, .int .i64 den]]) Tryz.func108 rfl ?_ ?_; kernel_rfl
  repeat' (first|refine za ?_|refine zc ?_|refine zd ?_)
  refine r_boxN (cells := [.int .i64 n, .slice qe L.length ce]) rfl fun w1 hb1 hE1 hs1 => ?_
  obtain ⟨b1, eb1⟩ : ∃ b, b = w.heap.size := ⟨_, rfl⟩
  rw [← eb1] at hb1 ⊢
  repeat' (refine za ?_)
  refine r_boxN (cells := [.int .i64 num, .int .i64 den]) rfl fun w2 hb2 hE2 hs2 => ?_
  obtain ⟨b2, eb2⟩ : ∃ b, b = w1.heap.size := ⟨_, rfl⟩
  rw [← eb2] at hb2 ⊢
  have hb1 := hb1.ext hE2
  have hE12 := hE1.trans hE2
  have hszd : w2.drew.heap.size = w2.heap.size := rfl
  repeat' (first|refine za ?_|refine zB ?_|refine zb ?_|refine zc ?_|refine ze ?_)
  refine wc_heldB (fun w' => Ext w2 w') (.take 0 (.take 1 (.take 2 (.take 3 (.take 4 (.take 5 (.take 6 (.take 7 (.one 8 (.one 9 (.one 10 (.one 11 .done)))))))))))) (by kernel_rfl) (by kernel_rfl) (Ext.drew w2) ?_
  refine whB_take rfl rfl (fun w' hw' => rv_of rfl (fun _ h => r_ldN (vs := [.int .i64 n, .slice qe L.length ce]) ag72 (by decide) (hb1.ext hw') rfl rfl h) fun _ _ h => val_of h) ?_
  refine whB_take rfl rfl (fun w' hw' => rv_faE (o' := 0) fo48_0 rfl rfl) ?_
  refine whB_take rfl rfl (fun w' hw' => rv_ld rfl rfl ((hb2.ext hw').rd (v := .int .i64 num) rfl)) ?_
  refine whB_take rfl rfl (fun w' hw' => rv_faE (o' := 1) fo48_1 rfl rfl) ?_
  refine whB_take rfl rfl (fun w' hw' => rv_ld rfl rfl ((hb2.ext hw').rd (v := .int .i64 den) rfl)) ?_
  refine whB_take rfl rfl (fun w' hw' => rv_faE (o' := 1) fo72_1 rfl rfl) ?_
  refine whB_take rfl rfl (fun w' hw' => rv_ld rfl rfl ((hb1.ext hw').rd (v := .slice qe L.length ce) rfl)) ?_
  refine whB_take rfl rfl (fun w' hw' => rv_of rfl (fun _ h => r_len rfl rfl h) fun _ _ h => val_of h) ?_
  refine whB_one rfl rfl ?_
  refine r_make_p el49 rfl rfl (by omega) fun w3 hP3 hE3 hs3 => ?_
  have hX3 := (Ext.drew w2).trans hE3
  refine ⟨hX3, whB_one rfl rfl ?_⟩
  refine r_build (built89 n num den _ _ _ _ _ _) ?_
  refine ⟨hX3, whB_one rfl rfl ?_⟩
  refine r_boxN rfl fun w4 hB4 hE4 hs4 => ?_
  obtain ⟨b4, eb4⟩ : ∃ b, b = w3.heap.size := ⟨_, rfl⟩
  rw [← eb4] at hB4 ⊢
  have hX4 := hX3.trans hE4
  refine ⟨hX4, whB_one rfl rfl ?_⟩
  refine r_assign_v (v := .pointer (some ⟨b4, 0, none⟩)) rfl ?_
  refine ⟨hX4, whB_done ?_⟩
  have hE := hE12.trans hX4
  repeat' (first|refine ze ?_|refine zn ?_)
  refine post1 (v := .pointer (some ⟨b4, 0, none⟩)) rfl rfl ⟨b4, some ⟨w2.drew.heap.size, 0, none⟩, L.length, rfl, ⟨?_, by simp, ?_, h.ext hE, fun g hg => by have := hel g hg; omega, ?_, by simp⟩, hE⟩
  · rw [List.length_replicate]; exact hB4
  · rw [List.length_replicate]; refine ownsRow_mono (ownsRow_ext hP3 hE4) ?_; have := hE12.size; omega
  · omega
/-- What 'shared' returns. -/
def SharR (n num den : Int) (ve : Value) (L : List (Int × Int)) (w w' : World) (v : Value) : Prop :=
  (∃ b q c Sh Ld, v = .tuple #[.pointer (some ⟨b, 0, none⟩), .slice none 0 0] ∧ ShW w' b w.heap.size n num den ve q c L Sh Ld ∧ Shr L Sh Ld num den ∧ ∀ k, k < L.length → sm Sh k = den) ∨
  (∃ S g c, v = .tuple #[.pointer none, .slice (some ⟨g, 0, none⟩) S.length c] ∧ OwnI w' w.heap.size 3 (.slice (some ⟨g, 0, none⟩) S.length c) S ∧ Asc S ∧ 0 < S.length ∧ (∀ v, v ∈ S → 0 ≤ v ∧ v < n) ∧ num * S.length < den * insM L S)
set_option maxRecDepth 20000 in
set_option maxHeartbeats 4000000 in
theorem shared_any (n num den : Int) (ve : Value) (L : List (Int × Int)) (w : World) (h : Pairs2 w ve L) (hl : L.length ≤ 1000) (hel : ∀ g, ve.ownBlock = some g → g < w.heap.size)
    (hG : ∀ k, k < L.length → 0 ≤ (ed L k).1 ∧ (ed L k).1 < (ed L k).2 ∧ (ed L k).2 < n) (hn : 1 ≤ n ∧ n ≤ 16) (hm : 0 ≤ num ∧ num ≤ 1000000) (hw : 0 ≤ den ∧ den ≤ 1000000) :
    Calls Tryz.prog 64 #[.agg #[.int .i64 n, ve], .agg #[.int .i64 num, .int .i64 den]] w (Ret fun v w' => SharR n num den ve L w w' v ∧ Ext w w') := by
  obtain ⟨qe, ce, rfl, hqe⟩ := h.slice
  refine calls_of_wc (args := [.agg #[.int .i64 n, .slice qe L.length ce], .agg #[.int .i64 num, .int .i64 den]]) Tryz.func64 rfl ?_ ?_; kernel_rfl
  repeat' (first|refine za ?_|refine zc ?_|refine zd ?_)
  refine r_boxN (cells := [.int .i64 n, .slice qe L.length ce]) rfl fun w1 hb1 hE1 hs1 => ?_
  obtain ⟨b1, eb1⟩ : ∃ b, b = w.heap.size := ⟨_, rfl⟩
  rw [← eb1] at hb1 ⊢
  repeat' (refine za ?_)
  refine r_boxN (cells := [.int .i64 num, .int .i64 den]) rfl fun w2 hb2 hE2 hs2 => ?_
  obtain ⟨b2, eb2⟩ : ∃ b, b = w1.heap.size := ⟨_, rfl⟩
  rw [← eb2] at hb2 ⊢
  have hb1 := hb1.ext hE2
  have hE12 := hE1.trans hE2
  repeat' (first|refine za ?_|refine zB ?_|refine zb ?_|refine zc ?_|refine ze ?_|refine zd ?_)
  refine r_ldN (vs := [.int .i64 n, .slice qe L.length ce]) ag72 (by decide) hb1 rfl rfl ?_
  repeat' (refine za ?_)
  refine r_ldN (vs := [.int .i64 num, .int .i64 den]) ag48 (by decide) hb2 rfl rfl ?_
  repeat' (refine za ?_)
  (refine r_call (R := ?_) rfl ?_ ?_; rotate_left 1; focus exact newSharing_any n num den _ L w2 (h.ext hE12) hl (fun g hg => by have := hel g hg; have := hE12.size; omega))
  rintro _ w3 ⟨b, q, c, rfl, hW, hE3⟩
  repeat' (first|refine za ?_|refine zB ?_|refine zb ?_|refine zc ?_|refine ze ?_|refine zd ?_)
  refine r_faE (o' := 1) fo72_1 rfl rfl ?_
  repeat' (refine za ?_)
  refine r_ld rfl rfl ((hb1.ext hE3).rd (v := .slice qe L.length ce) rfl) ?_
  repeat' (first|refine za ?_|refine zA ?_|refine zb ?_|refine ze ?_|refine zK ?_|refine zl ?_)
  refine wc_loop3 [6, 14] (fun (i : Nat) (_ : List (Int × Int)) (_ : List Int) => [(15, .int .i64 i)]) (fun i Sh Ld wk => i ≤ L.length ∧ ShW wk b w2.heap.size n num den (.slice qe L.length ce) q c L Sh Ld ∧ Shr L Sh Ld num den ∧ (∀ k, k < i → sm Sh k = den) ∧ Ext w2 wk) (fun i _ _ => L.length - i) 0 _ _ rfl ⟨rfl, trivial⟩
    ⟨by omega, hW, Shr.zero hm.1 hw.1, fun k hk => by omega, hE3⟩ ?_
  rintro i Sh Ld wk x ⟨hi, hWk, hS, hgiven, hEk⟩
  by_cases hin : i < L.length
  · repeat' (first|refine za ?_|refine zA ?_|refine zB ?_|refine zb ?_|refine zc ?_|refine ze ?_|refine zd ?_|refine zC ?_|refine zX ?_|refine zk ?_|refine zl ?_)
    (refine r_call (R := ?_) rfl ?_ ?_; rotate_left 1; focus exact give_any _ b _ n num den _ q c L Sh Ld hWk hS hG hn hl i hin hm hw)
    rintro v wm ⟨Sh', Ld', hWm, hSm, hsm, hCm, hR⟩
    have hEm : Ext w2 wm := Ch.trans' hEk hCm fun k hk e => by
      rcases e with rfl | e
      · have := hWk.bblk; omega
      · rw [← hWk.len] at e; have := (hWk.ne e).1; omega
    rcases hR with ⟨rfl, hsi⟩ | ⟨S, hOS, ⟨g, cg, rfl⟩, hAsc, hpos, hclo, hbi, hlt⟩
    · repeat' (first|refine za ?_|refine zA ?_|refine zB ?_|refine zb ?_|refine zc ?_|refine ze ?_|refine zd ?_)
      refine r_neqnil_f rfl rfl rfl ?_
      repeat' (first|refine za ?_|refine zA ?_|refine zb ?_|refine ze ?_|refine zd ?_|refine zI ?_|refine zY ?_|refine zk ?_|refine zh ?_)
      refine ⟨i + 1, Sh', Ld', ⟨rfl, trivial⟩, ⟨by omega, hWm, hSm, fun k hk => ?_, hEm⟩, by omega⟩
      by_cases e : k = i
      · subst e; exact hsi
      · rw [hsm k (by omega) e]; exact hgiven k (by omega)
    · repeat' (first|refine za ?_|refine zA ?_|refine zB ?_|refine zb ?_|refine zc ?_|refine ze ?_|refine zd ?_)
      refine r_neqnil_t rfl rfl rfl rfl ?_
      repeat' (first|refine za ?_|refine zA ?_|refine zB ?_|refine zb ?_|refine zc ?_|refine ze ?_|refine zd ?_|refine zX ?_|refine zn ?_|refine zf ?_|refine zi ?_)
      refine post2 (v1 := .pointer none) (v2 := .slice (some ⟨g, 0, none⟩) S.length cg) rfl rfl rfl ⟨.inr ⟨S, g, cg, rfl, ownsRow_mono hOS ?_, hAsc, hpos, hclo.rng, hclo.denser hSm hn.2 hAsc.nodup hin hbi hlt⟩, hE12.trans hEm⟩
      have := hEk.size; have := hE12.size; omega
  · have : i = L.length := by omega
    subst this
    repeat' (first|refine za ?_|refine zA ?_|refine zB ?_|refine zb ?_|refine zc ?_|refine ze ?_|refine zd ?_|refine zC ?_|refine zY ?_|refine zm ?_|refine zn ?_|refine zg ?_|refine zj ?_)
    have hsz := hE12.size
    refine post2 (v1 := .pointer (some ⟨b, 0, none⟩)) (v2 := .slice none 0 0) rfl rfl rfl ⟨.inl ⟨b, q, c, Sh, Ld, rfl, ⟨hWk.blk, hWk.ldlen, ownsRow_mono hWk.own hsz, hWk.edg, hel, by have := hWk.bblk; omega, hWk.len⟩, hS, hgiven⟩, hE12.trans hEk⟩
end Bg
end Go.Proofs.YtocgehoffdjijaaGreat
/- bags: full. -/
namespace Go.Proofs.YtocgehoffdjijaaGreat
namespace Bg
set_option maxRecDepth 20000
open Gv
theorem mp100 : mapT Tryz.prog 171 = some (3, 4, .bool false) := by kernel_rfl
theorem z100 : (Tryz.prog.info? 171).bind (·.zero) = some (.map none) := by kernel_rfl
/-- A map of bools that answers as fr. -/
def FrM (w : World) (bm : Nat) (fr : Int → Bool) : Prop := ∃ F, MapF encI w bm F ∧ ∀ v, (F v).getD (.bool false) = .bool (fr v)
section
variable {w w' : World} {bm : Nat} {fr : Int → Bool}
theorem FrM.keep {S : Nat → Prop} (h : FrM w bm fr) (hc : Ch S w w') (hs : ¬ S bm) : FrM w' bm fr := by obtain ⟨F, h1, h2⟩ := h; exact ⟨F, h1.keep hc hs, h2⟩
theorem FrM.ext (h : FrM w bm fr) (hc : Ext w w') : FrM w' bm fr := h.keep hc fun e => e
theorem FrM.lk {B : Nat} (h : FrM w bm fr) (hl : Lk B w w') : FrM w' bm fr := by obtain ⟨F, h1, h2⟩ := h; exact ⟨F, h1.lk hl, h2⟩
theorem FrM.cm (h : FrM w bm fr) : CM w bm := by obtain ⟨F, h1, h2⟩ := h; exact h1.cm
theorem FrM.nobox (h : FrM w bm fr) {c : Array Value} {t : TypeId} {r : Nat × Nat} : w.heap[bm]? ≠ some (.cells c t r) := by
  obtain ⟨F, ⟨m, cl, h1, _⟩, _⟩ := h
  intro e; rw [h1.1] at e; cases e
end
def notFr (fr : Int → Bool) : Nat → List Int
  | 0 => []
  | m + 1 => notFr fr m ++ if fr m then [] else [(m : Int)]
theorem notFr_mem {fr : Int → Bool} {v : Int} : ∀ {m : Nat}, v ∈ notFr fr m ↔ 0 ≤ v ∧ v < m ∧ fr v = false
  | 0 => by simp [notFr]; omega
  | m + 1 => by
    rw [notFr, List.mem_append, notFr_mem (m := m)]
    cases hf : fr m
    · simp only [if_neg Bool.false_ne_true, List.mem_singleton]
      constructor
      · rintro (⟨h1, h2, h3⟩ | rfl)
        · exact ⟨h1, by omega, h3⟩
        · exact ⟨by omega, by omega, hf⟩
      · rintro ⟨h1, h2, h3⟩
        by_cases e : v = m
        · exact .inr e
        · exact .inl ⟨h1, by omega, h3⟩
    · simp only [if_true, List.not_mem_nil, or_false]
      constructor
      · rintro ⟨h1, h2, h3⟩; exact ⟨h1, by omega, h3⟩
      · rintro ⟨h1, h2, h3⟩
        refine ⟨h1, ?_, h3⟩
        have : v ≠ m := fun e => by subst e; rw [hf] at h3; cases h3
        omega
theorem notFr_le {fr : Int → Bool} : ∀ {m : Nat}, (notFr fr m).length ≤ m
  | 0 => Nat.le_refl _
  | m + 1 => by
    have := notFr_le (fr := fr) (m := m)
    rw [notFr, List.length_append]; split <;> simp <;> omega
theorem notFr_asc {fr : Int → Bool} : ∀ {m : Nat}, Asc (notFr fr m)
  | 0 => fun i h0 hi => by simp [notFr] at hi
  | m + 1 => by
    have ih := notFr_asc (fr := fr) (m := m)
    rw [notFr]
    cases hf : fr m
    · simp only [if_neg Bool.false_ne_true]
      intro i h0 hi
      rw [List.length_append, List.length_singleton] at hi
      by_cases e : i = (notFr fr m).length
      · subst e
        rw [getD_snoc_eq, getD_snoc_lt (by omega)]
        have := (notFr_mem (fr := fr) (m := m)).1 (getD_memI (Qs := notFr fr m) (j := (notFr fr m).length - 1) (by omega))
        omega
      · rw [getD_snoc_lt (by omega), getD_snoc_lt (by omega)]
        exact ih i h0 (by omega)
    · simpa using ih
theorem r_mapB {P : Program} {K : Env → World → Prop} {ρ : Env} {w : World} {ty : TypeId} {pos : String} {aft : Array Edge} {gd : Option (Nat × Bool)} {x y u : Operand} {t kt e : TypeId} {z : Value} {dd : Option Nat} {bm : Nat} {fr : Int → Bool} {v : Int} {b : Bool}
    (ht : mapT P t = some (kt, e, z)) (hk : KeyOf P kt encI) (h0 : FrM w bm fr) (hx : ev ρ x = .map (some bm)) (hy : ev ρ y = .int .i64 v) (hu : ev ρ u = .bool b)
    (h : ∀ w', FrM w' bm (upF fr v b) → Ch (fun k => k = bm) w w' → w'.heap.size = w.heap.size → K (upo ρ dd undef) w') : w1 P false ⟨dd, .mapUpdate t x y u, ty, pos, aft, gd⟩ K ρ w := by
  obtain ⟨F, h1, h2⟩ := h0
  refine r_mapUpdate (k := v) ht hk h1 hx hy hu fun w' h3 h4 h5 => h w' ⟨_, h3, fun v' => ?_⟩ h4 h5
  unfold upF
  by_cases c : v' = v
  · simp [c]
  · simp [c, h2]
theorem r_lookB {P : Program} {st : Bool} {K : Env → World → Prop} {ρ : Env} {w : World} {d : Nat} {ty : TypeId} {pos : String} {aft : Array Edge} {gd : Option (Nat × Bool)} {x y : Operand} {t kt e : TypeId} {bm : Nat} {fr : Int → Bool} {v : Int}
    (ht : mapT P t = some (kt, e, .bool false)) (hk : KeyOf P kt encI) (h0 : FrM w bm fr) (hx : ev ρ x = .map (some bm)) (hy : ev ρ y = .int .i64 v) (h : K (up ρ d (.bool (fr v))) w) : w1 P st ⟨some d, .lookup t x y false, ty, pos, aft, gd⟩ K ρ w := by
  obtain ⟨F, h1, h2⟩ := h0
  exact r_lookup (k := v) ht hk h1 hx hy (h2 v) h
set_option maxRecDepth 20000 in
set_option maxHeartbeats 8000000 in
theorem full_any (w : World) (b base : Nat) (n most whole : Int) (ve : Value) (q : Option Addr) (c : Nat) (L Sh : List (Int × Int)) (Ld : List Int) (h : ShW w b base n most whole ve q c L Sh Ld) (hS : Shr L Sh Ld most whole)
    (hG : ∀ k, k < L.length → 0 ≤ (ed L k).1 ∧ (ed L k).1 < (ed L k).2 ∧ (ed L k).2 < n) (hn : 1 ≤ n ∧ n ≤ 16) (hL : L.length ≤ 1000) :
    Calls Tryz.prog 65 #[.pointer (some ⟨b, 0, none⟩)] w (Ret fun v w' => ∃ F, OwnI w' w.heap.size 3 v F ∧ Asc F ∧ Clo L Sh Ld most n F ∧ (∀ T, Clo L Sh Ld most n T → ∀ v, v ∈ T → v ∈ F) ∧ Ext w w') := by
  have hblt := h.blk.lt
  obtain ⟨qe, ce, rfl, hqe⟩ := h.edg.slice
  have heb := h.eblk
  have hbase := h.bblk
  have hdis : ∀ k, k < L.length → (ed L k).1 ≠ (ed L k).2 := fun k hk => by have := hG k hk; omega
  obtain ⟨m, rfl⟩ : ∃ m : Nat, n = m := ⟨n.toNat, by omega⟩
  refine calls_of_wc (args := [.pointer (some ⟨b, 0, none⟩)]) Tryz.func65 rfl ?_ ?_; kernel_rfl
  repeat' (first|refine za ?_|refine zc ?_|refine zd ?_)
  refine r_box rfl rfl fun w1 hx1 hE1 hs1 => ?_
  obtain ⟨b1, eb1⟩ : ∃ b, b = w.heap.size := ⟨_, rfl⟩
  rw [← eb1] at hx1 ⊢
  repeat' (first|refine za ?_|refine zB ?_|refine zb ?_|refine zc ?_|refine ze ?_|refine zd ?_)
  refine r_makeMap encI fun w2 hF2 hE2 hs2 => ?_
  obtain ⟨bm, ebm⟩ : ∃ b, b = w1.heap.size := ⟨_, rfl⟩
  rw [← ebm] at hF2 ⊢
  repeat' (refine za ?_)
  refine r_alloc z100 rfl fun w3 hx3 hE3 hs3 => ?_
  obtain ⟨b3, eb3⟩ : ∃ b, b = w2.heap.size := ⟨_, rfl⟩
  rw [← eb3] at hx3 ⊢
  repeat' (refine za ?_)
  refine r_st_box (v := .map (some bm)) (by kernel_rfl) hx3 rfl rfl rfl fun w4 hx4 hC4 hs4 => ?_
  have hE3' := (hE1.trans hE2).trans hE3
  have hE4 : Ext w w4 := Ch.trans' hE3' hC4 fun k hk e => by omega
  have hW4 := h.ext hE4
  have hx14 := (hx1.ext (hE2.trans hE3)).keep hC4 (by omega)
  have hF4 : FrM w4 bm fun _ => false := ⟨_, (hF2.ext hE3).keep hC4 (by omega), fun _ => rfl⟩
  have hb4 : b3 < w4.heap.size := hx4.lt
  clear hx1 hF2 hx3
  obtain ⟨r0, r1, r2, r3, r4⟩ := hW4.rds
  have g1 := hx14.rd
  repeat' (first|refine za ?_|refine zb ?_|refine zc ?_|refine ze ?_|refine zd ?_|refine zM ?_|refine zP ?_)
  refine r_faE (o' := 0) fo89_0 rfl rfl ?_
  repeat' (refine za ?_)
  refine r_faE (o' := 0) fo72_0 rfl rfl ?_
  repeat' (first|refine za ?_|refine zA ?_|refine zb ?_|refine ze ?_|refine zM ?_|refine zl ?_)
  have hnb : ∀ k, w.heap.size ≤ k → ¬ (k = b ∨ (Value.slice q Sh.length c).ownBlock = some k ∨ (Value.slice qe L.length ce).ownBlock = some k) := fun k hk hh => by
    rcases hh with rfl | hh | hh
    · omega
    · have := (h.ne hh).2.2; omega
    · have := heb k hh; omega
  refine wc_loop [1, 2, 3, 15] (fun (i : Nat) => [(16, .int .i64 i)]) (fun i wk => i ≤ m ∧ FrM wk bm (fun v => decide (0 ≤ v ∧ v < i ∧ Ld.getD v.toNat 0 < most)) ∧ Ch (fun k => k = bm) w4 wk) (fun i => m - i) 0 rfl ⟨rfl, trivial⟩ ⟨by omega, ?_, Ch.refl _ _⟩ ?_
  · have : (fun v : Int => decide (0 ≤ v ∧ v < ((0 : Nat) : Int) ∧ Ld.getD v.toNat 0 < most)) = fun _ => false := by funext v; exact decide_eq_false (by omega)
    rw [this]; exact hF4
  rintro i wk x ⟨hi, hF, hC⟩
  have hEk : Ext w wk := Ch.trans' hE4 hC fun k hk e => by omega
  have hk1 := hx14.keep hC (by omega)
  have hk3 := hx4.keep hC (by omega)
  by_cases hin : i < m
  · have hWd := (h.ext hEk).ext (Ext.drew wk)
    have hFd := hF.ext (Ext.drew wk)
    have g1 := (hk1.ext (Ext.drew wk)).rd
    have g3 := (hk3.ext (Ext.drew wk)).rd
    have hld := hWd.ld (v := (i : Int)) (by omega)
    obtain ⟨r0, r1, r2, r3, r4⟩ := hWd.rds
    repeat' (first|refine za ?_|refine zA ?_|refine zB ?_|refine zb ?_|refine zc ?_|refine ze ?_|refine zd ?_|refine zC ?_|refine zX ?_|refine zk ?_|refine zl ?_)
    (refine wc_drawn 13 (by kernel_rfl) (by kernel_rfl) ?_; simp only [List.take_succ_cons, List.take_zero, List.drop_succ_cons, List.drop_zero])
    repeat' (first|refine za ?_|refine zA ?_|refine zM ?_|refine zP ?_)
    refine r_faE (o' := 5) fo89_4 rfl rfl ?_
    repeat' (refine za ?_)
    refine r_idxE ar75 rfl rfl (by omega) (by omega) ?_
    repeat' (first|refine za ?_|refine zM ?_|refine zP ?_)
    refine r_faE (o' := 2) fo89_1 rfl rfl ?_
    repeat' (first|refine wl_plain ?_|refine wl_nil ?_|refine r_lss rfl rfl ?_|(refine r_ld rfl rfl (by assumption) ?_))
    refine r_mapB (v := (i : Int)) (b := decide (Ld.getD (i : Int).toNat 0 < most)) mp100 kt3 hFd rfl rfl rfl fun w6 hF6 hC6 hs6 => ?_
    repeat' (first|refine za ?_|refine zA ?_|refine zb ?_|refine ze ?_|refine zd ?_|refine zI ?_|refine zh ?_)
    refine ⟨i + 1, ⟨rfl, trivial⟩, ⟨by omega, ?_, Ch.trans' (hC.trans (Ext.drew wk).ch) hC6 fun k hk e => e⟩, by omega⟩
    have : (fun v : Int => decide (0 ≤ v ∧ v < ((i + 1 : Nat) : Int) ∧ Ld.getD v.toNat 0 < most)) = upF (fun v => decide (0 ≤ v ∧ v < (i : Int) ∧ Ld.getD v.toNat 0 < most)) i (decide (Ld.getD (i : Int).toNat 0 < most)) := by
      funext v
      unfold upF
      by_cases e : v = i
      · subst e; simp; omega
      · rw [if_neg e]
        refine decide_eq_decide.2 ⟨fun ⟨a1, a2, a3⟩ => ⟨a1, by omega, a3⟩, fun ⟨a1, a2, a3⟩ => ⟨a1, by omega, a3⟩⟩
    rw [this]; exact hF6
  have : i = m := by omega
  subst this
  obtain ⟨fr0, hfr0⟩ : ∃ fr0, fr0 = fun v : Int => decide (0 ≤ v ∧ v < (i : Int) ∧ Ld.getD v.toNat 0 < most) := ⟨_, rfl⟩
  rw [← hfr0] at hF
  have hR0 : Rnd L Sh Ld most i fr0 fr0 := Rnd.start fun v => by rw [hfr0]; simp
  have hWk := h.ext hEk
  obtain ⟨r0, r1, r2, r3, r4⟩ := hWk.rds
  have g1 := hk1.rd
  have hbk : b3 < wk.heap.size := hk3.lt
  clear hfr0 hW4 hx14 hF4 hx4
  repeat' (first|refine za ?_|refine zb ?_|refine zc ?_|refine ze ?_|refine zd ?_|refine zC ?_|refine zM ?_|refine zP ?_|refine zY ?_|refine zm ?_|refine zg ?_|refine zj ?_)
  refine r_faE (o' := 0) fo89_0 rfl rfl ?_
  repeat' (refine za ?_)
  refine r_faE (o' := 0) fo72_0 rfl rfl ?_
  repeat' (first|refine za ?_|refine zA ?_|refine zb ?_|refine ze ?_|refine zM ?_|refine zl ?_)
  refine wc_loop3M [1, 3, 37] (fun (r : Nat) (M : List Nat) (_ : Int → Bool) => [(38, .int .i64 r), (1000000, mkv M)]) (fun r M fr wz => r ≤ i ∧ FrM wz bm fr ∧ Rnd L Sh Ld most i fr fr ∧ (Fix L Sh i fr ∨ r ≤ cF fr (i : Int).toNat) ∧ Box wz b1 124 (.pointer (some ⟨b, 0, none⟩)) ∧ Box wz b3 171 (.map (some bm)) ∧
      Mk M wz ∧ (∀ D, D ∈ M → w.heap.size ≤ D) ∧ Ext w wz) (fun r _ _ => i - r) 0 [] fr0 rfl ⟨rfl, rfl, trivial⟩ ⟨by omega, hF, hR0, .inr (Nat.zero_le _), hk1, hk3, Mk.nil _, (fun D hD => by cases hD), hEk⟩ ?_
  clear hF hR0 hWk hk1 hk3 hEk hC
  rintro r M fr wz y ⟨hr, hFz, hRz, hPz, hz1, hz3, hMz, hMlo, hEz⟩
  have hWz := h.ext hEz
  obtain ⟨r0, r1, r2, r3, r4⟩ := hWz.rds
  have g1 := hz1.rd
  by_cases hri : r < i
  · repeat' (first|refine za ?_|refine zb ?_|refine zc ?_|refine ze ?_|refine zd ?_|refine zC ?_|refine zM ?_|refine zP ?_|refine zX ?_|refine zk ?_|refine zl ?_)
    refine r_faE (o' := 0) fo89_0 rfl rfl ?_
    repeat' (refine za ?_)
    refine r_faE (o' := 0) fo72_0 rfl rfl ?_
    repeat' (first|refine za ?_|refine zA ?_|refine zb ?_|refine ze ?_|refine zM ?_|refine zl ?_)
    refine wc_loop3M [1, 3, 37, 38, 44] (fun (v : Nat) (M : List Nat) (_ : Int → Bool) => [(45, .int .i64 v), (1000000, mkv M)]) (fun v M fr' wv => v ≤ i ∧ FrM wv bm fr' ∧ Rnd L Sh Ld most i fr fr' ∧ (∀ u : Int, 0 ≤ u → u < v → ∀ x, x ∈ nb L u L.length → 0 < hs L Sh x.1.toNat u → fr x.2 = true → fr' u = true) ∧
      Box wv b1 124 (.pointer (some ⟨b, 0, none⟩)) ∧ Box wv b3 171 (.map (some bm)) ∧ Mk M wv ∧ (∀ D, D ∈ M → w.heap.size ≤ D) ∧ Ext w wv) (fun v _ _ => i - v) 0 M fr rfl ⟨rfl, rfl, trivial⟩ ⟨by omega, hFz, hRz, fun u h0 h1 => by omega, hz1, hz3, hMz, hMlo, hEz⟩ ?_
    clear hFz hMz hMlo hWz hz1 hz3 hEz r0 r1 r2 r3 r4 g1
    rintro v M fr1 wv y ⟨hv, hFv, hRv, hpv, hv1, hv3, hMv, hMlo, hEv⟩
    by_cases hvi : v < i
    · repeat' (first|refine za ?_|refine zA ?_|refine zb ?_|refine zc ?_|refine ze ?_|refine zd ?_|refine zC ?_|refine zX ?_|refine zk ?_|refine zl ?_)
      refine r_alloc z3 rfl fun wa hxa hEa hsa => ?_
      obtain ⟨b5, eb5⟩ : ∃ b, b = wv.heap.size := ⟨_, rfl⟩
      rw [← eb5] at hxa ⊢
      repeat' (refine za ?_)
      refine r_st_box (v := .int .i64 (v : Int)) (by kernel_rfl) hxa rfl rfl rfl fun wb hxb hCb hsb => ?_
      have hEb : Ext wv wb := Ch.trans' hEa hCb fun k hk e => by omega
      repeat' (first|refine zb ?_|refine zc ?_|refine ze ?_)
      have hEd := hEb.trans (Ext.drew wb)
      have hWd := h.ext (hEv.trans hEd)
      have gd1 := (hv1.ext hEd).rd
      have gd5 := (hxb.ext (Ext.drew wb)).rd
      (refine wc_drawn 5 (by kernel_rfl) (by kernel_rfl) ?_; simp only [List.take_succ_cons, List.take_zero, List.drop_succ_cons, List.drop_zero])
      repeat' (first|refine za ?_|refine zM ?_|refine zP ?_)
      refine r_faE (o' := 0) fo89_0 rfl rfl ?_
      repeat' (refine za ?_)
      refine r_ldAt (n := 2) (ws := [.int .i64 (i : Int), .slice qe L.length ce]) ag72 (by decide) hWd.blk rfl rfl rfl ?_
      repeat' (first|refine za ?_|refine zb ?_|refine zM ?_)
      (refine r_call (R := ?_) rfl ?_ ?_; rotate_left 1; focus exact around_any (i : Int) _ L (v : Int) _ hWd.edg)
      rintro _ wr ⟨ba, bb, rfl, hba, hbb, hAD, hEr⟩
      have hEwr := hEd.trans hEr
      have hszr : w.heap.size ≤ wr.heap.size := (hEv.trans hEwr).size
      have hWr := hWd.ext hEr
      repeat' (first|refine zb ?_|refine ze ?_|refine zl ?_)
      refine wc_rangeE (nb L (v : Int) L.length) 40 (AroundD (i : Int) (.slice qe L.length ce) L ba bb (v : Int)) (fun j W => ∃ fr2, FrM W bm fr2 ∧ Rnd L Sh Ld most i fr fr2 ∧ (∀ u, fr1 u = true → fr2 u = true) ∧ (∀ x, x ∈ (nb L (v : Int) L.length).take j → 0 < hs L Sh x.1.toNat v → fr x.2 = true → fr2 v = true) ∧
          ShW W b base i most whole (.slice qe L.length ce) q c L Sh Ld ∧ Box W b1 124 (.pointer (some ⟨b, 0, none⟩)) ∧ Box W b3 171 (.map (some bm)) ∧ Box W b5 3 (.int .i64 (v : Int)) ∧ Mk M W ∧ Ext w W) M rfl rfl rfl (around1_any (i : Int) _ L ba bb (v : Int) hL hdis) ?hDt ?hI hAD
          ⟨fr1, hFv.ext hEwr, hRv, fun u hu => hu, fun x hx => by simp at hx, hWr, hv1.ext hEwr, hv3.ext hEwr, (hxb.ext (Ext.drew wb)).ext hEr, hMv.ext hEwr, hEv.trans hEwr⟩ ?hbody ?hdone
      case hDt =>
        rintro W W' hl ⟨a1, a2, a3⟩
        exact ⟨a1.lk hl, a2.lk hl, a3.keep hl.ch fun g hg e => by have := heb g hg; omega⟩
      case hI =>
        rintro j W W' hl ⟨fr2, a1, a2, a3, a4, a5, a6, a7, a8, a9, a10⟩
        exact ⟨fr2, a1.lk hl, a2, a3, a4, a5.lk hl (by omega), a6.lk hl, a7.lk hl, a8.lk hl, a9.lk hl, a10.lk hl hszr⟩
      case hbody =>
        apply Exists.intro
        apply And.intro
        · intro k u W
          repeat' (first|refine za ?_|refine zB ?_|refine zb ?_|refine zc ?_|refine ze ?_|refine zd ?_)
          exact ⟨rfl, rfl, rfl⟩
        rintro j W k u hku hsz ⟨fr2, a1, a2, a3, a4, a5, a6, a7, a8, a9, a10⟩ hD
        have hmem := List.mem_of_getElem? hku
        obtain ⟨kk, hkk, hk1, hk2⟩ := nb_mem hmem
        dsimp only at hk1 hk2
        subst hk1
        have htake : (nb L (v : Int) L.length).take (j + 1) = (nb L (v : Int) L.length).take j ++ [((kk : Int), u)] := by
          rw [List.take_add_one, hku]; rfl
        have hst := a2.step (v := (v : Int)) (by omega) hmem
        dsimp only at hst
        have hWd := a5.ext (Ext.drew W)
        have hFd := a1.ext (Ext.drew W)
        have g1 := (a6.ext (Ext.drew W)).rd
        have g3 := (a7.ext (Ext.drew W)).rd
        have g5 := (a8.ext (Ext.drew W)).rd
        have hrd := hWd.rdS (k := kk) (v := (v : Int)) hkk
        have hqs := a5.isSome (by omega)
        obtain ⟨y2, hy2⟩ : ∃ y, y = (fr2 (v : Int) || (fr2 u && decide (0 < hs L Sh ((kk : Int)).toNat v))) := ⟨_, rfl⟩
        rw [← hy2] at hst
        simp only [Int.toNat_natCast] at hy2
        have hend : ∀ W', FrM W' bm (upF fr2 v y2) → Ch (fun k => k = bm) W.drew W' → rndQ wr.heap.size W (fun w' => (∃ fr2, FrM w' bm fr2 ∧ Rnd L Sh Ld most i fr fr2 ∧ (∀ u, fr1 u = true → fr2 u = true) ∧ (∀ x, x ∈ (nb L (v : Int) L.length).take (j + 1) → 0 < hs L Sh x.1.toNat v → fr x.2 = true → fr2 v = true) ∧
          ShW w' b base i most whole (.slice qe L.length ce) q c L Sh Ld ∧ Box w' b1 124 (.pointer (some ⟨b, 0, none⟩)) ∧ Box w' b3 171 (.map (some bm)) ∧ Box w' b5 3 (.int .i64 (v : Int)) ∧ Mk M w' ∧ Ext w w') ∧ AroundD (i : Int) (.slice qe L.length ce) L ba bb (v : Int) w' ∧ Kt 40 W w') .normal (up (fun _ => undef) 0 undef) W' := by
          intro W' hF' hC'
          have hC : Ch (fun k => k = bm) W W' := Ch.trans' (Ext.drew W).ch hC' fun k _ e => e
          have hnB : ∀ {k c t r}, W.heap[k]? = some (.cells c t r) → ¬ k = bm := fun hk e => by subst e; exact a1.nobox hk
          refine ⟨KpB.of_ch hC fun k hk => by subst hk; exact a1.cm, ⟨_, hF', hst, fun x hx => ?_, fun x hx hp hx2 => ?_, a5.keep hC fun k hk => by subst hk; exact hnb _ (by omega), a6.keep hC (hnB a6), a7.keep hC (hnB a7), a8.keep hC (hnB a8), a9.ch hC fun k hk => by subst hk; exact a1.cm, Ch.trans' a10 hC fun k hk e => by omega⟩,
            ⟨hD.1.keep hC (hnB hD.1), hD.2.1.keep hC (hnB hD.2.1), hD.2.2.keep hC fun g hg e => by have := heb g hg; omega⟩, Kt.of_ch hC fun k hk c r e => by subst hk; exact a1.nobox e⟩
          · unfold upF; split
            · rename_i e; subst e; rw [hy2, a3 _ hx]; rfl
            · exact a3 _ hx
          · unfold upF; rw [if_pos rfl]
            rw [htake] at hx
            rcases List.mem_append.1 hx with hx | hx
            · rw [hy2, a4 x hx hp hx2]; rfl
            · simp only [List.mem_singleton] at hx
              subst hx
              simp only [Int.toNat_natCast] at hp
              rw [hy2, a2.mono _ hx2, decide_eq_true hp]
              simp
        repeat' (refine zl ?_)
        (refine wc_drawn 19 (by kernel_rfl) (by kernel_rfl) ?_; simp only [List.take_succ_cons, List.take_zero, List.drop_succ_cons, List.drop_zero])
        repeat' (first|refine za ?_|refine zM ?_)
        refine r_lookB mp100 kt3 hFd rfl rfl ?_
        by_cases hfv : fr2 (v : Int) = true
        · rw [hfv]
          rw [hfv, Bool.true_or] at hy2
          subst hy2
          repeat' (first|refine za ?_|refine zA ?_|refine zb ?_|refine zQ ?_|refine zV ?_|refine zW ?_)
          refine r_mapB (v := (v : Int)) (b := true) mp100 kt3 hFd rfl rfl rfl fun W' hF' hC' hs' => ?_
          repeat' (first|refine zb ?_|refine zh ?_)
          exact hend W' hF' hC'
        · have hfv := Bool.eq_false_iff.2 hfv
          rw [hfv]
          rw [hfv, Bool.false_or] at hy2
          repeat' (first|refine za ?_|refine zA ?_|refine zM ?_|refine zU ?_)
          refine r_lookB mp100 kt3 hFd rfl rfl ?_
          by_cases hfu : fr2 u = true
          · rw [hfu]
            rw [hfu, Bool.true_and] at hy2
            repeat' (first|refine zA ?_|refine zM ?_|refine zU ?_)
            (refine r_call_q (v := ?_) rfl ?_ ?_; rotate_left 1; focus exact has_any _ b base i most whole _ q c L Sh Ld hWd kk (v : Int) hkk)
            repeat' (refine zU ?_)
            refine r_nilQ rfl (map_isSome (pidx_isSome hqs)) ?_
            by_cases hp : 0 < hs L Sh kk v
            · rw [decide_eq_true hp] at hy2
              subst hy2
              repeat' (first|refine za ?_|refine zb ?_|refine zE ?_|refine zM ?_|refine zQ ?_|refine zR ?_|refine zU ?_)
              refine r_mapB (v := (v : Int)) (b := true) mp100 kt3 hFd rfl rfl rfl fun W' hF' hC' hs' => ?_
              repeat' (first|refine zb ?_|refine zh ?_)
              exact hend W' hF' hC'
            · rw [decide_eq_false hp] at hy2
              subst hy2
              repeat' (first|refine za ?_|refine zb ?_|refine zE ?_|refine zM ?_|refine zQ ?_|refine zR ?_|refine zU ?_)
              refine r_mapB (v := (v : Int)) (b := false) mp100 kt3 hFd rfl rfl rfl fun W' hF' hC' hs' => ?_
              repeat' (first|refine zb ?_|refine zh ?_)
              exact hend W' hF' hC'
          · have hfu := Bool.eq_false_iff.2 hfu
            rw [hfu]
            rw [hfu, Bool.false_and] at hy2
            subst hy2
            repeat' (first|refine za ?_|refine zA ?_|refine zb ?_|refine zR ?_|refine zU ?_|refine zV ?_)
            refine r_mapB (v := (v : Int)) (b := false) mp100 kt3 hFd rfl rfl rfl fun W' hF' hC' hs' => ?_
            repeat' (first|refine zb ?_|refine zh ?_)
            exact hend W' hF' hC'
      case hdone =>
        rintro W ⟨fr2, a1, a2, a3, a4, a5, a6, a7, a8, a9, a10⟩ hblk
        rw [List.take_length] at a4
        repeat' (first|refine za ?_|refine zA ?_|refine zb ?_|refine ze ?_|refine zd ?_|refine zI ?_|refine zh ?_)
        refine ⟨v + 1, wr.heap.size :: M, fr2, ⟨rfl, rfl, trivial⟩, ⟨by omega, a1, a2, fun u h0 h1 x hx hp hu => ?_, a6, a7, Mk.cons a9 (hMv.ext hEwr) hblk, fun D hD => ?_, a10⟩, by omega⟩
        · by_cases e : u = v
          · subst e; exact a4 x hx hp hu
          · exact a3 _ (hpv u h0 (by omega) x hx hp hu)
        · rcases List.mem_cons.1 hD with rfl | hD
          · exact hszr
          · exact hMlo D hD
    · have : v = i := by omega
      subst this
      obtain ⟨d1, d2⟩ := hRv.done hPz hpv
      repeat' (first|refine za ?_|refine zA ?_|refine zb ?_|refine zc ?_|refine ze ?_|refine zd ?_|refine zC ?_|refine zI ?_|refine zY ?_|refine zm ?_|refine zg ?_|refine zj ?_|refine zh ?_)
      refine ⟨r + 1, M, fr1, ⟨rfl, rfl, trivial⟩, ⟨by omega, hFv, d2, d1, hv1, hv3, hMv, hMlo, hEv⟩, by omega⟩
  · have : r = i := by omega
    subst this
    have hfix := fix_end (L := L) (Sh := Sh) (n := (r : Int)) (fr := fr) hPz
    repeat' (first|refine za ?_|refine zB ?_|refine zb ?_|refine zc ?_|refine ze ?_|refine zd ?_|refine zC ?_|refine zM ?_|refine zP ?_|refine zY ?_|refine zm ?_|refine zg ?_|refine zj ?_)
    refine r_faE (o' := 0) fo89_0 rfl rfl ?_
    repeat' (refine za ?_)
    refine r_faE (o' := 0) fo72_0 rfl rfl ?_
    repeat' (first|refine za ?_|refine zA ?_|refine zb ?_|refine ze ?_|refine zM ?_|refine zl ?_)
    refine wc_loop2 [1, 3, 81] (fun (v : Nat) (val : Value) => [(8, val), (82, .int .i64 v)]) (fun v val wk => v ≤ r ∧ OwnI wk w.heap.size 3 val (notFr fr v) ∧ FrM wk bm fr ∧ Box wk b3 171 (.map (some bm)) ∧ Mk M wk ∧ Ext w wk) (fun v _ => r - v) 0 _ rfl ⟨rfl, rfl, trivial⟩ ⟨by omega, World.ownsRow_nil _ _ _ _, hFz, hz3, hMz, hEz⟩ ?_
    clear hFz hz3 hMz hEz hWz r0 r1 r2 r3 r4 g1 hz1
    rintro v val wk y ⟨hv, hO, hFk, hk3, hMk, hEk⟩
    have g3 := hk3.rd
    have hlen := notFr_le (fr := fr) (m := v)
    by_cases hvr : v < r
    · repeat' (first|refine za ?_|refine zA ?_|refine zB ?_|refine zb ?_|refine zc ?_|refine ze ?_|refine zd ?_|refine zC ?_|refine zM ?_|refine zX ?_|refine zk ?_|refine zl ?_)
      refine r_lookB mp100 kt3 hFk rfl rfl ?_
      have hstep : notFr fr (v + 1) = notFr fr v ++ if fr v then [] else [(v : Int)] := rfl
      cases hfv : fr v
      · rw [hfv] at hstep
        simp only [if_neg Bool.false_ne_true] at hstep
        repeat' (first|refine za ?_|refine zA ?_|refine zb ?_|refine ze ?_|refine zd ?_|refine zO ?_|refine zX ?_)
        refine r_append1_i el23 hO rfl rfl (by omega) hEk.size ?_
        intro v8 w8 z8 hO8 hg8 _ hnew
        have hC8 : Ch (fun k => val.ownBlock = some k) wk w8 := Ch.grown hg8 fun k hk => hk
        rw [← hstep] at hO8
        repeat' (first|refine za ?_|refine zA ?_|refine zB ?_|refine zb ?_|refine ze ?_|refine zd ?_|refine zI ?_|refine zh ?_)
        refine ⟨v + 1, v8, ⟨rfl, rfl, trivial⟩, ⟨by omega, hO8, hFk.keep hC8 fun e => ?_, hk3.keep hC8 fun e => hk3.nerow hO (by decide) e, hMk.ch hC8 fun k hk => row_cm hO hk, Ch.trans' hEk hC8 fun k hk e => by have := (World.ownsRow.lt hO k e).1; omega⟩, by omega⟩
        obtain ⟨c', hc'⟩ := row_obj hO e
        exact hFk.nobox hc'
      · rw [hfv] at hstep
        simp only [if_true, List.append_nil] at hstep
        repeat' (first|refine za ?_|refine zA ?_|refine zb ?_|refine ze ?_|refine zd ?_|refine zI ?_|refine zO ?_|refine zY ?_|refine zk ?_|refine zh ?_)
        refine ⟨v + 1, val, ⟨rfl, rfl, trivial⟩, ⟨by omega, by rw [hstep]; exact hO, hFk, hk3, hMk, hEk⟩, by omega⟩
    · have : v = r := by omega
      subst this
      repeat' (first|refine za ?_|refine zA ?_|refine zB ?_|refine zb ?_|refine zc ?_|refine ze ?_|refine zd ?_|refine zC ?_|refine zY ?_|refine zm ?_|refine zn ?_|refine zg ?_|refine zj ?_)
      obtain ⟨d1, d2⟩ := hRz.clo hfix hS hn.2 hG (F := notFr fr v) fun u => notFr_mem
      refine postK1 M rfl hMk rfl (v := val) rfl fun w' hc => ⟨notFr fr v, by rw [eb1]; exact ownsRow_keep hO hc fun g hg e => (row_cm hO hg).nemk hMk e, notFr_asc, d1, d2, Ch.trans' hEk hc fun k hk e => by have := hMlo k e; omega⟩
end Bg
end Go.Proofs.YtocgehoffdjijaaGreat
/- bags: Densest. -/
namespace Go.Proofs.YtocgehoffdjijaaGreat
namespace Bg
set_option maxRecDepth 20000
open Gv
theorem post_tctt {P : Program} {fn : Func} {R : Value → World → Prop} {ρ : Env} {w : World} {n a c u s b : Nat} {t t' : TypeId} {vs : List Value} {va vu vs' : Value} (h : fn.results = #[.tmp a, .cell c t, .tmp u, .tmp s]) (ha : ρ a = va) (hc : ρ c = .pointer (some ⟨b, 0, none⟩)) (hu : ρ u = vu) (hs : ρ s = vs') (hsz : aggT P t n = true) (h0 : 0 < n) (hb : Blk w b t' vs) (hl : vs.length = n)
    (hR : R (.tuple #[va, .agg vs.toArray, vu, vs']) w) (hm : ρ 1000000 = mkv [] := by exact rfl) (ha' : a ≠ 1000000 := by decide) (hc' : c ≠ 1000000 := by decide) (hu' : u ≠ 1000000 := by decide) (hs' : s ≠ 1000000 := by decide) : post P fn R .ret ρ w := by
  refine postM hm (fun tmps ht => ?_) hR
  have h1 := ht c hc'
  have h2 := ht u hu'
  have h3 := ht a ha'
  have h4 := ht s hs'
  simp only [Array.getD_eq_getD_getElem?] at h1 h2 h3 h4
  simp [results, h, h1, h2, h3, h4, hc, hu, ha, hs, asAddr, run_loadVarN hsz h0 hb hl]
theorem insE_insM {L : List (Int × Int)} {S : List Int} : ((insE L S L.length : Nat) : Int) = insM L S := by
  have hin : ∀ a, inS S a ↔ a ∈ S := fun a => ⟨fun ⟨i, hi, e⟩ => e ▸ getD_memI hi, fun h => by
    obtain ⟨i, hi, rfl⟩ := List.getElem_of_mem h
    exact ⟨i, hi, getD_lt hi⟩⟩
  unfold insM
  have : ∀ k, ((insE L S k : Nat) : Int) = sumTo (fun k => if bothIn L S k then 1 else 0) k := fun k => by
    induction k with
    | zero => rfl
    | succ k ih =>
      rw [insE, sumTo, Int.natCast_add, ih]
      by_cases c : bothIn L S k
      · rw [if_pos c, if_pos ⟨(hin _).2 c.1, (hin _).2 c.2⟩]; rfl
      · rw [if_neg c, if_neg fun c' => c ⟨(hin _).1 c'.1, (hin _).1 c'.2⟩]; rfl
  exact this _
theorem IsG.ed {n : Int} {L : List (Int × Int)} (h : IsG n L) : (∀ k, k < L.length → 0 ≤ (ed L k).1 ∧ (ed L k).1 < (ed L k).2 ∧ (ed L k).2 < n) := fun k hk => (h.2.2 k hk).1
theorem IsG.len {n : Int} {L : List (Int × Int)} (h : IsG n L) : L.length ≤ 120 := by
  have h1 := h.2.1
  have : n * (n - 1) ≤ 16 * 15 := Int.mul_le_mul (by have := h.1; omega) (by have := h.1; omega) (by have := h.1; omega) (by omega)
  omega
/-- What Densest returns. -/
def DensR (n : Int) (L : List (Int × Int)) (w w' : World) (v : Value) : Prop :=
  if IsG n L then ∃ S Sh vs vsh, v = .tuple #[vs, .agg #[.int .i64 (dnum L S : Int), .int .i64 (dden L S : Int)], vsh, .int .i64 0] ∧ OwnI w' w.heap.size 3 vs S ∧ OwnP w' w.heap.size 38 vsh Sh ∧ (∀ g, vs.ownBlock = some g → vsh.ownBlock ≠ some g) ∧ Dens n L S ∧ ShOk L Sh (dnum L S) (dden L S)
  else v = .tuple #[.slice none 0 0, .agg #[.int .i64 0, .int .i64 0], .slice none 0 0, .int .i64 2]
set_option maxRecDepth 20000 in
set_option maxHeartbeats 8000000 in
theorem densest_any (n : Int) (ve : Value) (L : List (Int × Int)) (w : World) (h : Pairs2 w ve L) (hl : L.length ≤ 1000) (hel : ∀ g, ve.ownBlock = some g → g < w.heap.size) :
    Calls Tryz.prog 27 #[.int .i64 n, ve] w (Ret fun v w' => DensR n L w w' v ∧ Ext w w') := by
  obtain ⟨qe, ce, rfl, hqe⟩ := h.slice
  refine calls_of_wc (args := [.int .i64 n, .slice qe L.length ce]) Tryz.func27 rfl ?_ ?_; kernel_rfl
  repeat' (first|refine za ?_|refine zB ?_|refine zc ?_|refine zd ?_)
  refine r_allocN z48 fun w1 hb1 hE1 hs1 => ?_
  obtain ⟨b5, eb5⟩ : ∃ b, b = w.heap.size := ⟨_, rfl⟩
  rw [← eb5] at hb1 ⊢
  repeat' (first|refine za ?_|refine zA ?_|refine zB ?_|refine zb ?_|refine zc ?_|refine ze ?_|refine zd ?_)
  (refine r_call (R := ?_) rfl ?_ ?_; rotate_left 1; focus exact newGraph_any n _ L _ (h.ext hE1) hl)
  rintro v w2 ⟨rfl, hE2⟩
  have hb2 := hb1.ext hE2
  have hE02 := hE1.trans hE2
  by_cases hG : IsG n L
  rotate_left 1
  · rw [if_neg hG]
    repeat' (first|refine za ?_|refine zA ?_|refine zS ?_)
    refine r_allocN z72 fun w3 hb3 hE3 hs3 => ?_
    repeat' (refine za ?_)
    refine r_stN (ws := [.int .i64 0, .slice none 0 0]) ag72 (by decide) hb3 rfl rfl rfl rfl (by intro q hq; simp at hq; rcases hq with rfl | rfl <;> rfl) fun w4 h4 hC4 hs4 => ?_
    have hE4 : Ext w2 w4 := Ch.trans' hE3 hC4 fun k hk e => by omega
    repeat' (first|refine za ?_|refine zA ?_|refine zB ?_|refine zb ?_|refine zc ?_|refine ze ?_|refine zd ?_|refine zO ?_|refine zX ?_)
    refine r_build built48z ?_
    repeat' (first|refine za ?_|refine zB ?_)
    refine r_stN (ws := [.int .i64 0, .int .i64 0]) ag48 (by decide) (hb2.ext hE4) (by rw [ints_length]; simp) rfl rfl rfl (by intro q hq; simp at hq; rcases hq with rfl | rfl <;> rfl) fun w5 h5 hC5 hs5 => ?_
    repeat' (first|refine za ?_|refine zB ?_|refine zb ?_|refine ze ?_|refine zn ?_|refine zf ?_)
    refine post_tctt (va := .slice none 0 0) (vu := .slice none 0 0) (vs' := .int .i64 2) rfl rfl rfl rfl rfl ag48 (by decide) h5 rfl ⟨?_, Ch.trans' (hE02.trans hE4) hC5 fun k hk e => by omega⟩
    unfold DensR
    rw [if_neg hG]
  rw [if_pos hG]
  have hGe := hG.ed
  have hn := hG.1
  have hlen := hG.len
  obtain ⟨m, rfl⟩ : ∃ m : Nat, n = m := ⟨n.toNat, by omega⟩
  repeat' (first|refine za ?_|refine zA ?_|refine zS ?_)
  refine r_allocN z72 fun w3 hb3 hE3 hs3 => ?_
  obtain ⟨b8, eb8⟩ : ∃ b, b = w2.heap.size := ⟨_, rfl⟩
  rw [← eb8] at hb3 ⊢
  repeat' (refine za ?_)
  refine r_stN (ws := [.int .i64 (m : Int), .slice qe L.length ce]) ag72 (by decide) hb3 rfl rfl rfl rfl (by intro q hq; simp at hq; rcases hq with rfl | rfl <;> rfl) fun w4 h4 hC4 hs4 => ?_
  have hE4 : Ext w2 w4 := Ch.trans' hE3 hC4 fun k hk e => by omega
  have hE04 := hE02.trans hE4
  have hsz2 := hE2.size
  repeat' (first|refine za ?_|refine zA ?_|refine zB ?_|refine zb ?_|refine zc ?_|refine ze ?_|refine zd ?_|refine zK ?_|refine zO ?_|refine zY ?_|refine zk ?_)
  (refine r_call (R := ?_) rfl ?_ ?_; rotate_left 1; focus exact frac_any L.length m _ (by omega) (by omega) (by omega))
  rintro v w5 ⟨rfl, hE5⟩
  have hE05 := hE04.trans hE5
  repeat' (refine za ?_)
  refine r_allocN z48 fun w6 hb6 hE6 hs6 => ?_
  obtain ⟨b10, eb10⟩ : ∃ b, b = w5.heap.size := ⟨_, rfl⟩
  rw [← eb10] at hb6 ⊢
  repeat' (refine za ?_)
  refine r_stN (ws := [.int .i64 ((L.length / Nat.gcd L.length m : Nat) : Int), .int .i64 ((m / Nat.gcd L.length m : Nat) : Int)]) ag48 (by decide) hb6 (by rw [ints_length]; simp) rfl rfl rfl (by intro q hq; simp at hq; rcases hq with rfl | rfl <;> rfl) fun w7 h7 hC7 hs7 => ?_
  have hE7 : Ext w5 w7 := Ch.trans' hE6 hC7 fun k hk e => by omega
  have hE07 := hE05.trans hE7
  have h47 := h4.ext (hE5.trans hE7)
  have hb27 := hb2.ext (hE4.trans (hE5.trans hE7))
  have hsz5 := hE5.size
  have h8lt := h4.lt
  have h10lt := h7.lt
  repeat' (first|refine zb ?_|refine ze ?_|refine zl ?_)
  refine wc_loop3 [0, 1, 5, 8, 10] (fun (_ _ : Nat) (_ : List Int) => []) (fun a bb T wk => (∃ a0 b0 : Nat, a = a0 / Nat.gcd a0 b0 ∧ bb = b0 / Nat.gcd a0 b0 ∧ 0 < b0 ∧ b0 ≤ 16 ∧ a0 ≤ 1000 ∧ (a0 : Int) = insM L T ∧ b0 = T.length) ∧ T.Nodup ∧ (∀ v, v ∈ T → 0 ≤ v ∧ v < (m : Int)) ∧ Ext w wk ∧
      Blk wk b8 109 [.int .i64 (m : Int), .slice qe L.length ce] ∧ Blk wk b10 47 [.int .i64 (a : Int), .int .i64 (bb : Int)] ∧ Blk wk b5 47 (ints (List.replicate 2 0))) (fun a bb _ => 256001 - 256 * a / bb) _ _ (allV m) rfl trivial
    ⟨⟨L.length, m, rfl, rfl, by omega, by omega, by omega, (insM_all hGe).symm, (allV_len m).symm⟩, allV_nodup m, fun v hv => allV_mem.1 hv, hE07, h47, h7, hb27⟩ ?_
  clear h7 h47 hb27 hE07 hE7 hE05 hE5 hE04 hE4 h4 hC7 hC4 hb6 hb3 hb2 hb1 hE02
  rintro a bb T wk x ⟨⟨a0, b0, ea, ebb, hb0, hb16, ha0, hins, hTl⟩, hTn, hTr, hE, hB8, hB10, hB5⟩
  have hbp : 0 < bb := by rw [ebb]; exact red_pos hb0
  have hble : bb ≤ b0 := by rw [ebb]; exact red_le.2
  have hale : a ≤ a0 := by rw [ea]; exact red_le.1
  have hrat : a * b0 = bb * a0 := by rw [ea, ebb]; exact red_same
  repeat' (first|refine za ?_|refine zc ?_|refine zd ?_|refine zl ?_)
  refine r_ldN (vs := [.int .i64 (m : Int), .slice qe L.length ce]) ag72 (by decide) hB8 rfl rfl ?_
  repeat' (refine za ?_)
  refine r_ldN (vs := [.int .i64 (a : Int), .int .i64 (bb : Int)]) ag48 (by decide) hB10 rfl rfl ?_
  repeat' (refine za ?_)
  (refine r_call (R := ?_) rfl ?_ ?_; rotate_left 1; focus exact shared_any (m : Int) a bb _ L wk (h.ext hE) hl (fun g hg => by have := hel g hg; have := hE.size; omega) hGe hn (by omega) (by omega))
  rintro v w8 ⟨hR, hE8⟩
  rcases hR with ⟨b, q, c, Sh, Ld, rfl, hW, hS, hall⟩ | ⟨S, g, c, rfl, hO, hAsc, hpos, hrng, hlt⟩
  · repeat' (first|refine za ?_|refine zA ?_|refine zB ?_|refine zb ?_|refine zc ?_|refine ze ?_|refine zd ?_|refine zS ?_)
    refine r_eqnil rfl rfl rfl ?_
    repeat' (first|refine zb ?_|refine zc ?_|refine ze ?_|refine zX ?_)
    have hE08 := hE.trans hE8
    have hb5k := hB5.lt
    have hbW := hW.bblk
    have hszk := hE.size
    have hqb : ∀ k, (Value.slice q Sh.length c).ownBlock = some k → wk.heap.size ≤ k := fun k hk => (hW.ne hk).1
    have hWk : ∀ w', Ch (fun k => k = b5) w8 w' → ShW w' b wk.heap.size m a bb (.slice qe L.length ce) q c L Sh Ld := fun w' hw' => hW.keep hw' fun k hk e => by
      subst hk
      rcases e with e | e | e
      · omega
      · have := hqb _ e; omega
      · have := hel _ e; omega
    have hBk : ∀ w', Ch (fun k => k = b5) w8 w' → Blk w' b10 47 [.int .i64 (a : Int), .int .i64 (bb : Int)] := fun w' hw' => (hB10.ext hE8).keep hw' (by omega)
    refine wc_heldB (fun w' => Ch (fun k => k = b5) w8 w') (.take 0 (.take 2 (.take 3 (.take 4 (.take 5 (.take 6 (.one 1 (.one 7 (.one 8 (.one 9 (.one 10 .done))))))))))) (by kernel_rfl) (by kernel_rfl) (Ext.drew w8).ch ?_
    refine whB_take (v := .pointer (some ⟨b, 0, none⟩)) rfl rfl (fun w' hw' => rv_move_v rfl) ?_
    refine whB_take rfl rfl (fun w' hw' => rv_of rfl (fun _ h => r_ldN (vs := [.int .i64 (a : Int), .int .i64 (bb : Int)]) ag48 (by decide) (hBk w' hw') rfl rfl h) fun _ _ h => val_of h) ?_
    refine whB_take (v := .pointer (some ⟨b, 0, none⟩)) rfl rfl (fun w' hw' => rv_move_v rfl) ?_
    refine whB_take rfl rfl (fun w' hw' => rv_nil rfl) ?_
    refine whB_take rfl rfl (fun w' hw' => rv_faE (o' := 4) fo89_3 rfl rfl) ?_
    refine whB_take rfl rfl (fun w' hw' => rv_ld rfl rfl (hWk w' hw').rds.2.2.2.2) ?_
    refine whB_one rfl rfl ?_
    have hWd := hWk _ (Ext.drew w8).ch
    (refine r_call (R := ?_) rfl ?_ ?_; rotate_left 1; focus exact full_any _ b wk.heap.size m a bb _ q c L Sh Ld hWd hS hGe hn hl)
    rintro vf w9 ⟨F, hOF, hFA, hFc, hFg, hE9⟩
    have hX9 := (Ext.drew w8).trans hE9
    obtain ⟨qf, cf, rfl, hqf⟩ := (OwnI.ints hOF).slice
    refine ⟨hX9.ch, whB_one rfl rfl ?_⟩
    refine r_assign_v (v := .slice qf F.length cf) rfl ?_
    refine ⟨hX9.ch, whB_one rfl rfl ?_⟩
    refine r_stN (ws := [.int .i64 (a : Int), .int .i64 (bb : Int)]) ag48 (by decide) ((hB5.ext hE8).ext hX9) (by rw [ints_length]; simp) rfl rfl rfl (by intro q hq; simp at hq; rcases hq with rfl | rfl <;> rfl) fun w10 h10 hC10 hs10 => ?_
    have hC8 : Ch (fun k => k = b5) w8 w10 := Ch.trans' hX9.ch hC10 fun k _ e => e
    refine ⟨hC8, whB_one rfl rfl ?_⟩
    refine r_assign_v (v := .slice q Sh.length c) rfl ?_
    refine ⟨hC8, whB_one rfl rfl ?_⟩
    refine r_assign_v (v := .int .i64 0) rfl ?_
    refine ⟨hC8, whB_done ?_⟩
    obtain ⟨d1, d2, d3⟩ := Dens.of_clo hS hall hn.2 (by omega) hFA hFc hFg hTn hTr (by omega) (by rw [← hins, ← hTl]; exact_mod_cast hrat)
    have hfa : a = dnum L F ∧ bb = dden L F := by
      rw [ea, ebb]
      refine red_eq hb0 d1.pos ?_
      rw [← insE_insM] at d2
      have d2' : a * F.length = bb * insE L F L.length := by exact_mod_cast d2
      have : bb * (a0 * F.length) = bb * (insE L F L.length * b0) := by
        calc bb * (a0 * F.length) = (bb * a0) * F.length := by ac_rfl
          _ = (a * b0) * F.length := by rw [hrat]
          _ = b0 * (a * F.length) := by ac_rfl
          _ = b0 * (bb * insE L F L.length) := by rw [d2']
          _ = bb * (insE L F L.length * b0) := by ac_rfl
      exact Nat.eq_of_mul_eq_mul_left hbp this
    have hOF' := ownsRow_keep hOF hC10 fun g hg e => by have h1 := World.ownsRow.lt hOF g hg; have : w8.drew.heap.size = w8.heap.size := rfl; have := hE8.size; omega
    have hOP' := ownsRow_keep (ownsRow_ext hW.own hX9) hC10 fun g hg e => by have := hqb g hg; omega
    repeat' (first|refine ze ?_|refine zn ?_|refine zf ?_|refine zi ?_)
    refine post_tctt (va := .slice qf F.length cf) (vu := .slice q Sh.length c) (vs' := .int .i64 0) rfl rfl rfl rfl rfl ag48 (by decide) h10 rfl ⟨?_, Ch.trans' hE08 hC8 fun k hk e => by omega⟩
    unfold DensR
    rw [if_pos hG, ← eb5]
    refine ⟨F, Sh, .slice qf F.length cf, .slice q Sh.length c, by rw [← hfa.1, ← hfa.2], ownsRow_mono hOF' (by have : w8.drew.heap.size = w8.heap.size := rfl; have := hE8.size; omega), ownsRow_mono hOP' (by omega), fun g hg e => ?_, d1, by rw [← hfa.1, ← hfa.2]; exact d3⟩
    obtain ⟨c1, hc1⟩ := row_obj hOF' hg
    obtain ⟨c2, hc2⟩ := row_obj hOP' e
    rw [hc1] at hc2; cases hc2
  · repeat' (first|refine za ?_|refine zA ?_|refine zB ?_|refine zb ?_|refine zc ?_|refine ze ?_|refine zd ?_|refine zS ?_)
    refine r_eqnil rfl rfl rfl ?_
    repeat' (first|refine za ?_|refine zb ?_|refine ze ?_|refine zd ?_|refine zY ?_|refine zk ?_)
    refine r_ldN (vs := [.int .i64 (m : Int), .slice qe L.length ce]) ag72 (by decide) (hB8.ext hE8) rfl rfl ?_
    have hE08 := hE.trans hE8
    have hSl := set_len hAsc.nodup hrng hn.2
    repeat' (first|refine za ?_|refine zA ?_)
    (refine r_call (R := ?_) rfl ?_ ?_; rotate_left 1; focus exact density_any (m : Int) _ _ L S _ (h.ext hE08) (OwnI.ints hO) hl hpos (by omega))
    rintro v w9 ⟨rfl, hE9⟩
    have hb10k := hB10.lt
    have hsz08 := hE08.size
    repeat' (refine za ?_)
    refine r_stN (ws := [.int .i64 ((insE L S L.length / Nat.gcd (insE L S L.length) S.length : Nat) : Int), .int .i64 ((S.length / Nat.gcd (insE L S L.length) S.length : Nat) : Int)]) ag48 (by decide) ((hB10.ext hE8).ext hE9) rfl rfl rfl rfl (by intro q hq; simp at hq; rcases hq with rfl | rfl <;> rfl) fun w10 h10 hC10 hs10 => ?_
    have hX := hE8.trans hE9
    repeat' (first|refine zb ?_|refine ze ?_|refine zh ?_)
    refine ⟨insE L S L.length / Nat.gcd (insE L S L.length) S.length, S.length / Nat.gcd (insE L S L.length) S.length, S, trivial, ⟨⟨insE L S L.length, S.length, rfl, rfl, hpos, hSl, ?_, insE_insM, rfl⟩, hAsc.nodup, hrng, Ch.trans' (hE.trans hX) hC10 fun k hk e => by omega, (hB8.ext hX).keep hC10 (by omega), h10, (hB5.ext hX).keep hC10 (by omega)⟩, ?_⟩
    · have := insE_le (L := L) (S := S) (k := L.length); omega
    · rw [← insE_insM] at hlt
      have hlt' : a * S.length < bb * insE L S L.length := by exact_mod_cast hlt
      have hsame := red_same (a := insE L S L.length) (b := S.length)
      have hb' := red_pos (a := insE L S L.length) hpos
      have hb'' := (red_le (a := insE L S L.length) (b := S.length)).2
      generalize insE L S L.length / Nat.gcd (insE L S L.length) S.length = a' at *
      generalize S.length / Nat.gcd (insE L S L.length) S.length = b' at *
      have hcr : a * b' < bb * a' := by
        have h1 : b' * (a * S.length) < b' * (bb * insE L S L.length) := Nat.mul_lt_mul_of_pos_left hlt' hb'
        have e1 : b' * (a * S.length) = S.length * (a * b') := by ac_rfl
        have e2 : b' * (bb * insE L S L.length) = S.length * (bb * a') := by
          calc b' * (bb * insE L S L.length) = bb * (b' * insE L S L.length) := by ac_rfl
            _ = bb * (a' * S.length) := by rw [hsame]
            _ = S.length * (bb * a') := by ac_rfl
        rw [e1, e2] at h1
        exact Nat.lt_of_mul_lt_mul_left h1
      have hm := frac_meas (a := a) (b := bb) (c := a') (d := b') ⟨hbp, by omega⟩ ⟨hb', by omega⟩ hcr
      have hdb : 256 * a / bb ≤ 256 * a := Nat.div_le_self _ _
      omega
end Bg
end Go.Proofs.YtocgehoffdjijaaGreat

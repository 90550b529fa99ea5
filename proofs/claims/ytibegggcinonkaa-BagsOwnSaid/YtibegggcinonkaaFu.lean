/- bags: full. -/
import Derived.Test.YtibegggcinonkaaNS
import Derived.Test.YtibegggcinonkaaPG
namespace Go.Proofs.Ytibegggcinonkaa
open Gv
theorem mp100 : mapT Try.prog 100 = some (3, 4, .bool false) := by kernel_rfl
theorem z100 : (Try.prog.info? 100).bind (·.zero) = some (.map none) := by kernel_rfl
/-- A map of bools that answers as fr. -/
def FrM (w : World) (bm : Nat) (fr : Int → Bool) : Prop := ∃ F, MapF encI w bm F ∧ ∀ v, (F v).getD (.bool false) = .bool (fr v)
section
variable {w w' : World} {bm : Nat} {fr : Int → Bool}
theorem FrM.keep {S : Nat → Prop} (h : FrM w bm fr) (hc : Ch S w w') (hs : ¬ S bm) : FrM w' bm fr := by obtain ⟨F, h1, h2⟩ := h; exact ⟨F, h1.keep hc hs, h2⟩
theorem FrM.ext (h : FrM w bm fr) (hc : Ext w w') : FrM w' bm fr := h.keep hc fun e => e
theorem FrM.lk {B : Nat} (h : FrM w bm fr) (hl : Lk B w w') : FrM w' bm fr := by obtain ⟨F, h1, h2⟩ := h; exact ⟨F, h1.lk hl, h2⟩
theorem FrM.cm (h : FrM w bm fr) : CM w bm := by obtain ⟨F, h1, h2⟩ := h; exact h1.cm
theorem FrM.nobox (h : FrM w bm fr) {c : Array Value} {t : TypeId} {r : Nat × Nat} : w.heap[bm]? ≠ some (.cells c t r) := by
  obtain ⟨F, ⟨m, cl, h1, _⟩, _⟩ := h
  intro e; rw [h1.1] at e; cases e
end
def notFr (fr : Int → Bool) : Nat → List Int
  | 0 => []
  | m + 1 => notFr fr m ++ if fr m then [] else [(m : Int)]
theorem notFr_mem {fr : Int → Bool} {v : Int} : ∀ {m : Nat}, v ∈ notFr fr m ↔ 0 ≤ v ∧ v < m ∧ fr v = false
  | 0 => by simp [notFr]; omega
  | m + 1 => by
    rw [notFr, List.mem_append, notFr_mem (m := m)]
    cases hf : fr m
    · simp only [if_neg Bool.false_ne_true, List.mem_singleton]
      constructor
      · rintro (⟨h1, h2, h3⟩ | rfl)
        · exact ⟨h1, by omega, h3⟩
        · exact ⟨by omega, by omega, hf⟩
      · rintro ⟨h1, h2, h3⟩
        by_cases e : v = m
        · exact .inr e
        · exact .inl ⟨h1, by omega, h3⟩
    · simp only [if_true, List.not_mem_nil, or_false]
      constructor
      · rintro ⟨h1, h2, h3⟩; exact ⟨h1, by omega, h3⟩
      · rintro ⟨h1, h2, h3⟩
        refine ⟨h1, ?_, h3⟩
        have : v ≠ m := fun e => by subst e; rw [hf] at h3; cases h3
        omega
theorem notFr_le {fr : Int → Bool} : ∀ {m : Nat}, (notFr fr m).length ≤ m
  | 0 => Nat.le_refl _
  | m + 1 => by
    have := notFr_le (fr := fr) (m := m)
    rw [notFr, List.length_append]; split <;> simp <;> omega
theorem notFr_asc {fr : Int → Bool} : ∀ {m : Nat}, Asc (notFr fr m)
  | 0 => fun i h0 hi => by simp [notFr] at hi
  | m + 1 => by
    have ih := notFr_asc (fr := fr) (m := m)
    rw [notFr]
    cases hf : fr m
    · simp only [if_neg Bool.false_ne_true]
      intro i h0 hi
      rw [List.length_append, List.length_singleton] at hi
      by_cases e : i = (notFr fr m).length
      · subst e
        rw [getD_snoc_eq, getD_snoc_lt (by omega)]
        have := (notFr_mem (fr := fr) (m := m)).1 (getD_memI (Qs := notFr fr m) (j := (notFr fr m).length - 1) (by omega))
        omega
      · rw [getD_snoc_lt (by omega), getD_snoc_lt (by omega)]
        exact ih i h0 (by omega)
    · simpa using ih
theorem r_mapB {P : Program} {K : Env → World → Prop} {ρ : Env} {w : World} {ty : TypeId} {pos : String} {aft : Array Edge} {gd : Option (Nat × Bool)} {x y u : Operand} {t kt e : TypeId} {z : Value} {dd : Option Nat} {bm : Nat} {fr : Int → Bool} {v : Int} {b : Bool}
    (ht : mapT P t = some (kt, e, z)) (hk : KeyOf P kt encI) (h0 : FrM w bm fr) (hx : ev ρ x = .map (some bm)) (hy : ev ρ y = .int .i64 v) (hu : ev ρ u = .bool b)
    (h : ∀ w', FrM w' bm (upF fr v b) → Ch (fun k => k = bm) w w' → w'.heap.size = w.heap.size → K (upo ρ dd undef) w') : w1 P false ⟨dd, .mapUpdate t x y u, ty, pos, aft, gd⟩ K ρ w := by
  obtain ⟨F, h1, h2⟩ := h0
  refine r_mapUpdate (k := v) ht hk h1 hx hy hu fun w' h3 h4 h5 => h w' ⟨_, h3, fun v' => ?_⟩ h4 h5
  unfold upF
  by_cases c : v' = v
  · simp [c]
  · simp [c, h2]
theorem r_lookB {P : Program} {st : Bool} {K : Env → World → Prop} {ρ : Env} {w : World} {d : Nat} {ty : TypeId} {pos : String} {aft : Array Edge} {gd : Option (Nat × Bool)} {x y : Operand} {t kt e : TypeId} {bm : Nat} {fr : Int → Bool} {v : Int}
    (ht : mapT P t = some (kt, e, .bool false)) (hk : KeyOf P kt encI) (h0 : FrM w bm fr) (hx : ev ρ x = .map (some bm)) (hy : ev ρ y = .int .i64 v) (h : K (up ρ d (.bool (fr v))) w) : w1 P st ⟨some d, .lookup t x y false, ty, pos, aft, gd⟩ K ρ w := by
  obtain ⟨F, h1, h2⟩ := h0
  exact r_lookup (k := v) ht hk h1 hx hy (h2 v) h
set_option maxRecDepth 20000 in
set_option maxHeartbeats 8000000 in
theorem full_any (w : World) (b base : Nat) (n most whole : Int) (ve : Value) (q : Option Addr) (c : Nat) (L Sh : List (Int × Int)) (Ld : List Int) (h : ShW w b base n most whole ve q c L Sh Ld) (hS : Shr L Sh Ld most whole)
    (hG : ∀ k, k < L.length → 0 ≤ (ed L k).1 ∧ (ed L k).1 < (ed L k).2 ∧ (ed L k).2 < n) (hn : 1 ≤ n ∧ n ≤ 16) (hL : L.length ≤ 1000) :
    Calls Try.prog 47 #[.pointer (some ⟨b, 0, none⟩)] w (Ret fun v w' => ∃ F, OwnI w' w.heap.size 3 v F ∧ Asc F ∧ Clo L Sh Ld most n F ∧ (∀ T, Clo L Sh Ld most n T → ∀ v, v ∈ T → v ∈ F) ∧ Ext w w') := by
  have hblt := h.blk.lt
  obtain ⟨qe, ce, rfl, hqe⟩ := h.edg.slice
  have heb := h.eblk
  have hbase := h.bblk
  have hdis : ∀ k, k < L.length → (ed L k).1 ≠ (ed L k).2 := fun k hk => by have := hG k hk; omega
  obtain ⟨m, rfl⟩ : ∃ m : Nat, n = m := ⟨n.toNat, by omega⟩
  refine calls_of_wc (args := [.pointer (some ⟨b, 0, none⟩)]) Try.func47 rfl ?_ ?_; kernel_rfl
  repeat' (first|refine za ?_|refine zA ?_|refine zB ?_|refine zb ?_|refine zc ?_|refine ze ?_|refine zd ?_|refine zC ?_|refine zD ?_|refine zE ?_|refine zF ?_|refine zG ?_|refine zH ?_|refine zI ?_|refine zJ ?_|refine zK ?_|refine zL ?_|refine zM ?_|refine zN ?_|refine zO ?_|refine zP ?_|refine zQ ?_|refine zR ?_|refine zS ?_|refine zU ?_|refine zV ?_|refine zW ?_|refine zt (fun hcd => ?_) (fun hcd => ?_)|refine zu (fun hcd => ?_) (fun hcd => ?_)|refine zX ?_|refine zY ?_|refine zv (fun hcd => ?_) (fun hcd => ?_)|refine zk ?_|refine zl ?_|refine zm ?_|refine zn ?_|refine zf ?_|refine zg ?_|refine zj ?_|refine zZ ?_|refine zh ?_|refine zi ?_|refine zo ?_|refine zp ?_|refine zq ?_|refine zr ?_|refine zs ?_)
  refine r_box rfl rfl fun w1 hx1 hE1 hs1 => ?_
  obtain ⟨b1, eb1⟩ : ∃ b, b = w.heap.size := ⟨_, rfl⟩
  rw [← eb1] at hx1 ⊢
  repeat' (first|refine za ?_|refine zA ?_|refine zB ?_|refine zb ?_|refine zc ?_|refine ze ?_|refine zd ?_|refine zC ?_|refine zD ?_|refine zE ?_|refine zF ?_|refine zG ?_|refine zH ?_|refine zI ?_|refine zJ ?_|refine zK ?_|refine zL ?_|refine zM ?_|refine zN ?_|refine zO ?_|refine zP ?_|refine zQ ?_|refine zR ?_|refine zS ?_|refine zU ?_|refine zV ?_|refine zW ?_|refine zt (fun hcd => ?_) (fun hcd => ?_)|refine zu (fun hcd => ?_) (fun hcd => ?_)|refine zX ?_|refine zY ?_|refine zv (fun hcd => ?_) (fun hcd => ?_)|refine zk ?_|refine zl ?_|refine zm ?_|refine zn ?_|refine zf ?_|refine zg ?_|refine zj ?_|refine zZ ?_|refine zh ?_|refine zi ?_|refine zo ?_|refine zp ?_|refine zq ?_|refine zr ?_|refine zs ?_)
  refine r_makeMap encI fun w2 hF2 hE2 hs2 => ?_
  obtain ⟨bm, ebm⟩ : ∃ b, b = w1.heap.size := ⟨_, rfl⟩
  rw [← ebm] at hF2 ⊢
  repeat' (first|refine za ?_|refine zA ?_|refine zB ?_|refine zb ?_|refine zc ?_|refine ze ?_|refine zd ?_|refine zC ?_|refine zD ?_|refine zE ?_|refine zF ?_|refine zG ?_|refine zH ?_|refine zI ?_|refine zJ ?_|refine zK ?_|refine zL ?_|refine zM ?_|refine zN ?_|refine zO ?_|refine zP ?_|refine zQ ?_|refine zR ?_|refine zS ?_|refine zU ?_|refine zV ?_|refine zW ?_|refine zt (fun hcd => ?_) (fun hcd => ?_)|refine zu (fun hcd => ?_) (fun hcd => ?_)|refine zX ?_|refine zY ?_|refine zv (fun hcd => ?_) (fun hcd => ?_)|refine zk ?_|refine zl ?_|refine zm ?_|refine zn ?_|refine zf ?_|refine zg ?_|refine zj ?_|refine zZ ?_|refine zh ?_|refine zi ?_|refine zo ?_|refine zp ?_|refine zq ?_|refine zr ?_|refine zs ?_)
  refine r_alloc z100 rfl fun w3 hx3 hE3 hs3 => ?_
  obtain ⟨b3, eb3⟩ : ∃ b, b = w2.heap.size := ⟨_, rfl⟩
  rw [← eb3] at hx3 ⊢
  repeat' (first|refine za ?_|refine zA ?_|refine zB ?_|refine zb ?_|refine zc ?_|refine ze ?_|refine zd ?_|refine zC ?_|refine zD ?_|refine zE ?_|refine zF ?_|refine zG ?_|refine zH ?_|refine zI ?_|refine zJ ?_|refine zK ?_|refine zL ?_|refine zM ?_|refine zN ?_|refine zO ?_|refine zP ?_|refine zQ ?_|refine zR ?_|refine zS ?_|refine zU ?_|refine zV ?_|refine zW ?_|refine zt (fun hcd => ?_) (fun hcd => ?_)|refine zu (fun hcd => ?_) (fun hcd => ?_)|refine zX ?_|refine zY ?_|refine zv (fun hcd => ?_) (fun hcd => ?_)|refine zk ?_|refine zl ?_|refine zm ?_|refine zn ?_|refine zf ?_|refine zg ?_|refine zj ?_|refine zZ ?_|refine zh ?_|refine zi ?_|refine zo ?_|refine zp ?_|refine zq ?_|refine zr ?_|refine zs ?_)
  refine r_st_box (v := .map (some bm)) (by kernel_rfl) hx3 rfl rfl rfl fun w4 hx4 hC4 hs4 => ?_
  have hE3' := (hE1.trans hE2).trans hE3
  have hE4 : Ext w w4 := Ch.trans' hE3' hC4 fun k hk e => by omega
  have hW4 := h.ext hE4
  have hx14 := (hx1.ext (hE2.trans hE3)).keep hC4 (by omega)
  have hF4 : FrM w4 bm fun _ => false := ⟨_, (hF2.ext hE3).keep hC4 (by omega), fun _ => rfl⟩
  have hb4 : b3 < w4.heap.size := hx4.lt
  clear hx1 hF2 hx3
  obtain ⟨r0, r1, r2, r3, r4⟩ := hW4.rds
  have g1 := hx14.rd
  repeat' (first|refine za ?_|refine zA ?_|refine zB ?_|refine zb ?_|refine zc ?_|refine ze ?_|refine zd ?_|refine zC ?_|refine zD ?_|refine zE ?_|refine zF ?_|refine zG ?_|refine zH ?_|refine zI ?_|refine zJ ?_|refine zK ?_|refine zL ?_|refine zM ?_|refine zN ?_|refine zO ?_|refine zP ?_|refine zQ ?_|refine zR ?_|refine zS ?_|refine zU ?_|refine zV ?_|refine zW ?_|refine zt (fun hcd => ?_) (fun hcd => ?_)|refine zu (fun hcd => ?_) (fun hcd => ?_)|refine zX ?_|refine zY ?_|refine zv (fun hcd => ?_) (fun hcd => ?_)|refine zk ?_|refine zl ?_|refine zm ?_|refine zn ?_|refine zf ?_|refine zg ?_|refine zj ?_|refine zZ ?_|refine zh ?_|refine zi ?_|refine zo ?_|refine zp ?_|refine zq ?_|refine zr ?_|refine zs ?_)
  refine r_faE (o' := 0) fo89_0 rfl rfl ?_
  repeat' (first|refine za ?_|refine zA ?_|refine zB ?_|refine zb ?_|refine zc ?_|refine ze ?_|refine zd ?_|refine zC ?_|refine zD ?_|refine zE ?_|refine zF ?_|refine zG ?_|refine zH ?_|refine zI ?_|refine zJ ?_|refine zK ?_|refine zL ?_|refine zM ?_|refine zN ?_|refine zO ?_|refine zP ?_|refine zQ ?_|refine zR ?_|refine zS ?_|refine zU ?_|refine zV ?_|refine zW ?_|refine zt (fun hcd => ?_) (fun hcd => ?_)|refine zu (fun hcd => ?_) (fun hcd => ?_)|refine zX ?_|refine zY ?_|refine zv (fun hcd => ?_) (fun hcd => ?_)|refine zk ?_|refine zl ?_|refine zm ?_|refine zn ?_|refine zf ?_|refine zg ?_|refine zj ?_|refine zZ ?_|refine zh ?_|refine zi ?_|refine zo ?_|refine zp ?_|refine zq ?_|refine zr ?_|refine zs ?_)
  refine r_faE (o' := 0) fo72_0 rfl rfl ?_
  repeat' (first|refine za ?_|refine zA ?_|refine zB ?_|refine zb ?_|refine zc ?_|refine ze ?_|refine zd ?_|refine zC ?_|refine zD ?_|refine zE ?_|refine zF ?_|refine zG ?_|refine zH ?_|refine zI ?_|refine zJ ?_|refine zK ?_|refine zL ?_|refine zM ?_|refine zN ?_|refine zO ?_|refine zP ?_|refine zQ ?_|refine zR ?_|refine zS ?_|refine zU ?_|refine zV ?_|refine zW ?_|refine zt (fun hcd => ?_) (fun hcd => ?_)|refine zu (fun hcd => ?_) (fun hcd => ?_)|refine zX ?_|refine zY ?_|refine zv (fun hcd => ?_) (fun hcd => ?_)|refine zk ?_|refine zl ?_|refine zm ?_|refine zn ?_|refine zf ?_|refine zg ?_|refine zj ?_|refine zZ ?_|refine zh ?_|refine zi ?_|refine zo ?_|refine zp ?_|refine zq ?_|refine zr ?_|refine zs ?_)
  have hnb : ∀ k, w.heap.size ≤ k → ¬ (k = b ∨ (Value.slice q Sh.length c).ownBlock = some k ∨ (Value.slice qe L.length ce).ownBlock = some k) := fun k hk hh => by
    rcases hh with rfl | hh | hh
    · omega
    · have := (h.ne hh).2.2; omega
    · have := heb k hh; omega
  refine wc_loop [1, 2, 3, 15] (fun (i : Nat) => [(16, .int .i64 i)]) (fun i wk => i ≤ m ∧ FrM wk bm (fun v => decide (0 ≤ v ∧ v < i ∧ Ld.getD v.toNat 0 < most)) ∧ Ch (fun k => k = bm) w4 wk) (fun i => m - i) 0 rfl ⟨rfl, trivial⟩ ⟨by omega, ?_, Ch.refl _ _⟩ ?_
  · have : (fun v : Int => decide (0 ≤ v ∧ v < ((0 : Nat) : Int) ∧ Ld.getD v.toNat 0 < most)) = fun _ => false := by funext v; exact decide_eq_false (by omega)
    rw [this]; exact hF4
  rintro i wk x ⟨hi, hF, hC⟩
  have hEk : Ext w wk := Ch.trans' hE4 hC fun k hk e => by omega
  have hk1 := hx14.keep hC (by omega)
  have hk3 := hx4.keep hC (by omega)
  by_cases hin : i < m
  · have hWd := (h.ext hEk).ext (Ext.drew wk)
    have hFd := hF.ext (Ext.drew wk)
    have g1 := (hk1.ext (Ext.drew wk)).rd
    have g3 := (hk3.ext (Ext.drew wk)).rd
    have hld := hWd.ld (v := (i : Int)) (by omega)
    obtain ⟨r0, r1, r2, r3, r4⟩ := hWd.rds
    repeat' (first|refine za ?_|refine zA ?_|refine zB ?_|refine zb ?_|refine zc ?_|refine ze ?_|refine zd ?_|refine zC ?_|refine zD ?_|refine zE ?_|refine zF ?_|refine zG ?_|refine zH ?_|refine zI ?_|refine zJ ?_|refine zK ?_|refine zL ?_|refine zM ?_|refine zN ?_|refine zO ?_|refine zP ?_|refine zQ ?_|refine zR ?_|refine zS ?_|refine zU ?_|refine zV ?_|refine zW ?_|refine zt (fun hcd => ?_) (fun hcd => ?_)|refine zu (fun hcd => ?_) (fun hcd => ?_)|refine zX ?_|refine zY ?_|refine zv (fun hcd => ?_) (fun hcd => ?_)|refine zk ?_|refine zl ?_|refine zm ?_|refine zn ?_|refine zf ?_|refine zg ?_|refine zj ?_|refine zZ ?_|refine zh ?_|refine zi ?_|refine zo ?_|refine zp ?_|refine zq ?_|refine zr ?_|refine zs ?_)
    (refine wc_drawn 13 (by kernel_rfl) (by kernel_rfl) ?_; simp only [List.take_succ_cons, List.take_zero, List.drop_succ_cons, List.drop_zero])
    repeat' (first|refine za ?_|refine zA ?_|refine zB ?_|refine zb ?_|refine zc ?_|refine ze ?_|refine zd ?_|refine zC ?_|refine zD ?_|refine zE ?_|refine zF ?_|refine zG ?_|refine zH ?_|refine zI ?_|refine zJ ?_|refine zK ?_|refine zL ?_|refine zM ?_|refine zN ?_|refine zO ?_|refine zP ?_|refine zQ ?_|refine zR ?_|refine zS ?_|refine zU ?_|refine zV ?_|refine zW ?_|refine zt (fun hcd => ?_) (fun hcd => ?_)|refine zu (fun hcd => ?_) (fun hcd => ?_)|refine zX ?_|refine zY ?_|refine zv (fun hcd => ?_) (fun hcd => ?_)|refine zk ?_|refine zl ?_|refine zm ?_|refine zn ?_|refine zf ?_|refine zg ?_|refine zj ?_|refine zZ ?_|refine zh ?_|refine zi ?_|refine zo ?_|refine zp ?_|refine zq ?_|refine zr ?_|refine zs ?_)
    refine r_faE (o' := 5) fo89_4 rfl rfl ?_
    repeat' (first|refine za ?_|refine zA ?_|refine zB ?_|refine zb ?_|refine zc ?_|refine ze ?_|refine zd ?_|refine zC ?_|refine zD ?_|refine zE ?_|refine zF ?_|refine zG ?_|refine zH ?_|refine zI ?_|refine zJ ?_|refine zK ?_|refine zL ?_|refine zM ?_|refine zN ?_|refine zO ?_|refine zP ?_|refine zQ ?_|refine zR ?_|refine zS ?_|refine zU ?_|refine zV ?_|refine zW ?_|refine zt (fun hcd => ?_) (fun hcd => ?_)|refine zu (fun hcd => ?_) (fun hcd => ?_)|refine zX ?_|refine zY ?_|refine zv (fun hcd => ?_) (fun hcd => ?_)|refine zk ?_|refine zl ?_|refine zm ?_|refine zn ?_|refine zf ?_|refine zg ?_|refine zj ?_|refine zZ ?_|refine zh ?_|refine zi ?_|refine zo ?_|refine zp ?_|refine zq ?_|refine zr ?_|refine zs ?_)
    refine r_idxE ar75 rfl rfl (by omega) (by omega) ?_
    repeat' (first|refine za ?_|refine zA ?_|refine zB ?_|refine zb ?_|refine zc ?_|refine ze ?_|refine zd ?_|refine zC ?_|refine zD ?_|refine zE ?_|refine zF ?_|refine zG ?_|refine zH ?_|refine zI ?_|refine zJ ?_|refine zK ?_|refine zL ?_|refine zM ?_|refine zN ?_|refine zO ?_|refine zP ?_|refine zQ ?_|refine zR ?_|refine zS ?_|refine zU ?_|refine zV ?_|refine zW ?_|refine zt (fun hcd => ?_) (fun hcd => ?_)|refine zu (fun hcd => ?_) (fun hcd => ?_)|refine zX ?_|refine zY ?_|refine zv (fun hcd => ?_) (fun hcd => ?_)|refine zk ?_|refine zl ?_|refine zm ?_|refine zn ?_|refine zf ?_|refine zg ?_|refine zj ?_|refine zZ ?_|refine zh ?_|refine zi ?_|refine zo ?_|refine zp ?_|refine zq ?_|refine zr ?_|refine zs ?_)
    refine r_faE (o' := 2) fo89_1 rfl rfl ?_
    repeat' (first | refine wl_plain ?_ | refine r_move_v (v := .int _ _) rfl ?_ | refine r_move_v (v := .slice _ _ _) rfl ?_ | refine r_move_v (v := .bool _) rfl ?_ | refine r_move_v (v := .pointer _) rfl ?_ | refine r_move_v (v := .map _) rfl ?_ | refine r_move ?_ | refine r_assign_v (v := .int _ _) rfl ?_ | refine r_assign_v (v := .slice _ _ _) rfl ?_ | refine r_assign_v (v := .bool _) rfl ?_ | refine r_assign_v (v := .pointer _) rfl ?_ | refine r_assign_v (v := .map _) rfl ?_ | refine r_assign ?_ | refine wl_nil ?_ | refine r_lss rfl rfl ?_ | refine r_eql rfl rfl ?_ | refine r_neq rfl rfl ?_ | refine r_leq rfl rfl ?_ | refine r_gtr rfl rfl ?_ | refine r_geq rfl rfl ?_ | refine r_add_in rfl rfl (by omega) ?_ | refine r_sub_in rfl rfl (by omega) ?_ | refine r_len rfl rfl ?_ | (refine r_idx (sz := 1) rfl rfl rfl (by first | rfl | assumption) (by omega) (by omega) ?_) | (refine r_idx (sz := 2) rfl rfl rfl (by first | rfl | assumption) (by omega) (by omega) ?_) | (refine r_ld rfl rfl (by assumption) ?_) | refine r_not_d rfl ?_ | refine r_not rfl ?_ | refine r_nilCheck rfl ?_ | refine r_pick_t rfl ?_ | refine r_pick_f rfl ?_ | refine r_ext rfl rfl ?_ | refine wl_run rfl rfl ?_ | refine wl_pass rfl rfl rfl ?_ | refine wl_dead rfl rfl ?_ | refine wl_if_t rfl rfl (fun hcd => ?_) (fun hcd => ?_) | refine wl_if_f rfl rfl (fun hcd => ?_) (fun hcd => ?_) | refine wc_cond_t rfl ?_ | refine wc_cond_f rfl ?_ | refine wc_cond_d rfl (fun hcd => ?_) (fun hcd => ?_) | refine wc_skip ?_ | refine wc_block ?_ | refine wc_exit ?_ | refine wc_ret ?_ | refine thenQ_ret ?_ | refine thenQ_exit ?_ | refine inBl_here ?_ | refine inBl_out rfl ?_ | refine inBl_normal ?_ | refine inBl_ret ?_)
    refine r_mapB (v := (i : Int)) (b := decide (Ld.getD (i : Int).toNat 0 < most)) mp100 kt3 hFd rfl rfl rfl fun w6 hF6 hC6 hs6 => ?_
    repeat' (first|refine za ?_|refine zA ?_|refine zB ?_|refine zb ?_|refine zc ?_|refine ze ?_|refine zd ?_|refine zC ?_|refine zD ?_|refine zE ?_|refine zF ?_|refine zG ?_|refine zH ?_|refine zI ?_|refine zJ ?_|refine zK ?_|refine zL ?_|refine zM ?_|refine zN ?_|refine zO ?_|refine zP ?_|refine zQ ?_|refine zR ?_|refine zS ?_|refine zU ?_|refine zV ?_|refine zW ?_|refine zt (fun hcd => ?_) (fun hcd => ?_)|refine zu (fun hcd => ?_) (fun hcd => ?_)|refine zX ?_|refine zY ?_|refine zv (fun hcd => ?_) (fun hcd => ?_)|refine zk ?_|refine zl ?_|refine zm ?_|refine zn ?_|refine zf ?_|refine zg ?_|refine zj ?_|refine zZ ?_|refine zh ?_|refine zi ?_|refine zo ?_|refine zp ?_|refine zq ?_|refine zr ?_|refine zs ?_)
    refine ⟨i + 1, ⟨rfl, trivial⟩, ⟨by omega, ?_, Ch.trans' (hC.trans (Ext.drew wk).ch) hC6 fun k hk e => e⟩, by omega⟩
    have : (fun v : Int => decide (0 ≤ v ∧ v < ((i + 1 : Nat) : Int) ∧ Ld.getD v.toNat 0 < most)) = upF (fun v => decide (0 ≤ v ∧ v < (i : Int) ∧ Ld.getD v.toNat 0 < most)) i (decide (Ld.getD (i : Int).toNat 0 < most)) := by
      funext v
      unfold upF
      by_cases e : v = i
      · subst e; simp; omega
      · rw [if_neg e]
        refine decide_eq_decide.2 ⟨fun ⟨a1, a2, a3⟩ => ⟨a1, by omega, a3⟩, fun ⟨a1, a2, a3⟩ => ⟨a1, by omega, a3⟩⟩
    rw [this]; exact hF6
  have : i = m := by omega
  subst this
  obtain ⟨fr0, hfr0⟩ : ∃ fr0, fr0 = fun v : Int => decide (0 ≤ v ∧ v < (i : Int) ∧ Ld.getD v.toNat 0 < most) := ⟨_, rfl⟩
  rw [← hfr0] at hF
  have hR0 : Rnd L Sh Ld most i fr0 fr0 := Rnd.start fun v => by rw [hfr0]; simp
  have hWk := h.ext hEk
  obtain ⟨r0, r1, r2, r3, r4⟩ := hWk.rds
  have g1 := hk1.rd
  have hbk : b3 < wk.heap.size := hk3.lt
  clear hfr0 hW4 hx14 hF4 hx4
  repeat' (first|refine za ?_|refine zA ?_|refine zB ?_|refine zb ?_|refine zc ?_|refine ze ?_|refine zd ?_|refine zC ?_|refine zD ?_|refine zE ?_|refine zF ?_|refine zG ?_|refine zH ?_|refine zI ?_|refine zJ ?_|refine zK ?_|refine zL ?_|refine zM ?_|refine zN ?_|refine zO ?_|refine zP ?_|refine zQ ?_|refine zR ?_|refine zS ?_|refine zU ?_|refine zV ?_|refine zW ?_|refine zt (fun hcd => ?_) (fun hcd => ?_)|refine zu (fun hcd => ?_) (fun hcd => ?_)|refine zX ?_|refine zY ?_|refine zv (fun hcd => ?_) (fun hcd => ?_)|refine zk ?_|refine zl ?_|refine zm ?_|refine zn ?_|refine zf ?_|refine zg ?_|refine zj ?_|refine zZ ?_|refine zh ?_|refine zi ?_|refine zo ?_|refine zp ?_|refine zq ?_|refine zr ?_|refine zs ?_)
  refine r_faE (o' := 0) fo89_0 rfl rfl ?_
  repeat' (first|refine za ?_|refine zA ?_|refine zB ?_|refine zb ?_|refine zc ?_|refine ze ?_|refine zd ?_|refine zC ?_|refine zD ?_|refine zE ?_|refine zF ?_|refine zG ?_|refine zH ?_|refine zI ?_|refine zJ ?_|refine zK ?_|refine zL ?_|refine zM ?_|refine zN ?_|refine zO ?_|refine zP ?_|refine zQ ?_|refine zR ?_|refine zS ?_|refine zU ?_|refine zV ?_|refine zW ?_|refine zt (fun hcd => ?_) (fun hcd => ?_)|refine zu (fun hcd => ?_) (fun hcd => ?_)|refine zX ?_|refine zY ?_|refine zv (fun hcd => ?_) (fun hcd => ?_)|refine zk ?_|refine zl ?_|refine zm ?_|refine zn ?_|refine zf ?_|refine zg ?_|refine zj ?_|refine zZ ?_|refine zh ?_|refine zi ?_|refine zo ?_|refine zp ?_|refine zq ?_|refine zr ?_|refine zs ?_)
  refine r_faE (o' := 0) fo72_0 rfl rfl ?_
  repeat' (first|refine za ?_|refine zA ?_|refine zB ?_|refine zb ?_|refine zc ?_|refine ze ?_|refine zd ?_|refine zC ?_|refine zD ?_|refine zE ?_|refine zF ?_|refine zG ?_|refine zH ?_|refine zI ?_|refine zJ ?_|refine zK ?_|refine zL ?_|refine zM ?_|refine zN ?_|refine zO ?_|refine zP ?_|refine zQ ?_|refine zR ?_|refine zS ?_|refine zU ?_|refine zV ?_|refine zW ?_|refine zt (fun hcd => ?_) (fun hcd => ?_)|refine zu (fun hcd => ?_) (fun hcd => ?_)|refine zX ?_|refine zY ?_|refine zv (fun hcd => ?_) (fun hcd => ?_)|refine zk ?_|refine zl ?_|refine zm ?_|refine zn ?_|refine zf ?_|refine zg ?_|refine zj ?_|refine zZ ?_|refine zh ?_|refine zi ?_|refine zo ?_|refine zp ?_|refine zq ?_|refine zr ?_|refine zs ?_)
  refine wc_loop3M [1, 3, 37] (fun (r : Nat) (M : List Nat) (_ : Int → Bool) => [(38, .int .i64 r), (1000000, mkv M)]) (fun r M fr wz => r ≤ i ∧ FrM wz bm fr ∧ Rnd L Sh Ld most i fr fr ∧ (Fix L Sh i fr ∨ r ≤ cF fr (i : Int).toNat) ∧ Box wz b1 84 (.pointer (some ⟨b, 0, none⟩)) ∧ Box wz b3 100 (.map (some bm)) ∧
      Mk M wz ∧ (∀ D, D ∈ M → w.heap.size ≤ D) ∧ Ext w wz) (fun r _ _ => i - r) 0 [] fr0 rfl ⟨rfl, rfl, trivial⟩ ⟨by omega, hF, hR0, .inr (Nat.zero_le _), hk1, hk3, Mk.nil _, (fun D hD => by cases hD), hEk⟩ ?_
  clear hF hR0 hWk hk1 hk3 hEk hC
  rintro r M fr wz y ⟨hr, hFz, hRz, hPz, hz1, hz3, hMz, hMlo, hEz⟩
  have hWz := h.ext hEz
  obtain ⟨r0, r1, r2, r3, r4⟩ := hWz.rds
  have g1 := hz1.rd
  by_cases hri : r < i
  · repeat' (first|refine za ?_|refine zA ?_|refine zB ?_|refine zb ?_|refine zc ?_|refine ze ?_|refine zd ?_|refine zC ?_|refine zD ?_|refine zE ?_|refine zF ?_|refine zG ?_|refine zH ?_|refine zI ?_|refine zJ ?_|refine zK ?_|refine zL ?_|refine zM ?_|refine zN ?_|refine zO ?_|refine zP ?_|refine zQ ?_|refine zR ?_|refine zS ?_|refine zU ?_|refine zV ?_|refine zW ?_|refine zt (fun hcd => ?_) (fun hcd => ?_)|refine zu (fun hcd => ?_) (fun hcd => ?_)|refine zX ?_|refine zY ?_|refine zv (fun hcd => ?_) (fun hcd => ?_)|refine zk ?_|refine zl ?_|refine zm ?_|refine zn ?_|refine zf ?_|refine zg ?_|refine zj ?_|refine zZ ?_|refine zh ?_|refine zi ?_|refine zo ?_|refine zp ?_|refine zq ?_|refine zr ?_|refine zs ?_)
    refine r_faE (o' := 0) fo89_0 rfl rfl ?_
    repeat' (first|refine za ?_|refine zA ?_|refine zB ?_|refine zb ?_|refine zc ?_|refine ze ?_|refine zd ?_|refine zC ?_|refine zD ?_|refine zE ?_|refine zF ?_|refine zG ?_|refine zH ?_|refine zI ?_|refine zJ ?_|refine zK ?_|refine zL ?_|refine zM ?_|refine zN ?_|refine zO ?_|refine zP ?_|refine zQ ?_|refine zR ?_|refine zS ?_|refine zU ?_|refine zV ?_|refine zW ?_|refine zt (fun hcd => ?_) (fun hcd => ?_)|refine zu (fun hcd => ?_) (fun hcd => ?_)|refine zX ?_|refine zY ?_|refine zv (fun hcd => ?_) (fun hcd => ?_)|refine zk ?_|refine zl ?_|refine zm ?_|refine zn ?_|refine zf ?_|refine zg ?_|refine zj ?_|refine zZ ?_|refine zh ?_|refine zi ?_|refine zo ?_|refine zp ?_|refine zq ?_|refine zr ?_|refine zs ?_)
    refine r_faE (o' := 0) fo72_0 rfl rfl ?_
    repeat' (first|refine za ?_|refine zA ?_|refine zB ?_|refine zb ?_|refine zc ?_|refine ze ?_|refine zd ?_|refine zC ?_|refine zD ?_|refine zE ?_|refine zF ?_|refine zG ?_|refine zH ?_|refine zI ?_|refine zJ ?_|refine zK ?_|refine zL ?_|refine zM ?_|refine zN ?_|refine zO ?_|refine zP ?_|refine zQ ?_|refine zR ?_|refine zS ?_|refine zU ?_|refine zV ?_|refine zW ?_|refine zt (fun hcd => ?_) (fun hcd => ?_)|refine zu (fun hcd => ?_) (fun hcd => ?_)|refine zX ?_|refine zY ?_|refine zv (fun hcd => ?_) (fun hcd => ?_)|refine zk ?_|refine zl ?_|refine zm ?_|refine zn ?_|refine zf ?_|refine zg ?_|refine zj ?_|refine zZ ?_|refine zh ?_|refine zi ?_|refine zo ?_|refine zp ?_|refine zq ?_|refine zr ?_|refine zs ?_)
    refine wc_loop3M [1, 3, 37, 38, 44] (fun (v : Nat) (M : List Nat) (_ : Int → Bool) => [(45, .int .i64 v), (1000000, mkv M)]) (fun v M fr' wv => v ≤ i ∧ FrM wv bm fr' ∧ Rnd L Sh Ld most i fr fr' ∧ (∀ u : Int, 0 ≤ u → u < v → ∀ x, x ∈ nb L u L.length → 0 < hs L Sh x.1.toNat u → fr x.2 = true → fr' u = true) ∧
      Box wv b1 84 (.pointer (some ⟨b, 0, none⟩)) ∧ Box wv b3 100 (.map (some bm)) ∧ Mk M wv ∧ (∀ D, D ∈ M → w.heap.size ≤ D) ∧ Ext w wv) (fun v _ _ => i - v) 0 M fr rfl ⟨rfl, rfl, trivial⟩ ⟨by omega, hFz, hRz, fun u h0 h1 => by omega, hz1, hz3, hMz, hMlo, hEz⟩ ?_
    clear hFz hMz hMlo hWz hz1 hz3 hEz r0 r1 r2 r3 r4 g1
    rintro v M fr1 wv y ⟨hv, hFv, hRv, hpv, hv1, hv3, hMv, hMlo, hEv⟩
    by_cases hvi : v < i
    · repeat' (first|refine za ?_|refine zA ?_|refine zB ?_|refine zb ?_|refine zc ?_|refine ze ?_|refine zd ?_|refine zC ?_|refine zD ?_|refine zE ?_|refine zF ?_|refine zG ?_|refine zH ?_|refine zI ?_|refine zJ ?_|refine zK ?_|refine zL ?_|refine zM ?_|refine zN ?_|refine zO ?_|refine zP ?_|refine zQ ?_|refine zR ?_|refine zS ?_|refine zU ?_|refine zV ?_|refine zW ?_|refine zt (fun hcd => ?_) (fun hcd => ?_)|refine zu (fun hcd => ?_) (fun hcd => ?_)|refine zX ?_|refine zY ?_|refine zv (fun hcd => ?_) (fun hcd => ?_)|refine zk ?_|refine zl ?_|refine zm ?_|refine zn ?_|refine zf ?_|refine zg ?_|refine zj ?_|refine zZ ?_|refine zh ?_|refine zi ?_|refine zo ?_|refine zp ?_|refine zq ?_|refine zr ?_|refine zs ?_)
      refine r_alloc z3 rfl fun wa hxa hEa hsa => ?_
      obtain ⟨b5, eb5⟩ : ∃ b, b = wv.heap.size := ⟨_, rfl⟩
      rw [← eb5] at hxa ⊢
      repeat' (first|refine za ?_|refine zA ?_|refine zB ?_|refine zb ?_|refine zc ?_|refine ze ?_|refine zd ?_|refine zC ?_|refine zD ?_|refine zE ?_|refine zF ?_|refine zG ?_|refine zH ?_|refine zI ?_|refine zJ ?_|refine zK ?_|refine zL ?_|refine zM ?_|refine zN ?_|refine zO ?_|refine zP ?_|refine zQ ?_|refine zR ?_|refine zS ?_|refine zU ?_|refine zV ?_|refine zW ?_|refine zt (fun hcd => ?_) (fun hcd => ?_)|refine zu (fun hcd => ?_) (fun hcd => ?_)|refine zX ?_|refine zY ?_|refine zv (fun hcd => ?_) (fun hcd => ?_)|refine zk ?_|refine zl ?_|refine zm ?_|refine zn ?_|refine zf ?_|refine zg ?_|refine zj ?_|refine zZ ?_|refine zh ?_|refine zi ?_|refine zo ?_|refine zp ?_|refine zq ?_|refine zr ?_|refine zs ?_)
      refine r_st_box (v := .int .i64 (v : Int)) (by kernel_rfl) hxa rfl rfl rfl fun wb hxb hCb hsb => ?_
      have hEb : Ext wv wb := Ch.trans' hEa hCb fun k hk e => by omega
      repeat' (first|refine za ?_|refine zA ?_|refine zB ?_|refine zb ?_|refine zc ?_|refine ze ?_|refine zd ?_|refine zC ?_|refine zD ?_|refine zE ?_|refine zF ?_|refine zG ?_|refine zH ?_|refine zI ?_|refine zJ ?_|refine zK ?_|refine zL ?_|refine zM ?_|refine zN ?_|refine zO ?_|refine zP ?_|refine zQ ?_|refine zR ?_|refine zS ?_|refine zU ?_|refine zV ?_|refine zW ?_|refine zt (fun hcd => ?_) (fun hcd => ?_)|refine zu (fun hcd => ?_) (fun hcd => ?_)|refine zX ?_|refine zY ?_|refine zv (fun hcd => ?_) (fun hcd => ?_)|refine zk ?_|refine zl ?_|refine zm ?_|refine zn ?_|refine zf ?_|refine zg ?_|refine zj ?_|refine zZ ?_|refine zh ?_|refine zi ?_|refine zo ?_|refine zp ?_|refine zq ?_|refine zr ?_|refine zs ?_)
      have hEd := hEb.trans (Ext.drew wb)
      have hWd := h.ext (hEv.trans hEd)
      have gd1 := (hv1.ext hEd).rd
      have gd5 := (hxb.ext (Ext.drew wb)).rd
      (refine wc_drawn 5 (by kernel_rfl) (by kernel_rfl) ?_; simp only [List.take_succ_cons, List.take_zero, List.drop_succ_cons, List.drop_zero])
      repeat' (first|refine za ?_|refine zA ?_|refine zB ?_|refine zb ?_|refine zc ?_|refine ze ?_|refine zd ?_|refine zC ?_|refine zD ?_|refine zE ?_|refine zF ?_|refine zG ?_|refine zH ?_|refine zI ?_|refine zJ ?_|refine zK ?_|refine zL ?_|refine zM ?_|refine zN ?_|refine zO ?_|refine zP ?_|refine zQ ?_|refine zR ?_|refine zS ?_|refine zU ?_|refine zV ?_|refine zW ?_|refine zt (fun hcd => ?_) (fun hcd => ?_)|refine zu (fun hcd => ?_) (fun hcd => ?_)|refine zX ?_|refine zY ?_|refine zv (fun hcd => ?_) (fun hcd => ?_)|refine zk ?_|refine zl ?_|refine zm ?_|refine zn ?_|refine zf ?_|refine zg ?_|refine zj ?_|refine zZ ?_|refine zh ?_|refine zi ?_|refine zo ?_|refine zp ?_|refine zq ?_|refine zr ?_|refine zs ?_)
      refine r_faE (o' := 0) fo89_0 rfl rfl ?_
      repeat' (first|refine za ?_|refine zA ?_|refine zB ?_|refine zb ?_|refine zc ?_|refine ze ?_|refine zd ?_|refine zC ?_|refine zD ?_|refine zE ?_|refine zF ?_|refine zG ?_|refine zH ?_|refine zI ?_|refine zJ ?_|refine zK ?_|refine zL ?_|refine zM ?_|refine zN ?_|refine zO ?_|refine zP ?_|refine zQ ?_|refine zR ?_|refine zS ?_|refine zU ?_|refine zV ?_|refine zW ?_|refine zt (fun hcd => ?_) (fun hcd => ?_)|refine zu (fun hcd => ?_) (fun hcd => ?_)|refine zX ?_|refine zY ?_|refine zv (fun hcd => ?_) (fun hcd => ?_)|refine zk ?_|refine zl ?_|refine zm ?_|refine zn ?_|refine zf ?_|refine zg ?_|refine zj ?_|refine zZ ?_|refine zh ?_|refine zi ?_|refine zo ?_|refine zp ?_|refine zq ?_|refine zr ?_|refine zs ?_)
      refine r_ldAt (n := 2) (ws := [.int .i64 (i : Int), .slice qe L.length ce]) ag72 (by decide) hWd.blk rfl rfl rfl ?_
      repeat' (first|refine za ?_|refine zA ?_|refine zB ?_|refine zb ?_|refine zc ?_|refine ze ?_|refine zd ?_|refine zC ?_|refine zD ?_|refine zE ?_|refine zF ?_|refine zG ?_|refine zH ?_|refine zI ?_|refine zJ ?_|refine zK ?_|refine zL ?_|refine zM ?_|refine zN ?_|refine zO ?_|refine zP ?_|refine zQ ?_|refine zR ?_|refine zS ?_|refine zU ?_|refine zV ?_|refine zW ?_|refine zt (fun hcd => ?_) (fun hcd => ?_)|refine zu (fun hcd => ?_) (fun hcd => ?_)|refine zX ?_|refine zY ?_|refine zv (fun hcd => ?_) (fun hcd => ?_)|refine zk ?_|refine zl ?_|refine zm ?_|refine zn ?_|refine zf ?_|refine zg ?_|refine zj ?_|refine zZ ?_|refine zh ?_|refine zi ?_|refine zo ?_|refine zp ?_|refine zq ?_|refine zr ?_|refine zs ?_)
      (refine r_call (R := ?_) rfl ?_ ?_; rotate_left 1; focus exact around_any (i : Int) _ L (v : Int) _ hWd.edg)
      rintro _ wr ⟨ba, bb, rfl, hba, hbb, hAD, hEr⟩
      have hEwr := hEd.trans hEr
      have hszr : w.heap.size ≤ wr.heap.size := (hEv.trans hEwr).size
      have hWr := hWd.ext hEr
      repeat' (first|refine za ?_|refine zA ?_|refine zB ?_|refine zb ?_|refine zc ?_|refine ze ?_|refine zd ?_|refine zC ?_|refine zD ?_|refine zE ?_|refine zF ?_|refine zG ?_|refine zH ?_|refine zI ?_|refine zJ ?_|refine zK ?_|refine zL ?_|refine zM ?_|refine zN ?_|refine zO ?_|refine zP ?_|refine zQ ?_|refine zR ?_|refine zS ?_|refine zU ?_|refine zV ?_|refine zW ?_|refine zt (fun hcd => ?_) (fun hcd => ?_)|refine zu (fun hcd => ?_) (fun hcd => ?_)|refine zX ?_|refine zY ?_|refine zv (fun hcd => ?_) (fun hcd => ?_)|refine zk ?_|refine zl ?_|refine zm ?_|refine zn ?_|refine zf ?_|refine zg ?_|refine zj ?_|refine zZ ?_|refine zh ?_|refine zi ?_|refine zo ?_|refine zp ?_|refine zq ?_|refine zr ?_|refine zs ?_)
      refine wc_rangeE (nb L (v : Int) L.length) 46 (AroundD (i : Int) (.slice qe L.length ce) L ba bb (v : Int)) (fun j W => ∃ fr2, FrM W bm fr2 ∧ Rnd L Sh Ld most i fr fr2 ∧ (∀ u, fr1 u = true → fr2 u = true) ∧ (∀ x, x ∈ (nb L (v : Int) L.length).take j → 0 < hs L Sh x.1.toNat v → fr x.2 = true → fr2 v = true) ∧
          ShW W b base i most whole (.slice qe L.length ce) q c L Sh Ld ∧ Box W b1 84 (.pointer (some ⟨b, 0, none⟩)) ∧ Box W b3 100 (.map (some bm)) ∧ Box W b5 3 (.int .i64 (v : Int)) ∧ Mk M W ∧ Ext w W) M rfl rfl rfl (around1_any (i : Int) _ L ba bb (v : Int) hL hdis) ?hDt ?hI hAD
          ⟨fr1, hFv.ext hEwr, hRv, fun u hu => hu, fun x hx => by simp at hx, hWr, hv1.ext hEwr, hv3.ext hEwr, (hxb.ext (Ext.drew wb)).ext hEr, hMv.ext hEwr, hEv.trans hEwr⟩ ?hbody ?hdone
      case hDt =>
        rintro W W' hl ⟨a1, a2, a3⟩
        exact ⟨a1.lk hl, a2.lk hl, a3.keep hl.ch fun g hg e => by have := heb g hg; omega⟩
      case hI =>
        rintro j W W' hl ⟨fr2, a1, a2, a3, a4, a5, a6, a7, a8, a9, a10⟩
        exact ⟨fr2, a1.lk hl, a2, a3, a4, a5.lk hl (by omega), a6.lk hl, a7.lk hl, a8.lk hl, a9.lk hl, a10.lk hl hszr⟩
      case hbody =>
        apply Exists.intro
        apply And.intro
        · intro k u W
          repeat' (first|refine za ?_|refine zA ?_|refine zB ?_|refine zb ?_|refine zc ?_|refine ze ?_|refine zd ?_|refine zC ?_|refine zD ?_|refine zE ?_|refine zF ?_|refine zG ?_|refine zH ?_|refine zI ?_|refine zJ ?_|refine zK ?_|refine zL ?_|refine zM ?_|refine zN ?_|refine zO ?_|refine zP ?_|refine zQ ?_|refine zR ?_|refine zS ?_|refine zU ?_|refine zV ?_|refine zW ?_|refine zt (fun hcd => ?_) (fun hcd => ?_)|refine zu (fun hcd => ?_) (fun hcd => ?_)|refine zX ?_|refine zY ?_|refine zv (fun hcd => ?_) (fun hcd => ?_)|refine zk ?_|refine zl ?_|refine zm ?_|refine zn ?_|refine zf ?_|refine zg ?_|refine zj ?_|refine zZ ?_|refine zh ?_|refine zi ?_|refine zo ?_|refine zp ?_|refine zq ?_|refine zr ?_|refine zs ?_)
          exact ⟨rfl, rfl, rfl⟩
        rintro j W k u hku hsz ⟨fr2, a1, a2, a3, a4, a5, a6, a7, a8, a9, a10⟩ hD
        have hmem := List.mem_of_getElem? hku
        obtain ⟨kk, hkk, hk1, hk2⟩ := nb_mem hmem
        dsimp only at hk1 hk2
        subst hk1
        have htake : (nb L (v : Int) L.length).take (j + 1) = (nb L (v : Int) L.length).take j ++ [((kk : Int), u)] := by
          rw [List.take_add_one, hku]; rfl
        have hst := a2.step (v := (v : Int)) (by omega) hmem
        dsimp only at hst
        have hWd := a5.ext (Ext.drew W)
        have hFd := a1.ext (Ext.drew W)
        have g1 := (a6.ext (Ext.drew W)).rd
        have g3 := (a7.ext (Ext.drew W)).rd
        have g5 := (a8.ext (Ext.drew W)).rd
        have hrd := hWd.rdS (k := kk) (v := (v : Int)) hkk
        have hqs := a5.isSome (by omega)
        obtain ⟨y2, hy2⟩ : ∃ y, y = (fr2 (v : Int) || (fr2 u && decide (0 < hs L Sh ((kk : Int)).toNat v))) := ⟨_, rfl⟩
        rw [← hy2] at hst
        simp only [Int.toNat_natCast] at hy2
        have hend : ∀ W', FrM W' bm (upF fr2 v y2) → Ch (fun k => k = bm) W.drew W' → rndQ wr.heap.size W (fun w' => (∃ fr2, FrM w' bm fr2 ∧ Rnd L Sh Ld most i fr fr2 ∧ (∀ u, fr1 u = true → fr2 u = true) ∧ (∀ x, x ∈ (nb L (v : Int) L.length).take (j + 1) → 0 < hs L Sh x.1.toNat v → fr x.2 = true → fr2 v = true) ∧
          ShW w' b base i most whole (.slice qe L.length ce) q c L Sh Ld ∧ Box w' b1 84 (.pointer (some ⟨b, 0, none⟩)) ∧ Box w' b3 100 (.map (some bm)) ∧ Box w' b5 3 (.int .i64 (v : Int)) ∧ Mk M w' ∧ Ext w w') ∧ AroundD (i : Int) (.slice qe L.length ce) L ba bb (v : Int) w' ∧ Kt 46 W w') .normal (up (fun _ => undef) 0 undef) W' := by
          intro W' hF' hC'
          have hC : Ch (fun k => k = bm) W W' := Ch.trans' (Ext.drew W).ch hC' fun k _ e => e
          have hnB : ∀ {k c t r}, W.heap[k]? = some (.cells c t r) → ¬ k = bm := fun hk e => by subst e; exact a1.nobox hk
          refine ⟨KpB.of_ch hC fun k hk => by subst hk; exact a1.cm, ⟨_, hF', hst, fun x hx => ?_, fun x hx hp hx2 => ?_, a5.keep hC fun k hk => by subst hk; exact hnb _ (by omega), a6.keep hC (hnB a6), a7.keep hC (hnB a7), a8.keep hC (hnB a8), a9.ch hC fun k hk => by subst hk; exact a1.cm, Ch.trans' a10 hC fun k hk e => by omega⟩,
            ⟨hD.1.keep hC (hnB hD.1), hD.2.1.keep hC (hnB hD.2.1), hD.2.2.keep hC fun g hg e => by have := heb g hg; omega⟩, Kt.of_ch hC fun k hk c r e => by subst hk; exact a1.nobox e⟩
          · unfold upF; split
            · rename_i e; subst e; rw [hy2, a3 _ hx]; rfl
            · exact a3 _ hx
          · unfold upF; rw [if_pos rfl]
            rw [htake] at hx
            rcases List.mem_append.1 hx with hx | hx
            · rw [hy2, a4 x hx hp hx2]; rfl
            · simp only [List.mem_singleton] at hx
              subst hx
              simp only [Int.toNat_natCast] at hp
              rw [hy2, a2.mono _ hx2, decide_eq_true hp]
              simp
        repeat' (first|refine za ?_|refine zA ?_|refine zB ?_|refine zb ?_|refine zc ?_|refine ze ?_|refine zd ?_|refine zC ?_|refine zD ?_|refine zE ?_|refine zF ?_|refine zG ?_|refine zH ?_|refine zI ?_|refine zJ ?_|refine zK ?_|refine zL ?_|refine zM ?_|refine zN ?_|refine zO ?_|refine zP ?_|refine zQ ?_|refine zR ?_|refine zS ?_|refine zU ?_|refine zV ?_|refine zW ?_|refine zt (fun hcd => ?_) (fun hcd => ?_)|refine zu (fun hcd => ?_) (fun hcd => ?_)|refine zX ?_|refine zY ?_|refine zv (fun hcd => ?_) (fun hcd => ?_)|refine zk ?_|refine zl ?_|refine zm ?_|refine zn ?_|refine zf ?_|refine zg ?_|refine zj ?_|refine zZ ?_|refine zh ?_|refine zi ?_|refine zo ?_|refine zp ?_|refine zq ?_|refine zr ?_|refine zs ?_)
        (refine wc_drawn 19 (by kernel_rfl) (by kernel_rfl) ?_; simp only [List.take_succ_cons, List.take_zero, List.drop_succ_cons, List.drop_zero])
        repeat' (first|refine za ?_|refine zA ?_|refine zB ?_|refine zb ?_|refine zc ?_|refine ze ?_|refine zd ?_|refine zC ?_|refine zD ?_|refine zE ?_|refine zF ?_|refine zG ?_|refine zH ?_|refine zI ?_|refine zJ ?_|refine zK ?_|refine zL ?_|refine zM ?_|refine zN ?_|refine zO ?_|refine zP ?_|refine zQ ?_|refine zR ?_|refine zS ?_|refine zU ?_|refine zV ?_|refine zW ?_|refine zt (fun hcd => ?_) (fun hcd => ?_)|refine zu (fun hcd => ?_) (fun hcd => ?_)|refine zX ?_|refine zY ?_|refine zv (fun hcd => ?_) (fun hcd => ?_)|refine zk ?_|refine zl ?_|refine zm ?_|refine zn ?_|refine zf ?_|refine zg ?_|refine zj ?_|refine zZ ?_|refine zh ?_|refine zi ?_|refine zo ?_|refine zp ?_|refine zq ?_|refine zr ?_|refine zs ?_)
        refine r_lookB mp100 kt3 hFd rfl rfl ?_
        by_cases hfv : fr2 (v : Int) = true
        · rw [hfv]
          rw [hfv, Bool.true_or] at hy2
          subst hy2
          repeat' (first|refine za ?_|refine zA ?_|refine zB ?_|refine zb ?_|refine zc ?_|refine ze ?_|refine zd ?_|refine zC ?_|refine zD ?_|refine zE ?_|refine zF ?_|refine zG ?_|refine zH ?_|refine zI ?_|refine zJ ?_|refine zK ?_|refine zL ?_|refine zM ?_|refine zN ?_|refine zO ?_|refine zP ?_|refine zQ ?_|refine zR ?_|refine zS ?_|refine zU ?_|refine zV ?_|refine zW ?_|refine zt (fun hcd => ?_) (fun hcd => ?_)|refine zu (fun hcd => ?_) (fun hcd => ?_)|refine zX ?_|refine zY ?_|refine zv (fun hcd => ?_) (fun hcd => ?_)|refine zk ?_|refine zl ?_|refine zm ?_|refine zn ?_|refine zf ?_|refine zg ?_|refine zj ?_|refine zZ ?_|refine zh ?_|refine zi ?_|refine zo ?_|refine zp ?_|refine zq ?_|refine zr ?_|refine zs ?_)
          refine r_mapB (v := (v : Int)) (b := true) mp100 kt3 hFd rfl rfl rfl fun W' hF' hC' hs' => ?_
          repeat' (first|refine za ?_|refine zA ?_|refine zB ?_|refine zb ?_|refine zc ?_|refine ze ?_|refine zd ?_|refine zC ?_|refine zD ?_|refine zE ?_|refine zF ?_|refine zG ?_|refine zH ?_|refine zI ?_|refine zJ ?_|refine zK ?_|refine zL ?_|refine zM ?_|refine zN ?_|refine zO ?_|refine zP ?_|refine zQ ?_|refine zR ?_|refine zS ?_|refine zU ?_|refine zV ?_|refine zW ?_|refine zt (fun hcd => ?_) (fun hcd => ?_)|refine zu (fun hcd => ?_) (fun hcd => ?_)|refine zX ?_|refine zY ?_|refine zv (fun hcd => ?_) (fun hcd => ?_)|refine zk ?_|refine zl ?_|refine zm ?_|refine zn ?_|refine zf ?_|refine zg ?_|refine zj ?_|refine zZ ?_|refine zh ?_|refine zi ?_|refine zo ?_|refine zp ?_|refine zq ?_|refine zr ?_|refine zs ?_)
          exact hend W' hF' hC'
        · have hfv := Bool.eq_false_iff.2 hfv
          rw [hfv]
          rw [hfv, Bool.false_or] at hy2
          repeat' (first|refine za ?_|refine zA ?_|refine zB ?_|refine zb ?_|refine zc ?_|refine ze ?_|refine zd ?_|refine zC ?_|refine zD ?_|refine zE ?_|refine zF ?_|refine zG ?_|refine zH ?_|refine zI ?_|refine zJ ?_|refine zK ?_|refine zL ?_|refine zM ?_|refine zN ?_|refine zO ?_|refine zP ?_|refine zQ ?_|refine zR ?_|refine zS ?_|refine zU ?_|refine zV ?_|refine zW ?_|refine zt (fun hcd => ?_) (fun hcd => ?_)|refine zu (fun hcd => ?_) (fun hcd => ?_)|refine zX ?_|refine zY ?_|refine zv (fun hcd => ?_) (fun hcd => ?_)|refine zk ?_|refine zl ?_|refine zm ?_|refine zn ?_|refine zf ?_|refine zg ?_|refine zj ?_|refine zZ ?_|refine zh ?_|refine zi ?_|refine zo ?_|refine zp ?_|refine zq ?_|refine zr ?_|refine zs ?_)
          refine r_lookB mp100 kt3 hFd rfl rfl ?_
          by_cases hfu : fr2 u = true
          · rw [hfu]
            rw [hfu, Bool.true_and] at hy2
            repeat' (first|refine za ?_|refine zA ?_|refine zB ?_|refine zb ?_|refine zc ?_|refine ze ?_|refine zd ?_|refine zC ?_|refine zD ?_|refine zE ?_|refine zF ?_|refine zG ?_|refine zH ?_|refine zI ?_|refine zJ ?_|refine zK ?_|refine zL ?_|refine zM ?_|refine zN ?_|refine zO ?_|refine zP ?_|refine zQ ?_|refine zR ?_|refine zS ?_|refine zU ?_|refine zV ?_|refine zW ?_|refine zt (fun hcd => ?_) (fun hcd => ?_)|refine zu (fun hcd => ?_) (fun hcd => ?_)|refine zX ?_|refine zY ?_|refine zv (fun hcd => ?_) (fun hcd => ?_)|refine zk ?_|refine zl ?_|refine zm ?_|refine zn ?_|refine zf ?_|refine zg ?_|refine zj ?_|refine zZ ?_|refine zh ?_|refine zi ?_|refine zo ?_|refine zp ?_|refine zq ?_|refine zr ?_|refine zs ?_)
            (refine r_call_q (v := ?_) rfl ?_ ?_; rotate_left 1; focus exact has_any _ b base i most whole _ q c L Sh Ld hWd kk (v : Int) hkk)
            repeat' (first|refine za ?_|refine zA ?_|refine zB ?_|refine zb ?_|refine zc ?_|refine ze ?_|refine zd ?_|refine zC ?_|refine zD ?_|refine zE ?_|refine zF ?_|refine zG ?_|refine zH ?_|refine zI ?_|refine zJ ?_|refine zK ?_|refine zL ?_|refine zM ?_|refine zN ?_|refine zO ?_|refine zP ?_|refine zQ ?_|refine zR ?_|refine zS ?_|refine zU ?_|refine zV ?_|refine zW ?_|refine zt (fun hcd => ?_) (fun hcd => ?_)|refine zu (fun hcd => ?_) (fun hcd => ?_)|refine zX ?_|refine zY ?_|refine zv (fun hcd => ?_) (fun hcd => ?_)|refine zk ?_|refine zl ?_|refine zm ?_|refine zn ?_|refine zf ?_|refine zg ?_|refine zj ?_|refine zZ ?_|refine zh ?_|refine zi ?_|refine zo ?_|refine zp ?_|refine zq ?_|refine zr ?_|refine zs ?_)
            refine r_nilQ rfl (map_isSome (pidx_isSome hqs)) ?_
            by_cases hp : 0 < hs L Sh kk v
            · rw [decide_eq_true hp] at hy2
              subst hy2
              repeat' (first|refine za ?_|refine zA ?_|refine zB ?_|refine zb ?_|refine zc ?_|refine ze ?_|refine zd ?_|refine zC ?_|refine zD ?_|refine zE ?_|refine zF ?_|refine zG ?_|refine zH ?_|refine zI ?_|refine zJ ?_|refine zK ?_|refine zL ?_|refine zM ?_|refine zN ?_|refine zO ?_|refine zP ?_|refine zQ ?_|refine zR ?_|refine zS ?_|refine zU ?_|refine zV ?_|refine zW ?_|refine zt (fun hcd => ?_) (fun hcd => ?_)|refine zu (fun hcd => ?_) (fun hcd => ?_)|refine zX ?_|refine zY ?_|refine zv (fun hcd => ?_) (fun hcd => ?_)|refine zk ?_|refine zl ?_|refine zm ?_|refine zn ?_|refine zf ?_|refine zg ?_|refine zj ?_|refine zZ ?_|refine zh ?_|refine zi ?_|refine zo ?_|refine zp ?_|refine zq ?_|refine zr ?_|refine zs ?_)
              refine r_mapB (v := (v : Int)) (b := true) mp100 kt3 hFd rfl rfl rfl fun W' hF' hC' hs' => ?_
              repeat' (first|refine za ?_|refine zA ?_|refine zB ?_|refine zb ?_|refine zc ?_|refine ze ?_|refine zd ?_|refine zC ?_|refine zD ?_|refine zE ?_|refine zF ?_|refine zG ?_|refine zH ?_|refine zI ?_|refine zJ ?_|refine zK ?_|refine zL ?_|refine zM ?_|refine zN ?_|refine zO ?_|refine zP ?_|refine zQ ?_|refine zR ?_|refine zS ?_|refine zU ?_|refine zV ?_|refine zW ?_|refine zt (fun hcd => ?_) (fun hcd => ?_)|refine zu (fun hcd => ?_) (fun hcd => ?_)|refine zX ?_|refine zY ?_|refine zv (fun hcd => ?_) (fun hcd => ?_)|refine zk ?_|refine zl ?_|refine zm ?_|refine zn ?_|refine zf ?_|refine zg ?_|refine zj ?_|refine zZ ?_|refine zh ?_|refine zi ?_|refine zo ?_|refine zp ?_|refine zq ?_|refine zr ?_|refine zs ?_)
              exact hend W' hF' hC'
            · rw [decide_eq_false hp] at hy2
              subst hy2
              repeat' (first|refine za ?_|refine zA ?_|refine zB ?_|refine zb ?_|refine zc ?_|refine ze ?_|refine zd ?_|refine zC ?_|refine zD ?_|refine zE ?_|refine zF ?_|refine zG ?_|refine zH ?_|refine zI ?_|refine zJ ?_|refine zK ?_|refine zL ?_|refine zM ?_|refine zN ?_|refine zO ?_|refine zP ?_|refine zQ ?_|refine zR ?_|refine zS ?_|refine zU ?_|refine zV ?_|refine zW ?_|refine zt (fun hcd => ?_) (fun hcd => ?_)|refine zu (fun hcd => ?_) (fun hcd => ?_)|refine zX ?_|refine zY ?_|refine zv (fun hcd => ?_) (fun hcd => ?_)|refine zk ?_|refine zl ?_|refine zm ?_|refine zn ?_|refine zf ?_|refine zg ?_|refine zj ?_|refine zZ ?_|refine zh ?_|refine zi ?_|refine zo ?_|refine zp ?_|refine zq ?_|refine zr ?_|refine zs ?_)
              refine r_mapB (v := (v : Int)) (b := false) mp100 kt3 hFd rfl rfl rfl fun W' hF' hC' hs' => ?_
              repeat' (first|refine za ?_|refine zA ?_|refine zB ?_|refine zb ?_|refine zc ?_|refine ze ?_|refine zd ?_|refine zC ?_|refine zD ?_|refine zE ?_|refine zF ?_|refine zG ?_|refine zH ?_|refine zI ?_|refine zJ ?_|refine zK ?_|refine zL ?_|refine zM ?_|refine zN ?_|refine zO ?_|refine zP ?_|refine zQ ?_|refine zR ?_|refine zS ?_|refine zU ?_|refine zV ?_|refine zW ?_|refine zt (fun hcd => ?_) (fun hcd => ?_)|refine zu (fun hcd => ?_) (fun hcd => ?_)|refine zX ?_|refine zY ?_|refine zv (fun hcd => ?_) (fun hcd => ?_)|refine zk ?_|refine zl ?_|refine zm ?_|refine zn ?_|refine zf ?_|refine zg ?_|refine zj ?_|refine zZ ?_|refine zh ?_|refine zi ?_|refine zo ?_|refine zp ?_|refine zq ?_|refine zr ?_|refine zs ?_)
              exact hend W' hF' hC'
          · have hfu := Bool.eq_false_iff.2 hfu
            rw [hfu]
            rw [hfu, Bool.false_and] at hy2
            subst hy2
            repeat' (first|refine za ?_|refine zA ?_|refine zB ?_|refine zb ?_|refine zc ?_|refine ze ?_|refine zd ?_|refine zC ?_|refine zD ?_|refine zE ?_|refine zF ?_|refine zG ?_|refine zH ?_|refine zI ?_|refine zJ ?_|refine zK ?_|refine zL ?_|refine zM ?_|refine zN ?_|refine zO ?_|refine zP ?_|refine zQ ?_|refine zR ?_|refine zS ?_|refine zU ?_|refine zV ?_|refine zW ?_|refine zt (fun hcd => ?_) (fun hcd => ?_)|refine zu (fun hcd => ?_) (fun hcd => ?_)|refine zX ?_|refine zY ?_|refine zv (fun hcd => ?_) (fun hcd => ?_)|refine zk ?_|refine zl ?_|refine zm ?_|refine zn ?_|refine zf ?_|refine zg ?_|refine zj ?_|refine zZ ?_|refine zh ?_|refine zi ?_|refine zo ?_|refine zp ?_|refine zq ?_|refine zr ?_|refine zs ?_)
            refine r_mapB (v := (v : Int)) (b := false) mp100 kt3 hFd rfl rfl rfl fun W' hF' hC' hs' => ?_
            repeat' (first|refine za ?_|refine zA ?_|refine zB ?_|refine zb ?_|refine zc ?_|refine ze ?_|refine zd ?_|refine zC ?_|refine zD ?_|refine zE ?_|refine zF ?_|refine zG ?_|refine zH ?_|refine zI ?_|refine zJ ?_|refine zK ?_|refine zL ?_|refine zM ?_|refine zN ?_|refine zO ?_|refine zP ?_|refine zQ ?_|refine zR ?_|refine zS ?_|refine zU ?_|refine zV ?_|refine zW ?_|refine zt (fun hcd => ?_) (fun hcd => ?_)|refine zu (fun hcd => ?_) (fun hcd => ?_)|refine zX ?_|refine zY ?_|refine zv (fun hcd => ?_) (fun hcd => ?_)|refine zk ?_|refine zl ?_|refine zm ?_|refine zn ?_|refine zf ?_|refine zg ?_|refine zj ?_|refine zZ ?_|refine zh ?_|refine zi ?_|refine zo ?_|refine zp ?_|refine zq ?_|refine zr ?_|refine zs ?_)
            exact hend W' hF' hC'
      case hdone =>
        rintro W ⟨fr2, a1, a2, a3, a4, a5, a6, a7, a8, a9, a10⟩ hblk
        rw [List.take_length] at a4
        repeat' (first|refine za ?_|refine zA ?_|refine zB ?_|refine zb ?_|refine zc ?_|refine ze ?_|refine zd ?_|refine zC ?_|refine zD ?_|refine zE ?_|refine zF ?_|refine zG ?_|refine zH ?_|refine zI ?_|refine zJ ?_|refine zK ?_|refine zL ?_|refine zM ?_|refine zN ?_|refine zO ?_|refine zP ?_|refine zQ ?_|refine zR ?_|refine zS ?_|refine zU ?_|refine zV ?_|refine zW ?_|refine zt (fun hcd => ?_) (fun hcd => ?_)|refine zu (fun hcd => ?_) (fun hcd => ?_)|refine zX ?_|refine zY ?_|refine zv (fun hcd => ?_) (fun hcd => ?_)|refine zk ?_|refine zl ?_|refine zm ?_|refine zn ?_|refine zf ?_|refine zg ?_|refine zj ?_|refine zZ ?_|refine zh ?_|refine zi ?_|refine zo ?_|refine zp ?_|refine zq ?_|refine zr ?_|refine zs ?_)
        refine ⟨v + 1, wr.heap.size :: M, fr2, ⟨rfl, rfl, trivial⟩, ⟨by omega, a1, a2, fun u h0 h1 x hx hp hu => ?_, a6, a7, Mk.cons a9 (hMv.ext hEwr) hblk, fun D hD => ?_, a10⟩, by omega⟩
        · by_cases e : u = v
          · subst e; exact a4 x hx hp hu
          · exact a3 _ (hpv u h0 (by omega) x hx hp hu)
        · rcases List.mem_cons.1 hD with rfl | hD
          · exact hszr
          · exact hMlo D hD
    · have : v = i := by omega
      subst this
      obtain ⟨d1, d2⟩ := hRv.done hPz hpv
      repeat' (first|refine za ?_|refine zA ?_|refine zB ?_|refine zb ?_|refine zc ?_|refine ze ?_|refine zd ?_|refine zC ?_|refine zD ?_|refine zE ?_|refine zF ?_|refine zG ?_|refine zH ?_|refine zI ?_|refine zJ ?_|refine zK ?_|refine zL ?_|refine zM ?_|refine zN ?_|refine zO ?_|refine zP ?_|refine zQ ?_|refine zR ?_|refine zS ?_|refine zU ?_|refine zV ?_|refine zW ?_|refine zt (fun hcd => ?_) (fun hcd => ?_)|refine zu (fun hcd => ?_) (fun hcd => ?_)|refine zX ?_|refine zY ?_|refine zv (fun hcd => ?_) (fun hcd => ?_)|refine zk ?_|refine zl ?_|refine zm ?_|refine zn ?_|refine zf ?_|refine zg ?_|refine zj ?_|refine zZ ?_|refine zh ?_|refine zi ?_|refine zo ?_|refine zp ?_|refine zq ?_|refine zr ?_|refine zs ?_)
      refine ⟨r + 1, M, fr1, ⟨rfl, rfl, trivial⟩, ⟨by omega, hFv, d2, d1, hv1, hv3, hMv, hMlo, hEv⟩, by omega⟩
  · have : r = i := by omega
    subst this
    have hfix := fix_end (L := L) (Sh := Sh) (n := (r : Int)) (fr := fr) hPz
    repeat' (first|refine za ?_|refine zA ?_|refine zB ?_|refine zb ?_|refine zc ?_|refine ze ?_|refine zd ?_|refine zC ?_|refine zD ?_|refine zE ?_|refine zF ?_|refine zG ?_|refine zH ?_|refine zI ?_|refine zJ ?_|refine zK ?_|refine zL ?_|refine zM ?_|refine zN ?_|refine zO ?_|refine zP ?_|refine zQ ?_|refine zR ?_|refine zS ?_|refine zU ?_|refine zV ?_|refine zW ?_|refine zt (fun hcd => ?_) (fun hcd => ?_)|refine zu (fun hcd => ?_) (fun hcd => ?_)|refine zX ?_|refine zY ?_|refine zv (fun hcd => ?_) (fun hcd => ?_)|refine zk ?_|refine zl ?_|refine zm ?_|refine zn ?_|refine zf ?_|refine zg ?_|refine zj ?_|refine zZ ?_|refine zh ?_|refine zi ?_|refine zo ?_|refine zp ?_|refine zq ?_|refine zr ?_|refine zs ?_)
    refine r_faE (o' := 0) fo89_0 rfl rfl ?_
    repeat' (first|refine za ?_|refine zA ?_|refine zB ?_|refine zb ?_|refine zc ?_|refine ze ?_|refine zd ?_|refine zC ?_|refine zD ?_|refine zE ?_|refine zF ?_|refine zG ?_|refine zH ?_|refine zI ?_|refine zJ ?_|refine zK ?_|refine zL ?_|refine zM ?_|refine zN ?_|refine zO ?_|refine zP ?_|refine zQ ?_|refine zR ?_|refine zS ?_|refine zU ?_|refine zV ?_|refine zW ?_|refine zt (fun hcd => ?_) (fun hcd => ?_)|refine zu (fun hcd => ?_) (fun hcd => ?_)|refine zX ?_|refine zY ?_|refine zv (fun hcd => ?_) (fun hcd => ?_)|refine zk ?_|refine zl ?_|refine zm ?_|refine zn ?_|refine zf ?_|refine zg ?_|refine zj ?_|refine zZ ?_|refine zh ?_|refine zi ?_|refine zo ?_|refine zp ?_|refine zq ?_|refine zr ?_|refine zs ?_)
    refine r_faE (o' := 0) fo72_0 rfl rfl ?_
    repeat' (first|refine za ?_|refine zA ?_|refine zB ?_|refine zb ?_|refine zc ?_|refine ze ?_|refine zd ?_|refine zC ?_|refine zD ?_|refine zE ?_|refine zF ?_|refine zG ?_|refine zH ?_|refine zI ?_|refine zJ ?_|refine zK ?_|refine zL ?_|refine zM ?_|refine zN ?_|refine zO ?_|refine zP ?_|refine zQ ?_|refine zR ?_|refine zS ?_|refine zU ?_|refine zV ?_|refine zW ?_|refine zt (fun hcd => ?_) (fun hcd => ?_)|refine zu (fun hcd => ?_) (fun hcd => ?_)|refine zX ?_|refine zY ?_|refine zv (fun hcd => ?_) (fun hcd => ?_)|refine zk ?_|refine zl ?_|refine zm ?_|refine zn ?_|refine zf ?_|refine zg ?_|refine zj ?_|refine zZ ?_|refine zh ?_|refine zi ?_|refine zo ?_|refine zp ?_|refine zq ?_|refine zr ?_|refine zs ?_)
    refine wc_loop2 [1, 3, 81] (fun (v : Nat) (val : Value) => [(8, val), (82, .int .i64 v)]) (fun v val wk => v ≤ r ∧ OwnI wk w.heap.size 3 val (notFr fr v) ∧ FrM wk bm fr ∧ Box wk b3 100 (.map (some bm)) ∧ Mk M wk ∧ Ext w wk) (fun v _ => r - v) 0 _ rfl ⟨rfl, rfl, trivial⟩ ⟨by omega, World.ownsRow_nil _ _ _ _, hFz, hz3, hMz, hEz⟩ ?_
    clear hFz hz3 hMz hEz hWz r0 r1 r2 r3 r4 g1 hz1
    rintro v val wk y ⟨hv, hO, hFk, hk3, hMk, hEk⟩
    have g3 := hk3.rd
    have hlen := notFr_le (fr := fr) (m := v)
    by_cases hvr : v < r
    · repeat' (first|refine za ?_|refine zA ?_|refine zB ?_|refine zb ?_|refine zc ?_|refine ze ?_|refine zd ?_|refine zC ?_|refine zD ?_|refine zE ?_|refine zF ?_|refine zG ?_|refine zH ?_|refine zI ?_|refine zJ ?_|refine zK ?_|refine zL ?_|refine zM ?_|refine zN ?_|refine zO ?_|refine zP ?_|refine zQ ?_|refine zR ?_|refine zS ?_|refine zU ?_|refine zV ?_|refine zW ?_|refine zt (fun hcd => ?_) (fun hcd => ?_)|refine zu (fun hcd => ?_) (fun hcd => ?_)|refine zX ?_|refine zY ?_|refine zv (fun hcd => ?_) (fun hcd => ?_)|refine zk ?_|refine zl ?_|refine zm ?_|refine zn ?_|refine zf ?_|refine zg ?_|refine zj ?_|refine zZ ?_|refine zh ?_|refine zi ?_|refine zo ?_|refine zp ?_|refine zq ?_|refine zr ?_|refine zs ?_)
      refine r_lookB mp100 kt3 hFk rfl rfl ?_
      have hstep : notFr fr (v + 1) = notFr fr v ++ if fr v then [] else [(v : Int)] := rfl
      cases hfv : fr v
      · rw [hfv] at hstep
        simp only [if_neg Bool.false_ne_true] at hstep
        repeat' (first|refine za ?_|refine zA ?_|refine zB ?_|refine zb ?_|refine zc ?_|refine ze ?_|refine zd ?_|refine zC ?_|refine zD ?_|refine zE ?_|refine zF ?_|refine zG ?_|refine zH ?_|refine zI ?_|refine zJ ?_|refine zK ?_|refine zL ?_|refine zM ?_|refine zN ?_|refine zO ?_|refine zP ?_|refine zQ ?_|refine zR ?_|refine zS ?_|refine zU ?_|refine zV ?_|refine zW ?_|refine zt (fun hcd => ?_) (fun hcd => ?_)|refine zu (fun hcd => ?_) (fun hcd => ?_)|refine zX ?_|refine zY ?_|refine zv (fun hcd => ?_) (fun hcd => ?_)|refine zk ?_|refine zl ?_|refine zm ?_|refine zn ?_|refine zf ?_|refine zg ?_|refine zj ?_|refine zZ ?_|refine zh ?_|refine zi ?_|refine zo ?_|refine zp ?_|refine zq ?_|refine zr ?_|refine zs ?_)
        refine r_append1_i el23 hO rfl rfl (by omega) hEk.size ?_
        intro v8 w8 z8 hO8 hg8 _ hnew
        have hC8 : Ch (fun k => val.ownBlock = some k) wk w8 := Ch.grown hg8 fun k hk => hk
        rw [← hstep] at hO8
        repeat' (first|refine za ?_|refine zA ?_|refine zB ?_|refine zb ?_|refine zc ?_|refine ze ?_|refine zd ?_|refine zC ?_|refine zD ?_|refine zE ?_|refine zF ?_|refine zG ?_|refine zH ?_|refine zI ?_|refine zJ ?_|refine zK ?_|refine zL ?_|refine zM ?_|refine zN ?_|refine zO ?_|refine zP ?_|refine zQ ?_|refine zR ?_|refine zS ?_|refine zU ?_|refine zV ?_|refine zW ?_|refine zt (fun hcd => ?_) (fun hcd => ?_)|refine zu (fun hcd => ?_) (fun hcd => ?_)|refine zX ?_|refine zY ?_|refine zv (fun hcd => ?_) (fun hcd => ?_)|refine zk ?_|refine zl ?_|refine zm ?_|refine zn ?_|refine zf ?_|refine zg ?_|refine zj ?_|refine zZ ?_|refine zh ?_|refine zi ?_|refine zo ?_|refine zp ?_|refine zq ?_|refine zr ?_|refine zs ?_)
        refine ⟨v + 1, v8, ⟨rfl, rfl, trivial⟩, ⟨by omega, hO8, hFk.keep hC8 fun e => ?_, hk3.keep hC8 fun e => hk3.nerow hO (by decide) e, hMk.ch hC8 fun k hk => row_cm hO hk, Ch.trans' hEk hC8 fun k hk e => by have := (World.ownsRow.lt hO k e).1; omega⟩, by omega⟩
        obtain ⟨c', hc'⟩ := row_obj hO e
        exact hFk.nobox hc'
      · rw [hfv] at hstep
        simp only [if_true, List.append_nil] at hstep
        repeat' (first|refine za ?_|refine zA ?_|refine zB ?_|refine zb ?_|refine zc ?_|refine ze ?_|refine zd ?_|refine zC ?_|refine zD ?_|refine zE ?_|refine zF ?_|refine zG ?_|refine zH ?_|refine zI ?_|refine zJ ?_|refine zK ?_|refine zL ?_|refine zM ?_|refine zN ?_|refine zO ?_|refine zP ?_|refine zQ ?_|refine zR ?_|refine zS ?_|refine zU ?_|refine zV ?_|refine zW ?_|refine zt (fun hcd => ?_) (fun hcd => ?_)|refine zu (fun hcd => ?_) (fun hcd => ?_)|refine zX ?_|refine zY ?_|refine zv (fun hcd => ?_) (fun hcd => ?_)|refine zk ?_|refine zl ?_|refine zm ?_|refine zn ?_|refine zf ?_|refine zg ?_|refine zj ?_|refine zZ ?_|refine zh ?_|refine zi ?_|refine zo ?_|refine zp ?_|refine zq ?_|refine zr ?_|refine zs ?_)
        refine ⟨v + 1, val, ⟨rfl, rfl, trivial⟩, ⟨by omega, by rw [hstep]; exact hO, hFk, hk3, hMk, hEk⟩, by omega⟩
    · have : v = r := by omega
      subst this
      repeat' (first|refine za ?_|refine zA ?_|refine zB ?_|refine zb ?_|refine zc ?_|refine ze ?_|refine zd ?_|refine zC ?_|refine zD ?_|refine zE ?_|refine zF ?_|refine zG ?_|refine zH ?_|refine zI ?_|refine zJ ?_|refine zK ?_|refine zL ?_|refine zM ?_|refine zN ?_|refine zO ?_|refine zP ?_|refine zQ ?_|refine zR ?_|refine zS ?_|refine zU ?_|refine zV ?_|refine zW ?_|refine zt (fun hcd => ?_) (fun hcd => ?_)|refine zu (fun hcd => ?_) (fun hcd => ?_)|refine zX ?_|refine zY ?_|refine zv (fun hcd => ?_) (fun hcd => ?_)|refine zk ?_|refine zl ?_|refine zm ?_|refine zn ?_|refine zf ?_|refine zg ?_|refine zj ?_|refine zZ ?_|refine zh ?_|refine zi ?_|refine zo ?_|refine zp ?_|refine zq ?_|refine zr ?_|refine zs ?_)
      obtain ⟨d1, d2⟩ := hRz.clo hfix hS hn.2 hG (F := notFr fr v) fun u => notFr_mem
      refine postK1 M rfl hMk rfl (v := val) rfl fun w' hc => ⟨notFr fr v, by rw [eb1]; exact ownsRow_keep hO hc fun g hg e => (row_cm hO hg).nemk hMk e, notFr_asc, d1, d2, Ch.trans' hEk hc fun k hk e => by have := hMlo k e; omega⟩
end Go.Proofs.Ytibegggcinonkaa

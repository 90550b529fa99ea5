/- bags: what is shared, in memory; has, move. -/
import Derived.Test.YtibegggcinonkaaC
import Derived.Test.YtibegggcinonkaaShR
import Derived.Test.YtibegggcinonkaaRngL
import Derived.Test.YtibegggcinonkaaPG
namespace Go.Proofs.Ytibegggcinonkaa
open Gv
theorem fo89_0 : fldOff Try.prog 89 0 = some 0 := by kernel_rfl
theorem fo89_1 : fldOff Try.prog 89 1 = some 2 := by kernel_rfl
theorem fo89_2 : fldOff Try.prog 89 2 = some 3 := by kernel_rfl
theorem fo89_3 : fldOff Try.prog 89 3 = some 4 := by kernel_rfl
theorem fo89_4 : fldOff Try.prog 89 4 = some 5 := by kernel_rfl
theorem fo72_0 : fldOff Try.prog 72 0 = some 0 := by kernel_rfl
theorem fo72_1 : fldOff Try.prog 72 1 = some 1 := by kernel_rfl
theorem fo46_0 : fldOff Try.prog 46 0 = some 0 := by kernel_rfl
theorem fo46_1 : fldOff Try.prog 46 1 = some 1 := by kernel_rfl
theorem sz49 : sliceSz Try.prog 49 = some 2 := by kernel_rfl
theorem ar75 : arrSz Try.prog 75 = some (16, 1) := by kernel_rfl
theorem ar42 : arrSz0 Try.prog 42 = some (2, 1) := by kernel_rfl
theorem el49 : elemI Try.prog 49 = some (42, .agg #[.int .i64 0, .int .i64 0], 2, 16) := by kernel_rfl
theorem ct84 : cellT Try.prog 84 = true := by kernel_rfl
theorem ct105 : cellT Try.prog 105 = true := by kernel_rfl
theorem kt3 : KeyOf Try.prog 3 encI := key_int Try.underlying3
theorem mp105 : mapT Try.prog 105 = some (3, 3, .int .i64 0) := by kernel_rfl
/-- A sharing in memory. -/
structure ShW (w : World) (b base : Nat) (n most whole : Int) (ve : Value) (q : Option Addr) (c : Nat) (L Sh : List (Int × Int)) (Ld : List Int) : Prop where
  blk : Blk w b 89 (.int .i64 n :: ve :: .int .i64 most :: .int .i64 whole :: .slice q Sh.length c :: ints Ld)
  ldlen : Ld.length = 16
  own : OwnP w base 42 (.slice q Sh.length c) Sh
  edg : Pairs2 w ve L
  eblk : ∀ g, ve.ownBlock = some g → g < base
  bblk : base ≤ b
  len : Sh.length = L.length
section
variable {w w' : World} {b base : Nat} {n most whole : Int} {ve : Value} {q : Option Addr} {c : Nat} {L Sh : List (Int × Int)} {Ld : List Int}
/-- What a sharing changes: its own block and its share. -/
def shB (b : Nat) (q : Option Addr) (k : Nat) : Prop := k = b ∨ (q.bind fun a => if a.off = 0 ∧ a.spot = none then some a.block else none) = some k
theorem ShW.ne (h : ShW w b base n most whole ve q c L Sh Ld) {g : Nat} (hg : (Value.slice q Sh.length c).ownBlock = some g) : base ≤ g ∧ g ≠ b ∧ g < w.heap.size := by
  have h1 := World.ownsRow.lt h.own g hg
  refine ⟨h1.1, fun e => ?_, h1.2⟩
  subst e
  rcases h.own.2 with ⟨hv, _⟩ | ⟨g', cap, cur, hv, hb, hgg, _⟩
  · rw [hv] at hg; cases hg
  · rw [hv] at hg; cases hg
    have := h.blk; unfold Blk at this
    rw [hgg] at this; cases this
theorem ShW.nemap {κ : Type} [DecidableEq κ] {enc : κ → Value} {bm : Nat} {F : κ → Option Value} (h : ShW w b base n most whole ve q c L Sh Ld) (hF : MapF enc w bm F) : bm ≠ b ∧ (Value.slice q Sh.length c).ownBlock ≠ some bm := by
  obtain ⟨m, cl, h1, _⟩ := hF
  have h1 := h1.1
  refine ⟨fun e => ?_, fun e => ?_⟩
  · subst e
    have := h.blk; unfold Blk at this
    rw [h1] at this; cases this
  · rcases h.own.2 with ⟨hv, _⟩ | ⟨g', cap, cur, hv, hb, hgg, _⟩
    · rw [hv] at e; cases e
    · rw [hv] at e; cases e
      rw [h1] at hgg; cases hgg
theorem ShW.keep {S : Nat → Prop} (h : ShW w b base n most whole ve q c L Sh Ld) (hc : Ch S w w') (hs : ∀ k, S k → ¬ (k = b ∨ (Value.slice q Sh.length c).ownBlock = some k ∨ ve.ownBlock = some k)) : ShW w' b base n most whole ve q c L Sh Ld :=
  ⟨h.blk.keep hc fun e => hs _ e (.inl rfl), h.ldlen, ownsRow_keep h.own hc fun _ hg e => hs _ e (.inr (.inl hg)), h.edg.keep hc fun _ hg e => hs _ e (.inr (.inr hg)), h.eblk, h.bblk, h.len⟩
theorem ShW.ext (h : ShW w b base n most whole ve q c L Sh Ld) (hc : Ext w w') : ShW w' b base n most whole ve q c L Sh Ld := h.keep hc fun _ e => e.elim
theorem ShW.new {B : Nat} (h : ShW w b base n most whole ve q c L Sh Ld) (hc : Ch (fun k => B ≤ k) w w') (hb : w.heap.size ≤ B) (hx : ∀ g, ve.ownBlock = some g → g < w.heap.size) : ShW w' b base n most whole ve q c L Sh Ld :=
  h.keep hc fun k hk e => by
    rcases e with rfl | e | e
    · have := h.blk.lt; omega
    · have := (h.ne e).2.2; omega
    · have := hx k e; omega
/-- What can be read. -/
theorem ShW.rds (h : ShW w b base n most whole ve q c L Sh Ld) : rd w (some ⟨b, 0, none⟩) = some (.int .i64 n) ∧ rd w (some ⟨b, 1, none⟩) = some ve ∧ rd w (some ⟨b, 2, none⟩) = some (.int .i64 most) ∧ rd w (some ⟨b, 3, none⟩) = some (.int .i64 whole) ∧
    rd w (some ⟨b, 4, none⟩) = some (.slice q Sh.length c) := ⟨h.blk.rd rfl, h.blk.rd rfl, h.blk.rd rfl, h.blk.rd rfl, h.blk.rd rfl⟩
theorem ShW.ld (h : ShW w b base n most whole ve q c L Sh Ld) {v : Int} (hv : 0 ≤ v ∧ v < 16) : rd w (some ⟨b, 5 + v.toNat, none⟩) = some (.int .i64 (Ld.getD v.toNat 0)) := by
  refine h.blk.rd ?_
  have := h.ldlen
  rw [show 5 + v.toNat = v.toNat + 1 + 1 + 1 + 1 + 1 by omega]
  simp only [List.getElem?_cons_succ]
  exact ints_getD (by omega)
theorem ShW.isSome (h : ShW w b base n most whole ve q c L Sh Ld) (h0 : 0 < L.length) : q.isSome = true := by
  obtain ⟨q', c', he, _⟩ := h.own.pairs.slice
  cases he
  exact (h.own.pairs.isSome (by rw [h.len]; exact h0))
theorem ShW.rdS (h : ShW w b base n most whole ve q c L Sh Ld) {k : Nat} {v : Int} (hk : k < L.length) : rd w ((pidx q k 2).map fun a => a.add (hj L k v)) = some (.int .i64 (hs L Sh k v)) := by
  have := h.own.pairs.rd (i := k) (by rw [h.len]; exact hk)
  unfold hs hj
  by_cases c : (ed L k).1 = v
  · rw [if_pos c, if_pos c]; exact this.1
  · rw [if_neg c, if_neg c]; exact this.2
theorem ShW.rdSh (h : ShW w b base n most whole ve q c L Sh Ld) {k : Nat} (hk : k < L.length) : rd w ((pidx q k 2).map fun a => a.add 0) = some (.int .i64 (ed Sh k).1) ∧ rd w ((pidx q k 2).map fun a => a.add 1) = some (.int .i64 (ed Sh k).2) := h.own.pairs.rd (i := k) (by rw [h.len]; exact hk)
theorem setS_eq {k : Nat} {v x : Int} : setS L Sh k v x = Sh.set k (if hj L k v = 0 then (x, (Sh.getD k (0, 0)).2) else ((Sh.getD k (0, 0)).1, x)) := by
  unfold setS hj
  by_cases c : (ed L k).1 = v
  · simp only [if_pos c, if_true]
  · simp only [if_neg c, Nat.one_ne_zero, if_false]
theorem hj_lt {k : Nat} {v : Int} : hj L k v < 2 := by unfold hj; split <;> decide
/-- A store to what a vertex has of an edge. -/
theorem r_st_has {K : Env → World → Prop} {ρ : Env} {x y : Operand} {ty : TypeId} {pos : String} {aft : Array Edge} {gd : Option (Nat × Bool)} {k : Nat} {v a : Int} (h : ShW w b base n most whole ve q c L Sh Ld) (hx : ev ρ x = .pointer ((pidx q k 2).map fun p => p.add (hj L k v))) (hy : ev ρ y = .int .i64 a) (hk : k < L.length)
    (hK : ∀ w', ShW w' b base n most whole ve q c L (setS L Sh k v a) Ld → Ch (fun g => (Value.slice q Sh.length c).ownBlock = some g) w w' → w'.heap.size = w.heap.size → K ρ w') :
    w1 Try.prog false ⟨none, .store 3 x y, ty, pos, aft, gd⟩ K ρ w := by
  refine r_st_pc (i := k) (j := hj L k v) (by kernel_rfl) h.own hx hy (by rw [h.len]; exact hk) hj_lt fun w' h1 h2 h3 => ?_
  have hC : Ch (fun g => (Value.slice q Sh.length c).ownBlock = some g) w w' := Ch.grown h2 fun k hk => hk
  refine hK w' ⟨?_, h.ldlen, ?_, ?_, h.eblk, h.bblk, by rw [setS_length]; exact h.len⟩ hC h3
  · rw [setS_length]; exact h.blk.keep hC fun e => (h.ne e).2.1 rfl
  · rw [setS_length, setS_eq]; exact h1
  · exact h.edg.keep hC fun g hg e => by have := h.eblk g hg; have := (h.ne e).1; omega
/-- A store to a load. -/
theorem r_st_load {K : Env → World → Prop} {ρ : Env} {x y : Operand} {ty : TypeId} {pos : String} {aft : Array Edge} {gd : Option (Nat × Bool)} {v a : Int} (h : ShW w b base n most whole ve q c L Sh Ld) (hv : 0 ≤ v ∧ v < 16) (hx : ev ρ x = .pointer (some ⟨b, 5 + v.toNat, none⟩)) (hy : ev ρ y = .int .i64 a)
    (hK : ∀ w', ShW w' b base n most whole ve q c L Sh (Ld.set v.toNat a) → Ch (fun k => k = b) w w' → w'.heap.size = w.heap.size → K ρ w') :
    w1 Try.prog false ⟨none, .store 3 x y, ty, pos, aft, gd⟩ K ρ w := by
  have hl := h.ldlen
  refine r_st_blk (by kernel_rfl) h.blk hx hy rfl (by simp only [List.length_cons, ints_length]; omega) fun w' h1 h2 h3 => ?_
  refine hK w' ⟨?_, by rw [List.length_set]; exact hl, ownsRow_keep h.own h2 fun g hg e => (h.ne hg).2.1 e, h.edg.keep h2 fun g hg e => by have := h.eblk g hg; have := h.bblk; omega, h.eblk, h.bblk, h.len⟩ h2 h3
  rw [show 5 + v.toNat = v.toNat + 1 + 1 + 1 + 1 + 1 by omega] at h1
  simp only [List.set_cons_succ, ints_set] at h1
  exact h1
end
set_option maxRecDepth 20000 in
set_option maxHeartbeats 1000000 in
theorem has_any (w : World) (b base : Nat) (n most whole : Int) (ve : Value) (q : Option Addr) (c : Nat) (L Sh : List (Int × Int)) (Ld : List Int) (h : ShW w b base n most whole ve q c L Sh Ld) (k : Nat) (v : Int) (hk : k < L.length) :
    Calls Try.prog 58 #[.pointer (some ⟨b, 0, none⟩), .int .i64 k, .int .i64 v] w (Ret fun v' w' => v' = .pointer ((pidx q k 2).map fun a => a.add (hj L k v)) ∧ w' = w) := by
  obtain ⟨qe, ce, rfl, hqe⟩ := h.edg.slice
  obtain ⟨r0, r1, r2, r3, r4⟩ := h.rds
  have hqs := h.isSome (by omega)
  have hes := h.edg.isSome (by omega)
  obtain ⟨e0, e1⟩ := h.edg.rd hk
  have hlen := h.len
  refine calls_of_wc (args := [.pointer (some ⟨b, 0, none⟩), .int .i64 k, .int .i64 v]) Try.func58 rfl ?_ ?_; kernel_rfl
  repeat' (first|refine za ?_|refine zA ?_|refine zB ?_|refine zb ?_|refine zc ?_|refine ze ?_|refine zd ?_|refine zC ?_|refine zD ?_|refine zE ?_|refine zF ?_|refine zG ?_|refine zH ?_|refine zI ?_|refine zJ ?_|refine zK ?_|refine zL ?_|refine zM ?_|refine zN ?_|refine zO ?_|refine zP ?_|refine zQ ?_|refine zR ?_|refine zS ?_|refine zU ?_|refine zV ?_|refine zW ?_|refine zt (fun hcd => ?_) (fun hcd => ?_)|refine zu (fun hcd => ?_) (fun hcd => ?_)|refine zX ?_|refine zY ?_|refine zv (fun hcd => ?_) (fun hcd => ?_)|refine zk ?_|refine zl ?_|refine zm ?_|refine zn ?_|refine zf ?_|refine zg ?_|refine zj ?_|refine zZ ?_|refine zh ?_|refine zi ?_|refine zo ?_|refine zp ?_|refine zq ?_|refine zr ?_|refine zs ?_)
  refine r_faE (o' := 0) fo89_0 rfl rfl ?_
  repeat' (first|refine za ?_|refine zA ?_|refine zB ?_|refine zb ?_|refine zc ?_|refine ze ?_|refine zd ?_|refine zC ?_|refine zD ?_|refine zE ?_|refine zF ?_|refine zG ?_|refine zH ?_|refine zI ?_|refine zJ ?_|refine zK ?_|refine zL ?_|refine zM ?_|refine zN ?_|refine zO ?_|refine zP ?_|refine zQ ?_|refine zR ?_|refine zS ?_|refine zU ?_|refine zV ?_|refine zW ?_|refine zt (fun hcd => ?_) (fun hcd => ?_)|refine zu (fun hcd => ?_) (fun hcd => ?_)|refine zX ?_|refine zY ?_|refine zv (fun hcd => ?_) (fun hcd => ?_)|refine zk ?_|refine zl ?_|refine zm ?_|refine zn ?_|refine zf ?_|refine zg ?_|refine zj ?_|refine zZ ?_|refine zh ?_|refine zi ?_|refine zo ?_|refine zp ?_|refine zq ?_|refine zr ?_|refine zs ?_)
  refine r_faE (o' := 1) fo72_1 rfl rfl ?_
  repeat' (first|refine za ?_|refine zA ?_|refine zB ?_|refine zb ?_|refine zc ?_|refine ze ?_|refine zd ?_|refine zC ?_|refine zD ?_|refine zE ?_|refine zF ?_|refine zG ?_|refine zH ?_|refine zI ?_|refine zJ ?_|refine zK ?_|refine zL ?_|refine zM ?_|refine zN ?_|refine zO ?_|refine zP ?_|refine zQ ?_|refine zR ?_|refine zS ?_|refine zU ?_|refine zV ?_|refine zW ?_|refine zt (fun hcd => ?_) (fun hcd => ?_)|refine zu (fun hcd => ?_) (fun hcd => ?_)|refine zX ?_|refine zY ?_|refine zv (fun hcd => ?_) (fun hcd => ?_)|refine zk ?_|refine zl ?_|refine zm ?_|refine zn ?_|refine zf ?_|refine zg ?_|refine zj ?_|refine zZ ?_|refine zh ?_|refine zi ?_|refine zo ?_|refine zp ?_|refine zq ?_|refine zr ?_|refine zs ?_)
  refine r_faQ fo46_0 rfl (pidx_isSome hes) ?_
  repeat' (first|refine za ?_|refine zA ?_|refine zB ?_|refine zb ?_|refine zc ?_|refine ze ?_|refine zd ?_|refine zC ?_|refine zD ?_|refine zE ?_|refine zF ?_|refine zG ?_|refine zH ?_|refine zI ?_|refine zJ ?_|refine zK ?_|refine zL ?_|refine zM ?_|refine zN ?_|refine zO ?_|refine zP ?_|refine zQ ?_|refine zR ?_|refine zS ?_|refine zU ?_|refine zV ?_|refine zW ?_|refine zt (fun hcd => ?_) (fun hcd => ?_)|refine zu (fun hcd => ?_) (fun hcd => ?_)|refine zX ?_|refine zY ?_|refine zv (fun hcd => ?_) (fun hcd => ?_)|refine zk ?_|refine zl ?_|refine zm ?_|refine zn ?_|refine zf ?_|refine zg ?_|refine zj ?_|refine zZ ?_|refine zh ?_|refine zi ?_|refine zo ?_|refine zp ?_|refine zq ?_|refine zr ?_|refine zs ?_)
  · refine r_faE (o' := 4) fo89_3 rfl rfl ?_
    repeat' (first|refine za ?_|refine zA ?_|refine zB ?_|refine zb ?_|refine zc ?_|refine ze ?_|refine zd ?_|refine zC ?_|refine zD ?_|refine zE ?_|refine zF ?_|refine zG ?_|refine zH ?_|refine zI ?_|refine zJ ?_|refine zK ?_|refine zL ?_|refine zM ?_|refine zN ?_|refine zO ?_|refine zP ?_|refine zQ ?_|refine zR ?_|refine zS ?_|refine zU ?_|refine zV ?_|refine zW ?_|refine zt (fun hcd => ?_) (fun hcd => ?_)|refine zu (fun hcd => ?_) (fun hcd => ?_)|refine zX ?_|refine zY ?_|refine zv (fun hcd => ?_) (fun hcd => ?_)|refine zk ?_|refine zl ?_|refine zm ?_|refine zn ?_|refine zf ?_|refine zg ?_|refine zj ?_|refine zZ ?_|refine zh ?_|refine zi ?_|refine zo ?_|refine zp ?_|refine zq ?_|refine zr ?_|refine zs ?_)
    refine r_idxQ ar42 rfl (pidx_isSome hqs) rfl (by decide) (by decide) ?_
    repeat' (first|refine za ?_|refine zA ?_|refine zB ?_|refine zb ?_|refine zc ?_|refine ze ?_|refine zd ?_|refine zC ?_|refine zD ?_|refine zE ?_|refine zF ?_|refine zG ?_|refine zH ?_|refine zI ?_|refine zJ ?_|refine zK ?_|refine zL ?_|refine zM ?_|refine zN ?_|refine zO ?_|refine zP ?_|refine zQ ?_|refine zR ?_|refine zS ?_|refine zU ?_|refine zV ?_|refine zW ?_|refine zt (fun hcd => ?_) (fun hcd => ?_)|refine zu (fun hcd => ?_) (fun hcd => ?_)|refine zX ?_|refine zY ?_|refine zv (fun hcd => ?_) (fun hcd => ?_)|refine zk ?_|refine zl ?_|refine zm ?_|refine zn ?_|refine zf ?_|refine zg ?_|refine zj ?_|refine zZ ?_|refine zh ?_|refine zi ?_|refine zo ?_|refine zp ?_|refine zq ?_|refine zr ?_|refine zs ?_)
    refine post1 (v := .pointer ((pidx q k 2).map fun a => a.add 0)) rfl rfl ⟨?_, rfl⟩
    unfold hj; rw [if_pos hcd]
  · refine r_faE (o' := 4) fo89_3 rfl rfl ?_
    repeat' (first|refine za ?_|refine zA ?_|refine zB ?_|refine zb ?_|refine zc ?_|refine ze ?_|refine zd ?_|refine zC ?_|refine zD ?_|refine zE ?_|refine zF ?_|refine zG ?_|refine zH ?_|refine zI ?_|refine zJ ?_|refine zK ?_|refine zL ?_|refine zM ?_|refine zN ?_|refine zO ?_|refine zP ?_|refine zQ ?_|refine zR ?_|refine zS ?_|refine zU ?_|refine zV ?_|refine zW ?_|refine zt (fun hcd => ?_) (fun hcd => ?_)|refine zu (fun hcd => ?_) (fun hcd => ?_)|refine zX ?_|refine zY ?_|refine zv (fun hcd => ?_) (fun hcd => ?_)|refine zk ?_|refine zl ?_|refine zm ?_|refine zn ?_|refine zf ?_|refine zg ?_|refine zj ?_|refine zZ ?_|refine zh ?_|refine zi ?_|refine zo ?_|refine zp ?_|refine zq ?_|refine zr ?_|refine zs ?_)
    refine r_idxQ ar42 rfl (pidx_isSome hqs) rfl (by decide) (by decide) ?_
    repeat' (first|refine za ?_|refine zA ?_|refine zB ?_|refine zb ?_|refine zc ?_|refine ze ?_|refine zd ?_|refine zC ?_|refine zD ?_|refine zE ?_|refine zF ?_|refine zG ?_|refine zH ?_|refine zI ?_|refine zJ ?_|refine zK ?_|refine zL ?_|refine zM ?_|refine zN ?_|refine zO ?_|refine zP ?_|refine zQ ?_|refine zR ?_|refine zS ?_|refine zU ?_|refine zV ?_|refine zW ?_|refine zt (fun hcd => ?_) (fun hcd => ?_)|refine zu (fun hcd => ?_) (fun hcd => ?_)|refine zX ?_|refine zY ?_|refine zv (fun hcd => ?_) (fun hcd => ?_)|refine zk ?_|refine zl ?_|refine zm ?_|refine zn ?_|refine zf ?_|refine zg ?_|refine zj ?_|refine zZ ?_|refine zh ?_|refine zi ?_|refine zo ?_|refine zp ?_|refine zq ?_|refine zr ?_|refine zs ?_)
    refine post1 (v := .pointer ((pidx q k 2).map fun a => a.add 1)) rfl rfl ⟨?_, rfl⟩
    unfold hj; rw [if_neg hcd]
end Go.Proofs.Ytibegggcinonkaa

/- bags: what is shared, in memory; has, move; bags: move; bags: around; top: slices.Sort of ints, by the kit's contract (its laying printed by the kit's own tool); bags: give. -/
import Derived.Test.YtocgehoffdjijaaGreatBX
import Derived.Test.YtocgehoffdjijaaGreatShR
import Derived.Test.YtocgehoffdjijaaGreatRngL
import Derived.Test.YtocgehoffdjijaaGreatBPG
import Derived.Shelf.Sort.Plain
import Derived.Sort.OwnSortedInts
import Derived.Test.YtocgehoffdjijaaGreatMem
import Derived.Test.YtocgehoffdjijaaGreatUpj
/- bags: what is shared, in memory; has, move. -/
namespace Go.Proofs.YtocgehoffdjijaaGreat
namespace Bg
set_option maxRecDepth 20000
open Gv
theorem fo89_0 : fldOff Tryz.prog 130 0 = some 0 := by kernel_rfl
theorem fo89_1 : fldOff Tryz.prog 130 1 = some 2 := by kernel_rfl
theorem fo89_2 : fldOff Tryz.prog 130 2 = some 3 := by kernel_rfl
theorem fo89_3 : fldOff Tryz.prog 130 3 = some 4 := by kernel_rfl
theorem fo89_4 : fldOff Tryz.prog 130 4 = some 5 := by kernel_rfl
theorem fo72_0 : fldOff Tryz.prog 109 0 = some 0 := by kernel_rfl
theorem fo72_1 : fldOff Tryz.prog 109 1 = some 1 := by kernel_rfl
theorem fo46_0 : fldOff Tryz.prog 40 0 = some 0 := by kernel_rfl
theorem fo46_1 : fldOff Tryz.prog 40 1 = some 1 := by kernel_rfl
theorem sz49 : sliceSz Tryz.prog 33 = some 2 := by kernel_rfl
theorem ar75 : arrSz Tryz.prog 128 = some (16, 1) := by kernel_rfl
theorem ar42 : arrSz0 Tryz.prog 38 = some (2, 1) := by kernel_rfl
theorem el49 : elemI Tryz.prog 33 = some (38, .agg #[.int .i64 0, .int .i64 0], 2, 16) := by kernel_rfl
theorem ct84 : cellT Tryz.prog 124 = true := by kernel_rfl
theorem ct105 : cellT Tryz.prog 207 = true := by kernel_rfl
theorem kt3 : KeyOf Tryz.prog 3 encI := key_int Tryz.underlying3
theorem mp105 : mapT Tryz.prog 207 = some (3, 3, .int .i64 0) := by kernel_rfl
/-- A sharing in memory. -/
structure ShW (w : World) (b base : Nat) (n most whole : Int) (ve : Value) (q : Option Addr) (c : Nat) (L Sh : List (Int × Int)) (Ld : List Int) : Prop where
  blk : Blk w b 130 (.int .i64 n :: ve :: .int .i64 most :: .int .i64 whole :: .slice q Sh.length c :: ints Ld)
  ldlen : Ld.length = 16
  own : OwnP w base 38 (.slice q Sh.length c) Sh
  edg : Pairs2 w ve L
  eblk : ∀ g, ve.ownBlock = some g → g < base
  bblk : base ≤ b
  len : Sh.length = L.length
section
variable {w w' : World} {b base : Nat} {n most whole : Int} {ve : Value} {q : Option Addr} {c : Nat} {L Sh : List (Int × Int)} {Ld : List Int}
/-- What a sharing changes: its own block and its share. -/
def shB (b : Nat) (q : Option Addr) (k : Nat) : Prop := k = b ∨ (q.bind fun a => if a.off = 0 ∧ a.spot = none then some a.block else none) = some k
theorem ShW.ne (h : ShW w b base n most whole ve q c L Sh Ld) {g : Nat} (hg : (Value.slice q Sh.length c).ownBlock = some g) : base ≤ g ∧ g ≠ b ∧ g < w.heap.size := by
  have h1 := World.ownsRow.lt h.own g hg
  refine ⟨h1.1, fun e => ?_, h1.2⟩
  subst e
  rcases h.own.2 with ⟨hv, _⟩ | ⟨g', cap, cur, hv, hb, hgg, _⟩
  · rw [hv] at hg; cases hg
  · rw [hv] at hg; cases hg
    have := h.blk; unfold Blk at this
    rw [hgg] at this; cases this
theorem ShW.nemap {κ : Type} [DecidableEq κ] {enc : κ → Value} {bm : Nat} {F : κ → Option Value} (h : ShW w b base n most whole ve q c L Sh Ld) (hF : MapF enc w bm F) : bm ≠ b ∧ (Value.slice q Sh.length c).ownBlock ≠ some bm := by
  obtain ⟨m, cl, h1, _⟩ := hF
  have h1 := h1.1
  refine ⟨fun e => ?_, fun e => ?_⟩
  · subst e
    have := h.blk; unfold Blk at this
    rw [h1] at this; cases this
  · rcases h.own.2 with ⟨hv, _⟩ | ⟨g', cap, cur, hv, hb, hgg, _⟩
    · rw [hv] at e; cases e
    · rw [hv] at e; cases e
      rw [h1] at hgg; cases hgg
theorem ShW.keep {S : Nat → Prop} (h : ShW w b base n most whole ve q c L Sh Ld) (hc : Ch S w w') (hs : ∀ k, S k → ¬ (k = b ∨ (Value.slice q Sh.length c).ownBlock = some k ∨ ve.ownBlock = some k)) : ShW w' b base n most whole ve q c L Sh Ld :=
  ⟨h.blk.keep hc fun e => hs _ e (.inl rfl), h.ldlen, ownsRow_keep h.own hc fun _ hg e => hs _ e (.inr (.inl hg)), h.edg.keep hc fun _ hg e => hs _ e (.inr (.inr hg)), h.eblk, h.bblk, h.len⟩
theorem ShW.ext (h : ShW w b base n most whole ve q c L Sh Ld) (hc : Ext w w') : ShW w' b base n most whole ve q c L Sh Ld := h.keep hc fun _ e => e.elim
theorem ShW.new {B : Nat} (h : ShW w b base n most whole ve q c L Sh Ld) (hc : Ch (fun k => B ≤ k) w w') (hb : w.heap.size ≤ B) (hx : ∀ g, ve.ownBlock = some g → g < w.heap.size) : ShW w' b base n most whole ve q c L Sh Ld :=
  h.keep hc fun k hk e => by
    rcases e with rfl | e | e
    · have := h.blk.lt; omega
    · have := (h.ne e).2.2; omega
    · have := hx k e; omega
/-- What can be read. -/
theorem ShW.rds (h : ShW w b base n most whole ve q c L Sh Ld) : rd w (some ⟨b, 0, none⟩) = some (.int .i64 n) ∧ rd w (some ⟨b, 1, none⟩) = some ve ∧ rd w (some ⟨b, 2, none⟩) = some (.int .i64 most) ∧ rd w (some ⟨b, 3, none⟩) = some (.int .i64 whole) ∧
    rd w (some ⟨b, 4, none⟩) = some (.slice q Sh.length c) := ⟨h.blk.rd rfl, h.blk.rd rfl, h.blk.rd rfl, h.blk.rd rfl, h.blk.rd rfl⟩
theorem ShW.ld (h : ShW w b base n most whole ve q c L Sh Ld) {v : Int} (hv : 0 ≤ v ∧ v < 16) : rd w (some ⟨b, 5 + v.toNat, none⟩) = some (.int .i64 (Ld.getD v.toNat 0)) := by
  refine h.blk.rd ?_
  have := h.ldlen
  rw [show 5 + v.toNat = v.toNat + 1 + 1 + 1 + 1 + 1 by omega]
  simp only [List.getElem?_cons_succ]
  exact ints_getD (by omega)
theorem ShW.isSome (h : ShW w b base n most whole ve q c L Sh Ld) (h0 : 0 < L.length) : q.isSome = true := by
  obtain ⟨q', c', he, _⟩ := h.own.pairs.slice
  cases he
  exact (h.own.pairs.isSome (by rw [h.len]; exact h0))
theorem ShW.rdS (h : ShW w b base n most whole ve q c L Sh Ld) {k : Nat} {v : Int} (hk : k < L.length) : rd w ((pidx q k 2).map fun a => a.add (hj L k v)) = some (.int .i64 (hs L Sh k v)) := by
  have := h.own.pairs.rd (i := k) (by rw [h.len]; exact hk)
  unfold hs hj
  by_cases c : (ed L k).1 = v
  · rw [if_pos c, if_pos c]; exact this.1
  · rw [if_neg c, if_neg c]; exact this.2
theorem ShW.rdSh (h : ShW w b base n most whole ve q c L Sh Ld) {k : Nat} (hk : k < L.length) : rd w ((pidx q k 2).map fun a => a.add 0) = some (.int .i64 (ed Sh k).1) ∧ rd w ((pidx q k 2).map fun a => a.add 1) = some (.int .i64 (ed Sh k).2) := h.own.pairs.rd (i := k) (by rw [h.len]; exact hk)
theorem setS_eq {k : Nat} {v x : Int} : setS L Sh k v x = Sh.set k (if hj L k v = 0 then (x, (Sh.getD k (0, 0)).2) else ((Sh.getD k (0, 0)).1, x)) := by
  unfold setS hj
  by_cases c : (ed L k).1 = v
  · simp only [if_pos c, if_true]
  · simp only [if_neg c, Nat.one_ne_zero, if_false]
theorem hj_lt {k : Nat} {v : Int} : hj L k v < 2 := by unfold hj; split <;> decide
/-- A store to what a vertex has of an edge. -/
theorem r_st_has {K : Env → World → Prop} {ρ : Env} {x y : Operand} {ty : TypeId} {pos : String} {aft : Array Edge} {gd : Option (Nat × Bool)} {k : Nat} {v a : Int} (h : ShW w b base n most whole ve q c L Sh Ld) (hx : ev ρ x = .pointer ((pidx q k 2).map fun p => p.add (hj L k v))) (hy : ev ρ y = .int .i64 a) (hk : k < L.length)
    (hK : ∀ w', ShW w' b base n most whole ve q c L (setS L Sh k v a) Ld → Ch (fun g => (Value.slice q Sh.length c).ownBlock = some g) w w' → w'.heap.size = w.heap.size → K ρ w') :
    w1 Tryz.prog false ⟨none, .store 3 x y, ty, pos, aft, gd⟩ K ρ w := by
  refine r_st_pc (i := k) (j := hj L k v) (by kernel_rfl) h.own hx hy (by rw [h.len]; exact hk) hj_lt fun w' h1 h2 h3 => ?_
  have hC : Ch (fun g => (Value.slice q Sh.length c).ownBlock = some g) w w' := Ch.grown h2 fun k hk => hk
  refine hK w' ⟨?_, h.ldlen, ?_, ?_, h.eblk, h.bblk, by rw [setS_length]; exact h.len⟩ hC h3
  · rw [setS_length]; exact h.blk.keep hC fun e => (h.ne e).2.1 rfl
  · rw [setS_length, setS_eq]; exact h1
  · exact h.edg.keep hC fun g hg e => by have := h.eblk g hg; have := (h.ne e).1; omega
/-- A store to a load. -/
theorem r_st_load {K : Env → World → Prop} {ρ : Env} {x y : Operand} {ty : TypeId} {pos : String} {aft : Array Edge} {gd : Option (Nat × Bool)} {v a : Int} (h : ShW w b base n most whole ve q c L Sh Ld) (hv : 0 ≤ v ∧ v < 16) (hx : ev ρ x = .pointer (some ⟨b, 5 + v.toNat, none⟩)) (hy : ev ρ y = .int .i64 a)
    (hK : ∀ w', ShW w' b base n most whole ve q c L Sh (Ld.set v.toNat a) → Ch (fun k => k = b) w w' → w'.heap.size = w.heap.size → K ρ w') :
    w1 Tryz.prog false ⟨none, .store 3 x y, ty, pos, aft, gd⟩ K ρ w := by
  have hl := h.ldlen
  refine r_st_blk (by kernel_rfl) h.blk hx hy rfl (by simp only [List.length_cons, ints_length]; omega) fun w' h1 h2 h3 => ?_
  refine hK w' ⟨?_, by rw [List.length_set]; exact hl, ownsRow_keep h.own h2 fun g hg e => (h.ne hg).2.1 e, h.edg.keep h2 fun g hg e => by have := h.eblk g hg; have := h.bblk; omega, h.eblk, h.bblk, h.len⟩ h2 h3
  rw [show 5 + v.toNat = v.toNat + 1 + 1 + 1 + 1 + 1 by omega] at h1
  simp only [List.set_cons_succ, ints_set] at h1
  exact h1
end
set_option maxRecDepth 20000 in
set_option maxHeartbeats 1000000 in
theorem has_any (w : World) (b base : Nat) (n most whole : Int) (ve : Value) (q : Option Addr) (c : Nat) (L Sh : List (Int × Int)) (Ld : List Int) (h : ShW w b base n most whole ve q c L Sh Ld) (k : Nat) (v : Int) (hk : k < L.length) :
    Calls Tryz.prog 111 #[.pointer (some ⟨b, 0, none⟩), .int .i64 k, .int .i64 v] w (Ret fun v' w' => v' = .pointer ((pidx q k 2).map fun a => a.add (hj L k v)) ∧ w' = w) := by
  obtain ⟨qe, ce, rfl, hqe⟩ := h.edg.slice
  obtain ⟨r0, r1, r2, r3, r4⟩ := h.rds
  have hqs := h.isSome (by omega)
  have hes := h.edg.isSome (by omega)
  obtain ⟨e0, e1⟩ := h.edg.rd hk
  have hlen := h.len
  refine calls_of_wc (args := [.pointer (some ⟨b, 0, none⟩), .int .i64 k, .int .i64 v]) Tryz.func111 rfl ?_ ?_; kernel_rfl
  repeat' (first|refine za ?_|refine zA ?_|refine zB ?_|refine zb ?_|refine zc ?_|refine ze ?_|refine zd ?_|refine zP ?_)
  refine r_faE (o' := 0) fo89_0 rfl rfl ?_
  repeat' (refine za ?_)
  refine r_faE (o' := 1) fo72_1 rfl rfl ?_
  repeat' (first|refine za ?_|refine zA ?_|refine zL ?_|refine zM ?_)
  refine r_faQ fo46_0 rfl (pidx_isSome hes) ?_
  repeat' (first|refine za ?_|refine zA ?_|refine zb ?_|refine zc ?_|refine ze ?_|refine zd ?_|refine zG ?_|refine zM ?_|refine zP ?_|refine zv (fun hcd => ?_) (fun hcd => ?_)|refine zk ?_)
  · refine r_faE (o' := 4) fo89_3 rfl rfl ?_
    repeat' (first|refine za ?_|refine zA ?_|refine zL ?_|refine zM ?_)
    refine r_idxQ ar42 rfl (pidx_isSome hqs) rfl (by decide) (by decide) ?_
    repeat' (first|refine za ?_|refine zB ?_|refine zb ?_|refine ze ?_|refine zn ?_|refine zf ?_)
    refine post1 (v := .pointer ((pidx q k 2).map fun a => a.add 0)) rfl rfl ⟨?_, rfl⟩
    unfold hj; rw [if_pos hcd]
  · refine r_faE (o' := 4) fo89_3 rfl rfl ?_
    repeat' (first|refine za ?_|refine zA ?_|refine zL ?_|refine zM ?_)
    refine r_idxQ ar42 rfl (pidx_isSome hqs) rfl (by decide) (by decide) ?_
    repeat' (first|refine za ?_|refine zB ?_|refine zb ?_|refine ze ?_|refine zn ?_)
    refine post1 (v := .pointer ((pidx q k 2).map fun a => a.add 1)) rfl rfl ⟨?_, rfl⟩
    unfold hj; rw [if_neg hcd]
end Bg
end Go.Proofs.YtocgehoffdjijaaGreat
/- bags: move. -/
namespace Go.Proofs.YtocgehoffdjijaaGreat
namespace Bg
set_option maxRecDepth 20000
open Gv
theorem ct84' : cellT Tryz.prog 124 = true := ct84
def viaV (Qs : List Int) (Es : List Nat) (v : Int) : Option Value := (viaF Qs Es v).map fun (k : Nat) => Value.int .i64 (k : Int)
theorem viaV_at {Qs : List Int} {Es : List Nat} {j : Nat} (h : Qs.Nodup) (hl : Es.length = Qs.length) (hj : j < Qs.length) : (viaV Qs Es (Qs.getD j 0)).getD (.int .i64 0) = .int .i64 ((Es.getD j 0 : Nat) : Int) := by
  unfold viaV; rw [viaF_at h hl hj]; rfl
set_option maxRecDepth 20000 in
set_option maxHeartbeats 1000000 in
theorem other_any (w : World) (b base b5 b8 bm : Nat) (n most whole : Int) (ve : Value) (q : Option Addr) (c : Nat) (L Sh : List (Int × Int)) (Ld : List Int) (h : ShW w b base n most whole ve q c L Sh Ld) (F : Int → Option Value)
    (h5 : Box w b5 124 (.pointer (some ⟨b, 0, none⟩))) (h8 : Box w b8 207 (.map (some bm))) (hF : MapF encI w bm F) (v : Int) (k : Nat) (hk : k < L.length) (hv : (F v).getD (.int .i64 0) = .int .i64 k)
    (hb : 0 ≤ (ed L k).1 ∧ (ed L k).1 ≤ 16 ∧ 0 ≤ (ed L k).2 ∧ (ed L k).2 ≤ 16 ∧ 0 ≤ v ∧ v ≤ 16) :
    Calls Tryz.prog 173 #[.int .i64 v, .pointer (some ⟨b5, 0, none⟩), .pointer (some ⟨b8, 0, none⟩)] w (Ret fun v' w' => v' = .int .i64 ((ed L k).1 + (ed L k).2 - v) ∧ Ext w w') := by
  have hE := Ext.drew w
  have h' := h.ext hE
  have hF' := hF.ext hE
  have g5 := (h5.ext hE).rd
  have g8 := (h8.ext hE).rd
  obtain ⟨qe, ce, rfl, hqe⟩ := h'.edg.slice
  obtain ⟨r0, r1, r2, r3, r4⟩ := h'.rds
  have hes := h'.edg.isSome (by omega)
  obtain ⟨e0, e1⟩ := h'.edg.rd hk
  change rd _ _ = some (.int .i64 (ed L k).1) at e0
  change rd _ _ = some (.int .i64 (ed L k).2) at e1
  generalize ed L k = e at *
  refine calls_of_wc (args := [.int .i64 v, .pointer (some ⟨b5, 0, none⟩), .pointer (some ⟨b8, 0, none⟩)]) Tryz.func173 rfl ?_ ?_; kernel_rfl
  repeat' (first|refine za ?_|refine zB ?_|refine zb ?_|refine zc ?_|refine ze ?_|refine zd ?_)
  (refine wc_drawn 24 (by kernel_rfl) (by kernel_rfl) ?_; simp only [List.take_succ_cons, List.take_zero, List.drop_succ_cons, List.drop_zero])
  repeat' (first|refine za ?_|refine zM ?_|refine zP ?_)
  refine r_faE (o' := 0) fo89_0 rfl rfl ?_
  repeat' (refine za ?_)
  refine r_faE (o' := 1) fo72_1 rfl rfl ?_
  repeat' (first|refine za ?_|refine zA ?_|refine zM ?_)
  refine r_lookup (k := v) (v := .int .i64 k) mp105 kt3 hF' rfl rfl hv ?_
  repeat' (first|refine za ?_|refine zL ?_)
  refine r_faQ fo46_0 rfl (pidx_isSome hes) ?_
  repeat' (first|refine za ?_|refine zM ?_|refine zP ?_)
  refine r_faE (o' := 0) fo89_0 rfl rfl ?_
  repeat' (refine za ?_)
  refine r_faE (o' := 1) fo72_1 rfl rfl ?_
  repeat' (first|refine za ?_|refine zA ?_|refine zM ?_)
  refine r_lookup (k := v) (v := .int .i64 k) mp105 kt3 hF' rfl rfl hv ?_
  repeat' (first|refine za ?_|refine zL ?_)
  refine r_faQ fo46_1 rfl (pidx_isSome hes) ?_
  repeat' (first|refine za ?_|refine zA ?_|refine zB ?_|refine zb ?_|refine ze ?_|refine zI ?_|refine zJ ?_|refine zM ?_|refine zn ?_)
  refine post1 (v := .int .i64 (e.1 + e.2 - v)) rfl rfl ?_
  exact ⟨rfl, hE⟩
set_option maxRecDepth 20000 in
set_option maxHeartbeats 4000000 in
theorem move_any (w : World) (b base bm : Nat) (n most whole : Int) (ve : Value) (q : Option Addr) (c : Nat) (L Sh : List (Int × Int)) (Ld : List Int) (h : ShW w b base n most whole ve q c L Sh Ld)
    (e j : Nat) (Qs : List Int) (Es : List Nat) (pr : Nat → Nat) (hT : Tr L Sh e n Qs Es pr) (hG : ∀ k, k < L.length → 0 ≤ (ed L k).1 ∧ (ed L k).1 < (ed L k).2 ∧ (ed L k).2 < n) (hn : n ≤ 16) (he : e < L.length) (hL : L.length ≤ 1000)
    (hS : Shr L Sh Ld most whole) (hF : MapF encI w bm (viaV Qs Es)) (hj : j < Qs.length) (A0 : Int) (hA0 : 0 < A0) (hleft : sm Sh e + A0 ≤ whole) (hroom : Ld.getD (Qs.getD j 0).toNat 0 + A0 ≤ most) (hm : most ≤ 1000000) (hw : whole ≤ 1000000) :
    Calls Tryz.prog 143 #[.pointer (some ⟨b, 0, none⟩), .int .i64 e, .int .i64 (Qs.getD j 0), .map (some bm), .int .i64 A0] w (Ret fun _ w' => ∃ Sh' Ld', ShW w' b base n most whole ve q c L Sh' Ld' ∧ Shr L Sh' Ld' most whole ∧ sm Sh e < sm Sh' e ∧
      (∀ k, k < L.length → k ≠ e → sm Sh' k = sm Sh k) ∧ Ch (fun k => k = b ∨ (Value.slice q L.length c).ownBlock = some k) w w') := by
  have hqs := h.isSome (by omega)
  have hb1 := h.blk.lt
  have hbm := h.nemap hF
  have hve : ∀ i, i < Qs.length → 0 ≤ Qs.getD i 0 ∧ Qs.getD i 0 < n := fun i hi => hT.rng _ (getD_memI hi)
  have hvia : ∀ i, i < Qs.length → (viaV Qs Es (Qs.getD i 0)).getD (.int .i64 0) = .int .i64 ((Es.getD i 0 : Nat) : Int) := fun i hi => viaV_at hT.nodup hT.len hi
  refine calls_of_wc (args := [.pointer (some ⟨b, 0, none⟩), .int .i64 e, .int .i64 (Qs.getD j 0), .map (some bm), .int .i64 A0]) Tryz.func143 rfl ?_ ?_; kernel_rfl
  repeat' (first|refine za ?_|refine zc ?_|refine zd ?_)
  refine r_box rfl rfl fun w1 hx5 hE1 hs1 => ?_
  obtain ⟨b5, eb5⟩ : ∃ b, b = w.heap.size := ⟨_, rfl⟩
  rw [← eb5] at hx5 ⊢
  repeat' (refine za ?_)
  refine r_box rfl rfl fun w2 hx8 hE2 hs2 => ?_
  obtain ⟨b8, eb8⟩ : ∃ b, b = w1.heap.size := ⟨_, rfl⟩
  rw [← eb8] at hx8 ⊢
  have hx5 := hx5.ext hE2
  have hE12 := hE1.trans hE2
  have hW2 := h.ext hE12
  have hF2 := hF.ext hE12
  repeat' (first|refine za ?_|refine zb ?_|refine zc ?_|refine ze ?_|refine zd ?_)
  refine r_mkfn (as_ := []) (bs := [.tmp 5, .tmp 8]) ?_
  refine wl_plain ?_
  refine r_assign_v (v := .func (.func 173) #[] #[.pointer (some ⟨b5, 0, none⟩), .pointer (some ⟨b8, 0, none⟩)]) rfl ?_
  repeat' (first|refine za ?_|refine zA ?_|refine zB ?_|refine zb ?_|refine zc ?_|refine ze ?_|refine zd ?_|refine zl ?_)
  refine wc_loop2 [1, 2, 5, 8, 10] (fun (i : Nat) (A : Int) => [(4, .int .i64 A), (11, .int .i64 (Qs.getD i 0))]) (fun i A wk => Ext w2 wk ∧ i < Qs.length ∧ 0 < A ∧ A ≤ A0 ∧ ∀ B, B ≤ A → Way L Sh Qs Es pr B i → Way L Sh Qs Es pr B j) (fun i _ => i) j A0 rfl ⟨rfl, rfl, trivial⟩ ⟨Ext.refl _, hj, hA0, by omega, fun _ _ h => h⟩ ?_
  · rintro i A wk x ⟨hE, hi, hA, hAl, hway⟩
    have hWk := hW2.ext hE
    have hFk := hF2.ext hE
    have g5 := (hx5.ext hE).rd
    have g8 := (hx8.ext hE).rd
    have hvi := hvia i hi
    repeat' (first|refine za ?_|refine zA ?_|refine zc ?_|refine zd ?_|refine zM ?_)
    refine r_lookup (k := Qs.getD i 0) (v := .int .i64 ((Es.getD i 0 : Nat) : Int)) mp105 kt3 hFk rfl rfl hvi ?_
    by_cases h2 : 2 ≤ i
    · obtain ⟨hk, hp, hJ, hpos⟩ := hT.par i h2 hi
      have hne := hT.ne_e h2 hi
      have hGk := hG _ hk
      have hvI := hve i hi
      have hvP := hve (pr i) (by omega)
      have hot := hJ.symm.other
      repeat' (first|refine za ?_|refine zA ?_|refine zb ?_|refine zc ?_|refine ze ?_|refine zH ?_|refine zX ?_|refine zk ?_|refine zl ?_)
      refine wc_heldB (fun w' => Ext wk w') (.take 0 (.take 1 (.take 2 (.take 3 (.take 4 (.take 5 (.take 6 (.one 7 (.one 8 (.take 9 (.take 10 (.take 11 (.one 12 .done))))))))))))) (by kernel_rfl) (by kernel_rfl) (Ext.drew wk) ?_
      repeat' (refine whB_take rfl rfl (fun w' hw' => rv_move) ?_)
      refine whB_take rfl rfl (fun w' hw' => rv_ld ct84 rfl (hx5.ext (hE.trans hw')).rd) ?_
      refine whB_take rfl rfl (fun w' hw' => rv_ld ct105 rfl (hx8.ext (hE.trans hw')).rd) ?_
      repeat' (refine whB_take rfl rfl (fun w' hw' => rv_move) ?_)
      refine whB_take rfl rfl (fun w' hw' => rv_lookup (k := Qs.getD i 0) (v := .int .i64 ((Es.getD i 0 : Nat) : Int)) mp105 kt3 (hF2.ext (hE.trans hw')) rfl rfl hvi) ?_
      repeat' (refine whB_take rfl rfl (fun w' hw' => rv_move) ?_)
      refine whB_one rfl rfl ?_
      have hED := hE.trans (Ext.drew wk)
      refine r_callV (cap := [.pointer (some ⟨b5, 0, none⟩), .pointer (some ⟨b8, 0, none⟩)]) rfl rfl (other_any _ b base b5 b8 bm n most whole ve q c L Sh Ld (hW2.ext hED) (viaV Qs Es) (hx5.ext hED) (hx8.ext hED) (hF2.ext hED) (Qs.getD i 0) (Es.getD i 0) hk hvi (by omega)) ?_
      rintro v' wa ⟨rfl, hEa⟩
      rw [hot]
      have hEwa := (Ext.drew wk).trans hEa
      refine ⟨hEwa, ?_⟩
      refine whB_one rfl rfl ?_
      (refine r_call_q (v := ?_) rfl ?_ ?_; rotate_left 1; focus exact has_any _ b base n most whole ve q c L Sh Ld (hW2.ext (hE.trans hEwa)) (Es.getD i 0) (Qs.getD (pr i) 0) hk)
      refine ⟨hEwa, ?_⟩
      refine whB_take rfl rfl (fun w' hw' => rv_nilQ rfl (map_isSome (pidx_isSome hqs))) ?_
      refine whB_take rfl rfl (fun w' hw' => rv_ld rfl rfl ((hW2.ext (hE.trans hw')).rdS hk)) ?_
      obtain ⟨A', hA'⟩ : ∃ A', A' = min A (hs L Sh (Es.getD i 0) (Qs.getD (pr i) 0)) := ⟨_, rfl⟩
      refine whB_take rfl rfl (fun w' hw' => rv_min (c := A') rfl rfl (by split <;> omega)) ?_
      refine whB_one rfl rfl ?_
      refine r_assign_v (v := .int .i64 A') rfl ?_
      refine ⟨hEwa, whB_done ?_⟩
      repeat' (first|refine za ?_|refine zA ?_|refine ze ?_|refine zd ?_|refine zh ?_)
      have hEb := hE.trans hEwa
      refine r_callV (cap := [.pointer (some ⟨b5, 0, none⟩), .pointer (some ⟨b8, 0, none⟩)]) rfl rfl (other_any _ b base b5 b8 bm n most whole ve q c L Sh Ld (hW2.ext hEb) (viaV Qs Es) (hx5.ext hEb) (hx8.ext hEb) (hF2.ext hEb) (Qs.getD i 0) (Es.getD i 0) hk hvi (by omega)) ?_
      rintro v' wb ⟨rfl, hEc⟩
      rw [hot]
      repeat' (first|refine za ?_|refine zB ?_|refine zb ?_|refine ze ?_)
      refine ⟨pr i, A', ⟨rfl, rfl, trivial⟩, ⟨hEb.trans hEc, by omega, by omega, by omega, fun B hB hW => hway B (by omega) (.step h2 (by omega) hW)⟩, by omega⟩
    · have he1 := hT.e01 i (by omega)
      rw [he1]
      have hWay := hway A (Int.le_refl _) (.base (by omega))
      clear hway hvi he1
      repeat' (first|refine za ?_|refine zA ?_|refine zb ?_|refine zc ?_|refine ze ?_|refine zH ?_|refine zY ?_|refine zm ?_|refine zg ?_|refine zj ?_)
      have hEd := hE.trans (Ext.drew wk)
      have hWd := hW2.ext hEd
      have gd5 := (hx5.ext hEd).rd
      obtain ⟨r0, r1, r2, r3, r4⟩ := hWd.rds
      have hvj := hve j hj
      have hld := hWd.ld (v := Qs.getD j 0) (by omega)
      have hlb := hS.loadI (v := Qs.getD j 0) (by omega)
      have hl0 : 0 ≤ Ld.getD (Qs.getD j 0).toNat 0 := by
        rw [hlb.1]; exact ldE_nonneg hS.pos
      (refine wc_drawn 11 (by kernel_rfl) (by kernel_rfl) ?_; simp only [List.take_succ_cons, List.take_zero, List.drop_succ_cons, List.drop_zero])
      repeat' (first|refine za ?_|refine zA ?_|refine zM ?_|refine zP ?_)
      refine r_faE (o' := 5) fo89_4 rfl rfl ?_
      repeat' (refine za ?_)
      refine r_idxE ar75 rfl rfl (by omega) (by omega) ?_
      repeat' (first|refine za ?_|refine zA ?_|refine zI ?_|refine zM ?_|refine zP ?_)
      refine r_faE (o' := 5) fo89_4 rfl rfl ?_
      repeat' (refine za ?_)
      refine r_idxE ar75 rfl rfl (by omega) (by omega) ?_
      repeat' (first|refine za ?_|refine zb ?_)
      refine r_st_load hWd (v := Qs.getD j 0) (by omega) rfl rfl fun w3 hW3 hC3 hs3 => ?_
      obtain ⟨Ld1, hLd1⟩ : ∃ Ld1, Ld1 = Ld.set (Qs.getD j 0).toNat (Ld.getD (Qs.getD j 0).toNat 0 + A) := ⟨_, rfl⟩
      rw [← hLd1] at hW3
      have hszk := hE.size
      have h5lt := hx5.lt
      have h8lt := hx8.lt
      have hlt5 : w.heap.size ≤ b5 := by omega
      have hlt8 : w.heap.size ≤ b8 := by omega
      have hSl : Sh.length = L.length := h.len
      have hnb : ∀ g, (Value.slice q L.length c).ownBlock = some g → g ≠ b ∧ g < w.heap.size ∧ g ≠ bm := fun g hg => by
        rw [← hSl] at hg
        have := h.ne hg
        exact ⟨this.2.1, this.2.2, fun e => hbm.2 (e ▸ hg)⟩
      have hC03 : Ch (fun k => k = b ∨ (Value.slice q L.length c).ownBlock = some k) w w3 := Ch.trans' (hE12.trans hEd).ch hC3 fun k hk e => .inl e
      have hx53 := (hx5.ext hEd).keep hC3 (by omega)
      have hx83 := (hx8.ext hEd).keep hC3 (by omega)
      have hF3 := (hF2.ext hEd).keep hC3 hbm.1
      have hMv0 : Mv L Sh Sh Ld1 e Qs Es A j := Mv.start hS fun v hv => by
        have hz : (Qs.getD j 0).toNat < Ld.length := by rw [hS.ldlen]; omega
        rw [hLd1, List.getD_eq_getElem?_getD, List.getElem?_set]
        by_cases c1 : (Qs.getD j 0).toNat = v
        · subst c1
          rw [if_pos rfl, if_pos hz, if_pos (by omega)]; rfl
        · rw [if_neg c1, if_neg (by omega), ← List.getD_eq_getElem?_getD]; omega
      have hLd1l : Ld1.length = 16 := by rw [hLd1, List.length_set]; exact hS.ldlen
      have hLd1le : ∀ v : Nat, v < 16 → Ld1.getD v 0 ≤ most := fun v hv => by
        have hz : (Qs.getD j 0).toNat < Ld.length := by rw [hS.ldlen]; omega
        have := hS.le v hv
        rw [hLd1, List.getD_eq_getElem?_getD, List.getElem?_set]
        by_cases c1 : (Qs.getD j 0).toNat = v
        · rw [if_pos c1, if_pos hz]; show Ld.getD (Qs.getD j 0).toNat 0 + A ≤ most; omega
        · rw [if_neg c1, ← List.getD_eq_getElem?_getD]; exact this
      clear hLd1
      repeat' (first|refine za ?_|refine zA ?_|refine zB ?_|refine zb ?_|refine zc ?_|refine ze ?_|refine zd ?_|refine zl ?_)
      refine wc_loop2 [1, 4, 5, 8, 10] (fun (i : Nat) (_ : List (Int × Int)) => [(12, .int .i64 (Qs.getD i 0))]) (fun i S1 wk => i < Qs.length ∧ ShW wk b base n most whole ve q c L S1 Ld1 ∧ Mv L Sh S1 Ld1 e Qs Es A i ∧ Way L Sh Qs Es pr A i ∧ Ch (fun k => k = b ∨ (Value.slice q L.length c).ownBlock = some k) w wk ∧
          Box wk b5 124 (.pointer (some ⟨b, 0, none⟩)) ∧ Box wk b8 207 (.map (some bm)) ∧ MapF encI wk bm (viaV Qs Es)) (fun i _ => i) j Sh rfl ⟨rfl, trivial⟩ ⟨hj, hW3, hMv0, hWay, hC03, hx53, hx83, hF3⟩ ?_
      rintro i S1 wz x ⟨hi, hWz, hMz, hWay, hCz, hz5, hz8, hFz⟩
      have hvi := hvia i hi
      have hvI := hve i hi
      have g5 := hz5.rd
      have g8 := hz8.rd
      have hS1l : S1.length = L.length := hMz.len
      by_cases h2 : 2 ≤ i
      · obtain ⟨hk, hp, hJ, hpos⟩ := hT.par i h2 hi
        have hne := hT.ne_e h2 hi
        have hGk := hG _ hk
        have hvP := hve (pr i) (by omega)
        have hot := hJ.symm.other
        have hrd := hWz.rdS (k := Es.getD i 0) (v := Qs.getD i 0) hk
        have hp1 := hMz.pos _ hk
        have hb1 := hs_le_sm (L := L) (v := Qs.getD i 0) hp1
        have hb2 := hs_nonneg (L := L) (v := Qs.getD i 0) hp1
        have hb3 := hS.sum _ hk
        rw [← hMz.sum _ hk] at hb3
        repeat' (first|refine za ?_|refine zA ?_|refine zc ?_|refine zd ?_|refine zM ?_|refine zl ?_)
        refine r_lookup (k := Qs.getD i 0) (v := .int .i64 ((Es.getD i 0 : Nat) : Int)) mp105 kt3 hFz rfl rfl hvi ?_
        repeat' (first|refine za ?_|refine zA ?_)
        (refine r_call_q (v := ?_) rfl ?_ ?_; rotate_left 1; focus exact has_any _ b base n most whole ve q c L S1 Ld1 hWz (Es.getD i 0) (Qs.getD i 0) hk)
        repeat' (refine za ?_)
        refine r_nilQ rfl (map_isSome (pidx_isSome hqs)) ?_
        repeat' (first|refine za ?_|refine zA ?_|refine zI ?_|refine zM ?_)
        refine r_nilQ rfl (map_isSome (pidx_isSome hqs)) ?_
        repeat' (refine za ?_)
        refine r_st_has hWz rfl rfl hk fun w4 hW4 hC4 hs4 => ?_
        rw [hS1l] at hC4
        have hC04 := Ch.trans' (S := fun k => k = b ∨ (Value.slice q L.length c).ownBlock = some k) hCz hC4 fun k hk e => .inr e
        have hz5 := hz5.keep hC4 fun e => by have := (hnb _ e).2.1; omega
        have hz8 := hz8.keep hC4 fun e => by have := (hnb _ e).2.1; omega
        have hFz := hFz.keep hC4 fun e => (hnb _ e).2.2 rfl
        have g5 := hz5.rd
        have g8 := hz8.rd
        repeat' (first|refine za ?_|refine zA ?_|refine zb ?_|refine zc ?_|refine ze ?_|refine zd ?_|refine zM ?_)
        refine r_lookup (k := Qs.getD i 0) (v := .int .i64 ((Es.getD i 0 : Nat) : Int)) mp105 kt3 hFz rfl rfl hvi ?_
        repeat' (first|refine za ?_|refine zA ?_|refine zb ?_|refine ze ?_|refine zG ?_|refine zY ?_|refine zk ?_)
        obtain ⟨hle, hWay'⟩ : A ≤ hs L Sh (Es.getD i 0) (Qs.getD (pr i) 0) ∧ Way L Sh Qs Es pr A (pr i) := by
          cases hWay with
          | base h => omega
          | step _ h1 h3 => exact ⟨h1, h3⟩
        have hst := hMz.step hT (fun k hk => by have := hG k hk; omega) h2 hi (by omega) hle
        generalize hS2e : setS L S1 (Es.getD i 0) (Qs.getD i 0) (hs L S1 (Es.getD i 0) (Qs.getD i 0) + A) = S2 at *
        have hS2l : S2.length = L.length := by rw [← hS2e, setS_length, hS1l]
        have hu2 : hs L S2 (Es.getD i 0) (Qs.getD (pr i) 0) = hs L Sh (Es.getD i 0) (Qs.getD (pr i) 0) := by
          rw [← hS2e, hs_other (by rw [hS1l]; exact hk) hJ.symm (hT.jne h2 hi)]
          unfold hs; rw [hMz.same i (Nat.le_refl _)]
        have hb4 := hs_le_sm (L := L) (v := Qs.getD (pr i) 0) (hS.pos _ hk)
        have hb5 := hS.sum _ hk
        refine wc_heldB (fun w' => Ch (fun g => (Value.slice q L.length c).ownBlock = some g) w4 w') (.take 0 (.take 1 (.take 2 (.take 3 (.take 4 (.take 5 (.take 10 (.one 6 (.one 7 (.one 8 (.one 9 (.one 11 (.one 12 (.one 13 .done)))))))))))))) (by kernel_rfl) (by kernel_rfl) (Ext.drew w4).ch ?_
        have hk5 := fun w' (hw' : Ch (fun g => (Value.slice q L.length c).ownBlock = some g) w4 w') => hz5.keep hw' fun e => by have := (hnb _ e).2.1; omega
        have hk8 := fun w' (hw' : Ch (fun g => (Value.slice q L.length c).ownBlock = some g) w4 w') => hz8.keep hw' fun e => by have := (hnb _ e).2.1; omega
        have hkF := fun w' (hw' : Ch (fun g => (Value.slice q L.length c).ownBlock = some g) w4 w') => hFz.keep hw' fun e => (hnb _ e).2.2 rfl
        refine whB_take rfl rfl (fun w' hw' => rv_ld ct84 rfl (hk5 w' hw').rd) ?_
        refine whB_take rfl rfl (fun w' hw' => rv_ld ct105 rfl (hk8 w' hw').rd) ?_
        repeat' (refine whB_take rfl rfl (fun w' hw' => rv_move) ?_)
        refine whB_take rfl rfl (fun w' hw' => rv_lookup (k := Qs.getD i 0) (v := .int .i64 ((Es.getD i 0 : Nat) : Int)) mp105 kt3 (hkF w' hw') rfl rfl hvi) ?_
        repeat' (refine whB_take rfl rfl (fun w' hw' => rv_move) ?_)
        have hD4 := Ext.drew w4
        refine whB_one rfl rfl ?_
        refine r_callV (cap := [.pointer (some ⟨b5, 0, none⟩), .pointer (some ⟨b8, 0, none⟩)]) rfl rfl (other_any _ b base b5 b8 bm n most whole ve q c L S2 Ld1 (hW4.ext hD4) (viaV Qs Es) (hz5.ext hD4) (hz8.ext hD4) (hFz.ext hD4) (Qs.getD i 0) (Es.getD i 0) hk hvi (by omega)) ?_
        rintro v' wa ⟨rfl, hEa⟩
        rw [hot]
        have hE4a := hD4.trans hEa
        refine ⟨hE4a.ch, ?_⟩
        refine whB_one rfl rfl ?_
        (refine r_call_q (v := ?_) rfl ?_ ?_; rotate_left 1; focus exact has_any _ b base n most whole ve q c L S2 Ld1 (hW4.ext hE4a) (Es.getD i 0) (Qs.getD (pr i) 0) hk)
        refine ⟨hE4a.ch, ?_⟩
        refine whB_one rfl rfl ?_
        refine r_nilQ rfl (map_isSome (pidx_isSome hqs)) ?_
        refine ⟨hE4a.ch, ?_⟩
        refine whB_one rfl rfl ?_
        refine r_ld rfl rfl ((hW4.ext hE4a).rdS hk) ?_
        refine ⟨hE4a.ch, ?_⟩
        refine whB_one rfl rfl ?_
        refine r_sub_in rfl rfl (by omega) ?_
        refine ⟨hE4a.ch, ?_⟩
        refine whB_one rfl rfl ?_
        refine r_nilQ rfl (map_isSome (pidx_isSome hqs)) ?_
        refine ⟨hE4a.ch, ?_⟩
        refine whB_one rfl rfl ?_
        refine r_st_has (hW4.ext hE4a) rfl rfl hk fun w5 hW5 hC5 hs5 => ?_
        rw [hS2l] at hC5
        have hC45 := Ch.trans' (S := fun g => (Value.slice q L.length c).ownBlock = some g) hE4a.ch hC5 fun k hk e => e
        refine ⟨hC45, whB_done ?_⟩
        repeat' (first|refine za ?_|refine zA ?_|refine ze ?_|refine zd ?_|refine zh ?_)
        refine r_callV (cap := [.pointer (some ⟨b5, 0, none⟩), .pointer (some ⟨b8, 0, none⟩)]) rfl rfl (other_any _ b base b5 b8 bm n most whole ve q c L _ Ld1 hW5 (viaV Qs Es) (hk5 _ hC45) (hk8 _ hC45) (hkF _ hC45) (Qs.getD i 0) (Es.getD i 0) hk hvi (by omega)) ?_
        rintro v' w6 ⟨rfl, hE6⟩
        rw [hot]
        repeat' (first|refine za ?_|refine zB ?_|refine zb ?_|refine ze ?_)
        refine ⟨pr i, _, ⟨rfl, trivial⟩, ⟨by omega, hW5.ext hE6, hst, hWay', ?_, (hk5 _ hC45).ext hE6, (hk8 _ hC45).ext hE6, (hkF _ hC45).ext hE6⟩, by omega⟩
        exact (Ch.trans' (S := fun k => k = b ∨ (Value.slice q L.length c).ownBlock = some k) hC04 hC45 fun k hk e => .inr e).trans hE6.ch
      · have hw' := hT.e01 i (by omega)
        rw [hw'] at hvi
        have hrd := hWz.rdS (k := e) (v := Qs.getD i 0) he
        have hp1 := hMz.pos _ he
        have hb1 := hs_le_sm (L := L) (v := Qs.getD i 0) hp1
        have hb2 := hs_nonneg (L := L) (v := Qs.getD i 0) hp1
        have hb3 := hS.sum _ he
        rw [← hMz.sum _ he] at hb3
        repeat' (first|refine za ?_|refine zA ?_|refine zc ?_|refine zd ?_|refine zM ?_|refine zl ?_)
        refine r_lookup (k := Qs.getD i 0) (v := .int .i64 e) mp105 kt3 hFz rfl rfl hvi ?_
        repeat' (first|refine za ?_|refine zA ?_)
        (refine r_call_q (v := ?_) rfl ?_ ?_; rotate_left 1; focus exact has_any _ b base n most whole ve q c L S1 Ld1 hWz e (Qs.getD i 0) he)
        repeat' (refine za ?_)
        refine r_nilQ rfl (map_isSome (pidx_isSome hqs)) ?_
        repeat' (first|refine za ?_|refine zA ?_|refine zI ?_|refine zM ?_)
        refine r_nilQ rfl (map_isSome (pidx_isSome hqs)) ?_
        repeat' (refine za ?_)
        refine r_st_has hWz rfl rfl he fun w4 hW4 hC4 hs4 => ?_
        rw [hS1l] at hC4
        have hC04 := Ch.trans' (S := fun k => k = b ∨ (Value.slice q L.length c).ownBlock = some k) hCz hC4 fun k hk e => .inr e
        have hz5 := hz5.keep hC4 fun e => by have := (hnb _ e).2.1; omega
        have hz8 := hz8.keep hC4 fun e => by have := (hnb _ e).2.1; omega
        have hFz := hFz.keep hC4 fun e => (hnb _ e).2.2 rfl
        have g5 := hz5.rd
        have g8 := hz8.rd
        repeat' (first|refine za ?_|refine zA ?_|refine zb ?_|refine zc ?_|refine ze ?_|refine zd ?_|refine zM ?_)
        refine r_lookup (k := Qs.getD i 0) (v := .int .i64 e) mp105 kt3 hFz rfl rfl hvi ?_
        repeat' (first|refine za ?_|refine zA ?_|refine zb ?_|refine ze ?_|refine zG ?_|refine zX ?_|refine zn ?_|refine zf ?_|refine zi ?_)
        obtain ⟨f1, f2, f3⟩ := hMz.last hS hT (fun k hk => by have := hG k hk; omega) he (by omega) (by omega) (by omega) hLd1l hLd1le
        refine post0 rfl ⟨_, Ld1, hW4, f1, by omega, f3, hC04⟩
end Bg
end Go.Proofs.YtocgehoffdjijaaGreat
/- bags: around. -/
namespace Go.Proofs.YtocgehoffdjijaaGreat
namespace Bg
set_option maxRecDepth 20000
open Gv
def AroundD (n : Int) (ve : Value) (L : List (Int × Int)) (b1 b2 : Nat) (v : Int) (W : World) : Prop := Blk W b1 109 [.int .i64 n, ve] ∧ Box W b2 3 (.int .i64 v) ∧ Pairs2 W ve L
set_option maxRecDepth 20000 in
set_option maxHeartbeats 1000000 in
theorem around_any (n : Int) (ve : Value) (L : List (Int × Int)) (v : Int) (w : World) (h : Pairs2 w ve L) :
    Calls Tryz.prog 110 #[.agg #[.int .i64 n, ve], .int .i64 v] w (Ret fun v' w' => ∃ b1 b2, v' = .func (.func 144) #[] #[.pointer (some ⟨b1, 0, none⟩), .pointer (some ⟨b2, 0, none⟩)] ∧ w.heap.size ≤ b1 ∧ w.heap.size ≤ b2 ∧ AroundD n ve L b1 b2 v w' ∧ Ext w w') := by
  obtain ⟨q, c, rfl, hqc⟩ := h.slice
  refine calls_of_wc (args := [.agg #[.int .i64 n, .slice q L.length c], .int .i64 v]) Tryz.func110 rfl ?_ ?_; kernel_rfl
  repeat' (first|refine za ?_|refine zc ?_|refine zd ?_)
  refine r_boxN (cells := [.int .i64 n, .slice q L.length c]) rfl fun w1 hb1 hE1 hs1 => ?_
  obtain ⟨b1, eb1⟩ : ∃ b, b = w.heap.size := ⟨_, rfl⟩
  rw [← eb1] at hb1 ⊢
  repeat' (refine za ?_)
  refine r_box rfl rfl fun w2 hb2 hE2 hs2 => ?_
  obtain ⟨b2, eb2⟩ : ∃ b, b = w1.heap.size := ⟨_, rfl⟩
  rw [← eb2] at hb2 ⊢
  repeat' (first|refine za ?_|refine zB ?_|refine zb ?_|refine zc ?_|refine ze ?_|refine zd ?_)
  refine r_mkfn (as_ := []) (bs := [.tmp 2, .tmp 3]) ?_
  repeat' (first|refine za ?_|refine zB ?_|refine zb ?_|refine ze ?_|refine zn ?_)
  refine post1 (v := .func (.func 144) #[] #[.pointer (some ⟨b1, 0, none⟩), .pointer (some ⟨b2, 0, none⟩)]) rfl rfl ?_
  exact ⟨b1, b2, rfl, by omega, by omega, ⟨hb1.ext hE2, hb2, h.ext (hE1.trans hE2)⟩, hE1.trans hE2⟩
set_option maxRecDepth 20000 in
set_option maxHeartbeats 4000000 in
/-- The function that 'around' returns: every loop body that keeps its own data. -/
theorem around1_any (n : Int) (ve : Value) (L : List (Int × Int)) (b1 b2 : Nat) (v : Int) (hl : L.length ≤ 1000) (hd : ∀ k, k < L.length → (ed L k).1 ≠ (ed L k).2) :
    IterC Tryz.prog 144 [.pointer (some ⟨b1, 0, none⟩), .pointer (some ⟨b2, 0, none⟩)] ((nb L v L.length).map fun x => [.int .i64 x.1, .int .i64 x.2]) 40 (AroundD n ve L b1 b2 v) := by
  intro l J W hJ h0 hD hY
  rw [List.length_map]
  show Calls Tryz.prog 144 #[.func (.yield l) #[] #[], .pointer (some ⟨b1, 0, none⟩), .pointer (some ⟨b2, 0, none⟩)] W (Ret fun _ w' => J (nb L v L.length).length w')
  obtain ⟨q, c, rfl, hqc⟩ := hD.2.2.slice
  have hY2 : ∀ i wz k u, (nb L v L.length)[i]? = some (k, u) → J i wz → AroundD n (.slice q L.length c) L b1 b2 v wz → YieldAt Fence.wide 0 Tryz.prog l #[.int .i64 k, .int .i64 u] wz (fun e w' => e = .returned (.bool true) ∧ J (i + 1) w' ∧ AroundD n (.slice q L.length c) L b1 b2 v w' ∧ Kt 40 wz w') := fun i wz k u hk h1 h2 => hY i wz [.int .i64 k, .int .i64 u] (by rw [List.getElem?_map, hk]; rfl) h1 h2
  refine calls_of_wc (args := [.func (.yield l) #[] #[], .pointer (some ⟨b1, 0, none⟩), .pointer (some ⟨b2, 0, none⟩)]) Tryz.func144 rfl ?_ ?_; kernel_rfl
  repeat' (first|refine za ?_|refine zc ?_|refine zd ?_)
  refine r_fa (off := 1) rfl rfl ?_
  repeat' (refine za ?_)
  refine r_ld rfl rfl (hD.1.rd (v := .slice q L.length c) rfl) ?_
  repeat' (first|refine za ?_|refine zA ?_|refine zb ?_|refine ze ?_|refine zK ?_|refine zl ?_)
  refine wc_loop [0, 1, 2, 7, 8] (fun (i : Nat) => [(9, .int .i64 i)]) (fun i wk => i ≤ L.length ∧ J (nb L v i).length wk ∧ AroundD n (.slice q L.length c) L b1 b2 v wk) (fun i => L.length - i) 0 rfl ⟨rfl, trivial⟩ ⟨by omega, h0, hD⟩ ?_
  rintro i wk x ⟨hi, hJk, hDk⟩
  by_cases hin : i < L.length
  · obtain ⟨hr0, hr1⟩ := hDk.2.2.rd hin
    have hps := hDk.2.2.isSome (by omega)
    have hne := hd i hin
    have hnb : nb L v (i + 1) = nb L v i ++ if (ed L i).1 = v then [((i : Int), (ed L i).2)] else if (ed L i).2 = v then [((i : Int), (ed L i).1)] else [] := rfl
    have hat := fun x h => nb_at (L := L) (v := v) (m := i) (n := L.length) (x := x) hin h
    change rd wk ((pidx q i 2).map fun a => a.add 0) = some (.int .i64 (ed L i).1) at hr0
    change rd wk ((pidx q i 2).map fun a => a.add 1) = some (.int .i64 (ed L i).2) at hr1
    generalize ed L i = ab at *
    obtain ⟨a, b⟩ := ab
    dsimp only at hr0 hr1 hne hnb
    repeat' (first|refine za ?_|refine zA ?_|refine zb ?_|refine zc ?_|refine ze ?_|refine zd ?_|refine zC ?_|refine zL ?_|refine zX ?_|refine zk ?_|refine zl ?_)
    refine r_ldP ag46 rfl hr0 hr1 ?_
    repeat' (refine za ?_)
    refine r_allocN z46 fun w3 hb3 hE3 hs3 => ?_
    obtain ⟨b3, eb3⟩ : ∃ b, b = wk.heap.size := ⟨_, rfl⟩
    rw [← eb3] at hb3 ⊢
    repeat' (first|refine za ?_|refine zB ?_)
    refine r_stN (ws := [.int .i64 a, .int .i64 b]) ag46 (by decide) hb3 (by rw [ints_length]; simp) rfl rfl rfl (by intro q hq; simp at hq; rcases hq with rfl | rfl <;> rfl) fun w4 h4 hC4 hs4 => ?_
    have hE4 : Ext wk w4 := Ch.trans' hE3 hC4 fun k hk e => by omega
    have hJ4 := hJ _ _ _ hE4.nx hJk
    have hD4 : AroundD n (.slice q L.length c) L b1 b2 v w4 := ⟨hDk.1.ext hE4, hDk.2.1.ext hE4, hDk.2.2.ext hE4⟩
    have g0 : rd w4 (some ⟨b3, 0 + 0, none⟩) = some (.int .i64 a) := h4.rd rfl
    have g1 : rd w4 (some ⟨b3, 0 + 1, none⟩) = some (.int .i64 b) := h4.rd rfl
    have g2 : rd w4 (some ⟨b2, 0, none⟩) = some (.int .i64 v) := hD4.2.1.rd
    repeat' (first|refine zb ?_|refine ze ?_)
    refine wc_seq ?_
    refine wc_regionR ?_
    by_cases ha : a = v
    · rw [if_pos ha] at hnb
      have hy := hY2 _ _ _ _ (hat _ hnb) hJ4 hD4
      repeat' (first|refine wlR_plain ?_|refine r_move_v (v := .bool _) rfl ?_|refine k_eql_t rfl rfl (by omega) ?_|(refine r_ld rfl rfl (by assumption) ?_)|(refine wlR_run rfl rfl ?_; first | refine r_move_v (v := .int _ _) rfl ?_ | refine r_move_v (v := .bool _) rfl ?_ | refine r_move_v (v := .func _ _ _) rfl ?_ | refine k_eql_t rfl rfl (by omega) ?_ | refine k_eql_f rfl rfl (by omega) ?_ | refine r_not (b := true) rfl ?_ | refine r_pick_t rfl ?_ | refine r_pick_f rfl ?_ | refine r_ld rfl rfl (by assumption) ?_ | refine r_fa (off := 0) rfl rfl ?_ | refine r_fa (off := 1) rfl rfl ?_)|refine r_fa (off := 0) rfl rfl ?_)
      refine wlR_yield rfl rfl rfl hy ?_
      rintro w5 ⟨hJ5, hD5, hK5⟩
      have h5 := h4.kt hK5
      have g0 : rd w5 (some ⟨b3, 0 + 0, none⟩) = some (.int .i64 a) := h5.rd rfl
      have g1 : rd w5 (some ⟨b3, 0 + 1, none⟩) = some (.int .i64 b) := h5.rd rfl
      have g2 : rd w5 (some ⟨b2, 0, none⟩) = some (.int .i64 v) := hD5.2.1.rd
      repeat' (first|refine wlR_plain ?_|refine wlR_pass rfl rfl rfl ?_|refine r_move_v (v := .bool _) rfl ?_|refine r_pick_t rfl ?_|refine r_pick_f rfl ?_|(refine wlR_run rfl rfl ?_; first | refine r_move_v (v := .int _ _) rfl ?_ | refine r_move_v (v := .bool _) rfl ?_ | refine r_move_v (v := .func _ _ _) rfl ?_ | refine k_eql_t rfl rfl (by omega) ?_ | refine k_eql_f rfl rfl (by omega) ?_ | refine r_not (b := true) rfl ?_ | refine r_pick_t rfl ?_ | refine r_pick_f rfl ?_ | refine r_ld rfl rfl (by assumption) ?_ | refine r_fa (off := 0) rfl rfl ?_ | refine r_fa (off := 1) rfl rfl ?_)|refine wlR_nil ?_)
      repeat' (first|refine za ?_|refine zA ?_|refine zb ?_|refine ze ?_|refine zd ?_|refine zI ?_|refine zY ?_|refine zk ?_|refine zh ?_)
      refine ⟨i + 1, ⟨rfl, trivial⟩, ⟨by omega, ?_, hD5⟩, by omega⟩
      rw [hnb, List.length_append]; exact hJ5
    · rw [if_neg ha] at hnb
      by_cases hb : b = v
      · rw [if_pos hb] at hnb
        have hy := hY2 _ _ _ _ (hat _ hnb) hJ4 hD4
        repeat' (first|refine wlR_plain ?_|refine wlR_pass rfl rfl rfl ?_|refine r_move_v (v := .bool _) rfl ?_|refine k_eql_f rfl rfl (by omega) ?_|refine r_pick_f rfl ?_|(refine r_ld rfl rfl (by assumption) ?_)|(refine wlR_run rfl rfl ?_; first | refine r_move_v (v := .int _ _) rfl ?_ | refine r_move_v (v := .bool _) rfl ?_ | refine r_move_v (v := .func _ _ _) rfl ?_ | refine k_eql_t rfl rfl (by omega) ?_ | refine k_eql_f rfl rfl (by omega) ?_ | refine r_not (b := true) rfl ?_ | refine r_pick_t rfl ?_ | refine r_pick_f rfl ?_ | refine r_ld rfl rfl (by assumption) ?_ | refine r_fa (off := 0) rfl rfl ?_ | refine r_fa (off := 1) rfl rfl ?_)|refine r_fa (off := 0) rfl rfl ?_)
        refine wlR_yield rfl rfl rfl hy ?_
        rintro w5 ⟨hJ5, hD5, hK5⟩
        repeat' (first|refine wlR_plain ?_|refine r_pick_f rfl ?_|(refine wlR_run rfl rfl ?_; first | refine r_move_v (v := .int _ _) rfl ?_ | refine r_move_v (v := .bool _) rfl ?_ | refine r_move_v (v := .func _ _ _) rfl ?_ | refine k_eql_t rfl rfl (by omega) ?_ | refine k_eql_f rfl rfl (by omega) ?_ | refine r_not (b := true) rfl ?_ | refine r_pick_t rfl ?_ | refine r_pick_f rfl ?_ | refine r_ld rfl rfl (by assumption) ?_ | refine r_fa (off := 0) rfl rfl ?_ | refine r_fa (off := 1) rfl rfl ?_)|refine wlR_nil ?_)
        repeat' (first|refine za ?_|refine zA ?_|refine zb ?_|refine ze ?_|refine zd ?_|refine zI ?_|refine zY ?_|refine zk ?_|refine zh ?_)
        refine ⟨i + 1, ⟨rfl, trivial⟩, ⟨by omega, ?_, hD5⟩, by omega⟩
        rw [hnb, List.length_append]; exact hJ5
      · rw [if_neg hb, List.append_nil] at hnb
        repeat' (first|refine wlR_plain ?_|refine wlR_pass rfl rfl rfl ?_|refine r_move_v (v := .bool _) rfl ?_|refine k_eql_f rfl rfl (by omega) ?_|refine r_pick_f rfl ?_|(refine r_ld rfl rfl (by assumption) ?_)|(refine wlR_run rfl rfl ?_; first | refine r_move_v (v := .int _ _) rfl ?_ | refine r_move_v (v := .bool _) rfl ?_ | refine r_move_v (v := .func _ _ _) rfl ?_ | refine k_eql_t rfl rfl (by omega) ?_ | refine k_eql_f rfl rfl (by omega) ?_ | refine r_not (b := true) rfl ?_ | refine r_pick_t rfl ?_ | refine r_pick_f rfl ?_ | refine r_ld rfl rfl (by assumption) ?_ | refine r_fa (off := 0) rfl rfl ?_ | refine r_fa (off := 1) rfl rfl ?_)|refine r_fa (off := 0) rfl rfl ?_|refine wlR_nil ?_)
        repeat' (first|refine za ?_|refine zA ?_|refine zb ?_|refine ze ?_|refine zd ?_|refine zI ?_|refine zY ?_|refine zk ?_|refine zh ?_)
        refine ⟨i + 1, ⟨rfl, trivial⟩, ⟨by omega, ?_, hD4⟩, by omega⟩
        rw [hnb]; exact hJ4
  · have : i = L.length := by omega
    subst this
    repeat' (first|refine za ?_|refine zb ?_|refine zc ?_|refine ze ?_|refine zd ?_|refine zC ?_|refine zY ?_|refine zm ?_|refine zg ?_|refine zj ?_)
    refine post0n rfl hJk
end Bg
end Go.Proofs.YtocgehoffdjijaaGreat
/- top: slices.Sort of ints, by the kit's contract (its laying printed by the kit's own tool). -/
namespace Go.Proofs.YtocgehoffdjijaaGreat
namespace Bg
open Go.Shelf
def lays189_ren : Go.Shelf.Ren := ⟨fun | 189 => 71 | 125 => 117 | 257 => 116 | 128 => 155 | 129 => 156 | 294 => 146 | 295 => 147 | 296 => 148 | 297 => 149 | 298 => 150 | 299 => 151 | 216 => 152 | 300 => 153 | 301 => 154 | 328 => 174 | 329 => 175 | 330 => 176 | 331 => 177 | 332 => 178 | 215 => 172 | 343 => 192 | n => n, fun | 28 => 27 | 3 => 3 | 46 => 82 | 0 => 0 | 51 => 225 | 53 => 227 | 4 => 4 | 183 => 219 | 182 => 218 | 131 => 133 | 5 => 5 | 9 => 9 | 218 => 239 | 222 => 175 | 228 => 252 | 229 => 253 | n => n, fun | n => n⟩
theorem lays189 : Go.Proofs.Lays.n189 Tryz.prog lays189_ren := {
  mixed := by kernel_rfl
  f125 := Tryz.func117.trans (congrArg some (by kernel_rfl))
  f128 := Tryz.func155.trans (congrArg some (by kernel_rfl))
  f129 := Tryz.func156.trans (congrArg some (by kernel_rfl))
  f189 := Tryz.func71.trans (congrArg some (by kernel_rfl))
  f215 := Tryz.func172.trans (congrArg some (by kernel_rfl))
  f216 := Tryz.func152.trans (congrArg some (by kernel_rfl))
  f257 := Tryz.func116.trans (congrArg some (by kernel_rfl))
  f294 := Tryz.func146.trans (congrArg some (by kernel_rfl))
  f295 := Tryz.func147.trans (congrArg some (by kernel_rfl))
  f296 := Tryz.func148.trans (congrArg some (by kernel_rfl))
  f297 := Tryz.func149.trans (congrArg some (by kernel_rfl))
  f298 := Tryz.func150.trans (congrArg some (by kernel_rfl))
  f299 := Tryz.func151.trans (congrArg some (by kernel_rfl))
  f300 := Tryz.func153.trans (congrArg some (by kernel_rfl))
  f301 := Tryz.func154.trans (congrArg some (by kernel_rfl))
  f328 := Tryz.func174.trans (congrArg some (by kernel_rfl))
  f329 := Tryz.func175.trans (congrArg some (by kernel_rfl))
  f330 := Tryz.func176.trans (congrArg some (by kernel_rfl))
  f331 := Tryz.func177.trans (congrArg some (by kernel_rfl))
  f332 := Tryz.func178.trans (congrArg some (by kernel_rfl))
  f343 := Tryz.func192.trans (congrArg some (by kernel_rfl))
  t0 := Tryz.underlying0
  a0 := Tryz.isAgg0
  z0 := Tryz.sizeOf0
  v0 := Tryz.zeroValue0
  t3 := Tryz.underlying3
  a3 := Tryz.isAgg3
  z3 := Tryz.sizeOf3
  v3 := Tryz.zeroValue3
  t4 := Tryz.underlying4
  a4 := Tryz.isAgg4
  z4 := Tryz.sizeOf4
  v4 := Tryz.zeroValue4
  t5 := Tryz.underlying5
  a5 := Tryz.isAgg5
  z5 := Tryz.sizeOf5
  v5 := Tryz.zeroValue5
  t9 := Tryz.underlying9
  a9 := Tryz.isAgg9
  z9 := Tryz.sizeOf9
  v9 := Tryz.zeroValue9
  t28 := Tryz.underlying27
  a28 := Tryz.isAgg27
  z28 := Tryz.sizeOf27
  v28 := Tryz.zeroValue27
  t46 := Tryz.underlying82
  a46 := Tryz.isAgg82
  z46 := Tryz.sizeOf82
  v46 := Tryz.zeroValue82
  t51 := Tryz.underlying225
  a51 := Tryz.isAgg225
  z51 := Tryz.sizeOf225
  v51 := Tryz.zeroValue225
  t53 := Tryz.underlying227
  a53 := Tryz.isAgg227
  z53 := Tryz.sizeOf227
  v53 := Tryz.zeroValue227
  t131 := Tryz.underlying133
  a131 := Tryz.isAgg133
  z131 := Tryz.sizeOf133
  v131 := Tryz.zeroValue133
  t182 := Tryz.underlying218
  a182 := Tryz.isAgg218
  z182 := Tryz.sizeOf218
  v182 := Tryz.zeroValue218
  t183 := Tryz.underlying219
  a183 := Tryz.isAgg219
  z183 := Tryz.sizeOf219
  v183 := Tryz.zeroValue219
  t218 := Tryz.underlying239
  a218 := Tryz.isAgg239
  z218 := Tryz.sizeOf239
  v218 := Tryz.zeroValue239
  t222 := Tryz.underlying175
  a222 := Tryz.isAgg175
  z222 := Tryz.sizeOf175
  v222 := Tryz.zeroValue175
  t228 := Tryz.underlying252
  a228 := Tryz.isAgg252
  z228 := Tryz.sizeOf252
  v228 := Tryz.zeroValue252
  t229 := Tryz.underlying253
  a229 := Tryz.isAgg253
  z229 := Tryz.sizeOf253
  v229 := Tryz.zeroValue253 }
open Gv
theorem sort_any (g c : Nat) (L : List Int) (w : World) (base e : Nat) (h : OwnI w base e (.slice (some ⟨g, 0, none⟩) L.length c) L) (hl : L.length < 4611686018427387904) :
    Calls Tryz.prog 71 #[.slice (some ⟨g, 0, none⟩) L.length c] w (Ret fun _ w' => OwnI w' base e (.slice (some ⟨g, 0, none⟩) L.length c) (L.mergeSort fun x y => decide (x ≤ y)) ∧ w.grownBy w' (some g)) := by
  have h' := h
  rcases h.2 with ⟨hv, _⟩ | ⟨g', cap, cur, hv, hb, hg, hnc, hcm, hcs, htk⟩
  · cases hv
  · cases hv
    have hls : (L.mergeSort fun x y => decide (x ≤ y)).length = L.length := (List.mergeSort_perm L _).length_eq
    have hH : Go.Sort.Holds (Value.int .i64) w g 0 L.toArray := holds_of_blockI hg (by simpa [ints] using htk)
    refine (Any.slices_Sort_int lays189 g 0 c L w hH (Array.getElem?_eq_some_iff.1 hg).1 hl).mono ?_
    rintro e w' ⟨rfl, n, os, rfl⟩
    refine ⟨_, rfl, ?_, grownBy_sortedI _⟩
    have := ownsRow_sortedI (n := n) (os := os) (ss := L) (ts := L.mergeSort fun x y => decide (x ≤ y)) hls hb hg hnc hcm hcs
    unfold OwnI
    rw [hls]
    exact this
end Bg
end Go.Proofs.YtocgehoffdjijaaGreat
/- bags: give. -/
namespace Go.Proofs.YtocgehoffdjijaaGreat
namespace Bg
set_option maxRecDepth 20000
open Gv
theorem z105 : (Tryz.prog.info? 207).bind (·.zero) = some (.map none) := by kernel_rfl
theorem z23 : (Tryz.prog.info? 27).bind (·.zero) = some (.slice none 0 0) := by kernel_rfl
theorem z3 : (Tryz.prog.info? 3).bind (·.zero) = some (.int .i64 0) := by kernel_rfl
theorem via2 {a b : Int} {e : Nat} (hne : a ≠ b) (v : Int) : (fun k' => if k' = b then some (Value.int .i64 (e : Int)) else (fun k' => if k' = a then some (Value.int .i64 (e : Int)) else (fun _ => none) k') k') v = viaV [a, b] [e, e] v := by
  show (if v = b then some (Value.int .i64 (e : Int)) else if v = a then some (Value.int .i64 (e : Int)) else none) = viaV [a, b] [e, e] v
  unfold viaV
  by_cases c1 : v = b
  · subst c1; simp [viaF, Ne.symm hne]
  · by_cases c2 : v = a
    · subst c2; simp [viaF, hne]
    · simp [viaF, c1, c2]
theorem via2' {a b : Int} {e : Nat} (hne : a ≠ b) (v : Int) : (fun k' => if k' = a then some (Value.int .i64 (e : Int)) else (fun k' => if k' = b then some (Value.int .i64 (e : Int)) else (fun _ => none) k') k') v = viaV [a, b] [e, e] v := by
  rw [← via2 hne v]
  by_cases c1 : v = b
  · subst c1; simp [Ne.symm hne]
  · simp [c1]
theorem viaV_snoc {Qs : List Int} {Es : List Nat} {u v : Int} {k : Nat} (h : Es.length = Qs.length) (hu : u ∉ Qs) : viaV (Qs ++ [u]) (Es ++ [k]) v = if v = u then some (.int .i64 (k : Int)) else viaV Qs Es v := by
  unfold viaV; rw [viaF_snoc h hu]; split <;> rfl
theorem viaV_some {Qs : List Int} {Es : List Nat} {v : Int} (h : Es.length = Qs.length) : (viaV Qs Es v).isSome = decide (v ∈ Qs) := by
  unfold viaV
  rw [Option.isSome_map]
  by_cases c : v ∈ Qs
  · rw [decide_eq_true c]
    cases hv : viaF Qs Es v with
    | none => exact absurd c ((viaF_none h).1 hv)
    | some _ => rfl
  · rw [decide_eq_false c, (viaF_none h).2 c]; rfl
theorem row_obj {w : World} {base sz n : Nat} {e : TypeId} {v : Value} {xs : List Value} (h : w.ownsRow base e sz v n xs) {g : Nat} (hg : v.ownBlock = some g) : ∃ c, w.heap[g]? = some (.cells c e (0, 0)) := by
  rcases h.2 with ⟨rfl, _⟩ | ⟨g', cap, cells, rfl, _, hh, _⟩
  · cases hg
  · cases hg; exact ⟨_, hh⟩
theorem _root_.Go.Proofs.YtocgehoffdjijaaGreat.Gv.Box.ne {w : World} {b b' : Nat} {t t' : TypeId} {v v' : Value} (h : Box w b t v) (h' : Box w b' t' v') (ht : t ≠ t') : b ≠ b' := by
  rintro rfl
  unfold Box at h h'
  rw [h] at h'; cases h'; exact ht rfl
theorem _root_.Go.Proofs.YtocgehoffdjijaaGreat.Gv.Box.nerow {w : World} {b base sz n : Nat} {e t : TypeId} {v v' : Value} {xs : List Value} (h : Box w b t v') (hr : w.ownsRow base e sz v n xs) (ht : t ≠ e) : v.ownBlock ≠ some b := by
  intro hg
  obtain ⟨c, hc⟩ := row_obj hr hg
  unfold Box at h
  rw [h] at hc; cases hc; exact ht rfl
theorem _root_.Go.Proofs.YtocgehoffdjijaaGreat.Gv.MapF.nerow {κ : Type} [DecidableEq κ] {enc : κ → Value} {w : World} {b base sz n : Nat} {e : TypeId} {v : Value} {xs : List Value} {F : κ → Option Value} (h : MapF enc w b F) (hr : w.ownsRow base e sz v n xs) : v.ownBlock ≠ some b := by
  intro hg
  obtain ⟨c, hc⟩ := row_obj hr hg
  obtain ⟨m, cl, h1, _⟩ := h
  rw [h1.1] at hc; cases hc
theorem _root_.Go.Proofs.YtocgehoffdjijaaGreat.Gv.MapF.nebox {κ : Type} [DecidableEq κ] {enc : κ → Value} {w : World} {b b' : Nat} {t : TypeId} {v : Value} {F : κ → Option Value} (h : MapF enc w b F) (hb : Box w b' t v) : b ≠ b' := by
  rintro rfl
  obtain ⟨m, cl, h1, _⟩ := h
  unfold Box at hb
  rw [h1.1] at hb; cases hb
theorem _root_.Go.Proofs.YtocgehoffdjijaaGreat.Gv.OwnI.ptr {w : World} {base n c : Nat} {e : TypeId} {q : Option Addr} {L : List Int} (h : OwnI w base e (.slice q n c) L) (h0 : 0 < L.length) : ∃ g, q = some ⟨g, 0, none⟩ := by
  rcases h.2 with ⟨hv, hl⟩ | ⟨g', cap, cells, hv, _⟩
  · omega
  · cases hv; exact ⟨_, rfl⟩
theorem _root_.Go.Proofs.YtocgehoffdjijaaGreat.Gv.CM.nemk {w : World} {k : Nat} (h : CM w k) {M : List Nat} (hM : Mk M w) : k ∉ M := fun hk => h.2 _ (hM.2 k hk)
theorem ShW.lk {B : Nat} {w w' : World} {b base : Nat} {n most whole : Int} {ve : Value} {q : Option Addr} {c : Nat} {L Sh : List (Int × Int)} {Ld : List Int} (h : ShW w b base n most whole ve q c L Sh Ld) (hl : Lk B w w') (hb : b < B) : ShW w' b base n most whole ve q c L Sh Ld :=
  ⟨h.blk.lk hl, h.ldlen, row_lk hl h.own, h.edg.keep hl.ch fun g hg e => by have := h.eblk g hg; have := h.bblk; omega, h.eblk, h.bblk, h.len⟩
/-- The search: the sharing, the map of the known, the queue. -/
structure Srch (W0 b base b2 b6 bm b7 e : Nat) (n most whole : Int) (ve : Value) (q : Option Addr) (c : Nat) (L S1 : List (Int × Int)) (L1 : List Int) (wk : World) (Qs : List Int) (Es : List Nat) (pr : Nat → Nat) (v7 : Value) : Prop where
  sh : ShW wk b base n most whole ve q c L S1 L1
  x2 : Box wk b2 124 (.pointer (some ⟨b, 0, none⟩))
  x6 : Box wk b6 207 (.map (some bm))
  mp : MapF encI wk bm (viaV Qs Es)
  x7 : Box wk b7 27 v7
  q : OwnI wk W0 3 v7 Qs
  tr : Tr L S1 e n Qs Es pr
section
variable {W0 b base b2 b6 bm b7 e : Nat} {n most whole : Int} {ve : Value} {q : Option Addr} {c : Nat} {L S1 : List (Int × Int)} {L1 : List Int} {wk wk' : World} {Qs : List Int} {Es : List Nat} {pr : Nat → Nat} {v7 : Value}
theorem Srch.ext (h : Srch W0 b base b2 b6 bm b7 e n most whole ve q c L S1 L1 wk Qs Es pr v7) (hE : Ext wk wk') : Srch W0 b base b2 b6 bm b7 e n most whole ve q c L S1 L1 wk' Qs Es pr v7 :=
  ⟨h.sh.ext hE, h.x2.ext hE, h.x6.ext hE, h.mp.ext hE, h.x7.ext hE, h.q.ext hE, h.tr⟩
theorem Srch.lk {B : Nat} (h : Srch W0 b base b2 b6 bm b7 e n most whole ve q c L S1 L1 wk Qs Es pr v7) (hl : Lk B wk wk') (hb : b < B) : Srch W0 b base b2 b6 bm b7 e n most whole ve q c L S1 L1 wk' Qs Es pr v7 :=
  ⟨h.sh.lk hl hb, h.x2.lk hl, h.x6.lk hl, h.mp.lk hl, h.x7.lk hl, OwnI.lk hl h.q, h.tr⟩
end
/-- What 'give' leaves: all of the edge is given, or a set that has all that it can have. -/
def GiveR (n : Int) (L : List (Int × Int)) (e : Nat) (most whole : Int) (w0 w' : World) (v : Value) (Sh' : List (Int × Int)) (Ld' : List Int) : Prop :=
  (v = .slice none 0 0 ∧ sm Sh' e = whole) ∨ ∃ S, OwnI w' w0.heap.size 3 v S ∧ (∃ g c, v = .slice (some ⟨g, 0, none⟩) S.length c) ∧ Asc S ∧ 0 < S.length ∧ Clo L Sh' Ld' most n S ∧ bothIn L S e ∧ sm Sh' e < whole
set_option maxRecDepth 20000 in
set_option maxHeartbeats 8000000 in
theorem give_any (w : World) (b base : Nat) (n most whole : Int) (ve : Value) (q : Option Addr) (c : Nat) (L Sh : List (Int × Int)) (Ld : List Int) (h : ShW w b base n most whole ve q c L Sh Ld) (hS : Shr L Sh Ld most whole)
    (hG : ∀ k, k < L.length → 0 ≤ (ed L k).1 ∧ (ed L k).1 < (ed L k).2 ∧ (ed L k).2 < n) (hn : 1 ≤ n ∧ n ≤ 16) (hL : L.length ≤ 1000) (e : Nat) (he : e < L.length) (hm : 0 ≤ most ∧ most ≤ 1000000) (hw : 0 ≤ whole ∧ whole ≤ 1000000) :
    Calls Tryz.prog 109 #[.pointer (some ⟨b, 0, none⟩), .int .i64 e] w (Ret fun v w' => ∃ Sh' Ld', ShW w' b base n most whole ve q c L Sh' Ld' ∧ Shr L Sh' Ld' most whole ∧ (∀ k, k < L.length → k ≠ e → sm Sh' k = sm Sh k) ∧
      Ch (fun k => k = b ∨ (Value.slice q L.length c).ownBlock = some k) w w' ∧ GiveR n L e most whole w w' v Sh' Ld') := by
  have hqs := h.isSome (by omega)
  have hblt := h.blk.lt
  obtain ⟨qe, ce, rfl, hqe⟩ := h.edg.slice
  have hes := h.edg.isSome (by omega)
  have hSl : Sh.length = L.length := h.len
  have hnb : ∀ g, (Value.slice q L.length c).ownBlock = some g → base ≤ g ∧ g ≠ b ∧ g < w.heap.size := fun g hg => by
    rw [← hSl] at hg; exact h.ne hg
  have hbase := h.bblk
  have heb := h.eblk
  have hGe := hG e he
  have hne : (ed L e).1 ≠ (ed L e).2 := by omega
  have hdis : ∀ k, k < L.length → (ed L k).1 ≠ (ed L k).2 := fun k hk => by have := hG k hk; omega
  -- what lies beyond the start is none of the sharing's
  have hout : ∀ k, w.heap.size ≤ k → ¬ (k = b ∨ (Value.slice q L.length c).ownBlock = some k ∨ (Value.slice qe L.length ce).ownBlock = some k) := fun k hk hh => by
    rcases hh with rfl | hh | hh
    · omega
    · have := hnb k hh; omega
    · have := heb k hh; omega
  refine calls_of_wc (args := [.pointer (some ⟨b, 0, none⟩), .int .i64 e]) Tryz.func109 rfl ?_ ?_; kernel_rfl
  repeat' (first|refine za ?_|refine zc ?_|refine zd ?_)
  refine r_box rfl rfl fun w1 hx2 hE1 hs1 => ?_
  obtain ⟨b2, eb2⟩ : ∃ b, b = w.heap.size := ⟨_, rfl⟩
  rw [← eb2] at hx2 ⊢
  repeat' (first|refine za ?_|refine zB ?_|refine zb ?_|refine ze ?_|refine zl ?_)
  refine wc_loop3M [1, 2] (fun (M : List Nat) (_ : List (Int × Int)) (_ : List Int) => [(1000000, mkv M)]) (fun M S1 L1 wk => ShW wk b base n most whole (Value.slice qe L.length ce) q c L S1 L1 ∧ Shr L S1 L1 most whole ∧ (∀ k, k < L.length → k ≠ e → sm S1 k = sm Sh k) ∧
      Ch (fun k => k = b ∨ (Value.slice q L.length c).ownBlock = some k) w wk ∧ Box wk b2 124 (.pointer (some ⟨b, 0, none⟩)) ∧ Mk M wk ∧ ∀ D, D ∈ M → w.heap.size ≤ D) (fun _ S1 _ => (whole - sm S1 e).toNat) [] Sh Ld rfl ⟨rfl, trivial⟩ ⟨h.ext hE1, hS, fun _ _ _ => rfl, hE1.ch, hx2, Mk.nil _, fun D hD => by cases hD⟩ ?_
  rintro M S1 L1 wk x ⟨hWk, hS1, hsame, hCk, hk2, hMk, hMlo⟩
  have hS1l : S1.length = L.length := hWk.len
  have hWd := hWk.ext (Ext.drew wk)
  obtain ⟨r0, r1, r2, r3, r4⟩ := hWd.rds
  have g2 := (hk2.ext (Ext.drew wk)).rd
  obtain ⟨c0, c1⟩ := hWd.rdSh he
  have hp1 := hS1.pos e he
  have hsum := hS1.sum e he
  have hsm : sm S1 e = (ed S1 e).1 + (ed S1 e).2 := rfl
  repeat' (first|refine zc ?_|refine zl ?_|refine zo ?_)
  (refine wc_drawn 22 (by kernel_rfl) (by kernel_rfl) ?_; simp only [List.take_succ_cons, List.take_zero, List.drop_succ_cons, List.drop_zero])
  repeat' (first|refine za ?_|refine zM ?_|refine zP ?_)
  refine r_faE (o' := 3) fo89_2 rfl rfl ?_
  repeat' (first|refine za ?_|refine zM ?_|refine zP ?_)
  refine r_faE (o' := 4) fo89_3 rfl rfl ?_
  repeat' (first|refine za ?_|refine zA ?_|refine zL ?_|refine zM ?_)
  refine r_idxQ ar42 rfl (pidx_isSome hqs) rfl (by decide) (by decide) ?_
  repeat' (first|refine za ?_|refine zJ ?_|refine zM ?_|refine zP ?_)
  refine r_faE (o' := 4) fo89_3 rfl rfl ?_
  repeat' (first|refine za ?_|refine zA ?_|refine zL ?_|refine zM ?_)
  refine r_idxQ ar42 rfl (pidx_isSome hqs) rfl (by decide) (by decide) ?_
  by_cases h0 : sm S1 e = whole
  · repeat' (first|refine za ?_|refine zA ?_|refine zB ?_|refine zb ?_|refine zc ?_|refine ze ?_|refine zd ?_|refine zG ?_|refine zJ ?_|refine zM ?_|refine zX ?_|refine zn ?_|refine zf ?_|refine zi ?_|refine zq ?_)
    refine postK1 M rfl (hMk.ext (Ext.drew wk)) rfl (v := .slice none 0 0) rfl fun w' hc => ?_
    exact ⟨S1, L1, hWd.keep hc fun k hk => hS1l ▸ hout k (hMlo k hk), hS1, hsame, Ch.trans' hCk (Ch.trans' (Ext.drew wk).ch hc fun k _ hk => hk) fun k hk1 hk2 => by have := hMlo k hk2; omega, .inl ⟨rfl, h0⟩⟩
  repeat' (first|refine za ?_|refine zA ?_|refine zB ?_|refine zb ?_|refine wc_seq_ne 4 rfl ?_|refine ze ?_|refine zd ?_|refine zG ?_|refine zJ ?_|refine zM ?_|refine zY ?_|refine zk ?_)
  obtain ⟨wq, ewq⟩ : ∃ wq, wq = wk.drew := ⟨_, rfl⟩
  rw [← ewq] at hWd g2 ⊢
  have hEq : Ext wk wq := by rw [ewq]; exact Ext.drew wk
  have hq2 := hk2.ext hEq
  have hWq := hWd
  have hCq := hCk.trans hEq.ch
  have hMq := hMk.ext hEq
  clear hk2 hWd hCk hMk r0 r1 r2 r3 r4 c0 c1 g2
  have hsz0 := hCq.size
  obtain ⟨e0, e1⟩ := hWq.edg.rd he
  change rd _ _ = some (.int .i64 (ed L e).1) at e0
  change rd _ _ = some (.int .i64 (ed L e).2) at e1
  have hsd : wq.drew.heap.size = wq.heap.size := rfl
  refine wc_join (σ := Nat × Nat) [1, 2, 5] (fun s => [(6, .pointer (some ⟨s.2, 0, none⟩))]) (fun s wz => Ext wq wz ∧ Box wz s.2 207 (.map (some s.1)) ∧ MapF encI wz s.1 (viaV [(ed L e).1, (ed L e).2] [e, e]) ∧ wq.heap.size ≤ s.1 ∧ wq.heap.size ≤ s.2) rfl ?_ ?_
  · refine wc_heldB (fun w' => Ext wq w') (.take 1 (.take 2 (.take 3 (.take 4 (.take 5 (.take 6 (.take 7 (.take 8 (.take 9 (.take 10 (.take 12 (.take 13 (.take 14 (.take 15 (.take 16 (.take 17 (.take 18 (.take 19 (.take 20 (.take 21 (.two 0 (.three 11 (.two 22 (.take 23 (.one 24 (.one 25 .done))) 24 (.one 22 (.take 23 (.one 25 .done)))) 22 (.two 11 (.take 23 (.one 24 (.one 25 .done))) 24 (.one 11 (.take 23 (.one 25 .done)))) 24 (.two 11 (.one 22 (.take 23 (.one 25 .done))) 22 (.one 11 (.take 23 (.one 25 .done))))) 24 (.one 0 (.two 11 (.one 22 (.take 23 (.one 25 .done))) 22 (.one 11 (.take 23 (.one 25 .done)))))))))))))))))))))))))) (by kernel_rfl) (by kernel_rfl) (Ext.drew wq) ?_
    refine whB_take rfl rfl (fun w' hw' => rv_ld ct84 rfl (hq2.ext hw').rd) ?_
    refine whB_take rfl rfl (fun w' hw' => rv_nil rfl) ?_
    refine whB_take rfl rfl (fun w' hw' => rv_faE (o' := 0) fo89_0 rfl rfl) ?_
    refine whB_take rfl rfl (fun w' hw' => rv_faE (o' := 1) fo72_1 rfl rfl) ?_
    refine whB_take rfl rfl (fun w' hw' => rv_ld rfl rfl (hWq.ext hw').rds.2.1) ?_
    refine whB_take (v := .int _ _) rfl rfl (fun w' hw' => rv_move_v rfl) ?_
    refine whB_take rfl rfl (fun w' hw' => rv_idx (sz := 2) rfl rfl rfl hes (by omega) (by omega)) ?_
    refine whB_take rfl rfl (fun w' hw' => rv_faQ fo46_0 rfl (pidx_isSome hes)) ?_
    refine whB_take rfl rfl (fun w' hw' => rv_ld rfl rfl (rd_ext e0 hw')) ?_
    refine whB_take (v := .int _ _) rfl rfl (fun w' hw' => rv_move_v rfl) ?_
    refine whB_take rfl rfl (fun w' hw' => rv_ld ct84 rfl (hq2.ext hw').rd) ?_
    refine whB_take rfl rfl (fun w' hw' => rv_nil rfl) ?_
    refine whB_take rfl rfl (fun w' hw' => rv_faE (o' := 0) fo89_0 rfl rfl) ?_
    refine whB_take rfl rfl (fun w' hw' => rv_faE (o' := 1) fo72_1 rfl rfl) ?_
    refine whB_take rfl rfl (fun w' hw' => rv_ld rfl rfl (hWq.ext hw').rds.2.1) ?_
    refine whB_take (v := .int _ _) rfl rfl (fun w' hw' => rv_move_v rfl) ?_
    refine whB_take rfl rfl (fun w' hw' => rv_idx (sz := 2) rfl rfl rfl hes (by omega) (by omega)) ?_
    refine whB_take rfl rfl (fun w' hw' => rv_faQ fo46_1 rfl (pidx_isSome hes)) ?_
    refine whB_take rfl rfl (fun w' hw' => rv_ld rfl rfl (rd_ext e1 hw')) ?_
    refine whB_take (v := .int _ _) rfl rfl (fun w' hw' => rv_move_v rfl) ?_
    refine whB_two rfl rfl rfl rfl ?_ ?_
    · refine r_makeMap encI fun y1 hF1 hE1 hs1 => ?_
      obtain ⟨m1, em1⟩ : ∃ b, b = wq.drew.heap.size := ⟨_, rfl⟩
      rw [← em1] at hF1 ⊢
      have hX1 := (Ext.drew wq).trans hE1
      refine ⟨hX1, ?_⟩
      refine whB_three rfl rfl rfl rfl rfl rfl ?_ ?_ ?_
      · refine r_insert (k := (ed L e).1) (v := .int .i64 (e : Int)) mp105 kt3 hF1 rfl rfl rfl fun y2 hF2 hC2 hs2 => ?_
        have hX2 : Ext wq y2 := Ch.trans' hX1 hC2 fun k hk e => by omega
        refine ⟨hX2, ?_⟩
        refine whB_two rfl rfl rfl rfl ?_ ?_
        · refine r_insert (k := (ed L e).2) (v := .int .i64 (e : Int)) mp105 kt3 hF2 rfl rfl rfl fun y3 hF3 hC3 hs3 => ?_
          have hX3 : Ext wq y3 := Ch.trans' hX2 hC3 fun k hk e => by omega
          refine ⟨hX3, ?_⟩
          refine whB_take rfl rfl (fun w' hw' => rv_move) ?_
          refine whB_one rfl rfl ?_
          refine r_alloc z105 rfl fun y4 hB4 hE4 hs4 => ?_
          obtain ⟨v4, ev4⟩ : ∃ b, b = y3.heap.size := ⟨_, rfl⟩
          rw [← ev4] at hB4 ⊢
          have hX4 := hX3.trans hE4
          have hF4 := hF3.ext hE4
          refine ⟨hX4, ?_⟩
          refine whB_one rfl rfl ?_
          refine r_st_box (by kernel_rfl) hB4 rfl rfl rfl fun y5 hB5 hC5 hs5 => ?_
          have hX5 : Ext wq y5 := Ch.trans' hX4 hC5 fun k hk e => by omega
          have hF5 := hF4.keep hC5 (by omega)
          refine ⟨hX5, ?_⟩
          refine whB_done (thenQ_normal ?_)
          refine ⟨(m1, v4), ⟨rfl, trivial⟩, hX5, hB5, hF5.congr fun v => ?_, by omega, by omega⟩
          first | exact via2 hne v | exact via2' hne v
        · refine r_alloc z105 rfl fun y6 hB6 hE6 hs6 => ?_
          obtain ⟨v6, ev6⟩ : ∃ b, b = y2.heap.size := ⟨_, rfl⟩
          rw [← ev6] at hB6 ⊢
          have hX6 := hX2.trans hE6
          have hF6 := hF2.ext hE6
          refine ⟨hX6, ?_⟩
          refine whB_one rfl rfl ?_
          refine r_insert (k := (ed L e).2) (v := .int .i64 (e : Int)) mp105 kt3 hF6 rfl rfl rfl fun y7 hF7 hC7 hs7 => ?_
          have hX7 : Ext wq y7 := Ch.trans' hX6 hC7 fun k hk e => by omega
          have hB7 := hB6.keep hC7 (by omega)
          refine ⟨hX7, ?_⟩
          refine whB_take rfl rfl (fun w' hw' => rv_move) ?_
          refine whB_one rfl rfl ?_
          refine r_st_box (by kernel_rfl) hB7 rfl rfl rfl fun y8 hB8 hC8 hs8 => ?_
          have hX8 : Ext wq y8 := Ch.trans' hX7 hC8 fun k hk e => by omega
          have hF8 := hF7.keep hC8 (by omega)
          refine ⟨hX8, ?_⟩
          refine whB_done (thenQ_normal ?_)
          refine ⟨(m1, v6), ⟨rfl, trivial⟩, hX8, hB8, hF8.congr fun v => ?_, by omega, by omega⟩
          first | exact via2 hne v | exact via2' hne v
      · refine r_insert (k := (ed L e).2) (v := .int .i64 (e : Int)) mp105 kt3 hF1 rfl rfl rfl fun y9 hF9 hC9 hs9 => ?_
        have hX9 : Ext wq y9 := Ch.trans' hX1 hC9 fun k hk e => by omega
        refine ⟨hX9, ?_⟩
        refine whB_two rfl rfl rfl rfl ?_ ?_
        · refine r_insert (k := (ed L e).1) (v := .int .i64 (e : Int)) mp105 kt3 hF9 rfl rfl rfl fun y10 hF10 hC10 hs10 => ?_
          have hX10 : Ext wq y10 := Ch.trans' hX9 hC10 fun k hk e => by omega
          refine ⟨hX10, ?_⟩
          refine whB_take rfl rfl (fun w' hw' => rv_move) ?_
          refine whB_one rfl rfl ?_
          refine r_alloc z105 rfl fun y11 hB11 hE11 hs11 => ?_
          obtain ⟨v11, ev11⟩ : ∃ b, b = y10.heap.size := ⟨_, rfl⟩
          rw [← ev11] at hB11 ⊢
          have hX11 := hX10.trans hE11
          have hF11 := hF10.ext hE11
          refine ⟨hX11, ?_⟩
          refine whB_one rfl rfl ?_
          refine r_st_box (by kernel_rfl) hB11 rfl rfl rfl fun y12 hB12 hC12 hs12 => ?_
          have hX12 : Ext wq y12 := Ch.trans' hX11 hC12 fun k hk e => by omega
          have hF12 := hF11.keep hC12 (by omega)
          refine ⟨hX12, ?_⟩
          refine whB_done (thenQ_normal ?_)
          refine ⟨(m1, v11), ⟨rfl, trivial⟩, hX12, hB12, hF12.congr fun v => ?_, by omega, by omega⟩
          first | exact via2 hne v | exact via2' hne v
        · refine r_alloc z105 rfl fun y13 hB13 hE13 hs13 => ?_
          obtain ⟨v13, ev13⟩ : ∃ b, b = y9.heap.size := ⟨_, rfl⟩
          rw [← ev13] at hB13 ⊢
          have hX13 := hX9.trans hE13
          have hF13 := hF9.ext hE13
          refine ⟨hX13, ?_⟩
          refine whB_one rfl rfl ?_
          refine r_insert (k := (ed L e).1) (v := .int .i64 (e : Int)) mp105 kt3 hF13 rfl rfl rfl fun y14 hF14 hC14 hs14 => ?_
          have hX14 : Ext wq y14 := Ch.trans' hX13 hC14 fun k hk e => by omega
          have hB14 := hB13.keep hC14 (by omega)
          refine ⟨hX14, ?_⟩
          refine whB_take rfl rfl (fun w' hw' => rv_move) ?_
          refine whB_one rfl rfl ?_
          refine r_st_box (by kernel_rfl) hB14 rfl rfl rfl fun y15 hB15 hC15 hs15 => ?_
          have hX15 : Ext wq y15 := Ch.trans' hX14 hC15 fun k hk e => by omega
          have hF15 := hF14.keep hC15 (by omega)
          refine ⟨hX15, ?_⟩
          refine whB_done (thenQ_normal ?_)
          refine ⟨(m1, v13), ⟨rfl, trivial⟩, hX15, hB15, hF15.congr fun v => ?_, by omega, by omega⟩
          first | exact via2 hne v | exact via2' hne v
      · refine r_alloc z105 rfl fun y16 hB16 hE16 hs16 => ?_
        obtain ⟨v16, ev16⟩ : ∃ b, b = y1.heap.size := ⟨_, rfl⟩
        rw [← ev16] at hB16 ⊢
        have hX16 := hX1.trans hE16
        have hF16 := hF1.ext hE16
        refine ⟨hX16, ?_⟩
        refine whB_two rfl rfl rfl rfl ?_ ?_
        · refine r_insert (k := (ed L e).1) (v := .int .i64 (e : Int)) mp105 kt3 hF16 rfl rfl rfl fun y17 hF17 hC17 hs17 => ?_
          have hX17 : Ext wq y17 := Ch.trans' hX16 hC17 fun k hk e => by omega
          have hB17 := hB16.keep hC17 (by omega)
          refine ⟨hX17, ?_⟩
          refine whB_one rfl rfl ?_
          refine r_insert (k := (ed L e).2) (v := .int .i64 (e : Int)) mp105 kt3 hF17 rfl rfl rfl fun y18 hF18 hC18 hs18 => ?_
          have hX18 : Ext wq y18 := Ch.trans' hX17 hC18 fun k hk e => by omega
          have hB18 := hB17.keep hC18 (by omega)
          refine ⟨hX18, ?_⟩
          refine whB_take rfl rfl (fun w' hw' => rv_move) ?_
          refine whB_one rfl rfl ?_
          refine r_st_box (by kernel_rfl) hB18 rfl rfl rfl fun y19 hB19 hC19 hs19 => ?_
          have hX19 : Ext wq y19 := Ch.trans' hX18 hC19 fun k hk e => by omega
          have hF19 := hF18.keep hC19 (by omega)
          refine ⟨hX19, ?_⟩
          refine whB_done (thenQ_normal ?_)
          refine ⟨(m1, v16), ⟨rfl, trivial⟩, hX19, hB19, hF19.congr fun v => ?_, by omega, by omega⟩
          first | exact via2 hne v | exact via2' hne v
        · refine r_insert (k := (ed L e).2) (v := .int .i64 (e : Int)) mp105 kt3 hF16 rfl rfl rfl fun y20 hF20 hC20 hs20 => ?_
          have hX20 : Ext wq y20 := Ch.trans' hX16 hC20 fun k hk e => by omega
          have hB20 := hB16.keep hC20 (by omega)
          refine ⟨hX20, ?_⟩
          refine whB_one rfl rfl ?_
          refine r_insert (k := (ed L e).1) (v := .int .i64 (e : Int)) mp105 kt3 hF20 rfl rfl rfl fun y21 hF21 hC21 hs21 => ?_
          have hX21 : Ext wq y21 := Ch.trans' hX20 hC21 fun k hk e => by omega
          have hB21 := hB20.keep hC21 (by omega)
          refine ⟨hX21, ?_⟩
          refine whB_take rfl rfl (fun w' hw' => rv_move) ?_
          refine whB_one rfl rfl ?_
          refine r_st_box (by kernel_rfl) hB21 rfl rfl rfl fun y22 hB22 hC22 hs22 => ?_
          have hX22 : Ext wq y22 := Ch.trans' hX21 hC22 fun k hk e => by omega
          have hF22 := hF21.keep hC22 (by omega)
          refine ⟨hX22, ?_⟩
          refine whB_done (thenQ_normal ?_)
          refine ⟨(m1, v16), ⟨rfl, trivial⟩, hX22, hB22, hF22.congr fun v => ?_, by omega, by omega⟩
          first | exact via2 hne v | exact via2' hne v
    · refine r_alloc z105 rfl fun y23 hB23 hE23 hs23 => ?_
      obtain ⟨v23, ev23⟩ : ∃ b, b = wq.drew.heap.size := ⟨_, rfl⟩
      rw [← ev23] at hB23 ⊢
      have hX23 := (Ext.drew wq).trans hE23
      refine ⟨hX23, ?_⟩
      refine whB_one rfl rfl ?_
      refine r_makeMap encI fun y24 hF24 hE24 hs24 => ?_
      obtain ⟨m24, em24⟩ : ∃ b, b = y23.heap.size := ⟨_, rfl⟩
      rw [← em24] at hF24 ⊢
      have hX24 := hX23.trans hE24
      have hB24 := hB23.ext hE24
      refine ⟨hX24, ?_⟩
      refine whB_two rfl rfl rfl rfl ?_ ?_
      · refine r_insert (k := (ed L e).1) (v := .int .i64 (e : Int)) mp105 kt3 hF24 rfl rfl rfl fun y25 hF25 hC25 hs25 => ?_
        have hX25 : Ext wq y25 := Ch.trans' hX24 hC25 fun k hk e => by omega
        have hB25 := hB24.keep hC25 (by omega)
        refine ⟨hX25, ?_⟩
        refine whB_one rfl rfl ?_
        refine r_insert (k := (ed L e).2) (v := .int .i64 (e : Int)) mp105 kt3 hF25 rfl rfl rfl fun y26 hF26 hC26 hs26 => ?_
        have hX26 : Ext wq y26 := Ch.trans' hX25 hC26 fun k hk e => by omega
        have hB26 := hB25.keep hC26 (by omega)
        refine ⟨hX26, ?_⟩
        refine whB_take rfl rfl (fun w' hw' => rv_move) ?_
        refine whB_one rfl rfl ?_
        refine r_st_box (by kernel_rfl) hB26 rfl rfl rfl fun y27 hB27 hC27 hs27 => ?_
        have hX27 : Ext wq y27 := Ch.trans' hX26 hC27 fun k hk e => by omega
        have hF27 := hF26.keep hC27 (by omega)
        refine ⟨hX27, ?_⟩
        refine whB_done (thenQ_normal ?_)
        refine ⟨(m24, v23), ⟨rfl, trivial⟩, hX27, hB27, hF27.congr fun v => ?_, by omega, by omega⟩
        first | exact via2 hne v | exact via2' hne v
      · refine r_insert (k := (ed L e).2) (v := .int .i64 (e : Int)) mp105 kt3 hF24 rfl rfl rfl fun y28 hF28 hC28 hs28 => ?_
        have hX28 : Ext wq y28 := Ch.trans' hX24 hC28 fun k hk e => by omega
        have hB28 := hB24.keep hC28 (by omega)
        refine ⟨hX28, ?_⟩
        refine whB_one rfl rfl ?_
        refine r_insert (k := (ed L e).1) (v := .int .i64 (e : Int)) mp105 kt3 hF28 rfl rfl rfl fun y29 hF29 hC29 hs29 => ?_
        have hX29 : Ext wq y29 := Ch.trans' hX28 hC29 fun k hk e => by omega
        have hB29 := hB28.keep hC29 (by omega)
        refine ⟨hX29, ?_⟩
        refine whB_take rfl rfl (fun w' hw' => rv_move) ?_
        refine whB_one rfl rfl ?_
        refine r_st_box (by kernel_rfl) hB29 rfl rfl rfl fun y30 hB30 hC30 hs30 => ?_
        have hX30 : Ext wq y30 := Ch.trans' hX29 hC30 fun k hk e => by omega
        have hF30 := hF29.keep hC30 (by omega)
        refine ⟨hX30, ?_⟩
        refine whB_done (thenQ_normal ?_)
        refine ⟨(m24, v23), ⟨rfl, trivial⟩, hX30, hB30, hF30.congr fun v => ?_, by omega, by omega⟩
        first | exact via2 hne v | exact via2' hne v
  rintro ⟨bm, b6⟩ wz y ⟨hEz, hB6, hF6, hm6, hb6⟩
  dsimp only at hB6 hF6 hm6 hb6 ⊢
  have hWz := hWq.ext hEz
  have hz2 := hq2.ext hEz
  have f0 := rd_ext e0 hEz
  have f1 := rd_ext e1 hEz
  have hCz := hCq.trans hEz.ch
  have hMz := hMq.ext hEz
  have hszz := hEz.size
  have hszd : wz.drew.heap.size = wz.heap.size := rfl
  clear e0 e1
  skip
  refine wc_join (σ := Value × Nat) [1, 2, 5, 6] (fun s => [(7, .pointer (some ⟨s.2, 0, none⟩))]) (fun s w5 => Ext wz w5 ∧ Box w5 s.2 27 s.1 ∧ OwnI w5 w.heap.size 3 s.1 [(ed L e).1, (ed L e).2] ∧ wz.heap.size ≤ s.2) rfl ?_ ?_
  · refine wc_heldB (fun w' => Ext wz w') (.take 0 (.take 1 (.take 2 (.take 3 (.take 4 (.take 5 (.take 6 (.take 7 (.take 8 (.take 9 (.take 10 (.take 11 (.take 12 (.take 13 (.take 14 (.take 15 (.take 16 (.take 17 (.two 18 (.one 19 (.one 20 .done)) 19 (.one 18 (.one 20 .done))))))))))))))))))))) (by kernel_rfl) (by kernel_rfl) (Ext.drew wz) ?_
    refine whB_take rfl rfl (fun w' hw' => rv_ld ct84 rfl (hz2.ext hw').rd) ?_
    refine whB_take rfl rfl (fun w' hw' => rv_nil rfl) ?_
    refine whB_take rfl rfl (fun w' hw' => rv_faE (o' := 0) fo89_0 rfl rfl) ?_
    refine whB_take rfl rfl (fun w' hw' => rv_faE (o' := 1) fo72_1 rfl rfl) ?_
    refine whB_take rfl rfl (fun w' hw' => rv_ld rfl rfl (hWz.ext hw').rds.2.1) ?_
    refine whB_take (v := .int _ _) rfl rfl (fun w' hw' => rv_move_v rfl) ?_
    refine whB_take rfl rfl (fun w' hw' => rv_idx (sz := 2) rfl rfl rfl hes (by omega) (by omega)) ?_
    refine whB_take rfl rfl (fun w' hw' => rv_faQ fo46_0 rfl (pidx_isSome hes)) ?_
    refine whB_take rfl rfl (fun w' hw' => rv_ld rfl rfl (rd_ext f0 hw')) ?_
    refine whB_take rfl rfl (fun w' hw' => rv_ld ct84 rfl (hz2.ext hw').rd) ?_
    refine whB_take rfl rfl (fun w' hw' => rv_nil rfl) ?_
    refine whB_take rfl rfl (fun w' hw' => rv_faE (o' := 0) fo89_0 rfl rfl) ?_
    refine whB_take rfl rfl (fun w' hw' => rv_faE (o' := 1) fo72_1 rfl rfl) ?_
    refine whB_take rfl rfl (fun w' hw' => rv_ld rfl rfl (hWz.ext hw').rds.2.1) ?_
    refine whB_take (v := .int _ _) rfl rfl (fun w' hw' => rv_move_v rfl) ?_
    refine whB_take rfl rfl (fun w' hw' => rv_idx (sz := 2) rfl rfl rfl hes (by omega) (by omega)) ?_
    refine whB_take rfl rfl (fun w' hw' => rv_faQ fo46_1 rfl (pidx_isSome hes)) ?_
    refine whB_take rfl rfl (fun w' hw' => rv_ld rfl rfl (rd_ext f1 hw')) ?_
    refine whB_two rfl rfl rfl rfl ?_ ?_
    · refine r_buildS2 (a1 := (ed L e).1) (a2 := (ed L e).2) el23 rfl rfl fun x1 hQ1 hE1 hs1 => ?_
      have hX1 := (Ext.drew wz).trans hE1
      refine ⟨hX1, whB_one rfl rfl ?_⟩
      refine r_alloc z23 rfl fun x2 hB2 hE2 hs2 => ?_
      obtain ⟨v7, ev7⟩ : ∃ b, b = x1.heap.size := ⟨_, rfl⟩
      rw [← ev7] at hB2 ⊢
      have hX2 := hX1.trans hE2
      have hQ2 := hQ1.ext hE2
      refine ⟨hX2, whB_one rfl rfl ?_⟩
      refine r_st_box (by kernel_rfl) hB2 rfl rfl rfl fun x3 hB3 hC3 hs3 => ?_
      have hX3 : Ext wz x3 := Ch.trans' hX2 hC3 fun k hk e => by omega
      have hQ3 := ownsRow_keep hQ2 hC3 fun g hg e => by have : wz.drew.heap.size = g := Option.some.inj hg; omega
      refine ⟨hX3, ?_⟩
      refine whB_done (thenQ_normal ?_)
      exact ⟨(_, v7), ⟨rfl, trivial⟩, hX3, hB3, ownsRow_mono hQ3 (by omega), by omega⟩
    · refine r_alloc z23 rfl fun x1 hB1 hE1 hs1 => ?_
      obtain ⟨v7, ev7⟩ : ∃ b, b = wz.drew.heap.size := ⟨_, rfl⟩
      rw [← ev7] at hB1 ⊢
      have hX1 := (Ext.drew wz).trans hE1
      refine ⟨hX1, whB_one rfl rfl ?_⟩
      refine r_buildS2 (a1 := (ed L e).1) (a2 := (ed L e).2) el23 rfl rfl fun x2 hQ2 hE2 hs2 => ?_
      have hX2 := hX1.trans hE2
      have hB2 := hB1.ext hE2
      refine ⟨hX2, whB_one rfl rfl ?_⟩
      refine r_st_box (by kernel_rfl) hB2 rfl rfl rfl fun x3 hB3 hC3 hs3 => ?_
      have hX3 : Ext wz x3 := Ch.trans' hX2 hC3 fun k hk e => by omega
      have hQ3 := ownsRow_keep hQ2 hC3 fun g hg e => by have : x1.heap.size = g := Option.some.inj hg; omega
      refine ⟨hX3, ?_⟩
      refine whB_done (thenQ_normal ?_)
      exact ⟨(_, v7), ⟨rfl, trivial⟩, hX3, hB3, ownsRow_mono hQ3 (by omega), by omega⟩
  rintro ⟨v7, b7⟩ w5 y5 ⟨hE5, hB7, hQ7, hb7⟩
  dsimp only at hB7 hQ7 hb7 ⊢
  have hW5 := hWz.ext hE5
  have hC5 := hCz.trans hE5.ch
  have hSr : Srch w.heap.size b base b2 b6 bm b7 e n most whole (Value.slice qe L.length ce) q c L S1 L1 w5 [(ed L e).1, (ed L e).2] [e, e] (fun _ => 0) v7 :=
    ⟨hW5, hz2.ext hE5, hB6.ext hE5, hF6.ext hE5, hB7, hQ7, Tr.start hne (by omega) (by omega)⟩
  have hM5 := hMz.ext hE5
  clear hW5 hz2 hB6 hF6 hB7 hQ7 hMz hCz hMq hCq hWq hq2 hWz f0 f1
  repeat' (first|refine za ?_|refine zB ?_|refine zb ?_|refine zc ?_|refine ze ?_|refine zd ?_|refine zl ?_|refine zs ?_)
  refine wc_loop2M [1, 2, 5, 6, 7] (fun (i : Nat) (M : List Nat) => [(8, .int .i64 (-1)), (9, .int .i64 i), (1000000, mkv M)]) (fun i M wk => ∃ Qs Es pr v7, Srch w.heap.size b base b2 b6 bm b7 e n most whole (Value.slice qe L.length ce) q c L S1 L1 wk Qs Es pr v7 ∧ i ≤ Qs.length ∧
      (∀ j, j < i → ¬ L1.getD (Qs.getD j 0).toNat 0 < most ∧ Seen L S1 Qs (Qs.getD j 0)) ∧ Mk M wk ∧ (∀ D, D ∈ M → w.heap.size ≤ D) ∧ Ch (fun k => k = b ∨ (Value.slice q L.length c).ownBlock = some k) w wk) (fun i _ => 17 - i) 0 M rfl ⟨rfl, rfl, rfl, trivial⟩
      ⟨_, _, _, _, hSr, by omega, fun j hj => by omega, hM5, hMlo, hC5⟩ ?_
  clear hSr hM5 hC5 hMlo
  rintro i M wi x6 ⟨Qs, Es, pr, v7, hI, hi, hdone, hMi, hMlo, hCi⟩
  have hlen16 := set_len hI.tr.nodup hI.tr.rng hn.2
  have htwo := hI.tr.two
  obtain ⟨q7, c7, rfl, hq7⟩ := hI.q.ints.slice
  have g7 := hI.x7.rd
  by_cases hin : i < Qs.length
  · have hr := hI.q.ints.rd hin
    have hps := hI.q.ints.isSome (by omega)
    have hvr := hI.tr.rng _ (getD_memI hin)
    repeat' (first|refine za ?_|refine zA ?_|refine zb ?_|refine zc ?_|refine ze ?_|refine zd ?_|refine zC ?_|refine zK ?_|refine zL ?_|refine zM ?_|refine zX ?_|refine zk ?_|refine zl ?_)
    refine r_alloc z3 rfl fun wa hxa hEa hsa => ?_
    obtain ⟨b10, eb10⟩ : ∃ b, b = wi.heap.size := ⟨_, rfl⟩
    rw [← eb10] at hxa ⊢
    repeat' (refine za ?_)
    refine r_st_box (by kernel_rfl) hxa rfl rfl rfl fun wb hxb hCb hsb => ?_
    have hEb : Ext wi wb := Ch.trans' hEa hCb fun k hk e => by omega
    have hEd := hEb.trans (Ext.drew wb)
    have hId := hI.ext hEd
    have hxd := hxb.ext (Ext.drew wb)
    obtain ⟨r0, r1, r2, r3, r4⟩ := hId.sh.rds
    have gd2 := hId.x2.rd
    have gd10 := hxd.rd
    have hld := hId.sh.ld (v := Qs.getD i 0) (by omega)
    generalize hvv : Qs.getD i 0 = v at *
    clear hr hps g7
    repeat' (first|refine zb ?_|refine zc ?_|refine ze ?_)
    (refine wc_drawn 10 (by kernel_rfl) (by kernel_rfl) ?_; simp only [List.take_succ_cons, List.take_zero, List.drop_succ_cons, List.drop_zero])
    repeat' (first|refine za ?_|refine zM ?_|refine zP ?_)
    refine r_faE (o' := 5) fo89_4 rfl rfl ?_
    repeat' (refine za ?_)
    refine r_idxE ar75 rfl rfl (by omega) (by omega) ?_
    repeat' (first|refine za ?_|refine zM ?_|refine zP ?_)
    refine r_faE (o' := 2) fo89_1 rfl rfl ?_
    by_cases hfree : L1.getD v.toNat 0 < most
    · have hEdd := hEd.trans (Ext.drew wb.drew)
      have hIe := hI.ext hEdd
      have hxe := hxd.ext (Ext.drew wb.drew)
      have g6 := hIe.x6.rd
      have gd2 := hIe.x2.rd
      have hld := hIe.sh.ld (v := v) (by omega)
      obtain ⟨r0, r1, r2, r3, r4⟩ := hIe.sh.rds
      have hl0 := hS1.loadI (v := v) (by omega)
      have hl1 : 0 ≤ L1.getD v.toNat 0 := by rw [hl0.1]; exact ldE_nonneg hS1.pos
      repeat' (first|refine za ?_|refine zA ?_|refine zB ?_|refine zb ?_|refine zc ?_|refine ze ?_|refine zd ?_|refine zC ?_|refine zM ?_|refine zX ?_|refine zY ?_|refine zk ?_|refine zm ?_|refine zg ?_|refine zj ?_|refine zZ ?_)
      (refine wc_drawn 17 (by kernel_rfl) (by kernel_rfl) ?_; simp only [List.take_succ_cons, List.take_zero, List.drop_succ_cons, List.drop_zero])
      repeat' (first|refine za ?_|refine zA ?_|refine zM ?_|refine zP ?_)
      refine r_faE (o' := 2) fo89_1 rfl rfl ?_
      repeat' (first|refine za ?_|refine zA ?_|refine zM ?_|refine zP ?_)
      refine r_faE (o' := 5) fo89_4 rfl rfl ?_
      repeat' (refine za ?_)
      refine r_idxE ar75 rfl rfl (by omega) (by omega) ?_
      repeat' (first|refine za ?_|refine zJ ?_|refine zM ?_)
      obtain ⟨A0, hA0⟩ : ∃ A0, A0 = min (whole - (ed S1 e).1 - (ed S1 e).2) (most - L1.getD v.toNat 0) := ⟨_, rfl⟩
      refine r_min (c := A0) rfl rfl (by split <;> omega) ?_
      have hmv := move_any _ b base bm n most whole _ q c L S1 L1 hIe.sh e i Qs Es pr hI.tr hG hn.2 he hL hS1 hIe.mp hin A0 (by omega) (by omega) (by rw [hvv]; omega) hm.2 hw.2
      rw [hvv] at hmv
      repeat' (first|refine za ?_|refine zb ?_)
      (refine r_call (R := ?_) rfl ?_ ?_; rotate_left 1; focus exact hmv)
      rintro _ wm ⟨S2, L2, hWm, hSm, hlt, hsm2, hCm⟩
      repeat' (first|refine zb ?_|refine ze ?_|refine zh ?_|refine zp ?_)
      have hMm := (hMi.ext hEdd).ch hCm fun k hk => by
        rcases hk with rfl | hk
        · exact hIe.sh.blk.cm
        · exact row_cm hIe.sh.own (by rw [hIe.sh.len]; exact hk)
      refine ⟨M, S2, L2, ⟨rfl, trivial⟩, ⟨hWm, hSm, fun k hk hke => (hsm2 k hk hke).trans (hsame k hk hke), (hCi.trans hEdd.ch).trans hCm, hIe.x2.keep hCm fun hk => ?_, hMm, hMlo⟩, by have := hSm.sum e he; omega⟩
      rcases hk with hk | hk
      · omega
      · have := hnb _ hk; omega
    · have hEdd := hEd.trans (Ext.drew wb.drew)
      have hIe := hI.ext hEdd
      have hxe := hxd.ext (Ext.drew wb.drew)
      have gd2 := hIe.x2.rd
      have gd10 := hxe.rd
      have hCe := hCi.trans hEdd.ch
      have hMe := hMi.ext hEdd
      obtain ⟨we, ewe⟩ : ∃ we, we = wb.drew.drew := ⟨_, rfl⟩
      repeat' (first|refine za ?_|refine zb ?_|refine zc ?_|refine ze ?_|refine zC ?_|refine zM ?_|refine zY ?_|refine zk ?_)
      clear r0 r1 r2 r3 r4 hId hxd hld
      (refine wc_drawn 5 (by kernel_rfl) (by kernel_rfl) ?_; simp only [List.take_succ_cons, List.take_zero, List.drop_succ_cons, List.drop_zero])
      rw [← ewe] at hIe hxe gd2 gd10 hCe hMe ⊢
      repeat' (first|refine za ?_|refine zM ?_|refine zP ?_)
      refine r_faE (o' := 0) fo89_0 rfl rfl ?_
      repeat' (refine za ?_)
      refine r_ldAt (n := 2) (ws := [.int .i64 n, .slice qe L.length ce]) ag72 (by decide) hIe.sh.blk rfl rfl rfl ?_
      repeat' (first|refine za ?_|refine zb ?_|refine zM ?_)
      (refine r_call (R := ?_) rfl ?_ ?_; rotate_left 1; focus exact around_any n _ L v _ hIe.sh.edg)
      rintro _ wr ⟨ba, bb, rfl, hba, hbb, hAD, hEr⟩
      have hIr := hIe.ext hEr
      have hxr := hxe.ext hEr
      have hCr := hCe.trans hEr.ch
      have hMr := hMe.ext hEr
      have hbr := hIr.sh.blk.lt
      have hszr : w.heap.size ≤ wr.heap.size := hCr.size
      clear hIe hxe hCe hMe hxa hxb
      have hq10 : ∀ g, (Value.slice q7 Qs.length c7).ownBlock = some g → g ≠ b10 ∧ g ≠ bb := fun g hg => by have := World.ownsRow.lt hI.q g hg; have := hEdd.size; rw [← ewe] at this; omega
      repeat' (first|refine zb ?_|refine ze ?_|refine zl ?_)
      refine wc_rangeE (nb L v L.length) 40 (AroundD n (.slice qe L.length ce) L ba bb v) (fun j W => ∃ Qs' Es' pr' v7', Srch w.heap.size b base b2 b6 bm b7 e n most whole (Value.slice qe L.length ce) q c L S1 L1 W Qs' Es' pr' v7' ∧ (∃ r, Qs' = Qs ++ r) ∧
          (∀ x, x ∈ (nb L v L.length).take j → 0 < hs L S1 x.1.toNat v → x.2 ∈ Qs') ∧ Box W b10 3 (.int .i64 v) ∧ (∀ g, v7'.ownBlock = some g → g ≠ b10 ∧ g ≠ bb) ∧ Mk M W ∧ Ch (fun k => k = b ∨ (Value.slice q L.length c).ownBlock = some k) w W) M rfl rfl rfl (around1_any n _ L ba bb v hL hdis) ?hDt ?hI hAD ⟨Qs, Es, pr, _, hIr, ⟨[], by simp⟩, fun x hx => by simp at hx, hxr, hq10, hMr, hCr⟩ ?hbody ?hdone
      case hDt =>
        rintro W W' hl ⟨a1, a2, a3⟩
        exact ⟨a1.lk hl, a2.lk hl, a3.keep hl.ch fun g hg e => by have := heb g hg; omega⟩
      case hI =>
        rintro j W W' hl ⟨Qs', Es', pr', v7', a1, a2, a3, a4, a7, a5, a6⟩
        exact ⟨Qs', Es', pr', v7', a1.lk hl hbr, a2, a3, a4.lk hl, a7, a5.lk hl, a6.lk hl hszr⟩
      case hbody =>
        apply Exists.intro
        apply And.intro
        · intro k u W
          repeat' (first|refine za ?_|refine zB ?_|refine zb ?_|refine zc ?_|refine ze ?_|refine zd ?_)
          exact ⟨rfl, rfl, rfl⟩
        rintro j W k u hku hsz ⟨Qs', Es', pr', v7', a1, ⟨rr, a2⟩, a3, a4, a7, a5, a6⟩ hD
        obtain ⟨kk, hkk, hk1, hk2⟩ := nb_mem (List.mem_of_getElem? hku)
        dsimp only at hk1 hk2
        subst hk1
        have hGk := hG kk hkk
        have hur : 0 ≤ u ∧ u < n := by rcases hk2 with ⟨_, rfl⟩ | ⟨_, rfl⟩ <;> omega
        have hJn : Jn L kk v u := by
          rcases hk2 with ⟨e1, e2⟩ | ⟨e1, e2⟩
          · exact .inl (Prod.ext e1 e2.symm)
          · exact .inr (Prod.ext e2.symm e1)
        have hlen' := set_len a1.tr.nodup a1.tr.rng hn.2
        obtain ⟨q8, c8, rfl, hq8⟩ := a1.q.ints.slice
        have g2 := a1.x2.rd
        have g6 := a1.x6.rd
        have g7 := a1.x7.rd
        have g10 := a4.rd
        have htake : (nb L v L.length).take (j + 1) = (nb L v L.length).take j ++ [((kk : Int), u)] := by
          rw [List.take_add_one, hku]; rfl
        repeat' (first|refine za ?_|refine zA ?_|refine zc ?_|refine zd ?_|refine zM ?_|refine zl ?_)
        refine r_lookup_ok (k := u) mp105 kt3 a1.mp rfl rfl ?_
        rw [viaV_some a1.tr.len]
        by_cases hkn : u ∈ Qs'
        · rw [decide_eq_true hkn]
          repeat' (first|refine za ?_|refine zA ?_|refine zB ?_|refine zb ?_|refine zc ?_|refine ze ?_|refine zd ?_|refine zO ?_|refine zR ?_|refine zS ?_|refine zV ?_|refine zY ?_|refine zk ?_|refine zh ?_)
          refine ⟨KpB.of_ext (Ext.refl _), ⟨Qs', Es', pr', _, a1, ⟨rr, a2⟩, fun x hx hp => ?_, a4, a7, a5, a6⟩, hD, Kt.of_ext (Ext.refl _)⟩
          rw [htake] at hx
          rcases List.mem_append.1 hx with hx | hx
          · exact a3 x hx hp
          · simp only [List.mem_singleton] at hx
            subst hx; exact hkn
        · rw [decide_eq_false hkn]
          have hrd := a1.sh.rdS (k := kk) (v := v) hkk
          repeat' (first|refine za ?_|refine zA ?_|refine zB ?_|refine zb ?_|refine zc ?_|refine ze ?_|refine zd ?_|refine zM ?_|refine zO ?_|refine zS ?_|refine zU ?_)
          (refine r_call_q (v := ?_) rfl ?_ ?_; rotate_left 1; focus exact has_any _ b base n most whole _ q c L S1 L1 a1.sh kk v hkk)
          repeat' (refine zU ?_)
          refine r_nilQ rfl (map_isSome (pidx_isSome hqs)) ?_
          by_cases hp : 0 < hs L S1 kk v
          · repeat' (first|refine za ?_|refine zA ?_|refine zb ?_|refine zc ?_|refine ze ?_|refine zd ?_|refine zE ?_|refine zM ?_|refine zQ ?_|refine zU ?_|refine zX ?_)
            refine r_mapUpdate (k := u) (v := .int .i64 (kk : Int)) mp105 kt3 a1.mp rfl rfl rfl fun w18 hF18 hC18 hs18 => ?_
            have hne8 := a1.mp.nerow a1.q
            have hne7 := a1.mp.nebox a1.x7
            have hq18 : OwnI w18 w.heap.size 3 (Value.slice q8 Qs'.length c8) Qs' := ownsRow_keep a1.q hC18 fun g hg e => hne8 (by rw [hg, e])
            have hx18 := a1.x7.keep hC18 fun e => hne7 e.symm
            have g7 := hx18.rd
            repeat' (first|refine za ?_|refine zA ?_|refine zb ?_|refine ze ?_|refine zd ?_|refine zM ?_)
            refine r_append1_i el23 hq18 rfl rfl (by omega) (by have := hC18.size; have := a6.size; omega) ?_
            intro v8 w19 z19 hq19 hg19 _ hnew
            have hC19 : Ch (fun k => (Value.slice q8 Qs'.length c8).ownBlock = some k) w18 w19 := Ch.grown hg19 fun k hk => hk
            have hx19 := hx18.keep hC19 fun e => hx18.nerow hq18 (by decide) e
            obtain ⟨q9, c9, rfl, hq9⟩ := (OwnI.ints hq19).slice
            repeat' (refine za ?_)
            refine r_st_box (v := .slice q9 (Qs' ++ [u]).length c9) (by kernel_rfl) hx19 rfl rfl rfl fun w20 hx20 hC20 hs20 => ?_
            have hC : Ch (fun k => k = bm ∨ (Value.slice q8 Qs'.length c8).ownBlock = some k ∨ k = b7) W w20 :=
              Ch.trans' (Ch.trans' (hC18.mono fun k _ e => .inl e) hC19 fun k _ e => .inr (.inl e)) hC20 fun k _ e => .inr (.inr e)
            have hSb : ∀ k, (k = bm ∨ (Value.slice q8 Qs'.length c8).ownBlock = some k ∨ k = b7) → w.heap.size ≤ k ∧ CM W k ∧ ∀ c t r, W.heap[k]? = some (.cells c t r) → t = 3 ∨ t = 27 := fun k hk => by
              rcases hk with rfl | hk | rfl
              · refine ⟨by omega, a1.mp.cm, fun c t r e => ?_⟩
                obtain ⟨m, cl, h1, _⟩ := a1.mp
                rw [h1.1] at e; cases e
              · obtain ⟨c', hc'⟩ := row_obj a1.q hk
                refine ⟨(World.ownsRow.lt a1.q k hk).1, row_cm a1.q hk, fun c t r e => ?_⟩
                rw [hc'] at e; cases e; exact .inl rfl
              · refine ⟨by omega, a1.x7.cm, fun c t r e => ?_⟩
                have hx7 := a1.x7
                unfold Box at hx7
                rw [hx7] at e; cases e; exact .inr rfl
            have hnot : ∀ {b c t r}, W.heap[b]? = some (.cells c t r) → t ≠ 3 → t ≠ 27 → ¬ (b = bm ∨ (Value.slice q8 Qs'.length c8).ownBlock = some b ∨ b = b7) := fun h1 h2 h3 hk => by
              rcases (hSb _ hk).2.2 _ _ _ h1 with h | h
              · exact h2 h
              · exact h3 h
            have hn10 : ¬ (b10 = bm ∨ (Value.slice q8 Qs'.length c8).ownBlock = some b10 ∨ b10 = b7) := fun hk => by
              rcases hk with rfl | hk | rfl
              · exact (a1.mp.nebox a4) rfl
              · exact (a7 _ hk).1 rfl
              · exact (a4.ne a1.x7 (by decide)) rfl
            have hb10 := a4.lt
            have hbb' := hD.2.1.lt
            have hnbb : ¬ (bb = bm ∨ (Value.slice q8 Qs'.length c8).ownBlock = some bb ∨ bb = b7) := fun hk => by
              rcases hk with rfl | hk | rfl
              · exact (a1.mp.nebox hD.2.1) rfl
              · exact (a7 _ hk).2 rfl
              · exact (hD.2.1.ne a1.x7 (by decide)) rfl
            repeat' (first|refine zb ?_|refine zh ?_)
            refine ⟨KpB.of_ch hC fun k hk => (hSb k hk).2.1, ⟨Qs' ++ [u], Es' ++ [kk], fun j => if j = Qs'.length then i else pr' j, _, ⟨?_, a1.x2.keep hC (hnot a1.x2 (by decide) (by decide)), a1.x6.keep hC (hnot a1.x6 (by decide) (by decide)), ?_, hx20, ?_, ?_⟩, ⟨rr ++ [u], by rw [a2, List.append_assoc]⟩, fun x hx hp => ?_, a4.keep hC hn10, ?_, a5.ch hC fun k hk => (hSb k hk).2.1, Ch.trans' a6 hC fun k hk e => by have := (hSb k e).1; omega⟩,
              ⟨hD.1.keep hC (hnot hD.1 (by decide) (by decide)), hD.2.1.keep hC hnbb, hD.2.2.keep hC fun g hg e => by have := (hSb g e).1; have := heb g hg; omega⟩, Kt.of_ch hC fun k hk c r e => by rcases (hSb k hk).2.2 _ _ _ e with h | h <;> cases h⟩
            · exact a1.sh.keep hC fun k hk => hS1l ▸ hout k (hSb k hk).1
            · refine ((hF18.keep hC19 fun e => hne8 e).keep hC20 fun e => hne7 e).congr fun v' => ?_
              exact (viaV_snoc a1.tr.len hkn).symm
            · exact ownsRow_keep hq19 hC20 fun g hg e => hx19.nerow hq19 (by decide) (by rw [hg, e])
            · have hvi : Qs'.getD i 0 = v := by rw [a2, List.getD_eq_getElem?_getD, List.getElem?_append_left hin, ← List.getD_eq_getElem?_getD]; exact hvv
              exact a1.tr.push hkn hur hkk (i := i) (by rw [a2, List.length_append]; omega) (by rw [hvi]; exact hJn) (by rw [hvi]; exact hp)
            · rw [htake] at hx
              rcases List.mem_append.1 hx with hx | hx
              · exact List.mem_append_left _ (a3 x hx hp)
              · simp only [List.mem_singleton] at hx
                subst hx; simp
            · intro g hg
              rcases hnew _ hg with h | h
              · exact a7 _ h
              · have := hC18.size; omega
          · repeat' (first|refine za ?_|refine zb ?_|refine ze ?_|refine zE ?_|refine zM ?_|refine zQ ?_|refine zU ?_|refine zY ?_|refine zk ?_|refine zh ?_)
            refine ⟨KpB.of_ext (Ext.refl _), ⟨Qs', Es', pr', _, a1, ⟨rr, a2⟩, fun x hx hp' => ?_, a4, a7, a5, a6⟩, hD, Kt.of_ext (Ext.refl _)⟩
            rw [htake] at hx
            rcases List.mem_append.1 hx with hx | hx
            · exact a3 x hx hp'
            · simp only [List.mem_singleton] at hx
              subst hx; exact absurd hp' hp
      case hdone =>
        rintro W ⟨Qs', Es', pr', v7', a1, ⟨rr, a2⟩, a3, a4, a7, a5, a6⟩ hblk
        rw [List.take_length] at a3
        repeat' (first|refine za ?_|refine zA ?_|refine zB ?_|refine zb ?_|refine ze ?_|refine zd ?_|refine zI ?_|refine zh ?_)
        refine ⟨i + 1, wr.heap.size :: M, ⟨rfl, rfl, rfl, trivial⟩, ⟨Qs', Es', pr', v7', a1, by rw [a2, List.length_append]; omega, fun j hj => ?_, Mk.cons a5 hMr hblk, fun D hD => ?_, a6⟩, by omega⟩
        · have hpre : ∀ j, j < Qs.length → Qs'.getD j 0 = Qs.getD j 0 := fun j hj => by rw [a2, List.getD_eq_getElem?_getD, List.getElem?_append_left hj, ← List.getD_eq_getElem?_getD]
          rw [hpre j (by omega)]
          by_cases hji : j = i
          · subst hji
            rw [hvv]
            exact ⟨hfree, a3⟩
          · exact ⟨(hdone j (by omega)).1, (hdone j (by omega)).2.mono fun u hu => by rw [a2]; exact List.mem_append_left _ hu⟩
        · rcases List.mem_cons.1 hD with rfl | hD
          · exact hszr
          · exact hMlo D hD
  · have hie : i = Qs.length := by omega
    subst hie
    obtain ⟨g, rfl⟩ := OwnI.ptr hI.q (by omega)
    have hg : g < wi.heap.size ∧ w.heap.size ≤ g := by have := World.ownsRow.lt hI.q g rfl; omega
    repeat' (first|refine za ?_|refine zA ?_|refine zb ?_|refine zc ?_|refine ze ?_|refine zd ?_|refine zC ?_|refine zK ?_|refine zM ?_|refine zX ?_|refine zY ?_|refine zm ?_|refine zg ?_|refine zj ?_)
    (refine r_call (R := ?_) rfl ?_ ?_; rotate_left 1; focus exact sort_any g c7 Qs _ w.heap.size 3 hI.q (by omega))
    rintro _ ws ⟨hQs, hgr⟩
    have hCs : Ch (fun k => k = g) wi ws := Ch.grown hgr fun k hk => (Option.some.inj hk).symm
    have hx7 := hI.x7.keep hCs fun e => hI.x7.nerow hI.q (by decide) (by rw [e]; rfl)
    have g7 := hx7.rd
    have hMs := hMi.ch hCs fun k hk => by subst hk; exact row_cm hI.q rfl
    repeat' (first|refine za ?_|refine zB ?_|refine zb ?_|refine zc ?_|refine ze ?_|refine zd ?_|refine zM ?_|refine zn ?_|refine zf ?_|refine zi ?_|refine zq ?_)
    refine postK1 M rfl hMs rfl (v := .slice (some ⟨g, 0, none⟩) Qs.length c7) rfl fun w' hc => ?_
    have hss : ∀ v, v ∈ Qs.mergeSort (fun x y => decide (x ≤ y)) ↔ v ∈ Qs := fun v => mem_sort
    have hls : (Qs.mergeSort fun x y => decide (x ≤ y)).length = Qs.length := (List.mergeSort_perm Qs _).length_eq
    refine ⟨S1, L1, (hI.sh.keep hCs fun k hk => hS1l ▸ hout k (by omega)).keep hc fun k hk => hS1l ▸ hout k (hMlo k hk), hS1, hsame, ?_, .inr ⟨Qs.mergeSort fun x y => decide (x ≤ y), ?_, ⟨g, c7, by rw [hls]⟩, asc_sort hI.tr.nodup, by rw [hls]; omega, ?_, ?_, by omega⟩⟩
    · exact Ch.trans' (Ch.trans' hCi hCs fun k hk e => by omega) hc fun k hk e => by have := hMlo k e; omega
    · refine ownsRow_keep hQs hc fun k hk e => ?_
      have : g = k := Option.some.inj hk
      subst this
      exact (row_cm hQs rfl).nemk hMs e
    · refine Clo.of_seen hdis hI.tr.rng hn.2 hS1 (fun v hv => ?_) (fun v hv => ?_) hss
      · obtain ⟨j, hj, rfl⟩ := List.getElem_of_mem hv
        have := (hdone j hj).1
        rwa [getD_lt hj] at this
      · obtain ⟨j, hj, rfl⟩ := List.getElem_of_mem hv
        have := (hdone j hj).2
        rwa [getD_lt hj] at this
    · exact ⟨(hss _).2 (by rw [← hI.tr.q0]; exact getD_memI (by omega)), (hss _).2 (by rw [← hI.tr.q1]; exact getD_memI (by omega))⟩
end Bg
end Go.Proofs.YtocgehoffdjijaaGreat

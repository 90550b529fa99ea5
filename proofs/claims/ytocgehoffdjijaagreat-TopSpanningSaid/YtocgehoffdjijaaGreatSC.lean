/- top: streets: spanning, where there are two vertices and one street; top: streets: Count, where there are two vertices and one street. -/
import Derived.Test.YtocgehoffdjijaaGreatSB
import Derived.Test.YtocgehoffdjijaaGreatUpj
/- top: streets: spanning, where there are two vertices and one street. -/
namespace Go.Proofs.YtocgehoffdjijaaGreat
open Gv
set_option maxRecDepth 20000
abbrev B0 : List Nat := List.range 16
def U1 : List Nat := joU B0 0 1
theorem par1 : Par U1 := joU_par par16 0 1
theorem of00 : ofU B0 0 = 0 := by decide +kernel
theorem of01 : ofU B0 1 = 1 := by decide +kernel
theorem of10 : ofU U1 0 = 0 := by decide +kernel
theorem of11 : ofU U1 1 = 0 := by decide +kernel
theorem of0v {v : Nat} (h : v < 2) : ofU B0 v = v := by rcases (by omega : v = 0 ∨ v = 1) with rfl | rfl; exact of00; exact of01
theorem of1v {v : Nat} (h : v < 2) : ofU U1 v = 0 := by rcases (by omega : v = 0 ∨ v = 1) with rfl | rfl; exact of10; exact of11
theorem mp207 : mapT Tryz.prog 207 = some (3, 3, .int .i64 0) := by kernel_rfl
theorem ki3 : KeyOf Tryz.prog 3 encI := key_int Tryz.underlying3
def FF (v : Nat) : Int → Option Value := fun k => if 0 ≤ k ∧ k < v then some (.int .i64 k) else none
theorem FF0 : (fun _ => none) = FF 0 := by funext k; unfold FF; rw [if_neg (by omega)]
theorem FF_succ (v : Nat) : (fun k' : Int => if k' = (v : Int) then some (.int .i64 (v : Int)) else FF v k') = FF (v + 1) := by
  funext k
  unfold FF
  by_cases e : k = v
  · subst e; rw [if_pos rfl, if_pos (by omega)]
  · rw [if_neg e]
    by_cases h : 0 ≤ k ∧ k < v
    · rw [if_pos h, if_pos (by omega)]
    · rw [if_neg h, if_neg (by omega)]
theorem ks_len {v : Nat} {ks : List Int} (h1 : ks.Nodup) (h2 : ∀ k, k ∈ ks ↔ (FF v k).isSome = true) : ks.length = v := by
  have hp : ks.Perm ((List.range v).map fun n : Nat => (n : Int)) := by
    refine (List.perm_ext_iff_of_nodup h1 ?_).2 fun k => ?_
    · exact List.pairwise_map.2 (List.nodup_range.imp fun {a b} h e => h (by have e' : ((a : Nat) : Int) = ((b : Nat) : Int) := e; omega))
    · rw [h2, List.mem_map]
      unfold FF
      constructor
      · intro h
        split at h
        · rename_i hk; exact ⟨k.toNat, by rw [List.mem_range]; omega, by omega⟩
        · cases h
      · rintro ⟨n, hn, rfl⟩
        rw [List.mem_range] at hn
        rw [if_pos (by omega)]; rfl
  have := hp.length_eq
  simpa using this
theorem ks_nil {ks : List Int} (h2 : ∀ k, k ∈ ks ↔ ((fun _ => none : Int → Option Value) k).isSome = true) : ks.length = 0 := by
  cases ks with
  | nil => rfl
  | cons a l => have := (h2 a).1 (by simp); cases this
namespace Gv
theorem r_lookup_some {κ : Type} [DecidableEq κ] {enc : κ → Value} {P : Program} {st : Bool} {K : Env → World → Prop} {ρ : Env} {w : World} {d : Nat} {ty : TypeId} {pos : String} {aft : Array Edge} {gd : Option (Nat × Bool)} {x y : Operand} {t kt e : TypeId} {z v : Value} {b : Nat} {F : κ → Option Value} {k : κ}
    (ht : mapT P t = some (kt, e, z)) (hk : KeyOf P kt enc) (h0 : MapF enc w b F) (hx : ev ρ x = .map (some b)) (hy : ev ρ y = enc k) (hv : F k = some v) (h : K (up ρ d (.tuple #[v, .bool true])) w) :
    w1 P st ⟨some d, .lookup t x y true, ty, pos, aft, gd⟩ K ρ w := r_lookup_ok ht hk h0 hx hy (by rw [hv]; exact h)
end Gv
theorem z35 : (Tryz.prog.info? 35).bind (·.zero) = some (.slice none 0 0) := by kernel_rfl
theorem co35 : Tryz.prog.cellsOf 35 = 1 := by kernel_rfl
theorem el35 : elemI Tryz.prog 35 = some (27, .slice none 0 0, 1, 24) := by kernel_rfl
theorem z60 : (Tryz.prog.info? 60).bind (·.zero) = some (.agg [.int .i64 0, .int .i64 0, .int .i64 0].toArray) := by kernel_rfl
/-- What lies there, behind the making of the table. -/
structure SpW (w2 : World) (bm b15 gm b16 b9 p : Nat) (u : Value) (w : World) : Prop where
  map : MapF encI w bm (FF 2)
  f15 : Box w b15 3 (.int .i64 1)
  f16 : Box w b16 35 (.slice (some ⟨gm, 0, none⟩) 1 1)
  m : Gv.Own w gm 27 (.slice (some ⟨gm, 0, none⟩) 1 1) [u]
  f9 : Box w b9 3 (.int .i64 (p : Int))
  ext : Ext w2 w
theorem SpW.step {w2 w w' : World} {bm b15 gm b16 b9 p : Nat} {u : Value} (h : SpW w2 bm b15 gm b16 b9 p u w) (hE : Ext w w') : SpW w2 bm b15 gm b16 b9 p u w' :=
  ⟨h.map.ext hE, h.f15.ext hE, h.f16.ext hE, h.m.ext hE, h.f9.ext hE, h.ext.trans hE⟩
theorem SpW.keep {w2 w w' : World} {bm b15 gm b16 b9 p : Nat} {u : Value} {S : Nat → Prop} (h : SpW w2 bm b15 gm b16 b9 p u w) (hC : Ch S w w') (hS : ∀ k, S k → b16 < k) (ho : bm < b15 ∧ b15 < gm ∧ gm < b16 ∧ b9 < bm) (h2 : w2.heap.size ≤ bm) : SpW w2 bm b15 gm b16 b9 p u w' :=
  ⟨h.map.keep hC fun e => by have := hS _ e; omega, h.f15.keep hC fun e => by have := hS _ e; omega, h.f16.keep hC fun e => by have := hS _ e; omega, h.m.keep hC fun g hg e => by cases hg; have := hS _ e; change b16 < gm at this; omega, h.f9.keep hC fun e => by have := hS _ e; omega, Ch.trans' h.ext hC fun k hk e => by have := hS _ e; omega⟩
theorem ag60' : aggT Tryz.prog 60 3 = true := ag60
set_option maxHeartbeats 8000000 in
theorem spanning_one (q : Option Addr) (c bB bA p : Nat) (w : World) (h : Trip w (.slice q 1 c) [(0, 1, 5)]) (hB : PrB w bB B0) (hA : PrB w bA U1) (hp : 2 ≤ p ∧ p < 2147483648) :
    Calls Tryz.prog 106 #[.agg (netV 2 q 1 c).toArray, .pointer (some ⟨bB, 0, none⟩), .pointer (some ⟨bA, 0, none⟩), .int .i64 5, .int .i64 (p : Int)] w (Ret fun v w' => v = .int .i64 1 ∧ Ext w w') := by
  refine calls_of_wc (args := [.agg (netV 2 q 1 c).toArray, .pointer (some ⟨bB, 0, none⟩), .pointer (some ⟨bA, 0, none⟩), .int .i64 5, .int .i64 (p : Int)]) Tryz.func106 rfl ?_ ?_; kernel_rfl
  repeat' (first|refine za ?_|refine zc ?_|refine zd ?_)
  refine r_boxN (cells := netV 2 q 1 c) rfl fun w1 hb5 hE1 hs1 => ?_
  obtain ⟨b5, eb5⟩ : ∃ b, b = w.heap.size := ⟨_, rfl⟩
  rw [← eb5] at hb5 ⊢
  repeat' (refine za ?_)
  refine r_box (v := .int .i64 (p : Int)) rfl rfl fun w2 hb9 hE2 hs2 => ?_
  obtain ⟨b9, eb9⟩ : ∃ b, b = w1.heap.size := ⟨_, rfl⟩
  rw [← eb9] at hb9 ⊢
  have hb52 := hb5.ext hE2
  have hE02 := hE1.trans hE2
  have gn0 : rd w2 (some ⟨b5, 0 + 0, none⟩) = some (.int .i64 2) := hb52.rd rfl
  repeat' (first|refine za ?_|refine zB ?_|refine zb ?_|refine zc ?_|refine ze ?_|refine zd ?_)
  refine r_fa fo117_0 rfl ?_
  repeat' (first|refine za ?_|refine zA ?_|refine zb ?_|refine ze ?_|refine zM ?_|refine zl ?_)
  refine wc_loop [1, 2, 3, 5, 9, 25] (fun (top : Nat) => [(11, .int .i64 1), (26, .int .i64 top)]) (fun top wk => top ≤ 2 ∧ Ext w2 wk) (fun top => 2 - top) 0 rfl ⟨rfl, rfl, trivial⟩ ⟨by omega, Ext.refl _⟩ ?_
  rintro top wk x ⟨htop, hEk⟩
  by_cases ht : top < 2
  rotate_left 1
  · obtain rfl : top = 2 := by omega
    repeat' (first|refine za ?_|refine zA ?_|refine zB ?_|refine zb ?_|refine zc ?_|refine ze ?_|refine zd ?_|refine zC ?_|refine zY ?_|refine zm ?_|refine zn ?_|refine zg ?_|refine zj ?_)
    refine post1 (v := .int .i64 1) rfl rfl ?_
    exact ⟨rfl, hE02.trans hEk⟩
  have hszk : w2.heap.size ≤ wk.heap.size := hEk.size
  repeat' (first|refine za ?_|refine zA ?_|refine zB ?_|refine zb ?_|refine zc ?_|refine ze ?_|refine zd ?_|refine zC ?_|refine zX ?_|refine zk ?_|refine zl ?_)
  refine r_makeMap encI fun w3 hF3 hE3 hs3 => ?_
  obtain ⟨bm, ebm⟩ : ∃ b, b = wk.heap.size := ⟨_, rfl⟩
  rw [← ebm] at hF3 ⊢
  have hE23 := hEk.trans hE3
  have gn3 : rd w3 (some ⟨b5, 0 + 0, none⟩) = some (.int .i64 2) := (hb52.ext hE23).rd rfl
  have hB3 : PrB w3 bB B0 := Blk.ext hB (hE02.trans hE23)
  have hA3 : PrB w3 bA U1 := Blk.ext hA (hE02.trans hE23)
  have hnB : bB ≠ bm := by have := hB.lt; have := hE02.size; omega
  have hnA : bA ≠ bm := by have := hA.lt; have := hE02.size; omega
  repeat' (first|refine za ?_|refine zB ?_|refine zb ?_|refine zc ?_|refine ze ?_|refine zd ?_)
  refine r_fa fo117_0 rfl ?_
  repeat' (first|refine za ?_|refine zA ?_|refine zb ?_|refine ze ?_|refine zM ?_|refine zl ?_)
  by_cases ht0 : top = 0
  rotate_left 1
  · obtain rfl : top = 1 := by omega
    refine wc_loop [1, 2, 3, 5, 9, 11, 12, 13, 25, 26, 31] (fun (v : Nat) => [(32, .int .i64 v)]) (fun v wv => v ≤ 2 ∧ wv = w3) (fun v => 2 - v) 0 rfl ⟨rfl, trivial⟩ ⟨by omega, rfl⟩ ?_
    rintro v wv y ⟨hv, rfl⟩
    by_cases hv2 : v < 2
    · have h1 := of140 bB v B0 wv hB3 par16 (by omega)
      have h2 := of140 bA v U1 wv hA3 par1 (by omega)
      rw [of0v hv2] at h1
      rw [of1v hv2] at h2
      repeat' (first|refine za ?_|refine zA ?_|refine zB ?_|refine zb ?_|refine zc ?_|refine ze ?_|refine zd ?_|refine zC ?_|refine zX ?_|refine zk ?_|refine zl ?_)
      (refine r_call_q (v := ?_) rfl ?_ ?_; rotate_left 1; focus exact h1)
      repeat' (first|refine za ?_|refine zA ?_|refine zG ?_|refine zU ?_)
      (refine r_call_q (v := ?_) rfl ?_ ?_; rotate_left 1; focus exact h2)
      repeat' (first|refine za ?_|refine zA ?_|refine zb ?_|refine ze ?_|refine zd ?_|refine zG ?_|refine zI ?_|refine zQ ?_|refine zU ?_|refine zY ?_|refine zk ?_|refine zh ?_)
      exact ⟨v + 1, ⟨rfl, trivial⟩, ⟨by omega, rfl⟩, by omega⟩
    · obtain rfl : v = 2 := by omega
      repeat' (first|refine za ?_|refine zA ?_|refine zb ?_|refine zc ?_|refine ze ?_|refine zd ?_|refine zC ?_|refine zY ?_|refine zm ?_|refine zg ?_|refine zj ?_)
      refine r_maplen mp207 hF3 rfl fun ks h1 h2 => ?_
      rw [ks_nil h2]
      repeat' (first|refine za ?_|refine zJ ?_)
      refine r_alloc (z := .int .i64 0) z3 rfl fun w4 hb4 hE4 hs4 => ?_
      obtain ⟨b15, eb15⟩ : ∃ b, b = wv.heap.size := ⟨_, rfl⟩
      rw [← eb15] at hb4 ⊢
      repeat' (refine za ?_)
      refine r_st_box (v := .int .i64 (((0 : Nat) : Int) - 1)) co3 hb4 rfl rfl rfl fun w5 h5 hC5 hs5 => ?_
      have g15 := h5.rd
      repeat' (first|refine za ?_|refine zA ?_|refine zb ?_|refine zc ?_|refine ze ?_|refine zd ?_|refine zC ?_|refine zI ?_|refine zM ?_|refine zX ?_|refine zm ?_|refine zg ?_|refine zj ?_)
      exact ⟨2, ⟨rfl, rfl, trivial⟩, ⟨by omega, Ch.trans' (hE23.trans hE4) hC5 fun k hk e => by have := hE23.size; omega⟩, by omega⟩
  subst ht0
  rw [FF0] at hF3
  refine wc_loop [1, 2, 3, 5, 9, 11, 12, 13, 25, 26, 31] (fun (v : Nat) => [(32, .int .i64 v)]) (fun v wv => v ≤ 2 ∧ MapF encI wv bm (FF v) ∧ Ch (fun k => k = bm) w3 wv) (fun v => 2 - v) 0 rfl ⟨rfl, trivial⟩ ⟨by omega, hF3, Ch.refl _ _⟩ ?_
  rintro v wv y ⟨hv, hFv, hCv⟩
  by_cases hv2 : v < 2
  · have h1 := of140 bB v B0 wv (hB3.keep hCv hnB) par16 (by omega)
    have h2 := of140 bA v U1 wv (hA3.keep hCv hnA) par1 (by omega)
    rw [of0v hv2] at h1
    rw [of1v hv2] at h2
    repeat' (first|refine za ?_|refine zA ?_|refine zB ?_|refine zb ?_|refine zc ?_|refine ze ?_|refine zd ?_|refine zC ?_|refine zX ?_|refine zk ?_|refine zl ?_)
    (refine r_call_q (v := ?_) rfl ?_ ?_; rotate_left 1; focus exact h1)
    repeat' (first|refine za ?_|refine zA ?_|refine zG ?_|refine zU ?_)
    (refine r_call_q (v := ?_) rfl ?_ ?_; rotate_left 1; focus exact h2)
    repeat' (first|refine za ?_|refine zA ?_|refine zb ?_|refine ze ?_|refine zd ?_|refine zG ?_|refine zQ ?_|refine zU ?_|refine zX ?_)
    refine r_maplen mp207 hFv rfl fun ks hk1 hk2 => ?_
    rw [ks_len hk1 hk2]
    repeat' (refine za ?_)
    refine r_mapUpdate (k := (v : Int)) (v := .int .i64 (v : Int)) mp207 ki3 hFv rfl rfl rfl fun w6 hF6 hC6 hs6 => ?_
    rw [FF_succ] at hF6
    repeat' (first|refine za ?_|refine zA ?_|refine zb ?_|refine ze ?_|refine zd ?_|refine zI ?_|refine zh ?_)
    exact ⟨v + 1, ⟨rfl, trivial⟩, ⟨by omega, hF6, hCv.trans hC6⟩, by omega⟩
  obtain rfl : v = 2 := by omega
  have hE2v : Ext w2 wv := Ch.trans' hE23 hCv fun k hk e => by omega
  have hszv : bm < wv.heap.size := hFv.lt
  repeat' (first|refine za ?_|refine zA ?_|refine zb ?_|refine zc ?_|refine ze ?_|refine zd ?_|refine zC ?_|refine zY ?_|refine zm ?_|refine zg ?_|refine zj ?_)
  refine r_maplen mp207 hFv rfl fun ks hk1 hk2 => ?_
  rw [ks_len hk1 hk2]
  repeat' (first|refine za ?_|refine zJ ?_)
  refine r_alloc (z := .int .i64 0) z3 rfl fun w4 hb4 hE4 hs4 => ?_
  obtain ⟨b15, eb15⟩ : ∃ b, b = wv.heap.size := ⟨_, rfl⟩
  rw [← eb15] at hb4 ⊢
  repeat' (refine za ?_)
  refine r_st_box (v := .int .i64 1) co3 hb4 rfl rfl rfl fun w5 h15 hC5 hs5 => ?_
  have g15 := h15.rd
  repeat' (first|refine za ?_|refine zb ?_|refine zc ?_|refine ze ?_|refine zd ?_|refine zC ?_|refine zM ?_|refine zY ?_|refine zk ?_)
  refine r_make_v (n := 1) el35 rfl (by decide) rfl rfl (by decide) fun w6 hM6 hE6 hs6 => ?_
  obtain ⟨gm, egm⟩ : ∃ b, b = w5.heap.size := ⟨_, rfl⟩
  rw [← egm] at hM6 ⊢
  repeat' (refine za ?_)
  refine r_alloc (z := .slice none 0 0) z35 rfl fun w7 hb7 hE7 hs7 => ?_
  obtain ⟨b16, eb16⟩ : ∃ b, b = w6.heap.size := ⟨_, rfl⟩
  rw [← eb16] at hb7 ⊢
  repeat' (refine za ?_)
  refine r_st_box (v := .slice (some ⟨gm, 0, none⟩) 1 1) co35 hb7 rfl rfl rfl fun w8 h16 hC8 hs8 => ?_
  have g16 := h16.rd
  have hbm4 : bm < b15 := by omega
  have hb1516 : b15 < gm := by have := h15.lt; omega
  have hgb16 : gm < b16 := by have := (hM6.lt _ rfl).2; omega
  have hb9m : b9 < bm := by have := hb9.lt; omega
  have hord : bm < b15 ∧ b15 < gm ∧ gm < b16 ∧ b9 < bm := ⟨hbm4, hb1516, hgb16, hb9m⟩
  have hW8 : SpW w2 bm b15 gm b16 b9 p (.slice none 0 0) w8 := by
    have e5 : Ext wv w5 := Ch.trans' hE4 hC5 fun k hk e => by omega
    have e8 : Ext w5 w8 := Ch.trans' (hE6.trans hE7) hC8 fun k hk e => by have := hE6.size; omega
    have e8' : Ext w6 w8 := Ch.trans' hE7 hC8 fun k hk e => by omega
    exact ⟨(hFv.ext e5).ext e8, h15.ext e8, h16, hM6.ext e8', ((hb9.ext hE2v).ext e5).ext e8, (hE2v.trans e5).trans e8⟩
  have hb16lt := h16.lt
  clear hFv hCv hM6 h16 h15 hb4 hb7 hC8 hC5 g15
  repeat' (first|refine za ?_|refine zA ?_|refine zb ?_|refine zc ?_|refine ze ?_|refine zd ?_|refine zK ?_|refine zM ?_|refine zl ?_)
  refine wc_loop [1, 2, 3, 5, 9, 11, 12, 13, 15, 16, 25, 26, 60] (fun (i : Nat) => [(61, .int .i64 i)]) (fun i wz => i ≤ 1 ∧ w8.heap.size ≤ wz.heap.size ∧ ∃ u, SpW w2 bm b15 gm b16 b9 p u wz ∧ (i = 1 → ∃ gr, u = .slice (some ⟨gr, 0, none⟩) 1 1 ∧ b16 < gr ∧ OwnI wz w8.heap.size 3 u [0])) (fun i => 1 - i) 0 rfl ⟨rfl, trivial⟩ ⟨by omega, Nat.le_refl _, _, hW8, fun h => by omega⟩ ?_
  rintro i wz y2 ⟨hi, hsz8, u, hW, hu⟩
  by_cases hi1 : i < 1
  · obtain rfl : i = 0 := by omega
    have hWd := hW.step (Ext.drew wz)
    repeat' (first|refine za ?_|refine zA ?_|refine zB ?_|refine zb ?_|refine zc ?_|refine ze ?_|refine zd ?_|refine zC ?_|refine zX ?_|refine zk ?_|refine zl ?_)
    refine wc_heldB (fun w' => Ch (fun k => k = gm) wz.drew w') (.take 0 (.take 1 (.take 2 (.one 3 (.take 4 (.one 5 .done)))))) (by kernel_rfl) (by kernel_rfl) (Ch.refl _ _) ?_
    refine whB_take rfl rfl (fun w' hw' => rv_ld ct35 rfl (hWd.f16.keep hw' (by omega)).rd) ?_
    repeat' (refine whB_take (v := .int _ _) rfl rfl (fun w' hw' => rv_move_v rfl) ?_)
    refine whB_take rfl rfl (fun w' hw' => rv_ld ct3 rfl (hWd.f15.keep hw' (by omega)).rd) ?_
    refine whB_one rfl rfl ?_
    refine r_make_i (n := 1) el27 rfl rfl (by decide) fun wa hoa hEa hlta => ?_
    obtain ⟨gr, egr⟩ : ∃ b, b = wz.drew.heap.size := ⟨_, rfl⟩
    rw [← egr] at hoa ⊢
    refine ⟨Ext.ch hEa, ?_⟩
    refine whB_take rfl rfl (fun w' hw' => rv_idx sz35 rfl rfl rfl (by omega) (by omega)) ?_
    refine whB_one rfl rfl ?_
    refine r_st_v (i := 0) (u := .slice (some ⟨gr, 0, none⟩) 1 1) co27 (hWd.m.ext hEa) rfl rfl rfl (by simp) fun wb hmb hGb hsb => ?_
    have hCb : Ch (fun k => k = gm) wa wb := Ch.grown hGb fun k e => by cases e; rfl
    refine ⟨Ch.trans' (Ext.ch hEa) hCb fun k hk e => e, whB_done ?_⟩
    have hWa := hWd.step hEa
    have hzlt : b16 < wz.drew.heap.size := hWd.f16.lt
    have hWb : SpW w2 bm b15 gm b16 b9 p (.slice (some ⟨gr, 0, none⟩) 1 1) wb :=
      ⟨hWa.map.keep hCb (by omega), hWa.f15.keep hCb (by omega), hWa.f16.keep hCb (by omega), hmb, hWa.f9.keep hCb (by omega), Ch.trans' hWa.ext hCb fun k hk e => by have := hE23.size; omega⟩
    have hob : OwnI wb w8.heap.size 3 (.slice (some ⟨gr, 0, none⟩) 1 1) [0] := ownsRow_mono (ownsRow_keep hoa hCb fun g hg e => by cases hg; change gr = gm at e; omega) (by rw [egr]; exact hsz8)
    repeat' (first|refine za ?_|refine zA ?_|refine zb ?_|refine ze ?_|refine zd ?_|refine zI ?_|refine zh ?_)
    exact ⟨1, ⟨rfl, trivial⟩, ⟨by omega, Nat.le_trans hsz8 (Nat.le_trans hEa.size (Nat.le_of_eq hsb.symm)), _, hWb, fun _ => ⟨gr, rfl, by omega, hob⟩⟩, by omega⟩
  obtain rfl : i = 1 := by omega
  obtain ⟨gr, rfl, hgr, hor⟩ := hu rfl
  repeat' (first|refine za ?_|refine zb ?_|refine zc ?_|refine ze ?_|refine zd ?_|refine zC ?_|refine zY ?_|refine zm ?_|refine zg ?_|refine zj ?_)
  refine r_mkfn (as_ := []) (bs := [.tmp 15, .tmp 16, .tmp 9]) ?_
  have gs1 : rd wz (some ⟨b5, 0 + 1, none⟩) = some (.slice q 1 c) := (hb52.ext hW.ext).rd rfl
  repeat' (first|refine za ?_|refine zB ?_|refine zb ?_|refine zc ?_|refine ze ?_|refine zd ?_)
  refine r_fa fo117_1 rfl ?_
  repeat' (first|refine za ?_|refine zA ?_|refine zb ?_|refine ze ?_|refine zK ?_|refine zM ?_|refine zl ?_)
  refine wc_loop [1, 2, 3, 5, 9, 11, 12, 13, 15, 16, 18, 25, 26, 72, 73] (fun (i : Nat) => [(74, .int .i64 i)]) (fun i wy => i ≤ 1 ∧ SpW w2 bm b15 gm b16 b9 p (.slice (some ⟨gr, 0, none⟩) 1 1) wy ∧ OwnI wy w8.heap.size 3 (.slice (some ⟨gr, 0, none⟩) 1 1) [(i : Int)]) (fun i => 1 - i) 0 rfl ⟨rfl, trivial⟩ ⟨by omega, hW, hor⟩ ?_
  rintro i wy y3 ⟨hi', hWy, hoy⟩
  by_cases hi2 : i < 1
  · obtain rfl : i = 0 := by omega
    have hTy := h.ext (hE02.trans hWy.ext)
    obtain ⟨s0, s1, s2⟩ := hTy.rd (i := 0) (by simp)
    have hqs := h.isSome (by simp)
    change rd wy ((pidx q 0 3).map fun a => a.add 0) = some (.int .i64 0) at s0
    change rd wy ((pidx q 0 3).map fun a => a.add 1) = some (.int .i64 1) at s1
    change rd wy ((pidx q 0 3).map fun a => a.add 2) = some (.int .i64 5) at s2
    repeat' (first|refine za ?_|refine zb ?_|refine zc ?_|refine ze ?_|refine zd ?_|refine zC ?_|refine zX ?_|refine zk ?_|refine zl ?_)
    refine r_idx sz58 rfl rfl hqs (by omega) (by omega) ?_
    repeat' (refine za ?_)
    refine r_ld3Q ag60 rfl s0 s1 s2 ?_
    repeat' (refine za ?_)
    refine r_allocN z60 fun wa hb20 hEa hsa => ?_
    obtain ⟨b20, eb20⟩ : ∃ b, b = wy.heap.size := ⟨_, rfl⟩
    rw [← eb20] at hb20 ⊢
    repeat' (refine za ?_)
    refine r_stN (ws := [.int .i64 0, .int .i64 1, .int .i64 5]) ag60 (by decide) hb20 rfl rfl rfl rfl (by intro q hq; simp at hq; rcases hq with rfl | rfl | rfl <;> rfl) fun wb h20 hCb hsb => ?_
    have hEb : Ext wy wb := Ch.trans' hEa hCb fun k hk e => by omega
    have hWb := hWy.step hEb
    have hob : OwnI wb w8.heap.size 3 (.slice (some ⟨gr, 0, none⟩) 1 1) [0] := ownsRow_ext hoy hEb
    have k0 : rd wb (some ⟨b20, 0 + 0, none⟩) = some (.int .i64 0) := h20.rd rfl
    have k1 : rd wb (some ⟨b20, 0 + 1, none⟩) = some (.int .i64 1) := h20.rd rfl
    have k2 : rd wb (some ⟨b20, 0 + 2, none⟩) = some (.int .i64 5) := h20.rd rfl
    have hBb : PrB wb bB B0 := Blk.ext hB (hE02.trans hWb.ext)
    have h1 := of140 bB 0 B0 wb hBb par16 (by omega)
    have h2 := of140 bB 1 B0 wb hBb par16 (by omega)
    rw [of00] at h1
    rw [of01] at h2
    repeat' (first|refine za ?_|refine zA ?_|refine zb ?_|refine zc ?_|refine ze ?_|refine zd ?_)
    refine r_fa fo60_0 rfl ?_
    repeat' (first|refine za ?_|refine zM ?_)
    (refine r_call_q (v := ?_) rfl ?_ ?_; rotate_left 1; focus exact h1)
    repeat' (refine za ?_)
    refine r_lookup_some (k := (0 : Int)) (v := .int .i64 0) mp207 ki3 hWb.map rfl rfl rfl ?_
    repeat' (first|refine za ?_|refine zA ?_|refine zB ?_|refine zb ?_|refine zc ?_|refine ze ?_|refine zd ?_|refine zS ?_)
    refine r_fa fo60_1 rfl ?_
    repeat' (first|refine za ?_|refine zM ?_)
    (refine r_call_q (v := ?_) rfl ?_ ?_; rotate_left 1; focus exact h2)
    repeat' (refine za ?_)
    refine r_lookup (k := (1 : Int)) (v := .int .i64 1) mp207 ki3 hWb.map rfl rfl rfl ?_
    repeat' (first|refine za ?_|refine zA ?_|refine zB ?_|refine zb ?_|refine zc ?_|refine ze ?_|refine zd ?_|refine zU ?_)
    refine r_fa fo60_2 rfl ?_
    repeat' (first|refine za ?_|refine zA ?_|refine zb ?_|refine zc ?_|refine ze ?_|refine zd ?_|refine zG ?_|refine zH ?_|refine zM ?_|refine zQ ?_|refine zU ?_|refine zX ?_)
    refine r_callV (cap := [.pointer (some ⟨b15, 0, none⟩), .pointer (some ⟨b16, 0, none⟩), .pointer (some ⟨b9, 0, none⟩)]) rfl rfl (add_hit b15 b16 b9 p 1 1 w8.heap.size (some ⟨gm, 0, none⟩) (some ⟨gr, 0, none⟩) wb hp hWb.f15 hWb.f16 hWb.f9 (Sl.rd1 hWb.m.sl 0 rfl) rfl hob) ?_
    rintro _ wd ⟨hod, hCd⟩
    have hWd := hWb.keep hCd (fun k hk => by cases hk; exact hgr) hord (by have := hE23.size; omega)
    repeat' (first|refine za ?_|refine zA ?_|refine zb ?_|refine zc ?_|refine ze ?_|refine zd ?_)
    refine r_callV (cap := [.pointer (some ⟨b15, 0, none⟩), .pointer (some ⟨b16, 0, none⟩), .pointer (some ⟨b9, 0, none⟩)]) rfl rfl (add_miss 1 1 1 b15 b16 b9 wd (.inl (Nat.le_refl _)) hWd.f15) ?_
    rintro _ wd rfl
    repeat' (first|refine za ?_|refine zA ?_|refine zb ?_|refine zc ?_|refine ze ?_|refine zd ?_)
    refine r_callV (cap := [.pointer (some ⟨b15, 0, none⟩), .pointer (some ⟨b16, 0, none⟩), .pointer (some ⟨b9, 0, none⟩)]) rfl rfl (add_miss 0 1 (-1) b15 b16 b9 wd (.inr (Nat.le_refl _)) hWd.f15) ?_
    rintro _ wd rfl
    repeat' (first|refine za ?_|refine zA ?_|refine zb ?_|refine ze ?_|refine zd ?_)
    refine r_callV (cap := [.pointer (some ⟨b15, 0, none⟩), .pointer (some ⟨b16, 0, none⟩), .pointer (some ⟨b9, 0, none⟩)]) rfl rfl (add_miss 1 0 (-1) b15 b16 b9 wd (.inl (Nat.le_refl _)) hWd.f15) ?_
    rintro _ wd rfl
    repeat' (first|refine za ?_|refine zA ?_|refine zb ?_|refine ze ?_|refine zd ?_|refine zI ?_|refine zh ?_)
    exact ⟨1, ⟨rfl, trivial⟩, ⟨by omega, hWd, hod⟩, by omega⟩
  obtain rfl : i = 1 := by omega
  have hWd := hWy.step (Ext.drew wy)
  have hod : OwnI wy.drew w8.heap.size 3 (.slice (some ⟨gr, 0, none⟩) 1 1) [1] := ownsRow_ext hoy (Ext.drew wy)
  have hd := det1 (some ⟨gm, 0, none⟩) (some ⟨gr, 0, none⟩) 1 1 p wy.drew hp (Sl.rd1 hWd.m.sl 0 rfl) (Ints.rd (i := 0) hod.ints (by simp)) rfl rfl
  have g16' := hWd.f16.rd
  have g9' := hWd.f9.rd
  repeat' (first|refine za ?_|refine zb ?_|refine zc ?_|refine ze ?_|refine zd ?_|refine zC ?_|refine zY ?_|refine zm ?_|refine zg ?_|refine zj ?_)
  (refine wc_drawn 6 (by kernel_rfl) (by kernel_rfl) ?_; simp only [List.take_succ_cons, List.take_zero, List.drop_succ_cons, List.drop_zero])
  repeat' (first|refine za ?_|refine zA ?_|refine zM ?_)
  (refine r_call_q (v := ?_) rfl ?_ ?_; rotate_left 1; focus exact hd)
  repeat' (refine za ?_)
  refine r_mul_n (a := 1) (b := 1) rfl rfl (by decide) rfl ?_
  repeat' (first|refine za ?_|refine zb ?_|refine zM ?_)
  refine r_rem_n (a := 1) (c := 1) rfl rfl (by omega) (Nat.mod_eq_of_lt (by omega)) ?_
  repeat' (first|refine za ?_|refine zA ?_|refine zB ?_|refine zb ?_|refine ze ?_|refine zd ?_|refine zI ?_|refine zh ?_)
  exact ⟨1, ⟨rfl, rfl, trivial⟩, ⟨by omega, hWd.ext⟩, by omega⟩
end Go.Proofs.YtocgehoffdjijaaGreat
/- top: streets: Count, where there are two vertices and one street. -/
namespace Go.Proofs.YtocgehoffdjijaaGreat
open Gv
set_option maxRecDepth 20000
abbrev S0 : List N3 := [(0, 1, 5)]
theorem net0 : NetOk 2 S0 := ⟨by decide, by decide, by decide, fun k hk => by
  have : k = 0 := by simpa using hk
  subst this
  exact ⟨by decide, by decide, by decide, by decide⟩⟩
theorem ord0 : ∀ i, i < [0].length → [0].getD i 0 < S0.length := fun i hi => by
  have : i = 0 := by simpa using hi
  subst this; decide
theorem jst0 : jst S0 [0] 1 = (U1, 1) := by
  show (joU B0 0 1, if ofU B0 0 = ofU B0 1 then 0 else 0 + 1) = (U1, 1)
  rw [of00, of01]; rfl
set_option maxHeartbeats 4000000 in
theorem smallest_one (q : Option Addr) (c p : Nat) (w : World) (h : Trip w (.slice q 1 c) S0) (hp : 2 ≤ p ∧ p < 2147483648) :
    Calls Tryz.prog 61 #[.agg (netV 2 q 1 c).toArray, .int .i64 (p : Int)] w (Ret fun v w' => v = .int .i64 1 ∧ Ext w w') := by
  refine calls_of_wc (args := [.agg (netV 2 q 1 c).toArray, .int .i64 (p : Int)]) Tryz.func61 rfl ?_ ?_; kernel_rfl
  repeat' (first|refine za ?_|refine zc ?_|refine zd ?_)
  refine r_boxN (cells := netV 2 q 1 c) rfl fun w1 hb2 hE1 hs1 => ?_
  obtain ⟨b2, eb2⟩ : ∃ b, b = w.heap.size := ⟨_, rfl⟩
  rw [← eb2] at hb2 ⊢
  repeat' (first|refine za ?_|refine zB ?_|refine zb ?_|refine zc ?_|refine ze ?_|refine zd ?_)
  (refine r_call (R := ?_) rfl ?_ ?_; rotate_left 1; focus exact apart_any _)
  rintro _ w2 ⟨rfl, hB2, hE2⟩
  obtain ⟨bB, ebB⟩ : ∃ b, b = w1.heap.size := ⟨_, rfl⟩
  rw [← ebB] at hB2 ⊢
  repeat' (first|refine za ?_|refine zB ?_|refine zb ?_|refine zc ?_|refine ze ?_|refine zd ?_)
  refine r_ldN (vs := netV 2 q 1 c) ag117 (by decide) (hb2.ext hE2) rfl rfl ?_
  repeat' (refine za ?_)
  (refine r_call (R := ?_) rfl ?_ ?_; rotate_left 1; focus exact ordered1 S0 rfl 2 q c w2 (h.ext (hE1.trans hE2)))
  rintro vo w3 ⟨hvo, hE3⟩
  obtain ⟨qo, co, rfl, hqo⟩ := hvo.ints.slice
  have hio : Ints w3 (.slice qo 1 co) [0] := hvo.ints
  have hE03 := (hE1.trans hE2).trans hE3
  have e1 : (ni [0]).length = 1 := rfl
  rw [e1]
  repeat' (first|refine za ?_|refine zA ?_|refine zB ?_|refine zb ?_|refine zc ?_|refine ze ?_|refine zd ?_|refine zK ?_|refine zl ?_)
  refine wc_loop2 [1, 2, 7, 16, 17] (fun (i : Nat) (v : Value) => [(5, .int .i64 1), (6, v), (18, .int .i64 i)]) (fun i v wk => i ≤ 1 ∧ Ext w3 wk ∧ (i = 0 → v = .pointer (some ⟨bB, 0, none⟩))) (fun i _ => 1 - i) 0 (.pointer (some ⟨bB, 0, none⟩)) rfl ⟨rfl, rfl, rfl, trivial⟩ ⟨by omega, Ext.refl _, fun _ => rfl⟩ ?_
  rintro i v wk x ⟨hi, hEk, hv⟩
  by_cases hin : i < 1
  rotate_left 1
  · obtain rfl : i = 1 := by omega
    repeat' (first|refine za ?_|refine zA ?_|refine zB ?_|refine zb ?_|refine zc ?_|refine ze ?_|refine zd ?_|refine zC ?_|refine zY ?_|refine zm ?_|refine zn ?_|refine zg ?_|refine zj ?_)
    refine post1 (v := .int .i64 1) rfl rfl ?_
    exact ⟨rfl, hE03.trans hEk⟩
  obtain rfl : i = 0 := by omega
  obtain rfl := hv rfl
  have hb2k := hb2.ext ((hE2.trans hE3).trans hEk)
  have gq : rd wk (some ⟨b2, 0 + 1, none⟩) = some (.slice q 1 c) := hb2k.rd rfl
  have hps := hio.isSome (by simp)
  have hrd := (hio.ext hEk).rd (i := 0) (by simp)
  change rd wk (pidx qo 0 1) = some (.int .i64 0) at hrd
  obtain ⟨_, _, s2⟩ := (h.ext (hE03.trans hEk)).rd (i := 0) (by simp)
  change rd wk ((pidx q 0 3).map fun a => a.add 2) = some (.int .i64 5) at s2
  have hqs := h.isSome (by simp)
  repeat' (first|refine za ?_|refine zA ?_|refine zB ?_|refine zb ?_|refine zc ?_|refine ze ?_|refine zd ?_|refine zC ?_|refine zL ?_|refine zM ?_|refine zX ?_|refine zk ?_|refine zl ?_)
  refine r_fa fo117_1 rfl ?_
  repeat' (first|refine za ?_|refine zA ?_|refine zM ?_)
  refine r_idx sz58 rfl rfl hqs (by omega) (by omega) ?_
  repeat' (refine za ?_)
  refine r_faQ fo60_2 rfl (pidx_isSome hqs) ?_
  repeat' (first|refine za ?_|refine zB ?_|refine zb ?_|refine zc ?_|refine ze ?_|refine zM ?_)
  (refine wc_drawn 17 (by kernel_rfl) (by kernel_rfl) ?_; simp only [List.take_succ_cons, List.take_zero, List.drop_succ_cons, List.drop_zero])
  repeat' (first|refine za ?_|refine zA ?_|refine zb ?_|refine zc ?_|refine ze ?_|refine zC ?_|refine zI ?_|refine zK ?_|refine zR ?_|refine zV ?_|refine zY ?_|refine zk ?_)
  refine wc_heldB (fun w' => Ext wk.drew.drew w') (.take 0 (.take 1 (.take 2 (.take 3 (.one 4 (.one 5 (.take 6 (.take 7 (.take 8 (.one 9 (.one 10 .done))))))))))) (by kernel_rfl) (by kernel_rfl) (Ext.refl _) ?_
  have hEdd : Ext wk wk.drew.drew := (Ext.drew wk).trans (Ext.drew wk.drew)
  have hb2d := hb2k.ext hEdd
  refine whB_take rfl rfl (fun w' hw' => rv_of rfl (fun _ h => r_ldN (vs := netV 2 q 1 c) ag117 (by decide) (hb2d.ext hw') rfl rfl h) fun _ _ h => val_of h) ?_
  repeat' (first|refine whB_take (v := .int _ _) rfl rfl (fun w' hw' => rv_move_v rfl) ?_|refine whB_take (v := .slice _ _ _) rfl rfl (fun w' hw' => rv_move_v rfl) ?_)
  refine whB_take rfl rfl (fun w' hw' => rv_of rfl (fun _ h => r_add_in rfl rfl (by omega) h) fun _ _ h => val_of h) ?_
  refine whB_one rfl rfl ?_
  refine r_slice_i (A := [0]) (l := 0) (h' := 1) sz27 (hio.ext (hEk.trans hEdd)) rfl rfl ⟨.i64, rfl⟩ (by decide) (by decide) fun q' c' hq' hqc' _ => ?_
  refine ⟨Ext.refl _, whB_one rfl rfl ?_⟩
  (refine r_call (R := ?_) rfl ?_ ?_; rotate_left 1; focus exact joined_any 2 q q' c c' S0 [0] wk.drew.drew (h.ext ((hE03.trans hEk).trans hEdd)) net0 hq' ord0 (by decide))
  rintro _ w5 ⟨bA, rfl, hbA, hA5, hE5⟩
  have e0 : jst S0 [0] [0].length = (U1, 1) := jst0
  rw [e0] at hA5 ⊢
  refine ⟨hE5, ?_⟩
  refine whB_take (v := .tuple #[.pointer (some ⟨bA, 0, none⟩), .int .i64 ((1 : Nat) : Int)]) rfl rfl (fun w' hw' => rv_move_v rfl) ?_
  refine whB_take rfl rfl (fun w' hw' => rv_of rfl (fun _ h => r_ext (v := .pointer (some ⟨bA, 0, none⟩)) rfl rfl h) fun _ _ h => val_of h) ?_
  refine whB_take rfl rfl (fun w' hw' => rv_of rfl (fun _ h => r_ext (v := .int .i64 ((1 : Nat) : Int)) rfl rfl h) fun _ _ h => val_of h) ?_
  refine whB_one rfl rfl ?_
  refine r_assign_v (v := .pointer (some ⟨bA, 0, none⟩)) rfl ?_
  refine ⟨hE5, whB_one rfl rfl ?_⟩
  refine r_assign_v (v := .int .i64 ((1 : Nat) : Int)) rfl ?_
  refine ⟨hE5, whB_done ?_⟩
  have hE5k := hEdd.trans hE5
  repeat' (first|refine za ?_|refine zA ?_|refine zc ?_|refine ze ?_|refine zd ?_)
  refine r_ldN (vs := netV 2 q 1 c) ag117 (by decide) (hb2k.ext hE5k) rfl rfl ?_
  repeat' (first|refine za ?_|refine zA ?_)
  (refine r_call (R := ?_) rfl ?_ ?_; rotate_left 1; focus exact spanning_one q c bB bA p w5 (h.ext ((hE03.trans hEk).trans hE5k)) (Blk.ext hB2 ((hE3.trans hEk).trans hE5k)) hA5 hp)
  rintro _ w6 ⟨rfl, hE6⟩
  repeat' (refine za ?_)
  refine r_mul_n (a := 1) (b := 1) rfl rfl (by decide) rfl ?_
  repeat' (first|refine za ?_|refine zA ?_)
  refine r_rem_n (a := 1) (c := 1) rfl rfl (by omega) (Nat.mod_eq_of_lt (by omega)) ?_
  repeat' (first|refine za ?_|refine zA ?_|refine zB ?_|refine zb ?_|refine ze ?_|refine zd ?_|refine zI ?_|refine zh ?_)
  exact ⟨1, _, ⟨rfl, rfl, rfl, trivial⟩, ⟨by omega, (hEk.trans hE5k).trans hE6, fun h => by omega⟩, by omega⟩
theorem z117' : (Tryz.prog.info? 117).bind (·.zero) = some (.agg [.int .i64 0, .slice none 0 0].toArray) := z117
set_option maxHeartbeats 4000000 in
theorem Count_one (q : Option Addr) (c : Nat) (w : World) (h : Trip w (.slice q 1 c) S0) :
    Calls Tryz.prog 26 #[.int .i64 2, .slice q 1 c] w (Ret fun v w' => v = .tuple #[.int .i64 1, .int .i64 0] ∧ Ext w w') := by
  refine calls_of_wc (args := [.int .i64 2, .slice q 1 c]) Tryz.func26 rfl ?_ ?_; kernel_rfl
  repeat' (first|refine za ?_|refine zA ?_|refine zB ?_|refine zb ?_|refine zc ?_|refine ze ?_|refine zd ?_)
  (refine r_call (R := ?_) rfl ?_ ?_; rotate_left 1; focus exact newNet_any 2 q c S0 w h net0)
  rintro _ w1 ⟨rfl, hE1⟩
  repeat' (first|refine za ?_|refine zA ?_|refine zS ?_)
  refine r_allocN z117 fun w2 hb2 hE2 hs2 => ?_
  obtain ⟨b6, eb6⟩ : ∃ b, b = w1.heap.size := ⟨_, rfl⟩
  rw [← eb6] at hb2 ⊢
  repeat' (refine za ?_)
  refine r_stN (ws := netV 2 q 1 c) ag117 (by decide) hb2 rfl rfl rfl rfl (by intro q hq; simp at hq; rcases hq with rfl | rfl <;> rfl) fun w3 hb3 hC3 hs3 => ?_
  have hE3 : Ext w1 w3 := Ch.trans' hE2 hC3 fun k hk e => by omega
  have hE03 := hE1.trans hE3
  repeat' (first|refine za ?_|refine zA ?_|refine zB ?_|refine zb ?_|refine zc ?_|refine ze ?_|refine zd ?_|refine zO ?_|refine zY ?_|refine zk ?_)
  refine r_ldN (vs := netV 2 q 1 c) ag117 (by decide) hb3 rfl rfl ?_
  repeat' (refine za ?_)
  (refine r_call (R := ?_) rfl ?_ ?_; rotate_left 1; focus exact tree60 2 q c S0 [0] w3 (h.ext hE03) net0 (ordered1 S0 rfl) ord0 (by decide))
  rintro _ w4 ⟨vt, rfl, hvt, hE4⟩
  have e0 : jst S0 [0] [0].length = (U1, 1) := jst0
  rw [e0]
  obtain ⟨qt, ct, rfl, _⟩ := hvt.ints.slice
  repeat' (first|refine za ?_|refine zA ?_|refine zB ?_|refine zb ?_|refine zc ?_|refine ze ?_|refine zd ?_|refine zN ?_|refine zS ?_|refine zY ?_|refine zk ?_)
  have hb4 := hb3.ext hE4
  refine wc_heldB (fun w' => Ext w4.drew w') (.take 0 (.take 2 (.one 1 (.one 3 (.one 4 (.one 5 .done)))))) (by kernel_rfl) (by kernel_rfl) (Ext.refl _) ?_
  have hb4d := hb4.ext (Ext.drew w4)
  refine whB_take rfl rfl (fun w' hw' => rv_of rfl (fun _ h => r_ldN (vs := netV 2 q 1 c) ag117 (by decide) (hb4d.ext hw') rfl rfl h) fun _ _ h => val_of h) ?_
  refine whB_take rfl rfl (fun w' hw' => rv_of rfl (fun _ h => r_ldN (vs := netV 2 q 1 c) ag117 (by decide) (hb4d.ext hw') rfl rfl h) fun _ _ h => val_of h) ?_
  refine whB_one rfl rfl ?_
  have hE4d := (hE03.trans hE4).trans (Ext.drew w4)
  (refine r_call (R := ?_) rfl ?_ ?_; rotate_left 1; focus exact smallest_one q c 2147483647 w4.drew (h.ext hE4d) (by decide))
  rintro _ w5 ⟨rfl, hE5⟩
  refine ⟨hE5, whB_one rfl rfl ?_⟩
  (refine r_call (R := ?_) rfl ?_ ?_; rotate_left 1; focus exact smallest_one q c 2147483629 w5 (h.ext (hE4d.trans hE5)) (by decide))
  rintro _ w6 ⟨rfl, hE6⟩
  refine ⟨hE5.trans hE6, whB_one rfl rfl ?_⟩
  refine r_assign_v (v := .int .i64 1) rfl ?_
  refine ⟨hE5.trans hE6, whB_one rfl rfl ?_⟩
  refine r_assign_v (v := .int .i64 1) rfl ?_
  refine ⟨hE5.trans hE6, whB_done ?_⟩
  repeat' (first|refine za ?_|refine zA ?_|refine zc ?_|refine ze ?_|refine zd ?_)
  refine r_rem_n (a := 1) (b := 2147483629) (c := 1) rfl rfl (by decide) (by decide) ?_
  repeat' (first|refine za ?_|refine zI ?_|refine zJ ?_)
  refine r_rem_v (c := 0) rfl rfl (by omega) (by decide) (by decide) ?_
  repeat' (refine za ?_)
  (refine r_call (R := ?_) rfl ?_ ?_; rotate_left 1; focus exact power_int 18 2147483629 2147483627 _ (by decide) (by decide) (by decide))
  rintro _ w7 ⟨⟨r, rfl, hr⟩, rfl⟩
  repeat' (refine za ?_)
  refine r_mul_n (a := 0) (b := r) (c := 0) rfl rfl (by omega) (Nat.zero_mul r) ?_
  repeat' (refine za ?_)
  refine r_rem_n (a := 0) (b := 2147483629) (c := 0) rfl rfl (by decide) (by decide) ?_
  repeat' (first|refine za ?_|refine zA ?_|refine zB ?_|refine zb ?_|refine zc ?_|refine ze ?_|refine zd ?_)
  refine r_mul_n (a := 2147483647) (b := 0) (c := 0) rfl rfl (by decide) (by decide) ?_
  repeat' (first|refine za ?_|refine zB ?_|refine zb ?_|refine ze ?_|refine zI ?_|refine zn ?_)
  refine post2 (v1 := .int .i64 1) (v2 := .int .i64 0) rfl rfl rfl ?_
  exact ⟨rfl, (hE4d.trans hE5).trans hE6⟩
end Go.Proofs.YtocgehoffdjijaaGreat

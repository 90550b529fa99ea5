/- TopSpanning, walked. -/
import Derived.Test.YtocgehoffdjijaaGreatTSP
import Derived.Test.YtocgehoffdjijaaGreatT1
import Derived.Test.YtocgehoffdjijaaGreatLiftT
namespace Go.Proofs.YtocgehoffdjijaaGreat
open Gv
set_option maxRecDepth 20000
theorem sz75 : sliceSz Tryz.prog 75 = some 3 := by kernel_rfl
theorem ar41 : arrSz0 Tryz.prog 41 = some (3, 1) := by kernel_rfl
theorem ar77 : arrSz Tryz.prog 77 = some (256, 1) := by kernel_rfl
theorem z77 : (Tryz.prog.info? 77).bind (·.zero) = some (.agg (List.replicate 256 (Value.bool false)).toArray) := by kernel_rfl
theorem cc4 : Tryz.prog.cellsOf 4 = 1 := by kernel_rfl
theorem r_sub_w {P : Program} {st : Bool} {K : Env → World → Prop} {ρ : Env} {w : World} {d : Nat} {ty t t2 : TypeId} {pos : String} {aft : Array Edge} {gd : Option (Nat × Bool)} {x y : Operand} {a b : Int} (c : Int) (hx : ev ρ x = .int .i64 a) (hy : ev ρ y = .int .i64 b) (hb : -9223372036854775808 ≤ c ∧ c ≤ 9223372036854775807) (hc : a - b = c) (h : K (up ρ d (.int .i64 c)) w) :
    w1 P st ⟨some d, .binOp .sub t x y t2, ty, pos, aft, gd⟩ K ρ w := r_sub_v hx hy (by rw [hc]; exact wrap_in hb.1 hb.2) h
theorem r_add_w {P : Program} {st : Bool} {K : Env → World → Prop} {ρ : Env} {w : World} {d : Nat} {ty t t2 : TypeId} {pos : String} {aft : Array Edge} {gd : Option (Nat × Bool)} {x y : Operand} {a b : Int} (c : Int) (hx : ev ρ x = .int .i64 a) (hy : ev ρ y = .int .i64 b) (hb : -9223372036854775808 ≤ c ∧ c ≤ 9223372036854775807) (hc : a + b = c) (h : K (up ρ d (.int .i64 c)) w) :
    w1 P st ⟨some d, .binOp .add t x y t2, ty, pos, aft, gd⟩ K ρ w := r_add_in hx hy (by rw [hc]; exact hb) (by rw [hc]; exact h)
/-- An owned list of streets. -/
def OwnS (w : World) (base : Nat) (v : Value) (S : List N3) : Prop := w.ownsRow base 60 3 v S.length (trc S)
theorem OwnS.trip {w : World} {base : Nat} {v : Value} {S : List N3} (h : OwnS w base v S) : Trip w v S := ownsRow_sl h
theorem OwnS.nil (w : World) (base : Nat) : OwnS w base (.slice none 0 0) [] := World.ownsRow_nil _ _ _ _
theorem mod9_is (x n r : Int) (w : World) (h : 0 < n ∧ n ≤ 9223372036854775807) (hr : IntKind.u64.wrap x % n = r) : Calls Tryz.prog 9 #[.int .i64 x, .int .i64 n] w (Ret fun v w' => v = .int .i64 r ∧ w' = w) := by
  subst hr; exact mod9 x n w h
set_option maxHeartbeats 16000000 in
theorem TopSpanning_true (n0 : Int) (pa : Option Addr) (la ca : Nat) (w : World) (hT : Tri w pa la ca) :
    Calls Tryz.prog 8 #[.int .i64 n0, .slice pa la ca] w (Ret fun v w' => v = .bool true ∧ Ext w w') := by
  refine calls_of_wc (args := [.int .i64 n0, .slice pa la ca]) Tryz.func8 rfl ?_ ?_; kernel_rfl
  have hb := mod9_bnd n0 (n := 11) (by decide)
  obtain ⟨m, hm⟩ : ∃ m : Nat, (IntKind.u64.wrap n0) % 11 = m := ⟨_, (Int.toNat_of_nonneg hb.1).symm⟩
  rw [hm] at hb
  repeat' (first|refine za ?_|refine zA ?_|refine zB ?_|refine zb ?_|refine zc ?_|refine ze ?_|refine zd ?_|refine zC ?_|refine zD ?_|refine zE ?_|refine zF ?_|refine zG ?_|refine zH ?_|refine zI ?_|refine zJ ?_|refine zK ?_|refine zL ?_|refine zM ?_|refine zN ?_|refine zO ?_|refine zP ?_|refine zQ ?_|refine zR ?_|refine zS ?_|refine zU ?_|refine zV ?_|refine zW ?_|refine zt (fun hcd => ?_) (fun hcd => ?_)|refine zu (fun hcd => ?_) (fun hcd => ?_)|refine zX ?_|refine zY ?_|refine zv (fun hcd => ?_) (fun hcd => ?_)|refine zk ?_|refine zl ?_|refine zm ?_|refine zn ?_|refine zf ?_|refine zg ?_|refine zj ?_|refine zZ ?_|refine zh ?_|refine zi ?_|refine zo ?_|refine zp ?_|refine zq ?_|refine zr ?_|refine zs ?_)
  (refine r_call_q (v := ?_) rfl ?_ ?_; rotate_left 1; focus exact mod9_is n0 11 m w (by decide) hm)
  obtain ⟨n, hn⟩ : ∃ n, n = m + 2 := ⟨_, rfl⟩
  have hn2 : 2 ≤ n ∧ n ≤ 12 := by omega
  repeat' (refine za ?_)
  refine r_add_w (n : Int) rfl rfl (by omega) (by omega) ?_
  repeat' (first|refine za ?_|refine zA ?_|refine zB ?_|refine zb ?_|refine ze ?_|refine zd ?_)
  refine zc ?_
  repeat' (first|refine za ?_|refine zA ?_|refine zB ?_|refine zb ?_|refine ze ?_|refine zd ?_)
  refine wc_join (σ := List N3 × Value) [0, 4] (fun s => [(5, s.2)]) (fun s wk => s.1.length ≤ 20 ∧ Chn n s.1 1 ∧ OwnS wk w.heap.size s.2 s.1 ∧ Ext w wk) rfl ?_ ?_
  · repeat' (first|refine za ?_|refine zA ?_|refine zB ?_|refine zb ?_|refine zc ?_|refine ze ?_|refine zd ?_|refine zC ?_|refine zD ?_|refine zE ?_|refine zF ?_|refine zG ?_|refine zH ?_|refine zI ?_|refine zJ ?_|refine zK ?_|refine zL ?_|refine zM ?_|refine zN ?_|refine zO ?_|refine zP ?_|refine zQ ?_|refine zR ?_|refine zS ?_|refine zU ?_|refine zV ?_|refine zW ?_|refine zt (fun hcd => ?_) (fun hcd => ?_)|refine zu (fun hcd => ?_) (fun hcd => ?_)|refine zX ?_|refine zY ?_|refine zv (fun hcd => ?_) (fun hcd => ?_)|refine zk ?_|refine zl ?_|refine zm ?_|refine zn ?_|refine zf ?_|refine zg ?_|refine zj ?_|refine zZ ?_|refine zh ?_|refine zi ?_|refine zo ?_|refine zp ?_|refine zq ?_|refine zr ?_|refine zs ?_)
    refine wc_loop3 [0, 1, 4] (fun (i : Nat) (_ : List N3) (u : Value) => [(5, u), (6, .int .i64 i)]) (fun i S u wk => i ≤ la ∧ i ≤ 20 ∧ S.length ≤ i ∧ Chn n S 1 ∧ OwnS wk w.heap.size u S ∧ Ext w wk) (fun i _ _ => la - i) 0 [] (.slice none 0 0) rfl ⟨rfl, rfl, trivial⟩
      ⟨by omega, by omega, Nat.le_refl _, ⟨fun k hk => (by simp at hk), fun u h1 h2 => (by omega)⟩, OwnS.nil _ _, Ext.refl _⟩ ?_
    rintro i S u wk x ⟨hi, hi20, hSl, hC, hU, hE⟩
    have hcont : i < la ∧ i < 20 ∨ ¬ (i < la ∧ i < 20) := Decidable.em _
    rcases hcont with ⟨hin, h20⟩ | hend
    · obtain ⟨qu, cu, rfl, _⟩ := hU.trip.slice
      have hEd := hE.trans (Ext.drew wk)
      obtain ⟨x0, y0, z0, e0, e1, e2⟩ := (hT.ext hEd).rd hin
      have hps := hT.isSome (by omega)
      have hps2 := pidx_isSome (i := i) (sz := 3) hps
      have hba := mod9_bnd x0 (n := (n : Int)) (by omega)
      obtain ⟨a, ha⟩ : ∃ a : Nat, IntKind.u64.wrap x0 % (n : Int) = a := ⟨_, (Int.toNat_of_nonneg hba.1).symm⟩
      rw [ha] at hba
      have hbb := mod9_bnd y0 (n := (n : Int)) (by omega)
      obtain ⟨b, hb2⟩ : ∃ b : Nat, IntKind.u64.wrap y0 % (n : Int) = b := ⟨_, (Int.toNat_of_nonneg hbb.1).symm⟩
      rw [hb2] at hbb
      have hbc := mod9_bnd z0 (n := 1001) (by decide)
      obtain ⟨c, hc⟩ : ∃ c : Nat, IntKind.u64.wrap z0 % 1001 = c := ⟨_, (Int.toNat_of_nonneg hbc.1).symm⟩
      rw [hc] at hbc
      repeat' (first|refine za ?_|refine zA ?_|refine zB ?_|refine zb ?_|refine zc ?_|refine ze ?_|refine zd ?_|refine zC ?_|refine zD ?_|refine zE ?_|refine zF ?_|refine zG ?_|refine zH ?_|refine zI ?_|refine zJ ?_|refine zK ?_|refine zL ?_|refine zM ?_|refine zN ?_|refine zO ?_|refine zP ?_|refine zQ ?_|refine zR ?_|refine zS ?_|refine zU ?_|refine zV ?_|refine zW ?_|refine zt (fun hcd => ?_) (fun hcd => ?_)|refine zu (fun hcd => ?_) (fun hcd => ?_)|refine zX ?_|refine zY ?_|refine zv (fun hcd => ?_) (fun hcd => ?_)|refine zk ?_|refine zl ?_|refine zm ?_|refine zn ?_|refine zf ?_|refine zg ?_|refine zj ?_|refine zZ ?_|refine zh ?_|refine zi ?_|refine zo ?_|refine zp ?_|refine zq ?_|refine zr ?_|refine zs ?_)
      refine wc_heldB (fun w' => w' = wk.drew) (.take 0 (.take 1 (.take 2 (.take 3 (.take 4 (.take 5 (.take 7 (.take 8 (.take 9 (.take 10 (.take 11 (.take 12 (.one 6 (.one 13 (.one 14 (.one 15 .done)))))))))))))))) (by kernel_rfl) (by kernel_rfl) rfl ?_
      refine whB_take (v := .slice _ _ _) rfl rfl (fun w' hw' => rv_move_v rfl) ?_
      refine whB_take (v := .int _ _) rfl rfl (fun w' hw' => rv_move_v rfl) ?_
      refine whB_take rfl rfl (fun w' hw' => rv_idx sz75 rfl rfl hps (by omega) (by omega)) ?_
      refine whB_take rfl rfl (fun w' hw' => rv_of rfl (fun _ h => r_idxQ ar41 rfl hps2 rfl (by decide) (by decide) h) fun _ _ h => val_of h) ?_
      refine whB_take rfl rfl (fun w' hw' => rv_ld rfl rfl (by rw [hw']; exact e0)) ?_
      refine whB_take (v := .int _ _) rfl rfl (fun w' hw' => rv_move_v rfl) ?_
      refine whB_take (v := .slice _ _ _) rfl rfl (fun w' hw' => rv_move_v rfl) ?_
      refine whB_take (v := .int _ _) rfl rfl (fun w' hw' => rv_move_v rfl) ?_
      refine whB_take rfl rfl (fun w' hw' => rv_idx sz75 rfl rfl hps (by omega) (by omega)) ?_
      refine whB_take rfl rfl (fun w' hw' => rv_of rfl (fun _ h => r_idxQ ar41 rfl hps2 rfl (by decide) (by decide) h) fun _ _ h => val_of h) ?_
      refine whB_take rfl rfl (fun w' hw' => rv_ld rfl rfl (by rw [hw']; exact e1)) ?_
      refine whB_take (v := .int _ _) rfl rfl (fun w' hw' => rv_move_v rfl) ?_
      refine whB_one rfl rfl ?_
      (refine r_call_q (v := ?_) rfl ?_ ?_; rotate_left 1; focus exact mod9_is x0 n a _ (by omega) ha)
      refine ⟨rfl, whB_one rfl rfl ?_⟩
      (refine r_call_q (v := ?_) rfl ?_ ?_; rotate_left 1; focus exact mod9_is y0 n b _ (by omega) hb2)
      refine ⟨rfl, whB_one rfl rfl ?_⟩
      refine r_assign_v (v := .int .i64 (a : Int)) rfl ?_
      refine ⟨rfl, whB_one rfl rfl ?_⟩
      refine r_assign_v (v := .int .i64 (b : Int)) rfl ?_
      refine ⟨rfl, whB_done ?_⟩
      by_cases hab : a = b
      · subst hab
        repeat' (first|refine za ?_|refine zA ?_|refine zB ?_|refine zb ?_|refine zc ?_|refine ze ?_|refine zd ?_|refine zC ?_|refine zD ?_|refine zE ?_|refine zF ?_|refine zG ?_|refine zH ?_|refine zI ?_|refine zJ ?_|refine zK ?_|refine zL ?_|refine zM ?_|refine zN ?_|refine zO ?_|refine zP ?_|refine zQ ?_|refine zR ?_|refine zS ?_|refine zU ?_|refine zV ?_|refine zW ?_|refine zt (fun hcd => ?_) (fun hcd => ?_)|refine zu (fun hcd => ?_) (fun hcd => ?_)|refine zX ?_|refine zY ?_|refine zv (fun hcd => ?_) (fun hcd => ?_)|refine zk ?_|refine zl ?_|refine zm ?_|refine zn ?_|refine zf ?_|refine zg ?_|refine zj ?_|refine zZ ?_|refine zh ?_|refine zi ?_|refine zo ?_|refine zp ?_|refine zq ?_|refine zr ?_|refine zs ?_)
        exact ⟨i + 1, S, _, ⟨rfl, rfl, trivial⟩, ⟨by omega, by omega, by omega, hC, ownsRow_ext hU (Ext.drew wk), hEd⟩, by omega⟩
      repeat' (first|refine za ?_|refine zA ?_|refine zB ?_|refine zb ?_|refine zc ?_|refine ze ?_|refine zd ?_|refine zC ?_|refine zD ?_|refine zE ?_|refine zF ?_|refine zG ?_|refine zH ?_|refine zI ?_|refine zJ ?_|refine zK ?_|refine zL ?_|refine zM ?_|refine zN ?_|refine zO ?_|refine zP ?_|refine zQ ?_|refine zR ?_|refine zS ?_|refine zU ?_|refine zV ?_|refine zW ?_|refine zt (fun hcd => ?_) (fun hcd => ?_)|refine zu (fun hcd => ?_) (fun hcd => ?_)|refine zX ?_|refine zY ?_|refine zv (fun hcd => ?_) (fun hcd => ?_)|refine zk ?_|refine zl ?_|refine zm ?_|refine zn ?_|refine zf ?_|refine zg ?_|refine zj ?_|refine zZ ?_|refine zh ?_|refine zi ?_|refine zo ?_|refine zp ?_|refine zq ?_|refine zr ?_|refine zs ?_)
      refine r_idx sz75 rfl rfl hps (by omega) (by omega) ?_
      repeat' (refine za ?_)
      refine r_idxQ ar41 rfl hps2 rfl (by decide) (by decide) ?_
      repeat' (refine za ?_)
      refine r_ld rfl rfl e2 ?_
      repeat' (refine za ?_)
      (refine r_call_q (v := ?_) rfl ?_ ?_; rotate_left 1; focus exact mod9_is z0 1001 c _ (by decide) hc)
      repeat' (refine za ?_)
      refine r_build (cells := #[.int .i64 (a : Int), .int .i64 (b : Int), .int .i64 (c : Int)]) (bt60 a b c) ?_
      repeat' (refine za ?_)
      refine r_buildS1t (a := a) (b := b) (c := c) eT58 rfl fun w1 h1 hE1 hs1 => ?_
      repeat' (refine za ?_)
      refine r_append (n := S.length) (m := 1) (xs := trc S) (news := [.int .i64 (a : Int), .int .i64 (b : Int), .int .i64 (c : Int)]) (base := w.heap.size) eT58 rfl (by decide) (by decide) (ownsRow_ext hU ((Ext.drew wk).trans hE1)) h1 rfl rfl (by intro q hq; simp at hq; rcases hq with rfl | rfl | rfl <;> rfl) (by omega) (hEd.trans hE1).size ?_
      intro u2 w2 hU2 hg2 _ hgb2
      have hU2' : OwnS w2 w.heap.size u2 (S ++ [(a, b, c)]) := by
        show w2.ownsRow w.heap.size 60 3 u2 (S ++ [(a, b, c)]).length (trc (S ++ [(a, b, c)]))
        rw [trc_append, List.length_append]
        exact hU2
      have hC2 := Ch.grown hg2 (S := fun k => (Value.slice qu S.length cu).ownBlock = some k) fun k e => e
      have hE2 : Ext w w2 := Ch.trans' (hEd.trans hE1) hC2 fun k hk e => by have := (World.ownsRow.lt hU k e).1; omega
      repeat' (first|refine za ?_|refine zA ?_|refine zB ?_|refine zb ?_|refine zc ?_|refine ze ?_|refine zd ?_|refine zC ?_|refine zD ?_|refine zE ?_|refine zF ?_|refine zG ?_|refine zH ?_|refine zI ?_|refine zJ ?_|refine zK ?_|refine zL ?_|refine zM ?_|refine zN ?_|refine zO ?_|refine zP ?_|refine zQ ?_|refine zR ?_|refine zS ?_|refine zU ?_|refine zV ?_|refine zW ?_|refine zt (fun hcd => ?_) (fun hcd => ?_)|refine zu (fun hcd => ?_) (fun hcd => ?_)|refine zX ?_|refine zY ?_|refine zv (fun hcd => ?_) (fun hcd => ?_)|refine zk ?_|refine zl ?_|refine zm ?_|refine zn ?_|refine zf ?_|refine zg ?_|refine zj ?_|refine zZ ?_|refine zh ?_|refine zi ?_|refine zo ?_|refine zp ?_|refine zq ?_|refine zr ?_|refine zs ?_)
      exact ⟨i + 1, S ++ [(a, b, c)], _, ⟨rfl, rfl, trivial⟩, ⟨by omega, by omega, by rw [List.length_append, List.length_singleton]; omega, hC.add ⟨by dsimp only; omega, by dsimp only; omega, hab, by dsimp only; omega⟩, hU2', hE2⟩, by omega⟩
    have hend2 : ¬ i < la ∨ (i < la ∧ ¬ i < 20) := by omega
    rcases hend2 with hin | ⟨hin, h20⟩
    all_goals
      repeat' (first|refine za ?_|refine zA ?_|refine zB ?_|refine zb ?_|refine zc ?_|refine ze ?_|refine zd ?_|refine zC ?_|refine zD ?_|refine zE ?_|refine zF ?_|refine zG ?_|refine zH ?_|refine zI ?_|refine zJ ?_|refine zK ?_|refine zL ?_|refine zM ?_|refine zN ?_|refine zO ?_|refine zP ?_|refine zQ ?_|refine zR ?_|refine zS ?_|refine zU ?_|refine zV ?_|refine zW ?_|refine zt (fun hcd => ?_) (fun hcd => ?_)|refine zu (fun hcd => ?_) (fun hcd => ?_)|refine zX ?_|refine zY ?_|refine zv (fun hcd => ?_) (fun hcd => ?_)|refine zk ?_|refine zl ?_|refine zm ?_|refine zn ?_|refine zf ?_|refine zg ?_|refine zj ?_|refine zZ ?_|refine zh ?_|refine zi ?_|refine zo ?_|refine zp ?_|refine zq ?_|refine zr ?_|refine zs ?_)
      exact ⟨(S, u), ⟨rfl, trivial⟩, by dsimp only; omega, hC, hU, hE⟩
  rintro ⟨S, u⟩ wk x ⟨hSl, hC, hU, hE⟩
  dsimp only at hSl hC hU
  repeat' (first|refine za ?_|refine zA ?_|refine zB ?_|refine zb ?_|refine zc ?_|refine ze ?_|refine zd ?_|refine zC ?_|refine zD ?_|refine zE ?_|refine zF ?_|refine zG ?_|refine zH ?_|refine zI ?_|refine zJ ?_|refine zK ?_|refine zL ?_|refine zM ?_|refine zN ?_|refine zO ?_|refine zP ?_|refine zQ ?_|refine zR ?_|refine zS ?_|refine zU ?_|refine zV ?_|refine zW ?_|refine zt (fun hcd => ?_) (fun hcd => ?_)|refine zu (fun hcd => ?_) (fun hcd => ?_)|refine zX ?_|refine zY ?_|refine zv (fun hcd => ?_) (fun hcd => ?_)|refine zk ?_|refine zl ?_|refine zm ?_|refine zn ?_|refine zf ?_|refine zg ?_|refine zj ?_|refine zZ ?_|refine zh ?_|refine zi ?_|refine zo ?_|refine zp ?_|refine zq ?_|refine zr ?_|refine zs ?_)
  refine wc_loop3 [0, 4] (fun (v : Nat) (_ : List N3) (u : Value) => [(5, u), (9, .int .i64 v)]) (fun v S u wk => 1 ≤ v ∧ v ≤ n ∧ S.length + 1 ≤ 20 + v ∧ Chn n S v ∧ OwnS wk w.heap.size u S ∧ Ext w wk) (fun v _ _ => n - v) 1 S u rfl ⟨rfl, rfl, trivial⟩
    ⟨by omega, by omega, by omega, hC, hU, hE⟩ ?_
  clear hC hU hE hSl
  rintro v S u wk x ⟨hv1, hvn, hSl, hC, hU, hE⟩
  by_cases hvin : v < n
  · obtain ⟨qu, cu, rfl, _⟩ := hU.trip.slice
    repeat' (first|refine za ?_|refine zA ?_|refine zb ?_|refine zc ?_|refine ze ?_|refine zd ?_|refine zC ?_|refine zX ?_|refine zk ?_|refine zl ?_)
    refine r_sub_w (((v - 1 : Nat) : Nat) : Int) rfl rfl (by omega) (by omega) ?_
    repeat' (first|refine za ?_|refine zA ?_|refine zB ?_|refine zb ?_|refine zc ?_|refine ze ?_|refine zd ?_|refine zC ?_|refine zD ?_|refine zE ?_|refine zF ?_|refine zG ?_|refine zH ?_|refine zI ?_|refine zJ ?_|refine zK ?_|refine zL ?_|refine zM ?_|refine zN ?_|refine zO ?_|refine zP ?_|refine zQ ?_|refine zR ?_|refine zS ?_|refine zU ?_|refine zV ?_|refine zW ?_|refine zt (fun hcd => ?_) (fun hcd => ?_)|refine zu (fun hcd => ?_) (fun hcd => ?_)|refine zX ?_|refine zY ?_|refine zv (fun hcd => ?_) (fun hcd => ?_)|refine zk ?_|refine zl ?_|refine zm ?_|refine zn ?_|refine zf ?_|refine zg ?_|refine zj ?_|refine zZ ?_|refine zh ?_|refine zi ?_|refine zo ?_|refine zp ?_|refine zq ?_|refine zr ?_|refine zs ?_)
    refine r_build (cells := #[.int .i64 ((v - 1 : Nat) : Int), .int .i64 (v : Int), .int .i64 500]) (bt60 _ _ _) ?_
    repeat' (refine za ?_)
    refine r_buildS1t (a := v - 1) (b := v) (c := 500) eT58 rfl fun w1 h1 hE1 hs1 => ?_
    repeat' (refine za ?_)
    refine r_append (n := S.length) (m := 1) (xs := trc S) (news := [.int .i64 ((v - 1 : Nat) : Int), .int .i64 (v : Int), .int .i64 ((500 : Nat) : Int)]) (base := w.heap.size) eT58 rfl (by decide) (by decide) (ownsRow_ext hU hE1) h1 rfl rfl (by intro q hq; simp at hq; rcases hq with rfl | rfl | rfl <;> rfl) (by omega) (hE.trans hE1).size ?_
    intro u2 w2 hU2 hg2 _ hgb2
    have hU2' : OwnS w2 w.heap.size u2 (S ++ [(v - 1, v, 500)]) := by
      show w2.ownsRow w.heap.size 60 3 u2 (S ++ [(v - 1, v, 500)]).length (trc (S ++ [(v - 1, v, 500)]))
      rw [trc_append, List.length_append]
      exact hU2
    have hC2 := Ch.grown hg2 (S := fun k => (Value.slice qu S.length cu).ownBlock = some k) fun k e => e
    have hE2 : Ext w w2 := Ch.trans' (hE.trans hE1) hC2 fun k hk e => by have := (World.ownsRow.lt hU k e).1; omega
    repeat' (first|refine za ?_|refine zA ?_|refine zB ?_|refine zb ?_|refine zc ?_|refine ze ?_|refine zd ?_|refine zC ?_|refine zD ?_|refine zE ?_|refine zF ?_|refine zG ?_|refine zH ?_|refine zI ?_|refine zJ ?_|refine zK ?_|refine zL ?_|refine zM ?_|refine zN ?_|refine zO ?_|refine zP ?_|refine zQ ?_|refine zR ?_|refine zS ?_|refine zU ?_|refine zV ?_|refine zW ?_|refine zt (fun hcd => ?_) (fun hcd => ?_)|refine zu (fun hcd => ?_) (fun hcd => ?_)|refine zX ?_|refine zY ?_|refine zv (fun hcd => ?_) (fun hcd => ?_)|refine zk ?_|refine zl ?_|refine zm ?_|refine zn ?_|refine zf ?_|refine zg ?_|refine zj ?_|refine zZ ?_|refine zh ?_|refine zi ?_|refine zo ?_|refine zp ?_|refine zq ?_|refine zr ?_|refine zs ?_)
    exact ⟨v + 1, S ++ [(v - 1, v, 500)], _, ⟨rfl, rfl, trivial⟩, ⟨by omega, by omega, by rw [List.length_append, List.length_singleton]; omega, hC.link ⟨by omega, by omega⟩, hU2', hE2⟩, by omega⟩
  obtain rfl : n = v := by omega
  have hS : NetOk n S := hC.net ⟨by omega, by omega⟩ (by omega)
  have hlk := hC.linked
  obtain ⟨qu, cu, rfl, _⟩ := hU.trip.slice
  have hG1 := aL_isG hS
  have hTrip := hU.trip
  repeat' (first|refine za ?_|refine zA ?_|refine zB ?_|refine zb ?_|refine zc ?_|refine ze ?_|refine zd ?_|refine zC ?_|refine zD ?_|refine zE ?_|refine zF ?_|refine zG ?_|refine zH ?_|refine zI ?_|refine zJ ?_|refine zK ?_|refine zL ?_|refine zM ?_|refine zN ?_|refine zO ?_|refine zP ?_|refine zQ ?_|refine zR ?_|refine zS ?_|refine zU ?_|refine zV ?_|refine zW ?_|refine zt (fun hcd => ?_) (fun hcd => ?_)|refine zu (fun hcd => ?_) (fun hcd => ?_)|refine zX ?_|refine zY ?_|refine zv (fun hcd => ?_) (fun hcd => ?_)|refine zk ?_|refine zl ?_|refine zm ?_|refine zn ?_|refine zf ?_|refine zg ?_|refine zj ?_|refine zZ ?_|refine zh ?_|refine zi ?_|refine zo ?_|refine zp ?_|refine zq ?_|refine zr ?_|refine zs ?_)
  (refine r_call (R := ?_) rfl ?_ ?_; rotate_left 1; focus exact Tree_all n S hn2 hS hlk qu cu wk hTrip)
  rintro _ w2 ⟨T, vt, rfl, hvt, hperm, hE2⟩
  have hTN := tree_of hn2 hS hlk hperm
  have hTl := hTN.len
  have hTk : ∀ i, i < T.length → T.getD i 0 < S.length := fun i hi => tst_mem (srtOrd hS) (Nat.le_refl _) _ (hperm.mem_iff.1 (getD_memT hi))
  obtain ⟨qt, ct, rfl, _⟩ := hvt.ints.slice
  have hti := hvt.ints
  rw [ni_len] at hti ⊢
  clear hvt
  have hE02 := hE.trans hE2
  have hTrip2 := hTrip.ext hE2
  clear hTrip hU
  repeat' (first|refine za ?_|refine zA ?_|refine zB ?_|refine zb ?_|refine zc ?_|refine ze ?_|refine zd ?_|refine zC ?_|refine zD ?_|refine zE ?_|refine zF ?_|refine zG ?_|refine zH ?_|refine zI ?_|refine zJ ?_|refine zK ?_|refine zL ?_|refine zM ?_|refine zN ?_|refine zO ?_|refine zP ?_|refine zQ ?_|refine zR ?_|refine zS ?_|refine zU ?_|refine zV ?_|refine zW ?_|refine zt (fun hcd => ?_) (fun hcd => ?_)|refine zu (fun hcd => ?_) (fun hcd => ?_)|refine zX ?_|refine zY ?_|refine zv (fun hcd => ?_) (fun hcd => ?_)|refine zk ?_|refine zl ?_|refine zm ?_|refine zn ?_|refine zf ?_|refine zg ?_|refine zj ?_|refine zZ ?_|refine zh ?_|refine zi ?_|refine zo ?_|refine zp ?_|refine zq ?_|refine zr ?_|refine zs ?_)
  refine r_allocN z77 fun w3 hb3 hE3 hs3 => ?_
  obtain ⟨b15, eb15⟩ : ∃ b, b = w2.heap.size := ⟨_, rfl⟩
  rw [← eb15] at hb3 ⊢
  rw [← metV_nil] at hb3
  repeat' (first|refine za ?_|refine zA ?_|refine zB ?_|refine zb ?_|refine zc ?_|refine ze ?_|refine zd ?_|refine zC ?_|refine zD ?_|refine zE ?_|refine zF ?_|refine zG ?_|refine zH ?_|refine zI ?_|refine zJ ?_|refine zK ?_|refine zL ?_|refine zM ?_|refine zN ?_|refine zO ?_|refine zP ?_|refine zQ ?_|refine zR ?_|refine zS ?_|refine zU ?_|refine zV ?_|refine zW ?_|refine zt (fun hcd => ?_) (fun hcd => ?_)|refine zu (fun hcd => ?_) (fun hcd => ?_)|refine zX ?_|refine zY ?_|refine zv (fun hcd => ?_) (fun hcd => ?_)|refine zk ?_|refine zl ?_|refine zm ?_|refine zn ?_|refine zf ?_|refine zg ?_|refine zj ?_|refine zZ ?_|refine zh ?_|refine zi ?_|refine zo ?_|refine zp ?_|refine zq ?_|refine zr ?_|refine zs ?_)
  refine wc_loop2 [0, 4, 5, 10, 13, 15] (fun (i : Nat) (v : Value) => [(14, v), (16, .int .i64 i)]) (fun i v wk => i ≤ S.length ∧ Blk wk b15 77 (metV (aL S i)) ∧ OwnP wk w3.heap.size 40 v (aL S i) ∧ Ext w2 wk ∧ w3.heap.size ≤ wk.heap.size) (fun i _ => S.length - i) 0 (.slice none 0 0) rfl ⟨rfl, rfl, trivial⟩
    ⟨by omega, hb3, OwnP.nil _ _ _, hE3, Nat.le_refl _⟩ ?_
  rintro i v wz y ⟨hi, hB, hV, hEz, hsz⟩
  by_cases hin : i < S.length
  · obtain ⟨g0, g1, _⟩ := (hTrip2.ext (hEz.trans (Ext.drew wz))).rd (i := i) hin
    have hqs := hTrip2.isSome (by omega)
    obtain ⟨o1, o2, _, _⟩ := hS.ok i hin
    have hnum : numS S i = 16 * min (st S i).1 (st S i).2.1 + max (st S i).1 (st S i).2.1 := rfl
    have hed : edS S i = (((min (st S i).1 (st S i).2.1 : Nat) : Int), ((max (st S i).1 (st S i).2.1 : Nat) : Int)) := rfl
    change rd wz.drew ((pidx qu i 3).map fun a => a.add 0) = some (.int .i64 (st S i).1) at g0
    change rd wz.drew ((pidx qu i 3).map fun a => a.add 1) = some (.int .i64 (st S i).2.1) at g1
    obtain ⟨A, hA⟩ : ∃ A, A = (st S i).1 := ⟨_, rfl⟩
    obtain ⟨Bb, hBb⟩ : ∃ A, A = (st S i).2.1 := ⟨_, rfl⟩
    rw [← hA, ← hBb] at hnum hed
    rw [← hA] at g0 o1
    rw [← hBb] at g1 o2
    obtain ⟨lo, hlo⟩ : ∃ lo, lo = min A Bb := ⟨_, rfl⟩
    obtain ⟨hi', hhi⟩ : ∃ lo, lo = max A Bb := ⟨_, rfl⟩
    rw [← hlo, ← hhi] at hnum hed
    obtain ⟨num, hnm⟩ : ∃ c, c = numS S i := ⟨_, rfl⟩
    rw [← hnm] at hnum
    have hle := aL_len S i
    have hBd : Blk wz.drew b15 77 (metV (aL S i)) := hB.ext (Ext.drew wz)
    have hVd : OwnP wz.drew w3.heap.size 40 v (aL S i) := ownsRow_ext hV (Ext.drew wz)
    have hEd := hEz.trans (Ext.drew wz)
    have gm : rd wz.drew (some ⟨b15, (num : Int).toNat * 1, none⟩) = some (.bool (metB (aL S i) num)) := by
      rw [Int.toNat_natCast, Nat.mul_one]; exact hBd.rd (metV_get _ (by omega))
    obtain ⟨qv, cv, rfl, _⟩ := hV.pairs.slice
    repeat' (first|refine za ?_|refine zA ?_|refine zB ?_|refine zb ?_|refine zc ?_|refine ze ?_|refine zd ?_|refine zC ?_|refine zK ?_|refine zX ?_|refine zk ?_|refine zl ?_)
    (refine wc_drawn 23 (by kernel_rfl) (by kernel_rfl) ?_; simp only [List.take_succ_cons, List.take_zero, List.drop_succ_cons, List.drop_zero])
    repeat' (first|refine za ?_|refine zA ?_)
    refine r_idx sz58 rfl rfl hqs (by omega) (by omega) ?_
    repeat' (refine za ?_)
    refine r_faQ fo60_0 rfl (pidx_isSome hqs) ?_
    repeat' (first|refine za ?_|refine zA ?_|refine zM ?_)
    refine r_idx sz58 rfl rfl hqs (by omega) (by omega) ?_
    repeat' (refine za ?_)
    refine r_faQ fo60_1 rfl (pidx_isSome hqs) ?_
    repeat' (first|refine za ?_|refine zA ?_|refine zM ?_)
    refine r_min (c := (lo : Int)) rfl rfl (by split <;> omega) ?_
    repeat' (first|refine za ?_|refine zA ?_)
    refine r_idx sz58 rfl rfl hqs (by omega) (by omega) ?_
    repeat' (refine za ?_)
    refine r_faQ fo60_0 rfl (pidx_isSome hqs) ?_
    repeat' (first|refine za ?_|refine zA ?_|refine zM ?_)
    refine r_idx sz58 rfl rfl hqs (by omega) (by omega) ?_
    repeat' (refine za ?_)
    refine r_faQ fo60_1 rfl (pidx_isSome hqs) ?_
    repeat' (first|refine za ?_|refine zA ?_|refine zM ?_)
    refine r_max (c := (hi' : Int)) rfl rfl (by split <;> omega) ?_
    repeat' (first|refine za ?_|refine zA ?_|refine zB ?_|refine zb ?_|refine zc ?_|refine ze ?_|refine zd ?_)
    refine r_mul_in rfl rfl (by omega) ?_
    repeat' (first|refine za ?_|refine zA ?_)
    refine r_add_w (num : Int) rfl rfl (by omega) (by omega) ?_
    repeat' (refine za ?_)
    refine r_idxA ar77 rfl rfl (by omega) (by omega) ?_
    by_cases hmet : metB (aL S i) num = true
    · have e1 : aL S (i + 1) = aL S i := by simp only [aL]; rw [← hnm, if_pos hmet]
      rw [hmet] at gm
      repeat' (first|refine za ?_|refine zA ?_|refine zB ?_|refine zb ?_|refine zc ?_|refine ze ?_|refine zd ?_|refine zC ?_|refine zD ?_|refine zE ?_|refine zF ?_|refine zG ?_|refine zH ?_|refine zI ?_|refine zJ ?_|refine zK ?_|refine zL ?_|refine zM ?_|refine zN ?_|refine zO ?_|refine zP ?_|refine zQ ?_|refine zR ?_|refine zS ?_|refine zU ?_|refine zV ?_|refine zW ?_|refine zt (fun hcd => ?_) (fun hcd => ?_)|refine zu (fun hcd => ?_) (fun hcd => ?_)|refine zX ?_|refine zY ?_|refine zv (fun hcd => ?_) (fun hcd => ?_)|refine zk ?_|refine zl ?_|refine zm ?_|refine zn ?_|refine zf ?_|refine zg ?_|refine zj ?_|refine zZ ?_|refine zh ?_|refine zi ?_|refine zo ?_|refine zp ?_|refine zq ?_|refine zr ?_|refine zs ?_)
      refine ⟨i + 1, _, ⟨rfl, rfl, trivial⟩, ⟨by omega, ?_, ?_, hEd, hsz⟩, by omega⟩
      · rw [e1]; exact hBd
      · rw [e1]; exact hVd
    have e1 : aL S (i + 1) = aL S i ++ [edS S i] := by simp only [aL]; rw [← hnm, if_neg hmet]
    rw [Bool.eq_false_iff.2 hmet] at gm
    repeat' (first|refine za ?_|refine zA ?_|refine zB ?_|refine zb ?_|refine zc ?_|refine ze ?_|refine zd ?_|refine zM ?_|refine zO ?_|refine zX ?_)
    refine r_mul_in rfl rfl (by omega) ?_
    repeat' (first|refine za ?_|refine zA ?_)
    refine r_add_w (num : Int) rfl rfl (by omega) (by omega) ?_
    repeat' (refine za ?_)
    refine r_idxA ar77 rfl rfl (by omega) (by omega) ?_
    repeat' (refine za ?_)
    refine r_st_blk (v := .bool true) cc4 hBd rfl rfl rfl (by rw [metV_len, Int.toNat_natCast]; omega) fun w4 h4 hC4 hs4 => ?_
    rw [Int.toNat_natCast, Nat.mul_one, metV_set (aL S i) (e := edS S i) (by rw [numS_eq, hnm])] at h4
    have hE4 : Ext w2 w4 := Ch.trans' hEd hC4 fun k hk e => by omega
    have hV4 : OwnP w4 w3.heap.size 40 (.slice qv (aL S i).length cv) (aL S i) := ownsRow_keep hVd hC4 fun g hg e => by have := (World.ownsRow.lt hVd g hg).1; omega
    have hsd : wz.drew.heap.size = wz.heap.size := rfl
    repeat' (first|refine za ?_|refine zA ?_|refine zB ?_|refine zb ?_|refine zc ?_|refine ze ?_|refine zd ?_)
    refine r_build (cells := #[.int .i64 (lo : Int), .int .i64 (hi' : Int)]) (bt40 lo hi') ?_
    repeat' (refine za ?_)
    refine r_append1_p eT37 (by decide) hV4 rfl rfl (by omega) (by omega) fun v5 w5 _ hV5 hG5 hne5 hgb5 => ?_
    have hC5 := Ch.grown hG5 (S := fun k => (Value.slice qv (aL S i).length cv).ownBlock = some k) fun k e => e
    have hE5 : Ext w2 w5 := Ch.trans' hE4 hC5 fun k hk e => by have := (World.ownsRow.lt hV4 k e).1; omega
    have h5 := h4.keep hC5 fun e => by have := (World.ownsRow.lt hV4 _ e).1; omega
    have hs5 := hC5.size
    repeat' (first|refine za ?_|refine zA ?_|refine zB ?_|refine zb ?_|refine zc ?_|refine ze ?_|refine zd ?_|refine zC ?_|refine zD ?_|refine zE ?_|refine zF ?_|refine zG ?_|refine zH ?_|refine zI ?_|refine zJ ?_|refine zK ?_|refine zL ?_|refine zM ?_|refine zN ?_|refine zO ?_|refine zP ?_|refine zQ ?_|refine zR ?_|refine zS ?_|refine zU ?_|refine zV ?_|refine zW ?_|refine zt (fun hcd => ?_) (fun hcd => ?_)|refine zu (fun hcd => ?_) (fun hcd => ?_)|refine zX ?_|refine zY ?_|refine zv (fun hcd => ?_) (fun hcd => ?_)|refine zk ?_|refine zl ?_|refine zm ?_|refine zn ?_|refine zf ?_|refine zg ?_|refine zj ?_|refine zZ ?_|refine zh ?_|refine zi ?_|refine zo ?_|refine zp ?_|refine zq ?_|refine zr ?_|refine zs ?_)
    refine ⟨i + 1, _, ⟨rfl, rfl, trivial⟩, ⟨by omega, ?_, ?_, hE5, by omega⟩, by omega⟩
    · rw [e1]; exact h5
    · rw [e1, hed]; exact hV5
  obtain rfl : i = S.length := by omega
  clear hB
  have hAl := aL_len S S.length
  have hAinc : ∀ v, v < n → 1 ≤ (Bg.peC (aL S S.length) n n).getD v 0 := fun v hv => aL_core hS hn2.1 hlk hv
  obtain ⟨AL, hAL⟩ : ∃ A, A = aL S S.length := ⟨_, rfl⟩
  rw [← hAL] at hV hAl hG1 hAinc
  obtain ⟨qa, caa, rfl, _⟩ := hV.pairs.slice
  have hVp := hV.pairs
  have hVlt : ∀ g, (Value.slice qa AL.length caa).ownBlock = some g → g < wz.heap.size := fun g hg => (World.ownsRow.lt hV g hg).2
  have hTripz := hTrip2.ext hEz
  have htiz := hti.ext hEz
  have hE0z := hE02.trans hEz
  repeat' (first|refine za ?_|refine zA ?_|refine zB ?_|refine zb ?_|refine zc ?_|refine ze ?_|refine zd ?_|refine zC ?_|refine zD ?_|refine zE ?_|refine zF ?_|refine zG ?_|refine zH ?_|refine zI ?_|refine zJ ?_|refine zK ?_|refine zL ?_|refine zM ?_|refine zN ?_|refine zO ?_|refine zP ?_|refine zQ ?_|refine zR ?_|refine zS ?_|refine zU ?_|refine zV ?_|refine zW ?_|refine zt (fun hcd => ?_) (fun hcd => ?_)|refine zu (fun hcd => ?_) (fun hcd => ?_)|refine zX ?_|refine zY ?_|refine zv (fun hcd => ?_) (fun hcd => ?_)|refine zk ?_|refine zl ?_|refine zm ?_|refine zn ?_|refine zf ?_|refine zg ?_|refine zj ?_|refine zZ ?_|refine zh ?_|refine zi ?_|refine zo ?_|refine zp ?_|refine zq ?_|refine zr ?_|refine zs ?_)
  refine wc_loop2 [0, 5, 10, 14] (fun (i : Nat) (v : Value) => [(13, v), (19, .int .i64 i)]) (fun i v wk => i ≤ T.length ∧ OwnP wk wz.heap.size 40 v (trL S (T.take i)) ∧ Ext wz wk) (fun i _ => T.length - i) 0 (.slice none 0 0) rfl ⟨rfl, rfl, trivial⟩
    ⟨by omega, OwnP.nil _ _ _, Ext.refl _⟩ ?_
  rintro i v wy y2 ⟨hi, hW, hEy⟩
  by_cases hin : i < T.length
  · have hps := hti.isSome (by rw [ni_len]; omega)
    have hrd := (htiz.ext hEy).rd (i := i) (by rw [ni_len]; omega)
    rw [ni_get] at hrd
    have hkS := hTk i hin
    obtain ⟨g0, g1, g2⟩ := (hTripz.ext hEy).rd (i := T.getD i 0) hkS
    have hqs := hTrip2.isSome (by omega)
    obtain ⟨o1, o2, _, _⟩ := hS.ok _ hkS
    have hed : edS S (T.getD i 0) = (((min (st S (T.getD i 0)).1 (st S (T.getD i 0)).2.1 : Nat) : Int), ((max (st S (T.getD i 0)).1 (st S (T.getD i 0)).2.1 : Nat) : Int)) := rfl
    change rd wy ((pidx qu (T.getD i 0) 3).map fun a => a.add 0) = some (.int .i64 (st S (T.getD i 0)).1) at g0
    change rd wy ((pidx qu (T.getD i 0) 3).map fun a => a.add 1) = some (.int .i64 (st S (T.getD i 0)).2.1) at g1
    change rd wy ((pidx qu (T.getD i 0) 3).map fun a => a.add 2) = some (.int .i64 (st S (T.getD i 0)).2.2) at g2
    have htk := trL_take (S := S) hin
    have htl : (trL S (T.take i)).length = i := by rw [trL_len, List.length_take]; omega
    obtain ⟨A, hA⟩ : ∃ A, A = (st S (T.getD i 0)).1 := ⟨_, rfl⟩
    obtain ⟨Bb, hBb⟩ : ∃ A, A = (st S (T.getD i 0)).2.1 := ⟨_, rfl⟩
    obtain ⟨wt, hwt⟩ : ∃ A, A = (st S (T.getD i 0)).2.2 := ⟨_, rfl⟩
    rw [← hA, ← hBb] at hed
    rw [← hA] at g0 o1
    rw [← hBb] at g1 o2
    rw [← hwt] at g2
    obtain ⟨lo, hlo⟩ : ∃ lo, lo = min A Bb := ⟨_, rfl⟩
    obtain ⟨hi', hhi⟩ : ∃ lo, lo = max A Bb := ⟨_, rfl⟩
    rw [← hlo, ← hhi] at hed
    obtain ⟨kk, hkk⟩ : ∃ c, c = T.getD i 0 := ⟨_, rfl⟩
    rw [← hkk] at hrd hkS g0 g1 g2 hed htk
    clear hA hBb hwt
    obtain ⟨qv, cv, rfl, _⟩ := hW.pairs.slice
    rw [htl] at *
    have htl2 : (trL S (T.take i)).length = i := by rw [trL_len, List.length_take]; omega
    repeat' (first|refine za ?_|refine zA ?_|refine zB ?_|refine zb ?_|refine zc ?_|refine ze ?_|refine zd ?_|refine zC ?_|refine zD ?_|refine zE ?_|refine zF ?_|refine zG ?_|refine zH ?_|refine zI ?_|refine zJ ?_|refine zK ?_|refine zL ?_|refine zM ?_|refine zN ?_|refine zO ?_|refine zP ?_|refine zQ ?_|refine zR ?_|refine zS ?_|refine zU ?_|refine zV ?_|refine zW ?_|refine zt (fun hcd => ?_) (fun hcd => ?_)|refine zu (fun hcd => ?_) (fun hcd => ?_)|refine zX ?_|refine zY ?_|refine zv (fun hcd => ?_) (fun hcd => ?_)|refine zk ?_|refine zl ?_|refine zm ?_|refine zn ?_|refine zf ?_|refine zg ?_|refine zj ?_|refine zZ ?_|refine zh ?_|refine zi ?_|refine zo ?_|refine zp ?_|refine zq ?_|refine zr ?_|refine zs ?_)
    refine r_idx sz58 rfl rfl hqs (by omega) (by omega) ?_
    repeat' (refine za ?_)
    refine r_ld3Q ag60 rfl g0 g1 g2 ?_
    repeat' (refine za ?_)
    refine r_allocN z60 fun wa hb20 hEa hsa => ?_
    obtain ⟨b20, eb20⟩ : ∃ b, b = wy.heap.size := ⟨_, rfl⟩
    rw [← eb20] at hb20 ⊢
    repeat' (refine za ?_)
    refine r_stN (ws := [.int .i64 (A : Int), .int .i64 (Bb : Int), .int .i64 (wt : Int)]) ag60 (by decide) hb20 rfl rfl rfl rfl (by intro q hq; simp at hq; rcases hq with rfl | rfl | rfl <;> rfl) fun wb h20 hCb hsb => ?_
    have hEb : Ext wy wb := Ch.trans' hEa hCb fun k hk e => by omega
    have k0 : rd wb (some ⟨b20, 0 + 0, none⟩) = some (.int .i64 (A : Int)) := h20.rd rfl
    have k1 : rd wb (some ⟨b20, 0 + 1, none⟩) = some (.int .i64 (Bb : Int)) := h20.rd rfl
    repeat' (first|refine za ?_|refine zA ?_|refine zb ?_|refine zc ?_|refine ze ?_|refine zd ?_)
    refine r_fa fo60_0 rfl ?_
    repeat' (first|refine za ?_|refine zM ?_)
    refine r_fa fo60_1 rfl ?_
    repeat' (first|refine za ?_|refine zM ?_)
    refine r_min (c := (lo : Int)) rfl rfl (by split <;> omega) ?_
    repeat' (refine za ?_)
    refine r_fa fo60_0 rfl ?_
    repeat' (first|refine za ?_|refine zM ?_)
    refine r_fa fo60_1 rfl ?_
    repeat' (first|refine za ?_|refine zM ?_)
    refine r_max (c := (hi' : Int)) rfl rfl (by split <;> omega) ?_
    repeat' (refine za ?_)
    refine r_build (cells := #[.int .i64 (lo : Int), .int .i64 (hi' : Int)]) (bt40 lo hi') ?_
    repeat' (refine za ?_)
    have hWb : OwnP wb wz.heap.size 40 (.slice qv i cv) (trL S (T.take i)) := ownsRow_ext hW hEb
    have hEyb := hEy.trans hEb
    refine r_append1_p eT37 (by decide) hWb rfl rfl (by omega) hEyb.size fun v5 w5 _ hV5 hG5 hne5 hgb5 => ?_
    have hC5 := Ch.grown hG5 (S := fun k => (Value.slice qv i cv).ownBlock = some k) fun k e => e
    have hE5 : Ext wz w5 := Ch.trans' hEyb hC5 fun k hk e => by have := (World.ownsRow.lt hWb k e).1; omega
    repeat' (first|refine za ?_|refine zA ?_|refine zB ?_|refine zb ?_|refine zc ?_|refine ze ?_|refine zd ?_|refine zC ?_|refine zD ?_|refine zE ?_|refine zF ?_|refine zG ?_|refine zH ?_|refine zI ?_|refine zJ ?_|refine zK ?_|refine zL ?_|refine zM ?_|refine zN ?_|refine zO ?_|refine zP ?_|refine zQ ?_|refine zR ?_|refine zS ?_|refine zU ?_|refine zV ?_|refine zW ?_|refine zt (fun hcd => ?_) (fun hcd => ?_)|refine zu (fun hcd => ?_) (fun hcd => ?_)|refine zX ?_|refine zY ?_|refine zv (fun hcd => ?_) (fun hcd => ?_)|refine zk ?_|refine zl ?_|refine zm ?_|refine zn ?_|refine zf ?_|refine zg ?_|refine zj ?_|refine zZ ?_|refine zh ?_|refine zi ?_|refine zo ?_|refine zp ?_|refine zq ?_|refine zr ?_|refine zs ?_)
    exact ⟨i + 1, _, ⟨rfl, rfl, trivial⟩, ⟨by omega, by rw [htk, hed]; exact hV5, hE5⟩, by omega⟩
  obtain rfl : i = T.length := by omega
  rw [List.take_length] at hW
  have htl : (trL S T).length = T.length := trL_len S T
  obtain ⟨L, hL⟩ : ∃ A, A = trL S T := ⟨_, rfl⟩
  have hGL := hTN.isG
  rw [← hL] at hW htl hGL
  obtain ⟨ql, cl, rfl, _⟩ := hW.pairs.slice
  rw [htl] at *
  have hLl : L.length ≤ 1000 := by rw [hL, trL_len]; omega
  have hVpy := hVp.ext hEy
  have hE0y := hE0z.trans hEy
  have hWlt : ∀ g, (Value.slice ql T.length cl).ownBlock = some g → g < wy.heap.size := fun g hg => (World.ownsRow.lt hW g hg).2
  have hLp : Pairs2 wy (.slice ql T.length cl) L := hW.pairs
  have hyz := hEy.size
  repeat' (first|refine za ?_|refine zA ?_|refine zB ?_|refine zb ?_|refine zc ?_|refine ze ?_|refine zd ?_|refine zC ?_|refine zD ?_|refine zE ?_|refine zF ?_|refine zG ?_|refine zH ?_|refine zI ?_|refine zJ ?_|refine zK ?_|refine zL ?_|refine zM ?_|refine zN ?_|refine zO ?_|refine zP ?_|refine zQ ?_|refine zR ?_|refine zS ?_|refine zU ?_|refine zV ?_|refine zW ?_|refine zt (fun hcd => ?_) (fun hcd => ?_)|refine zu (fun hcd => ?_) (fun hcd => ?_)|refine zX ?_|refine zY ?_|refine zv (fun hcd => ?_) (fun hcd => ?_)|refine zk ?_|refine zl ?_|refine zm ?_|refine zn ?_|refine zf ?_|refine zg ?_|refine zj ?_|refine zZ ?_|refine zh ?_|refine zi ?_|refine zo ?_|refine zp ?_|refine zq ?_|refine zr ?_|refine zs ?_)
  (refine r_call (R := ?_) rfl ?_ ?_; rotate_left 1; focus exact Bg.densest_any (n : Int) (.slice ql T.length cl) L wy hLp hLl hWlt)
  rintro v3 w3' ⟨hD3, hE3'⟩
  unfold Bg.DensR at hD3
  rw [if_pos hGL] at hD3
  obtain ⟨X, Sh, vs, vsh, rfl, hvs, hvsh, _, hDens, _⟩ := hD3
  have hDl := hDens
  rw [hL] at hDl
  obtain ⟨d1, d2, d3⟩ := hTN.dens hDl
  have hcore : ∀ v, v < n → (Bg.peC (trL S T) n n).getD v 0 = 1 := fun v hv => hTN.core hDl hv
  rw [← hL] at d2 d3 hcore
  rw [d2, d3]
  obtain ⟨nm, hnm⟩ : ∃ k, k = n - 1 := ⟨_, rfl⟩
  rw [← hnm]
  obtain ⟨qs, cs, rfl, _⟩ := hvs.ints.slice
  obtain ⟨qh, ch, rfl, _⟩ := hvsh.pairs.slice
  rw [d1]
  repeat' (first|refine za ?_|refine zA ?_|refine zS ?_)
  refine r_allocN zT47 fun w4 hb4 hE4 hs4 => ?_
  obtain ⟨b4, eb4⟩ : ∃ b, b = w3'.heap.size := ⟨_, rfl⟩
  rw [← eb4] at hb4 ⊢
  repeat' (first|refine za ?_|refine zB ?_)
  refine r_stN (ws := [.int .i64 (nm : Int), .int .i64 (n : Int)]) aT47 (by decide) hb4 rfl rfl rfl rfl (by intro q hq; simp at hq; rcases hq with rfl | rfl <;> rfl) fun w5 h5 hC5 hs5 => ?_
  have hE35 : Ext w3' w5 := Ch.trans' hE4 hC5 fun k hk e => by omega
  have hE25 := hE3'.trans hE35
  repeat' (first|refine za ?_|refine zA ?_|refine zB ?_|refine zb ?_|refine zc ?_|refine ze ?_|refine zd ?_)
  (refine r_call (R := ?_) rfl ?_ ?_; rotate_left 1; focus exact Bg.orient_any (n : Int) (.slice ql T.length cl) L w5 (hLp.ext hE25) hLl fun g hg => by have := hWlt g hg; have := hE25.size; omega)
  rintro v6 w6 ⟨hO6, hE6⟩
  unfold Bg.OriR at hO6
  rw [if_pos hGL] at hO6
  obtain ⟨Hh, pr, vh, vp, rfl, hvh, hvp, _, hOri⟩ := hO6
  obtain ⟨qo, co, rfl, _⟩ := hvh.ints.slice
  obtain ⟨qp, cp, rfl, _⟩ := hvp.ints.slice
  have hE26 := hE25.trans hE6
  repeat' (first|refine za ?_|refine zA ?_|refine zB ?_|refine zb ?_|refine zc ?_|refine ze ?_|refine zd ?_|refine zS ?_)
  (refine r_call (R := ?_) rfl ?_ ?_; rotate_left 1; focus exact Bg.height_any (n : Int) (.slice ql T.length cl) (.slice qo Hh.length co) L Hh w6 (hLp.ext hE26) hvh.ints hLl)
  rintro v7 w7 ⟨hH7, hE7⟩
  unfold Bg.HgtR at hH7
  rw [if_pos ⟨hGL, hOri.1⟩] at hH7
  obtain ⟨r, rfl, hr⟩ := hH7
  rw [hL] at hOri
  obtain rfl := hTN.high hOri hr
  have hE27 := hE26.trans hE7
  repeat' (first|refine za ?_|refine zA ?_|refine zB ?_|refine zb ?_|refine zc ?_|refine ze ?_|refine zd ?_|refine zS ?_)
  (refine r_call (R := ?_) rfl ?_ ?_; rotate_left 1; focus exact Bg.cores_any (n : Int) (.slice ql T.length cl) L w7 (hLp.ext hE27) hLl fun g hg => by have := hWlt g hg; have := hE27.size; omega)
  rintro v8 w8 ⟨hc8, hE8⟩
  unfold Bg.CoresR at hc8
  rw [if_pos hGL] at hc8
  obtain ⟨vc, rfl, hvc⟩ := hc8
  rw [show ((n : Nat) : Int).toNat = n from Int.toNat_natCast n] at hvc
  obtain ⟨qc, cc, rfl, _⟩ := hvc.ints.slice
  have hvci := hvc.ints
  rw [Bg.peC_len] at hvci ⊢
  have hE28 := hE27.trans hE8
  repeat' (first|refine za ?_|refine zA ?_|refine zB ?_|refine zb ?_|refine zc ?_|refine ze ?_|refine zd ?_|refine zS ?_)
  (refine r_call (R := ?_) rfl ?_ ?_; rotate_left 1; focus exact Bg.cores_any (n : Int) (.slice qa AL.length caa) AL w8 (hVpy.ext hE28) (by omega) fun g hg => by have := hVlt g hg; have := hE28.size; omega)
  rintro v9 w9 ⟨hc9, hE9⟩
  unfold Bg.CoresR at hc9
  rw [if_pos hG1] at hc9
  obtain ⟨vd, rfl, hvd⟩ := hc9
  rw [show ((n : Nat) : Int).toNat = n from Int.toNat_natCast n] at hvd
  obtain ⟨qd, cd, rfl, _⟩ := hvd.ints.slice
  have hvdi := hvd.ints
  rw [Bg.peC_len] at hvdi ⊢
  have hvci9 := hvci.ext hE9
  have h59 := h5.ext (((hE6.trans hE7).trans hE8).trans hE9)
  repeat' (first|refine za ?_|refine zA ?_|refine zB ?_|refine zb ?_|refine zc ?_|refine ze ?_|refine zd ?_|refine zC ?_|refine zD ?_|refine zE ?_|refine zF ?_|refine zG ?_|refine zH ?_|refine zI ?_|refine zJ ?_|refine zK ?_|refine zL ?_|refine zM ?_|refine zN ?_|refine zO ?_|refine zP ?_|refine zQ ?_|refine zR ?_|refine zS ?_|refine zU ?_|refine zV ?_|refine zW ?_|refine zt (fun hcd => ?_) (fun hcd => ?_)|refine zu (fun hcd => ?_) (fun hcd => ?_)|refine zX ?_|refine zY ?_|refine zv (fun hcd => ?_) (fun hcd => ?_)|refine zk ?_|refine zl ?_|refine zm ?_|refine zn ?_|refine zf ?_|refine zg ?_|refine zj ?_|refine zZ ?_|refine zh ?_|refine zi ?_|refine zo ?_|refine zp ?_|refine zq ?_|refine zr ?_|refine zs ?_)
  refine r_ldN (vs := [.int .i64 (nm : Int), .int .i64 (n : Int)]) aT47 (by decide) h59 rfl rfl ?_
  repeat' (first|refine za ?_|refine zA ?_|refine zB ?_|refine zb ?_|refine zc ?_|refine ze ?_|refine zd ?_|refine zC ?_|refine zD ?_|refine zE ?_|refine zF ?_|refine zG ?_|refine zH ?_|refine zI ?_|refine zJ ?_|refine zK ?_|refine zL ?_|refine zM ?_|refine zN ?_|refine zO ?_|refine zP ?_|refine zQ ?_|refine zR ?_|refine zS ?_|refine zU ?_|refine zV ?_|refine zW ?_|refine zt (fun hcd => ?_) (fun hcd => ?_)|refine zu (fun hcd => ?_) (fun hcd => ?_)|refine zX ?_|refine zY ?_|refine zv (fun hcd => ?_) (fun hcd => ?_)|refine zk ?_|refine zl ?_|refine zm ?_|refine zn ?_|refine zf ?_|refine zg ?_|refine zj ?_|refine zZ ?_|refine zh ?_|refine zi ?_|refine zo ?_|refine zp ?_|refine zq ?_|refine zr ?_|refine zs ?_)
  refine r_build (cells := #[.int .i64 ((n : Int) - 1), .int .i64 (n : Int)]) (bt47 _ _) ?_
  repeat' (first|refine za ?_|refine zA ?_|refine zB ?_|refine zb ?_|refine zc ?_|refine ze ?_|refine zd ?_|refine zC ?_|refine zD ?_|refine zE ?_|refine zF ?_|refine zG ?_|refine zH ?_|refine zI ?_|refine zJ ?_|refine zK ?_|refine zL ?_|refine zM ?_|refine zN ?_|refine zO ?_|refine zP ?_|refine zQ ?_|refine zR ?_|refine zS ?_|refine zU ?_|refine zV ?_|refine zW ?_|refine zt (fun hcd => ?_) (fun hcd => ?_)|refine zu (fun hcd => ?_) (fun hcd => ?_)|refine zX ?_|refine zY ?_|refine zv (fun hcd => ?_) (fun hcd => ?_)|refine zk ?_|refine zl ?_|refine zm ?_|refine zn ?_|refine zf ?_|refine zg ?_|refine zj ?_|refine zZ ?_|refine zh ?_|refine zi ?_|refine zo ?_|refine zp ?_|refine zq ?_|refine zr ?_|refine zs ?_)
  refine r_neqA_f (A := [(nm : Int), (n : Int)]) (B := [(n : Int) - 1, (n : Int)]) qT47 rfl rfl rfl rfl (by rw [show (nm : Int) = (n : Int) - 1 by omega]) ?_
  repeat' (first|refine za ?_|refine zA ?_|refine zB ?_|refine zb ?_|refine zc ?_|refine ze ?_|refine zd ?_|refine zC ?_|refine zD ?_|refine zE ?_|refine zF ?_|refine zG ?_|refine zH ?_|refine zI ?_|refine zJ ?_|refine zK ?_|refine zL ?_|refine zM ?_|refine zN ?_|refine zO ?_|refine zP ?_|refine zQ ?_|refine zR ?_|refine zS ?_|refine zU ?_|refine zV ?_|refine zW ?_|refine zt (fun hcd => ?_) (fun hcd => ?_)|refine zu (fun hcd => ?_) (fun hcd => ?_)|refine zX ?_|refine zY ?_|refine zv (fun hcd => ?_) (fun hcd => ?_)|refine zk ?_|refine zl ?_|refine zm ?_|refine zn ?_|refine zf ?_|refine zg ?_|refine zj ?_|refine zZ ?_|refine zh ?_|refine zi ?_|refine zo ?_|refine zp ?_|refine zq ?_|refine zr ?_|refine zs ?_)
  refine wc_loop [0, 30, 32] (fun (i : Nat) => [(34, .int .i64 i)]) (fun i wk => i ≤ n ∧ wk = w9) (fun i => n - i) 0 rfl ⟨rfl, trivial⟩ ⟨by omega, rfl⟩ ?_
  rintro i wk y3 ⟨hi3, rfl⟩
  by_cases hin3 : i < n
  · have hps1 := hvci9.isSome (by rw [Bg.peC_len]; omega)
    have hps2 := hvdi.isSome (by rw [Bg.peC_len]; omega)
    have hr1 := hvci9.rd (i := i) (by rw [Bg.peC_len]; exact hin3)
    rw [hcore i hin3] at hr1
    have hr2 := hvdi.rd (i := i) (by rw [Bg.peC_len]; exact hin3)
    have hge := hAinc i hin3
    obtain ⟨c2, hc2⟩ : ∃ c, c = (Bg.peC AL n n).getD i 0 := ⟨_, rfl⟩
    rw [← hc2] at hr2 hge
    repeat' (first|refine za ?_|refine zA ?_|refine zB ?_|refine zb ?_|refine zc ?_|refine ze ?_|refine zd ?_|refine zC ?_|refine zD ?_|refine zE ?_|refine zF ?_|refine zG ?_|refine zH ?_|refine zI ?_|refine zJ ?_|refine zK ?_|refine zL ?_|refine zM ?_|refine zN ?_|refine zO ?_|refine zP ?_|refine zQ ?_|refine zR ?_|refine zS ?_|refine zU ?_|refine zV ?_|refine zW ?_|refine zt (fun hcd => ?_) (fun hcd => ?_)|refine zu (fun hcd => ?_) (fun hcd => ?_)|refine zX ?_|refine zY ?_|refine zv (fun hcd => ?_) (fun hcd => ?_)|refine zk ?_|refine zl ?_|refine zm ?_|refine zn ?_|refine zf ?_|refine zg ?_|refine zj ?_|refine zZ ?_|refine zh ?_|refine zi ?_|refine zo ?_|refine zp ?_|refine zq ?_|refine zr ?_|refine zs ?_)
    exact ⟨i + 1, ⟨rfl, trivial⟩, ⟨by omega, rfl⟩, by omega⟩
  repeat' (first|refine za ?_|refine zA ?_|refine zB ?_|refine zb ?_|refine zc ?_|refine ze ?_|refine zd ?_|refine zC ?_|refine zD ?_|refine zE ?_|refine zF ?_|refine zG ?_|refine zH ?_|refine zI ?_|refine zJ ?_|refine zK ?_|refine zL ?_|refine zM ?_|refine zN ?_|refine zO ?_|refine zP ?_|refine zQ ?_|refine zR ?_|refine zS ?_|refine zU ?_|refine zV ?_|refine zW ?_|refine zt (fun hcd => ?_) (fun hcd => ?_)|refine zu (fun hcd => ?_) (fun hcd => ?_)|refine zX ?_|refine zY ?_|refine zv (fun hcd => ?_) (fun hcd => ?_)|refine zk ?_|refine zl ?_|refine zm ?_|refine zn ?_|refine zf ?_|refine zg ?_|refine zj ?_|refine zZ ?_|refine zh ?_|refine zi ?_|refine zo ?_|refine zp ?_|refine zq ?_|refine zr ?_|refine zs ?_)
  (refine r_call (R := ?_) rfl ?_ ?_; rotate_left 1; focus exact four_any wk)
  rintro _ w10 ⟨rfl, hE10⟩
  repeat' (first|refine za ?_|refine zA ?_|refine zB ?_|refine zb ?_|refine zc ?_|refine ze ?_|refine zd ?_|refine zC ?_|refine zD ?_|refine zE ?_|refine zF ?_|refine zG ?_|refine zH ?_|refine zI ?_|refine zJ ?_|refine zK ?_|refine zL ?_|refine zM ?_|refine zN ?_|refine zO ?_|refine zP ?_|refine zQ ?_|refine zR ?_|refine zS ?_|refine zU ?_|refine zV ?_|refine zW ?_|refine zt (fun hcd => ?_) (fun hcd => ?_)|refine zu (fun hcd => ?_) (fun hcd => ?_)|refine zX ?_|refine zY ?_|refine zv (fun hcd => ?_) (fun hcd => ?_)|refine zk ?_|refine zl ?_|refine zm ?_|refine zn ?_|refine zf ?_|refine zg ?_|refine zj ?_|refine zZ ?_|refine zh ?_|refine zi ?_|refine zo ?_|refine zp ?_|refine zq ?_|refine zr ?_|refine zs ?_)
  refine post1 (v := .bool true) rfl rfl ?_
  exact ⟨rfl, (hE0y.trans hE28).trans (hE9.trans hE10)⟩
end Go.Proofs.YtocgehoffdjijaaGreat

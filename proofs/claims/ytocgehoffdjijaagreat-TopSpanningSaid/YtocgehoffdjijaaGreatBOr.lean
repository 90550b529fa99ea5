/- bags: Orient. -/
import Derived.Test.YtocgehoffdjijaaGreatBV
import Derived.Test.YtocgehoffdjijaaGreatBPO
namespace Go.Proofs.YtocgehoffdjijaaGreat
namespace Bg
set_option maxRecDepth 20000
open Gv
section
variable {P : Program} {K : Env → World → Prop} {ρ : Env} {w : World} {d : Nat} {t ty e : TypeId} {pos : String} {aft : Array Edge} {gd : Option (Nat × Bool)} {x y : Operand} {a : Int} {by_ : Nat}
theorem rv_mul {t2 : TypeId} {a2 : Int} (hx : ev ρ x = .int .i64 a) (hy : ev ρ y = .int .i64 a2) (hc : -9223372036854775808 ≤ a * a2 ∧ a * a2 ≤ 9223372036854775807) : (execOp (ev ρ) ⟨some d, .binOp .mul t x y t2, ty, pos, aft, gd⟩).run P w = .ok (.value (.int .i64 (a * a2))) w := by
  simp [execOp, hx, hy, eqGuard, binOp, Op.intArith, wrap_in hc.1 hc.2]
theorem rv_add {t2 : TypeId} {a2 : Int} (hx : ev ρ x = .int .i64 a) (hy : ev ρ y = .int .i64 a2) (hc : -9223372036854775808 ≤ a + a2 ∧ a + a2 ≤ 9223372036854775807) : (execOp (ev ρ) ⟨some d, .binOp .add t x y t2, ty, pos, aft, gd⟩).run P w = .ok (.value (.int .i64 (a + a2))) w := by
  simp [execOp, hx, hy, eqGuard, binOp, Op.intArith, wrap_in hc.1 hc.2]
theorem r_buildI1 (hi : elemI P t = some (e, .int .i64 0, 1, by_)) (h1 : ev ρ x = .int .i64 a)
    (h : ∀ w', Ints w' (.slice (some ⟨w.heap.size, 0, none⟩) 1 1) [a] → Ext w w' → w'.heap.size = w.heap.size + 1 → K (up ρ d (.slice (some ⟨w.heap.size, 0, none⟩) 1 1)) w') :
    w1 P false ⟨some d, .buildSlice t 1 #[(0, x)], ty, pos, aft, gd⟩ K ρ w := by
  refine w1_val' (v := .slice (some ⟨w.heap.size, 0, none⟩) 1 1) (w' := w.alloc (.cells #[.int .i64 a] e)) ?_ (h _ ?_ (Ch.alloc w _) (by simp))
  · simp [execOp, h1, run_buildSlice1 hi (u := .int .i64 a) rfl]
  · exact ⟨_, 1, rfl, Nat.le_refl _, rfl, .inr ⟨w.heap.size, 0, rfl, by simp, fun j q hj => by
      rw [cell_of_row _ _ _ _ _ _ (alloc_new w _)]
      match j, hj with
      | 0, hj => simpa [ints] using hj
      | j + 1, hj => simp [ints] at hj⟩⟩
end
/-- What Orient returns. -/
def OriR (n : Int) (L : List (Int × Int)) (w w' : World) (v : Value) : Prop :=
  if IsG n L then ∃ H pr vh vp, v = .tuple #[vh, vp, .int .i64 0] ∧ OwnI w' w.heap.size 3 vh H ∧ OwnI w' w.heap.size 3 vp pr ∧ (∀ g, vh.ownBlock = some g → vp.ownBlock ≠ some g) ∧ OriP n L H pr
  else v = .tuple #[.slice none 0 0, .slice none 0 0, .int .i64 2]
/-- A set that tells that h - 1 is too low. -/
def PrvN (n : Int) (L : List (Int × Int)) (h : Nat) (pr : List Int) : Prop :=
  (h = 0 ∧ pr = []) ∨ (0 < h ∧ Asc pr ∧ 0 < pr.length ∧ (∀ v, v ∈ pr → 0 ≤ v ∧ v < n) ∧ ((h : Int) - 1) * pr.length < insM L pr)
theorem PrvN.le {n : Int} {L : List (Int × Int)} {h : Nat} {pr : List Int} (hp : PrvN n L h pr) (hl : L.length ≤ 120) : h ≤ 120 := by
  rcases hp with ⟨rfl, _⟩ | ⟨h0, _, h1, _, h2⟩
  · omega
  · have h3 := insM_le (L := L) (S := pr)
    have h4 : ((h : Int) - 1) * 1 ≤ ((h : Int) - 1) * pr.length := Int.mul_le_mul_of_nonneg_left (by omega) (by omega)
    omega
set_option maxRecDepth 20000 in
set_option maxHeartbeats 8000000 in
theorem orient_any (n : Int) (ve : Value) (L : List (Int × Int)) (w : World) (h : Pairs2 w ve L) (hl : L.length ≤ 1000) (hel : ∀ g, ve.ownBlock = some g → g < w.heap.size) :
    Calls Tryz.prog 33 #[.int .i64 n, ve] w (Ret fun v w' => OriR n L w w' v ∧ Ext w w') := by
  obtain ⟨qe, ce, rfl, hqe⟩ := h.slice
  refine calls_of_wc (args := [.int .i64 n, .slice qe L.length ce]) Tryz.func33 rfl ?_ ?_; kernel_rfl
  repeat' (first|refine za ?_|refine zA ?_|refine zB ?_|refine zb ?_|refine zc ?_|refine ze ?_|refine zd ?_)
  (refine r_call (R := ?_) rfl ?_ ?_; rotate_left 1; focus exact newGraph_any n _ L _ h hl)
  rintro v w2 ⟨rfl, hE2⟩
  by_cases hG : IsG n L
  rotate_left 1
  · rw [if_neg hG]
    repeat' (first|refine za ?_|refine zA ?_|refine zS ?_)
    refine r_allocN z72 fun w3 hb3 hE3 hs3 => ?_
    repeat' (refine za ?_)
    refine r_stN (ws := [.int .i64 0, .slice none 0 0]) ag72 (by decide) hb3 rfl rfl rfl rfl (by intro q hq; simp at hq; rcases hq with rfl | rfl <;> rfl) fun w4 h4 hC4 hs4 => ?_
    have hE4 : Ext w2 w4 := Ch.trans' hE3 hC4 fun k hk e => by omega
    repeat' (first|refine za ?_|refine zA ?_|refine zB ?_|refine zb ?_|refine zc ?_|refine ze ?_|refine zd ?_|refine zO ?_|refine zX ?_|refine zn ?_|refine zf ?_)
    refine post3 (v1 := .slice none 0 0) (v2 := .slice none 0 0) (v3 := .int .i64 2) rfl rfl rfl rfl ?_
    refine ⟨?_, hE2.trans hE4⟩
    unfold OriR; rw [if_neg hG]
  rw [if_pos hG]
  have hGe := hG.ed
  have hn := hG.1
  have hlen := hG.len
  obtain ⟨m, rfl⟩ : ∃ m : Nat, n = m := ⟨n.toNat, by omega⟩
  repeat' (first|refine za ?_|refine zA ?_|refine zS ?_)
  refine r_allocN z72 fun w3 hb3 hE3 hs3 => ?_
  obtain ⟨b7, eb7⟩ : ∃ b, b = w2.heap.size := ⟨_, rfl⟩
  rw [← eb7] at hb3 ⊢
  repeat' (refine za ?_)
  refine r_stN (ws := [.int .i64 (m : Int), .slice qe L.length ce]) ag72 (by decide) hb3 rfl rfl rfl rfl (by intro q hq; simp at hq; rcases hq with rfl | rfl <;> rfl) fun w4 h4 hC4 hs4 => ?_
  have hE4 : Ext w2 w4 := Ch.trans' hE3 hC4 fun k hk e => by omega
  have hE04 := hE2.trans hE4
  have hsz2 := hE2.size
  repeat' (first|refine za ?_|refine zA ?_|refine zB ?_|refine zb ?_|refine zc ?_|refine ze ?_|refine zd ?_|refine zO ?_|refine zY ?_|refine zk ?_|refine zl ?_)
  refine wc_loop3 [0, 1, 7] (fun (i : Nat) (_ : List Int) (vp : Value) => [(9, vp), (10, .int .i64 i)]) (fun i pr vp wk => PrvN m L i pr ∧ OwnI wk w.heap.size 3 vp pr ∧ Ext w wk ∧ Blk wk b7 109 [.int .i64 (m : Int), .slice qe L.length ce]) (fun i _ _ => 122 - i) 0 [] (.slice none 0 0) rfl ⟨rfl, rfl, trivial⟩
    ⟨.inl ⟨rfl, rfl⟩, World.ownsRow_nil _ _ _ _, hE04, h4⟩ ?_
  clear h4 hC4 hE4 hb3 hE3 hE04
  rintro i pr vp wk x ⟨hp, hO, hE, hB7⟩
  have hi := hp.le hlen
  have hOs := hE.size
  repeat' (first|refine za ?_|refine zc ?_|refine zd ?_|refine zl ?_)
  refine r_ldN (vs := [.int .i64 (m : Int), .slice qe L.length ce]) ag72 (by decide) hB7 rfl rfl ?_
  repeat' (first|refine za ?_|refine zA ?_)
  refine r_build (built48 i 1) ?_
  repeat' (refine za ?_)
  (refine r_call (R := ?_) rfl ?_ ?_; rotate_left 1; focus exact shared_any (m : Int) i 1 _ L wk (h.ext hE) hl (fun g hg => by have := hel g hg; have := hE.size; omega) hGe hn (by omega) (by omega))
  rintro v w8 ⟨hR, hE8⟩
  have hE08 := hE.trans hE8
  rcases hR with ⟨b, q, c, Sh, Ld, rfl, hW, hS, hall⟩ | ⟨S, g, c, rfl, hOS, hAsc, hpos, hrng, hlt⟩
  rotate_left 1
  · repeat' (first|refine za ?_|refine zA ?_|refine zB ?_|refine zb ?_|refine zc ?_|refine ze ?_|refine zd ?_|refine zS ?_)
    refine r_neqnil_t rfl rfl rfl rfl ?_
    repeat' (first|refine za ?_|refine zA ?_|refine zB ?_|refine zb ?_|refine zc ?_|refine ze ?_|refine zd ?_|refine zI ?_|refine zX ?_|refine zm ?_|refine zg ?_|refine zj ?_)
    refine ⟨i + 1, S, .slice (some ⟨g, 0, none⟩) S.length c, ⟨rfl, rfl, trivial⟩, ⟨.inr ⟨by omega, hAsc, hpos, hrng, ?_⟩, ownsRow_mono hOS hOs, hE08, hB7.ext hE8⟩, by omega⟩
    rw [Int.natCast_add, Int.natCast_one, Int.add_sub_cancel]
    omega
  have hdis : ∀ k, k < L.length → (ed L k).1 ≠ (ed L k).2 := fun k hk => by have := hGe k hk; omega
  have hOne : One L Sh := fun k hk => ⟨hS.pos k hk, hall k hk⟩
  have hO8 := ownsRow_ext hO hE8
  have hsl := hW.len
  repeat' (first|refine za ?_|refine zA ?_|refine zB ?_|refine zb ?_|refine zc ?_|refine ze ?_|refine zd ?_|refine zS ?_)
  refine r_neqnil_f rfl rfl rfl ?_
  repeat' (first|refine za ?_|refine zA ?_|refine zB ?_|refine zb ?_|refine zc ?_|refine ze ?_|refine zd ?_|refine zK ?_|refine zY ?_|refine zk ?_|refine zl ?_)
  refine wc_loop2 [9, 11, 36, 37] (fun (k : Nat) (vh : Value) => [(13, vh), (38, .int .i64 k)]) (fun k vh wj => k ≤ L.length ∧ OwnI wj w8.heap.size 3 vh (hdF L Sh k) ∧ Ext w8 wj) (fun k _ => L.length - k) 0 (.slice none 0 0) rfl ⟨rfl, rfl, trivial⟩
    ⟨by omega, World.ownsRow_nil _ _ _ _, Ext.refl _⟩ ?_
  rintro k vh wj y ⟨hk, hOh, hEj⟩
  by_cases hin : k < L.length
  · have hE0j := hE08.trans hEj
    obtain ⟨hr0, hr1⟩ := (h.ext hE0j).rd hin
    have hps := h.isSome (by omega)
    have hst : hdF L Sh (k + 1) = hdF L Sh k ++ [(ed L k).1 * (ed Sh k).1 + (ed L k).2 * (ed Sh k).2] := rfl
    have hone := hOne.at hin
    have hab := hGe k hin
    have hln := hdF_len (L := L) (Sh := Sh) k
    unfold ed at hst hone hab
    generalize eab : L.getD k (0, 0) = ab at *
    obtain ⟨a, b'⟩ := ab
    dsimp only at hst hone hab
    repeat' (first|refine za ?_|refine zA ?_|refine zb ?_|refine zc ?_|refine ze ?_|refine zd ?_|refine zC ?_|refine zL ?_|refine zX ?_|refine zk ?_|refine zl ?_)
    refine r_ldP ag46 rfl hr0 hr1 ?_
    repeat' (refine za ?_)
    refine r_allocN z46 fun w10 hb10 hE10 hs10 => ?_
    repeat' (first|refine za ?_|refine zB ?_)
    refine r_stN (ws := [.int .i64 a, .int .i64 b']) ag46 (by decide) hb10 (by rw [ints_length]; simp) rfl rfl rfl (by intro q hq; simp at hq; rcases hq with rfl | rfl <;> rfl) fun w11 h11 hC11 hs11 => ?_
    have hE11 : Ext wj w11 := Ch.trans' hE10 hC11 fun k hk e => by omega
    have hEd := hE11.trans (Ext.drew w11)
    have h11d := h11.ext (Ext.drew w11)
    have hWd := hW.ext (hEj.trans hEd)
    obtain ⟨r0, r1, r2, r3, r4⟩ := hWd.rds
    have hqs := hWd.isSome (by omega)
    have hel2 : ∀ w', Ch (fun k => vh.ownBlock = some k) w11.drew w' → ShW w' b wk.heap.size m i 1 (.slice qe L.length ce) q c L Sh Ld := fun w' hw' => hW.new (Ch.trans' ((hEj.trans hEd).ch) hw' fun k hk e => (World.ownsRow.lt hOh k e).1) (Nat.le_refl _) fun g hg => by
      have := hel g hg; have := hE08.size; omega
    have hs0 := fun w' hw' => ((hel2 w' hw').rdSh hin).1
    have hs1 := fun w' hw' => ((hel2 w' hw').rdSh hin).2
    have hps' := pidx_isSome (i := k) (sz := 2) hqs
    have hOhd := ownsRow_ext hOh hEd
    have hszd := (hEj.trans hEd).size
    unfold ed at hs0 hs1
    generalize Sh.getD k (0, 0) = sp at *
    obtain ⟨x0, x1⟩ := sp
    dsimp only at hst hone hs0 hs1
    have hx : (0 ≤ x0 ∧ x0 ≤ 1) ∧ (0 ≤ x1 ∧ x1 ≤ 1) := by
      rcases hone with ⟨e, _⟩ | ⟨e, _⟩ <;> cases e <;> omega
    have m0 : -9223372036854775808 ≤ a * x0 ∧ a * x0 ≤ 16 := by
      have h1 : 0 ≤ a * x0 := Int.mul_nonneg (by omega) (by omega)
      have h2 : a * x0 ≤ a * 1 := Int.mul_le_mul_of_nonneg_left (by omega) (by omega)
      omega
    have m1 : -9223372036854775808 ≤ b' * x1 ∧ b' * x1 ≤ 16 := by
      have h1 : 0 ≤ b' * x1 := Int.mul_nonneg (by omega) (by omega)
      have h2 : b' * x1 ≤ b' * 1 := Int.mul_le_mul_of_nonneg_left (by omega) (by omega)
      omega
    have m0' : 0 ≤ a * x0 := Int.mul_nonneg (by omega) (by omega)
    have m1' : 0 ≤ b' * x1 := Int.mul_nonneg (by omega) (by omega)
    repeat' (first|refine zb ?_|refine ze ?_)
    have hbW := hW.blk.lt
    have hOj := fun k hk => World.ownsRow.lt hOh k hk
    have hCd : ∀ w', Ch (fun k => vh.ownBlock = some k) w11.drew w' → Ch (fun k => w8.heap.size ≤ k) w8 w' := fun w' hw' => Ch.trans' ((hEj.trans hEd).ch) hw' fun k hk e => (hOj k e).1
    have hWk : ∀ w', Ch (fun k => vh.ownBlock = some k) w11.drew w' → ShW w' b wk.heap.size m i 1 (.slice qe L.length ce) q c L Sh Ld := fun w' hw' => hW.new (hCd w' hw') (Nat.le_refl _) fun g hg => by
      have := hel g hg; have := hE08.size; omega
    have hBk : ∀ w', Ch (fun k => vh.ownBlock = some k) w11.drew w' → Blk w' wj.heap.size 40 [.int .i64 a, .int .i64 b'] := fun w' hw' => h11d.keep hw' fun e => by
      have := (hOj _ e).2; omega
    refine wc_heldB (fun w' => Ch (fun k => vh.ownBlock = some k) w11.drew w') (.take 0 (.take 1 (.take 2 (.take 3 (.take 4 (.take 5 (.take 6 (.take 7 (.take 8 (.take 9 (.take 10 (.take 11 (.take 12 (.take 13 (.take 14 (.take 15 (.take 16 (.take 17 (.take 18 (.take 19 (.take 20 (.take 21 (.take 22 (.take 23 (.one 24 (.one 25 (.one 26 .done))))))))))))))))))))))))))) (by kernel_rfl) (by kernel_rfl) (Ch.refl _ _) ?_
    refine whB_take (v := vh) rfl rfl (fun w' hw' => rv_move_v rfl) ?_
    refine whB_take rfl rfl (fun w' hw' => rv_faE (o' := 0) fo46_0 rfl rfl) ?_
    refine whB_take rfl rfl (fun w' hw' => rv_ld rfl rfl ((hBk w' hw').rd (v := .int .i64 a) rfl)) ?_
    refine whB_take (v := .pointer (some ⟨b, 0, none⟩)) rfl rfl (fun w' hw' => rv_move_v rfl) ?_
    refine whB_take rfl rfl (fun w' hw' => rv_nil rfl) ?_
    refine whB_take rfl rfl (fun w' hw' => rv_faE (o' := 4) fo89_3 rfl rfl) ?_
    refine whB_take rfl rfl (fun w' hw' => rv_ld rfl rfl (hWk w' hw').rds.2.2.2.2) ?_
    refine whB_take (v := .int .i64 k) rfl rfl (fun w' hw' => rv_move_v rfl) ?_
    refine whB_take rfl rfl (fun w' hw' => rv_idx sz49 rfl rfl hqs (by omega) (by omega)) ?_
    refine whB_take rfl rfl (fun w' hw' => rv_of rfl (fun _ h => r_idxQ ar42 rfl hps' rfl (by decide) (by decide) h) fun _ _ h => val_of h) ?_
    refine whB_take rfl rfl (fun w' hw' => rv_ld rfl rfl (hs0 w' hw')) ?_
    refine whB_take rfl rfl (fun w' hw' => rv_mul rfl rfl ⟨by omega, by omega⟩) ?_
    refine whB_take rfl rfl (fun w' hw' => rv_faE (o' := 1) fo46_1 rfl rfl) ?_
    refine whB_take rfl rfl (fun w' hw' => rv_ld rfl rfl ((hBk w' hw').rd (v := .int .i64 b') rfl)) ?_
    refine whB_take (v := .pointer (some ⟨b, 0, none⟩)) rfl rfl (fun w' hw' => rv_move_v rfl) ?_
    refine whB_take rfl rfl (fun w' hw' => rv_nil rfl) ?_
    refine whB_take rfl rfl (fun w' hw' => rv_faE (o' := 4) fo89_3 rfl rfl) ?_
    refine whB_take rfl rfl (fun w' hw' => rv_ld rfl rfl (hWk w' hw').rds.2.2.2.2) ?_
    refine whB_take (v := .int .i64 k) rfl rfl (fun w' hw' => rv_move_v rfl) ?_
    refine whB_take rfl rfl (fun w' hw' => rv_idx sz49 rfl rfl hqs (by omega) (by omega)) ?_
    refine whB_take rfl rfl (fun w' hw' => rv_of rfl (fun _ h => r_idxQ ar42 rfl hps' rfl (by decide) (by decide) h) fun _ _ h => val_of h) ?_
    refine whB_take rfl rfl (fun w' hw' => rv_ld rfl rfl (hs1 w' hw')) ?_
    refine whB_take rfl rfl (fun w' hw' => rv_mul rfl rfl ⟨by omega, by omega⟩) ?_
    refine whB_take rfl rfl (fun w' hw' => rv_add rfl rfl ⟨by omega, by omega⟩) ?_
    refine whB_one rfl rfl ?_
    refine r_buildI1 (a := a * x0 + b' * x1) el23 rfl fun w12 hI12 hE12 hs12 => ?_
    refine ⟨Ext.ch hE12, ?_⟩
    refine whB_one rfl rfl ?_
    refine r_append_i el23 (ownsRow_ext hOhd hE12) hI12 rfl rfl (by simp; omega) (by omega) fun v13 w13 hO13 hg13 _ _ => ?_
    have hC13 : Ch (fun k => vh.ownBlock = some k) w11.drew w13 := hE12.ch.trans (Ch.grown hg13 fun k hk => hk)
    refine ⟨hC13, ?_⟩
    refine whB_one rfl rfl ?_
    refine r_assign_v (v := v13) rfl ?_
    refine ⟨hC13, ?_⟩
    refine whB_done ?_
    repeat' (first|refine za ?_|refine zA ?_|refine zb ?_|refine ze ?_|refine zd ?_|refine zI ?_|refine zh ?_)
    refine ⟨k + 1, v13, ⟨rfl, rfl, trivial⟩, ⟨by omega, by rw [hst]; exact hO13, Ch.trans' (hEj.trans hEd) hC13 fun k hk e => by have := (hOj k e).1; omega⟩, by omega⟩
  · have : k = L.length := by omega
    subst this
    have hOf := ownsRow_ext hO8 hEj
    repeat' (first|refine za ?_|refine zA ?_|refine zB ?_|refine zb ?_|refine zc ?_|refine ze ?_|refine zd ?_|refine zC ?_|refine zY ?_|refine zm ?_|refine zn ?_|refine zf ?_|refine zg ?_|refine zj ?_|refine zi ?_)
    refine post3 (v1 := vh) (v2 := vp) (v3 := .int .i64 0) rfl rfl rfl rfl ⟨?_, hE08.trans hEj⟩
    unfold OriR
    rw [if_pos hG]
    refine ⟨hdF L Sh L.length, pr, vh, vp, rfl, ownsRow_mono hOh (by have := hE08.size; omega), hOf, fun g hg e => ?_, hOne.ok, i, fun u hu => ?_, hp⟩
    · have h1 := (World.ownsRow.lt hOh g hg).1
      have h2 := (World.ownsRow.lt hO8 g e).2
      omega
    · rw [hOne.load hdis, ← hS.load u hu]; exact hS.le u hu
end Bg
end Go.Proofs.YtocgehoffdjijaaGreat

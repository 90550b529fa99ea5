/- forks: vectors of trees; mirrored trees; trees with a vector. -/
import Derived.Test.YtocgehoffdjijaaGreatLi
namespace Go.Proofs.YtocgehoffdjijaaGreat
open Gv
theorem zr109 : (Tryz.prog.info? 189).bind (·.zero) = some (.agg #[.nilIface, .nilIface]) := by kernel_rfl
theorem zt109 : zeroT Tryz.prog 189 = some (.agg #[.nilIface, .nilIface]) := by kernel_rfl
theorem ag109 : aggT Tryz.prog 189 2 = true := by kernel_rfl
theorem two_one (l r : T) : ∀ q ∈ [tv l, tv r], q.oneCell' = true := by
  intro q hq
  simp only [List.mem_cons, List.not_mem_nil, or_false] at hq
  rcases hq with rfl | rfl <;> exact tv_one _
theorem nil_one : ∀ q ∈ [Value.nilIface, Value.nilIface], q.oneCell' = true := by
  intro q hq
  simp only [List.mem_cons, List.not_mem_nil, or_false] at hq
  rcases hq with rfl | rfl <;> rfl
theorem Ints.sl {w : World} {v : Value} {L : List Int} (h : Ints w v L) : Sl w 1 v (ints L).length (ints L) := by rw [ints_length]; exact h
theorem ints_flat (a b c : List Int) : [ints a, ints b, ints c].flatten = ints (a ++ b ++ c) := by simp [ints]
set_option maxRecDepth 20000 in
set_option maxHeartbeats 4000000 in
theorem vector_any : ∀ (x : T) (w : World), x.size ≤ 10000 → Calls Tryz.prog 87 #[tv x] w (Ret fun v w' => OwnI w' w.heap.size 3 v x.vec ∧ Ext w w')
  | .lf, w, _ => by
    refine calls_of_wc (args := [tv .lf]) Tryz.func87 rfl ?_ ?_; kernel_rfl
    repeat' (first|refine za ?_|refine zA ?_|refine zB ?_|refine zb ?_|refine zc ?_|refine ze ?_|refine zd ?_)
    refine r_assert_f cc109 (t' := 237) (v := .agg #[]) rfl rfl zt109 ?_
    repeat' (first|refine za ?_|refine zA ?_|refine zS ?_)
    refine r_allocN (zs := [.nilIface, .nilIface]) zr109 fun w1 hb1 hE1 hs1 => ?_
    repeat' (refine za ?_)
    refine r_stN (n := 2) (vs := [.nilIface, .nilIface]) (ws := [.nilIface, .nilIface]) ag109 (by decide) hb1 rfl rfl rfl rfl nil_one fun w2 hb2 hC2 hs2 => ?_
    repeat' (first|refine za ?_|refine zA ?_|refine zB ?_|refine zb ?_|refine zc ?_|refine ze ?_|refine zd ?_|refine zO ?_|refine zX ?_|refine zn ?_|refine zf ?_)
    refine post1 (v := .slice none 0 0) rfl rfl ?_
    exact ⟨World.ownsRow_nil _ _ _ _, Ext.of_one hE1 hC2⟩
  | .nd l r, w, hb => by
    have hsz : (T.nd l r).size = 1 + l.size + r.size := rfl
    refine calls_of_wc (args := [tv (.nd l r)]) Tryz.func87 rfl ?_ ?_; kernel_rfl
    repeat' (first|refine za ?_|refine zA ?_|refine zB ?_|refine zb ?_|refine zc ?_|refine ze ?_|refine zd ?_)
    refine r_assert_t cc109 (v := .agg #[tv l, tv r]) rfl ?_
    repeat' (first|refine za ?_|refine zA ?_|refine zS ?_)
    refine r_allocN (zs := [.nilIface, .nilIface]) zr109 fun w1 hb1 hE1 hs1 => ?_
    repeat' (refine za ?_)
    refine r_stN (n := 2) (vs := [.nilIface, .nilIface]) (ws := [tv l, tv r]) ag109 (by decide) hb1 rfl rfl rfl rfl (two_one l r) fun w2 hb2 hC2 hs2 => ?_
    have hE2 := Ext.of_one hE1 hC2
    obtain ⟨b, eb⟩ : ∃ b, b = w.heap.size := ⟨_, rfl⟩
    rw [← eb] at hb2
    rw [← eb]
    have hbd := hb2.ext (Ext.drew w2)
    repeat' (first|refine za ?_|refine zA ?_|refine zB ?_|refine zb ?_|refine zc ?_|refine ze ?_|refine zd ?_|refine zO ?_|refine zY ?_|refine zk ?_)
    refine wc_heldB (fun w' => Ext w2.drew w') (.take 0 (.take 1 (.take 3 (.take 4 (.take 7 (.take 8 (.one 2 (.one 5 (.two 6 (.one 9 (.one 10 (.one 11 (.one 12 .done)))) 9 (.one 6 (.one 10 (.one 11 (.one 12 .done))))))))))))) (by kernel_rfl) (by kernel_rfl) (Ext.refl _) ?_
    refine whB_take rfl rfl (fun w' hw' => rv_faE (o' := 0) fo109_0 rfl rfl) ?_
    refine whB_take rfl rfl (fun w' hw' => rv_ld ct80 rfl ((hbd.ext hw').rd (v := tv l) rfl)) ?_
    refine whB_take rfl rfl (fun w' hw' => rv_faE (o' := 1) fo109_1 rfl rfl) ?_
    refine whB_take rfl rfl (fun w' hw' => rv_ld ct80 rfl ((hbd.ext hw').rd (v := tv r) rfl)) ?_
    refine whB_take rfl rfl (fun w' hw' => rv_faE (o' := 1) fo109_1 rfl rfl) ?_
    refine whB_take rfl rfl (fun w' hw' => rv_ld ct80 rfl ((hbd.ext hw').rd (v := tv r) rfl)) ?_
    refine whB_one rfl rfl ?_
    (refine r_call (R := ?_) rfl ?_ ?_; rotate_left 1; focus exact vector_any l _ (by omega))
    rintro v3 w3 ⟨hO3, hE3⟩
    refine ⟨hE3, ?_⟩
    refine whB_one rfl rfl ?_
    refine r_size (t := r) (by omega) rfl fun w4 hE4 => ?_
    have hE24 := hE3.trans hE4
    refine ⟨hE24, ?_⟩
    have hvec : (T.nd l r).vec = l.vec ++ [(r.size : Int)] ++ r.vec := by simp [T.vec]
    obtain ⟨q3, c3, e3, _⟩ := hO3.ints.slice
    have hlen : (l.vec ++ [(r.size : Int)] ++ r.vec).length ≤ 10000 := by rw [← hvec, T.vec_len]; omega
    have hfin : ∀ (v5 v6 : Value) (w6 : World), Ext w2.drew w6 → Ints w6 v3 l.vec → Ints w6 v5 [(r.size : Int)] → Ints w6 v6 r.vec → ∀ (w7 : World), Gv.Own w7 w6.heap.size 27 (.slice (some ⟨w6.heap.size, 0, none⟩) 3 3) [v3, v5, v6] → Ext w6 w7 →
        Calls Tryz.prog 125 #[.slice (some ⟨w6.heap.size, 0, none⟩) 3 3] w7 (Ret fun v' w' => OwnI w' w.heap.size 3 v' (T.nd l r).vec ∧ Ext w2.drew w') := by
      intro v5 v6 w6 hE6 h3 h5 h6 w7 hO7 hE7
      refine Ret.mono (concatI_any _ [ints l.vec, ints [(r.size : Int)], ints r.vec] w7 ⟨_, by simpa using Gv.Own.sl hO7, ?_⟩ ?_ (by simp) ?_) fun v' w' ⟨h1, h2⟩ => ?_
      · intro i hi
        have : i < 3 := hi
        rcases i with _ | _ | _ | i
        · exact ⟨v3, rfl, Ints.sl (h3.ext hE7)⟩
        · exact ⟨v5, rfl, Ints.sl (h5.ext hE7)⟩
        · exact ⟨v6, rfl, Ints.sl (h6.ext hE7)⟩
        · omega
      · rw [ints_flat]; exact ints_one _
      · rw [ints_flat, ints_length]; omega
      · rw [ints_flat, ← hvec] at h1
        have hEE : Ext w w7 := (hE2.trans (Ext.drew w2)).trans (hE6.trans hE7)
        refine ⟨?_, (hE6.trans hE7).trans h2⟩
        unfold Gv.Own at h1
        rw [ints_length] at h1
        exact ownsRow_mono h1 hEE.size
    have one3 : v3.oneCell' = true := by rw [e3]; rfl
    refine whB_two rfl rfl rfl rfl ?_ ?_
    · refine r_buildS1 (u := .int .i64 (r.size : Int)) el22 rfl rfl fun w5 hO5 hE5 hs5 => ?_
      refine ⟨hE24.trans hE5, ?_⟩
      refine whB_one rfl rfl ?_
      (refine r_call (R := ?_) rfl ?_ ?_; rotate_left 1; focus exact vector_any r _ (by omega))
      rintro v6 w6 ⟨hO6, hE6⟩
      obtain ⟨q6, c6, e6, _⟩ := hO6.ints.slice
      have one6 : v6.oneCell' = true := by rw [e6]; rfl
      refine ⟨hE24.trans (hE5.trans hE6), ?_⟩
      refine whB_one rfl rfl ?_
      refine r_buildV3 (u1 := v3) (u2 := .slice (some ⟨w4.heap.size, 0, none⟩) 1 1) (u3 := v6) el122 rfl rfl rfl one3 rfl one6 fun w7 hO7 hE7 hs7 => ?_
      refine ⟨hE24.trans (hE5.trans (hE6.trans hE7)), ?_⟩
      refine whB_one rfl rfl ?_
      (refine r_call (R := ?_) rfl ?_ ?_; rotate_left 1; focus exact hfin _ _ _ (hE24.trans (hE5.trans hE6)) (hO3.ints.ext (hE4.trans (hE5.trans hE6))) (Sl.ext (by simpa [ints] using Gv.Own.sl hO5) hE6) hO6.ints w7 hO7 hE7)
      rintro v8 w8 ⟨hO8, hE8⟩
      refine ⟨hE8, ?_⟩
      refine whB_one rfl rfl ?_
      refine r_assign_v (v := v8) rfl ?_
      refine ⟨hE8, whB_done ?_⟩
      repeat' (first|refine ze ?_|refine zn ?_)
      refine post1 (v := v8) rfl rfl ?_
      exact ⟨by rw [eb]; exact hO8, (hE2.trans (Ext.drew w2)).trans hE8⟩
    · (refine r_call (R := ?_) rfl ?_ ?_; rotate_left 1; focus exact vector_any r _ (by omega))
      rintro v6 w5 ⟨hO6, hE5⟩
      obtain ⟨q6, c6, e6, _⟩ := hO6.ints.slice
      have one6 : v6.oneCell' = true := by rw [e6]; rfl
      refine ⟨hE24.trans hE5, ?_⟩
      refine whB_one rfl rfl ?_
      refine r_buildS1 (u := .int .i64 (r.size : Int)) el22 rfl rfl fun w6 hO5 hE6 hs6 => ?_
      refine ⟨hE24.trans (hE5.trans hE6), ?_⟩
      refine whB_one rfl rfl ?_
      refine r_buildV3 (u1 := v3) (u2 := .slice (some ⟨w5.heap.size, 0, none⟩) 1 1) (u3 := v6) el122 rfl rfl rfl one3 rfl one6 fun w7 hO7 hE7 hs7 => ?_
      refine ⟨hE24.trans (hE5.trans (hE6.trans hE7)), ?_⟩
      refine whB_one rfl rfl ?_
      (refine r_call (R := ?_) rfl ?_ ?_; rotate_left 1; focus exact hfin _ _ _ (hE24.trans (hE5.trans hE6)) (hO3.ints.ext (hE4.trans (hE5.trans hE6))) (by simpa [Ints, ints] using Gv.Own.sl hO5) (hO6.ints.ext hE6) w7 hO7 hE7)
      rintro v8 w8 ⟨hO8, hE8⟩
      refine ⟨hE8, ?_⟩
      refine whB_one rfl rfl ?_
      refine r_assign_v (v := v8) rfl ?_
      refine ⟨hE8, whB_done ?_⟩
      repeat' (first|refine ze ?_|refine zn ?_)
      refine post1 (v := v8) rfl rfl ?_
      exact ⟨by rw [eb]; exact hO8, (hE2.trans (Ext.drew w2)).trans hE8⟩
/-- mirror. -/
theorem rv_build {P : Program} {ρ : Env} {w : World} {d : Nat} {t ty : TypeId} {pos : String} {aft : Array Edge} {gd : Option (Nat × Bool)} {parts : List (Nat × Operand)} {cells : Array Value} (hb : P.built t (parts.map fun p => (p.1, ev ρ p.2)) = some cells) :
    (execOp (ev ρ) ⟨some d, .build t parts.toArray, ty, pos, aft, gd⟩).run P w = .ok (.value (.agg cells)) w := rv_of rfl (fun _ h => r_build hb h) fun _ _ h => val_of h
theorem rv_iface {P : Program} {ρ : Env} {w : World} {d : Nat} {t ty : TypeId} {pos : String} {aft : Array Edge} {gd : Option (Nat × Bool)} {x : Operand} {v : Value} (ht : concreteT P t = true) (hx : ev ρ x = v) :
    (execOp (ev ρ) ⟨some d, .makeInterface t x, ty, pos, aft, gd⟩).run P w = .ok (.value (.iface t v)) w := rv_of rfl (fun _ h => r_iface ht hx h) fun _ _ h => val_of h
theorem ints_get0 {L : List Int} {i : Nat} {q : Option Addr} {n c : Nat} {w : World} (h : Ints w (.slice q n c) L) (hi : i < L.length) {j : Int} (hj : j = i) : rd w (pidx q j.toNat 1) = some (.int .i64 (L.getD i 0)) := by
  subst hj; rw [Int.toNat_natCast]; exact h.rd hi
theorem rv_sliceI {P : Program} {ρ : Env} {w : World} {d : Nat} {t ty : TypeId} {pos : String} {aft : Array Edge} {gd : Option (Nat × Bool)} {x : Operand} {lo hi : Option Operand} {q : Option Addr} {n c l h' : Nat} (hi_ : sliceSz P t = some 1) (hx : ev ρ x = .slice q n c) (hl : bnd ρ lo l 0) (hh : bnd ρ hi h' n) (h1 : l ≤ h') (h2 : h' ≤ c) :
    (execOp (ev ρ) ⟨some d, .slice t x lo hi none, ty, pos, aft, gd⟩).run P w = .ok (.value (.slice (if c = l then q else q.map fun a => a.add (l * 1)) (h' - l) (c - l))) w := rv_of rfl (fun _ h => r_slice hi_ hx hl hh h1 h2 h) fun _ _ h => val_of h
theorem Ints.part {w : World} {q : Option Addr} {c l h' : Nat} {A : List Int} (hs : Ints w (.slice q A.length c) A) (h1 : l ≤ h') (h2 : h' ≤ A.length) :
    Ints w (.slice (if c = l then q else q.map fun a => a.add (l * 1)) (h' - l) (c - l)) ((A.drop l).take (h' - l)) := by
  have := Sl.part (sz := 1) hs h1 h2
  have hlen : ((A.drop l).take (h' - l)).length = h' - l := by simp; omega
  unfold Ints
  rw [hlen, ← ints_take, ← ints_drop]
  simpa using this
end Go.Proofs.YtocgehoffdjijaaGreat

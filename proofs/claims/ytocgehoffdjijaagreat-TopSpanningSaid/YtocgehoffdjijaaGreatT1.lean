/- top: four. -/
import Derived.Test.YtocgehoffdjijaaGreatSC
import Derived.Test.YtocgehoffdjijaaGreatBY
import Derived.Test.YtocgehoffdjijaaGreatCl
import Derived.Test.YtocgehoffdjijaaGreatLC
namespace Go.Proofs.YtocgehoffdjijaaGreat
open Gv
set_option maxRecDepth 20000
abbrev E01 : List (Int × Int) := [(0, 1)]
theorem isG01 : Bg.IsG 2 E01 := by
  refine ⟨by decide, by decide, fun i hi => ?_⟩
  have : i = 0 := by simpa using hi
  subst this
  exact ⟨by decide, fun k hk => by omega⟩
theorem isS01 : Bg.IsS 2 [0, 1] := by
  refine ⟨by decide, fun i hi => ?_⟩
  have : i = 0 ∨ i = 1 := by have : i < 2 := hi; omega
  rcases this with rfl | rfl
  · exact ⟨by decide, fun h => by omega⟩
  · exact ⟨by decide, fun _ => by decide⟩
theorem dst01 {v : Value} (h : Bg.DstR 2 E01 [0, 1] v) : v = .tuple #[.agg #[.int .i64 1, .int .i64 2], .int .i64 0] := by
  unfold Bg.DstR at h
  rw [if_pos ⟨isG01, isS01⟩] at h
  have h1 : Bg.insE E01 [0, 1] E01.length = 1 := by
    show Bg.insE E01 [0, 1] 0 + _ = 1
    rw [if_pos ⟨⟨0, by decide, by decide⟩, ⟨1, by decide, by decide⟩⟩]; rfl
  have e1 : Bg.dnum E01 [0, 1] = 1 := by unfold Bg.dnum; rw [h1]; rfl
  have e2 : Bg.dden E01 [0, 1] = 2 := by unfold Bg.dden; rw [h1]; rfl
  rw [h, e1, e2]; rfl
theorem vecP {t : T} (h : ([40, 46, 46, 41] : Str) = t.text) : t.vec = [0] := by
  have e : (T.nd .lf .lf).text = t.text := h
  have := text_inj e
  subst this
  rfl
theorem bt40 (a b : Int) : Tryz.prog.built 40 [(0, .int .i64 a), (1, .int .i64 b)] = some #[.int .i64 a, .int .i64 b] := by kernel_rfl
theorem bt60 (a b c : Int) : Tryz.prog.built 60 [(0, .int .i64 a), (1, .int .i64 b), (2, .int .i64 c)] = some #[.int .i64 a, .int .i64 b, .int .i64 c] := by kernel_rfl
theorem bt47 (a b : Int) : Tryz.prog.built 47 [(0, .int .i64 a), (1, .int .i64 b)] = some #[.int .i64 a, .int .i64 b] := by kernel_rfl
theorem eT37 : elemI Tryz.prog 37 = some (40, .agg #[.int .i64 0, .int .i64 0], 2, 16) := by kernel_rfl
theorem eT58 : elemI Tryz.prog 58 = some (60, .agg #[.int .i64 0, .int .i64 0, .int .i64 0], 3, 24) := by kernel_rfl
theorem zT47 : (Tryz.prog.info? 47).bind (·.zero) = some (.agg [.int .i64 0, .int .i64 0].toArray) := by kernel_rfl
theorem aT47 : aggT Tryz.prog 47 2 = true := by kernel_rfl
theorem qT47 : eqInts Tryz.prog 47 3 2 = true := by kernel_rfl
set_option maxHeartbeats 4000000 in
theorem four_any (w : World) : Calls Tryz.prog 14 #[] w (Ret fun v w' => v = .bool true ∧ Ext w w') := by
  refine calls_of_wc (args := []) Tryz.func14 rfl ?_ ?_; kernel_rfl
  repeat' (first|refine za ?_|refine zB ?_|refine zb ?_|refine zc ?_|refine ze ?_|refine zd ?_)
  refine r_build (cells := #[.int .i64 0, .int .i64 1]) (bt40 0 1) ?_
  repeat' (refine za ?_)
  refine r_buildS1q (a := .int .i64 0) (b := .int .i64 1) eT37 rfl fun w1 h1 hE1 hs1 => ?_
  repeat' (refine za ?_)
  refine r_buildS2 (a1 := 0) (a2 := 1) el27 rfl rfl fun w2 h2 hE2 hs2 => ?_
  repeat' (refine za ?_)
  have hp1 : Pairs2 w1 (.slice (some ⟨w.heap.size, 0, none⟩) 1 1) E01 := h1
  (refine r_call (R := ?_) rfl ?_ ?_; rotate_left 1; focus exact Bg.bdensity_any 2 _ _ E01 [0, 1] w2 (hp1.ext hE2) h2.ints (by decide) (by decide))
  rintro v w3 ⟨hv, hE3⟩
  obtain rfl := dst01 hv
  repeat' (first|refine za ?_|refine zA ?_|refine zS ?_)
  refine r_allocN zT47 fun w4 hb4 hE4 hs4 => ?_
  obtain ⟨b1, eb1⟩ : ∃ b, b = w3.heap.size := ⟨_, rfl⟩
  rw [← eb1] at hb4 ⊢
  repeat' (refine za ?_)
  refine r_stN (ws := [.int .i64 1, .int .i64 2]) aT47 (by decide) hb4 rfl rfl rfl rfl (by intro q hq; simp at hq; rcases hq with rfl | rfl <;> rfl) fun w5 h5 hC5 hs5 => ?_
  have hE5 : Ext w w5 := Ch.trans' (((hE1.trans hE2).trans hE3).trans hE4) hC5 fun k hk e => by have := ((hE1.trans hE2).trans hE3).size; omega
  repeat' (first|refine za ?_|refine zB ?_|refine zb ?_|refine zc ?_|refine ze ?_|refine zd ?_)
  refine r_build (cells := #[.int .i64 0, .int .i64 1, .int .i64 5]) (bt60 0 1 5) ?_
  repeat' (refine za ?_)
  refine r_buildS1t (a := 0) (b := 1) (c := 5) eT58 rfl fun w6 h6 hE6 hs6 => ?_
  repeat' (refine za ?_)
  (refine r_call (R := ?_) rfl ?_ ?_; rotate_left 1; focus exact Count_one _ 1 w6 h6)
  rintro _ w7 ⟨rfl, hE7⟩
  repeat' (first|refine za ?_|refine zA ?_|refine zB ?_|refine zb ?_|refine zc ?_|refine ze ?_|refine zd ?_|refine zS ?_)
  (refine r_call (R := ?_) rfl ?_ ?_; rotate_left 1; focus exact Vector_any [40, 46, 46, 41] w7)
  rintro v w8 ⟨hE8, hv8⟩
  have hv8' : ∃ q c, v = .tuple #[.slice q 1 c, .int .i64 0] ∧ Ints w8 (.slice q 1 c) [0] := by
    rcases hv8 with ⟨t, ht, _, u, rfl, hu⟩ | ⟨hn, _⟩
    · rw [vecP ht] at hu
      obtain ⟨q, c, rfl, _⟩ := hu.ints.slice
      exact ⟨q, c, rfl, hu.ints⟩
    · exact absurd ⟨T.nd .lf .lf, rfl, by decide⟩ hn
  obtain ⟨q8, c8, rfl, hi8⟩ := hv8'
  repeat' (first|refine za ?_|refine zA ?_|refine zB ?_|refine zb ?_|refine zc ?_|refine ze ?_|refine zd ?_|refine zS ?_)
  (refine r_call (R := ?_) rfl ?_ ?_; rotate_left 1; focus exact Least_any [97, 97] [1] w8 evenAA leastAA)
  rintro _ w9 ⟨c9, rfl, hi9, hE9⟩
  obtain ⟨q9, cc9, rfl, _⟩ := hi9.slice
  have hE59 := ((hE6.trans hE7).trans hE8).trans hE9
  repeat' (first|refine za ?_|refine zA ?_|refine zB ?_|refine zb ?_|refine zc ?_|refine ze ?_|refine zd ?_|refine zG ?_|refine zS ?_|refine zU ?_)
  refine r_ldN (vs := [.int .i64 1, .int .i64 2]) aT47 (by decide) (h5.ext hE59) rfl rfl ?_
  repeat' (refine zU ?_)
  refine r_build (cells := #[.int .i64 1, .int .i64 2]) (bt47 1 2) ?_
  repeat' (refine zU ?_)
  refine r_eqA_t (A := [1, 2]) (B := [1, 2]) qT47 rfl rfl rfl rfl rfl ?_
  repeat' (first|refine za ?_|refine zA ?_|refine zG ?_|refine zQ ?_|refine zU ?_)
  refine r_buildI1 (a := 0) el27 rfl fun w10 h10 hE10 hs10 => ?_
  repeat' (refine zU ?_)
  (refine r_call (R := ?_) rfl ?_ ?_; rotate_left 1; focus exact ints25 _ _ [0] [0] w10 ((hi8.ext hE9).ext hE10) h10 (by decide) (by decide))
  rintro v w11 ⟨hv, hE11⟩
  obtain rfl : v = .bool true := hv
  repeat' (first|refine za ?_|refine zA ?_|refine zG ?_|refine zQ ?_|refine zU ?_)
  refine r_buildI1 (a := 1) el27 rfl fun w12 h12 hE12 hs12 => ?_
  repeat' (refine zU ?_)
  (refine r_call (R := ?_) rfl ?_ ?_; rotate_left 1; focus exact ints25 _ _ [1] [1] w12 ((hi9.ext (hE10.trans hE11)).ext hE12) h12 (by decide) (by decide))
  rintro v w13 ⟨hv, hE13⟩
  obtain rfl : v = .bool true := hv
  repeat' (first|refine za ?_|refine zB ?_|refine zb ?_|refine ze ?_|refine zQ ?_|refine zn ?_)
  refine post1 (v := .bool true) rfl rfl ?_
  exact ⟨rfl, ((((hE5.trans hE59).trans hE10).trans hE11).trans hE12).trans hE13⟩
end Go.Proofs.YtocgehoffdjijaaGreat

/- bags: slices.Max, Height; bags: peel; bags: Cores, Peel. -/
import Derived.Test.YtocgehoffdjijaaGreatBX
import Derived.Test.YtocgehoffdjijaaGreatB4
import Derived.Test.YtocgehoffdjijaaGreatBPG
import Derived.Test.YtocgehoffdjijaaGreatBV
/- bags: slices.Max, Height. -/
namespace Go.Proofs.YtocgehoffdjijaaGreat
namespace Bg
set_option maxRecDepth 20000
open Gv
theorem ar75' : arrSz Tryz.prog 128 = some (16, 1) := by kernel_rfl
theorem z75 : (Tryz.prog.info? 128).bind (·.zero) = some (.agg (ints (List.replicate 16 0)).toArray) := by kernel_rfl
theorem fq46_0 : fldOff Tryz.prog 40 0 = some 0 := by kernel_rfl
theorem fq46_1 : fldOff Tryz.prog 40 1 = some 1 := by kernel_rfl
set_option maxRecDepth 20000 in
set_option maxHeartbeats 1000000 in
theorem max_any (v : Value) (L : List Int) (w : World) (h : Ints w v L) (h0 : 0 < L.length) (hm : L.length < 9223372036854775807) :
    Calls Tryz.prog 73 #[v] w (Ret fun v' w' => (∃ r, v' = .int .i64 r ∧ (∀ x, x ∈ L → x ≤ r) ∧ r ∈ L) ∧ w' = w) := by
  obtain ⟨q, c, rfl, hqc⟩ := h.slice
  have hps := h.isSome h0
  have hr0 := h.rd h0
  have hr0' : rd w (pidx q (0 : Int).toNat 1) = some (.int .i64 (L.getD 0 0)) := hr0
  have hz : ∀ k, k < 1 → L.getD k 0 ≤ L.getD 0 0 := fun k hk => by
    have : k = 0 := by omega
    rw [this]; exact Int.le_refl _
  refine calls_of_wc (args := [.slice q L.length c]) Tryz.func73 rfl ?_ ?_; kernel_rfl
  repeat' (first|refine za ?_|refine zA ?_|refine zB ?_|refine zb ?_|refine zc ?_|refine ze ?_|refine zd ?_|refine zC ?_|refine zK ?_|refine zL ?_|refine zM ?_|refine zY ?_|refine zk ?_|refine zl ?_)
  refine wc_loop2 [0] (fun (i : Nat) (r : Int) => [(3, .int .i64 r), (4, .int .i64 i)]) (fun i r wk => wk = w ∧ 1 ≤ i ∧ i ≤ L.length ∧ (∀ k, k < i → L.getD k 0 ≤ r) ∧ ∃ k, k < i ∧ L.getD k 0 = r) (fun i _ => L.length - i) 1 _ rfl ⟨rfl, rfl, trivial⟩ ⟨rfl, by omega, by omega, fun k hk => hz k hk, 0, by omega, rfl⟩ ?_
  rintro i r wk x ⟨rfl, hi1, hi, hall, hex⟩
  by_cases hin : i < L.length
  · have hr := h.rd hin
    repeat' (first|refine za ?_|refine zA ?_|refine zb ?_|refine zc ?_|refine ze ?_|refine zd ?_|refine zC ?_|refine zK ?_|refine zL ?_|refine zM ?_|refine zX ?_|refine zk ?_|refine zl ?_)
    refine r_max (c := max r (L.getD i 0)) rfl rfl ?_ ?_
    · rcases Int.le_total r (L.getD i 0) with c | c
      · rw [Int.max_eq_right c]; split <;> omega
      · rw [Int.max_eq_left c, if_neg (by omega)]
    repeat' (first|refine za ?_|refine zA ?_|refine zB ?_|refine zb ?_|refine ze ?_|refine zd ?_|refine zI ?_|refine zh ?_)
    refine ⟨i + 1, _, ⟨rfl, rfl, trivial⟩, ⟨rfl, by omega, by omega, fun k hk => ?_, ?_⟩, by omega⟩
    · by_cases e : k = i
      · subst e; exact Int.le_max_right _ _
      · exact Int.le_trans (hall k (by omega)) (Int.le_max_left _ _)
    · rcases Int.le_total r (L.getD i 0) with c | c
      · exact ⟨i, by omega, by rw [Int.max_eq_right c]⟩
      · obtain ⟨k, hk, e⟩ := hex
        exact ⟨k, by omega, by rw [Int.max_eq_left c]; exact e⟩
  · have : i = L.length := by omega
    subst this
    repeat' (first|refine za ?_|refine zA ?_|refine zB ?_|refine zb ?_|refine zc ?_|refine ze ?_|refine zd ?_|refine zC ?_|refine zK ?_|refine zY ?_|refine zm ?_|refine zn ?_|refine zg ?_|refine zj ?_)
    refine post1 (v := .int .i64 r) rfl rfl ?_
    refine ⟨⟨r, rfl, fun x hx => ?_, ?_⟩, rfl⟩
    · obtain ⟨k, hk, rfl⟩ := List.getElem_of_mem hx
      have := hall k hk
      rwa [getD_lt hk] at this
    · obtain ⟨k, hk, e⟩ := hex
      rw [← e]; exact getD_memI hk
def cntH (v : Int) : List Int → Int
  | [] => 0
  | x :: r => (if x = v then 1 else 0) + cntH v r
theorem cntH_append {v : Int} : ∀ {A B : List Int}, cntH v (A ++ B) = cntH v A + cntH v B
  | [], B => by simp [cntH]
  | x :: A, B => by rw [List.cons_append, cntH, cntH, cntH_append]; omega
theorem cntH_le {v : Int} : ∀ {A : List Int}, 0 ≤ cntH v A ∧ cntH v A ≤ A.length
  | [] => by simp [cntH]
  | x :: A => by
    have := cntH_le (v := v) (A := A)
    rw [cntH, List.length_cons]; split <;> omega
theorem take_snoc {A : List Int} {i : Nat} (h : i < A.length) : A.take (i + 1) = A.take i ++ [A.getD i 0] := by
  rw [List.take_add_one, List.getElem?_eq_getElem h, getD_lt h]; rfl
/-- An orientation. -/
def OkH (L : List (Int × Int)) (H : List Int) : Prop := H.length = L.length ∧ ∀ k, k < L.length → H.getD k 0 = (ed L k).1 ∨ H.getD k 0 = (ed L k).2
instance (L : List (Int × Int)) (H : List Int) : Decidable (OkH L H) := by unfold OkH; infer_instance
/-- r is the height. -/
def IsHt (H : List Int) (r : Int) : Prop := (∀ u : Nat, u < 16 → cntH u H ≤ r) ∧ ∃ u : Nat, u < 16 ∧ cntH u H = r
theorem IsHt.uniq {H : List Int} {r s : Int} (h : IsHt H r) (h' : IsHt H s) : r = s := by
  obtain ⟨a, u, hu, e⟩ := h
  obtain ⟨b, v, hv, f⟩ := h'
  have := a v hv; have := b u hu; omega
def HgtR (n : Int) (L : List (Int × Int)) (H : List Int) (v : Value) : Prop := if IsG n L ∧ OkH L H then ∃ r, v = .tuple #[.int .i64 r, .int .i64 0] ∧ IsHt H r else v = .tuple #[.int .i64 0, .int .i64 2]
set_option maxRecDepth 20000 in
set_option maxHeartbeats 4000000 in
theorem height_any (n : Int) (ve vh : Value) (L : List (Int × Int)) (H : List Int) (w : World) (h : Pairs2 w ve L) (hH : Ints w vh H) (hl : L.length ≤ 1000) :
    Calls Tryz.prog 34 #[.int .i64 n, ve, vh] w (Ret fun v w' => HgtR n L H v ∧ Ext w w') := by
  obtain ⟨qe, ce, rfl, hqe⟩ := h.slice
  obtain ⟨qh, ch, rfl, hqh⟩ := hH.slice
  refine calls_of_wc (args := [.int .i64 n, .slice qe L.length ce, .slice qh H.length ch]) Tryz.func34 rfl ?_ ?_; kernel_rfl
  repeat' (first|refine za ?_|refine zA ?_|refine zB ?_|refine zb ?_|refine zc ?_|refine ze ?_|refine zd ?_)
  (refine r_call (R := ?_) rfl ?_ ?_; rotate_left 1; focus exact newGraph_any n _ L _ h hl)
  rintro v w2 ⟨rfl, hE2⟩
  by_cases hG : IsG n L
  rotate_left 1
  · rw [if_neg hG]
    repeat' (first|refine za ?_|refine zA ?_|refine zS ?_)
    refine r_allocN z72 fun w3 hb3 hE3 hs3 => ?_
    repeat' (refine za ?_)
    refine r_stN (ws := [.int .i64 0, .slice none 0 0]) ag72 (by decide) hb3 rfl rfl rfl rfl (by intro q hq; simp at hq; rcases hq with rfl | rfl <;> rfl) fun w4 h4 hC4 hs4 => ?_
    have hE4 : Ext w2 w4 := Ch.trans' hE3 hC4 fun k hk e => by omega
    repeat' (first|refine za ?_|refine zA ?_|refine zB ?_|refine zb ?_|refine zc ?_|refine ze ?_|refine zd ?_|refine zO ?_|refine zQ ?_|refine zV ?_|refine zX ?_|refine zn ?_|refine zf ?_)
    refine post2 (v1 := .int .i64 0) (v2 := .int .i64 2) rfl rfl rfl ?_
    refine ⟨?_, hE2.trans hE4⟩
    unfold HgtR; rw [if_neg fun c => hG c.1]
  rw [if_pos hG]
  repeat' (first|refine za ?_|refine zA ?_|refine zS ?_)
  refine r_allocN z72 fun w3 hb3 hE3 hs3 => ?_
  repeat' (refine za ?_)
  refine r_stN (ws := [.int .i64 n, .slice qe L.length ce]) ag72 (by decide) hb3 rfl rfl rfl rfl (by intro q hq; simp at hq; rcases hq with rfl | rfl <;> rfl) fun w4 h4 hC4 hs4 => ?_
  have hE4 : Ext w2 w4 := Ch.trans' hE3 hC4 fun k hk e => by omega
  have hE04 := hE2.trans hE4
  by_cases hlen : H.length = L.length
  rotate_left 1
  · repeat' (first|refine za ?_|refine zA ?_|refine zB ?_|refine zb ?_|refine zc ?_|refine ze ?_|refine zd ?_|refine zH ?_|refine zK ?_|refine zO ?_|refine zR ?_|refine zU ?_|refine zX ?_|refine zn ?_|refine zf ?_)
    refine post2 (v1 := .int .i64 0) (v2 := .int .i64 2) rfl rfl rfl ?_
    refine ⟨?_, hE04⟩
    unfold HgtR; rw [if_neg fun c => hlen c.2.1]
  repeat' (first|refine za ?_|refine zA ?_|refine zB ?_|refine zb ?_|refine zc ?_|refine ze ?_|refine zd ?_|refine zH ?_|refine zK ?_|refine zO ?_|refine zR ?_|refine zU ?_|refine zY ?_|refine zk ?_)
  refine r_allocN z75 fun w5 hb5 hE5 hs5 => ?_
  obtain ⟨b10, eb10⟩ : ∃ b, b = w4.heap.size := ⟨_, rfl⟩
  rw [← eb10] at hb5 ⊢
  have hsz := hE04.size
  repeat' (first|refine za ?_|refine zA ?_|refine zb ?_|refine zc ?_|refine ze ?_|refine zd ?_|refine zK ?_|refine zl ?_)
  refine wc_loop2 [0, 1, 10, 28, 29] (fun (i : Nat) (_ : List Int) => [(30, .int .i64 i)]) (fun i R wk => i ≤ H.length ∧ Blk wk b10 128 (ints R) ∧ R.length = 16 ∧ (∀ u : Nat, u < 16 → R.getD u 0 = cntH u (H.take i)) ∧ (∀ k, k < i → H.getD k 0 = (ed L k).1 ∨ H.getD k 0 = (ed L k).2) ∧ Ext w wk) (fun i _ => H.length - i) 0 (List.replicate 16 0) rfl ⟨rfl, trivial⟩
    ⟨by omega, hb5, by simp, fun u hu => by rw [List.getD_eq_getElem?_getD, List.getElem?_replicate, if_pos hu]; rfl, fun k hk => by omega, hE04.trans hE5⟩ ?_
  clear hb5 hE5 hs5 h4 hb3
  rintro i R wk x ⟨hi, hB, hRl, hcnt, hok, hE⟩
  by_cases hin : i < H.length
  · have hg := (hG.2.2 i (by omega)).1
    have hn := hG.1
    obtain ⟨e0, e1⟩ := (h.ext hE).rd (i := i) (by omega)
    have hes := h.isSome (by omega)
    have hhs := hH.isSome (by omega)
    have hr := (hH.ext hE).rd hin
    change rd _ _ = some (.int .i64 (ed L i).1) at e0
    change rd _ _ = some (.int .i64 (ed L i).2) at e1
    change (0 ≤ (ed L i).1 ∧ (ed L i).1 < (ed L i).2 ∧ (ed L i).2 < n) at hg
    have hts := take_snoc hin
    have hbad : ¬ (H.getD i 0 = (ed L i).1 ∨ H.getD i 0 = (ed L i).2) → ¬ (IsG n L ∧ OkH L H) := fun c hh => c (hh.2.2 i (by omega))
    have hgood : (H.getD i 0 = (ed L i).1 ∨ H.getD i 0 = (ed L i).2) → ∀ k, k < i + 1 → H.getD k 0 = (ed L k).1 ∨ H.getD k 0 = (ed L k).2 := fun c k hk => by
      by_cases e : k = i
      · subst e; exact c
      · exact hok k (by omega)
    generalize hvv : H.getD i 0 = v at *
    generalize (ed L i).1 = a at *
    generalize (ed L i).2 = b at *
    have hstore : (0 ≤ v ∧ v < 16) → rd wk (some ⟨b10, 0 + v.toNat, none⟩) = some (.int .i64 (R.getD v.toNat 0)) := fun hv => hB.rd (by rw [Nat.zero_add]; exact ints_getD (by omega))
    by_cases c1 : v = a
    · have hrv := hstore (by omega)
      have hcv := hcnt v.toNat (by omega)
      have hcl := cntH_le (v := (v.toNat : Int)) (A := H.take i)
      have htl : (H.take i).length ≤ 1000 := by rw [List.length_take]; omega
      clear hbad
      repeat' (first|refine za ?_|refine zA ?_|refine zB ?_|refine zb ?_|refine zc ?_|refine ze ?_|refine zd ?_|refine zC ?_|refine zL ?_|refine zM ?_|refine zX ?_|refine zk ?_|refine zl ?_)
      refine r_faQ fq46_0 rfl (pidx_isSome hes) ?_
      repeat' (first|refine za ?_|refine zA ?_|refine zb ?_|refine ze ?_|refine zd ?_|refine zH ?_|refine zM ?_|refine zR ?_|refine zV ?_|refine zY ?_|refine zk ?_)
      refine r_idxE ar75' rfl rfl (by omega) (by omega) ?_
      repeat' (first|refine za ?_|refine zI ?_|refine zM ?_)
      refine r_idxE ar75' rfl rfl (by omega) (by omega) ?_
      repeat' (refine za ?_)
      refine r_st_blk (k := 0 + v.toNat) (v := .int .i64 (R.getD v.toNat 0 + 1)) (by kernel_rfl) hB rfl rfl rfl (by rw [ints_length]; omega) fun w9 h9 hC9 hs9 => ?_
      rw [ints_set] at h9
      repeat' (first|refine za ?_|refine zA ?_|refine zb ?_|refine ze ?_|refine zd ?_|refine zI ?_|refine zh ?_)
      refine ⟨i + 1, _, ⟨rfl, trivial⟩, ⟨by omega, h9, by rw [List.length_set]; exact hRl, fun u hu => ?_, hgood (.inl c1), Ch.trans' hE hC9 fun k hk e => by omega⟩, by omega⟩
      rw [hts, cntH_append, List.getD_eq_getElem?_getD, List.getElem?_set, Nat.zero_add]
      by_cases c : v.toNat = u
      · subst c
        rw [if_pos rfl, if_pos (by omega)]
        show R.getD v.toNat 0 + 1 = _
        rw [hcv, cntH, if_pos (by omega)]; rfl
      · rw [if_neg c, ← List.getD_eq_getElem?_getD, hcnt u hu, cntH, if_neg (by omega)]; simp [cntH]
    · by_cases c2 : v = b
      · have hrv := hstore (by omega)
        have hcv := hcnt v.toNat (by omega)
        have hcl := cntH_le (v := (v.toNat : Int)) (A := H.take i)
        have htl : (H.take i).length ≤ 1000 := by rw [List.length_take]; omega
        clear hbad
        repeat' (first|refine za ?_|refine zA ?_|refine zB ?_|refine zb ?_|refine zc ?_|refine ze ?_|refine zd ?_|refine zC ?_|refine zL ?_|refine zM ?_|refine zX ?_|refine zk ?_|refine zl ?_)
        refine r_faQ fq46_0 rfl (pidx_isSome hes) ?_
        repeat' (first|refine za ?_|refine zA ?_|refine zH ?_|refine zL ?_|refine zM ?_|refine zU ?_)
        refine r_faQ fq46_1 rfl (pidx_isSome hes) ?_
        repeat' (first|refine za ?_|refine zA ?_|refine zb ?_|refine ze ?_|refine zd ?_|refine zH ?_|refine zM ?_|refine zQ ?_|refine zU ?_|refine zY ?_|refine zk ?_)
        refine r_idxE ar75' rfl rfl (by omega) (by omega) ?_
        repeat' (first|refine za ?_|refine zI ?_|refine zM ?_)
        refine r_idxE ar75' rfl rfl (by omega) (by omega) ?_
        repeat' (refine za ?_)
        refine r_st_blk (k := 0 + v.toNat) (v := .int .i64 (R.getD v.toNat 0 + 1)) (by kernel_rfl) hB rfl rfl rfl (by rw [ints_length]; omega) fun w9 h9 hC9 hs9 => ?_
        rw [ints_set] at h9
        repeat' (first|refine za ?_|refine zA ?_|refine zb ?_|refine ze ?_|refine zd ?_|refine zI ?_|refine zh ?_)
        refine ⟨i + 1, _, ⟨rfl, trivial⟩, ⟨by omega, h9, by rw [List.length_set]; exact hRl, fun u hu => ?_, hgood (.inr c2), Ch.trans' hE hC9 fun k hk e => by omega⟩, by omega⟩
        rw [hts, cntH_append, List.getD_eq_getElem?_getD, List.getElem?_set, Nat.zero_add]
        by_cases c : v.toNat = u
        · subst c
          rw [if_pos rfl, if_pos (by omega)]
          show R.getD v.toNat 0 + 1 = _
          rw [hcv, cntH, if_pos (by omega)]; rfl
        · rw [if_neg c, ← List.getD_eq_getElem?_getD, hcnt u hu, cntH, if_neg (by omega)]; simp [cntH]
      · have hbad := hbad (fun c => c.elim c1 c2)
        repeat' (first|refine za ?_|refine zA ?_|refine zB ?_|refine zb ?_|refine zc ?_|refine ze ?_|refine zd ?_|refine zC ?_|refine zL ?_|refine zM ?_|refine zX ?_|refine zk ?_|refine zl ?_)
        refine r_faQ fq46_0 rfl (pidx_isSome hes) ?_
        repeat' (first|refine za ?_|refine zA ?_|refine zH ?_|refine zL ?_|refine zM ?_|refine zU ?_)
        refine r_faQ fq46_1 rfl (pidx_isSome hes) ?_
        repeat' (first|refine za ?_|refine zB ?_|refine zb ?_|refine zc ?_|refine ze ?_|refine zd ?_|refine zH ?_|refine zM ?_|refine zQ ?_|refine zU ?_|refine zX ?_|refine zn ?_|refine zf ?_|refine zi ?_)
        refine post2 (v1 := .int .i64 0) (v2 := .int .i64 2) rfl rfl rfl ?_
        refine ⟨?_, hE⟩
        unfold HgtR; rw [if_neg hbad]
  · have : i = H.length := by omega
    subst this
    have hR := hB.part hRl (Nat.le_refl 16)
    rw [List.take_of_length_le (by omega)] at hR
    have hR16 : (Value.slice (some ⟨b10, 0, none⟩) 16 16) = .slice (some ⟨b10, 0, none⟩) R.length 16 := by rw [hRl]
    repeat' (first|refine za ?_|refine zb ?_|refine zc ?_|refine ze ?_|refine zd ?_|refine zC ?_|refine zY ?_|refine zm ?_|refine zg ?_|refine zj ?_)
    refine r_sliceAll ar75' rfl ?_
    repeat' (refine za ?_)
    (refine r_call (R := ?_) rfl ?_ ?_; rotate_left 1; focus exact max_any _ R _ hR (by omega) (by omega))
    rintro v w9 ⟨⟨r, rfl, hr1, hr2⟩, rfl⟩
    repeat' (first|refine za ?_|refine zB ?_|refine zb ?_|refine ze ?_|refine zn ?_)
    refine post2 (v1 := .int .i64 r) (v2 := .int .i64 0) rfl rfl rfl ?_
    refine ⟨?_, hE⟩
    unfold HgtR
    rw [if_pos ⟨hG, hlen, fun k hk => hok k (by omega)⟩]
    rw [List.take_length] at hcnt
    refine ⟨r, rfl, fun u hu => by rw [← hcnt u hu]; exact hr1 _ (getD_memI (by omega)), ?_⟩
    obtain ⟨u, hu, e⟩ := List.getElem_of_mem hr2
    exact ⟨u, by omega, by rw [← hcnt u (by omega), getD_lt hu]; exact e⟩
end Bg
end Go.Proofs.YtocgehoffdjijaaGreat
/- bags: peel. -/
namespace Go.Proofs.YtocgehoffdjijaaGreat
namespace Bg
set_option maxRecDepth 20000
open Gv
theorem mem_inS {O : List Int} {a : Int} : (∃ i, i < O.length ∧ O.getD i 0 = a) ↔ a ∈ O := ⟨fun ⟨i, hi, e⟩ => e ▸ getD_memI hi, fun h => by
    obtain ⟨i, hi, rfl⟩ := List.getElem_of_mem h
    exact ⟨i, hi, getD_lt hi⟩⟩
theorem getD_set {D : List Int} {i j : Nat} {a : Int} (hi : i < D.length) : (D.set i a).getD j 0 = if j = i then a else D.getD j 0 := by
  rw [List.getD_eq_getElem?_getD, List.getElem?_set, List.getD_eq_getElem?_getD]
  by_cases c : i = j
  · subst c; simp [hi]
  · rw [if_neg c, if_neg fun h => c h.symm]
set_option maxRecDepth 20000 in
set_option maxHeartbeats 8000000 in
theorem peel_any (m : Nat) (ve : Value) (L : List (Int × Int)) (w : World) (h : Pairs2 w ve L) (hL : L.length ≤ 1000) (hel : ∀ g, ve.ownBlock = some g → g < w.heap.size)
    (hG : ∀ k, k < L.length → 0 ≤ (ed L k).1 ∧ (ed L k).1 < (ed L k).2 ∧ (ed L k).2 < m) (hn : 1 ≤ m ∧ m ≤ 16) :
    Calls Tryz.prog 66 #[.agg #[.int .i64 m, ve]] w (Ret fun v w' => (∃ vo vc, v = .tuple #[vo, vc] ∧ OwnI w' w.heap.size 3 vo (peO L m m) ∧ OwnI w' w.heap.size 3 vc (peC L m m)) ∧ Ext w w') := by
  obtain ⟨qe, ce, rfl, hqe⟩ := h.slice
  have hdis : ∀ k, k < L.length → (ed L k).1 ≠ (ed L k).2 := fun k hk => by have := hG k hk; omega
  refine calls_of_wc (args := [.agg #[.int .i64 m, .slice qe L.length ce]]) Tryz.func66 rfl ?_ ?_; kernel_rfl
  repeat' (first|refine za ?_|refine zc ?_|refine zd ?_)
  refine r_boxN (cells := [.int .i64 m, .slice qe L.length ce]) rfl fun w1 hb1 hE1 hs1 => ?_
  obtain ⟨b1, eb1⟩ : ∃ b, b = w.heap.size := ⟨_, rfl⟩
  rw [← eb1] at hb1 ⊢
  have hrn := hb1.rd (k := 0) (v := .int .i64 m) rfl
  repeat' (first|refine za ?_|refine zB ?_|refine zb ?_|refine zc ?_|refine ze ?_|refine zd ?_)
  refine r_faE (o' := 0) fo72_0 rfl rfl ?_
  repeat' (first|refine za ?_|refine zM ?_)
  refine r_make_i el23 rfl rfl (by omega) fun w2 hD2 hE2 hs2 => ?_
  obtain ⟨gD, egD⟩ : ∃ b, b = w1.heap.size := ⟨_, rfl⟩
  rw [← egD] at hD2 ⊢
  repeat' (refine za ?_)
  refine r_alloc z23 rfl fun w3 hx3 hE3 hs3 => ?_
  obtain ⟨b4, eb4⟩ : ∃ b, b = w2.heap.size := ⟨_, rfl⟩
  rw [← eb4] at hx3 ⊢
  repeat' (refine za ?_)
  refine r_st_box (v := .slice (some ⟨gD, 0, none⟩) m m) (by kernel_rfl) hx3 rfl rfl rfl fun w4 hx4 hC4 hs4 => ?_
  have hE3' := (hE1.trans hE2).trans hE3
  have hE4 : Ext w w4 := Ch.trans' hE3' hC4 fun k hk e => by omega
  have hb4 := ((hb1.ext hE2).ext hE3).keep hC4 (by omega)
  have hD4 := ownsRow_keep (ownsRow_ext hD2 hE3) hC4 fun g hg e => by have : gD = g := Option.some.inj hg; omega
  clear hb1 hD2 hx3 hrn
  have hr1 := hb4.rd (k := 1) (v := .slice qe L.length ce) rfl
  repeat' (first|refine za ?_|refine zb ?_|refine zc ?_|refine ze ?_|refine zd ?_)
  refine r_faE (o' := 1) fo72_1 rfl rfl ?_
  repeat' (first|refine za ?_|refine zA ?_|refine zb ?_|refine ze ?_|refine zK ?_|refine zM ?_|refine zl ?_)
  refine wc_loop2 [1, 4, 18, 19] (fun (i : Nat) (_ : List Int) => [(20, .int .i64 i)]) (fun i D wk => i ≤ L.length ∧ Blk wk b1 109 [.int .i64 m, .slice qe L.length ce] ∧ Box wk b4 27 (.slice (some ⟨gD, 0, none⟩) m m) ∧ OwnI wk b1 3 (.slice (some ⟨gD, 0, none⟩) m m) D ∧ D.length = m ∧ (∀ v : Nat, v < m → D.getD v 0 = degF L v i) ∧ Ext w wk) (fun i _ => L.length - i) 0 (List.replicate m 0) rfl ⟨rfl, trivial⟩
    ⟨by omega, hb4, hx4, ownsRow_mono hD4 (by omega), by simp, fun v hv => by rw [List.getD_eq_getElem?_getD, List.getElem?_replicate]; split <;> rfl, hE4⟩ ?_
  clear hb4 hx4 hD4 hE4 hC4 hr1
  rintro i D wk x ⟨hi, hb, hx, hD, hDl, hdeg, hE⟩
  by_cases hin : i < L.length
  · have hGi := hG i hin
    obtain ⟨e0, e1⟩ := (h.ext hE).rd hin
    have hes := h.isSome (by omega)
    change rd _ _ = some (.int .i64 (ed L i).1) at e0
    change rd _ _ = some (.int .i64 (ed L i).2) at e1
    have hstep : ∀ v : Int, degF L v (i + 1) = degF L v i + if (ed L i).1 = v ∨ (ed L i).2 = v then 1 else 0 := fun v => rfl
    generalize ed L i = ab at *
    obtain ⟨a, b⟩ := ab
    dsimp only at hGi e0 e1 hstep
    repeat' (first|refine za ?_|refine zb ?_|refine zc ?_|refine ze ?_|refine zd ?_|refine zC ?_|refine zL ?_|refine zX ?_|refine zk ?_|refine zl ?_)
    refine r_ldP ag46 rfl e0 e1 ?_
    repeat' (refine za ?_)
    refine r_allocN z46 fun wa hba hEa hsa => ?_
    obtain ⟨b6, eb6⟩ : ∃ b, b = wk.heap.size := ⟨_, rfl⟩
    rw [← eb6] at hba ⊢
    repeat' (refine za ?_)
    refine r_stN (ws := [.int .i64 a, .int .i64 b]) ag46 (by decide) hba (by rw [ints_length]; simp) rfl rfl rfl (by intro q hq; simp at hq; rcases hq with rfl | rfl <;> rfl) fun wb hbb hCb hsb => ?_
    have hEb : Ext wk wb := Ch.trans' hEa hCb fun k hk e => by omega
    have hDb := ownsRow_ext hD hEb
    have hxb := hx.ext hEb
    have g4 := hxb.rd
    have gra := (OwnI.ints hDb).rd (i := a.toNat) (by omega)
    have ra := hbb.rd (k := 0) (v := .int .i64 a) rfl
    have rb := hbb.rd (k := 1) (v := .int .i64 b) rfl
    have hda := hdeg a.toNat (by omega)
    have hdb := hdeg b.toNat (by omega)
    rw [Int.toNat_of_nonneg (by omega)] at hda hdb
    have hla := degF_le (L := L) (v := a) (i := i)
    have hlb := degF_le (L := L) (v := b) (i := i)
    have hgD := World.ownsRow.lt hD gD rfl
    repeat' (first|refine za ?_|refine zb ?_|refine zc ?_|refine ze ?_|refine zd ?_|refine zM ?_)
    refine r_faE (o' := 0) fo46_0 rfl rfl ?_
    repeat' (first|refine za ?_|refine zI ?_|refine zL ?_|refine zM ?_)
    refine r_st_i (i := a.toNat) (a := D.getD a.toNat 0 + 1) (by kernel_rfl) hDb rfl rfl (by omega) fun wc hDc hgc hsc => ?_
    have hCc : Ch (fun k => k = gD) wb wc := Ch.grown hgc fun k hk => (Option.some.inj hk).symm
    have hbc := hbb.keep hCc (by omega)
    have hxc := hxb.keep hCc fun e => by have := hxb.nerow hDb (by decide); exact this (by rw [e]; rfl)
    have g4 := hxc.rd
    have rb := hbc.rd (k := 1) (v := .int .i64 b) rfl
    have grb := (OwnI.ints hDc).rd (i := b.toNat) (by rw [List.length_set]; omega)
    rw [getD_set (by omega), if_neg (by omega)] at grb
    repeat' (first|refine za ?_|refine zb ?_|refine ze ?_|refine zd ?_|refine zM ?_)
    refine r_faE (o' := 1) fo46_1 rfl rfl ?_
    repeat' (first|refine za ?_|refine zI ?_|refine zL ?_|refine zM ?_)
    refine r_st_i (i := b.toNat) (a := D.getD b.toNat 0 + 1) (by kernel_rfl) hDc rfl rfl (by rw [List.length_set]; omega) fun wd hDd hgd hsd => ?_
    have hCd : Ch (fun k => k = gD) wc wd := Ch.grown hgd fun k hk => (Option.some.inj hk).symm
    have hC : Ch (fun k => k = gD) wk wd := Ch.trans' hEb.ch (hCc.trans hCd) fun k _ e => e
    repeat' (first|refine za ?_|refine zA ?_|refine zb ?_|refine ze ?_|refine zd ?_|refine zI ?_|refine zh ?_)
    refine ⟨i + 1, _, ⟨rfl, trivial⟩, ⟨by omega, hb.keep hC (by omega), hx.keep hC fun e => by have := hx.nerow hD (by decide); exact this (by rw [e]; rfl), hDd, by rw [List.length_set, List.length_set]; exact hDl, fun v hv => ?_, Ch.trans' hE hC fun k hk e => by omega⟩, by omega⟩
    rw [getD_set (by rw [List.length_set]; omega), getD_set (by omega), hstep, ← hdeg v hv]
    by_cases c1 : v = b.toNat
    · subst c1
      rw [if_pos rfl, if_pos (by omega)]
    · by_cases c2 : v = a.toNat
      · subst c2
        rw [if_neg c1, if_pos rfl, if_pos (by omega)]
      · rw [if_neg c1, if_neg c2, if_neg (by omega)]; omega
  have : i = L.length := by omega
  subst this
  have hrn := hb.rd (k := 0) (v := .int .i64 m) rfl
  repeat' (first|refine za ?_|refine zb ?_|refine zc ?_|refine ze ?_|refine zd ?_|refine zC ?_|refine zY ?_|refine zm ?_|refine zg ?_|refine zj ?_)
  refine r_faE (o' := 0) fo72_0 rfl rfl ?_
  repeat' (first|refine za ?_|refine zM ?_)
  refine r_make_i el23 rfl rfl (by omega) fun w5 hK5 hE5 hs5 => ?_
  obtain ⟨gC, egC⟩ : ∃ b, b = wk.heap.size := ⟨_, rfl⟩
  rw [← egC] at hK5 ⊢
  have hb5 := hb.ext hE5
  have hx5 := hx.ext hE5
  have hD5 := ownsRow_ext hD hE5
  have hrn := hb5.rd (k := 0) (v := .int .i64 m) rfl
  have hgDlt := (World.ownsRow.lt hD gD rfl).2
  have hb1lt := hb.lt
  repeat' (first|refine za ?_|refine zB ?_|refine zb ?_|refine zc ?_|refine ze ?_|refine zd ?_)
  refine r_faE (o' := 0) fo72_0 rfl rfl ?_
  repeat' (first|refine za ?_|refine zA ?_|refine zb ?_|refine ze ?_|refine zM ?_|refine zl ?_)
  refine wc_loop3M [1, 4, 7, 43] (fun (r : Nat) (M : List Nat) (vo : Value) => [(8, vo), (9, .int .i64 (peM L m r)), (44, .int .i64 r), (1000000, mkv M)]) (fun r M vo wk => r ≤ m ∧ Blk wk b1 109 [.int .i64 m, .slice qe L.length ce] ∧ Box wk b4 27 (.slice (some ⟨gD, 0, none⟩) m m) ∧
      (∃ D, OwnI wk b1 3 (.slice (some ⟨gD, 0, none⟩) m m) D ∧ D.length = m ∧ ∀ v : Nat, v < m → D.getD v 0 = nbP L (out (peO L m r)) v) ∧ OwnI wk b1 3 (.slice (some ⟨gC, 0, none⟩) m m) (peC L m r) ∧ OwnI wk b1 3 vo (peO L m r) ∧ (∀ g, vo.ownBlock = some g → g ≠ gD ∧ g ≠ gC) ∧ Mk M wk ∧ (∀ D, D ∈ M → w.heap.size ≤ D) ∧ Ext w wk)
    (fun r _ _ => m - r) 0 [] (.slice none 0 0) rfl ⟨rfl, rfl, rfl, rfl, trivial⟩ ⟨by omega, hb5, hx5, ⟨D, hD5, hDl, fun v hv => by rw [hdeg v hv, degF_all]; rfl⟩, ownsRow_mono hK5 (by omega), World.ownsRow_nil _ _ _ _, (fun g hg => by cases hg), Mk.nil _, (fun D hD => by cases hD), hE.trans hE5⟩ ?_
  clear hb5 hx5 hD5 hK5 hrn hb hx hD hE hdeg hDl D
  have hgCD : gD < gC := by omega
  have hb1C : b1 < gC := by omega
  clear hE5 hs5
  rintro r M vo wk x ⟨hr, hb, hx, ⟨D, hD, hDl, hdeg⟩, hC, hO, hdj, hM, hMlo, hE⟩
  by_cases hrm : r < m
  · have hrn := hb.rd (k := 0) (v := .int .i64 m) rfl
    have hOl : (peO L m r).length = r := peO_len r
    have hpk := pk_ok (L := L) (n := m) (r := r) hrm
    have hpO : peO L m (r + 1) = peO L m r ++ [pk L (peO L m r) m] := rfl
    have hpM : peM L m (r + 1) = max (peM L m r) (nbP L (out (peO L m r)) (pk L (peO L m r) m)) := rfl
    have hpC : peC L m (r + 1) = (peC L m r).set (pk L (peO L m r) m).toNat (peM L m (r + 1)) := rfl
    have hcl := peC_len (L := L) (n := m) r
    have hm0 := peM_nonneg (L := L) (n := m) r
    have hm1 := peM_nonneg (L := L) (n := m) (r + 1)
    generalize peO L m r = O at *
    generalize peM L m r = ms at *
    obtain ⟨ms', hms'⟩ : ∃ x, x = peM L m (r + 1) := ⟨_, rfl⟩
    rw [← hms'] at hpM hpC hm1
    generalize peC L m r = Cc at *
    obtain ⟨qo, co, rfl, hqo⟩ := (OwnI.ints hO).slice
    repeat' (first|refine za ?_|refine zB ?_|refine zb ?_|refine zc ?_|refine ze ?_|refine zd ?_|refine zC ?_|refine zX ?_|refine zk ?_|refine zl ?_)
    refine r_faE (o' := 0) fo72_0 rfl rfl ?_
    repeat' (first|refine za ?_|refine zA ?_|refine zb ?_|refine ze ?_|refine zM ?_|refine zl ?_)
    refine wc_loop [1, 4, 7, 8, 9, 43, 44, 47] (fun (v : Nat) => [(10, .int .i64 (pk L O v)), (48, .int .i64 v)]) (fun v wi => v ≤ m ∧ Ext wk wi) (fun v => m - v) 0 rfl ⟨rfl, rfl, trivial⟩ ⟨by omega, Ext.refl _⟩ ?_
    rintro v wi y ⟨hv, hEi⟩
    by_cases hvm : v < m
    · have hEd := hEi.trans (Ext.drew wi)
      have hDd := ownsRow_ext hD hEd
      have hOd := ownsRow_ext hO hEd
      have gd4 := (hx.ext hEd).rd
      have grv := (OwnI.ints hDd).rd (i := v) (by omega)
      have hdv := hdeg v hvm
      have hstep : pk L O (v + 1) = if (v : Int) ∉ O ∧ (pk L O v < 0 ∨ nbP L (out O) v < nbP L (out O) (pk L O v)) then (v : Int) else pk L O v := rfl
      have hpv := pk_spec (L := L) (O := O) (m := v)
      have hpn : nbP L (out O) (pk L O v) = nbP L (out O) (pk L O v) := rfl
      generalize pk L O v = p at *
      repeat' (first|refine za ?_|refine zA ?_|refine zB ?_|refine zb ?_|refine zc ?_|refine ze ?_|refine zd ?_|refine zC ?_|refine zX ?_|refine zk ?_|refine zl ?_)
      (refine wc_drawn 18 (by kernel_rfl) (by kernel_rfl) ?_; simp only [List.take_succ_cons, List.take_zero, List.drop_succ_cons, List.drop_zero])
      repeat' (first|refine za ?_|refine zA ?_)
      (refine r_call_q (v := ?_) rfl ?_ ?_; rotate_left 1; focus exact contains_any _ O _ _ (OwnI.ints hOd) (by omega))
      by_cases hvO : (v : Int) ∈ O
      · rw [decide_eq_true (mem_inS.2 hvO)]
        rw [if_neg (fun c => c.1 hvO)] at hstep
        repeat' (first|refine za ?_|refine zA ?_|refine zb ?_|refine ze ?_|refine zd ?_|refine zI ?_|refine zO ?_|refine zR ?_|refine zV ?_|refine zW ?_|refine zY ?_|refine zk ?_|refine zh ?_)
        exact ⟨v + 1, ⟨by rw [hstep]; rfl, rfl, trivial⟩, ⟨by omega, hEd⟩, by omega⟩
      · rw [decide_eq_false (fun c => hvO (mem_inS.1 c))]
        by_cases hp0 : p < 0
        · rw [if_pos ⟨hvO, .inl hp0⟩] at hstep
          repeat' (first|refine za ?_|refine zA ?_|refine zB ?_|refine zb ?_|refine ze ?_|refine zd ?_|refine zC ?_|refine zI ?_|refine zO ?_|refine zQ ?_|refine zU ?_|refine zV ?_|refine zX ?_|refine zh ?_)
          exact ⟨v + 1, ⟨by rw [hstep]; rfl, rfl, trivial⟩, ⟨by omega, hEd⟩, by omega⟩
        · have hpr : 0 ≤ p ∧ p < v := by
            rcases hpv with h1 | h1
            · omega
            · exact ⟨h1.1, h1.2.1⟩
          have hdp := hdeg p.toNat (by omega)
          rw [Int.toNat_of_nonneg hpr.1] at hdp
          have grp := (OwnI.ints hDd).rd (i := p.toNat) (by omega)
          by_cases hlt : nbP L (out O) v < nbP L (out O) p
          · rw [if_pos ⟨hvO, .inr hlt⟩] at hstep
            rw [← hdv, ← hdp] at hlt
            repeat' (first|refine za ?_|refine zA ?_|refine zB ?_|refine zb ?_|refine ze ?_|refine zd ?_|refine zC ?_|refine zI ?_|refine zL ?_|refine zM ?_|refine zO ?_|refine zQ ?_|refine zR ?_|refine zU ?_|refine zX ?_|refine zh ?_)
            exact ⟨v + 1, ⟨by rw [hstep]; rfl, rfl, trivial⟩, ⟨by omega, hEd⟩, by omega⟩
          · rw [if_neg (fun c => c.2.elim hp0 hlt)] at hstep
            rw [← hdv, ← hdp] at hlt
            repeat' (first|refine za ?_|refine zA ?_|refine zb ?_|refine ze ?_|refine zd ?_|refine zC ?_|refine zI ?_|refine zL ?_|refine zM ?_|refine zO ?_|refine zQ ?_|refine zR ?_|refine zU ?_|refine zY ?_|refine zk ?_|refine zh ?_)
            exact ⟨v + 1, ⟨by rw [hstep]; rfl, rfl, trivial⟩, ⟨by omega, hEd⟩, by omega⟩
    · have : v = m := by omega
      subst this
      have hDi := ownsRow_ext hD hEi
      have gd4 := (hx.ext hEi).rd
      obtain ⟨p0, p1, p2, _⟩ := hpk
      have hdp := hdeg (pk L O v).toNat (by omega)
      rw [Int.toNat_of_nonneg p0] at hdp
      have hnn := nbP_nonneg (L := L) (P := out O) (v := pk L O v)
      have hnl := nbP_le (L := L) (P := out O) (v := pk L O v)
      generalize pk L O v = p at *
      have grp := (OwnI.ints hDi).rd (i := p.toNat) (by omega)
      have hb1i := (hb.ext hEi)
      have hCi := ownsRow_ext hC hEi
      have hOi := ownsRow_ext hO hEi
      have hMi := hM.ext hEi
      have hEwi := hE.trans hEi
      repeat' (first|refine za ?_|refine zA ?_|refine zb ?_|refine zc ?_|refine ze ?_|refine zd ?_|refine zC ?_|refine zL ?_|refine zM ?_|refine zY ?_|refine zm ?_|refine zg ?_|refine zj ?_)
      refine r_max (c := ms') rfl rfl ?_ ?_
      · rw [hpM, hdp]
        rcases Int.le_total (nbP L (out O) p) ms with c | c
        · rw [Int.max_eq_left c, if_neg (by omega)]
        · rw [Int.max_eq_right c]; split <;> omega
      repeat' (first|refine za ?_|refine zA ?_|refine zB ?_|refine zb ?_|refine zc ?_|refine ze ?_|refine zd ?_|refine zL ?_)
      refine r_st_i (i := p.toNat) (a := ms') (by kernel_rfl) hCi rfl rfl (by omega) fun wc hCc hgc hsc => ?_
      have hKc : Ch (fun k => k = gC) wi wc := Ch.grown hgc fun k hk => (Option.some.inj hk).symm
      have hOc := ownsRow_keep hOi hKc fun g hg e => (hdj g hg).2 e
      have hDc := ownsRow_keep hDi hKc fun g hg e => by have : gD = g := Option.some.inj hg; omega
      repeat' (first|refine za ?_|refine zA ?_|refine zb ?_|refine zc ?_|refine ze ?_|refine zd ?_)
      refine r_append1_i el23 hOc rfl rfl (by omega) (by have := hEwi.size; have := hKc.size; omega) ?_
      intro vo' wd zzd hOd hgd _ hnew
      have hKd : Ch (fun k => (Value.slice qo O.length co).ownBlock = some k) wc wd := Ch.grown hgd fun k hk => hk
      have hdj' : ∀ g, vo'.ownBlock = some g → g ≠ gD ∧ g ≠ gC := fun g hg => by
        rcases hnew g hg with h1 | h1
        · exact hdj g h1
        · have := (World.ownsRow.lt hDc gD rfl).2; have := (World.ownsRow.lt hCc gC rfl).2; omega
      have hDd := ownsRow_keep hDc hKd fun g hg e => by have : gD = g := Option.some.inj hg; exact (hdj g e).1 this.symm
      have hCd := ownsRow_keep hCc hKd fun g hg e => by have : gC = g := Option.some.inj hg; exact (hdj g e).2 this.symm
      have hCm : ∀ k, (k = gC ∨ (Value.slice qo O.length co).ownBlock = some k) → CM wi k ∧ w.heap.size ≤ k ∧ ∀ c t r, wi.heap[k]? = some (.cells c t r) → t = 3 := fun k hk => by
        rcases hk with rfl | hk
        · obtain ⟨c', hc'⟩ := row_obj hCi (g := k) rfl
          exact ⟨row_cm hCi rfl, by omega, fun c t r e => by rw [hc'] at e; cases e; rfl⟩
        · obtain ⟨c', hc'⟩ := row_obj hOi hk
          exact ⟨row_cm hOi hk, by have := (World.ownsRow.lt hOi k hk).1; omega, fun c t r e => by rw [hc'] at e; cases e; rfl⟩
      have hK : Ch (fun k => k = gC ∨ (Value.slice qo O.length co).ownBlock = some k) wi wd := Ch.trans' (hKc.mono fun k _ e => .inl e) hKd fun k _ e => .inr e
      have hno : ∀ {b c t r}, wi.heap[b]? = some (.cells c t r) → t ≠ 3 → ¬ (b = gC ∨ (Value.slice qo O.length co).ownBlock = some b) := fun h1 h2 hk => h2 ((hCm _ hk).2.2 _ _ _ h1)
      have hbd := hb1i.keep hK (hno hb1i (by decide))
      have hxd := (hx.ext hEi).keep hK (hno (hx.ext hEi) (by decide))
      have hMd := hMi.ch hK fun k hk => (hCm k hk).1
      have hEd : Ext w wd := Ch.trans' hEwi hK fun k hk e => by have := (hCm k e).2.1; omega
      repeat' (first|refine za ?_|refine zB ?_|refine zb ?_|refine zc ?_|refine ze ?_|refine zd ?_)
      refine r_ldN (vs := [.int .i64 (v : Int), .slice qe L.length ce]) ag72 (by decide) hbd rfl rfl ?_
      repeat' (first|refine za ?_|refine zA ?_)
      (refine r_call (R := ?_) rfl ?_ ?_; rotate_left 1; focus exact around_any (v : Int) _ L p _ (h.ext hEd))
      rintro _ wr ⟨ba, bb, rfl, hba, hbb, hAD, hEr⟩
      have hszr : w.heap.size ≤ wr.heap.size := (hEd.trans hEr).size
      have hgDr := (World.ownsRow.lt hDd gD rfl).2
      have hb1d := hbd.lt
      have hb4d := hxd.lt
      have hsr := hEr.size
      repeat' (first|refine zb ?_|refine ze ?_|refine zl ?_)
      refine wc_rangeE (nb L p L.length) 40 (AroundD (v : Int) (.slice qe L.length ce) L ba bb p) (fun j W => Blk W b1 109 [.int .i64 v, .slice qe L.length ce] ∧ Box W b4 27 (.slice (some ⟨gD, 0, none⟩) v v) ∧
          (∃ D, OwnI W b1 3 (.slice (some ⟨gD, 0, none⟩) v v) D ∧ D.length = v ∧ ∀ u : Nat, u < v → D.getD u 0 = nbP L (out O) u - cntU u ((nb L p L.length).take j)) ∧ OwnI W b1 3 (.slice (some ⟨gC, 0, none⟩) v v) (Cc.set p.toNat ms') ∧ OwnI W b1 3 vo' (O ++ [p]) ∧ Mk M W ∧ Ext w W) M rfl rfl rfl (around1_any (v : Int) _ L ba bb p hL hdis) ?hDt ?hI hAD
          ⟨hbd.ext hEr, hxd.ext hEr, ⟨D, ownsRow_ext hDd hEr, hDl, fun u hu => by rw [hdeg u hu]; simp [cntU]⟩, ownsRow_ext hCd hEr, ownsRow_ext hOd hEr, hMd.ext hEr, hEd.trans hEr⟩ ?hbody ?hdone
      case hDt =>
        rintro W W' hl ⟨a1, a2, a3⟩
        exact ⟨a1.lk hl, a2.lk hl, a3.keep hl.ch fun g hg e => by have := hel g hg; omega⟩
      case hI =>
        rintro j W W' hl ⟨a1, a2, ⟨D', a3, a4, a5⟩, a6, a7, a8, a9⟩
        exact ⟨a1.lk hl, a2.lk hl, ⟨D', row_lk hl a3, a4, a5⟩, row_lk hl a6, row_lk hl a7, a8.lk hl, a9.lk hl hszr⟩
      case hbody =>
        apply Exists.intro
        apply And.intro
        · intro k u W
          repeat' (first|refine za ?_|refine zB ?_|refine zb ?_|refine zd ?_)
          exact ⟨rfl, rfl, rfl⟩
        rintro j W k u hku hsz ⟨a1, a2, ⟨D', a3, a4, a5⟩, a6, a7, a8, a9⟩ hDD
        have hmem := List.mem_of_getElem? hku
        obtain ⟨kk, hkk, hk1, hk2⟩ := nb_mem hmem
        dsimp only at hk1 hk2
        subst hk1
        have hGk := hG kk hkk
        have hur : 0 ≤ u ∧ u < v := by rcases hk2 with ⟨_, rfl⟩ | ⟨_, rfl⟩ <;> omega
        have htake : (nb L p L.length).take (j + 1) = (nb L p L.length).take j ++ [((kk : Int), u)] := by
          rw [List.take_add_one, hku]; rfl
        have g4 := a2.rd
        have gru := (OwnI.ints a3).rd (i := u.toNat) (by omega)
        have h5 := a5 u.toNat (by omega)
        rw [Int.toNat_of_nonneg hur.1] at h5
        have hc1 := cntU_le (v := u) (A := (nb L p L.length).take j)
        have hc2 : ((nb L p L.length).take j).length ≤ L.length := by
          have := nb_len (L := L) (v := p) (m := L.length)
          rw [List.length_take]; omega
        have hn1 := nbP_nonneg (L := L) (P := out O) (v := u)
        have hn2 := nbP_le (L := L) (P := out O) (v := u)
        have hps : (some (⟨gD, 0, none⟩ : Addr)).isSome = true := rfl
        repeat' (first|refine za ?_|refine zA ?_|refine zd ?_|refine zJ ?_|refine zL ?_|refine zM ?_|refine zl ?_)
        refine r_st_i (i := u.toNat) (a := D'.getD u.toNat 0 - 1) (by kernel_rfl) a3 rfl rfl (by omega) fun w9 hD9 hg9 hs9 => ?_
        have hK9 : Ch (fun k => k = gD) W w9 := Ch.grown hg9 fun k hk => (Option.some.inj hk).symm
        obtain ⟨cD, hcD⟩ := row_obj a3 (g := gD) rfl
        have hnD : ∀ {b c t r}, W.heap[b]? = some (.cells c t r) → t ≠ 3 → ¬ b = gD := fun h1 h2 e => by
          subst e; rw [hcD] at h1; cases h1; exact h2 rfl
        repeat' (first|refine zb ?_|refine zh ?_)
        refine ⟨KpB.of_ch hK9 fun k hk => by subst hk; exact row_cm a3 rfl, ⟨a1.keep hK9 (hnD a1 (by decide)), a2.keep hK9 (hnD a2 (by decide)), ⟨_, hD9, by rw [List.length_set]; exact a4, fun u' hu' => ?_⟩, ownsRow_keep a6 hK9 fun g hg e => by have : gC = g := Option.some.inj hg; omega, ownsRow_keep a7 hK9 fun g hg e => (hdj' g hg).1 e, a8.ch hK9 fun k hk => by subst hk; exact row_cm a3 rfl, Ch.trans' a9 hK9 fun k hk e => by omega⟩,
          ⟨hDD.1.keep hK9 (by omega), hDD.2.1.keep hK9 (by omega), hDD.2.2.keep hK9 fun g hg e => by have := hel g hg; omega⟩, Kt.of_ch hK9 fun k hk c r e => by subst hk; rw [hcD] at e; cases e⟩
        rw [getD_set (by omega), htake, cntU_append]
        by_cases c : u' = u.toNat
        · subst c
          rw [if_pos rfl, a5 _ hu']
          simp only [cntU, Int.toNat_of_nonneg hur.1, if_true]; omega
        · rw [if_neg c, a5 _ hu']
          simp only [cntU]
          rw [if_neg (by omega)]; omega
      case hdone =>
        rintro W ⟨a1, a2, ⟨D', a3, a4, a5⟩, a6, a7, a8, a9⟩ hblk
        rw [List.take_length] at a5
        repeat' (first|refine za ?_|refine zA ?_|refine zb ?_|refine ze ?_|refine zd ?_|refine zI ?_|refine zh ?_)
        refine ⟨r + 1, wr.heap.size :: M, vo', ⟨rfl, by rw [← hms']; rfl, rfl, rfl, trivial⟩, ⟨by omega, a1, a2, ⟨D', a3, a4, fun u hu => ?_⟩, by rw [hpC]; exact a6, by rw [hpO]; exact a7, hdj', Mk.cons a8 (hMd.ext hEr) hblk, fun D hD => ?_, a9⟩, by omega⟩
        · rw [a5 u hu, hpO, nbP_snoc hdis p2]
        · rcases List.mem_cons.1 hD with rfl | hD
          · exact hszr
          · exact hMlo D hD
  · have : r = m := by omega
    subst this
    obtain ⟨qo, co, rfl, hqo⟩ := (OwnI.ints hO).slice
    repeat' (first|refine za ?_|refine zA ?_|refine zB ?_|refine zb ?_|refine zc ?_|refine ze ?_|refine zd ?_|refine zC ?_|refine zY ?_|refine zm ?_|refine zn ?_|refine zg ?_|refine zj ?_)
    refine postK2 M rfl hM rfl (v1 := .slice qo (peO L r r).length co) (v2 := .slice (some ⟨gC, 0, none⟩) r r) rfl rfl fun w' hc => ⟨⟨_, _, rfl, ?_, ?_⟩, Ch.trans' hE hc fun k hk e => by have := hMlo k e; omega⟩
    · exact ownsRow_keep hO hc fun g hg e => (row_cm hO hg).nemk hM e
    · exact ownsRow_keep hC hc fun g hg e => (row_cm hC hg).nemk hM e
end Bg
end Go.Proofs.YtocgehoffdjijaaGreat
/- bags: Cores, Peel. -/
namespace Go.Proofs.YtocgehoffdjijaaGreat
namespace Bg
set_option maxRecDepth 20000
open Gv
def CoresR (n : Int) (L : List (Int × Int)) (w w' : World) (v : Value) : Prop := if IsG n L then ∃ vc, v = .tuple #[vc, .int .i64 0] ∧ OwnI w' w.heap.size 3 vc (peC L n.toNat n.toNat) else v = .tuple #[.slice none 0 0, .int .i64 2]
def PeelR (n : Int) (L : List (Int × Int)) (w w' : World) (v : Value) : Prop := if IsG n L then ∃ vo, v = .tuple #[vo, .int .i64 (peM L n.toNat n.toNat), .int .i64 0] ∧ OwnI w' w.heap.size 3 vo (peO L n.toNat n.toNat) else v = .tuple #[.slice none 0 0, .int .i64 0, .int .i64 2]
set_option maxRecDepth 20000 in
set_option maxHeartbeats 4000000 in
theorem cores_any (n : Int) (ve : Value) (L : List (Int × Int)) (w : World) (h : Pairs2 w ve L) (hl : L.length ≤ 1000) (hel : ∀ g, ve.ownBlock = some g → g < w.heap.size) :
    Calls Tryz.prog 28 #[.int .i64 n, ve] w (Ret fun v w' => CoresR n L w w' v ∧ Ext w w') := by
  obtain ⟨qe, ce, rfl, hqe⟩ := h.slice
  refine calls_of_wc (args := [.int .i64 n, .slice qe L.length ce]) Tryz.func28 rfl ?_ ?_; kernel_rfl
  repeat' (first|refine za ?_|refine zA ?_|refine zB ?_|refine zb ?_|refine zc ?_|refine ze ?_|refine zd ?_)
  (refine r_call (R := ?_) rfl ?_ ?_; rotate_left 1; focus exact newGraph_any n _ L _ h hl)
  rintro v w2 ⟨rfl, hE2⟩
  by_cases hG : IsG n L
  rotate_left 1
  · rw [if_neg hG]
    repeat' (first|refine za ?_|refine zA ?_|refine zS ?_)
    refine r_allocN z72 fun w3 hb3 hE3 hs3 => ?_
    repeat' (refine za ?_)
    refine r_stN (ws := [.int .i64 0, .slice none 0 0]) ag72 (by decide) hb3 rfl rfl rfl rfl (by intro q hq; simp at hq; rcases hq with rfl | rfl <;> rfl) fun w4 h4 hC4 hs4 => ?_
    have hE4 : Ext w2 w4 := Ch.trans' hE3 hC4 fun k hk e => by omega
    repeat' (first|refine za ?_|refine zA ?_|refine zB ?_|refine zb ?_|refine zc ?_|refine ze ?_|refine zd ?_|refine zO ?_|refine zX ?_|refine zn ?_|refine zf ?_)
    refine post2 (v1 := .slice none 0 0) (v2 := .int .i64 2) rfl rfl rfl ?_
    refine ⟨?_, hE2.trans hE4⟩
    unfold CoresR; rw [if_neg hG]
  rw [if_pos hG]
  have hn := hG.1
  have hGe := hG.ed
  obtain ⟨m, rfl⟩ : ∃ m : Nat, n = m := ⟨n.toNat, by omega⟩
  repeat' (first|refine za ?_|refine zA ?_|refine zS ?_)
  refine r_allocN z72 fun w3 hb3 hE3 hs3 => ?_
  repeat' (refine za ?_)
  refine r_stN (ws := [.int .i64 (m : Int), .slice qe L.length ce]) ag72 (by decide) hb3 rfl rfl rfl rfl (by intro q hq; simp at hq; rcases hq with rfl | rfl <;> rfl) fun w4 h4 hC4 hs4 => ?_
  have hE4 : Ext w2 w4 := Ch.trans' hE3 hC4 fun k hk e => by omega
  have hE04 := hE2.trans hE4
  repeat' (first|refine za ?_|refine zA ?_|refine zB ?_|refine zb ?_|refine zc ?_|refine ze ?_|refine zd ?_|refine zO ?_|refine zY ?_|refine zk ?_)
  refine r_ldN (vs := [.int .i64 (m : Int), .slice qe L.length ce]) ag72 (by decide) h4 rfl rfl ?_
  repeat' (refine za ?_)
  (refine r_call (R := ?_) rfl ?_ ?_; rotate_left 1; focus exact peel_any m _ L _ (h.ext hE04) hl (fun g hg => by have := hel g hg; have := hE04.size; omega) hGe (by omega))
  rintro v w5 ⟨⟨vo, vc, rfl, hO, hC⟩, hE5⟩
  repeat' (first|refine za ?_|refine zA ?_|refine zB ?_|refine zb ?_|refine zc ?_|refine ze ?_|refine zd ?_|refine zS ?_|refine zn ?_)
  refine post2 (v1 := vc) (v2 := .int .i64 0) rfl rfl rfl ⟨?_, hE04.trans hE5⟩
  unfold CoresR; rw [if_pos hG]
  exact ⟨vc, rfl, ownsRow_mono hC hE04.size⟩
end Bg
end Go.Proofs.YtocgehoffdjijaaGreat

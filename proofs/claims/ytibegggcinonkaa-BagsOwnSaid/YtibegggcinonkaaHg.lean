/- bags: slices.Max, Height. -/
import Derived.Test.YtibegggcinonkaaC
import Derived.Test.YtibegggcinonkaaB4
import Derived.Test.YtibegggcinonkaaPG
namespace Go.Proofs.Ytibegggcinonkaa
open Gv
theorem ar75' : arrSz Try.prog 75 = some (16, 1) := by kernel_rfl
theorem z75 : (Try.prog.info? 75).bind (·.zero) = some (.agg (ints (List.replicate 16 0)).toArray) := by kernel_rfl
theorem fq46_0 : fldOff Try.prog 46 0 = some 0 := by kernel_rfl
theorem fq46_1 : fldOff Try.prog 46 1 = some 1 := by kernel_rfl
set_option maxRecDepth 20000 in
set_option maxHeartbeats 1000000 in
theorem max_any (v : Value) (L : List Int) (w : World) (h : Ints w v L) (h0 : 0 < L.length) (hm : L.length < 9223372036854775807) :
    Calls Try.prog 42 #[v] w (Ret fun v' w' => (∃ r, v' = .int .i64 r ∧ (∀ x, x ∈ L → x ≤ r) ∧ r ∈ L) ∧ w' = w) := by
  obtain ⟨q, c, rfl, hqc⟩ := h.slice
  have hps := h.isSome h0
  have hr0 := h.rd h0
  have hr0' : rd w (pidx q (0 : Int).toNat 1) = some (.int .i64 (L.getD 0 0)) := hr0
  have hz : ∀ k, k < 1 → L.getD k 0 ≤ L.getD 0 0 := fun k hk => by
    have : k = 0 := by omega
    rw [this]; exact Int.le_refl _
  refine calls_of_wc (args := [.slice q L.length c]) Try.func42 rfl ?_ ?_; kernel_rfl
  repeat' (first|refine za ?_|refine zA ?_|refine zB ?_|refine zb ?_|refine zc ?_|refine ze ?_|refine zd ?_|refine zC ?_|refine zD ?_|refine zE ?_|refine zF ?_|refine zG ?_|refine zH ?_|refine zI ?_|refine zJ ?_|refine zK ?_|refine zL ?_|refine zM ?_|refine zN ?_|refine zO ?_|refine zP ?_|refine zQ ?_|refine zR ?_|refine zS ?_|refine zU ?_|refine zV ?_|refine zW ?_|refine zt (fun hcd => ?_) (fun hcd => ?_)|refine zu (fun hcd => ?_) (fun hcd => ?_)|refine zX ?_|refine zY ?_|refine zv (fun hcd => ?_) (fun hcd => ?_)|refine zk ?_|refine zl ?_|refine zm ?_|refine zn ?_|refine zf ?_|refine zg ?_|refine zj ?_|refine zZ ?_|refine zh ?_|refine zi ?_|refine zo ?_|refine zp ?_|refine zq ?_|refine zr ?_|refine zs ?_)
  refine wc_loop2 [0] (fun (i : Nat) (r : Int) => [(3, .int .i64 r), (4, .int .i64 i)]) (fun i r wk => wk = w ∧ 1 ≤ i ∧ i ≤ L.length ∧ (∀ k, k < i → L.getD k 0 ≤ r) ∧ ∃ k, k < i ∧ L.getD k 0 = r) (fun i _ => L.length - i) 1 _ rfl ⟨rfl, rfl, trivial⟩ ⟨rfl, by omega, by omega, fun k hk => hz k hk, 0, by omega, rfl⟩ ?_
  rintro i r wk x ⟨rfl, hi1, hi, hall, hex⟩
  by_cases hin : i < L.length
  · have hr := h.rd hin
    repeat' (first|refine za ?_|refine zA ?_|refine zB ?_|refine zb ?_|refine zc ?_|refine ze ?_|refine zd ?_|refine zC ?_|refine zD ?_|refine zE ?_|refine zF ?_|refine zG ?_|refine zH ?_|refine zI ?_|refine zJ ?_|refine zK ?_|refine zL ?_|refine zM ?_|refine zN ?_|refine zO ?_|refine zP ?_|refine zQ ?_|refine zR ?_|refine zS ?_|refine zU ?_|refine zV ?_|refine zW ?_|refine zt (fun hcd => ?_) (fun hcd => ?_)|refine zu (fun hcd => ?_) (fun hcd => ?_)|refine zX ?_|refine zY ?_|refine zv (fun hcd => ?_) (fun hcd => ?_)|refine zk ?_|refine zl ?_|refine zm ?_|refine zn ?_|refine zf ?_|refine zg ?_|refine zj ?_|refine zZ ?_|refine zh ?_|refine zi ?_|refine zo ?_|refine zp ?_|refine zq ?_|refine zr ?_|refine zs ?_)
    refine r_max (c := max r (L.getD i 0)) rfl rfl ?_ ?_
    · rcases Int.le_total r (L.getD i 0) with c | c
      · rw [Int.max_eq_right c]; split <;> omega
      · rw [Int.max_eq_left c, if_neg (by omega)]
    repeat' (first|refine za ?_|refine zA ?_|refine zB ?_|refine zb ?_|refine zc ?_|refine ze ?_|refine zd ?_|refine zC ?_|refine zD ?_|refine zE ?_|refine zF ?_|refine zG ?_|refine zH ?_|refine zI ?_|refine zJ ?_|refine zK ?_|refine zL ?_|refine zM ?_|refine zN ?_|refine zO ?_|refine zP ?_|refine zQ ?_|refine zR ?_|refine zS ?_|refine zU ?_|refine zV ?_|refine zW ?_|refine zt (fun hcd => ?_) (fun hcd => ?_)|refine zu (fun hcd => ?_) (fun hcd => ?_)|refine zX ?_|refine zY ?_|refine zv (fun hcd => ?_) (fun hcd => ?_)|refine zk ?_|refine zl ?_|refine zm ?_|refine zn ?_|refine zf ?_|refine zg ?_|refine zj ?_|refine zZ ?_|refine zh ?_|refine zi ?_|refine zo ?_|refine zp ?_|refine zq ?_|refine zr ?_|refine zs ?_)
    refine ⟨i + 1, _, ⟨rfl, rfl, trivial⟩, ⟨rfl, by omega, by omega, fun k hk => ?_, ?_⟩, by omega⟩
    · by_cases e : k = i
      · subst e; exact Int.le_max_right _ _
      · exact Int.le_trans (hall k (by omega)) (Int.le_max_left _ _)
    · rcases Int.le_total r (L.getD i 0) with c | c
      · exact ⟨i, by omega, by rw [Int.max_eq_right c]⟩
      · obtain ⟨k, hk, e⟩ := hex
        exact ⟨k, by omega, by rw [Int.max_eq_left c]; exact e⟩
  · have : i = L.length := by omega
    subst this
    repeat' (first|refine za ?_|refine zA ?_|refine zB ?_|refine zb ?_|refine zc ?_|refine ze ?_|refine zd ?_|refine zC ?_|refine zD ?_|refine zE ?_|refine zF ?_|refine zG ?_|refine zH ?_|refine zI ?_|refine zJ ?_|refine zK ?_|refine zL ?_|refine zM ?_|refine zN ?_|refine zO ?_|refine zP ?_|refine zQ ?_|refine zR ?_|refine zS ?_|refine zU ?_|refine zV ?_|refine zW ?_|refine zt (fun hcd => ?_) (fun hcd => ?_)|refine zu (fun hcd => ?_) (fun hcd => ?_)|refine zX ?_|refine zY ?_|refine zv (fun hcd => ?_) (fun hcd => ?_)|refine zk ?_|refine zl ?_|refine zm ?_|refine zn ?_|refine zf ?_|refine zg ?_|refine zj ?_|refine zZ ?_|refine zh ?_|refine zi ?_|refine zo ?_|refine zp ?_|refine zq ?_|refine zr ?_|refine zs ?_)
    refine post1 (v := .int .i64 r) rfl rfl ?_
    refine ⟨⟨r, rfl, fun x hx => ?_, ?_⟩, rfl⟩
    · obtain ⟨k, hk, rfl⟩ := List.getElem_of_mem hx
      have := hall k hk
      rwa [getD_lt hk] at this
    · obtain ⟨k, hk, e⟩ := hex
      rw [← e]; exact getD_memI hk
def cntH (v : Int) : List Int → Int
  | [] => 0
  | x :: r => (if x = v then 1 else 0) + cntH v r
theorem cntH_append {v : Int} : ∀ {A B : List Int}, cntH v (A ++ B) = cntH v A + cntH v B
  | [], B => by simp [cntH]
  | x :: A, B => by rw [List.cons_append, cntH, cntH, cntH_append]; omega
theorem cntH_le {v : Int} : ∀ {A : List Int}, 0 ≤ cntH v A ∧ cntH v A ≤ A.length
  | [] => by simp [cntH]
  | x :: A => by
    have := cntH_le (v := v) (A := A)
    rw [cntH, List.length_cons]; split <;> omega
theorem take_snoc {A : List Int} {i : Nat} (h : i < A.length) : A.take (i + 1) = A.take i ++ [A.getD i 0] := by
  rw [List.take_add_one, List.getElem?_eq_getElem h, getD_lt h]; rfl
/-- An orientation. -/
def OkH (L : List (Int × Int)) (H : List Int) : Prop := H.length = L.length ∧ ∀ k, k < L.length → H.getD k 0 = (ed L k).1 ∨ H.getD k 0 = (ed L k).2
instance (L : List (Int × Int)) (H : List Int) : Decidable (OkH L H) := by unfold OkH; infer_instance
/-- r is the height. -/
def IsHt (H : List Int) (r : Int) : Prop := (∀ u : Nat, u < 16 → cntH u H ≤ r) ∧ ∃ u : Nat, u < 16 ∧ cntH u H = r
theorem IsHt.uniq {H : List Int} {r s : Int} (h : IsHt H r) (h' : IsHt H s) : r = s := by
  obtain ⟨a, u, hu, e⟩ := h
  obtain ⟨b, v, hv, f⟩ := h'
  have := a v hv; have := b u hu; omega
def HgtR (n : Int) (L : List (Int × Int)) (H : List Int) (v : Value) : Prop := if IsG n L ∧ OkH L H then ∃ r, v = .tuple #[.int .i64 r, .int .i64 0] ∧ IsHt H r else v = .tuple #[.int .i64 0, .int .i64 2]
set_option maxRecDepth 20000 in
set_option maxHeartbeats 4000000 in
theorem height_any (n : Int) (ve vh : Value) (L : List (Int × Int)) (H : List Int) (w : World) (h : Pairs2 w ve L) (hH : Ints w vh H) (hl : L.length ≤ 1000) :
    Calls Try.prog 16 #[.int .i64 n, ve, vh] w (Ret fun v w' => HgtR n L H v ∧ Ext w w') := by
  obtain ⟨qe, ce, rfl, hqe⟩ := h.slice
  obtain ⟨qh, ch, rfl, hqh⟩ := hH.slice
  refine calls_of_wc (args := [.int .i64 n, .slice qe L.length ce, .slice qh H.length ch]) Try.func16 rfl ?_ ?_; kernel_rfl
  repeat' (first|refine za ?_|refine zA ?_|refine zB ?_|refine zb ?_|refine zc ?_|refine ze ?_|refine zd ?_|refine zC ?_|refine zD ?_|refine zE ?_|refine zF ?_|refine zG ?_|refine zH ?_|refine zI ?_|refine zJ ?_|refine zK ?_|refine zL ?_|refine zM ?_|refine zN ?_|refine zO ?_|refine zP ?_|refine zQ ?_|refine zR ?_|refine zS ?_|refine zU ?_|refine zV ?_|refine zW ?_|refine zt (fun hcd => ?_) (fun hcd => ?_)|refine zu (fun hcd => ?_) (fun hcd => ?_)|refine zX ?_|refine zY ?_|refine zv (fun hcd => ?_) (fun hcd => ?_)|refine zk ?_|refine zl ?_|refine zm ?_|refine zn ?_|refine zf ?_|refine zg ?_|refine zj ?_|refine zZ ?_|refine zh ?_|refine zi ?_|refine zo ?_|refine zp ?_|refine zq ?_|refine zr ?_|refine zs ?_)
  (refine r_call (R := ?_) rfl ?_ ?_; rotate_left 1; focus exact newGraph_any n _ L _ h hl)
  rintro v w2 ⟨rfl, hE2⟩
  by_cases hG : IsG n L
  rotate_left 1
  · rw [if_neg hG]
    repeat' (first|refine za ?_|refine zA ?_|refine zB ?_|refine zb ?_|refine zc ?_|refine ze ?_|refine zd ?_|refine zC ?_|refine zD ?_|refine zE ?_|refine zF ?_|refine zG ?_|refine zH ?_|refine zI ?_|refine zJ ?_|refine zK ?_|refine zL ?_|refine zM ?_|refine zN ?_|refine zO ?_|refine zP ?_|refine zQ ?_|refine zR ?_|refine zS ?_|refine zU ?_|refine zV ?_|refine zW ?_|refine zt (fun hcd => ?_) (fun hcd => ?_)|refine zu (fun hcd => ?_) (fun hcd => ?_)|refine zX ?_|refine zY ?_|refine zv (fun hcd => ?_) (fun hcd => ?_)|refine zk ?_|refine zl ?_|refine zm ?_|refine zn ?_|refine zf ?_|refine zg ?_|refine zj ?_|refine zZ ?_|refine zh ?_|refine zi ?_|refine zo ?_|refine zp ?_|refine zq ?_|refine zr ?_|refine zs ?_)
    refine r_allocN z72 fun w3 hb3 hE3 hs3 => ?_
    repeat' (first|refine za ?_|refine zA ?_|refine zB ?_|refine zb ?_|refine zc ?_|refine ze ?_|refine zd ?_|refine zC ?_|refine zD ?_|refine zE ?_|refine zF ?_|refine zG ?_|refine zH ?_|refine zI ?_|refine zJ ?_|refine zK ?_|refine zL ?_|refine zM ?_|refine zN ?_|refine zO ?_|refine zP ?_|refine zQ ?_|refine zR ?_|refine zS ?_|refine zU ?_|refine zV ?_|refine zW ?_|refine zt (fun hcd => ?_) (fun hcd => ?_)|refine zu (fun hcd => ?_) (fun hcd => ?_)|refine zX ?_|refine zY ?_|refine zv (fun hcd => ?_) (fun hcd => ?_)|refine zk ?_|refine zl ?_|refine zm ?_|refine zn ?_|refine zf ?_|refine zg ?_|refine zj ?_|refine zZ ?_|refine zh ?_|refine zi ?_|refine zo ?_|refine zp ?_|refine zq ?_|refine zr ?_|refine zs ?_)
    refine r_stN (ws := [.int .i64 0, .slice none 0 0]) ag72 (by decide) hb3 rfl rfl rfl rfl (by intro q hq; simp at hq; rcases hq with rfl | rfl <;> rfl) fun w4 h4 hC4 hs4 => ?_
    have hE4 : Ext w2 w4 := Ch.trans' hE3 hC4 fun k hk e => by omega
    repeat' (first|refine za ?_|refine zA ?_|refine zB ?_|refine zb ?_|refine zc ?_|refine ze ?_|refine zd ?_|refine zC ?_|refine zD ?_|refine zE ?_|refine zF ?_|refine zG ?_|refine zH ?_|refine zI ?_|refine zJ ?_|refine zK ?_|refine zL ?_|refine zM ?_|refine zN ?_|refine zO ?_|refine zP ?_|refine zQ ?_|refine zR ?_|refine zS ?_|refine zU ?_|refine zV ?_|refine zW ?_|refine zt (fun hcd => ?_) (fun hcd => ?_)|refine zu (fun hcd => ?_) (fun hcd => ?_)|refine zX ?_|refine zY ?_|refine zv (fun hcd => ?_) (fun hcd => ?_)|refine zk ?_|refine zl ?_|refine zm ?_|refine zn ?_|refine zf ?_|refine zg ?_|refine zj ?_|refine zZ ?_|refine zh ?_|refine zi ?_|refine zo ?_|refine zp ?_|refine zq ?_|refine zr ?_|refine zs ?_)
    refine post2 (v1 := .int .i64 0) (v2 := .int .i64 2) rfl rfl rfl ?_
    refine ⟨?_, hE2.trans hE4⟩
    unfold HgtR; rw [if_neg fun c => hG c.1]
  rw [if_pos hG]
  repeat' (first|refine za ?_|refine zA ?_|refine zB ?_|refine zb ?_|refine zc ?_|refine ze ?_|refine zd ?_|refine zC ?_|refine zD ?_|refine zE ?_|refine zF ?_|refine zG ?_|refine zH ?_|refine zI ?_|refine zJ ?_|refine zK ?_|refine zL ?_|refine zM ?_|refine zN ?_|refine zO ?_|refine zP ?_|refine zQ ?_|refine zR ?_|refine zS ?_|refine zU ?_|refine zV ?_|refine zW ?_|refine zt (fun hcd => ?_) (fun hcd => ?_)|refine zu (fun hcd => ?_) (fun hcd => ?_)|refine zX ?_|refine zY ?_|refine zv (fun hcd => ?_) (fun hcd => ?_)|refine zk ?_|refine zl ?_|refine zm ?_|refine zn ?_|refine zf ?_|refine zg ?_|refine zj ?_|refine zZ ?_|refine zh ?_|refine zi ?_|refine zo ?_|refine zp ?_|refine zq ?_|refine zr ?_|refine zs ?_)
  refine r_allocN z72 fun w3 hb3 hE3 hs3 => ?_
  repeat' (first|refine za ?_|refine zA ?_|refine zB ?_|refine zb ?_|refine zc ?_|refine ze ?_|refine zd ?_|refine zC ?_|refine zD ?_|refine zE ?_|refine zF ?_|refine zG ?_|refine zH ?_|refine zI ?_|refine zJ ?_|refine zK ?_|refine zL ?_|refine zM ?_|refine zN ?_|refine zO ?_|refine zP ?_|refine zQ ?_|refine zR ?_|refine zS ?_|refine zU ?_|refine zV ?_|refine zW ?_|refine zt (fun hcd => ?_) (fun hcd => ?_)|refine zu (fun hcd => ?_) (fun hcd => ?_)|refine zX ?_|refine zY ?_|refine zv (fun hcd => ?_) (fun hcd => ?_)|refine zk ?_|refine zl ?_|refine zm ?_|refine zn ?_|refine zf ?_|refine zg ?_|refine zj ?_|refine zZ ?_|refine zh ?_|refine zi ?_|refine zo ?_|refine zp ?_|refine zq ?_|refine zr ?_|refine zs ?_)
  refine r_stN (ws := [.int .i64 n, .slice qe L.length ce]) ag72 (by decide) hb3 rfl rfl rfl rfl (by intro q hq; simp at hq; rcases hq with rfl | rfl <;> rfl) fun w4 h4 hC4 hs4 => ?_
  have hE4 : Ext w2 w4 := Ch.trans' hE3 hC4 fun k hk e => by omega
  have hE04 := hE2.trans hE4
  by_cases hlen : H.length = L.length
  rotate_left 1
  · repeat' (first|refine za ?_|refine zA ?_|refine zB ?_|refine zb ?_|refine zc ?_|refine ze ?_|refine zd ?_|refine zC ?_|refine zD ?_|refine zE ?_|refine zF ?_|refine zG ?_|refine zH ?_|refine zI ?_|refine zJ ?_|refine zK ?_|refine zL ?_|refine zM ?_|refine zN ?_|refine zO ?_|refine zP ?_|refine zQ ?_|refine zR ?_|refine zS ?_|refine zU ?_|refine zV ?_|refine zW ?_|refine zt (fun hcd => ?_) (fun hcd => ?_)|refine zu (fun hcd => ?_) (fun hcd => ?_)|refine zX ?_|refine zY ?_|refine zv (fun hcd => ?_) (fun hcd => ?_)|refine zk ?_|refine zl ?_|refine zm ?_|refine zn ?_|refine zf ?_|refine zg ?_|refine zj ?_|refine zZ ?_|refine zh ?_|refine zi ?_|refine zo ?_|refine zp ?_|refine zq ?_|refine zr ?_|refine zs ?_)
    refine post2 (v1 := .int .i64 0) (v2 := .int .i64 2) rfl rfl rfl ?_
    refine ⟨?_, hE04⟩
    unfold HgtR; rw [if_neg fun c => hlen c.2.1]
  repeat' (first|refine za ?_|refine zA ?_|refine zB ?_|refine zb ?_|refine zc ?_|refine ze ?_|refine zd ?_|refine zC ?_|refine zD ?_|refine zE ?_|refine zF ?_|refine zG ?_|refine zH ?_|refine zI ?_|refine zJ ?_|refine zK ?_|refine zL ?_|refine zM ?_|refine zN ?_|refine zO ?_|refine zP ?_|refine zQ ?_|refine zR ?_|refine zS ?_|refine zU ?_|refine zV ?_|refine zW ?_|refine zt (fun hcd => ?_) (fun hcd => ?_)|refine zu (fun hcd => ?_) (fun hcd => ?_)|refine zX ?_|refine zY ?_|refine zv (fun hcd => ?_) (fun hcd => ?_)|refine zk ?_|refine zl ?_|refine zm ?_|refine zn ?_|refine zf ?_|refine zg ?_|refine zj ?_|refine zZ ?_|refine zh ?_|refine zi ?_|refine zo ?_|refine zp ?_|refine zq ?_|refine zr ?_|refine zs ?_)
  refine r_allocN z75 fun w5 hb5 hE5 hs5 => ?_
  obtain ⟨b10, eb10⟩ : ∃ b, b = w4.heap.size := ⟨_, rfl⟩
  rw [← eb10] at hb5 ⊢
  have hsz := hE04.size
  repeat' (first|refine za ?_|refine zA ?_|refine zB ?_|refine zb ?_|refine zc ?_|refine ze ?_|refine zd ?_|refine zC ?_|refine zD ?_|refine zE ?_|refine zF ?_|refine zG ?_|refine zH ?_|refine zI ?_|refine zJ ?_|refine zK ?_|refine zL ?_|refine zM ?_|refine zN ?_|refine zO ?_|refine zP ?_|refine zQ ?_|refine zR ?_|refine zS ?_|refine zU ?_|refine zV ?_|refine zW ?_|refine zt (fun hcd => ?_) (fun hcd => ?_)|refine zu (fun hcd => ?_) (fun hcd => ?_)|refine zX ?_|refine zY ?_|refine zv (fun hcd => ?_) (fun hcd => ?_)|refine zk ?_|refine zl ?_|refine zm ?_|refine zn ?_|refine zf ?_|refine zg ?_|refine zj ?_|refine zZ ?_|refine zh ?_|refine zi ?_|refine zo ?_|refine zp ?_|refine zq ?_|refine zr ?_|refine zs ?_)
  refine wc_loop2 [0, 1, 10, 28, 29] (fun (i : Nat) (_ : List Int) => [(30, .int .i64 i)]) (fun i R wk => i ≤ H.length ∧ Blk wk b10 75 (ints R) ∧ R.length = 16 ∧ (∀ u : Nat, u < 16 → R.getD u 0 = cntH u (H.take i)) ∧ (∀ k, k < i → H.getD k 0 = (ed L k).1 ∨ H.getD k 0 = (ed L k).2) ∧ Ext w wk) (fun i _ => H.length - i) 0 (List.replicate 16 0) rfl ⟨rfl, trivial⟩
    ⟨by omega, hb5, by simp, fun u hu => by rw [List.getD_eq_getElem?_getD, List.getElem?_replicate, if_pos hu]; rfl, fun k hk => by omega, hE04.trans hE5⟩ ?_
  clear hb5 hE5 hs5 h4 hb3
  rintro i R wk x ⟨hi, hB, hRl, hcnt, hok, hE⟩
  by_cases hin : i < H.length
  · have hg := (hG.2.2 i (by omega)).1
    have hn := hG.1
    obtain ⟨e0, e1⟩ := (h.ext hE).rd (i := i) (by omega)
    have hes := h.isSome (by omega)
    have hhs := hH.isSome (by omega)
    have hr := (hH.ext hE).rd hin
    change rd _ _ = some (.int .i64 (ed L i).1) at e0
    change rd _ _ = some (.int .i64 (ed L i).2) at e1
    change (0 ≤ (ed L i).1 ∧ (ed L i).1 < (ed L i).2 ∧ (ed L i).2 < n) at hg
    have hts := take_snoc hin
    have hbad : ¬ (H.getD i 0 = (ed L i).1 ∨ H.getD i 0 = (ed L i).2) → ¬ (IsG n L ∧ OkH L H) := fun c hh => c (hh.2.2 i (by omega))
    have hgood : (H.getD i 0 = (ed L i).1 ∨ H.getD i 0 = (ed L i).2) → ∀ k, k < i + 1 → H.getD k 0 = (ed L k).1 ∨ H.getD k 0 = (ed L k).2 := fun c k hk => by
      by_cases e : k = i
      · subst e; exact c
      · exact hok k (by omega)
    generalize hvv : H.getD i 0 = v at *
    generalize (ed L i).1 = a at *
    generalize (ed L i).2 = b at *
    have hstore : (0 ≤ v ∧ v < 16) → rd wk (some ⟨b10, 0 + v.toNat, none⟩) = some (.int .i64 (R.getD v.toNat 0)) := fun hv => hB.rd (by rw [Nat.zero_add]; exact ints_getD (by omega))
    by_cases c1 : v = a
    · have hrv := hstore (by omega)
      have hcv := hcnt v.toNat (by omega)
      have hcl := cntH_le (v := (v.toNat : Int)) (A := H.take i)
      have htl : (H.take i).length ≤ 1000 := by rw [List.length_take]; omega
      clear hbad
      repeat' (first|refine za ?_|refine zA ?_|refine zB ?_|refine zb ?_|refine zc ?_|refine ze ?_|refine zd ?_|refine zC ?_|refine zD ?_|refine zE ?_|refine zF ?_|refine zG ?_|refine zH ?_|refine zI ?_|refine zJ ?_|refine zK ?_|refine zL ?_|refine zM ?_|refine zN ?_|refine zO ?_|refine zP ?_|refine zQ ?_|refine zR ?_|refine zS ?_|refine zU ?_|refine zV ?_|refine zW ?_|refine zt (fun hcd => ?_) (fun hcd => ?_)|refine zu (fun hcd => ?_) (fun hcd => ?_)|refine zX ?_|refine zY ?_|refine zv (fun hcd => ?_) (fun hcd => ?_)|refine zk ?_|refine zl ?_|refine zm ?_|refine zn ?_|refine zf ?_|refine zg ?_|refine zj ?_|refine zZ ?_|refine zh ?_|refine zi ?_|refine zo ?_|refine zp ?_|refine zq ?_|refine zr ?_|refine zs ?_)
      refine r_faQ fq46_0 rfl (pidx_isSome hes) ?_
      repeat' (first|refine za ?_|refine zA ?_|refine zB ?_|refine zb ?_|refine zc ?_|refine ze ?_|refine zd ?_|refine zC ?_|refine zD ?_|refine zE ?_|refine zF ?_|refine zG ?_|refine zH ?_|refine zI ?_|refine zJ ?_|refine zK ?_|refine zL ?_|refine zM ?_|refine zN ?_|refine zO ?_|refine zP ?_|refine zQ ?_|refine zR ?_|refine zS ?_|refine zU ?_|refine zV ?_|refine zW ?_|refine zt (fun hcd => ?_) (fun hcd => ?_)|refine zu (fun hcd => ?_) (fun hcd => ?_)|refine zX ?_|refine zY ?_|refine zv (fun hcd => ?_) (fun hcd => ?_)|refine zk ?_|refine zl ?_|refine zm ?_|refine zn ?_|refine zf ?_|refine zg ?_|refine zj ?_|refine zZ ?_|refine zh ?_|refine zi ?_|refine zo ?_|refine zp ?_|refine zq ?_|refine zr ?_|refine zs ?_)
      refine r_idxE ar75' rfl rfl (by omega) (by omega) ?_
      repeat' (first|refine za ?_|refine zA ?_|refine zB ?_|refine zb ?_|refine zc ?_|refine ze ?_|refine zd ?_|refine zC ?_|refine zD ?_|refine zE ?_|refine zF ?_|refine zG ?_|refine zH ?_|refine zI ?_|refine zJ ?_|refine zK ?_|refine zL ?_|refine zM ?_|refine zN ?_|refine zO ?_|refine zP ?_|refine zQ ?_|refine zR ?_|refine zS ?_|refine zU ?_|refine zV ?_|refine zW ?_|refine zt (fun hcd => ?_) (fun hcd => ?_)|refine zu (fun hcd => ?_) (fun hcd => ?_)|refine zX ?_|refine zY ?_|refine zv (fun hcd => ?_) (fun hcd => ?_)|refine zk ?_|refine zl ?_|refine zm ?_|refine zn ?_|refine zf ?_|refine zg ?_|refine zj ?_|refine zZ ?_|refine zh ?_|refine zi ?_|refine zo ?_|refine zp ?_|refine zq ?_|refine zr ?_|refine zs ?_)
      refine r_idxE ar75' rfl rfl (by omega) (by omega) ?_
      repeat' (first|refine za ?_|refine zA ?_|refine zB ?_|refine zb ?_|refine zc ?_|refine ze ?_|refine zd ?_|refine zC ?_|refine zD ?_|refine zE ?_|refine zF ?_|refine zG ?_|refine zH ?_|refine zI ?_|refine zJ ?_|refine zK ?_|refine zL ?_|refine zM ?_|refine zN ?_|refine zO ?_|refine zP ?_|refine zQ ?_|refine zR ?_|refine zS ?_|refine zU ?_|refine zV ?_|refine zW ?_|refine zt (fun hcd => ?_) (fun hcd => ?_)|refine zu (fun hcd => ?_) (fun hcd => ?_)|refine zX ?_|refine zY ?_|refine zv (fun hcd => ?_) (fun hcd => ?_)|refine zk ?_|refine zl ?_|refine zm ?_|refine zn ?_|refine zf ?_|refine zg ?_|refine zj ?_|refine zZ ?_|refine zh ?_|refine zi ?_|refine zo ?_|refine zp ?_|refine zq ?_|refine zr ?_|refine zs ?_)
      refine r_st_blk (k := 0 + v.toNat) (v := .int .i64 (R.getD v.toNat 0 + 1)) (by kernel_rfl) hB rfl rfl rfl (by rw [ints_length]; omega) fun w9 h9 hC9 hs9 => ?_
      rw [ints_set] at h9
      repeat' (first|refine za ?_|refine zA ?_|refine zB ?_|refine zb ?_|refine zc ?_|refine ze ?_|refine zd ?_|refine zC ?_|refine zD ?_|refine zE ?_|refine zF ?_|refine zG ?_|refine zH ?_|refine zI ?_|refine zJ ?_|refine zK ?_|refine zL ?_|refine zM ?_|refine zN ?_|refine zO ?_|refine zP ?_|refine zQ ?_|refine zR ?_|refine zS ?_|refine zU ?_|refine zV ?_|refine zW ?_|refine zt (fun hcd => ?_) (fun hcd => ?_)|refine zu (fun hcd => ?_) (fun hcd => ?_)|refine zX ?_|refine zY ?_|refine zv (fun hcd => ?_) (fun hcd => ?_)|refine zk ?_|refine zl ?_|refine zm ?_|refine zn ?_|refine zf ?_|refine zg ?_|refine zj ?_|refine zZ ?_|refine zh ?_|refine zi ?_|refine zo ?_|refine zp ?_|refine zq ?_|refine zr ?_|refine zs ?_)
      refine ⟨i + 1, _, ⟨rfl, trivial⟩, ⟨by omega, h9, by rw [List.length_set]; exact hRl, fun u hu => ?_, hgood (.inl c1), Ch.trans' hE hC9 fun k hk e => by omega⟩, by omega⟩
      rw [hts, cntH_append, List.getD_eq_getElem?_getD, List.getElem?_set, Nat.zero_add]
      by_cases c : v.toNat = u
      · subst c
        rw [if_pos rfl, if_pos (by omega)]
        show R.getD v.toNat 0 + 1 = _
        rw [hcv, cntH, if_pos (by omega)]; rfl
      · rw [if_neg c, ← List.getD_eq_getElem?_getD, hcnt u hu, cntH, if_neg (by omega)]; simp [cntH]
    · by_cases c2 : v = b
      · have hrv := hstore (by omega)
        have hcv := hcnt v.toNat (by omega)
        have hcl := cntH_le (v := (v.toNat : Int)) (A := H.take i)
        have htl : (H.take i).length ≤ 1000 := by rw [List.length_take]; omega
        clear hbad
        repeat' (first|refine za ?_|refine zA ?_|refine zB ?_|refine zb ?_|refine zc ?_|refine ze ?_|refine zd ?_|refine zC ?_|refine zD ?_|refine zE ?_|refine zF ?_|refine zG ?_|refine zH ?_|refine zI ?_|refine zJ ?_|refine zK ?_|refine zL ?_|refine zM ?_|refine zN ?_|refine zO ?_|refine zP ?_|refine zQ ?_|refine zR ?_|refine zS ?_|refine zU ?_|refine zV ?_|refine zW ?_|refine zt (fun hcd => ?_) (fun hcd => ?_)|refine zu (fun hcd => ?_) (fun hcd => ?_)|refine zX ?_|refine zY ?_|refine zv (fun hcd => ?_) (fun hcd => ?_)|refine zk ?_|refine zl ?_|refine zm ?_|refine zn ?_|refine zf ?_|refine zg ?_|refine zj ?_|refine zZ ?_|refine zh ?_|refine zi ?_|refine zo ?_|refine zp ?_|refine zq ?_|refine zr ?_|refine zs ?_)
        refine r_faQ fq46_0 rfl (pidx_isSome hes) ?_
        repeat' (first|refine za ?_|refine zA ?_|refine zB ?_|refine zb ?_|refine zc ?_|refine ze ?_|refine zd ?_|refine zC ?_|refine zD ?_|refine zE ?_|refine zF ?_|refine zG ?_|refine zH ?_|refine zI ?_|refine zJ ?_|refine zK ?_|refine zL ?_|refine zM ?_|refine zN ?_|refine zO ?_|refine zP ?_|refine zQ ?_|refine zR ?_|refine zS ?_|refine zU ?_|refine zV ?_|refine zW ?_|refine zt (fun hcd => ?_) (fun hcd => ?_)|refine zu (fun hcd => ?_) (fun hcd => ?_)|refine zX ?_|refine zY ?_|refine zv (fun hcd => ?_) (fun hcd => ?_)|refine zk ?_|refine zl ?_|refine zm ?_|refine zn ?_|refine zf ?_|refine zg ?_|refine zj ?_|refine zZ ?_|refine zh ?_|refine zi ?_|refine zo ?_|refine zp ?_|refine zq ?_|refine zr ?_|refine zs ?_)
        refine r_faQ fq46_1 rfl (pidx_isSome hes) ?_
        repeat' (first|refine za ?_|refine zA ?_|refine zB ?_|refine zb ?_|refine zc ?_|refine ze ?_|refine zd ?_|refine zC ?_|refine zD ?_|refine zE ?_|refine zF ?_|refine zG ?_|refine zH ?_|refine zI ?_|refine zJ ?_|refine zK ?_|refine zL ?_|refine zM ?_|refine zN ?_|refine zO ?_|refine zP ?_|refine zQ ?_|refine zR ?_|refine zS ?_|refine zU ?_|refine zV ?_|refine zW ?_|refine zt (fun hcd => ?_) (fun hcd => ?_)|refine zu (fun hcd => ?_) (fun hcd => ?_)|refine zX ?_|refine zY ?_|refine zv (fun hcd => ?_) (fun hcd => ?_)|refine zk ?_|refine zl ?_|refine zm ?_|refine zn ?_|refine zf ?_|refine zg ?_|refine zj ?_|refine zZ ?_|refine zh ?_|refine zi ?_|refine zo ?_|refine zp ?_|refine zq ?_|refine zr ?_|refine zs ?_)
        refine r_idxE ar75' rfl rfl (by omega) (by omega) ?_
        repeat' (first|refine za ?_|refine zA ?_|refine zB ?_|refine zb ?_|refine zc ?_|refine ze ?_|refine zd ?_|refine zC ?_|refine zD ?_|refine zE ?_|refine zF ?_|refine zG ?_|refine zH ?_|refine zI ?_|refine zJ ?_|refine zK ?_|refine zL ?_|refine zM ?_|refine zN ?_|refine zO ?_|refine zP ?_|refine zQ ?_|refine zR ?_|refine zS ?_|refine zU ?_|refine zV ?_|refine zW ?_|refine zt (fun hcd => ?_) (fun hcd => ?_)|refine zu (fun hcd => ?_) (fun hcd => ?_)|refine zX ?_|refine zY ?_|refine zv (fun hcd => ?_) (fun hcd => ?_)|refine zk ?_|refine zl ?_|refine zm ?_|refine zn ?_|refine zf ?_|refine zg ?_|refine zj ?_|refine zZ ?_|refine zh ?_|refine zi ?_|refine zo ?_|refine zp ?_|refine zq ?_|refine zr ?_|refine zs ?_)
        refine r_idxE ar75' rfl rfl (by omega) (by omega) ?_
        repeat' (first|refine za ?_|refine zA ?_|refine zB ?_|refine zb ?_|refine zc ?_|refine ze ?_|refine zd ?_|refine zC ?_|refine zD ?_|refine zE ?_|refine zF ?_|refine zG ?_|refine zH ?_|refine zI ?_|refine zJ ?_|refine zK ?_|refine zL ?_|refine zM ?_|refine zN ?_|refine zO ?_|refine zP ?_|refine zQ ?_|refine zR ?_|refine zS ?_|refine zU ?_|refine zV ?_|refine zW ?_|refine zt (fun hcd => ?_) (fun hcd => ?_)|refine zu (fun hcd => ?_) (fun hcd => ?_)|refine zX ?_|refine zY ?_|refine zv (fun hcd => ?_) (fun hcd => ?_)|refine zk ?_|refine zl ?_|refine zm ?_|refine zn ?_|refine zf ?_|refine zg ?_|refine zj ?_|refine zZ ?_|refine zh ?_|refine zi ?_|refine zo ?_|refine zp ?_|refine zq ?_|refine zr ?_|refine zs ?_)
        refine r_st_blk (k := 0 + v.toNat) (v := .int .i64 (R.getD v.toNat 0 + 1)) (by kernel_rfl) hB rfl rfl rfl (by rw [ints_length]; omega) fun w9 h9 hC9 hs9 => ?_
        rw [ints_set] at h9
        repeat' (first|refine za ?_|refine zA ?_|refine zB ?_|refine zb ?_|refine zc ?_|refine ze ?_|refine zd ?_|refine zC ?_|refine zD ?_|refine zE ?_|refine zF ?_|refine zG ?_|refine zH ?_|refine zI ?_|refine zJ ?_|refine zK ?_|refine zL ?_|refine zM ?_|refine zN ?_|refine zO ?_|refine zP ?_|refine zQ ?_|refine zR ?_|refine zS ?_|refine zU ?_|refine zV ?_|refine zW ?_|refine zt (fun hcd => ?_) (fun hcd => ?_)|refine zu (fun hcd => ?_) (fun hcd => ?_)|refine zX ?_|refine zY ?_|refine zv (fun hcd => ?_) (fun hcd => ?_)|refine zk ?_|refine zl ?_|refine zm ?_|refine zn ?_|refine zf ?_|refine zg ?_|refine zj ?_|refine zZ ?_|refine zh ?_|refine zi ?_|refine zo ?_|refine zp ?_|refine zq ?_|refine zr ?_|refine zs ?_)
        refine ⟨i + 1, _, ⟨rfl, trivial⟩, ⟨by omega, h9, by rw [List.length_set]; exact hRl, fun u hu => ?_, hgood (.inr c2), Ch.trans' hE hC9 fun k hk e => by omega⟩, by omega⟩
        rw [hts, cntH_append, List.getD_eq_getElem?_getD, List.getElem?_set, Nat.zero_add]
        by_cases c : v.toNat = u
        · subst c
          rw [if_pos rfl, if_pos (by omega)]
          show R.getD v.toNat 0 + 1 = _
          rw [hcv, cntH, if_pos (by omega)]; rfl
        · rw [if_neg c, ← List.getD_eq_getElem?_getD, hcnt u hu, cntH, if_neg (by omega)]; simp [cntH]
      · have hbad := hbad (fun c => c.elim c1 c2)
        repeat' (first|refine za ?_|refine zA ?_|refine zB ?_|refine zb ?_|refine zc ?_|refine ze ?_|refine zd ?_|refine zC ?_|refine zD ?_|refine zE ?_|refine zF ?_|refine zG ?_|refine zH ?_|refine zI ?_|refine zJ ?_|refine zK ?_|refine zL ?_|refine zM ?_|refine zN ?_|refine zO ?_|refine zP ?_|refine zQ ?_|refine zR ?_|refine zS ?_|refine zU ?_|refine zV ?_|refine zW ?_|refine zt (fun hcd => ?_) (fun hcd => ?_)|refine zu (fun hcd => ?_) (fun hcd => ?_)|refine zX ?_|refine zY ?_|refine zv (fun hcd => ?_) (fun hcd => ?_)|refine zk ?_|refine zl ?_|refine zm ?_|refine zn ?_|refine zf ?_|refine zg ?_|refine zj ?_|refine zZ ?_|refine zh ?_|refine zi ?_|refine zo ?_|refine zp ?_|refine zq ?_|refine zr ?_|refine zs ?_)
        refine r_faQ fq46_0 rfl (pidx_isSome hes) ?_
        repeat' (first|refine za ?_|refine zA ?_|refine zB ?_|refine zb ?_|refine zc ?_|refine ze ?_|refine zd ?_|refine zC ?_|refine zD ?_|refine zE ?_|refine zF ?_|refine zG ?_|refine zH ?_|refine zI ?_|refine zJ ?_|refine zK ?_|refine zL ?_|refine zM ?_|refine zN ?_|refine zO ?_|refine zP ?_|refine zQ ?_|refine zR ?_|refine zS ?_|refine zU ?_|refine zV ?_|refine zW ?_|refine zt (fun hcd => ?_) (fun hcd => ?_)|refine zu (fun hcd => ?_) (fun hcd => ?_)|refine zX ?_|refine zY ?_|refine zv (fun hcd => ?_) (fun hcd => ?_)|refine zk ?_|refine zl ?_|refine zm ?_|refine zn ?_|refine zf ?_|refine zg ?_|refine zj ?_|refine zZ ?_|refine zh ?_|refine zi ?_|refine zo ?_|refine zp ?_|refine zq ?_|refine zr ?_|refine zs ?_)
        refine r_faQ fq46_1 rfl (pidx_isSome hes) ?_
        repeat' (first|refine za ?_|refine zA ?_|refine zB ?_|refine zb ?_|refine zc ?_|refine ze ?_|refine zd ?_|refine zC ?_|refine zD ?_|refine zE ?_|refine zF ?_|refine zG ?_|refine zH ?_|refine zI ?_|refine zJ ?_|refine zK ?_|refine zL ?_|refine zM ?_|refine zN ?_|refine zO ?_|refine zP ?_|refine zQ ?_|refine zR ?_|refine zS ?_|refine zU ?_|refine zV ?_|refine zW ?_|refine zt (fun hcd => ?_) (fun hcd => ?_)|refine zu (fun hcd => ?_) (fun hcd => ?_)|refine zX ?_|refine zY ?_|refine zv (fun hcd => ?_) (fun hcd => ?_)|refine zk ?_|refine zl ?_|refine zm ?_|refine zn ?_|refine zf ?_|refine zg ?_|refine zj ?_|refine zZ ?_|refine zh ?_|refine zi ?_|refine zo ?_|refine zp ?_|refine zq ?_|refine zr ?_|refine zs ?_)
        refine post2 (v1 := .int .i64 0) (v2 := .int .i64 2) rfl rfl rfl ?_
        refine ⟨?_, hE⟩
        unfold HgtR; rw [if_neg hbad]
  · have : i = H.length := by omega
    subst this
    have hR := hB.part hRl (Nat.le_refl 16)
    rw [List.take_of_length_le (by omega)] at hR
    have hR16 : (Value.slice (some ⟨b10, 0, none⟩) 16 16) = .slice (some ⟨b10, 0, none⟩) R.length 16 := by rw [hRl]
    repeat' (first|refine za ?_|refine zA ?_|refine zB ?_|refine zb ?_|refine zc ?_|refine ze ?_|refine zd ?_|refine zC ?_|refine zD ?_|refine zE ?_|refine zF ?_|refine zG ?_|refine zH ?_|refine zI ?_|refine zJ ?_|refine zK ?_|refine zL ?_|refine zM ?_|refine zN ?_|refine zO ?_|refine zP ?_|refine zQ ?_|refine zR ?_|refine zS ?_|refine zU ?_|refine zV ?_|refine zW ?_|refine zt (fun hcd => ?_) (fun hcd => ?_)|refine zu (fun hcd => ?_) (fun hcd => ?_)|refine zX ?_|refine zY ?_|refine zv (fun hcd => ?_) (fun hcd => ?_)|refine zk ?_|refine zl ?_|refine zm ?_|refine zn ?_|refine zf ?_|refine zg ?_|refine zj ?_|refine zZ ?_|refine zh ?_|refine zi ?_|refine zo ?_|refine zp ?_|refine zq ?_|refine zr ?_|refine zs ?_)
    refine r_sliceAll ar75' rfl ?_
    repeat' (first|refine za ?_|refine zA ?_|refine zB ?_|refine zb ?_|refine zc ?_|refine ze ?_|refine zd ?_|refine zC ?_|refine zD ?_|refine zE ?_|refine zF ?_|refine zG ?_|refine zH ?_|refine zI ?_|refine zJ ?_|refine zK ?_|refine zL ?_|refine zM ?_|refine zN ?_|refine zO ?_|refine zP ?_|refine zQ ?_|refine zR ?_|refine zS ?_|refine zU ?_|refine zV ?_|refine zW ?_|refine zt (fun hcd => ?_) (fun hcd => ?_)|refine zu (fun hcd => ?_) (fun hcd => ?_)|refine zX ?_|refine zY ?_|refine zv (fun hcd => ?_) (fun hcd => ?_)|refine zk ?_|refine zl ?_|refine zm ?_|refine zn ?_|refine zf ?_|refine zg ?_|refine zj ?_|refine zZ ?_|refine zh ?_|refine zi ?_|refine zo ?_|refine zp ?_|refine zq ?_|refine zr ?_|refine zs ?_)
    (refine r_call (R := ?_) rfl ?_ ?_; rotate_left 1; focus exact max_any _ R _ hR (by omega) (by omega))
    rintro v w9 ⟨⟨r, rfl, hr1, hr2⟩, rfl⟩
    repeat' (first|refine za ?_|refine zA ?_|refine zB ?_|refine zb ?_|refine zc ?_|refine ze ?_|refine zd ?_|refine zC ?_|refine zD ?_|refine zE ?_|refine zF ?_|refine zG ?_|refine zH ?_|refine zI ?_|refine zJ ?_|refine zK ?_|refine zL ?_|refine zM ?_|refine zN ?_|refine zO ?_|refine zP ?_|refine zQ ?_|refine zR ?_|refine zS ?_|refine zU ?_|refine zV ?_|refine zW ?_|refine zt (fun hcd => ?_) (fun hcd => ?_)|refine zu (fun hcd => ?_) (fun hcd => ?_)|refine zX ?_|refine zY ?_|refine zv (fun hcd => ?_) (fun hcd => ?_)|refine zk ?_|refine zl ?_|refine zm ?_|refine zn ?_|refine zf ?_|refine zg ?_|refine zj ?_|refine zZ ?_|refine zh ?_|refine zi ?_|refine zo ?_|refine zp ?_|refine zq ?_|refine zr ?_|refine zs ?_)
    refine post2 (v1 := .int .i64 r) (v2 := .int .i64 0) rfl rfl rfl ?_
    refine ⟨?_, hE⟩
    unfold HgtR
    rw [if_pos ⟨hG, hlen, fun k hk => hok k (by omega)⟩]
    rw [List.take_length] at hcnt
    refine ⟨r, rfl, fun u hu => by rw [← hcnt u hu]; exact hr1 _ (getD_memI (by omega)), ?_⟩
    obtain ⟨u, hu, e⟩ := List.getElem_of_mem hr2
    exact ⟨u, by omega, by rw [← hcnt u (by omega), getD_lt hu]; exact e⟩
end Go.Proofs.Ytibegggcinonkaa

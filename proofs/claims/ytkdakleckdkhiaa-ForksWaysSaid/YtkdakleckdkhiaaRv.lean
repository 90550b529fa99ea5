/- forks: slices.Reverse of strings. -/
import Derived.Test.YtkdakleckdkhiaaLg
namespace Go.Proofs.Ytkdakleckdkhiaa
open Gv
theorem list_extS {A B : List Str} (hl : A.length = B.length) (h : ∀ i, i < A.length → A.getD i [] = B.getD i []) : A = B := by
  apply List.ext_getElem hl
  intro i h1 h2
  have := h i h1
  simpa [List.getD, h1, h2] using this
theorem getD_setS {L : List Str} {i j : Nat} {a : Str} (hj : j < L.length) : (L.set j a).getD i [] = if i = j then a else L.getD i [] := by
  simp only [List.getD_eq_getElem?_getD, List.getElem?_set]
  by_cases h : i = j
  · subst h; simp [hj]
  · rw [if_neg (Ne.symm h), if_neg h]
theorem rev_atS {L : List Str} {i : Nat} (h : i < L.length) : L.reverse.getD i [] = L.getD (L.length - 1 - i) [] := by
  have h2 : L.length - 1 - i < L.length := by omega
  simp [List.getD, h, h2]
/-- The first m strings exchanged with the last ones. -/
def revK (L : List Str) (m : Nat) : List Str := (List.range L.length).map fun i => if i < m ∨ L.length - m ≤ i then L.getD (L.length - 1 - i) [] else L.getD i []
theorem revK_len {L : List Str} {m : Nat} : (revK L m).length = L.length := by simp [revK]
theorem revK_at {L : List Str} {m i : Nat} (h : i < L.length) : (revK L m).getD i [] = if i < m ∨ L.length - m ≤ i then L.getD (L.length - 1 - i) [] else L.getD i [] := by simp [revK, List.getD, h]
theorem revK_zero {L : List Str} : revK L 0 = L := list_extS revK_len fun i hi => by rw [revK_len] at hi; rw [revK_at hi, if_neg (by omega)]
theorem revK_end {L : List Str} {m : Nat} (h : L.length ≤ 2 * m + 1) (h2 : m ≤ L.length) : revK L m = L.reverse := list_extS (by rw [revK_len, List.length_reverse]) fun i hi => by
  rw [revK_len] at hi
  rw [revK_at hi, rev_atS hi]
  by_cases c : i < m ∨ L.length - m ≤ i
  · rw [if_pos c]
  · rw [if_neg c, show L.length - 1 - i = i by omega]
theorem revK_step {L : List Str} {m : Nat} (h : 2 * m + 1 < L.length) : ((revK L m).set m ((revK L m).getD (L.length - 1 - m) [])).set (L.length - 1 - m) ((revK L m).getD m []) = revK L (m + 1) := by
  refine list_extS (by simp [revK_len]) fun i hi => ?_
  have hi' : i < L.length := by simpa [revK_len] using hi
  rw [getD_setS (by simp [revK_len]; omega), getD_setS (by rw [revK_len]; omega), revK_at (by omega), revK_at (by omega), revK_at hi', revK_at hi']
  by_cases e1 : i = L.length - 1 - m
  · subst e1
    rw [if_pos rfl, if_neg (by omega), if_pos (by omega), show L.length - 1 - (L.length - 1 - m) = m by omega]
  · rw [if_neg e1]
    by_cases e2 : i = m
    · subst e2
      rw [if_pos rfl, if_neg (by omega), if_pos (by omega)]
    · rw [if_neg e2]
      by_cases c : i < m ∨ L.length - m ≤ i
      · rw [if_pos c, if_pos (by omega)]
      · rw [if_neg c, if_neg (by omega)]
section
variable {K : Env → World → Prop} {ρ : Env} {w : World} {ty : TypeId} {pos : String} {aft : Array Edge} {gd : Option (Nat × Bool)} {x y : Operand} {base n c i : Nat} {q : Option Addr} {A : List Str} {a : Str}
theorem r_st_s (hown : OwnS w base (.slice q n c) A) (hn : A.length = n) (hx : ev ρ x = .pointer (pidx q i 1)) (hy : ev ρ y = str a) (hin : i < n)
    (h : ∀ w', OwnS w' base (.slice q n c) (A.set i a) → w.grownBy w' (Value.slice q n c).ownBlock → w'.heap.size = w.heap.size → K ρ w') : w1 Try.prog false ⟨none, .store 9 x y, ty, pos, aft, gd⟩ K ρ w := by
  subst hn
  refine r_st_own (i := i) (u := str a) (by kernel_rfl) hx hy rfl hown hin fun w' h1 h2 h3 => h w' ?_ h2 h3
  unfold OwnS
  rw [List.length_set, show strs (A.set i a) = (strs A).set i (str a) by simp [strs, List.map_set]]
  exact h1
end
set_option maxRecDepth 20000 in
set_option maxHeartbeats 4000000 in
theorem reverse_any (v : Value) (L : List Str) (w : World) (base : Nat) (h : OwnS w base v L) (hm : L.length ≤ 1000) :
    Calls Try.prog 66 #[v] w (Ret fun v' w' => v' = .tuple #[] ∧ OwnS w' base v L.reverse ∧ Ch (fun k => v.ownBlock = some k) w w') := by
  obtain ⟨q, c, rfl, hqc⟩ := h.strs.slice
  refine calls_of_wc (args := [.slice q L.length c]) Try.func66 rfl ?_ ?_; kernel_rfl
  repeat' (first|refine za ?_|refine zA ?_|refine zB ?_|refine zb ?_|refine zc ?_|refine ze ?_|refine zd ?_|refine zC ?_|refine zD ?_|refine zE ?_|refine zF ?_|refine zG ?_|refine zH ?_|refine zI ?_|refine zJ ?_|refine zK ?_|refine zL ?_|refine zM ?_|refine zN ?_|refine zO ?_|refine zP ?_|refine zQ ?_|refine zR ?_|refine zS ?_|refine zU ?_|refine zV ?_|refine zW ?_|refine zt (fun hcd => ?_) (fun hcd => ?_)|refine zu (fun hcd => ?_) (fun hcd => ?_)|refine zX ?_|refine zY ?_|refine zv (fun hcd => ?_) (fun hcd => ?_)|refine zk ?_|refine zl ?_|refine zm ?_|refine zn ?_|refine zf ?_|refine zg ?_|refine zj ?_|refine zZ ?_|refine zh ?_|refine zi ?_|refine zo ?_|refine zp ?_|refine zq ?_|refine zr ?_|refine zs ?_)
  refine wc_loop [0] (fun (m : Nat) => [(2, .int .i64 m), (3, .int .i64 ((L.length : Int) - 1 - m))]) (fun m wk => 2 * m ≤ L.length + 1 ∧ OwnS wk base (.slice q L.length c) (revK L m) ∧ Ch (fun k => (Value.slice q L.length c).ownBlock = some k) w wk) (fun m => L.length - m) 0 rfl ⟨rfl, ?_, trivial⟩ ⟨by omega, by rw [revK_zero]; exact h, Ch.refl _ _⟩ ?_
  · show Value.int .i64 _ = Value.int .i64 _
    congr 1; omega
  rintro m wk x ⟨hmm, hO, hC⟩
  have hrl := revK_len (L := L) (m := m)
  by_cases hlt : 2 * m + 1 < L.length
  · have e1 : ((L.length : Int) - 1 - m) = ((L.length - 1 - m : Nat) : Int) := by omega
    rw [e1]
    have hOd : OwnS wk.drew base (.slice q L.length c) (revK L m) := OwnS.ext hO (Ext.drew wk)
    have hps : q.isSome = true := by
      have hI := hOd.strs
      obtain ⟨q2, c2, e2, _⟩ := hI.slice
      rw [hrl] at e2
      cases e2
      rw [← hrl] at hI
      exact hI.isSome (by omega)
    have hrd : ∀ {w' : World} {i : Nat}, OwnS w' base (.slice q L.length c) (revK L m) → i < L.length → Gv.rd w' (pidx q i 1) = some (str ((revK L m).getD i [])) := fun {w' i} hO' hi => by
      have hI := hO'.strs
      rw [← hrl] at hI
      exact hI.rd (by omega)
    have hr1 := hrd hOd (i := L.length - 1 - m) (by omega)
    have hr2 := hrd hOd (i := m) (by omega)
    have fin : ∀ w1 w2 : World, OwnS w2 base (.slice q L.length c) (((revK L m).set m ((revK L m).getD (L.length - 1 - m) [])).set (L.length - 1 - m) ((revK L m).getD m [])) → OwnS w2 base (.slice q L.length c) (revK L (m + 1)) := fun _ _ h => by rw [revK_step hlt] at h; exact h
    repeat' (first|refine za ?_|refine zA ?_|refine zB ?_|refine zb ?_|refine zc ?_|refine ze ?_|refine zd ?_|refine zC ?_|refine zD ?_|refine zE ?_|refine zF ?_|refine zG ?_|refine zH ?_|refine zI ?_|refine zJ ?_|refine zK ?_|refine zL ?_|refine zM ?_|refine zN ?_|refine zO ?_|refine zP ?_|refine zQ ?_|refine zR ?_|refine zS ?_|refine zU ?_|refine zV ?_|refine zW ?_|refine zt (fun hcd => ?_) (fun hcd => ?_)|refine zu (fun hcd => ?_) (fun hcd => ?_)|refine zX ?_|refine zY ?_|refine zv (fun hcd => ?_) (fun hcd => ?_)|refine zk ?_|refine zl ?_|refine zm ?_|refine zn ?_|refine zf ?_|refine zg ?_|refine zj ?_|refine zZ ?_|refine zh ?_|refine zi ?_|refine zo ?_|refine zp ?_|refine zq ?_|refine zr ?_|refine zs ?_)
    refine wc_heldB (fun _ => True) (.take 0 (.take 1 (.take 2 (.take 3 (.take 4 (.take 5 (.take 6 (.take 8 (.take 9 (.take 10 (.two 7 (.one 11 (.take 12 (.one 13 (.take 14 (.one 15 .done))))) 11 (.one 7 (.take 12 (.one 13 (.take 14 (.one 15 .done)))))))))))))))) (by kernel_rfl) (by kernel_rfl) trivial ?_
    repeat' (first | refine whB_take (v := .int _ _) rfl rfl (fun w' hw' => rv_move_v rfl) ?_ | refine whB_takeG (v := .int _ _) rfl rfl rfl rfl (fun w' hw' => rv_move_v rfl) ?_ | refine whB_take (v := .bool _) rfl rfl (fun w' hw' => rv_move_v rfl) ?_ | refine whB_takeG (v := .bool _) rfl rfl rfl rfl (fun w' hw' => rv_move_v rfl) ?_ | refine whB_take (v := .slice _ _ _) rfl rfl (fun w' hw' => rv_move_v rfl) ?_ | refine whB_takeG (v := .slice _ _ _) rfl rfl rfl rfl (fun w' hw' => rv_move_v rfl) ?_ | refine whB_take rfl rfl (fun w' hw' => rv_move) ?_ | refine whB_takeG rfl rfl rfl rfl (fun w' hw' => rv_move) ?_ | (refine whB_take rfl rfl (fun w' hw' => rv_of rfl (fun _ h => k_eql_t rfl rfl (by omega) h) fun _ _ h => val_of h) ?_) | (refine whB_takeG rfl rfl rfl rfl (fun w' hw' => rv_of rfl (fun _ h => k_eql_t rfl rfl (by omega) h) fun _ _ h => val_of h) ?_) | (refine whB_take rfl rfl (fun w' hw' => rv_pick_tb rfl rfl) ?_) | (refine whB_takeG rfl rfl rfl rfl (fun w' hw' => rv_pick_tb rfl rfl) ?_) | (refine whB_take rfl rfl (fun w' hw' => rv_pick_fb rfl rfl) ?_) | (refine whB_takeG rfl rfl rfl rfl (fun w' hw' => rv_pick_fb rfl rfl) ?_))
    refine whB_take rfl rfl (fun w' hw' => rv_idx (sz := 1) ss32 rfl rfl hps (by omega) (by omega)) ?_
    repeat' (first | refine whB_take (v := .int _ _) rfl rfl (fun w' hw' => rv_move_v rfl) ?_ | refine whB_takeG (v := .int _ _) rfl rfl rfl rfl (fun w' hw' => rv_move_v rfl) ?_ | refine whB_take (v := .bool _) rfl rfl (fun w' hw' => rv_move_v rfl) ?_ | refine whB_takeG (v := .bool _) rfl rfl rfl rfl (fun w' hw' => rv_move_v rfl) ?_ | refine whB_take (v := .slice _ _ _) rfl rfl (fun w' hw' => rv_move_v rfl) ?_ | refine whB_takeG (v := .slice _ _ _) rfl rfl rfl rfl (fun w' hw' => rv_move_v rfl) ?_ | refine whB_take rfl rfl (fun w' hw' => rv_move) ?_ | refine whB_takeG rfl rfl rfl rfl (fun w' hw' => rv_move) ?_ | (refine whB_take rfl rfl (fun w' hw' => rv_of rfl (fun _ h => k_eql_t rfl rfl (by omega) h) fun _ _ h => val_of h) ?_) | (refine whB_takeG rfl rfl rfl rfl (fun w' hw' => rv_of rfl (fun _ h => k_eql_t rfl rfl (by omega) h) fun _ _ h => val_of h) ?_) | (refine whB_take rfl rfl (fun w' hw' => rv_pick_tb rfl rfl) ?_) | (refine whB_takeG rfl rfl rfl rfl (fun w' hw' => rv_pick_tb rfl rfl) ?_) | (refine whB_take rfl rfl (fun w' hw' => rv_pick_fb rfl rfl) ?_) | (refine whB_takeG rfl rfl rfl rfl (fun w' hw' => rv_pick_fb rfl rfl) ?_))
    refine whB_take rfl rfl (fun w' hw' => rv_idx (sz := 1) ss32 rfl rfl hps (by omega) (by omega)) ?_
    refine whB_two rfl rfl rfl rfl ?_ ?_
    · refine r_ld ct9 rfl hr1 ?_
      refine ⟨trivial, ?_⟩
      refine whB_one rfl rfl ?_
      refine r_ld ct9 rfl hr2 ?_
      refine ⟨trivial, ?_⟩
      refine whB_take rfl rfl (fun w' hw' => rv_idx (sz := 1) ss32 rfl rfl hps (by omega) (by omega)) ?_
      refine whB_one rfl rfl ?_
      refine r_st_s (i := m) (base := base) hOd hrl rfl rfl (by omega) fun w3 h3 hg3 hs3 => ?_
      refine ⟨trivial, ?_⟩
      refine whB_take rfl rfl (fun w' hw' => rv_idx (sz := 1) ss32 rfl rfl hps (by omega) (by omega)) ?_
      refine whB_one rfl rfl ?_
      refine r_st_s (i := L.length - 1 - m) (base := base) h3 (by simpa using hrl) rfl rfl (by omega) fun w4 h4 hg4 hs4 => ?_
      refine ⟨trivial, whB_done ?_⟩
      have hC4 := (hC.trans (Ext.drew wk).ch).trans ((Ch.grown hg3 fun g hg => hg).trans (Ch.grown hg4 fun g hg => hg))
      repeat' (first|refine za ?_|refine zA ?_|refine zB ?_|refine zb ?_|refine zc ?_|refine ze ?_|refine zd ?_|refine zC ?_|refine zD ?_|refine zE ?_|refine zF ?_|refine zG ?_|refine zH ?_|refine zI ?_|refine zJ ?_|refine zK ?_|refine zL ?_|refine zM ?_|refine zN ?_|refine zO ?_|refine zP ?_|refine zQ ?_|refine zR ?_|refine zS ?_|refine zU ?_|refine zV ?_|refine zW ?_|refine zt (fun hcd => ?_) (fun hcd => ?_)|refine zu (fun hcd => ?_) (fun hcd => ?_)|refine zX ?_|refine zY ?_|refine zv (fun hcd => ?_) (fun hcd => ?_)|refine zk ?_|refine zl ?_|refine zm ?_|refine zn ?_|refine zf ?_|refine zg ?_|refine zj ?_|refine zZ ?_|refine zh ?_|refine zi ?_|refine zo ?_|refine zp ?_|refine zq ?_|refine zr ?_|refine zs ?_)
      refine ⟨m + 1, ⟨rfl, ?_, trivial⟩, ⟨by omega, fin w3 w4 h4, hC4⟩, by omega⟩
      show Value.int .i64 _ = Value.int .i64 _
      congr 1; omega
    · refine r_ld ct9 rfl hr2 ?_
      refine ⟨trivial, ?_⟩
      refine whB_one rfl rfl ?_
      refine r_ld ct9 rfl hr1 ?_
      refine ⟨trivial, ?_⟩
      refine whB_take rfl rfl (fun w' hw' => rv_idx (sz := 1) ss32 rfl rfl hps (by omega) (by omega)) ?_
      refine whB_one rfl rfl ?_
      refine r_st_s (i := m) (base := base) hOd hrl rfl rfl (by omega) fun w3 h3 hg3 hs3 => ?_
      refine ⟨trivial, ?_⟩
      refine whB_take rfl rfl (fun w' hw' => rv_idx (sz := 1) ss32 rfl rfl hps (by omega) (by omega)) ?_
      refine whB_one rfl rfl ?_
      refine r_st_s (i := L.length - 1 - m) (base := base) h3 (by simpa using hrl) rfl rfl (by omega) fun w4 h4 hg4 hs4 => ?_
      refine ⟨trivial, whB_done ?_⟩
      have hC4 := (hC.trans (Ext.drew wk).ch).trans ((Ch.grown hg3 fun g hg => hg).trans (Ch.grown hg4 fun g hg => hg))
      repeat' (first|refine za ?_|refine zA ?_|refine zB ?_|refine zb ?_|refine zc ?_|refine ze ?_|refine zd ?_|refine zC ?_|refine zD ?_|refine zE ?_|refine zF ?_|refine zG ?_|refine zH ?_|refine zI ?_|refine zJ ?_|refine zK ?_|refine zL ?_|refine zM ?_|refine zN ?_|refine zO ?_|refine zP ?_|refine zQ ?_|refine zR ?_|refine zS ?_|refine zU ?_|refine zV ?_|refine zW ?_|refine zt (fun hcd => ?_) (fun hcd => ?_)|refine zu (fun hcd => ?_) (fun hcd => ?_)|refine zX ?_|refine zY ?_|refine zv (fun hcd => ?_) (fun hcd => ?_)|refine zk ?_|refine zl ?_|refine zm ?_|refine zn ?_|refine zf ?_|refine zg ?_|refine zj ?_|refine zZ ?_|refine zh ?_|refine zi ?_|refine zo ?_|refine zp ?_|refine zq ?_|refine zr ?_|refine zs ?_)
      refine ⟨m + 1, ⟨rfl, ?_, trivial⟩, ⟨by omega, fin w3 w4 h4, hC4⟩, by omega⟩
      show Value.int .i64 _ = Value.int .i64 _
      congr 1; omega
  · by_cases h0 : L.length = 0
    · repeat' (first|refine za ?_|refine zA ?_|refine zB ?_|refine zb ?_|refine zc ?_|refine ze ?_|refine zd ?_|refine zC ?_|refine zD ?_|refine zE ?_|refine zF ?_|refine zG ?_|refine zH ?_|refine zI ?_|refine zJ ?_|refine zK ?_|refine zL ?_|refine zM ?_|refine zN ?_|refine zO ?_|refine zP ?_|refine zQ ?_|refine zR ?_|refine zS ?_|refine zU ?_|refine zV ?_|refine zW ?_|refine zt (fun hcd => ?_) (fun hcd => ?_)|refine zu (fun hcd => ?_) (fun hcd => ?_)|refine zX ?_|refine zY ?_|refine zv (fun hcd => ?_) (fun hcd => ?_)|refine zk ?_|refine zl ?_|refine zm ?_|refine zn ?_|refine zf ?_|refine zg ?_|refine zj ?_|refine zZ ?_|refine zh ?_|refine zi ?_|refine zo ?_|refine zp ?_|refine zq ?_|refine zr ?_|refine zs ?_)
      refine post0n rfl ⟨rfl, ?_, hC⟩
      rw [revK_end (by omega) (by omega)] at hO
      exact hO
    · repeat' (first|refine za ?_|refine zA ?_|refine zB ?_|refine zb ?_|refine zc ?_|refine ze ?_|refine zd ?_|refine zC ?_|refine zD ?_|refine zE ?_|refine zF ?_|refine zG ?_|refine zH ?_|refine zI ?_|refine zJ ?_|refine zK ?_|refine zL ?_|refine zM ?_|refine zN ?_|refine zO ?_|refine zP ?_|refine zQ ?_|refine zR ?_|refine zS ?_|refine zU ?_|refine zV ?_|refine zW ?_|refine zt (fun hcd => ?_) (fun hcd => ?_)|refine zu (fun hcd => ?_) (fun hcd => ?_)|refine zX ?_|refine zY ?_|refine zv (fun hcd => ?_) (fun hcd => ?_)|refine zk ?_|refine zl ?_|refine zm ?_|refine zn ?_|refine zf ?_|refine zg ?_|refine zj ?_|refine zZ ?_|refine zh ?_|refine zi ?_|refine zo ?_|refine zp ?_|refine zq ?_|refine zr ?_|refine zs ?_)
      refine post0n rfl ⟨rfl, ?_, hC⟩
      rw [revK_end (by omega) (by omega)] at hO
      exact hO
end Go.Proofs.Ytkdakleckdkhiaa

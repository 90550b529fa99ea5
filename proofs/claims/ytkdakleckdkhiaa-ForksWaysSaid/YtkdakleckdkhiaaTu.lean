/- forks: turned, Above. -/
import Derived.Test.YtkdakleckdkhiaaCt
import Derived.Test.YtkdakleckdkhiaaSo
import Derived.Test.YtkdakleckdkhiaaPD
namespace Go.Proofs.Ytkdakleckdkhiaa
open Gv
def turnL (x : T) (b : Bool) : List T := (List.range x.size).filterMap fun k => x.turn k b
theorem turnL_up (x : T) : turnL x true = ups x := rfl
theorem turnL_down (x : T) : turnL x false = downs x := rfl
def turnT (x : T) (b : Bool) (k : Nat) : List Str := ((List.range k).filterMap fun k => x.turn k b).map T.text
theorem turnT_zero (x : T) (b : Bool) : turnT x b 0 = [] := rfl
theorem turnT_some {x y : T} {b : Bool} {k : Nat} (h : x.turn k b = some y) : turnT x b (k + 1) = turnT x b k ++ [y.text] := by
  simp [turnT, List.range_succ, h]
theorem turnT_none {x : T} {b : Bool} {k : Nat} (h : x.turn k b = none) : turnT x b (k + 1) = turnT x b k := by
  simp [turnT, List.range_succ, h]
theorem turnT_len (x : T) (b : Bool) (k : Nat) : (turnT x b k).length ≤ k := by
  simp only [turnT, List.length_map]
  exact Nat.le_trans (List.length_filterMap_le _ _) (by simp)
set_option maxRecDepth 20000 in
set_option maxHeartbeats 4000000 in
theorem turned_any (x : T) (b : Bool) (w : World) (hb : x.size ≤ 1000) : Calls Try.prog 65 #[tv x, .bool b] w (Ret fun v w' => OwnS w' w.heap.size v (sortS ((turnL x b).map T.text)) ∧ Ext w w') := by
  refine calls_of_wc (args := [tv x, .bool b]) Try.func65 rfl ?_ ?_; kernel_rfl
  repeat' (first|refine za ?_|refine zA ?_|refine zB ?_|refine zb ?_|refine zc ?_|refine ze ?_|refine zd ?_|refine zC ?_|refine zD ?_|refine zE ?_|refine zF ?_|refine zG ?_|refine zH ?_|refine zI ?_|refine zJ ?_|refine zK ?_|refine zL ?_|refine zM ?_|refine zN ?_|refine zO ?_|refine zP ?_|refine zQ ?_|refine zR ?_|refine zS ?_|refine zU ?_|refine zV ?_|refine zW ?_|refine zt (fun hcd => ?_) (fun hcd => ?_)|refine zu (fun hcd => ?_) (fun hcd => ?_)|refine zX ?_|refine zY ?_|refine zv (fun hcd => ?_) (fun hcd => ?_)|refine zk ?_|refine zl ?_|refine zm ?_|refine zn ?_|refine zf ?_|refine zg ?_|refine zj ?_|refine zZ ?_|refine zh ?_|refine zi ?_|refine zo ?_|refine zp ?_|refine zq ?_|refine zr ?_|refine zs ?_)
  refine r_size (t := x) (by omega) rfl fun w1 hE1 => ?_
  repeat' (first|refine za ?_|refine zA ?_|refine zB ?_|refine zb ?_|refine zc ?_|refine ze ?_|refine zd ?_|refine zC ?_|refine zD ?_|refine zE ?_|refine zF ?_|refine zG ?_|refine zH ?_|refine zI ?_|refine zJ ?_|refine zK ?_|refine zL ?_|refine zM ?_|refine zN ?_|refine zO ?_|refine zP ?_|refine zQ ?_|refine zR ?_|refine zS ?_|refine zU ?_|refine zV ?_|refine zW ?_|refine zt (fun hcd => ?_) (fun hcd => ?_)|refine zu (fun hcd => ?_) (fun hcd => ?_)|refine zX ?_|refine zY ?_|refine zv (fun hcd => ?_) (fun hcd => ?_)|refine zk ?_|refine zl ?_|refine zm ?_|refine zn ?_|refine zf ?_|refine zg ?_|refine zj ?_|refine zZ ?_|refine zh ?_|refine zi ?_|refine zo ?_|refine zp ?_|refine zq ?_|refine zr ?_|refine zs ?_)
  refine wc_loop2 [0, 1, 9] (fun (k : Nat) (vo : Value) => [(10, .int .i64 k), (5, vo)]) (fun k vo wk => k ≤ x.size ∧ Ext w wk ∧ OwnS wk w.heap.size vo (turnT x b k)) (fun k _ => x.size - k) 0 (.slice none 0 0) rfl ⟨rfl, rfl, trivial⟩ ⟨by omega, hE1, World.ownsRow_nil _ _ _ _⟩ ?_
  rintro k vo wk x5 ⟨hk, hE, hO⟩
  obtain ⟨qo, co, eo, _⟩ := hO.strs.slice
  subst eo
  by_cases hin : k < x.size
  rotate_left 1
  · have hkx : k = x.size := by omega
    subst hkx
    repeat' (first|refine za ?_|refine zA ?_|refine zB ?_|refine zb ?_|refine zc ?_|refine ze ?_|refine zd ?_|refine zC ?_|refine zD ?_|refine zE ?_|refine zF ?_|refine zG ?_|refine zH ?_|refine zI ?_|refine zJ ?_|refine zK ?_|refine zL ?_|refine zM ?_|refine zN ?_|refine zO ?_|refine zP ?_|refine zQ ?_|refine zR ?_|refine zS ?_|refine zU ?_|refine zV ?_|refine zW ?_|refine zt (fun hcd => ?_) (fun hcd => ?_)|refine zu (fun hcd => ?_) (fun hcd => ?_)|refine zX ?_|refine zY ?_|refine zv (fun hcd => ?_) (fun hcd => ?_)|refine zk ?_|refine zl ?_|refine zm ?_|refine zn ?_|refine zf ?_|refine zg ?_|refine zj ?_|refine zZ ?_|refine zh ?_|refine zi ?_|refine zo ?_|refine zp ?_|refine zq ?_|refine zr ?_|refine zs ?_)
    have hl := turnT_len x b x.size
    (refine r_call (R := ?_) rfl ?_ ?_; rotate_left 1; focus exact sort_any _ _ _ _ hO (by omega))
    rintro v2 w2 ⟨hO2, hC2⟩
    repeat' (first|refine za ?_|refine zA ?_|refine zB ?_|refine zb ?_|refine zc ?_|refine ze ?_|refine zd ?_|refine zC ?_|refine zD ?_|refine zE ?_|refine zF ?_|refine zG ?_|refine zH ?_|refine zI ?_|refine zJ ?_|refine zK ?_|refine zL ?_|refine zM ?_|refine zN ?_|refine zO ?_|refine zP ?_|refine zQ ?_|refine zR ?_|refine zS ?_|refine zU ?_|refine zV ?_|refine zW ?_|refine zt (fun hcd => ?_) (fun hcd => ?_)|refine zu (fun hcd => ?_) (fun hcd => ?_)|refine zX ?_|refine zY ?_|refine zv (fun hcd => ?_) (fun hcd => ?_)|refine zk ?_|refine zl ?_|refine zm ?_|refine zn ?_|refine zf ?_|refine zg ?_|refine zj ?_|refine zZ ?_|refine zh ?_|refine zi ?_|refine zo ?_|refine zp ?_|refine zq ?_|refine zr ?_|refine zs ?_)
    refine post1 (v := .slice qo (turnT x b x.size).length co) rfl rfl ?_
    refine ⟨hO2, Ch.ext_new hE (Ch.mono hC2 fun g _ e => (World.ownsRow.lt hO g e).1) (Nat.le_refl _)⟩
  repeat' (first|refine za ?_|refine zA ?_|refine zB ?_|refine zb ?_|refine zc ?_|refine ze ?_|refine zd ?_|refine zC ?_|refine zD ?_|refine zE ?_|refine zF ?_|refine zG ?_|refine zH ?_|refine zI ?_|refine zJ ?_|refine zK ?_|refine zL ?_|refine zM ?_|refine zN ?_|refine zO ?_|refine zP ?_|refine zQ ?_|refine zR ?_|refine zS ?_|refine zU ?_|refine zV ?_|refine zW ?_|refine zt (fun hcd => ?_) (fun hcd => ?_)|refine zu (fun hcd => ?_) (fun hcd => ?_)|refine zX ?_|refine zY ?_|refine zv (fun hcd => ?_) (fun hcd => ?_)|refine zk ?_|refine zl ?_|refine zm ?_|refine zn ?_|refine zf ?_|refine zg ?_|refine zj ?_|refine zZ ?_|refine zh ?_|refine zi ?_|refine zo ?_|refine zp ?_|refine zq ?_|refine zr ?_|refine zs ?_)
  (refine r_call (R := ?_) rfl ?_ ?_; rotate_left 1; focus exact turn_any x k b _ hin (by omega))
  rintro v2 w2 ⟨ev2, hE2⟩
  cases hy : x.turn k b with
  | none =>
    rw [hy] at ev2; subst ev2
    repeat' (first|refine za ?_|refine zA ?_|refine zB ?_|refine zb ?_|refine zc ?_|refine ze ?_|refine zd ?_|refine zC ?_|refine zD ?_|refine zE ?_|refine zF ?_|refine zG ?_|refine zH ?_|refine zI ?_|refine zJ ?_|refine zK ?_|refine zL ?_|refine zM ?_|refine zN ?_|refine zO ?_|refine zP ?_|refine zQ ?_|refine zR ?_|refine zS ?_|refine zU ?_|refine zV ?_|refine zW ?_|refine zt (fun hcd => ?_) (fun hcd => ?_)|refine zu (fun hcd => ?_) (fun hcd => ?_)|refine zX ?_|refine zY ?_|refine zv (fun hcd => ?_) (fun hcd => ?_)|refine zk ?_|refine zl ?_|refine zm ?_|refine zn ?_|refine zf ?_|refine zg ?_|refine zj ?_|refine zZ ?_|refine zh ?_|refine zi ?_|refine zo ?_|refine zp ?_|refine zq ?_|refine zr ?_|refine zs ?_)
    refine r_ine_f if80 rfl ?_
    repeat' (first|refine za ?_|refine zA ?_|refine zB ?_|refine zb ?_|refine zc ?_|refine ze ?_|refine zd ?_|refine zC ?_|refine zD ?_|refine zE ?_|refine zF ?_|refine zG ?_|refine zH ?_|refine zI ?_|refine zJ ?_|refine zK ?_|refine zL ?_|refine zM ?_|refine zN ?_|refine zO ?_|refine zP ?_|refine zQ ?_|refine zR ?_|refine zS ?_|refine zU ?_|refine zV ?_|refine zW ?_|refine zt (fun hcd => ?_) (fun hcd => ?_)|refine zu (fun hcd => ?_) (fun hcd => ?_)|refine zX ?_|refine zY ?_|refine zv (fun hcd => ?_) (fun hcd => ?_)|refine zk ?_|refine zl ?_|refine zm ?_|refine zn ?_|refine zf ?_|refine zg ?_|refine zj ?_|refine zZ ?_|refine zh ?_|refine zi ?_|refine zo ?_|refine zp ?_|refine zq ?_|refine zr ?_|refine zs ?_)
    exact ⟨k + 1, .slice qo (turnT x b k).length co, ⟨rfl, rfl, trivial⟩, ⟨by omega, hE.trans hE2, by rw [turnT_none hy]; exact hO.ext hE2⟩, by omega⟩
  | some y =>
    rw [hy] at ev2; subst ev2
    have hys := turn_size _ _ _ _ hy
    repeat' (first|refine za ?_|refine zA ?_|refine zB ?_|refine zb ?_|refine zc ?_|refine ze ?_|refine zd ?_|refine zC ?_|refine zD ?_|refine zE ?_|refine zF ?_|refine zG ?_|refine zH ?_|refine zI ?_|refine zJ ?_|refine zK ?_|refine zL ?_|refine zM ?_|refine zN ?_|refine zO ?_|refine zP ?_|refine zQ ?_|refine zR ?_|refine zS ?_|refine zU ?_|refine zV ?_|refine zW ?_|refine zt (fun hcd => ?_) (fun hcd => ?_)|refine zu (fun hcd => ?_) (fun hcd => ?_)|refine zX ?_|refine zY ?_|refine zv (fun hcd => ?_) (fun hcd => ?_)|refine zk ?_|refine zl ?_|refine zm ?_|refine zn ?_|refine zf ?_|refine zg ?_|refine zj ?_|refine zZ ?_|refine zh ?_|refine zi ?_|refine zo ?_|refine zp ?_|refine zq ?_|refine zr ?_|refine zs ?_)
    refine r_ine_tv (t := y) rfl ?_
    repeat' (first|refine za ?_|refine zA ?_|refine zB ?_|refine zb ?_|refine zc ?_|refine ze ?_|refine zd ?_|refine zC ?_|refine zD ?_|refine zE ?_|refine zF ?_|refine zG ?_|refine zH ?_|refine zI ?_|refine zJ ?_|refine zK ?_|refine zL ?_|refine zM ?_|refine zN ?_|refine zO ?_|refine zP ?_|refine zQ ?_|refine zR ?_|refine zS ?_|refine zU ?_|refine zV ?_|refine zW ?_|refine zt (fun hcd => ?_) (fun hcd => ?_)|refine zu (fun hcd => ?_) (fun hcd => ?_)|refine zX ?_|refine zY ?_|refine zv (fun hcd => ?_) (fun hcd => ?_)|refine zk ?_|refine zl ?_|refine zm ?_|refine zn ?_|refine zf ?_|refine zg ?_|refine zj ?_|refine zZ ?_|refine zh ?_|refine zi ?_|refine zo ?_|refine zp ?_|refine zq ?_|refine zr ?_|refine zs ?_)
    refine r_text (t := y) (by omega) rfl fun w3 hE3 => ?_
    have hO3 := hO.ext (hE2.trans hE3)
    have hE13 := hE.trans (hE2.trans hE3)
    have hl := turnT_len x b k
    repeat' (first|refine za ?_|refine zA ?_|refine zB ?_|refine zb ?_|refine zc ?_|refine ze ?_|refine zd ?_|refine zC ?_|refine zD ?_|refine zE ?_|refine zF ?_|refine zG ?_|refine zH ?_|refine zI ?_|refine zJ ?_|refine zK ?_|refine zL ?_|refine zM ?_|refine zN ?_|refine zO ?_|refine zP ?_|refine zQ ?_|refine zR ?_|refine zS ?_|refine zU ?_|refine zV ?_|refine zW ?_|refine zt (fun hcd => ?_) (fun hcd => ?_)|refine zu (fun hcd => ?_) (fun hcd => ?_)|refine zX ?_|refine zY ?_|refine zv (fun hcd => ?_) (fun hcd => ?_)|refine zk ?_|refine zl ?_|refine zm ?_|refine zn ?_|refine zf ?_|refine zg ?_|refine zj ?_|refine zZ ?_|refine zh ?_|refine zi ?_|refine zo ?_|refine zp ?_|refine zq ?_|refine zr ?_|refine zs ?_)
    refine r_append1_v (u := str y.text) (base := w.heap.size) el32 rfl (by decide) hO3.own rfl rfl rfl (by simp; omega) hE13.size ?_
    intro v4 w4 q4 hO4 hg4 _ _
    have hC4 : Ch (fun g => w.heap.size ≤ g) w3 w4 := Ch.grown hg4 fun g hg => (World.ownsRow.lt hO3 g hg).1
    have hO4' : OwnS w4 w.heap.size v4 (turnT x b k ++ [y.text]) := OwnS.of (by simpa using hO4)
    obtain ⟨q5, c5, e5, _⟩ := hO4'.strs.slice
    subst e5
    repeat' (first|refine za ?_|refine zA ?_|refine zB ?_|refine zb ?_|refine zc ?_|refine ze ?_|refine zd ?_|refine zC ?_|refine zD ?_|refine zE ?_|refine zF ?_|refine zG ?_|refine zH ?_|refine zI ?_|refine zJ ?_|refine zK ?_|refine zL ?_|refine zM ?_|refine zN ?_|refine zO ?_|refine zP ?_|refine zQ ?_|refine zR ?_|refine zS ?_|refine zU ?_|refine zV ?_|refine zW ?_|refine zt (fun hcd => ?_) (fun hcd => ?_)|refine zu (fun hcd => ?_) (fun hcd => ?_)|refine zX ?_|refine zY ?_|refine zv (fun hcd => ?_) (fun hcd => ?_)|refine zk ?_|refine zl ?_|refine zm ?_|refine zn ?_|refine zf ?_|refine zg ?_|refine zj ?_|refine zZ ?_|refine zh ?_|refine zi ?_|refine zo ?_|refine zp ?_|refine zq ?_|refine zr ?_|refine zs ?_)
    exact ⟨k + 1, _, ⟨rfl, rfl, trivial⟩, ⟨by omega, Ch.ext_new hE13 hC4 (Nat.le_refl _), by rw [turnT_some hy]; exact hO4'⟩, by omega⟩
set_option maxRecDepth 20000 in
set_option maxHeartbeats 1000000 in
theorem aboveC (s : Str) (b1 b2 : Nat) (w : World) (h1 : Box w b1 9 (str s)) (h2 : Box w b2 32 (.slice none 0 0)) (_hne : b1 ≠ b2) :
    Calls Try.prog 76 #[.pointer (some ⟨b1, 0, none⟩), .pointer (some ⟨b2, 0, none⟩)] w
      (RetX (fun _ w' => (∃ t : T, s = t.text ∧ t.size ≤ 10 ∧ ∃ u, Box w' b2 32 u ∧ OwnS w' w.heap.size u (sortS ((ups t).map T.text))) ∧ Ch (fun k => k = b2) w w') (fun ch w' => ∃ e, ch = [trb e] ∧ (e = 4 ∧ ¬ IsT s ∧ Box w' b2 32 (.slice none 0 0)) ∧ Ch (fun k => k = b2) w w')) := by
  have g1 : rd w (some ⟨b1, 0, none⟩) = some (str s) := Gv.Box.rd h1
  refine calls_of_wcX (args := [.pointer (some ⟨b1, 0, none⟩), .pointer (some ⟨b2, 0, none⟩)]) Try.func76 rfl ?_ ?_; kernel_rfl
  repeat' (first|(refine wlP_plain ?_; (first|refine zA ?_|refine zB ?_|refine zC ?_|refine zD ?_|refine zE ?_|refine zF ?_|refine zG ?_|refine zH ?_|refine zI ?_|refine zJ ?_|refine zK ?_|refine zL ?_|refine zM ?_|refine zN ?_|refine zO ?_|refine zP ?_|refine zQ ?_|refine zR ?_|refine zS ?_))|(refine wlP_run rfl rfl ?_; (first|refine zA ?_|refine zB ?_|refine zC ?_|refine zD ?_|refine zE ?_|refine zF ?_|refine zG ?_|refine zH ?_|refine zI ?_|refine zJ ?_|refine zK ?_|refine zL ?_|refine zM ?_|refine zN ?_|refine zO ?_|refine zP ?_|refine zQ ?_|refine zR ?_|refine zS ?_))|refine wlP_nil ?_|refine wlP_pass rfl rfl rfl ?_|refine wlP_dead rfl rfl ?_|refine wc_regionP ?_|refine zc ?_|refine ze ?_|refine zX ?_|refine zY ?_|refine zv (fun hcd => ?_) (fun hcd => ?_)|refine zk ?_|refine zl ?_|refine zm ?_|refine zn ?_|refine zf ?_|refine zg ?_|refine zj ?_|refine zZ ?_|refine zh ?_|refine zi ?_|refine zo ?_|refine zp ?_|refine zq ?_|refine zr ?_|refine zs ?_)
  (refine wlP_may ?_; refine p_call (R := ?_) (Y := ?_) rfl ?_ ?_ ?_; rotate_left 2; focus exact read_any s w)
  rotate_left 1
  · rintro ch w1 ⟨rfl, hE, hno⟩
    ((repeat' (first|refine thenQ_panic ?_|refine inBl_panic ?_|refine noG_panic ?_)); (refine px_panic ?_))
    exact ⟨4, rfl, ⟨rfl, hno, h2.ext hE⟩, hE.ch⟩
  rintro v w1 ⟨t, rfl, ht, rfl, hE1⟩
  (refine wlP_plain ?_; refine r_call (R := ?_) rfl ?_ ?_; rotate_left 1; focus exact turned_any t true w1 (by omega))
  rintro v w2 ⟨hO2, hE2⟩
  obtain ⟨q2, c2, e2, _⟩ := hO2.strs.slice
  subst e2
  have hE12 := hE1.trans hE2
  have hb2 := h2.ext hE12
  refine wlP_plain ?_
  refine r_st_box (by kernel_rfl) hb2 rfl rfl rfl fun w3 hb3 hC3 hs3 => ?_
  repeat' (first|(refine wlP_plain ?_; (first|refine zA ?_|refine zB ?_|refine zC ?_|refine zD ?_|refine zE ?_|refine zF ?_|refine zG ?_|refine zH ?_|refine zI ?_|refine zJ ?_|refine zK ?_|refine zL ?_|refine zM ?_|refine zN ?_|refine zO ?_|refine zP ?_|refine zQ ?_|refine zR ?_|refine zS ?_))|(refine wlP_run rfl rfl ?_; (first|refine zA ?_|refine zB ?_|refine zC ?_|refine zD ?_|refine zE ?_|refine zF ?_|refine zG ?_|refine zH ?_|refine zI ?_|refine zJ ?_|refine zK ?_|refine zL ?_|refine zM ?_|refine zN ?_|refine zO ?_|refine zP ?_|refine zQ ?_|refine zR ?_|refine zS ?_))|refine wlP_nil ?_|refine wlP_pass rfl rfl rfl ?_|refine wlP_dead rfl rfl ?_|refine wc_regionP ?_|refine zc ?_|refine ze ?_|refine zX ?_|refine zY ?_|refine zv (fun hcd => ?_) (fun hcd => ?_)|refine zk ?_|refine zl ?_|refine zm ?_|refine zn ?_|refine zf ?_|refine zg ?_|refine zj ?_|refine zZ ?_|refine zh ?_|refine zi ?_|refine zo ?_|refine zp ?_|refine zq ?_|refine zr ?_|refine zs ?_)
  refine px_normal (post0n rfl ?_)
  refine ⟨⟨t, rfl, ht, _, hb3, ?_⟩, hE12.ch.trans hC3⟩
  refine ownsRow_mono (ownsRow_keep hO2 hC3 fun g hg e => ?_) hE1.size
  have := (World.ownsRow.lt hO2 g hg).1
  have := Gv.Box.lt (h2.ext hE1)
  omega
set_option maxRecDepth 20000 in
set_option maxHeartbeats 1000000 in
theorem Above_any (s : Str) (w : World) : Calls Try.prog 32 #[str s] w (Ret fun v w' => Ext w w' ∧ ((∃ t : T, s = t.text ∧ t.size ≤ 10 ∧ ∃ u, v = .tuple #[u, .int .i64 0] ∧ OwnS w' w.heap.size u (sortS ((ups t).map T.text))) ∨ (¬ IsT s ∧ v = .tuple #[.slice none 0 0, .int .i64 4]))) := by
  (refine calls_of_wc (args := [str s]) Try.func32 rfl ?_ ?_; kernel_rfl; ((repeat' (first|refine za ?_|refine zA ?_|refine zB ?_|refine zb ?_|refine zc ?_|refine ze ?_|refine zd ?_|refine zC ?_|refine zD ?_|refine zE ?_|refine zF ?_|refine zG ?_|refine zH ?_|refine zI ?_|refine zJ ?_|refine zK ?_|refine zL ?_|refine zM ?_|refine zN ?_|refine zO ?_|refine zP ?_|refine zQ ?_|refine zR ?_|refine zS ?_|refine zU ?_|refine zV ?_|refine zW ?_|refine zt (fun hcd => ?_) (fun hcd => ?_)|refine zu (fun hcd => ?_) (fun hcd => ?_)|refine zX ?_|refine zY ?_|refine zv (fun hcd => ?_) (fun hcd => ?_)|refine zk ?_|refine zl ?_|refine zm ?_|refine zn ?_|refine zf ?_|refine zg ?_|refine zj ?_|refine zZ ?_|refine zh ?_|refine zi ?_|refine zo ?_|refine zp ?_|refine zq ?_|refine zr ?_|refine zs ?_))); refine r_box (v := str s) rfl rfl fun w1 hb1 hE1 hs1 => ?_; ((repeat' (first|refine za ?_|refine zA ?_|refine zB ?_|refine zb ?_|refine zc ?_|refine ze ?_|refine zd ?_|refine zC ?_|refine zD ?_|refine zE ?_|refine zF ?_|refine zG ?_|refine zH ?_|refine zI ?_|refine zJ ?_|refine zK ?_|refine zL ?_|refine zM ?_|refine zN ?_|refine zO ?_|refine zP ?_|refine zQ ?_|refine zR ?_|refine zS ?_|refine zU ?_|refine zV ?_|refine zW ?_|refine zt (fun hcd => ?_) (fun hcd => ?_)|refine zu (fun hcd => ?_) (fun hcd => ?_)|refine zX ?_|refine zY ?_|refine zv (fun hcd => ?_) (fun hcd => ?_)|refine zk ?_|refine zl ?_|refine zm ?_|refine zn ?_|refine zf ?_|refine zg ?_|refine zj ?_|refine zZ ?_|refine zh ?_|refine zi ?_|refine zo ?_|refine zp ?_|refine zq ?_|refine zr ?_|refine zs ?_))); refine r_alloc (z := .slice none 0 0) zr32 rfl fun w2 hb2 hE2 hs2 => ?_; ((repeat' (first|refine za ?_|refine zA ?_|refine zB ?_|refine zb ?_|refine zc ?_|refine ze ?_|refine zd ?_|refine zC ?_|refine zD ?_|refine zE ?_|refine zF ?_|refine zG ?_|refine zH ?_|refine zI ?_|refine zJ ?_|refine zK ?_|refine zL ?_|refine zM ?_|refine zN ?_|refine zO ?_|refine zP ?_|refine zQ ?_|refine zR ?_|refine zS ?_|refine zU ?_|refine zV ?_|refine zW ?_|refine zt (fun hcd => ?_) (fun hcd => ?_)|refine zu (fun hcd => ?_) (fun hcd => ?_)|refine zX ?_|refine zY ?_|refine zv (fun hcd => ?_) (fun hcd => ?_)|refine zk ?_|refine zl ?_|refine zm ?_|refine zn ?_|refine zf ?_|refine zg ?_|refine zj ?_|refine zZ ?_|refine zh ?_|refine zi ?_|refine zo ?_|refine zp ?_|refine zq ?_|refine zr ?_|refine zs ?_))); refine r_mkfn_v (cap := [.pointer (some ⟨w.heap.size, 0, none⟩), .pointer (some ⟨w1.heap.size, 0, none⟩)]) rfl rfl ?_; (repeat' (first|refine za ?_|refine zA ?_|refine zB ?_|refine zb ?_|refine zc ?_|refine ze ?_|refine zd ?_|refine zC ?_|refine zD ?_|refine zE ?_|refine zF ?_|refine zG ?_|refine zH ?_|refine zI ?_|refine zJ ?_|refine zK ?_|refine zL ?_|refine zM ?_|refine zN ?_|refine zO ?_|refine zP ?_|refine zQ ?_|refine zR ?_|refine zS ?_|refine zU ?_|refine zV ?_|refine zW ?_|refine zt (fun hcd => ?_) (fun hcd => ?_)|refine zu (fun hcd => ?_) (fun hcd => ?_)|refine zX ?_|refine zY ?_|refine zv (fun hcd => ?_) (fun hcd => ?_)|refine zk ?_|refine zl ?_|refine zm ?_|refine zn ?_|refine zf ?_|refine zg ?_|refine zj ?_|refine zZ ?_|refine zh ?_|refine zi ?_|refine zo ?_|refine zp ?_|refine zq ?_|refine zr ?_|refine zs ?_)))
  (refine r_call (R := ?_) rfl ?_ ?_; rotate_left 1; focus exact guard_any 76 _ w2 (fun k => k = w1.heap.size) (fun w' => ∃ t : T, s = t.text ∧ t.size ≤ 10 ∧ ∃ u, Box w' w1.heap.size 32 u ∧ OwnS w' (w2.heap.size + 1) u (sortS ((ups t).map T.text))) (fun e w' => e = 4 ∧ ¬ IsT s ∧ Box w' w1.heap.size 32 (.slice none 0 0)) (by kernel_rfl) (by omega) fun wg hEg hsg => (aboveC s _ _ wg ((hb1.ext hE2).ext hEg) (hb2.ext hEg) (by omega)).mono fun e w' h => RetX.mono h (fun v w' ⟨⟨t, h1, h2, u, h3, h4⟩, h5⟩ => ⟨⟨t, h1, h2, u, h3, hsg ▸ h4⟩, h5⟩) fun ch w' h => h)
  rintro v w4 ⟨w3, hCg, hCS, hlt, hcase⟩
  have hE4 := ext_guard (hE1.trans hE2) hCS (by omega) hCg
  rcases hcase with ⟨rfl, t, rfl, ht, u, hB, hO⟩ | ⟨e, rfl, rfl, hno, hB⟩
  · have hB4 := hB.keep hCg (by omega)
    have g4 : rd w4 (some ⟨w1.heap.size, 0, none⟩) = some u := Gv.Box.rd hB4
    obtain ⟨q, c, e, _⟩ := hO.strs.slice
    subst e
    have hO4 := ownsRow_keep hO hCg (fun g hg e => by
      have := (World.ownsRow.lt hO g hg).1
      have h6 := hlt
      omega)
    repeat' (first|refine za ?_|refine zA ?_|refine zB ?_|refine zb ?_|refine zc ?_|refine ze ?_|refine zd ?_|refine zC ?_|refine zD ?_|refine zE ?_|refine zF ?_|refine zG ?_|refine zH ?_|refine zI ?_|refine zJ ?_|refine zK ?_|refine zL ?_|refine zM ?_|refine zN ?_|refine zO ?_|refine zP ?_|refine zQ ?_|refine zR ?_|refine zS ?_|refine zU ?_|refine zV ?_|refine zW ?_|refine zt (fun hcd => ?_) (fun hcd => ?_)|refine zu (fun hcd => ?_) (fun hcd => ?_)|refine zX ?_|refine zY ?_|refine zv (fun hcd => ?_) (fun hcd => ?_)|refine zk ?_|refine zl ?_|refine zm ?_|refine zn ?_|refine zf ?_|refine zg ?_|refine zj ?_|refine zZ ?_|refine zh ?_|refine zi ?_|refine zo ?_|refine zp ?_|refine zq ?_|refine zr ?_|refine zs ?_)
    refine r_st_box (by kernel_rfl) hB4 rfl rfl rfl fun w5 hB5 hC5 hs5 => ?_
    repeat' (first|refine za ?_|refine zA ?_|refine zB ?_|refine zb ?_|refine zc ?_|refine ze ?_|refine zd ?_|refine zC ?_|refine zD ?_|refine zE ?_|refine zF ?_|refine zG ?_|refine zH ?_|refine zI ?_|refine zJ ?_|refine zK ?_|refine zL ?_|refine zM ?_|refine zN ?_|refine zO ?_|refine zP ?_|refine zQ ?_|refine zR ?_|refine zS ?_|refine zU ?_|refine zV ?_|refine zW ?_|refine zt (fun hcd => ?_) (fun hcd => ?_)|refine zu (fun hcd => ?_) (fun hcd => ?_)|refine zX ?_|refine zY ?_|refine zv (fun hcd => ?_) (fun hcd => ?_)|refine zk ?_|refine zl ?_|refine zm ?_|refine zn ?_|refine zf ?_|refine zg ?_|refine zj ?_|refine zZ ?_|refine zh ?_|refine zi ?_|refine zo ?_|refine zp ?_|refine zq ?_|refine zr ?_|refine zs ?_)
    refine post_b2 rfl rfl (v2 := .int .i64 0) rfl ct32 hB5 ?_
    refine ⟨Ch.trans' hE4 hC5 fun k hk e => by omega, .inl ⟨t, rfl, ht, _, rfl, ?_⟩⟩
    refine ownsRow_mono (ownsRow_keep hO4 hC5 fun g hg e => ?_) (by omega)
    have := (World.ownsRow.lt hO4 g hg).1
    omega
  · have hB4 := hB.keep hCg (by omega)
    have g4 : rd w4 (some ⟨w1.heap.size, 0, none⟩) = some (.slice none 0 0) := Gv.Box.rd hB4
    repeat' (first|refine za ?_|refine zA ?_|refine zB ?_|refine zb ?_|refine zc ?_|refine ze ?_|refine zd ?_|refine zC ?_|refine zD ?_|refine zE ?_|refine zF ?_|refine zG ?_|refine zH ?_|refine zI ?_|refine zJ ?_|refine zK ?_|refine zL ?_|refine zM ?_|refine zN ?_|refine zO ?_|refine zP ?_|refine zQ ?_|refine zR ?_|refine zS ?_|refine zU ?_|refine zV ?_|refine zW ?_|refine zt (fun hcd => ?_) (fun hcd => ?_)|refine zu (fun hcd => ?_) (fun hcd => ?_)|refine zX ?_|refine zY ?_|refine zv (fun hcd => ?_) (fun hcd => ?_)|refine zk ?_|refine zl ?_|refine zm ?_|refine zn ?_|refine zf ?_|refine zg ?_|refine zj ?_|refine zZ ?_|refine zh ?_|refine zi ?_|refine zo ?_|refine zp ?_|refine zq ?_|refine zr ?_|refine zs ?_)
    refine r_st_box (by kernel_rfl) hB4 rfl rfl rfl fun w5 hB5 hC5 hs5 => ?_
    repeat' (first|refine za ?_|refine zA ?_|refine zB ?_|refine zb ?_|refine zc ?_|refine ze ?_|refine zd ?_|refine zC ?_|refine zD ?_|refine zE ?_|refine zF ?_|refine zG ?_|refine zH ?_|refine zI ?_|refine zJ ?_|refine zK ?_|refine zL ?_|refine zM ?_|refine zN ?_|refine zO ?_|refine zP ?_|refine zQ ?_|refine zR ?_|refine zS ?_|refine zU ?_|refine zV ?_|refine zW ?_|refine zt (fun hcd => ?_) (fun hcd => ?_)|refine zu (fun hcd => ?_) (fun hcd => ?_)|refine zX ?_|refine zY ?_|refine zv (fun hcd => ?_) (fun hcd => ?_)|refine zk ?_|refine zl ?_|refine zm ?_|refine zn ?_|refine zf ?_|refine zg ?_|refine zj ?_|refine zZ ?_|refine zh ?_|refine zi ?_|refine zo ?_|refine zp ?_|refine zq ?_|refine zr ?_|refine zs ?_)
    refine post_b2 rfl rfl (v2 := .int .i64 4) rfl ct32 hB5 ?_
    exact ⟨Ch.trans' hE4 hC5 fun k hk e => by omega, .inr ⟨hno, rfl⟩⟩
end Go.Proofs.Ytkdakleckdkhiaa

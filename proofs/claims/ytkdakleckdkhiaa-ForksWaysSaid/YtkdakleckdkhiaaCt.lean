/- forks: Turn, Tree. -/
import Derived.Test.YtkdakleckdkhiaaCl
namespace Go.Proofs.Ytkdakleckdkhiaa
open Gv
theorem sameBut_mark {ops : Array Oper} {ρ ρ' : Env} (h : sameBut ops ρ ρ') (hd : (ops.toList.all fun o => match o.dst with | some d => !(Nat.beq d 1000000) | none => true) = true) : ρ' 1000000 = ρ 1000000 := by
  refine h 1000000 fun o ho e => ?_
  have := List.all_eq_true.1 hd o ho
  rw [e] at this
  simp at this
set_option maxRecDepth 20000 in
set_option maxHeartbeats 1000000 in
theorem within_any (n lo hi : Int) (w : World) : Calls Try.prog 55 #[.int .i64 n, .int .i64 lo, .int .i64 hi] w (Ret fun v w' => v = .bool (decide (lo ≤ n ∧ n ≤ hi)) ∧ w' = w) := by
  refine calls_of_wc (args := [.int .i64 n, .int .i64 lo, .int .i64 hi]) Try.func55 rfl ?_ ?_; kernel_rfl
  by_cases h1 : lo ≤ n
  · by_cases h2 : n ≤ hi
    · repeat' (first|refine za ?_|refine zA ?_|refine zB ?_|refine zb ?_|refine zc ?_|refine ze ?_|refine zd ?_|refine zC ?_|refine zD ?_|refine zE ?_|refine zF ?_|refine zG ?_|refine zH ?_|refine zI ?_|refine zJ ?_|refine zK ?_|refine zL ?_|refine zM ?_|refine zN ?_|refine zO ?_|refine zP ?_|refine zQ ?_|refine zR ?_|refine zS ?_|refine zU ?_|refine zV ?_|refine zW ?_|refine zt (fun hcd => ?_) (fun hcd => ?_)|refine zu (fun hcd => ?_) (fun hcd => ?_)|refine zX ?_|refine zY ?_|refine zv (fun hcd => ?_) (fun hcd => ?_)|refine zk ?_|refine zl ?_|refine zm ?_|refine zn ?_|refine zf ?_|refine zg ?_|refine zj ?_|refine zZ ?_|refine zh ?_|refine zi ?_|refine zo ?_|refine zp ?_|refine zq ?_|refine zr ?_|refine zs ?_)
      refine post1 (v := .bool true) rfl rfl ?_
      exact ⟨congrArg Value.bool (decide_eq_true ⟨h1, h2⟩).symm, rfl⟩
    · repeat' (first|refine za ?_|refine zA ?_|refine zB ?_|refine zb ?_|refine zc ?_|refine ze ?_|refine zd ?_|refine zC ?_|refine zD ?_|refine zE ?_|refine zF ?_|refine zG ?_|refine zH ?_|refine zI ?_|refine zJ ?_|refine zK ?_|refine zL ?_|refine zM ?_|refine zN ?_|refine zO ?_|refine zP ?_|refine zQ ?_|refine zR ?_|refine zS ?_|refine zU ?_|refine zV ?_|refine zW ?_|refine zt (fun hcd => ?_) (fun hcd => ?_)|refine zu (fun hcd => ?_) (fun hcd => ?_)|refine zX ?_|refine zY ?_|refine zv (fun hcd => ?_) (fun hcd => ?_)|refine zk ?_|refine zl ?_|refine zm ?_|refine zn ?_|refine zf ?_|refine zg ?_|refine zj ?_|refine zZ ?_|refine zh ?_|refine zi ?_|refine zo ?_|refine zp ?_|refine zq ?_|refine zr ?_|refine zs ?_)
      refine post1 (v := .bool false) rfl rfl ?_
      exact ⟨congrArg Value.bool (decide_eq_false fun h => h2 h.2).symm, rfl⟩
  · repeat' (first|refine za ?_|refine zA ?_|refine zB ?_|refine zb ?_|refine zc ?_|refine ze ?_|refine zd ?_|refine zC ?_|refine zD ?_|refine zE ?_|refine zF ?_|refine zG ?_|refine zH ?_|refine zI ?_|refine zJ ?_|refine zK ?_|refine zL ?_|refine zM ?_|refine zN ?_|refine zO ?_|refine zP ?_|refine zQ ?_|refine zR ?_|refine zS ?_|refine zU ?_|refine zV ?_|refine zW ?_|refine zt (fun hcd => ?_) (fun hcd => ?_)|refine zu (fun hcd => ?_) (fun hcd => ?_)|refine zX ?_|refine zY ?_|refine zv (fun hcd => ?_) (fun hcd => ?_)|refine zk ?_|refine zl ?_|refine zm ?_|refine zn ?_|refine zf ?_|refine zg ?_|refine zj ?_|refine zZ ?_|refine zh ?_|refine zi ?_|refine zo ?_|refine zp ?_|refine zq ?_|refine zr ?_|refine zs ?_)
    refine post1 (v := .bool false) rfl rfl ?_
    exact ⟨congrArg Value.bool (decide_eq_false fun h => h1 h.1).symm, rfl⟩
def GoodT (s : Str) (at_ : Int) (right : Bool) (u : Value) : Prop := ∃ (t : T) (k : Nat) (y : T), s = t.text ∧ t.size ≤ 10 ∧ at_ = k ∧ k < t.size ∧ t.turn k right = some y ∧ u = str y.text
def ErrT (s : Str) (at_ : Int) (right : Bool) (e : Int) : Prop := (e = 4 ∧ ¬ IsT s) ∨ (e = 2 ∧ ∃ t : T, s = t.text ∧ t.size ≤ 10 ∧ ¬ (0 ≤ at_ ∧ at_ < t.size)) ∨ (e = 6 ∧ ∃ (t : T) (k : Nat), s = t.text ∧ t.size ≤ 10 ∧ at_ = k ∧ k < t.size ∧ t.turn k right = none)
set_option maxRecDepth 20000 in
set_option maxHeartbeats 2000000 in
theorem turnC (s : Str) (at_ : Int) (right : Bool) (b1 b2 b3 b4 : Nat) (w : World) (h1 : Box w b1 9 (str s)) (h2 : Box w b2 3 (.int .i64 at_)) (h3 : Box w b3 4 (.bool right)) (h4 : Box w b4 9 (str [])) (_hne : b1 ≠ b4 ∧ b2 ≠ b4 ∧ b3 ≠ b4) :
    Calls Try.prog 78 #[.pointer (some ⟨b1, 0, none⟩), .pointer (some ⟨b2, 0, none⟩), .pointer (some ⟨b3, 0, none⟩), .pointer (some ⟨b4, 0, none⟩)] w
      (RetX (fun _ w' => (∃ u, Box w' b4 9 u ∧ GoodT s at_ right u) ∧ Ch (fun k => k = b4) w w') (fun ch w' => ∃ e, ch = [trb e] ∧ (ErrT s at_ right e ∧ Box w' b4 9 (str [])) ∧ Ch (fun k => k = b4) w w')) := by
  have g1 : rd w (some ⟨b1, 0, none⟩) = some (str s) := Gv.Box.rd h1
  refine calls_of_wcX (args := [.pointer (some ⟨b1, 0, none⟩), .pointer (some ⟨b2, 0, none⟩), .pointer (some ⟨b3, 0, none⟩), .pointer (some ⟨b4, 0, none⟩)]) Try.func78 rfl ?_ ?_; kernel_rfl
  repeat' (first|(refine wlP_plain ?_; (first|refine zA ?_|refine zB ?_|refine zC ?_|refine zD ?_|refine zE ?_|refine zF ?_|refine zG ?_|refine zH ?_|refine zI ?_|refine zJ ?_|refine zK ?_|refine zL ?_|refine zM ?_|refine zN ?_|refine zO ?_|refine zP ?_|refine zQ ?_|refine zR ?_|refine zS ?_))|(refine wlP_run rfl rfl ?_; (first|refine zA ?_|refine zB ?_|refine zC ?_|refine zD ?_|refine zE ?_|refine zF ?_|refine zG ?_|refine zH ?_|refine zI ?_|refine zJ ?_|refine zK ?_|refine zL ?_|refine zM ?_|refine zN ?_|refine zO ?_|refine zP ?_|refine zQ ?_|refine zR ?_|refine zS ?_))|refine wlP_nil ?_|refine wlP_pass rfl rfl rfl ?_|refine wlP_dead rfl rfl ?_|refine wc_regionP ?_|refine zc ?_|refine ze ?_|refine zX ?_|refine zY ?_|refine zv (fun hcd => ?_) (fun hcd => ?_)|refine zk ?_|refine zl ?_|refine zm ?_|refine zn ?_|refine zf ?_|refine zg ?_|refine zj ?_|refine zZ ?_|refine zh ?_|refine zi ?_|refine zo ?_|refine zp ?_|refine zq ?_|refine zr ?_|refine zs ?_)
  (refine wlP_may ?_; refine p_call (R := ?_) (Y := ?_) rfl ?_ ?_ ?_; rotate_left 2; focus exact read_any s w)
  rotate_left 1
  · rintro ch w1 ⟨rfl, hE, hno⟩
    ((repeat' (first|refine thenQ_panic ?_|refine inBl_panic ?_|refine noG_panic ?_)); (refine px_panic ?_))
    exact ⟨4, rfl, ⟨.inl ⟨rfl, hno⟩, h4.ext hE⟩, hE.ch⟩
  rintro v w1 ⟨t, rfl, ht, rfl, hE1⟩
  repeat' (first|(refine wlP_plain ?_; (first|refine zA ?_|refine zB ?_|refine zC ?_|refine zD ?_|refine zE ?_|refine zF ?_|refine zG ?_|refine zH ?_|refine zI ?_|refine zJ ?_|refine zK ?_|refine zL ?_|refine zM ?_|refine zN ?_|refine zO ?_|refine zP ?_|refine zQ ?_|refine zR ?_|refine zS ?_))|(refine wlP_run rfl rfl ?_; (first|refine zA ?_|refine zB ?_|refine zC ?_|refine zD ?_|refine zE ?_|refine zF ?_|refine zG ?_|refine zH ?_|refine zI ?_|refine zJ ?_|refine zK ?_|refine zL ?_|refine zM ?_|refine zN ?_|refine zO ?_|refine zP ?_|refine zQ ?_|refine zR ?_|refine zS ?_))|refine wlP_nil ?_|refine wlP_pass rfl rfl rfl ?_|refine wlP_dead rfl rfl ?_|refine wc_regionP ?_|refine zc ?_|refine ze ?_|refine zX ?_|refine zY ?_|refine zv (fun hcd => ?_) (fun hcd => ?_)|refine zk ?_|refine zl ?_|refine zm ?_|refine zn ?_|refine zf ?_|refine zg ?_|refine zj ?_|refine zZ ?_|refine zh ?_|refine zi ?_|refine zo ?_|refine zp ?_|refine zq ?_|refine zr ?_|refine zs ?_)
  have h2d := (h2.ext hE1).ext (Ext.drew w1)
  refine wc_heldP (fun w' => Ext w1.drew w') (.take 0 (.take 1 (.one 2 (.take 3 (.one 4 (.one 5 .done)))))) (fun ch w' => ∃ e, ch = [trb e] ∧ (ErrT t.text at_ right e ∧ Box w' b4 9 (str [])) ∧ Ch (fun k => k = b4) w w') (by kernel_rfl) (by kernel_rfl) (Ext.refl _) ?_ ?_
  · intro ch ρ' w' hsb hx
    repeat' (first|refine thenQ_panic ?_|refine inBl_panic ?_)
    exact px_panic hx ((sameBut_mark hsb (by kernel_rfl)).trans rfl)
  refine whP_take rfl rfl (fun w' hw' => rv_ld ct3 rfl (Gv.Box.rd (h2d.ext hw'))) ?_
  refine whP_take (v := tv t) rfl rfl (fun w' hw' => rv_move_v rfl) ?_
  refine whP_one rfl rfl ?_
  refine r_size (t := t) (by omega) rfl fun w2 hE2 => ?_
  refine ⟨hE2, ?_⟩
  refine whP_take rfl rfl (fun w' hw' => rv_sub rfl rfl ⟨by omega, by omega⟩) ?_
  refine whP_one rfl rfl ?_
  (refine r_call (R := ?_) rfl ?_ ?_; rotate_left 1; focus exact within_any at_ 0 ((t.size : Int) - 1) _)
  rintro v w2' ⟨rfl, hw⟩
  subst w2'
  refine ⟨hE2, ?_⟩
  refine whP_may rfl rfl ?_
  refine p_call (hf := by kernel_rfl) (hc := demand_any (decide (0 ≤ at_ ∧ at_ ≤ (t.size : Int) - 1)) 2 w2) ?_ ?_
  rotate_left 1
  · rintro ch w' ⟨hd, rfl, rfl⟩
    have hE := (hE1.trans (Ext.drew w1)).trans hE2
    refine ⟨2, rfl, ⟨.inr (.inl ⟨rfl, t, rfl, ht, ?_⟩), h4.ext hE⟩, hE.ch⟩
    simp only [decide_eq_false_iff_not] at hd
    omega
  rintro v w' ⟨hd, rfl, hw⟩
  subst w'
  refine ⟨hE2, whP_done ?_⟩
  simp only [decide_eq_true_eq] at hd
  obtain ⟨k, rfl⟩ : ∃ k : Nat, at_ = k := ⟨at_.toNat, by omega⟩
  have hE12 := (hE1.trans (Ext.drew w1)).trans hE2
  have g2 := Gv.Box.rd (h2.ext hE12)
  have g3 := Gv.Box.rd (h3.ext hE12)
  repeat' (first|(refine wlP_plain ?_; (first|refine zA ?_|refine zB ?_|refine zC ?_|refine zD ?_|refine zE ?_|refine zF ?_|refine zG ?_|refine zH ?_|refine zI ?_|refine zJ ?_|refine zK ?_|refine zL ?_|refine zM ?_|refine zN ?_|refine zO ?_|refine zP ?_|refine zQ ?_|refine zR ?_|refine zS ?_))|(refine wlP_run rfl rfl ?_; (first|refine zA ?_|refine zB ?_|refine zC ?_|refine zD ?_|refine zE ?_|refine zF ?_|refine zG ?_|refine zH ?_|refine zI ?_|refine zJ ?_|refine zK ?_|refine zL ?_|refine zM ?_|refine zN ?_|refine zO ?_|refine zP ?_|refine zQ ?_|refine zR ?_|refine zS ?_))|refine wlP_nil ?_|refine wlP_pass rfl rfl rfl ?_|refine wlP_dead rfl rfl ?_|refine wc_regionP ?_|refine zc ?_|refine ze ?_|refine zX ?_|refine zY ?_|refine zv (fun hcd => ?_) (fun hcd => ?_)|refine zk ?_|refine zl ?_|refine zm ?_|refine zn ?_|refine zf ?_|refine zg ?_|refine zj ?_|refine zZ ?_|refine zh ?_|refine zi ?_|refine zo ?_|refine zp ?_|refine zq ?_|refine zr ?_|refine zs ?_)
  (refine wlP_plain ?_; refine r_call (R := ?_) rfl ?_ ?_; rotate_left 1; focus exact turn_any t k right w2 (by omega) (by omega))
  rintro v w3 ⟨ev3, hE3⟩
  cases hy : t.turn k right with
  | none =>
    rw [hy] at ev3; subst ev3
    repeat' (first|(refine wlP_plain ?_; (first|refine zA ?_|refine zB ?_|refine zC ?_|refine zD ?_|refine zE ?_|refine zF ?_|refine zG ?_|refine zH ?_|refine zI ?_|refine zJ ?_|refine zK ?_|refine zL ?_|refine zM ?_|refine zN ?_|refine zO ?_|refine zP ?_|refine zQ ?_|refine zR ?_|refine zS ?_))|(refine wlP_run rfl rfl ?_; (first|refine zA ?_|refine zB ?_|refine zC ?_|refine zD ?_|refine zE ?_|refine zF ?_|refine zG ?_|refine zH ?_|refine zI ?_|refine zJ ?_|refine zK ?_|refine zL ?_|refine zM ?_|refine zN ?_|refine zO ?_|refine zP ?_|refine zQ ?_|refine zR ?_|refine zS ?_))|refine wlP_nil ?_|refine wlP_pass rfl rfl rfl ?_|refine wlP_dead rfl rfl ?_|refine wc_regionP ?_|refine zc ?_|refine ze ?_|refine zX ?_|refine zY ?_|refine zv (fun hcd => ?_) (fun hcd => ?_)|refine zk ?_|refine zl ?_|refine zm ?_|refine zn ?_|refine zf ?_|refine zg ?_|refine zj ?_|refine zZ ?_|refine zh ?_|refine zi ?_|refine zo ?_|refine zp ?_|refine zq ?_|refine zr ?_|refine zs ?_)
    refine wlP_plain ?_
    refine r_ine_f if80 rfl ?_
    (refine wlP_may ?_; refine p_call (R := ?_) (Y := ?_) rfl ?_ ?_ ?_; rotate_left 2; focus exact demand_any false 6 w3)
    · rintro v w' ⟨h, _⟩; cases h
    rintro ch w' ⟨hd, rfl, rfl⟩
    ((repeat' (first|refine thenQ_panic ?_|refine inBl_panic ?_|refine noG_panic ?_)); (refine px_panic ?_))
    exact ⟨6, rfl, ⟨.inr (.inr ⟨rfl, t, k, rfl, ht, rfl, by omega, hy⟩), h4.ext (hE12.trans hE3)⟩, (hE12.trans hE3).ch⟩
  | some y =>
    rw [hy] at ev3; subst ev3
    have hys := turn_size _ _ _ _ hy
    repeat' (first|(refine wlP_plain ?_; (first|refine zA ?_|refine zB ?_|refine zC ?_|refine zD ?_|refine zE ?_|refine zF ?_|refine zG ?_|refine zH ?_|refine zI ?_|refine zJ ?_|refine zK ?_|refine zL ?_|refine zM ?_|refine zN ?_|refine zO ?_|refine zP ?_|refine zQ ?_|refine zR ?_|refine zS ?_))|(refine wlP_run rfl rfl ?_; (first|refine zA ?_|refine zB ?_|refine zC ?_|refine zD ?_|refine zE ?_|refine zF ?_|refine zG ?_|refine zH ?_|refine zI ?_|refine zJ ?_|refine zK ?_|refine zL ?_|refine zM ?_|refine zN ?_|refine zO ?_|refine zP ?_|refine zQ ?_|refine zR ?_|refine zS ?_))|refine wlP_nil ?_|refine wlP_pass rfl rfl rfl ?_|refine wlP_dead rfl rfl ?_|refine wc_regionP ?_|refine zc ?_|refine ze ?_|refine zX ?_|refine zY ?_|refine zv (fun hcd => ?_) (fun hcd => ?_)|refine zk ?_|refine zl ?_|refine zm ?_|refine zn ?_|refine zf ?_|refine zg ?_|refine zj ?_|refine zZ ?_|refine zh ?_|refine zi ?_|refine zo ?_|refine zp ?_|refine zq ?_|refine zr ?_|refine zs ?_)
    refine wlP_plain ?_
    refine r_ine_tv (t := y) rfl ?_
    (refine wlP_may ?_; refine p_call (R := ?_) (Y := ?_) rfl ?_ ?_ ?_; rotate_left 2; focus exact demand_any true 6 w3)
    rotate_left 1
    · rintro ch w' ⟨h, _⟩; cases h
    rintro v w' ⟨hd, rfl, hw⟩
    subst w'
    repeat' (first|(refine wlP_plain ?_; (first|refine zA ?_|refine zB ?_|refine zC ?_|refine zD ?_|refine zE ?_|refine zF ?_|refine zG ?_|refine zH ?_|refine zI ?_|refine zJ ?_|refine zK ?_|refine zL ?_|refine zM ?_|refine zN ?_|refine zO ?_|refine zP ?_|refine zQ ?_|refine zR ?_|refine zS ?_))|(refine wlP_run rfl rfl ?_; (first|refine zA ?_|refine zB ?_|refine zC ?_|refine zD ?_|refine zE ?_|refine zF ?_|refine zG ?_|refine zH ?_|refine zI ?_|refine zJ ?_|refine zK ?_|refine zL ?_|refine zM ?_|refine zN ?_|refine zO ?_|refine zP ?_|refine zQ ?_|refine zR ?_|refine zS ?_))|refine wlP_nil ?_|refine wlP_pass rfl rfl rfl ?_|refine wlP_dead rfl rfl ?_|refine wc_regionP ?_|refine zc ?_|refine ze ?_|refine zX ?_|refine zY ?_|refine zv (fun hcd => ?_) (fun hcd => ?_)|refine zk ?_|refine zl ?_|refine zm ?_|refine zn ?_|refine zf ?_|refine zg ?_|refine zj ?_|refine zZ ?_|refine zh ?_|refine zi ?_|refine zo ?_|refine zp ?_|refine zq ?_|refine zr ?_|refine zs ?_)
    refine wlP_plain ?_
    refine r_text (t := y) (by omega) rfl fun w4 hE4 => ?_
    have hE14 := hE12.trans (hE3.trans hE4)
    have hb4 := h4.ext hE14
    refine wlP_plain ?_
    refine r_st_box (v := str y.text) (by kernel_rfl) hb4 rfl rfl rfl fun w5 hb5 hC5 hs5 => ?_
    repeat' (first|(refine wlP_plain ?_; (first|refine zA ?_|refine zB ?_|refine zC ?_|refine zD ?_|refine zE ?_|refine zF ?_|refine zG ?_|refine zH ?_|refine zI ?_|refine zJ ?_|refine zK ?_|refine zL ?_|refine zM ?_|refine zN ?_|refine zO ?_|refine zP ?_|refine zQ ?_|refine zR ?_|refine zS ?_))|(refine wlP_run rfl rfl ?_; (first|refine zA ?_|refine zB ?_|refine zC ?_|refine zD ?_|refine zE ?_|refine zF ?_|refine zG ?_|refine zH ?_|refine zI ?_|refine zJ ?_|refine zK ?_|refine zL ?_|refine zM ?_|refine zN ?_|refine zO ?_|refine zP ?_|refine zQ ?_|refine zR ?_|refine zS ?_))|refine wlP_nil ?_|refine wlP_pass rfl rfl rfl ?_|refine wlP_dead rfl rfl ?_|refine wc_regionP ?_|refine zc ?_|refine ze ?_|refine zX ?_|refine zY ?_|refine zv (fun hcd => ?_) (fun hcd => ?_)|refine zk ?_|refine zl ?_|refine zm ?_|refine zn ?_|refine zf ?_|refine zg ?_|refine zj ?_|refine zZ ?_|refine zh ?_|refine zi ?_|refine zo ?_|refine zp ?_|refine zq ?_|refine zr ?_|refine zs ?_)
    refine px_normal (post0n rfl ?_)
    exact ⟨⟨_, hb5, t, k, y, rfl, ht, rfl, by omega, hy, rfl⟩, hE14.ch.trans hC5⟩
set_option maxRecDepth 20000 in
set_option maxHeartbeats 1000000 in
theorem Turn_any (s : Str) (at_ : Int) (right : Bool) (w : World) : Calls Try.prog 38 #[str s, .int .i64 at_, .bool right] w (Ret fun v w' => Ext w w' ∧ ((∃ u, v = .tuple #[u, .int .i64 0] ∧ GoodT s at_ right u) ∨ ∃ e, v = .tuple #[str [], .int .i64 e] ∧ ErrT s at_ right e)) := by
  refine calls_of_wc (args := [str s, .int .i64 at_, .bool right]) Try.func38 rfl ?_ ?_; kernel_rfl
  repeat' (first|refine za ?_|refine zA ?_|refine zB ?_|refine zb ?_|refine zc ?_|refine ze ?_|refine zd ?_|refine zC ?_|refine zD ?_|refine zE ?_|refine zF ?_|refine zG ?_|refine zH ?_|refine zI ?_|refine zJ ?_|refine zK ?_|refine zL ?_|refine zM ?_|refine zN ?_|refine zO ?_|refine zP ?_|refine zQ ?_|refine zR ?_|refine zS ?_|refine zU ?_|refine zV ?_|refine zW ?_|refine zt (fun hcd => ?_) (fun hcd => ?_)|refine zu (fun hcd => ?_) (fun hcd => ?_)|refine zX ?_|refine zY ?_|refine zv (fun hcd => ?_) (fun hcd => ?_)|refine zk ?_|refine zl ?_|refine zm ?_|refine zn ?_|refine zf ?_|refine zg ?_|refine zj ?_|refine zZ ?_|refine zh ?_|refine zi ?_|refine zo ?_|refine zp ?_|refine zq ?_|refine zr ?_|refine zs ?_)
  refine r_box (v := str s) rfl rfl fun w1 hb1 hE1 hs1 => ?_
  repeat' (first|refine za ?_|refine zA ?_|refine zB ?_|refine zb ?_|refine zc ?_|refine ze ?_|refine zd ?_|refine zC ?_|refine zD ?_|refine zE ?_|refine zF ?_|refine zG ?_|refine zH ?_|refine zI ?_|refine zJ ?_|refine zK ?_|refine zL ?_|refine zM ?_|refine zN ?_|refine zO ?_|refine zP ?_|refine zQ ?_|refine zR ?_|refine zS ?_|refine zU ?_|refine zV ?_|refine zW ?_|refine zt (fun hcd => ?_) (fun hcd => ?_)|refine zu (fun hcd => ?_) (fun hcd => ?_)|refine zX ?_|refine zY ?_|refine zv (fun hcd => ?_) (fun hcd => ?_)|refine zk ?_|refine zl ?_|refine zm ?_|refine zn ?_|refine zf ?_|refine zg ?_|refine zj ?_|refine zZ ?_|refine zh ?_|refine zi ?_|refine zo ?_|refine zp ?_|refine zq ?_|refine zr ?_|refine zs ?_)
  refine r_box (v := .int .i64 at_) rfl rfl fun w2 hb2 hE2 hs2 => ?_
  repeat' (first|refine za ?_|refine zA ?_|refine zB ?_|refine zb ?_|refine zc ?_|refine ze ?_|refine zd ?_|refine zC ?_|refine zD ?_|refine zE ?_|refine zF ?_|refine zG ?_|refine zH ?_|refine zI ?_|refine zJ ?_|refine zK ?_|refine zL ?_|refine zM ?_|refine zN ?_|refine zO ?_|refine zP ?_|refine zQ ?_|refine zR ?_|refine zS ?_|refine zU ?_|refine zV ?_|refine zW ?_|refine zt (fun hcd => ?_) (fun hcd => ?_)|refine zu (fun hcd => ?_) (fun hcd => ?_)|refine zX ?_|refine zY ?_|refine zv (fun hcd => ?_) (fun hcd => ?_)|refine zk ?_|refine zl ?_|refine zm ?_|refine zn ?_|refine zf ?_|refine zg ?_|refine zj ?_|refine zZ ?_|refine zh ?_|refine zi ?_|refine zo ?_|refine zp ?_|refine zq ?_|refine zr ?_|refine zs ?_)
  refine r_box (v := .bool right) rfl rfl fun w3 hb3 hE3 hs3 => ?_
  repeat' (first|refine za ?_|refine zA ?_|refine zB ?_|refine zb ?_|refine zc ?_|refine ze ?_|refine zd ?_|refine zC ?_|refine zD ?_|refine zE ?_|refine zF ?_|refine zG ?_|refine zH ?_|refine zI ?_|refine zJ ?_|refine zK ?_|refine zL ?_|refine zM ?_|refine zN ?_|refine zO ?_|refine zP ?_|refine zQ ?_|refine zR ?_|refine zS ?_|refine zU ?_|refine zV ?_|refine zW ?_|refine zt (fun hcd => ?_) (fun hcd => ?_)|refine zu (fun hcd => ?_) (fun hcd => ?_)|refine zX ?_|refine zY ?_|refine zv (fun hcd => ?_) (fun hcd => ?_)|refine zk ?_|refine zl ?_|refine zm ?_|refine zn ?_|refine zf ?_|refine zg ?_|refine zj ?_|refine zZ ?_|refine zh ?_|refine zi ?_|refine zo ?_|refine zp ?_|refine zq ?_|refine zr ?_|refine zs ?_)
  refine r_alloc (z := str []) zr9 rfl fun w4 hb4 hE4 hs4 => ?_
  repeat' (first|refine za ?_|refine zA ?_|refine zB ?_|refine zb ?_|refine zc ?_|refine ze ?_|refine zd ?_|refine zC ?_|refine zD ?_|refine zE ?_|refine zF ?_|refine zG ?_|refine zH ?_|refine zI ?_|refine zJ ?_|refine zK ?_|refine zL ?_|refine zM ?_|refine zN ?_|refine zO ?_|refine zP ?_|refine zQ ?_|refine zR ?_|refine zS ?_|refine zU ?_|refine zV ?_|refine zW ?_|refine zt (fun hcd => ?_) (fun hcd => ?_)|refine zu (fun hcd => ?_) (fun hcd => ?_)|refine zX ?_|refine zY ?_|refine zv (fun hcd => ?_) (fun hcd => ?_)|refine zk ?_|refine zl ?_|refine zm ?_|refine zn ?_|refine zf ?_|refine zg ?_|refine zj ?_|refine zZ ?_|refine zh ?_|refine zi ?_|refine zo ?_|refine zp ?_|refine zq ?_|refine zr ?_|refine zs ?_)
  refine r_mkfn_v (cap := [.pointer (some ⟨w.heap.size, 0, none⟩), .pointer (some ⟨w1.heap.size, 0, none⟩), .pointer (some ⟨w2.heap.size, 0, none⟩), .pointer (some ⟨w3.heap.size, 0, none⟩)]) rfl rfl ?_
  repeat' (first|refine za ?_|refine zA ?_|refine zB ?_|refine zb ?_|refine zc ?_|refine ze ?_|refine zd ?_|refine zC ?_|refine zD ?_|refine zE ?_|refine zF ?_|refine zG ?_|refine zH ?_|refine zI ?_|refine zJ ?_|refine zK ?_|refine zL ?_|refine zM ?_|refine zN ?_|refine zO ?_|refine zP ?_|refine zQ ?_|refine zR ?_|refine zS ?_|refine zU ?_|refine zV ?_|refine zW ?_|refine zt (fun hcd => ?_) (fun hcd => ?_)|refine zu (fun hcd => ?_) (fun hcd => ?_)|refine zX ?_|refine zY ?_|refine zv (fun hcd => ?_) (fun hcd => ?_)|refine zk ?_|refine zl ?_|refine zm ?_|refine zn ?_|refine zf ?_|refine zg ?_|refine zj ?_|refine zZ ?_|refine zh ?_|refine zi ?_|refine zo ?_|refine zp ?_|refine zq ?_|refine zr ?_|refine zs ?_)
  (refine r_call (R := ?_) rfl ?_ ?_; rotate_left 1; focus exact guard_any 78 _ w4 (fun k => k = w3.heap.size) (fun w' => ∃ u, Box w' w3.heap.size 9 u ∧ GoodT s at_ right u) (fun e w' => ErrT s at_ right e ∧ Box w' w3.heap.size 9 (str [])) (by kernel_rfl) (by omega) fun wg hEg hsg => turnC s at_ right _ _ _ _ wg ((((hb1.ext hE2).ext hE3).ext hE4).ext hEg) (((hb2.ext hE3).ext hE4).ext hEg) ((hb3.ext hE4).ext hEg) (hb4.ext hEg) (by omega))
  rintro v w6 ⟨w5, hCg, hCS, hlt, hcase⟩
  have hE6 := ext_guard (hE1.trans (hE2.trans (hE3.trans hE4))) hCS (by omega) hCg
  rcases hcase with ⟨rfl, u, hB, hgood⟩ | ⟨e, rfl, herr, hB⟩
  · obtain ⟨t, k, y, -, -, -, -, -, rfl⟩ := id hgood
    have hB6 := hB.keep hCg (by omega)
    have g6 := Gv.Box.rd hB6
    repeat' (first|refine za ?_|refine zA ?_|refine zB ?_|refine zb ?_|refine zc ?_|refine ze ?_|refine zd ?_|refine zC ?_|refine zD ?_|refine zE ?_|refine zF ?_|refine zG ?_|refine zH ?_|refine zI ?_|refine zJ ?_|refine zK ?_|refine zL ?_|refine zM ?_|refine zN ?_|refine zO ?_|refine zP ?_|refine zQ ?_|refine zR ?_|refine zS ?_|refine zU ?_|refine zV ?_|refine zW ?_|refine zt (fun hcd => ?_) (fun hcd => ?_)|refine zu (fun hcd => ?_) (fun hcd => ?_)|refine zX ?_|refine zY ?_|refine zv (fun hcd => ?_) (fun hcd => ?_)|refine zk ?_|refine zl ?_|refine zm ?_|refine zn ?_|refine zf ?_|refine zg ?_|refine zj ?_|refine zZ ?_|refine zh ?_|refine zi ?_|refine zo ?_|refine zp ?_|refine zq ?_|refine zr ?_|refine zs ?_)
    refine r_st_box (by kernel_rfl) hB6 rfl rfl rfl fun w7 hB7 hC7 hs7 => ?_
    repeat' (first|refine za ?_|refine zA ?_|refine zB ?_|refine zb ?_|refine zc ?_|refine ze ?_|refine zd ?_|refine zC ?_|refine zD ?_|refine zE ?_|refine zF ?_|refine zG ?_|refine zH ?_|refine zI ?_|refine zJ ?_|refine zK ?_|refine zL ?_|refine zM ?_|refine zN ?_|refine zO ?_|refine zP ?_|refine zQ ?_|refine zR ?_|refine zS ?_|refine zU ?_|refine zV ?_|refine zW ?_|refine zt (fun hcd => ?_) (fun hcd => ?_)|refine zu (fun hcd => ?_) (fun hcd => ?_)|refine zX ?_|refine zY ?_|refine zv (fun hcd => ?_) (fun hcd => ?_)|refine zk ?_|refine zl ?_|refine zm ?_|refine zn ?_|refine zf ?_|refine zg ?_|refine zj ?_|refine zZ ?_|refine zh ?_|refine zi ?_|refine zo ?_|refine zp ?_|refine zq ?_|refine zr ?_|refine zs ?_)
    refine post_b2 rfl rfl (v2 := .int .i64 0) rfl ct9 hB7 ?_
    exact ⟨Ch.trans' hE6 hC7 fun k hk e => by omega, .inl ⟨_, rfl, hgood⟩⟩
  · have hB6 := hB.keep hCg (by omega)
    have g6 := Gv.Box.rd hB6
    repeat' (first|refine za ?_|refine zA ?_|refine zB ?_|refine zb ?_|refine zc ?_|refine ze ?_|refine zd ?_|refine zC ?_|refine zD ?_|refine zE ?_|refine zF ?_|refine zG ?_|refine zH ?_|refine zI ?_|refine zJ ?_|refine zK ?_|refine zL ?_|refine zM ?_|refine zN ?_|refine zO ?_|refine zP ?_|refine zQ ?_|refine zR ?_|refine zS ?_|refine zU ?_|refine zV ?_|refine zW ?_|refine zt (fun hcd => ?_) (fun hcd => ?_)|refine zu (fun hcd => ?_) (fun hcd => ?_)|refine zX ?_|refine zY ?_|refine zv (fun hcd => ?_) (fun hcd => ?_)|refine zk ?_|refine zl ?_|refine zm ?_|refine zn ?_|refine zf ?_|refine zg ?_|refine zj ?_|refine zZ ?_|refine zh ?_|refine zi ?_|refine zo ?_|refine zp ?_|refine zq ?_|refine zr ?_|refine zs ?_)
    refine r_st_box (by kernel_rfl) hB6 rfl rfl rfl fun w7 hB7 hC7 hs7 => ?_
    repeat' (first|refine za ?_|refine zA ?_|refine zB ?_|refine zb ?_|refine zc ?_|refine ze ?_|refine zd ?_|refine zC ?_|refine zD ?_|refine zE ?_|refine zF ?_|refine zG ?_|refine zH ?_|refine zI ?_|refine zJ ?_|refine zK ?_|refine zL ?_|refine zM ?_|refine zN ?_|refine zO ?_|refine zP ?_|refine zQ ?_|refine zR ?_|refine zS ?_|refine zU ?_|refine zV ?_|refine zW ?_|refine zt (fun hcd => ?_) (fun hcd => ?_)|refine zu (fun hcd => ?_) (fun hcd => ?_)|refine zX ?_|refine zY ?_|refine zv (fun hcd => ?_) (fun hcd => ?_)|refine zk ?_|refine zl ?_|refine zm ?_|refine zn ?_|refine zf ?_|refine zg ?_|refine zj ?_|refine zZ ?_|refine zh ?_|refine zi ?_|refine zo ?_|refine zp ?_|refine zq ?_|refine zr ?_|refine zs ?_)
    refine post_b2 rfl rfl (v2 := .int .i64 e) rfl ct9 hB7 ?_
    exact ⟨Ch.trans' hE6 hC7 fun k hk e => by omega, .inr ⟨e, rfl, herr⟩⟩
end Go.Proofs.Ytkdakleckdkhiaa

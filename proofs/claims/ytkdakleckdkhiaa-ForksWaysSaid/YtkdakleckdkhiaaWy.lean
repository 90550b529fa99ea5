/- forks: Way. -/
import Derived.Test.YtkdakleckdkhiaaRv
import Derived.Test.YtkdakleckdkhiaaPW
namespace Go.Proofs.Ytkdakleckdkhiaa
open Gv
theorem mp89 : mapT Try.prog 89 = some (9, 9, str []) := by kernel_rfl
/-- The map of parents. -/
def FP (par : T → Option T) (F : Str → Option Value) : Prop := ∀ t : T, F t.text = (par t).map fun p => str p.text
theorem FP.set {par : T → Option T} {F : Str → Option Value} (h : FP par F) (z c : T) : FP (fun t => if t = z then some c else par t) (fun k => if k = z.text then some (str c.text) else F k) := by
  intro t
  dsimp only
  by_cases e : t = z
  · subst e; simp
  · have : t.text ≠ z.text := fun e' => e (text_inj e')
    rw [if_neg e, if_neg this, h t]
theorem FP.some {par : T → Option T} {F : Str → Option Value} (h : FP par F) {t p : T} (hp : par t = some p) : (F t.text).getD (str []) = str p.text := by rw [h t, hp]; rfl
theorem FP.none {par : T → Option T} {F : Str → Option Value} (h : FP par F) {t : T} (hp : par t = none) : (F t.text).getD (str []) = str [] := by rw [h t, hp]; rfl
abbrev txs (Q : List T) : List Str := Q.map T.text
theorem txs_get {Q : List T} {i : Nat} {c : T} (h : Q[i]? = some c) : (txs Q).getD i [] = c.text := by simp [txs, List.getD_eq_getElem?_getD, h]
def ErrW (a b : Str) (e : Int) : Prop := Err2 a b e ∨ (e = 5 ∧ ∃ x y : T, a = x.text ∧ b = y.text ∧ x.size ≤ 10 ∧ y.size = x.size ∧ 7 < x.size)
theorem adj_of_up {x z : T} {b : Bool} : z ∈ turnL x b → adj x z := by
  cases b with
  | true => intro h; exact mem_adj.2 (.inl h)
  | false => intro h; exact mem_adj.2 (.inr h)
def nbS (c : T) (b : Bool) : List Str := sortS ((turnL c b).map T.text)
theorem turnedN_any (x : T) (b : Bool) (w : World) (hb : x.size ≤ 1000) : Calls Try.prog 65 #[tv x, .bool b] w (Ret fun v w' => OwnS w' w.heap.size v (nbS x b) ∧ Ext w w') := turned_any x b w hb
theorem nbS_len {c : T} {b : Bool} (h : c.size ≤ 10) : (nbS c b).length ≤ 10 := by
  unfold nbS
  rw [sortS_len, List.length_map]
  have := turnT_len c b c.size
  simp only [turnT, List.length_map] at this
  unfold turnL; omega
def nbs (c : T) : List Str := nbS c true ++ nbS c false
theorem nbs_mem {c : T} {s : Str} : s ∈ nbs c ↔ ∃ z, adj c z ∧ s = z.text := by
  unfold nbs nbS
  rw [List.mem_append, mem_turns, mem_turns]
  constructor
  · rintro (⟨z, hz, e⟩ | ⟨z, hz, e⟩) <;> exact ⟨z, adj_of_up hz, e⟩
  · rintro ⟨z, hz, e⟩
    rcases mem_adj.1 hz with h | h
    · exact .inl ⟨z, h, e⟩
    · exact .inr ⟨z, h, e⟩
set_option maxRecDepth 20000 in
set_option maxHeartbeats 16000000 in
theorem wayC (a b : Str) (b1 b2 b3 : Nat) (w : World) (h1 : Box w b1 9 (str a)) (h2 : Box w b2 9 (str b)) (h3 : Box w b3 32 (.slice none 0 0)) (hne : b1 ≠ b3 ∧ b2 ≠ b3) :
    Calls Try.prog 60 #[.pointer (some ⟨b1, 0, none⟩), .pointer (some ⟨b2, 0, none⟩), .pointer (some ⟨b3, 0, none⟩)] w
      (RetX (fun _ w' => (∃ (x y : T) (W : List T), a = x.text ∧ b = y.text ∧ x.size ≤ 7 ∧ y.size = x.size ∧ IsWay x y W ∧ ∃ u, Box w' b3 32 u ∧ OwnS w' w.heap.size u (txs W)) ∧ Ch (fun k => k = b3) w w') (fun ch w' => ∃ e, ch = [trb e] ∧ (ErrW a b e ∧ Box w' b3 32 (.slice none 0 0)) ∧ Ch (fun k => k = b3) w w')) := by
  have g1 : rd w (some ⟨b1, 0, none⟩) = some (str a) := Gv.Box.rd h1
  have g2 : rd w (some ⟨b2, 0, none⟩) = some (str b) := Gv.Box.rd h2
  refine calls_of_wcX (args := [.pointer (some ⟨b1, 0, none⟩), .pointer (some ⟨b2, 0, none⟩), .pointer (some ⟨b3, 0, none⟩)]) Try.func60 rfl ?_ ?_; kernel_rfl
  repeat' (first|(refine wlP_plain ?_; (first|refine zA ?_|refine zB ?_|refine zC ?_|refine zD ?_|refine zE ?_|refine zF ?_|refine zG ?_|refine zH ?_|refine zI ?_|refine zJ ?_|refine zK ?_|refine zL ?_|refine zM ?_|refine zN ?_|refine zO ?_|refine zP ?_|refine zQ ?_|refine zR ?_|refine zS ?_))|(refine wlP_run rfl rfl ?_; (first|refine zA ?_|refine zB ?_|refine zC ?_|refine zD ?_|refine zE ?_|refine zF ?_|refine zG ?_|refine zH ?_|refine zI ?_|refine zJ ?_|refine zK ?_|refine zL ?_|refine zM ?_|refine zN ?_|refine zO ?_|refine zP ?_|refine zQ ?_|refine zR ?_|refine zS ?_))|refine wlP_nil ?_|refine wlP_pass rfl rfl rfl ?_|refine wlP_dead rfl rfl ?_|refine wc_regionP ?_|refine zc ?_|refine ze ?_|refine zX ?_|refine zY ?_|refine zv (fun hcd => ?_) (fun hcd => ?_)|refine zk ?_|refine zl ?_|refine zm ?_|refine zn ?_|refine zf ?_|refine zg ?_|refine zj ?_|refine zZ ?_|refine zh ?_|refine zi ?_|refine zo ?_|refine zp ?_|refine zq ?_|refine zr ?_|refine zs ?_)
  (refine wlP_may ?_; refine p_call (R := ?_) (Y := ?_) rfl ?_ ?_ ?_; rotate_left 2; focus exact two_any a b w)
  rotate_left 1
  · rintro ch w1 ⟨hE, herr⟩
    ((repeat' (first|refine thenQ_panic ?_|refine inBl_panic ?_|refine noG_panic ?_)); (refine px_panic ?_))
    rcases herr with ⟨rfl, h⟩ | ⟨rfl, h⟩
    · exact ⟨4, rfl, ⟨.inl (.inl ⟨rfl, h⟩), h3.ext hE⟩, hE.ch⟩
    · exact ⟨2, rfl, ⟨.inl (.inr ⟨rfl, h⟩), h3.ext hE⟩, hE.ch⟩
  rintro v w1 ⟨x, y, rfl, rfl, hx, hy, rfl, hE1⟩
  repeat' (first|(refine wlP_plain ?_; (first|refine zA ?_|refine zB ?_|refine zC ?_|refine zD ?_|refine zE ?_|refine zF ?_|refine zG ?_|refine zH ?_|refine zI ?_|refine zJ ?_|refine zK ?_|refine zL ?_|refine zM ?_|refine zN ?_|refine zO ?_|refine zP ?_|refine zQ ?_|refine zR ?_|refine zS ?_))|(refine wlP_run rfl rfl ?_; (first|refine zA ?_|refine zB ?_|refine zC ?_|refine zD ?_|refine zE ?_|refine zF ?_|refine zG ?_|refine zH ?_|refine zI ?_|refine zJ ?_|refine zK ?_|refine zL ?_|refine zM ?_|refine zN ?_|refine zO ?_|refine zP ?_|refine zQ ?_|refine zR ?_|refine zS ?_))|refine wlP_nil ?_|refine wlP_pass rfl rfl rfl ?_|refine wlP_dead rfl rfl ?_|refine wc_regionP ?_|refine zc ?_|refine ze ?_|refine zX ?_|refine zY ?_|refine zv (fun hcd => ?_) (fun hcd => ?_)|refine zk ?_|refine zl ?_|refine zm ?_|refine zn ?_|refine zf ?_|refine zg ?_|refine zj ?_|refine zZ ?_|refine zh ?_|refine zi ?_|refine zo ?_|refine zp ?_|refine zq ?_|refine zr ?_|refine zs ?_)
  refine wlP_plain ?_
  refine r_size (t := x) (by omega) rfl fun w2 hE2 => ?_
  have hE02 := hE1.trans hE2
  refine wlP_plain ?_
  refine r_leq rfl rfl ?_
  (refine wlP_may ?_; refine p_call (R := ?_) (Y := ?_) rfl ?_ ?_ ?_; rotate_left 2; focus exact demand_any (decide ((x.size : Int) ≤ 7)) 5 w2)
  rotate_left 1
  · rintro ch w' ⟨hd, rfl, rfl⟩
    ((repeat' (first|refine thenQ_panic ?_|refine inBl_panic ?_|refine noG_panic ?_)); (refine px_panic ?_))
    refine ⟨5, rfl, ⟨.inr ⟨rfl, x, y, rfl, rfl, hx, hy, ?_⟩, h3.ext hE02⟩, hE02.ch⟩
    simp only [decide_eq_false_iff_not] at hd
    omega
  rintro v w' ⟨hd, rfl, hw⟩
  subst w'
  simp only [decide_eq_true_eq] at hd
  have hx7 : x.size ≤ 7 := by omega
  refine wlP_nil ?_
  have gx2 := Gv.Box.rd (h1.ext hE02)
  repeat' (first|refine za ?_|refine zA ?_|refine zB ?_|refine zb ?_|refine zc ?_|refine ze ?_|refine zd ?_|refine zC ?_|refine zD ?_|refine zE ?_|refine zF ?_|refine zG ?_|refine zH ?_|refine zI ?_|refine zJ ?_|refine zK ?_|refine zL ?_|refine zM ?_|refine zN ?_|refine zO ?_|refine zP ?_|refine zQ ?_|refine zR ?_|refine zS ?_|refine zU ?_|refine zV ?_|refine zW ?_|refine zt (fun hcd => ?_) (fun hcd => ?_)|refine zu (fun hcd => ?_) (fun hcd => ?_)|refine zX ?_|refine zY ?_|refine zv (fun hcd => ?_) (fun hcd => ?_)|refine zk ?_|refine zl ?_|refine zm ?_|refine zn ?_|refine zf ?_|refine zg ?_|refine zj ?_|refine zZ ?_|refine zh ?_|refine zi ?_|refine zo ?_|refine zp ?_|refine zq ?_|refine zr ?_|refine zs ?_)
  refine r_makeMap encT fun w3 hM3 hE3 hs3 => ?_
  obtain ⟨bm, ebm⟩ : ∃ bm, bm = w2.heap.size := ⟨_, rfl⟩
  rw [← ebm] at hM3 ⊢
  have gx3 := Gv.Box.rd (h1.ext (hE02.trans hE3))
  repeat' (first|refine za ?_|refine zA ?_|refine zB ?_|refine zb ?_|refine zc ?_|refine ze ?_|refine zd ?_|refine zC ?_|refine zD ?_|refine zE ?_|refine zF ?_|refine zG ?_|refine zH ?_|refine zI ?_|refine zJ ?_|refine zK ?_|refine zL ?_|refine zM ?_|refine zN ?_|refine zO ?_|refine zP ?_|refine zQ ?_|refine zR ?_|refine zS ?_|refine zU ?_|refine zV ?_|refine zW ?_|refine zt (fun hcd => ?_) (fun hcd => ?_)|refine zu (fun hcd => ?_) (fun hcd => ?_)|refine zX ?_|refine zY ?_|refine zv (fun hcd => ?_) (fun hcd => ?_)|refine zk ?_|refine zl ?_|refine zm ?_|refine zn ?_|refine zf ?_|refine zg ?_|refine zj ?_|refine zZ ?_|refine zh ?_|refine zi ?_|refine zo ?_|refine zp ?_|refine zq ?_|refine zr ?_|refine zs ?_)
  refine r_insert (k := x.text) (v := str x.text) mp89 kst hM3 rfl rfl rfl fun w4 hM4 hC4 hs4 => ?_
  have hE24 : Ext w2 w4 := Ext.of_one hE3 (ebm ▸ hC4)
  have hE04 := hE02.trans hE24
  have gx4 := Gv.Box.rd (h1.ext hE04)
  have hbm4 : bm + 1 ≤ w4.heap.size := by omega
  have hbw : w.heap.size ≤ bm := by rw [ebm]; exact Ext.size hE02
  repeat' (first|refine za ?_|refine zA ?_|refine zB ?_|refine zb ?_|refine zc ?_|refine ze ?_|refine zd ?_|refine zC ?_|refine zD ?_|refine zE ?_|refine zF ?_|refine zG ?_|refine zH ?_|refine zI ?_|refine zJ ?_|refine zK ?_|refine zL ?_|refine zM ?_|refine zN ?_|refine zO ?_|refine zP ?_|refine zQ ?_|refine zR ?_|refine zS ?_|refine zU ?_|refine zV ?_|refine zW ?_|refine zt (fun hcd => ?_) (fun hcd => ?_)|refine zu (fun hcd => ?_) (fun hcd => ?_)|refine zX ?_|refine zY ?_|refine zv (fun hcd => ?_) (fun hcd => ?_)|refine zk ?_|refine zl ?_|refine zm ?_|refine zn ?_|refine zf ?_|refine zg ?_|refine zj ?_|refine zZ ?_|refine zh ?_|refine zi ?_|refine zo ?_|refine zp ?_|refine zq ?_|refine zr ?_|refine zs ?_)
  refine r_buildS1 (u := str x.text) el32 rfl rfl fun w5 hO5 hE5 hs5 => ?_
  have hE05 := hE04.trans hE5
  repeat' (first|refine za ?_|refine zA ?_|refine zB ?_|refine zb ?_|refine zc ?_|refine ze ?_|refine zd ?_|refine zC ?_|refine zD ?_|refine zE ?_|refine zF ?_|refine zG ?_|refine zH ?_|refine zI ?_|refine zJ ?_|refine zK ?_|refine zL ?_|refine zM ?_|refine zN ?_|refine zO ?_|refine zP ?_|refine zQ ?_|refine zR ?_|refine zS ?_|refine zU ?_|refine zV ?_|refine zW ?_|refine zt (fun hcd => ?_) (fun hcd => ?_)|refine zu (fun hcd => ?_) (fun hcd => ?_)|refine zX ?_|refine zY ?_|refine zv (fun hcd => ?_) (fun hcd => ?_)|refine zk ?_|refine zl ?_|refine zm ?_|refine zn ?_|refine zf ?_|refine zg ?_|refine zj ?_|refine zZ ?_|refine zh ?_|refine zi ?_|refine zo ?_|refine zp ?_|refine zq ?_|refine zr ?_|refine zs ?_)
  refine wc_loop4 [0, 1, 2, 5] (fun (i : Nat) (vq : Value) (Q : List T) (par : T → Option T) => [(7, .int .i64 i), (6, vq)])
    (fun i vq Q par wk => Ext w wk ∧ OwnS wk (bm + 1) vq (txs Q) ∧ (∃ F, MapF encT wk bm F ∧ FP par F) ∧ Bfs x Q par i) (fun i _ _ _ => 1000 - i)
    0 (.slice (some ⟨w4.heap.size, 0, none⟩) 1 1) [x] (fun t => if t = x then some x else none) rfl ⟨rfl, rfl, trivial⟩
    ⟨hE05, OwnS.of (ownsRow_mono (by simpa [Gv.Own] using hO5) (by omega)), ⟨_, MapF.ext hM4 hE5, ?_⟩, bfs_init x⟩ ?_
  · have h0 : FP (fun _ => none) (fun _ => none) := fun t => rfl
    exact h0.set x x
  rintro i vq Q par wk xe ⟨hE, hO, ⟨F, hM, hFP⟩, hB⟩
  have gb := Gv.Box.rd (h2.ext hE)
  obtain ⟨qq, cq, eq_, _⟩ := hO.strs.slice
  subst eq_
  have hlQ : (txs Q).length = Q.length := by simp
  have hQ429 := bfs_len hB hx7
  cases hpy : par y with
  | some py =>
    repeat' (first|refine za ?_|refine zA ?_|refine zB ?_|refine zb ?_|refine zc ?_|refine ze ?_|refine zd ?_|refine zC ?_|refine zD ?_|refine zE ?_|refine zF ?_|refine zG ?_|refine zH ?_|refine zI ?_|refine zJ ?_|refine zK ?_|refine zL ?_|refine zM ?_|refine zN ?_|refine zO ?_|refine zP ?_|refine zQ ?_|refine zR ?_|refine zS ?_|refine zU ?_|refine zV ?_|refine zW ?_|refine zt (fun hcd => ?_) (fun hcd => ?_)|refine zu (fun hcd => ?_) (fun hcd => ?_)|refine zX ?_|refine zY ?_|refine zv (fun hcd => ?_) (fun hcd => ?_)|refine zk ?_|refine zl ?_|refine zm ?_|refine zn ?_|refine zf ?_|refine zg ?_|refine zj ?_|refine zZ ?_|refine zh ?_|refine zi ?_|refine zo ?_|refine zp ?_|refine zq ?_|refine zr ?_|refine zs ?_)
    refine r_lookup (k := y.text) (v := str py.text) mp89 kst hM rfl rfl (hFP.some hpy) ?_
    repeat' (first|refine za ?_|refine zA ?_|refine zB ?_|refine zb ?_|refine zc ?_|refine ze ?_|refine zd ?_|refine zC ?_|refine zD ?_|refine zE ?_|refine zF ?_|refine zG ?_|refine zH ?_|refine zI ?_|refine zJ ?_|refine zK ?_|refine zL ?_|refine zM ?_|refine zN ?_|refine zO ?_|refine zP ?_|refine zQ ?_|refine zR ?_|refine zS ?_|refine zU ?_|refine zV ?_|refine zW ?_|refine zt (fun hcd => ?_) (fun hcd => ?_)|refine zu (fun hcd => ?_) (fun hcd => ?_)|refine zX ?_|refine zY ?_|refine zv (fun hcd => ?_) (fun hcd => ?_)|refine zk ?_|refine zl ?_|refine zm ?_|refine zn ?_|refine zf ?_|refine zg ?_|refine zj ?_|refine zZ ?_|refine zh ?_|refine zi ?_|refine zo ?_|refine zp ?_|refine zq ?_|refine zr ?_|refine zs ?_)
    refine r_seql_v (a := py.text) (b := []) (c := false) rfl rfl (decide_eq_false py.text_ne) ?_
    have hyQ : y ∈ Q := (hB.mem y).2 (by rw [hpy]; rfl)
    have hEq := hE
    have hb3 := h3.ext hE
    repeat' (first|refine za ?_|refine zA ?_|refine zB ?_|refine zb ?_|refine zc ?_|refine ze ?_|refine zd ?_|refine zC ?_|refine zD ?_|refine zE ?_|refine zF ?_|refine zG ?_|refine zH ?_|refine zI ?_|refine zJ ?_|refine zK ?_|refine zL ?_|refine zM ?_|refine zN ?_|refine zO ?_|refine zP ?_|refine zQ ?_|refine zR ?_|refine zS ?_|refine zU ?_|refine zV ?_|refine zW ?_|refine zt (fun hcd => ?_) (fun hcd => ?_)|refine zu (fun hcd => ?_) (fun hcd => ?_)|refine zX ?_|refine zY ?_|refine zv (fun hcd => ?_) (fun hcd => ?_)|refine zk ?_|refine zl ?_|refine zm ?_|refine zn ?_|refine zf ?_|refine zg ?_|refine zj ?_|refine zZ ?_|refine zh ?_|refine zi ?_|refine zo ?_|refine zp ?_|refine zq ?_|refine zr ?_|refine zs ?_)
    refine wc_loop3 [0, 1, 2, 5] (fun (t : T) (r : List T) (vo : Value) => [(11, str t.text)])
      (fun t r vo wl => chA t r y ∧ r.length + dist x t = dist x y ∧ t ∈ Q ∧ Ch (fun k => k = b3 ∨ wk.heap.size ≤ k) wk wl ∧ Box wl b3 32 vo ∧ OwnS wl wk.heap.size vo (txs r.reverse)) (fun t _ _ => dist x t)
      y [] (.slice none 0 0) rfl ⟨rfl, trivial⟩ ⟨rfl, by simp, hyQ, Ch.refl _ _, hb3, World.ownsRow_nil _ _ _ _⟩ ?_
    rintro t r vo wl xf ⟨hch, hlen, htQ, hC, hBo, hOo⟩
    have hbs3 : b3 < wk.heap.size := hb3.lt
    have hn1 : ¬ (b1 = b3 ∨ wk.heap.size ≤ b1) := by have := (h1.ext hE).lt; omega
    have hnm : ¬ (bm = b3 ∨ wk.heap.size ≤ bm) := by have := MapF.lt hM; have := h3.lt; omega
    have ga := Gv.Box.rd ((h1.ext hE).keep hC hn1)
    have go := Gv.Box.rd hBo
    have hMl := MapF.keep hM hC hnm
    have hts := hB.sz t htQ
    have hdb := dist_bnd (x := x) (y := y) hy.symm
    obtain ⟨qo, co, eo, _⟩ := hOo.strs.slice
    subst eo
    have hrl : (txs r.reverse).length = r.length := by simp
    have one : (Value.slice qo (txs r.reverse).length co).oneCell' = true := rfl
    by_cases htx : t = x
    · subst htx
      repeat' (first|refine za ?_|refine zA ?_|refine zB ?_|refine zb ?_|refine zc ?_|refine ze ?_|refine zd ?_|refine zC ?_|refine zD ?_|refine zE ?_|refine zF ?_|refine zG ?_|refine zH ?_|refine zI ?_|refine zJ ?_|refine zK ?_|refine zL ?_|refine zM ?_|refine zN ?_|refine zO ?_|refine zP ?_|refine zQ ?_|refine zR ?_|refine zS ?_|refine zU ?_|refine zV ?_|refine zW ?_|refine zt (fun hcd => ?_) (fun hcd => ?_)|refine zu (fun hcd => ?_) (fun hcd => ?_)|refine zX ?_|refine zY ?_|refine zv (fun hcd => ?_) (fun hcd => ?_)|refine zk ?_|refine zl ?_|refine zm ?_|refine zn ?_|refine zf ?_|refine zg ?_|refine zj ?_|refine zZ ?_|refine zh ?_|refine zi ?_|refine zo ?_|refine zp ?_|refine zq ?_|refine zr ?_|refine zs ?_)
      refine r_sneq_v (a := t.text) (b := t.text) (c := false) rfl rfl (by simp) ?_
      repeat' (first|refine za ?_|refine zA ?_|refine zB ?_|refine zb ?_|refine zc ?_|refine ze ?_|refine zd ?_|refine zC ?_|refine zD ?_|refine zE ?_|refine zF ?_|refine zG ?_|refine zH ?_|refine zI ?_|refine zJ ?_|refine zK ?_|refine zL ?_|refine zM ?_|refine zN ?_|refine zO ?_|refine zP ?_|refine zQ ?_|refine zR ?_|refine zS ?_|refine zU ?_|refine zV ?_|refine zW ?_|refine zt (fun hcd => ?_) (fun hcd => ?_)|refine zu (fun hcd => ?_) (fun hcd => ?_)|refine zX ?_|refine zY ?_|refine zv (fun hcd => ?_) (fun hcd => ?_)|refine zk ?_|refine zl ?_|refine zm ?_|refine zn ?_|refine zf ?_|refine zg ?_|refine zj ?_|refine zZ ?_|refine zh ?_|refine zi ?_|refine zo ?_|refine zp ?_|refine zq ?_|refine zr ?_|refine zs ?_)
      refine r_append1_v (u := str t.text) (base := wk.heap.size) el32 rfl (by decide) hOo.own rfl rfl rfl (by simp only [strs_len]; omega) hC.size ?_
      intro v9 w9 q9 hO9 hg9 _ hb9
      have hC9 : Ch (fun k => k = b3 ∨ wk.heap.size ≤ k) wl w9 := Ch.grown hg9 fun g hg => .inr (World.ownsRow.lt hOo g hg).1
      have hB9 := hBo.keep (Ch.grown (S := fun k => wk.heap.size ≤ k) hg9 fun g hg => (World.ownsRow.lt hOo g hg).1) (by omega)
      have hO9' : OwnS w9 wk.heap.size v9 (txs r.reverse ++ [t.text]) := OwnS.of (by simpa using hO9)
      obtain ⟨q10, c10, e10, _⟩ := hO9'.strs.slice
      subst e10
      repeat' (first|refine za ?_|refine zA ?_|refine zB ?_|refine zb ?_|refine zc ?_|refine ze ?_|refine zd ?_|refine zC ?_|refine zD ?_|refine zE ?_|refine zF ?_|refine zG ?_|refine zH ?_|refine zI ?_|refine zJ ?_|refine zK ?_|refine zL ?_|refine zM ?_|refine zN ?_|refine zO ?_|refine zP ?_|refine zQ ?_|refine zR ?_|refine zS ?_|refine zU ?_|refine zV ?_|refine zW ?_|refine zt (fun hcd => ?_) (fun hcd => ?_)|refine zu (fun hcd => ?_) (fun hcd => ?_)|refine zX ?_|refine zY ?_|refine zv (fun hcd => ?_) (fun hcd => ?_)|refine zk ?_|refine zl ?_|refine zm ?_|refine zn ?_|refine zf ?_|refine zg ?_|refine zj ?_|refine zZ ?_|refine zh ?_|refine zi ?_|refine zo ?_|refine zp ?_|refine zq ?_|refine zr ?_|refine zs ?_)
      refine r_st_box (by kernel_rfl) hB9 rfl rfl rfl fun w11 hB11 hC11 hs11 => ?_
      have g11 := Gv.Box.rd hB11
      have hO11 := ownsRow_keep hO9' hC11 fun g hg e => by
        have := (World.ownsRow.lt hO9' g hg).1
        omega
      have hC011 : Ch (fun k => k = b3 ∨ wk.heap.size ≤ k) wk w11 := (hC.trans hC9).trans (Ch.mono hC11 fun k _ e => .inl e)
      repeat' (first|refine za ?_|refine zA ?_|refine zB ?_|refine zb ?_|refine zc ?_|refine ze ?_|refine zd ?_|refine zC ?_|refine zD ?_|refine zE ?_|refine zF ?_|refine zG ?_|refine zH ?_|refine zI ?_|refine zJ ?_|refine zK ?_|refine zL ?_|refine zM ?_|refine zN ?_|refine zO ?_|refine zP ?_|refine zQ ?_|refine zR ?_|refine zS ?_|refine zU ?_|refine zV ?_|refine zW ?_|refine zt (fun hcd => ?_) (fun hcd => ?_)|refine zu (fun hcd => ?_) (fun hcd => ?_)|refine zX ?_|refine zY ?_|refine zv (fun hcd => ?_) (fun hcd => ?_)|refine zk ?_|refine zl ?_|refine zm ?_|refine zn ?_|refine zf ?_|refine zg ?_|refine zj ?_|refine zZ ?_|refine zh ?_|refine zi ?_|refine zo ?_|refine zp ?_|refine zq ?_|refine zr ?_|refine zs ?_)
      (refine r_call (R := ?_) rfl ?_ ?_; rotate_left 1; focus exact reverse_any _ _ w11 wk.heap.size hO11 (by simp only [List.length_append, List.length_singleton]; omega))
      rintro v12 w12 ⟨rfl, hO12, hC12⟩
      have hC012 : Ch (fun k => k = b3 ∨ wk.heap.size ≤ k) wk w12 := hC011.trans (Ch.mono hC12 fun g _ hg => .inr (World.ownsRow.lt hO11 g hg).1)
      have hB12 := hB11.keep hC12 fun hg => by have := (World.ownsRow.lt hO11 _ hg).1; omega
      repeat' (first|refine za ?_|refine zA ?_|refine zB ?_|refine zb ?_|refine zc ?_|refine ze ?_|refine zd ?_|refine zC ?_|refine zD ?_|refine zE ?_|refine zF ?_|refine zG ?_|refine zH ?_|refine zI ?_|refine zJ ?_|refine zK ?_|refine zL ?_|refine zM ?_|refine zN ?_|refine zO ?_|refine zP ?_|refine zQ ?_|refine zR ?_|refine zS ?_|refine zU ?_|refine zV ?_|refine zW ?_|refine zt (fun hcd => ?_) (fun hcd => ?_)|refine zu (fun hcd => ?_) (fun hcd => ?_)|refine zX ?_|refine zY ?_|refine zv (fun hcd => ?_) (fun hcd => ?_)|refine zk ?_|refine zl ?_|refine zm ?_|refine zn ?_|refine zf ?_|refine zg ?_|refine zj ?_|refine zZ ?_|refine zh ?_|refine zi ?_|refine zo ?_|refine zp ?_|refine zq ?_|refine zr ?_|refine zs ?_)
      refine px_normal (post0n rfl ?_)
      have hrev : (txs r.reverse ++ [t.text]).reverse = txs (t :: r) := by simp [txs, List.map_reverse]
      rw [hrev] at hO12
      refine ⟨⟨t, y, t :: r, rfl, rfl, hx7, hy, chA_way hch (by rw [dist_self] at hlen; omega), _, hB12, ownsRow_mono hO12 (Ext.size hE)⟩, ?_⟩
      exact Ch.trans' hE.ch hC012 fun k hk e => by
        have := Ext.size hE
        omega
    · obtain ⟨p, hp⟩ := Option.isSome_iff_exists.1 ((hB.mem t).1 htQ)
      obtain ⟨hpa, hpd, hpQ⟩ := hB.pr t p hp htx
      repeat' (first|refine za ?_|refine zA ?_|refine zB ?_|refine zb ?_|refine zc ?_|refine ze ?_|refine zd ?_|refine zC ?_|refine zD ?_|refine zE ?_|refine zF ?_|refine zG ?_|refine zH ?_|refine zI ?_|refine zJ ?_|refine zK ?_|refine zL ?_|refine zM ?_|refine zN ?_|refine zO ?_|refine zP ?_|refine zQ ?_|refine zR ?_|refine zS ?_|refine zU ?_|refine zV ?_|refine zW ?_|refine zt (fun hcd => ?_) (fun hcd => ?_)|refine zu (fun hcd => ?_) (fun hcd => ?_)|refine zX ?_|refine zY ?_|refine zv (fun hcd => ?_) (fun hcd => ?_)|refine zk ?_|refine zl ?_|refine zm ?_|refine zn ?_|refine zf ?_|refine zg ?_|refine zj ?_|refine zZ ?_|refine zh ?_|refine zi ?_|refine zo ?_|refine zp ?_|refine zq ?_|refine zr ?_|refine zs ?_)
      refine r_sneq_v (a := t.text) (b := x.text) (c := true) rfl rfl (decide_eq_true fun e => htx (text_inj e)) ?_
      repeat' (first|refine za ?_|refine zA ?_|refine zB ?_|refine zb ?_|refine zc ?_|refine ze ?_|refine zd ?_|refine zC ?_|refine zD ?_|refine zE ?_|refine zF ?_|refine zG ?_|refine zH ?_|refine zI ?_|refine zJ ?_|refine zK ?_|refine zL ?_|refine zM ?_|refine zN ?_|refine zO ?_|refine zP ?_|refine zQ ?_|refine zR ?_|refine zS ?_|refine zU ?_|refine zV ?_|refine zW ?_|refine zt (fun hcd => ?_) (fun hcd => ?_)|refine zu (fun hcd => ?_) (fun hcd => ?_)|refine zX ?_|refine zY ?_|refine zv (fun hcd => ?_) (fun hcd => ?_)|refine zk ?_|refine zl ?_|refine zm ?_|refine zn ?_|refine zf ?_|refine zg ?_|refine zj ?_|refine zZ ?_|refine zh ?_|refine zi ?_|refine zo ?_|refine zp ?_|refine zq ?_|refine zr ?_|refine zs ?_)
      refine r_append1_v (u := str t.text) (base := wk.heap.size) el32 rfl (by decide) hOo.own rfl rfl rfl (by simp only [strs_len]; omega) hC.size ?_
      intro v9 w9 q9 hO9 hg9 _ hb9
      have hC9 : Ch (fun k => k = b3 ∨ wk.heap.size ≤ k) wl w9 := Ch.grown hg9 fun g hg => .inr (World.ownsRow.lt hOo g hg).1
      have hB9 := hBo.keep (Ch.grown (S := fun k => wk.heap.size ≤ k) hg9 fun g hg => (World.ownsRow.lt hOo g hg).1) (by omega)
      have hO9' : OwnS w9 wk.heap.size v9 (txs r.reverse ++ [t.text]) := OwnS.of (by simpa using hO9)
      obtain ⟨q10, c10, e10, _⟩ := hO9'.strs.slice
      subst e10
      repeat' (first|refine za ?_|refine zA ?_|refine zB ?_|refine zb ?_|refine zc ?_|refine ze ?_|refine zd ?_|refine zC ?_|refine zD ?_|refine zE ?_|refine zF ?_|refine zG ?_|refine zH ?_|refine zI ?_|refine zJ ?_|refine zK ?_|refine zL ?_|refine zM ?_|refine zN ?_|refine zO ?_|refine zP ?_|refine zQ ?_|refine zR ?_|refine zS ?_|refine zU ?_|refine zV ?_|refine zW ?_|refine zt (fun hcd => ?_) (fun hcd => ?_)|refine zu (fun hcd => ?_) (fun hcd => ?_)|refine zX ?_|refine zY ?_|refine zv (fun hcd => ?_) (fun hcd => ?_)|refine zk ?_|refine zl ?_|refine zm ?_|refine zn ?_|refine zf ?_|refine zg ?_|refine zj ?_|refine zZ ?_|refine zh ?_|refine zi ?_|refine zo ?_|refine zp ?_|refine zq ?_|refine zr ?_|refine zs ?_)
      refine r_st_box (by kernel_rfl) hB9 rfl rfl rfl fun w11 hB11 hC11 hs11 => ?_
      have hO11 := ownsRow_keep hO9' hC11 fun g hg e => by
        have := (World.ownsRow.lt hO9' g hg).1
        omega
      have hC011 : Ch (fun k => k = b3 ∨ wk.heap.size ≤ k) wk w11 := (hC.trans hC9).trans (Ch.mono hC11 fun k _ e => .inl e)
      have hM11 := MapF.keep hM hC011 hnm
      repeat' (first|refine za ?_|refine zA ?_|refine zB ?_|refine zb ?_|refine zc ?_|refine ze ?_|refine zd ?_|refine zC ?_|refine zD ?_|refine zE ?_|refine zF ?_|refine zG ?_|refine zH ?_|refine zI ?_|refine zJ ?_|refine zK ?_|refine zL ?_|refine zM ?_|refine zN ?_|refine zO ?_|refine zP ?_|refine zQ ?_|refine zR ?_|refine zS ?_|refine zU ?_|refine zV ?_|refine zW ?_|refine zt (fun hcd => ?_) (fun hcd => ?_)|refine zu (fun hcd => ?_) (fun hcd => ?_)|refine zX ?_|refine zY ?_|refine zv (fun hcd => ?_) (fun hcd => ?_)|refine zk ?_|refine zl ?_|refine zm ?_|refine zn ?_|refine zf ?_|refine zg ?_|refine zj ?_|refine zZ ?_|refine zh ?_|refine zi ?_|refine zo ?_|refine zp ?_|refine zq ?_|refine zr ?_|refine zs ?_)
      refine r_lookup (k := t.text) (v := str p.text) mp89 kst hM11 rfl rfl (hFP.some hp) ?_
      repeat' (first|refine za ?_|refine zA ?_|refine zB ?_|refine zb ?_|refine zc ?_|refine ze ?_|refine zd ?_|refine zC ?_|refine zD ?_|refine zE ?_|refine zF ?_|refine zG ?_|refine zH ?_|refine zI ?_|refine zJ ?_|refine zK ?_|refine zL ?_|refine zM ?_|refine zN ?_|refine zO ?_|refine zP ?_|refine zQ ?_|refine zR ?_|refine zS ?_|refine zU ?_|refine zV ?_|refine zW ?_|refine zt (fun hcd => ?_) (fun hcd => ?_)|refine zu (fun hcd => ?_) (fun hcd => ?_)|refine zX ?_|refine zY ?_|refine zv (fun hcd => ?_) (fun hcd => ?_)|refine zk ?_|refine zl ?_|refine zm ?_|refine zn ?_|refine zf ?_|refine zg ?_|refine zj ?_|refine zZ ?_|refine zh ?_|refine zi ?_|refine zo ?_|refine zp ?_|refine zq ?_|refine zr ?_|refine zs ?_)
      refine ⟨p, t :: r, _, ⟨rfl, trivial⟩, ⟨⟨hpa, hch⟩, by simp only [List.length_cons]; omega, hpQ, hC011, hB11, ?_⟩, by omega⟩
      have : txs (t :: r).reverse = txs r.reverse ++ [t.text] := by simp [txs]
      rw [this]; exact hO11
  | none =>
    have hyQ : y ∉ Q := fun h => by have := (hB.mem y).1 h; rw [hpy] at this; cases this
    have hiQ := bfs_room hB hy hyQ
    obtain ⟨c, hc⟩ : ∃ c, Q[i]? = some c := ⟨Q[i], List.getElem?_eq_getElem hiQ⟩
    have hcm : c ∈ Q := List.mem_of_getElem? hc
    have hcs := hB.sz c hcm
    have hps := hO.strs.isSome (by omega)
    have hrq := strs_get0 hO.strs (by omega : i < (txs Q).length) (j := (i : Int)) rfl
    rw [txs_get hc] at hrq
    repeat' (first|refine za ?_|refine zA ?_|refine zB ?_|refine zb ?_|refine zc ?_|refine ze ?_|refine zd ?_|refine zC ?_|refine zD ?_|refine zE ?_|refine zF ?_|refine zG ?_|refine zH ?_|refine zI ?_|refine zJ ?_|refine zK ?_|refine zL ?_|refine zM ?_|refine zN ?_|refine zO ?_|refine zP ?_|refine zQ ?_|refine zR ?_|refine zS ?_|refine zU ?_|refine zV ?_|refine zW ?_|refine zt (fun hcd => ?_) (fun hcd => ?_)|refine zu (fun hcd => ?_) (fun hcd => ?_)|refine zX ?_|refine zY ?_|refine zv (fun hcd => ?_) (fun hcd => ?_)|refine zk ?_|refine zl ?_|refine zm ?_|refine zn ?_|refine zf ?_|refine zg ?_|refine zj ?_|refine zZ ?_|refine zh ?_|refine zi ?_|refine zo ?_|refine zp ?_|refine zq ?_|refine zr ?_|refine zs ?_)
    refine r_lookup (k := y.text) (v := str []) mp89 kst hM rfl rfl (hFP.none hpy) ?_
    repeat' (first|refine za ?_|refine zA ?_|refine zB ?_|refine zb ?_|refine zc ?_|refine ze ?_|refine zd ?_|refine zC ?_|refine zD ?_|refine zE ?_|refine zF ?_|refine zG ?_|refine zH ?_|refine zI ?_|refine zJ ?_|refine zK ?_|refine zL ?_|refine zM ?_|refine zN ?_|refine zO ?_|refine zP ?_|refine zQ ?_|refine zR ?_|refine zS ?_|refine zU ?_|refine zV ?_|refine zW ?_|refine zt (fun hcd => ?_) (fun hcd => ?_)|refine zu (fun hcd => ?_) (fun hcd => ?_)|refine zX ?_|refine zY ?_|refine zv (fun hcd => ?_) (fun hcd => ?_)|refine zk ?_|refine zl ?_|refine zm ?_|refine zn ?_|refine zf ?_|refine zg ?_|refine zj ?_|refine zZ ?_|refine zh ?_|refine zi ?_|refine zo ?_|refine zp ?_|refine zq ?_|refine zr ?_|refine zs ?_)
    refine r_seql_v (a := []) (b := []) (c := true) rfl rfl (by rfl) ?_
    repeat' (first|refine za ?_|refine zA ?_|refine zB ?_|refine zb ?_|refine zc ?_|refine ze ?_|refine zd ?_|refine zC ?_|refine zD ?_|refine zE ?_|refine zF ?_|refine zG ?_|refine zH ?_|refine zI ?_|refine zJ ?_|refine zK ?_|refine zL ?_|refine zM ?_|refine zN ?_|refine zO ?_|refine zP ?_|refine zQ ?_|refine zR ?_|refine zS ?_|refine zU ?_|refine zV ?_|refine zW ?_|refine zt (fun hcd => ?_) (fun hcd => ?_)|refine zu (fun hcd => ?_) (fun hcd => ?_)|refine zX ?_|refine zY ?_|refine zv (fun hcd => ?_) (fun hcd => ?_)|refine zk ?_|refine zl ?_|refine zm ?_|refine zn ?_|refine zf ?_|refine zg ?_|refine zj ?_|refine zZ ?_|refine zh ?_|refine zi ?_|refine zo ?_|refine zp ?_|refine zq ?_|refine zr ?_|refine zs ?_)
    (refine r_call (R := ?_) rfl ?_ ?_; rotate_left 1; focus exact read_ok c wk (by omega))
    rintro v6 w6 ⟨rfl, hE6⟩
    repeat' (first|refine za ?_|refine zA ?_|refine zB ?_|refine zb ?_|refine zc ?_|refine ze ?_|refine zd ?_|refine zC ?_|refine zD ?_|refine zE ?_|refine zF ?_|refine zG ?_|refine zH ?_|refine zI ?_|refine zJ ?_|refine zK ?_|refine zL ?_|refine zM ?_|refine zN ?_|refine zO ?_|refine zP ?_|refine zQ ?_|refine zR ?_|refine zS ?_|refine zU ?_|refine zV ?_|refine zW ?_|refine zt (fun hcd => ?_) (fun hcd => ?_)|refine zu (fun hcd => ?_) (fun hcd => ?_)|refine zX ?_|refine zY ?_|refine zv (fun hcd => ?_) (fun hcd => ?_)|refine zk ?_|refine zl ?_|refine zm ?_|refine zn ?_|refine zf ?_|refine zg ?_|refine zj ?_|refine zZ ?_|refine zh ?_|refine zi ?_|refine zo ?_|refine zp ?_|refine zq ?_|refine zr ?_|refine zs ?_)
    (refine r_call (R := ?_) rfl ?_ ?_; rotate_left 1; focus exact turnedN_any c true w6 (by omega))
    rintro v7 w7 ⟨hO7, hE7⟩
    obtain ⟨q7, c7, e7, _⟩ := hO7.strs.slice
    subst e7
    repeat' (first|refine za ?_|refine zA ?_|refine zB ?_|refine zb ?_|refine zc ?_|refine ze ?_|refine zd ?_|refine zC ?_|refine zD ?_|refine zE ?_|refine zF ?_|refine zG ?_|refine zH ?_|refine zI ?_|refine zJ ?_|refine zK ?_|refine zL ?_|refine zM ?_|refine zN ?_|refine zO ?_|refine zP ?_|refine zQ ?_|refine zR ?_|refine zS ?_|refine zU ?_|refine zV ?_|refine zW ?_|refine zt (fun hcd => ?_) (fun hcd => ?_)|refine zu (fun hcd => ?_) (fun hcd => ?_)|refine zX ?_|refine zY ?_|refine zv (fun hcd => ?_) (fun hcd => ?_)|refine zk ?_|refine zl ?_|refine zm ?_|refine zn ?_|refine zf ?_|refine zg ?_|refine zj ?_|refine zZ ?_|refine zh ?_|refine zi ?_|refine zo ?_|refine zp ?_|refine zq ?_|refine zr ?_|refine zs ?_)
    (refine r_call (R := ?_) rfl ?_ ?_; rotate_left 1; focus exact turnedN_any c false w7 (by omega))
    rintro v8 w8 ⟨hO8, hE8⟩
    obtain ⟨q8, c8, e8, _⟩ := hO8.strs.slice
    subst e8
    have hAl := nbS_len (b := true) (by omega : c.size ≤ 10)
    have hBl := nbS_len (b := false) (by omega : c.size ≤ 10)
    repeat' (first|refine za ?_|refine zA ?_|refine zB ?_|refine zb ?_|refine zc ?_|refine ze ?_|refine zd ?_|refine zC ?_|refine zD ?_|refine zE ?_|refine zF ?_|refine zG ?_|refine zH ?_|refine zI ?_|refine zJ ?_|refine zK ?_|refine zL ?_|refine zM ?_|refine zN ?_|refine zO ?_|refine zP ?_|refine zQ ?_|refine zR ?_|refine zS ?_|refine zU ?_|refine zV ?_|refine zW ?_|refine zt (fun hcd => ?_) (fun hcd => ?_)|refine zu (fun hcd => ?_) (fun hcd => ?_)|refine zX ?_|refine zY ?_|refine zv (fun hcd => ?_) (fun hcd => ?_)|refine zk ?_|refine zl ?_|refine zm ?_|refine zn ?_|refine zf ?_|refine zg ?_|refine zj ?_|refine zZ ?_|refine zh ?_|refine zi ?_|refine zo ?_|refine zp ?_|refine zq ?_|refine zr ?_|refine zs ?_)
    refine r_buildV2 (u1 := .slice q7 (nbS c true).length c7) (u2 := .slice q8 (nbS c false).length c8) el104 rfl rfl rfl rfl fun w9 hO9 hE9 hs9 => ?_
    have hE69 : Ext wk w9 := hE6.trans (hE7.trans (hE8.trans hE9))
    have hflat : [strs (nbS c true), strs (nbS c false)].flatten = strs (nbs c) := by simp [strs, nbs]
    have hNl : (nbs c).length ≤ 20 := by unfold nbs; rw [List.length_append]; omega
    have hT9 : TabV w9 (.slice (some ⟨w8.heap.size, 0, none⟩) 2 2) [strs (nbS c true), strs (nbS c false)] := by
      refine ⟨_, by simpa using Gv.Own.sl hO9, ?_⟩
      intro j hj
      have : j < 2 := hj
      rcases j with _ | _ | j
      · exact ⟨_, rfl, by have := (hO7.strs.ext (hE8.trans hE9)); unfold Strs at this; rw [← strs_len (nbS c true)] at this; simpa using this⟩
      · exact ⟨_, rfl, by have := (hO8.strs.ext hE9); unfold Strs at this; rw [← strs_len (nbS c false)] at this; simpa using this⟩
      · omega
    repeat' (first|refine za ?_|refine zA ?_|refine zB ?_|refine zb ?_|refine zc ?_|refine ze ?_|refine zd ?_|refine zC ?_|refine zD ?_|refine zE ?_|refine zF ?_|refine zG ?_|refine zH ?_|refine zI ?_|refine zJ ?_|refine zK ?_|refine zL ?_|refine zM ?_|refine zN ?_|refine zO ?_|refine zP ?_|refine zQ ?_|refine zR ?_|refine zS ?_|refine zU ?_|refine zV ?_|refine zW ?_|refine zt (fun hcd => ?_) (fun hcd => ?_)|refine zu (fun hcd => ?_) (fun hcd => ?_)|refine zX ?_|refine zY ?_|refine zv (fun hcd => ?_) (fun hcd => ?_)|refine zk ?_|refine zl ?_|refine zm ?_|refine zn ?_|refine zf ?_|refine zg ?_|refine zj ?_|refine zZ ?_|refine zh ?_|refine zi ?_|refine zo ?_|refine zp ?_|refine zq ?_|refine zr ?_|refine zs ?_)
    (refine r_call (R := ?_) rfl ?_ ?_; rotate_left 1; focus exact concatS_any _ _ w9 hT9 (by rw [hflat]; exact strs_one _) (by simp) (by rw [hflat, strs_len]; omega))
    rintro v10 w10 ⟨hO10, hE10⟩
    rw [hflat] at hO10
    have hO10' := OwnS.of hO10
    obtain ⟨q10, c10, e10, _⟩ := hO10'.strs.slice
    subst e10
    have hE110 : Ext wk w10 := hE69.trans hE10
    have hEk10 : Ext w w10 := hE.trans hE110
    have hS10 := hO10'.strs
    have hbmk : bm + 1 ≤ wk.heap.size := MapF.lt hM
    repeat' (first|refine za ?_|refine zA ?_|refine zB ?_|refine zb ?_|refine zc ?_|refine ze ?_|refine zd ?_|refine zC ?_|refine zD ?_|refine zE ?_|refine zF ?_|refine zG ?_|refine zH ?_|refine zI ?_|refine zJ ?_|refine zK ?_|refine zL ?_|refine zM ?_|refine zN ?_|refine zO ?_|refine zP ?_|refine zQ ?_|refine zR ?_|refine zS ?_|refine zU ?_|refine zV ?_|refine zW ?_|refine zt (fun hcd => ?_) (fun hcd => ?_)|refine zu (fun hcd => ?_) (fun hcd => ?_)|refine zX ?_|refine zY ?_|refine zv (fun hcd => ?_) (fun hcd => ?_)|refine zk ?_|refine zl ?_|refine zm ?_|refine zn ?_|refine zf ?_|refine zg ?_|refine zj ?_|refine zZ ?_|refine zh ?_|refine zi ?_|refine zo ?_|refine zp ?_|refine zq ?_|refine zr ?_|refine zs ?_)
    refine wc_loop4 [0, 1, 2, 5, 7, 44, 45] (fun (j : Nat) (vq : Value) (Q : List T) (par : T → Option T) => [(46, .int .i64 j), (6, vq)])
      (fun j vq Q par wl => j ≤ (nbs c).length ∧ Ext w wl ∧ OwnS wl (bm + 1) vq (txs Q) ∧ (∃ F, MapF encT wl bm F ∧ FP par F) ∧ Bfs x Q par i ∧ Q[i]? = some c ∧ Strs wl (.slice q10 (nbs c).length c10) (nbs c) ∧ w10.heap.size ≤ wl.heap.size ∧ (∀ g, vq.ownBlock = some g → g < wk.heap.size ∨ w10.heap.size ≤ g) ∧ ∀ j' z, j' < j → (nbs c).getD j' [] = z.text → z ∈ Q) (fun j _ _ _ => (nbs c).length - j)
      0 _ Q par rfl ⟨rfl, rfl, trivial⟩ ⟨by omega, hEk10, hO.ext hE110, ⟨F, MapF.ext hM hE110, hFP⟩, hB, hc, hS10, Nat.le_refl _, fun g hg => .inl (World.ownsRow.lt hO g hg).2, fun j' z h => by omega⟩ ?_
    rintro j vq' Q' par' wl xf ⟨hj, hEl, hOl, ⟨F', hMl, hFPl⟩, hBl', hcl, hSl, hsz, hvb, hall⟩
    obtain ⟨qq', cq', eq', _⟩ := hOl.strs.slice
    subst eq'
    have hlQ' : (txs Q').length = Q'.length := by simp
    have hQ429' := bfs_len hBl' hx7
    by_cases hjN : j < (nbs c).length
    · have hpN := hSl.isSome (by omega)
      have hrN := strs_get0 hSl hjN (j := (j : Int)) rfl
      obtain ⟨z, hz, ez⟩ := nbs_mem.1 (getD_memS hjN)
      rw [ez] at hrN
      cases hpz : par' z with
      | some pz =>
        have hzQ : z ∈ Q' := (hBl'.mem z).2 (by rw [hpz]; rfl)
        repeat' (first|refine za ?_|refine zA ?_|refine zB ?_|refine zb ?_|refine zc ?_|refine ze ?_|refine zd ?_|refine zC ?_|refine zD ?_|refine zE ?_|refine zF ?_|refine zG ?_|refine zH ?_|refine zI ?_|refine zJ ?_|refine zK ?_|refine zL ?_|refine zM ?_|refine zN ?_|refine zO ?_|refine zP ?_|refine zQ ?_|refine zR ?_|refine zS ?_|refine zU ?_|refine zV ?_|refine zW ?_|refine zt (fun hcd => ?_) (fun hcd => ?_)|refine zu (fun hcd => ?_) (fun hcd => ?_)|refine zX ?_|refine zY ?_|refine zv (fun hcd => ?_) (fun hcd => ?_)|refine zk ?_|refine zl ?_|refine zm ?_|refine zn ?_|refine zf ?_|refine zg ?_|refine zj ?_|refine zZ ?_|refine zh ?_|refine zi ?_|refine zo ?_|refine zp ?_|refine zq ?_|refine zr ?_|refine zs ?_)
        refine r_lookup (k := z.text) (v := str pz.text) mp89 kst hMl rfl rfl (hFPl.some hpz) ?_
        repeat' (first|refine za ?_|refine zA ?_|refine zB ?_|refine zb ?_|refine zc ?_|refine ze ?_|refine zd ?_|refine zC ?_|refine zD ?_|refine zE ?_|refine zF ?_|refine zG ?_|refine zH ?_|refine zI ?_|refine zJ ?_|refine zK ?_|refine zL ?_|refine zM ?_|refine zN ?_|refine zO ?_|refine zP ?_|refine zQ ?_|refine zR ?_|refine zS ?_|refine zU ?_|refine zV ?_|refine zW ?_|refine zt (fun hcd => ?_) (fun hcd => ?_)|refine zu (fun hcd => ?_) (fun hcd => ?_)|refine zX ?_|refine zY ?_|refine zv (fun hcd => ?_) (fun hcd => ?_)|refine zk ?_|refine zl ?_|refine zm ?_|refine zn ?_|refine zf ?_|refine zg ?_|refine zj ?_|refine zZ ?_|refine zh ?_|refine zi ?_|refine zo ?_|refine zp ?_|refine zq ?_|refine zr ?_|refine zs ?_)
        refine r_seql_v (a := pz.text) (b := []) (c := false) rfl rfl (decide_eq_false pz.text_ne) ?_
        repeat' (first|refine za ?_|refine zA ?_|refine zB ?_|refine zb ?_|refine zc ?_|refine ze ?_|refine zd ?_|refine zC ?_|refine zD ?_|refine zE ?_|refine zF ?_|refine zG ?_|refine zH ?_|refine zI ?_|refine zJ ?_|refine zK ?_|refine zL ?_|refine zM ?_|refine zN ?_|refine zO ?_|refine zP ?_|refine zQ ?_|refine zR ?_|refine zS ?_|refine zU ?_|refine zV ?_|refine zW ?_|refine zt (fun hcd => ?_) (fun hcd => ?_)|refine zu (fun hcd => ?_) (fun hcd => ?_)|refine zX ?_|refine zY ?_|refine zv (fun hcd => ?_) (fun hcd => ?_)|refine zk ?_|refine zl ?_|refine zm ?_|refine zn ?_|refine zf ?_|refine zg ?_|refine zj ?_|refine zZ ?_|refine zh ?_|refine zi ?_|refine zo ?_|refine zp ?_|refine zq ?_|refine zr ?_|refine zs ?_)
        refine ⟨j + 1, _, Q', par', ⟨rfl, rfl, trivial⟩, ⟨by omega, hEl, hOl, ⟨F', hMl, hFPl⟩, hBl', hcl, hSl, hsz, hvb, fun j' z' hj' ez' => ?_⟩, by omega⟩
        by_cases hjj : j' < j
        · exact hall j' z' hjj ez'
        · obtain rfl : j' = j := by omega
          rw [ez] at ez'; rw [← text_inj ez']; exact hzQ
      | none =>
        have hzQ : z ∉ Q' := fun h => by have := (hBl'.mem z).1 h; rw [hpz] at this; cases this
        have hiQ' : i < Q'.length := (List.getElem?_eq_some_iff.1 hcl).1
        have hps' := hOl.strs.isSome (by omega)
        have hrq' := strs_get0 hOl.strs (by omega : i < (txs Q').length) (j := (i : Int)) rfl
        rw [txs_get hcl] at hrq'
        repeat' (first|refine za ?_|refine zA ?_|refine zB ?_|refine zb ?_|refine zc ?_|refine ze ?_|refine zd ?_|refine zC ?_|refine zD ?_|refine zE ?_|refine zF ?_|refine zG ?_|refine zH ?_|refine zI ?_|refine zJ ?_|refine zK ?_|refine zL ?_|refine zM ?_|refine zN ?_|refine zO ?_|refine zP ?_|refine zQ ?_|refine zR ?_|refine zS ?_|refine zU ?_|refine zV ?_|refine zW ?_|refine zt (fun hcd => ?_) (fun hcd => ?_)|refine zu (fun hcd => ?_) (fun hcd => ?_)|refine zX ?_|refine zY ?_|refine zv (fun hcd => ?_) (fun hcd => ?_)|refine zk ?_|refine zl ?_|refine zm ?_|refine zn ?_|refine zf ?_|refine zg ?_|refine zj ?_|refine zZ ?_|refine zh ?_|refine zi ?_|refine zo ?_|refine zp ?_|refine zq ?_|refine zr ?_|refine zs ?_)
        refine r_lookup (k := z.text) (v := str []) mp89 kst hMl rfl rfl (hFPl.none hpz) ?_
        repeat' (first|refine za ?_|refine zA ?_|refine zB ?_|refine zb ?_|refine zc ?_|refine ze ?_|refine zd ?_|refine zC ?_|refine zD ?_|refine zE ?_|refine zF ?_|refine zG ?_|refine zH ?_|refine zI ?_|refine zJ ?_|refine zK ?_|refine zL ?_|refine zM ?_|refine zN ?_|refine zO ?_|refine zP ?_|refine zQ ?_|refine zR ?_|refine zS ?_|refine zU ?_|refine zV ?_|refine zW ?_|refine zt (fun hcd => ?_) (fun hcd => ?_)|refine zu (fun hcd => ?_) (fun hcd => ?_)|refine zX ?_|refine zY ?_|refine zv (fun hcd => ?_) (fun hcd => ?_)|refine zk ?_|refine zl ?_|refine zm ?_|refine zn ?_|refine zf ?_|refine zg ?_|refine zj ?_|refine zZ ?_|refine zh ?_|refine zi ?_|refine zo ?_|refine zp ?_|refine zq ?_|refine zr ?_|refine zs ?_)
        refine r_seql_v (a := []) (b := []) (c := true) rfl rfl (by rfl) ?_
        repeat' (first|refine za ?_|refine zA ?_|refine zB ?_|refine zb ?_|refine zc ?_|refine ze ?_|refine zd ?_|refine zC ?_|refine zD ?_|refine zE ?_|refine zF ?_|refine zG ?_|refine zH ?_|refine zI ?_|refine zJ ?_|refine zK ?_|refine zL ?_|refine zM ?_|refine zN ?_|refine zO ?_|refine zP ?_|refine zQ ?_|refine zR ?_|refine zS ?_|refine zU ?_|refine zV ?_|refine zW ?_|refine zt (fun hcd => ?_) (fun hcd => ?_)|refine zu (fun hcd => ?_) (fun hcd => ?_)|refine zX ?_|refine zY ?_|refine zv (fun hcd => ?_) (fun hcd => ?_)|refine zk ?_|refine zl ?_|refine zm ?_|refine zn ?_|refine zf ?_|refine zg ?_|refine zj ?_|refine zZ ?_|refine zh ?_|refine zi ?_|refine zo ?_|refine zp ?_|refine zq ?_|refine zr ?_|refine zs ?_)
        refine r_mapUpdate (k := z.text) (v := str c.text) mp89 kst hMl rfl rfl rfl fun w11 hM11 hC11 hs11 => ?_
        have hE11 : Ext w w11 := Ch.trans' hEl hC11 fun k hk e => by omega
        have hO11 : OwnS w11 (bm + 1) _ (txs Q') := ownsRow_keep hOl hC11 fun g hg e => by
          have := (World.ownsRow.lt hOl g hg).1
          omega
        have hNb : ∀ g, (Value.slice q10 (nbs c).length c10).ownBlock = some g → wk.heap.size ≤ g ∧ g < w10.heap.size := fun g hg => by
          have h1 := (World.ownsRow.lt hO10' g hg)
          have := Ext.size hE69
          omega
        have hS11 := hSl.keep hC11 fun g hg e => by have := (hNb g hg).1; omega
        repeat' (first|refine za ?_|refine zA ?_|refine zB ?_|refine zb ?_|refine zc ?_|refine ze ?_|refine zd ?_|refine zC ?_|refine zD ?_|refine zE ?_|refine zF ?_|refine zG ?_|refine zH ?_|refine zI ?_|refine zJ ?_|refine zK ?_|refine zL ?_|refine zM ?_|refine zN ?_|refine zO ?_|refine zP ?_|refine zQ ?_|refine zR ?_|refine zS ?_|refine zU ?_|refine zV ?_|refine zW ?_|refine zt (fun hcd => ?_) (fun hcd => ?_)|refine zu (fun hcd => ?_) (fun hcd => ?_)|refine zX ?_|refine zY ?_|refine zv (fun hcd => ?_) (fun hcd => ?_)|refine zk ?_|refine zl ?_|refine zm ?_|refine zn ?_|refine zf ?_|refine zg ?_|refine zj ?_|refine zZ ?_|refine zh ?_|refine zi ?_|refine zo ?_|refine zp ?_|refine zq ?_|refine zr ?_|refine zs ?_)
        refine r_append1_v (u := str z.text) (base := bm + 1) el32 rfl (by decide) hO11.own rfl rfl rfl (by simp only [strs_len]; omega) (by have := Ext.size hE11; have := MapF.lt hM11; omega) ?_
        intro v12 w12 q12 hO12 hg12 _ hb12
        have hO12' : OwnS w12 (bm + 1) v12 (txs Q' ++ [z.text]) := OwnS.of (by simpa using hO12)
        obtain ⟨q13, c13, e13, _⟩ := hO12'.strs.slice
        subst e13
        have hC12 : Ch (fun k => bm + 1 ≤ k) w11 w12 := Ch.grown hg12 fun g hg => (World.ownsRow.lt hO11 g hg).1
        have hE12 : Ext w w12 := Ch.trans' hE11 hC12 fun k hk e => by omega
        have hS12 := hS11.keep (Ch.grown (S := fun k => (Value.slice qq' (txs Q').length cq').ownBlock = some k) hg12 fun g hg => hg) fun g hg hg2 => by
          have := hNb g hg
          have := hvb g hg2
          omega
        have hM12 := MapF.keep hM11 hC12 (by omega)
        repeat' (first|refine za ?_|refine zA ?_|refine zB ?_|refine zb ?_|refine zc ?_|refine ze ?_|refine zd ?_|refine zC ?_|refine zD ?_|refine zE ?_|refine zF ?_|refine zG ?_|refine zH ?_|refine zI ?_|refine zJ ?_|refine zK ?_|refine zL ?_|refine zM ?_|refine zN ?_|refine zO ?_|refine zP ?_|refine zQ ?_|refine zR ?_|refine zS ?_|refine zU ?_|refine zV ?_|refine zW ?_|refine zt (fun hcd => ?_) (fun hcd => ?_)|refine zu (fun hcd => ?_) (fun hcd => ?_)|refine zX ?_|refine zY ?_|refine zv (fun hcd => ?_) (fun hcd => ?_)|refine zk ?_|refine zl ?_|refine zm ?_|refine zn ?_|refine zf ?_|refine zg ?_|refine zj ?_|refine zZ ?_|refine zh ?_|refine zi ?_|refine zo ?_|refine zp ?_|refine zq ?_|refine zr ?_|refine zs ?_)
        refine ⟨j + 1, _, Q' ++ [z], (fun t => if t = z then some c else par' t), ⟨rfl, rfl, trivial⟩, ⟨by omega, hE12, ?_, ⟨_, hM12, hFPl.set z c⟩, bfs_add hBl' hcl hz hzQ, by rw [List.getElem?_append_left hiQ']; exact hcl, hS12, by have := hC12.size; omega, fun g hg => ?_, fun j' z' hj' ez' => ?_⟩, by omega⟩
        · have : txs (Q' ++ [z]) = txs Q' ++ [z.text] := by simp [txs]
          rw [this]; exact hO12'
        · rcases hb12 g hg with h | h
          · exact hvb g h
          · right; omega
        · by_cases hjj : j' < j
          · exact List.mem_append_left _ (hall j' z' hjj ez')
          · obtain rfl : j' = j := by omega
            rw [ez] at ez'; rw [← text_inj ez']; simp
    · repeat' (first|refine za ?_|refine zA ?_|refine zB ?_|refine zb ?_|refine zc ?_|refine ze ?_|refine zd ?_|refine zC ?_|refine zD ?_|refine zE ?_|refine zF ?_|refine zG ?_|refine zH ?_|refine zI ?_|refine zJ ?_|refine zK ?_|refine zL ?_|refine zM ?_|refine zN ?_|refine zO ?_|refine zP ?_|refine zQ ?_|refine zR ?_|refine zS ?_|refine zU ?_|refine zV ?_|refine zW ?_|refine zt (fun hcd => ?_) (fun hcd => ?_)|refine zu (fun hcd => ?_) (fun hcd => ?_)|refine zX ?_|refine zY ?_|refine zv (fun hcd => ?_) (fun hcd => ?_)|refine zk ?_|refine zl ?_|refine zm ?_|refine zn ?_|refine zf ?_|refine zg ?_|refine zj ?_|refine zZ ?_|refine zh ?_|refine zi ?_|refine zo ?_|refine zp ?_|refine zq ?_|refine zr ?_|refine zs ?_)
      refine ⟨i + 1, _, Q', par', ⟨rfl, rfl, trivial⟩, ⟨hEl, hOl, ⟨F', hMl, hFPl⟩, bfs_next hBl' hcl fun z hz => ?_⟩, by omega⟩
      obtain ⟨j', hj', e⟩ := List.getElem_of_mem (nbs_mem.2 ⟨z, hz, rfl⟩)
      exact hall j' z (by omega) (by rw [← e]; simp [List.getD, hj'])
set_option maxRecDepth 20000 in
set_option maxHeartbeats 1000000 in
theorem Way_any (a b : Str) (w : World) : Calls Try.prog 22 #[str a, str b] w (Ret fun v w' => Ext w w' ∧ ((∃ (x y : T) (W : List T) (u : Value), a = x.text ∧ b = y.text ∧ x.size ≤ 7 ∧ y.size = x.size ∧ IsWay x y W ∧ v = .tuple #[u, .int .i64 0] ∧ OwnS w' w.heap.size u (txs W)) ∨ ∃ e, v = .tuple #[.slice none 0 0, .int .i64 e] ∧ ErrW a b e)) := by
  (refine calls_of_wc (args := [str a, str b]) Try.func22 rfl ?_ ?_; kernel_rfl; ((repeat' (first|refine za ?_|refine zA ?_|refine zB ?_|refine zb ?_|refine zc ?_|refine ze ?_|refine zd ?_|refine zC ?_|refine zD ?_|refine zE ?_|refine zF ?_|refine zG ?_|refine zH ?_|refine zI ?_|refine zJ ?_|refine zK ?_|refine zL ?_|refine zM ?_|refine zN ?_|refine zO ?_|refine zP ?_|refine zQ ?_|refine zR ?_|refine zS ?_|refine zU ?_|refine zV ?_|refine zW ?_|refine zt (fun hcd => ?_) (fun hcd => ?_)|refine zu (fun hcd => ?_) (fun hcd => ?_)|refine zX ?_|refine zY ?_|refine zv (fun hcd => ?_) (fun hcd => ?_)|refine zk ?_|refine zl ?_|refine zm ?_|refine zn ?_|refine zf ?_|refine zg ?_|refine zj ?_|refine zZ ?_|refine zh ?_|refine zi ?_|refine zo ?_|refine zp ?_|refine zq ?_|refine zr ?_|refine zs ?_))); refine r_box (v := str a) rfl rfl fun w1 hb1 hE1 hs1 => ?_; ((repeat' (first|refine za ?_|refine zA ?_|refine zB ?_|refine zb ?_|refine zc ?_|refine ze ?_|refine zd ?_|refine zC ?_|refine zD ?_|refine zE ?_|refine zF ?_|refine zG ?_|refine zH ?_|refine zI ?_|refine zJ ?_|refine zK ?_|refine zL ?_|refine zM ?_|refine zN ?_|refine zO ?_|refine zP ?_|refine zQ ?_|refine zR ?_|refine zS ?_|refine zU ?_|refine zV ?_|refine zW ?_|refine zt (fun hcd => ?_) (fun hcd => ?_)|refine zu (fun hcd => ?_) (fun hcd => ?_)|refine zX ?_|refine zY ?_|refine zv (fun hcd => ?_) (fun hcd => ?_)|refine zk ?_|refine zl ?_|refine zm ?_|refine zn ?_|refine zf ?_|refine zg ?_|refine zj ?_|refine zZ ?_|refine zh ?_|refine zi ?_|refine zo ?_|refine zp ?_|refine zq ?_|refine zr ?_|refine zs ?_))); refine r_box (v := str b) rfl rfl fun w2 hb2 hE2 hs2 => ?_; ((repeat' (first|refine za ?_|refine zA ?_|refine zB ?_|refine zb ?_|refine zc ?_|refine ze ?_|refine zd ?_|refine zC ?_|refine zD ?_|refine zE ?_|refine zF ?_|refine zG ?_|refine zH ?_|refine zI ?_|refine zJ ?_|refine zK ?_|refine zL ?_|refine zM ?_|refine zN ?_|refine zO ?_|refine zP ?_|refine zQ ?_|refine zR ?_|refine zS ?_|refine zU ?_|refine zV ?_|refine zW ?_|refine zt (fun hcd => ?_) (fun hcd => ?_)|refine zu (fun hcd => ?_) (fun hcd => ?_)|refine zX ?_|refine zY ?_|refine zv (fun hcd => ?_) (fun hcd => ?_)|refine zk ?_|refine zl ?_|refine zm ?_|refine zn ?_|refine zf ?_|refine zg ?_|refine zj ?_|refine zZ ?_|refine zh ?_|refine zi ?_|refine zo ?_|refine zp ?_|refine zq ?_|refine zr ?_|refine zs ?_))); refine r_alloc (z := .slice none 0 0) zr32 rfl fun w3 hb3 hE3 hs3 => ?_; ((repeat' (first|refine za ?_|refine zA ?_|refine zB ?_|refine zb ?_|refine zc ?_|refine ze ?_|refine zd ?_|refine zC ?_|refine zD ?_|refine zE ?_|refine zF ?_|refine zG ?_|refine zH ?_|refine zI ?_|refine zJ ?_|refine zK ?_|refine zL ?_|refine zM ?_|refine zN ?_|refine zO ?_|refine zP ?_|refine zQ ?_|refine zR ?_|refine zS ?_|refine zU ?_|refine zV ?_|refine zW ?_|refine zt (fun hcd => ?_) (fun hcd => ?_)|refine zu (fun hcd => ?_) (fun hcd => ?_)|refine zX ?_|refine zY ?_|refine zv (fun hcd => ?_) (fun hcd => ?_)|refine zk ?_|refine zl ?_|refine zm ?_|refine zn ?_|refine zf ?_|refine zg ?_|refine zj ?_|refine zZ ?_|refine zh ?_|refine zi ?_|refine zo ?_|refine zp ?_|refine zq ?_|refine zr ?_|refine zs ?_))); refine r_mkfn_v (cap := [.pointer (some ⟨w.heap.size, 0, none⟩), .pointer (some ⟨w1.heap.size, 0, none⟩), .pointer (some ⟨w2.heap.size, 0, none⟩)]) rfl rfl ?_; (repeat' (first|refine za ?_|refine zA ?_|refine zB ?_|refine zb ?_|refine zc ?_|refine ze ?_|refine zd ?_|refine zC ?_|refine zD ?_|refine zE ?_|refine zF ?_|refine zG ?_|refine zH ?_|refine zI ?_|refine zJ ?_|refine zK ?_|refine zL ?_|refine zM ?_|refine zN ?_|refine zO ?_|refine zP ?_|refine zQ ?_|refine zR ?_|refine zS ?_|refine zU ?_|refine zV ?_|refine zW ?_|refine zt (fun hcd => ?_) (fun hcd => ?_)|refine zu (fun hcd => ?_) (fun hcd => ?_)|refine zX ?_|refine zY ?_|refine zv (fun hcd => ?_) (fun hcd => ?_)|refine zk ?_|refine zl ?_|refine zm ?_|refine zn ?_|refine zf ?_|refine zg ?_|refine zj ?_|refine zZ ?_|refine zh ?_|refine zi ?_|refine zo ?_|refine zp ?_|refine zq ?_|refine zr ?_|refine zs ?_)))
  (refine r_call (R := ?_) rfl ?_ ?_; rotate_left 1; focus exact guard_any 60 _ w3 (fun k => k = w2.heap.size) (fun w' => ∃ (x y : T) (W : List T), a = x.text ∧ b = y.text ∧ x.size ≤ 7 ∧ y.size = x.size ∧ IsWay x y W ∧ ∃ u, Box w' w2.heap.size 32 u ∧ OwnS w' (w3.heap.size + 1) u (txs W)) (fun e w' => ErrW a b e ∧ Box w' w2.heap.size 32 (.slice none 0 0)) (by kernel_rfl) (by omega) fun wg hEg hsg => (wayC a b _ _ _ wg (((hb1.ext hE2).ext hE3).ext hEg) ((hb2.ext hE3).ext hEg) (hb3.ext hEg) (by omega)).mono fun e w' h => RetX.mono h (fun v w' ⟨⟨x, y, W, h1, h2, h3, h4, h5, u, h6, h7⟩, h8⟩ => ⟨⟨x, y, W, h1, h2, h3, h4, h5, u, h6, hsg ▸ h7⟩, h8⟩) fun ch w' h => h)
  rintro v w5 ⟨w4, hCg, hCS, hlt, hcase⟩
  have hE5 := ext_guard (hE1.trans (hE2.trans hE3)) hCS (by omega) hCg
  rcases hcase with ⟨rfl, x, y, W, g1, g2, g3, g4, g5, u, hB, hO⟩ | ⟨e, rfl, herr, hB⟩
  · have hB5 := hB.keep hCg (by omega)
    obtain ⟨q, c, e, _⟩ := hO.strs.slice
    subst e
    have g6 := Gv.Box.rd hB5
    have hO5 := ownsRow_keep hO hCg (fun g hg e => by
      have := (World.ownsRow.lt hO g hg).1
      have h6 := hlt
      omega)
    repeat' (first|refine za ?_|refine zA ?_|refine zB ?_|refine zb ?_|refine zc ?_|refine ze ?_|refine zd ?_|refine zC ?_|refine zD ?_|refine zE ?_|refine zF ?_|refine zG ?_|refine zH ?_|refine zI ?_|refine zJ ?_|refine zK ?_|refine zL ?_|refine zM ?_|refine zN ?_|refine zO ?_|refine zP ?_|refine zQ ?_|refine zR ?_|refine zS ?_|refine zU ?_|refine zV ?_|refine zW ?_|refine zt (fun hcd => ?_) (fun hcd => ?_)|refine zu (fun hcd => ?_) (fun hcd => ?_)|refine zX ?_|refine zY ?_|refine zv (fun hcd => ?_) (fun hcd => ?_)|refine zk ?_|refine zl ?_|refine zm ?_|refine zn ?_|refine zf ?_|refine zg ?_|refine zj ?_|refine zZ ?_|refine zh ?_|refine zi ?_|refine zo ?_|refine zp ?_|refine zq ?_|refine zr ?_|refine zs ?_)
    refine r_st_box (by kernel_rfl) hB5 rfl rfl rfl fun w6 hB6 hC6 hs6 => ?_
    repeat' (first|refine za ?_|refine zA ?_|refine zB ?_|refine zb ?_|refine zc ?_|refine ze ?_|refine zd ?_|refine zC ?_|refine zD ?_|refine zE ?_|refine zF ?_|refine zG ?_|refine zH ?_|refine zI ?_|refine zJ ?_|refine zK ?_|refine zL ?_|refine zM ?_|refine zN ?_|refine zO ?_|refine zP ?_|refine zQ ?_|refine zR ?_|refine zS ?_|refine zU ?_|refine zV ?_|refine zW ?_|refine zt (fun hcd => ?_) (fun hcd => ?_)|refine zu (fun hcd => ?_) (fun hcd => ?_)|refine zX ?_|refine zY ?_|refine zv (fun hcd => ?_) (fun hcd => ?_)|refine zk ?_|refine zl ?_|refine zm ?_|refine zn ?_|refine zf ?_|refine zg ?_|refine zj ?_|refine zZ ?_|refine zh ?_|refine zi ?_|refine zo ?_|refine zp ?_|refine zq ?_|refine zr ?_|refine zs ?_)
    refine post_b2 rfl rfl (v2 := .int .i64 0) rfl ct32 hB6 ?_
    refine ⟨Ch.trans' hE5 hC6 fun k hk e => by omega, .inl ⟨x, y, W, _, g1, g2, g3, g4, g5, rfl, ?_⟩⟩
    refine ownsRow_mono (ownsRow_keep hO5 hC6 fun g hg e => ?_) (by omega)
    have := (World.ownsRow.lt hO5 g hg).1
    omega
  · have hB5 := hB.keep hCg (by omega)
    have g5 := Gv.Box.rd hB5
    repeat' (first|refine za ?_|refine zA ?_|refine zB ?_|refine zb ?_|refine zc ?_|refine ze ?_|refine zd ?_|refine zC ?_|refine zD ?_|refine zE ?_|refine zF ?_|refine zG ?_|refine zH ?_|refine zI ?_|refine zJ ?_|refine zK ?_|refine zL ?_|refine zM ?_|refine zN ?_|refine zO ?_|refine zP ?_|refine zQ ?_|refine zR ?_|refine zS ?_|refine zU ?_|refine zV ?_|refine zW ?_|refine zt (fun hcd => ?_) (fun hcd => ?_)|refine zu (fun hcd => ?_) (fun hcd => ?_)|refine zX ?_|refine zY ?_|refine zv (fun hcd => ?_) (fun hcd => ?_)|refine zk ?_|refine zl ?_|refine zm ?_|refine zn ?_|refine zf ?_|refine zg ?_|refine zj ?_|refine zZ ?_|refine zh ?_|refine zi ?_|refine zo ?_|refine zp ?_|refine zq ?_|refine zr ?_|refine zs ?_)
    refine r_st_box (by kernel_rfl) hB5 rfl rfl rfl fun w6 hB6 hC6 hs6 => ?_
    repeat' (first|refine za ?_|refine zA ?_|refine zB ?_|refine zb ?_|refine zc ?_|refine ze ?_|refine zd ?_|refine zC ?_|refine zD ?_|refine zE ?_|refine zF ?_|refine zG ?_|refine zH ?_|refine zI ?_|refine zJ ?_|refine zK ?_|refine zL ?_|refine zM ?_|refine zN ?_|refine zO ?_|refine zP ?_|refine zQ ?_|refine zR ?_|refine zS ?_|refine zU ?_|refine zV ?_|refine zW ?_|refine zt (fun hcd => ?_) (fun hcd => ?_)|refine zu (fun hcd => ?_) (fun hcd => ?_)|refine zX ?_|refine zY ?_|refine zv (fun hcd => ?_) (fun hcd => ?_)|refine zk ?_|refine zl ?_|refine zm ?_|refine zn ?_|refine zf ?_|refine zg ?_|refine zj ?_|refine zZ ?_|refine zh ?_|refine zi ?_|refine zo ?_|refine zp ?_|refine zq ?_|refine zr ?_|refine zs ?_)
    refine post_b2 rfl rfl (v2 := .int .i64 e) rfl ct32 hB6 ?_
    exact ⟨Ch.trans' hE5 hC6 fun k hk e => by omega, .inr ⟨e, rfl, herr⟩⟩
end Go.Proofs.Ytkdakleckdkhiaa

/- forks: what the exported functions do, behind their guards: Vector, Mirror, Below, Meet, Join, Turn. -/
import Derived.Test.YtocgehoffdjijaaGreatGd
import Derived.Test.YtocgehoffdjijaaGreatVc
namespace Go.Proofs.YtocgehoffdjijaaGreat
open Gv
section
variable {P : Program} {st : Bool} {K : Env → World → Prop} {ρ : Env} {w : World} {d : Nat} {ty : TypeId} {pos : String} {aft : Array Edge} {gd : Option (Nat × Bool)}
theorem r_mkfn_v {fn : Fn} {as_ bs : List Operand} {cap : List Value} (ha : as_ = []) (hb : bs.map (ev ρ) = cap) (h : K (up ρ d (.func fn #[] cap.toArray)) w) : w1 P st ⟨some d, .makeFunc fn as_.toArray bs.toArray, ty, pos, aft, gd⟩ K ρ w := by
  subst ha; subst hb; exact r_mkfn h
theorem post_b2 {fn : Func} {R : Value → World → Prop} {c u b : Nat} {t t' : TypeId} {v1 v2 : Value} (h : fn.results = #[.cell c t, .tmp u]) (hc : ρ c = .pointer (some ⟨b, 0, none⟩)) (hu : ρ u = v2) (ht : cellT P t = true) (hb : Box w b t' v1)
    (hR : R (.tuple #[v1, v2]) w) (hm : ρ 1000000 = mkv [] := by exact rfl) (hc' : c ≠ 1000000 := by decide) (hu' : u ≠ 1000000 := by decide) : post P fn R .ret ρ w := by
  refine postM hm (fun tmps ht' => ?_) hR
  have h1 := ht' c hc'
  have h2 := ht' u hu'
  have hq := Box.cell hb
  simp only [Array.getD_eq_getD_getElem?] at h1 h2
  simp [results, h, h1, h2, hc, hu, asAddr, loadVar, cellT_spec ht, load, Sem.run, hq]
end
theorem RetX.mono {R R' : Value → World → Prop} {X X' : List PanicEntry → World → Prop} {e : Ending} {w : World} (h : RetX R X e w) (hR : ∀ v w, R v w → R' v w) (hX : ∀ ch w, X ch w → X' ch w) : RetX R' X' e w := by
  rcases h with ⟨v, he, hv⟩ | ⟨ch, he, hx⟩
  · exact .inl ⟨v, he, hR _ _ hv⟩
  · exact .inr ⟨ch, he, hX _ _ hx⟩
theorem ext_guard {w w2 w3 w4 : World} {b : Nat} (hE : Ext w w2) (hC : Ch (fun k => k = b) w2 w3) (hb : w.heap.size ≤ b) (hg : Ch (fun k => k = w2.heap.size) w3 w4) : Ext w w4 :=
  Ch.trans' (Ch.trans' hE hC fun k hk e => by omega) hg fun k hk e => by have := Ext.size hE; omega
theorem ct22 : cellT Tryz.prog 27 = true := by kernel_rfl
theorem ct3 : cellT Tryz.prog 3 = true := by kernel_rfl
theorem ct4 : cellT Tryz.prog 4 = true := by kernel_rfl
theorem ct32 : cellT Tryz.prog 84 = true := by kernel_rfl
theorem zr22 : (Tryz.prog.info? 27).bind (·.zero) = some (.slice none 0 0) := by kernel_rfl
theorem zr32 : (Tryz.prog.info? 84).bind (·.zero) = some (.slice none 0 0) := by kernel_rfl
theorem zr9 : (Tryz.prog.info? 9).bind (·.zero) = some (str []) := by kernel_rfl
theorem zr4 : (Tryz.prog.info? 4).bind (·.zero) = some (.bool false) := by kernel_rfl
theorem zr3 : (Tryz.prog.info? 3).bind (·.zero) = some (.int .i64 0) := by kernel_rfl
set_option maxRecDepth 20000 in
set_option maxHeartbeats 1000000 in
theorem vectorC (s : Str) (b1 b2 : Nat) (w : World) (h1 : Box w b1 9 (str s)) (h2 : Box w b2 27 (.slice none 0 0)) (_hne : b1 ≠ b2) :
    Calls Tryz.prog 86 #[.pointer (some ⟨b1, 0, none⟩), .pointer (some ⟨b2, 0, none⟩)] w
      (RetX (fun _ w' => (∃ t : T, s = t.text ∧ t.size ≤ 10 ∧ ∃ u, Box w' b2 27 u ∧ OwnI w' w.heap.size 3 u t.vec) ∧ Ch (fun k => k = b2) w w') (fun ch w' => ∃ e, ch = [trb e] ∧ (e = 4 ∧ ¬ IsT s ∧ Box w' b2 27 (.slice none 0 0)) ∧ Ch (fun k => k = b2) w w')) := by
  have g1 : rd w (some ⟨b1, 0, none⟩) = some (str s) := Gv.Box.rd h1
  refine calls_of_wcX (args := [.pointer (some ⟨b1, 0, none⟩), .pointer (some ⟨b2, 0, none⟩)]) Tryz.func86 rfl ?_ ?_; kernel_rfl
  repeat' (first|(refine wlP_plain ?_; (refine zM ?_))|refine wc_regionP ?_)
  (refine wlP_may ?_; refine p_call (R := ?_) (Y := ?_) rfl ?_ ?_ ?_; rotate_left 2; focus exact read_any s w)
  rotate_left 1
  · rintro ch w1 ⟨rfl, hE, hno⟩
    ((skip); (refine px_panic ?_))
    exact ⟨4, rfl, ⟨rfl, hno, h2.ext hE⟩, hE.ch⟩
  rintro v w1 ⟨t, rfl, ht, rfl, hE1⟩
  (refine wlP_plain ?_; refine r_call (R := ?_) rfl ?_ ?_; rotate_left 1; focus exact vector_any t w1 (by omega))
  rintro v w2 ⟨hO2, hE2⟩
  obtain ⟨q2, c2, e2, _⟩ := hO2.ints.slice
  subst e2
  have hE12 := hE1.trans hE2
  have hb2 := h2.ext hE12
  refine wlP_plain ?_
  refine r_st_box (by kernel_rfl) hb2 rfl rfl rfl fun w3 hb3 hC3 hs3 => ?_
  repeat' (refine wlP_nil ?_)
  refine px_normal (post0n rfl ?_)
  refine ⟨⟨t, rfl, ht, _, hb3, ?_⟩, hE12.ch.trans hC3⟩
  refine ownsRow_mono (ownsRow_keep hO2 hC3 fun g hg e => ?_) hE1.size
  have := (World.ownsRow.lt hO2 g hg).1
  have := Gv.Box.lt (h2.ext hE1)
  omega
set_option maxRecDepth 20000 in
set_option maxHeartbeats 1000000 in
theorem Vector_any (s : Str) (w : World) : Calls Tryz.prog 43 #[str s] w (Ret fun v w' => Ext w w' ∧ ((∃ t : T, s = t.text ∧ t.size ≤ 10 ∧ ∃ u, v = .tuple #[u, .int .i64 0] ∧ OwnI w' w.heap.size 3 u t.vec) ∨ (¬ IsT s ∧ v = .tuple #[.slice none 0 0, .int .i64 4]))) := by
  (refine calls_of_wc (args := [str s]) Tryz.func43 rfl ?_ ?_; kernel_rfl; ((repeat' (first|refine za ?_|refine zc ?_|refine zd ?_))); refine r_box (v := str s) rfl rfl fun w1 hb1 hE1 hs1 => ?_; ((repeat' (refine za ?_))); refine r_alloc (z := .slice none 0 0) zr22 rfl fun w2 hb2 hE2 hs2 => ?_; ((repeat' (first|refine za ?_|refine zB ?_|refine zb ?_|refine zc ?_|refine ze ?_|refine zd ?_))); refine r_mkfn_v (cap := [.pointer (some ⟨w.heap.size, 0, none⟩), .pointer (some ⟨w1.heap.size, 0, none⟩)]) rfl rfl ?_; (repeat' (refine za ?_)))
  (refine r_call (R := ?_) rfl ?_ ?_; rotate_left 1; focus exact guard_any 86 _ w2 (fun k => k = w1.heap.size) (fun w' => ∃ t : T, s = t.text ∧ t.size ≤ 10 ∧ ∃ u, Box w' w1.heap.size 27 u ∧ OwnI w' (w2.heap.size + 1) 3 u t.vec) (fun e w' => e = 4 ∧ ¬ IsT s ∧ Box w' w1.heap.size 27 (.slice none 0 0)) (by kernel_rfl) (by omega) fun wg hEg hsg => (vectorC s _ _ wg ((hb1.ext hE2).ext hEg) (hb2.ext hEg) (by omega)).mono fun e w' h => RetX.mono h (fun v w' ⟨⟨t, h1, h2, u, h3, h4⟩, h5⟩ => ⟨⟨t, h1, h2, u, h3, hsg ▸ h4⟩, h5⟩) fun ch w' h => h)
  rintro v w4 ⟨w3, hCg, hCS, hlt, hcase⟩
  have hE4 := ext_guard (hE1.trans hE2) hCS (by omega) hCg
  rcases hcase with ⟨rfl, t, rfl, ht, u, hB, hO⟩ | ⟨e, rfl, rfl, hno, hB⟩
  · have hB4 := hB.keep hCg (by omega)
    have g4 : rd w4 (some ⟨w1.heap.size, 0, none⟩) = some u := Gv.Box.rd hB4
    obtain ⟨q, c, e, _⟩ := hO.ints.slice
    subst e
    have hO4 := ownsRow_keep hO hCg (fun g hg e => by
      have := (World.ownsRow.lt hO g hg).1
      have h6 := hlt
      omega)
    repeat' (first|refine za ?_|refine zA ?_|refine zB ?_|refine zb ?_|refine zc ?_|refine ze ?_|refine zd ?_|refine zM ?_)
    refine r_st_box (by kernel_rfl) hB4 rfl rfl rfl fun w5 hB5 hC5 hs5 => ?_
    repeat' (first|refine za ?_|refine zB ?_|refine zb ?_|refine ze ?_|refine zn ?_)
    refine post_b2 rfl rfl (v2 := .int .i64 0) rfl ct22 hB5 ?_
    refine ⟨Ch.trans' hE4 hC5 fun k hk e => by omega, .inl ⟨t, rfl, ht, _, rfl, ?_⟩⟩
    refine ownsRow_mono (ownsRow_keep hO4 hC5 fun g hg e => ?_) (by omega)
    have := (World.ownsRow.lt hO4 g hg).1
    omega
  · have hB4 := hB.keep hCg (by omega)
    have g4 : rd w4 (some ⟨w1.heap.size, 0, none⟩) = some (.slice none 0 0) := Gv.Box.rd hB4
    repeat' (first|refine za ?_|refine zA ?_|refine zB ?_|refine zb ?_|refine zc ?_|refine ze ?_|refine zd ?_|refine zM ?_)
    refine r_st_box (by kernel_rfl) hB4 rfl rfl rfl fun w5 hB5 hC5 hs5 => ?_
    repeat' (first|refine za ?_|refine zB ?_|refine zb ?_|refine ze ?_|refine zn ?_)
    refine post_b2 rfl rfl (v2 := .int .i64 4) rfl ct22 hB5 ?_
    exact ⟨Ch.trans' hE4 hC5 fun k hk e => by omega, .inr ⟨hno, rfl⟩⟩
def Err2 (a b : Str) (e : Int) : Prop := (e = 4 ∧ (¬ IsT a ∨ ¬ IsT b)) ∨ (e = 2 ∧ ∃ x y : T, a = x.text ∧ b = y.text ∧ x.size ≤ 10 ∧ y.size ≤ 10 ∧ x.size ≠ y.size)
end Go.Proofs.YtocgehoffdjijaaGreat

/- forks: the exported functions at trees. -/
import Derived.Test.YtkdakleckdkhiaaAw
namespace Go.Proofs.Ytkdakleckdkhiaa
open Gv
theorem bt4 : boolT Try.prog 4 = true := by kernel_rfl
section
variable {st : Bool} {K : Env → World → Prop} {ρ : Env} {w : World} {d : Nat} {ty : TypeId} {pos : String} {aft : Array Edge} {gd : Option (Nat × Bool)} {x y : Operand} {t2 : TypeId}
theorem r_eqbb (a : Bool) (hx : ev ρ x = .bool a) (hy : ev ρ y = .bool a) (h : K (up ρ d (.bool true)) w) : w1 Try.prog st ⟨some d, .binOp .eql 4 x y t2, ty, pos, aft, gd⟩ K ρ w := r_eqlB bt4 hx hy (by rw [beq_self_eq_true]; exact h)
theorem r_eqbv (a b c : Bool) (hx : ev ρ x = .bool a) (hy : ev ρ y = .bool b) (hc : (a == b) = c) (h : K (up ρ d (.bool c)) w) : w1 Try.prog st ⟨some d, .binOp .eql 4 x y t2, ty, pos, aft, gd⟩ K ρ w := r_eqlB bt4 hx hy (by rw [hc]; exact h)
end
theorem r_nebb {st : Bool} {K : Env → World → Prop} {ρ : Env} {w : World} {d : Nat} {ty : TypeId} {pos : String} {aft : Array Edge} {gd : Option (Nat × Bool)} {x y : Operand} {t2 : TypeId} (a b c : Bool) (hx : ev ρ x = .bool a) (hy : ev ρ y = .bool b) (hc : (!(a == b)) = c) (h : K (up ρ d (.bool c)) w) :
    w1 Try.prog st ⟨some d, .binOp .neq 4 x y t2, ty, pos, aft, gd⟩ K ρ w := by
  have ht := bt4
  unfold boolT at ht
  split at ht
  · rename_i he
    have hq : ∀ D : Nat, (Op.equalIn (D + 1) 4 (.bool a) (.bool b)).run Try.prog w = .ok (a == b) w := fun D => by simp [Op.equalIn, run_underlying he]
    refine w1_val (v := .bool c) ?_ h
    have hq' := hq 9999
    simp [execOp, hx, hy, eqGuard, binOp, Op.equal, Op.maxDepth, hq', ← hc]
  · cases ht
theorem err2_not {t u : T} {e : Int} (h : t.size ≤ 10) (hs : u.size = t.size) : ¬ Err2 t.text u.text e := by
  rintro (⟨_, h1 | h1⟩ | ⟨_, x, y, ex, ey, _, _, hn⟩)
  · exact h1 ⟨t, rfl, h⟩
  · exact h1 ⟨u, rfl, by omega⟩
  · rw [← text_inj ex, ← text_inj ey] at hn; exact hn hs.symm
theorem err2_unique {a b : Str} {e e' : Int} (h : Err2 a b e) (h' : Err2 a b e') : e = e' := by
  rcases h with ⟨rfl, h⟩ | ⟨rfl, x, y, ex, ey, h1, h2, hn⟩ <;> rcases h' with ⟨rfl, h'⟩ | ⟨rfl, x', y', ex', ey', h1', h2', hn'⟩
  · rfl
  · exfalso
    rcases h with h | h
    · exact h ⟨x', ex', h1'⟩
    · exact h ⟨y', ey', h2'⟩
  · exfalso
    rcases h' with h | h
    · exact h ⟨x, ex, h1⟩
    · exact h ⟨y, ey, h2⟩
  · rfl
theorem Below_ok (x y : T) (w : World) (h : x.size ≤ 10) (hs : y.size = x.size) : Calls Try.prog 37 #[str x.text, str y.text] w (Ret fun v w' => v = .tuple #[.bool (decide (x.le y)), .int .i64 0] ∧ Ext w w') :=
  Ret.mono (Below_any x.text y.text w) fun v w' ⟨hE, hv⟩ => by
    rcases hv with ⟨u, rfl, x', y', ex, ey, _, _, rfl⟩ | ⟨e, _, herr⟩
    · rw [text_inj ex, text_inj ey]; exact ⟨rfl, hE⟩
    · exact (err2_not h hs herr).elim
theorem Meet_ok (x y : T) (w : World) (h : x.size ≤ 10) (hs : y.size = x.size) : Calls Try.prog 45 #[str x.text, str y.text] w (Ret fun v w' => v = .tuple #[str (x.meet y).text, .int .i64 0] ∧ Ext w w') :=
  Ret.mono (Meet_any x.text y.text w) fun v w' ⟨hE, hv⟩ => by
    rcases hv with ⟨u, rfl, x', y', ex, ey, _, _, rfl⟩ | ⟨e, _, herr⟩
    · rw [text_inj ex, text_inj ey]; exact ⟨rfl, hE⟩
    · exact (err2_not h hs herr).elim
theorem Join_ok (x y : T) (w : World) (h : x.size ≤ 10) (hs : y.size = x.size) : Calls Try.prog 46 #[str x.text, str y.text] w (Ret fun v w' => v = .tuple #[str (x.join y).text, .int .i64 0] ∧ Ext w w') :=
  Ret.mono (Join_any x.text y.text w) fun v w' ⟨hE, hv⟩ => by
    rcases hv with ⟨u, rfl, x', y', ex, ey, _, _, rfl⟩ | ⟨e, _, herr⟩
    · rw [text_inj ex, text_inj ey]; exact ⟨rfl, hE⟩
    · exact (err2_not h hs herr).elim
theorem Mirror_ok (x : T) (w : World) (h : x.size ≤ 10) : Calls Try.prog 51 #[str x.text] w (Ret fun v w' => v = .tuple #[str x.mirror.text, .int .i64 0] ∧ Ext w w') :=
  Ret.mono (Mirror_any x.text w) fun v w' ⟨hE, hv⟩ => by
    rcases hv with ⟨u, rfl, x', ex, _, rfl⟩ | ⟨hno, _⟩
    · rw [text_inj ex]; exact ⟨rfl, hE⟩
    · exact (hno ⟨x, rfl, h⟩).elim
theorem Vector_ok (x : T) (w : World) (h : x.size ≤ 10) : Calls Try.prog 31 #[str x.text] w (Ret fun v w' => Ext w w' ∧ ∃ q c, v = .tuple #[.slice q x.vec.length c, .int .i64 0] ∧ OwnI w' w.heap.size 3 (.slice q x.vec.length c) x.vec) :=
  Ret.mono (Vector_any x.text w) fun v w' ⟨hE, hv⟩ => by
    rcases hv with ⟨x', ex, _, u, rfl, hO⟩ | ⟨hno, _⟩
    · have := text_inj ex; subst this
      obtain ⟨q, c, e, _⟩ := hO.ints.slice
      subst e
      exact ⟨hE, q, c, rfl, hO⟩
    · exact (hno ⟨x, rfl, h⟩).elim
theorem Above_ok (x : T) (w : World) (h : x.size ≤ 10) : Calls Try.prog 32 #[str x.text] w (Ret fun v w' => Ext w w' ∧ ∃ q c, v = .tuple #[.slice q (nbS x true).length c, .int .i64 0] ∧ OwnS w' w.heap.size (.slice q (nbS x true).length c) (nbS x true)) :=
  Ret.mono (Above_any x.text w) fun v w' ⟨hE, hv⟩ => by
    rcases hv with ⟨x', ex, _, u, rfl, hO⟩ | ⟨hno, _⟩
    · have := text_inj ex; subst this
      have hO' : OwnS w' w.heap.size u (nbS x true) := hO
      obtain ⟨q, c, e, _⟩ := hO'.strs.slice
      subst e
      exact ⟨hE, q, c, rfl, hO'⟩
    · exact (hno ⟨x, rfl, h⟩).elim
theorem Turn_ok (x : T) (k : Nat) (b : Bool) (w : World) (h : x.size ≤ 10) (hk : k < x.size) : Calls Try.prog 38 #[str x.text, .int .i64 (k : Int), .bool b] w (Ret fun v w' => v = (match x.turn k b with | some y => .tuple #[str y.text, .int .i64 0] | none => .tuple #[str [], .int .i64 6]) ∧ Ext w w') :=
  Ret.mono (Turn_any x.text k b w) fun v w' ⟨hE, hv⟩ => by
    rcases hv with ⟨u, rfl, x', j, y, ex, _, ej, hj, hy, rfl⟩ | ⟨e, rfl, herr⟩
    · have := text_inj ex; subst this
      obtain rfl : k = j := by omega
      rw [hy]; exact ⟨rfl, hE⟩
    · rcases herr with ⟨_, hno⟩ | ⟨_, x', ex, _, hr⟩ | ⟨rfl, x', j, ex, _, ej, hj, hy⟩
      · exact (hno ⟨x, rfl, h⟩).elim
      · rw [← text_inj ex] at hr; omega
      · have := text_inj ex; subst this
        obtain rfl : k = j := by omega
        rw [hy]; exact ⟨rfl, hE⟩
theorem Way_ok (x y : T) (w : World) (h : x.size ≤ 7) (hs : y.size = x.size) : Calls Try.prog 22 #[str x.text, str y.text] w (Ret fun v w' => Ext w w' ∧ ∃ (W : List T) (q : Option Addr) (c : Nat), IsWay x y W ∧ v = .tuple #[.slice q (txs W).length c, .int .i64 0] ∧ OwnS w' w.heap.size (.slice q (txs W).length c) (txs W)) :=
  Ret.mono (Way_any x.text y.text w) fun v w' ⟨hE, hv⟩ => by
    rcases hv with ⟨x', y', W, u, ex, ey, _, _, hW, rfl, hO⟩ | ⟨e, _, herr | ⟨_, x', y', ex, ey, _, _, h7⟩⟩
    · have := text_inj ex; subst this
      have := text_inj ey; subst this
      obtain ⟨q, c, e, _⟩ := hO.strs.slice
      subst e
      exact ⟨hE, W, q, c, hW, rfl, hO⟩
    · exact (err2_not (by omega) hs herr).elim
    · rw [← text_inj ex] at h7; omega
theorem Longest_ok (x y : T) (w : World) (h : x.size ≤ 10) (hs : y.size = x.size) : Calls Try.prog 27 #[str x.text, str y.text] w (Ret fun v w' => Ext w w' ∧ ((x.le y ∧ ∃ m : Nat, IsLp x y m ∧ v = .tuple #[.int .i64 (m : Int), .int .i64 0]) ∨ (¬ x.le y ∧ v = .tuple #[.int .i64 0, .int .i64 6]))) :=
  Ret.mono (Longest_any x.text y.text w) fun v w' ⟨hE, hv⟩ => by
    rcases hv with ⟨u, rfl, x', y', m, ex, ey, _, _, hle, hm, rfl⟩ | ⟨e, rfl, herr | ⟨rfl, x', y', ex, ey, _, _, hle⟩⟩
    · have := text_inj ex; subst this
      have := text_inj ey; subst this
      exact ⟨hE, .inl ⟨hle, m, hm, rfl⟩⟩
    · exact (err2_not h hs herr).elim
    · rw [← text_inj ex, ← text_inj ey] at hle
      exact ⟨hE, .inr ⟨hle, rfl⟩⟩
end Go.Proofs.Ytkdakleckdkhiaa

/- order: what a law does with Numbers: the call, and the variable. -/
import Derived.Test.YtfbkoombkmpjkaaAw
import Derived.Test.YtfbkoombkmpjkaaIv
namespace Go.Proofs.Ytfbkoombkmpjkaa
open Gv CY PO
theorem numbers_ok (v : Value) (L : List Int) (w : World) (h : Ints w v L) (hL : IsOrd L) :
    Calls Try.prog 23 #[v] w (Ret fun v' w' => v' = .tuple #[.agg (ints (nums L)).toArray, .int .i64 0] ∧ Ext w w') := by
  have := numbers_any v L w h
  rwa [if_pos hL] at this
theorem inverse_ok (v : Value) (L : List Int) (w : World) (h : Ints w v L) (hL : IsOrd L) :
    Calls Try.prog 22 #[v] w (Ret fun v' w' => (∃ u, v' = .tuple #[u, .int .i64 0] ∧ OwnI w' w.heap.size 3 u (invK L L.length)) ∧ Ext w w') :=
  (inverse_any v L w h).mono fun _ _ h => match h with
    | ⟨_, _, .inl ⟨hn, _⟩, _⟩ => absurd hL hn
    | ⟨x, hx, .inr ⟨_, hu⟩, hE⟩ => ⟨x, hx, hu, hE⟩
theorem second_ok (v : Value) (L : List Int) (w : World) (h : Ints w v L) (hL : IsOrd L) :
    Calls Try.prog 42 #[v] w (Ret fun v' w' => (∃ u, v' = .tuple #[u, .int .i64 0] ∧ OwnI w' w.heap.size 3 u (sec L L.length)) ∧ Ext w w') :=
  (second_any v L w h).mono fun _ _ h => match h with
    | ⟨_, _, .inl ⟨hn, _⟩, _⟩ => absurd hL hn
    | ⟨x, hx, .inr ⟨_, hu⟩, hE⟩ => ⟨x, hx, hu, hE⟩
theorem written_ok (v : Value) (L : List Int) (w : World) (h : Ints w v L) (hL : IsOrd L) :
    Calls Try.prog 25 #[v] w (Ret fun v' w' => (∃ u, v' = .tuple #[u, .int .i64 0] ∧ OwnI w' w.heap.size 3 u (wrt L)) ∧ Ext w w') :=
  (written_any v L w h).mono fun _ _ h => match h with
    | ⟨_, _, .inl ⟨hn, _⟩, _⟩ => absurd hL hn
    | ⟨x, hx, .inr ⟨_, hu⟩, hE⟩ => ⟨x, hx, hu, hE⟩
theorem nums_len (L : List Int) : (ints (nums L)).length = 6 := by rw [ints_length]; rfl
theorem rep6_len : (ints (List.replicate 6 0)).length = 6 := by rw [ints_length]; simp
section
variable {K : Env → World → Prop} {ρ : Env} {w : World} {ops : Array Oper} {r : List Oper} {a b c : Nat} {ty1 ty2 : TypeId} {p1 p2 : String} {x : Operand} {af1 af2 : Array Edge}
/-- 'v := value' of a Numbers struct. -/
theorem r_numVar {L : List Int} (hx : up ρ a (.pointer (some ⟨w.heap.size, 0, none⟩)) b = .agg (ints (nums L)).toArray)
    (h : ∀ w', Blk w' w.heap.size 34 (ints (nums L)) → Ext w w' → w'.heap.size = w.heap.size + 1 → wl Try.prog false ops r K (up ρ a (.pointer (some ⟨w.heap.size, 0, none⟩))) w') :
    w1 Try.prog false ⟨some a, .alloc 34, ty1, p1, af1, none⟩ (wl Try.prog false ops (⟨none, .store 34 (.tmp a) (.tmp b), ty2, p2, af2, none⟩ :: r) K) ρ w := by
  refine r_allocN z34 fun w3 hb3 hE3 hs3 => ?_
  refine wl_plain ?_
  refine r_stN (ws := ints (nums L)) ag34 (by decide) hb3 rep6_len (nums_len L) (by show up _ _ _ _ = _; simp [up]) hx (ints_one _) fun w4 h4 hC4 hs4 => ?_
  exact h w4 h4 (Ch.trans' hE3 hC4 fun k hk e => by omega) (by omega)
end
end Go.Proofs.Ytfbkoombkmpjkaa

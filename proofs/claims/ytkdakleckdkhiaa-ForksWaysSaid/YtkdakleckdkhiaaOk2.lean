/- forks: Tree, Index, Item, ref.Index at trees. -/
import Derived.Test.YtkdakleckdkhiaaSh
import Derived.Test.YtkdakleckdkhiaaOk
namespace Go.Proofs.Ytkdakleckdkhiaa
open Gv
theorem Tree_ok (v : Value) (t : T) (w : World) (h : Ints w v t.vec) (ht : t.size ≤ 10) : Calls Try.prog 18 #[v] w (Ret fun v' w' => v' = .tuple #[str t.text, .int .i64 0] ∧ Ext w w') :=
  Ret.mono (Tree_any v t.vec w h (by rw [T.vec_len]; omega)) fun v' w' ⟨hE, hv⟩ => by
    rcases hv with ⟨t', e, _, rfl⟩ | ⟨hno, _⟩
    · rw [vec_inj e]; exact ⟨rfl, hE⟩
    · exact (hno ⟨⟨t, rfl⟩, by rw [T.vec_len]; exact ht⟩).elim
theorem Index_ok (t : T) (w : World) (h : t.size ≤ 10) : Calls Try.prog 52 #[str t.text] w (Ret fun v w' => v = .tuple #[.int .i64 (srk t : Int), .int .i64 0] ∧ Ext w w') :=
  Ret.mono (Index_any t.text w) fun v w' ⟨hE, hv⟩ => by
    rcases hv with ⟨u, rfl, t', e, _, rfl⟩ | ⟨_, hno⟩
    · rw [text_inj e]; exact ⟨rfl, hE⟩
    · exact (hno ⟨t, rfl, h⟩).elim
theorem Item_ok (t : T) (k i : Nat) (w : World) (h : t.size ≤ 10) (hk : k = t.size) (hi : i = srk t) : Calls Try.prog 41 #[.int .i64 (k : Int), .int .i64 (i : Int)] w (Ret fun v w' => v = .tuple #[str t.text, .int .i64 0] ∧ Ext w w') :=
  Ret.mono (Item_any k i w) fun v w' ⟨hE, hv⟩ => by
    rcases hv with ⟨m, j, e1, _, e2, _, rfl⟩ | ⟨hno, _⟩
    · obtain rfl : k = m := by omega
      obtain rfl : i = j := by omega
      subst hk; subst hi
      rw [srk_get]; exact ⟨rfl, hE⟩
    · exact (hno ⟨k, i, rfl, by omega, rfl, by subst hk; subst hi; exact srk_lt t⟩).elim
end Go.Proofs.Ytkdakleckdkhiaa

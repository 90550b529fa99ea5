/- s[l:h:m], append in place, clear: what slices.Delete does; a part of an array variable. -/
import Derived.Test.YtocgehoffdjijaaGreatAggN
namespace Go.Proofs.YtocgehoffdjijaaGreat
namespace Gv
open Go.RowKit
section
variable {P : Program} {st : Bool} {K : Env → World → Prop} {ρ : Env} {w : World} {d : Nat} {ty : TypeId} {pos : String} {aft : Array Edge} {gd : Option (Nat × Bool)}
variable {x y : Operand} {t e : TypeId} {z v u : Value} {by_ : Nat} {sz n : Nat}
theorem run_slice3 {lo hi mx : Operand} {q : Option Addr} {c l h' m : Nat} (hi_ : sliceSz P t = some sz) (hl : bnd ρ (some lo) l 0) (hh : bnd ρ (some hi) h' n) (hm : bnd ρ (some mx) m c) (h1 : l ≤ h') (h2 : h' ≤ m) (h3 : m ≤ c) :
    (Instr.sliceAt t (.slice q n c) (some (ev ρ lo)) (some (ev ρ hi)) (some (ev ρ mx))).run P w = .ok (.slice (if m = l then q else q.map fun a => a.add (l * sz)) (h' - l) (m - l)) w := by
  obtain ⟨e, i, he, hi', hs⟩ := sliceSz_spec hi_
  have e1 : ∀ y code (k : IntKind) (m : Nat), m ≤ y → (Instr.sliceBound (.int k (m : Int)) y code).run P w = .ok m w := by
    intro y code k m hm
    have : (0 : Int) ≤ (m : Int) ∧ (m : Int) ≤ (y : Int) := by omega
    simp [Instr.sliceBound, asIntOf, hm]
  obtain ⟨k1, hk1⟩ := hl
  obtain ⟨k2, hk2⟩ := hh
  obtain ⟨k3, hk3⟩ := hm
  simp [Instr.sliceAt, Instr.slice, Instr.sliceBounds, run_underlying he, sizeOf, typeInfo, hi', hs, hk1, hk2, hk3, e1 _ _ _ _ h1, e1 _ _ _ _ h2, e1 _ _ _ _ h3]
theorem r_slice3 {lo hi mx : Operand} {q : Option Addr} {c l h' m : Nat} (hi_ : sliceSz P t = some sz) (hx : ev ρ x = .slice q n c) (hl : bnd ρ (some lo) l 0) (hh : bnd ρ (some hi) h' n) (hm : bnd ρ (some mx) m c) (h1 : l ≤ h') (h2 : h' ≤ m) (h3 : m ≤ c)
    (h : K (up ρ d (.slice (if m = l then q else q.map fun a => a.add (l * sz)) (h' - l) (m - l))) w) :
    w1 P st ⟨some d, .slice t x (some lo) (some hi) (some mx), ty, pos, aft, gd⟩ K ρ w := by
  refine w1_val (v := .slice (if m = l then q else q.map fun a => a.add (l * sz)) (h' - l) (m - l)) ?_ h
  simp [execOp, hx, run_slice3 (w := w) hi_ hl hh hm h1 h2 h3]
/-- 'append' where there is room: in place. -/
theorem r_append_room {g c m : Nat} {cur : Array Value} {news : List Value} (hi : elemI P t = some (e, z, 1, by_)) (hg : w.heap[g]? = some (.cells cur e (0, 0))) (hx : ev ρ x = .slice (some ⟨g, 0, none⟩) n c)
    (hsl : Sl w 1 u m news) (hy : ev ρ y = u) (h1 : ∀ q ∈ news, q.oneCell' = true) (hroom : n + m ≤ c) (hfit : n + m ≤ cur.size)
    (h : K (up ρ d (.slice (some ⟨g, 0, none⟩) (n + m) c)) (w.setRow g (cur.toList.take n ++ news ++ cur.toList.drop (n + m)).toArray)) :
    w1 P false ⟨some d, .call ⟨.builtin .append, #[x, y], #[t, t]⟩, ty, pos, aft, gd⟩ K ρ w := by
  obtain ⟨ht, i, hi, hz, hs, hbb⟩ := elemI_spec hi
  have hlen := hsl.length
  have hr : (Builtin.append_ #[t, t] ty #[.slice (some ⟨g, 0, none⟩) n c, u]).run P w = .ok (.slice (some ⟨g, 0, none⟩) (n + m) c) (w.setRow g (cur.toList.take n ++ news ++ cur.toList.drop (n + m)).toArray) := by
    have some_case : ∀ (a : Addr) (c2 : Nat), u = .slice (some a) m c2 → (∀ j q, news[j]? = some q → w.cell? (a.add j) = some q) → _ := fun a c2 hu hn => by
      have hr := run_append_room (P := P) w t ty e i ht hi g n c cur hg a m c2 news (by rw [hs]; exact hlen) hn h1 hroom (by rw [hs, hlen]; omega)
      rw [hs, hlen, Nat.mul_one, Nat.mul_one] at hr
      exact (show (Builtin.append_ #[t, t] ty #[.slice (some ⟨g, 0, none⟩) n c, u]).run P w = .ok (.slice (some ⟨g, 0, none⟩) (n + m) c) (w.setRow g (cur.toList.take n ++ news ++ cur.toList.drop (n + m)).toArray) by rw [hu]; exact hr)
    obtain ⟨q, c2, hu, hmc, hl, hm⟩ := hsl
    rcases hm with rfl | ⟨b, o, rfl, hbl, hm⟩
    · have hn0 : news = [] := List.eq_nil_of_length_eq_zero (by simpa using hl)
      subst hn0
      cases q with
      | some a => exact some_case a c2 hu (by simp)
      | none =>
        subst hu
        have he : (cur.toList.take n ++ [] ++ cur.toList.drop (n + 0)).toArray = cur := by simp
        rw [he, setRow_self w g cur e (0, 0) hg]
        have hnc : n ≤ c := by omega
        simp [Builtin.append_, run_underlying ht, sizeOf, typeInfo, hi, Builtin.lenOf, Builtin.firstCells, hnc, storeCells]
    · exact some_case ⟨b, o, none⟩ c2 hu fun j q hj => by rw [Addr.add_lit]; exact hm j q hj
  refine w1_val' (v := .slice (some ⟨g, 0, none⟩) (n + m) c) (w' := w.setRow g (cur.toList.take n ++ news ++ cur.toList.drop (n + m)).toArray) ?_ h
  simp [execOp, resolve, invoke, builtin, hx, hy, hr]
theorem run_clear_own {g o c : Nat} {cur : Array Value} (hi : elemI P t = some (e, z, 1, by_)) (hz1 : z.oneCell' = true) (hg : w.heap[g]? = some (.cells cur e (0, 0))) (hn : 0 < n) (hfit : o + n ≤ cur.size) :
    (Builtin.clear_ #[t] ty #[.slice (some ⟨g, o, none⟩) n c]).run P w = .ok (.tuple #[]) (w.setRow g (cur.toList.take o ++ List.replicate n z ++ cur.toList.drop (o + n)).toArray) := by
  obtain ⟨ht, i, hi, hz, hs, hbb⟩ := elemI_spec hi
  have hzc0 : z.cells = #[z] := by cases z <;> first | rfl | cases hz1
  have hzc : (Builtin.zeroCells z.cells n).toList = List.replicate n z := by
    rw [hzc0]
    simp [Builtin.zeroCells]
    apply List.ext_getElem
    · simp
    · intro i h1 h2
      simp [Nat.mod_one]
  have hst := run_storeCells_at P g o e (List.replicate n z) 0 cur w hg (by simpa using hfit) (by intro v hv'; rw [List.eq_of_mem_replicate hv']; exact hz1)
  simp only [Nat.add_zero, List.length_replicate] at hst
  have hv : ∀ w, (zeroValue e).run P w = .ok z w := fun w => by simp [zeroValue, typeInfo, hi, hz]
  obtain ⟨m, rfl⟩ : ∃ m, n = m + 1 := ⟨n - 1, by omega⟩
  simp [Builtin.clear_, run_underlying ht, hv, hzc, hst]
theorem r_clear {g o c : Nat} {cur : Array Value} (hi : elemI P t = some (e, z, 1, by_)) (hz1 : z.oneCell' = true) (hg : w.heap[g]? = some (.cells cur e (0, 0))) (hx : ev ρ x = .slice (some ⟨g, o, none⟩) n c) (hn : 0 < n) (hfit : o + n ≤ cur.size)
    (h : K ρ (w.setRow g (cur.toList.take o ++ List.replicate n z ++ cur.toList.drop (o + n)).toArray)) :
    w1 P false ⟨none, .call ⟨.builtin .clear, #[x], #[t]⟩, ty, pos, aft, gd⟩ K ρ w := by
  have hr := run_clear_own (ty := ty) (c := c) hi hz1 hg hn hfit
  refine w1_val' (v := .tuple #[]) (w' := w.setRow g (cur.toList.take o ++ List.replicate n z ++ cur.toList.drop (o + n)).toArray) ?_ h
  simp [execOp, resolve, invoke, builtin, hx, hr]
end
section
variable {P : Program} {st : Bool} {K : Env → World → Prop} {ρ : Env} {w : World} {d : Nat} {ty : TypeId} {pos : String} {aft : Array Edge} {gd : Option (Nat × Bool)}
variable {x y : Operand} {t : TypeId} {b n h' : Nat}
/-- 'a[:h]' of an array variable. -/
theorem r_sliceA {k : IntKind} (ht : arrSz P t = some (n, 1)) (hx : ev ρ x = .pointer (some ⟨b, 0, none⟩)) (hy : ev ρ y = .int k (h' : Int)) (h1 : h' ≤ n) (h : K (up ρ d (.slice (some ⟨b, 0, none⟩) h' n)) w) :
    w1 P st ⟨some d, .slice t x none (some y) none, ty, pos, aft, gd⟩ K ρ w := by
  unfold arrSz at ht
  split at ht
  · rename_i n' e hs
    cases hi : P.info? e with
    | none => rw [hi] at ht; cases ht
    | some i =>
      rw [hi] at ht
      simp only [Option.bind_some] at ht
      split at ht
      · cases ht
      · simp only [Option.some.injEq, Prod.mk.injEq] at ht
        obtain ⟨rfl, hs1⟩ := ht
        refine w1_val (v := .slice (some ⟨b, 0, none⟩) h' n') ?_ h
        simp [execOp, Instr.sliceAt, Instr.sureAddr, Instr.sliceBounds, Instr.sliceBound, hx, hy, asIntOf, run_underlying hs, sizeOf, typeInfo, hi, h1, Addr.add]
  · cases ht
/-- What such a part holds. -/
theorem Blk.part {w : World} {b h' n : Nat} {t : TypeId} {R : List Int} (hb : Blk w b t (ints R)) (hl : R.length = n) (h1 : h' ≤ n) : Ints w (.slice (some ⟨b, 0, none⟩) h' n) (R.take h') := by
  have hl2 : (R.take h').length = h' := by simp; omega
  refine ⟨some ⟨b, 0, none⟩, n, by rw [hl2], by omega, by rw [ints_length]; omega, .inr ⟨b, 0, rfl, hb.lt, fun j u hj => ?_⟩⟩
  have h2 : (ints R)[j]? = some u := by
    rw [← ints_take] at hj
    rw [List.getElem?_take] at hj
    split at hj
    · exact hj
    · cases hj
  have := hb.rd (k := j) h2
  simp only [Gv.rd, Option.bind_some] at this
  simpa [Addr.add] using this
end
end Gv
end Go.Proofs.YtocgehoffdjijaaGreat

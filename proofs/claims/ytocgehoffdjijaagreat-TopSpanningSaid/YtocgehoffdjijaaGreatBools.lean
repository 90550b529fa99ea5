/- Lists of bools: slices that are read, rows that are owned, and their rules. -/
import Derived.Test.YtocgehoffdjijaaGreatMem
namespace Go.Proofs.YtocgehoffdjijaaGreat
namespace Gv
/-- A sequence whose first piece is not the region i: 'upto' stops there. -/
def notReg (i : Nat) : Code → Bool
  | .region j _ _ => !(Nat.beq j i)
  | _ => true
theorem wc_seq_ne {P : Program} {Q : Exit → Env → World → Prop} {ρ : Env} {w : World} {a b : Code} (i : Nat) (_ : notReg i a = true) (h : wc P a (thenQ (wc P b Q) Q) ρ w) : wc P (.seq a b) Q ρ w := wc_seq h
section
variable {P : Program} {st : Bool} {K : Env → World → Prop} {ρ : Env} {w : World} {d : Nat} {ty : TypeId} {pos : String} {aft : Array Edge} {gd : Option (Nat × Bool)} {x y : Operand} {a b : Int} {k : IntKind} {t t2 : TypeId}
theorem k_lss_t (hx : ev ρ x = .int k a) (hy : ev ρ y = .int k b) (hc : a < b) (h : K (up ρ d (.bool true)) w) : w1 P st ⟨some d, .binOp .lss t x y t2, ty, pos, aft, gd⟩ K ρ w := r_lss hx hy (by rw [decide_eq_true hc]; exact h)
theorem k_lss_f (hx : ev ρ x = .int k a) (hy : ev ρ y = .int k b) (hc : ¬ (a < b)) (h : K (up ρ d (.bool false)) w) : w1 P st ⟨some d, .binOp .lss t x y t2, ty, pos, aft, gd⟩ K ρ w := r_lss hx hy (by rw [decide_eq_false hc]; exact h)
theorem k_leq_t (hx : ev ρ x = .int k a) (hy : ev ρ y = .int k b) (hc : a ≤ b) (h : K (up ρ d (.bool true)) w) : w1 P st ⟨some d, .binOp .leq t x y t2, ty, pos, aft, gd⟩ K ρ w := r_leq hx hy (by rw [decide_eq_true hc]; exact h)
theorem k_leq_f (hx : ev ρ x = .int k a) (hy : ev ρ y = .int k b) (hc : ¬ (a ≤ b)) (h : K (up ρ d (.bool false)) w) : w1 P st ⟨some d, .binOp .leq t x y t2, ty, pos, aft, gd⟩ K ρ w := r_leq hx hy (by rw [decide_eq_false hc]; exact h)
theorem k_gtr_t (hx : ev ρ x = .int k a) (hy : ev ρ y = .int k b) (hc : b < a) (h : K (up ρ d (.bool true)) w) : w1 P st ⟨some d, .binOp .gtr t x y t2, ty, pos, aft, gd⟩ K ρ w := r_gtr hx hy (by rw [decide_eq_true hc]; exact h)
theorem k_gtr_f (hx : ev ρ x = .int k a) (hy : ev ρ y = .int k b) (hc : ¬ (b < a)) (h : K (up ρ d (.bool false)) w) : w1 P st ⟨some d, .binOp .gtr t x y t2, ty, pos, aft, gd⟩ K ρ w := r_gtr hx hy (by rw [decide_eq_false hc]; exact h)
theorem k_geq_t (hx : ev ρ x = .int k a) (hy : ev ρ y = .int k b) (hc : b ≤ a) (h : K (up ρ d (.bool true)) w) : w1 P st ⟨some d, .binOp .geq t x y t2, ty, pos, aft, gd⟩ K ρ w := r_geq hx hy (by rw [decide_eq_true hc]; exact h)
theorem k_geq_f (hx : ev ρ x = .int k a) (hy : ev ρ y = .int k b) (hc : ¬ (b ≤ a)) (h : K (up ρ d (.bool false)) w) : w1 P st ⟨some d, .binOp .geq t x y t2, ty, pos, aft, gd⟩ K ρ w := r_geq hx hy (by rw [decide_eq_false hc]; exact h)
theorem k_eql_t (hx : ev ρ x = .int k a) (hy : ev ρ y = .int k b) (hc : a = b) (h : K (up ρ d (.bool true)) w) : w1 P st ⟨some d, .binOp .eql t x y t2, ty, pos, aft, gd⟩ K ρ w := r_eql hx hy (by rw [decide_eq_true hc]; exact h)
theorem k_eql_f (hx : ev ρ x = .int k a) (hy : ev ρ y = .int k b) (hc : ¬ (a = b)) (h : K (up ρ d (.bool false)) w) : w1 P st ⟨some d, .binOp .eql t x y t2, ty, pos, aft, gd⟩ K ρ w := r_eql hx hy (by rw [decide_eq_false hc]; exact h)
theorem k_neq_t (hx : ev ρ x = .int k a) (hy : ev ρ y = .int k b) (hc : a ≠ b) (h : K (up ρ d (.bool true)) w) : w1 P st ⟨some d, .binOp .neq t x y t2, ty, pos, aft, gd⟩ K ρ w := r_neq hx hy (by rw [decide_eq_true hc]; exact h)
theorem k_neq_f (hx : ev ρ x = .int k a) (hy : ev ρ y = .int k b) (hc : ¬ (a ≠ b)) (h : K (up ρ d (.bool false)) w) : w1 P st ⟨some d, .binOp .neq t x y t2, ty, pos, aft, gd⟩ K ρ w := r_neq hx hy (by rw [decide_eq_false hc]; exact h)
end
theorem r_eqlB {P : Program} {st : Bool} {K : Env → World → Prop} {ρ : Env} {w : World} {d : Nat} {ty : TypeId} {pos : String} {aft : Array Edge} {gd : Option (Nat × Bool)} {x y : Operand} {t t2 : TypeId} {a b : Bool}
    (ht : boolT P t = true) (hx : ev ρ x = .bool a) (hy : ev ρ y = .bool b) (h : K (up ρ d (.bool (a == b))) w) : w1 P st ⟨some d, .binOp .eql t x y t2, ty, pos, aft, gd⟩ K ρ w := by
  unfold boolT at ht
  split at ht
  · rename_i he
    have hq : ∀ D : Nat, (Op.equalIn (D + 1) t (.bool a) (.bool b)).run P w = .ok (a == b) w := fun D => by simp [Op.equalIn, run_underlying he]
    refine w1_val (v := .bool (a == b)) ?_ h
    have hq' := hq 9999
    simp [execOp, hx, hy, eqGuard, binOp, Op.equal, Op.maxDepth, hq']
  · cases ht
/-- What a law's copy of a table is. -/
theorem copy_bnd (T : List (List Int)) : ((T.take 11).map (·.take 12)).length ≤ 11 ∧ ∀ l ∈ (T.take 11).map (·.take 12), l.length ≤ 12 := by
  refine ⟨by simp; omega, fun l hl => ?_⟩
  obtain ⟨l0, _, rfl⟩ := List.mem_map.1 hl
  simp; omega
theorem list_bnd (L : List Int) : (L.take 12).length ≤ 12 := by simp; omega
def bls (L : List Bool) : List Value := L.map Value.bool
def Bls (w : World) (v : Value) (L : List Bool) : Prop := Sl w 1 v L.length (bls L)
def OwnL (w : World) (base : Nat) (e : TypeId) (v : Value) (L : List Bool) : Prop := w.ownsRow base e 1 v L.length (bls L)
theorem bls_getD {L : List Bool} {i : Nat} (h : i < L.length) : (bls L)[i]? = some (.bool (L.getD i false)) := by simp [bls, h, List.getD]
theorem bls_set (A : List Bool) (n : Nat) (a : Bool) : (bls A).set n (.bool a) = bls (A.set n a) := by simp [bls, List.map_set]
theorem bls_replicate (n : Nat) (a : Bool) : List.replicate n (.bool a) = bls (List.replicate n a) := by simp [bls]
theorem OwnL.bls {w : World} {base : Nat} {e : TypeId} {v : Value} {L : List Bool} (h : OwnL w base e v L) : Bls w v L := ownsRow_sl h
theorem Bls.ext {w w' : World} {v : Value} {L : List Bool} (h : Bls w v L) (hc : Ext w w') : Bls w' v L := Sl.ext h hc
theorem Bls.keep {S : Nat → Prop} {w w' : World} {v : Value} {L : List Bool} (h : Bls w v L) (hc : Ch S w w') (hs : ∀ g, v.ownBlock = some g → ¬ S g) : Bls w' v L := Sl.keep h hc hs
theorem OwnL.ext {w w' : World} {base : Nat} {e : TypeId} {v : Value} {L : List Bool} (h : OwnL w base e v L) (hc : Ext w w') : OwnL w' base e v L := ownsRow_ext h hc
theorem Bls.rd {w : World} {p : Option Addr} {n c : Nat} {L : List Bool} (h : Bls w (.slice p n c) L) {i : Nat} (hi : i < L.length) : rd w (pidx p i 1) = some (.bool (L.getD i false)) := Sl.rd1 h i (bls_getD hi)
theorem Bls.isSome {w : World} {p : Option Addr} {n c : Nat} {L : List Bool} (h : Bls w (.slice p n c) L) (hl : 0 < L.length) : p.isSome = true := Sl.isSome h hl
theorem Bls.slice {w : World} {v : Value} {L : List Bool} (h : Bls w v L) : ∃ p c, v = .slice p L.length c ∧ L.length ≤ c := Sl.slice h
section
variable {P : Program} {st : Bool} {K : Env → World → Prop} {ρ : Env} {w : World} {d : Nat} {ty : TypeId} {pos : String} {aft : Array Edge} {gd : Option (Nat × Bool)}
variable {x y : Operand} {t e ty' : TypeId} {z v u : Value} {base n m : Nat} {A B : List Bool}
theorem r_make_b {k : IntKind} {n : Nat} (hi : elemI P t = some (e, .bool false, 1, 1)) (hx : ev ρ x = .int k (n : Int)) (hy : ev ρ y = .int k (n : Int)) (hb : n ≤ 137438953472)
    (h : ∀ w', OwnL w' w.heap.size e (.slice (some ⟨w.heap.size, 0, none⟩) n n) (List.replicate n false) → Ext w w' → w.heap.size < w'.heap.size → K (up ρ d (.slice (some ⟨w.heap.size, 0, none⟩) n n)) w') :
    w1 P false ⟨some d, .makeSlice t x y, ty, pos, aft, gd⟩ K ρ w := by
  refine r_make_v hi rfl (by decide) hx hy hb fun w' h1 h2 h3 => h w' ?_ h2 h3
  unfold OwnL; rw [List.length_replicate, ← bls_replicate]
  unfold Own at h1; rwa [List.length_replicate] at h1
theorem r_st_b {i c : Nat} {p : Option Addr} {a : Bool} (hsz : P.cellsOf ty' = 1) (hown : OwnL w base e (.slice p n c) A) (hx : ev ρ x = .pointer (pidx p i 1)) (hy : ev ρ y = .bool a) (hin : i < A.length)
    (h : ∀ w', OwnL w' base e (.slice p n c) (A.set i a) → w.grownBy w' (Value.slice p n c).ownBlock → w'.heap.size = w.heap.size → K ρ w') :
    w1 P false ⟨none, .store ty' x y, ty, pos, aft, gd⟩ K ρ w := by
  obtain ⟨q, c', he, _⟩ := (OwnL.bls hown).slice
  cases he
  refine r_st_own hsz hx hy rfl hown hin fun w' h1 h2 h3 => h w' ?_ h2 h3
  unfold OwnL; rw [List.length_set, ← bls_set]; exact h1
theorem r_append1_b {ops : Array Oper} {r : List Oper} {d' dm : Nat} {a : Bool} {ty2 : TypeId} {pos' : String} {aft' : Array Edge} (hi : elemI P t = some (e, .bool false, 1, 1))
    (hown : OwnL w base e v A) (hy : ev ρ y = .bool a) (hx : ev (up ρ dm (.slice (some ⟨w.heap.size, 0, none⟩) 1 1)) (.tmp d') = v) (hb : A.length + 1 ≤ 17592186044416) (hbase : base ≤ w.heap.size)
    (h : ∀ v' w' q, OwnL w' base e v' (A ++ [a]) → w.grownBy w' v.ownBlock → v' ≠ .slice none 0 0 → (∀ g, v'.ownBlock = some g → v.ownBlock = some g ∨ w.heap.size ≤ g) → wl P false ops r K (up (up ρ dm q) d v') w') (hdm : Nat.beq dm 1000000 = false := by first | assumption | rfl) :
    w1 P false ⟨some dm, .buildSlice t 1 #[(0, y)], ty, pos, aft, none⟩ (wl P false ops (⟨some d, .call ⟨.builtin .append, #[.tmp d', .tmp dm], #[t, t]⟩, ty2, pos', aft', none⟩ :: r) K) ρ w := by
  refine r_append1 hi rfl (by decide) hown hy hx rfl (by omega) hbase fun v' w' q h1 h2 h3 h4 => h v' w' q ?_ h2 h3 h4
  unfold OwnL bls; rw [List.length_append, List.map_append]; exact h1
end
end Gv
end Go.Proofs.YtocgehoffdjijaaGreat

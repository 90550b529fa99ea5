/- posts: what is said of layers. -/
import Derived.Test.YtdpckinhoooigaaO
import Derived.Test.YtdpckinhoooigaaKI
import Derived.Test.YtdpckinhoooigaaLay
namespace Go.Proofs.Ytdpckinhoooigaa
open Gv PM MM
theorem el47 : elemI Try.prog 47 = some (51, .agg #[.int .i64 0, .slice none 0 0], 2, 32) := by kernel_rfl
theorem ag51 : aggT Try.prog 51 2 = true := by kernel_rfl
theorem rv_faQ {ρ : Env} {w : World} {d : Nat} {ty : TypeId} {pos : String} {aft : Array Edge} {gd : Option (Nat × Bool)} {x : Operand} {P : Program} {s k off : Nat} {q : Option Addr} (hf : fldOff P s k = some off) (hx : ev ρ x = .pointer q) (hq : q.isSome = true) :
    (execOp (ev ρ) ⟨some d, .fieldAddr s x k, ty, pos, aft, gd⟩).run P w = .ok (.value (.pointer (q.map fun p => p.add off))) w :=
  rv_of rfl (fun _ h => r_faQ hf hx hq h) fun _ _ h => val_of h
theorem rv_ext {ρ : Env} {w : World} {d : Nat} {ty : TypeId} {pos : String} {aft : Array Edge} {gd : Option (Nat × Bool)} {x : Operand} {P : Program} {vs : Array Value} {i : Nat} {v : Value} (hx : ev ρ x = .tuple vs) (hv : vs[i]? = some v) :
    (execOp (ev ρ) ⟨some d, .extract x i, ty, pos, aft, gd⟩).run P w = .ok (.value v) w := rv_of rfl (fun _ h => r_ext hx hv h) fun _ _ h => val_of h
/-- What a law's copy of layers is. -/
def cpL (x : Int × List Int) : Int × List Int := (x.1, x.2.take 12)
def copyL (L : List (Int × List Int)) : List (Int × List Int) := (L.take 101).map cpL
theorem copyL_bnd (L : List (Int × List Int)) : (copyL L).length ≤ 101 ∧ ∀ x ∈ copyL L, x.2.length ≤ 12 := by
  refine ⟨by simp [copyL]; omega, fun l hl => ?_⟩
  obtain ⟨l0, _, rfl⟩ := List.mem_map.1 hl
  simp [cpL]; omega
def lsum (L : List (Int × List Int)) (r : Nat) (c : Int) : Nat → Int
  | 0 => 0
  | k + 1 => lsum L r c k + if (L.getD k (0, [])).2.getD r 0 = c then (L.getD k (0, [])).1 else 0
theorem lsum_bnd {L : List (Int × List Int)} {r : Nat} {c : Int} : ∀ {k : Nat}, (∀ j, j < k → 0 ≤ (L.getD j (0, [])).1 ∧ (L.getD j (0, [])).1 ≤ 90) → 0 ≤ lsum L r c k ∧ lsum L r c k ≤ 90 * k
  | 0, _ => by simp [lsum]
  | k + 1, h => by
    have h1 := lsum_bnd (k := k) (r := r) (c := c) fun j hj => h j (by omega)
    have h2 := h k (by omega)
    simp only [lsum]
    split <;> omega
def maxW (T : List (List Int)) : Int := if 1 > rsum T 0 T.length then 1 else rsum T 0 T.length
def LayOk (T : List (List Int)) (x : Int × List Int) : Prop := (T.length = 0 ∨ x.1 ≤ maxW T) ∧ 1 ≤ x.1 ∧ ChB T x.2
instance (T : List (List Int)) (x : Int × List Int) : Decidable (LayOk T x) := by unfold LayOk; infer_instance
def SplitOk (T : List (List Int)) (L : List (Int × List Int)) : Prop := L.length ≤ 100 ∧ (∀ i, i < L.length → LayOk T (L.getD i (0, []))) ∧ ∀ r, r < T.length → ∀ c, c < T.length → lsum L r c L.length = ent T r c
instance (T : List (List Int)) (L : List (Int × List Int)) : Decidable (SplitOk T L) := by unfold SplitOk; infer_instance
def SumM (F : Int × Int → Option Value) (n : Nat) (p : Nat → Nat → Int) : Prop := ∀ r c : Nat, r < n → c < n → (F ((r : Int), (c : Int))).getD (.int .i64 0) = .int .i64 (p r c)
end Go.Proofs.Ytdpckinhoooigaa

/- Strings: their operations. -/
import Derived.Test.YtocgehoffdjijaaGreatCore
import Derived.WideShapes
namespace Go.Proofs.YtocgehoffdjijaaGreat
namespace Gv
open Go.RowKit
abbrev str (l : List UInt8) : Value := .string ⟨l.toArray⟩
def strT (P : Program) (t : TypeId) : Bool := match P.underlying t with | some .string => true | _ => false
theorem strT_spec {P : Program} {t : TypeId} (h : strT P t = true) : P.underlying t = some .string := by
  unfold strT at h; split at h <;> simp_all
theorem str_inj {a b : List UInt8} (h : str a = str b) : a = b := by simpa using h
theorem str_toList (a : List UInt8) : (⟨a.toArray⟩ : ByteArray).toList = a := by rw [ByteArray.toList_eq]
theorem str_size (a : List UInt8) : (⟨a.toArray⟩ : ByteArray).size = a.length := by simp [ByteArray.size]
theorem ba_inj {a b : ByteArray} (h : a.data.toList = b.data.toList) : a = b := by
  cases a; cases b; simp at h; rw [h]
theorem str_append (a b : List UInt8) : (⟨a.toArray⟩ : ByteArray) ++ ⟨b.toArray⟩ = ⟨(a ++ b).toArray⟩ := by
  apply ba_inj; simp
theorem str_beq (a b : List UInt8) : (a == b) = decide (a = b) := by
  by_cases h : a = b <;> simp [h]
theorem str_extract (a : List UInt8) {l h : Nat} (_hl : l ≤ h) (_hh : h ≤ a.length) : (⟨a.toArray⟩ : ByteArray).extract l h = ⟨((a.drop l).take (h - l)).toArray⟩ := by
  apply ba_inj
  simp only [ByteArray.data_extract, List.extract_toArray]
theorem str_get (a : List UInt8) {i : Nat} (h : i < a.length) : (⟨a.toArray⟩ : ByteArray)[i]? = some (a.getD i 0) := by
  have h2 : i < (⟨a.toArray⟩ : ByteArray).size := by rw [str_size]; exact h
  rw [getElem?_pos (⟨a.toArray⟩ : ByteArray) i h2, List.getD_eq_getElem?_getD, List.getElem?_eq_getElem h]
  rfl
section
variable {P : Program} {st : Bool} {K : Env → World → Prop} {ρ : Env} {w : World} {d : Nat} {t t2 ty : TypeId} {pos : String} {aft : Array Edge} {gd : Option (Nat × Bool)} {x y : Operand} {a b : List UInt8} {i : Int} {k : IntKind}
theorem r_sadd (hx : ev ρ x = str a) (hy : ev ρ y = str b) (hb : ((a.length + b.length : Nat) : Int) ≤ 9223372036854775807) (h : K (up ρ d (str (a ++ b))) w) : w1 P st ⟨some d, .binOp .add t x y t2, ty, pos, aft, gd⟩ K ρ w := by
  refine w1_val (v := str (a ++ b)) ?_ h
  have hm : IntKind.i64.max = 9223372036854775807 := by decide
  have hn : ¬ 9223372036854775807 < (a.length : Int) + b.length := by omega
  simp [execOp, hx, hy, eqGuard, binOp, Op.stringOp, str_size, hm, hn, str_append]
theorem r_seql (hx : ev ρ x = str a) (hy : ev ρ y = str b) (h : K (up ρ d (.bool (decide (a = b)))) w) : w1 P st ⟨some d, .binOp .eql t x y t2, ty, pos, aft, gd⟩ K ρ w :=
  w1_val (v := .bool (decide (a = b))) (by simp [execOp, hx, hy, eqGuard, binOp, Op.stringOp, str_beq]) h
theorem r_sneq (hx : ev ρ x = str a) (hy : ev ρ y = str b) (h : K (up ρ d (.bool (decide (a ≠ b)))) w) : w1 P st ⟨some d, .binOp .neq t x y t2, ty, pos, aft, gd⟩ K ρ w :=
  w1_val (v := .bool (decide (a ≠ b))) (by simp [execOp, hx, hy, eqGuard, binOp, Op.stringOp, str_beq]) h
theorem r_slss (hx : ev ρ x = str a) (hy : ev ρ y = str b) (h : K (up ρ d (.bool (Op.bytesLess a b))) w) : w1 P st ⟨some d, .binOp .lss t x y t2, ty, pos, aft, gd⟩ K ρ w :=
  w1_val (v := .bool (Op.bytesLess a b)) (by simp [execOp, hx, hy, eqGuard, binOp, Op.stringOp]) h
theorem r_slen (ht : strT P t = true) (hx : ev ρ x = str a) (h : K (up ρ d (.int .i64 (a.length : Int))) w) : w1 P st ⟨some d, .call ⟨.builtin .len, #[x], #[t]⟩, ty, pos, aft, gd⟩ K ρ w :=
  w1_val (v := .int .i64 (a.length : Int)) (by simp [execOp, resolve, invoke, builtin, Builtin.len_, hx, run_underlying (strT_spec ht), str_size, goInt]) h
theorem r_sidx (ht : strT P t = true) (hx : ev ρ x = str a) (hy : ev ρ y = .int k i) (h0 : 0 ≤ i) (h1 : i < a.length) (h : K (up ρ d (.int .u8 ((a.getD i.toNat 0).toNat : Int))) w) : w1 P st ⟨some d, .index t x y, ty, pos, aft, gd⟩ K ρ w := by
  refine w1_val (v := .int .u8 ((a.getD i.toNat 0).toNat : Int)) ?_ h
  have hi : i.toNat < a.length := by omega
  have hg := str_get a hi
  simp [execOp, Instr.index, hx, hy, asIntOf, run_underlying (strT_spec ht), h0, hg]
theorem r_sfrom (ht : strT P t = true) (hx : ev ρ x = str a) {z : Operand} (hy : ev ρ z = .int k i) (h0 : 0 ≤ i) (h1 : i ≤ a.length) (h : K (up ρ d (str (a.drop i.toNat))) w) : w1 P st ⟨some d, .slice t x (some z) none none, ty, pos, aft, gd⟩ K ρ w := by
  refine w1_val (v := str (a.drop i.toNat)) ?_ h
  have he := str_extract a (l := i.toNat) (h := a.length) (by omega) (Nat.le_refl _)
  have ht2 : (a.drop i.toNat).take (a.length - i.toNat) = a.drop i.toNat := List.take_of_length_le (by simp)
  rw [ht2] at he
  simp [execOp, Instr.sliceAt, Instr.slice, Instr.sliceBounds, Instr.sliceBound, hx, hy, asIntOf, run_underlying (strT_spec ht), str_size, h0, h1, he]
theorem r_sto (ht : strT P t = true) (hx : ev ρ x = str a) {z : Operand} (hy : ev ρ z = .int k i) (h0 : 0 ≤ i) (h1 : i ≤ a.length) (h : K (up ρ d (str (a.take i.toNat))) w) : w1 P st ⟨some d, .slice t x none (some z) none, ty, pos, aft, gd⟩ K ρ w := by
  refine w1_val (v := str (a.take i.toNat)) ?_ h
  have he := str_extract a (l := 0) (h := i.toNat) (by omega) (by omega)
  simp at he
  simp [execOp, Instr.sliceAt, Instr.slice, Instr.sliceBounds, Instr.sliceBound, hx, hy, asIntOf, run_underlying (strT_spec ht), str_size, h0, h1, he]
theorem r_ssub (ht : strT P t = true) (hx : ev ρ x = str a) {z u : Operand} {j : Int} {k' : IntKind} (hy : ev ρ z = .int k i) (hu : ev ρ u = .int k' j) (h0 : 0 ≤ i) (h1 : i ≤ j) (h2 : j ≤ a.length) (h : K (up ρ d (str ((a.drop i.toNat).take (j.toNat - i.toNat)))) w) : w1 P st ⟨some d, .slice t x (some z) (some u) none, ty, pos, aft, gd⟩ K ρ w := by
  refine w1_val (v := str ((a.drop i.toNat).take (j.toNat - i.toNat))) ?_ h
  have he := str_extract a (l := i.toNat) (h := j.toNat) (by omega) (by omega)
  have hj0 : 0 ≤ j := by omega
  have hn : ¬ max j 0 < i := by omega
  simp [execOp, Instr.sliceAt, Instr.slice, Instr.sliceBounds, Instr.sliceBound, hx, hy, hu, asIntOf, run_underlying (strT_spec ht), str_size, h0, hj0, h2, hn, he]
end
end Gv
end Go.Proofs.YtocgehoffdjijaaGreat

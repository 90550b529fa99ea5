/- The rules under short names, their plain conditions filled in by themselves: claims stay small. -/
import Derived.Test.YtocgehoffdjijaaGreatBools
namespace Go.Proofs.YtocgehoffdjijaaGreat
open Gv
section
variable {P : Program} {st : Bool} {K : Env → World → Prop} {ρ : Env} {w : World} {d : Nat} {ty : TypeId} {pos : String} {aft : Array Edge} {gd : Option (Nat × Bool)}
variable {x y : Operand} {a b : Int} {k : IntKind} {v : Value}
theorem zA (h : K (up ρ d v) w) (hx : ev ρ x = v := by first | exact Eq.refl (Value.int _ _) | exact Eq.refl (Value.slice _ _ _) | exact Eq.refl (Value.bool _) | exact Eq.refl (Value.pointer _) | exact Eq.refl (Value.map _) | exact Eq.refl (Value.agg _) | exact Eq.refl (Value.tuple _) | exact Eq.refl (Value.string _) | exact Eq.refl (Value.iface _ _) | exact rfl) :
    w1 P st ⟨some d, .move x, ty, pos, aft, gd⟩ K ρ w := r_move_v hx h
theorem zB (h : K (up ρ d v) w) (hx : ev ρ x = v := by first | exact Eq.refl (Value.int _ _) | exact Eq.refl (Value.slice _ _ _) | exact Eq.refl (Value.bool _) | exact Eq.refl (Value.pointer _) | exact Eq.refl (Value.map _) | exact Eq.refl (Value.agg _) | exact Eq.refl (Value.tuple _) | exact Eq.refl (Value.string _) | exact Eq.refl (Value.iface _ _) | exact rfl) :
    w1 P st ⟨some d, .assign x, ty, pos, aft, gd⟩ K ρ w := r_assign_v hx h
theorem zT (h : K (up ρ d v) w) (hx : ev ρ x = v := by exact (rfl : ev _ _ = .tuple _)) : w1 P st ⟨some d, .move x, ty, pos, aft, gd⟩ K ρ w := r_move_v hx h
theorem zC {c : Bool} {t t2 : TypeId} (h : K (up ρ d (.bool c)) w) (hx : ev ρ x = .int k a := by exact rfl) (hy : ev ρ y = .int k b := by exact rfl) (hc : decide (a < b) = c := by first | exact decide_eq_true (by omega) | exact decide_eq_false (by omega) | exact rfl) :
    w1 P st ⟨some d, .binOp .lss t x y t2, ty, pos, aft, gd⟩ K ρ w := r_lss hx hy (hc ▸ h)
theorem zD {c : Bool} {t t2 : TypeId} (h : K (up ρ d (.bool c)) w) (hx : ev ρ x = .int k a := by exact rfl) (hy : ev ρ y = .int k b := by exact rfl) (hc : decide (a ≤ b) = c := by first | exact decide_eq_true (by omega) | exact decide_eq_false (by omega) | exact rfl) :
    w1 P st ⟨some d, .binOp .leq t x y t2, ty, pos, aft, gd⟩ K ρ w := r_leq hx hy (hc ▸ h)
theorem zE {c : Bool} {t t2 : TypeId} (h : K (up ρ d (.bool c)) w) (hx : ev ρ x = .int k a := by exact rfl) (hy : ev ρ y = .int k b := by exact rfl) (hc : decide (b < a) = c := by first | exact decide_eq_true (by omega) | exact decide_eq_false (by omega) | exact rfl) :
    w1 P st ⟨some d, .binOp .gtr t x y t2, ty, pos, aft, gd⟩ K ρ w := r_gtr hx hy (hc ▸ h)
theorem zF {c : Bool} {t t2 : TypeId} (h : K (up ρ d (.bool c)) w) (hx : ev ρ x = .int k a := by exact rfl) (hy : ev ρ y = .int k b := by exact rfl) (hc : decide (b ≤ a) = c := by first | exact decide_eq_true (by omega) | exact decide_eq_false (by omega) | exact rfl) :
    w1 P st ⟨some d, .binOp .geq t x y t2, ty, pos, aft, gd⟩ K ρ w := r_geq hx hy (hc ▸ h)
theorem zG {c : Bool} {t t2 : TypeId} (h : K (up ρ d (.bool c)) w) (hx : ev ρ x = .int k a := by exact rfl) (hy : ev ρ y = .int k b := by exact rfl) (hc : decide (a = b) = c := by first | exact decide_eq_true (by omega) | exact decide_eq_false (by omega) | exact rfl) :
    w1 P st ⟨some d, .binOp .eql t x y t2, ty, pos, aft, gd⟩ K ρ w := r_eql hx hy (hc ▸ h)
theorem zH {c : Bool} {t t2 : TypeId} (h : K (up ρ d (.bool c)) w) (hx : ev ρ x = .int k a := by exact rfl) (hy : ev ρ y = .int k b := by exact rfl) (hc : decide (a ≠ b) = c := by first | exact decide_eq_true (by omega) | exact decide_eq_false (by omega) | exact rfl) :
    w1 P st ⟨some d, .binOp .neq t x y t2, ty, pos, aft, gd⟩ K ρ w := r_neq hx hy (hc ▸ h)
theorem zI {t t2 : TypeId} (h : K (up ρ d (.int .i64 (a + b))) w) (hx : ev ρ x = .int .i64 a := by exact rfl) (hy : ev ρ y = .int .i64 b := by exact rfl) (hc : -9223372036854775808 ≤ a + b ∧ a + b ≤ 9223372036854775807 := by omega) :
    w1 P st ⟨some d, .binOp .add t x y t2, ty, pos, aft, gd⟩ K ρ w := r_add_in hx hy hc h
theorem zJ {t t2 : TypeId} (h : K (up ρ d (.int .i64 (a - b))) w) (hx : ev ρ x = .int .i64 a := by exact rfl) (hy : ev ρ y = .int .i64 b := by exact rfl) (hc : -9223372036854775808 ≤ a - b ∧ a - b ≤ 9223372036854775807 := by omega) :
    w1 P st ⟨some d, .binOp .sub t x y t2, ty, pos, aft, gd⟩ K ρ w := r_sub_in hx hy hc h
theorem zK {t : TypeId} {p : Option Addr} {n c : Nat} (h : K (up ρ d (.int .i64 (n : Int))) w) (hx : ev ρ x = .slice p n c := by exact rfl) (ht : sliceT P t = true := by exact rfl) :
    w1 P st ⟨some d, .call ⟨.builtin .len, #[x], #[t]⟩, ty, pos, aft, gd⟩ K ρ w := r_len ht hx h
theorem zL {t : TypeId} {sz : Nat} {p : Option Addr} {n c : Nat} (h : K (up ρ d (.pointer (pidx p a.toNat sz))) w) (hx : ev ρ x = .slice p n c := by exact rfl) (hy : ev ρ y = .int k a := by exact rfl) (ht : sliceSz P t = some sz := by first | exact (rfl : _ = some 1) | exact (rfl : _ = some 2)) (hp : p.isSome = true := by first | rfl | assumption) (h0 : 0 ≤ a := by omega) (h1 : a < n := by omega) :
    w1 P st ⟨some d, .indexAddr t x y, ty, pos, aft, gd⟩ K ρ w := r_idx ht hx hy hp h0 h1 h
theorem zM {t : TypeId} {p : Option Addr} (h : K (up ρ d v) w) (hx : ev ρ x = .pointer p := by exact rfl) (hp : rd w p = some v := by assumption) (ht : cellT P t = true := by exact rfl) : w1 P st ⟨some d, .load t x, ty, pos, aft, gd⟩ K ρ w := r_ld ht hx hp h
theorem zN {t : TypeId} {p : Prop} [Decidable p] (h : K (up ρ d (.bool (decide ¬p))) w) (hx : ev ρ x = .bool (decide p) := by exact rfl) : w1 P st ⟨some d, .unOp .not t x, ty, pos, aft, gd⟩ K ρ w := r_not_d hx h
theorem zO {t : TypeId} {b : Bool} (h : K (up ρ d (.bool (!b))) w) (hx : ev ρ x = .bool b := by exact rfl) : w1 P st ⟨some d, .unOp .not t x, ty, pos, aft, gd⟩ K ρ w := r_not hx h
theorem zP {p : Addr} (h : K (up ρ d (.pointer (some p))) w) (hx : ev ρ x = .pointer (some p) := by exact rfl) : w1 P st ⟨some d, .nilCheck x, ty, pos, aft, gd⟩ K ρ w := r_nilCheck hx h
theorem zQ {c a b : Operand} (h : K (up ρ d v) w) (hc : ev ρ c = .bool true := by exact rfl) (hv : ev ρ a = v := by first | exact Eq.refl (Value.bool _) | exact rfl) : w1 P st ⟨some d, .pick c a b, ty, pos, aft, gd⟩ K ρ w := r_pick_t hc (by rw [hv]; exact h)
theorem zR {c a b : Operand} (h : K (up ρ d v) w) (hc : ev ρ c = .bool false := by exact rfl) (hv : ev ρ b = v := by first | exact Eq.refl (Value.bool _) | exact rfl) : w1 P st ⟨some d, .pick c a b, ty, pos, aft, gd⟩ K ρ w := r_pick_f hc (by rw [hv]; exact h)
theorem zS {vs : Array Value} {i : Nat} (h : K (up ρ d v) w) (hx : ev ρ x = .tuple vs := by exact rfl) (hv : vs[i]? = some v := by first | exact Eq.refl (some (Value.int _ _)) | exact Eq.refl (some (Value.slice _ _ _)) | exact Eq.refl (some (Value.bool _)) | exact Eq.refl (some (Value.pointer _)) | exact Eq.refl (some (Value.map _)) | exact Eq.refl (some (Value.agg _)) | exact rfl) :
    w1 P st ⟨some d, .extract x i, ty, pos, aft, gd⟩ K ρ w := r_ext hx hv h
theorem zU {ops : Array Oper} {x : Op} {dd : Option Nat} {r : List Oper} {j t : Nat} {b : Bool} (h : w1 P st ⟨dd, x, ty, pos, aft, some (j, b)⟩ (wl P st ops r K) ρ w) (ht : (ops[j]?).bind (·.dst) = some t := by exact rfl) (hb : ρ t = .bool b := by exact rfl) :
    wl P st ops (⟨dd, x, ty, pos, aft, some (j, b)⟩ :: r) K ρ w := wl_run ht hb h
theorem zV {ops : Array Oper} {x : Op} {dd : Option Nat} {r : List Oper} {j t : Nat} {b b' : Bool} (h : wl P st ops r K (upo ρ dd undef) w) (ht : (ops[j]?).bind (·.dst) = some t := by exact rfl) (hb : ρ t = .bool b' := by exact rfl) (hn : b' = !b := by exact rfl) :
    wl P st ops (⟨dd, x, ty, pos, aft, some (j, b)⟩ :: r) K ρ w := wl_pass ht hb hn h
theorem zW {ops : Array Oper} {x : Op} {dd : Option Nat} {r : List Oper} {j t : Nat} {b : Bool} (h : wl P st ops r K (upo ρ dd undef) w) (ht : (ops[j]?).bind (·.dst) = some t := by exact rfl) (hb : ρ t = undef := by exact rfl) :
    wl P st ops (⟨dd, x, ty, pos, aft, some (j, b)⟩ :: r) K ρ w := wl_dead ht hb h
theorem zX {Q : Exit → Env → World → Prop} {c : Operand} {a b : Code} (h : wc P a Q ρ w) (hc : ev ρ c = .bool true := by exact rfl) : wc P (.cond c a b) Q ρ w := wc_cond_t hc h
theorem zY {Q : Exit → Env → World → Prop} {c : Operand} {a b : Code} (h : wc P b Q ρ w) (hc : ev ρ c = .bool false := by exact rfl) : wc P (.cond c a b) Q ρ w := wc_cond_f hc h
theorem zZ {Q : Exit → Env → World → Prop} {id i : Nat} (h : Q (.exit i) ρ w) (hb : Nat.beq i id = false := by exact rfl) : inBl id Q (.exit i) ρ w := inBl_out hb h
theorem za {ops : Array Oper} {x : Op} {dd : Option Nat} {r : List Oper} (h : w1 P st ⟨dd, x, ty, pos, aft, none⟩ (wl P st ops r K) ρ w) : wl P st ops (⟨dd, x, ty, pos, aft, none⟩ :: r) K ρ w := wl_plain h
theorem zb {ops : Array Oper} (h : K ρ w) : wl P st ops [] K ρ w := wl_nil h
theorem zc {Q : Exit → Env → World → Prop} {a b : Code} (h : wc P a (thenQ (wc P b Q) Q) ρ w) : wc P (.seq a b) Q ρ w := wc_seq h
theorem zd {Q : Exit → Env → World → Prop} {id : Nat} {l : List Oper} (h : wl P false l.toArray l (Q .normal) ρ w) : wc P (.region id l.toArray false) Q ρ w := wc_region h
theorem ze {next : Env → World → Prop} {Q : Exit → Env → World → Prop} (h : next ρ w) : thenQ next Q .normal ρ w := thenQ_normal h
theorem zf {next : Env → World → Prop} {Q : Exit → Env → World → Prop} (h : Q .ret ρ w) : thenQ next Q .ret ρ w := thenQ_ret h
theorem zg {next : Env → World → Prop} {Q : Exit → Env → World → Prop} {i : Nat} (h : Q (.exit i) ρ w) : thenQ next Q (.exit i) ρ w := thenQ_exit h
theorem zh {Q : Exit → Env → World → Prop} {id : Nat} (h : Q .normal ρ w) : inBl id Q .normal ρ w := inBl_normal h
theorem zi {Q : Exit → Env → World → Prop} {id : Nat} (h : Q .ret ρ w) : inBl id Q .ret ρ w := inBl_ret h
theorem zj {Q : Exit → Env → World → Prop} {id : Nat} (h : Q .normal ρ w) : inBl id Q (.exit id) ρ w := inBl_here h
theorem zk {Q : Exit → Env → World → Prop} (h : Q .normal ρ w) : wc P .skip Q ρ w := wc_skip h
theorem zl {Q : Exit → Env → World → Prop} {id : Nat} {b : Code} (h : wc P b (inBl id Q) ρ w) : wc P (.block id b) Q ρ w := wc_block h
theorem zm {Q : Exit → Env → World → Prop} {id : Nat} (h : Q (.exit id) ρ w) : wc P (.exit id) Q ρ w := wc_exit h
theorem zn {Q : Exit → Env → World → Prop} (h : Q .ret ρ w) : wc P .ret Q ρ w := wc_ret h
theorem zo {Q : Exit → Env → World → Prop} {b : Code} (h : wc P b (noG Q) ρ w) : wc P (.scope b) Q ρ w := wc_scope h
theorem zp {Q : Exit → Env → World → Prop} (h : Q .normal ρ w) : noG Q .normal ρ w := noG_normal h
theorem zq {Q : Exit → Env → World → Prop} (h : Q .ret ρ w) : noG Q .ret ρ w := noG_ret h
theorem zr {Q : Exit → Env → World → Prop} {i : Nat} (h : Q (.exit i) ρ w) : noG Q (.exit i) ρ w := noG_exit h
theorem zs {Q : Exit → Env → World → Prop} {l : Nat} (h : Q .normal ρ w) : wc P (.label l) Q ρ w := wc_label h
theorem zt {ops : Array Oper} {x : Op} {dd : Option Nat} {r : List Oper} {j t : Nat} {p : Prop} [Decidable p] (h1 : p → w1 P st ⟨dd, x, ty, pos, aft, some (j, true)⟩ (wl P st ops r K) (up ρ t (.bool true)) w) (h2 : ¬p → wl P st ops r K (upo (up ρ t (.bool false)) dd undef) w) (ht : (ops[j]?).bind (·.dst) = some t := by exact rfl) (hb : ρ t = .bool (decide p) := by exact rfl) :
    wl P st ops (⟨dd, x, ty, pos, aft, some (j, true)⟩ :: r) K ρ w := wl_if_t ht hb h1 h2
theorem zu {ops : Array Oper} {x : Op} {dd : Option Nat} {r : List Oper} {j t : Nat} {p : Prop} [Decidable p] (h1 : ¬p → w1 P st ⟨dd, x, ty, pos, aft, some (j, false)⟩ (wl P st ops r K) (up ρ t (.bool false)) w) (h2 : p → wl P st ops r K (upo (up ρ t (.bool true)) dd undef) w) (ht : (ops[j]?).bind (·.dst) = some t := by exact rfl) (hb : ρ t = .bool (decide p) := by exact rfl) :
    wl P st ops (⟨dd, x, ty, pos, aft, some (j, false)⟩ :: r) K ρ w := wl_if_f ht hb h1 h2
theorem zv {Q : Exit → Env → World → Prop} {c : Operand} {a b : Code} {p : Prop} [Decidable p] (h1 : p → wc P a Q ρ w) (h2 : ¬p → wc P b Q ρ w) (hc : ev ρ c = .bool (decide p) := by exact rfl) : wc P (.cond c a b) Q ρ w := wc_cond_d hc h1 h2
end
end Go.Proofs.YtocgehoffdjijaaGreat

/- forks: trees as values; size, text. -/
import Derived.Test.YtocgehoffdjijaaGreatIfc
import Derived.Test.YtocgehoffdjijaaGreatQ
import Derived.Test.YtocgehoffdjijaaGreatDelS
import Derived.Test.YtocgehoffdjijaaGreatShR
import Derived.Test.YtocgehoffdjijaaGreatPF
namespace Go.Proofs.YtocgehoffdjijaaGreat
open Gv
/-- A tree as a value. -/
def tv : T → Value
  | .lf => .iface 237 (.agg #[])
  | .nd l r => .iface 189 (.agg #[tv l, tv r])
theorem tv_one (x : T) : (tv x).oneCell' = true := by cases x <;> rfl
theorem ct80 : cellT Tryz.prog 152 = true := by kernel_rfl
theorem fo109_0 : fldOff Tryz.prog 189 0 = some 0 := by kernel_rfl
theorem fo109_1 : fldOff Tryz.prog 189 1 = some 1 := by kernel_rfl
theorem mSizeF : methF Tryz.prog 189 "lampbox/forks.size" 217 = true := by kernel_rfl
theorem mSizeL : methF Tryz.prog 237 "lampbox/forks.size" 220 = true := by kernel_rfl
def SizeC : T → World → Prop
  | .lf, w => Calls Tryz.prog 220 #[.agg #[]] w (Ret fun v w' => v = .int .i64 0 ∧ Ext w w')
  | .nd l r, w => Calls Tryz.prog 217 #[.agg #[tv l, tv r]] w (Ret fun v w' => v = .int .i64 ((T.nd l r).size : Int) ∧ Ext w w')
section
variable {K : Env → World → Prop} {ρ : Env} {w : World} {d : Nat} {ty : TypeId} {pos : String} {aft : Array Edge} {gd : Option (Nat × Bool)} {x : Operand} {t : T} {ts : Array TypeId}
theorem r_size_of (hs : ∀ w, SizeC t w) (hx : ev ρ x = tv t) (h : ∀ w', Ext w w' → K (up ρ d (.int .i64 (t.size : Int))) w') : w1 Tryz.prog false ⟨some d, .call ⟨.invoke x "lampbox/forks.size", #[], ts⟩, ty, pos, aft, gd⟩ K ρ w := by
  have hs := hs w
  cases t with
  | lf => exact r_invoke hx mSizeL (by kernel_rfl) hs fun u w' ⟨e, hE⟩ => by subst e; exact h w' hE
  | nd l r => exact r_invoke hx mSizeF (by kernel_rfl) hs fun u w' ⟨e, hE⟩ => by subst e; exact h w' hE
end
set_option maxRecDepth 20000 in
set_option maxHeartbeats 1000000 in
theorem size_any : ∀ (x : T) (w : World), x.size ≤ 1000000 → SizeC x w
  | .lf, w, _ => by
    show Calls Tryz.prog 220 #[.agg #[]] w _
    refine calls_of_wc (args := [.agg #[]]) Tryz.func220 rfl ?_ ?_; kernel_rfl
    repeat' (first|refine za ?_|refine zc ?_|refine zd ?_)
    refine r_boxN (cells := []) rfl fun w1 hb1 hE1 hs1 => ?_
    repeat' (first|refine za ?_|refine zB ?_|refine zb ?_|refine zc ?_|refine ze ?_|refine zd ?_|refine zn ?_)
    refine post1 (v := .int .i64 0) rfl rfl ?_
    exact ⟨rfl, hE1⟩
  | .nd l r, w, hb => by
    have hsz : (T.nd l r).size = 1 + l.size + r.size := rfl
    have hl := fun w => size_any l w (by omega)
    have hr := fun w => size_any r w (by omega)
    show Calls Tryz.prog 217 #[.agg #[tv l, tv r]] w _
    refine calls_of_wc (args := [.agg #[tv l, tv r]]) Tryz.func217 rfl ?_ ?_; kernel_rfl
    repeat' (first|refine za ?_|refine zc ?_|refine zd ?_)
    refine r_boxN (cells := [tv l, tv r]) rfl fun w1 hb1 hE1 hs1 => ?_
    obtain ⟨b1, eb1⟩ : ∃ b, b = w.heap.size := ⟨_, rfl⟩
    rw [← eb1] at hb1 ⊢
    have hbd := hb1.ext (Ext.drew w1)
    repeat' (first|refine za ?_|refine zB ?_|refine zb ?_|refine zc ?_|refine ze ?_)
    refine wc_heldB (fun w' => Ext w1.drew w') (.take 0 (.take 1 (.take 4 (.take 5 (.one 2 (.take 3 (.one 6 (.take 7 (.one 8 .done))))))))) (by kernel_rfl) (by kernel_rfl) (Ext.refl _) ?_
    refine whB_take rfl rfl (fun w' hw' => rv_faE (o' := 0) fo109_0 rfl rfl) ?_
    refine whB_take rfl rfl (fun w' hw' => rv_ld ct80 rfl ((hbd.ext hw').rd (v := tv l) rfl)) ?_
    refine whB_take rfl rfl (fun w' hw' => rv_faE (o' := 1) fo109_1 rfl rfl) ?_
    refine whB_take rfl rfl (fun w' hw' => rv_ld ct80 rfl ((hbd.ext hw').rd (v := tv r) rfl)) ?_
    refine whB_one rfl rfl ?_
    refine r_size_of hl rfl fun w2 hE2 => ?_
    refine ⟨hE2, whB_take rfl rfl (fun w' hw' => rv_of rfl (fun _ h => r_add_in rfl rfl ⟨by omega, by omega⟩ h) fun _ _ h => val_of h) ?_⟩
    refine whB_one rfl rfl ?_
    refine r_size_of hr rfl fun w3 hE3 => ?_
    refine ⟨hE2.trans hE3, whB_take rfl rfl (fun w' hw' => rv_of rfl (fun _ h => r_add_in rfl rfl ⟨by omega, by omega⟩ h) fun _ _ h => val_of h) ?_⟩
    refine whB_one rfl rfl ?_
    refine r_assign_v (v := .int .i64 (1 + l.size + r.size : Int)) rfl ?_
    refine ⟨hE2.trans hE3, whB_done ?_⟩
    repeat' (first|refine ze ?_|refine zn ?_)
    refine post1 (v := .int .i64 (1 + l.size + r.size : Int)) rfl rfl ?_
    exact ⟨by rw [hsz]; push_cast; rfl, (hE1.trans (Ext.drew w1)).trans (hE2.trans hE3)⟩
theorem rv_sadd {P : Program} {ρ : Env} {w : World} {d : Nat} {t t2 ty : TypeId} {pos : String} {aft : Array Edge} {gd : Option (Nat × Bool)} {x y : Operand} {a b : List UInt8} (hx : ev ρ x = str a) (hy : ev ρ y = str b) (hb : ((a.length + b.length : Nat) : Int) ≤ 9223372036854775807) :
    (execOp (ev ρ) ⟨some d, .binOp .add t x y t2, ty, pos, aft, gd⟩).run P w = .ok (.value (str (a ++ b))) w := rv_of rfl (fun _ h => r_sadd hx hy hb h) fun _ _ h => val_of h
theorem r_size {K : Env → World → Prop} {ρ : Env} {w : World} {d : Nat} {ty : TypeId} {pos : String} {aft : Array Edge} {gd : Option (Nat × Bool)} {x : Operand} {t : T} {ts : Array TypeId} (hb : t.size ≤ 1000000) (hx : ev ρ x = tv t) (h : ∀ w', Ext w w' → K (up ρ d (.int .i64 (t.size : Int))) w') : w1 Tryz.prog false ⟨some d, .call ⟨.invoke x "lampbox/forks.size", #[], ts⟩, ty, pos, aft, gd⟩ K ρ w := r_size_of (fun w => size_any t w hb) hx h
end Go.Proofs.YtocgehoffdjijaaGreat

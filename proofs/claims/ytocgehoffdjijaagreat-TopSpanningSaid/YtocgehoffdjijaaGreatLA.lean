/- top: seals: the bytes of a string, counts; top: seals: ranges over the counts; top: seals: kinds, Collect, ContainsFunc, isEven; top: seals: isChain, isEven. -/
import Derived.Test.YtocgehoffdjijaaGreatRngL
import Derived.Test.YtocgehoffdjijaaGreatAggN
import Derived.Test.YtocgehoffdjijaaGreatEqA
import Derived.Test.YtocgehoffdjijaaGreatShR
import Derived.Test.YtocgehoffdjijaaGreatStr
import Derived.Test.YtocgehoffdjijaaGreatQ
import Derived.Test.YtocgehoffdjijaaGreatPF
import Derived.Lib.ConvBytes
/- top: seals: the bytes of a string, counts. -/
namespace Go.Proofs.YtocgehoffdjijaaGreat
namespace Gv
def bys (l : Str) : List Value := l.map fun b => .int .u8 (b.toNat : Int)
theorem bys_len (l : Str) : (bys l).length = l.length := by simp [bys]
theorem bys_get {l : Str} {i : Nat} (h : i < l.length) : (bys l)[i]? = some (.int .u8 ((l.getD i 0).toNat : Int)) := by simp [bys, h, List.getD]
abbrev Byts (w : World) (v : Value) (l : Str) : Prop := Sl w 1 v l.length (bys l)
def bsT (P : Program) (t : TypeId) : Option TypeId := match P.underlying t with
  | some (.slice e) => match P.underlying e with
    | some (.int .u8) => some e
    | _ => none
  | _ => none
section
variable {P : Program} {K : Env → World → Prop} {ρ : Env} {w : World} {d : Nat} {s t ty e : TypeId} {pos : String} {aft : Array Edge} {gd : Option (Nat × Bool)} {x : Operand} {a : Str}
theorem r_s2b (hs : strT P s = true) (ht : bsT P t = some e) (hx : ev ρ x = str a) (h : ∀ c w', Byts w' (.slice (some ⟨w.heap.size, 0, none⟩) a.length c) a → Ext w w' → w'.heap.size = w.heap.size + 1 → K (up ρ d (.slice (some ⟨w.heap.size, 0, none⟩) a.length c)) w') :
    w1 P false ⟨some d, .convert s t x, ty, pos, aft, gd⟩ K ρ w := by
  unfold bsT at ht
  split at ht
  · rename_i e0 hd
    split at ht
    · rename_i he
      cases ht
      have hr := Lib.run_convert_string_bytes (P := P) w s t e ⟨a.toArray⟩ (strT_spec hs) hd he
      rw [str_size] at hr
      refine w1_val' (v := .slice (some ⟨w.heap.size, 0, none⟩) a.length (grownCap w a.length 0 e)) (w' := Lib.bytesWorld w e ⟨a.toArray⟩) (by simp [execOp, hx, hr]) (h _ _ ?_ ?_ (Lib.bytesWorld_size _ _ _))
      · refine ⟨_, _, rfl, grownCap_ge _ _ _ _, by rw [bys_len, Nat.mul_one], .inr ⟨w.heap.size, 0, rfl, by rw [Lib.bytesWorld_size]; omega, fun j u hj => ?_⟩⟩
        have hjl : j < a.length := by have := (List.getElem?_eq_some_iff.1 hj).1; rwa [bys_len] at this
        rw [bys_get hjl] at hj
        cases hj
        have := Lib.bytesWorld_cell w e ⟨a.toArray⟩ j (by rw [str_size]; exact hjl)
        rw [Nat.zero_add, this]
      · exact ⟨rfl, rfl, rfl, by rw [Lib.bytesWorld_size]; omega, fun k hk _ => Lib.bytesWorld_at_old _ _ _ _ hk⟩
    · cases ht
  · cases ht
theorem r_sub_v {P : Program} {st : Bool} {K : Env → World → Prop} {ρ : Env} {w : World} {d : Nat} {ty t t2 : TypeId} {pos : String} {aft : Array Edge} {gd : Option (Nat × Bool)} {x y : Operand} {k : IntKind} {a b c : Int} (hx : ev ρ x = .int k a) (hy : ev ρ y = .int k b) (hc : k.wrap (a - b) = c) (h : K (up ρ d (.int k c)) w) :
    w1 P st ⟨some d, .binOp .sub t x y t2, ty, pos, aft, gd⟩ K ρ w := r_sub hx hy (by rw [hc]; exact h)
theorem u8_sub {k : Nat} (hk : k < 4) : IntKind.u8.wrap (((97 + k : Nat) : Int) - 97) = (k : Int) := by
  rcases (by omega : k = 0 ∨ k = 1 ∨ k = 2 ∨ k = 3) with rfl | rfl | rfl | rfl <;> decide
theorem Byts.rd {p : Option Addr} {n c i : Nat} (h : Byts w (.slice p n c) a) (hi : i < a.length) : Gv.rd w (pidx p i 1) = some (.int .u8 ((a.getD i 0).toNat : Int)) := Sl.rd1 h i (bys_get hi)
theorem Byts.isSome {p : Option Addr} {n c : Nat} (h : Byts w (.slice p n c) a) (hi : 0 < a.length) : p.isSome = true := Sl.isSome h hi
end
end Gv
open Gv
def cV (l : Str) : List Value := [.int .i64 (cntc l 0), .int .i64 (cntc l 1), .int .i64 (cntc l 2), .int .i64 (cntc l 3)]
theorem cntc_le (l : Str) (k : Nat) : cntc l k ≤ l.length := List.countP_le_length
theorem cntc_take {s : Str} {i : Nat} (h : i < s.length) (k : Nat) : cntc (s.take (i + 1)) k = cntc (s.take i) k + if (s.getD i 0).toNat = 97 + k then 1 else 0 := by
  unfold cntc
  rw [List.take_succ_eq_append_getElem h, show s.getD i 0 = s[i] by simp [List.getD, h], List.countP_append, List.countP_cons, List.countP_nil]
  simp
theorem cV_step {s : Str} {i : Nat} (h : i < s.length) {k : Nat} (hk : k < 4) (hc : (s.getD i 0).toNat = 97 + k) : (cV (s.take i)).set k (.int .i64 ((cntc (s.take i) k : Int) + 1)) = cV (s.take (i + 1)) := by
  have h0 := cntc_take h 0
  have h1 := cntc_take h 1
  have h2 := cntc_take h 2
  have h3 := cntc_take h 3
  unfold cV
  rcases (by omega : k = 0 ∨ k = 1 ∨ k = 2 ∨ k = 3) with rfl | rfl | rfl | rfl
  · rw [if_pos (by omega)] at h0; rw [if_neg (by omega)] at h1 h2 h3; rw [h0, h1, h2, h3]; rfl
  · rw [if_pos (by omega)] at h1; rw [if_neg (by omega)] at h0 h2 h3; rw [h0, h1, h2, h3]; rfl
  · rw [if_pos (by omega)] at h2; rw [if_neg (by omega)] at h0 h1 h3; rw [h0, h1, h2, h3]; rfl
  · rw [if_pos (by omega)] at h3; rw [if_neg (by omega)] at h0 h1 h2; rw [h0, h1, h2, h3]; rfl
theorem cV_get {s : Str} {k : Nat} (hk : k < 4) : (cV s)[k]? = some (.int .i64 (cntc s k)) := by
  rcases (by omega : k = 0 ∨ k = 1 ∨ k = 2 ∨ k = 3) with rfl | rfl | rfl | rfl <;> rfl
theorem okC_get {s : Str} (h : okC s = true) {i : Nat} (hi : i < s.length) : ∃ k, k < 4 ∧ (s.getD i 0).toNat = 97 + k := by
  unfold okC at h
  simp only [Bool.and_eq_true, List.all_eq_true, decide_eq_true_eq] at h
  have := h.2 (s.getD i 0) (by rw [show s.getD i 0 = s[i] by simp [List.getD, hi]]; exact List.getElem_mem hi)
  exact ⟨(s.getD i 0).toNat - 97, by omega, by omega⟩
/-- Every letter one of four. -/
def Ltr (s : Str) : Prop := s.length ≤ 1000 ∧ ∀ i, i < s.length → ∃ k, k < 4 ∧ (s.getD i 0).toNat = 97 + k
theorem okC_ltr {s : Str} (h : okC s = true) : Ltr s := ⟨by unfold okC at h; simp only [Bool.and_eq_true, decide_eq_true_eq] at h; omega, fun _ hi => okC_get h hi⟩
theorem st9 : strT Tryz.prog 9 = true := by kernel_rfl
theorem bs144 : bsT Tryz.prog 144 = some 5 := by kernel_rfl
theorem z87 : (Tryz.prog.info? 87).bind (·.zero) = some (.agg (cV []).toArray) := by kernel_rfl
theorem ag87 : aggT Tryz.prog 87 4 = true := by kernel_rfl
theorem sz144 : sliceSz Tryz.prog 144 = some 1 := by kernel_rfl
theorem ct5 : cellT Tryz.prog 5 = true := by kernel_rfl
theorem ct3 : cellT Tryz.prog 3 = true := by kernel_rfl
theorem co3 : Tryz.prog.cellsOf 3 = 1 := by kernel_rfl
theorem as87 : arrSz Tryz.prog 87 = some (4, 1) := by kernel_rfl
set_option maxRecDepth 20000 in
set_option maxHeartbeats 1000000 in
theorem of_any (s : Str) (w : World) (hs : Ltr s) :
    Calls Tryz.prog 38 #[str s] w (Ret fun v w' => v = .agg (cV s).toArray ∧ Ext w w') := by
  refine calls_of_wc (args := [str s]) Tryz.func38 rfl ?_ ?_; kernel_rfl
  repeat' (first|refine za ?_|refine zc ?_|refine zd ?_)
  refine r_allocN z87 fun w1 hb1 hE1 hs1 => ?_
  obtain ⟨b1, eb1⟩ : ∃ b, b = w.heap.size := ⟨_, rfl⟩
  rw [← eb1] at hb1 ⊢
  repeat' (first|refine za ?_|refine zb ?_|refine zc ?_|refine ze ?_|refine zd ?_)
  refine r_allocN z87 fun w2 hb2 hE2 hs2 => ?_
  obtain ⟨b2, eb2⟩ : ∃ b, b = w1.heap.size := ⟨_, rfl⟩
  rw [← eb2] at hb2 ⊢
  repeat' (first|refine za ?_|refine zA ?_|refine zb ?_|refine zc ?_|refine ze ?_|refine zd ?_)
  refine r_s2b st9 bs144 rfl fun c w3 hq hE3 hs3 => ?_
  obtain ⟨b3, eb3⟩ : ∃ b, b = w2.heap.size := ⟨_, rfl⟩
  rw [← eb3] at hq ⊢
  have hl := hs.1
  repeat' (first|refine za ?_|refine zA ?_|refine zb ?_|refine ze ?_|refine zK ?_|refine zl ?_)
  refine wc_loop [0, 2, 3, 7, 8] (fun (i : Nat) => [(9, .int .i64 i)]) (fun i wk => i ≤ s.length ∧ Blk wk b2 87 (cV (s.take i)) ∧ Byts wk (.slice (some ⟨b3, 0, none⟩) s.length c) s ∧ Ch (fun k => k = b2) w3 wk) (fun i => s.length - i) 0 rfl ⟨rfl, trivial⟩ ⟨by omega, hb2.ext hE3, hq, Ch.refl _ _⟩ ?_
  rintro i wk x ⟨hi, hbk, hqk, hCk⟩
  by_cases hin : i < s.length
  · obtain ⟨k, hk, hck⟩ := hs.2 i hin
    have hr := hqk.rd hin
    have hps := hqk.isSome (by omega)
    rw [hck] at hr
    have hrk : rd wk (some ⟨b2, (k : Int).toNat * 1, none⟩) = some (.int .i64 (cntc (s.take i) k)) := by rw [Int.toNat_natCast, Nat.mul_one]; exact hbk.rd (cV_get hk)
    have hcl := cntc_le (s.take i) k
    rw [List.length_take] at hcl
    repeat' (first|refine za ?_|refine zA ?_|refine zB ?_|refine zb ?_|refine zc ?_|refine ze ?_|refine zd ?_|refine zC ?_|refine zL ?_|refine zM ?_|refine zX ?_|refine zk ?_|refine zl ?_)
    refine r_sub_v (c := (k : Int)) rfl rfl (u8_sub hk) ?_
    repeat' (refine za ?_)
    refine r_idxA as87 rfl rfl (by omega) (by omega) ?_
    repeat' (first|refine za ?_|refine zI ?_|refine zM ?_)
    refine r_idxA as87 rfl rfl (by omega) (by omega) ?_
    repeat' (refine za ?_)
    refine r_st_blk (v := .int .i64 ((cntc (s.take i) k : Int) + 1)) co3 hbk rfl rfl rfl (by rw [Int.toNat_natCast, Nat.mul_one]; exact hk) fun w4 h4 hC4 hs4 => ?_
    rw [Int.toNat_natCast, Nat.mul_one, cV_step hin hk hck] at h4
    repeat' (first|refine za ?_|refine zA ?_|refine zb ?_|refine ze ?_|refine zd ?_|refine zI ?_|refine zh ?_)
    refine ⟨i + 1, ⟨rfl, trivial⟩, ⟨by omega, h4, ?_, ?_⟩, by omega⟩
    · exact Sl.keep hqk hC4 fun g hg e => by cases hg; change b3 = b2 at e; omega
    · exact hCk.trans hC4
  · have : i = s.length := by omega
    subst this
    rw [List.take_length] at hbk
    repeat' (first|refine za ?_|refine zb ?_|refine zc ?_|refine ze ?_|refine zd ?_|refine zC ?_|refine zY ?_|refine zm ?_|refine zg ?_|refine zj ?_)
    refine r_ldN ag87 (by decide) hbk rfl rfl ?_
    repeat' (refine za ?_)
    have hb1k : Blk wk b1 87 (cV []) := ((hb1.ext hE2).ext hE3).keep hCk (by omega)
    refine r_stN (ws := cV s) ag87 (by decide) hb1k rfl rfl rfl rfl (by intro q hq; simp [cV] at hq; rcases hq with rfl | rfl | rfl | rfl <;> rfl) fun w4 h4 hC4 hs4 => ?_
    repeat' (first|refine zb ?_|refine ze ?_|refine zn ?_)
    refine post_c1 rfl rfl ag87 (by decide) h4 rfl ⟨rfl, ?_⟩
    exact Ch.trans' (Ch.trans' ((hE1.trans hE2).trans hE3) hCk fun k hk e => by have := hE1.size; omega) hC4 fun k hk e => by omega
end Go.Proofs.YtocgehoffdjijaaGreat
/- top: seals: ranges over the counts. -/
namespace Go.Proofs.YtocgehoffdjijaaGreat
namespace Gv
/-- The rule of a range over a function, where one int comes. -/
theorem wc_range1 {P : Program} {g : Operand} {p1 : Nat} {a b : Code} {Q : Exit → Env → World → Prop} {ρ : Env} {w : World} {f : FuncId} {lb : List Value}
    (items : List Int) (T : TypeId) (Dt : World → Prop) (I : Nat → World → Prop) (M : List Nat)
    (hM : ρ 1000000 = mkv M) (hg : ev ρ g = .func (.func f) #[] lb.toArray) (hf : callable P f = true) (hit : IterC P f lb (items.map fun x => [.int .i64 x]) T Dt)
    (hDt : ∀ W W', Lk w.heap.size W W' → Dt W → Dt W') (hI : ∀ i W W', Lk w.heap.size W W' → I i W → I i W') (hD0 : Dt w) (hI0 : I 0 w)
    (hbody : ∃ asg : Int → Env, (∀ (k : Int) (W : World), wc P a (fun e ρ' w' => e = .normal ∧ ρ' = asg k ∧ w' = W) (up (up ρ 1000000 (mkv [])) p1 (.int .i64 k)) W) ∧
      ∀ (i : Nat) (W : World) (k : Int), items[i]? = some k → w.heap.size ≤ W.heap.size → I i W → Dt W → wc P b (rndQ w.heap.size W (fun w' => I (i + 1) w' ∧ Dt w' ∧ Kt T W w')) (asg k) W)
    (hdone : ∀ W, I items.length W → W.heap[w.heap.size]? = some (.deferred (some [])) → Q .normal (up ρ 1000000 (mkv (w.heap.size :: M))) W) :
    wc P (.rangeFunc g #[p1] a b) Q ρ w := by
  obtain ⟨asg, h1, h2⟩ := hbody
  have hx : ∀ {i : Nat} {x : List Value}, (items.map fun x => [Value.int .i64 x])[i]? = some x → ∃ k, items[i]? = some k ∧ x = [.int .i64 k] := by
    intro i x h
    rw [List.getElem?_map] at h
    cases hi : items[i]? with
    | none => rw [hi] at h; cases h
    | some k => rw [hi] at h; simp at h; exact ⟨k, rfl, h.symm⟩
  refine wc_rangeFunc ⟨f, lb, items.map fun x => [.int .i64 x], T, Dt, I, fun x => match x with | [.int _ k] => asg k | _ => ρ, M, hM, hg, fun args w => run_callFunc hf w, hit, ?_, hDt, hI, hD0, hI0, ?_, ?_, ?_⟩
  · intro x hx
    obtain ⟨k, _, rfl⟩ := List.mem_map.1 hx
    rfl
  · intro i W x h
    obtain ⟨k, _, rfl⟩ := hx h
    exact h1 k W
  · intro i W x h hs hi hd
    obtain ⟨k, hk, rfl⟩ := hx h
    exact h2 i W k hk hs hi hd
  · intro W hi hk
    rw [List.length_map] at hi
    exact hdone W hi hk
end Gv
open Gv
def cL (s : Str) : List Int := [(cntc s 0 : Int), cntc s 1, cntc s 2, cntc s 3]
theorem cV_cL (s : Str) : cV s = ints (cL s) := rfl
theorem cL_get {s : Str} {i : Nat} (h : i < 4) : (cL s)[i]? = some (cntc s i : Int) := by
  rcases (by omega : i = 0 ∨ i = 1 ∨ i = 2 ∨ i = 3) with rfl | rfl | rfl | rfl <;> rfl
theorem av87 : arrV Tryz.prog 87 = some 4 := by kernel_rfl
set_option maxRecDepth 20000 in
set_option maxHeartbeats 1000000 in
theorem each1_any (s : Str) (b : Nat) : IterC Tryz.prog 123 [.pointer (some ⟨b, 0, none⟩)] ((cL s).map fun x => [.int .i64 x]) 87 (fun W => Blk W b 87 (cV s)) := by
  intro l J W hJ h0 hD hY
  show Calls Tryz.prog 123 #[.func (.yield l) #[] #[], .pointer (some ⟨b, 0, none⟩)] W (Ret fun _ w' => J 4 w')
  refine calls_of_wc (args := [.func (.yield l) #[] #[], .pointer (some ⟨b, 0, none⟩)]) Tryz.func123 rfl ?_ ?_; kernel_rfl
  repeat' (first|refine za ?_|refine zc ?_|refine zd ?_)
  refine r_ldN ag87 (by decide) hD rfl rfl ?_
  repeat' (first|refine za ?_|refine zA ?_|refine zb ?_|refine ze ?_|refine zl ?_)
  refine wc_loop [0, 1, 5] (fun (i : Nat) => [(6, .int .i64 i)]) (fun i wk => i ≤ 4 ∧ J i wk ∧ Blk wk b 87 (cV s)) (fun i => 4 - i) 0 rfl ⟨rfl, trivial⟩ ⟨by omega, h0, hD⟩ ?_
  rintro i wk x ⟨hi, hJk, hDk⟩
  by_cases hin : i < 4
  · repeat' (first|refine za ?_|refine zb ?_|refine zc ?_|refine ze ?_|refine zd ?_|refine zC ?_|refine zX ?_|refine zk ?_|refine zl ?_)
    refine r_index (v := .int .i64 (cntc s i)) av87 rfl rfl (by omega) (by omega) (by rw [Int.toNat_natCast, List.getElem?_toArray]; exact cV_get hin) ?_
    repeat' (first|refine za ?_|refine zB ?_|refine zb ?_|refine ze ?_)
    refine wc_seq ?_
    refine wc_regionR ?_
    have hy := hY i wk [.int .i64 (cntc s i)] (by rw [List.getElem?_map, cL_get hin]; rfl) hJk hDk
    refine wlR_plain ?_
    refine r_move_v (v := .func (.yield l) #[] #[]) rfl ?_
    refine wlR_plain ?_
    refine r_move_v (v := .int .i64 (cntc s i)) rfl ?_
    refine wlR_yieldX (R1 := fun w' => J (i + 1) w' ∧ Blk w' b 87 (cV s) ∧ Kt 87 wk w') (R2 := fun _ => False) rfl ?_ ?_ ?_
    · obtain ⟨fn, tmps, assign, body, hy, hR⟩ := hy
      exact ⟨fn, tmps, assign, body, hy, hR.mono fun e w' h => .inl h⟩
    · rintro w5 ⟨hJ5, hD5, _⟩
      refine wlR_plain ?_
      refine r_not (b := true) rfl ?_
      refine wlR_nil ?_
      repeat' (first|refine za ?_|refine zA ?_|refine zb ?_|refine ze ?_|refine zd ?_|refine zI ?_|refine zY ?_|refine zk ?_|refine zh ?_)
      exact ⟨i + 1, ⟨rfl, trivial⟩, ⟨by omega, hJ5, hD5⟩, by omega⟩
    · intro w5 h; exact h.elim
  · obtain rfl : i = 4 := by omega
    repeat' (first|refine za ?_|refine zb ?_|refine zc ?_|refine ze ?_|refine zd ?_|refine zC ?_|refine zY ?_|refine zm ?_|refine zg ?_|refine zj ?_)
    exact post0n rfl hJk
theorem each_any (s : Str) (w : World) :
    Calls Tryz.prog 78 #[.agg (cV s).toArray] w (Ret fun v w' => ∃ b, v = .func (.func 123) #[] #[.pointer (some ⟨b, 0, none⟩)] ∧ w.heap.size ≤ b ∧ Blk w' b 87 (cV s) ∧ Ext w w') := by
  refine calls_of_wc (args := [.agg (cV s).toArray]) Tryz.func78 rfl ?_ ?_; kernel_rfl
  repeat' (first|refine za ?_|refine zc ?_|refine zd ?_)
  refine r_boxN (cells := cV s) rfl fun w1 hb1 hE1 hs1 => ?_
  obtain ⟨b1, eb1⟩ : ∃ b, b = w.heap.size := ⟨_, rfl⟩
  rw [← eb1] at hb1 ⊢
  repeat' (first|refine za ?_|refine zB ?_|refine zb ?_|refine zc ?_|refine ze ?_|refine zd ?_)
  refine r_mkfn (as_ := []) (bs := [.tmp 1]) ?_
  repeat' (first|refine za ?_|refine zB ?_|refine zb ?_|refine ze ?_|refine zn ?_)
  refine post1 (v := .func (.func 123) #[] #[.pointer (some ⟨b1, 0, none⟩)]) rfl rfl ?_
  exact ⟨b1, rfl, by omega, hb1, hE1⟩
end Go.Proofs.YtocgehoffdjijaaGreat
/- top: seals: kinds, Collect, ContainsFunc, isEven. -/
namespace Go.Proofs.YtocgehoffdjijaaGreat
open Gv
def kdp (s : Str) : Nat → Nat
  | 0 => 0
  | k + 1 => kdp s k + min (cntc s k) 1
theorem kdp_kd (s : Str) : kdp s 4 = kd s := by simp [kdp, kd]
theorem kdp_le (s : Str) : ∀ k, kdp s k ≤ k
  | 0 => Nat.le_refl _
  | k + 1 => by have := kdp_le s k; simp only [kdp]; omega
theorem el27 : elemI Tryz.prog 27 = some (3, .int .i64 0, 1, 8) := by kernel_rfl
theorem z3 : (Tryz.prog.info? 3).bind (·.zero) = some (.int .i64 0) := by kernel_rfl
set_option maxRecDepth 20000 in
set_option maxHeartbeats 1000000 in
theorem kinds_any (s : Str) (w : World) : Calls Tryz.prog 39 #[.agg (cV s).toArray] w (Ret fun v w' => v = .int .i64 (kd s) ∧ Ext w w') := by
  refine calls_of_wc (args := [.agg (cV s).toArray]) Tryz.func39 rfl ?_ ?_; kernel_rfl
  repeat' (first|refine za ?_|refine zc ?_|refine zd ?_)
  refine r_boxN (cells := cV s) rfl fun w1 hb1 hE1 hs1 => ?_
  obtain ⟨b1, eb1⟩ : ∃ b, b = w.heap.size := ⟨_, rfl⟩
  rw [← eb1] at hb1 ⊢
  repeat' (first|refine za ?_|refine zB ?_|refine zb ?_|refine zc ?_|refine ze ?_|refine zd ?_)
  refine r_alloc (z := .int .i64 0) z3 rfl fun w2 hb2 hE2 hs2 => ?_
  obtain ⟨b2, eb2⟩ : ∃ b, b = w1.heap.size := ⟨_, rfl⟩
  rw [← eb2] at hb2 ⊢
  repeat' (refine za ?_)
  refine r_st_box (v := .int .i64 0) co3 hb2 rfl rfl rfl fun w3 hb3 hC3 hs3 => ?_
  have hb13 : Blk w3 b1 87 (cV s) := (hb1.ext hE2).keep hC3 (by omega)
  repeat' (first|refine za ?_|refine zb ?_|refine zc ?_|refine ze ?_|refine zd ?_)
  refine r_ldN ag87 (by decide) hb13 rfl rfl ?_
  repeat' (refine za ?_)
  (refine r_call (R := ?_) rfl ?_ ?_; rotate_left 1; focus exact each_any s _)
  rintro _ w4 ⟨b, rfl, hbb, hb4, hE4⟩
  repeat' (first|refine zb ?_|refine ze ?_|refine zl ?_)
  have hE : Ext w w4 := (Ch.trans' (hE1.trans hE2) hC3 fun k hk e => by omega).trans hE4
  refine wc_range1 (cL s) 87 (fun W => Blk W b 87 (cV s)) (fun j W => Box W b2 3 (.int .i64 (kdp s j : Nat)) ∧ Ext w W) [] rfl rfl rfl (each1_any s b) ?hDt ?hI hb4 ⟨hb3.ext hE4, hE⟩ ?hbody ?hdone
  case hDt => exact fun W W' hl h => h.lk hl
  case hI => exact fun j W W' hl h => ⟨h.1.lk hl, h.2.lk hl hE.size⟩
  case hbody =>
    apply Exists.intro
    apply And.intro
    · intro k W
      repeat' (first|refine za ?_|refine zB ?_|refine zb ?_|refine zd ?_)
      exact ⟨rfl, rfl, rfl⟩
    rintro j W k hk hsz ⟨a1, a2⟩ hD
    have hj : j < 4 := (List.getElem?_eq_some_iff.1 hk).1
    rw [cL_get hj] at hk
    cases hk
    have g1 := a1.rd
    have hle := kdp_le s j
    repeat' (first|refine za ?_|refine zA ?_|refine zd ?_|refine zM ?_|refine zl ?_)
    refine r_min (c := ((min (cntc s j) 1 : Nat) : Int)) rfl rfl (by split <;> omega) ?_
    repeat' (first|refine za ?_|refine zI ?_)
    refine r_st_box (v := .int .i64 ((kdp s j : Int) + (min (cntc s j) 1 : Nat))) co3 a1 rfl rfl rfl fun w5 h5 hC5 hs5 => ?_
    repeat' (first|refine zb ?_|refine zh ?_)
    refine ⟨KpB.of_ch hC5 fun k hk => by subst hk; exact a1.cm, ⟨?_, Ch.trans' a2 hC5 fun k hk e => by omega⟩, hD.keep hC5 (by omega), Kt.of_ch hC5 fun k hk c r e => ?_⟩
    · have : ((kdp s (j + 1) : Nat) : Int) = (kdp s j : Int) + (min (cntc s j) 1 : Nat) := by simp only [kdp]; omega
      rw [this]; exact h5
    · subst hk; have := a1.symm.trans e; cases this
  case hdone =>
    rintro W ⟨a1, a2⟩ hM
    have g1 := a1.rd
    repeat' (first|refine za ?_|refine zB ?_|refine zb ?_|refine zc ?_|refine ze ?_|refine zd ?_|refine zM ?_|refine zn ?_|refine zh ?_)
    refine postK1 [w4.heap.size] rfl ⟨by simp, fun D hD => by rw [List.mem_singleton.1 hD]; exact hM⟩ rfl (v := .int .i64 (kd s)) ?_ fun w' hC => ⟨rfl, Ch.trans' a2 hC fun k hk e => ?_⟩
    · rw [← kdp_kd]; rfl
    · have := hE.size; rw [List.mem_singleton] at e; omega
set_option maxRecDepth 20000 in
set_option maxHeartbeats 1000000 in
theorem collect_any (s : Str) (b : Nat) (w : World) (hb : Blk w b 87 (cV s)) : Calls Tryz.prog 122 #[.slice none 0 0, .func (.func 123) #[] #[.pointer (some ⟨b, 0, none⟩)]] w (Ret fun v w' => Ints w' v (cL s) ∧ Ext w w') := by
  refine calls_of_wc (args := [.slice none 0 0, .func (.func 123) #[] #[.pointer (some ⟨b, 0, none⟩)]]) Tryz.func122 rfl ?_ ?_; kernel_rfl
  repeat' (first|refine za ?_|refine zc ?_|refine zd ?_)
  refine r_box (v := .slice none 0 0) rfl rfl fun w1 hb1 hE1 hs1 => ?_
  obtain ⟨b1, eb1⟩ : ∃ b, b = w.heap.size := ⟨_, rfl⟩
  rw [← eb1] at hb1 ⊢
  repeat' (first|refine za ?_|refine zA ?_|refine zB ?_|refine zb ?_|refine zc ?_|refine ze ?_|refine zd ?_|refine zl ?_)
  refine wc_range1 (cL s) 87 (fun W => Blk W b 87 (cV s)) (fun j W => ∃ v, Box W b1 27 v ∧ OwnI W w1.heap.size 3 v ((cL s).take j) ∧ Ext w W) [] rfl rfl rfl (each1_any s b) ?hDt ?hI (hb.ext hE1) ⟨_, hb1, World.ownsRow_nil _ _ _ _, hE1⟩ ?hbody ?hdone
  case hDt => exact fun W W' hl h => h.lk hl
  case hI => exact fun j W W' hl ⟨v, h1, h2, h3⟩ => ⟨v, h1.lk hl, h2.lk hl, h3.lk hl hE1.size⟩
  case hbody =>
    apply Exists.intro
    apply And.intro
    · intro k W
      repeat' (first|refine za ?_|refine zB ?_|refine zb ?_|refine zd ?_)
      exact ⟨rfl, rfl, rfl⟩
    rintro j W k hk hsz ⟨v, a1, a2, a3⟩ hD
    have hj : j < 4 := (List.getElem?_eq_some_iff.1 hk).1
    have hk' := hk
    rw [cL_get hj] at hk
    cases hk
    have g1 := a1.rd
    repeat' (first|refine za ?_|refine zA ?_|refine zd ?_|refine zM ?_|refine zl ?_)
    refine r_append1_i (a := (cntc s j : Int)) el27 a2 rfl rfl (by simp; omega) hsz fun v' w5 q h5 hG hne hgb => ?_
    have hC5 : Ch (fun k => v.ownBlock = some k) W w5 := Ch.grown hG fun k e => e
    have hv : ∀ g, v.ownBlock = some g → CM W g ∧ w1.heap.size ≤ g := fun g hg => ⟨row_cm a2 hg, (a2.lt g hg).1⟩
    obtain ⟨q5, c5, rfl, _⟩ := h5.ints.slice
    have hb5 := a1.keep hC5 (fun e => by have := (hv _ e).2; have := hb1.lt; omega)
    repeat' (refine za ?_)
    refine r_st_box (v := _) (by kernel_rfl) hb5 rfl rfl rfl fun w6 h6 hC6 hs6 => ?_
    have hC : Ch (fun k => v.ownBlock = some k ∨ k = b1) W w6 := Ch.trans' (hC5.mono fun k _ h => .inl h) hC6 fun k hk e => .inr e
    have hne1 : ∀ k, (v.ownBlock = some k ∨ k = b1) → CM W k := fun k hk => hk.elim (fun h => (hv _ h).1) fun h => by rw [h]; exact a1.cm
    have ht : ∀ g c r, v.ownBlock = some g → W.heap[g]? ≠ some (.cells c 87 r) := fun g c r hg e => by
      rcases a2.2 with ⟨rfl, _⟩ | ⟨g', cap, cells, rfl, _, hh, _⟩
      · cases hg
      · cases hg; cases hh.symm.trans e
    repeat' (first|refine zb ?_|refine zh ?_)
    refine ⟨KpB.of_ch hC hne1, ⟨_, h6, ?_, Ch.trans' a3 hC fun k hk e => ?_⟩, hD.keep hC ?_, Kt.of_ch hC fun k hk c r e => ?_⟩
    · rw [List.take_add_one, hk']
      exact ownsRow_keep h5 hC6 fun g hg e => by subst e; rcases hgb _ hg with h | h <;> first | (have := (hv _ h).2; have := hb1.lt; omega) | (have := a1.lt; omega)
    · rcases e with h | rfl
      · have := (hv _ h).2; have := hE1.size; omega
      · omega
    · rintro (h | rfl)
      · exact ht _ _ _ h hD
      · have := hD.symm.trans a1; cases this
    · rcases hk with h | rfl
      · exact ht _ _ _ h e
      · have := a1.symm.trans e; cases this
  case hdone =>
    rintro W ⟨v, a1, a2, a3⟩ hM
    have g1 := a1.rd
    repeat' (first|refine za ?_|refine zB ?_|refine zb ?_|refine zc ?_|refine ze ?_|refine zd ?_|refine zM ?_|refine zn ?_|refine zh ?_)
    refine postK1 [w1.heap.size] rfl ⟨by simp, fun D hD => by rw [List.mem_singleton.1 hD]; exact hM⟩ rfl (v := v) rfl fun w' hC => ⟨?_, Ch.trans' a3 hC fun k hk e => ?_⟩
    · rw [show (cL s).take (cL s).length = cL s from List.take_length] at a2
      exact a2.ints.keep hC fun g hg e => by rw [List.mem_singleton] at e; subst e; exact (row_cm a2 hg).2 _ hM
    · have := hE1.size; rw [List.mem_singleton] at e; omega
end Go.Proofs.YtocgehoffdjijaaGreat
/- top: seals: isChain, isEven. -/
namespace Go.Proofs.YtocgehoffdjijaaGreat
open Gv
set_option maxRecDepth 20000
theorem collect77 (s : Str) (b : Nat) (w : World) (hb : Blk w b 87 (cV s)) : Calls Tryz.prog 77 #[.func (.func 123) #[] #[.pointer (some ⟨b, 0, none⟩)]] w (Ret fun v w' => Ints w' v (cL s) ∧ Ext w w') := by
  refine calls_of_wc (args := [.func (.func 123) #[] #[.pointer (some ⟨b, 0, none⟩)]]) Tryz.func77 rfl ?_ ?_; kernel_rfl
  repeat' (first|refine za ?_|refine zA ?_|refine zB ?_|refine zb ?_|refine zc ?_|refine ze ?_|refine zd ?_)
  (refine r_call (R := ?_) rfl ?_ ?_; rotate_left 1; focus exact collect_any s b _ hb)
  rintro v w' ⟨h, hE⟩
  obtain ⟨q, c, rfl, _⟩ := h.slice
  repeat' (first|refine za ?_|refine zB ?_|refine zb ?_|refine ze ?_|refine zn ?_)
  refine post1 (v := .slice q (cL s).length c) rfl rfl ?_
  exact ⟨h, hE⟩
theorem odd_any (n : Nat) (w : World) (h : n % 2 = 0) : Calls Tryz.prog 79 #[.int .i64 (n : Int)] w (Ret fun v w' => v = .bool false ∧ w' = w) := by
  refine calls_of_wc (args := [.int .i64 (n : Int)]) Tryz.func79 rfl ?_ ?_; kernel_rfl
  repeat' (first|refine za ?_|refine zA ?_|refine zB ?_|refine zb ?_|refine zc ?_|refine ze ?_|refine zd ?_)
  refine r_rem_in rfl rfl (by omega) (by omega) ?_
  repeat' (first|refine za ?_|refine zB ?_|refine zb ?_|refine ze ?_|refine zG ?_|refine zn ?_)
  refine post1 (v := .bool false) rfl rfl ?_
  exact ⟨rfl, rfl⟩
set_option maxHeartbeats 400000 in
theorem index121 (v : Value) (L : List Int) (w : World) (h : Ints w v L) (hm : L.length ≤ 1000) (hc : ∀ n w', n ∈ L → Calls Tryz.prog 79 #[.int .i64 n] w' (Ret fun v w'' => v = .bool false ∧ w'' = w')) :
    Calls Tryz.prog 121 #[v, .func (.func 79) #[] #[]] w (Ret fun v w' => v = .int .i64 (-1) ∧ w' = w) := by
  obtain ⟨q, c, rfl, hqc⟩ := h.slice
  refine calls_of_wc (args := [.slice q L.length c, .func (.func 79) #[] #[]]) Tryz.func121 rfl ?_ ?_; kernel_rfl
  repeat' (first|refine za ?_|refine zA ?_|refine zB ?_|refine zb ?_|refine zc ?_|refine ze ?_|refine zd ?_|refine zK ?_|refine zl ?_)
  refine wc_loop [0, 1, 7] (fun (k : Nat) => [(8, .int .i64 k)]) (fun k wk => wk = w ∧ k ≤ L.length) (fun k => L.length - k) 0 rfl ⟨rfl, trivial⟩ ⟨rfl, by omega⟩ ?_
  rintro k wk x ⟨rfl, hk⟩
  by_cases hin : k < L.length
  · have hps := h.isSome (by omega)
    have hrd := h.rd (i := k) (by omega)
    repeat' (first|refine za ?_|refine zA ?_|refine zB ?_|refine zb ?_|refine zc ?_|refine ze ?_|refine zd ?_|refine zC ?_|refine zL ?_|refine zM ?_|refine zX ?_|refine zk ?_|refine zl ?_)
    refine r_callV (cap := []) rfl rfl (hc _ _ (getD_mem hin)) ?_
    rintro v' w' ⟨rfl, rfl⟩
    repeat' (first|refine za ?_|refine zA ?_|refine zb ?_|refine ze ?_|refine zd ?_|refine zI ?_|refine zY ?_|refine zk ?_|refine zh ?_)
    exact ⟨k + 1, ⟨rfl, trivial⟩, ⟨rfl, by omega⟩, by omega⟩
  · repeat' (first|refine za ?_|refine zB ?_|refine zb ?_|refine zc ?_|refine ze ?_|refine zd ?_|refine zC ?_|refine zY ?_|refine zm ?_|refine zn ?_|refine zg ?_|refine zj ?_)
    refine post1 (v := .int .i64 (-1)) rfl rfl ?_
    exact ⟨rfl, rfl⟩
theorem contains76 (v : Value) (L : List Int) (w : World) (h : Ints w v L) (hm : L.length ≤ 1000) (hc : ∀ n w', n ∈ L → Calls Tryz.prog 79 #[.int .i64 n] w' (Ret fun v w'' => v = .bool false ∧ w'' = w')) :
    Calls Tryz.prog 76 #[v, .func (.func 79) #[] #[]] w (Ret fun v w' => v = .bool false ∧ w' = w) := by
  obtain ⟨q, c, rfl, hqc⟩ := h.slice
  refine calls_of_wc (args := [.slice q L.length c, .func (.func 79) #[] #[]]) Tryz.func76 rfl ?_ ?_; kernel_rfl
  repeat' (first|refine za ?_|refine zA ?_|refine zB ?_|refine zb ?_|refine zc ?_|refine ze ?_|refine zd ?_)
  (refine r_call_q (v := ?_) rfl ?_ ?_; rotate_left 1; focus exact index121 _ L _ h hm hc)
  repeat' (first|refine za ?_|refine zB ?_|refine zb ?_|refine ze ?_|refine zF ?_|refine zn ?_)
  refine post1 (v := .bool false) rfl rfl ?_
  exact ⟨rfl, rfl⟩
theorem notLetter (k : Nat) (hk : k < 4) (w : World) : Calls Tryz.prog 120 #[.int .u8 ((97 + k : Nat) : Int)] w (Ret fun v w' => v = .bool false ∧ w' = w) := by
  refine calls_of_wc (args := [.int .u8 ((97 + k : Nat) : Int)]) Tryz.func120 rfl ?_ ?_; kernel_rfl
  repeat' (first|refine za ?_|refine zA ?_|refine zB ?_|refine zb ?_|refine zc ?_|refine ze ?_|refine zd ?_|refine zC ?_|refine zE ?_|refine zR ?_|refine zU ?_|refine zn ?_)
  refine post1 (v := .bool false) rfl rfl ?_
  exact ⟨rfl, rfl⟩
set_option maxHeartbeats 400000 in
theorem index166 (v : Value) (s : Str) (w : World) (h : Byts w v s) (hs : Ltr s) :
    Calls Tryz.prog 166 #[v, .func (.func 120) #[] #[]] w (Ret fun v w' => v = .int .i64 (-1) ∧ w' = w) := by
  have hm := hs.1
  obtain ⟨q, c, rfl, hqc⟩ := h.slice
  refine calls_of_wc (args := [.slice q s.length c, .func (.func 120) #[] #[]]) Tryz.func166 rfl ?_ ?_; kernel_rfl
  repeat' (first|refine za ?_|refine zA ?_|refine zB ?_|refine zb ?_|refine zc ?_|refine ze ?_|refine zd ?_|refine zK ?_|refine zl ?_)
  refine wc_loop [0, 1, 7] (fun (k : Nat) => [(8, .int .i64 k)]) (fun k wk => wk = w ∧ k ≤ s.length) (fun k => s.length - k) 0 rfl ⟨rfl, trivial⟩ ⟨rfl, by omega⟩ ?_
  rintro k wk x ⟨rfl, hk⟩
  by_cases hin : k < s.length
  · have hps := h.isSome (by omega)
    have hrd := h.rd (i := k) (by omega)
    obtain ⟨j, hj, hjc⟩ := hs.2 k hin
    rw [hjc] at hrd
    repeat' (first|refine za ?_|refine zA ?_|refine zB ?_|refine zb ?_|refine zc ?_|refine ze ?_|refine zd ?_|refine zC ?_|refine zL ?_|refine zM ?_|refine zX ?_|refine zk ?_|refine zl ?_)
    refine r_callV (cap := []) rfl rfl (notLetter j hj _) ?_
    rintro v' w' ⟨rfl, rfl⟩
    repeat' (first|refine za ?_|refine zA ?_|refine zb ?_|refine ze ?_|refine zd ?_|refine zI ?_|refine zY ?_|refine zk ?_|refine zh ?_)
    exact ⟨k + 1, ⟨rfl, trivial⟩, ⟨rfl, by omega⟩, by omega⟩
  · repeat' (first|refine za ?_|refine zB ?_|refine zb ?_|refine zc ?_|refine ze ?_|refine zd ?_|refine zC ?_|refine zY ?_|refine zm ?_|refine zn ?_|refine zg ?_|refine zj ?_)
    refine post1 (v := .int .i64 (-1)) rfl rfl ?_
    exact ⟨rfl, rfl⟩
theorem contains119 (v : Value) (s : Str) (w : World) (h : Byts w v s) (hs : Ltr s) :
    Calls Tryz.prog 119 #[v, .func (.func 120) #[] #[]] w (Ret fun v w' => v = .bool false ∧ w' = w) := by
  obtain ⟨q, c, rfl, hqc⟩ := h.slice
  refine calls_of_wc (args := [.slice q s.length c, .func (.func 120) #[] #[]]) Tryz.func119 rfl ?_ ?_; kernel_rfl
  repeat' (first|refine za ?_|refine zA ?_|refine zB ?_|refine zb ?_|refine zc ?_|refine ze ?_|refine zd ?_)
  (refine r_call_q (v := ?_) rfl ?_ ?_; rotate_left 1; focus exact index166 _ s _ h hs)
  repeat' (first|refine za ?_|refine zB ?_|refine zb ?_|refine ze ?_|refine zF ?_|refine zn ?_)
  refine post1 (v := .bool false) rfl rfl ?_
  exact ⟨rfl, rfl⟩
theorem okC_len {s : Str} (h : okC s = true) : s.length ≤ 24 := by unfold okC at h; simp only [Bool.and_eq_true, decide_eq_true_eq] at h; exact h.1
theorem evenC_ok {s : Str} (h : evenC s = true) : okC s = true := by unfold evenC at h; simp only [Bool.and_eq_true] at h; exact h.1
theorem evenC_even {s : Str} (h : evenC s = true) : ∀ n, n ∈ cL s → ∃ m : Nat, n = m ∧ m % 2 = 0 := by
  unfold evenC at h
  simp only [Bool.and_eq_true, beq_iff_eq] at h
  intro n hn
  simp only [cL, List.mem_cons, List.not_mem_nil, or_false] at hn
  rcases hn with rfl | rfl | rfl | rfl
  · exact ⟨_, rfl, h.2.1.1.1⟩
  · exact ⟨_, rfl, h.2.1.1.2⟩
  · exact ⟨_, rfl, h.2.1.2⟩
  · exact ⟨_, rfl, h.2.2⟩
theorem isChain_any (s : Str) (w : World) (h : okC s = true) : Calls Tryz.prog 75 #[str s] w (Ret fun v w' => v = .bool true ∧ Ext w w') := by
  have hl := okC_len h
  refine calls_of_wc (args := [str s]) Tryz.func75 rfl ?_ ?_; kernel_rfl
  repeat' (first|refine za ?_|refine zA ?_|refine zB ?_|refine zb ?_|refine zc ?_|refine ze ?_|refine zd ?_)
  refine r_slen st9 (a := s) rfl ?_
  repeat' (first|refine za ?_|refine zA ?_|refine zD ?_|refine zU ?_)
  refine r_s2b st9 bs144 (a := s) rfl fun c w3 hq hE3 hs3 => ?_
  repeat' (refine zU ?_)
  (refine r_call_q (v := ?_) rfl ?_ ?_; rotate_left 1; focus exact contains119 _ s _ hq (okC_ltr h))
  repeat' (first|refine za ?_|refine zB ?_|refine zb ?_|refine ze ?_|refine zO ?_|refine zQ ?_|refine zU ?_|refine zn ?_)
  refine post1 (v := .bool true) rfl rfl ?_
  exact ⟨rfl, hE3⟩
theorem isEven_any (s : Str) (w : World) (h : evenC s = true) : Calls Tryz.prog 37 #[str s] w (Ret fun v w' => v = .bool true ∧ Ext w w') := by
  have hl := okC_ltr (evenC_ok h)
  refine calls_of_wc (args := [str s]) Tryz.func37 rfl ?_ ?_; kernel_rfl
  repeat' (first|refine za ?_|refine zA ?_|refine zB ?_|refine zb ?_|refine zc ?_|refine ze ?_|refine zd ?_)
  (refine r_call (R := ?_) rfl ?_ ?_; rotate_left 1; focus exact isChain_any s _ (evenC_ok h))
  rintro _ w1 ⟨rfl, hE1⟩
  repeat' (first|refine za ?_|refine zA ?_|refine zU ?_)
  (refine r_call (R := ?_) rfl ?_ ?_; rotate_left 1; focus exact of_any s _ hl)
  rintro _ w2 ⟨rfl, hE2⟩
  repeat' (refine zU ?_)
  (refine r_call (R := ?_) rfl ?_ ?_; rotate_left 1; focus exact each_any s _)
  rintro _ w3 ⟨b, rfl, _, hb, hE3⟩
  repeat' (refine zU ?_)
  (refine r_call (R := ?_) rfl ?_ ?_; rotate_left 1; focus exact collect77 s b _ hb)
  rintro v w4 ⟨hv, hE4⟩
  obtain ⟨q, c, rfl, _⟩ := hv.slice
  repeat' (refine zU ?_)
  (refine r_call_q (v := ?_) rfl ?_ ?_; rotate_left 1; focus exact contains76 _ (cL s) _ hv (by simp [cL]) fun n w' hn => by obtain ⟨m, rfl, hm⟩ := evenC_even h n hn; exact odd_any m w' hm)
  repeat' (first|refine za ?_|refine zB ?_|refine zb ?_|refine ze ?_|refine zO ?_|refine zQ ?_|refine zU ?_|refine zn ?_)
  refine post1 (v := .bool true) rfl rfl ?_
  exact ⟨rfl, ((hE1.trans hE2).trans hE3).trans hE4⟩
end Go.Proofs.YtocgehoffdjijaaGreat

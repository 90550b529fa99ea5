/- top: lists of structs of three ints; top: streets: nets, parts; top: streets: parts that are joined; top: streets: joined, tree, in a given order. -/
import Derived.Test.YtocgehoffdjijaaGreatLC
import Derived.Test.YtocgehoffdjijaaGreatLdP
/- top: lists of structs of three ints. -/
namespace Go.Proofs.YtocgehoffdjijaaGreat
namespace Gv
open Go.RowKit
abbrev N3 := Nat × Nat × Nat
def trc (L : List N3) : List Value := L.flatMap fun x => [.int .i64 x.1, .int .i64 x.2.1, .int .i64 x.2.2]
theorem trc_length : ∀ L : List N3, (trc L).length = L.length * 3
  | [] => rfl
  | x :: L => by
    have := trc_length L
    unfold trc at *
    rw [List.flatMap_cons, List.length_append, this]; simp; omega
theorem trc_append (A B : List N3) : trc (A ++ B) = trc A ++ trc B := by simp [trc]
theorem trc_get : ∀ {L : List N3} {i : Nat}, i < L.length → (trc L)[i * 3 + 0]? = some (.int .i64 (L.getD i (0, 0, 0)).1) ∧ (trc L)[i * 3 + 1]? = some (.int .i64 (L.getD i (0, 0, 0)).2.1) ∧ (trc L)[i * 3 + 2]? = some (.int .i64 (L.getD i (0, 0, 0)).2.2)
  | [], i, h => by simp at h
  | x :: L, 0, _ => by simp [trc]
  | x :: L, i + 1, h => by
    have := trc_get (L := L) (i := i) (by simpa using h)
    have e : trc (x :: L) = .int .i64 x.1 :: .int .i64 x.2.1 :: .int .i64 x.2.2 :: trc L := rfl
    have e0 : ∀ j, (trc (x :: L))[(i + 1) * 3 + j]? = (trc L)[i * 3 + j]? := fun j => by
      rw [e, show (i + 1) * 3 + j = (i * 3 + j) + 1 + 1 + 1 by omega, List.getElem?_cons_succ, List.getElem?_cons_succ, List.getElem?_cons_succ]
    rw [e0, e0, e0, List.getD_cons_succ]
    exact this
def Trip (w : World) (v : Value) (L : List N3) : Prop := Sl w 3 v L.length (trc L)
theorem Trip.ext {w w' : World} {v : Value} {L : List N3} (h : Trip w v L) (hc : Ext w w') : Trip w' v L := Sl.ext h hc
theorem Trip.keep {S : Nat → Prop} {w w' : World} {v : Value} {L : List N3} (h : Trip w v L) (hc : Ch S w w') (hs : ∀ g, v.ownBlock = some g → ¬ S g) : Trip w' v L := Sl.keep h hc hs
theorem Trip.slice {w : World} {v : Value} {L : List N3} (h : Trip w v L) : ∃ p c, v = .slice p L.length c ∧ L.length ≤ c := Sl.slice h
theorem Trip.isSome {w : World} {p : Option Addr} {n c : Nat} {L : List N3} (h : Trip w (.slice p n c) L) (hl : 0 < L.length) : p.isSome = true := Sl.isSome h hl
theorem Trip.rd {w : World} {p : Option Addr} {n c : Nat} {L : List N3} (h : Trip w (.slice p n c) L) {i : Nat} (hi : i < L.length) :
    rd w ((pidx p i 3).map fun a => a.add 0) = some (.int .i64 (L.getD i (0, 0, 0)).1) ∧ rd w ((pidx p i 3).map fun a => a.add 1) = some (.int .i64 (L.getD i (0, 0, 0)).2.1) ∧ rd w ((pidx p i 3).map fun a => a.add 2) = some (.int .i64 (L.getD i (0, 0, 0)).2.2) :=
  ⟨Sl.rd h i 0 (trc_get hi).1 (by decide), Sl.rd h i 1 (trc_get hi).2.1 (by decide), Sl.rd h i 2 (trc_get hi).2.2 (by decide)⟩
section
variable {P : Program} {st : Bool} {K : Env → World → Prop} {ρ : Env} {w : World} {d : Nat} {ty : TypeId} {pos : String} {aft : Array Edge} {gd : Option (Nat × Bool)} {x y : Operand} {t e : TypeId}
theorem r_ld3Q {q : Option Addr} {a b c : Value} (hsz : aggT P t 3 = true) (hx : ev ρ x = .pointer q) (h0 : rd w (q.map (·.add 0)) = some a) (h1 : rd w (q.map (·.add 1)) = some b) (h2 : rd w (q.map (·.add 2)) = some c) (h : K (up ρ d (.agg #[a, b, c])) w) :
    w1 P st ⟨some d, .load t x, ty, pos, aft, gd⟩ K ρ w := by
  obtain ⟨ha, i, hi | hi⟩ := aggT_spec hsz
  · obtain ⟨hi, hs⟩ := hi
    cases q with
    | none => simp [rd] at h0
    | some p =>
      have hr := run_loadCells_list (P := P) (w := w) p [a, b, c] fun j q hq => by
        match j, hq with
        | 0, hq => simp at hq; subst hq; simpa [rd] using h0
        | 1, hq => simp at hq; subst hq; simpa [rd] using h1
        | 2, hq => simp at hq; subst hq; simpa [rd] using h2
        | j + 3, hq => simp at hq
      refine w1_val (v := .agg #[a, b, c]) ?_ h
      have hr2 : (loadCells p 3).run P w = .ok #[a, b, c] w := by simpa using hr
      simp [execOp, Instr.loadAt, Instr.sureAddr, hx, loadVar, ha, sizeOf, typeInfo, hi, hs, hr2]
  · omega
theorem run_buildSlice1t {z1 z2 z3 a b c : Value} {by_ : Nat} (hi : elemI P t = some (e, .agg #[z1, z2, z3], 3, by_)) :
    (Instr.buildSlice t 1 #[(0, .agg #[a, b, c])]).run P w = .ok (.slice (some ⟨w.heap.size, 0, none⟩) 1 1) (w.alloc (.cells #[a, b, c] e)) := by
  obtain ⟨ht, i, hi, hz, hs', hbb⟩ := elemI_spec hi
  have ha : ∀ f : Nat → Value, ((((Array.range 3).map f).setIfInBounds 0 a).setIfInBounds 1 b).setIfInBounds 2 c = #[a, b, c] := by intro f; apply Array.ext'; simp [Array.toList_setIfInBounds, List.range_succ]
  have hz2 : #[a, b, c].zipIdx = #[(a, 0), (b, 1), (c, 2)] := rfl
  simp [Instr.buildSlice, run_underlying ht, sizeOf, typeInfo, hi, hs', zeroValue, hz, Instr.fill, Value.cells, newRow, newObj, hz2, ha]
  rfl
theorem r_buildS1t {z1 z2 z3 : Value} {a b c by_ : Nat} (hi : elemI P t = some (e, .agg #[z1, z2, z3], 3, by_)) (hy : ev ρ y = .agg #[.int .i64 (a : Int), .int .i64 (b : Int), .int .i64 (c : Int)])
    (h : ∀ w', Trip w' (.slice (some ⟨w.heap.size, 0, none⟩) 1 1) [(a, b, c)] → Ext w w' → w'.heap.size = w.heap.size + 1 → K (up ρ d (.slice (some ⟨w.heap.size, 0, none⟩) 1 1)) w') :
    w1 P false ⟨some d, .buildSlice t 1 #[(0, y)], ty, pos, aft, gd⟩ K ρ w := by
  refine w1_val' (v := .slice (some ⟨w.heap.size, 0, none⟩) 1 1) (w' := w.alloc (.cells #[.int .i64 (a : Int), .int .i64 (b : Int), .int .i64 (c : Int)] e)) ?_ (h _ ?_ (Ch.alloc w _) (by simp))
  · simp [execOp, hy, run_buildSlice1t hi]
  · exact ⟨_, 1, rfl, Nat.le_refl _, rfl, .inr ⟨w.heap.size, 0, rfl, by simp, fun j q hj => by
      rw [cell_of_row _ _ _ _ _ _ (alloc_new w _)]
      match j, hj with
      | 0, hj => simpa [trc] using hj
      | 1, hj => simpa [trc] using hj
      | 2, hj => simpa [trc] using hj
      | j + 3, hj => simp [trc] at hj⟩⟩
end
end Gv
end Go.Proofs.YtocgehoffdjijaaGreat
/- top: streets: nets, parts. -/
namespace Go.Proofs.YtocgehoffdjijaaGreat
open Gv
set_option maxRecDepth 20000
theorem within100 (n lo hi : Int) (w : World) : Calls Tryz.prog 100 #[.int .i64 n, .int .i64 lo, .int .i64 hi] w (Ret fun v w' => v = .bool (decide (lo ≤ n ∧ n ≤ hi)) ∧ w' = w) := by
  refine calls_of_wc (args := [.int .i64 n, .int .i64 lo, .int .i64 hi]) Tryz.func100 rfl ?_ ?_; kernel_rfl
  by_cases h1 : lo ≤ n
  · by_cases h2 : n ≤ hi
    · repeat' (first|refine za ?_|refine zA ?_|refine zB ?_|refine zb ?_|refine zc ?_|refine ze ?_|refine zd ?_|refine zD ?_|refine zF ?_|refine zQ ?_|refine zU ?_|refine zn ?_)
      refine post1 (v := .bool true) rfl rfl ?_
      exact ⟨congrArg Value.bool (decide_eq_true ⟨h1, h2⟩).symm, rfl⟩
    · repeat' (first|refine za ?_|refine zA ?_|refine zB ?_|refine zb ?_|refine zc ?_|refine ze ?_|refine zd ?_|refine zD ?_|refine zF ?_|refine zQ ?_|refine zU ?_|refine zn ?_)
      refine post1 (v := .bool false) rfl rfl ?_
      exact ⟨congrArg Value.bool (decide_eq_false fun h => h2 h.2).symm, rfl⟩
  · repeat' (first|refine za ?_|refine zA ?_|refine zB ?_|refine zb ?_|refine zc ?_|refine ze ?_|refine zd ?_|refine zF ?_|refine zR ?_|refine zV ?_|refine zn ?_)
    refine post1 (v := .bool false) rfl rfl ?_
    exact ⟨congrArg Value.bool (decide_eq_false fun h => h1 h.1).symm, rfl⟩
theorem in100 (n lo hi : Int) (w : World) (h1 : lo ≤ n) (h2 : n ≤ hi) : Calls Tryz.prog 100 #[.int .i64 n, .int .i64 lo, .int .i64 hi] w (Ret fun v w' => v = .bool true ∧ w' = w) := by
  have := within100 n lo hi w
  rw [decide_eq_true ⟨h1, h2⟩] at this
  exact this
/-- A street of a net. -/
def okS (n : Nat) (s : N3) : Prop := s.1 < n ∧ s.2.1 < n ∧ s.1 ≠ s.2.1 ∧ s.2.2 ≤ 1000
def st (S : List N3) (k : Nat) : N3 := S.getD k (0, 0, 0)
/-- A net. -/
structure NetOk (n : Nat) (S : List N3) : Prop where
  n1 : 1 ≤ n
  n16 : n ≤ 16
  len : S.length ≤ 60
  ok : ∀ k, k < S.length → okS n (st S k)
theorem fo60_0 : fldOff Tryz.prog 60 0 = some 0 := by kernel_rfl
theorem fo60_1 : fldOff Tryz.prog 60 1 = some 1 := by kernel_rfl
theorem fo60_2 : fldOff Tryz.prog 60 2 = some 2 := by kernel_rfl
theorem sz58 : sliceSz Tryz.prog 58 = some 3 := by kernel_rfl
theorem ag60 : aggT Tryz.prog 60 3 = true := by kernel_rfl
set_option maxHeartbeats 1000000 in
theorem bad_any (n a b c bn : Nat) (w : World) (h : okS n (a, b, c)) (hn : n ≤ 16) (hb : Box w bn 3 (.int .i64 (n : Int))) :
    Calls Tryz.prog 99 #[.agg #[.int .i64 (a : Int), .int .i64 (b : Int), .int .i64 (c : Int)], .pointer (some ⟨bn, 0, none⟩)] w (Ret fun v w' => v = .bool false ∧ Ext w w') := by
  obtain ⟨h1, h2, h3, h4⟩ := h
  dsimp only at h1 h2 h3 h4
  refine calls_of_wc (args := [.agg #[.int .i64 (a : Int), .int .i64 (b : Int), .int .i64 (c : Int)], .pointer (some ⟨bn, 0, none⟩)]) Tryz.func99 rfl ?_ ?_; kernel_rfl
  repeat' (first|refine za ?_|refine zc ?_|refine zd ?_)
  refine r_boxN (cells := [.int .i64 (a : Int), .int .i64 (b : Int), .int .i64 (c : Int)]) rfl fun w1 hb1 hE1 hs1 => ?_
  obtain ⟨b1, eb1⟩ : ∃ b, b = w.heap.size := ⟨_, rfl⟩
  rw [← eb1] at hb1 ⊢
  have g0 : rd w1 (some ⟨b1, 0 + 0, none⟩) = some (.int .i64 (a : Int)) := hb1.rd rfl
  have g1 : rd w1 (some ⟨b1, 0 + 1, none⟩) = some (.int .i64 (b : Int)) := hb1.rd rfl
  have g2 : rd w1 (some ⟨b1, 0 + 2, none⟩) = some (.int .i64 (c : Int)) := hb1.rd rfl
  have gn := (hb.ext hE1).rd
  repeat' (first|refine za ?_|refine zB ?_|refine zb ?_|refine zc ?_|refine ze ?_|refine zd ?_)
  refine r_fa fo60_0 rfl ?_
  repeat' (first|refine za ?_|refine zJ ?_|refine zM ?_)
  (refine r_call_q (v := ?_) rfl ?_ ?_; rotate_left 1; focus exact in100 (a : Int) 0 ((n : Int) - 1) _ (by omega) (by omega))
  repeat' (first|refine za ?_|refine zA ?_|refine zO ?_|refine zU ?_)
  refine r_fa fo60_1 rfl ?_
  repeat' (first|refine zJ ?_|refine zM ?_|refine zU ?_)
  (refine r_call_q (v := ?_) rfl ?_ ?_; rotate_left 1; focus exact in100 (b : Int) 0 ((n : Int) - 1) _ (by omega) (by omega))
  repeat' (first|refine za ?_|refine zA ?_|refine zO ?_|refine zR ?_|refine zU ?_)
  refine r_fa fo60_0 rfl ?_
  repeat' (first|refine zM ?_|refine zU ?_)
  refine r_fa fo60_1 rfl ?_
  repeat' (first|refine za ?_|refine zA ?_|refine zG ?_|refine zM ?_|refine zR ?_|refine zU ?_)
  refine r_fa fo60_2 rfl ?_
  repeat' (first|refine zM ?_|refine zU ?_)
  (refine r_call_q (v := ?_) rfl ?_ ?_; rotate_left 1; focus exact in100 (c : Int) 0 1000 _ (by omega) (by omega))
  repeat' (first|refine za ?_|refine zB ?_|refine zb ?_|refine ze ?_|refine zO ?_|refine zR ?_|refine zU ?_|refine zn ?_)
  refine post1 (v := .bool false) rfl rfl ?_
  exact ⟨rfl, hE1⟩
set_option maxHeartbeats 1000000 in
theorem index135 (n bn : Nat) (v : Value) (S : List N3) (w : World) (h : Trip w v S) (hn : NetOk n S) (hb : Box w bn 3 (.int .i64 (n : Int))) :
    Calls Tryz.prog 135 #[v, .func (.func 99) #[] #[.pointer (some ⟨bn, 0, none⟩)]] w (Ret fun v w' => v = .int .i64 (-1) ∧ Ext w w') := by
  have hl := hn.len
  have hn16 := hn.n16
  obtain ⟨q, c, rfl, hqc⟩ := h.slice
  refine calls_of_wc (args := [.slice q S.length c, .func (.func 99) #[] #[.pointer (some ⟨bn, 0, none⟩)]]) Tryz.func135 rfl ?_ ?_; kernel_rfl
  repeat' (first|refine za ?_|refine zA ?_|refine zB ?_|refine zb ?_|refine zc ?_|refine ze ?_|refine zd ?_|refine zK ?_|refine zl ?_)
  refine wc_loop [0, 1, 7] (fun (k : Nat) => [(8, .int .i64 k)]) (fun k wk => Ext w wk ∧ k ≤ S.length) (fun k => S.length - k) 0 rfl ⟨rfl, trivial⟩ ⟨Ext.refl _, by omega⟩ ?_
  rintro k wk x ⟨hE, hk⟩
  by_cases hin : k < S.length
  · have hps := h.isSome (by omega)
    obtain ⟨g0, g1, g2⟩ := (h.ext hE).rd (i := k) hin
    have hok := hn.ok k hin
    unfold st at hok
    generalize S.getD k (0, 0, 0) = s at *
    obtain ⟨a, b, cc⟩ := s
    repeat' (first|refine za ?_|refine zA ?_|refine zB ?_|refine zb ?_|refine zc ?_|refine ze ?_|refine zd ?_|refine zC ?_|refine zX ?_|refine zk ?_|refine zl ?_)
    refine r_idx sz58 rfl rfl hps (by omega) (by omega) ?_
    repeat' (refine za ?_)
    refine r_ld3Q ag60 rfl g0 g1 g2 ?_
    repeat' (refine za ?_)
    refine r_callV (cap := [.pointer (some ⟨bn, 0, none⟩)]) rfl rfl (bad_any n a b cc bn _ hok hn16 (hb.ext hE)) ?_
    rintro v' w' ⟨rfl, hE'⟩
    repeat' (first|refine za ?_|refine zA ?_|refine zb ?_|refine ze ?_|refine zd ?_|refine zI ?_|refine zY ?_|refine zk ?_|refine zh ?_)
    exact ⟨k + 1, ⟨rfl, trivial⟩, ⟨hE.trans hE', by omega⟩, by omega⟩
  · repeat' (first|refine za ?_|refine zB ?_|refine zb ?_|refine zc ?_|refine ze ?_|refine zd ?_|refine zC ?_|refine zY ?_|refine zm ?_|refine zn ?_|refine zg ?_|refine zj ?_)
    refine post1 (v := .int .i64 (-1)) rfl rfl ?_
    exact ⟨rfl, hE⟩
theorem contains101 (n bn : Nat) (v : Value) (S : List N3) (w : World) (h : Trip w v S) (hn : NetOk n S) (hb : Box w bn 3 (.int .i64 (n : Int))) :
    Calls Tryz.prog 101 #[v, .func (.func 99) #[] #[.pointer (some ⟨bn, 0, none⟩)]] w (Ret fun v w' => v = .bool false ∧ Ext w w') := by
  obtain ⟨q, c, rfl, hqc⟩ := h.slice
  refine calls_of_wc (args := [.slice q S.length c, .func (.func 99) #[] #[.pointer (some ⟨bn, 0, none⟩)]]) Tryz.func101 rfl ?_ ?_; kernel_rfl
  repeat' (first|refine za ?_|refine zA ?_|refine zB ?_|refine zb ?_|refine zc ?_|refine ze ?_|refine zd ?_)
  (refine r_call (R := ?_) rfl ?_ ?_; rotate_left 1; focus exact index135 n bn _ S _ h hn hb)
  rintro _ w1 ⟨rfl, hE⟩
  repeat' (first|refine za ?_|refine zB ?_|refine zb ?_|refine ze ?_|refine zF ?_|refine zn ?_)
  refine post1 (v := .bool false) rfl rfl ?_
  exact ⟨rfl, hE⟩
theorem z117 : (Tryz.prog.info? 117).bind (·.zero) = some (.agg [.int .i64 0, .slice none 0 0].toArray) := by kernel_rfl
theorem ag117 : aggT Tryz.prog 117 2 = true := by kernel_rfl
theorem fo117_0 : fldOff Tryz.prog 117 0 = some 0 := by kernel_rfl
theorem fo117_1 : fldOff Tryz.prog 117 1 = some 1 := by kernel_rfl
theorem ct58 : cellT Tryz.prog 58 = true := by kernel_rfl
abbrev netV (n : Nat) (q : Option Addr) (l c : Nat) : List Value := [.int .i64 (n : Int), .slice q l c]
theorem built117 (n : Int) (q : Option Addr) (a c : Nat) : Tryz.prog.built 117 [(0, .int .i64 n), (1, .slice q a c)] = some #[.int .i64 n, .slice q a c] := by kernel_rfl
set_option maxHeartbeats 1000000 in
theorem newNet_any (n : Nat) (q : Option Addr) (c : Nat) (S : List N3) (w : World) (h : Trip w (.slice q S.length c) S) (hn : NetOk n S) :
    Calls Tryz.prog 59 #[.int .i64 (n : Int), .slice q S.length c] w (Ret fun v w' => v = .tuple #[.agg (netV n q S.length c).toArray, .bool true] ∧ Ext w w') := by
  have hl := hn.len
  have hn1 := hn.n1
  have hn16 := hn.n16
  refine calls_of_wc (args := [.int .i64 (n : Int), .slice q S.length c]) Tryz.func59 rfl ?_ ?_; kernel_rfl
  repeat' (first|refine za ?_|refine zc ?_|refine zd ?_)
  refine r_box (v := .int .i64 (n : Int)) rfl rfl fun w1 hb1 hE1 hs1 => ?_
  obtain ⟨b1, eb1⟩ : ∃ b, b = w.heap.size := ⟨_, rfl⟩
  rw [← eb1] at hb1 ⊢
  repeat' (refine za ?_)
  refine r_allocN z117 fun w2 hb2 hE2 hs2 => ?_
  obtain ⟨b2, eb2⟩ : ∃ b, b = w1.heap.size := ⟨_, rfl⟩
  rw [← eb2] at hb2 ⊢
  repeat' (first|refine za ?_|refine zB ?_|refine zb ?_|refine zc ?_|refine ze ?_|refine zd ?_)
  refine r_mkfn (as_ := []) (bs := [.tmp 2]) ?_
  repeat' (first|refine za ?_|refine zB ?_|refine zb ?_|refine zc ?_|refine ze ?_|refine zd ?_)
  have gn := (hb1.ext hE2).rd
  repeat' (first|refine za ?_|refine zM ?_)
  (refine r_call_q (v := ?_) rfl ?_ ?_; rotate_left 1; focus exact in100 (n : Int) 1 16 _ (by omega) (by omega))
  repeat' (first|refine za ?_|refine zA ?_|refine zD ?_|refine zK ?_|refine zQ ?_|refine zU ?_)
  (refine r_call (R := ?_) rfl ?_ ?_; rotate_left 1; focus exact contains101 n b1 _ S _ (h.ext (hE1.trans hE2)) hn (hb1.ext hE2))
  rintro _ w3 ⟨rfl, hE3⟩
  have gn3 := (hb1.ext (hE2.trans hE3)).rd
  repeat' (first|refine za ?_|refine zA ?_|refine zB ?_|refine zb ?_|refine zc ?_|refine ze ?_|refine zd ?_|refine zM ?_|refine zO ?_|refine zQ ?_|refine zU ?_)
  refine r_build (cells := (netV n q S.length c).toArray) (built117 (n : Int) q S.length c) ?_
  repeat' (first|refine za ?_|refine zA ?_)
  refine r_stN (ws := netV n q S.length c) ag117 (by decide) (hb2.ext hE3) rfl rfl rfl rfl (by intro q hq; simp at hq; rcases hq with rfl | rfl <;> rfl) fun w4 h4 hC4 hs4 => ?_
  repeat' (first|refine za ?_|refine zB ?_|refine zb ?_|refine ze ?_|refine zn ?_)
  refine post_c2 rfl rfl rfl ag117 (by decide) h4 rfl ⟨rfl, ?_⟩
  exact Ch.trans' ((hE1.trans hE2).trans hE3) hC4 fun k hk e => by omega
end Go.Proofs.YtocgehoffdjijaaGreat
/- top: streets: parts that are joined. -/
namespace Go.Proofs.YtocgehoffdjijaaGreat
open Gv
set_option maxRecDepth 20000
/-- For each vertex another one of its part, or itself. -/
structure Par (U : List Nat) : Prop where
  len : U.length = 16
  le : ∀ v, v < 16 → U.getD v 0 ≤ v
def ofF (U : List Nat) : Nat → Nat → Nat
  | 0, v => v
  | f + 1, v => if U.getD v 0 = v then v else ofF U f (U.getD v 0)
def ofU (U : List Nat) (v : Nat) : Nat := ofF U 16 v
theorem ofF_more {U : List Nat} (h : Par U) : ∀ (f g v : Nat), v < f → v < g → v < 16 → ofF U f v = ofF U g v
  | 0, _, _, hf, _, _ => by omega
  | _ + 1, 0, _, _, hg, _ => by omega
  | f + 1, g + 1, v, hf, hg, hv => by
    simp only [ofF]
    by_cases e : U.getD v 0 = v
    · rw [if_pos e, if_pos e]
    · rw [if_neg e, if_neg e]
      have := h.le v hv
      exact ofF_more h f g _ (by omega) (by omega) (by omega)
theorem ofU_here {U : List Nat} {v : Nat} (e : U.getD v 0 = v) : ofU U v = v := by
  show ofF U 16 v = v
  simp only [ofF, if_pos e]
theorem ofU_up {U : List Nat} (h : Par U) {v : Nat} (hv : v < 16) (e : U.getD v 0 ≠ v) : ofU U v = ofU U (U.getD v 0) := by
  have := h.le v hv
  show ofF U (15 + 1) v = ofF U 16 _
  simp only [ofF, if_neg e]
  exact ofF_more h 15 16 _ (by omega) (by omega) (by omega)
theorem ofU_lt {U : List Nat} (h : Par U) : ∀ {v : Nat}, v < 16 → ofU U v ≤ v ∧ U.getD (ofU U v) 0 = ofU U v := by
  intro v
  induction v using Nat.strongRecOn with
  | _ v ih =>
    intro hv
    by_cases e : U.getD v 0 = v
    · rw [ofU_here e]; exact ⟨Nat.le_refl _, e⟩
    · have h1 := h.le v hv
      rw [ofU_up h hv e]
      obtain ⟨a, b⟩ := ih (U.getD v 0) (by omega) (by omega)
      exact ⟨by omega, b⟩
def PrB (w : World) (b : Nat) (U : List Nat) : Prop := Blk w b 210 (ints (ni U))
theorem PrB.rd {w : World} {b v : Nat} {U : List Nat} (h : PrB w b U) (hU : Par U) (hv : v < 16) {o : Nat} (ho : o = v) : Gv.rd w (some ⟨b, o, none⟩) = some (.int .i64 ((U.getD v 0 : Nat) : Int)) := by
  subst ho
  refine Blk.rd h ?_
  rw [← ni_get]
  exact ints_getD (by rw [ni_len, hU.len]; exact hv)
theorem fo210_0 : fldOff Tryz.prog 210 0 = some 0 := by kernel_rfl
theorem as128 : arrSz Tryz.prog 128 = some (16, 1) := by kernel_rfl
set_option maxHeartbeats 1000000 in
theorem of140 (b v : Nat) (U : List Nat) (w : World) (hb : PrB w b U) (hU : Par U) (hv : v < 16) :
    Calls Tryz.prog 140 #[.pointer (some ⟨b, 0, none⟩), .int .i64 (v : Int)] w (Ret fun r w' => r = .int .i64 (ofU U v : Int) ∧ w' = w) := by
  refine calls_of_wc (args := [.pointer (some ⟨b, 0, none⟩), .int .i64 (v : Int)]) Tryz.func140 rfl ?_ ?_; kernel_rfl
  repeat' (first|refine za ?_|refine zB ?_|refine zb ?_|refine zc ?_|refine ze ?_|refine zd ?_|refine zl ?_)
  refine wc_loop [0] (fun (k : Nat) => [(1, .int .i64 k)]) (fun k wk => wk = w ∧ k < 16 ∧ ofU U k = ofU U v) (fun k => k) v rfl ⟨rfl, trivial⟩ ⟨rfl, hv, rfl⟩ ?_
  rintro k wk x ⟨rfl, hk, he⟩
  have hr := hb.rd hU hk (o := 0 + 0 + ((k : Int)).toNat) (by simp)
  have hle := hU.le k hk
  repeat' (first|refine za ?_|refine zA ?_|refine zc ?_|refine zd ?_|refine zP ?_)
  refine r_fa fo210_0 rfl ?_
  repeat' (refine za ?_)
  refine r_idxE as128 rfl rfl (by omega) (by omega) ?_
  by_cases e : U.getD k 0 = k
  · rw [ofU_here e] at he
    rw [← he]
    rw [e] at hr
    repeat' (first|refine za ?_|refine zA ?_|refine zB ?_|refine zb ?_|refine zc ?_|refine ze ?_|refine zd ?_|refine zH ?_|refine zM ?_|refine zY ?_|refine zm ?_|refine zn ?_|refine zg ?_|refine zj ?_)
    refine post1 (v := .int .i64 (k : Int)) rfl rfl ?_
    exact ⟨rfl, rfl⟩
  · rw [ofU_up hU hk e] at he
    generalize U.getD k 0 = u at *
    repeat' (first|refine za ?_|refine zA ?_|refine zb ?_|refine ze ?_|refine zd ?_|refine zH ?_|refine zM ?_|refine zP ?_|refine zX ?_|refine zk ?_|refine zl ?_)
    refine r_fa fo210_0 rfl ?_
    repeat' (refine za ?_)
    refine r_idxE as128 rfl rfl (by omega) (by omega) ?_
    repeat' (first|refine za ?_|refine zB ?_|refine zb ?_|refine ze ?_|refine zM ?_|refine zh ?_)
    exact ⟨u, ⟨rfl, trivial⟩, ⟨rfl, by omega, he⟩, by omega⟩
def apU (i : Nat) : List Nat := (List.range 16).map fun v => if v < i then v else 0
theorem apU_set : ∀ i, i < 16 → (ints (ni (apU i))).set i (.int .i64 (i : Int)) = ints (ni (apU (i + 1))) := by
  intro i hi
  have : (apU i).set i i = apU (i + 1) := by
    have : ∀ i, i < 16 → (apU i).set i i = apU (i + 1) := by decide +kernel
    exact this i hi
  rw [← this, ints_set]
  unfold ni
  rw [List.map_set]
theorem par16 : Par (List.range 16) := ⟨by simp, by intro v hv; simp [List.getD, hv]⟩
theorem apU16 : apU 16 = List.range 16 := by decide
theorem blt210 : Tryz.prog.built 210 [] = some (ints (ni (apU 0))).toArray := by kernel_rfl
set_option maxHeartbeats 1000000 in
theorem apart_any (w : World) : Calls Tryz.prog 102 #[] w (Ret fun r w' => r = .pointer (some ⟨w.heap.size, 0, none⟩) ∧ PrB w' w.heap.size (List.range 16) ∧ Ext w w') := by
  refine calls_of_wc (args := []) Tryz.func102 rfl ?_ ?_; kernel_rfl
  repeat' (first|refine za ?_|refine zB ?_|refine zb ?_|refine zc ?_|refine ze ?_|refine zd ?_)
  refine r_build (parts := []) (cells := (ints (ni (apU 0))).toArray) blt210 ?_
  repeat' (refine za ?_)
  refine r_boxN (cells := ints (ni (apU 0))) rfl fun w1 hb1 hE1 hs1 => ?_
  obtain ⟨b1, eb1⟩ : ∃ b, b = w.heap.size := ⟨_, rfl⟩
  rw [← eb1] at hb1 ⊢
  repeat' (first|refine za ?_|refine zA ?_|refine zB ?_|refine zb ?_|refine zc ?_|refine ze ?_|refine zd ?_|refine zl ?_)
  refine wc_loop [1] (fun (i : Nat) => [(5, .int .i64 i)]) (fun i wk => i ≤ 16 ∧ Blk wk b1 210 (ints (ni (apU i))) ∧ Ch (fun k => k = b1) w1 wk) (fun i => 16 - i) 0 rfl ⟨rfl, trivial⟩ ⟨by omega, hb1, Ch.refl _ _⟩ ?_
  rintro i wk x ⟨hi, hbk, hCk⟩
  by_cases hin : i < 16
  · repeat' (first|refine za ?_|refine zA ?_|refine zB ?_|refine zb ?_|refine zc ?_|refine ze ?_|refine zd ?_|refine zC ?_|refine zP ?_|refine zX ?_|refine zk ?_|refine zl ?_)
    refine r_fa fo210_0 rfl ?_
    repeat' (refine za ?_)
    refine r_idxE as128 rfl rfl (by omega) (by omega) ?_
    repeat' (refine za ?_)
    refine r_st_blk (k := 0 + 0 + ((i : Int)).toNat) (v := .int .i64 (i : Int)) co3 hbk rfl rfl rfl (by simp [ni, apU, ints]; omega) fun w4 h4 hC4 hs4 => ?_
    rw [show 0 + 0 + ((i : Int)).toNat = i by simp, apU_set i hin] at h4
    repeat' (first|refine za ?_|refine zA ?_|refine zb ?_|refine ze ?_|refine zd ?_|refine zI ?_|refine zh ?_)
    exact ⟨i + 1, ⟨rfl, trivial⟩, ⟨by omega, h4, hCk.trans hC4⟩, by omega⟩
  · obtain rfl : i = 16 := by omega
    rw [apU16] at hbk
    repeat' (first|refine za ?_|refine zA ?_|refine zB ?_|refine zb ?_|refine zc ?_|refine ze ?_|refine zd ?_|refine zC ?_|refine zY ?_|refine zm ?_|refine zn ?_|refine zg ?_|refine zj ?_)
    refine post1 (v := .pointer (some ⟨b1, 0, none⟩)) rfl rfl ?_
    exact ⟨rfl, hbk, Ch.trans' hE1 hCk fun k hk e => by omega⟩
def joU (U : List Nat) (a b : Nat) : List Nat := U.set (max (ofU U a) (ofU U b)) (min (ofU U a) (ofU U b))
theorem joU_par {U : List Nat} (h : Par U) (a b : Nat) : Par (joU U a b) := by
  refine ⟨by simp [joU, h.len], fun v hv => ?_⟩
  unfold joU
  rw [List.getD_eq_getElem?_getD, List.getElem?_set]
  split
  · rename_i e
    split
    · simp only [Option.getD_some]; omega
    · simp
  · rw [← List.getD_eq_getElem?_getD]; exact h.le v hv
set_option maxHeartbeats 1000000 in
theorem join_any (b x y : Nat) (U : List Nat) (w : World) (hb : PrB w b U) (hU : Par U) (hx : x < 16) (hy : y < 16) :
    Calls Tryz.prog 104 #[.pointer (some ⟨b, 0, none⟩), .int .i64 (x : Int), .int .i64 (y : Int)] w (Ret fun r w' => r = .bool (decide (ofU U x ≠ ofU U y)) ∧ PrB w' b (joU U x y) ∧ Ch (fun k => k = b) w w' ∧ w'.heap.size = w.heap.size) := by
  have l1 := (ofU_lt hU hx).1
  have l2 := (ofU_lt hU hy).1
  refine calls_of_wc (args := [.pointer (some ⟨b, 0, none⟩), .int .i64 (x : Int), .int .i64 (y : Int)]) Tryz.func104 rfl ?_ ?_; kernel_rfl
  repeat' (first|refine za ?_|refine zA ?_|refine zB ?_|refine zb ?_|refine zc ?_|refine ze ?_|refine zd ?_)
  (refine r_call_q (v := ?_) rfl ?_ ?_; rotate_left 1; focus exact of140 b x U _ hb hU hx)
  repeat' (first|refine za ?_|refine zA ?_)
  (refine r_call_q (v := ?_) rfl ?_ ?_; rotate_left 1; focus exact of140 b y U _ hb hU hy)
  unfold joU
  generalize ofU U x = p at *
  generalize ofU U y = q at *
  repeat' (first|refine za ?_|refine zA ?_|refine zB ?_|refine zb ?_|refine zc ?_|refine ze ?_|refine zd ?_)
  refine r_max (c := ((max p q : Nat) : Int)) rfl rfl (by split <;> omega) ?_
  repeat' (first|refine za ?_|refine zA ?_)
  refine r_min (c := ((min p q : Nat) : Int)) rfl rfl (by split <;> omega) ?_
  repeat' (first|refine za ?_|refine zP ?_)
  refine r_fa fo210_0 rfl ?_
  repeat' (refine za ?_)
  refine r_idxE as128 rfl rfl (by omega) (by omega) ?_
  repeat' (refine za ?_)
  refine r_st_blk (k := 0 + 0 + (((max p q : Nat) : Int)).toNat) (v := .int .i64 ((min p q : Nat) : Int)) co3 hb rfl rfl rfl (by rw [ints_length, ni_len, hU.len]; simp; omega) fun w4 h4 hC4 hs4 => ?_
  rw [show 0 + 0 + (((max p q : Nat) : Int)).toNat = max p q by simp] at h4
  have h5 : PrB w4 b (U.set (max p q) (min p q)) := by
    unfold PrB ni
    rw [List.map_set]
    rw [ints_set] at h4
    exact h4
  by_cases e : p = q
  · subst e
    repeat' (first|refine za ?_|refine zA ?_|refine zB ?_|refine zb ?_|refine zc ?_|refine ze ?_|refine zd ?_|refine zH ?_|refine zn ?_)
    refine post1 (v := .bool false) rfl rfl ?_
    exact ⟨by simp, h5, hC4, hs4⟩
  · repeat' (first|refine za ?_|refine zA ?_|refine zB ?_|refine zb ?_|refine zc ?_|refine ze ?_|refine zd ?_|refine zH ?_|refine zn ?_)
    refine post1 (v := .bool true) rfl rfl ?_
    exact ⟨by simp [e], h5, hC4, hs4⟩
end Go.Proofs.YtocgehoffdjijaaGreat
/- top: streets: joined, tree, in a given order. -/
namespace Go.Proofs.YtocgehoffdjijaaGreat
open Gv
set_option maxRecDepth 20000
/-- The parts and the number of streets that were needed, behind so many streets of an order. -/
def jst (S : List N3) (O : List Nat) : Nat → List Nat × Nat
  | 0 => (List.range 16, 0)
  | i + 1 => (joU (jst S O i).1 (st S (O.getD i 0)).1 (st S (O.getD i 0)).2.1, if ofU (jst S O i).1 (st S (O.getD i 0)).1 = ofU (jst S O i).1 (st S (O.getD i 0)).2.1 then (jst S O i).2 else (jst S O i).2 + 1)
/-- Those streets. -/
def tst (S : List N3) (O : List Nat) : Nat → List Nat
  | 0 => []
  | i + 1 => if ofU (jst S O i).1 (st S (O.getD i 0)).1 = ofU (jst S O i).1 (st S (O.getD i 0)).2.1 then tst S O i else tst S O i ++ [O.getD i 0]
theorem jst_par {n : Nat} {S : List N3} {O : List Nat} (hn : NetOk n S) (hO : ∀ i, i < O.length → O.getD i 0 < S.length) : ∀ i, i ≤ O.length → Par (jst S O i).1
  | 0, _ => par16
  | i + 1, h => by
    exact joU_par (jst_par hn hO i (by omega)) _ _
theorem jst_le (S : List N3) (O : List Nat) : ∀ i, (jst S O i).2 ≤ i
  | 0 => Nat.le_refl _
  | i + 1 => by have := jst_le S O i; simp only [jst]; split <;> omega
theorem tst_len (S : List N3) (O : List Nat) : ∀ i, (tst S O i).length = (jst S O i).2
  | 0 => rfl
  | i + 1 => by have := tst_len S O i; simp only [jst, tst]; split <;> simp [this]
set_option maxHeartbeats 4000000 in
theorem joined_any (n : Nat) (q ql : Option Addr) (c cl : Nat) (S : List N3) (O : List Nat) (w : World) (h : Trip w (.slice q S.length c) S) (hn : NetOk n S) (hl : Ints w (.slice ql O.length cl) (ni O)) (hO : ∀ i, i < O.length → O.getD i 0 < S.length) (hOl : O.length ≤ 60) :
    Calls Tryz.prog 105 #[.agg (netV n q S.length c).toArray, .slice ql O.length cl] w (Ret fun r w' => ∃ b, r = .tuple #[.pointer (some ⟨b, 0, none⟩), .int .i64 ((jst S O O.length).2 : Int)] ∧ w.heap.size ≤ b ∧ PrB w' b (jst S O O.length).1 ∧ Ext w w') := by
  have hsl := hn.len
  have hn16 := hn.n16
  refine calls_of_wc (args := [.agg (netV n q S.length c).toArray, .slice ql O.length cl]) Tryz.func105 rfl ?_ ?_; kernel_rfl
  repeat' (first|refine za ?_|refine zc ?_|refine zd ?_)
  refine r_boxN (cells := netV n q S.length c) rfl fun w1 hb1 hE1 hs1 => ?_
  obtain ⟨b1, eb1⟩ : ∃ b, b = w.heap.size := ⟨_, rfl⟩
  rw [← eb1] at hb1 ⊢
  repeat' (first|refine za ?_|refine zB ?_|refine zb ?_|refine zc ?_|refine ze ?_|refine zd ?_)
  (refine r_call (R := ?_) rfl ?_ ?_; rotate_left 1; focus exact apart_any _)
  rintro _ w2 ⟨rfl, hb2, hE2⟩
  obtain ⟨b2, eb2⟩ : ∃ b, b = w1.heap.size := ⟨_, rfl⟩
  rw [← eb2] at hb2 ⊢
  have hne : b1 ≠ b2 := by omega
  repeat' (first|refine za ?_|refine zA ?_|refine zB ?_|refine zb ?_|refine zc ?_|refine ze ?_|refine zd ?_|refine zK ?_|refine zl ?_)
  refine wc_loop [2, 6, 11, 12] (fun (i : Nat) => [(7, .int .i64 ((jst S O i).2 : Int)), (13, .int .i64 i)]) (fun i wk => i ≤ O.length ∧ PrB wk b2 (jst S O i).1 ∧ Ch (fun k => k = b2) w2 wk) (fun i => O.length - i) 0 rfl ⟨rfl, rfl, trivial⟩ ⟨by omega, hb2, Ch.refl _ _⟩ ?_
  rintro i wk x ⟨hi, hbk, hCk⟩
  have hEk : Ext w wk := Ch.trans' (hE1.trans hE2) hCk fun k hk e => by omega
  by_cases hin : i < O.length
  · have hps := hl.isSome (by rw [ni_len]; omega)
    have hrd := (hl.ext hEk).rd (i := i) (by rw [ni_len]; omega)
    rw [ni_get] at hrd
    have hkS := hO i hin
    have hok := hn.ok _ hkS
    have hpar := jst_par hn hO i (by omega)
    have hj1 : (jst S O (i + 1)) = (joU (jst S O i).1 (st S (O.getD i 0)).1 (st S (O.getD i 0)).2.1, if ofU (jst S O i).1 (st S (O.getD i 0)).1 = ofU (jst S O i).1 (st S (O.getD i 0)).2.1 then (jst S O i).2 else (jst S O i).2 + 1) := rfl
    have hcl := jst_le S O i
    obtain ⟨s0, s1, s2⟩ := (h.ext (hEk.trans (Ext.drew wk))).rd (i := O.getD i 0) hkS
    have hqs := h.isSome (by omega)
    change rd wk.drew ((pidx q (O.getD i 0) 3).map fun a => a.add 0) = some (.int .i64 (st S (O.getD i 0)).1) at s0
    change rd wk.drew ((pidx q (O.getD i 0) 3).map fun a => a.add 1) = some (.int .i64 (st S (O.getD i 0)).2.1) at s1
    clear s2
    obtain ⟨ha, hb, _, _⟩ := hok
    generalize (st S (O.getD i 0)).1 = a at *
    generalize (st S (O.getD i 0)).2.1 = bb at *
    generalize O.getD i 0 = k at *
    generalize (jst S O i).1 = J at *
    generalize (jst S O i).2 = cnt at *
    have hb1d : Blk wk.drew b1 117 (netV n q S.length c) := (((hb1.ext hE2).keep hCk hne).ext (Ext.drew wk))
    have gq : rd wk.drew (some ⟨b1, 0 + 1, none⟩) = some (.slice q S.length c) := hb1d.rd rfl
    have hjn := join_any b2 a bb J wk.drew (hbk.ext (Ext.drew wk)) hpar (by omega) (by omega)
    repeat' (first|refine za ?_|refine zB ?_|refine zb ?_|refine zc ?_|refine ze ?_|refine zd ?_|refine zC ?_|refine zL ?_|refine zM ?_|refine zX ?_|refine zk ?_|refine zl ?_)
    (refine wc_drawn 13 (by kernel_rfl) (by kernel_rfl) ?_; simp only [List.take_succ_cons, List.take_zero, List.drop_succ_cons, List.drop_zero])
    repeat' (first|refine za ?_|refine zA ?_)
    refine r_fa fo117_1 rfl ?_
    repeat' (first|refine za ?_|refine zA ?_|refine zM ?_)
    refine r_idx sz58 rfl rfl hqs (by omega) (by omega) ?_
    repeat' (refine za ?_)
    refine r_faQ fo60_0 rfl (pidx_isSome hqs) ?_
    repeat' (first|refine za ?_|refine zM ?_)
    refine r_fa fo117_1 rfl ?_
    repeat' (first|refine za ?_|refine zA ?_|refine zM ?_)
    refine r_idx sz58 rfl rfl hqs (by omega) (by omega) ?_
    repeat' (refine za ?_)
    refine r_faQ fo60_1 rfl (pidx_isSome hqs) ?_
    repeat' (first|refine za ?_|refine zb ?_|refine zM ?_)
    (refine r_call (R := ?_) rfl ?_ ?_; rotate_left 1; focus exact hjn)
    rintro v w5 ⟨hv, hb5, hC5, hs5⟩
    have hend : i + 1 ≤ O.length ∧ PrB w5 b2 (jst S O (i + 1)).1 ∧ Ch (fun k => k = b2) w2 w5 := ⟨by omega, by rw [hj1]; exact hb5, hCk.trans (hC5.from_drew)⟩
    by_cases e : ofU J a = ofU J bb
    · rw [if_pos e] at hj1
      rw [show decide (ofU J a ≠ ofU J bb) = false by simp [e]] at hv
      subst hv
      repeat' (first|refine za ?_|refine zA ?_|refine zb ?_|refine ze ?_|refine zd ?_|refine zI ?_|refine zY ?_|refine zk ?_|refine zh ?_)
      exact ⟨i + 1, ⟨by rw [hj1]; rfl, rfl, trivial⟩, hend, by omega⟩
    · rw [if_neg e] at hj1
      rw [show decide (ofU J a ≠ ofU J bb) = true by simp [e]] at hv
      subst hv
      repeat' (first|refine za ?_|refine zA ?_|refine zB ?_|refine zb ?_|refine ze ?_|refine zd ?_|refine zI ?_|refine zX ?_|refine zh ?_)
      exact ⟨i + 1, ⟨by rw [hj1]; rfl, rfl, trivial⟩, hend, by omega⟩
  · obtain rfl : i = O.length := by omega
    repeat' (first|refine za ?_|refine zA ?_|refine zB ?_|refine zb ?_|refine zc ?_|refine ze ?_|refine zd ?_|refine zC ?_|refine zY ?_|refine zm ?_|refine zn ?_|refine zg ?_|refine zj ?_)
    refine post2 rfl (v1 := .pointer (some ⟨b2, 0, none⟩)) (v2 := .int .i64 ((jst S O O.length).2 : Int)) rfl rfl ?_
    exact ⟨b2, rfl, by omega, hbk, hEk⟩
end Go.Proofs.YtocgehoffdjijaaGreat

/- top: seals: Least; top: seals: Least, Fair, Check; top: mod, ints. -/
import Derived.Test.YtocgehoffdjijaaGreatLB
/- top: seals: Least. -/
namespace Go.Proofs.YtocgehoffdjijaaGreat
open Gv
set_option maxRecDepth 20000
def LDt (bm bt bf m to fr : Nat) (w : World) : Prop := Box w bm 3 (.int .i64 (m : Int)) ∧ Box w bt 3 (.int .i64 (to : Int)) ∧ Box w bf 3 (.int .i64 (fr : Int))
theorem LDt.kts {bm bt bf m to fr : Nat} {w w' : World} (h : LDt bm bt bf m to fr w) (hk : Kts w w') : LDt bm bt bf m to fr w' := ⟨Box.kt h.1 hk.k3, Box.kt h.2.1 hk.k3, Box.kt h.2.2 hk.k3⟩
set_option maxHeartbeats 1000000 in
theorem lists1_any (bm bt bf m to fr : Nat) (hto : to ≤ 1000) (hm : m ≤ 1000) (hfr : fr ≤ 1001) : IterX Tryz.prog 80 [.pointer (some ⟨bm, 0, none⟩), .pointer (some ⟨bt, 0, none⟩), .pointer (some ⟨bf, 0, none⟩)] (lsts to m [] fr) EnL [3, 112, 145] (LDt bm bt bf m to fr) := by
  intro l J Jx W hJ hJx h0 hD hY
  show Calls Tryz.prog 80 #[.func (.yield l) #[] #[], .pointer (some ⟨bm, 0, none⟩), .pointer (some ⟨bt, 0, none⟩), .pointer (some ⟨bf, 0, none⟩)] W (Ret fun _ w' => J (lsts to m [] fr).length w' ∨ ∃ i, Jx i w')
  refine calls_of_wc (args := [.func (.yield l) #[] #[], .pointer (some ⟨bm, 0, none⟩), .pointer (some ⟨bt, 0, none⟩), .pointer (some ⟨bf, 0, none⟩)]) Tryz.func80 rfl ?_ ?_; kernel_rfl
  repeat' (first|refine za ?_|refine zc ?_|refine zd ?_)
  refine r_box (v := .func (.yield l) #[] #[]) rfl rfl fun w1 hb1 hE1 hs1 => ?_
  obtain ⟨by_, eb1⟩ : ∃ b, b = W.heap.size := ⟨_, rfl⟩
  rw [← eb1] at hb1 ⊢
  repeat' (first|refine za ?_|refine zb ?_|refine zc ?_|refine ze ?_|refine zd ?_)
  refine r_alloc (z := .nilFunc) z145 rfl fun w2 hb2 hE2 hs2 => ?_
  obtain ⟨be, eb2⟩ : ∃ b, b = w1.heap.size := ⟨_, rfl⟩
  rw [← eb2] at hb2 ⊢
  repeat' (first|refine za ?_|refine zb ?_|refine zc ?_|refine ze ?_|refine zd ?_)
  refine r_mkfn (as_ := []) (bs := [.tmp 1, .tmp 4, .tmp 2, .tmp 5]) ?_
  repeat' (refine za ?_)
  refine r_st_box (v := .func (.func 81) #[] (capE bm by_ bt be).toArray) co145 hb2 rfl rfl rfl fun w3 hb3 hC3 hs3 => ?_
  have hE3 : Ext W w3 := Ch.trans' (hE1.trans hE2) hC3 fun k hk e => by omega
  have hD3 : LDt bm bt bf m to fr w3 := ⟨hD.1.ext hE3, hD.2.1.ext hE3, hD.2.2.ext hE3⟩
  have hb13 := (hb1.ext hE2).keep hC3 (by omega)
  have gf := hD3.2.2.rd
  repeat' (first|refine za ?_|refine zb ?_|refine ze ?_|refine zd ?_)
  refine r_ld ct145 rfl hb3.rd ?_
  repeat' (first|refine za ?_|refine zM ?_)
  refine r_callV (cap := capE bm by_ bt be) rfl rfl (extend_any l bm bt by_ be m to J Jx (lsts to m [] fr) (LDt bm bt bf m to fr) hto hm hJ (fun w w' hk h => h.kts hk) hY m [] fr (.slice none 0 0) 0 w3 (by simp) hfr (World.ownsRow_nil _ _ _ _) (fun j x h => by rw [Nat.zero_add]; exact h) (hJ _ _ _ hE3.nx h0) hD3 ⟨hD3.1, hD3.2.1, hb13, hb3⟩) ?_
  rintro _ w4 ⟨b, rfl, _, ht, hf⟩
  repeat' (refine zb ?_)
  refine post0n rfl ?_
  cases b with
  | true => exact .inl (by have := (ht rfl).1; rwa [Nat.zero_add] at this)
  | false => exact .inr (hf rfl)
theorem lists_any (m to fr : Nat) (w : World) : Calls Tryz.prog 40 #[.int .i64 (m : Int), .int .i64 (fr : Int), .int .i64 (to : Int)] w
    (Ret fun v w' => ∃ bm bt bf, v = .func (.func 80) #[] #[.pointer (some ⟨bm, 0, none⟩), .pointer (some ⟨bt, 0, none⟩), .pointer (some ⟨bf, 0, none⟩)] ∧ LDt bm bt bf m to fr w' ∧ Ext w w') := by
  refine calls_of_wc (args := [.int .i64 (m : Int), .int .i64 (fr : Int), .int .i64 (to : Int)]) Tryz.func40 rfl ?_ ?_; kernel_rfl
  repeat' (first|refine za ?_|refine zc ?_|refine zd ?_)
  refine r_box (v := .int .i64 (m : Int)) rfl rfl fun w1 hb1 hE1 hs1 => ?_
  obtain ⟨b1, eb1⟩ : ∃ b, b = w.heap.size := ⟨_, rfl⟩
  rw [← eb1] at hb1 ⊢
  repeat' (refine za ?_)
  refine r_box (v := .int .i64 (fr : Int)) rfl rfl fun w2 hb2 hE2 hs2 => ?_
  obtain ⟨b2, eb2⟩ : ∃ b, b = w1.heap.size := ⟨_, rfl⟩
  rw [← eb2] at hb2 ⊢
  repeat' (refine za ?_)
  refine r_box (v := .int .i64 (to : Int)) rfl rfl fun w3 hb3 hE3 hs3 => ?_
  obtain ⟨b3, eb3⟩ : ∃ b, b = w2.heap.size := ⟨_, rfl⟩
  rw [← eb3] at hb3 ⊢
  repeat' (first|refine za ?_|refine zB ?_|refine zb ?_|refine zc ?_|refine ze ?_|refine zd ?_)
  refine r_mkfn (as_ := []) (bs := [.tmp 3, .tmp 5, .tmp 4]) ?_
  repeat' (first|refine za ?_|refine zB ?_|refine zb ?_|refine ze ?_|refine zn ?_)
  refine post1 (v := .func (.func 80) #[] #[.pointer (some ⟨b1, 0, none⟩), .pointer (some ⟨b3, 0, none⟩), .pointer (some ⟨b2, 0, none⟩)]) rfl rfl ?_
  exact ⟨b1, b3, b2, rfl, ⟨hb1.ext (hE2.trans hE3), hb3, hb2.ext hE3⟩, (hE1.trans hE2).trans hE3⟩
namespace Gv
/-- The rule of a range over a function, where one value comes and a round may leave. -/
theorem wc_range1X {P : Program} {α : Type} {g : Operand} {p1 : Nat} {a b : Code} {Q : Exit → Env → World → Prop} {ρ : Env} {w : World} {f : FuncId} {lb : List Value}
    (items : List α) (E : α → List Value → World → Prop) (T : List TypeId) (Dt : World → Prop) (I : Nat → World → Prop) (Ix : Exit → Nat → World → Prop) (M : List Nat)
    (hM : ρ 1000000 = mkv M) (hg : ev ρ g = .func (.func f) #[] lb.toArray) (hf : callable P f = true) (hit : IterX P f lb items E T Dt) (hE1 : ∀ x xs w, E x xs w → ∃ v, xs = [v])
    (hDt : ∀ W W', Lk w.heap.size W W' → Dt W → Dt W') (hI : ∀ i W W', Lk w.heap.size W W' → I i W → I i W') (hIx : ∀ e i W W', Lk w.heap.size W W' → Ix e i W → Ix e i W') (hE : ∀ x xs W W', Lk w.heap.size W W' → E x xs W → E x xs W') (hD0 : Dt w) (hI0 : I 0 w)
    (hbody : ∃ asg : Value → Env, (∀ (x : α) (v : Value) (W : World), E x [v] W → wc P a (fun e ρ' w' => e = .normal ∧ ρ' = asg v ∧ w' = W) (up (up ρ 1000000 (mkv [])) p1 v) W) ∧
      ∀ (i : Nat) (W : World) (x : α) (v : Value), items[i]? = some x → E x [v] W → w.heap.size ≤ W.heap.size → I i W → Dt W → wc P b (rndX w.heap.size W (fun w' => I (i + 1) w' ∧ Dt w' ∧ ∀ t, t ∈ T → Kt t W w') (fun e w' => Ix e i w' ∧ ∀ t, t ∈ T → Kt t W w')) (asg v) W)
    (hdone : ∀ W, I items.length W → W.heap[w.heap.size]? = some (.deferred (some [])) → Q .normal (up ρ 1000000 (mkv (w.heap.size :: M))) W)
    (hstop : ∀ e i W, Ix e i W → (e = .ret ∨ ∃ j, e = .exit j) → W.heap[w.heap.size]? = some (.deferred (some [])) → Q e (up ρ 1000000 (mkv (w.heap.size :: M))) W) :
    wc P (.rangeFunc g #[p1] a b) Q ρ w := by
  obtain ⟨asg, h1, h2⟩ := hbody
  refine wc_rangeFuncX ⟨α, E, f, lb, items, T, Dt, I, Ix, fun x => match x with | [v] => asg v | _ => ρ, M, hM, hg, fun args w => run_callFunc hf w, hit, ?_, hDt, hI, hIx, hE, hD0, hI0, ?_, ?_, hdone, hstop⟩
  · intro x xs w h
    obtain ⟨v, rfl⟩ := hE1 _ _ _ h
    rfl
  · intro i W x xs hx h
    obtain ⟨v, rfl⟩ := hE1 _ _ _ h
    exact h1 x v W h
  · intro i W x xs hx h hs hi hd
    obtain ⟨v, rfl⟩ := hE1 _ _ _ h
    exact h2 i W x v hx h hs hi hd
end Gv
end Go.Proofs.YtocgehoffdjijaaGreat
/- top: seals: Least, Fair, Check. -/
namespace Go.Proofs.YtocgehoffdjijaaGreat
open Gv
set_option maxRecDepth 20000
namespace Gv
theorem Box.cell' {w : World} {b : Nat} {t : TypeId} {v : Value} (h : Box w b t v) : w.cell? ⟨b, 0, none⟩ = some v := by
  rw [cell_of_row w b 0 _ _ _ h]; rfl
/-- Two results that are variables of their own, behind ranges over functions. -/
theorem postK_cc {P : Program} {fn : Func} {R : Value → World → Prop} {ρ : Env} {w : World} {c d b1 b2 : Nat} {t u t' u' : TypeId} {v1 v2 : Value} (M : List Nat) (hm : ρ 1000000 = mkv M) (hM : Mk M w) (h : fn.results = #[.cell c t, .cell d u])
    (hc : ρ c = .pointer (some ⟨b1, 0, none⟩)) (hd : ρ d = .pointer (some ⟨b2, 0, none⟩)) (ht : cellT P t = true) (hu : cellT P u = true) (hb1 : Box w b1 t' v1) (hb2 : Box w b2 u' v2)
    (hR : ∀ w', Ch (fun k => k ∈ M) w w' → R (.tuple #[v1, v2]) w') (hc' : c ≠ 1000000 := by decide) (hd' : d ≠ 1000000 := by decide) : post P fn R .ret ρ w := by
  refine ⟨M, hm, hM, .tuple #[v1, v2], fun tmps hts => ?_, hR _ (closeM_ch M w).1⟩
  have h1 := hts c hc'
  have h2 := hts d hd'
  have hC := (closeM_ch M w).1
  have hq1 := (hb1.keep hC fun hk => hb1.cm.2 _ (hM.2 _ hk)).cell'
  have hq2 := (hb2.keep hC fun hk => hb2.cm.2 _ (hM.2 _ hk)).cell'
  simp only [Array.getD_eq_getD_getElem?] at h1 h2
  simp [results, h, h1, h2, hc, hd, asAddr, loadVar, cellT_spec ht, cellT_spec hu, load, Sem.run, hq1, hq2]
end Gv
theorem lsts_ok {s : Str} : ∀ (k : Nat) (L : List Nat) (a : Nat) (x : List Nat), x ∈ lsts s.length k L a → ∃ r, x = L ++ r ∧ cutsOk s r a = true ∧ r.length = k
  | 0, L, a, x, h => by
    simp only [lsts, List.mem_singleton] at h
    exact ⟨[], by rw [h, List.append_nil], rfl, rfl⟩
  | k + 1, L, a, x, h => by
    simp only [lsts, List.mem_flatMap, List.mem_range'_1] at h
    obtain ⟨y, ⟨h1, h2⟩, h3⟩ := h
    obtain ⟨r, rfl, hr, hk⟩ := lsts_ok k _ _ _ h3
    refine ⟨y :: r, by simp, ?_, by simp [hk]⟩
    simp only [cutsOk, Bool.and_eq_true, decide_eq_true_eq]
    exact ⟨⟨h1, by omega⟩, hr⟩
theorem kd_le (s : Str) : kd s ≤ 4 := by unfold kd; omega
/-- The lists from so many cuts on. -/
def rstL (s : Str) (m : Nat) : List (List Nat) := (List.range' m (kd s + 1 - m)).flatMap fun m => lsts s.length m [] 1
theorem rstL_zero (s : Str) : rstL s 0 = allL s := by simp [rstL, allL, List.range_eq_range']
theorem rstL_succ {s : Str} {m : Nat} (h : m < kd s + 1) : rstL s m = lsts s.length m [] 1 ++ rstL s (m + 1) := by
  unfold rstL
  rw [show kd s + 1 - m = (kd s + 1 - (m + 1)) + 1 by omega, List.range'_succ, List.flatMap_cons]
theorem rstL_end {s : Str} {m : Nat} (h : ¬ m < kd s + 1) : rstL s m = [] := by
  unfold rstL
  rw [show kd s + 1 - m = 0 by omega]; rfl
theorem find_hit {α : Type} {p : α → Bool} {A B : List α} {i : Nat} {x : α} (hx : A[i]? = some x) (hp : p x = true) (hn : ∀ j, j < i → ∀ y, A[j]? = some y → p y = false) : (A ++ B).find? p = some x := by
  obtain ⟨hi, rfl⟩ := List.getElem?_eq_some_iff.1 hx
  rw [List.find?_eq_some_iff_getElem]
  refine ⟨hp, i, by simp; omega, by rw [List.getElem_append_left hi], fun j hj => ?_⟩
  have := hn j hj A[j] (by simp)
  rw [List.getElem_append_left (by omega), this]; rfl
theorem find_miss {α : Type} {p : α → Bool} {A B : List α} (hn : ∀ j, j < A.length → ∀ y, A[j]? = some y → p y = false) : (A ++ B).find? p = B.find? p := by
  rw [List.find?_append]
  have : A.find? p = none := by
    rw [List.find?_eq_none]
    intro x hx
    obtain ⟨j, hj, rfl⟩ := List.getElem_of_mem hx
    have := hn j hj A[j] (by simp)
    rw [this]; simp
  rw [this]; rfl
theorem ct27 : cellT Tryz.prog 27 = true := by kernel_rfl
theorem ct24' : cellT Tryz.prog 24 = true := by kernel_rfl
theorem z27 : (Tryz.prog.info? 27).bind (·.zero) = some (.slice none 0 0) := by kernel_rfl
theorem z24 : (Tryz.prog.info? 24).bind (·.zero) = some (.int .i64 0) := by kernel_rfl
theorem co27 : Tryz.prog.cellsOf 27 = 1 := by kernel_rfl
theorem co24 : Tryz.prog.cellsOf 24 = 1 := by kernel_rfl
theorem OwnI.ne_box {base : Nat} {w : World} {v : Value} {L : List Int} (h : OwnI w base 3 v L) {b : Nat} {t : TypeId} {u : Value} (hb : Box w b t u) (ht : t ≠ 3) : ∀ g, v.ownBlock = some g → g ≠ b := fun g hg e => by
  subst e
  rcases h.2 with ⟨rfl, _⟩ | ⟨g', cap, cells, rfl, _, hh, _⟩
  · cases hg
  · cases hg; have := hh.symm.trans hb; simp at this; exact ht this.2.symm
/-- What holds in 'Least'. -/
structure LsI (s : Str) (b1 b2 b3 : Nat) (w0 : World) (M : List Nat) (w : World) : Prop where
  s1 : Box w b1 9 (str s)
  s2 : ∃ u, Box w b2 27 u
  s3 : ∃ u, Box w b3 24 u
  mks : Mk M w
  hi : ∀ D, D ∈ M → w0.heap.size ≤ D
  ext : Ext w0 w
theorem LsI.step {s : Str} {b1 b2 b3 : Nat} {w0 w w' : World} {M : List Nat} (h : LsI s b1 b2 b3 w0 M w) (hE : Ext w w') : LsI s b1 b2 b3 w0 M w' :=
  ⟨h.s1.ext hE, h.s2.imp fun _ h => h.ext hE, h.s3.imp fun _ h => h.ext hE, h.mks.ext hE, h.hi, h.ext.trans hE⟩
theorem LsI.lk {s : Str} {b1 b2 b3 B : Nat} {w0 w w' : World} {M : List Nat} (h : LsI s b1 b2 b3 w0 M w) (hl : Lk B w w') (hB : w0.heap.size ≤ B) : LsI s b1 b2 b3 w0 M w' :=
  ⟨h.s1.lk hl, h.s2.imp fun _ h => h.lk hl, h.s3.imp fun _ h => h.lk hl, h.mks.lk hl, h.hi, h.ext.lk hl hB⟩
set_option maxHeartbeats 4000000 in
theorem Least_any (s : Str) (L0 : List Nat) (w : World) (he : evenC s = true) (hL : leastC s = some L0) :
    Calls Tryz.prog 11 #[str s] w (Ret fun v w' => ∃ c, v = .tuple #[c, .int .i64 0] ∧ Ints w' c (ni L0) ∧ Ext w w') := by
  have hok := evenC_ok he
  have hlen := okC_len hok
  have hkd := kd_le s
  refine calls_of_wc (args := [str s]) Tryz.func11 rfl ?_ ?_; kernel_rfl
  repeat' (first|refine za ?_|refine zc ?_|refine zd ?_)
  refine r_box (v := str s) rfl rfl fun w1 hb1 hE1 hs1 => ?_
  obtain ⟨b1, eb1⟩ : ∃ b, b = w.heap.size := ⟨_, rfl⟩
  rw [← eb1] at hb1 ⊢
  repeat' (refine za ?_)
  refine r_alloc (z := .slice none 0 0) z27 rfl fun w2 hb2 hE2 hs2 => ?_
  obtain ⟨b2, eb2⟩ : ∃ b, b = w1.heap.size := ⟨_, rfl⟩
  rw [← eb2] at hb2 ⊢
  repeat' (refine za ?_)
  refine r_alloc (z := .int .i64 0) z24 rfl fun w3 hb3 hE3 hs3 => ?_
  obtain ⟨b3, eb3⟩ : ∃ b, b = w2.heap.size := ⟨_, rfl⟩
  rw [← eb3] at hb3 ⊢
  have hI0 : LsI s b1 b2 b3 w [] w3 := ⟨hb1.ext (hE2.trans hE3), ⟨_, hb2.ext hE3⟩, ⟨_, hb3⟩, Mk.nil _, by simp, (hE1.trans hE2).trans hE3⟩
  repeat' (first|refine za ?_|refine zb ?_|refine zc ?_|refine ze ?_|refine zd ?_)
  refine r_ld ct9 rfl hI0.s1.rd ?_
  repeat' (refine za ?_)
  (refine r_call (R := ?_) rfl ?_ ?_; rotate_left 1; focus exact isEven_any s _ he)
  rintro _ w4 ⟨rfl, hE4⟩
  have hI4 := hI0.step hE4
  repeat' (first|refine za ?_|refine zb ?_|refine zc ?_|refine ze ?_|refine zd ?_|refine zO ?_|refine zY ?_|refine zk ?_)
  refine r_ld ct9 rfl hI4.s1.rd ?_
  repeat' (refine za ?_)
  (refine r_call (R := ?_) rfl ?_ ?_; rotate_left 1; focus exact of_any s _ (okC_ltr hok))
  rintro _ w5 ⟨rfl, hE5⟩
  repeat' (refine za ?_)
  (refine r_call (R := ?_) rfl ?_ ?_; rotate_left 1; focus exact kinds_any s _)
  rintro _ w6 ⟨rfl, hE6⟩
  have hI6 := (hI4.step hE5).step hE6
  repeat' (first|refine za ?_|refine zA ?_|refine zb ?_|refine ze ?_|refine zI ?_|refine zl ?_)
  refine wc_loop2M [1, 2, 3, 12] (fun (m : Nat) (M : List Nat) => [(13, .int .i64 (m : Int)), (1000000, mkv M)]) (fun m M wk => m ≤ kd s + 1 ∧ (rstL s m).find? (fairC s) = some L0 ∧ LsI s b1 b2 b3 w M wk) (fun m _ => kd s + 1 - m) 0 [] rfl ⟨rfl, rfl, trivial⟩
    ⟨by omega, by rw [rstL_zero]; exact hL, hI6⟩ ?_
  rintro m M wk x ⟨hmk, hfm, hIk⟩
  by_cases hin : m < kd s + 1
  · rw [rstL_succ hin] at hfm
    obtain ⟨lm, elm⟩ : ∃ l, l = lsts s.length m [] 1 := ⟨_, rfl⟩
    rw [← elm] at hfm
    repeat' (first|refine za ?_|refine zA ?_|refine zB ?_|refine zb ?_|refine zc ?_|refine ze ?_|refine zd ?_|refine zC ?_|refine zX ?_|refine zk ?_|refine zl ?_)
    refine r_ld ct9 rfl hIk.s1.rd ?_
    repeat' (refine za ?_)
    refine r_slen st9 (a := s) rfl ?_
    repeat' (refine za ?_)
    (refine r_call (R := ?_) rfl ?_ ?_; rotate_left 1; focus exact lists_any m s.length 1 _)
    rintro _ w7 ⟨bm, bt, bf, rfl, hD7, hE7⟩
    have hI7 := hIk.step hE7
    have hsz7 : w.heap.size ≤ w7.heap.size := hI7.ext.size
    repeat' (first|refine zb ?_|refine ze ?_|refine zl ?_)
    refine wc_range1X lm EnL [3, 112, 145] (LDt bm bt bf m s.length 1) (fun i W => LsI s b1 b2 b3 w M W ∧ ∀ j, j < i → ∀ y, lm[j]? = some y → fairC s y = false)
      (fun e i W => e = .ret ∧ ∃ v, Box W b2 27 v ∧ Box W b3 24 (.int .i64 0) ∧ OwnI W 0 3 v (ni L0) ∧ LsI s b1 b2 b3 w M W) M rfl rfl rfl (elm ▸ lists1_any bm bt bf m s.length 1 (by omega) (by omega) (by omega)) (fun x xs w h => h.imp fun _ h => h.1)
      ?hDt ?hI ?hIx ?hE hD7 ⟨hI7, fun j hj => by omega⟩ ?hbody ?hdone ?hstop
    case hDt => exact fun W W' hl h => ⟨h.1.lk hl, h.2.1.lk hl, h.2.2.lk hl⟩
    case hI => exact fun i W W' hl h => ⟨h.1.lk hl hsz7, h.2⟩
    case hIx => exact fun e i W W' hl ⟨h, v, h1, h2, h3, h4⟩ => ⟨h, v, h1.lk hl, h2.lk hl, h3.lk hl, h4.lk hl hsz7⟩
    case hE => exact fun x xs W W' hl ⟨v, h1, h2⟩ => ⟨v, h1, h2.lk hl⟩
    case hbody =>
      apply Exists.intro
      apply And.intro
      · intro x v W hE
        refine wc_region ?_
        refine za ?_
        refine r_assign_v (v := v) rfl ?_
        refine zb ?_
        exact ⟨rfl, rfl, rfl⟩
      rintro i W x v hx ⟨v', hv', hown⟩ hsz ⟨hI, hn⟩ hD
      obtain rfl : v = v' := by cases hv'; rfl
      obtain ⟨q, c, rfl, _⟩ := hown.ints.slice
      obtain ⟨r, hr, hcut, hrl⟩ := lsts_ok m [] 1 x (elm ▸ List.mem_of_getElem? hx)
      rw [List.nil_append] at hr
      subst hr
      repeat' (first|refine za ?_|refine zc ?_|refine zd ?_|refine zl ?_)
      refine r_ld ct9 rfl hI.s1.rd ?_
      repeat' (first|refine za ?_|refine zA ?_)
      (refine r_call (R := ?_) rfl ?_ ?_; rotate_left 1; focus exact isFair_any s _ x _ hown.ints hok hcut (by omega))
      rintro _ w8 ⟨rfl, hE8⟩
      have hI8 := hI.step hE8
      cases hf : fairC s x with
      | false =>
        repeat' (first|refine zb ?_|refine ze ?_|refine zY ?_|refine zk ?_|refine zh ?_)
        refine ⟨KpB.of_ext hE8, ⟨hI8, fun j hj y hy => ?_⟩, ⟨hD.1.ext hE8, hD.2.1.ext hE8, hD.2.2.ext hE8⟩, fun t _ => Kt.of_ext hE8⟩
        by_cases e : j = i
        · subst e; rw [hx] at hy; cases hy; exact hf
        · exact hn j (by omega) y hy
      | true =>
        have hx0 := find_hit (B := rstL s (m + 1)) hx hf hn
        rw [hfm] at hx0
        cases hx0
        obtain ⟨u2, hu2⟩ := hI8.s2
        obtain ⟨u3, hu3⟩ := hI8.s3
        repeat' (first|refine za ?_|refine zA ?_|refine zb ?_|refine zc ?_|refine ze ?_|refine zd ?_|refine zX ?_)
        refine r_st_box (v := .slice q (ni L0).length c) co27 hu2 rfl rfl rfl fun w9 h9 hC9 hs9 => ?_
        repeat' (refine za ?_)
        refine r_st_box (v := .int .i64 0) co24 (hu3.keep hC9 (by omega)) rfl rfl rfl fun w10 h10 hC10 hs10 => ?_
        have hC : Ch (fun k => k = b2 ∨ k = b3) w8 w10 := Ch.trans' (hC9.mono fun k _ h => .inl h) hC10 fun k hk e => .inr e
        have hCW : Ch (fun k => k = b2 ∨ k = b3) W w10 := Ch.trans' (Ext.ch hE8) hC fun k _ e => e
        obtain ⟨v2, hv2⟩ := hI.s2
        obtain ⟨v3, hv3⟩ := hI.s3
        repeat' (first|refine zb ?_|refine ze ?_|refine zn ?_|refine zi ?_)
        refine ⟨KpB.of_ch hCW fun k hk => hk.elim (fun h => by rw [h]; exact hv2.cm) fun h => by rw [h]; exact hv3.cm, ⟨rfl, _, h9.keep hC10 (by omega), h10, ownsRow_keep (ownsRow_ext hown hE8) hC fun g hg e => ?_, ⟨hI8.s1.keep hC (by omega), ⟨_, h9.keep hC10 (by omega)⟩, ⟨_, h10⟩, hI8.mks.ch hC fun k hk => hk.elim (fun h => by rw [h]; exact hu2.cm) fun h => by rw [h]; exact hu3.cm, hI8.hi, Ch.trans' hI8.ext hC fun k hk e => by omega⟩⟩,
          fun t ht => Kt.of_ch hCW fun k hk c r e => ?_⟩
        · exact e.elim (OwnI.ne_box hown hv2 (by decide) g hg) (OwnI.ne_box hown hv3 (by decide) g hg)
        · rcases hk with rfl | rfl
          · have := hv2.symm.trans e; simp at this; obtain ⟨_, rfl, _⟩ := this; simp at ht
          · have := hv3.symm.trans e; simp at this; obtain ⟨_, rfl, _⟩ := this; simp at ht
    case hdone =>
      rintro W ⟨hI, hn⟩ hM
      repeat' (first|refine za ?_|refine zA ?_|refine zb ?_|refine ze ?_|refine zd ?_|refine zI ?_|refine zh ?_)
      refine ⟨m + 1, w7.heap.size :: M, ⟨rfl, rfl, trivial⟩, ⟨by omega, ?_, ⟨hI.s1, hI.s2, hI.s3, Mk.cons hI.mks hI7.mks hM, fun D hD => ?_, hI.ext⟩⟩, by omega⟩
      · rw [find_miss hn] at hfm; exact hfm
      · rcases List.mem_cons.1 hD with rfl | h
        · exact hsz7
        · exact hI.hi D h
    case hstop =>
      rintro e i W ⟨rfl, v, h2, h3, ho, hI⟩ _ hM
      repeat' (first|refine zf ?_|refine zi ?_)
      have hmk : Mk (w7.heap.size :: M) W := Mk.cons hI.mks hI7.mks hM
      refine postK_cc (w7.heap.size :: M) rfl hmk rfl rfl rfl ct27 ct24' h2 h3 fun w' hC => ⟨v, rfl, ho.ints.keep hC fun g hg e => (row_cm ho hg).2 _ (hmk.2 _ e), Ch.trans' hI.ext hC fun k hk e => ?_⟩
      rcases List.mem_cons.1 e with rfl | h
      · omega
      · have := hI.hi k h; omega
  · rw [rstL_end hin] at hfm
    cases hfm
theorem Fair_any (s : Str) (L0 : List Nat) (w : World) (he : evenC s = true) (hL : leastC s = some L0) :
    Calls Tryz.prog 12 #[str s] w (Ret fun v w' => ∃ c, v = .tuple #[c, .int .i64 0] ∧ Ints w' c (ni L0) ∧ Ext w w') := by
  refine calls_of_wc (args := [str s]) Tryz.func12 rfl ?_ ?_; kernel_rfl
  repeat' (first|refine za ?_|refine zA ?_|refine zB ?_|refine zb ?_|refine zc ?_|refine ze ?_|refine zd ?_)
  (refine r_call (R := ?_) rfl ?_ ?_; rotate_left 1; focus exact Least_any s L0 _ he hL)
  rintro _ w1 ⟨c, rfl, hc, hE⟩
  obtain ⟨q, cc, rfl, _⟩ := hc.slice
  repeat' (first|refine za ?_|refine zB ?_|refine zb ?_|refine ze ?_|refine zS ?_|refine zn ?_)
  refine post2 (v1 := .slice q (ni L0).length cc) (v2 := .int .i64 0) rfl rfl rfl ?_
  exact ⟨_, rfl, hc, hE⟩
theorem Check_any (s : Str) (v : Value) (L : List Nat) (w : World) (he : evenC s = true) (h : Ints w v (ni L)) (hc : cutsOk s L 1 = true) (hL : L.length ≤ 24) (hf : fairC s L = true) :
    Calls Tryz.prog 13 #[str s, v] w (Ret fun v w' => v = .int .i64 0 ∧ Ext w w') := by
  have hok := evenC_ok he
  have hlen := okC_len hok
  obtain ⟨q, c, rfl, _⟩ := h.slice
  refine calls_of_wc (args := [str s, .slice q (ni L).length c]) Tryz.func13 rfl ?_ ?_; kernel_rfl
  repeat' (first|refine za ?_|refine zA ?_|refine zB ?_|refine zb ?_|refine zc ?_|refine ze ?_|refine zd ?_|refine zl ?_)
  (refine r_call (R := ?_) rfl ?_ ?_; rotate_left 1; focus exact isEven_any s _ he)
  rintro _ w1 ⟨rfl, hE1⟩
  repeat' (first|refine za ?_|refine zA ?_|refine zO ?_|refine zU ?_)
  (refine r_call_q (v := ?_) rfl ?_ ?_; rotate_left 1; focus exact areCuts_any s _ L _ (h.ext hE1) (by omega) hc (by omega))
  repeat' (first|refine za ?_|refine zA ?_|refine zB ?_|refine zb ?_|refine zc ?_|refine ze ?_|refine zd ?_|refine zO ?_|refine zR ?_|refine zU ?_|refine zY ?_)
  (refine r_call (R := ?_) rfl ?_ ?_; rotate_left 1; focus exact isFair_any s _ L _ (h.ext hE1) hok hc hL)
  rintro _ w2 ⟨rfl, hE2⟩
  rw [hf]
  repeat' (first|refine za ?_|refine zB ?_|refine zb ?_|refine zc ?_|refine ze ?_|refine zd ?_|refine zO ?_|refine zY ?_|refine zk ?_|refine zn ?_|refine zh ?_)
  refine post1 (v := .int .i64 0) rfl rfl ?_
  exact ⟨rfl, hE1.trans hE2⟩
theorem leastAA : leastC [97, 97] = some [1] := by decide +kernel
theorem evenAA : evenC [97, 97] = true := by decide +kernel
end Go.Proofs.YtocgehoffdjijaaGreat
/- top: mod, ints. -/
namespace Go.Proofs.YtocgehoffdjijaaGreat
open Gv
set_option maxRecDepth 20000
theorem ikT82 : intK Tryz.prog 82 = some .u64 := by kernel_rfl
theorem ikT3 : intK Tryz.prog 3 = some .i64 := by kernel_rfl
theorem ikT3s : (intK Tryz.prog 3).isSome = true := by rw [ikT3]; rfl
theorem ikT82s : (intK Tryz.prog 82).isSome = true := by rw [ikT82]; rfl

theorem mod9 (x n : Int) (w : World) (h : 0 < n ∧ n ≤ 9223372036854775807) :
    Calls Tryz.prog 9 #[.int .i64 x, .int .i64 n] w (Ret fun v w' => v = .int .i64 ((IntKind.u64.wrap x) % n) ∧ w' = w) := by
  have hn : IntKind.u64.wrap n = n := by show n % 18446744073709551616 = n; exact Int.emod_eq_of_lt (by omega) (by omega)
  have hx : 0 ≤ IntKind.u64.wrap x := by show 0 ≤ x % 18446744073709551616; exact Int.emod_nonneg _ (by decide)
  have h1 := Int.emod_nonneg (IntKind.u64.wrap x) (show n ≠ 0 by omega)
  have h2 := Int.emod_lt_of_pos (IntKind.u64.wrap x) h.1
  refine calls_of_wc (args := [.int .i64 x, .int .i64 n]) Tryz.func9 rfl ?_ ?_; kernel_rfl
  repeat' (first|refine za ?_|refine zA ?_|refine zB ?_|refine zb ?_|refine zc ?_|refine ze ?_|refine zd ?_)
  refine r_conv ikT3s ikT82 rfl ?_
  repeat' (first|refine za ?_|refine zA ?_)
  refine r_conv ikT3s ikT82 rfl ?_
  rw [hn]
  repeat' (refine za ?_)
  refine r_rem_in rfl rfl hx h.1 ?_
  repeat' (refine za ?_)
  refine r_conv ikT82s ikT3 rfl ?_
  rw [wrap_in (by omega) (by omega)]
  repeat' (first|refine za ?_|refine zB ?_|refine zb ?_|refine ze ?_|refine zn ?_)
  refine post1 (v := .int .i64 ((IntKind.u64.wrap x) % n)) rfl rfl ?_
  exact ⟨rfl, rfl⟩
theorem mod9_bnd (x : Int) {n : Int} (h : 0 < n) : 0 ≤ (IntKind.u64.wrap x) % n ∧ (IntKind.u64.wrap x) % n < n :=
  ⟨Int.emod_nonneg _ (by omega), Int.emod_lt_of_pos _ h⟩
set_option maxRecDepth 20000 in
set_option maxHeartbeats 400000 in
theorem ints25 (v1 v2 : Value) (A B : List Int) (w : World) (h1 : Ints w v1 A) (h2 : Ints w v2 B) (hA : A.length < 9223372036854775807) (hB : B.length < 9223372036854775807) :
    Calls Tryz.prog 25 #[v1, v2] w (Ret fun v w' => v = .bool (decide (A = B)) ∧ Ext w w') := by
  obtain ⟨q1, c1, rfl, hq1⟩ := h1.slice
  obtain ⟨q2, c2, rfl, hq2⟩ := h2.slice
  refine calls_of_wc (args := [.slice q1 A.length c1, .slice q2 B.length c2]) Tryz.func25 rfl ?_ ?_; kernel_rfl
  repeat' (first|refine za ?_|refine zA ?_|refine zB ?_|refine zb ?_|refine zc ?_|refine ze ?_|refine zd ?_|refine r_neq rfl rfl ?_|refine zK ?_|refine zv (fun hcd => ?_) (fun hcd => ?_)|refine zk ?_|refine zl ?_|refine zn ?_|refine zf ?_)
  · refine post1 (v := .bool false) rfl rfl ?_
    exact ⟨congrArg Value.bool (decide_eq_false fun e => by subst e; omega).symm, Ext.refl _⟩
  have hl : A.length = B.length := by omega
  refine wc_loop [0, 1] (fun (k : Nat) => [(5, .int .i64 k)]) (fun k wk => Ext w wk ∧ k ≤ A.length ∧ ∀ j, j < k → A.getD j 0 = B.getD j 0) (fun k => A.length - k) 0 rfl ⟨rfl, trivial⟩ ⟨Ext.refl _, by omega, fun j hj => by omega⟩ ?_
  rintro k wk x ⟨hE, hk, hall⟩
  repeat' (first|refine za ?_|refine zA ?_|refine zB ?_|refine zb ?_|refine zc ?_|refine ze ?_|refine zd ?_|refine r_lss rfl rfl ?_|refine zK ?_|refine zv (fun hcd => ?_) (fun hcd => ?_)|refine zk ?_|refine zl ?_|refine zm ?_|refine zn ?_|refine zg ?_|refine zj ?_)
  · have hkA : k < A.length := by omega
    have hE' := hE.trans (Ext.drew wk)
    have g1 := (h1.ext hE').rd (i := k) hkA
    have g2 := (h2.ext hE').rd (i := k) (by omega)
    have p1 := h1.isSome (by omega)
    have p2 := h2.isSome (by omega)
    (refine wc_drawn 8 (by kernel_rfl) (by kernel_rfl) ?_; simp only [List.take_succ_cons, List.take_zero, List.drop_succ_cons, List.drop_zero])
    repeat' (first|refine za ?_|refine zA ?_|refine zB ?_|refine zb ?_|refine zc ?_|refine ze ?_|refine zd ?_|refine r_neq rfl rfl ?_|refine zI ?_|refine zL ?_|refine zM ?_|refine zv (fun hcd => ?_) (fun hcd => ?_)|refine zk ?_|refine zn ?_|refine zf ?_|refine zh ?_|refine zi ?_)
    · refine post1 (v := .bool false) rfl rfl ?_
      exact ⟨congrArg Value.bool (decide_eq_false fun e => by subst e; exact absurd rfl hcd).symm, hE'⟩
    · refine ⟨k + 1, ⟨rfl, trivial⟩, ⟨hE', by omega, fun j hj => ?_⟩, by omega⟩
      by_cases e : j = k
      · subst e; omega
      · exact hall j (by omega)
  · refine post1 (v := .bool true) rfl rfl ?_
    refine ⟨congrArg Value.bool (decide_eq_true ?_).symm, hE⟩
    apply List.ext_getElem hl
    intro i g1 g2
    have := hall i (by omega)
    rwa [getD_lt g1, getD_lt g2] at this
end Go.Proofs.YtocgehoffdjijaaGreat

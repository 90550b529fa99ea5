/- forks: guard: it recovers. -/
import Derived.Test.YtocgehoffdjijaaGreatRd
import Derived.Tactics
import Derived.Tactics2
import Derived.Defers
import Derived.Recover
import Derived.Laws.Pointers
namespace Go.Proofs.YtocgehoffdjijaaGreat
open Gv
/-- What is walked in the calculus, as the kit's weakest precondition. -/
theorem wp_of_wc {P : Program} {n : Nat} {c : Code} {Q : Exit → Env → World → Prop} {Q' : Exit → Act → World → Prop} {a : Act} {w : World} (hc : codeOk n c = true) (ha : inv n a)
    (h : wc P c Q (envOf a) w) (hQ : ∀ e a' w', inv n a' → Q e (envOf a') w' → Q' e a' w') : c.wp P Q' a w :=
  wpIn_wide.1 (wpIn_mono (wc_in (m := 0) c none Q a w hc (.inl rfl) ha h) fun e a' w' ⟨ha', hq⟩ => hQ e a' w' ha' hq)
theorem no_defers {n : Nat} {a : Act} (h : inv n a) (hm : envOf a 1000000 = mkv []) : a.defers = [] := by
  obtain ⟨⟨M, hM⟩, _⟩ := h
  have : M = [] := mkv_inj (by rw [← hm, envOf_mk, hM, dblk_mark])
  rw [hM, this]; rfl
theorem if20 : ifaceT Tryz.prog 20 = true := by kernel_rfl
theorem fo115 : fldOff Tryz.prog 187 0 = some 0 := by kernel_rfl
theorem ag115 : aggT Tryz.prog 187 1 = true := by kernel_rfl
theorem zr115 : (Tryz.prog.info? 187).bind (·.zero) = some (.agg #[.int .i64 0]) := by kernel_rfl
theorem ct24 : cellT Tryz.prog 24 = true := by kernel_rfl
/-- The deferred closure, of a frame that returns. -/
theorem catch_idle (p : Addr) (w : World) :
    CallsD Tryz.prog 124 #[.pointer (some p)] .returning w fun e u' w' => e = .returned (.tuple #[]) ∧ u' = .returning ∧ w' = w := by
  refine callsD_of_wpS Tryz.func124 rfl fun c₀ cs hu => ?_
  apply wpS_seq
  apply wpS_region
  simp [wpOpsS, go_sem, recoverD, hu, Tryz.ntmps124, Exit.thenS]
  refine wpS_of_wp (wp_of_wc (n := 12) (Q := fun e ρ w' => e = .normal ∧ ρ 1000000 = mkv [] ∧ w' = w) (by kernel_rfl) ⟨⟨[], rfl⟩, by simp, by omega⟩ ?_ ?_)
  · refine wc_block ?_
    refine wc_seq ?_
    refine wc_region ?_
    refine za ?_
    refine r_ieq_t if20 rfl ?_
    repeat' (first|refine za ?_|refine zB ?_|refine zb ?_|refine ze ?_|refine zd ?_|refine zX ?_|refine zh ?_)
    exact ⟨rfl, rfl, rfl⟩
  · rintro e a' w' ha' ⟨rfl, hm, rfl⟩
    refine ⟨no_defers ha' hm, .returning, by rw [← hu], .tuple #[], ?_, rfl, rfl, rfl⟩
    simp [results, Tryz.results124]
set_option maxRecDepth 100000 in
set_option maxHeartbeats 1000000 in
theorem catch_trb (b : Nat) (e0 e : Int) (older : List PanicEntry) (w : World) (hb : Box w b 24 (.int .i64 e0)) :
    CallsD Tryz.prog 124 #[.pointer (some ⟨b, 0, none⟩)] (.panicking (trb e :: older)) w fun ex u' w' =>
      ex = .returned (.tuple #[]) ∧ u' = .panicking ({ trb e with recovered := true } :: older) ∧ Box w' b 24 (.int .i64 e) ∧ Ch (fun k => k = b) w w' := by
  refine callsD_of_wpS Tryz.func124 rfl fun c₀ cs hu => ?_
  apply wpS_seq
  apply wpS_region
  simp [wpOpsS, go_sem, recoverD, hu, trb, Tryz.ntmps124, Exit.thenS]
  refine wpS_of_wp (wp_of_wc (n := 12) (Q := fun ex ρ w' => ex = .normal ∧ ρ 1000000 = mkv [] ∧ Box w' b 24 (.int .i64 e) ∧ Ch (fun k => k = b) w w') (by kernel_rfl) ⟨⟨[], rfl⟩, by simp, by omega⟩ ?_ ?_)
  · refine wc_block ?_
    refine wc_seq ?_
    refine wc_region ?_
    refine za ?_
    refine r_ieq_f if20 rfl ?_
    repeat' (first|refine za ?_|refine zb ?_|refine zc ?_|refine ze ?_|refine zd ?_|refine zY ?_)
    refine r_assert_t cc115 rfl ?_
    repeat' (first|refine za ?_|refine zb ?_|refine zc ?_|refine ze ?_|refine zd ?_|refine zS ?_|refine zX ?_)
    refine r_allocN (zs := [.int .i64 0]) zr115 fun w1 hb1 hE1 hs1 => ?_
    repeat' (refine za ?_)
    refine r_stN (n := 1) (vs := [.int .i64 0]) (ws := [.int .i64 e]) ag115 (by decide) hb1 rfl rfl rfl rfl (by intro q hq; simp only [List.mem_singleton] at hq; subst hq; rfl) fun w2 hb2 hC2 hs2 => ?_
    have hE2 := Ext.of_one hE1 hC2
    have h2 : rd w2 (some ⟨w.heap.size, 0, none⟩) = some (.int .i64 e) := hb2.rd (k := 0) rfl
    have hbb := hb.ext hE2
    repeat' (first|refine za ?_|refine zb ?_|refine ze ?_|refine zd ?_)
    refine r_faE (o' := 0) fo115 rfl rfl ?_
    repeat' (first|refine za ?_|refine zM ?_)
    refine r_st_box (by kernel_rfl) hbb rfl rfl rfl fun w3 hb3 hC3 hs3 => ?_
    repeat' (first|refine zb ?_|refine zh ?_)
    exact ⟨rfl, rfl, hb3, hE2.ch.trans hC3⟩
  · rintro ex a' w' ha' ⟨rfl, hm, h1, h2⟩
    refine ⟨no_defers ha' hm, _, rfl, .tuple #[], ?_, rfl, rfl, h1, h2⟩
    simp [results, Tryz.results124]
theorem Box.unfrozen {w : World} {b : Nat} {t : TypeId} {v : Value} (h : Box w b t v) : w.frozen? ⟨b, 0, none⟩ = false := by
  unfold Box at h
  simp [World.frozen?, h]
theorem Box.cell {w : World} {b : Nat} {t : TypeId} {v : Value} (h : Box w b t v) : w.cell? ⟨b, 0, none⟩ = some v := by
  simpa [Gv.rd] using Gv.Box.rd h
theorem Box.setCell {w : World} {b : Nat} {t : TypeId} {v u : Value} (h : Box w b t v) : Box (w.setCell ⟨b, 0, none⟩ u) b t u ∧ Ch (fun k => k = b) w (w.setCell ⟨b, 0, none⟩ u) := by
  unfold Box at h
  refine ⟨?_, rfl, rfl, rfl, by simp [World.setCell], fun k hk hn => ?_⟩
  · simp [Box, World.setCell, Array.getElem?_modify, h]
  · simp only [World.setCell, Array.getElem?_modify]
    rw [if_neg (fun e => hn e.symm)]
set_option maxRecDepth 20000 in
theorem guard_any (f : FuncId) (cap : List Value) (w : World) (S : Nat → Prop) (R : World → Prop) (X : Int → World → Prop) (hf : callable Tryz.prog f = true) (hS : ¬ S w.heap.size)
    (hc : ∀ w1, Ext w w1 → w1.heap.size = w.heap.size + 1 → Calls Tryz.prog f cap.toArray w1 (RetX (fun _ w' => R w' ∧ Ch S w1 w') (fun ch w' => ∃ e, ch = [trb e] ∧ X e w' ∧ Ch S w1 w'))) :
    Calls Tryz.prog 85 #[.func (.func f) #[] cap.toArray] w (Ret fun v w' => ∃ w2, Ch (fun k => k = w.heap.size) w2 w' ∧ Ch S w w2 ∧ w.heap.size < w2.heap.size ∧ ((v = .int .i64 0 ∧ R w2) ∨ ∃ e, v = .int .i64 e ∧ X e w2)) := by
  have hmf : ∀ (fn : Fn) (first cap : Array Value) (w : World), (Instr.makeFunc fn first cap).run Tryz.prog w = .ok (.func fn first cap) w := fun _ _ _ _ => rfl
  have hcf := fun w => run_callFunc (P := Tryz.prog) (args := cap.toArray) hf w
  go_enter_defers Tryz.func85, Tryz.ntmps85
  go_wp2
  refine (hc _ (Ch.alloc w _) (by simp)).mono ?_
  have hB0 : Box (w.alloc (Obj.cells #[Value.int IntKind.i64 0] 24)) w.heap.size 24 (.int .i64 0) := alloc_new w _
  have hE0 : Ext w (w.alloc (Obj.cells #[Value.int IntKind.i64 0] 24)) := Ch.alloc w _
  generalize w.alloc (Obj.cells #[Value.int IntKind.i64 0] 24) = w0 at *
  rintro e w1 (⟨v, rfl, hR, hCh⟩ | ⟨ch, rfl, e, rfl, hX, hCh⟩)
  · have hB1 := hB0.keep hCh hS
    have hcell := Box.cell hB1
    have hfz := Box.unfrozen hB1
    have hsc := Box.setCell (u := .int .i64 0) hB1
    dsimp only
    go_wp2
    refine leaves_cons (f := 124) (args := #[.pointer (some ⟨w.heap.size, 0, none⟩)]) (by simp) (by simp [go_sem]) ?_
    refine (catch_idle ⟨w.heap.size, 0, none⟩ _).mono ?_
    rintro e u' w'' ⟨rfl, rfl, rfl⟩
    have hcell2 := Box.cell hsc.1
    simp only [Leaves, settle]
    refine ⟨.int .i64 0, ?_, _, rfl, w1, hsc.2, hE0.ch.trans hCh, Gv.Box.lt hB1, .inl ⟨rfl, hR⟩⟩
    simp [results, Tryz.results85, go_sem, hcell2]
  · have hB1 := hB0.keep hCh hS
    dsimp only
    go_wp2
    refine leaves_cons (f := 124) (args := #[.pointer (some ⟨w.heap.size, 0, none⟩)]) (by simp) (by simp [go_sem]) ?_
    refine (catch_trb w.heap.size 0 e [] _ hB1).mono ?_
    rintro ex u' w'' ⟨rfl, rfl, hB2, hC2⟩
    have hcell2 := Box.cell hB2
    simp only [Leaves, settle, List.dropWhile_nil]
    refine ⟨.int .i64 e, ?_, _, rfl, w1, hC2, hE0.ch.trans hCh, Gv.Box.lt hB1, .inr ⟨e, rfl, hX⟩⟩
    simp [results, Tryz.results85, go_sem, hcell2]
end Go.Proofs.YtocgehoffdjijaaGreat

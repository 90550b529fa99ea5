/- forks: Longest. -/
import Derived.Test.YtkdakleckdkhiaaTu
import Derived.MapKept
namespace Go.Proofs.Ytkdakleckdkhiaa
namespace Gv
def encT (s : Str) : Value := str s
theorem bytes_str_eq (a b : Str) : ((⟨a.toArray⟩ : ByteArray) == ⟨b.toArray⟩) = decide (a = b) := by
  by_cases h : a = b
  · subst h; rw [(Go.MapKept.bytes_beq _ _).2 rfl]; simp
  · have : ((⟨a.toArray⟩ : ByteArray) == ⟨b.toArray⟩) = false := by
      cases hb : ((⟨a.toArray⟩ : ByteArray) == ⟨b.toArray⟩) with
      | false => rfl
      | true => exact absurd (by simpa using (Go.MapKept.bytes_beq _ _).1 hb) h
    rw [this, decide_eq_false h]
theorem key_strL {P : Program} {kt : TypeId} (h : P.underlying kt = some .string) : KeyOf P kt encT := by
  refine ⟨fun w b k => ?_, fun w k m => ?_, fun k => ?_⟩
  · have hD : ∀ D : Nat, (Instr.checkKey b (D + 1) kt (encT k)).run P w = .ok () w := fun D => by simp [Instr.checkKey, run_underlying h, encT]
    exact hD 9999
  · have hn : ∀ (m : List (Str × Value × Nat)) (i : Nat), Instr.findNow .string (encT k) (m.map (mkE encT)) i = some (fndI k m i) := by
      intro m
      induction m with
      | nil => intro i; rfl
      | cons x r ih =>
        intro i
        simp only [List.map_cons, Instr.findNow, mkE, encT, Instr.sameNow, fndI, bytes_str_eq]
        by_cases hk : k = x.1
        · simp [hk]
        · simp only [hk, decide_false, if_false]
          exact ih (i + 1)
    simp [Instr.findKey, run_underlying h, hn]
  · simp only [Instr.sameBits, encT]
    exact (Go.MapKept.bytes_beq _ _).2 rfl
end Gv
open Gv
theorem un9 : Try.prog.underlying 9 = some .string := by kernel_rfl
theorem kst : KeyOf Try.prog 9 encT := key_strL un9
theorem mp98 : mapT Try.prog 98 = some (9, 3, .int .i64 0) := by kernel_rfl
theorem ct98 : cellT Try.prog 98 = true := by kernel_rfl
theorem ct36 : cellT Try.prog 36 = true := by kernel_rfl
theorem zr98 : (Try.prog.info? 98).bind (·.zero) = some (.map none) := by kernel_rfl
theorem zr36 : (Try.prog.info? 36).bind (·.zero) = some .nilFunc := by kernel_rfl
theorem zr80 : (Try.prog.info? 80).bind (·.zero) = some .nilIface := by kernel_rfl
/-- What is known of the greatest numbers of right turns to y. -/
def Knw (y : T) (F : Str → Option Value) : Prop := (∀ s v, F s = some v → ∃ (t : T) (m : Nat), s = t.text ∧ t.size = y.size ∧ t.le y ∧ IsLp t y m ∧ v = .int .i64 (m : Int)) ∧ F y.text = some (.int .i64 0)
theorem Knw.set {y t : T} {F : Str → Option Value} {m : Nat} (h : Knw y F) (hs : t.size = y.size) (hle : t.le y) (hm : IsLp t y m) : Knw y (fun k => if k = t.text then some (.int .i64 (m : Int)) else F k) := by
  refine ⟨fun s v e => ?_, ?_⟩
  · dsimp only at e
    split at e
    · cases e; exact ⟨t, m, by assumption, hs, hle, hm, rfl⟩
    · exact h.1 s v e
  · dsimp only
    split
    · rename_i e
      have := text_inj e
      subst this
      have := isLp_unique hm (isLp_self y)
      subst this
      rfl
    · exact h.2
theorem isLp_bnd {x y : T} {m : Nat} (h : IsLp x y m) (hb : y.size ≤ 10) : m ≤ 100 := by
  have h1 := rk_upN h.1
  have h2 := rk_nonneg x
  have h3 := rk_bnd y
  have h4 : (y.size : Int) * y.size ≤ 10 * 10 := by
    have := Nat.mul_le_mul hb hb
    exact_mod_cast this
  omega
theorem mem_sortS {L : List Str} {s : Str} : s ∈ sortS L ↔ s ∈ L := (List.mergeSort_perm L _).mem_iff
theorem sortS_len (L : List Str) : (sortS L).length = L.length := (List.mergeSort_perm L _).length_eq
theorem mem_turns {x : T} {b : Bool} {s : Str} : s ∈ sortS ((turnL x b).map T.text) ↔ ∃ z, z ∈ turnL x b ∧ s = z.text := by
  rw [mem_sortS, List.mem_map]
  exact ⟨fun ⟨z, h, e⟩ => ⟨z, h, e.symm⟩, fun ⟨z, h, e⟩ => ⟨z, h, e.symm⟩⟩
theorem getD_memS {L : List Str} {i : Nat} (h : i < L.length) : L.getD i [] ∈ L := getD_mem h
theorem strs_get0 {L : List Str} {i : Nat} {q : Option Addr} {n c : Nat} {w : World} (h : Strs w (.slice q n c) L) (hi : i < L.length) {j : Int} (hj : j = i) : rd w (pidx q j.toNat 1) = some (str (L.getD i [])) := by
  subst hj; rw [Int.toNat_natCast]; exact Strs.rd h hi
section
variable (y : T) (bk bv bl bm : Nat)
structure LW (w : World) (F : Str → Option Value) : Prop where
  known : Box w bk 98 (.map (some bm))
  goal : Box w bv 80 (tv y)
  self : Box w bl 36 (.func (.func 71) #[] #[.pointer (some ⟨bk, 0, none⟩), .pointer (some ⟨bv, 0, none⟩), .pointer (some ⟨bl, 0, none⟩)])
  map : MapF encT w bm F
  knw : Knw y F
theorem MapF.lt {w : World} {b : Nat} {F : Str → Option Value} (h : MapF encT w b F) : b < w.heap.size := by
  obtain ⟨m, c, h1, _⟩ := h
  exact (Array.getElem?_eq_some_iff.1 h1.1).1
theorem LW.ne {y : T} {bk bv bl bm : Nat} {w : World} {F : Str → Option Value} (h : LW y bk bv bl bm w F) : bk ≠ bm ∧ bv ≠ bm ∧ bl ≠ bm := by
  obtain ⟨m, c, h1, _⟩ := h.map
  have a1 := h.known
  have a2 := h.goal
  have a3 := h.self
  unfold Box at a1 a2 a3
  have hb := h1.1
  refine ⟨?_, ?_, ?_⟩ <;> rintro rfl <;> simp_all
end
theorem LW.ext {y : T} {bk bv bl bm : Nat} {w w' : World} {F : Str → Option Value} (h : LW y bk bv bl bm w F) (hE : Ext w w') : LW y bk bv bl bm w' F :=
  ⟨h.known.ext hE, h.goal.ext hE, h.self.ext hE, h.map.ext hE, h.knw⟩
set_option maxRecDepth 20000 in
set_option maxHeartbeats 8000000 in
theorem longC : ∀ (n : Nat) (x y : T) (bk bv bl bm : Nat) (w : World) (F : Str → Option Value), y.rk - x.rk < n → x.size = y.size → y.size ≤ 10 → x.le y → LW y bk bv bl bm w F →
    Calls Try.prog 71 #[str x.text, .pointer (some ⟨bk, 0, none⟩), .pointer (some ⟨bv, 0, none⟩), .pointer (some ⟨bl, 0, none⟩)] w
      (Ret fun v w' => (∃ m : Nat, IsLp x y m ∧ v = .int .i64 (m : Int)) ∧ Ch (fun k => k = bm) w w' ∧ ∃ F', LW y bk bv bl bm w' F')
  | 0, x, y, _, _, _, _, _, _, hn, hs, _, hle, _ => by have := rk_le hs hle; omega
  | n + 1, x, y, bk, bv, bl, bm, w, F, hn, hs, hb, hle, hW => by
    have g1 := Gv.Box.rd hW.known
    refine calls_of_wc (args := [str x.text, .pointer (some ⟨bk, 0, none⟩), .pointer (some ⟨bv, 0, none⟩), .pointer (some ⟨bl, 0, none⟩)]) Try.func71 rfl ?_ ?_; kernel_rfl
    repeat' (first|refine za ?_|refine zA ?_|refine zB ?_|refine zb ?_|refine zc ?_|refine ze ?_|refine zd ?_|refine zC ?_|refine zD ?_|refine zE ?_|refine zF ?_|refine zG ?_|refine zH ?_|refine zI ?_|refine zJ ?_|refine zK ?_|refine zL ?_|refine zM ?_|refine zN ?_|refine zO ?_|refine zP ?_|refine zQ ?_|refine zR ?_|refine zS ?_|refine zU ?_|refine zV ?_|refine zW ?_|refine zt (fun hcd => ?_) (fun hcd => ?_)|refine zu (fun hcd => ?_) (fun hcd => ?_)|refine zX ?_|refine zY ?_|refine zv (fun hcd => ?_) (fun hcd => ?_)|refine zk ?_|refine zl ?_|refine zm ?_|refine zn ?_|refine zf ?_|refine zg ?_|refine zj ?_|refine zZ ?_|refine zh ?_|refine zi ?_|refine zo ?_|refine zp ?_|refine zq ?_|refine zr ?_|refine zs ?_)
    refine r_lookup_ok (k := x.text) mp98 kst hW.map rfl rfl ?_
    cases hF : F x.text with
    | some u =>
      obtain ⟨t, m, e, _, _, hm, rfl⟩ := hW.knw.1 _ _ hF
      have := text_inj e
      subst this
      repeat' (first|refine za ?_|refine zA ?_|refine zB ?_|refine zb ?_|refine zc ?_|refine ze ?_|refine zd ?_|refine zC ?_|refine zD ?_|refine zE ?_|refine zF ?_|refine zG ?_|refine zH ?_|refine zI ?_|refine zJ ?_|refine zK ?_|refine zL ?_|refine zM ?_|refine zN ?_|refine zO ?_|refine zP ?_|refine zQ ?_|refine zR ?_|refine zS ?_|refine zU ?_|refine zV ?_|refine zW ?_|refine zt (fun hcd => ?_) (fun hcd => ?_)|refine zu (fun hcd => ?_) (fun hcd => ?_)|refine zX ?_|refine zY ?_|refine zv (fun hcd => ?_) (fun hcd => ?_)|refine zk ?_|refine zl ?_|refine zm ?_|refine zn ?_|refine zf ?_|refine zg ?_|refine zj ?_|refine zZ ?_|refine zh ?_|refine zi ?_|refine zo ?_|refine zp ?_|refine zq ?_|refine zr ?_|refine zs ?_)
      refine r_lookup (k := x.text) (v := .int .i64 (m : Int)) mp98 kst hW.map rfl rfl (by rw [hF]; rfl) ?_
      repeat' (first|refine za ?_|refine zA ?_|refine zB ?_|refine zb ?_|refine zc ?_|refine ze ?_|refine zd ?_|refine zC ?_|refine zD ?_|refine zE ?_|refine zF ?_|refine zG ?_|refine zH ?_|refine zI ?_|refine zJ ?_|refine zK ?_|refine zL ?_|refine zM ?_|refine zN ?_|refine zO ?_|refine zP ?_|refine zQ ?_|refine zR ?_|refine zS ?_|refine zU ?_|refine zV ?_|refine zW ?_|refine zt (fun hcd => ?_) (fun hcd => ?_)|refine zu (fun hcd => ?_) (fun hcd => ?_)|refine zX ?_|refine zY ?_|refine zv (fun hcd => ?_) (fun hcd => ?_)|refine zk ?_|refine zl ?_|refine zm ?_|refine zn ?_|refine zf ?_|refine zg ?_|refine zj ?_|refine zZ ?_|refine zh ?_|refine zi ?_|refine zo ?_|refine zp ?_|refine zq ?_|refine zr ?_|refine zs ?_)
      refine post1 (v := .int .i64 (m : Int)) rfl rfl ?_
      exact ⟨⟨m, hm, rfl⟩, Ch.refl _ _, F, hW⟩
    | none =>
      have hxy : x ≠ y := by rintro rfl; rw [hW.knw.2] at hF; cases hF
      repeat' (first|refine za ?_|refine zA ?_|refine zB ?_|refine zb ?_|refine zc ?_|refine ze ?_|refine zd ?_|refine zC ?_|refine zD ?_|refine zE ?_|refine zF ?_|refine zG ?_|refine zH ?_|refine zI ?_|refine zJ ?_|refine zK ?_|refine zL ?_|refine zM ?_|refine zN ?_|refine zO ?_|refine zP ?_|refine zQ ?_|refine zR ?_|refine zS ?_|refine zU ?_|refine zV ?_|refine zW ?_|refine zt (fun hcd => ?_) (fun hcd => ?_)|refine zu (fun hcd => ?_) (fun hcd => ?_)|refine zX ?_|refine zY ?_|refine zv (fun hcd => ?_) (fun hcd => ?_)|refine zk ?_|refine zl ?_|refine zm ?_|refine zn ?_|refine zf ?_|refine zg ?_|refine zj ?_|refine zZ ?_|refine zh ?_|refine zi ?_|refine zo ?_|refine zp ?_|refine zq ?_|refine zr ?_|refine zs ?_)
      (refine r_call (R := ?_) rfl ?_ ?_; rotate_left 1; focus exact read_ok x w (by omega))
      rintro v1 w1 ⟨rfl, hE1⟩
      repeat' (first|refine za ?_|refine zA ?_|refine zB ?_|refine zb ?_|refine zc ?_|refine ze ?_|refine zd ?_|refine zC ?_|refine zD ?_|refine zE ?_|refine zF ?_|refine zG ?_|refine zH ?_|refine zI ?_|refine zJ ?_|refine zK ?_|refine zL ?_|refine zM ?_|refine zN ?_|refine zO ?_|refine zP ?_|refine zQ ?_|refine zR ?_|refine zS ?_|refine zU ?_|refine zV ?_|refine zW ?_|refine zt (fun hcd => ?_) (fun hcd => ?_)|refine zu (fun hcd => ?_) (fun hcd => ?_)|refine zX ?_|refine zY ?_|refine zv (fun hcd => ?_) (fun hcd => ?_)|refine zk ?_|refine zl ?_|refine zm ?_|refine zn ?_|refine zf ?_|refine zg ?_|refine zj ?_|refine zZ ?_|refine zh ?_|refine zi ?_|refine zo ?_|refine zp ?_|refine zq ?_|refine zr ?_|refine zs ?_)
      (refine r_call (R := ?_) rfl ?_ ?_; rotate_left 1; focus exact turned_any x true w1 (by omega))
      rintro v2 w2 ⟨hO2, hE2⟩
      obtain ⟨L, hL⟩ : ∃ L, L = sortS ((turnL x true).map T.text) := ⟨_, rfl⟩
      rw [← hL] at hO2
      have hLl : L.length ≤ 10 := by
        rw [hL, sortS_len, List.length_map]
        have := turnT_len x true x.size
        simp only [turnT, List.length_map] at this
        unfold turnL; omega
      have hmem : ∀ s, s ∈ L ↔ ∃ z, up1 x z ∧ s = z.text := fun s => by rw [hL, mem_turns]; simp only [turnL_up, mem_ups]
      obtain ⟨q2, c2, e2, _⟩ := hO2.strs.slice
      subst e2
      have hE12 := hE1.trans hE2
      have hbm := hW.map.lt
      have hdis : ∀ g, (Value.slice q2 L.length c2).ownBlock = some g → ¬ g = bm := fun g hg e => by
        have := (World.ownsRow.lt hO2 g hg).1
        have := Ext.size hE1
        omega
      have hS2 := hO2.strs
      repeat' (first|refine za ?_|refine zA ?_|refine zB ?_|refine zb ?_|refine zc ?_|refine ze ?_|refine zd ?_|refine zC ?_|refine zD ?_|refine zE ?_|refine zF ?_|refine zG ?_|refine zH ?_|refine zI ?_|refine zJ ?_|refine zK ?_|refine zL ?_|refine zM ?_|refine zN ?_|refine zO ?_|refine zP ?_|refine zQ ?_|refine zR ?_|refine zS ?_|refine zU ?_|refine zV ?_|refine zW ?_|refine zt (fun hcd => ?_) (fun hcd => ?_)|refine zu (fun hcd => ?_) (fun hcd => ?_)|refine zX ?_|refine zY ?_|refine zv (fun hcd => ?_) (fun hcd => ?_)|refine zk ?_|refine zl ?_|refine zm ?_|refine zn ?_|refine zf ?_|refine zg ?_|refine zj ?_|refine zZ ?_|refine zh ?_|refine zi ?_|refine zo ?_|refine zp ?_|refine zq ?_|refine zr ?_|refine zs ?_)
      refine wc_loop2 [0, 1, 2, 3, 21, 22] (fun (i : Nat) (m : Nat) => [(23, .int .i64 i), (8, .int .i64 (m : Int))])
        (fun i m wk => i ≤ L.length ∧ Ch (fun k => k = bm) w2 wk ∧ (∃ F', LW y bk bv bl bm wk F') ∧ (∀ j, j < i → ∀ z, z.text = L.getD j [] → z.le y → ∃ m', IsLp z y m' ∧ m' + 1 ≤ m) ∧ (m = 0 ∨ ∃ z m', up1 x z ∧ IsLp z y m' ∧ m = m' + 1))
        (fun i _ => L.length - i) 0 0 rfl ⟨rfl, rfl, trivial⟩ ⟨by omega, Ch.refl _ _, ⟨F, hW.ext hE12⟩, fun j hj => by omega, .inl rfl⟩ ?_
      rintro i m wk x5 ⟨hi, hC, ⟨F', hW'⟩, hall, hex⟩
      have hm100 : m ≤ 101 := by
        rcases hex with rfl | ⟨z, m', _, hm', rfl⟩
        · omega
        · have := isLp_bnd hm' hb; omega
      by_cases hin : i < L.length
      · have hSk := hS2.keep hC hdis
        have hps := hSk.isSome (by omega)
        have hrd := strs_get0 hSk hin (j := (i : Int)) rfl
        obtain ⟨z, hz, ez⟩ := (hmem _).1 (getD_memS hin)
        have hzs := up1_size hz
        rw [ez] at hrd
        repeat' (first|refine za ?_|refine zA ?_|refine zB ?_|refine zb ?_|refine zc ?_|refine ze ?_|refine zd ?_|refine zC ?_|refine zD ?_|refine zE ?_|refine zF ?_|refine zG ?_|refine zH ?_|refine zI ?_|refine zJ ?_|refine zK ?_|refine zL ?_|refine zM ?_|refine zN ?_|refine zO ?_|refine zP ?_|refine zQ ?_|refine zR ?_|refine zS ?_|refine zU ?_|refine zV ?_|refine zW ?_|refine zt (fun hcd => ?_) (fun hcd => ?_)|refine zu (fun hcd => ?_) (fun hcd => ?_)|refine zX ?_|refine zY ?_|refine zv (fun hcd => ?_) (fun hcd => ?_)|refine zk ?_|refine zl ?_|refine zm ?_|refine zn ?_|refine zf ?_|refine zg ?_|refine zj ?_|refine zZ ?_|refine zh ?_|refine zi ?_|refine zo ?_|refine zp ?_|refine zq ?_|refine zr ?_|refine zs ?_)
        have hWd := hW'.ext (Ext.drew wk)
        refine wc_heldB (fun w' => Ext wk.drew w') (.take 0 (.take 2 (.one 1 (.one 3 .done)))) (by kernel_rfl) (by kernel_rfl) (Ext.refl _) ?_
        refine whB_take (v := str z.text) rfl rfl (fun w' hw' => rv_move_v rfl) ?_
        refine whB_take (v := tv y) rfl rfl (fun w' hw' => rv_ld ct80 rfl (Gv.Box.rd (hWd.goal.ext hw'))) ?_
        refine whB_one rfl rfl ?_
        (refine r_call (R := ?_) rfl ?_ ?_; rotate_left 1; focus exact read_ok z _ (by omega))
        rintro v3 w3 ⟨rfl, hE3⟩
        refine ⟨hE3, ?_⟩
        refine whB_one rfl rfl ?_
        (refine r_call (R := ?_) rfl ?_ ?_; rotate_left 1; focus exact below_any z y w3 (by omega) (by omega))
        rintro v4 w4 ⟨rfl, hE4⟩
        refine ⟨hE3.trans hE4, whB_done ?_⟩
        have hE34 := (Ext.drew wk).trans (hE3.trans hE4)
        have hW4 := hW'.ext hE34
        have hC4 : Ch (fun k => k = bm) w2 w4 := hC.trans hE34.ch
        by_cases hzy : z.le y
        · have hrk := rk_up hz
          have g4 := Gv.Box.rd hW4.self
          rw [decide_eq_true hzy]
          repeat' (first|refine za ?_|refine zA ?_|refine zB ?_|refine zb ?_|refine zc ?_|refine ze ?_|refine zd ?_|refine zC ?_|refine zD ?_|refine zE ?_|refine zF ?_|refine zG ?_|refine zH ?_|refine zI ?_|refine zJ ?_|refine zK ?_|refine zL ?_|refine zM ?_|refine zN ?_|refine zO ?_|refine zP ?_|refine zQ ?_|refine zR ?_|refine zS ?_|refine zU ?_|refine zV ?_|refine zW ?_|refine zt (fun hcd => ?_) (fun hcd => ?_)|refine zu (fun hcd => ?_) (fun hcd => ?_)|refine zX ?_|refine zY ?_|refine zv (fun hcd => ?_) (fun hcd => ?_)|refine zk ?_|refine zl ?_|refine zm ?_|refine zn ?_|refine zf ?_|refine zg ?_|refine zj ?_|refine zZ ?_|refine zh ?_|refine zi ?_|refine zo ?_|refine zp ?_|refine zq ?_|refine zr ?_|refine zs ?_)
          refine r_callV (f := 71) (cap := [.pointer (some ⟨bk, 0, none⟩), .pointer (some ⟨bv, 0, none⟩), .pointer (some ⟨bl, 0, none⟩)]) rfl (by kernel_rfl) (longC n z y bk bv bl bm w4 F' (by omega) (by omega) hb hzy hW4) ?_
          rintro v5 w5 ⟨⟨m', hm', rfl⟩, hC5, hW5⟩
          have hm'b := isLp_bnd hm' hb
          repeat' (first|refine za ?_|refine zA ?_|refine zB ?_|refine zb ?_|refine zc ?_|refine ze ?_|refine zd ?_|refine zC ?_|refine zD ?_|refine zE ?_|refine zF ?_|refine zG ?_|refine zH ?_|refine zI ?_|refine zJ ?_|refine zK ?_|refine zL ?_|refine zM ?_|refine zN ?_|refine zO ?_|refine zP ?_|refine zQ ?_|refine zR ?_|refine zS ?_|refine zU ?_|refine zV ?_|refine zW ?_|refine zt (fun hcd => ?_) (fun hcd => ?_)|refine zu (fun hcd => ?_) (fun hcd => ?_)|refine zX ?_|refine zY ?_|refine zv (fun hcd => ?_) (fun hcd => ?_)|refine zk ?_|refine zl ?_|refine zm ?_|refine zn ?_|refine zf ?_|refine zg ?_|refine zj ?_|refine zZ ?_|refine zh ?_|refine zi ?_|refine zo ?_|refine zp ?_|refine zq ?_|refine zr ?_|refine zs ?_)
          refine r_max rfl rfl (c := ((max m (m' + 1) : Nat) : Int)) (by split <;> omega) ?_
          repeat' (first|refine za ?_|refine zA ?_|refine zB ?_|refine zb ?_|refine zc ?_|refine ze ?_|refine zd ?_|refine zC ?_|refine zD ?_|refine zE ?_|refine zF ?_|refine zG ?_|refine zH ?_|refine zI ?_|refine zJ ?_|refine zK ?_|refine zL ?_|refine zM ?_|refine zN ?_|refine zO ?_|refine zP ?_|refine zQ ?_|refine zR ?_|refine zS ?_|refine zU ?_|refine zV ?_|refine zW ?_|refine zt (fun hcd => ?_) (fun hcd => ?_)|refine zu (fun hcd => ?_) (fun hcd => ?_)|refine zX ?_|refine zY ?_|refine zv (fun hcd => ?_) (fun hcd => ?_)|refine zk ?_|refine zl ?_|refine zm ?_|refine zn ?_|refine zf ?_|refine zg ?_|refine zj ?_|refine zZ ?_|refine zh ?_|refine zi ?_|refine zo ?_|refine zp ?_|refine zq ?_|refine zr ?_|refine zs ?_)
          refine ⟨i + 1, max m (m' + 1), ⟨rfl, rfl, trivial⟩, ⟨by omega, hC4.trans hC5, hW5, fun j hj z' ez' hz'y => ?_, ?_⟩, by omega⟩
          · by_cases hji : j < i
            · obtain ⟨m2, h1, h2⟩ := hall j hji z' ez' hz'y
              exact ⟨m2, h1, by omega⟩
            · obtain rfl : j = i := by omega
              rw [ez] at ez'
              have := text_inj ez'
              subst this
              exact ⟨m', hm', by omega⟩
          · by_cases hmm : m ≤ m' + 1
            · exact .inr ⟨z, m', hz, hm', by omega⟩
            · rcases hex with rfl | ⟨z2, m2, h1, h2, h3⟩
              · omega
              · exact .inr ⟨z2, m2, h1, h2, by omega⟩
        · rw [decide_eq_false hzy]
          repeat' (first|refine za ?_|refine zA ?_|refine zB ?_|refine zb ?_|refine zc ?_|refine ze ?_|refine zd ?_|refine zC ?_|refine zD ?_|refine zE ?_|refine zF ?_|refine zG ?_|refine zH ?_|refine zI ?_|refine zJ ?_|refine zK ?_|refine zL ?_|refine zM ?_|refine zN ?_|refine zO ?_|refine zP ?_|refine zQ ?_|refine zR ?_|refine zS ?_|refine zU ?_|refine zV ?_|refine zW ?_|refine zt (fun hcd => ?_) (fun hcd => ?_)|refine zu (fun hcd => ?_) (fun hcd => ?_)|refine zX ?_|refine zY ?_|refine zv (fun hcd => ?_) (fun hcd => ?_)|refine zk ?_|refine zl ?_|refine zm ?_|refine zn ?_|refine zf ?_|refine zg ?_|refine zj ?_|refine zZ ?_|refine zh ?_|refine zi ?_|refine zo ?_|refine zp ?_|refine zq ?_|refine zr ?_|refine zs ?_)
          refine ⟨i + 1, m, ⟨rfl, rfl, trivial⟩, ⟨by omega, hC4, ⟨F', hW4⟩, fun j hj z' ez' hz'y => ?_, hex⟩, by omega⟩
          by_cases hji : j < i
          · exact hall j hji z' ez' hz'y
          · obtain rfl : j = i := by omega
            rw [ez] at ez'
            have := text_inj ez'
            subst this
            exact absurd hz'y hzy
      · have hlp : IsLp x y m := by
          refine isLp_step hxy ?_ fun z hz hzy => ?_
          · obtain ⟨k, z0, hk, hz0, hz0y⟩ := turn_toward hs hle hxy
            have hu0 : up1 x z0 := ⟨k, hk, hz0⟩
            obtain ⟨j, hj, ej⟩ := List.getElem_of_mem ((hmem z0.text).2 ⟨z0, hu0, rfl⟩)
            obtain ⟨m0, _, h2⟩ := hall j (by omega) z0 (by rw [← ej]; simp [List.getD, hj]) hz0y
            rcases hex with rfl | ⟨z, m', h1, h2, h3⟩
            · omega
            · exact ⟨z, m', h1, h2, h3⟩
          · obtain ⟨j, hj, ej⟩ := List.getElem_of_mem ((hmem z.text).2 ⟨z, hz, rfl⟩)
            exact hall j (by omega) z (by rw [← ej]; simp [List.getD, hj]) hzy
        have gk := Gv.Box.rd hW'.known
        have hne := hW'.ne
        repeat' (first|refine za ?_|refine zA ?_|refine zB ?_|refine zb ?_|refine zc ?_|refine ze ?_|refine zd ?_|refine zC ?_|refine zD ?_|refine zE ?_|refine zF ?_|refine zG ?_|refine zH ?_|refine zI ?_|refine zJ ?_|refine zK ?_|refine zL ?_|refine zM ?_|refine zN ?_|refine zO ?_|refine zP ?_|refine zQ ?_|refine zR ?_|refine zS ?_|refine zU ?_|refine zV ?_|refine zW ?_|refine zt (fun hcd => ?_) (fun hcd => ?_)|refine zu (fun hcd => ?_) (fun hcd => ?_)|refine zX ?_|refine zY ?_|refine zv (fun hcd => ?_) (fun hcd => ?_)|refine zk ?_|refine zl ?_|refine zm ?_|refine zn ?_|refine zf ?_|refine zg ?_|refine zj ?_|refine zZ ?_|refine zh ?_|refine zi ?_|refine zo ?_|refine zp ?_|refine zq ?_|refine zr ?_|refine zs ?_)
        refine r_mapUpdate (k := x.text) (v := .int .i64 (m : Int)) mp98 kst hW'.map rfl rfl rfl fun w6 hM6 hC6 hs6 => ?_
        have hW6 : LW y bk bv bl bm w6 _ := ⟨hW'.known.keep hC6 hne.1, hW'.goal.keep hC6 hne.2.1, hW'.self.keep hC6 hne.2.2, hM6, hW'.knw.set hs hle hlp⟩
        have gk6 := Gv.Box.rd hW6.known
        repeat' (first|refine za ?_|refine zA ?_|refine zB ?_|refine zb ?_|refine zc ?_|refine ze ?_|refine zd ?_|refine zC ?_|refine zD ?_|refine zE ?_|refine zF ?_|refine zG ?_|refine zH ?_|refine zI ?_|refine zJ ?_|refine zK ?_|refine zL ?_|refine zM ?_|refine zN ?_|refine zO ?_|refine zP ?_|refine zQ ?_|refine zR ?_|refine zS ?_|refine zU ?_|refine zV ?_|refine zW ?_|refine zt (fun hcd => ?_) (fun hcd => ?_)|refine zu (fun hcd => ?_) (fun hcd => ?_)|refine zX ?_|refine zY ?_|refine zv (fun hcd => ?_) (fun hcd => ?_)|refine zk ?_|refine zl ?_|refine zm ?_|refine zn ?_|refine zf ?_|refine zg ?_|refine zj ?_|refine zZ ?_|refine zh ?_|refine zi ?_|refine zo ?_|refine zp ?_|refine zq ?_|refine zr ?_|refine zs ?_)
        refine r_lookup (k := x.text) (v := .int .i64 (m : Int)) mp98 kst hM6 rfl rfl (by simp) ?_
        repeat' (first|refine za ?_|refine zA ?_|refine zB ?_|refine zb ?_|refine zc ?_|refine ze ?_|refine zd ?_|refine zC ?_|refine zD ?_|refine zE ?_|refine zF ?_|refine zG ?_|refine zH ?_|refine zI ?_|refine zJ ?_|refine zK ?_|refine zL ?_|refine zM ?_|refine zN ?_|refine zO ?_|refine zP ?_|refine zQ ?_|refine zR ?_|refine zS ?_|refine zU ?_|refine zV ?_|refine zW ?_|refine zt (fun hcd => ?_) (fun hcd => ?_)|refine zu (fun hcd => ?_) (fun hcd => ?_)|refine zX ?_|refine zY ?_|refine zv (fun hcd => ?_) (fun hcd => ?_)|refine zk ?_|refine zl ?_|refine zm ?_|refine zn ?_|refine zf ?_|refine zg ?_|refine zj ?_|refine zZ ?_|refine zh ?_|refine zi ?_|refine zo ?_|refine zp ?_|refine zq ?_|refine zr ?_|refine zs ?_)
        refine post1 (v := .int .i64 (m : Int)) rfl rfl ?_
        exact ⟨⟨m, hlp, rfl⟩, (hE12.ch.trans hC).trans hC6, _, hW6⟩
def GoodL (a b : Str) (u : Value) : Prop := ∃ (x y : T) (m : Nat), a = x.text ∧ b = y.text ∧ x.size ≤ 10 ∧ y.size = x.size ∧ x.le y ∧ IsLp x y m ∧ u = .int .i64 (m : Int)
def ErrL (a b : Str) (e : Int) : Prop := Err2 a b e ∨ (e = 6 ∧ ∃ x y : T, a = x.text ∧ b = y.text ∧ x.size ≤ 10 ∧ y.size = x.size ∧ ¬ x.le y)
set_option maxRecDepth 20000 in
set_option maxHeartbeats 4000000 in
theorem longestC (a b : Str) (b1 b2 b3 : Nat) (w : World) (h1 : Box w b1 9 (str a)) (h2 : Box w b2 9 (str b)) (h3 : Box w b3 3 (.int .i64 0)) (_hne : b1 ≠ b3 ∧ b2 ≠ b3) :
    Calls Try.prog 69 #[.pointer (some ⟨b1, 0, none⟩), .pointer (some ⟨b2, 0, none⟩), .pointer (some ⟨b3, 0, none⟩)] w
      (RetX (fun _ w' => (∃ u, Box w' b3 3 u ∧ GoodL a b u) ∧ Ch (fun k => k = b3) w w') (fun ch w' => ∃ e, ch = [trb e] ∧ (ErrL a b e ∧ Box w' b3 3 (.int .i64 0)) ∧ Ch (fun k => k = b3) w w')) := by
  have g1 : rd w (some ⟨b1, 0, none⟩) = some (str a) := Gv.Box.rd h1
  have g2 : rd w (some ⟨b2, 0, none⟩) = some (str b) := Gv.Box.rd h2
  refine calls_of_wcX (args := [.pointer (some ⟨b1, 0, none⟩), .pointer (some ⟨b2, 0, none⟩), .pointer (some ⟨b3, 0, none⟩)]) Try.func69 rfl ?_ ?_; kernel_rfl
  repeat' (first|(refine wlP_plain ?_; (first|refine zA ?_|refine zB ?_|refine zC ?_|refine zD ?_|refine zE ?_|refine zF ?_|refine zG ?_|refine zH ?_|refine zI ?_|refine zJ ?_|refine zK ?_|refine zL ?_|refine zM ?_|refine zN ?_|refine zO ?_|refine zP ?_|refine zQ ?_|refine zR ?_|refine zS ?_))|(refine wlP_run rfl rfl ?_; (first|refine zA ?_|refine zB ?_|refine zC ?_|refine zD ?_|refine zE ?_|refine zF ?_|refine zG ?_|refine zH ?_|refine zI ?_|refine zJ ?_|refine zK ?_|refine zL ?_|refine zM ?_|refine zN ?_|refine zO ?_|refine zP ?_|refine zQ ?_|refine zR ?_|refine zS ?_))|refine wlP_nil ?_|refine wlP_pass rfl rfl rfl ?_|refine wlP_dead rfl rfl ?_|refine wc_regionP ?_|refine zc ?_|refine ze ?_|refine zX ?_|refine zY ?_|refine zv (fun hcd => ?_) (fun hcd => ?_)|refine zk ?_|refine zl ?_|refine zm ?_|refine zn ?_|refine zf ?_|refine zg ?_|refine zj ?_|refine zZ ?_|refine zh ?_|refine zi ?_|refine zo ?_|refine zp ?_|refine zq ?_|refine zr ?_|refine zs ?_)
  (refine wlP_may ?_; refine p_call (R := ?_) (Y := ?_) rfl ?_ ?_ ?_; rotate_left 2; focus exact two_any a b w)
  rotate_left 1
  · rintro ch w1 ⟨hE, herr⟩
    ((repeat' (first|refine thenQ_panic ?_|refine inBl_panic ?_|refine noG_panic ?_)); (refine px_panic ?_))
    rcases herr with ⟨rfl, h⟩ | ⟨rfl, h⟩
    · exact ⟨4, rfl, ⟨.inl (.inl ⟨rfl, h⟩), h3.ext hE⟩, hE.ch⟩
    · exact ⟨2, rfl, ⟨.inl (.inr ⟨rfl, h⟩), h3.ext hE⟩, hE.ch⟩
  rintro v w1 ⟨x, y, rfl, rfl, hx, hy, rfl, hE1⟩
  repeat' (first|(refine wlP_plain ?_; (first|refine zA ?_|refine zB ?_|refine zC ?_|refine zD ?_|refine zE ?_|refine zF ?_|refine zG ?_|refine zH ?_|refine zI ?_|refine zJ ?_|refine zK ?_|refine zL ?_|refine zM ?_|refine zN ?_|refine zO ?_|refine zP ?_|refine zQ ?_|refine zR ?_|refine zS ?_))|(refine wlP_run rfl rfl ?_; (first|refine zA ?_|refine zB ?_|refine zC ?_|refine zD ?_|refine zE ?_|refine zF ?_|refine zG ?_|refine zH ?_|refine zI ?_|refine zJ ?_|refine zK ?_|refine zL ?_|refine zM ?_|refine zN ?_|refine zO ?_|refine zP ?_|refine zQ ?_|refine zR ?_|refine zS ?_))|refine wlP_nil ?_|refine wlP_pass rfl rfl rfl ?_|refine wlP_dead rfl rfl ?_|refine wc_regionP ?_|refine zc ?_|refine ze ?_|refine zX ?_|refine zY ?_|refine zv (fun hcd => ?_) (fun hcd => ?_)|refine zk ?_|refine zl ?_|refine zm ?_|refine zn ?_|refine zf ?_|refine zg ?_|refine zj ?_|refine zZ ?_|refine zh ?_|refine zi ?_|refine zo ?_|refine zp ?_|refine zq ?_|refine zr ?_|refine zs ?_)
  refine wlP_plain ?_
  refine r_alloc (z := .nilIface) zr80 rfl fun w2 hb2 hE2 hs2 => ?_
  repeat' (first|(refine wlP_plain ?_; (first|refine zA ?_|refine zB ?_|refine zC ?_|refine zD ?_|refine zE ?_|refine zF ?_|refine zG ?_|refine zH ?_|refine zI ?_|refine zJ ?_|refine zK ?_|refine zL ?_|refine zM ?_|refine zN ?_|refine zO ?_|refine zP ?_|refine zQ ?_|refine zR ?_|refine zS ?_))|(refine wlP_run rfl rfl ?_; (first|refine zA ?_|refine zB ?_|refine zC ?_|refine zD ?_|refine zE ?_|refine zF ?_|refine zG ?_|refine zH ?_|refine zI ?_|refine zJ ?_|refine zK ?_|refine zL ?_|refine zM ?_|refine zN ?_|refine zO ?_|refine zP ?_|refine zQ ?_|refine zR ?_|refine zS ?_))|refine wlP_nil ?_|refine wlP_pass rfl rfl rfl ?_|refine wlP_dead rfl rfl ?_|refine wc_regionP ?_|refine zc ?_|refine ze ?_|refine zX ?_|refine zY ?_|refine zv (fun hcd => ?_) (fun hcd => ?_)|refine zk ?_|refine zl ?_|refine zm ?_|refine zn ?_|refine zf ?_|refine zg ?_|refine zj ?_|refine zZ ?_|refine zh ?_|refine zi ?_|refine zo ?_|refine zp ?_|refine zq ?_|refine zr ?_|refine zs ?_)
  refine wlP_plain ?_
  refine r_st_box (v := tv y) (by kernel_rfl) hb2 rfl rfl (tv_one y) fun w3 hb3 hC3 hs3 => ?_
  obtain ⟨bv, ebv⟩ : ∃ bv, bv = w1.heap.size := ⟨_, rfl⟩
  have hE3 : Ext w w3 := hE1.trans (Ext.of_one hE2 hC3)
  rw [← ebv] at hb3 ⊢
  have gv3 := Gv.Box.rd hb3
  repeat' (first|(refine wlP_plain ?_; (first|refine zA ?_|refine zB ?_|refine zC ?_|refine zD ?_|refine zE ?_|refine zF ?_|refine zG ?_|refine zH ?_|refine zI ?_|refine zJ ?_|refine zK ?_|refine zL ?_|refine zM ?_|refine zN ?_|refine zO ?_|refine zP ?_|refine zQ ?_|refine zR ?_|refine zS ?_))|(refine wlP_run rfl rfl ?_; (first|refine zA ?_|refine zB ?_|refine zC ?_|refine zD ?_|refine zE ?_|refine zF ?_|refine zG ?_|refine zH ?_|refine zI ?_|refine zJ ?_|refine zK ?_|refine zL ?_|refine zM ?_|refine zN ?_|refine zO ?_|refine zP ?_|refine zQ ?_|refine zR ?_|refine zS ?_))|refine wlP_nil ?_|refine wlP_pass rfl rfl rfl ?_|refine wlP_dead rfl rfl ?_|refine wc_regionP ?_|refine zc ?_|refine ze ?_|refine zX ?_|refine zY ?_|refine zv (fun hcd => ?_) (fun hcd => ?_)|refine zk ?_|refine zl ?_|refine zm ?_|refine zn ?_|refine zf ?_|refine zg ?_|refine zj ?_|refine zZ ?_|refine zh ?_|refine zi ?_|refine zo ?_|refine zp ?_|refine zq ?_|refine zr ?_|refine zs ?_)
  (refine wlP_plain ?_; refine r_call (R := ?_) rfl ?_ ?_; rotate_left 1; focus exact below_any x y w3 (by omega) (by omega))
  rintro v w4 ⟨rfl, hE4⟩
  (refine wlP_may ?_; refine p_call (R := ?_) (Y := ?_) rfl ?_ ?_ ?_; rotate_left 2; focus exact demand_any (decide (x.le y)) 6 w4)
  rotate_left 1
  · rintro ch w' ⟨hd, rfl, rfl⟩
    ((repeat' (first|refine thenQ_panic ?_|refine inBl_panic ?_|refine noG_panic ?_)); (refine px_panic ?_))
    have hE := hE3.trans hE4
    exact ⟨6, rfl, ⟨.inr ⟨rfl, x, y, rfl, rfl, hx, hy, by simpa using hd⟩, h3.ext hE⟩, hE.ch⟩
  rintro v w' ⟨hd, rfl, hw⟩
  subst w'
  have hle : x.le y := by simpa using hd
  have hE14 := hE3.trans hE4
  have hbv4 := hb3.ext hE4
  repeat' (first|(refine wlP_plain ?_; (first|refine zA ?_|refine zB ?_|refine zC ?_|refine zD ?_|refine zE ?_|refine zF ?_|refine zG ?_|refine zH ?_|refine zI ?_|refine zJ ?_|refine zK ?_|refine zL ?_|refine zM ?_|refine zN ?_|refine zO ?_|refine zP ?_|refine zQ ?_|refine zR ?_|refine zS ?_))|(refine wlP_run rfl rfl ?_; (first|refine zA ?_|refine zB ?_|refine zC ?_|refine zD ?_|refine zE ?_|refine zF ?_|refine zG ?_|refine zH ?_|refine zI ?_|refine zJ ?_|refine zK ?_|refine zL ?_|refine zM ?_|refine zN ?_|refine zO ?_|refine zP ?_|refine zQ ?_|refine zR ?_|refine zS ?_))|refine wlP_nil ?_|refine wlP_pass rfl rfl rfl ?_|refine wlP_dead rfl rfl ?_|refine wc_regionP ?_|refine zc ?_|refine ze ?_|refine zX ?_|refine zY ?_|refine zv (fun hcd => ?_) (fun hcd => ?_)|refine zk ?_|refine zl ?_|refine zm ?_|refine zn ?_|refine zf ?_|refine zg ?_|refine zj ?_|refine zZ ?_|refine zh ?_|refine zi ?_|refine zo ?_|refine zp ?_|refine zq ?_|refine zr ?_|refine zs ?_)
  refine wlP_plain ?_
  refine r_makeMap encT fun w5 hM5 hE5 hs5 => ?_
  obtain ⟨bm, ebm⟩ : ∃ bm, bm = w4.heap.size := ⟨_, rfl⟩
  rw [← ebm] at hM5 ⊢
  have hE15 := hE14.trans hE5
  have g5 := Gv.Box.rd (h2.ext hE15)
  repeat' (first|(refine wlP_plain ?_; (first|refine zA ?_|refine zB ?_|refine zC ?_|refine zD ?_|refine zE ?_|refine zF ?_|refine zG ?_|refine zH ?_|refine zI ?_|refine zJ ?_|refine zK ?_|refine zL ?_|refine zM ?_|refine zN ?_|refine zO ?_|refine zP ?_|refine zQ ?_|refine zR ?_|refine zS ?_))|(refine wlP_run rfl rfl ?_; (first|refine zA ?_|refine zB ?_|refine zC ?_|refine zD ?_|refine zE ?_|refine zF ?_|refine zG ?_|refine zH ?_|refine zI ?_|refine zJ ?_|refine zK ?_|refine zL ?_|refine zM ?_|refine zN ?_|refine zO ?_|refine zP ?_|refine zQ ?_|refine zR ?_|refine zS ?_))|refine wlP_nil ?_|refine wlP_pass rfl rfl rfl ?_|refine wlP_dead rfl rfl ?_|refine wc_regionP ?_|refine zc ?_|refine ze ?_|refine zX ?_|refine zY ?_|refine zv (fun hcd => ?_) (fun hcd => ?_)|refine zk ?_|refine zl ?_|refine zm ?_|refine zn ?_|refine zf ?_|refine zg ?_|refine zj ?_|refine zZ ?_|refine zh ?_|refine zi ?_|refine zo ?_|refine zp ?_|refine zq ?_|refine zr ?_|refine zs ?_)
  refine wlP_plain ?_
  refine r_insert (k := y.text) (v := .int .i64 0) mp98 kst hM5 rfl rfl rfl fun w6 hM6 hC6 hs6 => ?_
  have hE6 : Ext w4 w6 := Ext.of_one hE5 (ebm ▸ hC6)
  repeat' (first|(refine wlP_plain ?_; (first|refine zA ?_|refine zB ?_|refine zC ?_|refine zD ?_|refine zE ?_|refine zF ?_|refine zG ?_|refine zH ?_|refine zI ?_|refine zJ ?_|refine zK ?_|refine zL ?_|refine zM ?_|refine zN ?_|refine zO ?_|refine zP ?_|refine zQ ?_|refine zR ?_|refine zS ?_))|(refine wlP_run rfl rfl ?_; (first|refine zA ?_|refine zB ?_|refine zC ?_|refine zD ?_|refine zE ?_|refine zF ?_|refine zG ?_|refine zH ?_|refine zI ?_|refine zJ ?_|refine zK ?_|refine zL ?_|refine zM ?_|refine zN ?_|refine zO ?_|refine zP ?_|refine zQ ?_|refine zR ?_|refine zS ?_))|refine wlP_nil ?_|refine wlP_pass rfl rfl rfl ?_|refine wlP_dead rfl rfl ?_|refine wc_regionP ?_|refine zc ?_|refine ze ?_|refine zX ?_|refine zY ?_|refine zv (fun hcd => ?_) (fun hcd => ?_)|refine zk ?_|refine zl ?_|refine zm ?_|refine zn ?_|refine zf ?_|refine zg ?_|refine zj ?_|refine zZ ?_|refine zh ?_|refine zi ?_|refine zo ?_|refine zp ?_|refine zq ?_|refine zr ?_|refine zs ?_)
  refine wlP_plain ?_
  refine r_alloc (z := .map none) zr98 rfl fun w7 hb7 hE7 hs7 => ?_
  refine wlP_plain ?_
  refine r_st_box (v := .map (some bm)) (by kernel_rfl) hb7 rfl rfl rfl fun w8 hb8 hC8 hs8 => ?_
  obtain ⟨bk, ebk⟩ : ∃ bk, bk = w6.heap.size := ⟨_, rfl⟩
  have hE8 : Ext w6 w8 := Ext.of_one hE7 hC8
  rw [← ebk] at hb8 ⊢
  repeat' (first|(refine wlP_plain ?_; (first|refine zA ?_|refine zB ?_|refine zC ?_|refine zD ?_|refine zE ?_|refine zF ?_|refine zG ?_|refine zH ?_|refine zI ?_|refine zJ ?_|refine zK ?_|refine zL ?_|refine zM ?_|refine zN ?_|refine zO ?_|refine zP ?_|refine zQ ?_|refine zR ?_|refine zS ?_))|(refine wlP_run rfl rfl ?_; (first|refine zA ?_|refine zB ?_|refine zC ?_|refine zD ?_|refine zE ?_|refine zF ?_|refine zG ?_|refine zH ?_|refine zI ?_|refine zJ ?_|refine zK ?_|refine zL ?_|refine zM ?_|refine zN ?_|refine zO ?_|refine zP ?_|refine zQ ?_|refine zR ?_|refine zS ?_))|refine wlP_nil ?_|refine wlP_pass rfl rfl rfl ?_|refine wlP_dead rfl rfl ?_|refine wc_regionP ?_|refine zc ?_|refine ze ?_|refine zX ?_|refine zY ?_|refine zv (fun hcd => ?_) (fun hcd => ?_)|refine zk ?_|refine zl ?_|refine zm ?_|refine zn ?_|refine zf ?_|refine zg ?_|refine zj ?_|refine zZ ?_|refine zh ?_|refine zi ?_|refine zo ?_|refine zp ?_|refine zq ?_|refine zr ?_|refine zs ?_)
  refine wlP_plain ?_
  refine r_alloc (z := .nilFunc) zr36 rfl fun w9 hb9 hE9 hs9 => ?_
  obtain ⟨bl, ebl⟩ : ∃ bl, bl = w8.heap.size := ⟨_, rfl⟩
  rw [← ebl] at hb9 ⊢
  repeat' (first|(refine wlP_plain ?_; (first|refine zA ?_|refine zB ?_|refine zC ?_|refine zD ?_|refine zE ?_|refine zF ?_|refine zG ?_|refine zH ?_|refine zI ?_|refine zJ ?_|refine zK ?_|refine zL ?_|refine zM ?_|refine zN ?_|refine zO ?_|refine zP ?_|refine zQ ?_|refine zR ?_|refine zS ?_))|(refine wlP_run rfl rfl ?_; (first|refine zA ?_|refine zB ?_|refine zC ?_|refine zD ?_|refine zE ?_|refine zF ?_|refine zG ?_|refine zH ?_|refine zI ?_|refine zJ ?_|refine zK ?_|refine zL ?_|refine zM ?_|refine zN ?_|refine zO ?_|refine zP ?_|refine zQ ?_|refine zR ?_|refine zS ?_))|refine wlP_nil ?_|refine wlP_pass rfl rfl rfl ?_|refine wlP_dead rfl rfl ?_|refine wc_regionP ?_|refine zc ?_|refine ze ?_|refine zX ?_|refine zY ?_|refine zv (fun hcd => ?_) (fun hcd => ?_)|refine zk ?_|refine zl ?_|refine zm ?_|refine zn ?_|refine zf ?_|refine zg ?_|refine zj ?_|refine zZ ?_|refine zh ?_|refine zi ?_|refine zo ?_|refine zp ?_|refine zq ?_|refine zr ?_|refine zs ?_)
  refine wlP_plain ?_
  refine r_mkfn_v (cap := [.pointer (some ⟨bk, 0, none⟩), .pointer (some ⟨bv, 0, none⟩), .pointer (some ⟨bl, 0, none⟩)]) rfl rfl ?_
  refine wlP_plain ?_
  refine r_st_box (v := .func (.func 71) #[] #[.pointer (some ⟨bk, 0, none⟩), .pointer (some ⟨bv, 0, none⟩), .pointer (some ⟨bl, 0, none⟩)]) (by kernel_rfl) hb9 rfl rfl rfl fun w10 hb10 hC10 hs10 => ?_
  have hE10 : Ext w8 w10 := Ext.of_one hE9 (ebl ▸ hC10)
  have hW : LW y bk bv bl bm w10 _ := ⟨hb8.ext hE10, hbv4.ext (hE6.trans (hE8.trans hE10)), hb10, MapF.ext hM6 (hE8.trans hE10), ⟨fun s v e => ?_, by simp⟩⟩
  rotate_left 1
  · dsimp only at e
    split at e
    · cases e; exact ⟨y, 0, by assumption, rfl, le_refl _, isLp_self y, rfl⟩
    · cases e
  have hEw : Ext w w10 := hE14.trans (hE6.trans (hE8.trans hE10))
  have g10 := Gv.Box.rd hb10
  have g11 := Gv.Box.rd (h1.ext hEw)
  repeat' (first|(refine wlP_plain ?_; (first|refine zA ?_|refine zB ?_|refine zC ?_|refine zD ?_|refine zE ?_|refine zF ?_|refine zG ?_|refine zH ?_|refine zI ?_|refine zJ ?_|refine zK ?_|refine zL ?_|refine zM ?_|refine zN ?_|refine zO ?_|refine zP ?_|refine zQ ?_|refine zR ?_|refine zS ?_))|(refine wlP_run rfl rfl ?_; (first|refine zA ?_|refine zB ?_|refine zC ?_|refine zD ?_|refine zE ?_|refine zF ?_|refine zG ?_|refine zH ?_|refine zI ?_|refine zJ ?_|refine zK ?_|refine zL ?_|refine zM ?_|refine zN ?_|refine zO ?_|refine zP ?_|refine zQ ?_|refine zR ?_|refine zS ?_))|refine wlP_nil ?_|refine wlP_pass rfl rfl rfl ?_|refine wlP_dead rfl rfl ?_|refine wc_regionP ?_|refine zc ?_|refine ze ?_|refine zX ?_|refine zY ?_|refine zv (fun hcd => ?_) (fun hcd => ?_)|refine zk ?_|refine zl ?_|refine zm ?_|refine zn ?_|refine zf ?_|refine zg ?_|refine zj ?_|refine zZ ?_|refine zh ?_|refine zi ?_|refine zo ?_|refine zp ?_|refine zq ?_|refine zr ?_|refine zs ?_)
  refine wlP_plain ?_
  refine r_callV (f := 71) (cap := [.pointer (some ⟨bk, 0, none⟩), .pointer (some ⟨bv, 0, none⟩), .pointer (some ⟨bl, 0, none⟩)]) rfl (by kernel_rfl) (longC ((y.rk - x.rk).toNat + 1) x y bk bv bl bm w10 _ (by omega) (by omega) (by omega) hle hW) ?_
  rintro v w11 ⟨⟨m, hm, rfl⟩, hC11, _⟩
  have hE11 : Ext w w11 := Ch.trans' hEw hC11 fun k hk e => by
    have := Ext.size hE14
    omega
  refine wlP_plain ?_
  refine r_st_box (v := .int .i64 (m : Int)) (by kernel_rfl) (h3.ext hE11) rfl rfl rfl fun w12 hb12 hC12 hs12 => ?_
  repeat' (first|(refine wlP_plain ?_; (first|refine zA ?_|refine zB ?_|refine zC ?_|refine zD ?_|refine zE ?_|refine zF ?_|refine zG ?_|refine zH ?_|refine zI ?_|refine zJ ?_|refine zK ?_|refine zL ?_|refine zM ?_|refine zN ?_|refine zO ?_|refine zP ?_|refine zQ ?_|refine zR ?_|refine zS ?_))|(refine wlP_run rfl rfl ?_; (first|refine zA ?_|refine zB ?_|refine zC ?_|refine zD ?_|refine zE ?_|refine zF ?_|refine zG ?_|refine zH ?_|refine zI ?_|refine zJ ?_|refine zK ?_|refine zL ?_|refine zM ?_|refine zN ?_|refine zO ?_|refine zP ?_|refine zQ ?_|refine zR ?_|refine zS ?_))|refine wlP_nil ?_|refine wlP_pass rfl rfl rfl ?_|refine wlP_dead rfl rfl ?_|refine wc_regionP ?_|refine zc ?_|refine ze ?_|refine zX ?_|refine zY ?_|refine zv (fun hcd => ?_) (fun hcd => ?_)|refine zk ?_|refine zl ?_|refine zm ?_|refine zn ?_|refine zf ?_|refine zg ?_|refine zj ?_|refine zZ ?_|refine zh ?_|refine zi ?_|refine zo ?_|refine zp ?_|refine zq ?_|refine zr ?_|refine zs ?_)
  refine px_normal (post0n rfl ?_)
  exact ⟨⟨_, hb12, x, y, m, rfl, rfl, hx, hy, hle, hm, rfl⟩, hE11.ch.trans hC12⟩
set_option maxRecDepth 20000 in
set_option maxHeartbeats 1000000 in
theorem Longest_any (a b : Str) (w : World) : Calls Try.prog 27 #[str a, str b] w (Ret fun v w' => Ext w w' ∧ ((∃ u, v = .tuple #[u, .int .i64 0] ∧ GoodL a b u) ∨ ∃ e, v = .tuple #[.int .i64 0, .int .i64 e] ∧ ErrL a b e)) := by
  (refine calls_of_wc (args := [str a, str b]) Try.func27 rfl ?_ ?_; kernel_rfl; ((repeat' (first|refine za ?_|refine zA ?_|refine zB ?_|refine zb ?_|refine zc ?_|refine ze ?_|refine zd ?_|refine zC ?_|refine zD ?_|refine zE ?_|refine zF ?_|refine zG ?_|refine zH ?_|refine zI ?_|refine zJ ?_|refine zK ?_|refine zL ?_|refine zM ?_|refine zN ?_|refine zO ?_|refine zP ?_|refine zQ ?_|refine zR ?_|refine zS ?_|refine zU ?_|refine zV ?_|refine zW ?_|refine zt (fun hcd => ?_) (fun hcd => ?_)|refine zu (fun hcd => ?_) (fun hcd => ?_)|refine zX ?_|refine zY ?_|refine zv (fun hcd => ?_) (fun hcd => ?_)|refine zk ?_|refine zl ?_|refine zm ?_|refine zn ?_|refine zf ?_|refine zg ?_|refine zj ?_|refine zZ ?_|refine zh ?_|refine zi ?_|refine zo ?_|refine zp ?_|refine zq ?_|refine zr ?_|refine zs ?_))); refine r_box (v := str a) rfl rfl fun w1 hb1 hE1 hs1 => ?_; ((repeat' (first|refine za ?_|refine zA ?_|refine zB ?_|refine zb ?_|refine zc ?_|refine ze ?_|refine zd ?_|refine zC ?_|refine zD ?_|refine zE ?_|refine zF ?_|refine zG ?_|refine zH ?_|refine zI ?_|refine zJ ?_|refine zK ?_|refine zL ?_|refine zM ?_|refine zN ?_|refine zO ?_|refine zP ?_|refine zQ ?_|refine zR ?_|refine zS ?_|refine zU ?_|refine zV ?_|refine zW ?_|refine zt (fun hcd => ?_) (fun hcd => ?_)|refine zu (fun hcd => ?_) (fun hcd => ?_)|refine zX ?_|refine zY ?_|refine zv (fun hcd => ?_) (fun hcd => ?_)|refine zk ?_|refine zl ?_|refine zm ?_|refine zn ?_|refine zf ?_|refine zg ?_|refine zj ?_|refine zZ ?_|refine zh ?_|refine zi ?_|refine zo ?_|refine zp ?_|refine zq ?_|refine zr ?_|refine zs ?_))); refine r_box (v := str b) rfl rfl fun w2 hb2 hE2 hs2 => ?_; ((repeat' (first|refine za ?_|refine zA ?_|refine zB ?_|refine zb ?_|refine zc ?_|refine ze ?_|refine zd ?_|refine zC ?_|refine zD ?_|refine zE ?_|refine zF ?_|refine zG ?_|refine zH ?_|refine zI ?_|refine zJ ?_|refine zK ?_|refine zL ?_|refine zM ?_|refine zN ?_|refine zO ?_|refine zP ?_|refine zQ ?_|refine zR ?_|refine zS ?_|refine zU ?_|refine zV ?_|refine zW ?_|refine zt (fun hcd => ?_) (fun hcd => ?_)|refine zu (fun hcd => ?_) (fun hcd => ?_)|refine zX ?_|refine zY ?_|refine zv (fun hcd => ?_) (fun hcd => ?_)|refine zk ?_|refine zl ?_|refine zm ?_|refine zn ?_|refine zf ?_|refine zg ?_|refine zj ?_|refine zZ ?_|refine zh ?_|refine zi ?_|refine zo ?_|refine zp ?_|refine zq ?_|refine zr ?_|refine zs ?_))); refine r_alloc (z := .int .i64 0) zr3 rfl fun w3 hb3 hE3 hs3 => ?_; ((repeat' (first|refine za ?_|refine zA ?_|refine zB ?_|refine zb ?_|refine zc ?_|refine ze ?_|refine zd ?_|refine zC ?_|refine zD ?_|refine zE ?_|refine zF ?_|refine zG ?_|refine zH ?_|refine zI ?_|refine zJ ?_|refine zK ?_|refine zL ?_|refine zM ?_|refine zN ?_|refine zO ?_|refine zP ?_|refine zQ ?_|refine zR ?_|refine zS ?_|refine zU ?_|refine zV ?_|refine zW ?_|refine zt (fun hcd => ?_) (fun hcd => ?_)|refine zu (fun hcd => ?_) (fun hcd => ?_)|refine zX ?_|refine zY ?_|refine zv (fun hcd => ?_) (fun hcd => ?_)|refine zk ?_|refine zl ?_|refine zm ?_|refine zn ?_|refine zf ?_|refine zg ?_|refine zj ?_|refine zZ ?_|refine zh ?_|refine zi ?_|refine zo ?_|refine zp ?_|refine zq ?_|refine zr ?_|refine zs ?_))); refine r_mkfn_v (cap := [.pointer (some ⟨w.heap.size, 0, none⟩), .pointer (some ⟨w1.heap.size, 0, none⟩), .pointer (some ⟨w2.heap.size, 0, none⟩)]) rfl rfl ?_; (repeat' (first|refine za ?_|refine zA ?_|refine zB ?_|refine zb ?_|refine zc ?_|refine ze ?_|refine zd ?_|refine zC ?_|refine zD ?_|refine zE ?_|refine zF ?_|refine zG ?_|refine zH ?_|refine zI ?_|refine zJ ?_|refine zK ?_|refine zL ?_|refine zM ?_|refine zN ?_|refine zO ?_|refine zP ?_|refine zQ ?_|refine zR ?_|refine zS ?_|refine zU ?_|refine zV ?_|refine zW ?_|refine zt (fun hcd => ?_) (fun hcd => ?_)|refine zu (fun hcd => ?_) (fun hcd => ?_)|refine zX ?_|refine zY ?_|refine zv (fun hcd => ?_) (fun hcd => ?_)|refine zk ?_|refine zl ?_|refine zm ?_|refine zn ?_|refine zf ?_|refine zg ?_|refine zj ?_|refine zZ ?_|refine zh ?_|refine zi ?_|refine zo ?_|refine zp ?_|refine zq ?_|refine zr ?_|refine zs ?_)))
  (refine r_call (R := ?_) rfl ?_ ?_; rotate_left 1; focus exact guard_any 69 _ w3 (fun k => k = w2.heap.size) (fun w' => ∃ u, Box w' w2.heap.size 3 u ∧ GoodL a b u) (fun e w' => ErrL a b e ∧ Box w' w2.heap.size 3 (.int .i64 0)) (by kernel_rfl) (by omega) fun wg hEg hsg => longestC a b _ _ _ wg (((hb1.ext hE2).ext hE3).ext hEg) ((hb2.ext hE3).ext hEg) (hb3.ext hEg) (by omega))
  rintro v w5 ⟨w4, hCg, hCS, hlt, hcase⟩
  have hE5 := ext_guard (hE1.trans (hE2.trans hE3)) hCS (by omega) hCg
  rcases hcase with ⟨rfl, u, hB, hgood⟩ | ⟨e, rfl, herr, hB⟩
  · obtain ⟨x, y, m, -, -, -, -, -, -, rfl⟩ := id hgood
    have hB5 := hB.keep hCg (by omega)
    have g5 := Gv.Box.rd hB5
    repeat' (first|refine za ?_|refine zA ?_|refine zB ?_|refine zb ?_|refine zc ?_|refine ze ?_|refine zd ?_|refine zC ?_|refine zD ?_|refine zE ?_|refine zF ?_|refine zG ?_|refine zH ?_|refine zI ?_|refine zJ ?_|refine zK ?_|refine zL ?_|refine zM ?_|refine zN ?_|refine zO ?_|refine zP ?_|refine zQ ?_|refine zR ?_|refine zS ?_|refine zU ?_|refine zV ?_|refine zW ?_|refine zt (fun hcd => ?_) (fun hcd => ?_)|refine zu (fun hcd => ?_) (fun hcd => ?_)|refine zX ?_|refine zY ?_|refine zv (fun hcd => ?_) (fun hcd => ?_)|refine zk ?_|refine zl ?_|refine zm ?_|refine zn ?_|refine zf ?_|refine zg ?_|refine zj ?_|refine zZ ?_|refine zh ?_|refine zi ?_|refine zo ?_|refine zp ?_|refine zq ?_|refine zr ?_|refine zs ?_)
    refine r_st_box (by kernel_rfl) hB5 rfl rfl rfl fun w6 hB6 hC6 hs6 => ?_
    repeat' (first|refine za ?_|refine zA ?_|refine zB ?_|refine zb ?_|refine zc ?_|refine ze ?_|refine zd ?_|refine zC ?_|refine zD ?_|refine zE ?_|refine zF ?_|refine zG ?_|refine zH ?_|refine zI ?_|refine zJ ?_|refine zK ?_|refine zL ?_|refine zM ?_|refine zN ?_|refine zO ?_|refine zP ?_|refine zQ ?_|refine zR ?_|refine zS ?_|refine zU ?_|refine zV ?_|refine zW ?_|refine zt (fun hcd => ?_) (fun hcd => ?_)|refine zu (fun hcd => ?_) (fun hcd => ?_)|refine zX ?_|refine zY ?_|refine zv (fun hcd => ?_) (fun hcd => ?_)|refine zk ?_|refine zl ?_|refine zm ?_|refine zn ?_|refine zf ?_|refine zg ?_|refine zj ?_|refine zZ ?_|refine zh ?_|refine zi ?_|refine zo ?_|refine zp ?_|refine zq ?_|refine zr ?_|refine zs ?_)
    refine post_b2 rfl rfl (v2 := .int .i64 0) rfl ct3 hB6 ?_
    exact ⟨Ch.trans' hE5 hC6 fun k hk e => by omega, .inl ⟨_, rfl, hgood⟩⟩
  · have hB5 := hB.keep hCg (by omega)
    have g5 := Gv.Box.rd hB5
    repeat' (first|refine za ?_|refine zA ?_|refine zB ?_|refine zb ?_|refine zc ?_|refine ze ?_|refine zd ?_|refine zC ?_|refine zD ?_|refine zE ?_|refine zF ?_|refine zG ?_|refine zH ?_|refine zI ?_|refine zJ ?_|refine zK ?_|refine zL ?_|refine zM ?_|refine zN ?_|refine zO ?_|refine zP ?_|refine zQ ?_|refine zR ?_|refine zS ?_|refine zU ?_|refine zV ?_|refine zW ?_|refine zt (fun hcd => ?_) (fun hcd => ?_)|refine zu (fun hcd => ?_) (fun hcd => ?_)|refine zX ?_|refine zY ?_|refine zv (fun hcd => ?_) (fun hcd => ?_)|refine zk ?_|refine zl ?_|refine zm ?_|refine zn ?_|refine zf ?_|refine zg ?_|refine zj ?_|refine zZ ?_|refine zh ?_|refine zi ?_|refine zo ?_|refine zp ?_|refine zq ?_|refine zr ?_|refine zs ?_)
    refine r_st_box (by kernel_rfl) hB5 rfl rfl rfl fun w6 hB6 hC6 hs6 => ?_
    repeat' (first|refine za ?_|refine zA ?_|refine zB ?_|refine zb ?_|refine zc ?_|refine ze ?_|refine zd ?_|refine zC ?_|refine zD ?_|refine zE ?_|refine zF ?_|refine zG ?_|refine zH ?_|refine zI ?_|refine zJ ?_|refine zK ?_|refine zL ?_|refine zM ?_|refine zN ?_|refine zO ?_|refine zP ?_|refine zQ ?_|refine zR ?_|refine zS ?_|refine zU ?_|refine zV ?_|refine zW ?_|refine zt (fun hcd => ?_) (fun hcd => ?_)|refine zu (fun hcd => ?_) (fun hcd => ?_)|refine zX ?_|refine zY ?_|refine zv (fun hcd => ?_) (fun hcd => ?_)|refine zk ?_|refine zl ?_|refine zm ?_|refine zn ?_|refine zf ?_|refine zg ?_|refine zj ?_|refine zZ ?_|refine zh ?_|refine zi ?_|refine zo ?_|refine zp ?_|refine zq ?_|refine zr ?_|refine zs ?_)
    refine post_b2 rfl rfl (v2 := .int .i64 e) rfl ct3 hB6 ?_
    exact ⟨Ch.trans' hE5 hC6 fun k hk e => by omega, .inr ⟨e, rfl, herr⟩⟩
end Go.Proofs.Ytkdakleckdkhiaa

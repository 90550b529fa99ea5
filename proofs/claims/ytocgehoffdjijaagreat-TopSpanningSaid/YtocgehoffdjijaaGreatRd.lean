/- forks: demand; trees are read. -/
import Derived.Test.YtocgehoffdjijaaGreatTr
namespace Go.Proofs.YtocgehoffdjijaaGreat
open Gv
theorem blt115 (e : Int) : Tryz.prog.built 187 [(0, .int .i64 e)] = some #[.int .i64 e] := by kernel_rfl
theorem blt118 (s : List UInt8) : Tryz.prog.built 194 [(0, str s)] = some #[str s, .int .i64 0] := by kernel_rfl
theorem blt111 : Tryz.prog.built 237 [] = some #[] := by kernel_rfl
theorem blt109i (a b : TypeId) (u v : Value) : Tryz.prog.built 189 [(0, .iface a u), (1, .iface b v)] = some #[.iface a u, .iface b v] := by kernel_rfl
theorem blt109 (l r : T) : Tryz.prog.built 189 [(0, tv l), (1, tv r)] = some #[tv l, tv r] := by
  cases l <;> cases r <;> exact blt109i _ _ _ _
theorem fo118_0 : fldOff Tryz.prog 194 0 = some 0 := by kernel_rfl
theorem fo118_1 : fldOff Tryz.prog 194 1 = some 1 := by kernel_rfl
theorem cc115 : concreteT Tryz.prog 187 = true := by kernel_rfl
theorem cc109 : concreteT Tryz.prog 189 = true := by kernel_rfl
theorem cc111 : concreteT Tryz.prog 237 = true := by kernel_rfl
theorem st9 : strT Tryz.prog 9 = true := by kernel_rfl
theorem ct9 : cellT Tryz.prog 9 = true := by kernel_rfl
/-- What a panic of 'demand' carries. -/
def trb (e : Int) : PanicEntry := { v := .iface 187 (.agg #[.int .i64 e]), recovered := false }
set_option maxRecDepth 20000 in
set_option maxHeartbeats 400000 in
theorem demand_any (ok : Bool) (e : Int) (w : World) :
    Calls Tryz.prog 127 #[.bool ok, .int .i64 e] w (RetX (fun v w' => ok = true ∧ v = .tuple #[] ∧ w' = w) (fun ch w' => ok = false ∧ ch = [trb e] ∧ w' = w)) := by
  refine calls_of_wcX (args := [.bool ok, .int .i64 e]) Tryz.func127 rfl ?_ ?_; kernel_rfl
  cases ok with
  | true =>
    repeat' (first|refine za ?_|refine zA ?_|refine zb ?_|refine zc ?_|refine ze ?_|refine zd ?_|refine zO ?_|refine zY ?_|refine zk ?_)
    refine px_normal (post0n rfl ?_)
    exact ⟨rfl, rfl, rfl⟩
  | false =>
    repeat' (first|(refine wlP_plain ?_; (first|refine zA ?_|refine zO ?_))|refine wlP_nil ?_|refine wc_regionP ?_|refine zc ?_|refine ze ?_|refine zX ?_)
    refine wlP_plain ?_
    refine r_build (blt115 e) ?_
    refine wlP_plain ?_
    refine r_iface cc115 rfl ?_
    refine wlP_may ?_
    refine p_panic rfl ?_
    exact px_panic ⟨rfl, rfl, rfl⟩
section
variable {P : Program} {st : Bool} {K : Env → World → Prop} {ρ : Env} {w : World} {d : Nat} {t ty : TypeId} {pos : String} {aft : Array Edge} {gd : Option (Nat × Bool)} {x y z : Operand} {c : UInt8} {a : Str} {k : IntKind}
theorem r_sidx0 (ht : strT P t = true) (hx : ev ρ x = str (c :: a)) (hy : ev ρ y = .int k 0) (h : K (up ρ d (.int .u8 (c.toNat : Int))) w) : w1 P st ⟨some d, .index t x y, ty, pos, aft, gd⟩ K ρ w :=
  r_sidx ht hx hy (by omega) (by simp) h
theorem r_sfrom1 (ht : strT P t = true) (hx : ev ρ x = str (c :: a)) (hy : ev ρ z = .int k 1) (h : K (up ρ d (str a)) w) : w1 P st ⟨some d, .slice t x (some z) none none, ty, pos, aft, gd⟩ K ρ w :=
  r_sfrom ht hx hy (by omega) (by simp; omega) h
end
section
variable {P : Program} {st : Bool} {K : Env → World → Prop} {ρ : Env} {w : World} {d : Nat} {t t2 ty : TypeId} {pos : String} {aft : Array Edge} {gd : Option (Nat × Bool)} {x y : Operand} {a b : Str} {c : Bool}
theorem r_sneq_v (hx : ev ρ x = str a) (hy : ev ρ y = str b) (hc : decide (a ≠ b) = c) (h : K (up ρ d (.bool c)) w) : w1 P st ⟨some d, .binOp .neq t x y t2, ty, pos, aft, gd⟩ K ρ w := r_sneq hx hy (hc ▸ h)
theorem r_seql_v (hx : ev ρ x = str a) (hy : ev ρ y = str b) (hc : decide (a = b) = c) (h : K (up ρ d (.bool c)) w) : w1 P st ⟨some d, .binOp .eql t x y t2, ty, pos, aft, gd⟩ K ρ w := r_seql hx hy (hc ▸ h)
end
theorem u8_eq {c : UInt8} {n : Nat} (h : (c.toNat : Int) = n) (hn : n < 256) : c = UInt8.ofNat n := by
  apply UInt8.toNat_inj.1
  rw [UInt8.toNat_ofNat', Nat.mod_eq_of_lt (by simpa using hn)]
  omega
def TreeC (s : Str) (k b : Nat) (w : World) : Prop :=
  Calls Tryz.prog 126 #[.pointer (some ⟨b, 0, none⟩)] w (RetX
    (fun v w' => ∃ (t : T) (s' : Str), s = t.text ++ s' ∧ k + t.size ≤ 10 ∧ v = tv t ∧ Blk w' b 194 [str s', .int .i64 ((k + t.size : Nat) : Int)] ∧ Ch (fun j => j = b) w w')
    (fun ch w' => ch = [trb 4] ∧ Ch (fun j => j = b) w w' ∧ ¬ ∃ (t : T) (s' : Str), s = t.text ++ s' ∧ k + t.size ≤ 10))
set_option maxRecDepth 20000 in
set_option maxHeartbeats 4000000 in
theorem tree_any : ∀ (n : Nat) (s : Str) (k b : Nat) (w : World), s.length < n → k ≤ 10 → Blk w b 194 [str s, .int .i64 (k : Int)] → TreeC s k b w
  | 0, s, k, b, w, hn, _, _ => by omega
  | n + 1, s, k, b, w, hn, hk, hb => by
    unfold TreeC
    have h0 : rd w (some ⟨b, 0, none⟩) = some (str s) := hb.rd (k := 0) rfl
    have h1 : rd w (some ⟨b, 1, none⟩) = some (.int .i64 (k : Int)) := hb.rd (k := 1) rfl
    refine calls_of_wcX (args := [.pointer (some ⟨b, 0, none⟩)]) Tryz.func126 rfl ?_ ?_; kernel_rfl
    repeat' (first|(refine wlP_plain ?_; (first|refine zA ?_|refine zB ?_|refine zP ?_))|refine wlP_nil ?_|refine wc_regionP ?_|refine zc ?_|refine ze ?_)
    refine wlP_plain ?_
    refine r_faE (o' := 0) fo118_0 rfl rfl ?_
    repeat' ((refine wlP_plain ?_; (refine zM ?_)))
    refine wlP_plain ?_
    refine r_sneq (a := s) (b := []) rfl rfl ?_
    (refine wlP_may ?_; refine p_call (R := ?_) (Y := ?_) rfl ?_ ?_ ?_; rotate_left 2; focus exact demand_any (decide (s ≠ [])) 4 w)
    rotate_left 1
    · rintro ch w' ⟨hs, rfl, rfl⟩
      ((repeat' (refine thenQ_panic ?_)); (refine px_panic ?_))
      refine ⟨rfl, Ch.refl _ _, ?_⟩
      rintro ⟨t, s', rfl, _⟩
      have := t.text_ne
      simp at hs
      exact this hs.1
    rintro v w' ⟨hs, rfl, rfl⟩
    obtain ⟨c, s1, rfl⟩ : ∃ c s1, s = c :: s1 := by
      cases s with
      | nil => simp at hs
      | cons c s1 => exact ⟨c, s1, rfl⟩
    clear hs
    repeat' (first|(refine wlP_plain ?_; (first|refine zA ?_|refine zP ?_))|refine wlP_nil ?_|refine wc_regionP ?_|refine zc ?_|refine ze ?_)
    refine wlP_plain ?_
    refine r_faE (o' := 0) fo118_0 rfl rfl ?_
    repeat' ((refine wlP_plain ?_; (refine zM ?_)))
    refine wlP_plain ?_
    refine r_sidx0 st9 rfl rfl ?_
    repeat' (first|(refine wlP_plain ?_; (first|refine zA ?_|refine zB ?_|refine zP ?_))|refine wlP_nil ?_|refine wc_regionP ?_|refine zc ?_|refine ze ?_)
    refine wlP_plain ?_
    refine r_faE (o' := 0) fo118_0 rfl rfl ?_
    repeat' ((refine wlP_plain ?_; (refine zM ?_)))
    refine wlP_plain ?_
    refine r_sfrom1 st9 rfl rfl ?_
    repeat' ((refine wlP_plain ?_; (refine zP ?_)))
    refine wlP_plain ?_
    refine r_faE (o' := 0) fo118_0 rfl rfl ?_
    refine wlP_plain ?_
    refine r_st_blk (k := 0) (v := str s1) (by kernel_rfl) hb rfl rfl rfl (by simp) fun w2 hb2 hC2 hs2 => ?_
    replace hb2 : Blk w2 b 194 [str s1, .int .i64 (k : Int)] := hb2
    have h20 : rd w2 (some ⟨b, 0, none⟩) = some (str s1) := hb2.rd (k := 0) rfl
    have h21 : rd w2 (some ⟨b, 1, none⟩) = some (.int .i64 (k : Int)) := hb2.rd (k := 1) rfl
    by_cases hc : (c.toNat : Int) = 46
    · have hcc := u8_eq (n := 46) hc (by decide)
      repeat' (first|(refine wlP_plain ?_; (first|refine zA ?_|refine zG ?_))|refine wlP_nil ?_|refine wc_regionP ?_|refine zc ?_|refine ze ?_|refine zX ?_)
      refine wlP_plain ?_
      refine r_build blt111 ?_
      refine wlP_plain ?_
      refine r_iface cc111 rfl ?_
      repeat' (first|(refine wlP_plain ?_; (refine zB ?_))|refine wlP_nil ?_|refine ze ?_|refine zn ?_|refine zf ?_)
      refine px_ret (post1 (v := tv .lf) rfl rfl ?_)
      exact ⟨.lf, s1, by rw [hcc]; rfl, by simp [T.size]; omega, rfl, by simpa [T.size] using hb2, hC2⟩
    have hno46 : ∀ (s' : Str), c :: s1 ≠ T.lf.text ++ s' := by
      intro s' e
      simp only [T.text, List.cons_append, List.nil_append, List.cons.injEq] at e
      rw [e.1] at hc; exact hc (by decide)
    repeat' (first|(refine wlP_plain ?_; (first|refine zA ?_|refine zG ?_|refine zP ?_))|refine wlP_nil ?_|refine wc_regionP ?_|refine zc ?_|refine ze ?_|refine zY ?_|refine zk ?_)
    refine wlP_plain ?_
    refine r_faE (o' := 1) fo118_1 rfl rfl ?_
    repeat' ((refine wlP_plain ?_; (first|refine zI ?_|refine zM ?_|refine zP ?_)))
    refine wlP_plain ?_
    refine r_faE (o' := 1) fo118_1 rfl rfl ?_
    refine wlP_plain ?_
    refine r_st_blk (k := 1) (v := .int .i64 ((k : Int) + 1)) (by kernel_rfl) hb2 rfl rfl rfl (by simp) fun w3 hb3 hC3 hs3 => ?_
    replace hb3 : Blk w3 b 194 [str s1, .int .i64 (((k + 1 : Nat)) : Int)] := hb3
    have hC13 := hC2.trans hC3
    have h30 : rd w3 (some ⟨b, 0, none⟩) = some (str s1) := hb3.rd (k := 0) rfl
    have h31 : rd w3 (some ⟨b, 1, none⟩) = some (.int .i64 ((k + 1 : Nat) : Int)) := hb3.rd (k := 1) rfl
    by_cases hc4 : (c.toNat : Int) = 40
    rotate_left 1
    · repeat' (first|(refine wlP_plain ?_; (first|refine zA ?_|refine zG ?_|refine zR ?_))|refine wlP_nil ?_|refine wlP_pass rfl rfl rfl ?_|refine wc_regionP ?_|refine zc ?_|refine ze ?_)
      (refine wlP_may ?_; refine p_call (R := ?_) (Y := ?_) rfl ?_ ?_ ?_; rotate_left 2; focus exact demand_any false 4 w3)
      · rintro v w' ⟨h, _⟩; cases h
      rintro ch w' ⟨hs, rfl, rfl⟩
      ((repeat' (refine thenQ_panic ?_)); (refine px_panic ?_))
      refine ⟨rfl, hC13, ?_⟩
      rintro ⟨t, s', e, hle⟩
      cases t with
      | lf => exact hno46 s' e
      | nd l r => have := (text_nd_cons e).1; subst this; exact hc4 (by decide)
    have hcc := u8_eq (n := 40) hc4 (by decide)
    replace hcc : c = 40 := hcc
    subst hcc
    by_cases hk10 : k + 1 ≤ 10
    rotate_left 1
    · repeat' (first|(refine wlP_plain ?_; (first|refine zA ?_|refine zG ?_))|(refine wlP_run rfl rfl ?_; (first|refine zA ?_|refine zP ?_))|refine wlP_nil ?_|refine wc_regionP ?_|refine zc ?_|refine ze ?_)
      refine wlP_run rfl rfl ?_
      refine r_faE (o' := 1) fo118_1 rfl rfl ?_
      repeat' (first|(refine wlP_plain ?_; (refine zQ ?_))|(refine wlP_run rfl rfl ?_; (first|refine zD ?_|refine zM ?_)))
      (refine wlP_may ?_; refine p_call (R := ?_) (Y := ?_) rfl ?_ ?_ ?_; rotate_left 2; focus exact demand_any false 4 w3)
      · rintro v w' ⟨h, _⟩; cases h
      rintro ch w' ⟨hs, rfl, rfl⟩
      ((repeat' (refine thenQ_panic ?_)); (refine px_panic ?_))
      refine ⟨rfl, hC13, ?_⟩
      rintro ⟨t, s', e, hle⟩
      cases t with
      | lf => exact hno46 s' e
      | nd l r => simp only [T.size] at hle; omega
    repeat' (first|(refine wlP_plain ?_; (first|refine zA ?_|refine zG ?_))|(refine wlP_run rfl rfl ?_; (first|refine zA ?_|refine zP ?_))|refine wlP_nil ?_|refine wc_regionP ?_|refine zc ?_|refine ze ?_)
    refine wlP_run rfl rfl ?_
    refine r_faE (o' := 1) fo118_1 rfl rfl ?_
    repeat' (first|(refine wlP_plain ?_; (refine zQ ?_))|(refine wlP_run rfl rfl ?_; (first|refine zD ?_|refine zM ?_)))
    (refine wlP_may ?_; refine p_call (R := ?_) (Y := ?_) rfl ?_ ?_ ?_; rotate_left 2; focus exact demand_any true 4 w3)
    rotate_left 1
    · rintro ch w' ⟨h, _⟩; cases h
    rintro v w' ⟨hs, rfl, hw⟩
    subst w'
    simp only [List.length_cons] at hn
    repeat' (first|(refine wlP_plain ?_; (refine zA ?_))|refine wlP_nil ?_|refine wc_regionP ?_|refine zc ?_|refine ze ?_)
    (refine wlP_may ?_; refine p_call (R := ?_) (Y := ?_) rfl ?_ ?_ ?_; rotate_left 2; focus exact tree_any n s1 (k + 1) b w3 (by omega) (by omega) hb3)
    rotate_left 1
    · rintro ch w4 ⟨rfl, hC4, hno⟩
      ((repeat' (refine thenQ_panic ?_)); (refine px_panic ?_))
      refine ⟨rfl, hC13.trans hC4, ?_⟩
      rintro ⟨t, s', e, hle⟩
      cases t with
      | lf => exact hno46 s' e
      | nd l r => exact hno ⟨l, _, (text_nd_cons e).2, by simp only [T.size] at hle; omega⟩
    rintro v w4 ⟨l, s2, rfl, hkl, rfl, hb4, hC4⟩
    repeat' (first|(refine wlP_plain ?_; (first|refine zA ?_|refine zB ?_))|refine wlP_nil ?_|refine wc_regionP ?_|refine zc ?_|refine ze ?_)
    (refine wlP_may ?_; refine p_call (R := ?_) (Y := ?_) rfl ?_ ?_ ?_; rotate_left 2; focus exact tree_any n s2 (k + 1 + l.size) b w4 (by simp only [List.length_append] at hn; omega) (by omega) hb4)
    rotate_left 1
    · rintro ch w5 ⟨rfl, hC5, hno⟩
      ((repeat' (refine thenQ_panic ?_)); (refine px_panic ?_))
      refine ⟨rfl, hC13.trans (hC4.trans hC5), ?_⟩
      rintro ⟨t, s', e, hle⟩
      cases t with
      | lf => exact hno46 s' e
      | nd l' r =>
        obtain ⟨hl, h2⟩ := text_pre _ _ _ _ (text_nd_cons e).2
        subst hl
        exact hno ⟨r, _, h2, by simp only [T.size] at hle; omega⟩
    rintro v w5 ⟨r, s3, rfl, hkr, rfl, hb5, hC5⟩
    have h50 : rd w5 (some ⟨b, 0, none⟩) = some (str s3) := hb5.rd (k := 0) rfl
    repeat' (first|(refine wlP_plain ?_; (first|refine zA ?_|refine zB ?_|refine zP ?_))|refine wlP_nil ?_|refine wc_regionP ?_|refine zc ?_|refine ze ?_)
    refine wlP_plain ?_
    refine r_faE (o' := 0) fo118_0 rfl rfl ?_
    repeat' ((refine wlP_plain ?_; (refine zM ?_)))
    refine wlP_plain ?_
    have hno : ∀ t s', 40 :: (l.text ++ (r.text ++ s3)) = T.text t ++ s' → ∃ s4, s3 = 41 :: s4 := by
      intro t s' e
      cases t with
      | lf => exact absurd e (hno46 s')
      | nd l' r' =>
        obtain ⟨hl, h2⟩ := text_pre _ _ _ _ (text_nd_cons e).2
        subst hl
        obtain ⟨hl, h3⟩ := text_pre _ _ _ _ h2
        exact ⟨_, h3⟩
    have hC := hC13.trans (hC4.trans hC5)
    cases s3 with
    | nil =>
      refine r_sneq_v (a := []) (b := []) (c := false) rfl rfl (by rfl) ?_
      repeat' (first|(refine wlP_plain ?_; (first|refine zA ?_|refine zR ?_))|refine wlP_pass rfl rfl rfl ?_)
      (refine wlP_may ?_; refine p_call (R := ?_) (Y := ?_) rfl ?_ ?_ ?_; rotate_left 2; focus exact demand_any false 4 w5)
      · rintro v w' ⟨h, _⟩; cases h
      rintro ch w' ⟨hs, rfl, rfl⟩
      ((repeat' (refine thenQ_panic ?_)); (refine px_panic ?_))
      refine ⟨rfl, hC, ?_⟩
      rintro ⟨t, s', e, hle⟩
      obtain ⟨s4, h4⟩ := hno t s' e
      cases h4
    | cons c2 s4 =>
      refine r_sneq_v (a := c2 :: s4) (b := []) (c := true) rfl rfl (by rfl) ?_
      by_cases hc2 : (c2.toNat : Int) = 41
      rotate_left 1
      · repeat' (first|(refine wlP_plain ?_; (refine zA ?_))|(refine wlP_run rfl rfl ?_; (first|refine zA ?_|refine zP ?_)))
        refine wlP_run rfl rfl ?_
        refine r_faE (o' := 0) fo118_0 rfl rfl ?_
        repeat' ((refine wlP_run rfl rfl ?_; (refine zM ?_)))
        refine wlP_run rfl rfl ?_
        refine r_sidx0 st9 rfl rfl ?_
        repeat' (first|(refine wlP_plain ?_; (refine zQ ?_))|(refine wlP_run rfl rfl ?_; (refine zG ?_)))
        (refine wlP_may ?_; refine p_call (R := ?_) (Y := ?_) rfl ?_ ?_ ?_; rotate_left 2; focus exact demand_any false 4 w5)
        · rintro v w' ⟨h, _⟩; cases h
        rintro ch w' ⟨hs, rfl, rfl⟩
        ((repeat' (refine thenQ_panic ?_)); (refine px_panic ?_))
        refine ⟨rfl, hC, ?_⟩
        rintro ⟨t, s', e, hle⟩
        obtain ⟨s5, h4⟩ := hno t s' e
        cases h4; exact hc2 (by decide)
      have hcc := u8_eq (n := 41) hc2 (by decide)
      replace hcc : c2 = 41 := hcc
      subst hcc
      repeat' (first|(refine wlP_plain ?_; (refine zA ?_))|(refine wlP_run rfl rfl ?_; (first|refine zA ?_|refine zP ?_)))
      refine wlP_run rfl rfl ?_
      refine r_faE (o' := 0) fo118_0 rfl rfl ?_
      repeat' ((refine wlP_run rfl rfl ?_; (refine zM ?_)))
      refine wlP_run rfl rfl ?_
      refine r_sidx0 st9 rfl rfl ?_
      repeat' (first|(refine wlP_plain ?_; (refine zQ ?_))|(refine wlP_run rfl rfl ?_; (refine zG ?_)))
      (refine wlP_may ?_; refine p_call (R := ?_) (Y := ?_) rfl ?_ ?_ ?_; rotate_left 2; focus exact demand_any true 4 w5)
      rotate_left 1
      · rintro ch w' ⟨h, _⟩; cases h
      rintro v w' ⟨hs, rfl, hw⟩
      subst w'
      repeat' (first|(refine wlP_plain ?_; (first|refine zA ?_|refine zP ?_))|refine wlP_nil ?_|refine wc_regionP ?_|refine zc ?_|refine ze ?_)
      refine wlP_plain ?_
      refine r_faE (o' := 0) fo118_0 rfl rfl ?_
      repeat' ((refine wlP_plain ?_; (refine zM ?_)))
      refine wlP_plain ?_
      refine r_sfrom1 st9 rfl rfl ?_
      repeat' ((refine wlP_plain ?_; (refine zP ?_)))
      refine wlP_plain ?_
      refine r_faE (o' := 0) fo118_0 rfl rfl ?_
      refine wlP_plain ?_
      refine r_st_blk (k := 0) (v := str s4) (by kernel_rfl) hb5 rfl rfl rfl (by simp) fun w6 hb6 hC6 hs6 => ?_
      repeat' (first|(refine wlP_plain ?_; (refine zA ?_))|refine wlP_nil ?_|refine wc_regionP ?_|refine zc ?_|refine ze ?_)
      refine wlP_plain ?_
      refine r_build (blt109 l r) ?_
      refine wlP_plain ?_
      refine r_iface cc109 rfl ?_
      repeat' (first|(refine wlP_plain ?_; (refine zB ?_))|refine wlP_nil ?_|refine ze ?_|refine zn ?_)
      refine px_ret (post1 (v := tv (.nd l r)) rfl rfl ?_)
      refine ⟨.nd l r, s4, by simp [T.text], by simp only [T.size]; omega, rfl, ?_, hC.trans hC6⟩
      have e : ((k + (T.nd l r).size : Nat) : Int) = ((k + 1 + l.size + r.size : Nat) : Int) := by simp only [T.size]; congr 1; omega
      rw [e]
      exact hb6
theorem Ext.of_one {w w' w'' : World} (h : Ext w w') (h' : Ch (fun j => j = w.heap.size) w' w'') : Ext w w'' := Ch.trans' h h' fun k hk e => by omega
set_option maxRecDepth 20000 in
set_option maxHeartbeats 4000000 in
theorem read_any (s : Str) (w : World) : Calls Tryz.prog 88 #[str s] w (RetX (fun v w' => ∃ t : T, s = t.text ∧ t.size ≤ 10 ∧ v = tv t ∧ Ext w w') (fun ch w' => ch = [trb 4] ∧ Ext w w' ∧ ¬ IsT s)) := by
  refine calls_of_wcX (args := [str s]) Tryz.func88 rfl ?_ ?_; kernel_rfl
  repeat' (first|(refine wlP_plain ?_; (first|refine zA ?_|refine zB ?_))|refine wlP_nil ?_|refine wc_regionP ?_|refine zc ?_|refine ze ?_)
  refine wlP_plain ?_
  refine r_build (blt118 s) ?_
  refine wlP_plain ?_
  refine r_boxN (cells := [str s, .int .i64 0]) rfl fun w1 hb1 hE1 hs1 => ?_
  repeat' (first|(refine wlP_plain ?_; (first|refine zA ?_|refine zB ?_))|refine wlP_nil ?_|refine wc_regionP ?_|refine zc ?_|refine ze ?_)
  (refine wlP_may ?_; refine p_call (R := ?_) (Y := ?_) rfl ?_ ?_ ?_; rotate_left 2; focus exact tree_any (s.length + 1) s 0 w.heap.size w1 (by omega) (by omega) hb1)
  rotate_left 1
  · rintro ch w2 ⟨rfl, hC, hno⟩
    ((repeat' (refine thenQ_panic ?_)); (refine px_panic ?_))
    exact ⟨rfl, Ext.of_one hE1 hC, fun ⟨t, h1, h2⟩ => hno ⟨t, [], by simpa using h1, by omega⟩⟩
  rintro v w2 ⟨t, s', rfl, hsz, rfl, hb2, hC⟩
  have hE2 := Ext.of_one hE1 hC
  have h20 : rd w2 (some ⟨w.heap.size, 0, none⟩) = some (str s') := hb2.rd (k := 0) rfl
  repeat' (first|(refine wlP_plain ?_; (first|refine zA ?_|refine zB ?_|refine zP ?_))|refine wlP_nil ?_|refine wc_regionP ?_|refine zc ?_|refine ze ?_)
  refine wlP_plain ?_
  refine r_faE (o' := 0) fo118_0 rfl rfl ?_
  repeat' ((refine wlP_plain ?_; (refine zM ?_)))
  refine wlP_plain ?_
  refine r_seql (a := s') (b := []) rfl rfl ?_
  (refine wlP_may ?_; refine p_call (R := ?_) (Y := ?_) rfl ?_ ?_ ?_; rotate_left 2; focus exact demand_any (decide (s' = [])) 4 w2)
  rotate_left 1
  · rintro ch w' ⟨hs, rfl, rfl⟩
    ((repeat' (refine thenQ_panic ?_)); (refine px_panic ?_))
    refine ⟨rfl, hE2, ?_⟩
    rintro ⟨t', e, _⟩
    simp only [decide_eq_false_iff_not] at hs
    exact hs (text_pre t t' s' [] (by simpa using e)).2
  rintro v w' ⟨hs, rfl, hw⟩
  subst w'
  simp only [decide_eq_true_eq] at hs
  subst hs
  repeat' (first|(refine wlP_plain ?_; (first|refine zA ?_|refine zB ?_))|refine wlP_nil ?_|refine wc_regionP ?_|refine zc ?_|refine ze ?_|refine zn ?_)
  refine px_ret (post1 (v := tv t) rfl rfl ?_)
  exact ⟨t, by simp, by omega, rfl, hE2⟩
theorem RetX.ret {f : FuncId} {args : Array Value} {w : World} {R R' : Value → World → Prop} {X : List PanicEntry → World → Prop} (h : Calls Tryz.prog f args w (RetX R X)) (hR : ∀ v w', R v w' → R' v w') (hX : ∀ ch w', X ch w' → False) : Calls Tryz.prog f args w (Ret R') :=
  Calls.mono h fun e w' h => by
    rcases h with ⟨v, he, hv⟩ | ⟨ch, he, hx⟩
    · exact ⟨v, he, hR v w' hv⟩
    · exact (hX ch w' hx).elim
theorem read_ok (t : T) (w : World) (h : t.size ≤ 10) : Calls Tryz.prog 88 #[str t.text] w (Ret fun v w' => v = tv t ∧ Ext w w') :=
  RetX.ret (read_any t.text w) (fun v w' ⟨t', e, _, hv, hE⟩ => ⟨by rw [hv, text_inj e], hE⟩) fun ch w' ⟨_, _, hn⟩ => hn ⟨t, rfl, h⟩
end Go.Proofs.YtocgehoffdjijaaGreat

/- posts: Split. -/
import Derived.Test.YtdpckinhoooigaaPSplit
import Derived.Test.YtdpckinhoooigaaI
import Derived.Test.YtdpckinhoooigaaL
namespace Go.Proofs.Ytdpckinhoooigaa
open Gv PM MM
/-- Owned layers, each with an owned list below hi; all new, no two lists in one block. -/
def OwnZ (w : World) (base hi : Nat) (e : TypeId) (v : Value) (L : List (Int × List Int)) : Prop :=
  ∃ xs, w.ownsRow base e 2 v L.length xs ∧ LayC w L xs ∧ (∀ (i : Nat) (u : Value) (g : Nat), i < L.length → xs[i * 2 + 1]? = some u → u.ownBlock = some g → g < hi ∧ v.ownBlock ≠ some g ∧ base ≤ g) ∧
    (∀ (i : Nat) (u : Value), i < L.length → xs[i * 2 + 1]? = some u → OwnI w base 3 u (L.getD i (0, [])).2) ∧
    ∀ (i j : Nat) (u u' : Value) (g : Nat), i < L.length → j < L.length → xs[i * 2 + 1]? = some u → xs[j * 2 + 1]? = some u' → u.ownBlock = some g → u'.ownBlock = some g → i = j
section
variable {w w' : World} {base base' hi hi' : Nat} {e : TypeId} {v : Value} {L : List (Int × List Int)}
theorem OwnZ.nil (w : World) (base hi : Nat) (e : TypeId) : OwnZ w base hi e (.slice none 0 0) [] := ⟨[], World.ownsRow_nil w base e 2, ⟨rfl, fun i hi => by simp at hi⟩, (fun i u g hi => by simp at hi), (fun i u hi => by simp at hi), fun i j u u' g hi => by simp at hi⟩
theorem OwnZ.lays (h : OwnZ w base hi e v L) : Lays w v L := by
  obtain ⟨xs, h1, h2, _⟩ := h; exact ⟨xs, ownsRow_sl h1, h2⟩
theorem OwnZ.lt (h : OwnZ w base hi e v L) : ∀ g, v.ownBlock = some g → base ≤ g ∧ g < w.heap.size := by
  obtain ⟨xs, h1, _⟩ := h; exact World.ownsRow.lt h1
theorem OwnZ.raise (h : OwnZ w base hi e v L) (hh : hi ≤ hi') : OwnZ w base hi' e v L := by
  obtain ⟨xs, h1, h2, h3, h4, h5⟩ := h
  exact ⟨xs, h1, h2, fun i u g hi hu hg => ⟨Nat.lt_of_lt_of_le (h3 i u g hi hu hg).1 hh, (h3 i u g hi hu hg).2⟩, h4, h5⟩
theorem OwnZ.lower (h : OwnZ w base hi e v L) (hh : base' ≤ base) : OwnZ w base' hi e v L := by
  obtain ⟨xs, h1, h2, h3, h4, h5⟩ := h
  exact ⟨xs, ownsRow_mono h1 hh, h2, fun i u g hi hu hg => ⟨(h3 i u g hi hu hg).1, (h3 i u g hi hu hg).2.1, Nat.le_trans hh (h3 i u g hi hu hg).2.2⟩, fun i u hi hu => ownsRow_mono (h4 i u hi hu) hh, h5⟩
theorem OwnZ.keep {S : Nat → Prop} (h : OwnZ w base hi e v L) (hc : Ch S w w') (hs : ∀ k, base ≤ k → ¬ S k) : OwnZ w' base hi e v L := by
  obtain ⟨xs, h1, h2, h3, h4, h5⟩ := h
  refine ⟨xs, ownsRow_keep h1 hc fun g hg => hs g (World.ownsRow.lt h1 g hg).1, ⟨h2.1, fun i hi => ?_⟩, h3, fun i u hi hu => ownsRow_keep (h4 i u hi hu) hc fun g hg => hs g (h3 i u g hi hu hg).2.2, h5⟩
  obtain ⟨a, u, b, c⟩ := h2.2 i hi
  exact ⟨a, u, b, c.keep hc fun g hg => hs g (h3 i u g hi b hg).2.2⟩
theorem OwnZ.ext (h : OwnZ w base hi e v L) (hc : Ext w w') : OwnZ w' base hi e v L := h.keep hc fun _ _ e => e
end
section
variable {P : Program} {K : Env → World → Prop} {ρ : Env} {w : World} {d : Nat} {ty : TypeId} {pos : String} {aft : Array Edge} {gd : Option (Nat × Bool)}
variable {x y : Operand} {t e : TypeId} {v s u : Value} {by_ base hi : Nat} {L : List (Int × List Int)} {a : Int} {l : List Int}
theorem r_appendZ {z1 z2 : Value} (hi_ : elemI P t = some (e, .agg #[z1, z2], 2, by_)) (hby : 0 < by_ ∧ by_ ≤ 1024) (hown : OwnZ w base hi e v L) (hs : Sl w 2 s 1 [.int .i64 a, u]) (hu : OwnI w base 3 u l) (hub : ∀ g, u.ownBlock = some g → hi ≤ g ∧ v.ownBlock ≠ some g)
    (hx : ev ρ x = v) (hy : ev ρ y = s) (hb : L.length + 1 ≤ 137438953472) (hbase : base ≤ w.heap.size) (hhi : hi ≤ w.heap.size)
    (h : ∀ v' w', OwnZ w' base w.heap.size e v' (L ++ [(a, l)]) → Ch (fun k => v.ownBlock = some k) w w' → (∀ g, v'.ownBlock = some g → v.ownBlock = some g ∨ w.heap.size ≤ g) → K (up ρ d v') w') :
    w1 P false ⟨some d, .call ⟨.builtin .append, #[x, y], #[t, t]⟩, ty, pos, aft, gd⟩ K ρ w := by
  obtain ⟨xs, h1, h2, h3, h5, h6⟩ := hown
  have hone : u.oneCell' = true := by obtain ⟨q, m, rfl, _⟩ := hu.ints.slice; rfl
  refine r_append hi_ rfl (by decide) hby.1 h1 hs hx hy (by intro q hq; simp at hq; rcases hq with rfl | rfl <;> first | rfl | exact hone) ?_ hbase ?_
  · have := Nat.mul_le_mul hb hby.2; omega
  intro v' w' g1 g2 g3 g4
  have hC : Ch (fun k => v.ownBlock = some k) w w' := Ch.grown g2 fun k hk => hk
  have key : ∀ (i : Nat) (q : Value), (xs ++ [.int .i64 a, u])[i * 2 + 1]? = some q → (i < L.length ∧ xs[i * 2 + 1]? = some q) ∨ (i = L.length ∧ q = u) := fun i q hq => by
    have hl := h2.1
    by_cases hi : i < L.length
    · rw [List.getElem?_append_left (by omega)] at hq; exact .inl ⟨hi, hq⟩
    · rw [List.getElem?_append_right (by omega)] at hq
      have : i = L.length := by
        have := (List.getElem?_eq_some_iff.1 hq).1
        simp at this; omega
      subst this
      rw [hl, show L.length * 2 + 1 - L.length * 2 = 1 by omega] at hq
      simp at hq; exact .inr ⟨rfl, hq.symm⟩
  refine h v' w' ⟨xs ++ [.int .i64 a, u], by rw [List.length_append]; exact g1, ⟨by simp [h2.1]; omega, fun i hi => ?_⟩, fun i q g hi hq hg => ?_, fun i q hi hq => ?_, fun i j q q' g hi hj hq hq' hg hg' => ?_⟩ hC g4
  · simp only [List.length_append, List.length_singleton] at hi
    by_cases hiL : i < L.length
    · obtain ⟨a1, q, a2, a3⟩ := h2.2 i hiL
      have hl := h2.1
      rw [getD_snocL hiL, List.getElem?_append_left (by omega), List.getElem?_append_left (by omega)]
      exact ⟨a1, q, a2, a3.keep hC fun g hg e => (h3 i q g hiL a2 hg).2.1 e⟩
    · have hie : i = L.length := by omega
      subst hie
      have hl := h2.1
      rw [getD_snocE, List.getElem?_append_right (by omega), List.getElem?_append_right (by omega), hl, show L.length * 2 + 0 - L.length * 2 = 0 by omega, show L.length * 2 + 1 - L.length * 2 = 1 by omega]
      exact ⟨rfl, u, rfl, hu.ints.keep hC fun g hg e => (hub g hg).2 e⟩
  · have hgw : g < w.heap.size ∧ v.ownBlock ≠ some g ∧ base ≤ g := by
      rcases key i q hq with ⟨hiL, hq'⟩ | ⟨_, rfl⟩
      · have := h3 i q g hiL hq' hg
        exact ⟨by omega, this.2⟩
      · exact ⟨(World.ownsRow.lt hu g hg).2, (hub g hg).2, (World.ownsRow.lt hu g hg).1⟩
    refine ⟨hgw.1, fun e => ?_, hgw.2.2⟩
    rcases g4 g e with e1 | e1
    · exact hgw.2.1 e1
    · omega
  · rcases key i q hq with ⟨hiL, hq'⟩ | ⟨rfl, rfl⟩
    · rw [getD_snocL hiL]; exact ownsRow_keep (h5 i q hiL hq') hC fun g hg e => (h3 i q g hiL hq' hg).2.1 e
    · rw [getD_snocE]; exact ownsRow_keep hu hC fun g hg e => (hub g hg).2 e
  · rcases key i q hq with ⟨hiL, hq1⟩ | ⟨rfl, rfl⟩
    · rcases key j q' hq' with ⟨hjL, hq2⟩ | ⟨rfl, rfl⟩
      · exact h6 i j q q' g hiL hjL hq1 hq2 hg hg'
      · have h7 := (h3 i q g hiL hq1 hg).1
        have h8 := (hub g hg').1
        omega
    · rcases key j q' hq' with ⟨hjL, hq2⟩ | ⟨rfl, rfl⟩
      · have h7 := (h3 j q' g hjL hq2 hg').1
        have h8 := (hub g hg).1
        omega
      · rfl
end
/-- What Split has found so far. -/
structure Part (T M : List (List Int)) (lv : Int) (L : List (Int × List Int)) : Prop where
  tab : IsTab M
  len : M.length = T.length
  lev : LevAt M lv
  nn : 0 ≤ lv
  zero : T.length = 0 → lv = 0
  left : ∀ r c, r < T.length → c < T.length → ent M r c = ent T r c - lsum L r c L.length
  lay : ∀ i, i < L.length → 1 ≤ (L.getD i (0, [])).1 ∧ Cols T.length (L.getD i (0, [])).2 ∧ ∀ r, r < T.length → (L.getD i (0, [])).1 ≤ ent T r ((L.getD i (0, [])).2.getD r 0).toNat - lsum L r ((L.getD i (0, [])).2.getD r 0) i
  tri : ∀ k, k < L.length → ∃ r, r < T.length ∧ ent M r ((L.getD k (0, [])).2.getD r 0).toNat = 0 ∧ ∀ j, k < j → j < L.length → (L.getD j (0, [])).2.getD r 0 ≠ (L.getD k (0, [])).2.getD r 0
theorem Part.bound {T M : List (List Int)} {lv : Int} {L : List (Int × List Int)} (h : Part T M lv L) (hn : 0 < T.length) : L.length ≤ (T.length - 1) * (T.length - 1) + 1 := by
  have hc := fun k hk r (hr : r < T.length) => (h.lay k hk).2.1.2 r (by rw [(h.lay k hk).2.1.1]; exact hr)
  refine tri_bound (p := fun k r => ((L.getD k (0, [])).2.getD r 0).toNat) hn (fun k hk r hr => ?_) (fun k hk r r' hlt hr' => ?_) (fun k hk => ?_)
  · obtain ⟨a, b, _⟩ := hc k hk r hr
    show ((L.getD k (0, [])).2.getD r 0).toNat < T.length
    omega
  · obtain ⟨a, b, c⟩ := hc k hk r' hr'
    obtain ⟨a', b', _⟩ := hc k hk r (by omega)
    have := c r hlt
    show ((L.getD k (0, [])).2.getD r 0).toNat ≠ ((L.getD k (0, [])).2.getD r' 0).toNat
    omega
  · obtain ⟨r, hr, _, hj⟩ := h.tri k hk
    refine ⟨r, hr, fun j hkj hjL => ?_⟩
    obtain ⟨a, b, _⟩ := hc k hk r hr
    obtain ⟨a', b', _⟩ := hc j hjL r hr
    have := hj j hkj hjL
    show ((L.getD j (0, [])).2.getD r 0).toNat ≠ ((L.getD k (0, [])).2.getD r 0).toNat
    omega
theorem Part.bound100 {T M : List (List Int)} {lv : Int} {L : List (Int × List Int)} (h : Part T M lv L) (hT : IsTab T) (hn : 0 < T.length) : L.length ≤ 82 := by
  have h1 := h.bound hn
  have h2 := hT.1
  have : (T.length - 1) * (T.length - 1) ≤ 9 * 9 := Nat.mul_le_mul (by omega) (by omega)
  omega
/-- One layer more. -/
theorem Part.next {T M M' : List (List Int)} {lv a : Int} {L : List (Int × List Int)} {C : List Int} (h : Part T M lv L) (hn : 0 < T.length) (hC : Cols T.length C) (ha : 1 ≤ a) (hle : ∀ r, r < T.length → a ≤ ent M r (C.getD r 0).toNat)
    (heq : ∃ r, r < T.length ∧ a = ent M r (C.getD r 0).toNat) (hM' : M'.length = T.length) (hrow : ∀ r, r < T.length → (M'.getD r []).length = T.length) (he : ∀ r c, r < T.length → c < T.length → ent M' r c = ent M r c - if C.getD r 0 = (c : Int) then a else 0) : Part T M' (lv - a) (L ++ [(a, C)]) := by
  have hc := fun r (hr : r < T.length) => hC.2 r (by rw [hC.1]; exact hr)
  have hCn : ∀ r, r < T.length → ((C.getD r 0).toNat : Int) = C.getD r 0 := fun r hr => by have := (hc r hr).1; omega
  have hp1 : ∀ r, r < M.length → (C.getD r 0).toNat < M.length := fun r hr => by rw [h.len] at *; obtain ⟨x, y, _⟩ := hc r hr; omega
  have hp2 : ∀ r r', r < r' → r' < M.length → (C.getD r 0).toNat ≠ (C.getD r' 0).toNat := fun r r' hlt hr' => by
    rw [h.len] at hr'
    obtain ⟨_, _, x⟩ := hc r' hr'
    obtain ⟨y, _⟩ := hc r (by omega)
    obtain ⟨z, _⟩ := hc r' hr'
    have := x r hlt
    omega
  have heM : ∀ r c, r < M.length → c < M.length → ent M' r c = ent M r c - if (C.getD r 0).toNat = c then a else 0 := fun r c hr hcc => by
    rw [h.len] at hr hcc
    rw [he r c hr hcc]
    have := hCn r hr
    have e : (C.getD r 0 = (c : Int)) ↔ ((C.getD r 0).toNat = c) := by omega
    simp only [e]
  have hM'T : IsTab M' := by
    refine isTab_rows.2 ⟨by rw [hM', ← h.len]; exact h.tab.1, fun r hr => ⟨by rw [hrow r (by omega), hM'], fun c hcc => ?_⟩⟩
    rw [hM'] at hr hcc
    have h1 := ent_ok h.tab (i := r) (c := c) (by rw [h.len]; exact hr) (by rw [h.len]; exact hcc)
    rw [he r c hr hcc]
    split
    · rename_i e
      have := hle r hr
      rw [show (C.getD r 0).toNat = c by omega] at this
      omega
    · omega
  refine ⟨hM'T, hM', lev_sub h.lev (by rw [hM', h.len]) hp1 hp2 heM, ?_, fun h0 => by omega, fun r c hr hcc => ?_, fun i hi => ?_, fun k hk => ?_⟩
  · have h1 := hle 0 hn
    obtain ⟨x, y, _⟩ := hc 0 hn
    have h2 := ent_le_rsum h.tab (r := 0) (c := (C.getD 0 0).toNat) (by rw [h.len]; exact hn) (by rw [h.len]; omega)
    have h3 := (h.lev 0 (by rw [h.len]; exact hn)).1
    omega
  · rw [he r c hr hcc, h.left r c hr hcc, lsum_snocE]; dsimp only; omega
  · simp only [List.length_append, List.length_singleton] at hi
    by_cases hiL : i < L.length
    · rw [getD_snocL hiL]
      obtain ⟨x, y, z⟩ := h.lay i hiL
      exact ⟨x, y, fun r hr => by rw [lsum_snoc (by omega)]; exact z r hr⟩
    · have : i = L.length := by omega
      subst this
      rw [getD_snocE]
      dsimp only
      refine ⟨ha, hC, fun r hr => ?_⟩
      rw [lsum_snoc (Nat.le_refl _)]
      have h1 := hle r hr
      obtain ⟨x, y, _⟩ := hc r hr
      rw [h.left r _ hr (by omega), hCn r hr] at h1
      exact h1
  · simp only [List.length_append, List.length_singleton] at hk
    by_cases hkL : k < L.length
    · obtain ⟨r, hr, hz, hj⟩ := h.tri k hkL
      have hck := (h.lay k hkL).2.1.2 r (by rw [(h.lay k hkL).2.1.1]; exact hr)
      rw [getD_snocL hkL]
      have hnew : C.getD r 0 ≠ (L.getD k (0, [])).2.getD r 0 := fun e => by
        have := hle r hr
        rw [e] at this
        omega
      refine ⟨r, hr, ?_, fun j hkj hjL => ?_⟩
      · have h1 : ((L.getD k (0, [])).2.getD r 0).toNat < T.length := by obtain ⟨x, y, _⟩ := hck; omega
        rw [he r _ hr h1, hz, if_neg]
        · rfl
        · intro e
          have : (((L.getD k (0, [])).2.getD r 0).toNat : Int) = (L.getD k (0, [])).2.getD r 0 := by have := hck.1; omega
          exact hnew (e.trans this)
      · simp only [List.length_append, List.length_singleton] at hjL
        by_cases hjj : j < L.length
        · rw [getD_snocL hjj]; exact hj j hkj hjj
        · have : j = L.length := by omega
          subst this
          rw [getD_snocE]; exact hnew
    · have : k = L.length := by omega
      subst this
      rw [getD_snocE]
      dsimp only
      obtain ⟨r, hr, hz⟩ := heq
      obtain ⟨x, y, _⟩ := hc r hr
      refine ⟨r, hr, ?_, fun j hkj hjL => ?_⟩
      · rw [he r _ hr (by omega), if_pos (by rw [hCn r hr]), ← hz]; omega
      · simp only [List.length_append, List.length_singleton] at hjL
        omega
theorem Part.done {T M : List (List Int)} {L : List (Int × List Int)} (h : Part T M 0 L) (hT : IsTab T) : RefLay T L ∧ L.length ≤ 82 ∧ L.length ≤ (T.length - 1) * (T.length - 1) + 1 := by
  have hb : L.length ≤ 82 ∧ L.length ≤ (T.length - 1) * (T.length - 1) + 1 := by
    by_cases hn : 0 < T.length
    · exact ⟨h.bound100 hT hn, h.bound hn⟩
    · suffices L.length = 0 by omega
      apply Nat.eq_zero_of_not_pos
      intro hlt
      obtain ⟨r, hr, _⟩ := h.tri 0 hlt
      omega
  refine ⟨⟨by omega, h.lay, fun r hr c hc => ?_⟩, hb⟩
  have h1 := h.left r c hr hc
  have h2 := lev_zero h.tab h.lev (r := r) (c := c) (by rw [h.len]; exact hr) (by rw [h.len]; exact hc)
  omega
end Go.Proofs.Ytdpckinhoooigaa

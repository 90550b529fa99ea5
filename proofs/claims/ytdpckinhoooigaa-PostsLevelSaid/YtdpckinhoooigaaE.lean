/- posts: the search for a column (matching.enter and its closure). -/
import Derived.Test.YtdpckinhoooigaaD
import Derived.Test.YtdpckinhoooigaaMMath
namespace Go.Proofs.Ytdpckinhoooigaa
open Gv PM MM
theorem mp81 : mapT Try.prog 81 = some (3, 4, .bool false) := by kernel_rfl
def Rf (L : List Int) : Nat → Int := fun c => L.getD c 0
theorem Rf_set {L : List Int} {c : Nat} {a : Int} (h : c < L.length) : Rf (L.set c a) = upd (Rf L) c a := by
  funext j; simp only [Rf, upd, getD_set h]
/-- The matching behind its pointer (block bm). -/
structure MS (w0 w : World) (T : List (List Int)) (tv rv cv : Value) (bm gr gc : Nat) (rows cols : List Int) : Prop where
  blk : Blk w bm 80 [tv, rv, cv]
  orows : OwnI w w0.heap.size 3 rv rows
  ocols : OwnI w w0.heap.size 3 cv cols
  hrb : rv.ownBlock = some gr
  hcb : cv.ownBlock = some gc
  ne : gr ≠ gc ∧ gr ≠ bm ∧ gc ≠ bm
  lr : rows.length = T.length
  lc : cols.length = T.length
  lo : w0.heap.size ≤ bm
  ext : Ext w0 w
theorem MS.keep {w0 w w' : World} {T : List (List Int)} {tv rv cv : Value} {bm gr gc : Nat} {rows cols : List Int} {S : Nat → Prop} (h : MS w0 w T tv rv cv bm gr gc rows cols) (hc : Ch S w w')
    (h1 : ¬ S bm) (h2 : ¬ S gr) (h3 : ¬ S gc) (h4 : ∀ k, k < w0.heap.size → ¬ S k) : MS w0 w' T tv rv cv bm gr gc rows cols :=
  ⟨h.blk.keep hc h1, ownsRow_keep h.orows hc (fun g hg => by rw [h.hrb] at hg; cases hg; exact h2), ownsRow_keep h.ocols hc (fun g hg => by rw [h.hcb] at hg; cases hg; exact h3), h.hrb, h.hcb, h.ne, h.lr, h.lc, h.lo,
    Ch.trans' h.ext hc fun k hk e => h4 k hk e⟩
theorem MS.grlo {w0 w : World} {T : List (List Int)} {tv rv cv : Value} {bm gr gc : Nat} {rows cols : List Int} (h : MS w0 w T tv rv cv bm gr gc rows cols) : w0.heap.size ≤ gr ∧ w0.heap.size ≤ gc ∧ gr < w.heap.size ∧ gc < w.heap.size :=
  ⟨(World.ownsRow.lt h.orows gr h.hrb).1, (World.ownsRow.lt h.ocols gc h.hcb).1, (World.ownsRow.lt h.orows gr h.hrb).2, (World.ownsRow.lt h.ocols gc h.hcb).2⟩
/-- The search's captured variables. -/
structure CE (w0 w : World) (bm br b2 b5 b6 gr gc : Nat) : Prop where
  x2 : Box w b2 76 (.pointer (some ⟨bm, 0, none⟩))
  x5 : Box w b5 81 (.map (some br))
  x6 : Box w b6 91 (.func (.func 70) #[] #[.pointer (some ⟨b5, 0, none⟩), .pointer (some ⟨b2, 0, none⟩), .pointer (some ⟨b6, 0, none⟩)])
  ne : b2 ≠ br ∧ b5 ≠ br ∧ b6 ≠ br ∧ b2 ≠ gr ∧ b5 ≠ gr ∧ b6 ≠ gr ∧ b2 ≠ gc ∧ b5 ≠ gc ∧ b6 ≠ gc ∧ bm ≠ br ∧ gr ≠ br ∧ gc ≠ br ∧ w0.heap.size ≤ br
theorem CE.keep {w0 w w' : World} {bm br b2 b5 b6 gr gc : Nat} {S : Nat → Prop} (h : CE w0 w bm br b2 b5 b6 gr gc) (hc : Ch S w w') (h1 : ¬ S b2) (h2 : ¬ S b5) (h3 : ¬ S b6) : CE w0 w' bm br b2 b5 b6 gr gc :=
  ⟨h.x2.keep hc h1, h.x5.keep hc h2, h.x6.keep hc h3, h.ne⟩
/-- The rows that were reached, as the map has them. -/
def RM (F : Int → Option Value) (rc : Nat → Prop) (n : Nat) : Prop :=
  (∀ q : Nat, F (q : Int) = some (.bool true) ↔ rc q) ∧ ∀ k v, F k = some v → v = .bool true ∧ ∃ q : Nat, k = q ∧ q < n
theorem RM.none {F : Int → Option Value} {rc : Nat → Prop} {n : Nat} (h : RM F rc n) {q : Nat} (hq : ¬ rc q) : F (q : Int) = .none := by
  cases hF : F (q : Int) with
  | none => rfl
  | some v => have := (h.2 _ _ hF).1; subst this; exact absurd ((h.1 q).1 hF) hq
theorem RM.put {F : Int → Option Value} {rc : Nat → Prop} {n r : Nat} (h : RM F rc n) (hr : r < n) : RM (fun k => if k = (r : Int) then some (.bool true) else F k) (fun q => q = r ∨ rc q) n := by
  refine ⟨fun q => ?_, fun k v hv => ?_⟩
  · by_cases e : q = r
    · subst e; simp
    · have e' : ¬ (q : Int) = (r : Int) := by omega
      simp only [if_neg e', e, false_or]; exact h.1 q
  · by_cases e : k = (r : Int)
    · simp only [if_pos e, Option.some.injEq] at hv; exact ⟨hv.symm, r, e, hr⟩
    · simp only [if_neg e] at hv; exact h.2 k v hv
def ST (br gr gc : Nat) : Nat → Prop := fun k => k = br ∨ k = gr ∨ k = gc
/-- What the last statement of a search reads. -/
structure SF (b2 bm : Nat) (rv cv : Value) (w : World) : Prop where
  s1 : rd w (some ⟨b2, 0, none⟩) = some (.pointer (some ⟨bm, 0, none⟩))
  s2 : rd w (some ⟨bm, 0 + 1, none⟩) = some rv
  s3 : rd w (some ⟨bm, 0 + 2, none⟩) = some cv
/-- What a search leaves. -/
def Found (w0 w w' : World) (T : List (List Int)) (tv rv cv : Value) (bm br gr gc : Nat) (rows cols : List Int) (r : Nat) (rc : Nat → Prop) (ok : Bool) : Prop :=
  ∃ rows' cols' rc' F', MS w0 w' T tv rv cv bm gr gc rows' cols' ∧ MapF encI w' br F' ∧ RM F' rc' T.length ∧ Ch (ST br gr gc) w w' ∧ w'.heap.size = w.heap.size ∧
    (∀ q, rc q → rc' q) ∧ rc' r ∧
    (ok = false → rows' = rows ∧ cols' = cols ∧ ∀ q, rc' q → ¬ rc q → q < T.length ∧ ∀ c, c < T.length → ent T q c ≠ 0 → ∃ o : Nat, Rf rows c = o ∧ rc' o) ∧
    (ok = true → Succ T.length (ent T) (Rf rows) (Rf cols) r rc (Rf rows') (Rf cols'))
set_option maxHeartbeats 2000000 in
theorem find_any (T : List (List Int)) (hT : IsTab T) (w0 : World) (tv rv cv : Value) (hTab : Tab w0 tv T) (bm br b2 b5 b6 gr gc : Nat) : ∀ (fuel : Nat) (w : World) (r : Nat) (rows cols : List Int) (rc : Nat → Prop) (F : Int → Option Value) (l : List Nat),
    MS w0 w T tv rv cv bm gr gc rows cols → CE w0 w bm br b2 b5 b6 gr gc → MapF encI w br F → RM F rc T.length → Inv T.length (ent T) (Rf rows) (Rf cols) → r < T.length → ¬ rc r →
    l.length ≤ fuel → (∀ q, q < T.length → ¬ rc q → q ∈ l) →
    Calls Try.prog 70 #[.int .i64 r, .pointer (some ⟨b5, 0, none⟩), .pointer (some ⟨b2, 0, none⟩), .pointer (some ⟨b6, 0, none⟩)] w (Ret fun v w' => ∃ ok, v = .bool ok ∧ Found w0 w w' T tv rv cv bm br gr gc rows cols r rc ok) := by
  have hn := hT.1
  have hrow : ∀ i, i < T.length → (T.getD i []).length = T.length := fun i hi => (hT.2 _ (getD_mem hi)).1
  intro fuel
  induction fuel with
  | zero =>
    intro w r rows cols rc F l hM hC hF hR hI hr hrc hl hcov
    have := hcov r hr hrc
    cases l with
    | nil => cases this
    | cons a l => simp at hl
  | succ fuel ih =>
    intro w r rows cols rc F l hM hC hF hR hI hr hrc hl hcov
    refine calls_of_wc (args := [.int .i64 r, .pointer (some ⟨b5, 0, none⟩), .pointer (some ⟨b2, 0, none⟩), .pointer (some ⟨b6, 0, none⟩)]) Try.func70 rfl ?_ ?_; kernel_rfl
    obtain ⟨qt, ct, rfl, hqt⟩ := hTab.slice
    obtain ⟨n1, n2, n3, n4, n5, n6, n7, n8, n9, n10, n11, n12, n13⟩ := hC.ne
    have g5 := hC.x5.rd
    repeat' (first | refine wl_plain ?_ | refine r_move_v (v := .int _ _) rfl ?_ | refine r_move_v (v := .slice _ _ _) rfl ?_ | refine r_move_v (v := .bool _) rfl ?_ | refine r_move_v (v := .pointer _) rfl ?_ | refine r_move_v (v := .map _) rfl ?_ | refine r_move ?_ | refine r_assign_v (v := .int _ _) rfl ?_ | refine r_assign_v (v := .slice _ _ _) rfl ?_ | refine r_assign_v (v := .bool _) rfl ?_ | refine r_assign_v (v := .pointer _) rfl ?_ | refine r_assign_v (v := .map _) rfl ?_ | refine r_assign ?_ | refine wl_nil ?_ | refine wc_seq ?_ | refine thenQ_normal ?_ | refine wc_region ?_ | refine r_lss rfl rfl ?_ | refine r_eql rfl rfl ?_ | refine r_neq rfl rfl ?_ | refine r_leq rfl rfl ?_ | refine r_gtr rfl rfl ?_ | refine r_geq rfl rfl ?_ | refine r_add_in rfl rfl (by omega) ?_ | refine r_sub_in rfl rfl (by omega) ?_ | refine r_len rfl rfl ?_ | (refine r_idx (sz := 1) rfl rfl rfl (by first | rfl | assumption) (by omega) (by omega) ?_) | (refine r_idx (sz := 2) rfl rfl rfl (by first | rfl | assumption) (by omega) (by omega) ?_) | (refine r_ld rfl rfl (by assumption) ?_) | refine r_not_d rfl ?_ | refine r_not rfl ?_ | refine r_nilCheck rfl ?_ | refine r_pick_t rfl ?_ | refine r_pick_f rfl ?_ | refine r_ext rfl rfl ?_ | refine wl_run rfl rfl ?_ | refine wl_pass rfl rfl rfl ?_ | refine wl_dead rfl rfl ?_ | refine wl_if_t rfl rfl (fun hcd => ?_) (fun hcd => ?_) | refine wl_if_f rfl rfl (fun hcd => ?_) (fun hcd => ?_) | refine wc_cond_t rfl ?_ | refine wc_cond_f rfl ?_ | refine wc_cond_d rfl (fun hcd => ?_) (fun hcd => ?_) | refine wc_skip ?_ | refine wc_block ?_ | refine wc_exit ?_ | refine wc_ret ?_ | refine thenQ_ret ?_ | refine thenQ_exit ?_ | refine inBl_here ?_ | refine inBl_out rfl ?_ | refine inBl_normal ?_ | refine inBl_ret ?_)
    refine r_mapUpdate (k := (r : Int)) (v := .bool true) mp81 ki3 hF rfl rfl rfl fun w1 hF1 hC1 hs1 => ?_
    have hM1 := hM.keep hC1 (by omega) (by omega) (by omega) (fun k hk => by omega)
    have hCE1 := hC.keep hC1 n1 n2 n3
    have g2 := hCE1.x2.rd
    have gt := hM1.blk.rd (k := 0) (v := .slice qt T.length ct) rfl
    obtain ⟨q2, m2, hrd0, hL0⟩ := hTab.rd hr
    have hrd := rd_ext hrd0 hM1.ext
    have hps := hTab.isSome (by omega)
    have hlen := hrow r hr
    repeat' (first | refine wl_plain ?_ | refine r_move_v (v := .int _ _) rfl ?_ | refine r_move_v (v := .slice _ _ _) rfl ?_ | refine r_move_v (v := .bool _) rfl ?_ | refine r_move_v (v := .pointer _) rfl ?_ | refine r_move_v (v := .map _) rfl ?_ | refine r_move ?_ | refine r_assign_v (v := .int _ _) rfl ?_ | refine r_assign_v (v := .slice _ _ _) rfl ?_ | refine r_assign_v (v := .bool _) rfl ?_ | refine r_assign_v (v := .pointer _) rfl ?_ | refine r_assign_v (v := .map _) rfl ?_ | refine r_assign ?_ | refine wl_nil ?_ | refine wc_seq ?_ | refine thenQ_normal ?_ | refine wc_region ?_ | refine r_lss rfl rfl ?_ | refine r_eql rfl rfl ?_ | refine r_neq rfl rfl ?_ | refine r_leq rfl rfl ?_ | refine r_gtr rfl rfl ?_ | refine r_geq rfl rfl ?_ | refine r_add_in rfl rfl (by omega) ?_ | refine r_sub_in rfl rfl (by omega) ?_ | refine r_len rfl rfl ?_ | (refine r_idx (sz := 1) rfl rfl rfl (by first | rfl | assumption) (by omega) (by omega) ?_) | (refine r_idx (sz := 2) rfl rfl rfl (by first | rfl | assumption) (by omega) (by omega) ?_) | (refine r_ld rfl rfl (by assumption) ?_) | refine r_not_d rfl ?_ | refine r_not rfl ?_ | refine r_nilCheck rfl ?_ | refine r_pick_t rfl ?_ | refine r_pick_f rfl ?_ | refine r_ext rfl rfl ?_ | refine wl_run rfl rfl ?_ | refine wl_pass rfl rfl rfl ?_ | refine wl_dead rfl rfl ?_ | refine wl_if_t rfl rfl (fun hcd => ?_) (fun hcd => ?_) | refine wl_if_f rfl rfl (fun hcd => ?_) (fun hcd => ?_) | refine wc_cond_t rfl ?_ | refine wc_cond_f rfl ?_ | refine wc_cond_d rfl (fun hcd => ?_) (fun hcd => ?_) | refine wc_skip ?_ | refine wc_block ?_ | refine wc_exit ?_ | refine wc_ret ?_ | refine thenQ_ret ?_ | refine thenQ_exit ?_ | refine inBl_here ?_ | refine inBl_out rfl ?_ | refine inBl_normal ?_ | refine inBl_ret ?_)
    refine r_fa (off := 0) rfl rfl ?_
    repeat' (first | refine wl_plain ?_ | refine r_move_v (v := .int _ _) rfl ?_ | refine r_move_v (v := .slice _ _ _) rfl ?_ | refine r_move_v (v := .bool _) rfl ?_ | refine r_move_v (v := .pointer _) rfl ?_ | refine r_move_v (v := .map _) rfl ?_ | refine r_move ?_ | refine r_assign_v (v := .int _ _) rfl ?_ | refine r_assign_v (v := .slice _ _ _) rfl ?_ | refine r_assign_v (v := .bool _) rfl ?_ | refine r_assign_v (v := .pointer _) rfl ?_ | refine r_assign_v (v := .map _) rfl ?_ | refine r_assign ?_ | refine wl_nil ?_ | refine wc_seq ?_ | refine thenQ_normal ?_ | refine wc_region ?_ | refine r_lss rfl rfl ?_ | refine r_eql rfl rfl ?_ | refine r_neq rfl rfl ?_ | refine r_leq rfl rfl ?_ | refine r_gtr rfl rfl ?_ | refine r_geq rfl rfl ?_ | refine r_add_in rfl rfl (by omega) ?_ | refine r_sub_in rfl rfl (by omega) ?_ | refine r_len rfl rfl ?_ | (refine r_idx (sz := 1) rfl rfl rfl (by first | rfl | assumption) (by omega) (by omega) ?_) | (refine r_idx (sz := 2) rfl rfl rfl (by first | rfl | assumption) (by omega) (by omega) ?_) | (refine r_ld rfl rfl (by assumption) ?_) | refine r_not_d rfl ?_ | refine r_not rfl ?_ | refine r_nilCheck rfl ?_ | refine r_pick_t rfl ?_ | refine r_pick_f rfl ?_ | refine r_ext rfl rfl ?_ | refine wl_run rfl rfl ?_ | refine wl_pass rfl rfl rfl ?_ | refine wl_dead rfl rfl ?_ | refine wl_if_t rfl rfl (fun hcd => ?_) (fun hcd => ?_) | refine wl_if_f rfl rfl (fun hcd => ?_) (fun hcd => ?_) | refine wc_cond_t rfl ?_ | refine wc_cond_f rfl ?_ | refine wc_cond_d rfl (fun hcd => ?_) (fun hcd => ?_) | refine wc_skip ?_ | refine wc_block ?_ | refine wc_exit ?_ | refine wc_ret ?_ | refine thenQ_ret ?_ | refine thenQ_exit ?_ | refine inBl_here ?_ | refine inBl_out rfl ?_ | refine inBl_normal ?_ | refine inBl_ret ?_)
    have hch0 : Ch (ST br gr gc) w w1 := hC1.mono fun k _ e => .inl e
    have hglo := hM.grlo
    have hlo := hM.lo
    refine wc_loop [0, 1, 2, 3, 17, 18] (fun (k : Nat) => [(19, .int .i64 k)]) (fun k wk => k ≤ T.length ∧ MS w0 wk T (.slice qt T.length ct) rv cv bm gr gc rows cols ∧ CE w0 wk bm br b2 b5 b6 gr gc ∧ Ch (ST br gr gc) w wk ∧ wk.heap.size = w.heap.size ∧
      ∃ F1 rc1, MapF encI wk br F1 ∧ RM F1 rc1 T.length ∧ (∀ q, rc q → rc1 q) ∧ rc1 r ∧
        (∀ q, rc1 q → ¬ rc q → q ≠ r → q < T.length ∧ ∀ c, c < T.length → ent T q c ≠ 0 → ∃ o : Nat, Rf rows c = o ∧ rc1 o) ∧ (∀ c, c < k → ent T r c ≠ 0 → ∃ o : Nat, Rf rows c = o ∧ rc1 o))
      (fun k => T.length - k) 0 rfl ⟨rfl, trivial⟩ ⟨by omega, hM1, hCE1, hch0, hs1, _, _, hF1, hR.put hr, fun q hq => .inr hq, .inl rfl, ?_, ?_⟩ ?_
    · rintro q (rfl | hq) h1 h2
      · exact absurd rfl h2
      · exact absurd hq h1
    · intro c hc; omega
    rintro k wk x ⟨hk, hMk, hCk, hChk, hsk, F1, rc1, hFk, hRk, hsub, hr1, hcl1, hcl2⟩
    have hLk := hL0.ext hMk.ext
    repeat' (first | refine wl_plain ?_ | refine r_move_v (v := .int _ _) rfl ?_ | refine r_move_v (v := .slice _ _ _) rfl ?_ | refine r_move_v (v := .bool _) rfl ?_ | refine r_move_v (v := .pointer _) rfl ?_ | refine r_move_v (v := .map _) rfl ?_ | refine r_move ?_ | refine r_assign_v (v := .int _ _) rfl ?_ | refine r_assign_v (v := .slice _ _ _) rfl ?_ | refine r_assign_v (v := .bool _) rfl ?_ | refine r_assign_v (v := .pointer _) rfl ?_ | refine r_assign_v (v := .map _) rfl ?_ | refine r_assign ?_ | refine wl_nil ?_ | refine wc_seq ?_ | refine thenQ_normal ?_ | refine wc_region ?_ | refine r_lss rfl rfl ?_ | refine r_eql rfl rfl ?_ | refine r_neq rfl rfl ?_ | refine r_leq rfl rfl ?_ | refine r_gtr rfl rfl ?_ | refine r_geq rfl rfl ?_ | refine r_add_in rfl rfl (by omega) ?_ | refine r_sub_in rfl rfl (by omega) ?_ | refine r_len rfl rfl ?_ | (refine r_idx (sz := 1) rfl rfl rfl (by first | rfl | assumption) (by omega) (by omega) ?_) | (refine r_idx (sz := 2) rfl rfl rfl (by first | rfl | assumption) (by omega) (by omega) ?_) | (refine r_ld rfl rfl (by assumption) ?_) | refine r_not_d rfl ?_ | refine r_not rfl ?_ | refine r_nilCheck rfl ?_ | refine r_pick_t rfl ?_ | refine r_pick_f rfl ?_ | refine r_ext rfl rfl ?_ | refine wl_run rfl rfl ?_ | refine wl_pass rfl rfl rfl ?_ | refine wl_dead rfl rfl ?_ | refine wl_if_t rfl rfl (fun hcd => ?_) (fun hcd => ?_) | refine wl_if_f rfl rfl (fun hcd => ?_) (fun hcd => ?_) | refine wc_cond_t rfl ?_ | refine wc_cond_f rfl ?_ | refine wc_cond_d rfl (fun hcd => ?_) (fun hcd => ?_) | refine wc_skip ?_ | refine wc_block ?_ | refine wc_exit ?_ | refine wc_ret ?_ | refine thenQ_ret ?_ | refine thenQ_exit ?_ | refine inBl_here ?_ | refine inBl_out rfl ?_ | refine inBl_normal ?_ | refine inBl_ret ?_)
    rotate_left 1
    · -- no column
      have hkn : k = T.length := by omega
      subst hkn
      repeat' (first | refine wl_plain ?_ | refine r_move_v (v := .int _ _) rfl ?_ | refine r_move_v (v := .slice _ _ _) rfl ?_ | refine r_move_v (v := .bool _) rfl ?_ | refine r_move_v (v := .pointer _) rfl ?_ | refine r_move_v (v := .map _) rfl ?_ | refine r_move ?_ | refine r_assign_v (v := .int _ _) rfl ?_ | refine r_assign_v (v := .slice _ _ _) rfl ?_ | refine r_assign_v (v := .bool _) rfl ?_ | refine r_assign_v (v := .pointer _) rfl ?_ | refine r_assign_v (v := .map _) rfl ?_ | refine r_assign ?_ | refine wl_nil ?_ | refine wc_seq ?_ | refine thenQ_normal ?_ | refine wc_region ?_ | refine r_lss rfl rfl ?_ | refine r_eql rfl rfl ?_ | refine r_neq rfl rfl ?_ | refine r_leq rfl rfl ?_ | refine r_gtr rfl rfl ?_ | refine r_geq rfl rfl ?_ | refine r_add_in rfl rfl (by omega) ?_ | refine r_sub_in rfl rfl (by omega) ?_ | refine r_len rfl rfl ?_ | (refine r_idx (sz := 1) rfl rfl rfl (by first | rfl | assumption) (by omega) (by omega) ?_) | (refine r_idx (sz := 2) rfl rfl rfl (by first | rfl | assumption) (by omega) (by omega) ?_) | (refine r_ld rfl rfl (by assumption) ?_) | refine r_not_d rfl ?_ | refine r_not rfl ?_ | refine r_nilCheck rfl ?_ | refine r_pick_t rfl ?_ | refine r_pick_f rfl ?_ | refine r_ext rfl rfl ?_ | refine wl_run rfl rfl ?_ | refine wl_pass rfl rfl rfl ?_ | refine wl_dead rfl rfl ?_ | refine wl_if_t rfl rfl (fun hcd => ?_) (fun hcd => ?_) | refine wl_if_f rfl rfl (fun hcd => ?_) (fun hcd => ?_) | refine wc_cond_t rfl ?_ | refine wc_cond_f rfl ?_ | refine wc_cond_d rfl (fun hcd => ?_) (fun hcd => ?_) | refine wc_skip ?_ | refine wc_block ?_ | refine wc_exit ?_ | refine wc_ret ?_ | refine thenQ_ret ?_ | refine thenQ_exit ?_ | refine inBl_here ?_ | refine inBl_out rfl ?_ | refine inBl_normal ?_ | refine inBl_ret ?_)
      refine post1 (v := .bool false) rfl rfl ?_
      refine ⟨false, rfl, rows, cols, rc1, F1, hMk, hFk, hRk, hChk, hsk, hsub, hr1, fun _ => ⟨rfl, rfl, fun q hq hnq => ?_⟩, fun e => by cases e⟩
      by_cases e : q = r
      · subst e; exact ⟨hr, hcl2⟩
      · exact hcl1 q hq hnq e
    have hkT : k < T.length := by omega
    have hc1 := hLk.rd (i := k) (by omega)
    have hps2 := hLk.isSome (by omega)
    have hxx : (T.getD r []).getD k 0 = ent T r k := rfl
    rw [hxx] at hc1
    have gk2 := hCk.x2.rd
    have gk5 := hCk.x5.rd
    have gk6 := hCk.x6.rd
    obtain ⟨qr, cr, hrv, _⟩ := hMk.orows.ints.slice
    have gkr := hMk.blk.rd (k := 1) (v := rv) rfl
    have hrk := fun (hl : k < rows.length) => (show Ints wk (.slice qr rows.length cr) rows from hrv ▸ hMk.orows.ints).rd hl
    have hrk' := hrk (by rw [hMk.lr]; exact hkT)
    have hqrs : qr.isSome = true := (show Ints wk (.slice qr rows.length cr) rows from hrv ▸ hMk.orows.ints).isSome (by rw [hMk.lr]; omega)
    have hlr := hMk.lr
    rw [hrv] at gkr
    repeat' (first | refine wl_plain ?_ | refine r_move_v (v := .int _ _) rfl ?_ | refine r_move_v (v := .slice _ _ _) rfl ?_ | refine r_move_v (v := .bool _) rfl ?_ | refine r_move_v (v := .pointer _) rfl ?_ | refine r_move_v (v := .map _) rfl ?_ | refine r_move ?_ | refine r_assign_v (v := .int _ _) rfl ?_ | refine r_assign_v (v := .slice _ _ _) rfl ?_ | refine r_assign_v (v := .bool _) rfl ?_ | refine r_assign_v (v := .pointer _) rfl ?_ | refine r_assign_v (v := .map _) rfl ?_ | refine r_assign ?_ | refine wl_nil ?_ | refine wc_seq ?_ | refine thenQ_normal ?_ | refine wc_region ?_ | refine r_lss rfl rfl ?_ | refine r_eql rfl rfl ?_ | refine r_neq rfl rfl ?_ | refine r_leq rfl rfl ?_ | refine r_gtr rfl rfl ?_ | refine r_geq rfl rfl ?_ | refine r_add_in rfl rfl (by omega) ?_ | refine r_sub_in rfl rfl (by omega) ?_ | refine r_len rfl rfl ?_ | (refine r_idx (sz := 1) rfl rfl rfl (by first | rfl | assumption) (by omega) (by omega) ?_) | (refine r_idx (sz := 2) rfl rfl rfl (by first | rfl | assumption) (by omega) (by omega) ?_) | (refine r_ld rfl rfl (by assumption) ?_) | refine r_not_d rfl ?_ | refine r_not rfl ?_ | refine r_nilCheck rfl ?_ | refine r_pick_t rfl ?_ | refine r_pick_f rfl ?_ | refine r_ext rfl rfl ?_ | refine wl_run rfl rfl ?_ | refine wl_pass rfl rfl rfl ?_ | refine wl_dead rfl rfl ?_ | refine wl_if_t rfl rfl (fun hcd => ?_) (fun hcd => ?_) | refine wl_if_f rfl rfl (fun hcd => ?_) (fun hcd => ?_) | refine wc_cond_t rfl ?_ | refine wc_cond_f rfl ?_ | refine wc_cond_d rfl (fun hcd => ?_) (fun hcd => ?_) | refine wc_skip ?_ | refine wc_block ?_ | refine wc_exit ?_ | refine wc_ret ?_ | refine thenQ_ret ?_ | refine thenQ_exit ?_ | refine inBl_here ?_ | refine inBl_out rfl ?_ | refine inBl_normal ?_ | refine inBl_ret ?_)
    · -- the number is 0
      exact ⟨k + 1, ⟨rfl, trivial⟩, ⟨by omega, hMk, hCk, hChk, hsk, F1, rc1, hFk, hRk, hsub, hr1, hcl1, fun c hc hA => by
        by_cases e : c = k
        · subst e; exact absurd (by assumption) hA
        · exact hcl2 c (by omega) hA⟩, by omega⟩
    have hA : ent T r k ≠ 0 := by assumption
    refine r_fa (off := 1) rfl rfl ?_
    repeat' (first | refine wl_plain ?_ | refine r_move_v (v := .int _ _) rfl ?_ | refine r_move_v (v := .slice _ _ _) rfl ?_ | refine r_move_v (v := .bool _) rfl ?_ | refine r_move_v (v := .pointer _) rfl ?_ | refine r_move_v (v := .map _) rfl ?_ | refine r_move ?_ | refine r_assign_v (v := .int _ _) rfl ?_ | refine r_assign_v (v := .slice _ _ _) rfl ?_ | refine r_assign_v (v := .bool _) rfl ?_ | refine r_assign_v (v := .pointer _) rfl ?_ | refine r_assign_v (v := .map _) rfl ?_ | refine r_assign ?_ | refine wl_nil ?_ | refine r_lss rfl rfl ?_ | refine r_eql rfl rfl ?_ | refine r_neq rfl rfl ?_ | refine r_leq rfl rfl ?_ | refine r_gtr rfl rfl ?_ | refine r_geq rfl rfl ?_ | refine r_add_in rfl rfl (by omega) ?_ | refine r_sub_in rfl rfl (by omega) ?_ | refine r_len rfl rfl ?_ | (refine r_idx (sz := 1) rfl rfl rfl (by first | rfl | assumption) (by omega) (by omega) ?_) | (refine r_idx (sz := 2) rfl rfl rfl (by first | rfl | assumption) (by omega) (by omega) ?_) | (refine r_ld rfl rfl (by assumption) ?_) | refine r_not_d rfl ?_ | refine r_not rfl ?_ | refine r_nilCheck rfl ?_ | refine r_pick_t rfl ?_ | refine r_pick_f rfl ?_ | refine r_ext rfl rfl ?_ | refine wl_run rfl rfl ?_ | refine wl_pass rfl rfl rfl ?_ | refine wl_dead rfl rfl ?_ | refine wl_if_t rfl rfl (fun hcd => ?_) (fun hcd => ?_) | refine wl_if_f rfl rfl (fun hcd => ?_) (fun hcd => ?_) | refine wc_cond_t rfl ?_ | refine wc_cond_f rfl ?_ | refine wc_cond_d rfl (fun hcd => ?_) (fun hcd => ?_) | refine wc_skip ?_ | refine wc_block ?_ | refine wc_exit ?_ | refine wc_ret ?_ | refine thenQ_ret ?_ | refine thenQ_exit ?_ | refine inBl_here ?_ | refine inBl_out rfl ?_ | refine inBl_normal ?_ | refine inBl_ret ?_)
    refine thenQ_normal ?_
    refine wc_join (σ := Bool × List Int × List Int) [0, 1, 2, 3, 6, 17, 18, 19] (fun s => [(45, .bool s.1)])
      (fun s wX => ∃ rcX FX, MS w0 wX T (.slice qt T.length ct) rv cv bm gr gc s.2.1 s.2.2 ∧ CE w0 wX bm br b2 b5 b6 gr gc ∧ Ch (ST br gr gc) w wX ∧ wX.heap.size = w.heap.size ∧ MapF encI wX br FX ∧ RM FX rcX T.length ∧ (∀ q, rc q → rcX q) ∧ rcX r ∧
        (s.1 = false → s.2.1 = rows ∧ s.2.2 = cols ∧ (∀ q, rcX q → ¬ rc q → q ≠ r → q < T.length ∧ ∀ c, c < T.length → ent T q c ≠ 0 → ∃ o : Nat, Rf rows c = o ∧ rcX o) ∧ (∀ c, c < k + 1 → ent T r c ≠ 0 → ∃ o : Nat, Rf rows c = o ∧ rcX o)) ∧
        (s.1 = true → Succ T.length (ent T) (Rf rows) (Rf cols) r rc (upd (Rf s.2.1) k r) (upd (Rf s.2.2) r k))) rfl ?_ ?_
    · repeat' (first | refine wl_plain ?_ | refine r_move_v (v := .int _ _) rfl ?_ | refine r_move_v (v := .slice _ _ _) rfl ?_ | refine r_move_v (v := .bool _) rfl ?_ | refine r_move_v (v := .pointer _) rfl ?_ | refine r_move_v (v := .map _) rfl ?_ | refine r_move ?_ | refine r_assign_v (v := .int _ _) rfl ?_ | refine r_assign_v (v := .slice _ _ _) rfl ?_ | refine r_assign_v (v := .bool _) rfl ?_ | refine r_assign_v (v := .pointer _) rfl ?_ | refine r_assign_v (v := .map _) rfl ?_ | refine r_assign ?_ | refine wl_nil ?_ | refine wc_seq ?_ | refine thenQ_normal ?_ | refine wc_region ?_ | refine r_lss rfl rfl ?_ | refine r_eql rfl rfl ?_ | refine r_neq rfl rfl ?_ | refine r_leq rfl rfl ?_ | refine r_gtr rfl rfl ?_ | refine r_geq rfl rfl ?_ | refine r_add_in rfl rfl (by omega) ?_ | refine r_sub_in rfl rfl (by omega) ?_ | refine r_len rfl rfl ?_ | (refine r_idx (sz := 1) rfl rfl rfl (by first | rfl | assumption) (by omega) (by omega) ?_) | (refine r_idx (sz := 2) rfl rfl rfl (by first | rfl | assumption) (by omega) (by omega) ?_) | (refine r_ld rfl rfl (by assumption) ?_) | refine r_not_d rfl ?_ | refine r_not rfl ?_ | refine r_nilCheck rfl ?_ | refine r_pick_t rfl ?_ | refine r_pick_f rfl ?_ | refine r_ext rfl rfl ?_ | refine wl_run rfl rfl ?_ | refine wl_pass rfl rfl rfl ?_ | refine wl_dead rfl rfl ?_ | refine wl_if_t rfl rfl (fun hcd => ?_) (fun hcd => ?_) | refine wl_if_f rfl rfl (fun hcd => ?_) (fun hcd => ?_) | refine wc_cond_t rfl ?_ | refine wc_cond_f rfl ?_ | refine wc_cond_d rfl (fun hcd => ?_) (fun hcd => ?_) | refine wc_skip ?_ | refine wc_block ?_ | refine wc_exit ?_ | refine wc_ret ?_ | refine thenQ_ret ?_ | refine thenQ_exit ?_ | refine inBl_here ?_ | refine inBl_out rfl ?_ | refine inBl_normal ?_ | refine inBl_ret ?_)
      rotate_left 1
      · -- the column is free
        have hneg : Rf rows k < 0 := by assumption
        exact ⟨(true, rows, cols), ⟨rfl, trivial⟩, rc1, F1, hMk, hCk, hChk, hsk, hFk, hRk, hsub, hr1, (fun e => by cases e), fun _ => Succ.base hI hr hkT hA hneg hrc⟩
      have hnn : 0 ≤ rows.getD k 0 := by omega
      obtain ⟨o, ho⟩ := Int.eq_ofNat_of_zero_le hnn
      have hoR : Rf rows k = o := ho
      have hon : o < T.length := by
        obtain ⟨q, h1, h2, _⟩ := hI.1 k hkT (by rw [hoR]; omega)
        have : q = o := by omega
        omega
      by_cases hro : rc1 o
      · -- reached before
        refine r_lookup (k := rows.getD k 0) (v := .bool true) mp81 ki3 hFk rfl rfl (by rw [ho]; exact congrArg (fun z => z.getD (Value.bool false)) ((hRk.1 o).2 hro)) ?_
        repeat' (first | refine wl_plain ?_ | refine r_move_v (v := .int _ _) rfl ?_ | refine r_move_v (v := .slice _ _ _) rfl ?_ | refine r_move_v (v := .bool _) rfl ?_ | refine r_move_v (v := .pointer _) rfl ?_ | refine r_move_v (v := .map _) rfl ?_ | refine r_move ?_ | refine r_assign_v (v := .int _ _) rfl ?_ | refine r_assign_v (v := .slice _ _ _) rfl ?_ | refine r_assign_v (v := .bool _) rfl ?_ | refine r_assign_v (v := .pointer _) rfl ?_ | refine r_assign_v (v := .map _) rfl ?_ | refine r_assign ?_ | refine wl_nil ?_ | refine wc_seq ?_ | refine thenQ_normal ?_ | refine wc_region ?_ | refine r_lss rfl rfl ?_ | refine r_eql rfl rfl ?_ | refine r_neq rfl rfl ?_ | refine r_leq rfl rfl ?_ | refine r_gtr rfl rfl ?_ | refine r_geq rfl rfl ?_ | refine r_add_in rfl rfl (by omega) ?_ | refine r_sub_in rfl rfl (by omega) ?_ | refine r_len rfl rfl ?_ | (refine r_idx (sz := 1) rfl rfl rfl (by first | rfl | assumption) (by omega) (by omega) ?_) | (refine r_idx (sz := 2) rfl rfl rfl (by first | rfl | assumption) (by omega) (by omega) ?_) | (refine r_ld rfl rfl (by assumption) ?_) | refine r_not_d rfl ?_ | refine r_not rfl ?_ | refine r_nilCheck rfl ?_ | refine r_pick_t rfl ?_ | refine r_pick_f rfl ?_ | refine r_ext rfl rfl ?_ | refine wl_run rfl rfl ?_ | refine wl_pass rfl rfl rfl ?_ | refine wl_dead rfl rfl ?_ | refine wl_if_t rfl rfl (fun hcd => ?_) (fun hcd => ?_) | refine wl_if_f rfl rfl (fun hcd => ?_) (fun hcd => ?_) | refine wc_cond_t rfl ?_ | refine wc_cond_f rfl ?_ | refine wc_cond_d rfl (fun hcd => ?_) (fun hcd => ?_) | refine wc_skip ?_ | refine wc_block ?_ | refine wc_exit ?_ | refine wc_ret ?_ | refine thenQ_ret ?_ | refine thenQ_exit ?_ | refine inBl_here ?_ | refine inBl_out rfl ?_ | refine inBl_normal ?_ | refine inBl_ret ?_)
        refine ⟨(false, rows, cols), ⟨rfl, trivial⟩, rc1, F1, hMk, hCk, hChk, hsk, hFk, hRk, hsub, hr1, (fun _ => ⟨rfl, rfl, hcl1, fun c hc hAc => ?_⟩), fun e => by cases e⟩
        by_cases e : c = k
        · subst e; exact ⟨o, hoR, hro⟩
        · exact hcl2 c (by omega) hAc
      · refine r_lookup (k := rows.getD k 0) (v := .bool false) mp81 ki3 hFk rfl rfl (by rw [ho]; exact congrArg (fun z => z.getD (Value.bool false)) (hRk.none hro)) ?_
        repeat' (first | refine wl_plain ?_ | refine r_move_v (v := .int _ _) rfl ?_ | refine r_move_v (v := .slice _ _ _) rfl ?_ | refine r_move_v (v := .bool _) rfl ?_ | refine r_move_v (v := .pointer _) rfl ?_ | refine r_move_v (v := .map _) rfl ?_ | refine r_move ?_ | refine r_assign_v (v := .int _ _) rfl ?_ | refine r_assign_v (v := .slice _ _ _) rfl ?_ | refine r_assign_v (v := .bool _) rfl ?_ | refine r_assign_v (v := .pointer _) rfl ?_ | refine r_assign_v (v := .map _) rfl ?_ | refine r_assign ?_ | refine wl_nil ?_ | refine wc_seq ?_ | refine thenQ_normal ?_ | refine wc_region ?_ | refine r_lss rfl rfl ?_ | refine r_eql rfl rfl ?_ | refine r_neq rfl rfl ?_ | refine r_leq rfl rfl ?_ | refine r_gtr rfl rfl ?_ | refine r_geq rfl rfl ?_ | refine r_add_in rfl rfl (by omega) ?_ | refine r_sub_in rfl rfl (by omega) ?_ | refine r_len rfl rfl ?_ | (refine r_idx (sz := 1) rfl rfl rfl (by first | rfl | assumption) (by omega) (by omega) ?_) | (refine r_idx (sz := 2) rfl rfl rfl (by first | rfl | assumption) (by omega) (by omega) ?_) | (refine r_ld rfl rfl (by assumption) ?_) | refine r_not_d rfl ?_ | refine r_not rfl ?_ | refine r_nilCheck rfl ?_ | refine r_pick_t rfl ?_ | refine r_pick_f rfl ?_ | refine r_ext rfl rfl ?_ | refine wl_run rfl rfl ?_ | refine wl_pass rfl rfl rfl ?_ | refine wl_dead rfl rfl ?_ | refine wl_if_t rfl rfl (fun hcd => ?_) (fun hcd => ?_) | refine wl_if_f rfl rfl (fun hcd => ?_) (fun hcd => ?_) | refine wc_cond_t rfl ?_ | refine wc_cond_f rfl ?_ | refine wc_cond_d rfl (fun hcd => ?_) (fun hcd => ?_) | refine wc_skip ?_ | refine wc_block ?_ | refine wc_exit ?_ | refine wc_ret ?_ | refine thenQ_ret ?_ | refine thenQ_exit ?_ | refine inBl_here ?_ | refine inBl_out rfl ?_ | refine inBl_normal ?_ | refine inBl_ret ?_)
        have hrl : r ∈ l := hcov r hr hrc
        have hih := ih wk o rows cols rc1 F1 (l.erase r) hMk hCk hFk hRk hI hon hro (by rw [List.length_erase_of_mem hrl]; omega)
          (fun q hq hnq => (List.mem_erase_of_ne (by rintro rfl; exact hnq hr1)).2 (hcov q hq fun h => hnq (hsub q h)))
        rw [show ((o : Nat) : Int) = rows.getD k 0 from ho.symm] at hih
        refine r_callV (cap := [.pointer (some ⟨b5, 0, none⟩), .pointer (some ⟨b2, 0, none⟩), .pointer (some ⟨b6, 0, none⟩)]) rfl rfl hih ?_
        rintro v w3 ⟨ok, rfl, rows', cols', rc', F', hM3, hF3, hR3, hCh3, hs3, hsub3, hro3, hf3, ht3⟩
        have hC3 := hCk.keep hCh3 (by rintro (h | h | h) <;> omega) (by rintro (h | h | h) <;> omega) (by rintro (h | h | h) <;> omega)
        cases ok with
        | false =>
          obtain ⟨rfl, rfl, hcl3⟩ := hf3 rfl
          repeat' (first | refine wl_plain ?_ | refine r_move_v (v := .int _ _) rfl ?_ | refine r_move_v (v := .slice _ _ _) rfl ?_ | refine r_move_v (v := .bool _) rfl ?_ | refine r_move_v (v := .pointer _) rfl ?_ | refine r_move_v (v := .map _) rfl ?_ | refine r_move ?_ | refine r_assign_v (v := .int _ _) rfl ?_ | refine r_assign_v (v := .slice _ _ _) rfl ?_ | refine r_assign_v (v := .bool _) rfl ?_ | refine r_assign_v (v := .pointer _) rfl ?_ | refine r_assign_v (v := .map _) rfl ?_ | refine r_assign ?_ | refine wl_nil ?_ | refine wc_seq ?_ | refine thenQ_normal ?_ | refine wc_region ?_ | refine r_lss rfl rfl ?_ | refine r_eql rfl rfl ?_ | refine r_neq rfl rfl ?_ | refine r_leq rfl rfl ?_ | refine r_gtr rfl rfl ?_ | refine r_geq rfl rfl ?_ | refine r_add_in rfl rfl (by omega) ?_ | refine r_sub_in rfl rfl (by omega) ?_ | refine r_len rfl rfl ?_ | (refine r_idx (sz := 1) rfl rfl rfl (by first | rfl | assumption) (by omega) (by omega) ?_) | (refine r_idx (sz := 2) rfl rfl rfl (by first | rfl | assumption) (by omega) (by omega) ?_) | (refine r_ld rfl rfl (by assumption) ?_) | refine r_not_d rfl ?_ | refine r_not rfl ?_ | refine r_nilCheck rfl ?_ | refine r_pick_t rfl ?_ | refine r_pick_f rfl ?_ | refine r_ext rfl rfl ?_ | refine wl_run rfl rfl ?_ | refine wl_pass rfl rfl rfl ?_ | refine wl_dead rfl rfl ?_ | refine wl_if_t rfl rfl (fun hcd => ?_) (fun hcd => ?_) | refine wl_if_f rfl rfl (fun hcd => ?_) (fun hcd => ?_) | refine wc_cond_t rfl ?_ | refine wc_cond_f rfl ?_ | refine wc_cond_d rfl (fun hcd => ?_) (fun hcd => ?_) | refine wc_skip ?_ | refine wc_block ?_ | refine wc_exit ?_ | refine wc_ret ?_ | refine thenQ_ret ?_ | refine thenQ_exit ?_ | refine inBl_here ?_ | refine inBl_out rfl ?_ | refine inBl_normal ?_ | refine inBl_ret ?_)
          refine ⟨(false, rows', cols'), ⟨rfl, trivial⟩, rc', F', hM3, hC3, hChk.trans hCh3, by omega, hF3, hR3, (fun q hq => hsub3 q (hsub q hq)), hsub3 r hr1, (fun _ => ⟨rfl, rfl, fun q hq hnq hqr => ?_, fun c hc hAc => ?_⟩), fun e => by cases e⟩
          · by_cases h1 : rc1 q
            · obtain ⟨h2, h3⟩ := hcl1 q h1 hnq hqr
              exact ⟨h2, fun c hc hAc => let ⟨o', h4, h5⟩ := h3 c hc hAc; ⟨o', h4, hsub3 _ h5⟩⟩
            · exact hcl3 q hq h1
          · by_cases e : c = k
            · subst e; exact ⟨o, hoR, hro3⟩
            · obtain ⟨o', h4, h5⟩ := hcl2 c (by omega) hAc
              exact ⟨o', h4, hsub3 _ h5⟩
        | true =>
          have hs := Succ.step hI hr hkT hA hoR hsub hr1 hrc hro (ht3 rfl)
          repeat' (first | refine wl_plain ?_ | refine r_move_v (v := .int _ _) rfl ?_ | refine r_move_v (v := .slice _ _ _) rfl ?_ | refine r_move_v (v := .bool _) rfl ?_ | refine r_move_v (v := .pointer _) rfl ?_ | refine r_move_v (v := .map _) rfl ?_ | refine r_move ?_ | refine r_assign_v (v := .int _ _) rfl ?_ | refine r_assign_v (v := .slice _ _ _) rfl ?_ | refine r_assign_v (v := .bool _) rfl ?_ | refine r_assign_v (v := .pointer _) rfl ?_ | refine r_assign_v (v := .map _) rfl ?_ | refine r_assign ?_ | refine wl_nil ?_ | refine wc_seq ?_ | refine thenQ_normal ?_ | refine wc_region ?_ | refine r_lss rfl rfl ?_ | refine r_eql rfl rfl ?_ | refine r_neq rfl rfl ?_ | refine r_leq rfl rfl ?_ | refine r_gtr rfl rfl ?_ | refine r_geq rfl rfl ?_ | refine r_add_in rfl rfl (by omega) ?_ | refine r_sub_in rfl rfl (by omega) ?_ | refine r_len rfl rfl ?_ | (refine r_idx (sz := 1) rfl rfl rfl (by first | rfl | assumption) (by omega) (by omega) ?_) | (refine r_idx (sz := 2) rfl rfl rfl (by first | rfl | assumption) (by omega) (by omega) ?_) | (refine r_ld rfl rfl (by assumption) ?_) | refine r_not_d rfl ?_ | refine r_not rfl ?_ | refine r_nilCheck rfl ?_ | refine r_pick_t rfl ?_ | refine r_pick_f rfl ?_ | refine r_ext rfl rfl ?_ | refine wl_run rfl rfl ?_ | refine wl_pass rfl rfl rfl ?_ | refine wl_dead rfl rfl ?_ | refine wl_if_t rfl rfl (fun hcd => ?_) (fun hcd => ?_) | refine wl_if_f rfl rfl (fun hcd => ?_) (fun hcd => ?_) | refine wc_cond_t rfl ?_ | refine wc_cond_f rfl ?_ | refine wc_cond_d rfl (fun hcd => ?_) (fun hcd => ?_) | refine wc_skip ?_ | refine wc_block ?_ | refine wc_exit ?_ | refine wc_ret ?_ | refine thenQ_ret ?_ | refine thenQ_exit ?_ | refine inBl_here ?_ | refine inBl_out rfl ?_ | refine inBl_normal ?_ | refine inBl_ret ?_)
          exact ⟨(true, rows', cols'), ⟨rfl, trivial⟩, rc', F', hM3, hC3, hChk.trans hCh3, by omega, hF3, hR3, (fun q hq => hsub3 q (hsub q hq)), hsub3 r hr1, (fun e => by cases e), fun _ => hs⟩
    rintro ⟨ok, rowsX, colsX⟩ wX x5 ⟨rcX, FX, hMX, hCX, hChX, hsX, hFX, hRX, hsubX, hrX, hfX, htX⟩
    dsimp only at hMX hfX htX
    refine wc_cond_b (t := ok) rfl (fun hok => ?_) (fun hok => ?_)
    rotate_left 1
    · obtain ⟨rfl, rfl, h1, h2⟩ := hfX hok
      repeat' (first | refine wl_plain ?_ | refine r_move_v (v := .int _ _) rfl ?_ | refine r_move_v (v := .slice _ _ _) rfl ?_ | refine r_move_v (v := .bool _) rfl ?_ | refine r_move_v (v := .pointer _) rfl ?_ | refine r_move_v (v := .map _) rfl ?_ | refine r_move ?_ | refine r_assign_v (v := .int _ _) rfl ?_ | refine r_assign_v (v := .slice _ _ _) rfl ?_ | refine r_assign_v (v := .bool _) rfl ?_ | refine r_assign_v (v := .pointer _) rfl ?_ | refine r_assign_v (v := .map _) rfl ?_ | refine r_assign ?_ | refine wl_nil ?_ | refine wc_seq ?_ | refine thenQ_normal ?_ | refine wc_region ?_ | refine r_lss rfl rfl ?_ | refine r_eql rfl rfl ?_ | refine r_neq rfl rfl ?_ | refine r_leq rfl rfl ?_ | refine r_gtr rfl rfl ?_ | refine r_geq rfl rfl ?_ | refine r_add_in rfl rfl (by omega) ?_ | refine r_sub_in rfl rfl (by omega) ?_ | refine r_len rfl rfl ?_ | (refine r_idx (sz := 1) rfl rfl rfl (by first | rfl | assumption) (by omega) (by omega) ?_) | (refine r_idx (sz := 2) rfl rfl rfl (by first | rfl | assumption) (by omega) (by omega) ?_) | (refine r_ld rfl rfl (by assumption) ?_) | refine r_not_d rfl ?_ | refine r_not rfl ?_ | refine r_nilCheck rfl ?_ | refine r_pick_t rfl ?_ | refine r_pick_f rfl ?_ | refine r_ext rfl rfl ?_ | refine wl_run rfl rfl ?_ | refine wl_pass rfl rfl rfl ?_ | refine wl_dead rfl rfl ?_ | refine wl_if_t rfl rfl (fun hcd => ?_) (fun hcd => ?_) | refine wl_if_f rfl rfl (fun hcd => ?_) (fun hcd => ?_) | refine wc_cond_t rfl ?_ | refine wc_cond_f rfl ?_ | refine wc_cond_d rfl (fun hcd => ?_) (fun hcd => ?_) | refine wc_skip ?_ | refine wc_block ?_ | refine wc_exit ?_ | refine wc_ret ?_ | refine thenQ_ret ?_ | refine thenQ_exit ?_ | refine inBl_here ?_ | refine inBl_out rfl ?_ | refine inBl_normal ?_ | refine inBl_ret ?_)
      exact ⟨k + 1, ⟨rfl, trivial⟩, ⟨by omega, hMX, hCX, hChX, hsX, FX, rcX, hFX, hRX, hsubX, hrX, h1, h2⟩, by omega⟩
    have hSucc := htX hok
    have gX2 := hCX.x2.ext (Ext.drew wX) |>.rd
    obtain ⟨qr', cr', hrv', _⟩ := hMX.orows.ints.slice
    obtain ⟨qc, cc, hcv, _⟩ := hMX.ocols.ints.slice
    have gXr := (hMX.blk.ext (Ext.drew wX)).rd (k := 1) (v := rv) rfl
    have gXc := (hMX.blk.ext (Ext.drew wX)).rd (k := 2) (v := cv) rfl
    have hlrX := hMX.lr
    have hlcX := hMX.lc
    have hqr1 : qr'.isSome = true := (show Ints wX (.slice qr' rowsX.length cr') rowsX from hrv' ▸ hMX.orows.ints).isSome (by omega)
    have hqc1 : qc.isSome = true := (show Ints wX (.slice qc colsX.length cc) colsX from hcv ▸ hMX.ocols.ints).isSome (by omega)
    rw [hrv'] at gXr
    rw [hcv] at gXc
    repeat' (first | refine wl_plain ?_ | refine r_move_v (v := .int _ _) rfl ?_ | refine r_move_v (v := .slice _ _ _) rfl ?_ | refine r_move_v (v := .bool _) rfl ?_ | refine r_move_v (v := .pointer _) rfl ?_ | refine r_move_v (v := .map _) rfl ?_ | refine r_move ?_ | refine r_assign_v (v := .int _ _) rfl ?_ | refine r_assign_v (v := .slice _ _ _) rfl ?_ | refine r_assign_v (v := .bool _) rfl ?_ | refine r_assign_v (v := .pointer _) rfl ?_ | refine r_assign_v (v := .map _) rfl ?_ | refine r_assign ?_ | refine wl_nil ?_ | refine wc_seq ?_ | refine thenQ_normal ?_ | refine wc_region ?_ | refine r_lss rfl rfl ?_ | refine r_eql rfl rfl ?_ | refine r_neq rfl rfl ?_ | refine r_leq rfl rfl ?_ | refine r_gtr rfl rfl ?_ | refine r_geq rfl rfl ?_ | refine r_add_in rfl rfl (by omega) ?_ | refine r_sub_in rfl rfl (by omega) ?_ | refine r_len rfl rfl ?_ | (refine r_idx (sz := 1) rfl rfl rfl (by first | rfl | assumption) (by omega) (by omega) ?_) | (refine r_idx (sz := 2) rfl rfl rfl (by first | rfl | assumption) (by omega) (by omega) ?_) | (refine r_ld rfl rfl (by assumption) ?_) | refine r_not_d rfl ?_ | refine r_not rfl ?_ | refine r_nilCheck rfl ?_ | refine r_pick_t rfl ?_ | refine r_pick_f rfl ?_ | refine r_ext rfl rfl ?_ | refine wl_run rfl rfl ?_ | refine wl_pass rfl rfl rfl ?_ | refine wl_dead rfl rfl ?_ | refine wl_if_t rfl rfl (fun hcd => ?_) (fun hcd => ?_) | refine wl_if_f rfl rfl (fun hcd => ?_) (fun hcd => ?_) | refine wc_cond_t rfl ?_ | refine wc_cond_f rfl ?_ | refine wc_cond_d rfl (fun hcd => ?_) (fun hcd => ?_) | refine wc_skip ?_ | refine wc_block ?_ | refine wc_exit ?_ | refine wc_ret ?_ | refine thenQ_ret ?_ | refine thenQ_exit ?_ | refine inBl_here ?_ | refine inBl_out rfl ?_ | refine inBl_normal ?_ | refine inBl_ret ?_)
    have hSX : SF b2 bm (.slice qr' rowsX.length cr') (.slice qc colsX.length cc) wX.drew := ⟨gX2, gXr, gXc⟩
    have hSk : ∀ wa wb : World, Ch (fun k => k = gr ∨ k = gc) wa wb → SF b2 bm (.slice qr' rowsX.length cr') (.slice qc colsX.length cc) wa → SF b2 bm (.slice qr' rowsX.length cr') (.slice qc colsX.length cc) wb := fun wa wb hc h => by
      obtain ⟨e1, e2, e3⟩ := hM.ne
      exact ⟨rd_keep h.s1 hc (fun a ha => by cases ha; show ¬ (b2 = gr ∨ b2 = gc); omega), rd_keep h.s2 hc (fun a ha => by cases ha; show ¬ (bm = gr ∨ bm = gc); omega), rd_keep h.s3 hc (fun a ha => by cases ha; show ¬ (bm = gr ∨ bm = gc); omega)⟩
    (refine wc_held (SF b2 bm (.slice qr' rowsX.length cr') (.slice qc colsX.length cc)) [(0, true), (1, true), (2, true), (3, true), (4, true), (5, true), (6, true), (7, true), (8, true), (9, true), (10, true), (11, true), (12, false), (13, false), (14, false), (15, false)] (by kernel_rfl) (by kernel_rfl) ?_ ?_)
    · exact hSX
    (refine wh_take rfl rfl (fun w' hw' => rv_ld rfl rfl hw'.s1) ?_)
    (refine wh_take rfl rfl (fun w' hw' => rv_nil rfl) ?_)
    (refine wh_take rfl rfl (fun w' hw' => rv_fa (off := 1) rfl rfl) ?_)
    (refine wh_take rfl rfl (fun w' hw' => rv_ld rfl rfl hw'.s2) ?_)
    (refine wh_take rfl rfl (fun w' hw' => rv_move) ?_)
    (refine wh_take rfl rfl (fun w' hw' => rv_ld rfl rfl hw'.s1) ?_)
    (refine wh_take rfl rfl (fun w' hw' => rv_nil rfl) ?_)
    (refine wh_take rfl rfl (fun w' hw' => rv_fa (off := 2) rfl rfl) ?_)
    (refine wh_take rfl rfl (fun w' hw' => rv_ld rfl rfl hw'.s3) ?_)
    (refine wh_take rfl rfl (fun w' hw' => rv_move) ?_)
    (refine wh_take rfl rfl (fun w' hw' => rv_move) ?_)
    (refine wh_take rfl rfl (fun w' hw' => rv_move) ?_)
    (refine wh_exec rfl rfl ?_)
    refine r_idx (sz := 1) rfl rfl rfl hqr1 (by omega) (by omega) ?_
    refine ⟨hSX, ?_⟩
    (refine wh_exec rfl rfl ?_)
    have hOr : OwnI wX.drew w0.heap.size 3 (.slice qr' rowsX.length cr') rowsX := ownsRow_ext (hrv' ▸ hMX.orows) (Ext.drew wX)
    refine r_st_i (i := k) (e := 3) (base := w0.heap.size) rfl hOr rfl rfl (by omega) fun w7 h7 hg7 hs7 => ?_
    have hgr : (Value.slice qr' rowsX.length cr').ownBlock = some gr := hrv' ▸ hMX.hrb
    have hgc : (Value.slice qc colsX.length cc).ownBlock = some gc := hcv ▸ hMX.hcb
    have hC7 : Ch (fun k => k = gr) wX.drew w7 := Ch.grown hg7 fun k hk => by rw [hgr] at hk; cases hk; rfl
    refine ⟨hSk _ _ (hC7.mono fun k _ e => .inl e) hSX, ?_⟩
    (refine wh_exec rfl rfl ?_)
    refine r_idx (sz := 1) rfl rfl rfl hqc1 (by omega) (by omega) ?_
    refine ⟨hSk _ _ (hC7.mono fun k _ e => .inl e) hSX, ?_⟩
    (refine wh_exec rfl rfl ?_)
    have hMX7 := hMX.ne
    have hOc : OwnI w7 w0.heap.size 3 (.slice qc colsX.length cc) colsX := ownsRow_keep (ownsRow_ext (hcv ▸ hMX.ocols) (Ext.drew wX)) hC7 (fun g hg => by rw [hgc] at hg; cases hg; omega)
    refine r_st_i (i := r) (e := 3) (base := w0.heap.size) rfl hOc rfl rfl (by omega) fun w8 h8 hg8 hs8 => ?_
    have hC8 : Ch (fun k => k = gc) w7 w8 := Ch.grown hg8 fun k hk => by rw [hgc] at hk; cases hk; rfl
    have hC78 : Ch (fun k => k = gr ∨ k = gc) wX.drew w8 := (hC7.mono fun k _ e => Or.inl e).trans (hC8.mono fun k _ e => Or.inr e)
    refine ⟨hSk _ _ hC78 hSX, ?_⟩
    refine wh_nil ?_
    repeat' (first | refine wl_plain ?_ | refine r_move_v (v := .int _ _) rfl ?_ | refine r_move_v (v := .slice _ _ _) rfl ?_ | refine r_move_v (v := .bool _) rfl ?_ | refine r_move_v (v := .pointer _) rfl ?_ | refine r_move_v (v := .map _) rfl ?_ | refine r_move ?_ | refine r_assign_v (v := .int _ _) rfl ?_ | refine r_assign_v (v := .slice _ _ _) rfl ?_ | refine r_assign_v (v := .bool _) rfl ?_ | refine r_assign_v (v := .pointer _) rfl ?_ | refine r_assign_v (v := .map _) rfl ?_ | refine r_assign ?_ | refine wl_nil ?_ | refine wc_seq ?_ | refine thenQ_normal ?_ | refine wc_region ?_ | refine r_lss rfl rfl ?_ | refine r_eql rfl rfl ?_ | refine r_neq rfl rfl ?_ | refine r_leq rfl rfl ?_ | refine r_gtr rfl rfl ?_ | refine r_geq rfl rfl ?_ | refine r_add_in rfl rfl (by omega) ?_ | refine r_sub_in rfl rfl (by omega) ?_ | refine r_len rfl rfl ?_ | (refine r_idx (sz := 1) rfl rfl rfl (by first | rfl | assumption) (by omega) (by omega) ?_) | (refine r_idx (sz := 2) rfl rfl rfl (by first | rfl | assumption) (by omega) (by omega) ?_) | (refine r_ld rfl rfl (by assumption) ?_) | refine r_not_d rfl ?_ | refine r_not rfl ?_ | refine r_nilCheck rfl ?_ | refine r_pick_t rfl ?_ | refine r_pick_f rfl ?_ | refine r_ext rfl rfl ?_ | refine wl_run rfl rfl ?_ | refine wl_pass rfl rfl rfl ?_ | refine wl_dead rfl rfl ?_ | refine wl_if_t rfl rfl (fun hcd => ?_) (fun hcd => ?_) | refine wl_if_f rfl rfl (fun hcd => ?_) (fun hcd => ?_) | refine wc_cond_t rfl ?_ | refine wc_cond_f rfl ?_ | refine wc_cond_d rfl (fun hcd => ?_) (fun hcd => ?_) | refine wc_skip ?_ | refine wc_block ?_ | refine wc_exit ?_ | refine wc_ret ?_ | refine thenQ_ret ?_ | refine thenQ_exit ?_ | refine inBl_here ?_ | refine inBl_out rfl ?_ | refine inBl_normal ?_ | refine inBl_ret ?_)
    refine post1 (v := .bool true) rfl rfl ?_
    have hCX8 : Ch (ST br gr gc) wX w8 := Ch.from_drew (hC78.mono fun k _ e => .inr e)
    have hglX := hMX.grlo
    refine ⟨true, rfl, rowsX.set k r, colsX.set r k, rcX, FX, ⟨(hMX.blk.keep hCX8 (by rintro (h | h | h) <;> omega)), ?_, ?_, hMX.hrb, hMX.hcb, hMX.ne, by simpa using hMX.lr, by simpa using hMX.lc, hMX.lo, ?_⟩, ?_, hRX, hChX.trans hCX8, ?_, hsubX, hrX, (fun e => by cases e), fun _ => ?_⟩
    · rw [hrv']
      exact ownsRow_keep h7 hC8 (fun g hg => by rw [hgr] at hg; cases hg; omega)
    · rw [hcv]; exact h8
    · exact Ch.trans' hMX.ext hCX8 fun k hk e => by rcases e with e | e | e <;> omega
    · exact (hFX.ext (Ext.drew wX)).keep hC78 (by omega)
    · have : wX.drew.heap.size = wX.heap.size := rfl
      omega
    · rw [Rf_set (by omega), Rf_set (by omega)]; exact hSucc
end Go.Proofs.Ytdpckinhoooigaa

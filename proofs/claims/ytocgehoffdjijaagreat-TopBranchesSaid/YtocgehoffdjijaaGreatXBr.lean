/- TopBranches: trees in memory, newTree, far; TopBranches: far; TopBranches: newTree of a tree; TopBranches: sorting by what a function says that may write to a map; TopBranches: DeleteFunc, the sort, branches; TopBranches: branches and time of any tree; TopBranches, walked. -/
import Derived.Test.YtocgehoffdjijaaGreatX5
import Derived.Test.YtocgehoffdjijaaGreatTB
import Derived.Test.YtocgehoffdjijaaGreatW6
/- TopBranches: trees in memory, newTree, far. -/
namespace Go.Proofs.YtocgehoffdjijaaGreat
open Gv Go.WideMaps
set_option maxRecDepth 20000
/-- Owned rows, whose blocks lie behind a place. -/
def OwnR (w : World) (lo lo2 hi : Nat) (eo ei : TypeId) (v : Value) (T : List (List Int)) : Prop :=
  ∃ vs, Gv.Own w lo eo v vs ∧ vs.length = T.length ∧ (∀ (i : Nat) (u : Value), vs[i]? = some u → OwnI w lo2 ei u (T.getD i [])) ∧
    (∀ (i j : Nat) (u u' : Value) (g : Nat), vs[i]? = some u → vs[j]? = some u' → u.ownBlock = some g → u'.ownBlock = some g → i = j) ∧
    (∀ (i : Nat) (u : Value) (g : Nat), vs[i]? = some u → u.ownBlock = some g → g < hi ∧ v.ownBlock ≠ some g) ∧ (∀ g, v.ownBlock = some g → g < hi)
theorem OwnR.tab {w : World} {lo lo2 hi : Nat} {eo ei : TypeId} {v : Value} {T : List (List Int)} (h : OwnR w lo lo2 hi eo ei v T) : Tab w v T := by
  obtain ⟨vs, h1, h2, h3, _⟩ := h
  refine ⟨vs, h2 ▸ h1.sl, fun i hi => ?_⟩
  have hi' : i < vs.length := by omega
  have := h3 i vs[i] (by simp [hi'])
  rw [show T.getD i [] = T[i] by simp [List.getD, hi]] at this
  exact ⟨vs[i], by simp [hi'], this.ints⟩
theorem OwnR.ext {w w' : World} {lo lo2 hi : Nat} {eo ei : TypeId} {v : Value} {T : List (List Int)} (h : OwnR w lo lo2 hi eo ei v T) (hc : Ext w w') : OwnR w' lo lo2 hi eo ei v T := by
  obtain ⟨vs, h1, h2, h3, h4, h5, h6⟩ := h
  exact ⟨vs, Own.ext h1 hc, h2, fun i u hu => ownsRow_ext (h3 i u hu) hc, h4, h5, h6⟩
theorem OwnR.init {w : World} {lo lo2 : Nat} {eo ei : TypeId} {v : Value} {n : Nat} (h : Gv.Own w lo eo v (List.replicate n (.slice none 0 0))) : OwnR w lo lo2 w.heap.size eo ei v (List.replicate n []) := by
  have hn : ∀ (i : Nat) (u : Value), (List.replicate n (Value.slice none 0 0))[i]? = some u → u = .slice none 0 0 := fun i u hu => by
    rw [List.getElem?_replicate] at hu
    split at hu
    · injection hu with e; exact e.symm
    · cases hu
  refine ⟨_, h, by simp, fun i u hu => ?_, fun i j u u' g hu _ hg _ => ?_, fun i u g hu hg => ?_, fun g hg => (h.lt g hg).2⟩
  · rw [hn i u hu]
    have : (List.replicate n ([] : List Int)).getD i [] = [] := by
      rw [List.getD_eq_getElem?_getD, List.getElem?_replicate]; split <;> rfl
    rw [this]; exact World.ownsRow_nil _ _ _ _
  · rw [hn i u hu] at hg; cases hg
  · rw [hn i u hu] at hg; cases hg
/-- The element of a row, as it is read. -/
theorem OwnR.row {w : World} {lo lo2 hi : Nat} {eo ei : TypeId} {p : Option Addr} {n c : Nat} {T : List (List Int)} (h : OwnR w lo lo2 hi eo ei (.slice p n c) T) {i : Nat} (hi' : i < T.length) :
    ∃ u, Gv.rd w (pidx p i 1) = some u ∧ OwnI w lo2 ei u (T.getD i []) := by
  obtain ⟨vs, h1, h2, h3, _⟩ := h
  have hiv : i < vs.length := by omega
  have hui : vs[i]? = some vs[i] := by simp [hiv]
  exact ⟨vs[i], h1.sl.rd1 i hui, h3 i _ hui⟩
/-- A row is replaced by a longer one. -/
theorem OwnR.repl {w w1 : World} {lo lo2 hi : Nat} {eo ei : TypeId} {p : Option Addr} {n c : Nat} {T : List (List Int)} (h : OwnR w lo lo2 hi eo ei (.slice p n c) T) {i : Nat} (hi' : i < T.length) {u u' : Value} {L' : List Int}
    (hu : Gv.rd w (pidx p i 1) = some u) (hO : OwnI w1 lo2 ei u' L') (hG : w.grownBy w1 u.ownBlock) (hb : ∀ g, u'.ownBlock = some g → u.ownBlock = some g ∨ w.heap.size ≤ g) (hhi : hi ≤ w.heap.size) :
    ∃ vs, Gv.Own w1 lo eo (.slice p n c) vs ∧ vs.length = T.length ∧ (∀ w2, Gv.Own w2 lo eo (.slice p n c) (vs.set i u') → w1.grownBy w2 (Value.slice p n c).ownBlock → OwnR w2 lo lo2 w2.heap.size eo ei (.slice p n c) (T.set i L')) := by
  obtain ⟨vs, h1, h2, h3, h4, h5, h6⟩ := h
  have hiv : i < vs.length := by omega
  have hui : vs[i]? = some vs[i] := by simp [hiv]
  have hui' : Gv.rd w (pidx p i 1) = some vs[i] := h1.sl.rd1 i hui
  rw [hu] at hui'
  have hvi : vs[i] = u := by injection hui' with e; exact e.symm
  rw [hvi] at hui
  have hC1 : Ch (fun k => u.ownBlock = some k) w w1 := Ch.grown hG fun k hk => hk
  have hvu : ∀ g, (Value.slice p n c).ownBlock = some g → u.ownBlock ≠ some g := fun g hg e => (h5 i u g hui e).2 hg
  have h1' : Gv.Own w1 lo eo (.slice p n c) vs := Own.keep h1 hC1 fun g hg e => hvu g hg e
  refine ⟨vs, h1', h2, fun w2 hO2 hG2 => ?_⟩
  have hC2 : Ch (fun k => (Value.slice p n c).ownBlock = some k) w1 w2 := Ch.grown hG2 fun k hk => hk
  have hsz := hC1.size
  have hsz2 := hC2.size
  have hlt : ∀ (j : Nat) (x : Value) (g : Nat), vs[j]? = some x → x.ownBlock = some g → g < w.heap.size := fun j x g hx hg => (World.ownsRow.lt (h3 j x hx) g hg).2
  have hu'w : ∀ g, u'.ownBlock = some g → (Value.slice p n c).ownBlock ≠ some g := fun g hg e => by
    rcases hb g hg with h7 | h7
    · exact (h5 i u g hui h7).2 e
    · have := h6 g e; omega
  have key : ∀ (j : Nat) (x : Value), (vs.set i u')[j]? = some x → (j = i ∧ x = u') ∨ (j ≠ i ∧ vs[j]? = some x) := fun j x hx => by
    by_cases e : j = i
    · subst e; rw [List.getElem?_set_self hiv] at hx; exact .inl ⟨rfl, by injection hx with e; exact e.symm⟩
    · rw [List.getElem?_set_ne (Ne.symm e)] at hx; exact .inr ⟨e, hx⟩
  refine ⟨vs.set i u', hO2, by simp [h2], fun j x hx => ?_, fun j k x y g hx hy hgx hgy => ?_, fun j x g hx hg => ?_, fun g hg => by have := h6 g hg; omega⟩
  · rcases key j x hx with ⟨rfl, rfl⟩ | ⟨hj, hx'⟩
    · have : (T.set j L').getD j [] = L' := by simp [List.getD, hi']
      rw [this]
      exact ownsRow_keep hO hC2 fun g hg e => hu'w g hg e
    · have : (T.set i L').getD j [] = T.getD j [] := by simp [List.getD, Ne.symm hj]
      rw [this]
      exact ownsRow_keep (ownsRow_keep (h3 j x hx') hC1 fun g hg e => hj (h4 j i x u g hx' hui hg e)) hC2 fun g hg e => (h5 j x g hx' hg).2 e
  · rcases key j x hx with ⟨rfl, rfl⟩ | ⟨hj, hx'⟩ <;> rcases key k y hy with ⟨rfl, rfl⟩ | ⟨hk, hy'⟩
    · rfl
    · rcases hb g hgx with h7 | h7
      · exact h4 _ _ _ _ g hui hy' h7 hgy
      · have := hlt k y g hy' hgy; omega
    · rcases hb g hgy with h7 | h7
      · exact h4 _ _ _ _ g hx' hui hgx h7
      · have := hlt j x g hx' hgx; omega
    · exact h4 j k x y g hx' hy' hgx hgy
  · rcases key j x hx with ⟨rfl, rfl⟩ | ⟨hj, hx'⟩
    · exact ⟨by have := (World.ownsRow.lt hO g hg).2; omega, fun e => hu'w g hg e⟩
    · exact ⟨by have := hlt j x g hx' hg; omega, (h5 j x g hx' hg).2⟩
/-- The pairs of a tree. -/
def pE (pf : Nat → Nat) (k : Nat) : List (Int × Int) := (List.range k).map fun i => ((pf (i + 1) : Int), ((i + 1 : Nat) : Int))
theorem pE_len (pf : Nat → Nat) (k : Nat) : (pE pf k).length = k := by simp [pE]
theorem pE_succ (pf : Nat → Nat) (k : Nat) : pE pf (k + 1) = pE pf k ++ [((pf (k + 1) : Int), ((k + 1 : Nat) : Int))] := by unfold pE; rw [List.range_succ, List.map_append]; rfl
theorem pE_get {pf : Nat → Nat} {k i : Nat} (h : i < k) : (pE pf k).getD i (0, 0) = ((pf (i + 1) : Int), ((i + 1 : Nat) : Int)) := by simp [pE, List.getD, h]
def pfD (L : List Int) (x : Nat) : Nat := if x < L.length then ((IntKind.u64.wrap (L.getD x 0)) % (x : Int)).toNat else x - 1
theorem pfD_ok (L : List Int) (n : Nat) : PfOk n (pfD L) := fun x h1 _ => by
  unfold pfD
  split
  · have := mod9_bnd (L.getD x 0) (n := (x : Int)) (by omega); omega
  · omega
set_option maxHeartbeats 4000000 in
theorem branches15 (N : Nat) (h1 : 1 ≤ N) (h10 : N ≤ 11) (v : Value) (L : List Int) (w : World) (h : Ints w v L) :
    Calls Tryz.prog 15 #[v, .int .i64 (N : Int)] w (Ret fun v' w' => OwnP w' w.heap.size 38 v' (pE (pfD L) (N - 1)) ∧ Ext w w') := by
  obtain ⟨q, c, rfl, _⟩ := h.slice
  refine calls_of_wc (args := [.slice q L.length c, .int .i64 (N : Int)]) Tryz.func15 rfl ?_ ?_; kernel_rfl
  repeat' (first|refine za ?_|refine zB ?_|refine zb ?_|refine zc ?_|refine ze ?_|refine zd ?_|refine zl ?_)
  refine wc_loop2 [0, 1, 4] (fun (k : Nat) (u : Value) => [(5, u), (6, .int .i64 ((k + 1 : Nat) : Int))]) (fun k u wk => k ≤ N - 1 ∧ OwnP wk w.heap.size 38 u (pE (pfD L) k) ∧ Ext w wk) (fun k _ => N - 1 - k) 0 (.slice none 0 0) rfl ⟨rfl, rfl, trivial⟩
    ⟨by omega, OwnP.nil _ _ _, Ext.refl _⟩ ?_
  rintro k u wk x ⟨hk, hO, hE⟩
  by_cases hkn : k < N - 1
  rotate_left 1
  · obtain rfl : k = N - 1 := by omega
    obtain ⟨q', c', rfl, _⟩ := hO.pairs.slice
    repeat' (first|refine za ?_|refine zA ?_|refine zB ?_|refine zb ?_|refine zc ?_|refine ze ?_|refine zd ?_|refine zC ?_|refine zY ?_|refine zm ?_|refine zn ?_|refine zg ?_|refine zj ?_)
    refine post1 (v := .slice q' (pE (pfD L) (N - 1)).length c') rfl rfl ?_
    exact ⟨hO, hE⟩
  have hk2 := h.ext hE
  have hlen := pE_len (pfD L) k
  have hps := fun (hx : k + 1 < L.length) => h.isSome (by omega)
  have hfin : ∀ (u' : Value) (w' : World), OwnP w' w.heap.size 38 u' (pE (pfD L) k ++ [(((pfD L (k + 1) : Nat) : Int), ((k + 1 : Nat) : Int))]) → wk.grownBy w' u.ownBlock → k + 1 ≤ N - 1 ∧ OwnP w' w.heap.size 38 u' (pE (pfD L) (k + 1)) ∧ Ext w w' := fun u' w' h1 h2 =>
    ⟨by omega, by rw [pE_succ]; exact h1, Ch.trans' hE (Ch.grown h2 (S := fun k => w.heap.size ≤ k) fun k e => (World.ownsRow.lt hO k e).1) fun k hk e => by omega⟩
  by_cases hx : k + 1 < L.length
  · have hp := hps hx
    have hrd := hk2.rd (i := k + 1) hx
    have hpv : (IntKind.u64.wrap (L.getD (k + 1) 0)) % ((k + 1 : Nat) : Int) = (pfD L (k + 1) : Nat) := by
      have := mod9_bnd (L.getD (k + 1) 0) (n := ((k + 1 : Nat) : Int)) (by omega)
      unfold pfD; rw [if_pos hx]; omega
    repeat' (first|refine za ?_|refine zA ?_|refine zB ?_|refine zb ?_|refine zc ?_|refine ze ?_|refine zd ?_|refine zC ?_|refine zJ ?_|refine zK ?_|refine zL ?_|refine zM ?_|refine zX ?_|refine zk ?_|refine zl ?_)
    (refine r_call_q (v := ?_) rfl ?_ ?_; rotate_left 1; focus exact mod9 (L.getD (k + 1) 0) ((k + 1 : Nat) : Int) wk (by omega))
    rw [hpv]
    repeat' (first|refine za ?_|refine zA ?_|refine zB ?_|refine zb ?_|refine ze ?_|refine zd ?_)
    refine r_build (cells := #[.int .i64 (pfD L (k + 1) : Nat), .int .i64 ((k + 1 : Nat) : Int)]) (bt38 _ _) ?_
    repeat' (refine za ?_)
    refine r_append1_p eT33 (by decide) hO rfl rfl (by omega) hE.size fun v1 w3 _ hO3 hG3 hne3 hgb3 => ?_
    repeat' (first|refine za ?_|refine zA ?_|refine zB ?_|refine zb ?_|refine ze ?_|refine zd ?_|refine zI ?_|refine zh ?_)
    exact ⟨k + 1, v1, ⟨rfl, rfl, trivial⟩, hfin v1 w3 hO3 hG3, by omega⟩
  · have hpv : ((k + 1 : Nat) : Int) - 1 = (pfD L (k + 1) : Nat) := by unfold pfD; rw [if_neg hx]; omega
    repeat' (first|refine za ?_|refine zA ?_|refine zB ?_|refine zb ?_|refine zc ?_|refine ze ?_|refine zd ?_|refine zC ?_|refine zJ ?_|refine zK ?_|refine zX ?_|refine zY ?_|refine zk ?_|refine zl ?_)
    refine r_build (cells := #[.int .i64 (pfD L (k + 1) : Nat), .int .i64 ((k + 1 : Nat) : Int)]) (by rw [← hpv]; exact bt38 _ _) ?_
    repeat' (refine za ?_)
    refine r_append1_p eT33 (by decide) hO rfl rfl (by omega) hE.size fun v1 w3 _ hO3 hG3 hne3 hgb3 => ?_
    repeat' (first|refine za ?_|refine zA ?_|refine zB ?_|refine zb ?_|refine ze ?_|refine zd ?_|refine zI ?_|refine zh ?_)
    exact ⟨k + 1, v1, ⟨rfl, rfl, trivial⟩, hfin v1 w3 hO3 hG3, by omega⟩
end Go.Proofs.YtocgehoffdjijaaGreat
/- TopBranches: far. -/
namespace Go.Proofs.YtocgehoffdjijaaGreat
open Gv Go.WideMaps
set_option maxRecDepth 20000
theorem own_ne {w : World} {base b : Nat} {t : TypeId} {v : Value} {A : List Int} {vs : List Value} (h : OwnI w base 3 v A) (hb : Blk w b t vs) (ht : t ≠ 3) : v.ownBlock ≠ some b := fun e => by
  rcases h.2 with ⟨hv, _⟩ | ⟨g, cap, cur, hv, _, hg, _⟩
  · rw [hv] at e; cases e
  · rw [hv] at e
    have e1 : g = b := by injection e
    subst e1
    rw [hb] at hg
    injection hg with e2
    injection e2 with _ e3 _
    exact ht e3
theorem own_neM {κ : Type} [DecidableEq κ] {enc : κ → Value} {w : World} {base bm : Nat} {F : κ → Option Value} {v : Value} {A : List Int} (h : OwnI w base 3 v A) (hF : MapF enc w bm F) : v.ownBlock ≠ some bm := fun e => by
  rcases h.2 with ⟨hv, _⟩ | ⟨g, cap, cur, hv, _, hg, _⟩
  · rw [hv] at e; cases e
  · rw [hv] at e
    have e1 : g = bm := by injection e
    subst e1
    exact hF.nobox hg
def nT (pf : Nat → Nat) (N k : Nat) : List (List Int) := (List.range N).map fun v => ni (nrK pf v k)
theorem nT_len (pf : Nat → Nat) (N k : Nat) : (nT pf N k).length = N := by simp [nT]
theorem nT_get {pf : Nat → Nat} {N k v : Nat} (hv : v < N) : (nT pf N k).getD v [] = ni (nrK pf v k) := by simp [nT, List.getD, hv]
theorem nT_zero (pf : Nat → Nat) (N : Nat) : nT pf N 0 = List.replicate N [] := by
  apply List.ext_getElem
  · simp [nT]
  · intro i h1 h2; simp [nT, nrK, ni]
theorem nT_row (pf : Nat → Nat) (N k i : Nat) : ((nT pf N k).getD i []).length ≤ 2 * k := by
  by_cases h : i < N
  · rw [nT_get h, ni_len]; exact nrK_len k
  · rw [List.getD_eq_getElem?_getD, List.getElem?_eq_none (by rw [nT_len]; omega)]; simp
theorem getD_setL {α : Type} {L : List α} {i j : Nat} {a d : α} (hi : i < L.length) : (L.set i a).getD j d = if j = i then a else L.getD j d := by
  by_cases e : j = i
  · subst e; simp [List.getD, hi]
  · rw [if_neg e, List.getD_eq_getElem?_getD, List.getElem?_set_ne (Ne.symm e), ← List.getD_eq_getElem?_getD]
theorem ext_getD {α : Type} {A B : List α} (d : α) (hl : A.length = B.length) (h : ∀ i, i < A.length → A.getD i d = B.getD i d) : A = B := by
  apply List.ext_getElem hl
  intro i h1 h2
  have := h i h1
  simpa [List.getD, h1, h2] using this
theorem nT_step {pf : Nat → Nat} {N k a b : Nat} (ha : a = pf (k + 1)) (hb : b = k + 1) (hab : a < b) (hbN : b < N) :
    (((nT pf N k).set a ((nT pf N k).getD a [] ++ [(b : Int)])).set b (((nT pf N k).set a ((nT pf N k).getD a [] ++ [(b : Int)])).getD b [] ++ [(a : Int)])) = nT pf N (k + 1) := by
  have hl := nT_len pf N k
  refine ext_getD [] (by simp [nT]) fun i hi => ?_
  simp only [List.length_set, hl] at hi
  rw [getD_setL (by simp [nT]; omega), getD_setL (by omega), getD_setL (by omega), nT_get (k := k + 1) hi]
  have hnr : nrK pf i (k + 1) = nrK pf i k ++ ((if a = i then [k + 1] else []) ++ (if k + 1 = i then [a] else [])) := by rw [ha]; rfl
  have hni : ∀ A B : List Nat, ni (A ++ B) = ni A ++ ni B := fun A B => by simp [ni]
  rw [hnr, hni, hni]
  by_cases e1 : i = b
  · subst e1
    rw [if_pos rfl, if_neg (by omega), nT_get hi, if_neg (by omega), if_pos hb.symm]
    simp [ni]
  · rw [if_neg e1]
    by_cases e2 : i = a
    · subst e2
      rw [if_pos rfl, nT_get hi, if_pos rfl, if_neg (by omega), ← hb]
      simp [ni]
    · rw [if_neg e2, nT_get hi, if_neg (by omega), if_neg (by omega)]
      simp [ni]
structure TrG (pf : Nat → Nat) (N : Nat) (q : Option Addr) (c bm : Nat) (F : Int × Int → Option Value) (w : World) : Prop where
  tab : Tab w (.slice q N c) (nT pf N (N - 1))
  mp : MapF encP w bm F
abbrev trG (q : Option Addr) (N c bm : Nat) : List Value := [.slice q N c, .map (some bm)]
theorem nodup_le {N : Nat} : ∀ {Q : List Nat}, Q.Nodup → (∀ v ∈ Q, v < N) → Q.length ≤ (List.range N).countP fun x => decide (x ∈ Q)
  | [], _, _ => Nat.zero_le _
  | u :: Q, hnd, hQ => by
    have hnc := List.nodup_cons.1 hnd
    have ih := nodup_le hnc.2 fun v hv => hQ v (by simp [hv])
    have h2 : 1 ≤ (List.range N).countP fun x => decide (x = u) := List.countP_pos_iff.2 ⟨u, by simpa using hQ u (by simp), by simp⟩
    have h3 := countP_two (p := fun x => decide (x ∈ Q)) (q := fun x => decide (x = u)) (r := fun x => decide (x ∈ u :: Q)) (l := List.range N)
      (fun x _ hp => decide_eq_true (by have := of_decide_eq_true hp; simp [this])) (fun x _ hq => decide_eq_true (by have := of_decide_eq_true hq; simp [this]))
      (fun x _ hpq => by
        have e1 := of_decide_eq_true hpq.1
        have e2 := of_decide_eq_true hpq.2
        subst e2; exact hnc.1 e1)
    simp only [List.length_cons]; omega
theorem nodup_lenN {N : Nat} {Q : List Nat} (h1 : Q.Nodup) (h2 : ∀ v ∈ Q, v < N) : Q.length ≤ N := by
  have := nodup_le h1 h2
  have h3 := List.countP_le_length (p := fun x => decide (x ∈ Q)) (l := List.range N)
  simp at h3; omega
/-- What has been seen of a tree. -/
structure Seen (pf : Nat → Nat) (N a : Nat) (O : List Int) (Q : List Nat) : Prop where
  len : O.length = N
  nd : Q.Nodup
  lt : ∀ v ∈ Q, v < N
  fst : a ∈ Q
  val : ∀ v, v < N → O.getD v 0 = if v ∈ Q then (dN pf N a v : Int) else -1
  pre : ∀ v ∈ Q, v ≠ a → ∃ w, w ∈ Q ∧ Adj pf w v ∧ dN pf N a v = dN pf N a w + 1
def Done (pf : Nat → Nat) (N : Nat) (Q : List Nat) (i : Nat) : Prop := ∀ j, j < i → ∀ u, u < N → Adj pf u (Q.getD j 0) → u ∈ Q
theorem getD_memN {Q : List Nat} {i : Nat} (h : i < Q.length) : Q.getD i 0 ∈ Q := by rw [List.getD_eq_getElem?_getD, List.getElem?_eq_getElem h]; exact List.getElem_mem h
theorem Seen.next {pf : Nat → Nat} {N a : Nat} {O : List Int} {Q : List Nat} (hpf : PfOk N pf) (ha : a < N) (h : Seen pf N a O Q) {u v : Nat} (hv : v ∈ Q) (hu : u < N) (hua : Adj pf u v) (hn : u ∉ Q) :
    O.getD v 0 + 1 = dN pf N a u ∧ Seen pf N a (O.set u (O.getD v 0 + 1)) (Q ++ [u]) := by
  have hvN := h.lt v hv
  have hd : dN pf N a u = dN pf N a v + 1 := by
    rcases dN_adj hpf ha hu hvN hua with h1 | h1
    · exact h1
    · exfalso
      have hva : v ≠ a := by rintro rfl; rw [dN_self] at h1; omega
      obtain ⟨w, hw, hwa, hwd⟩ := h.pre v hv hva
      have := dN_pred hpf ha hvN hu (h.lt w hw) hua hwa h1 hwd
      subst this; exact hn hw
  have hval : O.getD v 0 + 1 = dN pf N a u := by rw [h.val v hvN, if_pos hv]; omega
  refine ⟨hval, by rw [List.length_set]; exact h.len, List.nodup_append.2 ⟨h.nd, by simp, fun x hx y hy => by simp at hy; subst hy; rintro rfl; exact hn hx⟩, fun x hx => ?_, by simp [h.fst], fun x hx => ?_, fun x hx hxa => ?_⟩
  · rcases List.mem_append.1 hx with hx | hx
    · exact h.lt x hx
    · simp at hx; subst hx; exact hu
  · rw [getD_setL (by rw [h.len]; exact hu)]
    by_cases e : x = u
    · subst e; rw [if_pos rfl, if_pos (by simp)]; exact hval
    · rw [if_neg e, h.val x hx]
      have : x ∈ Q ++ [u] ↔ x ∈ Q := by simp [e]
      simp only [this]
  · rcases List.mem_append.1 hx with hx | hx
    · obtain ⟨w, hw, h1, h2⟩ := h.pre x hx hxa
      exact ⟨w, by simp [hw], h1, h2⟩
    · simp at hx; subst hx
      exact ⟨v, by simp [hv], hua.symm, hd⟩
theorem Seen.all {pf : Nat → Nat} {N a : Nat} {O : List Int} {Q : List Nat} (hpf : PfOk N pf) (ha : a < N) (h : Seen pf N a O Q) (hd : Done pf N Q Q.length) : O = (List.range N).map fun y => (dN pf N a y : Int) := by
  have hall := reach_all hpf (Q := fun v => v ∈ Q) ha h.fst fun v u hv hu hvQ hua => by
    obtain ⟨j, hj, e⟩ := List.getElem_of_mem hvQ
    exact hd j hj u hu (by rw [List.getD_eq_getElem?_getD, List.getElem?_eq_getElem hj]; simpa [e] using hua)
  refine ext_getD 0 (by rw [h.len]; simp) fun i hi => ?_
  rw [h.len] at hi
  rw [h.val i hi, if_pos (hall i hi)]
  simp [List.getD, hi]
def fillN (N i : Nat) : List Int := List.replicate i (-1) ++ List.replicate (N - i) 0
theorem fillN_len {N i : Nat} (h : i ≤ N) : (fillN N i).length = N := by simp [fillN]; omega
theorem fillN_set {N i : Nat} (h : i < N) : (fillN N i).set i (-1) = fillN N (i + 1) := by
  unfold fillN
  rw [List.set_append_right _ _ (by simp), List.length_replicate, Nat.sub_self, show N - i = (N - (i + 1)) + 1 by omega, List.replicate_succ, List.set_cons_zero, List.replicate_succ', List.append_assoc]
  simp
theorem seen_start {pf : Nat → Nat} {N a : Nat} (ha : a < N) : Seen pf N a ((fillN N N).set a 0) [a] := by
  refine ⟨by rw [List.length_set, fillN_len (Nat.le_refl _)], by simp, fun v hv => by simp at hv; omega, by simp, fun v hv => ?_, fun v hv hva => by simp at hv; exact absurd hv hva⟩
  rw [getD_setL (by rw [fillN_len (Nat.le_refl _)]; exact ha)]
  by_cases e : v = a
  · subst e; simp [dN_self]
  · rw [if_neg e, if_neg (by simp [e])]
    simp [fillN, List.getD, hv]
theorem TrG.ext {pf : Nat → Nat} {N : Nat} {q : Option Addr} {c bm : Nat} {F : Int × Int → Option Value} {w w' : World} (h : TrG pf N q c bm F w) (hE : Ext w w') : TrG pf N q c bm F w' := ⟨h.tab.ext hE, h.mp.ext hE⟩
set_option maxHeartbeats 8000000 in
theorem farG (pf : Nat → Nat) (N : Nat) (h1 : 1 ≤ N) (h10 : N ≤ 11) (hpf : PfOk N pf) (a : Nat) (ha : a < N) (qn : Option Addr) (cn bm : Nat) (F : Int × Int → Option Value) (w : World) (h : TrG pf N qn cn bm F w) :
    Calls Tryz.prog 46 #[.agg (trG qn N cn bm).toArray, .int .i64 (a : Int)] w (Ret fun v w' => OwnI w' w.heap.size 3 v ((List.range N).map fun y => (dN pf N a y : Int)) ∧ Ext w w') := by
  refine calls_of_wc (args := [.agg (trG qn N cn bm).toArray, .int .i64 (a : Int)]) Tryz.func46 rfl ?_ ?_; kernel_rfl
  repeat' (first|refine za ?_|refine zc ?_|refine zd ?_)
  refine r_boxN (cells := trG qn N cn bm) rfl fun w1 hb2 hE1 hs1 => ?_
  obtain ⟨b2, eb2⟩ : ∃ b, b = w.heap.size := ⟨_, rfl⟩
  rw [← eb2] at hb2 ⊢
  have g0 : rd w1 (some ⟨b2, 0 + 0, none⟩) = some (.slice qn N cn) := hb2.rd rfl
  repeat' (first|refine za ?_|refine zB ?_|refine zb ?_|refine zc ?_|refine ze ?_|refine zd ?_)
  refine r_fa fo97_0 rfl ?_
  repeat' (first|refine za ?_|refine zK ?_|refine zM ?_)
  refine r_make_i (n := N) el27 rfl rfl (by omega) fun w2 ho2 hE2 hlt2 => ?_
  obtain ⟨go, ego⟩ : ∃ b, b = w1.heap.size := ⟨_, rfl⟩
  rw [← ego] at ho2 hlt2 ⊢
  have hof : OwnI w2 go 3 (.slice (some ⟨go, 0, none⟩) N N) (fillN N 0) := ho2
  repeat' (first|refine za ?_|refine zA ?_|refine zB ?_|refine zb ?_|refine zc ?_|refine ze ?_|refine zd ?_|refine zK ?_|refine zl ?_)
  refine wc_loop [0, 1, 2, 4, 5, 16] (fun (i : Nat) => [(17, .int .i64 i)]) (fun i wk => i ≤ N ∧ OwnI wk go 3 (.slice (some ⟨go, 0, none⟩) N N) (fillN N i) ∧ Ch (fun k => k = go) w2 wk) (fun i => N - i) 0 rfl ⟨rfl, trivial⟩ ⟨by omega, hof, Ch.refl _ _⟩ ?_
  rintro i wk x ⟨hi, hok, hCk⟩
  by_cases hin : i < N
  · repeat' (first|refine za ?_|refine zA ?_|refine zB ?_|refine zb ?_|refine zc ?_|refine ze ?_|refine zd ?_|refine zC ?_|refine zL ?_|refine zX ?_|refine zk ?_|refine zl ?_)
    refine r_st_i (i := i) (a := -1) co3 hok rfl rfl (by rw [fillN_len (by omega)]; omega) fun w4 h4 hG hs4 => ?_
    rw [fillN_set hin] at h4
    repeat' (first|refine za ?_|refine zA ?_|refine zb ?_|refine ze ?_|refine zd ?_|refine zI ?_|refine zh ?_)
    exact ⟨i + 1, ⟨rfl, trivial⟩, ⟨by omega, h4, hCk.trans (Ch.grown hG fun k e => by cases e; rfl)⟩, by omega⟩
  obtain rfl : N = i := by omega
  clear hin hof ho2
  have hEk : Ext w1 wk := Ch.trans' hE2 hCk fun k hk e => by omega
  repeat' (first|refine za ?_|refine zA ?_|refine zb ?_|refine zc ?_|refine ze ?_|refine zd ?_|refine zC ?_|refine zL ?_|refine zY ?_|refine zm ?_|refine zg ?_|refine zj ?_)
  refine r_st_i (i := a) (a := 0) co3 hok rfl rfl (by rw [fillN_len (by omega)]; omega) fun w4 h4 hG4 hs4 => ?_
  have hE4 : Ext w1 w4 := Ch.trans' hEk (Ch.grown hG4 (S := fun k => k = go) fun k e => by cases e; rfl) fun k hk e => by omega
  have hgo4 : go < w4.heap.size := (h4.lt _ rfl).2
  repeat' (first|refine za ?_|refine zA ?_|refine zb ?_|refine zc ?_|refine ze ?_|refine zd ?_)
  refine r_buildS1 el27 (u := .int .i64 (a : Int)) rfl rfl fun w5 h5 hE5 hs5 => ?_
  obtain ⟨b5, eb5⟩ : ∃ b, b = w4.heap.size := ⟨_, rfl⟩
  rw [← eb5] at h5 ⊢
  have hq5 : OwnI w5 b5 3 (.slice (some ⟨b5, 0, none⟩) 1 1) (ni [a]) := h5
  have hE15 := hE4.trans hE5
  have hb5 : b5 < w5.heap.size := (h5.lt _ rfl).2
  have hO5 : OwnI w5 go 3 (.slice (some ⟨go, 0, none⟩) N N) ((fillN N N).set a 0) := ownsRow_ext h4 hE5
  repeat' (first|refine za ?_|refine zB ?_|refine zb ?_|refine zc ?_|refine ze ?_|refine zd ?_|refine zl ?_)
  refine wc_loop4 [1, 2, 4, 5] (fun (i : Nat) (v : Value) (_ : List Int) (_ : List Nat) => [(7, v), (8, .int .i64 i)]) (fun i v O Q wz => i ≤ Q.length ∧ Seen pf N a O Q ∧ Done pf N Q i ∧ OwnI wz go 3 (.slice (some ⟨go, 0, none⟩) N N) O ∧ OwnI wz b5 3 v (ni Q) ∧ Ext w1 wz ∧ w5.heap.size ≤ wz.heap.size) (fun i _ _ _ => N - i) 0 (.slice (some ⟨b5, 0, none⟩) 1 1) _ _ rfl ⟨rfl, rfl, trivial⟩
    ⟨by simp, seen_start ha, fun j hj => by omega, hO5, hq5, hE15, Nat.le_refl _⟩ ?_
  rintro i v O Q wz y ⟨hi, hS, hD, hoz, hqz, hEz, hsz⟩
  have hQN := nodup_lenN hS.nd hS.lt
  obtain ⟨qv, cv, ev', _⟩ := hqz.ints.slice
  rw [ni_len] at ev'
  subst ev'
  by_cases hi2 : i < Q.length
  rotate_left 1
  · obtain rfl : i = Q.length := by omega
    have hO := hS.all hpf ha hD
    repeat' (first|refine za ?_|refine zA ?_|refine zB ?_|refine zb ?_|refine zc ?_|refine ze ?_|refine zd ?_|refine zC ?_|refine zK ?_|refine zY ?_|refine zm ?_|refine zn ?_|refine zg ?_|refine zj ?_)
    refine post1 (v := .slice (some ⟨go, 0, none⟩) N N) rfl rfl ?_
    rw [← hO]
    exact ⟨ownsRow_mono hoz (by omega), hE1.trans hEz⟩
  have hz := h.ext (hE1.trans hEz)
  have hzd := hz.ext (Ext.drew wz)
  have hb2d : Blk wz.drew b2 97 (trG qn N cn bm) := (hb2.ext hEz).ext (Ext.drew wz)
  obtain ⟨V, hV⟩ : ∃ V, V = Q.getD i 0 := ⟨_, rfl⟩
  have hVQ : V ∈ Q := by rw [hV]; exact getD_memN hi2
  have hVN := hS.lt V hVQ
  have hpv := hqz.ints.isSome (by rw [ni_len]; omega)
  have hrq := (hqz.ints.ext (Ext.drew wz)).rd (i := i) (by rw [ni_len]; omega)
  rw [ni_get, ← hV] at hrq
  obtain ⟨qr, mr, hrr0, hRr⟩ := h.tab.rd (i := V) (by rw [nT_len]; exact hVN)
  rw [nT_get hVN] at hrr0 hRr
  have hrr := rd_ext hrr0 ((hE1.trans hEz).trans (Ext.drew wz))
  have hqs : qn.isSome = true := hz.tab.isSome (by rw [nT_len]; omega)
  obtain ⟨nb, hnb⟩ : ∃ nb, nb = nrK pf V (N - 1) := ⟨_, rfl⟩
  rw [← hnb, ni_len] at hrr hRr hrr0
  have hnbl : nb.length ≤ 100 := by rw [hnb]; have := nrK_len (pf := pf) (v := V) (N - 1); omega
  repeat' (first|refine za ?_|refine zA ?_|refine zb ?_|refine zc ?_|refine ze ?_|refine zd ?_|refine zC ?_|refine zK ?_|refine zX ?_|refine zk ?_|refine zl ?_)
  refine wc_heldB (fun w' => Ext wz.drew w') (.take 0 (.take 1 (.take 2 (.take 3 (.take 4 (.take 5 (.take 6 (.take 7 (.take 8 (.take 9 .done)))))))))) (by kernel_rfl) (by kernel_rfl) (Ext.refl _) ?_
  refine whB_take rfl rfl (fun w' hw' => rv_fa fo97_0 rfl) ?_
  refine whB_take (v := .slice qn N cn) rfl rfl (fun w' hw' => rv_ld ct35 rfl ((hb2d.ext hw').rd rfl)) ?_
  refine whB_take (v := .slice qv Q.length cv) rfl rfl (fun w' hw' => rv_move_v rfl) ?_
  refine whB_take (v := .int .i64 (i : Int)) rfl rfl (fun w' hw' => rv_move_v rfl) ?_
  refine whB_take rfl rfl (fun w' hw' => rv_idx sz27 rfl rfl hpv (by omega) (by omega)) ?_
  refine whB_take (v := .int .i64 (V : Int)) rfl rfl (fun w' hw' => rv_ld ct3 rfl (rd_ext hrq hw')) ?_
  refine whB_take rfl rfl (fun w' hw' => rv_idx sz35 rfl rfl hqs (by omega) (by omega)) ?_
  refine whB_take (v := .slice qr nb.length mr) rfl rfl (fun w' hw' => rv_ld ct27 rfl (rd_ext hrr hw')) ?_
  refine whB_take (v := .int .i64 (nb.length : Int)) rfl rfl (fun w' hw' => rv_of rfl (fun _ h => r_len (by kernel_rfl) rfl h) fun _ _ h => val_of h) ?_
  refine whB_take (v := .int .i64 0) rfl rfl (fun w' hw' => rv_move_v rfl) ?_
  refine whB_done ?_
  repeat' (first|refine ze ?_|refine zl ?_)
  refine wc_loop4 [1, 2, 4, 5, 8, 42, 43] (fun (j : Nat) (v : Value) (_ : List Int) (_ : List Nat) => [(7, v), (44, .int .i64 j)]) (fun j v O Q wy => j ≤ nb.length ∧ i < Q.length ∧ Q.getD i 0 = V ∧ (∀ j', j' < j → nb.getD j' 0 ∈ Q) ∧ Seen pf N a O Q ∧ Done pf N Q i ∧ OwnI wy go 3 (.slice (some ⟨go, 0, none⟩) N N) O ∧ OwnI wy b5 3 v (ni Q) ∧ Ext w1 wy ∧ w5.heap.size ≤ wy.heap.size) (fun j _ _ _ => nb.length - j) 0 (.slice qv Q.length cv) O Q rfl ⟨rfl, rfl, trivial⟩
    ⟨by omega, hi2, hV.symm, fun j' hj' => by omega, hS, hD, ownsRow_ext hoz (Ext.drew wz), ownsRow_ext hqz (Ext.drew wz), hEz.trans (Ext.drew wz), hsz⟩ ?_
  clear hi hS hD hoz hqz hEz hsz hQN hpv hi2 hVQ hV hz hzd hb2d hrq hrr hrr0
  rintro j v O Q wy y2 ⟨hj, hi2, hV, hnbQ, hS, hD, hoy, hqy, hEy, hsy⟩
  have hRy := hRr.ext (hE1.trans hEy)
  obtain ⟨qv, cv, ev', _⟩ := hqy.ints.slice
  rw [ni_len] at ev'
  subst ev'
  by_cases hjn : j < nb.length
  rotate_left 1
  · obtain rfl : j = nb.length := by omega
    have hD1 : Done pf N Q (i + 1) := fun j' hj' u hu hua => by
      by_cases e : j' = i
      · subst e
        rw [hV] at hua
        have hun : u ∈ nb := by rw [hnb]; exact (nr_iff hpf hVN).2 ⟨hu, hua⟩
        obtain ⟨k, hk, e⟩ := List.getElem_of_mem hun
        have := hnbQ k hk
        rw [List.getD_eq_getElem?_getD, List.getElem?_eq_getElem hk] at this
        simpa [e] using this
      · exact hD j' (by omega) u hu hua
    have hQl1 := nodup_lenN hS.nd hS.lt
    repeat' (first|refine za ?_|refine zA ?_|refine zB ?_|refine zb ?_|refine zc ?_|refine ze ?_|refine zd ?_|refine zC ?_|refine zI ?_|refine zY ?_|refine zm ?_|refine zg ?_|refine zj ?_|refine zh ?_)
    exact ⟨i + 1, _, O, Q, ⟨rfl, rfl, trivial⟩, ⟨by omega, hS, hD1, hoy, hqy, hEy, hsy⟩, by have := nodup_lenN hS.nd hS.lt; omega⟩
  obtain ⟨U, hU⟩ : ∃ U, U = nb.getD j 0 := ⟨_, rfl⟩
  have hUm : U ∈ nb := by rw [hU]; exact getD_memN hjn
  rw [hnb] at hUm
  obtain ⟨hUN, hUa⟩ := (nr_iff hpf hVN).1 hUm
  have hru := hRy.rd (i := j) (by rw [ni_len]; exact hjn)
  rw [ni_get, ← hU] at hru
  have hpr := hRy.isSome (by rw [ni_len]; omega)
  have hOl := hS.len
  have hou := hoy.ints.rd (i := U) (by omega)
  have hval := hS.val U hUN
  have hVQ : V ∈ Q := by rw [← hV]; exact getD_memN hi2
  have hnext : ∀ (Q' : List Nat), Q <+: Q' → U ∈ Q' → ∀ j', j' < j + 1 → nb.getD j' 0 ∈ Q' := fun Q' hQ hU' j' hj' => by
    by_cases e : j' = j
    · subst e; rw [← hU]; exact hU'
    · exact hQ.subset (hnbQ j' (by omega))
  by_cases hUQ : U ∈ Q
  · rw [if_pos hUQ] at hval
    rw [hval] at hou
    repeat' (first|refine za ?_|refine zA ?_|refine zB ?_|refine zb ?_|refine zc ?_|refine ze ?_|refine zd ?_|refine zC ?_|refine zI ?_|refine zL ?_|refine zM ?_|refine zX ?_|refine zY ?_|refine zk ?_|refine zl ?_|refine zh ?_)
    exact ⟨j + 1, _, O, Q, ⟨rfl, rfl, trivial⟩, ⟨by omega, hi2, hV, hnext Q (List.prefix_refl _) hUQ, hS, hD, hoy, hqy, hEy, hsy⟩, by omega⟩
  · rw [if_neg hUQ] at hval
    rw [hval] at hou
    obtain ⟨hdu, hS'⟩ := hS.next hpf ha hVQ hUN hUa hUQ
    have hvV := hS.val V hVN
    rw [if_pos hVQ] at hvV
    have hov := hoy.ints.rd (i := V) (by omega)
    rw [hvV] at hov
    rw [hvV] at hS'
    have hdb := dN_bnd hpf ha hVN
    have hrq := hqy.ints.rd (i := i) (by rw [ni_len]; exact hi2)
    rw [ni_get, hV] at hrq
    have hpv := hqy.ints.isSome (by rw [ni_len]; omega)
    have hQl := nodup_lenN hS.nd hS.lt
    repeat' (first|refine za ?_|refine zA ?_|refine zB ?_|refine zb ?_|refine zc ?_|refine ze ?_|refine zd ?_|refine zC ?_|refine zI ?_|refine zL ?_|refine zM ?_|refine zX ?_|refine zk ?_|refine zl ?_)
    refine r_st_i (i := U) (a := (dN pf N a V : Int) + 1) co3 hoy rfl rfl (by omega) fun w7 h7 hG7 hs7 => ?_
    have hC7 : Ch (fun k => k = go) wy w7 := Ch.grown hG7 fun k e => by cases e; rfl
    have hq7 : OwnI w7 b5 3 (.slice qv Q.length cv) (ni Q) := ownsRow_keep hqy hC7 fun g hg e => by have := (hqy.lt g hg).1; omega
    have hE7 : Ext w1 w7 := Ch.trans' hEy hC7 fun k hk e => by omega
    repeat' (first|refine za ?_|refine zA ?_|refine zb ?_|refine ze ?_|refine zd ?_)
    refine r_append1_i (a := (U : Int)) el27 hq7 rfl rfl (by rw [ni_len]; omega) (by have := hC7.size; omega) fun v8 w8 qx h8 hG8 hne8 hgb8 => ?_
    have hC8 : Ch (fun k => (Value.slice qv Q.length cv).ownBlock = some k) w7 w8 := Ch.grown hG8 fun k e => e
    have hge : ∀ k, (Value.slice qv Q.length cv).ownBlock = some k → b5 ≤ k := fun k e => (hq7.lt k e).1
    have h78 : OwnI w8 go 3 (.slice (some ⟨go, 0, none⟩) N N) (O.set U ((dN pf N a V : Int) + 1)) := ownsRow_keep h7 hC8 fun g hg e => by cases hg; have := hge _ e; change b5 ≤ go at this; omega
    have hni : ni Q ++ [(U : Int)] = ni (Q ++ [U]) := by simp [ni]
    rw [hni] at h8
    have hE8 : Ext w1 w8 := Ch.trans' hE7 hC8 (fun k hk e => by have := hge _ e; have := hE4.size; omega)
    have hD' : Done pf N (Q ++ [U]) i := fun j' hj' u hu hua => by
      have e : (Q ++ [U]).getD j' 0 = Q.getD j' 0 := by simp [List.getD, List.getElem?_append, show j' < Q.length by omega]
      rw [e] at hua
      exact List.mem_append_left _ (hD j' hj' u hu hua)
    repeat' (first|refine za ?_|refine zA ?_|refine zB ?_|refine zb ?_|refine ze ?_|refine zd ?_|refine zI ?_|refine zh ?_)
    exact ⟨j + 1, v8, _, _, ⟨rfl, rfl, trivial⟩, ⟨by omega, by simp; omega, by rw [← hV]; simp [List.getD, List.getElem?_append, hi2], hnext _ (List.prefix_append _ _) (by simp), hS', hD', h78, h8, hE8, by have := hC7.size; have := hC8.size; omega⟩, by omega⟩
end Go.Proofs.YtocgehoffdjijaaGreat
/- TopBranches: newTree of a tree. -/
namespace Go.Proofs.YtocgehoffdjijaaGreat
open Gv Go.WideMaps
set_option maxRecDepth 20000
theorem OwnR.tabKeep {w w' : World} {lo lo2 hi b : Nat} {eo : TypeId} {v : Value} {T : List (List Int)} (h : OwnR w lo lo2 hi eo 3 v T) (hc : Ch (fun k => k = b) w w') (h1 : ∀ g, v.ownBlock = some g → g ≠ b)
    (h2 : ∀ (u : Value) (A : List Int), OwnI w lo2 3 u A → u.ownBlock ≠ some b) : Tab w' v T := by
  obtain ⟨vs, a1, a2, a3, _⟩ := h
  refine ⟨vs, a2 ▸ (Own.keep a1 hc h1).sl, fun i hi => ?_⟩
  have hi' : i < vs.length := by omega
  have := a3 i vs[i] (by simp [hi'])
  rw [show T.getD i [] = T[i] by simp [List.getD, hi]] at this
  exact ⟨vs[i], by simp [hi'], this.ints.keep hc fun g hg e => h2 _ _ this (by rw [hg, e])⟩
set_option maxHeartbeats 16000000 in
theorem newTreeG (pf : Nat → Nat) (N : Nat) (h1 : 1 ≤ N) (h10 : N ≤ 11) (hpf : PfOk N pf) (q : Option Addr) (c : Nat) (w : World) (h : Pairs2 w (.slice q (N - 1) c) (pE pf (N - 1))) :
    Calls Tryz.prog 44 #[.int .i64 (N : Int), .slice q (N - 1) c] w (Ret fun v w' => ∃ bn bm, v = .tuple #[.agg (trG (some ⟨bn, 0, none⟩) N N bm).toArray, .bool true] ∧ TrG pf N (some ⟨bn, 0, none⟩) N bm (fun _ => none) w' ∧ w.heap.size ≤ bm ∧ Ext w w') := by
  refine calls_of_wc (args := [.int .i64 (N : Int), .slice q (N - 1) c]) Tryz.func44 rfl ?_ ?_; kernel_rfl
  repeat' (first|refine za ?_|refine zc ?_|refine zd ?_)
  refine r_allocN z97 fun w1 hb4 hE1 hs1 => ?_
  obtain ⟨b4, eb4⟩ : ∃ b, b = w.heap.size := ⟨_, rfl⟩
  rw [← eb4] at hb4 ⊢
  repeat' (first|refine za ?_|refine zA ?_|refine zB ?_|refine zb ?_|refine zc ?_|refine ze ?_|refine zd ?_)
  (refine r_call_q (v := ?_) rfl ?_ ?_; rotate_left 1; focus exact within45 N 1 30 true w1 (by rw [decide_eq_true ⟨by omega, by omega⟩]))
  repeat' (first|refine za ?_|refine zA ?_|refine zb ?_|refine zc ?_|refine ze ?_|refine zd ?_|refine zH ?_|refine zJ ?_|refine zK ?_|refine zO ?_|refine zR ?_|refine zU ?_|refine zY ?_|refine zk ?_)
  refine r_make_v (n := N) el35 rfl (by decide) rfl rfl (by omega) fun w2 hM2 hE2 hs2 => ?_
  obtain ⟨bn, ebn⟩ : ∃ b, b = w1.heap.size := ⟨_, rfl⟩
  rw [← ebn] at hM2 hs2 ⊢
  repeat' (refine za ?_)
  refine r_makeMap encP fun w3 hF3 hE3 hs3 => ?_
  obtain ⟨bm, ebm⟩ : ∃ b, b = w2.heap.size := ⟨_, rfl⟩
  rw [← ebm] at hF3 ⊢
  repeat' (refine za ?_)
  refine r_build (cells := #[.slice (some ⟨bn, 0, none⟩) N N, .map (some bm)]) (bt97 _ _ rfl rfl) ?_
  repeat' (refine za ?_)
  refine r_allocN z97 fun w4 hb6 hE4 hs4 => ?_
  obtain ⟨b6, eb6⟩ : ∃ b, b = w3.heap.size := ⟨_, rfl⟩
  rw [← eb6] at hb6 ⊢
  repeat' (refine za ?_)
  refine r_stN (ws := trG (some ⟨bn, 0, none⟩) N N bm) ag97 (by decide) hb6 rfl rfl rfl rfl (by intro q hq; simp at hq; rcases hq with rfl | rfl <;> rfl) fun w5 h6 hC5 hs5 => ?_
  have hE13 : Ext w1 w3 := hE2.trans hE3
  have hE35 : Ext w3 w5 := Ch.trans' hE4 hC5 fun k hk e => by omega
  have hE05 : Ext w w5 := (hE1.trans hE13).trans hE35
  have hbn1 : bn < w2.heap.size := (hM2.lt _ rfl).2
  have hord : b4 < bn ∧ bn < bm ∧ bm < b6 ∧ w.heap.size ≤ b4 := ⟨by omega, by omega, by omega, by omega⟩
  have hR5 : OwnR w5 bn w.heap.size w2.heap.size 27 3 (.slice (some ⟨bn, 0, none⟩) N N) (nT pf N 0) := by rw [nT_zero]; exact (OwnR.init hM2).ext (hE3.trans hE35)
  have hF5 : MapF encP w5 bm (fun _ => none) := hF3.ext hE35
  have h45 := hb4.ext (hE13.trans hE35)
  have hhi5 : w2.heap.size ≤ w5.heap.size := (hE3.trans hE35).size
  clear hM2 hF3 hb4 hb6 hC5
  repeat' (first|refine za ?_|refine zA ?_|refine zb ?_|refine zc ?_|refine ze ?_|refine zd ?_|refine zK ?_|refine zl ?_)
  refine wc_loop2 [0, 1, 4, 6, 24, 25] (fun (i : Nat) (_ : Nat) => [(5, .bool false), (26, .int .i64 i)]) (fun i hi wk => i ≤ N - 1 ∧ OwnR wk bn w.heap.size hi 27 3 (.slice (some ⟨bn, 0, none⟩) N N) (nT pf N i) ∧ hi ≤ wk.heap.size ∧ MapF encP wk bm (fun _ => none) ∧ Blk wk b6 97 (trG (some ⟨bn, 0, none⟩) N N bm) ∧ Blk wk b4 97 [.slice none 0 0, .map none] ∧ Ext w wk) (fun i _ => N - 1 - i) 0 w2.heap.size rfl ⟨rfl, rfl, trivial⟩
    ⟨by omega, hR5, hhi5, hF5, h6, h45, hE05⟩ ?_
  clear hR5 hF5 h6 h45 hhi5 hE05 hE35 hE13
  rintro k hi wk x ⟨hk, hRk, hhik, hFk, h6k, h4k, hE0k⟩
  by_cases hin : k < N - 1
  rotate_left 1
  · obtain rfl : k = N - 1 := by omega
    have hT : TrG pf N (some ⟨bn, 0, none⟩) N bm (fun _ => none) wk := ⟨hRk.tab, hFk⟩
    repeat' (first|refine za ?_|refine zb ?_|refine zc ?_|refine ze ?_|refine zd ?_|refine zC ?_|refine zY ?_|refine zm ?_|refine zg ?_|refine zj ?_)
    have hTd := hT.ext (Ext.drew wk)
    have h6d := h6k.ext (Ext.drew wk)
    refine wc_heldB (fun w' => Blk w' b6 97 (trG (some ⟨bn, 0, none⟩) N N bm)) (.take 0 (.take 1 (.one 2 (.one 3 (.take 4 (.one 5 (.one 6 .done))))))) (by kernel_rfl) (by kernel_rfl) h6d ?_
    refine whB_take (v := .agg (trG (some ⟨bn, 0, none⟩) N N bm).toArray) rfl rfl (fun w' hw' => rv_of rfl (fun _ h => r_ldN (vs := trG (some ⟨bn, 0, none⟩) N N bm) ag97 (by decide) hw' rfl rfl h) fun _ _ h => val_of h) ?_
    refine whB_take (v := .agg (trG (some ⟨bn, 0, none⟩) N N bm).toArray) rfl rfl (fun w' hw' => rv_of rfl (fun _ h => r_ldN (vs := trG (some ⟨bn, 0, none⟩) N N bm) ag97 (by decide) hw' rfl rfl h) fun _ _ h => val_of h) ?_
    refine whB_one rfl rfl ?_
    (refine r_call (R := ?_) rfl ?_ ?_; rotate_left 1; focus exact farG pf N h1 h10 hpf 0 (by omega) (some ⟨bn, 0, none⟩) N bm (fun _ => none) wk.drew hTd)
    rintro v wa ⟨hv, hEa⟩
    refine ⟨h6d.ext hEa, whB_one rfl rfl ?_⟩
    obtain ⟨qv, cv, rfl, _⟩ := hv.ints.slice
    (refine r_call (R := ?_) rfl ?_ ?_; rotate_left 1; focus exact Bg.contains_any _ _ (-1) wa hv.ints (by simp; omega))
    rintro v wb ⟨hv2, rfl⟩
    rw [decide_eq_false (by rintro ⟨i, g1, g2⟩; simp only [List.length_map, List.length_range] at g1; simp [List.getD, g1] at g2)] at hv2
    subst hv2
    have hEb := (Ext.drew wk).trans hEa
    refine ⟨h6d.ext hEa, whB_take (v := .bool true) rfl rfl (fun w' hw' => rv_of rfl (fun _ h => r_not (b := false) rfl h) fun _ _ h => val_of h) (whB_one rfl rfl ?_)⟩
    refine r_stN (ws := trG (some ⟨bn, 0, none⟩) N N bm) ag97 (by decide) (h4k.ext hEb) rfl rfl rfl rfl (by intro q hq; simp at hq; rcases hq with rfl | rfl <;> rfl) fun wc h4c hCc hsc => ?_
    refine ⟨(h6k.ext hEb).keep hCc (by omega), whB_one rfl rfl ?_⟩
    refine r_assign_v (v := .bool true) rfl ?_
    refine ⟨(h6k.ext hEb).keep hCc (by omega), whB_done ?_⟩
    have hEc : Ext w wc := Ch.trans' (hE0k.trans hEb) hCc fun k hk e => by omega
    have hEk2 : Ch (fun k => k = b4) wk wc := Ch.trans' (Ext.ch hEb) hCc fun k _ e => e
    have hTc : TrG pf N (some ⟨bn, 0, none⟩) N bm (fun _ => none) wc := ⟨hRk.tabKeep hEk2 (fun g hg e => by cases hg; change bn = b4 at e; omega) (fun u A hu => own_ne hu h4k (by decide)), hFk.keep hEk2 (by omega)⟩
    repeat' (first|refine ze ?_|refine zn ?_)
    refine post_c2 (v := .bool true) rfl rfl rfl ag97 (by decide) h4c rfl ?_
    exact ⟨bn, bm, rfl, hTc, by omega, hEc⟩
  have hPk := h.ext hE0k
  obtain ⟨g0, g1⟩ := hPk.rd (i := k) (by rw [pE_len]; omega)
  rw [pE_get hin] at g0 g1
  have hps := h.isSome (by rw [pE_len]; omega)
  obtain ⟨a, ha⟩ : ∃ a, a = pf (k + 1) := ⟨_, rfl⟩
  obtain ⟨b, hb⟩ : ∃ b, b = k + 1 := ⟨_, rfl⟩
  have hab : a < b := by rw [ha, hb]; exact hpf (k + 1) (by omega) (by omega)
  have hbN : b < N := by omega
  rw [← ha] at g0
  rw [← hb] at g1
  dsimp only at g0 g1
  repeat' (first|refine za ?_|refine zb ?_|refine zc ?_|refine ze ?_|refine zd ?_|refine zC ?_|refine zL ?_|refine zX ?_|refine zk ?_|refine zl ?_)
  refine r_ldP ag38 rfl g0 g1 ?_
  repeat' (refine za ?_)
  refine r_allocN z38 fun w6 hb8 hE6 hs6 => ?_
  obtain ⟨b8, eb8⟩ : ∃ b, b = wk.heap.size := ⟨_, rfl⟩
  rw [← eb8] at hb8 ⊢
  repeat' (refine za ?_)
  refine r_stN (ws := [.int .i64 (a : Nat), .int .i64 (b : Nat)]) ag38 (by decide) hb8 rfl rfl rfl rfl (by intro q hq; simp at hq; rcases hq with rfl | rfl <;> rfl) fun w7 h87 hC7 hs7 => ?_
  have hE7 : Ext wk w7 := Ch.trans' hE6 hC7 fun k hk e => by omega
  have hb8' : b6 < b8 := by have := h6k.lt; omega
  clear hb8 hC7
  have k0 : rd w7 (some ⟨b8, 0, none⟩) = some (.int .i64 (a : Nat)) := h87.rd (k := 0) rfl
  have k1 : rd w7 (some ⟨b8, 1, none⟩) = some (.int .i64 (b : Nat)) := h87.rd (k := 1) rfl
  repeat' (first|refine za ?_|refine zb ?_|refine zc ?_|refine ze ?_|refine zd ?_)
  refine r_idxA ar38 rfl rfl (by omega) (by omega) ?_
  repeat' (first|refine za ?_|refine zA ?_|refine zJ ?_|refine zM ?_)
  (refine r_call_q (v := ?_) rfl ?_ ?_; rotate_left 1; focus exact within45 (a : Nat) 0 ((N : Int) - 1) true w7 (by rw [decide_eq_true ⟨by omega, by omega⟩]))
  repeat' (first|refine za ?_|refine zA ?_|refine zO ?_|refine zU ?_)
  refine r_idxA ar38 rfl rfl (by omega) (by omega) ?_
  repeat' (first|refine zA ?_|refine zJ ?_|refine zM ?_|refine zU ?_)
  (refine r_call_q (v := ?_) rfl ?_ ?_; rotate_left 1; focus exact within45 (b : Nat) 0 ((N : Int) - 1) true w7 (by rw [decide_eq_true ⟨by omega, by omega⟩]))
  repeat' (first|refine za ?_|refine zA ?_|refine zO ?_|refine zR ?_|refine zU ?_)
  refine r_idxA ar38 rfl rfl (by omega) (by omega) ?_
  repeat' (first|refine zM ?_|refine zU ?_)
  refine r_idxA ar38 rfl rfl (by omega) (by omega) ?_
  repeat' (first|refine za ?_|refine zb ?_|refine zc ?_|refine ze ?_|refine zG ?_|refine zM ?_|refine zR ?_|refine zU ?_|refine zY ?_|refine zk ?_)
  have hR7 := hRk.ext hE7
  have h67 := h6k.ext hE7
  have hF7 := hFk.ext hE7
  have h47 := h4k.ext hE7
  have hE07 := hE0k.trans hE7
  have hhi7 : hi ≤ w7.heap.size := Nat.le_trans hhik hE7.size
  have hTl7 := nT_len pf N k
  have hlen7 : ∀ i, ((nT pf N k).getD i []).length ≤ 100 := fun i => by have := nT_row pf N k i; omega
  clear hRk h6k hFk h4k hE7 hhik
  have hEde := Ext.drew w7
  obtain ⟨ue, hrowe, hOue⟩ := (hR7.ext hEde).row (i := a) (by rw [hTl7]; omega)
  refine wc_heldB (fun w' => Gv.rd w' (some ⟨b6, 0, none⟩) = some (.slice (some ⟨bn, 0, none⟩) N N) ∧ Gv.rd w' (some ⟨b8, 0, none⟩) = some (.int .i64 (a : Nat)) ∧ Gv.rd w' (some ⟨b8, 1, none⟩) = some (.int .i64 (b : Nat))) (.take 0 (.take 1 (.take 2 (.take 3 (.take 4 (.take 5 (.take 6 (.take 7 (.take 8 (.take 10 (.take 11 (.two 9 (.one 12 (.one 13 (.take 14 (.one 15 .done)))) 12 (.one 9 (.one 13 (.take 14 (.one 15 .done)))))))))))))))) (by kernel_rfl) (by kernel_rfl) ⟨(h67.ext hEde).rd rfl, (h87.ext hEde).rd rfl, (h87.ext hEde).rd rfl⟩ ?_
  refine whB_take rfl rfl (fun w' hw' => rv_fa fo97_0 rfl) ?_
  refine whB_take (v := .slice (some ⟨bn, 0, none⟩) N N) rfl rfl (fun w' hw' => rv_ld ct35 rfl hw'.1) ?_
  refine whB_take (v := .pointer (some ⟨b8, 0, none⟩)) rfl rfl (fun w' hw' => rv_of rfl (fun _ h => r_idxA ar38 rfl rfl (by omega) (by omega) h) fun _ _ h => val_of h) ?_
  refine whB_take (v := .int .i64 ((a : Nat) : Int)) rfl rfl (fun w' hw' => rv_ld ct3 rfl hw'.2.1) ?_
  refine whB_take rfl rfl (fun w' hw' => rv_fa fo97_0 rfl) ?_
  refine whB_take (v := .slice (some ⟨bn, 0, none⟩) N N) rfl rfl (fun w' hw' => rv_ld ct35 rfl hw'.1) ?_
  refine whB_take (v := .pointer (some ⟨b8, 0, none⟩)) rfl rfl (fun w' hw' => rv_of rfl (fun _ h => r_idxA ar38 rfl rfl (by omega) (by omega) h) fun _ _ h => val_of h) ?_
  refine whB_take (v := .int .i64 ((a : Nat) : Int)) rfl rfl (fun w' hw' => rv_ld ct3 rfl hw'.2.1) ?_
  refine whB_take rfl rfl (fun w' hw' => rv_idx sz35 rfl rfl rfl (by omega) (by omega)) ?_
  refine whB_take (v := .pointer (some ⟨b8, 1, none⟩)) rfl rfl (fun w' hw' => rv_of rfl (fun _ h => r_idxA ar38 rfl rfl (by omega) (by omega) h) fun _ _ h => val_of h) ?_
  refine whB_take (v := .int .i64 ((b : Nat) : Int)) rfl rfl (fun w' hw' => rv_ld ct3 rfl hw'.2.2) ?_
  refine whB_two rfl rfl rfl rfl ?_ ?_
  focus
    refine r_ld ct27 rfl hrowe ?_
    refine ⟨⟨(h67.ext hEde).rd rfl, (h87.ext hEde).rd rfl, (h87.ext hEde).rd rfl⟩, whB_one rfl rfl ?_⟩
    refine r_buildI1 (a := ((b : Nat) : Int)) el27 rfl fun wae hBae hEae hsae => ?_
    have hEdae := hEde.trans hEae
    refine ⟨⟨(h67.ext hEdae).rd rfl, (h87.ext hEdae).rd rfl, (h87.ext hEdae).rd rfl⟩, whB_one rfl rfl ?_⟩
    have hOuae := OwnI.ext hOue hEae
    have g6e := own_ne hOuae (h67.ext hEdae) (by decide)
    have g8e := own_ne hOuae (h87.ext hEdae) (by decide)
    have g4e := own_ne hOuae (h47.ext hEdae) (by decide)
    have gme := own_neM hOuae (hF7.ext hEdae)
    refine r_append_i (base := w.heap.size) el27 hOuae hBae rfl rfl (by have := hlen7 a; simp only [List.length_singleton]; omega) (hE07.trans hEdae).size fun ve wbe hObe hGbe hnbe hgbe => ?_
    have hCbe : Ch (fun k => ue.ownBlock = some k) wae wbe := Ch.grown hGbe fun k e => e
    have h6be := (h67.ext hEdae).keep hCbe g6e
    have h8be := (h87.ext hEdae).keep hCbe g8e
    have h4be := (h47.ext hEdae).keep hCbe g4e
    have hFbe := (hF7.ext hEdae).keep hCbe gme
    obtain ⟨vse, hMbe, hvle, hrepe⟩ := OwnR.repl (hR7.ext hEdae) (i := a) (by rw [hTl7]; omega) (rd_ext hrowe hEae) hObe hGbe hgbe (Nat.le_trans hhi7 hEdae.size)
    refine ⟨⟨h6be.rd rfl, h8be.rd rfl, h8be.rd rfl⟩, ?_⟩
    refine whB_take rfl rfl (fun w' hw' => rv_idx sz35 rfl rfl rfl (by omega) (by omega)) (whB_one rfl rfl ?_)
    refine r_st_v (i := a) (u := ve) co27 hMbe rfl rfl (by obtain ⟨q9, m9, e9, _⟩ := hObe.ints.slice; rw [e9]; rfl) (by rw [hvle, hTl7]; omega) fun wce hMce hGce hsce => ?_
    have hCce : Ch (fun k => k = bn) wbe wce := Ch.grown hGce fun k e => by cases e; rfl
    have h6e := h6be.keep hCce (by omega)
    have h8e := h8be.keep hCce (by omega)
    have h4e := h4be.keep hCce (by omega)
    have hFe := hFbe.keep hCce (by omega)
    have hRe := hrepe wce hMce hGce
    have hE0e : Ext w wce := Ch.trans' (Ch.trans' (hE07.trans hEdae) hCbe (fun k hk e => by have := (World.ownsRow.lt hOuae k e).1; omega)) hCce fun k hk e => by omega
    refine ⟨⟨h6e.rd rfl, h8e.rd rfl, h8e.rd rfl⟩, whB_done ?_⟩
  rotate_left 1
  focus
    refine r_buildI1 (a := ((b : Nat) : Int)) el27 rfl fun wae hBae hEae hsae => ?_
    have hEdae := hEde.trans hEae
    refine ⟨⟨(h67.ext hEdae).rd rfl, (h87.ext hEdae).rd rfl, (h87.ext hEdae).rd rfl⟩, whB_one rfl rfl ?_⟩
    refine r_ld ct27 rfl (rd_ext hrowe hEae) ?_
    refine ⟨⟨(h67.ext hEdae).rd rfl, (h87.ext hEdae).rd rfl, (h87.ext hEdae).rd rfl⟩, whB_one rfl rfl ?_⟩
    have hOuae := OwnI.ext hOue hEae
    have g6e := own_ne hOuae (h67.ext hEdae) (by decide)
    have g8e := own_ne hOuae (h87.ext hEdae) (by decide)
    have g4e := own_ne hOuae (h47.ext hEdae) (by decide)
    have gme := own_neM hOuae (hF7.ext hEdae)
    refine r_append_i (base := w.heap.size) el27 hOuae hBae rfl rfl (by have := hlen7 a; simp only [List.length_singleton]; omega) (hE07.trans hEdae).size fun ve wbe hObe hGbe hnbe hgbe => ?_
    have hCbe : Ch (fun k => ue.ownBlock = some k) wae wbe := Ch.grown hGbe fun k e => e
    have h6be := (h67.ext hEdae).keep hCbe g6e
    have h8be := (h87.ext hEdae).keep hCbe g8e
    have h4be := (h47.ext hEdae).keep hCbe g4e
    have hFbe := (hF7.ext hEdae).keep hCbe gme
    obtain ⟨vse, hMbe, hvle, hrepe⟩ := OwnR.repl (hR7.ext hEdae) (i := a) (by rw [hTl7]; omega) (rd_ext hrowe hEae) hObe hGbe hgbe (Nat.le_trans hhi7 hEdae.size)
    refine ⟨⟨h6be.rd rfl, h8be.rd rfl, h8be.rd rfl⟩, ?_⟩
    refine whB_take rfl rfl (fun w' hw' => rv_idx sz35 rfl rfl rfl (by omega) (by omega)) (whB_one rfl rfl ?_)
    refine r_st_v (i := a) (u := ve) co27 hMbe rfl rfl (by obtain ⟨q9, m9, e9, _⟩ := hObe.ints.slice; rw [e9]; rfl) (by rw [hvle, hTl7]; omega) fun wce hMce hGce hsce => ?_
    have hCce : Ch (fun k => k = bn) wbe wce := Ch.grown hGce fun k e => by cases e; rfl
    have h6e := h6be.keep hCce (by omega)
    have h8e := h8be.keep hCce (by omega)
    have h4e := h4be.keep hCce (by omega)
    have hFe := hFbe.keep hCce (by omega)
    have hRe := hrepe wce hMce hGce
    have hE0e : Ext w wce := Ch.trans' (Ch.trans' (hE07.trans hEdae) hCbe (fun k hk e => by have := (World.ownsRow.lt hOuae k e).1; omega)) hCce fun k hk e => by omega
    refine ⟨⟨h6e.rd rfl, h8e.rd rfl, h8e.rd rfl⟩, whB_done ?_⟩
  all_goals
    have hTle : ((nT pf N k).set a ((nT pf N k).getD a [] ++ [(b : Int)])).length = N := by rw [List.length_set]; exact hTl7
    have hlene : ∀ i, (((nT pf N k).set a ((nT pf N k).getD a [] ++ [(b : Int)])).getD i []).length ≤ 101 := fun i => by
      rw [getD_setL (by rw [hTl7]; omega)]
      have h9 := hlen7 a
      have h8 := hlen7 i
      split
      · rw [List.length_append, List.length_singleton]; omega
      · omega
    have hhie : wce.heap.size ≤ wce.heap.size := Nat.le_refl _
    repeat' (refine ze ?_)
    have hEdf := Ext.drew wce
    obtain ⟨uf, hrowf, hOuf⟩ := (hRe.ext hEdf).row (i := b) (by rw [hTle]; omega)
    refine wc_heldB (fun w' => Gv.rd w' (some ⟨b6, 0, none⟩) = some (.slice (some ⟨bn, 0, none⟩) N N) ∧ Gv.rd w' (some ⟨b8, 0, none⟩) = some (.int .i64 (a : Nat)) ∧ Gv.rd w' (some ⟨b8, 1, none⟩) = some (.int .i64 (b : Nat))) (.take 0 (.take 1 (.take 2 (.take 3 (.take 4 (.take 5 (.take 6 (.take 7 (.take 8 (.take 10 (.take 11 (.two 9 (.one 12 (.one 13 (.take 14 (.one 15 .done)))) 12 (.one 9 (.one 13 (.take 14 (.one 15 .done)))))))))))))))) (by kernel_rfl) (by kernel_rfl) ⟨(h6e.ext hEdf).rd rfl, (h8e.ext hEdf).rd rfl, (h8e.ext hEdf).rd rfl⟩ ?_
    refine whB_take rfl rfl (fun w' hw' => rv_fa fo97_0 rfl) ?_
    refine whB_take (v := .slice (some ⟨bn, 0, none⟩) N N) rfl rfl (fun w' hw' => rv_ld ct35 rfl hw'.1) ?_
    refine whB_take (v := .pointer (some ⟨b8, 1, none⟩)) rfl rfl (fun w' hw' => rv_of rfl (fun _ h => r_idxA ar38 rfl rfl (by omega) (by omega) h) fun _ _ h => val_of h) ?_
    refine whB_take (v := .int .i64 ((b : Nat) : Int)) rfl rfl (fun w' hw' => rv_ld ct3 rfl hw'.2.2) ?_
    refine whB_take rfl rfl (fun w' hw' => rv_fa fo97_0 rfl) ?_
    refine whB_take (v := .slice (some ⟨bn, 0, none⟩) N N) rfl rfl (fun w' hw' => rv_ld ct35 rfl hw'.1) ?_
    refine whB_take (v := .pointer (some ⟨b8, 1, none⟩)) rfl rfl (fun w' hw' => rv_of rfl (fun _ h => r_idxA ar38 rfl rfl (by omega) (by omega) h) fun _ _ h => val_of h) ?_
    refine whB_take (v := .int .i64 ((b : Nat) : Int)) rfl rfl (fun w' hw' => rv_ld ct3 rfl hw'.2.2) ?_
    refine whB_take rfl rfl (fun w' hw' => rv_idx sz35 rfl rfl rfl (by omega) (by omega)) ?_
    refine whB_take (v := .pointer (some ⟨b8, 0, none⟩)) rfl rfl (fun w' hw' => rv_of rfl (fun _ h => r_idxA ar38 rfl rfl (by omega) (by omega) h) fun _ _ h => val_of h) ?_
    refine whB_take (v := .int .i64 ((a : Nat) : Int)) rfl rfl (fun w' hw' => rv_ld ct3 rfl hw'.2.1) ?_
    refine whB_two rfl rfl rfl rfl ?_ ?_
    focus
      refine r_ld ct27 rfl hrowf ?_
      refine ⟨⟨(h6e.ext hEdf).rd rfl, (h8e.ext hEdf).rd rfl, (h8e.ext hEdf).rd rfl⟩, whB_one rfl rfl ?_⟩
      refine r_buildI1 (a := ((a : Nat) : Int)) el27 rfl fun waf hBaf hEaf hsaf => ?_
      have hEdaf := hEdf.trans hEaf
      refine ⟨⟨(h6e.ext hEdaf).rd rfl, (h8e.ext hEdaf).rd rfl, (h8e.ext hEdaf).rd rfl⟩, whB_one rfl rfl ?_⟩
      have hOuaf := OwnI.ext hOuf hEaf
      have g6f := own_ne hOuaf (h6e.ext hEdaf) (by decide)
      have g8f := own_ne hOuaf (h8e.ext hEdaf) (by decide)
      have g4f := own_ne hOuaf (h4e.ext hEdaf) (by decide)
      have gmf := own_neM hOuaf (hFe.ext hEdaf)
      refine r_append_i (base := w.heap.size) el27 hOuaf hBaf rfl rfl (by have := hlene b; simp only [List.length_singleton]; omega) (hE0e.trans hEdaf).size fun vf wbf hObf hGbf hnbf hgbf => ?_
      have hCbf : Ch (fun k => uf.ownBlock = some k) waf wbf := Ch.grown hGbf fun k e => e
      have h6bf := (h6e.ext hEdaf).keep hCbf g6f
      have h8bf := (h8e.ext hEdaf).keep hCbf g8f
      have h4bf := (h4e.ext hEdaf).keep hCbf g4f
      have hFbf := (hFe.ext hEdaf).keep hCbf gmf
      obtain ⟨vsf, hMbf, hvlf, hrepf⟩ := OwnR.repl (hRe.ext hEdaf) (i := b) (by rw [hTle]; omega) (rd_ext hrowf hEaf) hObf hGbf hgbf (Nat.le_trans hhie hEdaf.size)
      refine ⟨⟨h6bf.rd rfl, h8bf.rd rfl, h8bf.rd rfl⟩, ?_⟩
      refine whB_take rfl rfl (fun w' hw' => rv_idx sz35 rfl rfl rfl (by omega) (by omega)) (whB_one rfl rfl ?_)
      refine r_st_v (i := b) (u := vf) co27 hMbf rfl rfl (by obtain ⟨q9, m9, e9, _⟩ := hObf.ints.slice; rw [e9]; rfl) (by rw [hvlf, hTle]; omega) fun wcf hMcf hGcf hscf => ?_
      have hCcf : Ch (fun k => k = bn) wbf wcf := Ch.grown hGcf fun k e => by cases e; rfl
      have h6f := h6bf.keep hCcf (by omega)
      have h8f := h8bf.keep hCcf (by omega)
      have h4f := h4bf.keep hCcf (by omega)
      have hFf := hFbf.keep hCcf (by omega)
      have hRf := hrepf wcf hMcf hGcf
      have hE0f : Ext w wcf := Ch.trans' (Ch.trans' (hE0e.trans hEdaf) hCbf (fun k hk e => by have := (World.ownsRow.lt hOuaf k e).1; omega)) hCcf fun k hk e => by omega
      refine ⟨⟨h6f.rd rfl, h8f.rd rfl, h8f.rd rfl⟩, whB_done ?_⟩
    rotate_left 1
    focus
      refine r_buildI1 (a := ((a : Nat) : Int)) el27 rfl fun waf hBaf hEaf hsaf => ?_
      have hEdaf := hEdf.trans hEaf
      refine ⟨⟨(h6e.ext hEdaf).rd rfl, (h8e.ext hEdaf).rd rfl, (h8e.ext hEdaf).rd rfl⟩, whB_one rfl rfl ?_⟩
      refine r_ld ct27 rfl (rd_ext hrowf hEaf) ?_
      refine ⟨⟨(h6e.ext hEdaf).rd rfl, (h8e.ext hEdaf).rd rfl, (h8e.ext hEdaf).rd rfl⟩, whB_one rfl rfl ?_⟩
      have hOuaf := OwnI.ext hOuf hEaf
      have g6f := own_ne hOuaf (h6e.ext hEdaf) (by decide)
      have g8f := own_ne hOuaf (h8e.ext hEdaf) (by decide)
      have g4f := own_ne hOuaf (h4e.ext hEdaf) (by decide)
      have gmf := own_neM hOuaf (hFe.ext hEdaf)
      refine r_append_i (base := w.heap.size) el27 hOuaf hBaf rfl rfl (by have := hlene b; simp only [List.length_singleton]; omega) (hE0e.trans hEdaf).size fun vf wbf hObf hGbf hnbf hgbf => ?_
      have hCbf : Ch (fun k => uf.ownBlock = some k) waf wbf := Ch.grown hGbf fun k e => e
      have h6bf := (h6e.ext hEdaf).keep hCbf g6f
      have h8bf := (h8e.ext hEdaf).keep hCbf g8f
      have h4bf := (h4e.ext hEdaf).keep hCbf g4f
      have hFbf := (hFe.ext hEdaf).keep hCbf gmf
      obtain ⟨vsf, hMbf, hvlf, hrepf⟩ := OwnR.repl (hRe.ext hEdaf) (i := b) (by rw [hTle]; omega) (rd_ext hrowf hEaf) hObf hGbf hgbf (Nat.le_trans hhie hEdaf.size)
      refine ⟨⟨h6bf.rd rfl, h8bf.rd rfl, h8bf.rd rfl⟩, ?_⟩
      refine whB_take rfl rfl (fun w' hw' => rv_idx sz35 rfl rfl rfl (by omega) (by omega)) (whB_one rfl rfl ?_)
      refine r_st_v (i := b) (u := vf) co27 hMbf rfl rfl (by obtain ⟨q9, m9, e9, _⟩ := hObf.ints.slice; rw [e9]; rfl) (by rw [hvlf, hTle]; omega) fun wcf hMcf hGcf hscf => ?_
      have hCcf : Ch (fun k => k = bn) wbf wcf := Ch.grown hGcf fun k e => by cases e; rfl
      have h6f := h6bf.keep hCcf (by omega)
      have h8f := h8bf.keep hCcf (by omega)
      have h4f := h4bf.keep hCcf (by omega)
      have hFf := hFbf.keep hCcf (by omega)
      have hRf := hrepf wcf hMcf hGcf
      have hE0f : Ext w wcf := Ch.trans' (Ch.trans' (hE0e.trans hEdaf) hCbf (fun k hk e => by have := (World.ownsRow.lt hOuaf k e).1; omega)) hCcf fun k hk e => by omega
      refine ⟨⟨h6f.rd rfl, h8f.rd rfl, h8f.rd rfl⟩, whB_done ?_⟩
    all_goals
      have hRz := hRf
      rw [nT_step ha hb hab hbN] at hRz
      repeat' (first|refine za ?_|refine zA ?_|refine zb ?_|refine ze ?_|refine zd ?_|refine zI ?_|refine zh ?_)
      exact ⟨k + 1, _, ⟨rfl, rfl, trivial⟩, ⟨by omega, hRz, Nat.le_refl _, hFf, h6f, h4f, hE0f⟩, by omega⟩
set_option maxHeartbeats 4000000 in
theorem FarG (pf : Nat → Nat) (N : Nat) (h1 : 1 ≤ N) (h10 : N ≤ 11) (hpf : PfOk N pf) (a : Nat) (ha : a < N) (q : Option Addr) (c : Nat) (w : World) (h : Pairs2 w (.slice q (N - 1) c) (pE pf (N - 1))) :
    Calls Tryz.prog 16 #[.int .i64 (N : Int), .slice q (N - 1) c, .int .i64 (a : Int)] w (Ret fun v w' => ∃ u, v = .tuple #[u, .int .i64 0] ∧ OwnI w' w.heap.size 3 u ((List.range N).map fun y => (dN pf N a y : Int)) ∧ Ext w w') := by
  refine calls_of_wc (args := [.int .i64 (N : Int), .slice q (N - 1) c, .int .i64 (a : Int)]) Tryz.func16 rfl ?_ ?_; kernel_rfl
  repeat' (first|refine za ?_|refine zA ?_|refine zB ?_|refine zb ?_|refine zc ?_|refine ze ?_|refine zd ?_)
  (refine r_call (R := ?_) rfl ?_ ?_; rotate_left 1; focus exact newTreeG pf N h1 h10 hpf q c w h)
  rintro _ w1 ⟨bn, bm, rfl, hT, hbm, hE1⟩
  repeat' (first|refine za ?_|refine zA ?_|refine zS ?_)
  refine r_allocN z97 fun w2 hb8 hE2 hs2 => ?_
  obtain ⟨b8, eb8⟩ : ∃ b, b = w1.heap.size := ⟨_, rfl⟩
  rw [← eb8] at hb8 ⊢
  repeat' (refine za ?_)
  refine r_stN (ws := trG (some ⟨bn, 0, none⟩) N N bm) ag97 (by decide) hb8 rfl rfl rfl rfl (by intro q hq; simp at hq; rcases hq with rfl | rfl <;> rfl) fun w3 h8 hC3 hs3 => ?_
  have hE3 : Ext w1 w3 := Ch.trans' hE2 hC3 fun k hk e => by omega
  repeat' (first|refine za ?_|refine zA ?_|refine zB ?_|refine zb ?_|refine zc ?_|refine ze ?_|refine zd ?_|refine zJ ?_|refine zO ?_|refine zU ?_)
  (refine r_call_q (v := ?_) rfl ?_ ?_; rotate_left 1; focus exact within45 (a : Nat) 0 ((N : Int) - 1) true w3 (by rw [decide_eq_true ⟨by omega, by omega⟩]))
  repeat' (first|refine za ?_|refine zb ?_|refine zc ?_|refine ze ?_|refine zd ?_|refine zO ?_|refine zR ?_|refine zU ?_|refine zY ?_|refine zk ?_)
  refine r_ldN (vs := trG (some ⟨bn, 0, none⟩) N N bm) ag97 (by decide) h8 rfl rfl ?_
  repeat' (first|refine za ?_|refine zA ?_)
  (refine r_call (R := ?_) rfl ?_ ?_; rotate_left 1; focus exact farG pf N h1 h10 hpf a ha (some ⟨bn, 0, none⟩) N bm (fun _ => none) w3 (hT.ext hE3))
  rintro v w4 ⟨hv, hE4⟩
  obtain ⟨qv, cv, ev, _⟩ := hv.ints.slice
  subst ev
  repeat' (first|refine za ?_|refine zB ?_|refine zb ?_|refine ze ?_|refine zn ?_)
  refine post2 (v1 := .slice qv ((List.range N).map fun y => (dN pf N a y : Int)).length cv) (v2 := .int .i64 0) rfl rfl rfl ?_
  have hE := (hE1.trans hE3)
  exact ⟨_, rfl, ownsRow_mono hv hE.size, hE.trans hE4⟩
theorem post_c22 {P : Program} {ρ : Env} {w : World} {fn : Func} {R : Value → World → Prop} {c u1 u2 b n : Nat} {t t' : TypeId} {vs : List Value} {v1 v2 : Value} (h : fn.results = #[.cell c t, .tmp u1, .tmp u2]) (hc : ρ c = .pointer (some ⟨b, 0, none⟩)) (h1' : ρ u1 = v1) (h2' : ρ u2 = v2) (hsz : aggT P t n = true) (h0 : 0 < n) (hb : Blk w b t' vs) (hl : vs.length = n)
    (hR : R (.tuple #[.agg vs.toArray, v1, v2]) w) (hm : ρ 1000000 = mkv [] := by exact rfl) (hc' : c ≠ 1000000 := by decide) (hu1 : u1 ≠ 1000000 := by decide) (hu2 : u2 ≠ 1000000 := by decide) : post P fn R .ret ρ w := by
  refine postM hm (fun tmps ht => ?_) hR
  have h1 := ht c hc'
  have h2 := ht u1 hu1
  have h3 := ht u2 hu2
  simp only [Array.getD_eq_getD_getElem?] at h1 h2 h3
  simp [results, h, h1, h2, h3, hc, h1', h2', asAddr, run_loadVarN hsz h0 hb hl]
theorem ag41 : aggT Tryz.prog 41 3 = true := by kernel_rfl
theorem z41 : (Tryz.prog.info? 41).bind (·.zero) = some (.agg [.int .i64 0, .int .i64 0, .int .i64 0].toArray) := by kernel_rfl
theorem bt41 : Tryz.prog.built 41 [] = some #[.int .i64 0, .int .i64 0, .int .i64 0] := by kernel_rfl
set_option maxHeartbeats 8000000 in
theorem Metric_any (T : List (List Int)) (hM : Miles T) (htri : ∀ i j k, i < T.length → j < T.length → k < T.length → dT T i k ≤ dT T i j + dT T j k) (q : Option Addr) (c : Nat) (w : World) (h : Tab w (.slice q T.length c) T) :
    Calls Tryz.prog 17 #[.slice q T.length c] w (Ret fun v w' => v = .tuple #[.agg #[.int .i64 0, .int .i64 0, .int .i64 0], .bool true, .int .i64 0] ∧ Ext w w') := by
  have h1 := hM.n1
  have h11 := hM.n11
  have hps := h.isSome (by omega)
  refine calls_of_wc (args := [.slice q T.length c]) Tryz.func17 rfl ?_ ?_; kernel_rfl
  repeat' (first|refine za ?_|refine zc ?_|refine zd ?_)
  refine r_allocN z41 fun w1 hb2 hE1 hs1 => ?_
  obtain ⟨b2, eb2⟩ : ∃ b, b = w.heap.size := ⟨_, rfl⟩
  rw [← eb2] at hb2 ⊢
  have h2 := h.ext hE1
  repeat' (first|refine za ?_|refine zA ?_|refine zB ?_|refine zb ?_|refine zc ?_|refine ze ?_|refine zd ?_)
  (refine r_call_q (v := ?_) rfl ?_ ?_; rotate_left 1; focus exact isMiles_any q c T w1 h2 hM)
  repeat' (first|refine za ?_|refine zA ?_|refine zb ?_|refine zc ?_|refine ze ?_|refine zd ?_|refine zK ?_|refine zO ?_|refine zY ?_|refine zk ?_|refine zl ?_)
  refine wc_loop [0, 2, 13] (fun (i : Nat) => [(3, .bool false), (4, .int .i64 0), (14, .int .i64 i)]) (fun i wk => i ≤ T.length ∧ Ext w1 wk) (fun i => T.length - i) 0 rfl ⟨rfl, rfl, rfl, trivial⟩ ⟨by omega, Ext.refl _⟩ ?_
  rintro i wk x ⟨hi, hE⟩
  by_cases hin : i < T.length
  rotate_left 1
  · repeat' (first|refine za ?_|refine zb ?_|refine zc ?_|refine ze ?_|refine zd ?_|refine zC ?_|refine zY ?_|refine zm ?_|refine zg ?_|refine zj ?_)
    refine r_build (cells := #[.int .i64 0, .int .i64 0, .int .i64 0]) bt41 ?_
    repeat' (refine za ?_)
    refine r_stN (ws := [.int .i64 0, .int .i64 0, .int .i64 0]) ag41 (by decide) (hb2.ext hE) rfl rfl rfl rfl (by intro q hq; simp at hq; subst hq; rfl) fun w3 h3 hC3 hs3 => ?_
    repeat' (first|refine za ?_|refine zB ?_|refine zb ?_|refine ze ?_|refine zn ?_)
    refine post_c22 (v1 := .bool true) (v2 := .int .i64 0) rfl rfl rfl rfl ag41 (by decide) h3 rfl ?_
    exact ⟨rfl, Ch.trans' (hE1.trans hE) hC3 fun k hk e => by omega⟩
  repeat' (first|refine za ?_|refine zA ?_|refine zB ?_|refine zb ?_|refine zc ?_|refine ze ?_|refine zd ?_|refine zC ?_|refine zK ?_|refine zX ?_|refine zk ?_|refine zl ?_)
  refine wc_loop [0, 2, 5, 13, 14, 18] (fun (j : Nat) => [(3, .bool false), (4, .int .i64 0), (19, .int .i64 j)]) (fun j wy => j ≤ T.length ∧ Ext w1 wy) (fun j => T.length - j) 0 rfl ⟨rfl, rfl, rfl, trivial⟩ ⟨by omega, hE⟩ ?_
  clear hE wk
  rintro j wk y ⟨hj, hE⟩
  by_cases hjn : j < T.length
  rotate_left 1
  · repeat' (first|refine za ?_|refine zA ?_|refine zb ?_|refine zc ?_|refine ze ?_|refine zd ?_|refine zC ?_|refine zI ?_|refine zY ?_|refine zm ?_|refine zg ?_|refine zj ?_|refine zh ?_)
    exact ⟨i + 1, ⟨rfl, rfl, rfl, trivial⟩, ⟨by omega, hE⟩, by omega⟩
  repeat' (first|refine za ?_|refine zA ?_|refine zB ?_|refine zb ?_|refine zc ?_|refine ze ?_|refine zd ?_|refine zC ?_|refine zK ?_|refine zX ?_|refine zk ?_|refine zl ?_)
  refine wc_loop [0, 2, 5, 6, 13, 14, 18, 19, 23] (fun (k : Nat) => [(3, .bool false), (4, .int .i64 0), (24, .int .i64 k)]) (fun k wy => k ≤ T.length ∧ Ext w1 wy) (fun k => T.length - k) 0 rfl ⟨rfl, rfl, rfl, trivial⟩ ⟨by omega, hE⟩ ?_
  clear hE wk
  rintro k wk z ⟨hk, hE⟩
  by_cases hkn : k < T.length
  rotate_left 1
  · repeat' (first|refine za ?_|refine zA ?_|refine zb ?_|refine zc ?_|refine ze ?_|refine zd ?_|refine zC ?_|refine zI ?_|refine zY ?_|refine zm ?_|refine zg ?_|refine zj ?_|refine zh ?_)
    exact ⟨j + 1, ⟨rfl, rfl, rfl, trivial⟩, ⟨by omega, hE⟩, by omega⟩
  have hd := h2.ext (hE.trans (Ext.drew wk))
  obtain ⟨qi, mi, ri, Ri⟩ := hd.rd hin
  obtain ⟨qj, mj, rj, Rj⟩ := hd.rd hjn
  have li := hM.row i hin
  have lj := hM.row j hjn
  have c1 := Ri.rd (i := k) (by omega)
  have c2 := Ri.rd (i := j) (by omega)
  have c3 := Rj.rd (i := k) (by omega)
  have p1 := Ri.isSome (by omega)
  have p2 := Rj.isSome (by omega)
  have b1 := hM.rng i k hin hkn
  have b2 := hM.rng i j hin hjn
  have b3 := hM.rng j k hjn hkn
  have ht := htri i j k hin hjn hkn
  change rd wk.drew (pidx qi k 1) = some (.int .i64 (dT T i k)) at c1
  change rd wk.drew (pidx qi j 1) = some (.int .i64 (dT T i j)) at c2
  change rd wk.drew (pidx qj k 1) = some (.int .i64 (dT T j k)) at c3
  repeat' (first|refine za ?_|refine zA ?_|refine zB ?_|refine zb ?_|refine zc ?_|refine ze ?_|refine zd ?_|refine zC ?_|refine zX ?_|refine zk ?_|refine zl ?_)
  (refine wc_drawn 22 (by kernel_rfl) (by kernel_rfl) ?_; simp only [List.take_succ_cons, List.take_zero, List.drop_succ_cons, List.drop_zero])
  repeat' (first|refine za ?_|refine zA ?_|refine zb ?_|refine ze ?_|refine zd ?_|refine zE ?_|refine zI ?_|refine zL ?_|refine zM ?_|refine zY ?_|refine zk ?_|refine zh ?_)
  exact ⟨k + 1, ⟨rfl, rfl, rfl, trivial⟩, ⟨by omega, hE.trans (Ext.drew wk)⟩, by omega⟩
end Go.Proofs.YtocgehoffdjijaaGreat
/- TopBranches: sorting by what a function says that may write to a map. -/
namespace Go.Proofs.YtocgehoffdjijaaGreat
open Gv Go.WideMaps
set_option maxRecDepth 20000
theorem nan172 (a : Int) (w : World) : Calls Tryz.prog 172 #[.int .i64 a] w (Ret fun v w' => v = .bool false ∧ w' = w) := by
  refine calls_of_wc (args := [.int .i64 a]) Tryz.func172 rfl ?_ ?_; kernel_rfl
  repeat' (first|refine za ?_|refine zA ?_|refine zB ?_|refine zb ?_|refine zc ?_|refine ze ?_|refine zd ?_|refine zH ?_|refine zn ?_)
  all_goals first
    | (exfalso; omega)
    | (refine post1 (v := .bool false) rfl rfl ?_
       exact ⟨rfl, rfl⟩)
theorem cmp139 (a b : Int) (w : World) : Calls Tryz.prog 139 #[.int .i64 a, .int .i64 b] w (Ret fun v w' => (∃ c, v = .int .i64 c) ∧ w' = w) := by
  refine calls_of_wc (args := [.int .i64 a, .int .i64 b]) Tryz.func139 rfl ?_ ?_; kernel_rfl
  repeat' (first|refine za ?_|refine zA ?_|refine zB ?_|refine zb ?_|refine zc ?_|refine ze ?_|refine zd ?_)
  (refine r_call_q (v := ?_) rfl ?_ ?_; rotate_left 1; focus exact nan172 a w)
  repeat' (first|refine za ?_|refine zA ?_|refine zB ?_|refine zb ?_|refine zc ?_|refine ze ?_|refine zd ?_)
  (refine r_call_q (v := ?_) rfl ?_ ?_; rotate_left 1; focus exact nan172 b w)
  repeat' (first|refine za ?_|refine zA ?_|refine zB ?_|refine zb ?_|refine zc ?_|refine ze ?_|refine zd ?_|refine zC ?_|refine zE ?_|refine zY ?_|refine zv (fun hcd => ?_) (fun hcd => ?_)|refine zk ?_|refine zn ?_|refine zf ?_)
  · refine post1 (v := .int .i64 (-1)) rfl rfl ?_
    exact ⟨⟨_, rfl⟩, rfl⟩
  · refine post1 (v := .int .i64 1) rfl rfl ?_
    exact ⟨⟨_, rfl⟩, rfl⟩
  · refine post1 (v := .int .i64 0) rfl rfl ?_
    exact ⟨⟨_, rfl⟩, rfl⟩
/-- What a comparison may do. -/
structure CmpG (Jc : World → Prop) (base bm : Nat) (S : Int → Prop) (p : Option Addr) : Prop where
  lt : bm < base
  wr : ∀ w w', Jc w → Ch (fun k => base ≤ k) w w' → Jc w'
  cmp : ∀ w x y, Jc w → S x → S y → Calls Tryz.prog 169 #[.int .i64 x, .int .i64 y, .pointer p] w (Ret fun v w' => (∃ c, v = .int .i64 c) ∧ Jc w' ∧ Ch (fun k => k = bm) w w')
theorem swap_perm {L : List Int} {j : Nat} (h0 : 0 < j) (hj : j < L.length) : ((L.set j (L.getD (j - 1) 0)).set (j - 1) (L.getD j 0)).Perm L := by
  have h1 : j - 1 < L.length := by omega
  have := @List.set_set_perm _ L j (j - 1) hj h1
  simpa [List.getD, hj, h1] using this
set_option maxHeartbeats 8000000 in
theorem insG (Jc : World → Prop) (base bm : Nat) (S : Int → Prop) (p : Option Addr) (hC : CmpG Jc base bm S p) (q : Option Addr) (c lb : Nat) (L : List Int) (w : World) (hlb : base ≤ lb) (hO : OwnI w lb 3 (.slice q L.length c) L) (hS : ∀ x ∈ L, S x) (hJ : Jc w) (hn : L.length ≤ 100) :
    Calls Tryz.prog 184 #[.slice q L.length c, .int .i64 0, .int .i64 (L.length : Int), .func (.func 169) #[] #[.pointer p]] w (Ret fun _ w' => ∃ L', L'.Perm L ∧ OwnI w' lb 3 (.slice q L.length c) L' ∧ Jc w') := by
  refine calls_of_wc (args := [.slice q L.length c, .int .i64 0, .int .i64 (L.length : Int), .func (.func 169) #[] #[.pointer p]]) Tryz.func184 rfl ?_ ?_; kernel_rfl
  repeat' (first|refine za ?_|refine zA ?_|refine zB ?_|refine zb ?_|refine zc ?_|refine ze ?_|refine zd ?_|refine zI ?_|refine zl ?_)
  refine wc_loop2 [0, 1, 2, 3] (fun (i : Nat) (_ : List Int) => [(8, .int .i64 i)]) (fun i K wk => 1 ≤ i ∧ K.Perm L ∧ OwnI wk lb 3 (.slice q L.length c) K ∧ Jc wk) (fun i _ => L.length - i) 1 L rfl ⟨rfl, trivial⟩ ⟨by omega, List.Perm.refl _, hO, hJ⟩ ?_
  clear hO hJ
  rintro i K wk x ⟨hi, hK, hO, hJ⟩
  by_cases hin : i < L.length
  rotate_left 1
  · repeat' (first|refine za ?_|refine zA ?_|refine zb ?_|refine zc ?_|refine ze ?_|refine zd ?_|refine zC ?_|refine zY ?_|refine zm ?_|refine zg ?_|refine zj ?_)
    exact post0n rfl ⟨K, hK, hO, hJ⟩
  repeat' (first|refine za ?_|refine zA ?_|refine zB ?_|refine zb ?_|refine zc ?_|refine ze ?_|refine zd ?_|refine zC ?_|refine zX ?_|refine zk ?_|refine zl ?_)
  refine wc_loop2 [0, 1, 2, 3, 8] (fun (j : Nat) (_ : List Int) => [(9, .int .i64 j)]) (fun j K wk => j ≤ i ∧ K.Perm L ∧ OwnI wk lb 3 (.slice q L.length c) K ∧ Jc wk) (fun j _ => j) i K rfl ⟨rfl, trivial⟩ ⟨by omega, hK, hO, hJ⟩ ?_
  clear hK hO hJ K wk
  rintro j K wk y ⟨hj, hK, hO, hJ⟩
  have hKl := hK.length_eq
  have hOd : OwnI wk.drew lb 3 (.slice q L.length c) K := ownsRow_ext hO (Ext.drew wk)
  have hJd : Jc wk.drew := hC.wr wk wk.drew hJ (Ext.ch (Ext.drew wk))
  by_cases hj0 : j = 0
  · subst hj0
    repeat' (refine zc ?_)
    refine wc_heldB (fun _ => True) (.take 0 (.take 1 (.take 2 (.take 3 (.take 4 (.take 5 (.take 6 (.take 7 (.take 8 (.take 9 (.take 10 (.take 11 (.take 12 (.take 13 (.take 14 (.take 15 (.take 16 .done))))))))))))))))) (by kernel_rfl) (by kernel_rfl) trivial ?_
    refine whB_take (v := .int .i64 ((0 : Nat) : Int)) rfl rfl (fun w' hw' => rv_move_v rfl) ?_
    refine whB_take (v := .int .i64 0) rfl rfl (fun w' hw' => rv_move_v rfl) ?_
    refine whB_take (v := .bool false) rfl rfl (fun w' hw' => rv_of rfl (fun _ h => r_gtr rfl rfl h) fun _ _ h => val_of h) ?_
    refine whB_take (v := .bool false) rfl rfl (fun w' hw' => rv_move_v rfl) ?_
    repeat' (refine whB_dead rfl rfl rfl rfl rfl ?_)
    repeat' ((refine whB_take rfl rfl (fun w' hw' => rv_pick_fb rfl rfl) ?_))
    refine whB_done ?_
    repeat' (first|refine za ?_|refine zA ?_|refine zB ?_|refine zb ?_|refine ze ?_|refine zd ?_|refine zI ?_|refine zY ?_|refine zm ?_|refine zg ?_|refine zj ?_|refine zh ?_)
    exact ⟨i + 1, K, ⟨rfl, trivial⟩, ⟨by omega, hK, hOd, hJd⟩, by omega⟩
  have hjl : j < K.length := by omega
  have g1 := hOd.ints.rd (i := j) hjl
  have g2 := hOd.ints.rd (i := j - 1) (by omega)
  have hps := hOd.ints.isSome (by omega)
  have hx : S (K.getD j 0) := hS _ (hK.mem_iff.1 (getD_mem hjl))
  have hy : S (K.getD (j - 1) 0) := hS _ (hK.mem_iff.1 (getD_mem (by omega)))
  have hjm : ((j : Int) - 1) = ((j - 1 : Nat) : Int) := by omega
  have hno : (Value.slice q L.length c).ownBlock ≠ some bm := fun e => by have := (hOd.lt bm e).1; have := hC.lt; omega
  repeat' (refine zc ?_)
  refine wc_heldB (fun w' => Gv.rd w' (pidx q j 1) = some (.int .i64 (K.getD j 0)) ∧ Gv.rd w' (pidx q (j - 1) 1) = some (.int .i64 (K.getD (j - 1) 0))) (.take 0 (.take 1 (.take 2 (.take 3 (.take 4 (.take 5 (.take 6 (.take 7 (.take 8 (.take 9 (.take 10 (.take 11 (.take 12 (.take 13 (.one 14 (.take 15 (.take 16 .done))))))))))))))))) (by kernel_rfl) (by kernel_rfl) ⟨g1, g2⟩ ?_
  refine whB_take (v := .int .i64 (j : Int)) rfl rfl (fun w' hw' => rv_move_v rfl) ?_
  refine whB_take (v := .int .i64 0) rfl rfl (fun w' hw' => rv_move_v rfl) ?_
  refine whB_take (v := .bool true) rfl rfl (fun w' hw' => rv_of rfl (fun _ h => r_gtr rfl rfl (by rw [decide_eq_true (by omega)]; exact h)) fun _ _ h => val_of h) ?_
  refine whB_take (v := .bool true) rfl rfl (fun w' hw' => rv_move_v rfl) ?_
  refine whB_takeG rfl rfl rfl rfl (fun w' hw' => rv_move) ?_
  refine whB_takeG (v := .slice q L.length c) rfl rfl rfl rfl (fun w' hw' => rv_move_v rfl) ?_
  refine whB_takeG (v := .int .i64 (j : Int)) rfl rfl rfl rfl (fun w' hw' => rv_move_v rfl) ?_
  refine whB_takeG rfl rfl rfl rfl (fun w' hw' => rv_idx sz27 rfl rfl hps (by omega) (by omega)) ?_
  refine whB_takeG (v := .int .i64 (K.getD j 0)) rfl rfl rfl rfl (fun w' hw' => rv_ld ct3 rfl hw'.1) ?_
  refine whB_takeG (v := .slice q L.length c) rfl rfl rfl rfl (fun w' hw' => rv_move_v rfl) ?_
  refine whB_takeG (v := .int .i64 (j : Int)) rfl rfl rfl rfl (fun w' hw' => rv_move_v rfl) ?_
  refine whB_takeG (v := .int .i64 ((j - 1 : Nat) : Int)) rfl rfl rfl rfl (fun w' hw' => rv_of rfl (fun _ h => r_sub_in rfl rfl (by omega) (by rw [hjm]; exact h)) fun _ _ h => val_of h) ?_
  refine whB_takeG rfl rfl rfl rfl (fun w' hw' => rv_idx sz27 rfl rfl hps (by omega) (by omega)) ?_
  refine whB_takeG (v := .int .i64 (K.getD (j - 1) 0)) rfl rfl rfl rfl (fun w' hw' => rv_ld ct3 rfl hw'.2) ?_
  refine whB_oneG rfl rfl rfl rfl ?_
  refine r_callV (cap := [.pointer p]) rfl rfl (hC.cmp wk.drew _ _ hJd hx hy) ?_
  rintro _ w5 ⟨⟨r, rfl⟩, hJ5, hC5⟩
  have hO5 : OwnI w5 lb 3 (.slice q L.length c) K := ownsRow_keep hOd hC5 fun g hg e => hno (by rw [hg, e])
  refine ⟨⟨hO5.ints.rd (i := j) hjl, hO5.ints.rd (i := j - 1) (by omega)⟩, ?_⟩
  refine whB_takeG (v := .bool (decide (r < 0))) rfl rfl rfl rfl (fun w' hw' => rv_of rfl (fun _ h => r_lss rfl rfl h) fun _ _ h => val_of h) ?_
  refine whB_take (v := .bool (decide (r < 0))) rfl rfl (fun w' hw' => rv_pick_tb rfl rfl) ?_
  refine whB_done ?_
  by_cases hr : r < 0
  rotate_left 1
  · rw [decide_eq_false hr]
    repeat' (first|refine za ?_|refine zA ?_|refine zB ?_|refine zb ?_|refine ze ?_|refine zd ?_|refine zI ?_|refine zY ?_|refine zm ?_|refine zg ?_|refine zj ?_|refine zh ?_)
    exact ⟨i + 1, K, ⟨rfl, trivial⟩, ⟨by omega, hK, hO5, hJ5⟩, by omega⟩
  rw [decide_eq_true hr]
  repeat' (first|refine zc ?_|refine ze ?_|refine zX ?_|refine zk ?_|refine zl ?_)
  have hO6 : OwnI w5.drew lb 3 (.slice q L.length c) K := ownsRow_ext hO5 (Ext.drew w5)
  have k1 := hO6.ints.rd (i := j) hjl
  have k2 := hO6.ints.rd (i := j - 1) (by omega)
  have tail : ∀ (w6 w7 : World), OwnI w6 lb 3 (.slice q L.length c) (K.set j (K.getD (j - 1) 0)) → w5.drew.grownBy w6 (Value.slice q L.length c).ownBlock → OwnI w7 lb 3 (.slice q L.length c) ((K.set j (K.getD (j - 1) 0)).set (j - 1) (K.getD j 0)) → w6.grownBy w7 (Value.slice q L.length c).ownBlock →
      j - 1 ≤ i ∧ ((K.set j (K.getD (j - 1) 0)).set (j - 1) (K.getD j 0)).Perm L ∧ OwnI w7 lb 3 (.slice q L.length c) ((K.set j (K.getD (j - 1) 0)).set (j - 1) (K.getD j 0)) ∧ Jc w7 := fun w6 w7 h6 hG6 h7 hG7 =>
    ⟨by omega, (swap_perm (by omega) hjl).trans hK, h7, hC.wr w5 w7 hJ5 ((Ext.ch (Ext.drew w5)).trans ((Ch.grown hG6 fun k e => Nat.le_trans hlb (hO6.lt k e).1).trans (Ch.grown hG7 fun k e => Nat.le_trans hlb (h6.lt k e).1)))⟩
  refine wc_heldB (fun _ => True) (.take 0 (.take 1 (.take 2 (.take 3 (.take 4 (.take 5 (.take 6 (.take 7 (.take 8 (.take 10 (.take 11 (.take 12 (.two 9 (.one 13 (.take 14 (.one 15 (.take 16 (.one 17 .done))))) 13 (.one 9 (.take 14 (.one 15 (.take 16 (.one 17 .done)))))))))))))))))) (by kernel_rfl) (by kernel_rfl) trivial ?_
  refine whB_take (v := .slice q L.length c) rfl rfl (fun w' hw' => rv_move_v rfl) ?_
  refine whB_take (v := .int .i64 (j : Int)) rfl rfl (fun w' hw' => rv_move_v rfl) ?_
  refine whB_take (v := .slice q L.length c) rfl rfl (fun w' hw' => rv_move_v rfl) ?_
  refine whB_take (v := .int .i64 (j : Int)) rfl rfl (fun w' hw' => rv_move_v rfl) ?_
  refine whB_take (v := .int .i64 ((j - 1 : Nat) : Int)) rfl rfl (fun w' hw' => rv_of rfl (fun _ h => r_sub_in rfl rfl (by omega) (by rw [hjm]; exact h)) fun _ _ h => val_of h) ?_
  refine whB_take (v := .slice q L.length c) rfl rfl (fun w' hw' => rv_move_v rfl) ?_
  refine whB_take (v := .int .i64 (j : Int)) rfl rfl (fun w' hw' => rv_move_v rfl) ?_
  refine whB_take (v := .int .i64 ((j - 1 : Nat) : Int)) rfl rfl (fun w' hw' => rv_of rfl (fun _ h => r_sub_in rfl rfl (by omega) (by rw [hjm]; exact h)) fun _ _ h => val_of h) ?_
  refine whB_take rfl rfl (fun w' hw' => rv_idx sz27 rfl rfl hps (by omega) (by omega)) ?_
  refine whB_take (v := .slice q L.length c) rfl rfl (fun w' hw' => rv_move_v rfl) ?_
  refine whB_take (v := .int .i64 (j : Int)) rfl rfl (fun w' hw' => rv_move_v rfl) ?_
  refine whB_take rfl rfl (fun w' hw' => rv_idx sz27 rfl rfl hps (by omega) (by omega)) ?_
  refine whB_two rfl rfl rfl rfl ?_ ?_
  focus
    refine r_ld ct3 rfl k2 ?_
    refine ⟨trivial, whB_one rfl rfl ?_⟩
    refine r_ld ct3 rfl k1 ?_
  rotate_left 1
  focus
    refine r_ld ct3 rfl k1 ?_
    refine ⟨trivial, whB_one rfl rfl ?_⟩
    refine r_ld ct3 rfl k2 ?_
  all_goals
    refine ⟨trivial, whB_take rfl rfl (fun w' hw' => rv_idx sz27 rfl rfl hps (by omega) (by omega)) (whB_one rfl rfl ?_)⟩
    refine r_st_i (i := j) (a := K.getD (j - 1) 0) co3 hO6 rfl rfl hjl fun w6 h6 hG6 hs6 => ?_
    refine ⟨trivial, whB_take rfl rfl (fun w' hw' => rv_idx sz27 rfl rfl hps (by omega) (by omega)) (whB_one rfl rfl ?_)⟩
    refine r_st_i (i := j - 1) (a := K.getD j 0) co3 h6 rfl rfl (by rw [List.length_set]; omega) fun w7 h7 hG7 hs7 => ?_
    refine ⟨trivial, whB_done ?_⟩
    have hfin := tail w6 w7 h6 hG6 h7 hG7
    repeat' (first|refine za ?_|refine zA ?_|refine zB ?_|refine zb ?_|refine ze ?_|refine zd ?_|refine zJ ?_|refine zh ?_)
    exact ⟨j - 1, _, ⟨congrArg (Value.int .i64) hjm, trivial⟩, hfin, by omega⟩
end Go.Proofs.YtocgehoffdjijaaGreat
/- TopBranches: DeleteFunc, the sort, branches. -/
namespace Go.Proofs.YtocgehoffdjijaaGreat
open Gv Go.WideMaps
set_option maxRecDepth 20000
def rmv (f : Int) (L : List Int) : List Int := L.filter fun x => decide (x ≠ f)
theorem rmv_none {f : Int} {L : List Int} (h : ∀ j, j < L.length → L.getD j 0 ≠ f) : rmv f L = L := List.filter_eq_self.2 fun a ha => by
  obtain ⟨j, hj, rfl⟩ := List.getElem_of_mem ha
  have := h j hj
  simpa [List.getD, hj] using this
theorem rmv_next {f : Int} {L : List Int} {j : Nat} (hj : j < L.length) : rmv f (L.take (j + 1)) = rmv f (L.take j) ++ if L.getD j 0 ≠ f then [L.getD j 0] else [] := by
  rw [List.take_add_one, List.getElem?_eq_getElem hj]
  have : L.getD j 0 = L[j] := by simp [List.getD, hj]
  rw [this]
  unfold rmv
  rw [List.filter_append]
  congr 1
  by_cases e : L[j] = f
  · simp [e]
  · simp [e]
theorem idxG (q : Option Addr) (c : Nat) (f : Int) (b : Nat) (L : List Int) (w : World) (h : Ints w (.slice q L.length c) L) (hb : Box w b 3 (.int .i64 f)) (hn : L.length ≤ 1000) :
    Calls Tryz.prog 121 #[.slice q L.length c, .func (.func 130) #[] #[.pointer (some ⟨b, 0, none⟩)]] w (Ret fun v w' => ((v = .int .i64 (-1) ∧ ∀ j, j < L.length → L.getD j 0 ≠ f) ∨ ∃ k : Nat, k < L.length ∧ v = .int .i64 (k : Int) ∧ L.getD k 0 = f ∧ ∀ j, j < k → L.getD j 0 ≠ f) ∧ w' = w) := by
  refine calls_of_wc (args := [.slice q L.length c, .func (.func 130) #[] #[.pointer (some ⟨b, 0, none⟩)]]) Tryz.func121 rfl ?_ ?_; kernel_rfl
  repeat' (first|refine za ?_|refine zA ?_|refine zB ?_|refine zb ?_|refine zc ?_|refine ze ?_|refine zd ?_|refine zK ?_|refine zl ?_)
  refine wc_loop [0, 1, 7] (fun (k : Nat) => [(8, .int .i64 k)]) (fun k wk => wk = w ∧ k ≤ L.length ∧ ∀ j, j < k → L.getD j 0 ≠ f) (fun k => L.length - k) 0 rfl ⟨rfl, trivial⟩ ⟨rfl, by omega, fun j h => by omega⟩ ?_
  rintro k wk x ⟨rfl, hk, hne⟩
  by_cases hin : k < L.length
  rotate_left 1
  · obtain rfl : k = L.length := by omega
    repeat' (first|refine za ?_|refine zB ?_|refine zb ?_|refine zc ?_|refine ze ?_|refine zd ?_|refine zC ?_|refine zY ?_|refine zm ?_|refine zn ?_|refine zg ?_|refine zj ?_)
    refine post1 (v := .int .i64 (-1)) rfl rfl ?_
    exact ⟨.inl ⟨rfl, hne⟩, rfl⟩
  have hps := h.isSome (by omega)
  have hrd := h.rd (i := k) hin
  by_cases e : L.getD k 0 = f
  · repeat' (first|refine za ?_|refine zA ?_|refine zB ?_|refine zb ?_|refine zc ?_|refine ze ?_|refine zd ?_|refine zC ?_|refine zL ?_|refine zM ?_|refine zX ?_|refine zk ?_|refine zl ?_)
    refine r_callV (cap := [.pointer (some ⟨b, 0, none⟩)]) rfl rfl (is130 (L.getD k 0) f b wk hb true (decide_eq_true e)) ?_
    rintro v' w' ⟨rfl, rfl⟩
    repeat' (first|refine za ?_|refine zA ?_|refine zB ?_|refine zb ?_|refine zc ?_|refine ze ?_|refine zd ?_|refine zX ?_|refine zn ?_|refine zf ?_|refine zi ?_)
    refine post1 (v := .int .i64 (k : Int)) rfl rfl ?_
    exact ⟨.inr ⟨k, hin, rfl, e, hne⟩, rfl⟩
  · repeat' (first|refine za ?_|refine zA ?_|refine zB ?_|refine zb ?_|refine zc ?_|refine ze ?_|refine zd ?_|refine zC ?_|refine zL ?_|refine zM ?_|refine zX ?_|refine zk ?_|refine zl ?_)
    refine r_callV (cap := [.pointer (some ⟨b, 0, none⟩)]) rfl rfl (is130 (L.getD k 0) f b wk hb false (decide_eq_false e)) ?_
    rintro v' w' ⟨rfl, rfl⟩
    repeat' (first|refine za ?_|refine zA ?_|refine zb ?_|refine ze ?_|refine zd ?_|refine zI ?_|refine zY ?_|refine zk ?_|refine zh ?_)
    refine ⟨k + 1, ⟨rfl, trivial⟩, ⟨rfl, by omega, fun j hj => ?_⟩, by omega⟩
    by_cases e2 : j = k
    · rw [e2]; exact e
    · exact hne j (by omega)
set_option maxHeartbeats 2000000 in
theorem delG (q : Option Addr) (c : Nat) (f : Int) (b base : Nat) (L : List Int) (w : World) (h : OwnI w base 3 (.slice q L.length c) L) (hb : Box w b 3 (.int .i64 f)) (hne : (Value.slice q L.length c).ownBlock ≠ some b) (hn : L.length ≤ 1000) :
    Calls Tryz.prog 129 #[.slice q L.length c, .func (.func 130) #[] #[.pointer (some ⟨b, 0, none⟩)]] w (Ret fun v w' => Ints w' v (rmv f L) ∧ Ch (fun k => (Value.slice q L.length c).ownBlock = some k) w w') := by
  refine calls_of_wc (args := [.slice q L.length c, .func (.func 130) #[] #[.pointer (some ⟨b, 0, none⟩)]]) Tryz.func129 rfl ?_ ?_; kernel_rfl
  repeat' (first|refine za ?_|refine zA ?_|refine zB ?_|refine zb ?_|refine zc ?_|refine ze ?_|refine zd ?_)
  (refine r_call (R := ?_) rfl ?_ ?_; rotate_left 1; focus exact idxG q c f b L w h.ints hb hn)
  rintro v' w' ⟨hv, hw'⟩
  subst w'
  rcases hv with ⟨rfl, hno⟩ | ⟨k, hk, rfl, hkf, hkn⟩
  · repeat' (first|refine za ?_|refine zA ?_|refine zB ?_|refine zb ?_|refine zc ?_|refine ze ?_|refine zd ?_|refine zG ?_|refine zX ?_|refine zn ?_|refine zf ?_)
    refine post1 (v := .slice q L.length c) rfl rfl ?_
    exact ⟨by rw [rmv_none hno]; exact h.ints, Ch.refl _ _⟩
  have htk0 : rmv f (L.take (k + 1)) = L.take k := by
    rw [rmv_next hk, if_neg (fun hh => hh hkf), List.append_nil]
    refine rmv_none fun j hj => ?_
    have hj' : j < k := by simp at hj; omega
    have := hkn j hj'
    rw [List.getD_eq_getElem?_getD, List.getElem?_take, if_pos hj', ← List.getD_eq_getElem?_getD]; exact this
  repeat' (first|refine za ?_|refine zA ?_|refine zB ?_|refine zb ?_|refine zc ?_|refine ze ?_|refine zd ?_|refine zG ?_|refine zI ?_|refine zY ?_|refine zk ?_|refine zl ?_)
  refine wc_loop3 [0, 1] (fun (i : Nat) (j : Nat) (_ : List Int) => [(5, .int .i64 i), (6, .int .i64 j)]) (fun i j K wk => i < j ∧ j ≤ L.length ∧ OwnI wk base 3 (.slice q L.length c) K ∧ K.length = L.length ∧ K.take i = rmv f (L.take j) ∧ (∀ m, j ≤ m → K.getD m 0 = L.getD m 0) ∧ Ch (fun k => (Value.slice q L.length c).ownBlock = some k) w wk) (fun _ j _ => L.length - j) k (k + 1) L rfl ⟨rfl, rfl, trivial⟩
    ⟨by omega, by omega, h, rfl, htk0.symm, fun _ _ => rfl, Ch.refl _ _⟩ ?_
  rintro i j K wk x ⟨hij, hj, hO, hKl, hKt, hKd, hC⟩
  have hOi : Ints wk (.slice q L.length c) K := hO.ints
  have hKi : Ints wk (.slice q K.length c) K := by rw [hKl]; exact hO.ints
  by_cases hjn : j < L.length
  · have hps := hKi.isSome (by omega)
    have hrd := hKi.rd (i := j) (by omega)
    rw [hKd j (Nat.le_refl _)] at hrd
    have hbk : Box wk b 3 (.int .i64 f) := hb.keep hC hne
    by_cases e : L.getD j 0 = f
    · repeat' (first|refine za ?_|refine zA ?_|refine zB ?_|refine zb ?_|refine zc ?_|refine ze ?_|refine zd ?_|refine zC ?_|refine zK ?_|refine zL ?_|refine zM ?_|refine zX ?_|refine zk ?_|refine zl ?_)
      refine r_callV (cap := [.pointer (some ⟨b, 0, none⟩)]) rfl rfl (is130 (L.getD j 0) f b wk hbk true (decide_eq_true e)) ?_
      rintro v' w' ⟨rfl, rfl⟩
      repeat' (first|refine za ?_|refine zA ?_|refine zB ?_|refine zb ?_|refine ze ?_|refine zd ?_|refine zI ?_|refine zO ?_|refine zY ?_|refine zk ?_|refine zh ?_)
      exact ⟨i, j + 1, K, ⟨rfl, rfl, trivial⟩, ⟨by omega, by omega, hO, hKl, by rw [rmv_next hjn, if_neg (fun hh => hh e), List.append_nil]; exact hKt, fun m hm => hKd m (by omega), hC⟩, by omega⟩
    · repeat' (first|refine za ?_|refine zA ?_|refine zB ?_|refine zb ?_|refine zc ?_|refine ze ?_|refine zd ?_|refine zC ?_|refine zK ?_|refine zL ?_|refine zM ?_|refine zX ?_|refine zk ?_|refine zl ?_)
      refine r_callV (cap := [.pointer (some ⟨b, 0, none⟩)]) rfl rfl (is130 (L.getD j 0) f b wk hbk false (decide_eq_false e)) ?_
      rintro v' w' ⟨rfl, rfl⟩
      repeat' (first|refine za ?_|refine zA ?_|refine zb ?_|refine zc ?_|refine ze ?_|refine zd ?_|refine zL ?_|refine zO ?_|refine zX ?_)
      refine r_st_i (i := i) (a := L.getD j 0) co3 hO rfl rfl (by omega) fun w6 h6 hG6 hs6 => ?_
      have hC6 : Ch (fun k => (Value.slice q L.length c).ownBlock = some k) w' w6 := Ch.grown hG6 fun k e => e
      repeat' (first|refine za ?_|refine zA ?_|refine zB ?_|refine zb ?_|refine ze ?_|refine zd ?_|refine zI ?_|refine zh ?_)
      refine ⟨i + 1, j + 1, _, ⟨rfl, rfl, trivial⟩, ⟨by omega, by omega, h6, by simp [hKl], ?_, fun m hm => ?_, hC.trans hC6⟩, by omega⟩
      · rw [rmv_next hjn, if_pos e, ← hKt, List.take_add_one]
        rw [List.take_set_of_le (Nat.le_refl i), List.getElem?_set_self (by omega)]; rfl
      · rw [List.getD_eq_getElem?_getD, List.getElem?_set_ne (by omega), ← List.getD_eq_getElem?_getD]; exact hKd m (by omega)
  · obtain rfl : j = L.length := by omega
    rw [List.take_length] at hKt
    have hOo : OwnI wk base 3 (.slice q L.length c) K := hO
    have hne2 : L.length ≠ 0 := by omega
    rcases hO.2 with ⟨hv, _⟩ | ⟨g, cap, cur, hv, hbg, hg, hnc, hcm, hcs, htk⟩
    · injection hv with _ e2 _; omega
    rw [hKl] at hv hnc htk
    cases hv
    repeat' (first|refine za ?_|refine zA ?_|refine zb ?_|refine zc ?_|refine ze ?_|refine zd ?_|refine zC ?_|refine zK ?_|refine zY ?_|refine zm ?_|refine zg ?_|refine zj ?_)
    have e1 : (if c = i then (some ⟨g, 0, none⟩ : Option Addr) else (some (⟨g, 0, none⟩ : Addr)).map fun a => a.add (i * 1)) = some ⟨g, i, none⟩ := by
      rw [if_neg (by omega)]
      simp [Addr.add]
      intro e; omega
    refine r_slice_v (l := i) (h' := L.length) (v := .slice (some ⟨g, i, none⟩) (L.length - i) (c - i)) sz27 rfl ⟨.i64, rfl⟩ rfl (by omega) hnc (by rw [e1]) ?_
    repeat' (refine za ?_)
    refine r_clear (g := g) (o := i) (n := L.length - i) (cur := cur) el27 rfl hg rfl (by omega) (by rw [hcs]; omega) ?_
    obtain ⟨cur2, hcur2⟩ : ∃ cur2, cur2 = (cur.toList.take i ++ List.replicate (L.length - i) (Value.int .i64 0) ++ cur.toList.drop (i + (L.length - i))).toArray := ⟨_, rfl⟩
    rw [← hcur2]
    have hg2 : (wk.setRow g cur2).heap[g]? = some (.cells cur2 3 (0, 0)) := setRow_heap wk g _ _ _ _ hg
    have hC2 : Ch (fun k => k = g) wk (wk.setRow g cur2) := ⟨rfl, rfl, rfl, by simp, fun k _ hk => setRow_other wk g k _ hk⟩
    repeat' (first|refine za ?_|refine zA ?_|refine zb ?_|refine zc ?_|refine ze ?_|refine zd ?_)
    refine r_slice_v (l := 0) (h' := i) (v := .slice (some ⟨g, 0, none⟩) i c) sz27 rfl rfl ⟨.i64, rfl⟩ (by omega) (by omega) (by rw [show (if c = 0 then (some ⟨g, 0, none⟩ : Option Addr) else (some (⟨g, 0, none⟩ : Addr)).map fun a => a.add (0 * 1)) = some ⟨g, 0, none⟩ by split <;> rfl, Nat.sub_zero, Nat.sub_zero]) ?_
    repeat' (first|refine za ?_|refine zB ?_|refine zb ?_|refine ze ?_|refine zn ?_)
    refine post1 (v := .slice (some ⟨g, 0, none⟩) i c) rfl rfl ?_
    have hl2 : (rmv f L).length = i := by rw [← hKt]; simp; omega
    refine ⟨?_, hC.trans (hC2.mono fun k _ e => by rw [e]; rfl)⟩
    refine OwnI.ints (base := base) (e := 3) ⟨by rw [ints_length, Nat.mul_one], .inr ⟨g, c, cur2, by rw [hl2], hbg, hg2, by omega, hcm, ?_, ?_⟩⟩
    · rw [hcur2]; simp; omega
    · rw [hl2, hcur2, Nat.mul_one, List.toList_toArray, List.append_assoc, List.take_append_of_le_length (by simp; omega), List.take_of_length_le (by simp; omega), ← hKt, ← ints_take]
      have : (ints K).take i = (cur.toList.take (L.length * 1)).take i := by rw [htk]
      rw [this, List.take_take]; congr 1; omega
set_option maxHeartbeats 1000000 in
theorem stableG (Jc : World → Prop) (base bm : Nat) (S : Int → Prop) (p : Option Addr) (hC : CmpG Jc base bm S p) (q : Option Addr) (c lb : Nat) (L : List Int) (w : World) (hlb : base ≤ lb) (hO : OwnI w lb 3 (.slice q L.length c) L) (hS : ∀ x ∈ L, S x) (hJ : Jc w) (hn : L.length < 20) :
    Calls Tryz.prog 183 #[.slice q L.length c, .int .i64 (L.length : Int), .func (.func 169) #[] #[.pointer p]] w (Ret fun _ w' => ∃ L', L'.Perm L ∧ OwnI w' lb 3 (.slice q L.length c) L' ∧ Jc w') := by
  refine calls_of_wc (args := [.slice q L.length c, .int .i64 (L.length : Int), .func (.func 169) #[] #[.pointer p]]) Tryz.func183 rfl ?_ ?_; kernel_rfl
  repeat' (first|refine za ?_|refine zA ?_|refine zB ?_|refine zb ?_|refine zc ?_|refine ze ?_|refine zd ?_|refine zl ?_)
  refine wc_loop [0, 1, 2, 6] (fun (_ : Nat) => [(7, .int .i64 0), (8, .int .i64 20)]) (fun _ wk => wk = w) (fun i => i) 0 rfl ⟨rfl, rfl, trivial⟩ rfl ?_
  rintro i wk x rfl
  repeat' (first|refine za ?_|refine zA ?_|refine zb ?_|refine zc ?_|refine ze ?_|refine zd ?_|refine zD ?_|refine zY ?_|refine zm ?_|refine zg ?_|refine zj ?_)
  (refine r_call (R := ?_) rfl ?_ ?_; rotate_left 1; focus exact insG Jc base bm S p hC q c lb L wk hlb hO hS hJ (by omega))
  rintro _ w2 ⟨L', hP, hO2, hJ2⟩
  repeat' (first|refine zb ?_|refine ze ?_|refine zl ?_)
  refine wc_loop [0, 1, 2] (fun (_ : Nat) => [(6, .int .i64 20)]) (fun _ wz => wz = w2) (fun i => i) 0 rfl ⟨rfl, trivial⟩ rfl ?_
  rintro i wz y rfl
  repeat' (first|refine za ?_|refine zA ?_|refine zb ?_|refine zc ?_|refine ze ?_|refine zd ?_|refine zC ?_|refine zY ?_|refine zm ?_|refine zg ?_|refine zj ?_)
  exact post0n rfl ⟨L', hP, hO2, hJ2⟩
theorem sortG (Jc : World → Prop) (base bm : Nat) (S : Int → Prop) (p : Option Addr) (hC : CmpG Jc base bm S p) (q : Option Addr) (c lb : Nat) (L : List Int) (w : World) (hlb : base ≤ lb) (hO : OwnI w lb 3 (.slice q L.length c) L) (hS : ∀ x ∈ L, S x) (hJ : Jc w) (hn : L.length < 20) :
    Calls Tryz.prog 168 #[.slice q L.length c, .func (.func 169) #[] #[.pointer p]] w (Ret fun _ w' => ∃ L', L'.Perm L ∧ OwnI w' lb 3 (.slice q L.length c) L' ∧ Jc w') := by
  refine calls_of_wc (args := [.slice q L.length c, .func (.func 169) #[] #[.pointer p]]) Tryz.func168 rfl ?_ ?_; kernel_rfl
  repeat' (first|refine za ?_|refine zA ?_|refine zd ?_|refine zK ?_)
  (refine r_call (R := ?_) rfl ?_ ?_; rotate_left 1; focus exact stableG Jc base bm S p hC q c lb L w hlb hO hS hJ hn)
  rintro _ w2 hR
  repeat' (refine zb ?_)
  exact post0n rfl hR
end Go.Proofs.YtocgehoffdjijaaGreat
/- TopBranches: branches and time of any tree. -/
namespace Go.Proofs.YtocgehoffdjijaaGreat
open Gv Go.WideMaps
set_option maxRecDepth 20000
def Memo (pf : Nat → Nat) (N : Nat) (F : Int × Int → Option Value) : Prop := ∀ (a : Nat) (f : Int) (t : Value), a < N → FrOk pf N a f → F ((a : Int), f) = some t → ∃ x : Int, t = .int .i64 x ∧ 0 ≤ x ∧ x + 1 ≤ szF pf N a f
def JT (pf : Nat → Nat) (N : Nat) (q : Option Addr) (c bm : Nat) (w : World) : Prop := ∃ F, TrG pf N q c bm F w ∧ Memo pf N F
theorem JT.ext {pf : Nat → Nat} {N : Nat} {q : Option Addr} {c bm : Nat} {w w' : World} (h : JT pf N q c bm w) (hE : Ext w w') : JT pf N q c bm w' := by
  obtain ⟨F, h1, h2⟩ := h
  exact ⟨F, h1.ext hE, h2⟩
theorem TrG.map {pf : Nat → Nat} {N : Nat} {q : Option Addr} {c bm : Nat} {F F' : Int × Int → Option Value} {w w' : World} (h : TrG pf N q c bm F w) (hC : Ch (fun k => k = bm) w w') (hF : MapF encP w' bm F') : TrG pf N q c bm F' w' := ⟨h.tab.keepM h.mp hC, hF⟩
def TimeOk (pf : Nat → Nat) (N : Nat) (q : Option Addr) (c bm u : Nat) (g : Int) : Prop := ∀ w, JT pf N q c bm w →
  Calls Tryz.prog 53 #[.agg (trG q N c bm).toArray, .int .i64 (u : Int), .int .i64 g] w (Ret fun v w' => (∃ x : Int, v = .int .i64 x ∧ 0 ≤ x ∧ x + 1 ≤ szF pf N u g) ∧ JT pf N q c bm w' ∧ Ch (fun k => k = bm) w w')
section
variable {pf : Nat → Nat} {N : Nat} {q : Option Addr} {c bm : Nat}
theorem byG (u a b3 b4 : Nat) (hT : TimeOk pf N q c bm u (a : Nat)) (w : World) (h3 : Blk w b3 97 (trG q N c bm)) (h4 : Box w b4 3 (.int .i64 (a : Nat))) (hJ : JT pf N q c bm w) :
    Calls Tryz.prog 132 #[.int .i64 (u : Int), .pointer (some ⟨b3, 0, none⟩), .pointer (some ⟨b4, 0, none⟩)] w (Ret fun v w' => (∃ x : Int, v = .int .i64 x) ∧ JT pf N q c bm w' ∧ Ch (fun k => k = bm) w w') := by
  have g4 := h4.rd
  refine calls_of_wc (args := [.int .i64 (u : Int), .pointer (some ⟨b3, 0, none⟩), .pointer (some ⟨b4, 0, none⟩)]) Tryz.func132 rfl ?_ ?_; kernel_rfl
  repeat' (first|refine za ?_|refine zB ?_|refine zb ?_|refine zc ?_|refine ze ?_|refine zd ?_)
  refine r_ldN (vs := trG q N c bm) ag97 (by decide) h3 rfl rfl ?_
  repeat' (first|refine za ?_|refine zA ?_|refine zM ?_)
  (refine r_call (R := ?_) rfl ?_ ?_; rotate_left 1; focus exact hT w hJ)
  rintro _ w2 ⟨⟨x, rfl, _, _⟩, hJ2, hC2⟩
  repeat' (first|refine za ?_|refine zB ?_|refine zb ?_|refine ze ?_|refine zn ?_)
  refine post1 (v := .int .i64 x) rfl rfl ?_
  exact ⟨⟨x, rfl⟩, hJ2, hC2⟩
/-- What stays while the neighbors are sorted. -/
def Jc (pf : Nat → Nat) (N bm : Nat) (w1 w : World) : Prop := Ch (fun k => k = bm) w1 w ∧ ∃ F, MapF encP w bm F ∧ Memo pf N F
theorem ct114 : cellT Tryz.prog 114 = true := by kernel_rfl
set_option maxHeartbeats 2000000 in
theorem cmpG (a b1 b3 b4 : Nat) (w1 : World) (h1 : Box w1 b1 114 (.func (.func 132) #[] #[.pointer (some ⟨b3, 0, none⟩), .pointer (some ⟨b4, 0, none⟩)])) (h3 : Blk w1 b3 97 (trG q N c bm)) (h4 : Box w1 b4 3 (.int .i64 (a : Nat))) (hJ : JT pf N q c bm w1)
    (n1 : b1 ≠ bm) (n3 : b3 ≠ bm) (n4 : b4 ≠ bm) (hb : bm < w1.heap.size) :
    CmpG (Jc pf N bm w1) w1.heap.size bm (fun x => ∃ u : Nat, x = u ∧ TimeOk pf N q c bm u (a : Nat)) (some ⟨b1, 0, none⟩) := by
  have hJT : ∀ w, Jc pf N bm w1 w → JT pf N q c bm w := fun w ⟨hC, F, hF, hM⟩ => by
    obtain ⟨F1, k1, _⟩ := hJ
    exact ⟨F, k1.map hC hF, hM⟩
  refine ⟨hb, fun w w' ⟨hC, F, hF, hM⟩ hch => ⟨Ch.trans' hC hch fun k hk e => by omega, F, hF.keep hch (by omega), hM⟩, ?_⟩
  rintro w _ _ hJw ⟨x, rfl, hTx⟩ ⟨y, rfl, hTy⟩
  have g1 := (h1.keep hJw.1 (by omega)).rd
  have hJd : JT pf N q c bm w.drew := (hJT w hJw).ext (Ext.drew w)
  have hCd : Ch (fun k => k = bm) w1 w.drew := hJw.1.trans (Ext.ch (Ext.drew w))
  have g1d := rd_ext g1 (Ext.drew w)
  refine calls_of_wc (args := [.int .i64 (x : Int), .int .i64 (y : Int), .pointer (some ⟨b1, 0, none⟩)]) Tryz.func169 rfl ?_ ?_; kernel_rfl
  repeat' (first|refine za ?_|refine zB ?_|refine zb ?_|refine zc ?_|refine ze ?_|refine zd ?_)
  refine wc_heldB (fun w' => Gv.rd w' (some ⟨b1, 0, none⟩) = some (.func (.func 132) #[] #[.pointer (some ⟨b3, 0, none⟩), .pointer (some ⟨b4, 0, none⟩)])) (.take 0 (.take 1 (.take 3 (.take 4 (.one 2 (.one 5 (.one 6 (.one 7 .done)))))))) (by kernel_rfl) (by kernel_rfl) g1d ?_
  refine whB_take rfl rfl (fun w' hw' => rv_ld ct114 rfl hw') ?_
  refine whB_take (v := .int .i64 (y : Int)) rfl rfl (fun w' hw' => rv_move_v rfl) ?_
  refine whB_take rfl rfl (fun w' hw' => rv_ld ct114 rfl hw') ?_
  refine whB_take (v := .int .i64 (x : Int)) rfl rfl (fun w' hw' => rv_move_v rfl) ?_
  refine whB_one rfl rfl ?_
  refine r_callV (cap := [.pointer (some ⟨b3, 0, none⟩), .pointer (some ⟨b4, 0, none⟩)]) rfl rfl (byG y a b3 b4 hTy w.drew (h3.keep hCd (by omega)) (h4.keep hCd (by omega)) hJd) ?_
  rintro _ w2 ⟨⟨r, rfl⟩, hJ2, hC2⟩
  have hC12 := hCd.trans hC2
  refine ⟨(h1.keep hC12 (by omega)).rd, whB_one rfl rfl ?_⟩
  refine r_callV (cap := [.pointer (some ⟨b3, 0, none⟩), .pointer (some ⟨b4, 0, none⟩)]) rfl rfl (byG x a b3 b4 hTx w2 (h3.keep hC12 (by omega)) (h4.keep hC12 (by omega)) hJ2) ?_
  rintro _ w3 ⟨⟨s, rfl⟩, hJ3, hC3⟩
  have hC13 := hC12.trans hC3
  refine ⟨(h1.keep hC13 (by omega)).rd, whB_one rfl rfl ?_⟩
  (refine r_call (R := ?_) rfl ?_ ?_; rotate_left 1; focus exact cmp139 r s w3)
  rintro _ _ ⟨⟨t, rfl⟩, rfl⟩
  refine ⟨(h1.keep hC13 (by omega)).rd, whB_one rfl rfl ?_⟩
  refine r_assign_v (v := .int .i64 t) rfl ?_
  refine ⟨(h1.keep hC13 (by omega)).rd, whB_done ?_⟩
  repeat' (first|refine ze ?_|refine zn ?_)
  refine post1 (v := .int .i64 t) rfl rfl ?_
  obtain ⟨F3, k3, m3⟩ := hJ3
  exact ⟨⟨t, rfl⟩, ⟨hC13, F3, k3.mp, m3⟩, ((Ext.ch (Ext.drew w)).trans hC2).trans hC3⟩
set_option maxHeartbeats 2000000 in
theorem fallG (a b3 b4 : Nat) (v : Value) (L : List Int) (w : World) (h : Ints w v L) (hL : L.length < 20) (hS : ∀ x ∈ L, ∃ u : Nat, x = u ∧ TimeOk pf N q c bm u (a : Nat)) (h3 : Blk w b3 97 (trG q N c bm)) (h4 : Box w b4 3 (.int .i64 (a : Nat))) (hJ : JT pf N q c bm w) (n3 : b3 ≠ bm) (n4 : b4 ≠ bm) :
    Calls Tryz.prog 131 #[v, .func (.func 132) #[] #[.pointer (some ⟨b3, 0, none⟩), .pointer (some ⟨b4, 0, none⟩)]] w (Ret fun v' w' => ∃ L', L'.Perm L ∧ Ints w' v' L' ∧ JT pf N q c bm w' ∧ Ch (fun k => k = bm) w w') := by
  have hbm : bm < w.heap.size := by obtain ⟨F, k, _⟩ := hJ; exact k.mp.lt
  obtain ⟨ql, cl, rfl, _⟩ := h.slice
  refine calls_of_wc (args := [.slice ql L.length cl, .func (.func 132) #[] #[.pointer (some ⟨b3, 0, none⟩), .pointer (some ⟨b4, 0, none⟩)]]) Tryz.func131 rfl ?_ ?_; kernel_rfl
  repeat' (first|refine za ?_|refine zc ?_|refine zd ?_)
  refine r_box (v := .func (.func 132) #[] #[.pointer (some ⟨b3, 0, none⟩), .pointer (some ⟨b4, 0, none⟩)]) rfl rfl fun w1 hb1 hE1 hs1 => ?_
  obtain ⟨b1, eb1⟩ : ∃ b, b = w.heap.size := ⟨_, rfl⟩
  rw [← eb1] at hb1 ⊢
  repeat' (first|refine za ?_|refine zA ?_|refine zB ?_|refine zb ?_|refine zc ?_|refine ze ?_|refine zd ?_)
  (refine r_call (R := ?_) rfl ?_ ?_; rotate_left 1; focus exact clone82 _ L w1 (h.ext hE1) (by omega))
  rintro v2 w2 ⟨hv2, hE2⟩
  obtain ⟨q2, c2, rfl, _⟩ := hv2.ints.slice
  have hb1s : b1 < w1.heap.size := by omega
  have hC := cmpG a b1 b3 b4 w1 hb1 (h3.ext hE1) (h4.ext hE1) (hJ.ext hE1) (by omega) n3 n4 (by omega)
  obtain ⟨F1, k1, m1⟩ := hJ.ext hE1
  have hJ2 : Jc pf N bm w1 w2 := ⟨Ext.ch hE2, F1, k1.mp.ext hE2, m1⟩
  repeat' (first|refine za ?_|refine zA ?_|refine zB ?_|refine zb ?_|refine zc ?_|refine ze ?_|refine zd ?_)
  refine r_mkfn (as_ := []) (bs := [.tmp 3]) ?_
  repeat' (refine za ?_)
  (refine r_call (R := ?_) rfl ?_ ?_; rotate_left 1; focus exact sortG (Jc pf N bm w1) w1.heap.size bm _ (some ⟨b1, 0, none⟩) hC q2 c2 w1.heap.size L w2 (Nat.le_refl _) hv2 hS hJ2 hL)
  rintro _ w3 ⟨L', hP, hO3, hC3, F3, hF3, m3⟩
  repeat' (first|refine za ?_|refine zA ?_|refine zB ?_|refine zb ?_|refine zc ?_|refine ze ?_|refine zd ?_|refine zn ?_)
  refine post1 (v := .slice q2 L.length c2) rfl rfl ?_
  exact ⟨L', hP, hO3.ints, ⟨F3, k1.map hC3 hF3, m3⟩, (Ext.ch hE1).trans hC3⟩
set_option maxHeartbeats 2000000 in
/-- The neighbors of a place but one, in some order. -/
theorem branchG (h10 : N ≤ 11) (hpf : PfOk N pf) (hq : q.isSome = true) (a : Nat) (ha : a < N) (f : Int) (w : World) (hJ : JT pf N q c bm w) (hT : ∀ u, u < N → Adj pf u a → (u : Int) ≠ f → TimeOk pf N q c bm u (a : Nat)) :
    Calls Tryz.prog 93 #[.agg (trG q N c bm).toArray, .int .i64 (a : Int), .int .i64 f] w (Ret fun v w' => ∃ M : List Nat, M.Nodup ∧ (∀ u ∈ M, u < N ∧ Adj pf u a ∧ (u : Int) ≠ f) ∧ Ints w' v (ni M) ∧ JT pf N q c bm w' ∧ Ch (fun k => k = bm) w w') := by
  obtain ⟨F, hTr, hM⟩ := id hJ
  have hbm := hTr.mp.lt
  obtain ⟨qr, cr, hr, hi⟩ := hTr.tab.rd (i := a) (by rw [nT_len]; exact ha)
  rw [nT_get ha] at hr hi
  have hlr : (ni (nrK pf a (N - 1))).length ≤ 11 := by
    rw [ni_len]
    exact Nat.le_trans (nodup_lenN (nr_nodup hpf (by omega)) fun v hv => ((nr_iff hpf ha).1 hv).1) h10
  refine calls_of_wc (args := [.agg (trG q N c bm).toArray, .int .i64 (a : Int), .int .i64 f]) Tryz.func93 rfl ?_ ?_; kernel_rfl
  repeat' (first|refine za ?_|refine zc ?_|refine zd ?_)
  refine r_boxN (cells := trG q N c bm) rfl fun w1 hb3 hE1 hs1 => ?_
  obtain ⟨b3, eb3⟩ : ∃ b, b = w.heap.size := ⟨_, rfl⟩
  rw [← eb3] at hb3 ⊢
  repeat' (refine za ?_)
  refine r_box (v := .int .i64 (a : Int)) rfl rfl fun w2 hb4 hE2 hs2 => ?_
  obtain ⟨b4, eb4⟩ : ∃ b, b = w1.heap.size := ⟨_, rfl⟩
  rw [← eb4] at hb4 ⊢
  repeat' (refine za ?_)
  refine r_box (v := .int .i64 f) rfl rfl fun w3 hb5 hE3 hs3 => ?_
  obtain ⟨b5, eb5⟩ : ∃ b, b = w2.heap.size := ⟨_, rfl⟩
  rw [← eb5] at hb5 ⊢
  have hE03 := (hE1.trans hE2).trans hE3
  have g0 : rd w3 (some ⟨b3, 0 + 0, none⟩) = some (.slice q N c) := (hb3.ext (hE2.trans hE3)).rd rfl
  have g4 := (hb4.ext hE3).rd
  have gr := rd_ext hr hE03
  repeat' (first|refine za ?_|refine zB ?_|refine zb ?_|refine zc ?_|refine ze ?_|refine zd ?_)
  refine r_fa fo97_0 rfl ?_
  repeat' (first|refine za ?_|refine zL ?_|refine zM ?_)
  (refine r_call (R := ?_) rfl ?_ ?_; rotate_left 1; focus exact clone82 _ _ w3 (hi.ext hE03) (by omega))
  rintro v w4 ⟨hv, hE4⟩
  obtain ⟨q4, c4, rfl, _⟩ := hv.ints.slice
  repeat' (refine za ?_)
  refine r_mkfn (as_ := []) (bs := [.tmp 5]) ?_
  repeat' (refine za ?_)
  (refine r_call (R := ?_) rfl ?_ ?_; rotate_left 1; focus exact delG q4 c4 f b5 w3.heap.size (ni (nrK pf a (N - 1))) w4 hv (hb5.ext hE4) (fun e => by have := (hv.lt b5 e).1; omega) (by omega))
  rintro v5 w5 ⟨hv5, hC5⟩
  have hE35 : Ext w3 w5 := Ch.trans' hE4 hC5 fun k hk e => by have := (hv.lt k e).1; omega
  have hE05 := hE03.trans hE35
  obtain ⟨q5, c5, rfl, _⟩ := hv5.slice
  have hmem : ∀ x ∈ rmv f (ni (nrK pf a (N - 1))), ∃ u : Nat, x = u ∧ u < N ∧ Adj pf u a ∧ (u : Int) ≠ f := fun x hx => by
    obtain ⟨h1, h2⟩ := List.mem_filter.1 hx
    obtain ⟨u, hu, rfl⟩ := List.mem_map.1 h1
    have h3 := (nr_iff hpf ha).1 hu
    exact ⟨u, rfl, h3.1, h3.2, of_decide_eq_true h2⟩
  have hl5 : (rmv f (ni (nrK pf a (N - 1)))).length < 20 := by
    have : (rmv f (ni (nrK pf a (N - 1)))).length ≤ (ni (nrK pf a (N - 1))).length := List.length_filter_le _ _
    omega
  repeat' (first|refine za ?_|refine zA ?_|refine zB ?_|refine zb ?_|refine zc ?_|refine ze ?_|refine zd ?_)
  refine r_mkfn (as_ := []) (bs := [.tmp 3, .tmp 4]) ?_
  repeat' (refine za ?_)
  (refine r_call (R := ?_) rfl ?_ ?_; rotate_left 1; focus exact fallG a b3 b4 _ (rmv f (ni (nrK pf a (N - 1)))) w5 hv5 hl5 (fun x hx => by obtain ⟨u, e, h1, h2, h3⟩ := hmem x hx; exact ⟨u, e, hT u h1 h2 h3⟩) (hb3.ext ((hE2.trans hE3).trans hE35)) (hb4.ext (hE3.trans hE35)) (hJ.ext hE05) (by omega) (by omega))
  rintro v6 w6 ⟨L', hP, hv6, hJ6, hC6⟩
  obtain ⟨q6, c6, rfl, _⟩ := hv6.slice
  repeat' (first|refine za ?_|refine zB ?_|refine zb ?_|refine ze ?_|refine zn ?_)
  refine post1 (v := .slice q6 L'.length c6) rfl rfl ?_
  have hmem' : ∀ x ∈ L', ∃ u : Nat, x = u ∧ u < N ∧ Adj pf u a ∧ (u : Int) ≠ f := fun x hx => hmem x (hP.mem_iff.1 hx)
  have hL' : L' = ni (L'.map Int.toNat) := by
    unfold ni
    rw [List.map_map]
    conv => lhs; rw [← List.map_id L']
    refine List.map_congr_left fun x hx => ?_
    obtain ⟨u, rfl, _⟩ := hmem' x hx
    simp
  refine ⟨L'.map Int.toNat, ?_, fun u hu => ?_, by rw [← hL']; exact hv6, hJ6, (Ext.ch hE05).trans hC6⟩
  · have hnd : L'.Nodup := by
      rw [hP.nodup_iff]
      refine List.Pairwise.filter _ ?_
      unfold ni
      exact (List.pairwise_map.2 ((nr_nodup (v := a) hpf (by omega)).imp fun {x y} h => by omega))
    refine List.pairwise_map.2 (hnd.imp_of_mem fun {x y} hx hy h => ?_)
    obtain ⟨u, rfl, _⟩ := hmem' x hx
    obtain ⟨u', rfl, _⟩ := hmem' y hy
    omega
  · obtain ⟨x, hx, rfl⟩ := List.mem_map.1 hu
    obtain ⟨u, rfl, h1, h2, h3⟩ := hmem' x hx
    simp only [Int.toNat_natCast]
    exact ⟨h1, h2, h3⟩
theorem szS_at {n v : Nat} (h : PfOk n pf) (hv : v < n) : ∀ {L : List Nat} {i : Nat}, (∀ u ∈ L, u < n ∧ Adj pf u v) → i < L.length → i + szF pf n (L.getD i 0) (v : Nat) ≤ szS pf n v L
  | [], i, _, hi => by simp at hi
  | u :: L, 0, _, _ => by simp only [szS, List.getD_cons_zero]; omega
  | u :: L, i + 1, hL, hi => by
    have ih := szS_at h hv (L := L) (i := i) (fun w hw => hL w (by simp [hw])) (by simpa using hi)
    obtain ⟨h1, h2⟩ := hL u (by simp)
    have := szF_pos h h1 (f := (v : Nat)) (.inr ⟨v, rfl, hv, h2.symm⟩)
    simp only [szS, List.getD_cons_succ]; omega
set_option maxHeartbeats 4000000 in
theorem timeG (h10 : N ≤ 11) (hpf : PfOk N pf) (hq : q.isSome = true) : ∀ (s a : Nat) (f : Int), a < N → FrOk pf N a f → szF pf N a f ≤ s → TimeOk pf N q c bm a f
  | 0, a, f, ha, hf, hs => by have := szF_pos hpf ha hf; omega
  | s + 1, a, f, ha, hf, hs => fun w hJ => by
    have hsub : ∀ u, u < N → Adj pf u a → (u : Int) ≠ f → TimeOk pf N q c bm u (a : Nat) := fun u hu hua huf => by
      refine timeG h10 hpf hq s u (a : Nat) hu (.inr ⟨a, rfl, ha, hua.symm⟩) ?_
      have := szS_lt hpf ha hf (L := [u]) (by simp) (by simp only [List.mem_singleton]; rintro _ rfl; exact ⟨hu, hua, huf⟩)
      simp only [szS] at this; omega
    refine calls_of_wc (args := [.agg (trG q N c bm).toArray, .int .i64 (a : Int), .int .i64 f]) Tryz.func53 rfl ?_ ?_; kernel_rfl
    repeat' (first|refine za ?_|refine zc ?_|refine zd ?_)
    refine r_boxN (cells := trG q N c bm) rfl fun w1 hb3 hE1 hs1 => ?_
    obtain ⟨b3, eb3⟩ : ∃ b, b = w.heap.size := ⟨_, rfl⟩
    rw [← eb3] at hb3 ⊢
    repeat' (first|refine za ?_|refine zA ?_|refine zB ?_|refine zb ?_|refine zc ?_|refine ze ?_|refine zd ?_)
    refine r_build (cells := #[.int .i64 (a : Int), .int .i64 f]) (bt38 (a : Int) f) ?_
    repeat' (refine za ?_)
    refine r_allocN z38 fun w2 hb7 hE2 hs2 => ?_
    obtain ⟨b7, eb7⟩ : ∃ b, b = w1.heap.size := ⟨_, rfl⟩
    rw [← eb7] at hb7 ⊢
    repeat' (refine za ?_)
    refine r_stN (ws := [.int .i64 (a : Int), .int .i64 f]) ag38 (by decide) hb7 rfl rfl rfl rfl (by intro q hq; simp at hq; rcases hq with rfl | rfl <;> rfl) fun w3 h7 hC3 hs3 => ?_
    have hE3 : Ext w1 w3 := Ch.trans' hE2 hC3 fun k hk e => by omega
    have hE03 := hE1.trans hE3
    have hJ3 := hJ.ext hE03
    have hbm : bm < b3 := by obtain ⟨F, k, _⟩ := hJ; have := k.mp.lt; omega
    have hb33 := hb3.ext hE3
    have g1 : rd w3 (some ⟨b3, 0 + 1, none⟩) = some (.map (some bm)) := hb33.rd rfl
    obtain ⟨F, hTr, hM⟩ := id hJ3
    repeat' (first|refine za ?_|refine zb ?_|refine zc ?_|refine ze ?_|refine zd ?_)
    refine r_fa fo97_1 rfl ?_
    repeat' (first|refine za ?_|refine zM ?_)
    refine r_ldN (vs := [.int .i64 (a : Int), .int .i64 f]) ag38 (by decide) h7 rfl rfl ?_
    repeat' (refine za ?_)
    rcases hFk : F ((a : Int), f) with _ | t
    · refine r_lookup_none (k := ((a : Int), f)) mp95 k38 hTr.mp rfl rfl hFk ?_
      repeat' (first|refine za ?_|refine zA ?_|refine zB ?_|refine zb ?_|refine zc ?_|refine ze ?_|refine zd ?_|refine zO ?_|refine zS ?_|refine zX ?_)
      refine r_ldN (vs := trG q N c bm) ag97 (by decide) hb33 rfl rfl ?_
      repeat' (first|refine za ?_|refine zA ?_)
      (refine r_call (R := ?_) rfl ?_ ?_; rotate_left 1; focus exact branchG h10 hpf hq a ha f w3 hJ3 hsub)
      rintro v w4 ⟨M, hMn, hMm, hv, hJ4, hC4⟩
      obtain ⟨q4, c4, rfl, _⟩ := hv.slice
      have hlM : M.length ≤ 11 := Nat.le_trans (nodup_lenN hMn fun u hu => (hMm u hu).1) h10
      have hlt := szS_lt hpf ha hf hMn hMm
      have hsz := szF_le (pf := pf) N a f
      have hb34 := hb33.keep hC4 (by omega)
      have h74 := Blk.keep h7 hC4 (by omega)
      have hC04 : Ch (fun k => k = bm) w w4 := (Ext.ch hE03).trans hC4
      rw [ni_len] at hv ⊢
      repeat' (first|refine za ?_|refine zA ?_|refine zb ?_|refine ze ?_|refine zK ?_|refine zl ?_)
      refine wc_loop2 [0, 1, 2, 3, 7, 28, 29] (fun (i : Nat) (m : Int) => [(10, .int .i64 m), (30, .int .i64 i)]) (fun i m wk => i ≤ M.length ∧ 0 ≤ m ∧ m + 1 ≤ szF pf N a f ∧ JT pf N q c bm wk ∧ Ch (fun k => k = bm) w4 wk) (fun i _ => M.length - i) 0 0 rfl ⟨rfl, rfl, trivial⟩ ⟨by omega, by omega, by have := szF_pos hpf ha hf; omega, hJ4, Ch.refl _ _⟩ ?_
      rintro i m wk x ⟨hi, hm0, hm1, hJk, hCk⟩
      have hb3k := hb34.keep hCk (by omega)
      have h7k := Blk.keep h74 hCk (by omega)
      by_cases hin : i < M.length
      · have hps := hv.isSome (by rw [ni_len]; omega)
        have hvk : Ints wk (.slice q4 M.length c4) (ni M) := by
          obtain ⟨F4, k4, _⟩ := hJ4
          exact hv.keepM k4.mp hCk
        have hrd := hvk.rd (i := i) (by rw [ni_len]; exact hin)
        rw [ni_get] at hrd
        obtain ⟨h1, h2, h3⟩ := hMm (M.getD i 0) (getD_memN hin)
        have hat := szS_at hpf ha (L := M) (i := i) (fun u hu => ⟨(hMm u hu).1, (hMm u hu).2.1⟩) hin
        repeat' (first|refine za ?_|refine zA ?_|refine zB ?_|refine zb ?_|refine zc ?_|refine ze ?_|refine zd ?_|refine zC ?_|refine zI ?_|refine zL ?_|refine zM ?_|refine zX ?_|refine zk ?_|refine zl ?_)
        refine r_ldN (vs := trG q N c bm) ag97 (by decide) hb3k rfl rfl ?_
        repeat' (first|refine za ?_|refine zA ?_)
        (refine r_call (R := ?_) rfl ?_ ?_; rotate_left 1; focus exact hsub (M.getD i 0) h1 h2 h3 wk hJk)
        rintro _ w6 ⟨⟨x6, rfl, x60, x61⟩, hJ6, hC6⟩
        obtain ⟨mm, hmm⟩ : ∃ mm : Int, mm = if ((i : Int) + 1 + x6) > m then (i : Int) + 1 + x6 else m := ⟨_, rfl⟩
        have hmm0 : 0 ≤ mm := by rw [hmm]; split <;> omega
        have hmm1 : mm + 1 ≤ szF pf N a f := by rw [hmm]; split <;> omega
        repeat' (first|refine za ?_|refine zI ?_)
        refine r_max (c := mm) rfl rfl hmm.symm ?_
        repeat' (first|refine za ?_|refine zA ?_|refine zB ?_|refine zb ?_|refine ze ?_|refine zd ?_|refine zI ?_|refine zh ?_)
        exact ⟨i + 1, mm, ⟨rfl, rfl, trivial⟩, ⟨by omega, hmm0, hmm1, hJ6, hCk.trans hC6⟩, by omega⟩
      · obtain rfl : i = M.length := by omega
        have g14 : rd wk (some ⟨b3, 0 + 1, none⟩) = some (.map (some bm)) := hb3k.rd rfl
        obtain ⟨Fk, hTk, hMk⟩ := hJk
        repeat' (first|refine za ?_|refine zb ?_|refine zc ?_|refine ze ?_|refine zd ?_|refine zC ?_|refine zY ?_|refine zm ?_|refine zg ?_|refine zj ?_)
        refine r_fa fo97_1 rfl ?_
        repeat' (first|refine za ?_|refine zM ?_)
        refine r_ldN (vs := [.int .i64 (a : Int), .int .i64 f]) ag38 (by decide) h7k rfl rfl ?_
        repeat' (first|refine za ?_|refine zA ?_)
        refine r_mapUpdate (k := ((a : Int), f)) (v := .int .i64 m) mp95 k38 hTk.mp rfl rfl rfl fun w6 hF6 hC6 hs6 => ?_
        have g16 : rd w6 (some ⟨b3, 0 + 1, none⟩) = some (.map (some bm)) := (hb3k.keep hC6 (by omega)).rd rfl
        have h76 := Blk.keep h7k hC6 (by omega)
        repeat' (first|refine za ?_|refine zb ?_|refine zc ?_|refine ze ?_|refine zd ?_)
        refine r_fa fo97_1 rfl ?_
        repeat' (first|refine za ?_|refine zM ?_)
        refine r_ldN (vs := [.int .i64 (a : Int), .int .i64 f]) ag38 (by decide) h76 rfl rfl ?_
        repeat' (refine za ?_)
        refine r_lookup (k := ((a : Int), f)) (v := .int .i64 m) mp95 k38 hF6 rfl rfl (by rw [if_pos rfl]; rfl) ?_
        repeat' (first|refine za ?_|refine zB ?_|refine zb ?_|refine ze ?_|refine zn ?_)
        refine post1 (v := .int .i64 m) rfl rfl ?_
        refine ⟨⟨m, rfl, hm0, hm1⟩, ⟨_, hTk.map hC6 hF6, fun a' f' t ha' hf' he => ?_⟩, (hC04.trans hCk).trans hC6⟩
        by_cases e : ((a' : Int), f') = ((a : Int), f)
        · rw [if_pos e] at he
          injection e with e1 e2
          have e3 : a' = a := by omega
          subst e3; subst e2
          injection he with he
          exact ⟨m, he.symm, hm0, hm1⟩
        · rw [if_neg e] at he
          exact hMk a' f' t ha' hf' he
    · obtain ⟨x, rfl, hx0, hx1⟩ := hM a f t ha hf hFk
      refine r_lookup_ok (k := ((a : Int), f)) mp95 k38 hTr.mp rfl rfl ?_
      rw [hFk]
      repeat' (first|refine za ?_|refine zA ?_|refine zB ?_|refine zb ?_|refine zc ?_|refine ze ?_|refine zd ?_|refine zO ?_|refine zS ?_|refine zY ?_|refine zk ?_)
      refine r_fa fo97_1 rfl ?_
      repeat' (first|refine za ?_|refine zM ?_)
      refine r_ldN (vs := [.int .i64 (a : Int), .int .i64 f]) ag38 (by decide) h7 rfl rfl ?_
      repeat' (refine za ?_)
      refine r_lookup (k := ((a : Int), f)) (v := .int .i64 x) mp95 k38 hTr.mp rfl rfl (by rw [hFk]; rfl) ?_
      repeat' (first|refine za ?_|refine zB ?_|refine zb ?_|refine ze ?_|refine zn ?_)
      refine post1 (v := .int .i64 x) rfl rfl ?_
      exact ⟨⟨x, rfl, hx0, hx1⟩, hJ3, Ext.ch hE03⟩
end
end Go.Proofs.YtocgehoffdjijaaGreat
/- TopBranches, walked. -/
namespace Go.Proofs.YtocgehoffdjijaaGreat
open Gv Go.WideMaps
set_option maxRecDepth 20000
theorem TimeG (pf : Nat → Nat) (N : Nat) (h1 : 1 ≤ N) (h10 : N ≤ 11) (hpf : PfOk N pf) (a : Nat) (ha : a < N) (q : Option Addr) (c : Nat) (w : World) (h : Pairs2 w (.slice q (N - 1) c) (pE pf (N - 1))) :
    Calls Tryz.prog 20 #[.int .i64 (N : Int), .slice q (N - 1) c, .int .i64 (a : Int)] w (Ret fun v w' => (∃ x : Int, v = .tuple #[.int .i64 x, .int .i64 0] ∧ 0 ≤ x ∧ x + 1 ≤ (N : Int)) ∧ Ext w w') := by
  refine calls_of_wc (args := [.int .i64 (N : Int), .slice q (N - 1) c, .int .i64 (a : Int)]) Tryz.func20 rfl ?_ ?_; kernel_rfl
  repeat' (first|refine za ?_|refine zA ?_|refine zB ?_|refine zb ?_|refine zc ?_|refine ze ?_|refine zd ?_)
  (refine r_call (R := ?_) rfl ?_ ?_; rotate_left 1; focus exact newTreeG pf N h1 h10 hpf q c w h)
  rintro _ w1 ⟨bn, bm, rfl, hT, hbm, hE1⟩
  repeat' (first|refine za ?_|refine zA ?_|refine zS ?_)
  refine r_allocN z97 fun w2 hb8 hE2 hs2 => ?_
  obtain ⟨b8, eb8⟩ : ∃ b, b = w1.heap.size := ⟨_, rfl⟩
  rw [← eb8] at hb8 ⊢
  repeat' (refine za ?_)
  refine r_stN (ws := trG (some ⟨bn, 0, none⟩) N N bm) ag97 (by decide) hb8 rfl rfl rfl rfl (by intro q hq; simp at hq; rcases hq with rfl | rfl <;> rfl) fun w3 h8 hC3 hs3 => ?_
  have hE3 : Ext w1 w3 := Ch.trans' hE2 hC3 fun k hk e => by omega
  repeat' (first|refine za ?_|refine zA ?_|refine zB ?_|refine zb ?_|refine zc ?_|refine ze ?_|refine zd ?_|refine zJ ?_|refine zO ?_|refine zU ?_)
  (refine r_call_q (v := ?_) rfl ?_ ?_; rotate_left 1; focus exact within45 (a : Nat) 0 ((N : Int) - 1) true w3 (by rw [decide_eq_true ⟨by omega, by omega⟩]))
  repeat' (first|refine za ?_|refine zb ?_|refine zc ?_|refine ze ?_|refine zd ?_|refine zO ?_|refine zR ?_|refine zU ?_|refine zY ?_|refine zk ?_)
  refine r_ldN (vs := trG (some ⟨bn, 0, none⟩) N N bm) ag97 (by decide) h8 rfl rfl ?_
  repeat' (first|refine za ?_|refine zA ?_)
  have hJ : JT pf N (some ⟨bn, 0, none⟩) N bm w3 := ⟨_, hT.ext hE3, fun _ _ _ _ _ he => by cases he⟩
  (refine r_call (R := ?_) rfl ?_ ?_; rotate_left 1; focus exact timeG h10 hpf rfl (szF pf N a (-1)) a (-1) ha (.inl (by decide)) (Nat.le_refl _) w3 hJ)
  rintro _ w4 ⟨⟨x, rfl, hx0, hx1⟩, _, hC4⟩
  have hsz := szF_le (pf := pf) N a (-1)
  repeat' (first|refine za ?_|refine zB ?_|refine zb ?_|refine ze ?_|refine zn ?_)
  refine post2 (v1 := .int .i64 x) (v2 := .int .i64 0) rfl rfl rfl ?_
  exact ⟨⟨x, rfl, hx0, by omega⟩, Ch.trans' (hE1.trans hE3) hC4 fun k hk e => by omega⟩
theorem tD_pre (pf : Nat → Nat) (N k : Nat) : ((List.range k).map fun x => (List.range N).map fun y => (dN pf N x y : Int)) ++ [(List.range N).map fun y => (dN pf N k y : Int)] = (List.range (k + 1)).map fun x => (List.range N).map fun y => (dN pf N x y : Int) := by rw [List.range_succ, List.map_append]; rfl
theorem rg_succ (k : Nat) : ni (List.range k) ++ [(k : Int)] = ni (List.range (k + 1)) := by unfold ni; rw [List.range_succ, List.map_append]; rfl
/-- The tree as a graph. -/
theorem isG_tree {pf : Nat → Nat} {N : Nat} (h1 : 1 ≤ N) (h10 : N ≤ 10) (hpf : PfOk N pf) : Bg.IsG (N : Int) (pE pf (N - 1)) := by
  refine ⟨⟨by omega, by omega⟩, ?_, fun i hi => ?_⟩
  · rw [pE_len]
    have : ∀ n : Nat, n < 11 → 1 ≤ n → ((n - 1 : Nat) : Int) ≤ (n : Int) * ((n : Int) - 1) / 2 := by decide
    exact this N (by omega) h1
  · rw [pE_len] at hi
    have h2 := hpf (i + 1) (by omega) (by omega)
    rw [pE_get hi]
    refine ⟨⟨by dsimp only; omega, by dsimp only; omega, by dsimp only; omega⟩, fun k hk => ?_⟩
    rw [pE_get (by omega)]
    intro e
    injection e with _ e2
    omega
theorem isS_rg {N : Nat} (h1 : 1 ≤ N) : Bg.IsS (N : Int) (ni (List.range N)) := by
  have hg : ∀ i, i < N → (ni (List.range N)).getD i 0 = i := fun i hi => by rw [ni_get]; simp [List.getD, hi]
  refine ⟨by rw [ni_len, List.length_range]; omega, fun i hi => ?_⟩
  rw [ni_len, List.length_range] at hi
  rw [hg i hi]
  refine ⟨by omega, fun h0 => ?_⟩
  rw [hg (i - 1) (by omega)]; omega
theorem insE_tree {pf : Nat → Nat} {N : Nat} (hpf : PfOk N pf) : ∀ k, k ≤ N - 1 → Bg.insE (pE pf (N - 1)) (ni (List.range N)) k = k
  | 0, _ => rfl
  | k + 1, hk => by
    have h2 := hpf (k + 1) (by omega) (by omega)
    have hin : ∀ x : Nat, x < N → Bg.inS (ni (List.range N)) (x : Int) := fun x hx => ⟨x, by rw [ni_len, List.length_range]; exact hx, by rw [ni_get]; simp [List.getD, hx]⟩
    simp only [Bg.insE]
    rw [insE_tree hpf k (by omega), pE_get (by omega), if_pos ⟨hin _ (by omega), hin _ (by omega)⟩]
theorem dens_tree {pf : Nat → Nat} {N : Nat} (h1 : 1 ≤ N) (h10 : N ≤ 10) (hpf : PfOk N pf) :
    Bg.dnum (pE pf (N - 1)) (ni (List.range N)) * N = (N - 1) * Bg.dden (pE pf (N - 1)) (ni (List.range N)) ∧ 1 ≤ Bg.dden (pE pf (N - 1)) (ni (List.range N)) ∧ Bg.dden (pE pf (N - 1)) (ni (List.range N)) ≤ 10 ∧ Bg.dnum (pE pf (N - 1)) (ni (List.range N)) ≤ 10 := by
  unfold Bg.dnum Bg.dden
  rw [pE_len, insE_tree hpf _ (Nat.le_refl _), ni_len, List.length_range]
  have : ∀ n : Nat, n < 11 → 1 ≤ n → (n - 1) / Nat.gcd (n - 1) n * n = (n - 1) * (n / Nat.gcd (n - 1) n) ∧ 1 ≤ n / Nat.gcd (n - 1) n ∧ n / Nat.gcd (n - 1) n ≤ 10 ∧ (n - 1) / Nat.gcd (n - 1) n ≤ 10 := by decide
  exact this N (by omega) h1
theorem az38 : arrSz0 Tryz.prog 38 = some (2, 1) := by kernel_rfl
theorem fo47_0 : fldOff Tryz.prog 47 0 = some 0 := by kernel_rfl
theorem fo47_1 : fldOff Tryz.prog 47 1 = some 1 := by kernel_rfl
theorem r_mul_v {P : Program} {st : Bool} {K : Env → World → Prop} {ρ : Env} {w : World} {d : Nat} {ty t t2 : TypeId} {pos : String} {aft : Array Edge} {gd : Option (Nat × Bool)} {x y : Operand} {a b c : Int} (hx : ev ρ x = .int .i64 a) (hy : ev ρ y = .int .i64 b) (hb : -9223372036854775808 ≤ c ∧ c ≤ 9223372036854775807) (hc : a * b = c) (h : K (up ρ d (.int .i64 c)) w) :
    w1 P st ⟨some d, .binOp .mul t x y t2, ty, pos, aft, gd⟩ K ρ w := r_mul_in hx hy (by rw [hc]; exact hb) (by rw [hc]; exact h)
theorem z41' : (Tryz.prog.info? 41).bind (·.zero) = some (.agg [.int .i64 0, .int .i64 0, .int .i64 0].toArray) := z41
set_option maxHeartbeats 16000000 in
theorem TopBranches_true (n : Int) (v : Value) (D : List Int) (w : World) (h : Ints w v D) :
    Calls Tryz.prog 4 #[.int .i64 n, v] w (Ret fun v w' => v = .bool true ∧ Ext w w') := by
  obtain ⟨qd, cd, rfl, _⟩ := h.slice
  refine calls_of_wc (args := [.int .i64 n, .slice qd D.length cd]) Tryz.func4 rfl ?_ ?_; kernel_rfl
  repeat' (first|refine za ?_|refine zA ?_|refine zB ?_|refine zb ?_|refine zc ?_|refine ze ?_|refine zd ?_)
  (refine r_call (R := ?_) rfl ?_ ?_; rotate_left 1; focus exact mod9 n 10 w (by decide))
  rintro v w1 ⟨hv, hw1⟩
  subst w1
  have hb := mod9_bnd n (n := 10) (by decide)
  obtain ⟨m, hm⟩ : ∃ m : Nat, (IntKind.u64.wrap n) % 10 = m := ⟨_, (Int.toNat_of_nonneg hb.1).symm⟩
  rw [hm] at hv hb
  subst hv
  obtain ⟨N, hN⟩ : ∃ N, N = m + 1 := ⟨_, rfl⟩
  have h1 : 1 ≤ N := by omega
  have h10 : N ≤ 10 := by omega
  clear hm
  repeat' (first|refine za ?_|refine zA ?_|refine zB ?_|refine zb ?_|refine zc ?_|refine ze ?_|refine zd ?_|refine zI ?_)
  rw [show 1 + (m : Int) = (N : Int) by omega]
  (refine r_call (R := ?_) rfl ?_ ?_; rotate_left 1; focus exact branches15 N h1 (by omega) (.slice qd D.length cd) D w h)
  rintro v w1 ⟨hO1, hE1⟩
  obtain ⟨pf, hpf⟩ : ∃ pf, pf = pfD D := ⟨_, rfl⟩
  have hok : PfOk N pf := by rw [hpf]; exact pfD_ok D N
  rw [← hpf] at hO1
  obtain ⟨q, c, rfl, _⟩ := hO1.pairs.slice
  have hP1 : Pairs2 w1 (.slice q (N - 1) c) (pE pf (N - 1)) := by have := hO1.pairs; rwa [pE_len] at this
  rw [pE_len]
  repeat' (first|refine za ?_|refine zB ?_|refine zb ?_|refine zc ?_|refine ze ?_|refine zd ?_|refine zl ?_)
  refine wc_loop2 [0, 5] (fun (k : Nat) (u : Value) => [(4, .bool false), (6, u), (7, .int .i64 k)]) (fun k u wk => k ≤ N ∧ RowsI wk w1.heap.size 27 u ((List.range k).map fun x => (List.range N).map fun y => (dN pf N x y : Int)) ∧ Ext w1 wk) (fun k _ => N - k) 0 (.slice none 0 0) rfl ⟨rfl, rfl, rfl, trivial⟩
    ⟨by omega, RowsG.nil _ _ _ _, Ext.refl _⟩ ?_
  rintro k u wk x ⟨hk, hR, hEk⟩
  by_cases hkn : k < N
  · repeat' (first|refine za ?_|refine zA ?_|refine zb ?_|refine zc ?_|refine ze ?_|refine zd ?_|refine zC ?_|refine zX ?_|refine zk ?_|refine zl ?_)
    (refine r_call (R := ?_) rfl ?_ ?_; rotate_left 1; focus exact FarG pf N h1 (by omega) hok k hkn q c wk (hP1.ext hEk))
    rintro _ w2 ⟨uf, rfl, hf, hE2⟩
    obtain ⟨qf, cf, rfl, _⟩ := hf.ints.slice
    have hlf : ((List.range N).map fun y => (dN pf N k y : Int)).length = N := by simp
    rw [hlf] at hf ⊢
    obtain ⟨vs, k1, k2, k3⟩ := hR.ext keepsI hE2
    repeat' (first|refine za ?_|refine zA ?_|refine zB ?_|refine zb ?_|refine zc ?_|refine ze ?_|refine zd ?_|refine zH ?_|refine zK ?_|refine zR ?_|refine zS ?_|refine zU ?_|refine zY ?_|refine zk ?_)
    refine r_append1_v (u := .slice qf N cf) el35 rfl (by decide) k1 rfl rfl rfl (by rw [k2]; simp; omega) (hEk.trans hE2).size fun v' w4 _ hO4 hG4 hne hgb => ?_
    have hC4 := Ch.grown hG4 (S := fun k => u.ownBlock = some k) fun k e => e
    have hE4 : Ext w1 w4 := Ch.trans' (hEk.trans hE2) hC4 fun k hk e => by have := (k1.lt k e).1; omega
    have hR4 := RowsG.push keepsI (a := (List.range N).map fun y => (dN pf N k y : Int)) k2 k3 hf.ints (fun g hg => by
      have h5 := hf.lt g hg
      refine ⟨fun e => ?_, h5.2⟩
      obtain ⟨vs0, h10, _⟩ := hR
      have := (h10.lt g e).2
      omega) hO4 hC4 hgb
    rw [tD_pre] at hR4
    repeat' (first|refine za ?_|refine zA ?_|refine zB ?_|refine zb ?_|refine ze ?_|refine zd ?_|refine zI ?_|refine zh ?_)
    exact ⟨k + 1, v', ⟨rfl, rfl, rfl, trivial⟩, ⟨by omega, hR4, hE4⟩, by omega⟩
  obtain rfl : N = k := by omega
  have hTab := hR.tab
  have hPk := hP1.ext hEk
  have hsz1 := hEk.size
  have hpl := pE_len pf (N - 1)
  repeat' (first|refine za ?_|refine zA ?_|refine zB ?_|refine zb ?_|refine zc ?_|refine ze ?_|refine zd ?_|refine zC ?_|refine zY ?_|refine zl ?_|refine zm ?_|refine zg ?_|refine zj ?_)
  refine wc_loop2 [0, 4, 5, 6, 11] (fun (i : Nat) (v : Value) => [(10, v), (12, .int .i64 i)]) (fun i v wl => i ≤ N - 1 ∧ OwnP wl wk.heap.size 40 v (pE pf i) ∧ Ext wk wl) (fun i _ => N - 1 - i) 0 (.slice none 0 0) rfl ⟨rfl, rfl, trivial⟩
    ⟨by omega, OwnP.nil _ _ _, Ext.refl _⟩ ?_
  rintro i v2 wl x2 ⟨hi, hO, hEl⟩
  by_cases hin : i < N - 1
  · have hEd := hEl.trans (Ext.drew wl)
    have hpi := pE_len pf i
    have hpp := hPk.isSome (by omega)
    obtain ⟨A, hA⟩ : ∃ A : Int, A = (pf (i + 1) : Int) := ⟨_, rfl⟩
    obtain ⟨B, hB⟩ : ∃ B : Int, B = ((i + 1 : Nat) : Int) := ⟨_, rfl⟩
    have e0 : ∀ w', Ext wk w' → Gv.rd w' ((pidx q i 2).map fun a => a.add 0) = some (.int .i64 A) ∧ Gv.rd w' ((pidx q i 2).map fun a => a.add 1) = some (.int .i64 B) := fun w' hw' => by
      have := (hPk.ext hw').rd (i := i) (by omega)
      rw [pE_get (by omega)] at this
      dsimp only at this
      rw [← hA, ← hB] at this
      exact this
    have hOd : OwnP wl.drew wk.heap.size 40 v2 (pE pf i) := ownsRow_ext hO (Ext.drew wl)
    obtain ⟨q2, c2, ev2, _⟩ := hO.pairs.slice
    subst ev2
    repeat' (first|refine za ?_|refine zA ?_|refine zb ?_|refine zc ?_|refine ze ?_|refine zd ?_|refine zC ?_|refine zK ?_|refine zX ?_|refine zk ?_|refine zl ?_)
    refine wc_heldB (fun w' => Ext wk w') (.take 0 (.take 1 (.take 2 (.take 3 (.take 4 (.take 5 (.take 6 (.take 7 (.take 8 (.take 9 (.take 10 (.take 11 (.one 12 (.one 13 (.one 14 .done))))))))))))))) (by kernel_rfl) (by kernel_rfl) hEd ?_
    refine whB_take (v := .slice q2 (pE pf i).length c2) rfl rfl (fun w' hw' => rv_move_v rfl) ?_
    refine whB_take (v := .slice q (N - 1) c) rfl rfl (fun w' hw' => rv_move_v rfl) ?_
    refine whB_take (v := .int .i64 (i : Int)) rfl rfl (fun w' hw' => rv_move_v rfl) ?_
    refine whB_take rfl rfl (fun w' hw' => rv_idx sz33 rfl rfl hpp (by omega) (by omega)) ?_
    refine whB_take (v := .pointer ((pidx q i 2).map fun a => a.add 0)) rfl rfl (fun w' hw' => rv_of rfl (fun _ h => r_idxQ az38 rfl (pidx_isSome hpp) rfl (by decide) (by decide) h) fun _ _ h => val_of h) ?_
    refine whB_take rfl rfl (fun w' hw' => rv_ld ct3 rfl (e0 w' hw').1) ?_
    refine whB_take (v := .slice q (N - 1) c) rfl rfl (fun w' hw' => rv_move_v rfl) ?_
    refine whB_take (v := .int .i64 (i : Int)) rfl rfl (fun w' hw' => rv_move_v rfl) ?_
    refine whB_take rfl rfl (fun w' hw' => rv_idx sz33 rfl rfl hpp (by omega) (by omega)) ?_
    refine whB_take (v := .pointer ((pidx q i 2).map fun a => a.add 1)) rfl rfl (fun w' hw' => rv_of rfl (fun _ h => r_idxQ az38 rfl (pidx_isSome hpp) rfl (by decide) (by decide) h) fun _ _ h => val_of h) ?_
    refine whB_take rfl rfl (fun w' hw' => rv_ld ct3 rfl (e0 w' hw').2) ?_
    refine whB_take (v := .agg #[.int .i64 A, .int .i64 B]) rfl rfl (fun w' hw' => rv_of rfl (fun _ h => r_build (bt40 A B) h) fun _ _ h => val_of h) ?_
    refine whB_one rfl rfl ?_
    refine r_buildS1q (a := .int .i64 A) (b := .int .i64 B) eT37 rfl fun w12 hI12 hE12 hs12 => ?_
    refine ⟨hEd.trans hE12, whB_one rfl rfl ?_⟩
    refine r_append (n := (pE pf i).length) (m := 1) (xs := prc (pE pf i)) (news := [.int .i64 A, .int .i64 B]) (base := wk.heap.size) eT37 rfl (by decide) (by decide) (ownsRow_ext hOd hE12) hI12 rfl rfl (by intro q hq; simp at hq; rcases hq with rfl | rfl <;> rfl) (by rw [hpi]; omega) (by have := hEd.trans hE12; exact this.size) ?_
    intro v13 w13 hO13 hg13 _ _
    have hE13 : Ext wk w13 := Ch.trans' (hEd.trans hE12) (Ch.grown hg13 (S := fun k => wk.heap.size ≤ k) fun k e => (World.ownsRow.lt hO k e).1) fun k hk e => by omega
    refine ⟨hE13, whB_one rfl rfl ?_⟩
    have hO14 : OwnP w13 wk.heap.size 40 v13 (pE pf (i + 1)) := by
      have e1 : pE pf (i + 1) = pE pf i ++ [(A, B)] := by rw [hA, hB]; exact pE_succ pf i
      have e2 : prc (pE pf i ++ [(A, B)]) = prc (pE pf i) ++ [.int .i64 A, .int .i64 B] := by simp [prc]
      rw [e1]
      show w13.ownsRow wk.heap.size 40 2 v13 (pE pf i ++ [(A, B)]).length (prc (pE pf i ++ [(A, B)]))
      rw [e2, List.length_append]
      exact hO13
    obtain ⟨q3, c3, ev3, _⟩ := hO14.pairs.slice
    refine r_assign_v (v := v13) rfl ?_
    refine ⟨hE13, whB_done ?_⟩
    repeat' (first|refine za ?_|refine zA ?_|refine zB ?_|refine zb ?_|refine ze ?_|refine zd ?_|refine zI ?_|refine zh ?_)
    exact ⟨i + 1, v13, ⟨rfl, rfl, trivial⟩, ⟨by omega, hO14, hE13⟩, by omega⟩
  obtain rfl : i = N - 1 := by omega
  have hsl := hEl.size
  obtain ⟨q2, c2, ev2, _⟩ := hO.pairs.slice
  rw [pE_len] at ev2
  subst ev2
  repeat' (first|refine za ?_|refine zA ?_|refine zB ?_|refine zb ?_|refine zc ?_|refine ze ?_|refine zd ?_|refine zC ?_|refine zK ?_|refine zY ?_|refine zl ?_|refine zm ?_|refine zg ?_|refine zj ?_)
  refine wc_loop2 [0, 4, 5, 6, 10] (fun (j : Nat) (v : Value) => [(11, v), (13, .int .i64 j)]) (fun j v wz => j ≤ N ∧ OwnI wz wl.heap.size 3 v (ni (List.range j)) ∧ Ext wl wz) (fun j _ => N - j) 0 (.slice none 0 0) rfl ⟨rfl, rfl, trivial⟩
    ⟨by omega, World.ownsRow_nil _ _ _ _, Ext.refl _⟩ ?_
  rintro j v3 wz x3 ⟨hj, hA, hEz⟩
  have hlj : (ni (List.range j)).length = j := by rw [ni_len, List.length_range]
  by_cases hjn : j < N
  · repeat' (first|refine za ?_|refine zA ?_|refine zb ?_|refine zc ?_|refine ze ?_|refine zd ?_|refine zC ?_|refine zX ?_|refine zk ?_|refine zl ?_)
    refine r_append1_i (a := (j : Int)) el27 hA rfl rfl (by omega) hEz.size fun v1 w3 _ hO3 hG3 hne3 hgb3 => ?_
    have hE3 : Ext wl w3 := Ch.trans' hEz (Ch.grown hG3 (S := fun k => wl.heap.size ≤ k) fun k e => (World.ownsRow.lt hA k e).1) fun k hk e => by omega
    rw [rg_succ] at hO3
    repeat' (first|refine za ?_|refine zA ?_|refine zB ?_|refine zb ?_|refine ze ?_|refine zd ?_|refine zI ?_|refine zh ?_)
    exact ⟨j + 1, v1, ⟨rfl, rfl, trivial⟩, ⟨by omega, hO3, hE3⟩, by omega⟩
  obtain rfl : N = j := by omega
  obtain ⟨q3, c3, ev3, _⟩ := hA.ints.slice
  rw [hlj] at ev3
  subst ev3
  have hT1 : Tab wz u (tD pf N) := hTab.ext (hEl.trans hEz)
  obtain ⟨qT, cT, evT, _⟩ := hT1.slice
  rw [tD_len] at evT
  subst evT
  have hM := tD_miles hok h1 (by omega)
  have hMet := Metric_any (tD pf N) hM (fun i j k hi hj hk => by
    rw [tD_len] at hi hj hk
    rw [tD_dT hi hk, tD_dT hi hj, tD_dT hj hk]
    have := dN_tri hok hi hj hk
    omega) qT cT wz (by rw [tD_len]; exact hT1)
  rw [tD_len] at hMet
  repeat' (first|refine za ?_|refine zA ?_|refine zb ?_|refine zc ?_|refine ze ?_|refine zd ?_|refine zC ?_|refine zY ?_|refine zm ?_|refine zg ?_|refine zj ?_)
  (refine r_call (R := ?_) rfl ?_ ?_; rotate_left 1; focus exact hMet)
  rintro _ w4 ⟨rfl, hE4⟩
  repeat' (first|refine za ?_|refine zA ?_|refine zS ?_)
  refine r_allocN z41 fun w5 hb5 hE5 hs5 => ?_
  obtain ⟨b5, eb5⟩ : ∃ b, b = w4.heap.size := ⟨_, rfl⟩
  rw [← eb5] at hb5 ⊢
  repeat' (refine za ?_)
  refine r_stN (ws := [.int .i64 0, .int .i64 0, .int .i64 0]) ag41 (by decide) hb5 rfl rfl rfl rfl (by intro q hq; simp at hq; subst hq; rfl) fun w6 h6 hC6 hs6 => ?_
  have hE46 : Ext w4 w6 := Ch.trans' hE5 hC6 fun k hk e => by omega
  have hE26 := hE4.trans hE46
  have hBest := Best_any (tD pf N) hM qT cT w6 (by rw [tD_len]; exact hT1.ext hE26)
  obtain ⟨N', hN'⟩ : ∃ N', N = N' + 1 := ⟨N - 1, by omega⟩
  have hlen : lenK (tD pf N) (bestT (tD pf N)) (bestT (tD pf N)).length = 2 * ((N : Int) - 1) := by
    have := tree_tour (pf := pf) (n := N') (by rw [← hN']; exact hok) (by omega)
    rw [← hN'] at this
    rw [this]; omega
  rw [tD_len, hlen] at hBest
  obtain ⟨LB, hLB⟩ : ∃ LB, LB = 2 * ((N : Int) - 1) := ⟨_, rfl⟩
  rw [← hLB] at hBest
  repeat' (first|refine za ?_|refine zA ?_|refine zB ?_|refine zb ?_|refine zc ?_|refine ze ?_|refine zd ?_)
  (refine r_call (R := ?_) rfl ?_ ?_; rotate_left 1; focus exact hBest)
  rintro _ w7 ⟨ub, rfl, hub, hE7⟩
  obtain ⟨qb, cb, evb, _⟩ := hub.ints.slice
  subst evb
  have hE27 := hE26.trans hE7
  repeat' (first|refine za ?_|refine zA ?_|refine zB ?_|refine zb ?_|refine zc ?_|refine ze ?_|refine zd ?_|refine zS ?_)
  (refine r_call (R := ?_) rfl ?_ ?_; rotate_left 1; focus exact Bg.bdensity_any (N : Int) (.slice q2 (N - 1) c2) (.slice q3 N c3) (pE pf (N - 1)) (ni (List.range N)) w7 (hO.pairs.ext (hEz.trans hE27)) (by rw [← hlj] at *; exact hA.ints.ext hE27) (by omega) (by omega))
  rintro _ w8 ⟨hd, hE8⟩
  obtain ⟨d1, d2, d3, d4⟩ := dens_tree h1 h10 hok
  unfold Bg.DstR at hd
  rw [if_pos ⟨isG_tree h1 h10 hok, isS_rg h1⟩] at hd
  obtain ⟨dn, hdn⟩ : ∃ dn, dn = Bg.dnum (pE pf (N - 1)) (ni (List.range N)) := ⟨_, rfl⟩
  obtain ⟨dd, hdd⟩ : ∃ dd, dd = Bg.dden (pE pf (N - 1)) (ni (List.range N)) := ⟨_, rfl⟩
  rw [← hdn, ← hdd] at hd
  rw [← hdn] at d1 d4
  rw [← hdd] at d1 d2 d3
  subst hd
  obtain ⟨pp, hpp⟩ : ∃ pp, pp = (N - 1) * dd := ⟨_, rfl⟩
  have hpi : ((N : Int) - 1) * (dd : Int) = (pp : Int) := by rw [hpp, Int.natCast_mul]; congr 1; omega
  have hppb : pp ≤ 100 := by rw [hpp]; exact Nat.le_trans (Nat.mul_le_mul (show N - 1 ≤ 10 by omega) d3) (by decide)
  repeat' (first|refine za ?_|refine zA ?_|refine zS ?_)
  refine r_allocN zT47 fun w9 hb9 hE9 hs9 => ?_
  obtain ⟨b9, eb9⟩ : ∃ b, b = w8.heap.size := ⟨_, rfl⟩
  rw [← eb9] at hb9 ⊢
  repeat' (refine za ?_)
  refine r_stN (ws := [.int .i64 dn, .int .i64 dd]) aT47 (by decide) hb9 rfl rfl rfl rfl (by intro q hq; simp at hq; rcases hq with rfl | rfl <;> rfl) fun w10 h10 hC10 hs10 => ?_
  have hE810 : Ext w8 w10 := Ch.trans' hE9 hC10 fun k hk e => by omega
  have hEw10 := (((hEl.trans hEz).trans hE27).trans hE8).trans hE810
  repeat' (first|refine za ?_|refine zA ?_|refine zB ?_|refine zb ?_|refine zc ?_|refine ze ?_|refine zd ?_)
  (refine r_call (R := ?_) rfl ?_ ?_; rotate_left 1; focus exact TimeG pf N h1 (by omega) hok 0 (by omega) q c w10 (hP1.ext (hEk.trans hEw10)))
  rintro _ w11 ⟨⟨tm, rfl, ht0, ht1⟩, hE11⟩
  have h11 := h10.ext hE11
  have gn := h11.rd (k := 0) rfl
  have gd := h11.rd (k := 1) rfl
  repeat' (first|refine za ?_|refine zA ?_|refine zB ?_|refine zb ?_|refine zc ?_|refine ze ?_|refine zd ?_|refine zG ?_|refine zJ ?_|refine zQ ?_|refine zS ?_|refine zU ?_)
  refine r_mul_in rfl rfl (by omega) ?_
  repeat' (first|refine za ?_|refine zA ?_|refine zG ?_|refine zQ ?_|refine zU ?_)
  refine r_fa fo47_1 rfl ?_
  repeat' (first|refine za ?_|refine zA ?_|refine zF ?_|refine zM ?_|refine zQ ?_|refine zU ?_)
  refine r_fa fo47_0 rfl ?_
  repeat' (first|refine zA ?_|refine zM ?_|refine zU ?_)
  refine r_mul_n (a := dn) (b := N) (c := pp) rfl rfl (by omega) (by omega) ?_
  repeat' (first|refine zA ?_|refine zJ ?_|refine zU ?_)
  refine r_fa fo47_1 rfl ?_
  repeat' (first|refine zM ?_|refine zU ?_)
  refine r_mul_v (c := (pp : Int)) rfl rfl (by omega) hpi ?_
  repeat' (first|refine za ?_|refine zA ?_|refine zG ?_|refine zQ ?_|refine zU ?_)
  refine r_max (c := LB) rfl rfl (if_neg (by omega)) ?_
  repeat' (first|refine za ?_|refine zA ?_|refine zD ?_|refine zQ ?_|refine zU ?_)
  (refine r_call (R := ?_) rfl ?_ ?_; rotate_left 1; focus exact nine_any w11)
  rintro _ w12 ⟨rfl, hE12⟩
  repeat' (first|refine za ?_|refine zB ?_|refine zb ?_|refine ze ?_|refine zQ ?_|refine zn ?_)
  refine post1 (v := .bool true) rfl rfl ?_
  exact ⟨rfl, (((hE1.trans hEk).trans hEw10).trans hE11).trans hE12⟩
end Go.Proofs.YtocgehoffdjijaaGreat

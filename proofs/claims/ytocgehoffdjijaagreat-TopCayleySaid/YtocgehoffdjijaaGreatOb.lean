/- top: owned rows of ints whose blocks lie in a set. -/
import Derived.Test.YtocgehoffdjijaaGreatQ
import Derived.Test.YtocgehoffdjijaaGreatMem
namespace Go.Proofs.YtocgehoffdjijaaGreat
open Gv
/-- Owned rows of ints; their blocks lie in B, no two the same. -/
def OwnB (w : World) (B : Nat → Prop) (eo ei : TypeId) (v : Value) (T : List (List Int)) : Prop :=
  ∃ vs, Gv.Own w 0 eo v vs ∧ vs.length = T.length ∧ (∀ (i : Nat) (u : Value), vs[i]? = some u → OwnI w 0 ei u (T.getD i [])) ∧
    (∀ (i j : Nat) (u u' : Value) (g : Nat), vs[i]? = some u → vs[j]? = some u' → u.ownBlock = some g → u'.ownBlock = some g → i = j) ∧
    (∀ (i : Nat) (u : Value) (g : Nat), vs[i]? = some u → u.ownBlock = some g → B g ∧ v.ownBlock ≠ some g) ∧ (∀ g, v.ownBlock = some g → B g)
section
variable {w w' : World} {B B' : Nat → Prop} {lo hi : Nat} {eo ei : TypeId} {v u : Value} {T : List (List Int)} {L : List Int}
theorem OwnT.toB (h : OwnT w lo hi eo ei v T) : OwnB w (fun k => lo ≤ k ∧ k < hi) eo ei v T := by
  obtain ⟨vs, h1, h2, h3, h4, h5, h6⟩ := h
  exact ⟨vs, h1.mono (Nat.zero_le _), h2, fun i u hu => ownsRow_mono (h3 i u hu) (Nat.zero_le _), h4,
    fun i u g hu hg => ⟨⟨(World.ownsRow.lt (h3 i u hu) g hg).1, (h5 i u g hu hg).1⟩, (h5 i u g hu hg).2⟩, fun g hg => ⟨(h1.lt g hg).1, h6 g hg⟩⟩
theorem OwnB.tab (h : OwnB w B eo ei v T) : Tab w v T := by
  obtain ⟨vs, h1, h2, h3, _⟩ := h
  refine ⟨vs, h2 ▸ h1.sl, fun i hi => ?_⟩
  have hi' : i < vs.length := by omega
  refine ⟨vs[i], by simp [hi'], ?_⟩
  have := (h3 i vs[i] (by simp [hi'])).ints
  rwa [show T.getD i [] = T[i] by simp [List.getD, hi]] at this
theorem OwnB.keep {S : Nat → Prop} (h : OwnB w B eo ei v T) (hc : Ch S w w') (hs : ∀ g, B g → ¬ S g) : OwnB w' B eo ei v T := by
  obtain ⟨vs, h1, h2, h3, h4, h5, h6⟩ := h
  exact ⟨vs, h1.keep hc fun g hg => hs g (h6 g hg), h2,
    fun i u hu => ownsRow_keep (h3 i u hu) hc fun g hg => hs g (h5 i u g hu hg).1, h4, h5, h6⟩
theorem OwnB.ext (h : OwnB w B eo ei v T) (hc : Ext w w') : OwnB w' B eo ei v T := h.keep hc fun _ _ e => e
theorem OwnB.mono (h : OwnB w B eo ei v T) (hB : ∀ k, B k → B' k) : OwnB w B' eo ei v T := by
  obtain ⟨vs, h1, h2, h3, h4, h5, h6⟩ := h
  exact ⟨vs, h1, h2, h3, h4, fun i u g hu hg => ⟨hB _ (h5 i u g hu hg).1, (h5 i u g hu hg).2⟩, fun g hg => hB _ (h6 g hg)⟩
theorem OwnB.lt (h : OwnB w B eo ei v T) : ∀ g, v.ownBlock = some g → B g ∧ g < w.heap.size := by
  obtain ⟨vs, h1, h2, h3, h4, h5, h6⟩ := h
  exact fun g hg => ⟨h6 g hg, (h1.lt g hg).2⟩
/-- A row, to be read and written. -/
theorem OwnB.row {p : Option Addr} {n c : Nat} (h : OwnB w B eo ei (.slice p n c) T) {i : Nat} (hi' : i < T.length) :
    ∃ q m, Gv.rd w (pidx p i 1) = some (.slice q (T.getD i []).length m) ∧ OwnI w 0 ei (.slice q (T.getD i []).length m) (T.getD i []) ∧
      (∀ g, (Value.slice q (T.getD i []).length m).ownBlock = some g → B g) ∧
      (∀ w' L', L'.length = (T.getD i []).length → OwnI w' 0 ei (.slice q (T.getD i []).length m) L' → Ch (fun k => (Value.slice q (T.getD i []).length m).ownBlock = some k) w w' → OwnB w' B eo ei (.slice p n c) (T.set i L')) := by
  obtain ⟨vs, h1, h2, h3, h4, h5, h6⟩ := h
  have hiv : i < vs.length := by omega
  have hu : vs[i]? = some vs[i] := by simp [hiv]
  have ho := h3 i vs[i] hu
  obtain ⟨q, m, hq, _⟩ := ho.ints.slice
  rw [hq] at ho hu
  refine ⟨q, m, Sl.rd1 h1.sl i hu, ho, fun g hg => (h5 i _ g hu hg).1, fun w' L' hl ho' hc => ?_⟩
  refine ⟨vs, h1.keep hc fun g hg' => fun e => (h5 i _ g hu e).2 hg', by simp [h2], fun j u hj => ?_, h4, h5, h6⟩
  by_cases hji : j = i
  · subst hji
    rw [hu] at hj
    cases hj
    have : (T.set j L').getD j [] = L' := by simp [List.getD, hi']
    rw [this]
    exact ho'
  · have : (T.set i L').getD j [] = T.getD j [] := by simp [List.getD, Ne.symm hji]
    rw [this]
    exact ownsRow_keep (h3 j u hj) hc fun g hg' e => hji (h4 j i u _ g hj hu hg' e)
end
theorem OwnB.init {w : World} {lo : Nat} {B : Nat → Prop} {eo ei : TypeId} {v : Value} {n : Nat} (h : Gv.Own w lo eo v (List.replicate n (.slice none 0 0))) (hB : ∀ g, v.ownBlock = some g → B g) : OwnB w B eo ei v (List.replicate n []) := by
  have hn : ∀ (i : Nat) (u : Value), (List.replicate n (Value.slice none 0 0))[i]? = some u → u = .slice none 0 0 := fun i u hu => by
    rw [List.getElem?_replicate] at hu
    split at hu
    · injection hu with e; exact e.symm
    · cases hu
  refine ⟨_, h.mono (Nat.zero_le _), by simp, fun i u hu => ?_, fun i j u u' g hu _ hg _ => ?_, fun i u g hu hg => ?_, hB⟩
  · rw [hn i u hu]
    have : (List.replicate n ([] : List Int)).getD i [] = [] := by
      rw [List.getD_eq_getElem?_getD, List.getElem?_replicate]; split <;> rfl
    rw [this]; exact World.ownsRow_nil _ _ _ _
  · rw [hn i u hu] at hg; cases hg
  · rw [hn i u hu] at hg; cases hg
section
variable {P : Program} {st : Bool} {K : Env → World → Prop} {ρ : Env} {w : World} {d : Nat} {ty : TypeId} {pos : String} {aft : Array Edge} {gd : Option (Nat × Bool)}
variable {x y : Operand} {t ty' eo ei : TypeId} {z v u : Value} {B : Nat → Prop} {L : List Int} {T : List (List Int)} {b : Nat} {a : Int} {k : IntKind}
/-- 'rows[i] = row', a new row. -/
theorem r_put {i c n : Nat} {p : Option Addr} (hsz : P.cellsOf ty' = 1) (hT : OwnB w B eo ei (.slice p n c) T) (hx : ev ρ x = .pointer (pidx p i 1)) (hy : ev ρ y = u) (hin : i < T.length)
    (hu : OwnI w b ei u L) (hb : ∀ g, B g → g < b)
    (h : ∀ w', OwnB w' (fun k => B k ∨ (b ≤ k ∧ k < w.heap.size)) eo ei (.slice p n c) (T.set i L) → Ch (fun k => (Value.slice p n c).ownBlock = some k) w w' → w'.heap.size = w.heap.size → K ρ w') :
    w1 P false ⟨none, .store ty' x y, ty, pos, aft, gd⟩ K ρ w := by
  have hB := hT.lt
  obtain ⟨vs, h1, h2, h3, h4, h5, h6⟩ := hT
  obtain ⟨p', m, hn, _⟩ := h1.sl.slice
  have hnn : n = vs.length := by cases hn; rfl
  subst hnn
  have h1u : u.oneCell' = true := by obtain ⟨q, m, rfl, _⟩ := hu.ints.slice; rfl
  refine r_st_v hsz h1 hx hy h1u (by omega) fun w' hw hg hs => ?_
  have hc : Ch (fun k => (Value.slice p vs.length c).ownBlock = some k) w w' := Ch.grown hg fun k hk => hk
  have hub : ∀ g, u.ownBlock = some g → b ≤ g ∧ g < w.heap.size := World.ownsRow.lt hu
  have hnew : ∀ g, u.ownBlock = some g → ¬ B g := fun g hg e => by have := hub g hg; have := hb g e; omega
  have key : ∀ (j : Nat) (u' : Value), (vs.set i u)[j]? = some u' → (j = i ∧ u' = u) ∨ (j ≠ i ∧ vs[j]? = some u') := fun j u' hj => by
    rw [List.getElem?_set] at hj
    split at hj
    · rename_i e; subst e
      split at hj
      · cases hj; exact .inl ⟨rfl, rfl⟩
      · cases hj
    · rename_i e; exact .inr ⟨Ne.symm e, hj⟩
  refine h w' ⟨vs.set i u, ?_, by simp [h2], ?_, ?_, ?_, fun g hg => .inl (h6 g hg)⟩ hc hs
  · exact hw
  · intro j u' hj
    rcases key j u' hj with ⟨rfl, rfl⟩ | ⟨hne, hj'⟩
    · have : (T.set j L).getD j [] = L := by simp [List.getD, hin]
      rw [this]
      exact ownsRow_mono (ownsRow_keep hu hc fun g hg' e => hnew g hg' (h6 g e)) (Nat.zero_le _)
    · have : (T.set i L).getD j [] = T.getD j [] := by simp [List.getD, Ne.symm hne]
      rw [this]
      exact ownsRow_keep (h3 j u' hj') hc fun g hg' e => (h5 j u' g hj' hg').2 e
  · intro j j' u1 u2 g hj1 hj2 hg1 hg2
    rcases key j u1 hj1 with ⟨rfl, rfl⟩ | ⟨hne, hj'⟩
    · rcases key j' u2 hj2 with ⟨rfl, rfl⟩ | ⟨hne2, hj2'⟩
      · rfl
      · exact absurd (h5 j' u2 g hj2' hg2).1 (hnew g hg1)
    · rcases key j' u2 hj2 with ⟨rfl, rfl⟩ | ⟨hne2, hj2'⟩
      · exact absurd (h5 j u1 g hj' hg1).1 (hnew g hg2)
      · exact h4 j j' u1 u2 g hj' hj2' hg1 hg2
  · intro j u' g hj hg'
    rcases key j u' hj with ⟨rfl, rfl⟩ | ⟨hne, hj'⟩
    · exact ⟨.inr (hub g hg'), fun e => hnew g hg' (h6 g e)⟩
    · exact ⟨.inl (h5 j u' g hj' hg').1, (h5 j u' g hj' hg').2⟩
end
end Go.Proofs.YtocgehoffdjijaaGreat

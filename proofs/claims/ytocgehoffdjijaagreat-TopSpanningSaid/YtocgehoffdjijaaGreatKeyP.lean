/- Maps whose keys are pairs of ints; 'm[k] += x'. -/
import Derived.Test.YtocgehoffdjijaaGreatMaps
import Derived.WideKeyRuns
import Derived.WideKeyArr
import Derived.ChangeKeysEq
namespace Go.Proofs.YtocgehoffdjijaaGreat
namespace Gv
open Go.WideMaps
section
variable {P : Program} {kt e : TypeId}
theorem run_eqP (A : ArrKey P kt e 2) (he : P.underlying e = some (.int .i64)) (w : World) (x y : Int × Int) : (Op.equal kt (encP x) (encP y)).run P w = .ok (decide (x = y)) w := by
  obtain ⟨i, hi⟩ : ∃ i, P.info? e = some i := by
    have h1 := A.one
    unfold Program.cellsOf at h1
    cases hi : P.info? e with
    | none => rw [hi] at h1; cases h1
    | some i => exact ⟨i, rfl⟩
  have hcell : ∀ (a b : Int) (D : Nat), (Op.equalIn (D + 1) e (.int .i64 a) (.int .i64 b)).run P w = .ok (a == b) w := fun a b D => by simp [Op.equalIn, run_underlying he]
  obtain ⟨a, b⟩ := x
  obtain ⟨c, d⟩ := y
  have p0 : ∀ a b : Int, (part e #[.int .i64 a, .int .i64 b] 0).run P w = .ok (.int .i64 a) w := fun _ _ => run_part_plain w A.plain rfl
  have p1 : ∀ a b : Int, (part e #[.int .i64 a, .int .i64 b] 1).run P w = .ok (.int .i64 b) w := fun _ _ => run_part_plain w A.plain rfl
  have hD : ∀ D : Nat, (Op.equalIn (D + 2) kt (encP (a, b)) (encP (c, d))).run P w = .ok (decide ((a, b) = (c, d))) w := fun D => by
    unfold encP
    rw [run_equalIn_array w (D + 1) _ _ A.hu hi, A.one]
    simp only [List.range_succ, List.range_zero, List.nil_append, List.cons_append, Op.eqItems, Sem.run_bind, Nat.zero_mul, Nat.one_mul, p0, Result.andThen_ok, hcell]
    by_cases h1 : a = c <;> by_cases h2 : b = d <;> simp [h1, h2, p1, hcell]
  exact hD 9998
theorem key_pair (A : ArrKey P kt e 2) (he : P.underlying e = some (.int .i64)) : KeyOf P kt encP := by
  refine ⟨fun w b k => ?_, fun w k m => ?_, fun k => ?_⟩
  · obtain ⟨i, hi⟩ : ∃ i, P.info? e = some i := by
      have h1 := A.one
      unfold Program.cellsOf at h1
      cases hi : P.info? e with
      | none => rw [hi] at h1; cases h1
      | some i => exact ⟨i, rfl⟩
    have hsz : i.size = 1 := by have h1 := A.one; unfold Program.cellsOf at h1; rw [hi] at h1; simpa using h1
    have hck : ∀ (a : Int) (D : Nat), (Instr.checkKey b (D + 1) e (.int .i64 a)).run P w = .ok () w := fun a D => by simp [Instr.checkKey, run_underlying he]
    have p0 : (part e #[.int .i64 k.1, .int .i64 k.2] 0).run P w = .ok (.int .i64 k.1) w := run_part_plain w A.plain rfl
    have p1 : (part e #[.int .i64 k.1, .int .i64 k.2] 1).run P w = .ok (.int .i64 k.2) w := run_part_plain w A.plain rfl
    have hD : ∀ D : Nat, (Instr.checkKey b (D + 2) kt (encP k)).run P w = .ok () w := fun D => by
      unfold encP
      rw [Instr.checkKey]
      simp only [Sem.run_bind, run_underlying A.hu, Result.andThen_ok]
      rw [forIn_two (y := PUnit.unit) (z := PUnit.unit)]
      · rfl
      · simp [run_sizeOf w hi, A.one, p0, hck]
      · simp [run_sizeOf w hi, A.one, p1, hck]
    exact hD 9998
  · rw [run_findKey_eq w A.wide]
    have h : ∀ (m : List ((Int × Int) × Value × Nat)) (i : Nat), (Instr.findAsking kt (encP k) (m.map (mkE encP)) i).run P w = .ok (fndI k m i) w := by
      intro m
      induction m with
      | nil => intro i; rfl
      | cons x r ih =>
        intro i
        simp only [List.map_cons, Instr.findAsking, mkE, Sem.run_bind, run_eqP A he, Result.andThen_ok, fndI]
        by_cases hk : k = x.1
        · simp [hk]
        · simp only [hk, decide_false, if_false, Bool.false_eq_true]
          exact ih (i + 1)
    exact h m 0
  · unfold encP
    simp [Instr.sameBits]
end
/-- The entry of a key, by its stamp. -/
def StampF {κ : Type} [DecidableEq κ] (enc : κ → Value) (w : World) (b : Nat) (F : κ → Option Value) (k : κ) (n : Nat) : Prop :=
  ∃ m clock, MapE enc w b m clock ∧ (∀ k, getM m k = F k) ∧ ∃ v, (k, v, n) ∈ m
section
variable {κ : Type} [DecidableEq κ] {enc : κ → Value} {P : Program} {w w' : World} {b : Nat} {F : κ → Option Value}
theorem StampF.map {k : κ} {n : Nat} (h : StampF enc w b F k n) : MapF enc w b F := by obtain ⟨m, c, h1, h2, _⟩ := h; exact ⟨m, c, h1, h2⟩
theorem setB_self {w : World} {b : Nat} {o : Obj} (h : w.heap[b]? = some o) : setB w b o = w := by
  have hlt := (Array.getElem?_eq_some_iff.1 h).1
  have : w.heap.setIfInBounds b o = w.heap := by
    apply Array.ext_getElem?
    intro i
    rw [Array.getElem?_setIfInBounds]
    by_cases e : b = i
    · subst e
      obtain ⟨_, he⟩ := Array.getElem?_eq_some_iff.1 h
      simp [hlt, he]
    · rw [if_neg e]
  unfold setB; rw [this]
theorem run_mapEntry_old {t kt e : TypeId} {z : Value} (ht : mapT P t = some (kt, e, z)) (hk : KeyOf P kt enc) (h : MapF enc w b F) {k : κ} {v : Value} (hv : F k = some v) :
    ∃ n : Nat, (Instr.mapEntry t (.map (some b)) (enc k)).run P w = .ok (.tuple #[v, .int .i64 n]) w ∧ StampF enc w b F k n := by
  obtain ⟨m, c, h1, h2⟩ := h
  obtain ⟨ht', _⟩ := mapT_spec ht
  have hck := hk.check w false k
  have hf := hk.find w k m
  have hg := fndI_get k m 0
  rw [h2 k, hv] at hg
  cases hfi : fndI k m 0 with
  | none => rw [hfi] at hg; cases hg
  | some jv =>
    obtain ⟨j, v0⟩ := jv
    rw [hfi] at hf hg
    simp only [Option.map_some, Option.some.injEq] at hg
    subst hg
    obtain ⟨n, x, hj, hx, hxk, hxv⟩ := fndI_some k m 0 j v0 hfi
    have hj' : j = n := by omega
    subst hj'
    refine ⟨x.2.2, ?_, m, c, h1, h2, x.2.1, ?_⟩
    · have hes : ((m.map (mkE enc)).toArray[j]?.map (·.key)).getD (enc k) = enc k := by simp [hx, mkE, hxk]
      have hbn : ((m.map (mkE enc)).toArray[j]?.map (fun y => (y.born : Int))).getD 0 = (x.2.2 : Int) := by simp [hx, mkE]
      have hst : (Instr.keyThatStays (enc k) (enc k)).run P w = .ok (enc k) w := by simp [Instr.keyThatStays, hk.same]
      have hmod : ((m.map (mkE enc)).toArray.modify j fun e => { e with key := enc k }) = (m.map (mkE enc)).toArray := by
        apply Array.ext'
        simp only [Array.toList_modify]
        apply List.ext_getElem?
        intro i
        rw [List.getElem?_modify]
        by_cases hij : j = i
        · subst hij; simp [hx, mkE, hxk]
        · simp [hij]
      have hset : (setObj b (.map (m.map (mkE enc)).toArray c)).run P w = .ok () w := by
        have : (setObj b (.map (m.map (mkE enc)).toArray c)).run P w = .ok () (setB w b (.map (m.map (mkE enc)).toArray c)) := by simp only [setObj, Sem.run, h1.1, setB]
        rw [this, setB_self h1.1]
      have hget : (getObj b).run P w = .ok (.map (m.map (mkE enc)).toArray c) w := by simp only [getObj, Sem.run, h1.1]
      simp only [Instr.mapEntry, Sem.run_bind, run_underlying ht', Result.andThen_ok, hget, hck, hf, hes, hst, hmod, hset, hbn, Sem.run_pure, goInt]
    · have : (k, x.2.1, x.2.2) = x := by rw [← hxk]
      rw [this]; exact List.mem_of_getElem? hx
theorem run_entryStore {t : TypeId} {k : κ} {n : Nat} (h : StampF enc w b F k n) (v : Value) :
    ∃ w', (Instr.entryStore t (.map (some b)) (.int .i64 n) v).run P w = .ok () w' ∧ MapF enc w' b (fun k' => if k' = k then some v else F k') ∧ Ch (fun x => x = b) w w' ∧ w'.heap.size = w.heap.size := by
  obtain ⟨m, c, h1, h2, v0, hm⟩ := h
  have hlt : b < w.heap.size := (Array.getElem?_eq_some_iff.1 h1.1).1
  obtain ⟨j, hj, hjx⟩ := List.getElem_of_mem hm
  have hx : m[j]? = some (k, v0, n) := by rw [List.getElem?_eq_getElem hj, hjx]
  have hset : ∀ o, (setObj b o).run P w = .ok () (setB w b o) := fun o => by simp only [setObj, Sem.run, h1.1, setB]
  have hfi : (m.map (mkE enc)).toArray.findIdx? (fun e => (e.born : Int) == (n : Int)) = some j := by
    rw [List.findIdx?_toArray, List.findIdx?_eq_some_iff_getElem]
    refine ⟨by simpa using hj, by simp [mkE, hjx], fun i hi => ?_⟩
    have hnd := List.pairwise_iff_getElem.1 h1.2.2.1 i j (by simp; omega) (by simpa using hj) hi
    simp only [List.getElem_map, hjx] at hnd
    simp [mkE]
    omega
  refine ⟨setB w b (.map ((m.map (mkE enc)).toArray.modify j fun e => { e with val := v }) c), ?_, ⟨m.set j (k, v, n), c, ⟨?_, ?_, ?_, ?_⟩, fun k' => by rw [getM_set k v _ k' m j _ h1.2.1 hx rfl, h2 k']⟩,
    ⟨rfl, rfl, rfl, by simp [setB], fun x hx hne => by simp [setB, Array.getElem?_setIfInBounds_ne (Ne.symm hne)]⟩, by simp [setB]⟩
  · have hs := hset (.map ((m.map (mkE enc)).toArray.modify j fun e => { e with val := v }) c)
    have hget : (getObj b).run P w = .ok (.map (m.map (mkE enc)).toArray c) w := by simp only [getObj, Sem.run, h1.1]
    have hai : (asInt (.int .i64 (n : Int))).run P w = .ok (n : Int) w := by simp [asInt, asIntOf]
    simp only [Instr.entryStore, Sem.run_bind, Result.andThen_ok, hget, hai, hfi, hs]
  · have : (setB w b (.map ((m.map (mkE enc)).toArray.modify j fun e => { e with val := v }) c)).heap[b]? = some (.map ((m.map (mkE enc)).toArray.modify j fun e => { e with val := v }) c) := by simp [setB, hlt]
    rw [this]
    congr 2
    apply Array.ext'
    simp only [Array.toList_modify]
    apply List.ext_getElem?
    intro i
    rw [List.getElem?_modify, List.map_set, List.getElem?_set]
    by_cases hij : j = i
    · subst hij
      simp [mkE, hj, hjx]
    · simp [hij]
  · rw [List.map_set]
    have : (m.map (·.1)).set j k = m.map (·.1) := by
      apply List.ext_getElem?
      intro i
      rw [List.getElem?_set]
      split
      · rename_i e; subst e; simp [hx]; exact hj
      · rfl
    rw [this]; exact h1.2.1
  · rw [List.map_set]
    have : (m.map (·.2.2)).set j n = m.map (·.2.2) := by
      apply List.ext_getElem?
      intro i
      rw [List.getElem?_set]
      split
      · rename_i e; subst e; simp [hx]; exact hj
      · rfl
    rw [this]; exact h1.2.2.1
  · intro y hy
    rcases List.mem_or_eq_of_mem_set hy with hy | rfl
    · exact h1.2.2.2 y hy
    · have := h1.2.2.2 _ hm; exact this
/-- Where the key is new: the entry is made first. -/
theorem run_mapEntry_new {t kt e : TypeId} {z : Value} (ht : mapT P t = some (kt, e, z)) (hk : KeyOf P kt enc) (h : MapF enc w b F) {k : κ} (hv : F k = none) :
    ∃ (n : Nat) (w' : World), (Instr.mapEntry t (.map (some b)) (enc k)).run P w = .ok (.tuple #[z, .int .i64 n]) w' ∧ StampF enc w' b (fun k' => if k' = k then some z else F k') k n ∧ Ch (fun x => x = b) w w' ∧ w'.heap.size = w.heap.size := by
  obtain ⟨m, c, h1, h2⟩ := h
  obtain ⟨ht', hz⟩ := mapT_spec ht
  have hck := hk.check w false k
  have hf := hk.find w k m
  have hg := fndI_get k m 0
  have hlt : b < w.heap.size := (Array.getElem?_eq_some_iff.1 h1.1).1
  rw [h2 k, hv] at hg
  cases hfi : fndI k m 0 with
  | some jv => rw [hfi] at hg; cases hg
  | none =>
    rw [hfi] at hf
    have hn : k ∉ m.map (·.1) := getM_none.1 (by rw [h2 k, hv])
    have hset : ∀ o, (setObj b o).run P w = .ok () (setB w b o) := fun o => by simp only [setObj, Sem.run, h1.1, setB]
    refine ⟨c, setB w b (.map ((m.map (mkE enc)).toArray.push { key := enc k, val := z, born := c }) (c + 1)), ?_, ⟨m ++ [(k, z, c)], c + 1, ⟨?_, ?_, ?_, ?_⟩, fun k' => by rw [getM_push k z c k' m hn, h2 k'], z, by simp⟩,
      ⟨rfl, rfl, rfl, by simp [setB], fun x hx hne => by simp [setB, Array.getElem?_setIfInBounds_ne (Ne.symm hne)]⟩, by simp [setB]⟩
    · have hs := hset (.map ((m.map (mkE enc)).toArray.push { key := enc k, val := z, born := c }) (c + 1))
      have hget : (getObj b).run P w = .ok (.map (m.map (mkE enc)).toArray c) w := by simp only [getObj, Sem.run, h1.1]
      simp only [Instr.mapEntry, Sem.run_bind, run_underlying ht', Result.andThen_ok, hget, hck, hf, hz, hs, Sem.run_pure, goInt]
    · have : (setB w b (.map ((m.map (mkE enc)).toArray.push { key := enc k, val := z, born := c }) (c + 1))).heap[b]? = some (.map ((m.map (mkE enc)).toArray.push { key := enc k, val := z, born := c }) (c + 1)) := by simp [setB, hlt]
      rw [this]; simp [mkE]
    · rw [List.map_append]
      refine List.nodup_append.2 ⟨h1.2.1, by simp, ?_⟩
      intro a ha b' hb' e
      simp at hb'
      exact hn (by rw [← hb', ← e]; exact ha)
    · simp only [List.map_append, List.map_cons, List.map_nil]
      refine List.nodup_append.2 ⟨h1.2.2.1, by simp, ?_⟩
      intro a ha b' hb'
      simp at hb'; subst hb'
      obtain ⟨x, hx, rfl⟩ := List.mem_map.1 ha
      have := h1.2.2.2 x hx; omega
    · intro x hx
      rcases List.mem_append.1 hx with hx | hx
      · have := h1.2.2.2 x hx; omega
      · simp at hx; subst hx; simp
variable {st : Bool} {K : Env → World → Prop} {ρ : Env} {d : Nat} {ty : TypeId} {pos : String} {aft : Array Edge} {gd : Option (Nat × Bool)} {x y u s : Operand} {t kt e : TypeId} {z v : Value} {k : κ}
theorem r_mapEntry (ht : mapT P t = some (kt, e, z)) (hk : KeyOf P kt enc) (h0 : MapF enc w b F) (hx : ev ρ x = .map (some b)) (hy : ev ρ y = enc k) (hv : F k = some v)
    (h : ∀ n : Nat, StampF enc w b F k n → K (up ρ d (.tuple #[v, .int .i64 n])) w) : w1 P st ⟨some d, .mapEntry t x y, ty, pos, aft, gd⟩ K ρ w := by
  obtain ⟨n, hr, hs⟩ := run_mapEntry_old ht hk h0 hv
  refine w1_val (v := .tuple #[v, .int .i64 n]) ?_ (h n hs)
  simp [execOp, hx, hy, hr]
theorem r_mapEntry_new (ht : mapT P t = some (kt, e, z)) (hk : KeyOf P kt enc) (h0 : MapF enc w b F) (hx : ev ρ x = .map (some b)) (hy : ev ρ y = enc k) (hv : F k = none)
    (h : ∀ (n : Nat) (w' : World), StampF enc w' b (fun k' => if k' = k then some z else F k') k n → Ch (fun x => x = b) w w' → w'.heap.size = w.heap.size → K (up ρ d (.tuple #[z, .int .i64 n])) w') :
    w1 P false ⟨some d, .mapEntry t x y, ty, pos, aft, gd⟩ K ρ w := by
  obtain ⟨n, w', hr, hs, hc, hz⟩ := run_mapEntry_new ht hk h0 hv
  refine w1_val' (v := .tuple #[z, .int .i64 n]) (w' := w') ?_ (h n w' hs hc hz)
  simp [execOp, hx, hy, hr]
theorem r_entryStore {n : Nat} {dd : Option Nat} (hs : StampF enc w b F k n) (hx : ev ρ x = .map (some b)) (hn : ev ρ s = .int .i64 n) (hu : ev ρ u = v)
    (h : ∀ w', MapF enc w' b (fun k' => if k' = k then some v else F k') → Ch (fun x => x = b) w w' → w'.heap.size = w.heap.size → K (upo ρ dd undef) w') :
    w1 P false ⟨dd, .entryStore t x s u, ty, pos, aft, gd⟩ K ρ w := by
  obtain ⟨w', hr, h1, h2, h3⟩ := run_entryStore (P := P) (t := t) hs v
  refine w1_skip' (w' := w') ?_ (h w' h1 h2 h3)
  simp [execOp, hx, hn, hu, hr]
end
end Gv
end Go.Proofs.YtocgehoffdjijaaGreat

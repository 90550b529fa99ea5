/- Maps: what a map that the program made holds, as a function of its keys; the rules for make, lookup, store, range. -/
import Derived.Test.YtocgehoffdjijaaGreatMem
namespace Go.Proofs.YtocgehoffdjijaaGreat
namespace Gv

def mkE {κ : Type} (enc : κ → Value) (x : κ × Value × Nat) : MapEntry := { key := enc x.1, val := x.2.1, born := x.2.2 }
def fndI {κ : Type} [DecidableEq κ] (k : κ) : List (κ × Value × Nat) → Nat → Option (Nat × Value)
  | [], _ => none
  | x :: r, i => if k = x.1 then some (i, x.2.1) else fndI k r (i + 1)
structure KeyOf (P : Program) (kt : TypeId) {κ : Type} [DecidableEq κ] (enc : κ → Value) : Prop where
  check : ∀ (w : World) (b : Bool) (k : κ), (Instr.checkKey b 10000 kt (enc k)).run P w = .ok () w
  find : ∀ (w : World) (k : κ) (m : List (κ × Value × Nat)), (Instr.findKey kt (enc k) (m.map (mkE enc))).run P w = .ok (fndI k m 0) w
  same : ∀ k, Instr.sameBits 10000 (enc k) (enc k) = true
def encI (k : Int) : Value := .int .i64 k
def encP (k : Int × Int) : Value := .agg #[.int .i64 k.1, .int .i64 k.2]
theorem key_int {P : Program} {kt : TypeId} (h : P.underlying kt = some (.int .i64)) : KeyOf P kt encI := by
  refine ⟨fun w b k => ?_, fun w k m => ?_, fun k => ?_⟩
  · have hD : ∀ D : Nat, (Instr.checkKey b (D + 1) kt (encI k)).run P w = .ok () w := fun D => by simp [Instr.checkKey, run_underlying h, encI]
    exact hD 9999
  · have hn : ∀ (m : List (Int × Value × Nat)) (i : Nat), Instr.findNow (.int .i64) (encI k) (m.map (mkE encI)) i = some (fndI k m i) := by
      intro m
      induction m with
      | nil => intro i; rfl
      | cons x r ih =>
        intro i
        simp only [List.map_cons, Instr.findNow, mkE, encI, Instr.sameNow, if_true, fndI]
        by_cases hk : k = x.1
        · simp [hk]
        · have : (k == x.1) = false := by simpa using hk
          simp only [this, if_neg hk]
          exact ih (i + 1)
    simp [Instr.findKey, run_underlying h, hn]
  · simp [Instr.sameBits, encI]
theorem forIn_two {P : Program} {w : World} {α : Type} (f : Nat → α → Sem (ForInStep α)) (x y z : α) (h0 : (f 0 x).run P w = .ok (.yield y) w) (h1 : (f 1 y).run P w = .ok (.yield z) w) :
    (forIn [0:2] x f).run P w = .ok z w := by
  simp [Std.Legacy.Range.forIn_eq_forIn_range', Std.Legacy.Range.size, List.range', h0, h1]

/-- What a map block holds. -/
def MapE {κ : Type} (enc : κ → Value) (w : World) (b : Nat) (m : List (κ × Value × Nat)) (clock : Nat) : Prop :=
  w.heap[b]? = some (.map (m.map (mkE enc)).toArray clock) ∧ (m.map (·.1)).Nodup ∧ (m.map (·.2.2)).Nodup ∧ ∀ x, x ∈ m → x.2.2 < clock
def getM {κ : Type} [DecidableEq κ] : List (κ × Value × Nat) → κ → Option Value
  | [], _ => none
  | x :: r, k => if k = x.1 then some x.2.1 else getM r k
def MapF {κ : Type} [DecidableEq κ] (enc : κ → Value) (w : World) (b : Nat) (F : κ → Option Value) : Prop :=
  ∃ m clock, MapE enc w b m clock ∧ ∀ k, getM m k = F k
section
variable {κ : Type} [DecidableEq κ] {enc : κ → Value} {P : Program} {w w' : World} {b : Nat} {F : κ → Option Value}
theorem fndI_get (k : κ) : ∀ (m : List (κ × Value × Nat)) (i : Nat), (fndI k m i).map (·.2) = getM m k
  | [], _ => rfl
  | x :: r, i => by
    unfold fndI getM
    split
    · rfl
    · exact fndI_get k r (i + 1)
theorem fndI_some (k : κ) : ∀ (m : List (κ × Value × Nat)) (i j : Nat) (v : Value), fndI k m i = some (j, v) → ∃ n x, j = i + n ∧ m[n]? = some x ∧ x.1 = k ∧ x.2.1 = v
  | [], _, _, _, h => by cases h
  | x :: r, i, j, v, h => by
    unfold fndI at h
    split at h
    · cases h; exact ⟨0, x, rfl, rfl, by rw [‹k = x.1›], rfl⟩
    · obtain ⟨n, y, h1, h2, h3⟩ := fndI_some k r (i + 1) j v h
      exact ⟨n + 1, y, by omega, h2, h3⟩
theorem getM_none {k : κ} : ∀ {m : List (κ × Value × Nat)}, getM m k = none ↔ k ∉ m.map (·.1)
  | [] => by simp [getM]
  | x :: r => by
    unfold getM
    split
    · rename_i h; simp [h]
    · rename_i h; simp only [List.map_cons, List.mem_cons, not_or, getM_none (m := r)]; exact ⟨fun h' => ⟨h, h'⟩, fun h' => h'.2⟩
theorem getM_mem {k : κ} {v : Value} : ∀ {m : List (κ × Value × Nat)}, getM m k = some v → ∃ n, (k, v, n) ∈ m
  | [], h => by cases h
  | x :: r, h => by
    unfold getM at h
    split at h
    · rename_i e; cases h; exact ⟨x.2.2, by rw [e]; exact List.mem_cons_self⟩
    · obtain ⟨n, hn⟩ := getM_mem h; exact ⟨n, List.mem_cons_of_mem _ hn⟩
theorem getM_of_mem {k : κ} {v : Value} {n : Nat} : ∀ {m : List (κ × Value × Nat)}, (m.map (·.1)).Nodup → (k, v, n) ∈ m → getM m k = some v
  | [], _, h => by cases h
  | x :: r, hd, h => by
    simp only [List.map_cons, List.nodup_cons] at hd
    unfold getM
    rcases List.mem_cons.1 h with rfl | h
    · simp
    · rw [if_neg]
      · exact getM_of_mem hd.2 h
      · intro e
        exact hd.1 (e ▸ List.mem_map_of_mem h)
theorem getM_set (k : κ) (v : Value) (n : Nat) (k' : κ) : ∀ (m : List (κ × Value × Nat)) (i : Nat) (x : κ × Value × Nat), (m.map (·.1)).Nodup → m[i]? = some x → x.1 = k →
    getM (m.set i (k, v, n)) k' = if k' = k then some v else getM m k'
  | [], _, _, _, h, _ => by cases h
  | y :: r, 0, x, _, h, hx => by
    simp at h; subst h
    simp only [List.set_cons_zero, getM, hx]
    split <;> rfl
  | y :: r, i + 1, x, hd, h, hx => by
    simp only [List.map_cons, List.nodup_cons] at hd
    simp only [List.set_cons_succ, getM]
    have ih := getM_set k v n k' r i x hd.2 (by simpa using h) hx
    by_cases e : k' = y.1
    · have hne : k' ≠ k := by
        intro e2
        have : x ∈ r := List.mem_of_getElem? (by simpa using h)
        exact hd.1 (by rw [← e, e2, ← hx]; exact List.mem_map_of_mem this)
      rw [if_pos e, if_neg hne, if_pos e]
    · simp only [if_neg e]; exact ih
theorem getM_push (k : κ) (v : Value) (n : Nat) (k' : κ) : ∀ (m : List (κ × Value × Nat)), k ∉ m.map (·.1) → getM (m ++ [(k, v, n)]) k' = if k' = k then some v else getM m k'
  | [], _ => by simp [getM]
  | y :: r, h => by
    simp only [List.map_cons, List.mem_cons, not_or] at h
    have ih := getM_push k v n k' r h.2
    simp only [List.cons_append, getM]
    by_cases e : k' = y.1
    · have hne : k' ≠ k := by rw [e]; exact fun e => h.1 e.symm
      rw [if_pos e, if_neg hne, if_pos e]
    · simp only [if_neg e]; exact ih
theorem MapF.lt (h : MapF enc w b F) : b < w.heap.size := by
  obtain ⟨m, c, h, _⟩ := h
  exact (Array.getElem?_eq_some_iff.1 h.1).1
theorem MapF.keep {S : Nat → Prop} (h : MapF enc w b F) (hc : Ch S w w') (hs : ¬ S b) : MapF enc w' b F := by
  obtain ⟨m, c, h1, h2⟩ := id h
  exact ⟨m, c, ⟨by rw [hc.block b h.lt hs]; exact h1.1, h1.2⟩, h2⟩
theorem MapF.ext (h : MapF enc w b F) (hc : Ext w w') : MapF enc w' b F := h.keep hc fun e => e
theorem MapF.congr {F' : κ → Option Value} (h : MapF enc w b F) (he : ∀ k, F k = F' k) : MapF enc w b F' := by
  obtain ⟨m, c, h1, h2⟩ := h
  exact ⟨m, c, h1, fun k => (h2 k).trans (he k)⟩
/-- The keys, each once. -/
theorem MapF.keys (h : MapF enc w b F) : ∃ ks : List κ, ks.Nodup ∧ ∀ k, k ∈ ks ↔ (F k).isSome = true := by
  obtain ⟨m, c, h1, h2⟩ := h
  refine ⟨m.map (·.1), h1.2.1, fun k => ?_⟩
  rw [← h2 k]
  cases hg : getM m k with
  | none => simp [getM_none.1 hg]
  | some v =>
    obtain ⟨n, hn⟩ := getM_mem hg
    simp only [Option.isSome_some, iff_true]
    exact List.mem_map_of_mem hn
def mapT (P : Program) (t : TypeId) : Option (TypeId × TypeId × Value) := match P.underlying t with
  | some (.map k e) => match (P.info? e).bind (·.zero) with
    | some z => some (k, e, z)
    | none => none
  | _ => none
theorem mapT_spec {t k e : TypeId} {z : Value} (h : mapT P t = some (k, e, z)) : P.underlying t = some (.map k e) ∧ ∀ w, (zeroValue e).run P w = .ok z w := by
  unfold mapT at h
  split at h
  · rename_i k' e' he
    split at h
    · rename_i z' hz
      cases h
      refine ⟨he, fun w => ?_⟩
      cases hi : P.info? e with
      | none => rw [hi] at hz; cases hz
      | some i => rw [hi] at hz; simp at hz; simp [zeroValue, typeInfo, hi, hz]
    · cases h
  · cases h
theorem run_lookup {t kt e : TypeId} {z : Value} {ok : Bool} (ht : mapT P t = some (kt, e, z)) (hk : KeyOf P kt enc) (h : MapF enc w b F) (k : κ) :
    (Instr.lookup t (.map (some b)) (enc k) ok).run P w = .ok (if ok then .tuple #[(F k).getD z, .bool (F k).isSome] else (F k).getD z) w := by
  obtain ⟨m, c, h1, h2⟩ := h
  obtain ⟨ht', hz⟩ := mapT_spec ht
  have hg := fndI_get k m 0
  rw [h2 k] at hg
  have hck := hk.check w (m.map (mkE enc)).toArray.isEmpty k
  have hf := hk.find w k m
  simp only [Instr.lookup, Sem.run_bind, run_underlying ht', Result.andThen_ok, getObj, Sem.run, h1.1, Sem.run_pure, hck, hf]
  cases hfi : fndI k m 0 with
  | none =>
    rw [hfi] at hg
    simp only [Option.map_none] at hg
    rw [← hg]
    cases ok <;> simp [hz]
  | some x =>
    rw [hfi] at hg
    simp only [Option.map_some] at hg
    rw [← hg]
    cases ok <;> simp
def setB (w : World) (b : Nat) (o : Obj) : World := { w with heap := w.heap.setIfInBounds b o }
theorem run_mapUpdate {t kt e : TypeId} {z : Value} (ht : mapT P t = some (kt, e, z)) (hk : KeyOf P kt enc) (h : MapF enc w b F) (k : κ) (v : Value) :
    ∃ w', (Instr.mapUpdate t (.map (some b)) (enc k) v).run P w = .ok () w' ∧ MapF enc w' b (fun k' => if k' = k then some v else F k') ∧ Ch (fun x => x = b) w w' ∧ w'.heap.size = w.heap.size := by
  obtain ⟨m, c, h1, h2⟩ := h
  obtain ⟨ht', _⟩ := mapT_spec ht
  have hg := fndI_get k m 0
  have hck := hk.check w false k
  have hf := hk.find w k m
  have hlt : b < w.heap.size := (Array.getElem?_eq_some_iff.1 h1.1).1
  have hset : ∀ o, (setObj b o).run P w = .ok () (setB w b o) := fun o => by simp only [setObj, Sem.run, h1.1, setB]
  have hch : ∀ o, Ch (fun x => x = b) w (setB w b o) := fun o =>
    ⟨rfl, rfl, rfl, by simp [setB], fun x hx hne => by simp [setB, Array.getElem?_setIfInBounds_ne (Ne.symm hne)]⟩
  have hnew : ∀ o, (setB w b o).heap[b]? = some o := fun o => by simp [setB, hlt]
  cases hfi : fndI k m 0 with
  | none =>
    rw [hfi] at hg hf
    have hn : k ∉ m.map (·.1) := getM_none.1 hg.symm
    refine ⟨setB w b (.map ((m.map (mkE enc)).toArray.push { key := enc k, val := v, born := c }) (c + 1)), ?_, ⟨m ++ [(k, v, c)], c + 1, ⟨?_, ?_, ?_, ?_⟩, fun k' => by rw [getM_push k v c k' m hn, h2 k']⟩, hch _, by simp [setB]⟩
    · simp only [Instr.mapUpdate, Sem.run_bind, run_underlying ht', Result.andThen_ok, getObj, Sem.run, h1.1, hck, hf]
      exact hset _
    · rw [hnew]; simp [mkE]
    · rw [List.map_append]
      refine List.nodup_append.2 ⟨h1.2.1, by simp, ?_⟩
      intro a ha b' hb' e
      simp at hb'
      exact hn (by rw [← hb', ← e]; exact ha)
    · simp only [List.map_append, List.map_cons, List.map_nil]
      refine List.nodup_append.2 ⟨h1.2.2.1, by simp, ?_⟩
      intro a ha b' hb'
      simp at hb'; subst hb'
      obtain ⟨x, hx, rfl⟩ := List.mem_map.1 ha
      have := h1.2.2.2 x hx; omega
    · intro x hx
      rcases List.mem_append.1 hx with hx | hx
      · have := h1.2.2.2 x hx; omega
      · simp at hx; subst hx; simp
  | some jv =>
    obtain ⟨j, v0⟩ := jv
    rw [hfi] at hf
    obtain ⟨n, x, hj, hx, hxk, hxv⟩ := fndI_some k m 0 j v0 hfi
    have hj' : j = n := by omega
    subst hj'
    refine ⟨setB w b (.map ((m.map (mkE enc)).toArray.modify j fun e => { e with key := enc k, val := v }) c), ?_, ⟨m.set j (k, v, x.2.2), c, ⟨?_, ?_, ?_, ?_⟩, fun k' => by rw [getM_set k v _ k' m j x h1.2.1 hx hxk, h2 k']⟩, hch _, by simp [setB]⟩
    · have hes : ((m.map (mkE enc)).toArray[j]?.map (·.key)).getD (enc k) = enc k := by
        simp [hx, mkE, hxk]
      have hst : (Instr.keyThatStays (enc k) (enc k)).run P w = .ok (enc k) w := by simp [Instr.keyThatStays, hk.same]
      simp only [Instr.mapUpdate, Sem.run_bind, run_underlying ht', Result.andThen_ok, getObj, Sem.run, h1.1, hck, hf, hes, hst]
      exact hset _
    · rw [hnew]
      congr 2
      apply Array.ext'
      simp only [Array.toList_modify]
      apply List.ext_getElem?
      intro i
      rw [List.getElem?_modify, List.map_set, List.getElem?_set]
      by_cases hij : j = i
      · subst hij
        have hlt' : j < m.length := (List.getElem?_eq_some_iff.1 hx).1
        have hxx : m[j] = x := (List.getElem?_eq_some_iff.1 hx).2
        simp [mkE, hlt', hxx]
      · simp [hij]
    · rw [List.map_set]
      have : (m.map (·.1)).set j k = m.map (·.1) := by
        apply List.ext_getElem?
        intro i
        rw [List.getElem?_set]
        split
        · rename_i e; subst e; simp [hx, hxk]; exact (List.getElem?_eq_some_iff.1 hx).1
        · rfl
      rw [this]; exact h1.2.1
    · rw [List.map_set]
      have : (m.map (·.2.2)).set j x.2.2 = m.map (·.2.2) := by
        apply List.ext_getElem?
        intro i
        rw [List.getElem?_set]
        split
        · rename_i e; subst e; simp [hx]; exact (List.getElem?_eq_some_iff.1 hx).1
        · rfl
      rw [this]; exact h1.2.2.1
    · intro y hy
      rcases List.mem_or_eq_of_mem_set hy with hy | rfl
      · exact h1.2.2.2 y hy
      · exact h1.2.2.2 x (List.mem_of_getElem? hx)

variable {st : Bool} {K : Env → World → Prop} {ρ : Env} {d : Nat} {ty : TypeId} {pos : String} {aft : Array Edge} {gd : Option (Nat × Bool)} {x y : Operand} {t kt e : TypeId} {z v : Value} {k : κ}
theorem r_makeMap (enc : κ → Value) (h : ∀ w', MapF enc w' w.heap.size (fun _ => none) → Ext w w' → w'.heap.size = w.heap.size + 1 → K (up ρ d (.map (some w.heap.size))) w') :
    w1 P false ⟨some d, .makeMap t none, ty, pos, aft, gd⟩ K ρ w := by
  refine w1_val' (v := .map (some w.heap.size)) (w' := w.alloc (.map #[] 0)) ?_ (h _ ⟨[], 0, ⟨alloc_new w _, by simp, by simp, by simp⟩, fun k => rfl⟩ (Ch.alloc w _) (by simp))
  simp [execOp, Instr.makeMap, newObj]
  rfl
theorem r_lookup (ht : mapT P t = some (kt, e, z)) (hk : KeyOf P kt enc) (h0 : MapF enc w b F) (hx : ev ρ x = .map (some b)) (hy : ev ρ y = enc k) (hv : (F k).getD z = v) (h : K (up ρ d v) w) :
    w1 P st ⟨some d, .lookup t x y false, ty, pos, aft, gd⟩ K ρ w := by
  refine w1_val (v := v) ?_ h
  simp [execOp, hx, hy, run_lookup (ok := false) ht hk h0 k, hv]
theorem r_lookup_ok (ht : mapT P t = some (kt, e, z)) (hk : KeyOf P kt enc) (h0 : MapF enc w b F) (hx : ev ρ x = .map (some b)) (hy : ev ρ y = enc k) (h : K (up ρ d (.tuple #[(F k).getD z, .bool (F k).isSome])) w) :
    w1 P st ⟨some d, .lookup t x y true, ty, pos, aft, gd⟩ K ρ w := by
  refine w1_val (v := .tuple #[(F k).getD z, .bool (F k).isSome]) ?_ h
  simp [execOp, hx, hy, run_lookup (ok := true) ht hk h0 k]
theorem r_mapUpdate {u : Operand} {dd : Option Nat} (ht : mapT P t = some (kt, e, z)) (hk : KeyOf P kt enc) (h0 : MapF enc w b F) (hx : ev ρ x = .map (some b)) (hy : ev ρ y = enc k) (hu : ev ρ u = v)
    (h : ∀ w', MapF enc w' b (fun k' => if k' = k then some v else F k') → Ch (fun x => x = b) w w' → w'.heap.size = w.heap.size → K (upo ρ dd undef) w') :
    w1 P false ⟨dd, .mapUpdate t x y u, ty, pos, aft, gd⟩ K ρ w := by
  obtain ⟨w', hr, h1, h2, h3⟩ := run_mapUpdate ht hk h0 k v
  refine w1_skip' (w' := w') ?_ (h w' h1 h2 h3)
  simp [execOp, hx, hy, hu, hr]
theorem r_insert {u : Operand} {dd : Option Nat} (ht : mapT P t = some (kt, e, z)) (hk : KeyOf P kt enc) (h0 : MapF enc w b F) (hx : ev ρ x = .map (some b)) (hy : ev ρ y = enc k) (hu : ev ρ u = v)
    (h : ∀ w', MapF enc w' b (fun k' => if k' = k then some v else F k') → Ch (fun x => x = b) w w' → w'.heap.size = w.heap.size → K (upo ρ dd undef) w') :
    w1 P false ⟨dd, .insert t x y u, ty, pos, aft, gd⟩ K ρ w := by
  obtain ⟨w', hr, h1, h2, h3⟩ := run_mapUpdate ht hk h0 k v
  refine w1_skip' (w' := w') ?_ (h w' h1 h2 h3)
  simp [execOp, hx, hy, hu, hr]
theorem r_maplen (ht : mapT P t = some (kt, e, z)) (h0 : MapF enc w b F) (hx : ev ρ x = .map (some b))
    (h : ∀ ks : List κ, ks.Nodup → (∀ k, k ∈ ks ↔ (F k).isSome = true) → K (up ρ d (.int .i64 (ks.length : Int))) w) :
    w1 P st ⟨some d, .call ⟨.builtin .len, #[x], #[t]⟩, ty, pos, aft, gd⟩ K ρ w := by
  obtain ⟨ht', _⟩ := mapT_spec ht
  obtain ⟨m, c, h1, h2⟩ := h0
  have hks : ∀ k, k ∈ m.map (·.1) ↔ (F k).isSome = true := fun k => by
    rw [← h2 k]
    cases hg : getM m k with
    | none => simp [getM_none.1 hg]
    | some v => obtain ⟨n, hn⟩ := getM_mem hg; simp only [Option.isSome_some, iff_true]; exact List.mem_map_of_mem hn
  refine w1_val (v := .int .i64 ((m.map (·.1)).length : Int)) ?_ ?_
  rotate_left 1
  · exact h (m.map (·.1)) h1.2.1 hks
  simp [execOp, resolve, invoke, builtin, Builtin.len_, hx, run_underlying ht', getObj, Sem.run, h1.1, goInt]

/-- An iterator (block r) over the map b, of which the keys 'left' are still to come; 'cur': the one that came last. -/
def IterF (enc : κ → Value) (w : World) (r b : Nat) (F : κ → Option Value) (left : List κ) (cur : Option κ) : Prop :=
  ∃ m clock seen, MapE enc w b m clock ∧ (∀ k, getM m k = F k) ∧ w.heap[r]? = some (.mapIter (some b) clock seen clock) ∧
    left = (m.filter fun x => !seen.contains x.2.2).map (·.1) ∧ (∀ k, cur = some k → ∃ v n, (k, v, n) ∈ m ∧ seen.back? = some n)
theorem IterF.lt {r : Nat} {left : List κ} {cur : Option κ} (h : IterF enc w r b F left cur) : b < w.heap.size ∧ r < w.heap.size := by
  obtain ⟨m, c, s, h1, _, h3, _⟩ := h
  exact ⟨(Array.getElem?_eq_some_iff.1 h1.1).1, (Array.getElem?_eq_some_iff.1 h3).1⟩
theorem IterF.keep {S : Nat → Prop} {r : Nat} {left : List κ} {cur : Option κ} (h : IterF enc w r b F left cur) (hc : Ch S w w') (hb : ¬ S b) (hr : ¬ S r) : IterF enc w' r b F left cur := by
  have hl := h.lt
  obtain ⟨m, c, s, h1, h2, h3, h4⟩ := h
  exact ⟨m, c, s, ⟨by rw [hc.block b hl.1 hb]; exact h1.1, h1.2⟩, h2, by rw [hc.block r hl.2 hr]; exact h3, h4⟩
theorem IterF.ext {r : Nat} {left : List κ} {cur : Option κ} (h : IterF enc w r b F left cur) (hc : Ext w w') : IterF enc w' r b F left cur := h.keep hc (fun e => e) (fun e => e)
theorem IterF.map {r : Nat} {left : List κ} {cur : Option κ} (h : IterF enc w r b F left cur) : MapF enc w b F := by
  obtain ⟨m, c, s, h1, h2, _⟩ := h; exact ⟨m, c, h1, h2⟩
theorem IterF.nodup {r : Nat} {left : List κ} {cur : Option κ} (h : IterF enc w r b F left cur) : left.Nodup := by
  obtain ⟨m, c, s, h1, h2, h3, rfl, _⟩ := h
  exact h1.2.1.sublist (List.Sublist.map _ List.filter_sublist)
theorem r_range (ht : mapT P t = some (kt, e, z)) (h0 : MapF enc w b F) (hx : ev ρ x = .map (some b))
    (h : ∀ w' left, IterF enc w' w.heap.size b F left none → (∀ k, k ∈ left ↔ (F k).isSome = true) → Ext w w' → w'.heap.size = w.heap.size + 1 → K (up ρ d (.pointer (some ⟨w.heap.size, 0, none⟩))) w') :
    w1 P false ⟨some d, .range t x, ty, pos, aft, gd⟩ K ρ w := by
  obtain ⟨ht', _⟩ := mapT_spec ht
  obtain ⟨m, c, h1, h2⟩ := h0
  have hlt : b < w.heap.size := (Array.getElem?_eq_some_iff.1 h1.1).1
  refine w1_val' (v := .pointer (some ⟨w.heap.size, 0, none⟩)) (w' := w.alloc (.mapIter (some b) c #[] c)) ?_ (h _ (m.map (·.1)) ?_ ?_ (Ch.alloc w _) (by simp))
  · simp [execOp, Instr.range, hx, run_underlying ht', getObj, Sem.run, h1.1, newObj]
  · exact ⟨m, c, #[], ⟨by rw [alloc_old w _ b hlt]; exact h1.1, h1.2⟩, h2, alloc_new w _, by rw [List.filter_eq_self.2 (by simp)], by simp⟩
  · intro k
    rw [← h2 k]
    cases hg : getM m k with
    | none => simp [getM_none.1 hg]
    | some v => obtain ⟨n, hn⟩ := getM_mem hg; simp only [Option.isSome_some, iff_true]; exact List.mem_map_of_mem hn
theorem run_next {r : Nat} {left : List κ} {cur : Option κ} (h : IterF enc w r b F left cur) (hl : left ≠ []) :
    ∃ k v w', k ∈ left ∧ F k = some v ∧ (Instr.next (.pointer (some ⟨r, 0, none⟩)) false ty).run P w = .ok (.tuple #[.bool true, enc k, v]) w' ∧
      IterF enc w' r b F (left.filter fun k' => decide (k' ≠ k)) (some k) ∧ Ch (fun x => x = r) w w' ∧ w'.heap.size = w.heap.size := by
  obtain ⟨m, c, s, h1, h2, h3, rfl, h5⟩ := h
  have hrb : r ≠ b := by intro e; subst e; rw [h1.1] at h3; cases h3
  have hrlt : r < w.heap.size := (Array.getElem?_eq_some_iff.1 h3).1
  -- what is left, as entries
  have hL : ((m.map (mkE enc)).toArray.filter fun e => !s.contains e.born) = ((m.filter fun x => !s.contains x.2.2).map (mkE enc)).toArray := by
    apply Array.ext'
    simp only [Array.toList_filter, List.filter_map]
    rfl
  generalize hM : (m.filter fun x => !s.contains x.2.2) = M at *
  have hMm : ∀ x, x ∈ M → x ∈ m ∧ s.contains x.2.2 = false := fun x hx => by rw [← hM] at hx; simpa using hx
  have hMne : M ≠ [] := fun e => hl (by rw [e]; rfl)
  have hold : ((M.map (mkE enc)).toArray.filter fun e => decide (e.born < c)) = (M.map (mkE enc)).toArray := by
    apply Array.ext'
    simp only [Array.toList_filter]
    rw [List.filter_eq_self.2]
    intro e he
    obtain ⟨x, hx, rfl⟩ := List.mem_map.1 he
    exact decide_eq_true (h1.2.2.2 x (hMm x hx).1)
  have hnew : ((M.map (mkE enc)).toArray.filter fun e => decide (e.born ≥ c)) = #[] := by
    apply Array.ext'
    simp only [Array.toList_filter]
    rw [List.filter_eq_nil_iff.2]
    intro e he
    obtain ⟨x, hx, rfl⟩ := List.mem_map.1 he
    have := h1.2.2.2 x (hMm x hx).1
    simp [mkE]; omega
  have hall : ((m.map (mkE enc)).toArray.all fun e => decide (e.born ≥ c)) = false ∨ m = [] := by
    cases m with
    | nil => exact .inr rfl
    | cons x r' =>
      left
      rw [Array.all_eq_false']
      exact ⟨mkE enc x, by simp, by have := h1.2.2.2 x List.mem_cons_self; simp [mkE]; omega⟩
  have hguard : (!s.isEmpty && !(m.map (mkE enc)).toArray.isEmpty && (m.map (mkE enc)).toArray.all fun e => decide (e.born ≥ c)) = false := by
    rcases hall with h | h
    · rw [h]; simp
    · subst h; simp
  have hne : (M.map (mkE enc)).toArray.isEmpty = false := by cases M with | nil => exact absurd rfl hMne | cons _ _ => simp
  have hcand : ((if ((M.map (mkE enc)).toArray).isEmpty then #[none] else #[]) ++ ((M.map (mkE enc)).toArray ++ #[]).map some : Array (Option MapEntry)) = ((M.map (mkE enc)).map some).toArray := by
    rw [hne]; simp
  -- the choice
  have hch : ∃ i w1, (choose (.mapNext M.length)).run P w = .ok i w1 ∧ i < M.length ∧ w1.heap = w.heap ∧ w1.os = w.os ∧ w1.tape = w.tape ∧ w1.output = w.output := by
    have hpos : 0 < M.length := List.length_pos_iff.2 hMne
    by_cases hf : M.length ≤ 1
    · exact ⟨0, w, by simp [choose, Sem.run, Question.forced, hf], hpos, rfl, rfl, rfl, rfl⟩
    · exact ⟨w.tape w.drawn (.mapNext M.length) % M.length, { w with drawn := w.drawn + 1 }, by simp [choose, Sem.run, Question.forced, hf, Question.cut], Nat.mod_lt _ hpos, rfl, rfl, rfl, rfl⟩
  obtain ⟨i, w1, hc, hi, hw1, ho, htp, hou⟩ := hch
  have hxm : M[i] ∈ M := List.getElem_mem hi
  have hx := hMm _ hxm
  have h3' : w1.heap[r]? = some (.mapIter (some b) c s c) := by rw [hw1]; exact h3
  refine ⟨M[i].1, M[i].2.1, setB w1 r (.mapIter (some b) c (s.push M[i].2.2) c), List.mem_map_of_mem hxm, ?_, ?_, ?_, ?_, ?_⟩
  · rw [← h2]; exact getM_of_mem h1.2.1 hx.1
  · have hget : ((M.map (mkE enc)).map some).toArray[i]? = some (some (mkE enc M[i])) := by simp [hi]
    have hsz : (((M.map (mkE enc)).map some).toArray).size = M.length := by simp
    simp only [Instr.next, Sem.run_bind, getObj, Sem.run, h3, Result.andThen_ok, h1.1, hguard, Bool.false_eq_true, if_false, hL, hold, hnew, hcand, hsz, hc, hget, Sem.run_pure, setObj, h3']
    rfl
  · refine ⟨m, c, s.push M[i].2.2, ⟨?_, h1.2⟩, h2, by simp [setB, hw1, hrlt], ?_, ?_⟩
    · simp only [setB]; rw [Array.getElem?_setIfInBounds_ne hrb, hw1]; exact h1.1
    · generalize hx0 : M[i] = x0 at *
      rw [List.filter_map, ← hM, List.filter_filter]
      congr 1
      apply List.filter_congr
      intro x hxm'
      by_cases he : x.2.2 = x0.2.2
      · have hxx : x = x0 := by
          have hnd := h1.2.2.1
          obtain ⟨a, ha, hax⟩ := List.getElem_of_mem hxm'
          obtain ⟨b', hb', hbx⟩ := List.getElem_of_mem hx.1
          have := (List.getElem_inj (xs := m.map (·.2.2)) (i := a) (j := b') (h₀ := by simpa using ha) (h₁ := by simpa using hb') hnd).1 (by simp [hax, hbx, he])
          subst this
          rw [← hax, ← hbx]
        subst hxx
        simp
      · have hk : x.1 ≠ x0.1 := by
          intro e
          apply he
          have hnd := h1.2.1
          obtain ⟨a, ha, hax⟩ := List.getElem_of_mem hxm'
          obtain ⟨b', hb', hbx⟩ := List.getElem_of_mem hx.1
          have := (List.getElem_inj (xs := m.map (·.1)) (i := a) (j := b') (h₀ := by simpa using ha) (h₁ := by simpa using hb') hnd).1 (by simp [hax, hbx, e])
          subst this
          rw [← hax, ← hbx]
        simp [hk, he]
    · intro k' hk'
      cases hk'
      exact ⟨M[i].2.1, M[i].2.2, hx.1, by simp⟩
  · refine ⟨ho, htp, hou, by simp [setB, hw1], fun x _ hne' => ?_⟩
    simp only [setB]; rw [Array.getElem?_setIfInBounds_ne (Ne.symm hne'), hw1]
  · simp [setB, hw1]
theorem r_next {r : Nat} {left : List κ} {cur : Option κ} (h : IterF enc w r b F left cur) (hx : ev ρ x = .pointer (some ⟨r, 0, none⟩))
    (h1 : left = [] → K (up ρ d (.tuple #[.bool false])) w)
    (h2 : ∀ k v w', k ∈ left → F k = some v → IterF enc w' r b F (left.filter fun k' => decide (k' ≠ k)) (some k) → Ch (fun x => x = r) w w' → w'.heap.size = w.heap.size → K (up ρ d (.tuple #[.bool true, enc k, v])) w') :
    w1 P false ⟨some d, .next x false, ty, pos, aft, gd⟩ K ρ w := by
  by_cases hl : left = []
  · have hl' := hl
    obtain ⟨m, c, s, g1, g2, g3, g4, g5⟩ := h
    refine w1_val' (v := .tuple #[.bool false]) (w' := w) ?_ (h1 hl)
    have hM : (m.filter fun x => !s.contains x.2.2) = [] := by rw [hl'] at g4; exact (List.map_eq_nil_iff.1 g4.symm)
    have hL : ((m.map (mkE enc)).toArray.filter fun e => !s.contains e.born) = #[] := by
      apply Array.ext'
      simp only [Array.toList_filter, List.filter_map]
      have : ((fun e : MapEntry => !s.contains e.born) ∘ mkE enc) = fun x : κ × Value × Nat => !s.contains x.2.2 := rfl
      rw [this, hM]
      rfl
    have hguard : (!s.isEmpty && !(m.map (mkE enc)).toArray.isEmpty && (m.map (mkE enc)).toArray.all fun e => decide (e.born ≥ c)) = false := by
      cases m with
      | nil => simp
      | cons x r' =>
        have : ((List.map (mkE enc) (x :: r')).toArray.all fun e => decide (e.born ≥ c)) = false := by
          rw [Array.all_eq_false']
          exact ⟨mkE enc x, by simp, by have := g1.2.2.2 x List.mem_cons_self; simp [mkE]; omega⟩
        rw [this]; simp
    have hcand : ((if (#[] : Array MapEntry).isEmpty then #[none] else #[]) ++ ((#[] : Array MapEntry) ++ #[]).map some : Array (Option MapEntry)) = #[none] := by simp
    have hf1 : ∀ f : MapEntry → Bool, (#[] : Array MapEntry).filter f = #[] := fun f => by simp
    have hc : (choose (.mapNext (#[none] : Array (Option MapEntry)).size)).run P w = .ok 0 w := by simp [choose, Sem.run, Question.forced]
    simp only [execOp, hx, Instr.next, Sem.run_bind, getObj, Sem.run, g3, Result.andThen_ok, g1.1, hguard, Bool.false_eq_true, if_false, hL, hf1, hcand, hc]
    rfl
  · obtain ⟨k, v, w', hk, hv, hr, h3, h4, h5⟩ := run_next (P := P) (ty := ty) h hl
    refine w1_val' (v := .tuple #[.bool true, enc k, v]) (w' := w') ?_ (h2 k v w' hk hv h3 h4 h5)
    simp [execOp, hx, hr]
theorem r_entry {r : Nat} {left : List κ} {k : κ} {v : Value} (h : IterF enc w r b F left (some k)) (hv : F k = some v) (hx : ev ρ x = .pointer (some ⟨r, 0, none⟩)) (hK : K (up ρ d (.tuple #[enc k, v])) w) :
    w1 P st ⟨some d, .entry x, ty, pos, aft, gd⟩ K ρ w := by
  obtain ⟨m, c, s, g1, g2, g3, g4, g5⟩ := h
  obtain ⟨v', n, hm, hb⟩ := g5 k rfl
  have hvv : v' = v := by
    have := getM_of_mem g1.2.1 hm
    rw [g2 k, hv] at this
    cases this; rfl
  subst hvv
  refine w1_val (v := .tuple #[enc k, v']) ?_ hK
  have hfind : (m.map (mkE enc)).toArray.find? (fun e => e.born == n) = some (mkE enc (k, v', n)) := by
    rw [List.find?_toArray]
    have : ∀ (l : List (κ × Value × Nat)), (l.map (·.2.2)).Nodup → (k, v', n) ∈ l → (l.map (mkE enc)).find? (fun e => e.born == n) = some (mkE enc (k, v', n)) := by
      intro l
      induction l with
      | nil => intro _ h; cases h
      | cons y r ih =>
        intro hd hmem
        simp only [List.map_cons, List.nodup_cons] at hd
        rcases List.mem_cons.1 hmem with rfl | hmem
        · simp [mkE]
        · have hne : y.2.2 ≠ n := fun e => hd.1 (by rw [e]; exact List.mem_map_of_mem (f := (·.2.2)) hmem)
          have : ((mkE enc y).born == n) = false := by simpa [mkE] using hne
          rw [List.map_cons, List.find?_cons, this]
          exact ih hd.2 hmem
    exact this m g1.2.2.1 hm
  simp [execOp, hx, Instr.entry, getObj, Sem.run, g3, hb, g1.1, hfind, mkE]
end
end Gv
end Go.Proofs.YtocgehoffdjijaaGreat

/- The last step of a law's row: the arguments opened, the row shut. -/
import Derived.Test.YtocgehoffdjijaaGreatRows
import Derived.Test.YtocgehoffdjijaaGreatMem
import Derived.ProofKit
import Derived.Below
import Derived.Deep.Matrix
import Derived.WideKeyArr2
namespace Go.Proofs.YtocgehoffdjijaaGreat
open Go.ChangeShapes Go.WideShapes Go.ChangeAt Go.RowKit Go.WideMaps Gv
theorem Tryz.own : ownKnob Tryz.prog.godebug = none := by kernel_rfl
theorem Tryz.laidOut : laidOutB Tryz.prog = true := by kernel_rfl
section
variable {H : Type} {enc : TypeId × Value → H} {P : Program}
theorem law_args (hl : laidOutB P = true) {W W' : World} (hb : Below W.heap.size W W') {sp : Nat → Bool} : ∀ {ts : List TypeId} {vs : List Value} {ds : List (DataW H)} {ps : List MemPlace},
    (∀ t ∈ ts, P.readableRec t = true ∧ t < P.types.size) → DataW.TrodAll enc P W 0 (fun _ => true) true ts vs ds ps → (∀ x ∈ ps, x.block < W.heap.size ∧ sp x.block = true) → DataW.TrodAll enc P W' 0 sp true ts vs ds ps
  | [], vs, ds, ps, _, h, _ => by
    obtain ⟨rfl, rfl, rfl⟩ := trodAll_nil h
    rfl
  | t :: ts, vs, ds, ps, ht, h, hp => by
    obtain ⟨v, vs', d, ds', p, q, rfl, rfl, rfl, hd, hrest⟩ := trodAll_cons h
    have h1 := ht t List.mem_cons_self
    exact ⟨p, q, WideElems.Trod_stays hl h1.1 h1.2 hd (fun x hx => hb.same (hp x (List.mem_append_left _ hx)).1) (fun x hx => (hp x (List.mem_append_left _ hx)).2),
      law_args hl hb (fun t' ht' => ht t' (List.mem_cons_of_mem _ ht')) hrest fun x hx => hp x (List.mem_append_right _ hx), rfl⟩
/-- A law's end: true, and the arguments read as they did. -/
theorem law_post {f : Func} {s : ChangeSpec} {apart fresh handsOn again : Bool} {W W' : World} {args : Array Value} {ds gs : List (DataW H)} {before : List MemPlace} {tb : TypeId}
    (hl : laidOutB P = true) (hW : DataW.Whole enc P f.params.toList s.vars apart W args.toList ds gs before)
    (hr : ∀ t ∈ f.params.toList, P.readableRec t = true ∧ t < P.types.size) (hres : f.resultTypes = #[tb]) (htb : P.underlying tb = some .bool) (hv : s.vars = [])
    (hfn : s.fn H (ds ++ gs) = { results := [.lit (.bool true)], args := ds }) (hb : Below W.heap.size W W') :
    s.post enc P f apart fresh handsOn again W args (.bool true) W' := by
  have hlt : ∀ p ∈ before, p.block < W.heap.size := fun p hp => hW.lt p hp
  have hW' := hW
  obtain ⟨p, q, hA, hV, he, hz, hn⟩ := hW'
  rw [hv] at hV
  obtain ⟨rfl, rfl⟩ := trodVars_none hV
  rw [List.append_nil] at he
  subst he
  have hvars : ∀ sp : Nat → Bool, DataW.TrodVars enc P W' sp s.vars (s.fn H (ds ++ [])).vars [] := fun sp => by rw [hfn, hv]; rfl
  have hargs : ∀ sp : Nat → Bool, (∀ x ∈ before, sp x.block = true) → DataW.TrodAll enc P W' 0 sp true f.params.toList args.toList (s.fn H (ds ++ [])).args before := fun sp hsp => by
    rw [hfn]; exact law_args hl hb hr hA fun x hx => ⟨hlt x hx, hsp x hx⟩
  have hresT : ∀ (b : Nat) (sp : Nat → Bool) (hd : Bool), DataW.TrodAll enc P W' b sp hd f.resultTypes.toList ((Value.bool true).resultList f.resultTypes.size) (s.fn H (ds ++ [])).results [] := fun b sp hd => by
    rw [hfn, hres]; exact trodAll_mk1 (shut_bool htb true)
  refine ⟨ds, [], before, [], before, [], hW, hresT _ _ _, hargs _ (fun x hx => by simpa using hlt x hx), hvars _, World.keptBut_mono (fun p hp => ⟨hp, .inr (.inl hp)⟩) (hb.frame (· ∈ before)), fun _ => ?_⟩
  refine ⟨ok_one hres rfl (okWide_bool_mk htb true), _, _, ([] ++ before) ++ [], ⟨[] ++ before, [], trodAll_append (hargs _ (fun _ _ => rfl)) (hresT _ _ _), hvars _, rfl, ?_, ?_⟩, ?_⟩
  · intro b off hp
    have hin : MemPlace.cell b off ∈ before := by simpa using hp
    rw [hb.frozen (hlt _ hin)]
    exact hz b off hin
  · intro ha
    simpa using hn ha
  · intro p hp _
    simpa using hp
theorem sl_mk {w : World} {a : Addr} {n c : Nat} {xs : List Value} (hn : n ≤ c) (hl : xs.length = n) (h : ∀ j u, xs[j]? = some u → w.cell? (a.add j) = some u) : Sl w 1 (.slice (some a) n c) n xs := by
  refine ⟨some a, c, rfl, hn, by omega, ?_⟩
  rcases Nat.eq_zero_or_pos n with h0 | h0
  · exact .inl h0
  · obtain ⟨b, o, s⟩ := a
    have hx : xs[0]? = some xs[0] := by simp [show 0 < xs.length by omega]
    have h1 := h 0 _ hx
    have hs : s = none := by
      cases s with
      | none => rfl
      | some _ => simp [World.cell?, Addr.add] at h1; split at h1 <;> simp at h1
    subst hs
    refine .inr ⟨b, o, rfl, World.block_lt_of_cell? _ _ h1, fun j u hj => ?_⟩
    have h2 := h j u hj
    unfold Addr.add at h2
    split at h2
    · rename_i e; subst e; simpa using h2
    · exact h2
/-- An argument of type [][]int. -/
theorem open_tab {t e q : TypeId} {w : World} {v : Value} {d : DataW H} {ps : List MemPlace} (ht : P.underlying t = some (.slice e)) (he : P.underlying e = some (.slice q)) (hq : P.underlying q = some (.int .i64))
    (ce : P.cellsOf e = 1) (cq : P.cellsOf q = 1) (hv : v.cells.toList = [v]) (h : DataW.Trod enc P w 0 (fun _ => true) true t v d ps) : ∃ T, Tab w v T ∧ T.length ≤ 9223372036854775807 ∧ ∀ l ∈ T, l.length ≤ 9223372036854775807 := by
  obtain ⟨fuel, hf⟩ := h
  rw [hv] at hf
  rcases Go.Deep.open_int_rows ht he hq ce cq hf with ⟨hcs0, hx⟩ | ⟨a, len, cap, A, L, C, Z, hcs0, _, hl, hm, hx, hrows⟩
  · have hv0 : v = .slice none 0 0 := by simpa using hcs0
    subst hv0
    exact ⟨[], ⟨[], Sl.nil _ _, by simp⟩, by simp, by simp⟩
  · have hv0 : v = .slice (some a) len cap := by simpa using hcs0
    subst hv0
    have hlr : ∀ r, r < cap → ((Z r).take (L r)).length = L r := fun r hr => by
      have := hrows r hr
      rw [List.length_take]; omega
    refine ⟨(List.range len).map fun r => (Z r).take (L r), ⟨(List.range len).map fun r => .slice (A r) (L r) (C r), ?_, fun i hi => ?_⟩, ?_, fun l hl' => ?_⟩
    · rw [List.length_map, List.length_range]
      refine sl_mk hl (by simp) fun j u hj => ?_
      rw [List.getElem?_map, Option.map_eq_some_iff] at hj
      obtain ⟨r, hr, rfl⟩ := hj
      have hr' := List.getElem?_eq_some_iff.1 hr
      obtain ⟨hr1, hr2⟩ := hr'
      simp at hr1 hr2
      subst hr2
      exact (hrows j (by omega)).1
    · have hi' : i < len := by simpa using hi
      refine ⟨.slice (A i) (L i) (C i), by simp [hi'], ?_⟩
      obtain ⟨_, r1, r2, r3, _, r5, r6⟩ := hrows i (by omega)
      rw [show ((List.range len).map fun r => (Z r).take (L r))[i] = (Z i).take (L i) by simp]
      unfold Ints
      rw [hlr i (by omega)]
      cases hA : A i with
      | none =>
        have := r5 hA
        have h0 : L i = 0 := by omega
        rw [this, h0]
        exact Sl.nil _ _
      | some a' =>
        refine sl_mk r1 (by simp [ints]; omega) fun j u hj => ?_
        have hjL : j < L i := by
          have := (List.getElem?_eq_some_iff.1 hj).1
          simp [ints] at this; omega
        have hc := (r6 a' hA).2 j (by omega)
        rw [hc]
        rw [ints_getD (by rw [hlr i (by omega)]; exact hjL)] at hj
        rw [← hj]
        congr 2
        simp [List.getD, hjL]
    · simp; unfold maxLen at hm; omega
    · simp only [List.mem_map, List.mem_range] at hl'
      obtain ⟨r, hr, rfl⟩ := hl'
      have := hrows r (by omega)
      rw [hlr r (by omega)]
      unfold maxLen at this; omega
/-- An argument of type [2]int. -/
theorem open_pair {k e : TypeId} {q : IntKind} {w : World} {base : Nat} {sp : Nat → Bool} {held : Bool} (A : ArrKey P k e 2) (he : P.underlying e = some (.int q)) {xs : Array Value} (hn : xs.size = 2) {d : DataW H} {ps : List MemPlace}
    (hd : DataW.Trod enc P w base sp held k (.agg xs) d ps) : ∃ a b, xs = #[.int q a, .int q b] := by
  obtain ⟨fuel, hf⟩ := hd
  cases fuel with
  | zero => simp [DataW.trod] at hf
  | succ m =>
    rw [DataW.trod_step] at hf
    unfold DataW.trodStep at hf
    simp only [A.hu, Value.cells] at hf
    rw [if_pos (by rw [A.size]; simpa using hn)] at hf
    simp only [Option.map_eq_some_iff] at hf
    obtain ⟨ys, hy, e1⟩ := hf
    rcases xs with ⟨l⟩
    obtain ⟨x, y, rfl⟩ : ∃ x y, l = [x, y] := by
      match l, hn with
      | [x, y], _ => exact ⟨x, y, rfl⟩
    rw [show List.range 2 = [0, 1] from rfl, List.mapM_cons] at hy
    simp only [bind, Option.bind_eq_some_iff] at hy
    obtain ⟨y0, hy0, ys1, hys1, _⟩ := hy
    rw [List.mapM_cons] at hys1
    simp only [bind, Option.bind_eq_some_iff] at hys1
    obtain ⟨y1, hy1, _⟩ := hys1
    obtain ⟨a, ea, _⟩ := DataW.trod_int he hy0
    obtain ⟨b, eb, _⟩ := DataW.trod_int he hy1
    rw [A.one] at ea eb
    simp at ea eb
    exact ⟨a, b, by rw [ea, eb]⟩
end
end Go.Proofs.YtocgehoffdjijaaGreat

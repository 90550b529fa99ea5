/- forks: slices.Sort of strings, by the kit's contract (its laying printed by tools/lays.py out of the kit's shelf). -/
import Derived.Shelf.Sort.Plain
import Derived.Sort.OwnSorted
import Derived.Shelf.Slices.In.SortNone
import Derived.Test.YtkdakleckdkhiaaLi
namespace Go.Proofs.Ytkdakleckdkhiaa
open Go.Shelf
def lays190_ren : Go.Shelf.Ren := ⟨fun | 190 => 92 | 125 => 98 | 258 => 97 | 128 => 108 | 129 => 109 | 302 => 100 | 303 => 101 | 304 => 102 | 305 => 103 | 306 => 104 | 307 => 105 | 308 => 94 | 309 => 106 | 310 => 107 | 333 => 110 | 329 => 111 | 330 => 112 | 334 => 113 | 335 => 114 | 336 => 99 | 344 => 115 | n => n, fun | 31 => 32 | 9 => 9 | 3 => 3 | 46 => 100 | 0 => 0 | 51 => 134 | 53 => 136 | 4 => 4 | 183 => 128 | 182 => 127 | 131 => 41 | 5 => 5 | 218 => 137 | 222 => 141 | 228 => 143 | 229 => 144 | n => n, fun | n => n⟩
theorem lays190 : Go.Proofs.Lays.n190 Try.prog lays190_ren := {
  mixed := by kernel_rfl
  f125 := Try.func98.trans (congrArg some (by kernel_rfl))
  f128 := Try.func108.trans (congrArg some (by kernel_rfl))
  f129 := Try.func109.trans (congrArg some (by kernel_rfl))
  f190 := Try.func92.trans (congrArg some (by kernel_rfl))
  f258 := Try.func97.trans (congrArg some (by kernel_rfl))
  f302 := Try.func100.trans (congrArg some (by kernel_rfl))
  f303 := Try.func101.trans (congrArg some (by kernel_rfl))
  f304 := Try.func102.trans (congrArg some (by kernel_rfl))
  f305 := Try.func103.trans (congrArg some (by kernel_rfl))
  f306 := Try.func104.trans (congrArg some (by kernel_rfl))
  f307 := Try.func105.trans (congrArg some (by kernel_rfl))
  f308 := Try.func94.trans (congrArg some (by kernel_rfl))
  f309 := Try.func106.trans (congrArg some (by kernel_rfl))
  f310 := Try.func107.trans (congrArg some (by kernel_rfl))
  f329 := Try.func111.trans (congrArg some (by kernel_rfl))
  f330 := Try.func112.trans (congrArg some (by kernel_rfl))
  f333 := Try.func110.trans (congrArg some (by kernel_rfl))
  f334 := Try.func113.trans (congrArg some (by kernel_rfl))
  f335 := Try.func114.trans (congrArg some (by kernel_rfl))
  f336 := Try.func99.trans (congrArg some (by kernel_rfl))
  f344 := Try.func115.trans (congrArg some (by kernel_rfl))
  t0 := Try.underlying0
  a0 := Try.isAgg0
  z0 := Try.sizeOf0
  v0 := Try.zeroValue0
  t3 := Try.underlying3
  a3 := Try.isAgg3
  z3 := Try.sizeOf3
  v3 := Try.zeroValue3
  t4 := Try.underlying4
  a4 := Try.isAgg4
  z4 := Try.sizeOf4
  v4 := Try.zeroValue4
  t5 := Try.underlying5
  a5 := Try.isAgg5
  z5 := Try.sizeOf5
  v5 := Try.zeroValue5
  t9 := Try.underlying9
  a9 := Try.isAgg9
  z9 := Try.sizeOf9
  v9 := Try.zeroValue9
  t31 := Try.underlying32
  a31 := Try.isAgg32
  z31 := Try.sizeOf32
  v31 := Try.zeroValue32
  t46 := Try.underlying100
  a46 := Try.isAgg100
  z46 := Try.sizeOf100
  v46 := Try.zeroValue100
  t51 := Try.underlying134
  a51 := Try.isAgg134
  z51 := Try.sizeOf134
  v51 := Try.zeroValue134
  t53 := Try.underlying136
  a53 := Try.isAgg136
  z53 := Try.sizeOf136
  v53 := Try.zeroValue136
  t131 := Try.underlying41
  a131 := Try.isAgg41
  z131 := Try.sizeOf41
  v131 := Try.zeroValue41
  t182 := Try.underlying127
  a182 := Try.isAgg127
  z182 := Try.sizeOf127
  v182 := Try.zeroValue127
  t183 := Try.underlying128
  a183 := Try.isAgg128
  z183 := Try.sizeOf128
  v183 := Try.zeroValue128
  t218 := Try.underlying137
  a218 := Try.isAgg137
  z218 := Try.sizeOf137
  v218 := Try.zeroValue137
  t222 := Try.underlying141
  a222 := Try.isAgg141
  z222 := Try.sizeOf141
  v222 := Try.zeroValue141
  t228 := Try.underlying143
  a228 := Try.isAgg143
  z228 := Try.sizeOf143
  v228 := Try.zeroValue143
  t229 := Try.underlying144
  a229 := Try.isAgg144
  z229 := Try.sizeOf144
  v229 := Try.zeroValue144 }

open Gv
theorem sortS_any (g c : Nat) (L : List Str) (w : World) (base : Nat) (h : OwnS w base (.slice (some ⟨g, 0, none⟩) L.length c) L) (hl : L.length < 4611686018427387904) :
    Calls Try.prog 92 #[.slice (some ⟨g, 0, none⟩) L.length c] w (Ret fun _ w' => OwnS w' base (.slice (some ⟨g, 0, none⟩) L.length c) (L.mergeSort fun x y => decide (x ≤ y)) ∧ w.grownBy w' (some g)) := by
  rcases h.2 with ⟨hv, _⟩ | ⟨g', cap, cur, hv, hb, hg, hnc, hcm, hcs, htk⟩
  · cases hv
  · cases hv
    have hls : (L.mergeSort fun x y => decide (x ≤ y)).length = L.length := (List.mergeSort_perm L _).length_eq
    have hH : Go.Sort.Holds encStr w g 0 L.toArray := holds_of_block hg (by simpa using htk)
    refine (Any.slices_Sort_string lays190 g 0 c L w hH (Array.getElem?_eq_some_iff.1 hg).1 hl).mono ?_
    rintro e w' ⟨rfl, n, os, rfl⟩
    refine ⟨_, rfl, ?_, grownBy_sorted _⟩
    have := ownsRow_sorted (n := n) (os := os) (ss := L) (ts := L.mergeSort fun x y => decide (x ≤ y)) hls hb hg hnc hcm hcs
    unfold OwnS
    rw [hls]
    exact this
abbrev sortS (L : List Str) : List Str := L.mergeSort fun x y => decide (x ≤ y)
/-- slices.Sort of an owned list, nil or not. -/
theorem sort_any (v : Value) (L : List Str) (w : World) (base : Nat) (h : OwnS w base v L) (hl : L.length < 4611686018427387904) :
    Calls Try.prog 92 #[v] w (Ret fun _ w' => OwnS w' base v (sortS L) ∧ Ch (fun k => v.ownBlock = some k) w w') := by
  rcases h.2 with ⟨hv, hn⟩ | ⟨g, cap, cur, rfl, hb, hg, hnc, hcm, hcs, htk⟩
  · subst hv
    have hL : L = [] := List.length_eq_zero_iff.1 hn
    subst hL
    refine (Any.slices_Sort_string_none lays190 none 0 w).mono ?_
    rintro e w' ⟨rfl, rfl⟩
    exact ⟨_, rfl, by simpa [sortS] using h, Ch.refl _ _⟩
  · refine Ret.mono (sortS_any g cap L w base h hl) fun v w' ⟨h1, h2⟩ => ⟨h1, Ch.grown h2 fun k e => by simpa [Value.ownBlock] using e⟩
end Go.Proofs.Ytkdakleckdkhiaa

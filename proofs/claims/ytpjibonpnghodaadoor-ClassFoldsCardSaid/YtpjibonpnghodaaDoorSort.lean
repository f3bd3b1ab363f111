/- slices.SortFunc at ranges by their lower ends, slices.Sort at ints: a row of the call's own is put in order. -/
import Derived.Test.YtpjibonpnghodaaDoorProg
import Derived.Test.YtpjibonpnghodaaDoorD
import Derived.Test.YtpjibonpnghodaaDoorRng
import Derived.Test.YtpjibonpnghodaaDoorLay
import Derived.Shelf.SlSortCmp.WholeK
import Derived.Shelf.SlSortCmp.NoneTotal
set_option linter.unusedVariables false
set_option linter.unusedSimpArgs false
namespace Go.Proofs
open Go.Shelf Go.RowKit Go.Lib Go.Sort Go.KW Go.Rng

theorem row_mapBlock {α : Type} {w : World} {β : List Nat} {lo : Nat} {e : TypeId} {k : Nat} {enc : α → List Value} {g c : Nat} {xs : List α} (h : Row w β lo e k enc (some ⟨g, 0, none⟩) c xs) (hk : ∀ x, (enc x).length = k) (ys : List α) (hlen : ys.length = xs.length)
    (f : Array Value → Array Value) (hf : ∀ cur : Array Value, (flat enc ys).length ≤ cur.size → (f cur).toList = flat enc ys ++ cur.toList.drop (flat enc ys).length) (n : Nat) (os : Array Obj) :
    Row (grow (mapBlock (Sort.ahead w n) g f) os) β lo e k enc (some ⟨g, 0, none⟩) c ys ∧ w.grownBy (grow (mapBlock (Sort.ahead w n) g f) os) (some g) := by
  obtain ⟨hl, hown⟩ := h.own
  rcases hown with ⟨hv, h0⟩ | ⟨g', cap, cur, hv, hlo, hh, hnc, hcm, hcs, htk⟩
  · cases hv
  · injection hv with hA _ hcap
    injection hA with hA
    injection hA with hg
    subst hg hcap
    have hglt : g < w.heap.size := (Array.getElem?_eq_some_iff.1 hh).1
    have hgv : w.heap[g] = .cells cur e (0, 0) := (Array.getElem?_eq_some_iff.1 hh).2
    have hfl : (flat enc ys).length = ys.length * k := flat_length hk ys
    have hle : (flat enc ys).length ≤ cur.size := by rw [hfl, hlen, hcs]; exact Nat.mul_le_mul_right k hnc
    have hfc := hf cur hle
    have hother : ∀ i, i < w.heap.size → i ≠ g → (grow (mapBlock (Sort.ahead w n) g f) os).heap[i]? = w.heap[i]? := by
      intro i hi hne
      show ((w.heap.modify g (onCells f)) ++ os)[i]? = w.heap[i]?
      rw [Array.getElem?_append_left (by simpa using hi), Array.getElem?_modify, if_neg (Ne.symm hne)]
    have hself : (grow (mapBlock (Sort.ahead w n) g f) os).heap[g]? = some (.cells (f cur) e (0, 0)) := by
      show ((w.heap.modify g (onCells f)) ++ os)[g]? = _
      rw [Array.getElem?_append_left (by simpa using hglt), Array.getElem?_modify, if_pos rfl, hh]
      rfl
    refine ⟨⟨⟨by rw [hfl], .inr ⟨g, c, f cur, rfl, hlo, hself, by rw [hlen]; exact hnc, hcm, ?_, ?_⟩⟩, fun q hq => h.sep q (by simpa [Value.ownBlock] using hq)⟩, ?_⟩
    · rw [← Array.length_toList, hfc]; simp; omega
    · rw [hfc, ← hfl, List.take_left]
    · refine ⟨rfl, rfl, rfl, ?_, fun i hi hne => hother i hi (fun e => hne (by rw [e]))⟩
      show w.heap.size ≤ ((w.heap.modify g (onCells f)) ++ os).size
      simp

theorem putCells_list {α : Type} [Inhabited α] (enc : α → Value) (d : Array α) (cur : Array Value) (h : d.size ≤ cur.size) : (putCells enc 0 d cur).toList = d.toList.map enc ++ cur.toList.drop d.size := by
  apply List.ext_getElem?
  intro i
  unfold putCells
  rw [Array.getElem?_toList, Array.getElem?_mapIdx, List.getElem?_append]
  simp only [List.length_map, Array.length_toList, Nat.zero_le, true_and, Nat.zero_add, Nat.sub_zero]
  by_cases hi : i < d.size
  · rw [if_pos hi]
    have hc : i < cur.size := by omega
    simp [hi, hc]
  · rw [if_neg hi, List.getElem?_drop, show d.size + (i - d.size) = i by omega]
    by_cases hc : i < cur.size <;> simp [hc, hi]

theorem flatK_list {α : Type} [Inhabited α] (enc : α → List Value) (k : Nat) (hk : ∀ x, (enc x).length = k) (hk0 : 0 < k) (d : Array α) : (flatK enc k d).toList = flat enc d.toList := by
  apply List.ext_getElem?
  intro t
  have hfl := flat_length hk d.toList
  by_cases ht : t < d.size * k
  · have hdiv : t / k < d.size := Nat.div_lt_of_lt_mul (by rw [Nat.mul_comm]; exact ht)
    have hmod : t % k < k := Nat.mod_lt _ hk0
    have hx : d.toList[t / k]? = some d[t / k]! := by simp [hdiv]
    have hu : (enc d[t / k]!)[t % k]? = some (enc d[t / k]!)[t % k]! := by
      rw [List.getElem?_eq_getElem (by rw [hk]; exact hmod)]
      simp [hk, hmod]
    have := flat_get hk d.toList (t / k) _ hx (t % k) _ hu
    rw [show t / k * k + t % k = t by rw [Nat.mul_comm]; exact Nat.div_add_mod t k] at this
    rw [this]
    simp [flatK, ht]
  · rw [List.getElem?_eq_none (by simp [flatK]; omega), List.getElem?_eq_none (by rw [hfl]; simp; omega)]

theorem holds_row {α : Type} [Inhabited α] {w : World} {β : List Nat} {lo : Nat} {e : TypeId} {k : Nat} {enc : α → List Value} {g c : Nat} {xs : List α} (h : Row w β lo e k enc (some ⟨g, 0, none⟩) c xs) (hk : ∀ x, (enc x).length = k) (hk0 : 0 < k) : HoldsK enc k w g 0 xs.toArray := by
  intro j hj
  obtain ⟨hl, hown⟩ := h.own
  rcases hown with ⟨hv, h0⟩ | ⟨g', cap, cur, hv, hlo, hh, hnc, hcm, hcs, htk⟩
  · cases hv
  · injection hv with hA _ hcap
    injection hA with hA
    injection hA with hg
    subst hg hcap
    have hsz : (flatK enc k xs.toArray).size = xs.length * k := by simp [flatK]
    have hj' : j < xs.length * k := by rw [← hsz]; exact hj
    have hfl := flatK_list enc k hk hk0 xs.toArray
    have hc : cur[j]? = some ((flatK enc k xs.toArray)[j]!) := by
      have h1 : (flatK enc k xs.toArray).toList[j]? = some ((flatK enc k xs.toArray)[j]!) := by
        rw [Array.getElem?_toList, getElem!_pos _ j hj, getElem?_pos _ j hj]
      rw [hfl] at h1
      rw [← Array.getElem?_toList]
      rw [show flat enc xs.toArray.toList = flat enc xs by simp, ← htk, List.getElem?_take, if_pos hj'] at h1
      exact h1
    refine ⟨?_, by simp [World.frozen?, hh]⟩
    show w.cell? ⟨g, 0 + j, none⟩ = some ((flatK enc k xs.toArray)[j]!)
    rw [Nat.zero_add]
    simp only [World.cell?, hh]
    exact hc

theorem flat_encI (xs : List Int) : flat Go.KW.encI xs = xs.map (Value.int .i64) := by
  induction xs with
  | nil => rfl
  | cons x xs ih => simp only [flat, List.flatMap_cons, List.map_cons] at ih ⊢; rw [ih]; rfl

theorem permIn_list {α : Type} [Inhabited α] {d d' : Array α} (h : PermIn 0 d.size d d') : d'.toList.Perm d.toList := by
  obtain ⟨h1, _, h3⟩ := h
  have e1 : d'.extract 0 d.size = d' := by rw [← h1]; simp
  have e2 : d.extract 0 d.size = d := by simp
  rwa [e1, e2] at h3

theorem Tryd.ltLo (x y : Int × Int) : ltOf (fun x y : Int × Int => Lib.compareInt x.1 y.1) x y = decide (x.1 < y.1) := by
  unfold ltOf Lib.compareInt
  by_cases h1 : x.1 < y.1
  · simp [h1]
  · by_cases h2 : y.1 < x.1 <;> simp [h1, h2]
theorem Tryd.swoLo : SWO (ltOf fun x y : Int × Int => Lib.compareInt x.1 y.1) where
  irrefl x := by rw [Tryd.ltLo]; simp
  trans x y z h1 h2 := by rw [Tryd.ltLo] at *; simp at *; omega
  ntrans x y z h1 h2 := by rw [Tryd.ltLo] at *; simp at *; omega

set_option maxHeartbeats 1000000 in
theorem Tryd.cmpRange (x y : Int × Int) (W : World) : Calls Tryd.prog 32 #[.agg #[.int .i64 x.1, .int .i64 x.2], .agg #[.int .i64 y.1, .int .i64 y.2]] W fun e w' => e = .returned (.int .i64 (Lib.compareInt x.1 y.1)) ∧ ∃ q os', w' = grow (W.drewN q) os' := by
  have hcon := fun W' => Tryd.cmp_Compare_int x.1 y.1 W'
  generalize Lib.compareInt x.1 y.1 = r at hcon ⊢
  go_enter Tryd.func32, Tryd.ntmps32
  go_wp2_with (go_at_call 33; refine (hcon _).mono ?_; rintro e w' ⟨rfl, rfl⟩)
  go_ret
  exact ⟨rfl, 0, _, by rw [alloc_eq_grow, alloc_eq_grow, grow_grow]; rfl⟩

theorem Tryd.sortRanges {w : World} {β : List Nat} {lo : Nat} {A : Option Addr} {c : Nat} {xs : List R} (hrow : Row w β lo 34 2 encR A c xs) (hlen : xs.length < 4611686018427387904) :
    Calls Tryd.prog 31 #[.slice A xs.length c, .func (.func 32) #[] #[]] w fun e w' => e = .returned (.tuple #[]) ∧ (∃ d, d.length = xs.length ∧ d.Perm xs ∧ Sorted d ∧ Row w' β lo 34 2 encR A c d) ∧ w.grownBy w' (Value.slice A xs.length c).ownBlock := by
  by_cases h0 : xs.length = 0
  · obtain rfl : xs = [] := List.eq_nil_of_length_eq_zero h0
    refine (AnyF.slices_SortFunc_none Tryd.lsf A c (.func (.func 32) #[] #[]) w).mono ?_
    rintro e w' ⟨rfl, rfl⟩
    exact ⟨rfl, ⟨[], rfl, .refl _, List.Pairwise.nil, hrow⟩, ⟨rfl, rfl, rfl, Nat.le_refl _, fun _ _ _ => rfl⟩⟩
  · obtain ⟨g, rfl, hlo, hsep⟩ := hrow.addr (by omega)
    have eg : ∀ args w, (callFunc 32 args).run Tryd.prog w = .ok (.enter 32 args) w := enters_of Tryd.func32 (by kernel_rfl) rfl
    have hg : g < w.heap.size := (hrow.own.lt g rfl).2
    have hcon := AnyQ.slices_SortFunc Tryd.lsf 2 Tryd.isAgg34 Tryd.sizeOf34 encR encR_len encR_one (fun x y => Lib.compareInt x.1 y.1) Tryd.swoLo 32 #[] g 0 c xs.toArray w eg (fun _ _ _ _ x y => Tryd.cmpRange x y _) (holds_row hrow encR_len (by omega)) hg (by simpa using hlen)
    simp only [List.size_toArray] at hcon
    refine hcon.mono ?_
    rintro e w' ⟨rfl, d', n, os, hp, hs, rfl⟩
    have hd : d'.size = xs.length := by have := hp.1; simpa using this
    have hperm : d'.toList.Perm xs := by
      have := permIn_list (d := xs.toArray) (d' := d') (by simpa using hp)
      simpa using this
    obtain ⟨hrow', hgr⟩ := row_mapBlock hrow encR_len d'.toList (by simpa using hd) (putCells id 0 (flatK encR 2 d')) (fun cur hc => by
      have h1 := flatK_list encR 2 encR_len (by omega) d'
      rw [putCells_list _ _ _ (by rw [← Array.length_toList, h1]; exact hc), h1, List.map_id, ← Array.length_toList, h1]) n os
    refine ⟨rfl, ⟨d'.toList, by simpa using hd, hperm, ?_, hrow'⟩, hgr⟩
    unfold Sorted
    rw [List.pairwise_iff_getElem]
    intro i j hi hj hij
    have hj' : j < d'.size := by simpa using hj
    have hi' : i < d'.size := by simpa using hi
    have := hs i j (Nat.zero_le _) hij (by omega)
    rw [Tryd.ltLo] at this
    simp only [decide_eq_false_iff_not, getElem!_pos d' i hi', getElem!_pos d' j hj'] at this
    simpa using this

theorem Tryd.sortInts {w : World} {β : List Nat} {lo : Nat} {A : Option Addr} {c : Nat} {xs : List Int} (hrow : Row w β lo 3 1 Go.KW.encI A c xs) (hlen : xs.length < 4611686018427387904) :
    Calls Tryd.prog 29 #[.slice A xs.length c] w fun e w' => e = .returned (.tuple #[]) ∧ Row w' β lo 3 1 Go.KW.encI A c (xs.mergeSort fun x y => decide (x ≤ y)) ∧ w.grownBy w' (Value.slice A xs.length c).ownBlock := by
  by_cases h0 : xs.length = 0
  · obtain rfl : xs = [] := List.eq_nil_of_length_eq_zero h0
    refine (Tryd.slices_Sort_int_none A c w).mono ?_
    rintro e w' ⟨rfl, rfl⟩
    exact ⟨rfl, by simpa using hrow, ⟨rfl, rfl, rfl, Nat.le_refl _, fun _ _ _ => rfl⟩⟩
  · obtain ⟨g, rfl, hlo, hsep⟩ := hrow.addr (by omega)
    have hg : g < w.heap.size := (hrow.own.lt g rfl).2
    have hH : Holds (Value.int .i64) w g 0 xs.toArray := by
      have h1 := holds_row hrow Go.KW.encI_len (by omega)
      intro j hj
      have hj' : j < xs.length := by simpa using hj
      obtain ⟨h2, h3⟩ := h1 j (by simpa [flatK] using hj')
      refine ⟨?_, h3⟩
      rw [h2]
      simp [flatK, hj', Go.KW.encI, Nat.mod_one]
    refine (Tryd.slices_Sort_int g 0 c xs w hH hg hlen).mono ?_
    rintro e w' ⟨rfl, n, os, rfl⟩
    have hl2 : (xs.mergeSort fun x y => decide (x ≤ y)).length = xs.length := List.length_mergeSort _
    obtain ⟨hrow', hgr⟩ := row_mapBlock hrow Go.KW.encI_len (xs.mergeSort fun x y => decide (x ≤ y)) hl2 (putCells (Value.int .i64) 0 (xs.mergeSort fun x y => decide (x ≤ y)).toArray) (fun cur hc => by
      have e : flat Go.KW.encI (xs.mergeSort fun x y => decide (x ≤ y)) = (xs.mergeSort fun x y => decide (x ≤ y)).map (Value.int .i64) := flat_encI _
      rw [e] at hc ⊢
      rw [putCells_list _ _ _ (by simpa using hc)]
      simp) n os
    exact ⟨rfl, hrow', hgr⟩
end Go.Proofs

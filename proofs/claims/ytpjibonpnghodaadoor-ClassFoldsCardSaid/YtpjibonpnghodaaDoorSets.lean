/- What the functions on sets compute: plain Lean. -/
import Derived.Test.YtpjibonpnghodaaDoorRng
import Derived.Test.YtpjibonpnghodaaDoorFoldS
set_option linter.unusedVariables false
namespace Go.Rng
open Go.KW

def hasP (r : Int) (x : R) : Bool := decide (x.1 ≤ r) && decide (r ≤ x.2)
def hasF (l : List R) (r : Int) : Bool := decide (0 ≤ r) && (decide (r ≤ 1114111) && l.any (hasP r))
theorem normL_bd {l : List R} {q : Nat} {y : R} (hy : (normL l)[q]? = some y) : 0 ≤ y.1 ∧ y.1 ≤ y.2 ∧ y.2 ≤ 1114111 := (normL_spec l).1.ok y (List.mem_of_getElem? hy)
theorem hasF_iff (l : List R) (r : Int) : hasF l r = true ↔ (0 ≤ r ∧ r ≤ MaxR) ∧ inR r l := by
  simp only [hasF, hasP, inR, MaxR, Bool.and_eq_true, decide_eq_true_eq, List.any_eq_true]
  constructor
  · rintro ⟨h1, h2, x, hx, h⟩; exact ⟨⟨h1, h2⟩, x, hx, h⟩
  · rintro ⟨⟨h1, h2⟩, x, hx, h⟩; exact ⟨h1, h2, x, hx, h⟩
/-- What lies between a list's ranges, and where the rest begins. -/
def gapS (z : List R × Int) (x : R) : List R × Int := (if x.1 > z.2 then z.1 ++ [(z.2, x.1 - 1)] else z.1, x.2 + 1)
def gapsL (l : List R) : List R × Int := l.foldl gapS ([], 0)
def notL (l : List R) : List R := let z := gapsL (normL l); if z.2 ≤ 1114111 then z.1 ++ [(z.2, 1114111)] else z.1
theorem gapsL_take {l : List R} {j : Nat} {x : R} (hx : l[j]? = some x) : gapsL (l.take (j + 1)) = gapS (gapsL (l.take j)) x := by
  rw [take_snoc hx]; simp [gapsL]
theorem gapS_yes {l out : List R} {fr : Int} {j : Nat} {x : R} (ho : (out, fr) = gapsL (l.take j)) (hx : l[j]? = some x) (h : x.1 > fr) : (out ++ [(fr, x.1 - 1)], x.2 + 1) = gapsL (l.take (j + 1)) := by
  rw [gapsL_take hx, ← ho]; simp [gapS, h]
theorem gapS_no {l out : List R} {fr : Int} {j : Nat} {x : R} (ho : (out, fr) = gapsL (l.take j)) (hx : l[j]? = some x) (h : ¬ x.1 > fr) : (out, x.2 + 1) = gapsL (l.take (j + 1)) := by
  rw [gapsL_take hx, ← ho]; simp [gapS, h]
theorem notL_yes {l out : List R} {fr : Int} (ho : (out, fr) = gapsL (normL l)) (h : fr ≤ 1114111) : out ++ [(fr, 1114111)] = notL l := by
  unfold notL; rw [← ho]; simp [h]
theorem notL_no {l out : List R} {fr : Int} (ho : (out, fr) = gapsL (normL l)) (h : ¬ fr ≤ 1114111) : out = notL l := by
  unfold notL; rw [← ho]; simp [h]
/-- How far two lists are the same. -/
def sameTo {α : Type} [DecidableEq α] (l m : List α) (j : Nat) : Bool := decide (l.length = m.length ∧ l.take j = m.take j)
section
variable {α : Type} [DecidableEq α] {l m : List α} {j : Nat}
theorem sameTo_zero : ((l.length : Int) == (m.length : Int)) = sameTo l m 0 := by
  unfold sameTo
  by_cases h : l.length = m.length <;> simp [h]
  omega
theorem sameTo_len (h : true = sameTo l m j) : l.length = m.length := by
  unfold sameTo at h; exact (of_decide_eq_true h.symm).1
theorem sameTo_succ {x y : α} (h : true = sameTo l m j) (hx : l[j]? = some x) (hy : m[j]? = some y) : decide (x = y) = sameTo l m (j + 1) := by
  unfold sameTo at h ⊢
  obtain ⟨h1, h2⟩ := of_decide_eq_true h.symm
  rw [take_snoc hx, take_snoc hy, h2]
  simp [h1]
theorem sameTo_false (h : false = sameTo l m j) : decide (l = m) = false := by
  unfold sameTo at h
  have := of_decide_eq_false h.symm
  simp only [decide_eq_false_iff_not]
  rintro rfl
  exact this ⟨rfl, rfl⟩
theorem sameTo_end (h : true = sameTo l m j) (hj : ¬ ((j : Int) < (l.length : Int))) : decide (l = m) = true := by
  have hl := sameTo_len h
  unfold sameTo at h
  obtain ⟨h1, h2⟩ := of_decide_eq_true h.symm
  rw [List.take_of_length_le (by omega), List.take_of_length_le (by omega)] at h2
  simp [h2]
end
theorem eqR (x y : R) : (x.1 == y.1 && x.2 == y.2) = decide (x = y) := by
  obtain ⟨a, b⟩ := x; obtain ⟨c, d⟩ := y
  by_cases h1 : a = c <;> by_cases h2 : b = d <;> simp [h1, h2]
/-- A family's members behind its capital: those of the blocks, the others. -/
def famB (c : Int) (l : List (Int × Int × Int)) : List Int := l.flatMap fun b => if c ≥ b.1 ∧ c ≤ b.2.1 then [c + b.2.2] else []
def famO (c : Int) (l : List (Int × Int)) : List Int := l.flatMap fun x => if x.2 = c then [x.1] else []
def famL (r : Int) : List Int := ((capF r :: famB (capF r) blocksT) ++ famO (capF r) othersT).mergeSort fun x y => decide (x ≤ y)
theorem famB_yes {c : Int} {d : List Int} {j : Nat} (hd : d = c :: famB c (blocksT.take j)) (hj : j < 7) (h1 : c ≥ bLo j) (h2 : c ≤ bHi j) : d ++ [c + bUp j] = c :: famB c (blocksT.take (j + 1)) := by
  rw [take_snoc (blocksT_get j hj), hd]; simp [famB, h1, h2]
theorem famB_no {c : Int} {d : List Int} {j : Nat} (hd : d = c :: famB c (blocksT.take j)) (hj : j < 7) (h : ¬ (c ≥ bLo j ∧ c ≤ bHi j)) : d = c :: famB c (blocksT.take (j + 1)) := by
  rw [take_snoc (blocksT_get j hj), hd]; simp only [famB, List.flatMap_append, List.flatMap_cons, List.flatMap_nil, if_neg h, List.append_nil]
theorem famO_yes {c : Int} {d e : List Int} {j : Nat} (hd : d = e ++ famO c (othersT.take j)) (hj : j < 7) (h : oC j = c) : d ++ [oR j] = e ++ famO c (othersT.take (j + 1)) := by
  rw [take_snoc (othersT_get j hj), hd]; simp [famO, h]
theorem famO_no {c : Int} {d e : List Int} {j : Nat} (hd : d = e ++ famO c (othersT.take j)) (hj : j < 7) (h : ¬ oC j = c) : d = e ++ famO c (othersT.take (j + 1)) := by
  rw [take_snoc (othersT_get j hj), hd]; simp [famO, h]
theorem capF_bd {r : Int} (h0 : -1000000000000 ≤ r) (h1 : r ≤ 1000000000000) : -1000000000100 ≤ capF r ∧ capF r ≤ 1000000000100 := by
  unfold capF
  split
  · rename_i x hx
    have hm := List.mem_of_find?_eq_some hx
    have : ∀ y, y ∈ othersT → 0 ≤ y.2 ∧ y.2 ≤ 1000 := by decide
    have := this x hm
    omega
  · split
    · rename_i x hx
      have hm := List.mem_of_find?_eq_some hx
      have : ∀ y, y ∈ blocksT → 0 ≤ y.2.2 ∧ y.2.2 ≤ 100 := by decide
      have := this x hm
      omega
    · omega
theorem famB_length (c : Int) : ∀ l : List (Int × Int × Int), (famB c l).length ≤ l.length
  | [] => by simp [famB]
  | b :: l => by
    have ih := famB_length c l
    simp only [famB, List.flatMap_cons, List.length_append, List.length_cons] at ih ⊢
    split <;> (simp only [List.length_cons, List.length_nil]; omega)
theorem famO_length (c : Int) : ∀ l : List (Int × Int), (famO c l).length ≤ l.length
  | [] => by simp [famO]
  | b :: l => by
    have ih := famO_length c l
    simp only [famO, List.flatMap_cons, List.length_append, List.length_cons] at ih ⊢
    split <;> (simp only [List.length_cons, List.length_nil]; omega)
theorem famL_length (r : Int) : (famL r).length ≤ 15 := by
  unfold famL
  rw [List.length_mergeSort, List.length_append, List.length_cons]
  have h1 := famB_length (capF r) blocksT
  have h2 := famO_length (capF r) othersT
  have e1 : blocksT.length = 7 := rfl
  have e2 : othersT.length = 7 := rfl
  omega
/-- What a capital adds to a set that is closed under families. -/
def addL (l : List R) (c : Int) : List R := if (famL c).any (hasF l) then (famL c).map fun r => (r, r) else []
def upTo (lo c : Int) : List Int := (List.range (c - lo).toNat).map fun (i : Nat) => lo + (i : Int)
theorem upTo_nil (lo : Int) : upTo lo lo = [] := by simp [upTo]
theorem upTo_succ {lo c : Int} (h : lo ≤ c) : upTo lo (c + 1) = upTo lo c ++ [c] := by
  unfold upTo
  have e : (c + 1 - lo).toNat = (c - lo).toNat + 1 := by omega
  rw [e, List.range_succ, List.map_append]
  simp
  omega
def capsB (l : List (Int × Int × Int)) : List Int := l.flatMap fun b => upTo b.1 (b.2.1 + 1)
def closeL (l : List R) : List R := normL (l ++ (capsB blocksT ++ othersT.map (·.2)).flatMap (addL l))
theorem famMap_take {m : List Int} {d o : List R} {j : Nat} {x : Int} (hd : d = o ++ (m.take j).map fun r => (r, r)) (hx : m[j]? = some x) : d ++ [(x, x)] = o ++ (m.take (j + 1)).map fun r => (r, r) := by
  rw [take_snoc hx, hd]; simp
theorem famMap_end {l o d : List R} {c : Int} {j : Nat} (hd : d = o ++ ((famL c).take j).map fun r => (r, r)) (hj : (famL c).length ≤ j) (h : (famL c).any (hasF l) = true) : d = o ++ addL l c := by
  rw [hd, List.take_of_length_le hj]; unfold addL; rw [if_pos h]
theorem addL_no {l o : List R} {c : Int} (h : (famL c).any (hasF l) = false) : o = o ++ addL l c := by
  unfold addL; rw [if_neg (by simp [h])]; simp
theorem addL_length (l : List R) (c : Int) : (addL l c).length ≤ 15 := by
  unfold addL; split
  · simp; exact famL_length c
  · simp
theorem capsB_take {j : Nat} (hj : j < 7) : capsB (blocksT.take (j + 1)) = capsB (blocksT.take j) ++ upTo (bLo j) (bHi j + 1) := by
  rw [take_snoc (blocksT_get j hj)]; simp [capsB]
theorem close_in {l o o' : List R} {X : List Int} {lo c : Int} (ho : o = l ++ (X ++ upTo lo c).flatMap (addL l)) (h : lo ≤ c) (e : o' = o ++ addL l c) : o' = l ++ (X ++ upTo lo (c + 1)).flatMap (addL l) := by
  rw [e, ho, upTo_succ h]; simp
theorem close_out {l o o' : List R} {X : List Int} {j : Nat} (ho : o = l ++ (X ++ (othersT.map (·.2)).take j).flatMap (addL l)) (hj : j < 7) (e : o' = o ++ addL l (oC j)) : o' = l ++ (X ++ (othersT.map (·.2)).take (j + 1)).flatMap (addL l) := by
  have hx : (othersT.map (·.2))[j]? = some (oC j) := by rw [List.getElem?_map, othersT_get j hj]; rfl
  rw [e, ho, take_snoc hx]; simp
end Go.Rng

/- The sets' functions once more, so that the kernel can reckon them. -/
import Derived.Test.YtpjibonpnghodaaDoorCls
set_option linter.unusedVariables false
namespace Go.Rng
open Go.KW

section
variable {α : Type} (f : α → Int)
def insBy (x : α) : List α → List α
  | [] => [x]
  | y :: l => if f x ≤ f y then x :: y :: l else y :: insBy x l
def isortBy (l : List α) : List α := l.foldr (insBy f) []
theorem insBy_perm (x : α) : ∀ l, (insBy f x l).Perm (x :: l)
  | [] => .refl _
  | y :: l => by
    unfold insBy
    split
    · exact .refl _
    · exact ((insBy_perm x l).cons y).trans (.swap x y l)
theorem isortBy_perm : ∀ l, (isortBy f l).Perm l
  | [] => .refl _
  | x :: l => (insBy_perm f x _).trans ((isortBy_perm l).cons x)
theorem insBy_sorted (x : α) : ∀ l, l.Pairwise (fun a b => f a ≤ f b) → (insBy f x l).Pairwise (fun a b => f a ≤ f b)
  | [], _ => by simp [insBy]
  | y :: l, h => by
    unfold insBy
    obtain ⟨h1, h2⟩ := List.pairwise_cons.1 h
    split
    · rename_i hxy
      refine List.pairwise_cons.2 ⟨fun z hz => ?_, h⟩
      rcases List.mem_cons.1 hz with rfl | hz
      · exact hxy
      · have := h1 z hz; omega
    · rename_i hxy
      refine List.pairwise_cons.2 ⟨fun z hz => ?_, insBy_sorted x l h2⟩
      have := (insBy_perm f x l).mem_iff.1 hz
      rcases List.mem_cons.1 this with rfl | hz
      · omega
      · exact h1 z hz
theorem isortBy_sorted : ∀ l, (isortBy f l).Pairwise (fun a b => f a ≤ f b)
  | [] => List.Pairwise.nil
  | x :: l => insBy_sorted f x _ (isortBy_sorted l)
end

theorem perm_sorted_eq : ∀ (a b : List Int), a.Perm b → a.Pairwise (fun x y => x ≤ y) → b.Pairwise (fun x y => x ≤ y) → a = b
  | [], b, h, _, _ => by rw [List.nil_perm.1 h]
  | x :: a, [], h, _, _ => by simp at h
  | x :: a, y :: b, h, ha, hb => by
    obtain ⟨ha1, ha2⟩ := List.pairwise_cons.1 ha
    obtain ⟨hb1, hb2⟩ := List.pairwise_cons.1 hb
    have hx : x ∈ y :: b := h.mem_iff.1 (List.mem_cons_self ..)
    have hy : y ∈ x :: a := h.mem_iff.2 (List.mem_cons_self ..)
    have e : x = y := by
      rcases List.mem_cons.1 hx with e | hx
      · exact e
      · rcases List.mem_cons.1 hy with e | hy
        · exact e.symm
        · have := hb1 x hx; have := ha1 y hy; omega
    subst e
    rw [perm_sorted_eq a b (List.Perm.cons_inv h) ha2 hb2]

def normE (l : List R) : List R := mergeL (isortBy (fun x : R => x.1) (keepR l))
theorem normL_E (l : List R) : normL l = normE l := (normL_of_perm (isortBy_perm _ _) (isortBy_sorted _ _)).symm
def famE (r : Int) : List Int := isortBy id ((capF r :: famB (capF r) blocksT) ++ famO (capF r) othersT)
theorem famL_E (r : Int) : famL r = famE r := by
  refine perm_sorted_eq _ _ ?_ ?_ (isortBy_sorted id _)
  · exact (List.mergeSort_perm _ _).trans (isortBy_perm id _).symm
  · have := List.pairwise_mergeSort (le := fun x y : Int => decide (x ≤ y)) (by intro a b c; simp; omega) (by intro a b; simp; omega) ((capF r :: famB (capF r) blocksT) ++ famO (capF r) othersT)
    simpa [famL] using this
def addE (l : List R) (c : Int) : List R := if (famE c).any (hasF l) then (famE c).map fun r => (r, r) else []
def closeE (l : List R) : List R := normE (l ++ (capsB blocksT ++ othersT.map (·.2)).flatMap (addE l))
theorem closeL_E (l : List R) : closeL l = closeE l := by
  have e : addL l = addE l := funext fun c => by unfold addL addE; rw [famL_E]
  unfold closeL closeE
  rw [normL_E, e]
def notE (l : List R) : List R := let z := gapsL (normE l); if z.2 ≤ 1114111 then z.1 ++ [(z.2, 1114111)] else z.1
theorem notL_E (l : List R) : notL l = notE l := by unfold notL notE; rw [normL_E]
def findE (all : List Nm) (nm : ByteArray) : Option (List R) := (all.find? fun x => x.1.data.toList == nm.data.toList).map fun x => normE (piecesL x.2.data.toList)
theorem findL_E (all : List Nm) (nm : ByteArray) : findL all nm = findE all nm := by
  unfold findL findE
  have e : nameP nm = fun x => x.1.data.toList == nm.data.toList := funext fun x => by unfold nameP; rw [toList_data, toList_data]
  rw [e]
  congr 1
  exact funext fun x => normL_E _
def turnedE (all : List Nm) (name : ByteArray) : Option (List R) :=
  match findE all ⟨(Lib.trimPrefix name.data.toList [94]).toArray⟩ with
  | none => none
  | some l => some (if Lib.hasPrefix name.data.toList [94] then notE l else l)
theorem turnedL_E (all : List Nm) (name : ByteArray) : turnedL all name = turnedE all name := by
  unfold turnedL turnedE
  rw [findL_E]
  cases findE all _ with
  | none => rfl
  | some l => simp only [notL_E]
end Go.Rng

/- Case folding as plain functions: the tables, the capital, the family. -/
import Derived.Test.YtpjibonpnghodaaDoorR
namespace Go.KW

def blocksT : List (Int × Int × Int) := [(65, 90, 32), (192, 214, 32), (216, 222, 32), (913, 929, 32), (931, 939, 32), (1040, 1071, 32), (1024, 1039, 80)]
def othersT : List (Int × Int) := [(255, 376), (181, 924), (962, 931), (8490, 75), (8491, 197), (383, 83), (8486, 937)]
def bLo (j : Nat) : Int := (blocksT.getD j (0, 0, 0)).1
def bHi (j : Nat) : Int := (blocksT.getD j (0, 0, 0)).2.1
def bUp (j : Nat) : Int := (blocksT.getD j (0, 0, 0)).2.2
def oR (j : Nat) : Int := (othersT.getD j (0, 0)).1
def oC (j : Nat) : Int := (othersT.getD j (0, 0)).2
def blocksV : List Value := [.int .i64 65, .int .i64 90, .int .i64 32, .int .i64 192, .int .i64 214, .int .i64 32, .int .i64 216, .int .i64 222, .int .i64 32, .int .i64 913, .int .i64 929, .int .i64 32, .int .i64 931, .int .i64 939, .int .i64 32, .int .i64 1040, .int .i64 1071, .int .i64 32, .int .i64 1024, .int .i64 1039, .int .i64 80]
def othersV : List Value := [.int .i64 255, .int .i64 376, .int .i64 181, .int .i64 924, .int .i64 962, .int .i64 931, .int .i64 8490, .int .i64 75, .int .i64 8491, .int .i64 197, .int .i64 383, .int .i64 83, .int .i64 8486, .int .i64 937]

theorem lt7 {P : Nat → Prop} (h0 : P 0) (h1 : P 1) (h2 : P 2) (h3 : P 3) (h4 : P 4) (h5 : P 5) (h6 : P 6) : ∀ j, j < 7 → P j := by
  intro j hj
  match j, hj with
  | 0, _ => exact h0
  | 1, _ => exact h1
  | 2, _ => exact h2
  | 3, _ => exact h3
  | 4, _ => exact h4
  | 5, _ => exact h5
  | 6, _ => exact h6
theorem blocks_at : ∀ j, j < 7 → blocksV.toArray.extract (j * 3) (j * 3 + 3) = #[.int .i64 (bLo j), .int .i64 (bHi j), .int .i64 (bUp j)] := lt7 rfl rfl rfl rfl rfl rfl rfl
theorem others_at : ∀ j, j < 7 → othersV.toArray.extract (j * 2) (j * 2 + 2) = #[.int .i64 (oR j), .int .i64 (oC j)] := lt7 rfl rfl rfl rfl rfl rfl rfl
theorem blk_bd : ∀ j, j < 7 → 65 ≤ bLo j ∧ bLo j ≤ 1040 ∧ bLo j ≤ bHi j ∧ bHi j ≤ 1071 ∧ 32 ≤ bUp j ∧ bUp j ≤ 80 := lt7 (by decide) (by decide) (by decide) (by decide) (by decide) (by decide) (by decide)
theorem oth_bd : ∀ j, j < 7 → 181 ≤ oR j ∧ oR j ≤ 8491 ∧ 75 ≤ oC j ∧ oC j ≤ 937 := lt7 (by decide) (by decide) (by decide) (by decide) (by decide) (by decide) (by decide)
theorem blocksT_get : ∀ j, j < 7 → blocksT[j]? = some (bLo j, bHi j, bUp j) := lt7 rfl rfl rfl rfl rfl rfl rfl
theorem othersT_get : ∀ j, j < 7 → othersT[j]? = some (oR j, oC j) := lt7 rfl rfl rfl rfl rfl rfl rfl

def isO (r : Int) (x : Int × Int) : Bool := x.1 == r
def isB (r : Int) (b : Int × Int × Int) : Bool := decide (r ≥ b.1 + b.2.2) && decide (r ≤ b.2.1 + b.2.2)
/-- The number that stands for a family. -/
def capF (r : Int) : Int :=
  match othersT.find? (isO r) with
  | some x => x.2
  | none => match blocksT.find? (isB r) with
    | some b => r - b.2.2
    | none => r

theorem find_at {α : Type} (p : α → Bool) : ∀ (l : List α) (j : Nat) (x : α), (∀ i y, i < j → l[i]? = some y → p y = false) → l[j]? = some x → p x = true → l.find? p = some x
  | [], j, x, _, h, _ => by simp at h
  | y :: r, 0, x, _, h, hp => by
    simp only [List.getElem?_cons_zero, Option.some.injEq] at h
    subst h
    simp [List.find?, hp]
  | y :: r, j + 1, x, hn, h, hp => by
    have h0 := hn 0 y (by omega) (by simp)
    simp only [List.find?, h0]
    exact find_at p r j x (fun i z hi hz => hn (i + 1) z (by omega) (by simpa using hz)) (by simpa using h) hp
theorem find_none_at {α : Type} (p : α → Bool) (l : List α) (n : Nat) (hl : l.length = n) (hn : ∀ i y, i < n → l[i]? = some y → p y = false) : l.find? p = none := by
  rw [List.find?_eq_none]
  intro x hx
  obtain ⟨i, hi, rfl⟩ := List.getElem_of_mem hx
  have := hn i l[i] (by omega) (List.getElem?_eq_getElem hi)
  simp [this]

/-- None of the first j others is r. -/
def noO (r : Int) (j : Nat) : Prop := ∀ i y, i < j → othersT[i]? = some y → isO r y = false
def noB (r : Int) (j : Nat) : Prop := ∀ i y, i < j → blocksT[i]? = some y → isB r y = false
theorem noO_zero (r : Int) : noO r 0 := fun i y h => by omega
theorem noB_zero (r : Int) : noB r 0 := fun i y h => by omega
theorem noO_succ {r : Int} {j : Nat} (h : noO r j) (hj : j < 7) (hne : ¬ oR j = r) : noO r (j + 1) := by
  intro i y hi hy
  by_cases e : i = j
  · subst e
    rw [othersT_get i hj] at hy
    cases hy
    simp [isO, hne]
  · exact h i y (by omega) hy
theorem noB_succ {r : Int} {j : Nat} (h : noB r j) (hj : j < 7) (hne : ¬ (bLo j + bUp j ≤ r ∧ r ≤ bHi j + bUp j)) : noB r (j + 1) := by
  intro i y hi hy
  by_cases e : i = j
  · subst e
    rw [blocksT_get i hj] at hy
    cases hy
    simp only [isB, Bool.and_eq_false_iff, decide_eq_false_iff_not]
    omega
  · exact h i y (by omega) hy
theorem capF_other {r : Int} {j : Nat} (h : noO r j) (hj : j < 7) (he : oR j = r) : capF r = oC j := by
  unfold capF
  rw [find_at (isO r) othersT j _ h (othersT_get j hj) (by simp [isO, he])]
theorem capF_block {r : Int} {j : Nat} (h : noO r 7) (hb : noB r j) (hj : j < 7) (h1 : bLo j + bUp j ≤ r) (h2 : r ≤ bHi j + bUp j) : capF r = r - bUp j := by
  unfold capF
  rw [find_none_at (isO r) othersT 7 rfl h, find_at (isB r) blocksT j _ hb (blocksT_get j hj) (by simp [isB]; omega)]
theorem capF_self {r : Int} (h : noO r 7) (hb : noB r 7) : capF r = r := by
  unfold capF
  rw [find_none_at (isO r) othersT 7 rfl h, find_none_at (isB r) blocksT 7 rfl hb]
end Go.KW

/- The named sets: plain Lean. -/
import Derived.Test.YtpjibonpnghodaaDoorSets
import Derived.Test.YtpjibonpnghodaaDoorE
import Derived.Lib.Split
import Derived.Lib.SplitLaws
import Derived.Lib.CutLaws
set_option linter.unusedVariables false
set_option linter.unusedSimpArgs false
namespace Go.Rng
open Go.KW Go.RowKit

abbrev Nm := ByteArray × ByteArray
def encN (x : Nm) : List Value := [.string x.1, .string x.2]
theorem encN_len (x : Nm) : (encN x).length = 2 := rfl
theorem encN_one (x : Nm) : ∀ u ∈ encN x, u.oneCell' = true := by simp [encN, Value.oneCell']
def encS (x : ByteArray) : List Value := [.string x]
theorem encS_len (x : ByteArray) : (encS x).length = 1 := rfl
theorem encS_one (x : ByteArray) : ∀ u ∈ encS x, u.oneCell' = true := by simp [encS, Value.oneCell']

theorem toList_data (s : ByteArray) : s.toList = s.data.toList := ByteArray.toList_eq s
theorem bytes_ext {a b : ByteArray} (h : a.data.toList = b.data.toList) : a = b := by
  obtain ⟨a⟩ := a; obtain ⟨b⟩ := b; simp at h; rw [h]
theorem beq_bytes (a b : ByteArray) : (a.toList == b.toList) = decide (a = b) := by
  rw [toList_data, toList_data]
  by_cases h : a = b
  · simp [h]
  · simp only [h, decide_false, beq_eq_false_iff_ne]
    exact fun e => h (bytes_ext e)

def hexesL : List UInt8 := [48, 49, 50, 51, 52, 53, 54, 55, 56, 57, 65, 66, 67, 68, 69, 70]
def numL (l : List UInt8) : Int := l.foldl (fun n b => 16 * n + Lib.indexByte hexesL b) 0
theorem indexByte_lt : ∀ (l : List UInt8) (c : UInt8), Lib.indexByte l c < l.length ∧ -1 ≤ Lib.indexByte l c
  | [], c => by simp [Lib.indexByte]
  | b :: l, c => by
    have ih := indexByte_lt l c
    unfold Lib.indexByte
    simp only [List.length_cons]
    split
    · omega
    · split <;> omega
theorem numL_snoc (l : List UInt8) (b : UInt8) : numL (l ++ [b]) = 16 * numL l + Lib.indexByte hexesL b := by simp [numL]
theorem numL_bd (l : List UInt8) : -(16 ^ l.length : Int) < numL l ∧ numL l < (16 ^ l.length : Int) ∧ 15 * numL l ≥ 1 - (16 ^ l.length : Int) := by
  suffices H : ∀ n (l : List UInt8), l.length = n → -(16 ^ n : Int) < numL l ∧ numL l < (16 ^ n : Int) ∧ 15 * numL l ≥ 1 - (16 ^ n : Int) from H _ l rfl
  intro n
  induction n with
  | zero => intro l hl; obtain rfl := List.eq_nil_of_length_eq_zero hl; simp [numL]
  | succ n ih0 =>
    intro l0 hl0
    obtain ⟨l, b, rfl⟩ : ∃ l b, l0 = l ++ [b] := by
      rcases List.eq_nil_or_concat l0 with rfl | ⟨a, z, rfl⟩
      · simp at hl0
      · exact ⟨a, z, by simp⟩
    have ih := ih0 l (by simpa using hl0)
    have h := indexByte_lt hexesL b
    have hl : hexesL.length = 16 := rfl
    rw [numL_snoc, Int.pow_succ]
    rw [hl] at h
    omega
theorem numL_small {l : List UInt8} (h : l.length ≤ 12) : -300000000000000 ≤ numL l ∧ numL l ≤ 300000000000000 := by
  have h1 := numL_bd l
  have h2 : (16 : Int) ^ l.length ≤ 16 ^ 12 := by
    have := Nat.pow_le_pow_right (n := 16) (by decide) h
    exact_mod_cast this
  have h3 : (16 : Int) ^ 12 = 281474976710656 := by decide
  omega

def pieceL (s : List UInt8) : R := (numL (Lib.cut s [45]).1, numL (if (Lib.cut s [45]).2.2 then (Lib.cut s [45]).2.1 else (Lib.cut s [45]).1))
def wordsL (l : List UInt8) : List (List UInt8) := Lib.splitK [32] 0 (Lib.count l [32]) l
def piecesL (l : List UInt8) : List R := (wordsL l).map pieceL
/-- A table's text: not long, no long words. -/
def textOk (l : List UInt8) : Bool := decide (l.length < 1000000) && ((wordsL l).all fun s => decide (s.length ≤ 12))
def wordsB (t : ByteArray) : List ByteArray := Lib.splitB ⟨#[32]⟩ 0 (Lib.countB t ⟨#[32]⟩) t
theorem wordsB_data (t : ByteArray) : (wordsB t).map (·.data.toList) = wordsL t.data.toList := Lib.splitB_data _ _ _ _
theorem wordsB_length (t : ByteArray) : (wordsB t).length = Lib.countB t ⟨#[32]⟩ + 1 := Lib.splitB_all ⟨#[32]⟩ (by decide) 0 _ t rfl
theorem wordsB_short {t s : ByteArray} (h : textOk t.data.toList = true) (hs : s ∈ wordsB t) : s.data.toList.length ≤ 12 := by
  simp only [textOk, Bool.and_eq_true, List.all_eq_true, decide_eq_true_eq] at h
  apply h.2
  rw [← wordsB_data]
  exact List.mem_map_of_mem hs
theorem cut_short (s : List UInt8) : (Lib.cut s [45]).1.length ≤ s.length ∧ (Lib.cut s [45]).2.1.length ≤ s.length := by
  unfold Lib.cut
  split
  · simp; omega
  · simp
theorem piecesL_take {t s : ByteArray} {j : Nat} {pre : List R} (hp : pre = (piecesL t.data.toList).take j) (hx : (wordsB t)[j]? = some s) : pre ++ [pieceL s.data.toList] = (piecesL t.data.toList).take (j + 1) := by
  have h : (piecesL t.data.toList)[j]? = some (pieceL s.data.toList) := by
    unfold piecesL
    rw [← wordsB_data, List.getElem?_map, List.getElem?_map, hx]
    rfl
  rw [take_snoc h, hp]
theorem piecesL_length (t : ByteArray) : (piecesL t.data.toList).length = (wordsB t).length := by
  unfold piecesL
  rw [← wordsB_data, List.length_map, List.length_map]
theorem words_length_le (t : ByteArray) : (wordsB t).length ≤ t.size + 2 := by
  rw [wordsB_length]
  have := Lib.count_le t.data.toList [32]
  have e : t.size = t.data.toList.length := Lib.size_eq t
  show Lib.count t.data.toList [32] + 1 ≤ _
  omega

theorem bt_byte {s : ByteArray} {i : Nat} (h : i < s.size) : s.data.toList[i]? = some (bt s i).toNat.toUInt8 := by
  have e : s[i]? = some s[i] := by simp [h]
  have e2 : bt s (i : Int) = (s[i].toNat : Int) := by unfold bt; simp [e]
  have e3 : (bt s (i : Int)).toNat.toUInt8 = s[i] := by rw [e2]; simp
  rw [e3]
  have : i < s.data.size := h
  rw [Array.getElem?_toList, getElem?_pos s.data i this]
  rfl
theorem numL_take {s : ByteArray} {i : Nat} {n : Int} (hn : n = numL (s.data.toList.take i)) (h : i < s.size) : 16 * n + Lib.indexByte hexesL (bt s i).toNat.toUInt8 = numL (s.data.toList.take (i + 1)) := by
  rw [take_snoc (bt_byte h), numL_snoc, hn]

def nameP (nm : ByteArray) (x : Nm) : Bool := x.1.toList == nm.toList
def findL (all : List Nm) (nm : ByteArray) : Option (List R) := (all.find? (nameP nm)).map fun x => normL (piecesL x.2.data.toList)
theorem findL_none {all : List Nm} {nm : ByteArray} (h : idxF (nameP nm) all < 0) : findL all nm = none := by
  induction all with
  | nil => rfl
  | cons x l ih =>
    unfold findL at ih ⊢
    simp only [idxF] at h
    cases hp : nameP nm x with
    | true => simp [hp] at h
    | false =>
      simp only [hp, Bool.false_eq_true, if_false] at h
      rw [List.find?_cons_of_neg (by simp [hp])]
      apply ih
      by_cases h2 : idxF (nameP nm) l < 0
      · exact h2
      · simp [h2] at h; omega
theorem findL_some {nm : ByteArray} : ∀ {all : List Nm} {x : Nm}, ¬ idxF (nameP nm) all < 0 → all[(idxF (nameP nm) all).toNat]? = some x → findL all nm = some (normL (piecesL x.2.data.toList))
  | [], x, h, hx => by simp at hx
  | y :: l, x, h, hx => by
    unfold findL
    simp only [idxF] at h hx
    cases hp : nameP nm y with
    | true => simp [hp] at hx; subst hx; rw [List.find?_cons_of_pos (by simp [hp])]; rfl
    | false =>
      simp only [hp, Bool.false_eq_true, if_false] at h hx
      rw [List.find?_cons_of_neg (by simp [hp])]
      by_cases h2 : idxF (nameP nm) l < 0
      · simp [h2] at h
      · simp only [h2, if_false] at hx
        have e : (idxF (nameP nm) l + 1).toNat = (idxF (nameP nm) l).toNat + 1 := by omega
        rw [e, List.getElem?_cons_succ] at hx
        have := findL_some (all := l) h2 hx
        unfold findL at this
        exact this
theorem Rd_str {w : World} {g : Nat} {l : List ByteArray} {T : TypeId} {fr : Nat × Nat} (h : w.heap[g]? = some (.cells (l.map Value.string).toArray T fr)) : Rd w 1 encS (some ⟨g, 0, none⟩) l := by
  intro i x hx
  refine ⟨_, rfl, fun j u hu => ?_⟩
  rw [addr_add_add]
  refine blk_cells h _ _ ?_
  have hj : j = 0 := by
    have := (List.getElem?_eq_some_iff.1 hu).1
    simp [encS] at this
    exact this
  subst hj
  simp [encS] at hu
  rw [← hu, Nat.mul_one, Nat.add_zero, List.getElem?_map, hx]
  rfl
def listOf (o : Option (List R)) : List R := o.getD []
def codeOf (o : Option (List R)) : Int := if o.isSome then 0 else 70
def turnedL (all : List Nm) (name : ByteArray) : Option (List R) :=
  match findL all ⟨(Lib.trimPrefix name.data.toList [94]).toArray⟩ with
  | none => none
  | some l => some (if Lib.hasPrefix name.data.toList [94] then notL l else l)
theorem turned_none {all : List Nm} {name own : ByteArray} (ho : own.data.toList = Lib.trimPrefix name.data.toList [94]) (h : ¬ codeOf (findL all own) = 0) : turnedL all name = none ∧ findL all own = none := by
  have e : own = ⟨(Lib.trimPrefix name.data.toList [94]).toArray⟩ := bytes_ext (by rw [ho])
  rw [e] at h ⊢
  unfold codeOf at h
  unfold turnedL
  cases hf : findL all ⟨(Lib.trimPrefix name.data.toList [94]).toArray⟩ with
  | none => exact ⟨rfl, rfl⟩
  | some l => rw [hf] at h; simp at h
theorem turned_some {all : List Nm} {name own : ByteArray} {b : Bool} (ho : own.data.toList = Lib.trimPrefix name.data.toList [94]) (hb : b = Lib.hasPrefix name.data.toList [94]) (h : codeOf (findL all own) = 0) : turnedL all name = some (if b then notL (listOf (findL all own)) else listOf (findL all own)) := by
  have e : own = ⟨(Lib.trimPrefix name.data.toList [94]).toArray⟩ := bytes_ext (by rw [ho])
  rw [e] at h ⊢
  unfold codeOf at h
  unfold turnedL
  cases hf : findL all ⟨(Lib.trimPrefix name.data.toList [94]).toArray⟩ with
  | none => rw [hf] at h; simp at h
  | some l => rw [hb]; rfl
theorem codeOf_cases (o : Option (List R)) : codeOf o = 0 ∨ codeOf o = 70 := by unfold codeOf; split <;> simp
theorem turned_same {all : List Nm} {name own : ByteArray} {b : Bool} (ho : own.data.toList = Lib.trimPrefix name.data.toList [94]) (hb : b = Lib.hasPrefix name.data.toList [94]) (h : ¬ codeOf (findL all own) = 0 ∨ b = false) : listOf (turnedL all name) = listOf (findL all own) ∧ codeOf (turnedL all name) = codeOf (findL all own) := by
  rcases codeOf_cases (findL all own) with h0 | h0
  · rcases h with h | h
    · exact absurd h0 h
    · rw [turned_some ho hb h0, h]
      cases hf : findL all own with
      | none => rw [hf] at h0; simp [codeOf] at h0
      | some l => simp [listOf, codeOf]
  · obtain ⟨e1, e2⟩ := turned_none (all := all) ho (by omega)
    rw [e1, e2]
    exact ⟨rfl, rfl⟩
theorem findL_len {all : List Nm} (htx : ∀ x, x ∈ all → textOk x.2.data.toList = true) (nm : ByteArray) : (listOf (findL all nm)).length ≤ 1000000000000 := by
  unfold findL listOf
  cases hf : all.find? (nameP nm) with
  | none => simp
  | some x =>
    have hm := List.mem_of_find?_eq_some hf
    have h2 := htx x hm
    simp only [textOk, Bool.and_eq_true, decide_eq_true_eq] at h2
    have h1 := words_length_le x.2
    have h3 := Lib.size_eq x.2
    have h4 := normL_length (piecesL x.2.data.toList)
    rw [piecesL_length] at h4
    simp only [Option.map_some, Option.getD_some]
    omega
end Go.Rng

/- Sets of numbers as lists of ranges: the one right list of a set, and what makes it. Plain Lean. -/
namespace Go.Rng
abbrev R := Int × Int
def MaxR : Int := 1114111
def inR (r : Int) (l : List R) : Prop := ∃ x, x ∈ l ∧ x.1 ≤ r ∧ r ≤ x.2
theorem inR_nil (r : Int) : ¬ inR r [] := fun ⟨x, h, _⟩ => by simp at h
theorem inR_cons (r : Int) (x : R) (l : List R) : inR r (x :: l) ↔ (x.1 ≤ r ∧ r ≤ x.2) ∨ inR r l := by
  constructor
  · rintro ⟨y, hy, h⟩
    rcases List.mem_cons.1 hy with rfl | hy
    · exact .inl h
    · exact .inr ⟨y, hy, h⟩
  · rintro (h | ⟨y, hy, h⟩)
    · exact ⟨x, by simp, h⟩
    · exact ⟨y, by simp [hy], h⟩
theorem inR_append (r : Int) (a b : List R) : inR r (a ++ b) ↔ inR r a ∨ inR r b := by
  constructor
  · rintro ⟨y, hy, h⟩
    rcases List.mem_append.1 hy with hy | hy
    · exact .inl ⟨y, hy, h⟩
    · exact .inr ⟨y, hy, h⟩
  · rintro (⟨y, hy, h⟩ | ⟨y, hy, h⟩)
    · exact ⟨y, by simp [hy], h⟩
    · exact ⟨y, by simp [hy], h⟩
theorem inR_perm {a b : List R} (h : a.Perm b) (r : Int) : inR r a ↔ inR r b :=
  ⟨fun ⟨x, hx, hr⟩ => ⟨x, h.mem_iff.1 hx, hr⟩, fun ⟨x, hx, hr⟩ => ⟨x, h.mem_iff.2 hx, hr⟩⟩

/-- A range that lies where it may. -/
def Ok (x : R) : Prop := 0 ≤ x.1 ∧ x.1 ≤ x.2 ∧ x.2 ≤ MaxR
/-- The right list: rising, with gaps. -/
def Canon : List R → Prop
  | [] => True
  | x :: r => Ok x ∧ (∀ y, y ∈ r → x.2 + 1 < y.1) ∧ Canon r

theorem Canon.ok : ∀ {l : List R}, Canon l → ∀ x, x ∈ l → Ok x
  | [], _, x, h => by simp at h
  | y :: r, ⟨h1, _, h3⟩, x, h => by
    rcases List.mem_cons.1 h with rfl | h
    · exact h1
    · exact Canon.ok h3 x h

theorem Canon.uniq : ∀ (a b : List R), Canon a → Canon b → (∀ r, inR r a ↔ inR r b) → a = b
  | [], [], _, _, _ => rfl
  | [], y :: s, _, hb, h => absurd ((h y.1).2 ⟨y, by simp, Int.le_refl _, hb.1.2.1⟩) (inR_nil _)
  | x :: r, [], ha, _, h => absurd ((h x.1).1 ⟨x, by simp, Int.le_refl _, ha.1.2.1⟩) (inR_nil _)
  | x :: r, y :: s, ha, hb, h => by
    obtain ⟨hx, hxr, hr⟩ := ha
    obtain ⟨hy, hys, hs⟩ := hb
    have lowa : ∀ q, inR q (x :: r) → x.1 ≤ q := by
      rintro q ⟨z, hz, h1, h2⟩
      rcases List.mem_cons.1 hz with rfl | hz
      · exact h1
      · have := hxr z hz; have := hx.2.1; omega
    have lowb : ∀ q, inR q (y :: s) → y.1 ≤ q := by
      rintro q ⟨z, hz, h1, h2⟩
      rcases List.mem_cons.1 hz with rfl | hz
      · exact h1
      · have := hys z hz; have := hy.2.1; omega
    have e1 : x.1 = y.1 := by
      have h1 := lowb x.1 ((h x.1).1 ⟨x, by simp, Int.le_refl _, hx.2.1⟩)
      have h2 := lowa y.1 ((h y.1).2 ⟨y, by simp, Int.le_refl _, hy.2.1⟩)
      omega
    have hx2 := hx.2.1
    have hy2 := hy.2.1
    have e2 : x.2 = y.2 := by
      rcases Int.lt_trichotomy x.2 y.2 with hlt | heq | hgt
      · have : inR (x.2 + 1) (x :: r) := (h _).2 ⟨y, by simp, by omega, by omega⟩
        rcases (inR_cons _ _ _).1 this with h1 | ⟨z, hz, h1, h2⟩
        · omega
        · have := hxr z hz; omega
      · exact heq
      · have : inR (y.2 + 1) (y :: s) := (h _).1 ⟨x, by simp, by omega, by omega⟩
        rcases (inR_cons _ _ _).1 this with h1 | ⟨z, hz, h1, h2⟩
        · omega
        · have := hys z hz; omega
    have exy : x = y := Prod.ext e1 e2
    subst exy
    have htl : ∀ q, inR q r ↔ inR q s := by
      intro q
      constructor
      · rintro ⟨z, hz, h1, h2⟩
        have := hxr z hz
        rcases (inR_cons _ _ _).1 ((h q).1 ⟨z, by simp [hz], h1, h2⟩) with h3 | h3
        · omega
        · exact h3
      · rintro ⟨z, hz, h1, h2⟩
        have := hys z hz
        rcases (inR_cons _ _ _).1 ((h q).2 ⟨z, by simp [hz], h1, h2⟩) with h3 | h3
        · omega
        · exact h3
    rw [Canon.uniq r s hr hs htl]

theorem canon_snoc : ∀ (a : List R) (y : R), Canon (a ++ [y]) ↔ Canon a ∧ Ok y ∧ ∀ z, z ∈ a → z.2 + 1 < y.1
  | [], y => by simp [Canon]
  | x :: r, y => by
    have ih := canon_snoc r y
    simp only [List.cons_append, Canon, List.mem_append, List.mem_cons, List.not_mem_nil, or_false, ih]
    constructor
    · rintro ⟨h1, h2, h3, h4, h5⟩
      refine ⟨⟨h1, fun z hz => h2 z (.inl hz), h3⟩, h4, ?_⟩
      rintro z (rfl | hz)
      · exact h2 y (.inr rfl)
      · exact h5 z hz
    · rintro ⟨⟨h1, h2, h3⟩, h4, h5⟩
      refine ⟨h1, ?_, h3, h4, fun z hz => h5 z (.inr hz)⟩
      rintro z (hz | rfl)
      · exact h2 z hz
      · exact h5 x (.inl rfl)

/-! ### Norm -/
def clampR (x : R) : R := (if 0 > x.1 then 0 else x.1, if MaxR < x.2 then MaxR else x.2)
def keepR (l : List R) : List R := (l.map clampR).filter fun x => decide (x.1 ≤ x.2)
theorem keepR_snoc (l : List R) (x : R) : keepR (l ++ [x]) = keepR l ++ if (clampR x).1 ≤ (clampR x).2 then [clampR x] else [] := by
  simp only [keepR, List.map_append, List.map_cons, List.map_nil, List.filter_append]
  congr 1
  by_cases h : (clampR x).1 ≤ (clampR x).2 <;> simp [h]
theorem clampR_in (x : R) (r : Int) : ((clampR x).1 ≤ r ∧ r ≤ (clampR x).2) ↔ (0 ≤ r ∧ r ≤ MaxR) ∧ x.1 ≤ r ∧ r ≤ x.2 := by
  unfold clampR
  dsimp only
  split <;> split <;> omega
theorem keepR_ok (l : List R) : ∀ x, x ∈ keepR l → Ok x := by
  intro x hx
  simp only [keepR, List.mem_filter, List.mem_map, decide_eq_true_eq] at hx
  obtain ⟨⟨y, _, rfl⟩, h⟩ := hx
  refine ⟨?_, h, ?_⟩ <;> (unfold clampR MaxR; dsimp only; split <;> omega)
theorem keepR_in (l : List R) (r : Int) : inR r (keepR l) ↔ (0 ≤ r ∧ r ≤ MaxR) ∧ inR r l := by
  constructor
  · rintro ⟨x, hx, h⟩
    simp only [keepR, List.mem_filter, List.mem_map, decide_eq_true_eq] at hx
    obtain ⟨⟨y, hy, rfl⟩, _⟩ := hx
    have := (clampR_in y r).1 h
    exact ⟨this.1, y, hy, this.2⟩
  · rintro ⟨h0, x, hx, h⟩
    have := (clampR_in x r).2 ⟨h0, h⟩
    refine ⟨clampR x, ?_, this⟩
    simp only [keepR, List.mem_filter, List.mem_map, decide_eq_true_eq]
    exact ⟨⟨x, hx, rfl⟩, by omega⟩

/-- One range more behind a list: joined to the last one, if they meet. -/
def mergeS (out : List R) (x : R) : List R :=
  match out.getLast? with
  | none => [x]
  | some y => if x.1 ≤ y.2 + 1 then out.set (out.length - 1) (y.1, if x.2 > y.2 then x.2 else y.2) else out ++ [x]
def mergeL (d : List R) : List R := d.foldl mergeS []

theorem set_last {α : Type} (a : List α) (y z : α) : (a ++ [y]).set ((a ++ [y]).length - 1) z = a ++ [z] := by
  simp

theorem mergeS_nil (x : R) : mergeS [] x = [x] := rfl
theorem mergeS_snoc (a : List R) (y x : R) : mergeS (a ++ [y]) x = if x.1 ≤ y.2 + 1 then a ++ [(y.1, if x.2 > y.2 then x.2 else y.2)] else a ++ [y] ++ [x] := by
  unfold mergeS
  simp only [List.getLast?_append, List.getLast?_singleton, Option.some_or]
  rw [set_last]

def Sorted (d : List R) : Prop := d.Pairwise fun x y => x.1 ≤ y.1

theorem mergeL_step {out p : List R} {x : R} (hc : Canon out) (hin : ∀ r, inR r out ↔ inR r p) (hlow : ∀ z, z ∈ out → z.1 ≤ x.1) (hx : Ok x) :
    Canon (mergeS out x) ∧ (∀ r, inR r (mergeS out x) ↔ inR r (p ++ [x])) ∧ ∀ z, z ∈ mergeS out x → z.1 ≤ x.1 := by
  have hxx := hx.2.1
  rcases List.eq_nil_or_concat out with rfl | ⟨a, y, rfl⟩
  · rw [mergeS_nil]
    refine ⟨⟨hx, by simp, trivial⟩, ?_, by simp⟩
    intro r
    rw [inR_append, ← hin r]
    simp [inR_nil]
  · rw [List.concat_eq_append] at hc hin hlow ⊢
    rw [mergeS_snoc]
    obtain ⟨h1, h2, h3⟩ := (canon_snoc a y).1 hc
    have hyx : y.1 ≤ x.1 := hlow y (by simp)
    have hyy := h2.2.1
    by_cases h : x.1 ≤ y.2 + 1
    · rw [if_pos h]
      refine ⟨(canon_snoc _ _).2 ⟨h1, ⟨h2.1, ?_, ?_⟩, h3⟩, ?_, ?_⟩
      · dsimp only; split <;> omega
      · dsimp only; have := hx.2.2; have := h2.2.2; split <;> omega
      · intro r
        rw [inR_append, inR_append, ← hin r, inR_append]
        simp only [inR_cons, inR_nil, or_false]
        constructor
        · rintro (h5 | ⟨h5, h6⟩)
          · exact .inl (.inl h5)
          · by_cases h7 : r ≤ y.2
            · exact .inl (.inr ⟨h5, h7⟩)
            · refine .inr ⟨by omega, ?_⟩
              split at h6 <;> omega
        · rintro ((h5 | ⟨h5, h6⟩) | ⟨h5, h6⟩)
          · exact .inl h5
          · exact .inr ⟨h5, by split <;> omega⟩
          · exact .inr ⟨by omega, by split <;> omega⟩
      · intro z hz
        rcases List.mem_append.1 hz with hz | hz
        · exact hlow z (by simp [hz])
        · simp only [List.mem_singleton] at hz; subst hz; exact hyx
    · rw [if_neg h]
      refine ⟨(canon_snoc _ _).2 ⟨hc, hx, ?_⟩, ?_, ?_⟩
      · intro z hz
        rcases List.mem_append.1 hz with hz | hz
        · have := h3 z hz; omega
        · simp only [List.mem_singleton] at hz; subst hz; omega
      · intro r
        rw [inR_append _ (a ++ [y]), inR_append _ p, hin r]
      · intro z hz
        rcases List.mem_append.1 hz with hz | hz
        · exact hlow z hz
        · simp only [List.mem_singleton] at hz; subst hz; exact Int.le_refl _

theorem mergeL_spec_go : ∀ (d out p : List R), Canon out → (∀ r, inR r out ↔ inR r p) → (∀ z, z ∈ out → ∀ x, x ∈ d → z.1 ≤ x.1) → Sorted d → (∀ x, x ∈ d → Ok x) →
    Canon (d.foldl mergeS out) ∧ ∀ r, inR r (d.foldl mergeS out) ↔ inR r (p ++ d)
  | [], out, p, hc, hin, _, _, _ => ⟨hc, fun r => by simpa using hin r⟩
  | x :: d, out, p, hc, hin, hlow, hs, hok => by
    obtain ⟨h1, h2, h3⟩ := mergeL_step hc hin (fun z hz => hlow z hz x (by simp)) (hok x (by simp))
    have hs' := List.pairwise_cons.1 hs
    have := mergeL_spec_go d (mergeS out x) (p ++ [x]) h1 h2 (fun z hz y hy => Int.le_trans (h3 z hz) (hs'.1 y hy)) hs'.2 (fun y hy => hok y (by simp [hy]))
    simpa using this
theorem mergeL_spec (d : List R) (hs : Sorted d) (hok : ∀ x, x ∈ d → Ok x) : Canon (mergeL d) ∧ ∀ r, inR r (mergeL d) ↔ inR r d := by
  have := mergeL_spec_go d [] [] trivial (fun r => Iff.rfl) (by simp) hs hok
  simpa [mergeL] using this

/-- The right list of a set. -/
def normL (l : List R) : List R := mergeL ((keepR l).mergeSort fun x y => decide (x.1 ≤ y.1))
theorem normL_spec (l : List R) : Canon (normL l) ∧ ∀ r, inR r (normL l) ↔ (0 ≤ r ∧ r ≤ MaxR) ∧ inR r l := by
  have hp := List.mergeSort_perm (keepR l) fun x y => decide (x.1 ≤ y.1)
  have hs : Sorted ((keepR l).mergeSort fun x y => decide (x.1 ≤ y.1)) := by
    have := List.pairwise_mergeSort (le := fun x y : R => decide (x.1 ≤ y.1)) (fun a b c h1 h2 => by simp at *; omega) (fun a b => by simp; omega) (keepR l)
    exact this.imp fun h => by simpa using h
  obtain ⟨h1, h2⟩ := mergeL_spec _ hs (fun x hx => keepR_ok l x (hp.mem_iff.1 hx))
  exact ⟨h1, fun r => by unfold normL; rw [h2, inR_perm hp, keepR_in]⟩
theorem normL_of_perm {l d : List R} (hp : d.Perm (keepR l)) (hs : Sorted d) : mergeL d = normL l := by
  obtain ⟨h1, h2⟩ := mergeL_spec d hs (fun x hx => keepR_ok l x (hp.mem_iff.1 hx))
  obtain ⟨h3, h4⟩ := normL_spec l
  exact Canon.uniq _ _ h1 h3 fun r => by rw [h2, h4, inR_perm hp, keepR_in]
theorem normL_eq {l m : List R} (hm : Canon m) (h : ∀ r, inR r m ↔ (0 ≤ r ∧ r ≤ MaxR) ∧ inR r l) : normL l = m :=
  Canon.uniq _ _ (normL_spec l).1 hm fun r => by rw [(normL_spec l).2, h]
theorem mergeS_length (out : List R) (x : R) : (mergeS out x).length ≤ out.length + 1 := by
  unfold mergeS
  split
  · simp
  · split <;> simp
theorem mergeL_length_go : ∀ (d out : List R), (d.foldl mergeS out).length ≤ out.length + d.length
  | [], out => by simp
  | x :: d, out => by
    have := mergeL_length_go d (mergeS out x)
    have := mergeS_length out x
    simp only [List.foldl_cons, List.length_cons]; omega
theorem keepR_length (l : List R) : (keepR l).length ≤ l.length := by
  unfold keepR
  exact Nat.le_trans (List.length_filter_le _ _) (by simp)
theorem normL_length (l : List R) : (normL l).length ≤ l.length := by
  unfold normL mergeL
  have h1 := mergeL_length_go ((keepR l).mergeSort fun x y => decide (x.1 ≤ y.1)) []
  have h2 := keepR_length l
  rw [List.length_mergeSort] at h1
  simp at h1
  omega
theorem take_snoc {α : Type} {l : List α} {j : Nat} {x : α} (hx : l[j]? = some x) : l.take (j + 1) = l.take j ++ [x] := by
  rw [List.take_add_one, hx]; rfl
theorem keepR_take {l : List R} {j : Nat} {x : R} (hx : l[j]? = some x) : keepR (l.take (j + 1)) = keepR (l.take j) ++ (if (clampR x).1 ≤ (clampR x).2 then [clampR x] else []) := by
  rw [take_snoc hx, keepR_snoc]
theorem keepR_yes {l d : List R} {j : Nat} {x y : R} (hd : d = keepR (l.take j)) (hx : l[j]? = some x) (hy : y = clampR x) (h : y.1 ≤ y.2) : d ++ [y] = keepR (l.take (j + 1)) := by
  subst hy; rw [keepR_take hx, if_pos h, hd]
theorem keepR_no {l d : List R} {j : Nat} {x y : R} (hd : d = keepR (l.take j)) (hx : l[j]? = some x) (hy : y = clampR x) (h : ¬ y.1 ≤ y.2) : d = keepR (l.take (j + 1)) := by
  subst hy; rw [keepR_take hx, if_neg h, hd, List.append_nil]
theorem mergeL_take {d out : List R} {i : Nat} {x : R} (ho : out = mergeL (d.take i)) (hx : d[i]? = some x) : mergeS out x = mergeL (d.take (i + 1)) := by
  rw [take_snoc hx, ho]; simp [mergeL]
theorem last_of {α : Type} {out : List α} {y : α} (h : out[((out.length : Int) - 1).toNat]? = some y) : ∃ a, out = a ++ [y] := by
  have e : ((out.length : Int) - 1).toNat = out.length - 1 := by omega
  rw [e] at h
  rcases List.eq_nil_or_concat out with rfl | ⟨a, z, rfl⟩
  · simp at h
  · simp at h; subst h; exact ⟨a, by simp⟩
theorem mergeS_join {out : List R} {x y : R} (h : out[((out.length : Int) - 1).toNat]? = some y) (hc : x.1 ≤ y.2 + 1) : out.set ((out.length : Int) - 1).toNat (y.1, if x.2 > y.2 then x.2 else y.2) = mergeS out x := by
  obtain ⟨a, rfl⟩ := last_of h
  have e : (((a ++ [y]).length : Int) - 1).toNat = (a ++ [y]).length - 1 := by omega
  rw [e, set_last, mergeS_snoc, if_pos hc]
theorem mergeS_first {out : List R} {x : R} (h : ¬ ((out.length : Int) > 0)) : out ++ [x] = mergeS out x := by
  have : out = [] := List.eq_nil_of_length_eq_zero (by omega)
  subst this; rfl
theorem mergeS_more {out : List R} {x y : R} (h : out[((out.length : Int) - 1).toNat]? = some y) (hc : ¬ x.1 ≤ y.2 + 1) : out ++ [x] = mergeS out x := by
  obtain ⟨a, rfl⟩ := last_of h
  rw [mergeS_snoc, if_neg hc]
theorem mergeL_bd {d out : List R} {i : Nat} (ho : out = mergeL (d.take i)) (hs : Sorted d) (hok : ∀ x, x ∈ d → Ok x) {q : Nat} {y : R} (hy : out[q]? = some y) : 0 ≤ y.1 ∧ y.1 ≤ y.2 ∧ y.2 ≤ 1114111 := by
  have hc := (mergeL_spec (d.take i) (List.Pairwise.sublist (List.take_sublist _ _) hs) (fun x hx => hok x (List.mem_of_mem_take hx))).1
  rw [← ho] at hc
  exact hc.ok y (List.mem_of_getElem? hy)
theorem ok_at {d : List R} (hok : ∀ x, x ∈ d → Ok x) {q : Nat} {y : R} (hy : d[q]? = some y) : 0 ≤ y.1 ∧ y.1 ≤ y.2 ∧ y.2 ≤ 1114111 := hok y (List.mem_of_getElem? hy)
end Go.Rng

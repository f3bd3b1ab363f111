/- Walks of functions. -/
import Derived.Test.YtpjibonpnghodaaDoorT5
import Derived.Test.YtpjibonpnghodaaDoorT12
set_option linter.unusedVariables false
set_option linter.unusedSimpArgs false
namespace Go.Proofs
open Go.RowKit Go.KW Go.Rng
set_option maxRecDepth 10000 in
theorem Tryd.cutPrefixH (s : ByteArray) (w : World) : Calls Tryd.prog 35 #[.string s, .string ⟨#[94]⟩] w (RetB w fun v w' => ∃ (own : ByteArray) (lk : Bool), v = .tuple #[.string own, .bool lk] ∧ own.data.toList = Lib.trimPrefix s.data.toList [94] ∧ lk = Lib.hasPrefix s.data.toList [94]) := by
  refine (Tryd.strings_CutPrefix s ⟨#[94]⟩ w).mono ?_
  rintro e w' ⟨rfl, rfl⟩
  exact ⟨_, rfl, Below.refl _ _, _, _, rfl, rfl, rfl⟩
theorem lettersOk : ∀ x, x ∈ lettersT → textOk x.2.data.toList = true := List.all_eq_true.1 (show (lettersT.all fun x => textOk x.2.data.toList) = true by decide +kernel)
theorem colonsOk : ∀ x, x ∈ colonsT → textOk x.2.data.toList = true := List.all_eq_true.1 (show (colonsT.all fun x => textOk x.2.data.toList) = true by decide +kernel)
theorem propsOk : ∀ x, x ∈ propsT → textOk x.2.data.toList = true := List.all_eq_true.1 (show (propsT.all fun x => textOk x.2.data.toList) = true by decide +kernel)

set_option maxRecDepth 10000 in
theorem Tryd.turned_any (A : Option Addr) (c : Nat) (all : List Nm) (name : ByteArray) (mx : Int) (w : World) (hl : Rd w 2 encN A all) (hn : all.length ≤ 1000) (hM : w.cell? ⟨0, 0, none⟩ = some (.int .i64 mx)) (htx : ∀ x, x ∈ all → textOk x.2.data.toList = true) :
    Calls Tryd.prog 23 #[.slice A all.length c, .string name] w (RetB w fun v w' => ∃ A c, v = .tuple #[.slice A (listOf (turnedL all name)).length c, .int .i64 (codeOf (turnedL all name))] ∧ Row w' [] w.heap.size 34 2 encR A c (listOf (turnedL all name))) := by
  refine enter [(0, .v (.slice A all.length c)), (1, .v (.string name))] Tryd.func23 rfl ⟨30, rfl, rfl, rfl⟩ ?_
  intro a hR
  refine seqS fun K1 hK1 => ?_
  refine At.start ?_
  refine segP (i := 0) 2 [0, 1, 4, 5] (l' := [(0, .v (.slice A all.length c)), (1, .v (.string name)), (4, .v (.slice none 0 0)), (5, .v (.int .i64 0))]) (H' := []) hR (by kernel_rfl) (by kernel_rfl) ?_
  clear hR
  intro a hR
  refine At.stop (by kernel_rfl) ?_
  refine hK1 _ _ ?_
  refine seqS fun K2 hK2 => ?_
  refine At.start ?_
  refine segP (i := 0) 1 [0, 4, 5, 11] (l' := [(0, .v (.slice A all.length c)), (4, .v (.slice none 0 0)), (5, .v (.int .i64 0)), (11, .v (.string name))]) (H' := []) hR (by kernel_rfl) (by kernel_rfl) ?_
  clear hR
  intro a hR
  refine callB (i := 1) 35 #[.string name, .string (⟨#[94]⟩)] hR rfl (by kernel_rfl) (by kernel_rfl) (by kernel_rfl) (Nat.le_refl _) (Tryd.cutPrefixH name _) ?_
  clear hR
  rintro v_ a w1 ⟨own, lk, rfl, how, hlk⟩ hb2 hR
  refine segP (i := 2) 5 [0, 4, 5, 6, 7] (l' := [(0, .v (.slice A all.length c)), (4, .v (.slice none 0 0)), (5, .v (.int .i64 0)), (6, .v (.string own)), (7, .v (.bool lk))]) (H' := []) hR (by kernel_rfl) (by kernel_rfl) ?_
  clear hR
  intro a hR
  refine At.stop (by kernel_rfl) ?_
  refine hK2 _ _ ?_
  refine seqS fun K3 hK3 => ?_
  refine At.start ?_
  refine segP (i := 0) 2 [4, 5, 7, 16, 17] (l' := [(4, .v (.slice none 0 0)), (5, .v (.int .i64 0)), (7, .v (.bool lk)), (16, .v (.slice A all.length c)), (17, .v (.string own))]) (H' := []) hR (by kernel_rfl) (by kernel_rfl) ?_
  clear hR
  intro a hR
  have hcdhrow11 := codeOf_cases (findL all own)
  have hlt7 := hR.vars.lt
  have hsz8 := hR.below.size
  refine callB (i := 2) 25 #[.slice A all.length c, .string own] hR rfl (by kernel_rfl) (by kernel_rfl) (by kernel_rfl) (hR.below.size) (Tryd.find_any A c all own mx _ (hl.below hR.below) (by omega) (cell_below hR.below hM (cell_lt hM)) htx) ?_
  clear hR
  rintro v_ a w5 ⟨A9, c10, rfl, hrow11⟩ hb6 hR
  replace hrow11 := (Row.of_own hrow11.own hlt7).mono hsz8
  refine segP (i := 3) 5 [4, 5, 7, 8, 9] (l' := [(4, .v (.slice none 0 0)), (5, .v (.int .i64 0)), (7, .v (.bool lk)), (8, .v (.slice A9 ((listOf (findL all own)).length) c10)), (9, .v (.int .i64 (codeOf (findL all own))))]) (H' := []) hR (by kernel_rfl) (by kernel_rfl) ?_
  clear hR
  intro a hR
  refine At.stop (by kernel_rfl) ?_
  refine hK3 _ _ ?_
  refine seqS fun K4 hK4 => ?_
  refine seqS fun K5 hK5 => ?_
  refine At.start ?_
  refine segP (i := 0) 3 [4, 5, 7, 8, 9, 23] (l' := [(4, .v (.slice none 0 0)), (5, .v (.int .i64 0)), (7, .v (.bool lk)), (8, .v (.slice A9 ((listOf (findL all own)).length) c10)), (9, .v (.int .i64 (codeOf (findL all own)))), (23, .v (.bool ((codeOf (findL all own)) == 0)))]) (H' := []) hR (by kernel_rfl) (by kernel_rfl) ?_
  clear hR
  intro a hR
  cases c12 : ((codeOf (findL all own)) == 0)
  case false =>
    rw [c12] at hR
    have c12 := (beq_eq_false_iff_ne.1 c12)
    refine segP (i := 3) 2 [4, 5, 8, 9, 25] (l' := [(4, .v (.slice none 0 0)), (5, .v (.int .i64 0)), (8, .v (.slice A9 ((listOf (findL all own)).length) c10)), (9, .v (.int .i64 (codeOf (findL all own)))), (25, .v (.bool false))]) (H' := []) hR (by kernel_rfl) (by kernel_rfl) ?_
    clear hR
    intro a hR
    refine At.stop (by kernel_rfl) ?_
    refine hK5 _ _ ?_
    refine wp_cond_false (hR.fr.eval (by kernel_rfl : evS _ _ = some (.v (.bool false)))) ?_
    refine wp_skip ?_
    refine hK4 _ _ ?_
    refine seqS fun K6 hK6 => ?_
    refine At.start ?_
    refine segP (i := 0) 4 [4, 5] (l' := [(4, .v (.slice A9 ((listOf (findL all own)).length) c10)), (5, .v (.int .i64 (codeOf (findL all own))))]) (H' := []) hR (by kernel_rfl) (by kernel_rfl) ?_
    clear hR
    intro a hR
    refine At.stop (by kernel_rfl) ?_
    refine hK6 _ _ ?_
    refine wp_ret ?_
    have e : listOf (turnedL all name) = listOf (findL all own) ∧ codeOf (turnedL all name) = codeOf (findL all own) := turned_same how hlk (by first | (left; assumption) | (right; assumption))
    exact ret2 (.v (.slice A9 ((listOf (findL all own)).length) c10)) (.v (.int .i64 (codeOf (findL all own)))) hR rfl (by kernel_rfl) (by kernel_rfl) ⟨_, rfl, hR.below, ⟨_, _, by rw [e.1, e.2]; rfl, by rw [e.1]; exact hrow11⟩⟩
  case true =>
    rw [c12] at hR
    have c12 := (beq_iff_eq.1 c12)
    refine segP (i := 3) 2 [4, 5, 8, 9, 25] (l' := [(4, .v (.slice none 0 0)), (5, .v (.int .i64 0)), (8, .v (.slice A9 ((listOf (findL all own)).length) c10)), (9, .v (.int .i64 (codeOf (findL all own)))), (25, .v (.bool lk))]) (H' := []) hR (by kernel_rfl) (by kernel_rfl) ?_
    clear hR
    intro a hR
    refine At.stop (by kernel_rfl) ?_
    refine hK5 _ _ ?_
    refine condS (lk) hR (by kernel_rfl) (fun c13 => ?_) (fun c13 => ?_)
    ·
      refine At.start ?_
      refine segP (i := 0) 1 [4, 5, 8, 9, 26] (l' := [(4, .v (.slice none 0 0)), (5, .v (.int .i64 0)), (8, .v (.slice A9 ((listOf (findL all own)).length) c10)), (9, .v (.int .i64 (codeOf (findL all own)))), (26, .v (.slice A9 ((listOf (findL all own)).length) c10))]) (H' := []) hR (by kernel_rfl) (by kernel_rfl) ?_
      clear hR
      intro a hR
      have hlt16 := hR.vars.lt
      have hsz17 := hR.below.size
      refine callB (i := 1) 36 #[.slice A9 ((listOf (findL all own)).length) c10] hR rfl (by kernel_rfl) (by kernel_rfl) (by kernel_rfl) (hR.below.size) (Tryd.not_any A9 c10 (listOf (findL all own)) _ (hrow11.rd encR_len) (findL_len htx _)) ?_
      clear hR
      rintro v_ a w14 ⟨A18, c19, rfl, hrow20⟩ hb15 hR
      have hdis21 := Dis.newer hrow11 hrow20
      replace hrow11 := hrow11.below hb15
      replace hrow20 := (Row.of_own hrow20.own hlt16).mono hsz17
      refine segP (i := 2) 1 [4, 5, 8, 9] (l' := [(4, .v (.slice none 0 0)), (5, .v (.int .i64 0)), (8, .v (.slice A18 ((notL (listOf (findL all own))).length) c19)), (9, .v (.int .i64 (codeOf (findL all own))))]) (H' := []) hR (by kernel_rfl) (by kernel_rfl) ?_
      clear hR
      intro a hR
      refine At.stop (by kernel_rfl) ?_
      refine hK4 _ _ ?_
      refine seqS fun K7 hK7 => ?_
      refine At.start ?_
      refine segP (i := 0) 4 [4, 5] (l' := [(4, .v (.slice A18 ((notL (listOf (findL all own))).length) c19)), (5, .v (.int .i64 (codeOf (findL all own))))]) (H' := []) hR (by kernel_rfl) (by kernel_rfl) ?_
      clear hR
      intro a hR
      refine At.stop (by kernel_rfl) ?_
      refine hK7 _ _ ?_
      refine wp_ret ?_
      have e : turnedL all name = some ((notL (listOf (findL all own)))) := by
        have hlt : lk = true := (by assumption)
        rw [turned_some how hlk (by assumption), hlt]; rfl
      have e2 : codeOf (findL all own) = 0 := by assumption
      exact ret2 (.v (.slice A18 ((notL (listOf (findL all own))).length) c19)) (.v (.int .i64 (codeOf (findL all own)))) hR rfl (by kernel_rfl) (by kernel_rfl) ⟨_, rfl, hR.below, ⟨_, _, by rw [e, e2]; rfl, by rw [e]; exact hrow20⟩⟩
    ·
      refine wp_skip ?_
      refine hK4 _ _ ?_
      refine seqS fun K8 hK8 => ?_
      refine At.start ?_
      refine segP (i := 0) 4 [4, 5] (l' := [(4, .v (.slice A9 ((listOf (findL all own)).length) c10)), (5, .v (.int .i64 (codeOf (findL all own))))]) (H' := []) hR (by kernel_rfl) (by kernel_rfl) ?_
      clear hR
      intro a hR
      refine At.stop (by kernel_rfl) ?_
      refine hK8 _ _ ?_
      refine wp_ret ?_
      have e : listOf (turnedL all name) = listOf (findL all own) ∧ codeOf (turnedL all name) = codeOf (findL all own) := turned_same how hlk (by first | (left; assumption) | (right; assumption))
      exact ret2 (.v (.slice A9 ((listOf (findL all own)).length) c10)) (.v (.int .i64 (codeOf (findL all own)))) hR rfl (by kernel_rfl) (by kernel_rfl) ⟨_, rfl, hR.below, ⟨_, _, by rw [e.1, e.2]; rfl, by rw [e.1]; exact hrow11⟩⟩

set_option maxRecDepth 10000 in
theorem Tryd.colon_any (name : ByteArray) (mx : Int) (w : World) (hM : w.cell? ⟨0, 0, none⟩ = some (.int .i64 mx)) :
    Calls Tryd.prog 9 #[.string name] w (RetB w fun v w' => ∃ A c, v = .tuple #[.slice A (listOf (turnedL colonsT name)).length c, .int .i64 (codeOf (turnedL colonsT name))] ∧ Row w' [] w.heap.size 34 2 encR A c (listOf (turnedL colonsT name))) := by
  refine enter [(0, .v (.string name))] Tryd.func9 rfl ⟨9, rfl, rfl, rfl⟩ ?_
  intro a hR
  refine seqS fun K1 hK1 => ?_
  refine At.start ?_
  refine segP (i := 0) 2 [0, 2, 3] (l' := [(0, .v (.string name)), (2, .v (.slice none 0 0)), (3, .v (.int .i64 0))]) (H' := []) hR (by kernel_rfl) (by kernel_rfl) ?_
  clear hR
  intro a hR
  refine At.stop (by kernel_rfl) ?_
  refine hK1 _ _ ?_
  refine seqS fun K2 hK2 => ?_
  refine At.start ?_
  have hlt3 := hR.vars.lt
  have hsz4 := Nat.le_refl w.heap.size
  refine callB (i := 0) 24 #[] hR rfl (by kernel_rfl) (by kernel_rfl) (by kernel_rfl) (Nat.le_refl _) (Tryd.colons_any _) ?_
  clear hR
  rintro v_ a w1 ⟨A5, c6, rfl, hrow7⟩ hb2 hR
  replace hrow7 := (Row.of_own hrow7.own hlt3).mono hsz4
  refine segP (i := 1) 1 [2, 3, 4, 5] (l' := [(2, .v (.slice none 0 0)), (3, .v (.int .i64 0)), (4, .v (.slice A5 colonsT.length c6)), (5, .v (.string name))]) (H' := []) hR (by kernel_rfl) (by kernel_rfl) ?_
  clear hR
  intro a hR
  have hcdhrow14 := codeOf_cases (turnedL colonsT name)
  have hlt10 := hR.vars.lt
  have hsz11 := hR.below.size
  refine callB (i := 2) 23 #[.slice A5 colonsT.length c6, .string name] hR rfl (by kernel_rfl) (by kernel_rfl) (by kernel_rfl) (hR.below.size) (Tryd.turned_any A5 c6 colonsT name mx _ (hrow7.rd encN_len) (by decide) (cell_below hR.below hM (cell_lt hM)) colonsOk) ?_
  clear hR
  rintro v_ a w8 ⟨A12, c13, rfl, hrow14⟩ hb9 hR
  have hdis15 := Dis.newer hrow7 hrow14
  replace hrow7 := hrow7.below hb9
  replace hrow14 := (Row.of_own hrow14.own hlt10).mono hsz11
  refine segP (i := 3) 4 [2, 3] (l' := [(2, .v (.slice A12 ((listOf (turnedL colonsT name)).length) c13)), (3, .v (.int .i64 (codeOf (turnedL colonsT name))))]) (H' := []) hR (by kernel_rfl) (by kernel_rfl) ?_
  clear hR
  intro a hR
  refine At.stop (by kernel_rfl) ?_
  refine hK2 _ _ ?_
  refine wp_ret ?_
  exact ret2 (.v (.slice A12 ((listOf (turnedL colonsT name)).length) c13)) (.v (.int .i64 (codeOf (turnedL colonsT name)))) hR rfl (by kernel_rfl) (by kernel_rfl) ⟨_, rfl, hR.below, ⟨_, _, rfl, hrow14⟩⟩

set_option maxRecDepth 10000 in
theorem Tryd.property_any (name : ByteArray) (mx : Int) (w : World) (hM : w.cell? ⟨0, 0, none⟩ = some (.int .i64 mx)) :
    Calls Tryd.prog 20 #[.string name] w (RetB w fun v w' => ∃ A c, v = .tuple #[.slice A (listOf (turnedL propsT name)).length c, .int .i64 (codeOf (turnedL propsT name))] ∧ Row w' [] w.heap.size 34 2 encR A c (listOf (turnedL propsT name))) := by
  refine enter [(0, .v (.string name))] Tryd.func20 rfl ⟨9, rfl, rfl, rfl⟩ ?_
  intro a hR
  refine seqS fun K1 hK1 => ?_
  refine At.start ?_
  refine segP (i := 0) 2 [0, 2, 3] (l' := [(0, .v (.string name)), (2, .v (.slice none 0 0)), (3, .v (.int .i64 0))]) (H' := []) hR (by kernel_rfl) (by kernel_rfl) ?_
  clear hR
  intro a hR
  refine At.stop (by kernel_rfl) ?_
  refine hK1 _ _ ?_
  refine seqS fun K2 hK2 => ?_
  refine At.start ?_
  have hlt3 := hR.vars.lt
  have hsz4 := Nat.le_refl w.heap.size
  refine callB (i := 0) 27 #[] hR rfl (by kernel_rfl) (by kernel_rfl) (by kernel_rfl) (Nat.le_refl _) (Tryd.properties_any _) ?_
  clear hR
  rintro v_ a w1 ⟨A5, c6, rfl, hrow7⟩ hb2 hR
  replace hrow7 := (Row.of_own hrow7.own hlt3).mono hsz4
  refine segP (i := 1) 1 [2, 3, 4, 5] (l' := [(2, .v (.slice none 0 0)), (3, .v (.int .i64 0)), (4, .v (.slice A5 propsT.length c6)), (5, .v (.string name))]) (H' := []) hR (by kernel_rfl) (by kernel_rfl) ?_
  clear hR
  intro a hR
  have hcdhrow14 := codeOf_cases (turnedL propsT name)
  have hlt10 := hR.vars.lt
  have hsz11 := hR.below.size
  refine callB (i := 2) 23 #[.slice A5 propsT.length c6, .string name] hR rfl (by kernel_rfl) (by kernel_rfl) (by kernel_rfl) (hR.below.size) (Tryd.turned_any A5 c6 propsT name mx _ (hrow7.rd encN_len) (by decide) (cell_below hR.below hM (cell_lt hM)) propsOk) ?_
  clear hR
  rintro v_ a w8 ⟨A12, c13, rfl, hrow14⟩ hb9 hR
  have hdis15 := Dis.newer hrow7 hrow14
  replace hrow7 := hrow7.below hb9
  replace hrow14 := (Row.of_own hrow14.own hlt10).mono hsz11
  refine segP (i := 3) 4 [2, 3] (l' := [(2, .v (.slice A12 ((listOf (turnedL propsT name)).length) c13)), (3, .v (.int .i64 (codeOf (turnedL propsT name))))]) (H' := []) hR (by kernel_rfl) (by kernel_rfl) ?_
  clear hR
  intro a hR
  refine At.stop (by kernel_rfl) ?_
  refine hK2 _ _ ?_
  refine wp_ret ?_
  exact ret2 (.v (.slice A12 ((listOf (turnedL propsT name)).length) c13)) (.v (.int .i64 (codeOf (turnedL propsT name)))) hR rfl (by kernel_rfl) (by kernel_rfl) ⟨_, rfl, hR.below, ⟨_, _, rfl, hrow14⟩⟩

end Go.Proofs

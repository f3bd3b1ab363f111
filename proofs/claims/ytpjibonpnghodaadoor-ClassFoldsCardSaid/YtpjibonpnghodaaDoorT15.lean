/- Walks of functions. -/
import Derived.Test.YtpjibonpnghodaaDoorT14
import Derived.Test.YtpjibonpnghodaaDoorT6
import Derived.Test.YtpjibonpnghodaaDoorT9
import Derived.Test.YtpjibonpnghodaaDoorEval
set_option linter.unusedVariables false
set_option linter.unusedSimpArgs false
namespace Go.Proofs
open Go.RowKit Go.KW Go.Rng
set_option maxRecDepth 10000 in
def setL (name : ByteArray) : List (Int × Int) := match turnedL colonsT name with | some l => l | none => listOf (turnedL propsT name)
theorem setL_some {name : ByteArray} (h : codeOf (turnedL colonsT name) = 0) : setL name = listOf (turnedL colonsT name) := by
  unfold setL; cases hf : turnedL colonsT name with
  | none => rw [hf] at h; simp [codeOf] at h
  | some l => rfl
theorem setL_none {name : ByteArray} (h : ¬ codeOf (turnedL colonsT name) = 0) : setL name = listOf (turnedL propsT name) := by
  unfold setL; cases hf : turnedL colonsT name with
  | none => rfl
  | some l => rw [hf] at h; simp [codeOf] at h
def foldsT : List (Int × Int) := [(65, 90), (97, 122), (383, 383), (8490, 8490)]
theorem setUpper : setL ⟨#[117, 112, 112, 101, 114]⟩ = [(65, 90)] := by unfold setL; rw [turnedL_E, show turnedE colonsT ⟨#[117, 112, 112, 101, 114]⟩ = some [(65, 90)] from by decide +kernel]
theorem setLower : setL ⟨#[108, 111, 119, 101, 114]⟩ = [(97, 122)] := by unfold setL; rw [turnedL_E, show turnedE colonsT ⟨#[108, 111, 119, 101, 114]⟩ = some [(97, 122)] from by decide +kernel]
theorem setAlpha : setL ⟨#[97, 108, 112, 104, 97]⟩ = [(65, 90), (97, 122)] := by unfold setL; rw [turnedL_E, show turnedE colonsT ⟨#[97, 108, 112, 104, 97]⟩ = some [(65, 90), (97, 122)] from by decide +kernel]
theorem closeUpper : closeL [(65, 90)] = foldsT := by rw [closeL_E]; decide +kernel
theorem closeLower : closeL [(97, 122)] = foldsT := by rw [closeL_E]; decide +kernel
theorem foldsFact (r : Int) : hasF foldsT r = true ↔ (hasF [(65, 90), (97, 122)] r = true ∨ (r = 8490 ∨ r = 383)) := by
  simp only [hasF, hasP, foldsT, List.any_cons, List.any_nil, Bool.and_eq_true, Bool.or_eq_true, decide_eq_true_eq, Bool.or_false, beq_iff_eq]
  omega
theorem Tryd.colonNotDigit (mx : Int) (w : World) (hM : w.cell? ⟨0, 0, none⟩ = some (.int .i64 mx)) : Calls Tryd.prog 9 #[.string ⟨#[94, 100, 105, 103, 105, 116]⟩] w (RetB w fun v w' => ∃ A c, v = .tuple #[.slice A (([(0, 47), (58, 1114111)] : List (Int × Int))).length c, .int .i64 0] ∧ Row w' [] w.heap.size 34 2 encR A c ([(0, 47), (58, 1114111)] : List (Int × Int))) := by
  have h := Tryd.colon_any ⟨#[94, 100, 105, 103, 105, 116]⟩ mx w hM
  rw [show turnedL colonsT ⟨#[94, 100, 105, 103, 105, 116]⟩ = some ([(0, 47), (58, 1114111)] : List (Int × Int)) from by rw [turnedL_E]; decide +kernel] at h
  exact h
theorem Tryd.letterX (mx : Int) (w : World) (hM : w.cell? ⟨0, 0, none⟩ = some (.int .i64 mx)) : Calls Tryd.prog 10 #[.int .u8 120] w (RetB w fun v w' => ∃ A c, v = .tuple #[.slice A (([] : List (Int × Int))).length c, .int .i64 70] ∧ Row w' [] w.heap.size 34 2 encR A c ([] : List (Int × Int))) := by
  have h := Tryd.letter_any 120 mx w (by omega) (by omega) hM
  rw [show letterL 120 = none from by rw [letter_low (by omega), findL_E]; decide +kernel] at h
  exact h

set_option maxRecDepth 10000 in
theorem Tryd.set_any (name : ByteArray) (mx : Int) (w : World) (hM : w.cell? ⟨0, 0, none⟩ = some (.int .i64 mx)) :
    Calls Tryd.prog 6 #[.string name] w (RetB w fun v w' => ∃ A c, v = .slice A (setL name).length c ∧ Row w' [] w.heap.size 34 2 encR A c (setL name)) := by
  refine enter [(0, .v (.string name))] Tryd.func6 rfl ⟨18, rfl, rfl, rfl⟩ ?_
  intro a hR
  refine seqS fun K1 hK1 => ?_
  refine At.start ?_
  refine segP (i := 0) 1 [0, 2] (l' := [(0, .v (.string name)), (2, .v (.slice none 0 0))]) (H' := []) hR (by kernel_rfl) (by kernel_rfl) ?_
  clear hR
  intro a hR
  refine At.stop (by kernel_rfl) ?_
  refine hK1 _ _ ?_
  refine seqS fun K2 hK2 => ?_
  refine At.start ?_
  refine segP (i := 0) 1 [0, 2, 6] (l' := [(0, .v (.string name)), (2, .v (.slice none 0 0)), (6, .v (.string name))]) (H' := []) hR (by kernel_rfl) (by kernel_rfl) ?_
  clear hR
  intro a hR
  have hcdhrow7 := codeOf_cases (turnedL colonsT name)
  have hlt3 := hR.vars.lt
  have hsz4 := Nat.le_refl w.heap.size
  refine callB (i := 1) 9 #[.string name] hR rfl (by kernel_rfl) (by kernel_rfl) (by kernel_rfl) (Nat.le_refl _) (Tryd.colon_any name mx _ hM) ?_
  clear hR
  rintro v_ a w1 ⟨A5, c6, rfl, hrow7⟩ hb2 hR
  replace hrow7 := (Row.of_own hrow7.own hlt3).mono hsz4
  refine segP (i := 2) 5 [0, 2, 3, 4] (l' := [(0, .v (.string name)), (2, .v (.slice none 0 0)), (3, .v (.slice A5 ((listOf (turnedL colonsT name)).length) c6)), (4, .v (.int .i64 (codeOf (turnedL colonsT name))))]) (H' := []) hR (by kernel_rfl) (by kernel_rfl) ?_
  clear hR
  intro a hR
  refine At.stop (by kernel_rfl) ?_
  refine hK2 _ _ ?_
  refine seqS fun K3 hK3 => ?_
  refine seqS fun K4 hK4 => ?_
  refine At.start ?_
  refine segP (i := 0) 2 [0, 2, 3, 11] (l' := [(0, .v (.string name)), (2, .v (.slice none 0 0)), (3, .v (.slice A5 ((listOf (turnedL colonsT name)).length) c6)), (11, .v (.bool ((codeOf (turnedL colonsT name)) != 0)))]) (H' := []) hR (by kernel_rfl) (by kernel_rfl) ?_
  clear hR
  intro a hR
  refine At.stop (by kernel_rfl) ?_
  refine hK4 _ _ ?_
  refine condS ((codeOf (turnedL colonsT name)) != 0) hR (by kernel_rfl) (fun c8 => ?_) (fun c8 => ?_)
  ·
    have c8 := (bne_iff_ne.1 c8)
    refine At.start ?_
    refine segP (i := 0) 1 [2, 3, 13] (l' := [(2, .v (.slice none 0 0)), (3, .v (.slice A5 ((listOf (turnedL colonsT name)).length) c6)), (13, .v (.string name))]) (H' := []) hR (by kernel_rfl) (by kernel_rfl) ?_
    clear hR
    intro a hR
    have hcdhrow15 := codeOf_cases (turnedL propsT name)
    have hlt11 := hR.vars.lt
    have hsz12 := hR.below.size
    refine callB (i := 1) 20 #[.string name] hR rfl (by kernel_rfl) (by kernel_rfl) (by kernel_rfl) (hR.below.size) (Tryd.property_any name mx _ (cell_below hR.below hM (cell_lt hM))) ?_
    clear hR
    rintro v_ a w9 ⟨A13, c14, rfl, hrow15⟩ hb10 hR
    have hdis16 := Dis.newer hrow7 hrow15
    replace hrow7 := hrow7.below hb10
    replace hrow15 := (Row.of_own hrow15.own hlt11).mono hsz12
    refine segP (i := 2) 4 [2, 3] (l' := [(2, .v (.slice none 0 0)), (3, .v (.slice A13 ((listOf (turnedL propsT name)).length) c14))]) (H' := []) hR (by kernel_rfl) (by kernel_rfl) ?_
    clear hR
    intro a hR
    refine At.stop (by kernel_rfl) ?_
    refine hK3 _ _ ?_
    refine seqS fun K5 hK5 => ?_
    refine At.start ?_
    refine segP (i := 0) 2 [2] (l' := [(2, .v (.slice A13 ((listOf (turnedL propsT name)).length) c14))]) (H' := []) hR (by kernel_rfl) (by kernel_rfl) ?_
    clear hR
    intro a hR
    refine At.stop (by kernel_rfl) ?_
    refine hK5 _ _ ?_
    refine wp_ret ?_
    have e : setL name = (listOf (turnedL propsT name)) := setL_none (by assumption)
    exact ret1 (.v (.slice A13 ((listOf (turnedL propsT name)).length) c14)) hR rfl (by kernel_rfl) ⟨_, rfl, hR.below, ⟨_, _, by rw [e]; rfl, by rw [e]; exact hrow15⟩⟩
  ·
    have c8 := (bne_eq_false_iff_eq.1 c8)
    refine wp_skip ?_
    refine hK3 _ _ ?_
    refine seqS fun K6 hK6 => ?_
    refine At.start ?_
    refine segP (i := 0) 2 [2] (l' := [(2, .v (.slice A5 ((listOf (turnedL colonsT name)).length) c6))]) (H' := []) hR (by kernel_rfl) (by kernel_rfl) ?_
    clear hR
    intro a hR
    refine At.stop (by kernel_rfl) ?_
    refine hK6 _ _ ?_
    refine wp_ret ?_
    have e : setL name = (listOf (turnedL colonsT name)) := setL_some (by assumption)
    exact ret1 (.v (.slice A5 ((listOf (turnedL colonsT name)).length) c6)) hR rfl (by kernel_rfl) ⟨_, rfl, hR.below, ⟨_, _, by rw [e]; rfl, by rw [e]; exact hrow7⟩⟩

set_option maxRecDepth 10000 in
theorem Tryd.works_any (mx : Int) (w : World) (hM : w.cell? ⟨0, 0, none⟩ = some (.int .i64 mx)) :
    Calls Tryd.prog 4 #[] w (RetB w fun v w' => v = .bool true) := by
  refine enter [] Tryd.func4 rfl ⟨31, rfl, rfl, rfl⟩ ?_
  intro a hR
  refine seqS fun K1 hK1 => ?_
  refine At.start ?_
  refine segP (i := 0) 1 [0] (l' := [(0, .v (.bool false))]) (H' := []) hR (by kernel_rfl) (by kernel_rfl) ?_
  clear hR
  intro a hR
  refine At.stop (by kernel_rfl) ?_
  refine hK1 _ _ ?_
  refine seqS fun K2 hK2 => ?_
  refine At.start ?_
  have hlt3 := hR.vars.lt
  have hsz4 := Nat.le_refl w.heap.size
  refine callB (i := 0) 9 #[.string (⟨#[94, 100, 105, 103, 105, 116]⟩)] hR rfl (by kernel_rfl) (by kernel_rfl) (by kernel_rfl) (Nat.le_refl _) (Tryd.colonNotDigit mx _ hM) ?_
  clear hR
  rintro v_ a w1 ⟨A5, c6, rfl, hrow7⟩ hb2 hR
  replace hrow7 := (Row.of_own hrow7.own hlt3).mono hsz4
  refine segP (i := 1) 5 [0, 1, 2] (l' := [(0, .v (.bool false)), (1, .v (.slice A5 (([(0, 47), (58, 1114111)] : List (Int × Int)).length) c6)), (2, .v (.int .i64 0))]) (H' := []) hR (by kernel_rfl) (by kernel_rfl) ?_
  clear hR
  intro a hR
  refine At.stop (by kernel_rfl) ?_
  refine hK2 _ _ ?_
  refine seqS fun K3 hK3 => ?_
  refine At.start ?_
  have hlt10 := hR.vars.lt
  have hsz11 := hR.below.size
  refine callB (i := 0) 10 #[.int .u8 120] hR rfl (by kernel_rfl) (by kernel_rfl) (by kernel_rfl) (hR.below.size) (Tryd.letterX mx _ (cell_below hR.below hM (cell_lt hM))) ?_
  clear hR
  rintro v_ a w8 ⟨A12, c13, rfl, hrow14⟩ hb9 hR
  have hdis15 := Dis.newer hrow7 hrow14
  replace hrow7 := hrow7.below hb9
  replace hrow14 := (Row.of_own hrow14.own hlt10).mono hsz11
  refine segP (i := 1) 5 [0, 1, 2, 4] (l' := [(0, .v (.bool false)), (1, .v (.slice A5 (([(0, 47), (58, 1114111)] : List (Int × Int)).length) c6)), (2, .v (.int .i64 0)), (4, .v (.int .i64 70))]) (H' := []) hR (by kernel_rfl) (by kernel_rfl) ?_
  clear hR
  intro a hR
  refine At.stop (by kernel_rfl) ?_
  refine hK3 _ _ ?_
  refine seqS fun K4 hK4 => ?_
  refine At.start ?_
  refine segP (i := 0) 6 [0, 4, 15, 16, 17, 18] (l' := [(0, .v (.bool false)), (4, .v (.int .i64 70)), (15, .v (.bool true)), (16, .v (.slice A5 (([(0, 47), (58, 1114111)] : List (Int × Int)).length) c6)), (17, .v (.agg #[.int .i64 0, .int .i64 47])), (18, .v (.agg #[.int .i64 58, .int .i64 1114111]))]) (H' := []) hR (by kernel_rfl) (by kernel_rfl) ?_
  clear hR
  intro a hR
  have hltb16 := hR.vars.lt
  have hszb16 := hR.below.size
  refine buildS (i := 6) 34 2 (.agg #[.int .i64 0, .int .i64 0]) [.int .i64 0, .int .i64 47, .int .i64 58, .int .i64 1114111] hR rfl (by kernel_rfl) (by kernel_rfl) (by kernel_rfl) (by kernel_rfl) (by kernel_rfl) (by kernel_rfl) (by kernel_rfl) (hR.below.size) ?_
  clear hR
  intro b16 a w17 hb16 hgb16 hkb16 hR
  have hdisb16hrow7 := Dis.fresh hrow7 hb16
  have hdisb16hrow14 := Dis.fresh hrow14 hb16
  replace hrow7 := hrow7.below hgb16
  replace hrow14 := hrow14.below hgb16
  have hrowb16 := Row.lit (β := []) (lo := w.heap.size) (m := 2) [(0, 47), (58, 1114111)] hkb16 (by omega) (fun hm => by have := hltb16 _ hm; omega) encR_len rfl (show 2 ≤ maxLen by decide) rfl
  refine callB (i := 7) 7 #[.slice A5 (([(0, 47), (58, 1114111)] : List (Int × Int)).length) c6, .slice (some ⟨b16, 0, none⟩) 2 2] hR rfl (by kernel_rfl) (by kernel_rfl) (by kernel_rfl) (hR.below.size) (Tryd.sameRanges A5 c6 ([(0, 47), (58, 1114111)]) (some ⟨b16, 0, none⟩) 2 ([(0, 47), (58, 1114111)]) _ (hrow7.rd encR_len) (hrowb16.rd encR_len) (by decide)) ?_
  clear hR
  rintro v_ a w18 rfl hb19 hR
  rw [show decide (([(0, 47), (58, 1114111)] : List (Int × Int)) = [(0, 47), (58, 1114111)]) = true from by decide] at hR
  replace hrow7 := hrow7.below hb19
  replace hrow14 := hrow14.below hb19
  replace hrowb16 := hrowb16.below hb19
  refine segP (i := 8) 6 [0, 26] (l' := [(0, .v (.bool false)), (26, .v (.bool true))]) (H' := []) hR (by kernel_rfl) (by kernel_rfl) ?_
  clear hR
  intro a hR
  have hlt22 := hR.vars.lt
  have hsz23 := hR.below.size
  refine callB (i := 14) 11 #[] hR rfl (by kernel_rfl) (by kernel_rfl) (by kernel_rfl) (hR.below.size) (Tryd.names_any _) ?_
  clear hR
  rintro v_ a w20 ⟨AN, cN, rfl, hrowN⟩ hb21 hR
  have hdis24 := Dis.newer hrow7 hrowN
  have hdis25 := Dis.newer hrow14 hrowN
  have hdis26 := Dis.newer hrowb16 hrowN
  replace hrow7 := hrow7.below hb21
  replace hrow14 := hrow14.below hb21
  replace hrowb16 := hrowb16.below hb21
  replace hrowN := (Row.of_own hrowN.own hlt22).mono hsz23
  refine segP (i := 15) 4 [0] (l' := [(0, .v (.bool true))]) (H' := []) hR (by kernel_rfl) (by kernel_rfl) ?_
  clear hR
  intro a hR
  refine At.stop (by kernel_rfl) ?_
  refine hK4 _ _ ?_
  refine wp_ret ?_
  exact ret1 (.v (.bool true)) hR rfl (by kernel_rfl) ⟨_, rfl, hR.below, rfl⟩

set_option maxRecDepth 10000 in
theorem Tryd.classFolds_any (r : Int) (mx : Int) (w : World) (hM : w.cell? ⟨0, 0, none⟩ = some (.int .i64 mx)) :
    Calls Tryd.prog 3 #[.int .i64 r] w (RetB w fun v w' => v = .bool true) := by
  refine enter [(0, .v (.int .i64 r))] Tryd.func3 rfl ⟨31, rfl, rfl, rfl⟩ ?_
  intro a hR
  refine seqS fun K1 hK1 => ?_
  refine At.start ?_
  refine segP (i := 0) 1 [0, 2] (l' := [(0, .v (.int .i64 r)), (2, .v (.bool false))]) (H' := []) hR (by kernel_rfl) (by kernel_rfl) ?_
  clear hR
  intro a hR
  refine At.stop (by kernel_rfl) ?_
  refine hK1 _ _ ?_
  refine seqS fun K2 hK2 => ?_
  refine seqS fun K3 hK3 => ?_
  refine At.start ?_
  refine callB (i := 0) 4 #[] hR rfl (by kernel_rfl) (by kernel_rfl) (by kernel_rfl) (Nat.le_refl _) (Tryd.works_any mx _ hM) ?_
  clear hR
  rintro v_ a w1 rfl hb2 hR
  refine segP (i := 1) 1 [0, 2, 6] (l' := [(0, .v (.int .i64 r)), (2, .v (.bool false)), (6, .v (.bool false))]) (H' := []) hR (by kernel_rfl) (by kernel_rfl) ?_
  clear hR
  intro a hR
  refine At.stop (by kernel_rfl) ?_
  refine hK3 _ _ ?_
  refine wp_cond_false (hR.fr.eval (by kernel_rfl : evS _ _ = some (.v (.bool false)))) ?_
  refine wp_skip ?_
  refine hK2 _ _ ?_
  refine seqS fun K4 hK4 => ?_
  refine At.start ?_
  have hlt5 := hR.vars.lt
  have hsz6 := hR.below.size
  refine callB (i := 0) 6 #[.string (⟨#[117, 112, 112, 101, 114]⟩)] hR rfl (by kernel_rfl) (by kernel_rfl) (by kernel_rfl) (hR.below.size) ((by have h := Tryd.set_any ⟨#[117, 112, 112, 101, 114]⟩ mx _ (cell_below hR.below hM (cell_lt hM)); rw [setUpper] at h; exact h)) ?_
  clear hR
  rintro v_ a w3 ⟨A7, c8, rfl, hrow9⟩ hb4 hR
  replace hrow9 := (Row.of_own hrow9.own hlt5).mono hsz6
  have hlt12 := hR.vars.lt
  have hsz13 := hR.below.size
  refine callB (i := 1) 5 #[.slice A7 (([(65, 90)] : List (Int × Int)).length) c8] hR rfl (by kernel_rfl) (by kernel_rfl) (by kernel_rfl) (hR.below.size) ((by have h := Tryd.close_any A7 c8 [(65, 90)] _ (hrow9.rd encR_len) (by decide); rw [closeUpper] at h; exact h)) ?_
  clear hR
  rintro v_ a w10 ⟨A14, c15, rfl, hrow16⟩ hb11 hR
  have hdis17 := Dis.newer hrow9 hrow16
  replace hrow9 := hrow9.below hb11
  replace hrow16 := (Row.of_own hrow16.own hlt12).mono hsz13
  have hlt20 := hR.vars.lt
  have hsz21 := hR.below.size
  refine callB (i := 2) 6 #[.string (⟨#[108, 111, 119, 101, 114]⟩)] hR rfl (by kernel_rfl) (by kernel_rfl) (by kernel_rfl) (hR.below.size) ((by have h := Tryd.set_any ⟨#[108, 111, 119, 101, 114]⟩ mx _ (cell_below hR.below hM (cell_lt hM)); rw [setLower] at h; exact h)) ?_
  clear hR
  rintro v_ a w18 ⟨A22, c23, rfl, hrow24⟩ hb19 hR
  have hdis25 := Dis.newer hrow9 hrow24
  have hdis26 := Dis.newer hrow16 hrow24
  replace hrow9 := hrow9.below hb19
  replace hrow16 := hrow16.below hb19
  replace hrow24 := (Row.of_own hrow24.own hlt20).mono hsz21
  have hlt29 := hR.vars.lt
  have hsz30 := hR.below.size
  refine callB (i := 3) 5 #[.slice A22 (([(97, 122)] : List (Int × Int)).length) c23] hR rfl (by kernel_rfl) (by kernel_rfl) (by kernel_rfl) (hR.below.size) ((by have h := Tryd.close_any A22 c23 [(97, 122)] _ (hrow24.rd encR_len) (by decide); rw [closeLower] at h; exact h)) ?_
  clear hR
  rintro v_ a w27 ⟨A31, c32, rfl, hrow33⟩ hb28 hR
  have hdis34 := Dis.newer hrow9 hrow33
  have hdis35 := Dis.newer hrow16 hrow33
  have hdis36 := Dis.newer hrow24 hrow33
  replace hrow9 := hrow9.below hb28
  replace hrow16 := hrow16.below hb28
  replace hrow24 := hrow24.below hb28
  replace hrow33 := (Row.of_own hrow33.own hlt29).mono hsz30
  refine segP (i := 4) 2 [0, 2, 3, 4] (l' := [(0, .v (.int .i64 r)), (2, .v (.bool false)), (3, .v (.slice A14 ((foldsT : List (Int × Int)).length) c15)), (4, .v (.slice A31 ((foldsT : List (Int × Int)).length) c32))]) (H' := []) hR (by kernel_rfl) (by kernel_rfl) ?_
  clear hR
  intro a hR
  refine At.stop (by kernel_rfl) ?_
  refine hK4 _ _ ?_
  refine seqS fun K5 hK5 => ?_
  refine At.start ?_
  refine segP (i := 0) 2 [0, 2, 3, 11, 12] (l' := [(0, .v (.int .i64 r)), (2, .v (.bool false)), (3, .v (.slice A14 ((foldsT : List (Int × Int)).length) c15)), (11, .v (.slice A14 ((foldsT : List (Int × Int)).length) c15)), (12, .v (.slice A31 ((foldsT : List (Int × Int)).length) c32))]) (H' := []) hR (by kernel_rfl) (by kernel_rfl) ?_
  clear hR
  intro a hR
  refine callB (i := 2) 7 #[.slice A14 ((foldsT : List (Int × Int)).length) c15, .slice A31 ((foldsT : List (Int × Int)).length) c32] hR rfl (by kernel_rfl) (by kernel_rfl) (by kernel_rfl) (hR.below.size) (Tryd.sameRanges A14 c15 foldsT A31 c32 foldsT _ (hrow16.rd encR_len) (hrow33.rd encR_len) (by decide)) ?_
  clear hR
  rintro v_ a w37 rfl hb38 hR
  rw [show decide (foldsT = foldsT) = true from by decide] at hR
  replace hrow9 := hrow9.below hb38
  replace hrow16 := hrow16.below hb38
  replace hrow24 := hrow24.below hb38
  replace hrow33 := hrow33.below hb38
  refine segP (i := 3) 3 [0, 2, 14, 15, 16] (l' := [(0, .v (.int .i64 r)), (2, .v (.bool false)), (14, .v (.bool true)), (15, .v (.slice A14 ((foldsT : List (Int × Int)).length) c15)), (16, .v (.int .i64 r))]) (H' := []) hR (by kernel_rfl) (by kernel_rfl) ?_
  clear hR
  intro a hR
  refine callB (i := 6) 8 #[.slice A14 ((foldsT : List (Int × Int)).length) c15, .int .i64 r] hR rfl (by kernel_rfl) (by kernel_rfl) (by kernel_rfl) (hR.below.size) (Tryd.has_any A14 c15 foldsT r _ (hrow16.rd encR_len) (by decide)) ?_
  clear hR
  rintro v_ a w39 rfl hb40 hR
  replace hrow9 := hrow9.below hb40
  replace hrow16 := hrow16.below hb40
  replace hrow24 := hrow24.below hb40
  replace hrow33 := hrow33.below hb40
  have hlt43 := hR.vars.lt
  have hsz44 := hR.below.size
  refine callB (i := 7) 6 #[.string (⟨#[97, 108, 112, 104, 97]⟩)] hR rfl (by kernel_rfl) (by kernel_rfl) (by kernel_rfl) (hR.below.size) ((by have h := Tryd.set_any ⟨#[97, 108, 112, 104, 97]⟩ mx _ (cell_below hR.below hM (cell_lt hM)); rw [setAlpha] at h; exact h)) ?_
  clear hR
  rintro v_ a w41 ⟨A45, c46, rfl, hrow47⟩ hb42 hR
  have hdis48 := Dis.newer hrow9 hrow47
  have hdis49 := Dis.newer hrow16 hrow47
  have hdis50 := Dis.newer hrow24 hrow47
  have hdis51 := Dis.newer hrow33 hrow47
  replace hrow9 := hrow9.below hb42
  replace hrow16 := hrow16.below hb42
  replace hrow24 := hrow24.below hb42
  replace hrow33 := hrow33.below hb42
  replace hrow47 := (Row.of_own hrow47.own hlt43).mono hsz44
  refine segP (i := 8) 1 [0, 2, 14, 17, 18, 19] (l' := [(0, .v (.int .i64 r)), (2, .v (.bool false)), (14, .v (.bool true)), (17, .v (.bool (hasF foldsT r))), (18, .v (.slice A45 (([(65, 90), (97, 122)] : List (Int × Int)).length) c46)), (19, .v (.int .i64 r))]) (H' := []) hR (by kernel_rfl) (by kernel_rfl) ?_
  clear hR
  intro a hR
  refine callB (i := 9) 8 #[.slice A45 (([(65, 90), (97, 122)] : List (Int × Int)).length) c46, .int .i64 r] hR rfl (by kernel_rfl) (by kernel_rfl) (by kernel_rfl) (hR.below.size) (Tryd.has_any A45 c46 ([(65, 90), (97, 122)]) r _ (hrow47.rd encR_len) (by decide)) ?_
  clear hR
  rintro v_ a w52 rfl hb53 hR
  replace hrow9 := hrow9.below hb53
  replace hrow16 := hrow16.below hb53
  replace hrow24 := hrow24.below hb53
  replace hrow33 := hrow33.below hb53
  replace hrow47 := hrow47.below hb53
  refine segP (i := 10) 1 [0, 2, 14, 17, 21] (l' := [(0, .v (.int .i64 r)), (2, .v (.bool false)), (14, .v (.bool true)), (17, .v (.bool (hasF foldsT r))), (21, .v (.bool (hasF ([(65, 90), (97, 122)]) r)))]) (H' := []) hR (by kernel_rfl) (by kernel_rfl) ?_
  clear hR
  intro a hR
  cases c54 : (hasF ([(65, 90), (97, 122)]) r)
  case false =>
    rw [c54] at hR
    refine segP (i := 11) 4 [0, 2, 14, 17, 25] (l' := [(0, .v (.int .i64 r)), (2, .v (.bool false)), (14, .v (.bool true)), (17, .v (.bool (hasF foldsT r))), (25, .v (.bool (r == 8490)))]) (H' := []) hR (by kernel_rfl) (by kernel_rfl) ?_
    clear hR
    intro a hR
    cases c55 : (r == 8490)
    case false =>
      rw [c55] at hR
      have c55 := (beq_eq_false_iff_ne.1 c55)
      refine segP (i := 15) 3 [2, 14, 17, 28] (l' := [(2, .v (.bool false)), (14, .v (.bool true)), (17, .v (.bool (hasF foldsT r))), (28, .v (.bool (r == 383)))]) (H' := []) hR (by kernel_rfl) (by kernel_rfl) ?_
      clear hR
      intro a hR
      cases c56 : (hasF foldsT r)
      case false =>
        rw [c56] at hR
        cases c57 : (r == 383)
        case false =>
          rw [c57] at hR
          have c57 := (beq_eq_false_iff_ne.1 c57)
          refine segP (i := 18) 3 [2] (l' := [(2, .v (.bool true))]) (H' := []) hR (by kernel_rfl) (by kernel_rfl) ?_
          clear hR
          intro a hR
          refine At.stop (by kernel_rfl) ?_
          refine hK5 _ _ ?_
          refine wp_ret ?_
          exact ret1 (.v (.bool true)) hR rfl (by kernel_rfl) ⟨_, rfl, hR.below, rfl⟩
        case true =>
          rw [c57] at hR
          have c57 := (beq_iff_eq.1 c57)
          refine segP (i := 18) 3 [2] (l' := [(2, .v (.bool false))]) (H' := []) hR (by kernel_rfl) (by kernel_rfl) ?_
          clear hR
          intro a hR
          refine At.stop (by kernel_rfl) ?_
          refine hK5 _ _ ?_
          refine wp_ret ?_
          exact ret1 (.v (.bool false)) hR rfl (by kernel_rfl) ⟨_, rfl, hR.below, by exfalso; have hx := foldsFact r; rw [c54, c56] at hx; simp at hx <;> omega⟩
      case true =>
        rw [c56] at hR
        cases c58 : (r == 383)
        case false =>
          rw [c58] at hR
          have c58 := (beq_eq_false_iff_ne.1 c58)
          refine segP (i := 18) 3 [2] (l' := [(2, .v (.bool false))]) (H' := []) hR (by kernel_rfl) (by kernel_rfl) ?_
          clear hR
          intro a hR
          refine At.stop (by kernel_rfl) ?_
          refine hK5 _ _ ?_
          refine wp_ret ?_
          exact ret1 (.v (.bool false)) hR rfl (by kernel_rfl) ⟨_, rfl, hR.below, by exfalso; have hx := foldsFact r; rw [c54, c56] at hx; simp at hx <;> omega⟩
        case true =>
          rw [c58] at hR
          have c58 := (beq_iff_eq.1 c58)
          refine segP (i := 18) 3 [2] (l' := [(2, .v (.bool true))]) (H' := []) hR (by kernel_rfl) (by kernel_rfl) ?_
          clear hR
          intro a hR
          refine At.stop (by kernel_rfl) ?_
          refine hK5 _ _ ?_
          refine wp_ret ?_
          exact ret1 (.v (.bool true)) hR rfl (by kernel_rfl) ⟨_, rfl, hR.below, rfl⟩
    case true =>
      rw [c55] at hR
      have c55 := (beq_iff_eq.1 c55)
      refine segP (i := 15) 3 [2, 14, 17, 28] (l' := [(2, .v (.bool false)), (14, .v (.bool true)), (17, .v (.bool (hasF foldsT r))), (28, .v (.bool true))]) (H' := []) hR (by kernel_rfl) (by kernel_rfl) ?_
      clear hR
      intro a hR
      cases c59 : (hasF foldsT r)
      case false =>
        rw [c59] at hR
        refine segP (i := 18) 3 [2] (l' := [(2, .v (.bool false))]) (H' := []) hR (by kernel_rfl) (by kernel_rfl) ?_
        clear hR
        intro a hR
        refine At.stop (by kernel_rfl) ?_
        refine hK5 _ _ ?_
        refine wp_ret ?_
        exact ret1 (.v (.bool false)) hR rfl (by kernel_rfl) ⟨_, rfl, hR.below, by exfalso; have hx := foldsFact r; rw [c54, c59] at hx; simp at hx <;> omega⟩
      case true =>
        rw [c59] at hR
        refine segP (i := 18) 3 [2] (l' := [(2, .v (.bool true))]) (H' := []) hR (by kernel_rfl) (by kernel_rfl) ?_
        clear hR
        intro a hR
        refine At.stop (by kernel_rfl) ?_
        refine hK5 _ _ ?_
        refine wp_ret ?_
        exact ret1 (.v (.bool true)) hR rfl (by kernel_rfl) ⟨_, rfl, hR.below, rfl⟩
  case true =>
    rw [c54] at hR
    refine segP (i := 11) 7 [2, 14, 17, 28] (l' := [(2, .v (.bool false)), (14, .v (.bool true)), (17, .v (.bool (hasF foldsT r))), (28, .v (.bool true))]) (H' := []) hR (by kernel_rfl) (by kernel_rfl) ?_
    clear hR
    intro a hR
    cases c60 : (hasF foldsT r)
    case false =>
      rw [c60] at hR
      refine segP (i := 18) 3 [2] (l' := [(2, .v (.bool false))]) (H' := []) hR (by kernel_rfl) (by kernel_rfl) ?_
      clear hR
      intro a hR
      refine At.stop (by kernel_rfl) ?_
      refine hK5 _ _ ?_
      refine wp_ret ?_
      exact ret1 (.v (.bool false)) hR rfl (by kernel_rfl) ⟨_, rfl, hR.below, by exfalso; have hx := foldsFact r; rw [c54, c60] at hx; simp at hx <;> omega⟩
    case true =>
      rw [c60] at hR
      refine segP (i := 18) 3 [2] (l' := [(2, .v (.bool true))]) (H' := []) hR (by kernel_rfl) (by kernel_rfl) ?_
      clear hR
      intro a hR
      refine At.stop (by kernel_rfl) ?_
      refine hK5 _ _ ?_
      refine wp_ret ?_
      exact ret1 (.v (.bool true)) hR rfl (by kernel_rfl) ⟨_, rfl, hR.below, rfl⟩

end Go.Proofs

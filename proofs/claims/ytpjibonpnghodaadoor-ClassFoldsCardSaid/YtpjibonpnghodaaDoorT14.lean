/- Walks of functions. -/
import Derived.Test.YtpjibonpnghodaaDoorT13
set_option linter.unusedVariables false
set_option linter.unusedSimpArgs false
namespace Go.Proofs
open Go.RowKit Go.KW Go.Rng
set_option maxRecDepth 10000 in
def letterL (c : Int) : Option (List (Int × Int)) := if 97 ≤ c ∧ c ≤ 122 then findL lettersT (strOfNums [c]) else if 65 ≤ c ∧ c ≤ 90 then turnedL lettersT ((⟨#[94]⟩ : ByteArray) ++ strOfNums [c - 65 + 97]) else none
theorem letter_low {c : Int} (h : 97 ≤ c ∧ c ≤ 122) : letterL c = findL lettersT (strOfNums [c]) := by unfold letterL; rw [if_pos h]
theorem letter_up {c : Int} (h : 65 ≤ c ∧ c ≤ 90) : letterL c = turnedL lettersT ((⟨#[94]⟩ : ByteArray) ++ strOfNums [c - 65 + 97]) := by unfold letterL; rw [if_neg (by omega), if_pos h]
theorem letter_no {c : Int} (h : ¬ (97 ≤ c ∧ c ≤ 122) ∧ ¬ (65 ≤ c ∧ c ≤ 90)) : letterL c = none := by unfold letterL; rw [if_neg h.1, if_neg h.2]

set_option maxRecDepth 10000 in
theorem Tryd.letter_any (c : Int) (mx : Int) (w : World) (h0 : 0 ≤ c) (h1 : c ≤ 255) (hM : w.cell? ⟨0, 0, none⟩ = some (.int .i64 mx)) :
    Calls Tryd.prog 10 #[.int .u8 c] w (RetB w fun v w' => ∃ A_ c_, v = .tuple #[.slice A_ (listOf (letterL c)).length c_, .int .i64 (codeOf (letterL c))] ∧ Row w' [] w.heap.size 34 2 encR A_ c_ (listOf (letterL c))) := by
  refine enter [(0, .v (.int .u8 c))] Tryd.func10 rfl ⟨35, rfl, rfl, rfl⟩ ?_
  intro a hR
  refine seqS fun K1 hK1 => ?_
  refine At.start ?_
  refine segP (i := 0) 2 [0, 2, 3] (l' := [(0, .v (.int .u8 c)), (2, .v (.slice none 0 0)), (3, .v (.int .i64 0))]) (H' := []) hR (by kernel_rfl) (by kernel_rfl) ?_
  clear hR
  intro a hR
  refine At.stop (by kernel_rfl) ?_
  refine hK1 _ _ ?_
  refine seqS fun K2 hK2 => ?_
  refine wp_block ?_
  refine seqS fun K3 hK3 => ?_
  refine At.start ?_
  refine segP (i := 0) 3 [0, 2, 3, 7] (l' := [(0, .v (.int .u8 c)), (2, .v (.slice none 0 0)), (3, .v (.int .i64 0)), (7, .v (.bool (decide (c ≥ 97))))]) (H' := []) hR (by kernel_rfl) (by kernel_rfl) ?_
  clear hR
  intro a hR
  cases c1 : (decide (c ≥ 97))
  case false =>
    rw [c1] at hR
    have c1 := of_decide_eq_false c1
    refine segP (i := 3) 4 [0, 2, 3, 4] (l' := [(0, .v (.int .u8 c)), (2, .v (.slice none 0 0)), (3, .v (.int .i64 0)), (4, .v (.bool false))]) (H' := []) hR (by kernel_rfl) (by kernel_rfl) ?_
    clear hR
    intro a hR
    refine At.stop (by kernel_rfl) ?_
    refine hK3 _ _ ?_
    refine wp_cond_false (hR.fr.eval (by kernel_rfl : evS _ _ = some (.v (.bool false)))) ?_
    refine seqS fun K4 hK4 => ?_
    refine At.start ?_
    refine segP (i := 0) 3 [0, 2, 3, 21] (l' := [(0, .v (.int .u8 c)), (2, .v (.slice none 0 0)), (3, .v (.int .i64 0)), (21, .v (.bool (decide (c ≥ 65))))]) (H' := []) hR (by kernel_rfl) (by kernel_rfl) ?_
    clear hR
    intro a hR
    cases c2 : (decide (c ≥ 65))
    case false =>
      rw [c2] at hR
      have c2 := of_decide_eq_false c2
      refine segP (i := 3) 4 [0, 2, 3, 18] (l' := [(0, .v (.int .u8 c)), (2, .v (.slice none 0 0)), (3, .v (.int .i64 0)), (18, .v (.bool false))]) (H' := []) hR (by kernel_rfl) (by kernel_rfl) ?_
      clear hR
      intro a hR
      refine At.stop (by kernel_rfl) ?_
      refine hK4 _ _ ?_
      refine wp_cond_false (hR.fr.eval (by kernel_rfl : evS _ _ = some (.v (.bool false)))) ?_
      refine wp_skip ?_
      refine hK2 _ _ ?_
      refine seqS fun K5 hK5 => ?_
      refine At.start ?_
      refine segP (i := 0) 2 [2, 3] (l' := [(2, .v (.slice none 0 0)), (3, .v (.int .i64 70))]) (H' := []) hR (by kernel_rfl) (by kernel_rfl) ?_
      clear hR
      intro a hR
      refine At.stop (by kernel_rfl) ?_
      refine hK5 _ _ ?_
      refine wp_ret ?_
      exact ret2 (.v (.slice none 0 0)) (.v (.int .i64 70)) hR rfl (by kernel_rfl) (by kernel_rfl) ⟨_, rfl, hR.below, by rw [letter_no (by omega)]; exact ⟨none, 0, rfl, Row.nil _ _ _ _ _ _⟩⟩
    case true =>
      rw [c2] at hR
      have c2 := of_decide_eq_true c2
      refine segP (i := 3) 4 [0, 2, 3, 18] (l' := [(0, .v (.int .u8 c)), (2, .v (.slice none 0 0)), (3, .v (.int .i64 0)), (18, .v (.bool (decide (c ≤ 90))))]) (H' := []) hR (by kernel_rfl) (by kernel_rfl) ?_
      clear hR
      intro a hR
      refine At.stop (by kernel_rfl) ?_
      refine hK4 _ _ ?_
      refine condS (decide (c ≤ 90)) hR (by kernel_rfl) (fun c3 => ?_) (fun c3 => ?_)
      ·
        have c3 := of_decide_eq_true c3
        refine seqS fun K6 hK6 => ?_
        refine An.start (m := 12) (ls := #[false, false, false, false, false, false, false, false, false, false, false, false]) hR (by kernel_rfl) rfl (by kernel_rfl) ?_
        clear hR
        intro w4 hh5 hO6 hR
        refine An.take (i := 1) (ls' := #[false, true, false, false, false, false, false, false, false, false, false, false]) (op := (Op.move (Operand.tmp 0))) (.int .u8 c) hR rfl (by kernel_rfl) (by kernel_rfl) (by kernel_rfl) (by kernel_rfl) (by kernel_rfl) (fun _ _ _ h => h) (by kernel_rfl) ?_
        clear hR
        intro a hR
        refine An.take (i := 2) (ls' := #[false, true, true, false, false, false, false, false, false, false, false, false]) (op := (Op.binOp BinOp.sub 5 (Operand.tmp 26) (Operand.const (Value.int IntKind.u8 65)) 5)) (.int .u8 (IntKind.u8.wrap (c - 65))) hR rfl (by kernel_rfl) (by kernel_rfl) (by kernel_rfl) (by kernel_rfl) (by kernel_rfl) (fun _ _ _ h => h) (by kernel_rfl) ?_
        clear hR
        intro a hR
        rw [show IntKind.u8.wrap (c - 65) = (c - 65) from wrap_u8 (by omega) (by omega)] at hR
        refine An.take (i := 3) (ls' := #[false, true, true, true, false, false, false, false, false, false, false, false]) (op := (Op.binOp BinOp.add 5 (Operand.tmp 27) (Operand.const (Value.int IntKind.u8 97)) 5)) (.int .u8 (IntKind.u8.wrap ((c - 65) + 97))) hR rfl (by kernel_rfl) (by kernel_rfl) (by kernel_rfl) (by kernel_rfl) (by kernel_rfl) (fun _ _ _ h => h) (by kernel_rfl) ?_
        clear hR
        intro a hR
        rw [show IntKind.u8.wrap ((c - 65) + 97) = ((c - 65) + 97) from wrap_u8 (by omega) (by omega)] at hR
        refine An.two 0 4 (by kernel_rfl) rfl rfl rfl rfl (l1 := #[true, true, true, true, false, false, false, false, false, false, false, false]) (l2 := #[false, true, true, true, true, false, false, false, false, false, false, false]) (by kernel_rfl) (by kernel_rfl) ?_ ?_
        ·
          have hlt9 := hR.vars.lt
          have hsz10 := hR.below.size
          refine callB (i := 0) 26 #[] hR rfl (by kernel_rfl) (by kernel_rfl) (by kernel_rfl) (hR.below.size) (Tryd.letters_any _) ?_
          clear hR
          rintro v_ a w7 ⟨A11, c12, rfl, hrow13⟩ hb8 hR
          replace hrow13 := (Row.of_own hrow13.own hlt9).mono hsz10
          refine At.stop (by kernel_rfl) ?_
          change An _ _ _ _ _ _ _
          refine An.one 4 (by kernel_rfl) rfl rfl (ls' := #[true, true, true, true, true, false, false, false, false, false, false, false]) (by kernel_rfl) ?_
          refine buildS (i := 0) 5 1 (.int .u8 0) [.int .u8 ((c - 65) + 97)] hR rfl (by kernel_rfl) (by kernel_rfl) (by kernel_rfl) (by kernel_rfl) (by kernel_rfl) (by kernel_rfl) (by kernel_rfl) (hR.below.size) ?_
          clear hR
          intro b14 a w15 hb14 hgb14 hkb14 hR
          replace hrow13 := hrow13.below hgb14
          refine At.stop (by kernel_rfl) ?_
          change An _ _ _ _ _ _ _
          refine An.one 5 (by kernel_rfl) rfl rfl (ls' := #[true, true, true, true, true, true, false, false, false, false, false, false]) (by kernel_rfl) ?_
          refine stepV (i := 0) (op := (Op.convert 54 9 (Operand.tmp 29))) (.string (strOfNums [(c - 65) + 97])) hR rfl (by kernel_rfl) (by kernel_rfl) (run_conv_lit (e := 5) (b := b14) (len := 1) [(c - 65) + 97] (by kernel_rfl) (by kernel_rfl) (by kernel_rfl) (by kernel_rfl) rfl hkb14) ?_
          clear hR
          intro a hR
          refine At.stop (by kernel_rfl) ?_
          change An _ _ _ _ _ _ _
          refine An.one 6 (by kernel_rfl) rfl rfl (ls' := #[true, true, true, true, true, true, true, false, false, false, false, false]) (by kernel_rfl) ?_
          refine stepV (i := 0) (op := (Op.binOp BinOp.add 9 (Operand.const (Value.string { data := #[94] })) (Operand.tmp 30) 9)) (.string ((⟨#[94]⟩ : ByteArray) ++ (strOfNums [(c - 65) + 97]))) hR rfl (by kernel_rfl) (by kernel_rfl) (run_str_add (s := ⟨#[94]⟩) (t := (strOfNums [(c - 65) + 97])) (by kernel_rfl) (by kernel_rfl) (show 1 + 1 ≤ 9223372036854775807 by decide)) ?_
          clear hR
          intro a hR
          refine At.stop (by kernel_rfl) ?_
          change An _ _ _ _ _ _ _
          refine An.one 7 (by kernel_rfl) rfl rfl (ls' := #[true, true, true, true, true, true, true, true, false, false, false, false]) (by kernel_rfl) ?_
          have hcdhrow22 := codeOf_cases (turnedL lettersT ((⟨#[94]⟩ : ByteArray) ++ (strOfNums [(c - 65) + 97])))
          have hlt18 := hR.vars.lt
          have hsz19 := hR.below.size
          refine callB (i := 0) 23 #[.slice A11 lettersT.length c12, .string ((⟨#[94]⟩ : ByteArray) ++ (strOfNums [(c - 65) + 97]))] hR rfl (by kernel_rfl) (by kernel_rfl) (by kernel_rfl) (hR.below.size) (Tryd.turned_any A11 c12 lettersT ((⟨#[94]⟩ : ByteArray) ++ (strOfNums [(c - 65) + 97])) mx _ (hrow13.rd encN_len) (by decide) (cell_below hR.below hM (cell_lt hM)) lettersOk) ?_
          clear hR
          rintro v_ a w16 ⟨A20, c21, rfl, hrow22⟩ hb17 hR
          have hdis23 := Dis.newer hrow13 hrow22
          replace hrow13 := hrow13.below hb17
          replace hkb14 := (hb17.block _ (Array.getElem?_eq_some_iff.1 hkb14).1).trans hkb14
          replace hrow22 := (Row.of_own hrow22.own hlt18).mono hsz19
          refine At.stop (by kernel_rfl) ?_
          change An _ _ _ _ _ _ _
          refine An.take (i := 8) (ls' := #[true, true, true, true, true, true, true, true, true, false, false, false]) (op := (Op.extract (Operand.tmp 32) 0)) (.slice A20 ((listOf (turnedL lettersT ((⟨#[94]⟩ : ByteArray) ++ (strOfNums [(c - 65) + 97])))).length) c21) hR rfl (by kernel_rfl) (by kernel_rfl) (by kernel_rfl) (by kernel_rfl) (by kernel_rfl) (fun _ _ _ h => h) (by kernel_rfl) ?_
          clear hR
          intro a hR
          refine An.take (i := 9) (ls' := #[true, true, true, true, true, true, true, true, true, true, false, false]) (op := (Op.extract (Operand.tmp 32) 1)) (.int .i64 (codeOf (turnedL lettersT ((⟨#[94]⟩ : ByteArray) ++ (strOfNums [(c - 65) + 97]))))) hR rfl (by kernel_rfl) (by kernel_rfl) (by kernel_rfl) (by kernel_rfl) (by kernel_rfl) (fun _ _ _ h => h) (by kernel_rfl) ?_
          clear hR
          intro a hR
          refine An.take (i := 10) (ls' := #[true, true, true, true, true, true, true, true, true, true, true, false]) (op := (Op.assign (Operand.tmp 33))) (.slice A20 ((listOf (turnedL lettersT ((⟨#[94]⟩ : ByteArray) ++ (strOfNums [(c - 65) + 97])))).length) c21) hR rfl (by kernel_rfl) (by kernel_rfl) (by kernel_rfl) (by kernel_rfl) (by kernel_rfl) (fun _ _ _ h => h) (by kernel_rfl) ?_
          clear hR
          intro a hR
          refine An.take (i := 11) (ls' := #[true, true, true, true, true, true, true, true, true, true, true, true]) (op := (Op.assign (Operand.tmp 34))) (.int .i64 (codeOf (turnedL lettersT ((⟨#[94]⟩ : ByteArray) ++ (strOfNums [(c - 65) + 97]))))) hR rfl (by kernel_rfl) (by kernel_rfl) (by kernel_rfl) (by kernel_rfl) (by kernel_rfl) (fun _ _ _ h => h) (by kernel_rfl) ?_
          clear hR
          intro a hR
          refine An.stop (by kernel_rfl) ?_
          refine hK6 _ _ ?_
          refine wp_ret ?_
          exact ret2 (.v (.slice A20 ((listOf (turnedL lettersT ((⟨#[94]⟩ : ByteArray) ++ (strOfNums [(c - 65) + 97])))).length) c21)) (.v (.int .i64 (codeOf (turnedL lettersT ((⟨#[94]⟩ : ByteArray) ++ (strOfNums [(c - 65) + 97])))))) hR rfl (by kernel_rfl) (by kernel_rfl) ⟨_, rfl, hR.below, by rw [letter_up (by omega)]; exact ⟨_, _, rfl, hrow22⟩⟩
        ·
          refine buildS (i := 0) 5 1 (.int .u8 0) [.int .u8 ((c - 65) + 97)] hR rfl (by kernel_rfl) (by kernel_rfl) (by kernel_rfl) (by kernel_rfl) (by kernel_rfl) (by kernel_rfl) (by kernel_rfl) (hR.below.size) ?_
          clear hR
          intro b24 a w25 hb24 hgb24 hkb24 hR
          refine At.stop (by kernel_rfl) ?_
          change An _ _ _ _ _ _ _
          refine An.two 0 5 (by kernel_rfl) rfl rfl rfl rfl (l1 := #[true, true, true, true, true, false, false, false, false, false, false, false]) (l2 := #[false, true, true, true, true, true, false, false, false, false, false, false]) (by kernel_rfl) (by kernel_rfl) ?_ ?_
          ·
            have hlt28 := hR.vars.lt
            have hsz29 := hR.below.size
            refine callB (i := 0) 26 #[] hR rfl (by kernel_rfl) (by kernel_rfl) (by kernel_rfl) (hR.below.size) (Tryd.letters_any _) ?_
            clear hR
            rintro v_ a w26 ⟨A30, c31, rfl, hrow32⟩ hb27 hR
            replace hkb24 := (hb27.block _ (Array.getElem?_eq_some_iff.1 hkb24).1).trans hkb24
            replace hrow32 := (Row.of_own hrow32.own hlt28).mono hsz29
            refine At.stop (by kernel_rfl) ?_
            change An _ _ _ _ _ _ _
            refine An.one 5 (by kernel_rfl) rfl rfl (ls' := #[true, true, true, true, true, true, false, false, false, false, false, false]) (by kernel_rfl) ?_
            refine stepV (i := 0) (op := (Op.convert 54 9 (Operand.tmp 29))) (.string (strOfNums [(c - 65) + 97])) hR rfl (by kernel_rfl) (by kernel_rfl) (run_conv_lit (e := 5) (b := b24) (len := 1) [(c - 65) + 97] (by kernel_rfl) (by kernel_rfl) (by kernel_rfl) (by kernel_rfl) rfl hkb24) ?_
            clear hR
            intro a hR
            refine At.stop (by kernel_rfl) ?_
            change An _ _ _ _ _ _ _
            refine An.one 6 (by kernel_rfl) rfl rfl (ls' := #[true, true, true, true, true, true, true, false, false, false, false, false]) (by kernel_rfl) ?_
            refine stepV (i := 0) (op := (Op.binOp BinOp.add 9 (Operand.const (Value.string { data := #[94] })) (Operand.tmp 30) 9)) (.string ((⟨#[94]⟩ : ByteArray) ++ (strOfNums [(c - 65) + 97]))) hR rfl (by kernel_rfl) (by kernel_rfl) (run_str_add (s := ⟨#[94]⟩) (t := (strOfNums [(c - 65) + 97])) (by kernel_rfl) (by kernel_rfl) (show 1 + 1 ≤ 9223372036854775807 by decide)) ?_
            clear hR
            intro a hR
            refine At.stop (by kernel_rfl) ?_
            change An _ _ _ _ _ _ _
            refine An.one 7 (by kernel_rfl) rfl rfl (ls' := #[true, true, true, true, true, true, true, true, false, false, false, false]) (by kernel_rfl) ?_
            have hcdhrow39 := codeOf_cases (turnedL lettersT ((⟨#[94]⟩ : ByteArray) ++ (strOfNums [(c - 65) + 97])))
            have hlt35 := hR.vars.lt
            have hsz36 := hR.below.size
            refine callB (i := 0) 23 #[.slice A30 lettersT.length c31, .string ((⟨#[94]⟩ : ByteArray) ++ (strOfNums [(c - 65) + 97]))] hR rfl (by kernel_rfl) (by kernel_rfl) (by kernel_rfl) (hR.below.size) (Tryd.turned_any A30 c31 lettersT ((⟨#[94]⟩ : ByteArray) ++ (strOfNums [(c - 65) + 97])) mx _ (hrow32.rd encN_len) (by decide) (cell_below hR.below hM (cell_lt hM)) lettersOk) ?_
            clear hR
            rintro v_ a w33 ⟨A37, c38, rfl, hrow39⟩ hb34 hR
            have hdis40 := Dis.newer hrow32 hrow39
            replace hkb24 := (hb34.block _ (Array.getElem?_eq_some_iff.1 hkb24).1).trans hkb24
            replace hrow32 := hrow32.below hb34
            replace hrow39 := (Row.of_own hrow39.own hlt35).mono hsz36
            refine At.stop (by kernel_rfl) ?_
            change An _ _ _ _ _ _ _
            refine An.take (i := 8) (ls' := #[true, true, true, true, true, true, true, true, true, false, false, false]) (op := (Op.extract (Operand.tmp 32) 0)) (.slice A37 ((listOf (turnedL lettersT ((⟨#[94]⟩ : ByteArray) ++ (strOfNums [(c - 65) + 97])))).length) c38) hR rfl (by kernel_rfl) (by kernel_rfl) (by kernel_rfl) (by kernel_rfl) (by kernel_rfl) (fun _ _ _ h => h) (by kernel_rfl) ?_
            clear hR
            intro a hR
            refine An.take (i := 9) (ls' := #[true, true, true, true, true, true, true, true, true, true, false, false]) (op := (Op.extract (Operand.tmp 32) 1)) (.int .i64 (codeOf (turnedL lettersT ((⟨#[94]⟩ : ByteArray) ++ (strOfNums [(c - 65) + 97]))))) hR rfl (by kernel_rfl) (by kernel_rfl) (by kernel_rfl) (by kernel_rfl) (by kernel_rfl) (fun _ _ _ h => h) (by kernel_rfl) ?_
            clear hR
            intro a hR
            refine An.take (i := 10) (ls' := #[true, true, true, true, true, true, true, true, true, true, true, false]) (op := (Op.assign (Operand.tmp 33))) (.slice A37 ((listOf (turnedL lettersT ((⟨#[94]⟩ : ByteArray) ++ (strOfNums [(c - 65) + 97])))).length) c38) hR rfl (by kernel_rfl) (by kernel_rfl) (by kernel_rfl) (by kernel_rfl) (by kernel_rfl) (fun _ _ _ h => h) (by kernel_rfl) ?_
            clear hR
            intro a hR
            refine An.take (i := 11) (ls' := #[true, true, true, true, true, true, true, true, true, true, true, true]) (op := (Op.assign (Operand.tmp 34))) (.int .i64 (codeOf (turnedL lettersT ((⟨#[94]⟩ : ByteArray) ++ (strOfNums [(c - 65) + 97]))))) hR rfl (by kernel_rfl) (by kernel_rfl) (by kernel_rfl) (by kernel_rfl) (by kernel_rfl) (fun _ _ _ h => h) (by kernel_rfl) ?_
            clear hR
            intro a hR
            refine An.stop (by kernel_rfl) ?_
            refine hK6 _ _ ?_
            refine wp_ret ?_
            exact ret2 (.v (.slice A37 ((listOf (turnedL lettersT ((⟨#[94]⟩ : ByteArray) ++ (strOfNums [(c - 65) + 97])))).length) c38)) (.v (.int .i64 (codeOf (turnedL lettersT ((⟨#[94]⟩ : ByteArray) ++ (strOfNums [(c - 65) + 97])))))) hR rfl (by kernel_rfl) (by kernel_rfl) ⟨_, rfl, hR.below, by rw [letter_up (by omega)]; exact ⟨_, _, rfl, hrow39⟩⟩
          ·
            refine stepV (i := 0) (op := (Op.convert 54 9 (Operand.tmp 29))) (.string (strOfNums [(c - 65) + 97])) hR rfl (by kernel_rfl) (by kernel_rfl) (run_conv_lit (e := 5) (b := b24) (len := 1) [(c - 65) + 97] (by kernel_rfl) (by kernel_rfl) (by kernel_rfl) (by kernel_rfl) rfl hkb24) ?_
            clear hR
            intro a hR
            refine At.stop (by kernel_rfl) ?_
            change An _ _ _ _ _ _ _
            refine An.two 0 6 (by kernel_rfl) rfl rfl rfl rfl (l1 := #[true, true, true, true, true, true, false, false, false, false, false, false]) (l2 := #[false, true, true, true, true, true, true, false, false, false, false, false]) (by kernel_rfl) (by kernel_rfl) ?_ ?_
            ·
              have hlt43 := hR.vars.lt
              have hsz44 := hR.below.size
              refine callB (i := 0) 26 #[] hR rfl (by kernel_rfl) (by kernel_rfl) (by kernel_rfl) (hR.below.size) (Tryd.letters_any _) ?_
              clear hR
              rintro v_ a w41 ⟨A45, c46, rfl, hrow47⟩ hb42 hR
              replace hkb24 := (hb42.block _ (Array.getElem?_eq_some_iff.1 hkb24).1).trans hkb24
              replace hrow47 := (Row.of_own hrow47.own hlt43).mono hsz44
              refine At.stop (by kernel_rfl) ?_
              change An _ _ _ _ _ _ _
              refine An.one 6 (by kernel_rfl) rfl rfl (ls' := #[true, true, true, true, true, true, true, false, false, false, false, false]) (by kernel_rfl) ?_
              refine stepV (i := 0) (op := (Op.binOp BinOp.add 9 (Operand.const (Value.string { data := #[94] })) (Operand.tmp 30) 9)) (.string ((⟨#[94]⟩ : ByteArray) ++ (strOfNums [(c - 65) + 97]))) hR rfl (by kernel_rfl) (by kernel_rfl) (run_str_add (s := ⟨#[94]⟩) (t := (strOfNums [(c - 65) + 97])) (by kernel_rfl) (by kernel_rfl) (show 1 + 1 ≤ 9223372036854775807 by decide)) ?_
              clear hR
              intro a hR
              refine At.stop (by kernel_rfl) ?_
              change An _ _ _ _ _ _ _
              refine An.one 7 (by kernel_rfl) rfl rfl (ls' := #[true, true, true, true, true, true, true, true, false, false, false, false]) (by kernel_rfl) ?_
              have hcdhrow54 := codeOf_cases (turnedL lettersT ((⟨#[94]⟩ : ByteArray) ++ (strOfNums [(c - 65) + 97])))
              have hlt50 := hR.vars.lt
              have hsz51 := hR.below.size
              refine callB (i := 0) 23 #[.slice A45 lettersT.length c46, .string ((⟨#[94]⟩ : ByteArray) ++ (strOfNums [(c - 65) + 97]))] hR rfl (by kernel_rfl) (by kernel_rfl) (by kernel_rfl) (hR.below.size) (Tryd.turned_any A45 c46 lettersT ((⟨#[94]⟩ : ByteArray) ++ (strOfNums [(c - 65) + 97])) mx _ (hrow47.rd encN_len) (by decide) (cell_below hR.below hM (cell_lt hM)) lettersOk) ?_
              clear hR
              rintro v_ a w48 ⟨A52, c53, rfl, hrow54⟩ hb49 hR
              have hdis55 := Dis.newer hrow47 hrow54
              replace hkb24 := (hb49.block _ (Array.getElem?_eq_some_iff.1 hkb24).1).trans hkb24
              replace hrow47 := hrow47.below hb49
              replace hrow54 := (Row.of_own hrow54.own hlt50).mono hsz51
              refine At.stop (by kernel_rfl) ?_
              change An _ _ _ _ _ _ _
              refine An.take (i := 8) (ls' := #[true, true, true, true, true, true, true, true, true, false, false, false]) (op := (Op.extract (Operand.tmp 32) 0)) (.slice A52 ((listOf (turnedL lettersT ((⟨#[94]⟩ : ByteArray) ++ (strOfNums [(c - 65) + 97])))).length) c53) hR rfl (by kernel_rfl) (by kernel_rfl) (by kernel_rfl) (by kernel_rfl) (by kernel_rfl) (fun _ _ _ h => h) (by kernel_rfl) ?_
              clear hR
              intro a hR
              refine An.take (i := 9) (ls' := #[true, true, true, true, true, true, true, true, true, true, false, false]) (op := (Op.extract (Operand.tmp 32) 1)) (.int .i64 (codeOf (turnedL lettersT ((⟨#[94]⟩ : ByteArray) ++ (strOfNums [(c - 65) + 97]))))) hR rfl (by kernel_rfl) (by kernel_rfl) (by kernel_rfl) (by kernel_rfl) (by kernel_rfl) (fun _ _ _ h => h) (by kernel_rfl) ?_
              clear hR
              intro a hR
              refine An.take (i := 10) (ls' := #[true, true, true, true, true, true, true, true, true, true, true, false]) (op := (Op.assign (Operand.tmp 33))) (.slice A52 ((listOf (turnedL lettersT ((⟨#[94]⟩ : ByteArray) ++ (strOfNums [(c - 65) + 97])))).length) c53) hR rfl (by kernel_rfl) (by kernel_rfl) (by kernel_rfl) (by kernel_rfl) (by kernel_rfl) (fun _ _ _ h => h) (by kernel_rfl) ?_
              clear hR
              intro a hR
              refine An.take (i := 11) (ls' := #[true, true, true, true, true, true, true, true, true, true, true, true]) (op := (Op.assign (Operand.tmp 34))) (.int .i64 (codeOf (turnedL lettersT ((⟨#[94]⟩ : ByteArray) ++ (strOfNums [(c - 65) + 97]))))) hR rfl (by kernel_rfl) (by kernel_rfl) (by kernel_rfl) (by kernel_rfl) (by kernel_rfl) (fun _ _ _ h => h) (by kernel_rfl) ?_
              clear hR
              intro a hR
              refine An.stop (by kernel_rfl) ?_
              refine hK6 _ _ ?_
              refine wp_ret ?_
              exact ret2 (.v (.slice A52 ((listOf (turnedL lettersT ((⟨#[94]⟩ : ByteArray) ++ (strOfNums [(c - 65) + 97])))).length) c53)) (.v (.int .i64 (codeOf (turnedL lettersT ((⟨#[94]⟩ : ByteArray) ++ (strOfNums [(c - 65) + 97])))))) hR rfl (by kernel_rfl) (by kernel_rfl) ⟨_, rfl, hR.below, by rw [letter_up (by omega)]; exact ⟨_, _, rfl, hrow54⟩⟩
            ·
              refine stepV (i := 0) (op := (Op.binOp BinOp.add 9 (Operand.const (Value.string { data := #[94] })) (Operand.tmp 30) 9)) (.string ((⟨#[94]⟩ : ByteArray) ++ (strOfNums [(c - 65) + 97]))) hR rfl (by kernel_rfl) (by kernel_rfl) (run_str_add (s := ⟨#[94]⟩) (t := (strOfNums [(c - 65) + 97])) (by kernel_rfl) (by kernel_rfl) (show 1 + 1 ≤ 9223372036854775807 by decide)) ?_
              clear hR
              intro a hR
              refine At.stop (by kernel_rfl) ?_
              change An _ _ _ _ _ _ _
              refine An.one 0 (by kernel_rfl) rfl rfl (ls' := #[true, true, true, true, true, true, true, false, false, false, false, false]) (by kernel_rfl) ?_
              have hlt58 := hR.vars.lt
              have hsz59 := hR.below.size
              refine callB (i := 0) 26 #[] hR rfl (by kernel_rfl) (by kernel_rfl) (by kernel_rfl) (hR.below.size) (Tryd.letters_any _) ?_
              clear hR
              rintro v_ a w56 ⟨A60, c61, rfl, hrow62⟩ hb57 hR
              replace hkb24 := (hb57.block _ (Array.getElem?_eq_some_iff.1 hkb24).1).trans hkb24
              replace hrow62 := (Row.of_own hrow62.own hlt58).mono hsz59
              refine At.stop (by kernel_rfl) ?_
              change An _ _ _ _ _ _ _
              refine An.one 7 (by kernel_rfl) rfl rfl (ls' := #[true, true, true, true, true, true, true, true, false, false, false, false]) (by kernel_rfl) ?_
              have hcdhrow69 := codeOf_cases (turnedL lettersT ((⟨#[94]⟩ : ByteArray) ++ (strOfNums [(c - 65) + 97])))
              have hlt65 := hR.vars.lt
              have hsz66 := hR.below.size
              refine callB (i := 0) 23 #[.slice A60 lettersT.length c61, .string ((⟨#[94]⟩ : ByteArray) ++ (strOfNums [(c - 65) + 97]))] hR rfl (by kernel_rfl) (by kernel_rfl) (by kernel_rfl) (hR.below.size) (Tryd.turned_any A60 c61 lettersT ((⟨#[94]⟩ : ByteArray) ++ (strOfNums [(c - 65) + 97])) mx _ (hrow62.rd encN_len) (by decide) (cell_below hR.below hM (cell_lt hM)) lettersOk) ?_
              clear hR
              rintro v_ a w63 ⟨A67, c68, rfl, hrow69⟩ hb64 hR
              have hdis70 := Dis.newer hrow62 hrow69
              replace hkb24 := (hb64.block _ (Array.getElem?_eq_some_iff.1 hkb24).1).trans hkb24
              replace hrow62 := hrow62.below hb64
              replace hrow69 := (Row.of_own hrow69.own hlt65).mono hsz66
              refine At.stop (by kernel_rfl) ?_
              change An _ _ _ _ _ _ _
              refine An.take (i := 8) (ls' := #[true, true, true, true, true, true, true, true, true, false, false, false]) (op := (Op.extract (Operand.tmp 32) 0)) (.slice A67 ((listOf (turnedL lettersT ((⟨#[94]⟩ : ByteArray) ++ (strOfNums [(c - 65) + 97])))).length) c68) hR rfl (by kernel_rfl) (by kernel_rfl) (by kernel_rfl) (by kernel_rfl) (by kernel_rfl) (fun _ _ _ h => h) (by kernel_rfl) ?_
              clear hR
              intro a hR
              refine An.take (i := 9) (ls' := #[true, true, true, true, true, true, true, true, true, true, false, false]) (op := (Op.extract (Operand.tmp 32) 1)) (.int .i64 (codeOf (turnedL lettersT ((⟨#[94]⟩ : ByteArray) ++ (strOfNums [(c - 65) + 97]))))) hR rfl (by kernel_rfl) (by kernel_rfl) (by kernel_rfl) (by kernel_rfl) (by kernel_rfl) (fun _ _ _ h => h) (by kernel_rfl) ?_
              clear hR
              intro a hR
              refine An.take (i := 10) (ls' := #[true, true, true, true, true, true, true, true, true, true, true, false]) (op := (Op.assign (Operand.tmp 33))) (.slice A67 ((listOf (turnedL lettersT ((⟨#[94]⟩ : ByteArray) ++ (strOfNums [(c - 65) + 97])))).length) c68) hR rfl (by kernel_rfl) (by kernel_rfl) (by kernel_rfl) (by kernel_rfl) (by kernel_rfl) (fun _ _ _ h => h) (by kernel_rfl) ?_
              clear hR
              intro a hR
              refine An.take (i := 11) (ls' := #[true, true, true, true, true, true, true, true, true, true, true, true]) (op := (Op.assign (Operand.tmp 34))) (.int .i64 (codeOf (turnedL lettersT ((⟨#[94]⟩ : ByteArray) ++ (strOfNums [(c - 65) + 97]))))) hR rfl (by kernel_rfl) (by kernel_rfl) (by kernel_rfl) (by kernel_rfl) (by kernel_rfl) (fun _ _ _ h => h) (by kernel_rfl) ?_
              clear hR
              intro a hR
              refine An.stop (by kernel_rfl) ?_
              refine hK6 _ _ ?_
              refine wp_ret ?_
              exact ret2 (.v (.slice A67 ((listOf (turnedL lettersT ((⟨#[94]⟩ : ByteArray) ++ (strOfNums [(c - 65) + 97])))).length) c68)) (.v (.int .i64 (codeOf (turnedL lettersT ((⟨#[94]⟩ : ByteArray) ++ (strOfNums [(c - 65) + 97])))))) hR rfl (by kernel_rfl) (by kernel_rfl) ⟨_, rfl, hR.below, by rw [letter_up (by omega)]; exact ⟨_, _, rfl, hrow69⟩⟩
      ·
        have c3 := of_decide_eq_false c3
        refine wp_skip ?_
        refine hK2 _ _ ?_
        refine seqS fun K7 hK7 => ?_
        refine At.start ?_
        refine segP (i := 0) 2 [2, 3] (l' := [(2, .v (.slice none 0 0)), (3, .v (.int .i64 70))]) (H' := []) hR (by kernel_rfl) (by kernel_rfl) ?_
        clear hR
        intro a hR
        refine At.stop (by kernel_rfl) ?_
        refine hK7 _ _ ?_
        refine wp_ret ?_
        exact ret2 (.v (.slice none 0 0)) (.v (.int .i64 70)) hR rfl (by kernel_rfl) (by kernel_rfl) ⟨_, rfl, hR.below, by rw [letter_no (by omega)]; exact ⟨none, 0, rfl, Row.nil _ _ _ _ _ _⟩⟩
  case true =>
    rw [c1] at hR
    have c1 := of_decide_eq_true c1
    refine segP (i := 3) 4 [0, 2, 3, 4] (l' := [(0, .v (.int .u8 c)), (2, .v (.slice none 0 0)), (3, .v (.int .i64 0)), (4, .v (.bool (decide (c ≤ 122))))]) (H' := []) hR (by kernel_rfl) (by kernel_rfl) ?_
    clear hR
    intro a hR
    refine At.stop (by kernel_rfl) ?_
    refine hK3 _ _ ?_
    refine condS (decide (c ≤ 122)) hR (by kernel_rfl) (fun c71 => ?_) (fun c71 => ?_)
    ·
      have c71 := of_decide_eq_true c71
      refine seqS fun K8 hK8 => ?_
      refine An.start (m := 9) (ls := #[false, false, false, false, false, false, false, false, false]) hR (by kernel_rfl) rfl (by kernel_rfl) ?_
      clear hR
      intro w72 hh73 hO74 hR
      refine An.take (i := 1) (ls' := #[false, true, false, false, false, false, false, false, false]) (op := (Op.move (Operand.tmp 0))) (.int .u8 c) hR rfl (by kernel_rfl) (by kernel_rfl) (by kernel_rfl) (by kernel_rfl) (by kernel_rfl) (fun _ _ _ h => h) (by kernel_rfl) ?_
      clear hR
      intro a hR
      refine An.two 0 2 (by kernel_rfl) rfl rfl rfl rfl (l1 := #[true, true, false, false, false, false, false, false, false]) (l2 := #[false, true, true, false, false, false, false, false, false]) (by kernel_rfl) (by kernel_rfl) ?_ ?_
      ·
        have hlt77 := hR.vars.lt
        have hsz78 := hR.below.size
        refine callB (i := 0) 26 #[] hR rfl (by kernel_rfl) (by kernel_rfl) (by kernel_rfl) (hR.below.size) (Tryd.letters_any _) ?_
        clear hR
        rintro v_ a w75 ⟨A79, c80, rfl, hrow81⟩ hb76 hR
        replace hrow81 := (Row.of_own hrow81.own hlt77).mono hsz78
        refine At.stop (by kernel_rfl) ?_
        change An _ _ _ _ _ _ _
        refine An.one 2 (by kernel_rfl) rfl rfl (ls' := #[true, true, true, false, false, false, false, false, false]) (by kernel_rfl) ?_
        refine buildS (i := 0) 5 1 (.int .u8 0) [.int .u8 c] hR rfl (by kernel_rfl) (by kernel_rfl) (by kernel_rfl) (by kernel_rfl) (by kernel_rfl) (by kernel_rfl) (by kernel_rfl) (hR.below.size) ?_
        clear hR
        intro b82 a w83 hb82 hgb82 hkb82 hR
        replace hrow81 := hrow81.below hgb82
        refine At.stop (by kernel_rfl) ?_
        change An _ _ _ _ _ _ _
        refine An.one 3 (by kernel_rfl) rfl rfl (ls' := #[true, true, true, true, false, false, false, false, false]) (by kernel_rfl) ?_
        refine stepV (i := 0) (op := (Op.convert 54 9 (Operand.tmp 13))) (.string (strOfNums [c])) hR rfl (by kernel_rfl) (by kernel_rfl) (run_conv_lit (e := 5) (b := b82) (len := 1) [c] (by kernel_rfl) (by kernel_rfl) (by kernel_rfl) (by kernel_rfl) rfl hkb82) ?_
        clear hR
        intro a hR
        refine At.stop (by kernel_rfl) ?_
        change An _ _ _ _ _ _ _
        refine An.one 4 (by kernel_rfl) rfl rfl (ls' := #[true, true, true, true, true, false, false, false, false]) (by kernel_rfl) ?_
        have hcdhrow90 := codeOf_cases (findL lettersT (strOfNums [c]))
        have hlt86 := hR.vars.lt
        have hsz87 := hR.below.size
        refine callB (i := 0) 25 #[.slice A79 lettersT.length c80, .string (strOfNums [c])] hR rfl (by kernel_rfl) (by kernel_rfl) (by kernel_rfl) (hR.below.size) (Tryd.find_any A79 c80 lettersT (strOfNums [c]) mx _ (hrow81.rd encN_len) (by decide) (cell_below hR.below hM (cell_lt hM)) lettersOk) ?_
        clear hR
        rintro v_ a w84 ⟨A88, c89, rfl, hrow90⟩ hb85 hR
        have hdis91 := Dis.newer hrow81 hrow90
        replace hrow81 := hrow81.below hb85
        replace hkb82 := (hb85.block _ (Array.getElem?_eq_some_iff.1 hkb82).1).trans hkb82
        replace hrow90 := (Row.of_own hrow90.own hlt86).mono hsz87
        refine At.stop (by kernel_rfl) ?_
        change An _ _ _ _ _ _ _
        refine An.take (i := 5) (ls' := #[true, true, true, true, true, true, false, false, false]) (op := (Op.extract (Operand.tmp 15) 0)) (.slice A88 ((listOf (findL lettersT (strOfNums [c]))).length) c89) hR rfl (by kernel_rfl) (by kernel_rfl) (by kernel_rfl) (by kernel_rfl) (by kernel_rfl) (fun _ _ _ h => h) (by kernel_rfl) ?_
        clear hR
        intro a hR
        refine An.take (i := 6) (ls' := #[true, true, true, true, true, true, true, false, false]) (op := (Op.extract (Operand.tmp 15) 1)) (.int .i64 (codeOf (findL lettersT (strOfNums [c])))) hR rfl (by kernel_rfl) (by kernel_rfl) (by kernel_rfl) (by kernel_rfl) (by kernel_rfl) (fun _ _ _ h => h) (by kernel_rfl) ?_
        clear hR
        intro a hR
        refine An.take (i := 7) (ls' := #[true, true, true, true, true, true, true, true, false]) (op := (Op.assign (Operand.tmp 16))) (.slice A88 ((listOf (findL lettersT (strOfNums [c]))).length) c89) hR rfl (by kernel_rfl) (by kernel_rfl) (by kernel_rfl) (by kernel_rfl) (by kernel_rfl) (fun _ _ _ h => h) (by kernel_rfl) ?_
        clear hR
        intro a hR
        refine An.take (i := 8) (ls' := #[true, true, true, true, true, true, true, true, true]) (op := (Op.assign (Operand.tmp 17))) (.int .i64 (codeOf (findL lettersT (strOfNums [c])))) hR rfl (by kernel_rfl) (by kernel_rfl) (by kernel_rfl) (by kernel_rfl) (by kernel_rfl) (fun _ _ _ h => h) (by kernel_rfl) ?_
        clear hR
        intro a hR
        refine An.stop (by kernel_rfl) ?_
        refine hK8 _ _ ?_
        refine wp_ret ?_
        exact ret2 (.v (.slice A88 ((listOf (findL lettersT (strOfNums [c]))).length) c89)) (.v (.int .i64 (codeOf (findL lettersT (strOfNums [c]))))) hR rfl (by kernel_rfl) (by kernel_rfl) ⟨_, rfl, hR.below, by rw [letter_low (by omega)]; exact ⟨_, _, rfl, hrow90⟩⟩
      ·
        refine buildS (i := 0) 5 1 (.int .u8 0) [.int .u8 c] hR rfl (by kernel_rfl) (by kernel_rfl) (by kernel_rfl) (by kernel_rfl) (by kernel_rfl) (by kernel_rfl) (by kernel_rfl) (hR.below.size) ?_
        clear hR
        intro b92 a w93 hb92 hgb92 hkb92 hR
        refine At.stop (by kernel_rfl) ?_
        change An _ _ _ _ _ _ _
        refine An.two 0 3 (by kernel_rfl) rfl rfl rfl rfl (l1 := #[true, true, true, false, false, false, false, false, false]) (l2 := #[false, true, true, true, false, false, false, false, false]) (by kernel_rfl) (by kernel_rfl) ?_ ?_
        ·
          have hlt96 := hR.vars.lt
          have hsz97 := hR.below.size
          refine callB (i := 0) 26 #[] hR rfl (by kernel_rfl) (by kernel_rfl) (by kernel_rfl) (hR.below.size) (Tryd.letters_any _) ?_
          clear hR
          rintro v_ a w94 ⟨A98, c99, rfl, hrow100⟩ hb95 hR
          replace hkb92 := (hb95.block _ (Array.getElem?_eq_some_iff.1 hkb92).1).trans hkb92
          replace hrow100 := (Row.of_own hrow100.own hlt96).mono hsz97
          refine At.stop (by kernel_rfl) ?_
          change An _ _ _ _ _ _ _
          refine An.one 3 (by kernel_rfl) rfl rfl (ls' := #[true, true, true, true, false, false, false, false, false]) (by kernel_rfl) ?_
          refine stepV (i := 0) (op := (Op.convert 54 9 (Operand.tmp 13))) (.string (strOfNums [c])) hR rfl (by kernel_rfl) (by kernel_rfl) (run_conv_lit (e := 5) (b := b92) (len := 1) [c] (by kernel_rfl) (by kernel_rfl) (by kernel_rfl) (by kernel_rfl) rfl hkb92) ?_
          clear hR
          intro a hR
          refine At.stop (by kernel_rfl) ?_
          change An _ _ _ _ _ _ _
          refine An.one 4 (by kernel_rfl) rfl rfl (ls' := #[true, true, true, true, true, false, false, false, false]) (by kernel_rfl) ?_
          have hcdhrow107 := codeOf_cases (findL lettersT (strOfNums [c]))
          have hlt103 := hR.vars.lt
          have hsz104 := hR.below.size
          refine callB (i := 0) 25 #[.slice A98 lettersT.length c99, .string (strOfNums [c])] hR rfl (by kernel_rfl) (by kernel_rfl) (by kernel_rfl) (hR.below.size) (Tryd.find_any A98 c99 lettersT (strOfNums [c]) mx _ (hrow100.rd encN_len) (by decide) (cell_below hR.below hM (cell_lt hM)) lettersOk) ?_
          clear hR
          rintro v_ a w101 ⟨A105, c106, rfl, hrow107⟩ hb102 hR
          have hdis108 := Dis.newer hrow100 hrow107
          replace hkb92 := (hb102.block _ (Array.getElem?_eq_some_iff.1 hkb92).1).trans hkb92
          replace hrow100 := hrow100.below hb102
          replace hrow107 := (Row.of_own hrow107.own hlt103).mono hsz104
          refine At.stop (by kernel_rfl) ?_
          change An _ _ _ _ _ _ _
          refine An.take (i := 5) (ls' := #[true, true, true, true, true, true, false, false, false]) (op := (Op.extract (Operand.tmp 15) 0)) (.slice A105 ((listOf (findL lettersT (strOfNums [c]))).length) c106) hR rfl (by kernel_rfl) (by kernel_rfl) (by kernel_rfl) (by kernel_rfl) (by kernel_rfl) (fun _ _ _ h => h) (by kernel_rfl) ?_
          clear hR
          intro a hR
          refine An.take (i := 6) (ls' := #[true, true, true, true, true, true, true, false, false]) (op := (Op.extract (Operand.tmp 15) 1)) (.int .i64 (codeOf (findL lettersT (strOfNums [c])))) hR rfl (by kernel_rfl) (by kernel_rfl) (by kernel_rfl) (by kernel_rfl) (by kernel_rfl) (fun _ _ _ h => h) (by kernel_rfl) ?_
          clear hR
          intro a hR
          refine An.take (i := 7) (ls' := #[true, true, true, true, true, true, true, true, false]) (op := (Op.assign (Operand.tmp 16))) (.slice A105 ((listOf (findL lettersT (strOfNums [c]))).length) c106) hR rfl (by kernel_rfl) (by kernel_rfl) (by kernel_rfl) (by kernel_rfl) (by kernel_rfl) (fun _ _ _ h => h) (by kernel_rfl) ?_
          clear hR
          intro a hR
          refine An.take (i := 8) (ls' := #[true, true, true, true, true, true, true, true, true]) (op := (Op.assign (Operand.tmp 17))) (.int .i64 (codeOf (findL lettersT (strOfNums [c])))) hR rfl (by kernel_rfl) (by kernel_rfl) (by kernel_rfl) (by kernel_rfl) (by kernel_rfl) (fun _ _ _ h => h) (by kernel_rfl) ?_
          clear hR
          intro a hR
          refine An.stop (by kernel_rfl) ?_
          refine hK8 _ _ ?_
          refine wp_ret ?_
          exact ret2 (.v (.slice A105 ((listOf (findL lettersT (strOfNums [c]))).length) c106)) (.v (.int .i64 (codeOf (findL lettersT (strOfNums [c]))))) hR rfl (by kernel_rfl) (by kernel_rfl) ⟨_, rfl, hR.below, by rw [letter_low (by omega)]; exact ⟨_, _, rfl, hrow107⟩⟩
        ·
          refine stepV (i := 0) (op := (Op.convert 54 9 (Operand.tmp 13))) (.string (strOfNums [c])) hR rfl (by kernel_rfl) (by kernel_rfl) (run_conv_lit (e := 5) (b := b92) (len := 1) [c] (by kernel_rfl) (by kernel_rfl) (by kernel_rfl) (by kernel_rfl) rfl hkb92) ?_
          clear hR
          intro a hR
          refine At.stop (by kernel_rfl) ?_
          change An _ _ _ _ _ _ _
          refine An.one 0 (by kernel_rfl) rfl rfl (ls' := #[true, true, true, true, false, false, false, false, false]) (by kernel_rfl) ?_
          have hlt111 := hR.vars.lt
          have hsz112 := hR.below.size
          refine callB (i := 0) 26 #[] hR rfl (by kernel_rfl) (by kernel_rfl) (by kernel_rfl) (hR.below.size) (Tryd.letters_any _) ?_
          clear hR
          rintro v_ a w109 ⟨A113, c114, rfl, hrow115⟩ hb110 hR
          replace hkb92 := (hb110.block _ (Array.getElem?_eq_some_iff.1 hkb92).1).trans hkb92
          replace hrow115 := (Row.of_own hrow115.own hlt111).mono hsz112
          refine At.stop (by kernel_rfl) ?_
          change An _ _ _ _ _ _ _
          refine An.one 4 (by kernel_rfl) rfl rfl (ls' := #[true, true, true, true, true, false, false, false, false]) (by kernel_rfl) ?_
          have hcdhrow122 := codeOf_cases (findL lettersT (strOfNums [c]))
          have hlt118 := hR.vars.lt
          have hsz119 := hR.below.size
          refine callB (i := 0) 25 #[.slice A113 lettersT.length c114, .string (strOfNums [c])] hR rfl (by kernel_rfl) (by kernel_rfl) (by kernel_rfl) (hR.below.size) (Tryd.find_any A113 c114 lettersT (strOfNums [c]) mx _ (hrow115.rd encN_len) (by decide) (cell_below hR.below hM (cell_lt hM)) lettersOk) ?_
          clear hR
          rintro v_ a w116 ⟨A120, c121, rfl, hrow122⟩ hb117 hR
          have hdis123 := Dis.newer hrow115 hrow122
          replace hkb92 := (hb117.block _ (Array.getElem?_eq_some_iff.1 hkb92).1).trans hkb92
          replace hrow115 := hrow115.below hb117
          replace hrow122 := (Row.of_own hrow122.own hlt118).mono hsz119
          refine At.stop (by kernel_rfl) ?_
          change An _ _ _ _ _ _ _
          refine An.take (i := 5) (ls' := #[true, true, true, true, true, true, false, false, false]) (op := (Op.extract (Operand.tmp 15) 0)) (.slice A120 ((listOf (findL lettersT (strOfNums [c]))).length) c121) hR rfl (by kernel_rfl) (by kernel_rfl) (by kernel_rfl) (by kernel_rfl) (by kernel_rfl) (fun _ _ _ h => h) (by kernel_rfl) ?_
          clear hR
          intro a hR
          refine An.take (i := 6) (ls' := #[true, true, true, true, true, true, true, false, false]) (op := (Op.extract (Operand.tmp 15) 1)) (.int .i64 (codeOf (findL lettersT (strOfNums [c])))) hR rfl (by kernel_rfl) (by kernel_rfl) (by kernel_rfl) (by kernel_rfl) (by kernel_rfl) (fun _ _ _ h => h) (by kernel_rfl) ?_
          clear hR
          intro a hR
          refine An.take (i := 7) (ls' := #[true, true, true, true, true, true, true, true, false]) (op := (Op.assign (Operand.tmp 16))) (.slice A120 ((listOf (findL lettersT (strOfNums [c]))).length) c121) hR rfl (by kernel_rfl) (by kernel_rfl) (by kernel_rfl) (by kernel_rfl) (by kernel_rfl) (fun _ _ _ h => h) (by kernel_rfl) ?_
          clear hR
          intro a hR
          refine An.take (i := 8) (ls' := #[true, true, true, true, true, true, true, true, true]) (op := (Op.assign (Operand.tmp 17))) (.int .i64 (codeOf (findL lettersT (strOfNums [c])))) hR rfl (by kernel_rfl) (by kernel_rfl) (by kernel_rfl) (by kernel_rfl) (by kernel_rfl) (fun _ _ _ h => h) (by kernel_rfl) ?_
          clear hR
          intro a hR
          refine An.stop (by kernel_rfl) ?_
          refine hK8 _ _ ?_
          refine wp_ret ?_
          exact ret2 (.v (.slice A120 ((listOf (findL lettersT (strOfNums [c]))).length) c121)) (.v (.int .i64 (codeOf (findL lettersT (strOfNums [c]))))) hR rfl (by kernel_rfl) (by kernel_rfl) ⟨_, rfl, hR.below, by rw [letter_low (by omega)]; exact ⟨_, _, rfl, hrow122⟩⟩
    ·
      have c71 := of_decide_eq_false c71
      refine seqS fun K9 hK9 => ?_
      refine At.start ?_
      refine segP (i := 0) 3 [0, 2, 3, 21] (l' := [(0, .v (.int .u8 c)), (2, .v (.slice none 0 0)), (3, .v (.int .i64 0)), (21, .v (.bool (decide (c ≥ 65))))]) (H' := []) hR (by kernel_rfl) (by kernel_rfl) ?_
      clear hR
      intro a hR
      cases c124 : (decide (c ≥ 65))
      case false =>
        rw [c124] at hR
        have c124 := of_decide_eq_false c124
        refine segP (i := 3) 4 [0, 2, 3, 18] (l' := [(0, .v (.int .u8 c)), (2, .v (.slice none 0 0)), (3, .v (.int .i64 0)), (18, .v (.bool false))]) (H' := []) hR (by kernel_rfl) (by kernel_rfl) ?_
        clear hR
        intro a hR
        refine At.stop (by kernel_rfl) ?_
        refine hK9 _ _ ?_
        refine wp_cond_false (hR.fr.eval (by kernel_rfl : evS _ _ = some (.v (.bool false)))) ?_
        refine wp_skip ?_
        refine hK2 _ _ ?_
        refine seqS fun K10 hK10 => ?_
        refine At.start ?_
        refine segP (i := 0) 2 [2, 3] (l' := [(2, .v (.slice none 0 0)), (3, .v (.int .i64 70))]) (H' := []) hR (by kernel_rfl) (by kernel_rfl) ?_
        clear hR
        intro a hR
        refine At.stop (by kernel_rfl) ?_
        refine hK10 _ _ ?_
        refine wp_ret ?_
        exact ret2 (.v (.slice none 0 0)) (.v (.int .i64 70)) hR rfl (by kernel_rfl) (by kernel_rfl) ⟨_, rfl, hR.below, by rw [letter_no (by omega)]; exact ⟨none, 0, rfl, Row.nil _ _ _ _ _ _⟩⟩
      case true =>
        rw [c124] at hR
        have c124 := of_decide_eq_true c124
        refine segP (i := 3) 4 [0, 2, 3, 18] (l' := [(0, .v (.int .u8 c)), (2, .v (.slice none 0 0)), (3, .v (.int .i64 0)), (18, .v (.bool (decide (c ≤ 90))))]) (H' := []) hR (by kernel_rfl) (by kernel_rfl) ?_
        clear hR
        intro a hR
        refine At.stop (by kernel_rfl) ?_
        refine hK9 _ _ ?_
        refine condS (decide (c ≤ 90)) hR (by kernel_rfl) (fun c125 => ?_) (fun c125 => ?_)
        ·
          have c125 := of_decide_eq_true c125
          refine seqS fun K11 hK11 => ?_
          refine An.start (m := 12) (ls := #[false, false, false, false, false, false, false, false, false, false, false, false]) hR (by kernel_rfl) rfl (by kernel_rfl) ?_
          clear hR
          intro w126 hh127 hO128 hR
          refine An.take (i := 1) (ls' := #[false, true, false, false, false, false, false, false, false, false, false, false]) (op := (Op.move (Operand.tmp 0))) (.int .u8 c) hR rfl (by kernel_rfl) (by kernel_rfl) (by kernel_rfl) (by kernel_rfl) (by kernel_rfl) (fun _ _ _ h => h) (by kernel_rfl) ?_
          clear hR
          intro a hR
          refine An.take (i := 2) (ls' := #[false, true, true, false, false, false, false, false, false, false, false, false]) (op := (Op.binOp BinOp.sub 5 (Operand.tmp 26) (Operand.const (Value.int IntKind.u8 65)) 5)) (.int .u8 (IntKind.u8.wrap (c - 65))) hR rfl (by kernel_rfl) (by kernel_rfl) (by kernel_rfl) (by kernel_rfl) (by kernel_rfl) (fun _ _ _ h => h) (by kernel_rfl) ?_
          clear hR
          intro a hR
          rw [show IntKind.u8.wrap (c - 65) = (c - 65) from wrap_u8 (by omega) (by omega)] at hR
          refine An.take (i := 3) (ls' := #[false, true, true, true, false, false, false, false, false, false, false, false]) (op := (Op.binOp BinOp.add 5 (Operand.tmp 27) (Operand.const (Value.int IntKind.u8 97)) 5)) (.int .u8 (IntKind.u8.wrap ((c - 65) + 97))) hR rfl (by kernel_rfl) (by kernel_rfl) (by kernel_rfl) (by kernel_rfl) (by kernel_rfl) (fun _ _ _ h => h) (by kernel_rfl) ?_
          clear hR
          intro a hR
          rw [show IntKind.u8.wrap ((c - 65) + 97) = ((c - 65) + 97) from wrap_u8 (by omega) (by omega)] at hR
          refine An.two 0 4 (by kernel_rfl) rfl rfl rfl rfl (l1 := #[true, true, true, true, false, false, false, false, false, false, false, false]) (l2 := #[false, true, true, true, true, false, false, false, false, false, false, false]) (by kernel_rfl) (by kernel_rfl) ?_ ?_
          ·
            have hlt131 := hR.vars.lt
            have hsz132 := hR.below.size
            refine callB (i := 0) 26 #[] hR rfl (by kernel_rfl) (by kernel_rfl) (by kernel_rfl) (hR.below.size) (Tryd.letters_any _) ?_
            clear hR
            rintro v_ a w129 ⟨A133, c134, rfl, hrow135⟩ hb130 hR
            replace hrow135 := (Row.of_own hrow135.own hlt131).mono hsz132
            refine At.stop (by kernel_rfl) ?_
            change An _ _ _ _ _ _ _
            refine An.one 4 (by kernel_rfl) rfl rfl (ls' := #[true, true, true, true, true, false, false, false, false, false, false, false]) (by kernel_rfl) ?_
            refine buildS (i := 0) 5 1 (.int .u8 0) [.int .u8 ((c - 65) + 97)] hR rfl (by kernel_rfl) (by kernel_rfl) (by kernel_rfl) (by kernel_rfl) (by kernel_rfl) (by kernel_rfl) (by kernel_rfl) (hR.below.size) ?_
            clear hR
            intro b136 a w137 hb136 hgb136 hkb136 hR
            replace hrow135 := hrow135.below hgb136
            refine At.stop (by kernel_rfl) ?_
            change An _ _ _ _ _ _ _
            refine An.one 5 (by kernel_rfl) rfl rfl (ls' := #[true, true, true, true, true, true, false, false, false, false, false, false]) (by kernel_rfl) ?_
            refine stepV (i := 0) (op := (Op.convert 54 9 (Operand.tmp 29))) (.string (strOfNums [(c - 65) + 97])) hR rfl (by kernel_rfl) (by kernel_rfl) (run_conv_lit (e := 5) (b := b136) (len := 1) [(c - 65) + 97] (by kernel_rfl) (by kernel_rfl) (by kernel_rfl) (by kernel_rfl) rfl hkb136) ?_
            clear hR
            intro a hR
            refine At.stop (by kernel_rfl) ?_
            change An _ _ _ _ _ _ _
            refine An.one 6 (by kernel_rfl) rfl rfl (ls' := #[true, true, true, true, true, true, true, false, false, false, false, false]) (by kernel_rfl) ?_
            refine stepV (i := 0) (op := (Op.binOp BinOp.add 9 (Operand.const (Value.string { data := #[94] })) (Operand.tmp 30) 9)) (.string ((⟨#[94]⟩ : ByteArray) ++ (strOfNums [(c - 65) + 97]))) hR rfl (by kernel_rfl) (by kernel_rfl) (run_str_add (s := ⟨#[94]⟩) (t := (strOfNums [(c - 65) + 97])) (by kernel_rfl) (by kernel_rfl) (show 1 + 1 ≤ 9223372036854775807 by decide)) ?_
            clear hR
            intro a hR
            refine At.stop (by kernel_rfl) ?_
            change An _ _ _ _ _ _ _
            refine An.one 7 (by kernel_rfl) rfl rfl (ls' := #[true, true, true, true, true, true, true, true, false, false, false, false]) (by kernel_rfl) ?_
            have hcdhrow144 := codeOf_cases (turnedL lettersT ((⟨#[94]⟩ : ByteArray) ++ (strOfNums [(c - 65) + 97])))
            have hlt140 := hR.vars.lt
            have hsz141 := hR.below.size
            refine callB (i := 0) 23 #[.slice A133 lettersT.length c134, .string ((⟨#[94]⟩ : ByteArray) ++ (strOfNums [(c - 65) + 97]))] hR rfl (by kernel_rfl) (by kernel_rfl) (by kernel_rfl) (hR.below.size) (Tryd.turned_any A133 c134 lettersT ((⟨#[94]⟩ : ByteArray) ++ (strOfNums [(c - 65) + 97])) mx _ (hrow135.rd encN_len) (by decide) (cell_below hR.below hM (cell_lt hM)) lettersOk) ?_
            clear hR
            rintro v_ a w138 ⟨A142, c143, rfl, hrow144⟩ hb139 hR
            have hdis145 := Dis.newer hrow135 hrow144
            replace hrow135 := hrow135.below hb139
            replace hkb136 := (hb139.block _ (Array.getElem?_eq_some_iff.1 hkb136).1).trans hkb136
            replace hrow144 := (Row.of_own hrow144.own hlt140).mono hsz141
            refine At.stop (by kernel_rfl) ?_
            change An _ _ _ _ _ _ _
            refine An.take (i := 8) (ls' := #[true, true, true, true, true, true, true, true, true, false, false, false]) (op := (Op.extract (Operand.tmp 32) 0)) (.slice A142 ((listOf (turnedL lettersT ((⟨#[94]⟩ : ByteArray) ++ (strOfNums [(c - 65) + 97])))).length) c143) hR rfl (by kernel_rfl) (by kernel_rfl) (by kernel_rfl) (by kernel_rfl) (by kernel_rfl) (fun _ _ _ h => h) (by kernel_rfl) ?_
            clear hR
            intro a hR
            refine An.take (i := 9) (ls' := #[true, true, true, true, true, true, true, true, true, true, false, false]) (op := (Op.extract (Operand.tmp 32) 1)) (.int .i64 (codeOf (turnedL lettersT ((⟨#[94]⟩ : ByteArray) ++ (strOfNums [(c - 65) + 97]))))) hR rfl (by kernel_rfl) (by kernel_rfl) (by kernel_rfl) (by kernel_rfl) (by kernel_rfl) (fun _ _ _ h => h) (by kernel_rfl) ?_
            clear hR
            intro a hR
            refine An.take (i := 10) (ls' := #[true, true, true, true, true, true, true, true, true, true, true, false]) (op := (Op.assign (Operand.tmp 33))) (.slice A142 ((listOf (turnedL lettersT ((⟨#[94]⟩ : ByteArray) ++ (strOfNums [(c - 65) + 97])))).length) c143) hR rfl (by kernel_rfl) (by kernel_rfl) (by kernel_rfl) (by kernel_rfl) (by kernel_rfl) (fun _ _ _ h => h) (by kernel_rfl) ?_
            clear hR
            intro a hR
            refine An.take (i := 11) (ls' := #[true, true, true, true, true, true, true, true, true, true, true, true]) (op := (Op.assign (Operand.tmp 34))) (.int .i64 (codeOf (turnedL lettersT ((⟨#[94]⟩ : ByteArray) ++ (strOfNums [(c - 65) + 97]))))) hR rfl (by kernel_rfl) (by kernel_rfl) (by kernel_rfl) (by kernel_rfl) (by kernel_rfl) (fun _ _ _ h => h) (by kernel_rfl) ?_
            clear hR
            intro a hR
            refine An.stop (by kernel_rfl) ?_
            refine hK11 _ _ ?_
            refine wp_ret ?_
            exact ret2 (.v (.slice A142 ((listOf (turnedL lettersT ((⟨#[94]⟩ : ByteArray) ++ (strOfNums [(c - 65) + 97])))).length) c143)) (.v (.int .i64 (codeOf (turnedL lettersT ((⟨#[94]⟩ : ByteArray) ++ (strOfNums [(c - 65) + 97])))))) hR rfl (by kernel_rfl) (by kernel_rfl) ⟨_, rfl, hR.below, by rw [letter_up (by omega)]; exact ⟨_, _, rfl, hrow144⟩⟩
          ·
            refine buildS (i := 0) 5 1 (.int .u8 0) [.int .u8 ((c - 65) + 97)] hR rfl (by kernel_rfl) (by kernel_rfl) (by kernel_rfl) (by kernel_rfl) (by kernel_rfl) (by kernel_rfl) (by kernel_rfl) (hR.below.size) ?_
            clear hR
            intro b146 a w147 hb146 hgb146 hkb146 hR
            refine At.stop (by kernel_rfl) ?_
            change An _ _ _ _ _ _ _
            refine An.two 0 5 (by kernel_rfl) rfl rfl rfl rfl (l1 := #[true, true, true, true, true, false, false, false, false, false, false, false]) (l2 := #[false, true, true, true, true, true, false, false, false, false, false, false]) (by kernel_rfl) (by kernel_rfl) ?_ ?_
            ·
              have hlt150 := hR.vars.lt
              have hsz151 := hR.below.size
              refine callB (i := 0) 26 #[] hR rfl (by kernel_rfl) (by kernel_rfl) (by kernel_rfl) (hR.below.size) (Tryd.letters_any _) ?_
              clear hR
              rintro v_ a w148 ⟨A152, c153, rfl, hrow154⟩ hb149 hR
              replace hkb146 := (hb149.block _ (Array.getElem?_eq_some_iff.1 hkb146).1).trans hkb146
              replace hrow154 := (Row.of_own hrow154.own hlt150).mono hsz151
              refine At.stop (by kernel_rfl) ?_
              change An _ _ _ _ _ _ _
              refine An.one 5 (by kernel_rfl) rfl rfl (ls' := #[true, true, true, true, true, true, false, false, false, false, false, false]) (by kernel_rfl) ?_
              refine stepV (i := 0) (op := (Op.convert 54 9 (Operand.tmp 29))) (.string (strOfNums [(c - 65) + 97])) hR rfl (by kernel_rfl) (by kernel_rfl) (run_conv_lit (e := 5) (b := b146) (len := 1) [(c - 65) + 97] (by kernel_rfl) (by kernel_rfl) (by kernel_rfl) (by kernel_rfl) rfl hkb146) ?_
              clear hR
              intro a hR
              refine At.stop (by kernel_rfl) ?_
              change An _ _ _ _ _ _ _
              refine An.one 6 (by kernel_rfl) rfl rfl (ls' := #[true, true, true, true, true, true, true, false, false, false, false, false]) (by kernel_rfl) ?_
              refine stepV (i := 0) (op := (Op.binOp BinOp.add 9 (Operand.const (Value.string { data := #[94] })) (Operand.tmp 30) 9)) (.string ((⟨#[94]⟩ : ByteArray) ++ (strOfNums [(c - 65) + 97]))) hR rfl (by kernel_rfl) (by kernel_rfl) (run_str_add (s := ⟨#[94]⟩) (t := (strOfNums [(c - 65) + 97])) (by kernel_rfl) (by kernel_rfl) (show 1 + 1 ≤ 9223372036854775807 by decide)) ?_
              clear hR
              intro a hR
              refine At.stop (by kernel_rfl) ?_
              change An _ _ _ _ _ _ _
              refine An.one 7 (by kernel_rfl) rfl rfl (ls' := #[true, true, true, true, true, true, true, true, false, false, false, false]) (by kernel_rfl) ?_
              have hcdhrow161 := codeOf_cases (turnedL lettersT ((⟨#[94]⟩ : ByteArray) ++ (strOfNums [(c - 65) + 97])))
              have hlt157 := hR.vars.lt
              have hsz158 := hR.below.size
              refine callB (i := 0) 23 #[.slice A152 lettersT.length c153, .string ((⟨#[94]⟩ : ByteArray) ++ (strOfNums [(c - 65) + 97]))] hR rfl (by kernel_rfl) (by kernel_rfl) (by kernel_rfl) (hR.below.size) (Tryd.turned_any A152 c153 lettersT ((⟨#[94]⟩ : ByteArray) ++ (strOfNums [(c - 65) + 97])) mx _ (hrow154.rd encN_len) (by decide) (cell_below hR.below hM (cell_lt hM)) lettersOk) ?_
              clear hR
              rintro v_ a w155 ⟨A159, c160, rfl, hrow161⟩ hb156 hR
              have hdis162 := Dis.newer hrow154 hrow161
              replace hkb146 := (hb156.block _ (Array.getElem?_eq_some_iff.1 hkb146).1).trans hkb146
              replace hrow154 := hrow154.below hb156
              replace hrow161 := (Row.of_own hrow161.own hlt157).mono hsz158
              refine At.stop (by kernel_rfl) ?_
              change An _ _ _ _ _ _ _
              refine An.take (i := 8) (ls' := #[true, true, true, true, true, true, true, true, true, false, false, false]) (op := (Op.extract (Operand.tmp 32) 0)) (.slice A159 ((listOf (turnedL lettersT ((⟨#[94]⟩ : ByteArray) ++ (strOfNums [(c - 65) + 97])))).length) c160) hR rfl (by kernel_rfl) (by kernel_rfl) (by kernel_rfl) (by kernel_rfl) (by kernel_rfl) (fun _ _ _ h => h) (by kernel_rfl) ?_
              clear hR
              intro a hR
              refine An.take (i := 9) (ls' := #[true, true, true, true, true, true, true, true, true, true, false, false]) (op := (Op.extract (Operand.tmp 32) 1)) (.int .i64 (codeOf (turnedL lettersT ((⟨#[94]⟩ : ByteArray) ++ (strOfNums [(c - 65) + 97]))))) hR rfl (by kernel_rfl) (by kernel_rfl) (by kernel_rfl) (by kernel_rfl) (by kernel_rfl) (fun _ _ _ h => h) (by kernel_rfl) ?_
              clear hR
              intro a hR
              refine An.take (i := 10) (ls' := #[true, true, true, true, true, true, true, true, true, true, true, false]) (op := (Op.assign (Operand.tmp 33))) (.slice A159 ((listOf (turnedL lettersT ((⟨#[94]⟩ : ByteArray) ++ (strOfNums [(c - 65) + 97])))).length) c160) hR rfl (by kernel_rfl) (by kernel_rfl) (by kernel_rfl) (by kernel_rfl) (by kernel_rfl) (fun _ _ _ h => h) (by kernel_rfl) ?_
              clear hR
              intro a hR
              refine An.take (i := 11) (ls' := #[true, true, true, true, true, true, true, true, true, true, true, true]) (op := (Op.assign (Operand.tmp 34))) (.int .i64 (codeOf (turnedL lettersT ((⟨#[94]⟩ : ByteArray) ++ (strOfNums [(c - 65) + 97]))))) hR rfl (by kernel_rfl) (by kernel_rfl) (by kernel_rfl) (by kernel_rfl) (by kernel_rfl) (fun _ _ _ h => h) (by kernel_rfl) ?_
              clear hR
              intro a hR
              refine An.stop (by kernel_rfl) ?_
              refine hK11 _ _ ?_
              refine wp_ret ?_
              exact ret2 (.v (.slice A159 ((listOf (turnedL lettersT ((⟨#[94]⟩ : ByteArray) ++ (strOfNums [(c - 65) + 97])))).length) c160)) (.v (.int .i64 (codeOf (turnedL lettersT ((⟨#[94]⟩ : ByteArray) ++ (strOfNums [(c - 65) + 97])))))) hR rfl (by kernel_rfl) (by kernel_rfl) ⟨_, rfl, hR.below, by rw [letter_up (by omega)]; exact ⟨_, _, rfl, hrow161⟩⟩
            ·
              refine stepV (i := 0) (op := (Op.convert 54 9 (Operand.tmp 29))) (.string (strOfNums [(c - 65) + 97])) hR rfl (by kernel_rfl) (by kernel_rfl) (run_conv_lit (e := 5) (b := b146) (len := 1) [(c - 65) + 97] (by kernel_rfl) (by kernel_rfl) (by kernel_rfl) (by kernel_rfl) rfl hkb146) ?_
              clear hR
              intro a hR
              refine At.stop (by kernel_rfl) ?_
              change An _ _ _ _ _ _ _
              refine An.two 0 6 (by kernel_rfl) rfl rfl rfl rfl (l1 := #[true, true, true, true, true, true, false, false, false, false, false, false]) (l2 := #[false, true, true, true, true, true, true, false, false, false, false, false]) (by kernel_rfl) (by kernel_rfl) ?_ ?_
              ·
                have hlt165 := hR.vars.lt
                have hsz166 := hR.below.size
                refine callB (i := 0) 26 #[] hR rfl (by kernel_rfl) (by kernel_rfl) (by kernel_rfl) (hR.below.size) (Tryd.letters_any _) ?_
                clear hR
                rintro v_ a w163 ⟨A167, c168, rfl, hrow169⟩ hb164 hR
                replace hkb146 := (hb164.block _ (Array.getElem?_eq_some_iff.1 hkb146).1).trans hkb146
                replace hrow169 := (Row.of_own hrow169.own hlt165).mono hsz166
                refine At.stop (by kernel_rfl) ?_
                change An _ _ _ _ _ _ _
                refine An.one 6 (by kernel_rfl) rfl rfl (ls' := #[true, true, true, true, true, true, true, false, false, false, false, false]) (by kernel_rfl) ?_
                refine stepV (i := 0) (op := (Op.binOp BinOp.add 9 (Operand.const (Value.string { data := #[94] })) (Operand.tmp 30) 9)) (.string ((⟨#[94]⟩ : ByteArray) ++ (strOfNums [(c - 65) + 97]))) hR rfl (by kernel_rfl) (by kernel_rfl) (run_str_add (s := ⟨#[94]⟩) (t := (strOfNums [(c - 65) + 97])) (by kernel_rfl) (by kernel_rfl) (show 1 + 1 ≤ 9223372036854775807 by decide)) ?_
                clear hR
                intro a hR
                refine At.stop (by kernel_rfl) ?_
                change An _ _ _ _ _ _ _
                refine An.one 7 (by kernel_rfl) rfl rfl (ls' := #[true, true, true, true, true, true, true, true, false, false, false, false]) (by kernel_rfl) ?_
                have hcdhrow176 := codeOf_cases (turnedL lettersT ((⟨#[94]⟩ : ByteArray) ++ (strOfNums [(c - 65) + 97])))
                have hlt172 := hR.vars.lt
                have hsz173 := hR.below.size
                refine callB (i := 0) 23 #[.slice A167 lettersT.length c168, .string ((⟨#[94]⟩ : ByteArray) ++ (strOfNums [(c - 65) + 97]))] hR rfl (by kernel_rfl) (by kernel_rfl) (by kernel_rfl) (hR.below.size) (Tryd.turned_any A167 c168 lettersT ((⟨#[94]⟩ : ByteArray) ++ (strOfNums [(c - 65) + 97])) mx _ (hrow169.rd encN_len) (by decide) (cell_below hR.below hM (cell_lt hM)) lettersOk) ?_
                clear hR
                rintro v_ a w170 ⟨A174, c175, rfl, hrow176⟩ hb171 hR
                have hdis177 := Dis.newer hrow169 hrow176
                replace hkb146 := (hb171.block _ (Array.getElem?_eq_some_iff.1 hkb146).1).trans hkb146
                replace hrow169 := hrow169.below hb171
                replace hrow176 := (Row.of_own hrow176.own hlt172).mono hsz173
                refine At.stop (by kernel_rfl) ?_
                change An _ _ _ _ _ _ _
                refine An.take (i := 8) (ls' := #[true, true, true, true, true, true, true, true, true, false, false, false]) (op := (Op.extract (Operand.tmp 32) 0)) (.slice A174 ((listOf (turnedL lettersT ((⟨#[94]⟩ : ByteArray) ++ (strOfNums [(c - 65) + 97])))).length) c175) hR rfl (by kernel_rfl) (by kernel_rfl) (by kernel_rfl) (by kernel_rfl) (by kernel_rfl) (fun _ _ _ h => h) (by kernel_rfl) ?_
                clear hR
                intro a hR
                refine An.take (i := 9) (ls' := #[true, true, true, true, true, true, true, true, true, true, false, false]) (op := (Op.extract (Operand.tmp 32) 1)) (.int .i64 (codeOf (turnedL lettersT ((⟨#[94]⟩ : ByteArray) ++ (strOfNums [(c - 65) + 97]))))) hR rfl (by kernel_rfl) (by kernel_rfl) (by kernel_rfl) (by kernel_rfl) (by kernel_rfl) (fun _ _ _ h => h) (by kernel_rfl) ?_
                clear hR
                intro a hR
                refine An.take (i := 10) (ls' := #[true, true, true, true, true, true, true, true, true, true, true, false]) (op := (Op.assign (Operand.tmp 33))) (.slice A174 ((listOf (turnedL lettersT ((⟨#[94]⟩ : ByteArray) ++ (strOfNums [(c - 65) + 97])))).length) c175) hR rfl (by kernel_rfl) (by kernel_rfl) (by kernel_rfl) (by kernel_rfl) (by kernel_rfl) (fun _ _ _ h => h) (by kernel_rfl) ?_
                clear hR
                intro a hR
                refine An.take (i := 11) (ls' := #[true, true, true, true, true, true, true, true, true, true, true, true]) (op := (Op.assign (Operand.tmp 34))) (.int .i64 (codeOf (turnedL lettersT ((⟨#[94]⟩ : ByteArray) ++ (strOfNums [(c - 65) + 97]))))) hR rfl (by kernel_rfl) (by kernel_rfl) (by kernel_rfl) (by kernel_rfl) (by kernel_rfl) (fun _ _ _ h => h) (by kernel_rfl) ?_
                clear hR
                intro a hR
                refine An.stop (by kernel_rfl) ?_
                refine hK11 _ _ ?_
                refine wp_ret ?_
                exact ret2 (.v (.slice A174 ((listOf (turnedL lettersT ((⟨#[94]⟩ : ByteArray) ++ (strOfNums [(c - 65) + 97])))).length) c175)) (.v (.int .i64 (codeOf (turnedL lettersT ((⟨#[94]⟩ : ByteArray) ++ (strOfNums [(c - 65) + 97])))))) hR rfl (by kernel_rfl) (by kernel_rfl) ⟨_, rfl, hR.below, by rw [letter_up (by omega)]; exact ⟨_, _, rfl, hrow176⟩⟩
              ·
                refine stepV (i := 0) (op := (Op.binOp BinOp.add 9 (Operand.const (Value.string { data := #[94] })) (Operand.tmp 30) 9)) (.string ((⟨#[94]⟩ : ByteArray) ++ (strOfNums [(c - 65) + 97]))) hR rfl (by kernel_rfl) (by kernel_rfl) (run_str_add (s := ⟨#[94]⟩) (t := (strOfNums [(c - 65) + 97])) (by kernel_rfl) (by kernel_rfl) (show 1 + 1 ≤ 9223372036854775807 by decide)) ?_
                clear hR
                intro a hR
                refine At.stop (by kernel_rfl) ?_
                change An _ _ _ _ _ _ _
                refine An.one 0 (by kernel_rfl) rfl rfl (ls' := #[true, true, true, true, true, true, true, false, false, false, false, false]) (by kernel_rfl) ?_
                have hlt180 := hR.vars.lt
                have hsz181 := hR.below.size
                refine callB (i := 0) 26 #[] hR rfl (by kernel_rfl) (by kernel_rfl) (by kernel_rfl) (hR.below.size) (Tryd.letters_any _) ?_
                clear hR
                rintro v_ a w178 ⟨A182, c183, rfl, hrow184⟩ hb179 hR
                replace hkb146 := (hb179.block _ (Array.getElem?_eq_some_iff.1 hkb146).1).trans hkb146
                replace hrow184 := (Row.of_own hrow184.own hlt180).mono hsz181
                refine At.stop (by kernel_rfl) ?_
                change An _ _ _ _ _ _ _
                refine An.one 7 (by kernel_rfl) rfl rfl (ls' := #[true, true, true, true, true, true, true, true, false, false, false, false]) (by kernel_rfl) ?_
                have hcdhrow191 := codeOf_cases (turnedL lettersT ((⟨#[94]⟩ : ByteArray) ++ (strOfNums [(c - 65) + 97])))
                have hlt187 := hR.vars.lt
                have hsz188 := hR.below.size
                refine callB (i := 0) 23 #[.slice A182 lettersT.length c183, .string ((⟨#[94]⟩ : ByteArray) ++ (strOfNums [(c - 65) + 97]))] hR rfl (by kernel_rfl) (by kernel_rfl) (by kernel_rfl) (hR.below.size) (Tryd.turned_any A182 c183 lettersT ((⟨#[94]⟩ : ByteArray) ++ (strOfNums [(c - 65) + 97])) mx _ (hrow184.rd encN_len) (by decide) (cell_below hR.below hM (cell_lt hM)) lettersOk) ?_
                clear hR
                rintro v_ a w185 ⟨A189, c190, rfl, hrow191⟩ hb186 hR
                have hdis192 := Dis.newer hrow184 hrow191
                replace hkb146 := (hb186.block _ (Array.getElem?_eq_some_iff.1 hkb146).1).trans hkb146
                replace hrow184 := hrow184.below hb186
                replace hrow191 := (Row.of_own hrow191.own hlt187).mono hsz188
                refine At.stop (by kernel_rfl) ?_
                change An _ _ _ _ _ _ _
                refine An.take (i := 8) (ls' := #[true, true, true, true, true, true, true, true, true, false, false, false]) (op := (Op.extract (Operand.tmp 32) 0)) (.slice A189 ((listOf (turnedL lettersT ((⟨#[94]⟩ : ByteArray) ++ (strOfNums [(c - 65) + 97])))).length) c190) hR rfl (by kernel_rfl) (by kernel_rfl) (by kernel_rfl) (by kernel_rfl) (by kernel_rfl) (fun _ _ _ h => h) (by kernel_rfl) ?_
                clear hR
                intro a hR
                refine An.take (i := 9) (ls' := #[true, true, true, true, true, true, true, true, true, true, false, false]) (op := (Op.extract (Operand.tmp 32) 1)) (.int .i64 (codeOf (turnedL lettersT ((⟨#[94]⟩ : ByteArray) ++ (strOfNums [(c - 65) + 97]))))) hR rfl (by kernel_rfl) (by kernel_rfl) (by kernel_rfl) (by kernel_rfl) (by kernel_rfl) (fun _ _ _ h => h) (by kernel_rfl) ?_
                clear hR
                intro a hR
                refine An.take (i := 10) (ls' := #[true, true, true, true, true, true, true, true, true, true, true, false]) (op := (Op.assign (Operand.tmp 33))) (.slice A189 ((listOf (turnedL lettersT ((⟨#[94]⟩ : ByteArray) ++ (strOfNums [(c - 65) + 97])))).length) c190) hR rfl (by kernel_rfl) (by kernel_rfl) (by kernel_rfl) (by kernel_rfl) (by kernel_rfl) (fun _ _ _ h => h) (by kernel_rfl) ?_
                clear hR
                intro a hR
                refine An.take (i := 11) (ls' := #[true, true, true, true, true, true, true, true, true, true, true, true]) (op := (Op.assign (Operand.tmp 34))) (.int .i64 (codeOf (turnedL lettersT ((⟨#[94]⟩ : ByteArray) ++ (strOfNums [(c - 65) + 97]))))) hR rfl (by kernel_rfl) (by kernel_rfl) (by kernel_rfl) (by kernel_rfl) (by kernel_rfl) (fun _ _ _ h => h) (by kernel_rfl) ?_
                clear hR
                intro a hR
                refine An.stop (by kernel_rfl) ?_
                refine hK11 _ _ ?_
                refine wp_ret ?_
                exact ret2 (.v (.slice A189 ((listOf (turnedL lettersT ((⟨#[94]⟩ : ByteArray) ++ (strOfNums [(c - 65) + 97])))).length) c190)) (.v (.int .i64 (codeOf (turnedL lettersT ((⟨#[94]⟩ : ByteArray) ++ (strOfNums [(c - 65) + 97])))))) hR rfl (by kernel_rfl) (by kernel_rfl) ⟨_, rfl, hR.below, by rw [letter_up (by omega)]; exact ⟨_, _, rfl, hrow191⟩⟩
        ·
          have c125 := of_decide_eq_false c125
          refine wp_skip ?_
          refine hK2 _ _ ?_
          refine seqS fun K12 hK12 => ?_
          refine At.start ?_
          refine segP (i := 0) 2 [2, 3] (l' := [(2, .v (.slice none 0 0)), (3, .v (.int .i64 70))]) (H' := []) hR (by kernel_rfl) (by kernel_rfl) ?_
          clear hR
          intro a hR
          refine At.stop (by kernel_rfl) ?_
          refine hK12 _ _ ?_
          refine wp_ret ?_
          exact ret2 (.v (.slice none 0 0)) (.v (.int .i64 70)) hR rfl (by kernel_rfl) (by kernel_rfl) ⟨_, rfl, hR.below, by rw [letter_no (by omega)]; exact ⟨none, 0, rfl, Row.nil _ _ _ _ _ _⟩⟩

set_option maxRecDepth 10000 in
theorem Tryd.names_any (w : World) :
    Calls Tryd.prog 11 #[] w (RetB w fun v w' => ∃ A c, v = .slice A (propsT.map (·.1)).length c ∧ Row w' [] w.heap.size 9 1 Go.Rng.encS A c (propsT.map (·.1))) := by
  refine enter [] Tryd.func11 rfl ⟨17, rfl, rfl, rfl⟩ ?_
  intro a hR
  refine seqS fun K1 hK1 => ?_
  refine At.start ?_
  refine segP (i := 0) 1 [0] (l' := [(0, .v (.slice none 0 0))]) (H' := []) hR (by kernel_rfl) (by kernel_rfl) ?_
  clear hR
  intro a hR
  refine At.stop (by kernel_rfl) ?_
  refine hK1 _ _ ?_
  refine seqS fun K2 hK2 => ?_
  refine At.start ?_
  refine segP (i := 0) 1 [0, 1] (l' := [(0, .v (.slice none 0 0)), (1, .v (.slice none 0 0))]) (H' := []) hR (by kernel_rfl) (by kernel_rfl) ?_
  clear hR
  intro a hR
  refine At.stop (by kernel_rfl) ?_
  refine hK2 _ _ ?_
  refine seqS fun K3 hK3 => ?_
  refine seqS fun K4 hK4 => ?_
  refine At.start ?_
  have hlt3 := hR.vars.lt
  have hsz4 := Nat.le_refl w.heap.size
  refine callB (i := 0) 27 #[] hR rfl (by kernel_rfl) (by kernel_rfl) (by kernel_rfl) (Nat.le_refl _) (Tryd.properties_any _) ?_
  clear hR
  rintro v_ a w1 ⟨A5, c6, rfl, hrow7⟩ hb2 hR
  replace hrow7 := (Row.of_own hrow7.own hlt3).mono hsz4
  refine segP (i := 1) 2 [0, 1, 4, 5, 6] (l' := [(0, .v (.slice none 0 0)), (1, .v (.slice none 0 0)), (4, .v (.slice A5 propsT.length c6)), (5, .v (.int .i64 (propsT.length : Int))), (6, .v (.int .i64 0))]) (H' := []) hR (by kernel_rfl) (by kernel_rfl) ?_
  clear hR
  intro a hR
  refine At.stop (by kernel_rfl) ?_
  refine hK4 _ _ ?_
  refine wp_block ?_
  have hpl : propsT.length = 8 := rfl
  refine loopS (α := Option Addr × Nat × List ByteArray × Nat) (fun x_ a wr => match x_ with | (A2, c2, out, j) => Rel [] 17 w (w.heap.size) [] [(0, .v (.slice none 0 0)), (1, .v (.slice A2 out.length c2)), (4, .v (.slice A5 propsT.length c6)), (5, .v (.int .i64 (propsT.length : Int))), (6, .v (.int .i64 (j : Int)))] [] a wr ∧ (j ≤ propsT.length) ∧ (out.length ≤ j) ∧ (out = (propsT.take j).map (·.1)) ∧ (Row wr [] (w.heap.size) 9 1 Go.Rng.encS A2 c2 out) ∧ (Row wr [] (w.heap.size) 56 2 encN A5 c6 propsT) ∧ (Dis A5 A2)) (fun (x_ : Option Addr × Nat × List ByteArray × Nat) => match x_ with | (A2, c2, out, j) => propsT.length - j) (none, 0, [], 0) ?_ ?_
  · exact ⟨hR, by omega, by simp, rfl, Row.nil _ _ _ _ _ _, hrow7, Dis.nil _⟩
  rintro ⟨A2, c2, out, j⟩ a w8 hI
  clear hR
  obtain ⟨hR, hj, hol, ho, hrow, hrow7, hdis⟩ := hI
  refine seqS fun K5 hK5 => ?_
  refine At.start ?_
  refine segP (i := 0) 1 [0, 1, 4, 5, 6, 7] (l' := [(0, .v (.slice none 0 0)), (1, .v (.slice A2 out.length c2)), (4, .v (.slice A5 propsT.length c6)), (5, .v (.int .i64 (propsT.length : Int))), (6, .v (.int .i64 (j : Int))), (7, .v (.bool (decide ((j : Int) < (propsT.length : Int)))))]) (H' := []) hR (by kernel_rfl) (by kernel_rfl) ?_
  clear hR
  intro a hR
  refine At.stop (by kernel_rfl) ?_
  refine hK5 _ _ ?_
  refine seqS fun K6 hK6 => ?_
  refine condS (decide ((j : Int) < (propsT.length : Int))) hR (by kernel_rfl) (fun c9 => ?_) (fun c9 => ?_)
  ·
    have c9 := of_decide_eq_true c9
    refine wp_skip ?_
    refine hK6 _ _ ?_
    refine seqS fun K7 hK7 => ?_
    refine wp_block ?_
    refine seqS fun K8 hK8 => ?_
    refine At.start ?_
    obtain ⟨⟨nm11, tx12⟩, hxe10⟩ : ∃ x_, (propsT)[j]? = some x_ := ⟨_, List.getElem?_eq_getElem (by omega)⟩
    obtain ⟨ge10, hGe10, hloe10, hnbe10⟩ := hrow7.addr (by omega)
    subst hGe10
    obtain ⟨ade10, hAe10, hce10⟩ := (hrow7.rd encN_len) _ _ hxe10
    obtain rfl : ade10 = ⟨ge10, 0, none⟩ := (Option.some.inj hAe10).symm
    refine stepV (i := 0) (op := (Op.indexAddr 52 (Operand.tmp 4) (Operand.tmp 6))) (.pointer (some ((⟨ge10, 0, none⟩ : Addr).add (j * 2)))) hR rfl (by kernel_rfl) (by kernel_rfl) (run_indexAddr (e := 56) (k := 2) (ad := ⟨ge10, 0, none⟩) (len := propsT.length) (cap := c6) (kk := .i64) (i := (j : Int)) (by kernel_rfl) (by kernel_rfl) (by kernel_rfl) (by kernel_rfl) (by omega) (by omega)) ?_
    clear hR
    intro a hR
    refine stepV (i := 1) (op := (Op.load 56 (Operand.tmp 8))) (.agg #[.string nm11, .string tx12]) hR rfl (by kernel_rfl) (by kernel_rfl) (run_load_at (by kernel_rfl) (run_loadVar_agg (by kernel_rfl) (by kernel_rfl) hce10)) ?_
    clear hR
    intro a hR
    refine allocS (i := 2) [.string (⟨#[]⟩), .string (⟨#[]⟩)] hR rfl (by kernel_rfl) (by kernel_rfl) (by kernel_rfl) (hR.below.size) ?_
    clear hR
    intro b13 a w14 hb13 hsb13 hgb13 hR
    replace hrow := hrow.new hb13 hgb13
    replace hrow7 := hrow7.new hb13 hgb13
    refine seg (i := 3) 1 [0, 1, 3, 4, 5, 6] (l' := [(0, .v (.slice none 0 0)), (1, .v (.slice A2 out.length c2)), (3, .p 0 0), (4, .v (.slice (some ⟨ge10, 0, none⟩) propsT.length c6)), (5, .v (.int .i64 (propsT.length : Int))), (6, .v (.int .i64 (j : Int)))]) (H' := [([.v (.string nm11), .v (.string tx12)], 56)]) hR (by kernel_rfl) ?_
    clear hR
    intro a w15 hR hO16
    replace hrow := hrow.ownS hO16
    replace hrow7 := hrow7.ownS hO16
    refine At.stop (by kernel_rfl) ?_
    refine hK8 _ _ ?_
    refine At.start ?_
    refine segP (i := 0) 3 [0, 1, 4, 5, 6, 10, 12] (l' := [(0, .v (.slice none 0 0)), (1, .v (.slice A2 out.length c2)), (4, .v (.slice (some ⟨ge10, 0, none⟩) propsT.length c6)), (5, .v (.int .i64 (propsT.length : Int))), (6, .v (.int .i64 (j : Int))), (10, .v (.slice A2 out.length c2)), (12, .v (.string nm11))]) (H' := [([.v (.string nm11), .v (.string tx12)], 56)]) hR (by kernel_rfl) (by kernel_rfl) ?_
    clear hR
    intro a hR
    refine buildS (i := 3) 9 1 (.string (⟨#[]⟩)) [.string nm11] hR rfl (by kernel_rfl) (by kernel_rfl) (by kernel_rfl) (by kernel_rfl) (by kernel_rfl) (by kernel_rfl) (by kernel_rfl) (hR.below.size) ?_
    clear hR
    intro b17 a w18 hb17 hgb17 hkb17 hR
    replace hrow := hrow.below hgb17
    replace hrow7 := hrow7.below hgb17
    refine appendS (i := 4) (enc := Go.Rng.encS) (xs := out) [(nm11)] (.string ⟨#[]⟩) 16 (ad := ⟨b17, 0, none⟩) (cy := 1) hR hrow Go.Rng.encS_len Go.Rng.encS_one rfl (by kernel_rfl) (by kernel_rfl) (by kernel_rfl) (by kernel_rfl) rfl (blk_cells hkb17) (by kernel_rfl) (by kernel_rfl) (by kernel_rfl) (by decide) (by decide) (by (try simp only [List.length_cons, List.length_nil, List.length_append]); omega) (hR.below.size) (Nat.le_refl _) ?_
    clear hR
    intro A19 cp20 a w21 hrow22 hgr23 hat24 hR
    have hdis25 : Dis (some ⟨ge10, 0, none⟩) A19 := Dis.app hdis hrow7 hat24
    replace hrow7 := hrow7.grownD hgr23 hdis
    refine segP (i := 5) 1 [0, 1, 4, 5, 6] (l' := [(0, .v (.slice none 0 0)), (1, .v (.slice A19 ((out ++ [(nm11)]).length) cp20)), (4, .v (.slice (some ⟨ge10, 0, none⟩) propsT.length c6)), (5, .v (.int .i64 (propsT.length : Int))), (6, .v (.int .i64 (j : Int)))]) (H' := [([.v (.string nm11), .v (.string tx12)], 56)]) hR (by kernel_rfl) (by kernel_rfl) ?_
    clear hR
    intro a hR
    refine At.stop (by kernel_rfl) ?_
    refine hK7 _ _ ?_
    refine At.start ?_
    refine segP (i := 0) 2 [0, 1, 4, 5, 6] (l' := [(0, .v (.slice none 0 0)), (1, .v (.slice A19 ((out ++ [(nm11)]).length) cp20)), (4, .v (.slice (some ⟨ge10, 0, none⟩) propsT.length c6)), (5, .v (.int .i64 (propsT.length : Int))), (6, .v (.int .i64 (IntKind.i64.wrap ((j : Int) + 1))))]) (H' := [([.v (.string nm11), .v (.string tx12)], 56)]) hR (by kernel_rfl) (by kernel_rfl) ?_
    clear hR
    intro a hR
    rw [show IntKind.i64.wrap ((j : Int) + 1) = ((j : Int) + 1) from wrap_i64 (by omega) (by omega)] at hR
    refine At.stop (by kernel_rfl) ?_
    refine ⟨(A19, cp20, (out ++ [(nm11)]), j + 1), ⟨?_, ?_, ?_, ?_, ?_, ?_, ?_⟩, ?_⟩
    · exact (hR.trimTo 0 [0, 1, 4, 5, 6] (by kernel_rfl) (by kernel_rfl) (by kernel_rfl))
    · omega
    · (try simp only [List.length_append, List.length_singleton]); omega
    · rw [take_snoc hxe10, List.map_append, ho]; rfl
    · exact hrow22.trim 0 rfl
    · exact hrow7.trim 0 rfl
    · exact hdis25
    · show _ < _
      dsimp only
      omega
  ·
    have c9 := of_decide_eq_false c9
    refine wp_exit ?_
    refine hK3 _ _ ?_
    refine seqS fun K9 hK9 => ?_
    refine At.start ?_
    refine segP (i := 0) 2 [0] (l' := [(0, .v (.slice A2 out.length c2))]) (H' := []) hR (by kernel_rfl) (by kernel_rfl) ?_
    clear hR
    intro a hR
    refine At.stop (by kernel_rfl) ?_
    refine hK9 _ _ ?_
    refine wp_ret ?_
    have e : out = propsT.map (·.1) := by
      have hj8 : j = propsT.length := by omega
      rw [ho, hj8, List.take_length]
    exact ret1 (.v (.slice A2 out.length c2)) hR rfl (by kernel_rfl) ⟨_, rfl, hR.below, ⟨_, _, by rw [← e]; rfl, by rw [← e]; exact hrow⟩⟩

end Go.Proofs

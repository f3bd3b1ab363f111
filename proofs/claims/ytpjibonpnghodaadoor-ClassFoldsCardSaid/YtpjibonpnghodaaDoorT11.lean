/- Walks of functions. -/
import Derived.Test.YtpjibonpnghodaaDoorT10
import Derived.Test.YtpjibonpnghodaaDoorF
set_option linter.unusedVariables false
set_option linter.unusedSimpArgs false
namespace Go.Proofs
open Go.RowKit Go.KW Go.Rng
set_option maxRecDepth 10000 in
theorem Tryd.splitH (t : ByteArray) (mx : Int) (w : World) (hM : w.cell? ⟨0, 0, none⟩ = some (.int .i64 mx)) (ht : t.size < 1000000) : Calls Tryd.prog 46 #[.string t, .string ⟨#[32]⟩] w (RetB w fun v w' => ∃ g, v = .slice (some ⟨g, 0, none⟩) (wordsB t).length (wordsB t).length ∧ w'.heap[g]? = some (.cells ((wordsB t).map Value.string).toArray 9 (0, 0))) := by
  refine (Tryd.strings_Split t ⟨#[32]⟩ mx w (by omega) hM (by decide)).mono ?_
  rintro e w' ⟨rfl, rfl⟩
  refine ⟨_, rfl, Below.alloc (Below.refl _ _) (Nat.le_refl _) _, w.heap.size, by rw [wordsB_length], heap_alloc_new _ _⟩
theorem Tryd.cutH (s : ByteArray) (mx : Int) (w : World) (hM : w.cell? ⟨0, 0, none⟩ = some (.int .i64 mx)) (hs : s.size < 1000000) : Calls Tryd.prog 47 #[.string s, .string ⟨#[45]⟩] w (RetB w fun v w' => ∃ (c1 c2 : ByteArray) (tw : Bool), v = .tuple #[.string c1, .string c2, .bool tw] ∧ c1.data.toList = (Lib.cut s.data.toList [45]).1 ∧ c2.data.toList = (Lib.cut s.data.toList [45]).2.1 ∧ tw = (Lib.cut s.data.toList [45]).2.2) := by
  refine (Tryd.strings_Cut s ⟨#[45]⟩ mx w (by omega) hM).mono ?_
  rintro e w' ⟨rfl, n, rfl⟩
  exact ⟨_, rfl, ⟨rfl, rfl, rfl, Nat.le_refl _, fun _ _ => rfl⟩, _, _, _, rfl, rfl, rfl, rfl⟩

set_option maxRecDepth 10000 in
theorem Tryd.pieces1 (lo lp m0 : Nat) (ad : Addr) (t : ByteArray) (mx : Int) (J Jx : List (Int × Int) → World → Prop) (w : World) (hJ : AbidesFrom w.heap.size J) (hf : Pt w ad [.string t]) (hM : w.cell? ⟨0, 0, none⟩ = some (.int .i64 mx)) (hlo0 : 0 < lo) (hlo : lo ≤ w.heap.size) (ht : textOk t.data.toList = true) (hY : ∀ pre (x : Int × Int) W1, J pre W1 → pre.length < 1000000000000 → YieldAt Fence.wide m0 Tryd.prog lp #[.agg #[.int .i64 x.1, .int .i64 x.2]] W1 fun e W' => (e = .returned (.bool true) ∧ J (pre ++ [x]) W' ∧ Upd lo 23 34 W1 W') ∨ (e = .returned (.bool false) ∧ Jx (pre ++ [x]) W')) (h0 : J [] w) (hV : Vars 0 [] [] w) :
    Calls Tryd.prog 45 #[.func (.yield lp) #[] #[], .pointer (some ad)] w fun e w' => (∃ v, e = .returned v) ∧ ((∃ xs, xs = piecesL t.data.toList ∧ J xs w') ∨ (∃ pre : List (Int × Int), True ∧ Jx pre w')) := by
  refine enterV 0 [(0, .v (.func (.yield lp) #[] #[])), (1, .v (.pointer (some ad)))] [(0, .v (.func (.yield lp) #[] #[])), (1, .v (.pointer (some ad)))] hV Tryd.func45 rfl ⟨33, rfl, rfl, rfl⟩ rfl ?_
  intro a hR
  have hsz : t.size < 1000000 := by have h1 := ht; simp only [textOk, Bool.and_eq_true, decide_eq_true_eq] at h1; rw [Lib.size_eq]; exact h1.1
  have hJs := h0
  have hwl := words_length_le t
  have hsw := Nat.le_refl w.heap.size
  refine seqS fun K1 hK1 => ?_
  refine At.start ?_
  refine stepV (i := 0) (op := (Op.load 9 (Operand.tmp 1))) (.string t) hR rfl (by kernel_rfl) (by kernel_rfl) (run_load_at (by kernel_rfl) (run_loadVar_one0 (by kernel_rfl) (hf 0 _ rfl))) ?_
  clear hR
  intro a hR
  refine callB (i := 1) 46 #[.string t, .string (⟨#[32]⟩)] hR rfl (by kernel_rfl) (by kernel_rfl) (by kernel_rfl) (Nat.zero_le _) (Tryd.splitH t mx _ hM hsz) ?_
  clear hR
  rintro v_ a w1 ⟨g, rfl, hg⟩ hb2 hR
  replace hJs := hJ _ _ _ none hJs (grown_of_below hb2) (fun r e => by cases e)
  replace hM := cell_below hb2 hM (cell_lt hM)
  replace hlo := Nat.le_trans hlo hb2.size
  refine segP (i := 2) 2 [0, 9, 10, 11] (l' := [(0, .v (.func (.yield lp) #[] #[])), (9, .v (.slice (some ⟨g, 0, none⟩) ((wordsB t).length) ((wordsB t).length))), (10, .v (.int .i64 ((wordsB t).length : Int))), (11, .v (.int .i64 0))]) (H' := []) hR (by kernel_rfl) (by kernel_rfl) ?_
  clear hR
  intro a hR
  refine At.stop (by kernel_rfl) ?_
  refine hK1 _ _ ?_
  refine wp_block ?_
  refine loopS (α := Nat × List (Int × Int)) (fun x_ a wr => match x_ with | (j, pre) => Rel [] 33 w (0) [] [(0, .v (.func (.yield lp) #[] #[])), (9, .v (.slice (some ⟨g, 0, none⟩) ((wordsB t).length) ((wordsB t).length))), (10, .v (.int .i64 ((wordsB t).length : Int))), (11, .v (.int .i64 (j : Int)))] [] a wr ∧ (j ≤ (wordsB t).length) ∧ (pre.length ≤ j) ∧ (pre = (piecesL t.data.toList).take j) ∧ (J pre wr) ∧ (wr.cell? ⟨0, 0, none⟩ = some (.int .i64 mx)) ∧ (lo ≤ wr.heap.size) ∧ (w.heap.size ≤ wr.heap.size) ∧ (wr.heap[g]? = some (.cells ((wordsB t).map Value.string).toArray 9 (0, 0)))) (fun (x_ : Nat × List (Int × Int)) => match x_ with | (j, pre) => (wordsB t).length - j) (0, []) ?_ ?_
  · exact ⟨hR, by omega, by simp, by simp, hJs, hM, hlo, hR.below.size, hg⟩
  rintro ⟨j, pre⟩ a w3 hI
  clear hR
  obtain ⟨hR, hj, hpl, hpre, hJs, hM, hlo, hsw, hg⟩ := hI
  refine seqS fun K2 hK2 => ?_
  refine At.start ?_
  refine segP (i := 0) 1 [0, 9, 10, 11, 12] (l' := [(0, .v (.func (.yield lp) #[] #[])), (9, .v (.slice (some ⟨g, 0, none⟩) ((wordsB t).length) ((wordsB t).length))), (10, .v (.int .i64 ((wordsB t).length : Int))), (11, .v (.int .i64 (j : Int))), (12, .v (.bool (decide ((j : Int) < ((wordsB t).length : Int)))))]) (H' := []) hR (by kernel_rfl) (by kernel_rfl) ?_
  clear hR
  intro a hR
  refine At.stop (by kernel_rfl) ?_
  refine hK2 _ _ ?_
  refine seqS fun K3 hK3 => ?_
  refine condS (decide ((j : Int) < ((wordsB t).length : Int))) hR (by kernel_rfl) (fun c4 => ?_) (fun c4 => ?_)
  ·
    have c4 := of_decide_eq_true c4
    refine wp_skip ?_
    refine hK3 _ _ ?_
    refine seqS fun K4 hK4 => ?_
    refine wp_block ?_
    refine seqS fun K5 hK5 => ?_
    refine At.start ?_
    obtain ⟨s6, hxe5⟩ : ∃ x_, ((wordsB t))[j]? = some x_ := ⟨_, List.getElem?_eq_getElem (by omega)⟩
    obtain ⟨ade5, hAe5, hce5⟩ := (Rd_str hg) _ _ hxe5
    obtain rfl : ade5 = ⟨g, 0, none⟩ := (Option.some.inj hAe5).symm
    refine stepV (i := 0) (op := (Op.indexAddr 35 (Operand.tmp 9) (Operand.tmp 11))) (.pointer (some ((⟨g, 0, none⟩ : Addr).add (j * 1)))) hR rfl (by kernel_rfl) (by kernel_rfl) (run_indexAddr (e := 9) (k := 1) (ad := ⟨g, 0, none⟩) (len := (wordsB t).length) (cap := (wordsB t).length) (kk := .i64) (i := (j : Int)) (by kernel_rfl) (by kernel_rfl) (by kernel_rfl) (by kernel_rfl) (by omega) (by omega)) ?_
    clear hR
    intro a hR
    refine stepV (i := 1) (op := (Op.load 9 (Operand.tmp 13))) (.string s6) hR rfl (by kernel_rfl) (by kernel_rfl) (run_load_at (by kernel_rfl) (run_loadVar_one0 (by kernel_rfl) (hce5 0 _ rfl))) ?_
    clear hR
    intro a hR
    refine segP (i := 2) 1 [0, 4, 9, 10, 11] (l' := [(0, .v (.func (.yield lp) #[] #[])), (4, .v (.string s6)), (9, .v (.slice (some ⟨g, 0, none⟩) ((wordsB t).length) ((wordsB t).length))), (10, .v (.int .i64 ((wordsB t).length : Int))), (11, .v (.int .i64 (j : Int)))]) (H' := []) hR (by kernel_rfl) (by kernel_rfl) ?_
    clear hR
    intro a hR
    refine At.stop (by kernel_rfl) ?_
    refine hK5 _ _ ?_
    refine seqS fun K6 hK6 => ?_
    refine At.start ?_
    refine segP (i := 0) 1 [0, 9, 10, 11, 16] (l' := [(0, .v (.func (.yield lp) #[] #[])), (9, .v (.slice (some ⟨g, 0, none⟩) ((wordsB t).length) ((wordsB t).length))), (10, .v (.int .i64 ((wordsB t).length : Int))), (11, .v (.int .i64 (j : Int))), (16, .v (.string s6))]) (H' := []) hR (by kernel_rfl) (by kernel_rfl) ?_
    clear hR
    intro a hR
    have hsh := wordsB_short ht (List.mem_of_getElem? hxe5)
    have hcs := cut_short s6.data.toList
    have hxs : s6.size = s6.data.toList.length := Lib.size_eq _
    refine callB (i := 1) 47 #[.string s6, .string (⟨#[45]⟩)] hR rfl (by kernel_rfl) (by kernel_rfl) (by kernel_rfl) (Nat.zero_le _) (Tryd.cutH s6 mx _ hM (by omega)) ?_
    clear hR
    rintro v_ a w7 ⟨c1, c2, tw, rfl, hc1, hc2, hc3⟩ hb8 hR
    replace hJs := hJ _ _ _ none hJs (grown_of_below hb8) (fun r e => by cases e)
    replace hM := cell_below hb8 hM (cell_lt hM)
    replace hlo := Nat.le_trans hlo hb8.size
    replace hsw := Nat.le_trans hsw hb8.size
    replace hg := (hb8.block _ (Array.getElem?_eq_some_iff.1 hg).1).trans hg
    have hs1 : c1.size ≤ 12 := by rw [Lib.size_eq, hc1]; omega
    have hs2 : c2.size ≤ 12 := by rw [Lib.size_eq, hc2]; omega
    refine segP (i := 2) 7 [0, 5, 6, 7, 9, 10, 11] (l' := [(0, .v (.func (.yield lp) #[] #[])), (5, .v (.string c1)), (6, .v (.string c2)), (7, .v (.bool tw)), (9, .v (.slice (some ⟨g, 0, none⟩) ((wordsB t).length) ((wordsB t).length))), (10, .v (.int .i64 ((wordsB t).length : Int))), (11, .v (.int .i64 (j : Int)))]) (H' := []) hR (by kernel_rfl) (by kernel_rfl) ?_
    clear hR
    intro a hR
    refine At.stop (by kernel_rfl) ?_
    refine hK6 _ _ ?_
    refine seqS fun K7 hK7 => ?_
    refine seqS fun K8 hK8 => ?_
    refine At.start ?_
    refine segP (i := 0) 2 [0, 5, 6, 9, 10, 11, 22] (l' := [(0, .v (.func (.yield lp) #[] #[])), (5, .v (.string c1)), (6, .v (.string c2)), (9, .v (.slice (some ⟨g, 0, none⟩) ((wordsB t).length) ((wordsB t).length))), (10, .v (.int .i64 ((wordsB t).length : Int))), (11, .v (.int .i64 (j : Int))), (22, .v (.bool (!tw)))]) (H' := []) hR (by kernel_rfl) (by kernel_rfl) ?_
    clear hR
    intro a hR
    refine At.stop (by kernel_rfl) ?_
    refine hK8 _ _ ?_
    refine condS (!tw) hR (by kernel_rfl) (fun c9 => ?_) (fun c9 => ?_)
    ·
      refine At.start ?_
      refine segP (i := 0) 2 [0, 5, 6, 9, 10, 11] (l' := [(0, .v (.func (.yield lp) #[] #[])), (5, .v (.string c1)), (6, .v (.string c1)), (9, .v (.slice (some ⟨g, 0, none⟩) ((wordsB t).length) ((wordsB t).length))), (10, .v (.int .i64 ((wordsB t).length : Int))), (11, .v (.int .i64 (j : Int)))]) (H' := []) hR (by kernel_rfl) (by kernel_rfl) ?_
      clear hR
      intro a hR
      refine At.stop (by kernel_rfl) ?_
      refine hK7 _ _ ?_
      refine seqS fun K9 hK9 => ?_
      refine region_yield 6 rfl (by kernel_rfl) (fun ⟨a_, w_, h_⟩ => by have h2 : (∃ v, Ending.outgrown = Ending.returned v) ∧ _ := h_; obtain ⟨⟨v, hv⟩, _⟩ := h2; cases hv) ?_
      refine segP (i := 0) 2 [0, 6, 9, 10, 11, 24, 25] (l' := [(0, .v (.func (.yield lp) #[] #[])), (6, .v (.string c1)), (9, .v (.slice (some ⟨g, 0, none⟩) ((wordsB t).length) ((wordsB t).length))), (10, .v (.int .i64 ((wordsB t).length : Int))), (11, .v (.int .i64 (j : Int))), (24, .v (.func (.yield lp) #[] #[])), (25, .v (.string c1))]) (H' := []) hR (by kernel_rfl) (by kernel_rfl) ?_
      clear hR
      intro a hR
      refine callB (i := 2) 48 #[.string c1] hR rfl (by kernel_rfl) (by kernel_rfl) (by kernel_rfl) (Nat.zero_le _) (Tryd.number_any c1 _ hs1) ?_
      clear hR
      rintro v_ a w10 rfl hb11 hR
      replace hJs := hJ _ _ _ none hJs (grown_of_below hb11) (fun r e => by cases e)
      replace hM := cell_below hb11 hM (cell_lt hM)
      replace hlo := Nat.le_trans hlo hb11.size
      replace hsw := Nat.le_trans hsw hb11.size
      replace hg := (hb11.block _ (Array.getElem?_eq_some_iff.1 hg).1).trans hg
      refine segP (i := 3) 1 [0, 9, 10, 11, 24, 26, 27] (l' := [(0, .v (.func (.yield lp) #[] #[])), (9, .v (.slice (some ⟨g, 0, none⟩) ((wordsB t).length) ((wordsB t).length))), (10, .v (.int .i64 ((wordsB t).length : Int))), (11, .v (.int .i64 (j : Int))), (24, .v (.func (.yield lp) #[] #[])), (26, .v (.int .i64 (numL c1.data.toList))), (27, .v (.string c1))]) (H' := []) hR (by kernel_rfl) (by kernel_rfl) ?_
      clear hR
      intro a hR
      refine callB (i := 4) 48 #[.string c1] hR rfl (by kernel_rfl) (by kernel_rfl) (by kernel_rfl) (Nat.zero_le _) (Tryd.number_any c1 _ hs1) ?_
      clear hR
      rintro v_ a w12 rfl hb13 hR
      replace hJs := hJ _ _ _ none hJs (grown_of_below hb13) (fun r e => by cases e)
      replace hM := cell_below hb13 hM (cell_lt hM)
      replace hlo := Nat.le_trans hlo hb13.size
      replace hsw := Nat.le_trans hsw hb13.size
      replace hg := (hb13.block _ (Array.getElem?_eq_some_iff.1 hg).1).trans hg
      refine segP (i := 5) 1 [0, 9, 10, 11, 24, 29] (l' := [(0, .v (.func (.yield lp) #[] #[])), (9, .v (.slice (some ⟨g, 0, none⟩) ((wordsB t).length) ((wordsB t).length))), (10, .v (.int .i64 ((wordsB t).length : Int))), (11, .v (.int .i64 (j : Int))), (24, .v (.func (.yield lp) #[] #[])), (29, .v (.agg #[.int .i64 (numL c1.data.toList), .int .i64 (numL c1.data.toList)]))]) (H' := []) hR (by kernel_rfl) (by kernel_rfl) ?_
      clear hR
      intro a hR
      refine At.stop (by kernel_rfl) ?_
      refine ⟨rfl, ?_⟩
      have hx1 : numL c1.data.toList = (pieceL s6.data.toList).1 := by rw [hc1]; rfl
      have htw : tw = false := by simpa using c9
      have hx2 : numL c1.data.toList = (pieceL s6.data.toList).2 := by unfold pieceL; rw [← hc3, htw]; simp [hc1, hc2]
      have hx2' := hx2
      rw [hx1] at hR
      refine yieldS (k := 6) (lp := lp) (m := m0) (args := #[.agg #[.int .i64 (pieceL s6.data.toList).1, .int .i64 (pieceL s6.data.toList).1]]) hR (by kernel_rfl) (by kernel_rfl) (by kernel_rfl) (by have e : (pieceL s6.data.toList).1 = (pieceL s6.data.toList).2 := hx1.symm.trans hx2'; have h9 := hY pre (pieceL s6.data.toList) _ hJs (by omega); rw [← e] at h9; exact h9) ?_
      rintro e WY (⟨rfl, hJ2, hU⟩ | ⟨rfl, hJ2⟩)
      ·
        refine ⟨_, rfl, fun a hF => ?_⟩
        have hB9 := hR.below
        clear hR
        have hR : Rel [] 33 w 0 [] _ [] a WY := ⟨hF, Vars.nil 0 WY, hB9.trans (hU.below.mono (Nat.zero_le _))⟩
        replace hM := cell_below hU.below hM hlo0
        replace hg := hU.cells _ _ _ _ hg (by decide) (by decide)
        replace hlo := Nat.le_trans hlo hU.below.size
        replace hsw := Nat.le_trans hsw hU.below.size
        replace hJs := hJ2
        refine segP (i := 0) 1 [0, 9, 10, 11, 31] (l' := [(0, .v (.func (.yield lp) #[] #[])), (9, .v (.slice (some ⟨g, 0, none⟩) ((wordsB t).length) ((wordsB t).length))), (10, .v (.int .i64 ((wordsB t).length : Int))), (11, .v (.int .i64 (j : Int))), (31, .v (.bool false))]) (H' := []) hR (by kernel_rfl) (by kernel_rfl) ?_
        clear hR
        intro a hR
        refine At.stop (by kernel_rfl) ?_
        refine hK9 _ _ ?_
        refine wp_cond_false (hR.fr.eval (by kernel_rfl : evS _ _ = some (.v (.bool false)))) ?_
        refine wp_skip ?_
        refine hK4 _ _ ?_
        refine At.start ?_
        refine segP (i := 0) 2 [0, 9, 10, 11] (l' := [(0, .v (.func (.yield lp) #[] #[])), (9, .v (.slice (some ⟨g, 0, none⟩) ((wordsB t).length) ((wordsB t).length))), (10, .v (.int .i64 ((wordsB t).length : Int))), (11, .v (.int .i64 (IntKind.i64.wrap ((j : Int) + 1))))]) (H' := []) hR (by kernel_rfl) (by kernel_rfl) ?_
        clear hR
        intro a hR
        rw [show IntKind.i64.wrap ((j : Int) + 1) = ((j : Int) + 1) from wrap_i64 (by omega) (by omega)] at hR
        refine At.stop (by kernel_rfl) ?_
        refine ⟨(j + 1, pre ++ [pieceL s6.data.toList]), ⟨?_, ?_, ?_, ?_, ?_, ?_, ?_, ?_, ?_⟩, ?_⟩
        · exact (hR.trimTo 0 [0, 9, 10, 11] (by kernel_rfl) (by kernel_rfl) (by kernel_rfl))
        · omega
        · simp only [List.length_append, List.length_singleton]; omega
        · exact piecesL_take hpre hxe5
        · exact hJs
        · exact hM
        · exact hlo
        · exact hsw
        · exact hg
        · show _ < _
          dsimp only
          omega
      ·
        refine ⟨_, rfl, fun a hF => ?_⟩
        have hB9 := hR.below
        clear hR
        have hR : Rel [] 33 WY 0 [] _ [] a WY := ⟨hF, Vars.nil 0 WY, Below.refl _ _⟩
        refine segP (i := 0) 1 [0, 9, 10, 11, 31] (l' := [(0, .v (.func (.yield lp) #[] #[])), (9, .v (.slice (some ⟨g, 0, none⟩) ((wordsB t).length) ((wordsB t).length))), (10, .v (.int .i64 ((wordsB t).length : Int))), (11, .v (.int .i64 (j : Int))), (31, .v (.bool true))]) (H' := []) hR (by kernel_rfl) (by kernel_rfl) ?_
        clear hR
        intro a hR
        refine At.stop (by kernel_rfl) ?_
        refine hK9 _ _ ?_
        refine wp_cond_true (hR.fr.eval (by kernel_rfl : evS _ _ = some (.v (.bool true)))) ?_
        refine wp_ret ?_
        show bodyPost Tryd.prog Tryd.f45 (fun e w' => (∃ v, e = .returned v) ∧ ((∃ xs, xs = piecesL t.data.toList ∧ J xs w') ∨ (∃ pre : List (Int × Int), True ∧ Jx pre w'))) .ret _ _
        exact ret0 hR rfl ⟨⟨_, rfl⟩, .inr ⟨_, trivial, hJ2⟩⟩
    ·
      refine wp_skip ?_
      refine hK7 _ _ ?_
      refine seqS fun K10 hK10 => ?_
      refine region_yield 6 rfl (by kernel_rfl) (fun ⟨a_, w_, h_⟩ => by have h2 : (∃ v, Ending.outgrown = Ending.returned v) ∧ _ := h_; obtain ⟨⟨v, hv⟩, _⟩ := h2; cases hv) ?_
      refine segP (i := 0) 2 [0, 6, 9, 10, 11, 24, 25] (l' := [(0, .v (.func (.yield lp) #[] #[])), (6, .v (.string c2)), (9, .v (.slice (some ⟨g, 0, none⟩) ((wordsB t).length) ((wordsB t).length))), (10, .v (.int .i64 ((wordsB t).length : Int))), (11, .v (.int .i64 (j : Int))), (24, .v (.func (.yield lp) #[] #[])), (25, .v (.string c1))]) (H' := []) hR (by kernel_rfl) (by kernel_rfl) ?_
      clear hR
      intro a hR
      refine callB (i := 2) 48 #[.string c1] hR rfl (by kernel_rfl) (by kernel_rfl) (by kernel_rfl) (Nat.zero_le _) (Tryd.number_any c1 _ hs1) ?_
      clear hR
      rintro v_ a w14 rfl hb15 hR
      replace hJs := hJ _ _ _ none hJs (grown_of_below hb15) (fun r e => by cases e)
      replace hM := cell_below hb15 hM (cell_lt hM)
      replace hlo := Nat.le_trans hlo hb15.size
      replace hsw := Nat.le_trans hsw hb15.size
      replace hg := (hb15.block _ (Array.getElem?_eq_some_iff.1 hg).1).trans hg
      refine segP (i := 3) 1 [0, 9, 10, 11, 24, 26, 27] (l' := [(0, .v (.func (.yield lp) #[] #[])), (9, .v (.slice (some ⟨g, 0, none⟩) ((wordsB t).length) ((wordsB t).length))), (10, .v (.int .i64 ((wordsB t).length : Int))), (11, .v (.int .i64 (j : Int))), (24, .v (.func (.yield lp) #[] #[])), (26, .v (.int .i64 (numL c1.data.toList))), (27, .v (.string c2))]) (H' := []) hR (by kernel_rfl) (by kernel_rfl) ?_
      clear hR
      intro a hR
      refine callB (i := 4) 48 #[.string c2] hR rfl (by kernel_rfl) (by kernel_rfl) (by kernel_rfl) (Nat.zero_le _) (Tryd.number_any c2 _ hs2) ?_
      clear hR
      rintro v_ a w16 rfl hb17 hR
      replace hJs := hJ _ _ _ none hJs (grown_of_below hb17) (fun r e => by cases e)
      replace hM := cell_below hb17 hM (cell_lt hM)
      replace hlo := Nat.le_trans hlo hb17.size
      replace hsw := Nat.le_trans hsw hb17.size
      replace hg := (hb17.block _ (Array.getElem?_eq_some_iff.1 hg).1).trans hg
      refine segP (i := 5) 1 [0, 9, 10, 11, 24, 29] (l' := [(0, .v (.func (.yield lp) #[] #[])), (9, .v (.slice (some ⟨g, 0, none⟩) ((wordsB t).length) ((wordsB t).length))), (10, .v (.int .i64 ((wordsB t).length : Int))), (11, .v (.int .i64 (j : Int))), (24, .v (.func (.yield lp) #[] #[])), (29, .v (.agg #[.int .i64 (numL c1.data.toList), .int .i64 (numL c2.data.toList)]))]) (H' := []) hR (by kernel_rfl) (by kernel_rfl) ?_
      clear hR
      intro a hR
      refine At.stop (by kernel_rfl) ?_
      refine ⟨rfl, ?_⟩
      have hx1 : numL c1.data.toList = (pieceL s6.data.toList).1 := by rw [hc1]; rfl
      have htw : tw = true := by simpa using c9
      have hx2 : numL c2.data.toList = (pieceL s6.data.toList).2 := by unfold pieceL; rw [← hc3, htw]; simp [hc1, hc2]
      refine yieldS (k := 6) (lp := lp) (m := m0) (args := #[.agg #[.int .i64 (numL c1.data.toList), .int .i64 (numL c2.data.toList)]]) hR (by kernel_rfl) (by kernel_rfl) (by kernel_rfl) (by rw [hx1, hx2]; exact hY pre (pieceL s6.data.toList) _ hJs (by omega)) ?_
      rintro e WY (⟨rfl, hJ2, hU⟩ | ⟨rfl, hJ2⟩)
      ·
        refine ⟨_, rfl, fun a hF => ?_⟩
        have hB9 := hR.below
        clear hR
        have hR : Rel [] 33 w 0 [] _ [] a WY := ⟨hF, Vars.nil 0 WY, hB9.trans (hU.below.mono (Nat.zero_le _))⟩
        replace hM := cell_below hU.below hM hlo0
        replace hg := hU.cells _ _ _ _ hg (by decide) (by decide)
        replace hlo := Nat.le_trans hlo hU.below.size
        replace hsw := Nat.le_trans hsw hU.below.size
        replace hJs := hJ2
        refine segP (i := 0) 1 [0, 9, 10, 11, 31] (l' := [(0, .v (.func (.yield lp) #[] #[])), (9, .v (.slice (some ⟨g, 0, none⟩) ((wordsB t).length) ((wordsB t).length))), (10, .v (.int .i64 ((wordsB t).length : Int))), (11, .v (.int .i64 (j : Int))), (31, .v (.bool false))]) (H' := []) hR (by kernel_rfl) (by kernel_rfl) ?_
        clear hR
        intro a hR
        refine At.stop (by kernel_rfl) ?_
        refine hK10 _ _ ?_
        refine wp_cond_false (hR.fr.eval (by kernel_rfl : evS _ _ = some (.v (.bool false)))) ?_
        refine wp_skip ?_
        refine hK4 _ _ ?_
        refine At.start ?_
        refine segP (i := 0) 2 [0, 9, 10, 11] (l' := [(0, .v (.func (.yield lp) #[] #[])), (9, .v (.slice (some ⟨g, 0, none⟩) ((wordsB t).length) ((wordsB t).length))), (10, .v (.int .i64 ((wordsB t).length : Int))), (11, .v (.int .i64 (IntKind.i64.wrap ((j : Int) + 1))))]) (H' := []) hR (by kernel_rfl) (by kernel_rfl) ?_
        clear hR
        intro a hR
        rw [show IntKind.i64.wrap ((j : Int) + 1) = ((j : Int) + 1) from wrap_i64 (by omega) (by omega)] at hR
        refine At.stop (by kernel_rfl) ?_
        refine ⟨(j + 1, pre ++ [pieceL s6.data.toList]), ⟨?_, ?_, ?_, ?_, ?_, ?_, ?_, ?_, ?_⟩, ?_⟩
        · exact (hR.trimTo 0 [0, 9, 10, 11] (by kernel_rfl) (by kernel_rfl) (by kernel_rfl))
        · omega
        · simp only [List.length_append, List.length_singleton]; omega
        · exact piecesL_take hpre hxe5
        · exact hJs
        · exact hM
        · exact hlo
        · exact hsw
        · exact hg
        · show _ < _
          dsimp only
          omega
      ·
        refine ⟨_, rfl, fun a hF => ?_⟩
        have hB9 := hR.below
        clear hR
        have hR : Rel [] 33 WY 0 [] _ [] a WY := ⟨hF, Vars.nil 0 WY, Below.refl _ _⟩
        refine segP (i := 0) 1 [0, 9, 10, 11, 31] (l' := [(0, .v (.func (.yield lp) #[] #[])), (9, .v (.slice (some ⟨g, 0, none⟩) ((wordsB t).length) ((wordsB t).length))), (10, .v (.int .i64 ((wordsB t).length : Int))), (11, .v (.int .i64 (j : Int))), (31, .v (.bool true))]) (H' := []) hR (by kernel_rfl) (by kernel_rfl) ?_
        clear hR
        intro a hR
        refine At.stop (by kernel_rfl) ?_
        refine hK10 _ _ ?_
        refine wp_cond_true (hR.fr.eval (by kernel_rfl : evS _ _ = some (.v (.bool true)))) ?_
        refine wp_ret ?_
        show bodyPost Tryd.prog Tryd.f45 (fun e w' => (∃ v, e = .returned v) ∧ ((∃ xs, xs = piecesL t.data.toList ∧ J xs w') ∨ (∃ pre : List (Int × Int), True ∧ Jx pre w'))) .ret _ _
        exact ret0 hR rfl ⟨⟨_, rfl⟩, .inr ⟨_, trivial, hJ2⟩⟩
  ·
    have c4 := of_decide_eq_false c4
    refine wp_exit ?_
    have e : pre = piecesL t.data.toList := by
      have hjl : j = (wordsB t).length := by omega
      rw [hpre, hjl, ← piecesL_length, List.take_length]
    show bodyPost Tryd.prog Tryd.f45 (fun e w' => (∃ v, e = .returned v) ∧ ((∃ xs, xs = piecesL t.data.toList ∧ J xs w') ∨ (∃ pre : List (Int × Int), True ∧ Jx pre w'))) .normal _ _
    exact end0 hR rfl ⟨⟨_, rfl⟩, .inl ⟨_, e, hJs⟩⟩

end Go.Proofs

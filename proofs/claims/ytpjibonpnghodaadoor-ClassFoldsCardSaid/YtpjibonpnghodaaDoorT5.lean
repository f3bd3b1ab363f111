/- Walks of functions. -/
import Derived.Test.YtpjibonpnghodaaDoorT4
set_option linter.unusedVariables false
set_option linter.unusedSimpArgs false
namespace Go.Proofs
open Go.RowKit Go.KW Go.Rng
set_option maxRecDepth 10000 in
theorem Tryd.not_any (A : Option Addr) (c : Nat) (l : List (Int × Int)) (w : World) (hl : Rd w 2 encR A l) (hn : l.length ≤ 1000000000000) :
    Calls Tryd.prog 36 #[.slice A l.length c] w (RetB w fun v w' => ∃ A c, v = .slice A (notL l).length c ∧ Row w' [] w.heap.size 34 2 encR A c (notL l)) := by
  refine enter [(0, .v (.slice A l.length c))] Tryd.func36 rfl ⟨38, rfl, rfl, rfl⟩ ?_
  intro a hR
  refine seqS fun K1 hK1 => ?_
  refine At.start ?_
  refine segP (i := 0) 1 [0, 2] (l' := [(0, .v (.slice A l.length c)), (2, .v (.slice none 0 0))]) (H' := []) hR (by kernel_rfl) (by kernel_rfl) ?_
  clear hR
  intro a hR
  refine At.stop (by kernel_rfl) ?_
  refine hK1 _ _ ?_
  refine seqS fun K2 hK2 => ?_
  refine At.start ?_
  refine segP (i := 0) 1 [0, 2, 3] (l' := [(0, .v (.slice A l.length c)), (2, .v (.slice none 0 0)), (3, .v (.slice none 0 0))]) (H' := []) hR (by kernel_rfl) (by kernel_rfl) ?_
  clear hR
  intro a hR
  refine At.stop (by kernel_rfl) ?_
  refine hK2 _ _ ?_
  refine seqS fun K3 hK3 => ?_
  refine At.start ?_
  refine segP (i := 0) 1 [0, 2, 3, 4] (l' := [(0, .v (.slice A l.length c)), (2, .v (.slice none 0 0)), (3, .v (.slice none 0 0)), (4, .v (.int .i64 0))]) (H' := []) hR (by kernel_rfl) (by kernel_rfl) ?_
  clear hR
  intro a hR
  refine At.stop (by kernel_rfl) ?_
  refine hK3 _ _ ?_
  refine seqS fun K4 hK4 => ?_
  refine seqS fun K5 hK5 => ?_
  refine At.start ?_
  refine segP (i := 0) 1 [2, 3, 4, 7] (l' := [(2, .v (.slice none 0 0)), (3, .v (.slice none 0 0)), (4, .v (.int .i64 0)), (7, .v (.slice A l.length c))]) (H' := []) hR (by kernel_rfl) (by kernel_rfl) ?_
  clear hR
  intro a hR
  have hlt3 := hR.vars.lt
  have hsz4 := Nat.le_refl w.heap.size
  refine callB (i := 1) 19 #[.slice A l.length c] hR rfl (by kernel_rfl) (by kernel_rfl) (by kernel_rfl) (Nat.le_refl _) (Tryd.norm_any A c l _ (hl) (by omega)) ?_
  clear hR
  rintro v_ a w1 ⟨A5, c6, rfl, hrow7⟩ hb2 hR
  replace hrow7 := (Row.of_own hrow7.own hlt3).mono hsz4
  refine segP (i := 2) 2 [2, 3, 4, 8, 9, 10] (l' := [(2, .v (.slice none 0 0)), (3, .v (.slice none 0 0)), (4, .v (.int .i64 0)), (8, .v (.slice A5 ((normL l).length) c6)), (9, .v (.int .i64 ((normL l).length : Int))), (10, .v (.int .i64 0))]) (H' := []) hR (by kernel_rfl) (by kernel_rfl) ?_
  clear hR
  intro a hR
  refine At.stop (by kernel_rfl) ?_
  refine hK5 _ _ ?_
  refine wp_block ?_
  have hnl := normL_length l
  refine loopS (α := Option Addr × Nat × List (Int × Int) × Int × Nat) (fun x_ a wr => match x_ with | (A2, c2, out, fr, j) => Rel [] 38 w (w.heap.size) [] [(2, .v (.slice none 0 0)), (3, .v (.slice A2 out.length c2)), (4, .v (.int .i64 fr)), (8, .v (.slice A5 ((normL l).length) c6)), (9, .v (.int .i64 ((normL l).length : Int))), (10, .v (.int .i64 (j : Int)))] [] a wr ∧ (j ≤ (normL l).length) ∧ (out.length ≤ j) ∧ ((out, fr) = gapsL ((normL l).take j)) ∧ (0 ≤ fr ∧ fr ≤ 1114112) ∧ (Row wr [] (w.heap.size) 34 2 encR A2 c2 out) ∧ (Row wr [] (w.heap.size) 34 2 encR A5 c6 (normL l)) ∧ (Dis A5 A2)) (fun (x_ : Option Addr × Nat × List (Int × Int) × Int × Nat) => match x_ with | (A2, c2, out, fr, j) => (normL l).length - j) (none, 0, [], 0, 0) ?_ ?_
  · exact ⟨hR, by omega, by simp, rfl, by omega, Row.nil _ _ _ _ _ _, hrow7, Dis.nil _⟩
  rintro ⟨A2, c2, out, fr, j⟩ a w8 hI
  clear hR
  obtain ⟨hR, hj, hol, ho, hfr, hrow, hrow7, hdis⟩ := hI
  refine seqS fun K6 hK6 => ?_
  refine At.start ?_
  refine segP (i := 0) 1 [2, 3, 4, 8, 9, 10, 11] (l' := [(2, .v (.slice none 0 0)), (3, .v (.slice A2 out.length c2)), (4, .v (.int .i64 fr)), (8, .v (.slice A5 ((normL l).length) c6)), (9, .v (.int .i64 ((normL l).length : Int))), (10, .v (.int .i64 (j : Int))), (11, .v (.bool (decide ((j : Int) < ((normL l).length : Int)))))]) (H' := []) hR (by kernel_rfl) (by kernel_rfl) ?_
  clear hR
  intro a hR
  refine At.stop (by kernel_rfl) ?_
  refine hK6 _ _ ?_
  refine seqS fun K7 hK7 => ?_
  refine condS (decide ((j : Int) < ((normL l).length : Int))) hR (by kernel_rfl) (fun c9 => ?_) (fun c9 => ?_)
  ·
    have c9 := of_decide_eq_true c9
    refine wp_skip ?_
    refine hK7 _ _ ?_
    refine seqS fun K8 hK8 => ?_
    refine wp_block ?_
    refine seqS fun K9 hK9 => ?_
    refine At.start ?_
    obtain ⟨⟨lo11, hi12⟩, hxe10⟩ : ∃ x_, ((normL l))[j]? = some x_ := ⟨_, List.getElem?_eq_getElem (by omega)⟩
    have hbde10 := normL_bd hxe10
    dsimp only at hbde10
    obtain ⟨ge10, hGe10, hloe10, hnbe10⟩ := hrow7.addr (by omega)
    subst hGe10
    obtain ⟨ade10, hAe10, hce10⟩ := (hrow7.rd encR_len) _ _ hxe10
    obtain rfl : ade10 = ⟨ge10, 0, none⟩ := (Option.some.inj hAe10).symm
    refine stepV (i := 0) (op := (Op.indexAddr 23 (Operand.tmp 8) (Operand.tmp 10))) (.pointer (some ((⟨ge10, 0, none⟩ : Addr).add (j * 2)))) hR rfl (by kernel_rfl) (by kernel_rfl) (run_indexAddr (e := 34) (k := 2) (ad := ⟨ge10, 0, none⟩) (len := (normL l).length) (cap := c6) (kk := .i64) (i := (j : Int)) (by kernel_rfl) (by kernel_rfl) (by kernel_rfl) (by kernel_rfl) (by omega) (by omega)) ?_
    clear hR
    intro a hR
    refine stepV (i := 1) (op := (Op.load 34 (Operand.tmp 12))) (.agg #[.int .i64 lo11, .int .i64 hi12]) hR rfl (by kernel_rfl) (by kernel_rfl) (run_load_at (by kernel_rfl) (run_loadVar_agg (by kernel_rfl) (by kernel_rfl) hce10)) ?_
    clear hR
    intro a hR
    refine allocS (i := 2) [.int .i64 0, .int .i64 0] hR rfl (by kernel_rfl) (by kernel_rfl) (by kernel_rfl) (hR.below.size) ?_
    clear hR
    intro b13 a w14 hb13 hsb13 hgb13 hR
    replace hrow := hrow.new hb13 hgb13
    replace hrow7 := hrow7.new hb13 hgb13
    refine seg (i := 3) 1 [2, 3, 4, 6, 8, 9, 10] (l' := [(2, .v (.slice none 0 0)), (3, .v (.slice A2 out.length c2)), (4, .v (.int .i64 fr)), (6, .p 0 0), (8, .v (.slice (some ⟨ge10, 0, none⟩) ((normL l).length) c6)), (9, .v (.int .i64 ((normL l).length : Int))), (10, .v (.int .i64 (j : Int)))]) (H' := [([.v (.int .i64 lo11), .v (.int .i64 hi12)], 34)]) hR (by kernel_rfl) ?_
    clear hR
    intro a w15 hR hO16
    replace hrow := hrow.ownS hO16
    replace hrow7 := hrow7.ownS hO16
    refine At.stop (by kernel_rfl) ?_
    refine hK9 _ _ ?_
    refine seqS fun K10 hK10 => ?_
    refine seqS fun K11 hK11 => ?_
    refine At.start ?_
    refine segP (i := 0) 4 [2, 3, 4, 6, 8, 9, 10, 17] (l' := [(2, .v (.slice none 0 0)), (3, .v (.slice A2 out.length c2)), (4, .v (.int .i64 fr)), (6, .p 0 0), (8, .v (.slice (some ⟨ge10, 0, none⟩) ((normL l).length) c6)), (9, .v (.int .i64 ((normL l).length : Int))), (10, .v (.int .i64 (j : Int))), (17, .v (.bool (decide (lo11 > fr))))]) (H' := [([.v (.int .i64 lo11), .v (.int .i64 hi12)], 34)]) hR (by kernel_rfl) (by kernel_rfl) ?_
    clear hR
    intro a hR
    refine At.stop (by kernel_rfl) ?_
    refine hK11 _ _ ?_
    refine condS (decide (lo11 > fr)) hR (by kernel_rfl) (fun c17 => ?_) (fun c17 => ?_)
    ·
      have c17 := of_decide_eq_true c17
      refine At.start ?_
      refine segP (i := 0) 6 [2, 3, 4, 6, 8, 9, 10, 18, 23] (l' := [(2, .v (.slice none 0 0)), (3, .v (.slice A2 out.length c2)), (4, .v (.int .i64 fr)), (6, .p 0 0), (8, .v (.slice (some ⟨ge10, 0, none⟩) ((normL l).length) c6)), (9, .v (.int .i64 ((normL l).length : Int))), (10, .v (.int .i64 (j : Int))), (18, .v (.slice A2 out.length c2)), (23, .v (.agg #[.int .i64 fr, .int .i64 (IntKind.i64.wrap (lo11 - 1))]))]) (H' := [([.v (.int .i64 lo11), .v (.int .i64 hi12)], 34)]) hR (by kernel_rfl) (by kernel_rfl) ?_
      clear hR
      intro a hR
      rw [show IntKind.i64.wrap (lo11 - 1) = (lo11 - 1) from wrap_i64 (by omega) (by omega)] at hR
      refine buildS (i := 6) 34 2 (.agg #[.int .i64 0, .int .i64 0]) [.int .i64 fr, .int .i64 (lo11 - 1)] hR rfl (by kernel_rfl) (by kernel_rfl) (by kernel_rfl) (by kernel_rfl) (by kernel_rfl) (by kernel_rfl) (by kernel_rfl) (hR.below.size) ?_
      clear hR
      intro b18 a w19 hb18 hgb18 hkb18 hR
      replace hrow := hrow.below hgb18
      replace hrow7 := hrow7.below hgb18
      refine appendS (i := 7) (enc := encR) (xs := out) [(fr, lo11 - 1)] (.agg #[.int .i64 0, .int .i64 0]) 16 (ad := ⟨b18, 0, none⟩) (cy := 1) hR hrow encR_len encR_one rfl (by kernel_rfl) (by kernel_rfl) (by kernel_rfl) (by kernel_rfl) rfl (blk_cells hkb18) (by kernel_rfl) (by kernel_rfl) (by kernel_rfl) (by decide) (by decide) (by (try simp only [List.length_cons, List.length_nil, List.length_append]); omega) (hR.below.size) (Nat.le_refl _) ?_
      clear hR
      intro A20 cp21 a w22 hrow23 hgr24 hat25 hR
      have hdis26 : Dis (some ⟨ge10, 0, none⟩) A20 := Dis.app hdis hrow7 hat25
      replace hrow7 := hrow7.grownD hgr24 hdis
      refine segP (i := 8) 1 [2, 3, 4, 6, 8, 9, 10] (l' := [(2, .v (.slice none 0 0)), (3, .v (.slice A20 ((out ++ [(fr, lo11 - 1)]).length) cp21)), (4, .v (.int .i64 fr)), (6, .p 0 0), (8, .v (.slice (some ⟨ge10, 0, none⟩) ((normL l).length) c6)), (9, .v (.int .i64 ((normL l).length : Int))), (10, .v (.int .i64 (j : Int)))]) (H' := [([.v (.int .i64 lo11), .v (.int .i64 hi12)], 34)]) hR (by kernel_rfl) (by kernel_rfl) ?_
      clear hR
      intro a hR
      refine At.stop (by kernel_rfl) ?_
      refine hK10 _ _ ?_
      refine At.start ?_
      refine segP (i := 0) 4 [2, 3, 4, 8, 9, 10] (l' := [(2, .v (.slice none 0 0)), (3, .v (.slice A20 ((out ++ [(fr, lo11 - 1)]).length) cp21)), (4, .v (.int .i64 (IntKind.i64.wrap (hi12 + 1)))), (8, .v (.slice (some ⟨ge10, 0, none⟩) ((normL l).length) c6)), (9, .v (.int .i64 ((normL l).length : Int))), (10, .v (.int .i64 (j : Int)))]) (H' := [([.v (.int .i64 lo11), .v (.int .i64 hi12)], 34)]) hR (by kernel_rfl) (by kernel_rfl) ?_
      clear hR
      intro a hR
      rw [show IntKind.i64.wrap (hi12 + 1) = (hi12 + 1) from wrap_i64 (by omega) (by omega)] at hR
      refine At.stop (by kernel_rfl) ?_
      refine hK8 _ _ ?_
      refine At.start ?_
      refine segP (i := 0) 2 [2, 3, 4, 8, 9, 10] (l' := [(2, .v (.slice none 0 0)), (3, .v (.slice A20 ((out ++ [(fr, lo11 - 1)]).length) cp21)), (4, .v (.int .i64 (hi12 + 1))), (8, .v (.slice (some ⟨ge10, 0, none⟩) ((normL l).length) c6)), (9, .v (.int .i64 ((normL l).length : Int))), (10, .v (.int .i64 (IntKind.i64.wrap ((j : Int) + 1))))]) (H' := [([.v (.int .i64 lo11), .v (.int .i64 hi12)], 34)]) hR (by kernel_rfl) (by kernel_rfl) ?_
      clear hR
      intro a hR
      rw [show IntKind.i64.wrap ((j : Int) + 1) = ((j : Int) + 1) from wrap_i64 (by omega) (by omega)] at hR
      refine At.stop (by kernel_rfl) ?_
      refine ⟨(A20, cp21, (out ++ [(fr, lo11 - 1)]), hi12 + 1, j + 1), ⟨?_, ?_, ?_, ?_, ?_, ?_, ?_, ?_⟩, ?_⟩
      · exact (hR.trimTo 0 [2, 3, 4, 8, 9, 10] (by kernel_rfl) (by kernel_rfl) (by kernel_rfl))
      · omega
      · (try simp only [List.length_append, List.length_singleton]); omega
      · exact gapS_yes ho hxe10 (by assumption)
      · omega
      · exact hrow23.trim 0 rfl
      · exact hrow7.trim 0 rfl
      · exact hdis26
      · show _ < _
        dsimp only
        omega
    ·
      have c17 := of_decide_eq_false c17
      refine wp_skip ?_
      refine hK10 _ _ ?_
      refine At.start ?_
      refine segP (i := 0) 4 [2, 3, 4, 8, 9, 10] (l' := [(2, .v (.slice none 0 0)), (3, .v (.slice A2 out.length c2)), (4, .v (.int .i64 (IntKind.i64.wrap (hi12 + 1)))), (8, .v (.slice (some ⟨ge10, 0, none⟩) ((normL l).length) c6)), (9, .v (.int .i64 ((normL l).length : Int))), (10, .v (.int .i64 (j : Int)))]) (H' := [([.v (.int .i64 lo11), .v (.int .i64 hi12)], 34)]) hR (by kernel_rfl) (by kernel_rfl) ?_
      clear hR
      intro a hR
      rw [show IntKind.i64.wrap (hi12 + 1) = (hi12 + 1) from wrap_i64 (by omega) (by omega)] at hR
      refine At.stop (by kernel_rfl) ?_
      refine hK8 _ _ ?_
      refine At.start ?_
      refine segP (i := 0) 2 [2, 3, 4, 8, 9, 10] (l' := [(2, .v (.slice none 0 0)), (3, .v (.slice A2 out.length c2)), (4, .v (.int .i64 (hi12 + 1))), (8, .v (.slice (some ⟨ge10, 0, none⟩) ((normL l).length) c6)), (9, .v (.int .i64 ((normL l).length : Int))), (10, .v (.int .i64 (IntKind.i64.wrap ((j : Int) + 1))))]) (H' := [([.v (.int .i64 lo11), .v (.int .i64 hi12)], 34)]) hR (by kernel_rfl) (by kernel_rfl) ?_
      clear hR
      intro a hR
      rw [show IntKind.i64.wrap ((j : Int) + 1) = ((j : Int) + 1) from wrap_i64 (by omega) (by omega)] at hR
      refine At.stop (by kernel_rfl) ?_
      refine ⟨(A2, c2, out, hi12 + 1, j + 1), ⟨?_, ?_, ?_, ?_, ?_, ?_, ?_, ?_⟩, ?_⟩
      · exact (hR.trimTo 0 [2, 3, 4, 8, 9, 10] (by kernel_rfl) (by kernel_rfl) (by kernel_rfl))
      · omega
      · (try simp only [List.length_append, List.length_singleton]); omega
      · exact gapS_no ho hxe10 (by assumption)
      · omega
      · exact hrow.trim 0 rfl
      · exact hrow7.trim 0 rfl
      · exact hdis
      · show _ < _
        dsimp only
        omega
  ·
    have c9 := of_decide_eq_false c9
    refine wp_exit ?_
    refine hK4 _ _ ?_
    refine seqS fun K12 hK12 => ?_
    refine seqS fun K13 hK13 => ?_
    refine At.start ?_
    refine segP (i := 0) 2 [2, 3, 4, 31] (l' := [(2, .v (.slice none 0 0)), (3, .v (.slice A2 out.length c2)), (4, .v (.int .i64 fr)), (31, .v (.bool (decide (fr ≤ 1114111))))]) (H' := []) hR (by kernel_rfl) (by kernel_rfl) ?_
    clear hR
    intro a hR
    refine At.stop (by kernel_rfl) ?_
    refine hK13 _ _ ?_
    refine condS (decide (fr ≤ 1114111)) hR (by kernel_rfl) (fun c27 => ?_) (fun c27 => ?_)
    ·
      have c27 := of_decide_eq_true c27
      refine At.start ?_
      refine segP (i := 0) 3 [2, 3, 32, 34] (l' := [(2, .v (.slice none 0 0)), (3, .v (.slice A2 out.length c2)), (32, .v (.slice A2 out.length c2)), (34, .v (.agg #[.int .i64 fr, .int .i64 1114111]))]) (H' := []) hR (by kernel_rfl) (by kernel_rfl) ?_
      clear hR
      intro a hR
      refine buildS (i := 3) 34 2 (.agg #[.int .i64 0, .int .i64 0]) [.int .i64 fr, .int .i64 1114111] hR rfl (by kernel_rfl) (by kernel_rfl) (by kernel_rfl) (by kernel_rfl) (by kernel_rfl) (by kernel_rfl) (by kernel_rfl) (hR.below.size) ?_
      clear hR
      intro b28 a w29 hb28 hgb28 hkb28 hR
      replace hrow := hrow.below hgb28
      replace hrow7 := hrow7.below hgb28
      refine appendS (i := 4) (enc := encR) (xs := out) [(fr, 1114111)] (.agg #[.int .i64 0, .int .i64 0]) 16 (ad := ⟨b28, 0, none⟩) (cy := 1) hR hrow encR_len encR_one rfl (by kernel_rfl) (by kernel_rfl) (by kernel_rfl) (by kernel_rfl) rfl (blk_cells hkb28) (by kernel_rfl) (by kernel_rfl) (by kernel_rfl) (by decide) (by decide) (by (try simp only [List.length_cons, List.length_nil, List.length_append]); omega) (hR.below.size) (Nat.le_refl _) ?_
      clear hR
      intro A30 cp31 a w32 hrow33 hgr34 hat35 hR
      have hdis36 : Dis A5 A30 := Dis.app hdis hrow7 hat35
      replace hrow7 := hrow7.grownD hgr34 hdis
      refine segP (i := 5) 1 [2, 3] (l' := [(2, .v (.slice none 0 0)), (3, .v (.slice A30 ((out ++ [(fr, 1114111)]).length) cp31))]) (H' := []) hR (by kernel_rfl) (by kernel_rfl) ?_
      clear hR
      intro a hR
      refine At.stop (by kernel_rfl) ?_
      refine hK12 _ _ ?_
      refine seqS fun K14 hK14 => ?_
      refine At.start ?_
      refine segP (i := 0) 2 [2] (l' := [(2, .v (.slice A30 ((out ++ [(fr, 1114111)]).length) cp31))]) (H' := []) hR (by kernel_rfl) (by kernel_rfl) ?_
      clear hR
      intro a hR
      refine At.stop (by kernel_rfl) ?_
      refine hK14 _ _ ?_
      refine wp_ret ?_
      have e : (out ++ [(fr, 1114111)]) = notL l := by
        have hil : j = (normL l).length := by omega
        rw [hil, List.take_length] at ho
        exact notL_yes ho (by assumption)
      exact ret1 (.v (.slice A30 ((out ++ [(fr, 1114111)]).length) cp31)) hR rfl (by kernel_rfl) ⟨_, rfl, hR.below, ⟨_, _, by rw [← e]; rfl, by rw [← e]; exact hrow33⟩⟩
    ·
      have c27 := of_decide_eq_false c27
      refine wp_skip ?_
      refine hK12 _ _ ?_
      refine seqS fun K15 hK15 => ?_
      refine At.start ?_
      refine segP (i := 0) 2 [2] (l' := [(2, .v (.slice A2 out.length c2))]) (H' := []) hR (by kernel_rfl) (by kernel_rfl) ?_
      clear hR
      intro a hR
      refine At.stop (by kernel_rfl) ?_
      refine hK15 _ _ ?_
      refine wp_ret ?_
      have e : out = notL l := by
        have hil : j = (normL l).length := by omega
        rw [hil, List.take_length] at ho
        exact notL_no ho (by assumption)
      exact ret1 (.v (.slice A2 out.length c2)) hR rfl (by kernel_rfl) ⟨_, rfl, hR.below, ⟨_, _, by rw [← e]; rfl, by rw [← e]; exact hrow⟩⟩

end Go.Proofs

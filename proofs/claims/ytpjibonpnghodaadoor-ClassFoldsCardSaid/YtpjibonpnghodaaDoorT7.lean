/- Walks of functions. -/
import Derived.Test.YtpjibonpnghodaaDoorT2
import Derived.Test.YtpjibonpnghodaaDoorT3
import Derived.Test.YtpjibonpnghodaaDoorSets
import Derived.Test.YtpjibonpnghodaaDoorE
import Derived.Test.YtpjibonpnghodaaDoorSort
set_option linter.unusedVariables false
set_option linter.unusedSimpArgs false
namespace Go.Proofs
open Go.RowKit Go.KW Go.Rng
set_option maxRecDepth 10000 in
theorem Tryd.family_any (r : Int) (w : World) (h0 : -1000000000000 ≤ r) (h1 : r ≤ 1000000000000) :
    Calls Tryd.prog 14 #[.int .i64 r] w (RetB w fun v w' => ∃ A c, v = .slice A (famL r).length c ∧ Row w' [] w.heap.size 3 1 Go.KW.encI A c (famL r)) := by
  refine enter [(0, .v (.int .i64 r))] Tryd.func14 rfl ⟨52, rfl, rfl, rfl⟩ ?_
  intro a hR
  refine seqS fun K1 hK1 => ?_
  refine At.start ?_
  refine segP (i := 0) 1 [0, 2] (l' := [(0, .v (.int .i64 r)), (2, .v (.slice none 0 0))]) (H' := []) hR (by kernel_rfl) (by kernel_rfl) ?_
  clear hR
  intro a hR
  refine At.stop (by kernel_rfl) ?_
  refine hK1 _ _ ?_
  refine seqS fun K2 hK2 => ?_
  refine At.start ?_
  refine segP (i := 0) 1 [2, 9] (l' := [(2, .v (.slice none 0 0)), (9, .v (.int .i64 r))]) (H' := []) hR (by kernel_rfl) (by kernel_rfl) ?_
  clear hR
  intro a hR
  obtain ⟨cp, hcp⟩ : ∃ cp, cp = capF r := ⟨_, rfl⟩
  have hcb : -1000000000100 ≤ cp ∧ cp ≤ 1000000000100 := hcp ▸ capF_bd h0 h1
  refine callB (i := 1) 28 #[.int .i64 r] hR rfl (by kernel_rfl) (by kernel_rfl) (by kernel_rfl) (Nat.le_refl _) (Tryd.capital_any r _ h0 h1) ?_
  clear hR
  rintro v_ a w1 rfl hb2 hR
  rw [← hcp] at hR
  refine segP (i := 2) 1 [2, 3] (l' := [(2, .v (.slice none 0 0)), (3, .v (.int .i64 cp))]) (H' := []) hR (by kernel_rfl) (by kernel_rfl) ?_
  clear hR
  intro a hR
  refine At.stop (by kernel_rfl) ?_
  refine hK2 _ _ ?_
  refine seqS fun K3 hK3 => ?_
  refine At.start ?_
  refine segP (i := 0) 1 [2, 3, 11] (l' := [(2, .v (.slice none 0 0)), (3, .v (.int .i64 cp)), (11, .v (.int .i64 cp))]) (H' := []) hR (by kernel_rfl) (by kernel_rfl) ?_
  clear hR
  intro a hR
  have hltb3 := hR.vars.lt
  have hszb3 := hR.below.size
  refine buildS (i := 1) 3 1 (.int .i64 0) [.int .i64 cp] hR rfl (by kernel_rfl) (by kernel_rfl) (by kernel_rfl) (by kernel_rfl) (by kernel_rfl) (by kernel_rfl) (by kernel_rfl) (hR.below.size) ?_
  clear hR
  intro b3 a w4 hb3 hgb3 hkb3 hR
  have hrowb3 := Row.lit (β := []) (lo := w.heap.size) (m := 1) [cp] hkb3 (by omega) (fun hm => by have := hltb3 _ hm; omega) Go.KW.encI_len rfl (show 1 ≤ maxLen by decide) rfl
  refine segP (i := 2) 1 [2, 3, 4] (l' := [(2, .v (.slice none 0 0)), (3, .v (.int .i64 cp)), (4, .v (.slice (some ⟨b3, 0, none⟩) 1 1))]) (H' := []) hR (by kernel_rfl) (by kernel_rfl) ?_
  clear hR
  intro a hR
  refine At.stop (by kernel_rfl) ?_
  refine hK3 _ _ ?_
  refine seqS fun K4 hK4 => ?_
  refine seqS fun K5 hK5 => ?_
  refine At.start ?_
  refine callB (i := 0) 17 #[] hR rfl (by kernel_rfl) (by kernel_rfl) (by kernel_rfl) (hR.below.size) (Tryd.blocks_any _) ?_
  clear hR
  rintro v_ a w5 rfl hb6 hR
  replace hrowb3 := hrowb3.below hb6
  refine segP (i := 1) 1 [2, 3, 4, 13, 14] (l' := [(2, .v (.slice none 0 0)), (3, .v (.int .i64 cp)), (4, .v (.slice (some ⟨b3, 0, none⟩) 1 1)), (13, .v (.agg blocksV.toArray)), (14, .v (.int .i64 0))]) (H' := []) hR (by kernel_rfl) (by kernel_rfl) ?_
  clear hR
  intro a hR
  refine At.stop (by kernel_rfl) ?_
  refine hK5 _ _ ?_
  refine wp_block ?_
  refine loopS (α := Option Addr × Nat × List Int × Nat) (fun x_ a wr => match x_ with | (A1, c1, d, j) => Rel [] 52 w (w.heap.size) [] [(2, .v (.slice none 0 0)), (3, .v (.int .i64 cp)), (4, .v (.slice A1 d.length c1)), (13, .v (.agg blocksV.toArray)), (14, .v (.int .i64 (j : Int)))] [] a wr ∧ (j ≤ 7) ∧ (d.length ≤ j + 1) ∧ (d = cp :: famB cp (blocksT.take j)) ∧ (Row wr [] (w.heap.size) 3 1 Go.KW.encI A1 c1 d)) (fun (x_ : Option Addr × Nat × List Int × Nat) => match x_ with | (A1, c1, d, j) => 7 - j) ((some ⟨b3, 0, none⟩), 1, [cp], 0) ?_ ?_
  · exact ⟨hR, by omega, by simp, rfl, hrowb3⟩
  rintro ⟨A1, c1, d, j⟩ a w7 hI
  clear hR
  obtain ⟨hR, hj, hdl, hd, hrow⟩ := hI
  refine seqS fun K6 hK6 => ?_
  refine At.start ?_
  refine segP (i := 0) 1 [2, 3, 4, 13, 14, 15] (l' := [(2, .v (.slice none 0 0)), (3, .v (.int .i64 cp)), (4, .v (.slice A1 d.length c1)), (13, .v (.agg blocksV.toArray)), (14, .v (.int .i64 (j : Int))), (15, .v (.bool (decide ((j : Int) < 7))))]) (H' := []) hR (by kernel_rfl) (by kernel_rfl) ?_
  clear hR
  intro a hR
  refine At.stop (by kernel_rfl) ?_
  refine hK6 _ _ ?_
  refine seqS fun K7 hK7 => ?_
  refine condS (decide ((j : Int) < 7)) hR (by kernel_rfl) (fun c8 => ?_) (fun c8 => ?_)
  ·
    have c8 := of_decide_eq_true c8
    refine wp_skip ?_
    refine hK7 _ _ ?_
    refine seqS fun K8 hK8 => ?_
    refine wp_block ?_
    refine seqS fun K9 hK9 => ?_
    refine At.start ?_
    have hX := blocks_at j (by omega)
    have hbd9 := blk_bd j (by omega)
    refine stepV (i := 0) (op := (Op.index 43 (Operand.tmp 13) (Operand.tmp 14))) (.agg #[.int .i64 (bLo j), .int .i64 (bHi j), .int .i64 (bUp j)]) hR rfl (by kernel_rfl) (by kernel_rfl) ((run_index_agg (e := 42) (len := 7) (k := 3) (cs := blocksV.toArray) (kk := .i64) (i := (j : Int)) (by kernel_rfl) (by kernel_rfl) (by kernel_rfl) (by kernel_rfl) (by kernel_rfl) (by omega) (by omega)).trans (congrArg (fun z => Result.ok (Next.value (Value.agg z)) _) hX)) ?_
    clear hR
    intro a hR
    clear hX
    refine allocS (i := 1) [.int .i64 0, .int .i64 0, .int .i64 0] hR rfl (by kernel_rfl) (by kernel_rfl) (by kernel_rfl) (hR.below.size) ?_
    clear hR
    intro b10 a w11 hb10 hsb10 hgb10 hR
    replace hrow := hrow.new hb10 hgb10
    refine seg (i := 2) 1 [2, 3, 4, 6, 13, 14] (l' := [(2, .v (.slice none 0 0)), (3, .v (.int .i64 cp)), (4, .v (.slice A1 d.length c1)), (6, .p 0 0), (13, .v (.agg blocksV.toArray)), (14, .v (.int .i64 (j : Int)))]) (H' := [([.v (.int .i64 (bLo j)), .v (.int .i64 (bHi j)), .v (.int .i64 (bUp j))], 42)]) hR (by kernel_rfl) ?_
    clear hR
    intro a w12 hR hO13
    replace hrow := hrow.ownS hO13
    refine At.stop (by kernel_rfl) ?_
    refine hK9 _ _ ?_
    refine seqS fun K10 hK10 => ?_
    refine At.start ?_
    refine segP (i := 0) 5 [2, 3, 4, 6, 13, 14, 21] (l' := [(2, .v (.slice none 0 0)), (3, .v (.int .i64 cp)), (4, .v (.slice A1 d.length c1)), (6, .p 0 0), (13, .v (.agg blocksV.toArray)), (14, .v (.int .i64 (j : Int))), (21, .v (.bool (decide (cp ≥ bLo j))))]) (H' := [([.v (.int .i64 (bLo j)), .v (.int .i64 (bHi j)), .v (.int .i64 (bUp j))], 42)]) hR (by kernel_rfl) (by kernel_rfl) ?_
    clear hR
    intro a hR
    cases c14 : (decide (cp ≥ bLo j))
    case false =>
      rw [c14] at hR
      have c14 := of_decide_eq_false c14
      refine segP (i := 5) 5 [2, 3, 4, 6, 13, 14, 26] (l' := [(2, .v (.slice none 0 0)), (3, .v (.int .i64 cp)), (4, .v (.slice A1 d.length c1)), (6, .p 0 0), (13, .v (.agg blocksV.toArray)), (14, .v (.int .i64 (j : Int))), (26, .v (.bool false))]) (H' := [([.v (.int .i64 (bLo j)), .v (.int .i64 (bHi j)), .v (.int .i64 (bUp j))], 42)]) hR (by kernel_rfl) (by kernel_rfl) ?_
      clear hR
      intro a hR
      refine At.stop (by kernel_rfl) ?_
      refine hK10 _ _ ?_
      refine wp_cond_false (hR.fr.eval (by kernel_rfl : evS _ _ = some (.v (.bool false)))) ?_
      refine wp_skip ?_
      refine hK8 _ _ ?_
      refine At.start ?_
      refine segP (i := 0) 2 [2, 3, 4, 13, 14] (l' := [(2, .v (.slice none 0 0)), (3, .v (.int .i64 cp)), (4, .v (.slice A1 d.length c1)), (13, .v (.agg blocksV.toArray)), (14, .v (.int .i64 (IntKind.i64.wrap ((j : Int) + 1))))]) (H' := [([.v (.int .i64 (bLo j)), .v (.int .i64 (bHi j)), .v (.int .i64 (bUp j))], 42)]) hR (by kernel_rfl) (by kernel_rfl) ?_
      clear hR
      intro a hR
      rw [show IntKind.i64.wrap ((j : Int) + 1) = ((j : Int) + 1) from wrap_i64 (by omega) (by omega)] at hR
      refine At.stop (by kernel_rfl) ?_
      refine ⟨(A1, c1, d, j + 1), ⟨?_, ?_, ?_, ?_, ?_⟩, ?_⟩
      · exact (hR.trimTo 0 [2, 3, 4, 13, 14] (by kernel_rfl) (by kernel_rfl) (by kernel_rfl))
      · omega
      · (try simp only [List.length_append, List.length_singleton]); omega
      · exact famB_no hd (by omega) (by omega)
      · exact hrow.trim 0 rfl
      · show _ < _
        dsimp only
        omega
    case true =>
      rw [c14] at hR
      have c14 := of_decide_eq_true c14
      refine segP (i := 5) 5 [2, 3, 4, 6, 13, 14, 26] (l' := [(2, .v (.slice none 0 0)), (3, .v (.int .i64 cp)), (4, .v (.slice A1 d.length c1)), (6, .p 0 0), (13, .v (.agg blocksV.toArray)), (14, .v (.int .i64 (j : Int))), (26, .v (.bool (decide (cp ≤ bHi j))))]) (H' := [([.v (.int .i64 (bLo j)), .v (.int .i64 (bHi j)), .v (.int .i64 (bUp j))], 42)]) hR (by kernel_rfl) (by kernel_rfl) ?_
      clear hR
      intro a hR
      refine At.stop (by kernel_rfl) ?_
      refine hK10 _ _ ?_
      refine condS (decide (cp ≤ bHi j)) hR (by kernel_rfl) (fun c15 => ?_) (fun c15 => ?_)
      ·
        have c15 := of_decide_eq_true c15
        refine At.start ?_
        refine segP (i := 0) 5 [2, 3, 4, 13, 14, 27, 31] (l' := [(2, .v (.slice none 0 0)), (3, .v (.int .i64 cp)), (4, .v (.slice A1 d.length c1)), (13, .v (.agg blocksV.toArray)), (14, .v (.int .i64 (j : Int))), (27, .v (.slice A1 d.length c1)), (31, .v (.int .i64 (IntKind.i64.wrap (cp + (bUp j)))))]) (H' := [([.v (.int .i64 (bLo j)), .v (.int .i64 (bHi j)), .v (.int .i64 (bUp j))], 42)]) hR (by kernel_rfl) (by kernel_rfl) ?_
        clear hR
        intro a hR
        rw [show IntKind.i64.wrap (cp + (bUp j)) = (cp + (bUp j)) from wrap_i64 (by omega) (by omega)] at hR
        refine buildS (i := 5) 3 1 (.int .i64 0) [.int .i64 (cp + (bUp j))] hR rfl (by kernel_rfl) (by kernel_rfl) (by kernel_rfl) (by kernel_rfl) (by kernel_rfl) (by kernel_rfl) (by kernel_rfl) (hR.below.size) ?_
        clear hR
        intro b16 a w17 hb16 hgb16 hkb16 hR
        replace hrow := hrow.below hgb16
        refine appendS (i := 6) (enc := Go.KW.encI) (xs := d) [cp + (bUp j)] (.int .i64 0) 8 (ad := ⟨b16, 0, none⟩) (cy := 1) hR hrow Go.KW.encI_len Go.KW.encI_one rfl (by kernel_rfl) (by kernel_rfl) (by kernel_rfl) (by kernel_rfl) rfl (blk_cells hkb16) (by kernel_rfl) (by kernel_rfl) (by kernel_rfl) (by decide) (by decide) (by (try simp only [List.length_cons, List.length_nil, List.length_append]); omega) (hR.below.size) (Nat.le_refl _) ?_
        clear hR
        intro A18 cp19 a w20 hrow21 hgr22 hat23 hR
        refine segP (i := 7) 1 [2, 3, 4, 13, 14] (l' := [(2, .v (.slice none 0 0)), (3, .v (.int .i64 cp)), (4, .v (.slice A18 ((d ++ [cp + (bUp j)]).length) cp19)), (13, .v (.agg blocksV.toArray)), (14, .v (.int .i64 (j : Int)))]) (H' := [([.v (.int .i64 (bLo j)), .v (.int .i64 (bHi j)), .v (.int .i64 (bUp j))], 42)]) hR (by kernel_rfl) (by kernel_rfl) ?_
        clear hR
        intro a hR
        refine At.stop (by kernel_rfl) ?_
        refine hK8 _ _ ?_
        refine At.start ?_
        refine segP (i := 0) 2 [2, 3, 4, 13, 14] (l' := [(2, .v (.slice none 0 0)), (3, .v (.int .i64 cp)), (4, .v (.slice A18 ((d ++ [cp + (bUp j)]).length) cp19)), (13, .v (.agg blocksV.toArray)), (14, .v (.int .i64 (IntKind.i64.wrap ((j : Int) + 1))))]) (H' := [([.v (.int .i64 (bLo j)), .v (.int .i64 (bHi j)), .v (.int .i64 (bUp j))], 42)]) hR (by kernel_rfl) (by kernel_rfl) ?_
        clear hR
        intro a hR
        rw [show IntKind.i64.wrap ((j : Int) + 1) = ((j : Int) + 1) from wrap_i64 (by omega) (by omega)] at hR
        refine At.stop (by kernel_rfl) ?_
        refine ⟨(A18, cp19, (d ++ [cp + (bUp j)]), j + 1), ⟨?_, ?_, ?_, ?_, ?_⟩, ?_⟩
        · exact (hR.trimTo 0 [2, 3, 4, 13, 14] (by kernel_rfl) (by kernel_rfl) (by kernel_rfl))
        · omega
        · (try simp only [List.length_append, List.length_singleton]); omega
        · exact famB_yes hd (by omega) (by assumption) (by assumption)
        · exact hrow21.trim 0 rfl
        · show _ < _
          dsimp only
          omega
      ·
        have c15 := of_decide_eq_false c15
        refine wp_skip ?_
        refine hK8 _ _ ?_
        refine At.start ?_
        refine segP (i := 0) 2 [2, 3, 4, 13, 14] (l' := [(2, .v (.slice none 0 0)), (3, .v (.int .i64 cp)), (4, .v (.slice A1 d.length c1)), (13, .v (.agg blocksV.toArray)), (14, .v (.int .i64 (IntKind.i64.wrap ((j : Int) + 1))))]) (H' := [([.v (.int .i64 (bLo j)), .v (.int .i64 (bHi j)), .v (.int .i64 (bUp j))], 42)]) hR (by kernel_rfl) (by kernel_rfl) ?_
        clear hR
        intro a hR
        rw [show IntKind.i64.wrap ((j : Int) + 1) = ((j : Int) + 1) from wrap_i64 (by omega) (by omega)] at hR
        refine At.stop (by kernel_rfl) ?_
        refine ⟨(A1, c1, d, j + 1), ⟨?_, ?_, ?_, ?_, ?_⟩, ?_⟩
        · exact (hR.trimTo 0 [2, 3, 4, 13, 14] (by kernel_rfl) (by kernel_rfl) (by kernel_rfl))
        · omega
        · (try simp only [List.length_append, List.length_singleton]); omega
        · exact famB_no hd (by omega) (by omega)
        · exact hrow.trim 0 rfl
        · show _ < _
          dsimp only
          omega
  ·
    have c8 := of_decide_eq_false c8
    refine wp_exit ?_
    refine hK4 _ _ ?_
    refine seqS fun K11 hK11 => ?_
    refine seqS fun K12 hK12 => ?_
    refine At.start ?_
    refine callB (i := 0) 18 #[] hR rfl (by kernel_rfl) (by kernel_rfl) (by kernel_rfl) (hR.below.size) (Tryd.others_any _) ?_
    clear hR
    rintro v_ a w24 rfl hb25 hR
    replace hrow := hrow.below hb25
    refine segP (i := 1) 1 [2, 3, 4, 35, 36] (l' := [(2, .v (.slice none 0 0)), (3, .v (.int .i64 cp)), (4, .v (.slice A1 d.length c1)), (35, .v (.agg othersV.toArray)), (36, .v (.int .i64 0))]) (H' := []) hR (by kernel_rfl) (by kernel_rfl) ?_
    clear hR
    intro a hR
    refine At.stop (by kernel_rfl) ?_
    refine hK12 _ _ ?_
    refine wp_block ?_
    have hj7 : j = 7 := by omega
    rw [hj7, show blocksT.take 7 = blocksT from rfl] at hd
    refine loopS (α := Option Addr × Nat × List Int × Nat) (fun x_ a wr => match x_ with | (A2, c2, d2, i) => Rel [] 52 w (w.heap.size) [] [(2, .v (.slice none 0 0)), (3, .v (.int .i64 cp)), (4, .v (.slice A2 d2.length c2)), (35, .v (.agg othersV.toArray)), (36, .v (.int .i64 (i : Int)))] [] a wr ∧ (i ≤ 7) ∧ (d2.length ≤ i + 8) ∧ (d2 = (cp :: famB cp blocksT) ++ famO cp (othersT.take i)) ∧ (Row wr [] (w.heap.size) 3 1 Go.KW.encI A2 c2 d2)) (fun (x_ : Option Addr × Nat × List Int × Nat) => match x_ with | (A2, c2, d2, i) => 7 - i) (A1, c1, d, 0) ?_ ?_
    · exact ⟨hR, by omega, by omega, by simp [famO, hd], hrow⟩
    rintro ⟨A2, c2, d2, i⟩ a w26 hI
    clear hR
    obtain ⟨hR, hi, hdl2, hd2, hrow2⟩ := hI
    refine seqS fun K13 hK13 => ?_
    refine At.start ?_
    refine segP (i := 0) 1 [2, 3, 4, 35, 36, 37] (l' := [(2, .v (.slice none 0 0)), (3, .v (.int .i64 cp)), (4, .v (.slice A2 d2.length c2)), (35, .v (.agg othersV.toArray)), (36, .v (.int .i64 (i : Int))), (37, .v (.bool (decide ((i : Int) < 7))))]) (H' := []) hR (by kernel_rfl) (by kernel_rfl) ?_
    clear hR
    intro a hR
    refine At.stop (by kernel_rfl) ?_
    refine hK13 _ _ ?_
    refine seqS fun K14 hK14 => ?_
    refine condS (decide ((i : Int) < 7)) hR (by kernel_rfl) (fun c27 => ?_) (fun c27 => ?_)
    ·
      have c27 := of_decide_eq_true c27
      refine wp_skip ?_
      refine hK14 _ _ ?_
      refine seqS fun K15 hK15 => ?_
      refine wp_block ?_
      refine seqS fun K16 hK16 => ?_
      refine At.start ?_
      have hX := others_at i (by omega)
      have hbd28 := oth_bd i (by omega)
      refine stepV (i := 0) (op := (Op.index 47 (Operand.tmp 35) (Operand.tmp 36))) (.agg #[.int .i64 (oR i), .int .i64 (oC i)]) hR rfl (by kernel_rfl) (by kernel_rfl) ((run_index_agg (e := 46) (len := 7) (k := 2) (cs := othersV.toArray) (kk := .i64) (i := (i : Int)) (by kernel_rfl) (by kernel_rfl) (by kernel_rfl) (by kernel_rfl) (by kernel_rfl) (by omega) (by omega)).trans (congrArg (fun z => Result.ok (Next.value (Value.agg z)) _) hX)) ?_
      clear hR
      intro a hR
      clear hX
      refine allocS (i := 1) [.int .i64 0, .int .i64 0] hR rfl (by kernel_rfl) (by kernel_rfl) (by kernel_rfl) (hR.below.size) ?_
      clear hR
      intro b29 a w30 hb29 hsb29 hgb29 hR
      replace hrow2 := hrow2.new hb29 hgb29
      refine seg (i := 2) 1 [2, 3, 4, 8, 35, 36] (l' := [(2, .v (.slice none 0 0)), (3, .v (.int .i64 cp)), (4, .v (.slice A2 d2.length c2)), (8, .p 0 0), (35, .v (.agg othersV.toArray)), (36, .v (.int .i64 (i : Int)))]) (H' := [([.v (.int .i64 (oR i)), .v (.int .i64 (oC i))], 46)]) hR (by kernel_rfl) ?_
      clear hR
      intro a w31 hR hO32
      replace hrow2 := hrow2.ownS hO32
      refine At.stop (by kernel_rfl) ?_
      refine hK16 _ _ ?_
      refine seqS fun K17 hK17 => ?_
      refine At.start ?_
      refine segP (i := 0) 4 [2, 3, 4, 8, 35, 36, 42] (l' := [(2, .v (.slice none 0 0)), (3, .v (.int .i64 cp)), (4, .v (.slice A2 d2.length c2)), (8, .p 0 0), (35, .v (.agg othersV.toArray)), (36, .v (.int .i64 (i : Int))), (42, .v (.bool ((oC i) == cp)))]) (H' := [([.v (.int .i64 (oR i)), .v (.int .i64 (oC i))], 46)]) hR (by kernel_rfl) (by kernel_rfl) ?_
      clear hR
      intro a hR
      refine At.stop (by kernel_rfl) ?_
      refine hK17 _ _ ?_
      refine condS ((oC i) == cp) hR (by kernel_rfl) (fun c33 => ?_) (fun c33 => ?_)
      ·
        have c33 := (beq_iff_eq.1 c33)
        refine At.start ?_
        refine segP (i := 0) 3 [2, 3, 4, 35, 36, 43, 45] (l' := [(2, .v (.slice none 0 0)), (3, .v (.int .i64 cp)), (4, .v (.slice A2 d2.length c2)), (35, .v (.agg othersV.toArray)), (36, .v (.int .i64 (i : Int))), (43, .v (.slice A2 d2.length c2)), (45, .v (.int .i64 (oR i)))]) (H' := [([.v (.int .i64 (oR i)), .v (.int .i64 (oC i))], 46)]) hR (by kernel_rfl) (by kernel_rfl) ?_
        clear hR
        intro a hR
        refine buildS (i := 3) 3 1 (.int .i64 0) [.int .i64 (oR i)] hR rfl (by kernel_rfl) (by kernel_rfl) (by kernel_rfl) (by kernel_rfl) (by kernel_rfl) (by kernel_rfl) (by kernel_rfl) (hR.below.size) ?_
        clear hR
        intro b34 a w35 hb34 hgb34 hkb34 hR
        replace hrow2 := hrow2.below hgb34
        refine appendS (i := 4) (enc := Go.KW.encI) (xs := d2) [oR i] (.int .i64 0) 8 (ad := ⟨b34, 0, none⟩) (cy := 1) hR hrow2 Go.KW.encI_len Go.KW.encI_one rfl (by kernel_rfl) (by kernel_rfl) (by kernel_rfl) (by kernel_rfl) rfl (blk_cells hkb34) (by kernel_rfl) (by kernel_rfl) (by kernel_rfl) (by decide) (by decide) (by (try simp only [List.length_cons, List.length_nil, List.length_append]); omega) (hR.below.size) (Nat.le_refl _) ?_
        clear hR
        intro A36 cp37 a w38 hrow39 hgr40 hat41 hR
        refine segP (i := 5) 1 [2, 3, 4, 35, 36] (l' := [(2, .v (.slice none 0 0)), (3, .v (.int .i64 cp)), (4, .v (.slice A36 ((d2 ++ [oR i]).length) cp37)), (35, .v (.agg othersV.toArray)), (36, .v (.int .i64 (i : Int)))]) (H' := [([.v (.int .i64 (oR i)), .v (.int .i64 (oC i))], 46)]) hR (by kernel_rfl) (by kernel_rfl) ?_
        clear hR
        intro a hR
        refine At.stop (by kernel_rfl) ?_
        refine hK15 _ _ ?_
        refine At.start ?_
        refine segP (i := 0) 2 [2, 3, 4, 35, 36] (l' := [(2, .v (.slice none 0 0)), (3, .v (.int .i64 cp)), (4, .v (.slice A36 ((d2 ++ [oR i]).length) cp37)), (35, .v (.agg othersV.toArray)), (36, .v (.int .i64 (IntKind.i64.wrap ((i : Int) + 1))))]) (H' := [([.v (.int .i64 (oR i)), .v (.int .i64 (oC i))], 46)]) hR (by kernel_rfl) (by kernel_rfl) ?_
        clear hR
        intro a hR
        rw [show IntKind.i64.wrap ((i : Int) + 1) = ((i : Int) + 1) from wrap_i64 (by omega) (by omega)] at hR
        refine At.stop (by kernel_rfl) ?_
        refine ⟨(A36, cp37, (d2 ++ [oR i]), i + 1), ⟨?_, ?_, ?_, ?_, ?_⟩, ?_⟩
        · exact (hR.trimTo 0 [2, 3, 4, 35, 36] (by kernel_rfl) (by kernel_rfl) (by kernel_rfl))
        · omega
        · (try simp only [List.length_append, List.length_singleton]); omega
        · exact famO_yes hd2 (by omega) (by assumption)
        · exact hrow39.trim 0 rfl
        · show _ < _
          dsimp only
          omega
      ·
        have c33 := (beq_eq_false_iff_ne.1 c33)
        refine wp_skip ?_
        refine hK15 _ _ ?_
        refine At.start ?_
        refine segP (i := 0) 2 [2, 3, 4, 35, 36] (l' := [(2, .v (.slice none 0 0)), (3, .v (.int .i64 cp)), (4, .v (.slice A2 d2.length c2)), (35, .v (.agg othersV.toArray)), (36, .v (.int .i64 (IntKind.i64.wrap ((i : Int) + 1))))]) (H' := [([.v (.int .i64 (oR i)), .v (.int .i64 (oC i))], 46)]) hR (by kernel_rfl) (by kernel_rfl) ?_
        clear hR
        intro a hR
        rw [show IntKind.i64.wrap ((i : Int) + 1) = ((i : Int) + 1) from wrap_i64 (by omega) (by omega)] at hR
        refine At.stop (by kernel_rfl) ?_
        refine ⟨(A2, c2, d2, i + 1), ⟨?_, ?_, ?_, ?_, ?_⟩, ?_⟩
        · exact (hR.trimTo 0 [2, 3, 4, 35, 36] (by kernel_rfl) (by kernel_rfl) (by kernel_rfl))
        · omega
        · (try simp only [List.length_append, List.length_singleton]); omega
        · exact famO_no hd2 (by omega) (by assumption)
        · exact hrow2.trim 0 rfl
        · show _ < _
          dsimp only
          omega
    ·
      have c27 := of_decide_eq_false c27
      refine wp_exit ?_
      refine hK11 _ _ ?_
      refine seqS fun K18 hK18 => ?_
      refine At.start ?_
      refine segP (i := 0) 1 [2, 4, 49] (l' := [(2, .v (.slice none 0 0)), (4, .v (.slice A2 d2.length c2)), (49, .v (.slice A2 d2.length c2))]) (H' := []) hR (by kernel_rfl) (by kernel_rfl) ?_
      clear hR
      intro a hR
      refine callGrown (i := 1) 29 #[.slice A2 d2.length c2] (.tuple #[]) (row := (Value.slice A2 d2.length c2).ownBlock) hR rfl (by kernel_rfl) (by kernel_rfl) (by kernel_rfl) hR.below.size (hrow2.rowOk (Nat.le_refl _)) (Tryd.sortInts hrow2 (by omega)) ?_
      clear hR
      intro a wS hrowS hgr hR
      obtain ⟨d3, hd3, hdl3⟩ : ∃ d3, d2.mergeSort (fun x y => decide (x ≤ y)) = d3 ∧ d3.length = d2.length := ⟨_, rfl, List.length_mergeSort _⟩
      rw [hd3] at hrowS
      rw [← hdl3] at hR
      refine At.stop (by kernel_rfl) ?_
      refine hK18 _ _ ?_
      refine seqS fun K19 hK19 => ?_
      refine At.start ?_
      refine segP (i := 0) 2 [2] (l' := [(2, .v (.slice A2 d3.length c2))]) (H' := []) hR (by kernel_rfl) (by kernel_rfl) ?_
      clear hR
      intro a hR
      refine At.stop (by kernel_rfl) ?_
      refine hK19 _ _ ?_
      refine wp_ret ?_
      have e : d3 = famL r := by
        have hi7 : i = 7 := by omega
        rw [hi7, show othersT.take 7 = othersT from rfl] at hd2
        rw [← hd3, hd2, hcp]; rfl
      exact ret1 (.v (.slice A2 d3.length c2)) hR rfl (by kernel_rfl) ⟨_, rfl, hR.below, ⟨_, _, by rw [← e]; rfl, by rw [← e]; exact hrowS⟩⟩

set_option maxRecDepth 10000 in
theorem Tryd.cloneNil (c : Nat) (w : World) :
    Calls Tryd.prog 12 #[.slice none 0 c] w (RetB w fun v w' => ∃ A c, v = .slice A ([] : List (Int × Int)).length c ∧ Row w' [] w.heap.size 34 2 encR A c []) := by
  refine enter [(0, .v (.slice none 0 c))] Tryd.func12 rfl ⟨8, rfl, rfl, rfl⟩ ?_
  intro a hR
  refine seqS fun K1 hK1 => ?_
  refine At.start ?_
  refine segP (i := 0) 1 [0, 2] (l' := [(0, .v (.slice none 0 c)), (2, .v (.slice none 0 0))]) (H' := []) hR (by kernel_rfl) (by kernel_rfl) ?_
  clear hR
  intro a hR
  refine At.stop (by kernel_rfl) ?_
  refine hK1 _ _ ?_
  refine seqS fun K2 hK2 => ?_
  refine seqS fun K3 hK3 => ?_
  refine At.start ?_
  refine segP (i := 0) 2 [0, 2, 4] (l' := [(0, .v (.slice none 0 c)), (2, .v (.slice none 0 0)), (4, .v (.bool true))]) (H' := []) hR (by kernel_rfl) (by kernel_rfl) ?_
  clear hR
  intro a hR
  refine At.stop (by kernel_rfl) ?_
  refine hK3 _ _ ?_
  refine wp_cond_true (hR.fr.eval (by kernel_rfl : evS _ _ = some (.v (.bool true)))) ?_
  refine seqS fun K4 hK4 => ?_
  refine At.start ?_
  refine segP (i := 0) 1 [0, 2] (l' := [(0, .v (.slice none 0 c)), (2, .v (.slice none 0 0))]) (H' := []) hR (by kernel_rfl) (by kernel_rfl) ?_
  clear hR
  intro a hR
  refine At.stop (by kernel_rfl) ?_
  refine hK4 _ _ ?_
  refine wp_ret ?_
  exact ret1 (.v (.slice none 0 0)) hR rfl (by kernel_rfl) ⟨_, rfl, hR.below, ⟨_, _, rfl, Row.nil _ _ _ _ _ _⟩⟩

set_option maxRecDepth 10000 in
theorem Tryd.cloneSome (ad : Addr) (c : Nat) (l : List (Int × Int)) (w : World) (hl : Rd w 2 encR (some ad) l) (hn : l.length ≤ 1000000000000) :
    Calls Tryd.prog 12 #[.slice (some ad) l.length c] w (RetB w fun v w' => ∃ A c, v = .slice A l.length c ∧ Row w' [] w.heap.size 34 2 encR A c l) := by
  refine enter [(0, .v (.slice (some ad) l.length c))] Tryd.func12 rfl ⟨8, rfl, rfl, rfl⟩ ?_
  intro a hR
  refine seqS fun K1 hK1 => ?_
  refine At.start ?_
  refine segP (i := 0) 1 [0, 2] (l' := [(0, .v (.slice (some ad) l.length c)), (2, .v (.slice none 0 0))]) (H' := []) hR (by kernel_rfl) (by kernel_rfl) ?_
  clear hR
  intro a hR
  refine At.stop (by kernel_rfl) ?_
  refine hK1 _ _ ?_
  refine seqS fun K2 hK2 => ?_
  refine seqS fun K3 hK3 => ?_
  refine At.start ?_
  refine segP (i := 0) 2 [0, 2, 4] (l' := [(0, .v (.slice (some ad) l.length c)), (2, .v (.slice none 0 0)), (4, .v (.bool false))]) (H' := []) hR (by kernel_rfl) (by kernel_rfl) ?_
  clear hR
  intro a hR
  refine At.stop (by kernel_rfl) ?_
  refine hK3 _ _ ?_
  refine wp_cond_false (hR.fr.eval (by kernel_rfl : evS _ _ = some (.v (.bool false)))) ?_
  refine wp_skip ?_
  refine hK2 _ _ ?_
  refine seqS fun K4 hK4 => ?_
  refine At.start ?_
  have hltb1 := hR.vars.lt
  have hszb1 := hR.below.size
  refine buildS0 (i := 0) 34 2 hR rfl (by kernel_rfl) (by kernel_rfl) (by kernel_rfl) (by kernel_rfl) (Nat.le_refl _) ?_
  clear hR
  intro b1 a w2 hb1 hgb1 hkb1 hR
  have hrowb1 := Row.lit (β := []) (lo := w.heap.size) (m := 0) ([] : List (Int × Int)) hkb1 (by omega) (fun hm => by have := hltb1 _ hm; omega) encR_len rfl (show 0 ≤ maxLen by decide) rfl
  refine segP (i := 1) 1 [2, 5, 6] (l' := [(2, .v (.slice none 0 0)), (5, .v (.slice (some ⟨b1, 0, none⟩) 0 0)), (6, .v (.slice (some ad) l.length c))]) (H' := []) hR (by kernel_rfl) (by kernel_rfl) ?_
  clear hR
  intro a hR
  refine appendS (i := 2) (enc := encR) (xs := ([] : List (Int × Int))) l (.agg #[.int .i64 0, .int .i64 0]) 16 (ad := ad) (cy := c) hR hrowb1 encR_len encR_one rfl (by kernel_rfl) (by kernel_rfl) (by kernel_rfl) (by kernel_rfl) rfl ((hl.below hR.below).flat encR_len (by decide)) (by kernel_rfl) (by kernel_rfl) (by kernel_rfl) (by decide) (by decide) (by simp only [List.length_nil]; omega) (hR.below.size) (Nat.le_refl _) ?_
  clear hR
  intro A3 cp4 a w5 hrow6 hgr7 hat8 hR
  refine segP (i := 3) 1 [2] (l' := [(2, .v (.slice A3 ((([] : List (Int × Int)) ++ l).length) cp4))]) (H' := []) hR (by kernel_rfl) (by kernel_rfl) ?_
  clear hR
  intro a hR
  refine At.stop (by kernel_rfl) ?_
  refine hK4 _ _ ?_
  refine wp_ret ?_
  exact ret1 (.v (.slice A3 ((([] : List (Int × Int)) ++ l).length) cp4)) hR rfl (by kernel_rfl) ⟨_, rfl, hR.below, ⟨_, _, rfl, hrow6⟩⟩

set_option maxRecDepth 10000 in
theorem Tryd.clone_any (A : Option Addr) (c : Nat) (l : List (Int × Int)) (w : World) (hl : Rd w 2 encR A l) (hn : l.length ≤ 1000000000000) :
    Calls Tryd.prog 12 #[.slice A l.length c] w (RetB w fun v w' => ∃ A c, v = .slice A l.length c ∧ Row w' [] w.heap.size 34 2 encR A c l) := by
  cases A with
  | none =>
    obtain rfl := hl.none_nil
    exact Tryd.cloneNil c w
  | some ad => exact Tryd.cloneSome ad c l w hl hn

set_option maxRecDepth 10000 in
theorem Tryd.close11 (ad : Addr) (A : Option Addr) (c : Nat) (l : List (Int × Int)) (x : Int) (w : World) (hf : Pt w ad [.slice A l.length c]) (hl : Rd w 2 encR A l) (hn : l.length ≤ 1000000000000) :
    Calls Tryd.prog 16 #[.int .i64 x, .pointer (some ad)] w (RetB w fun v w' => v = .bool (hasF l x)) := by
  refine enter [(0, .v (.int .i64 x)), (1, .v (.pointer (some ad)))] Tryd.func16 rfl ⟨7, rfl, rfl, rfl⟩ ?_
  intro a hR
  refine seqS fun K1 hK1 => ?_
  refine At.start ?_
  refine segP (i := 0) 1 [0, 1, 3] (l' := [(0, .v (.int .i64 x)), (1, .v (.pointer (some ad))), (3, .v (.bool false))]) (H' := []) hR (by kernel_rfl) (by kernel_rfl) ?_
  clear hR
  intro a hR
  refine At.stop (by kernel_rfl) ?_
  refine hK1 _ _ ?_
  refine seqS fun K2 hK2 => ?_
  refine At.start ?_
  refine stepV (i := 0) (op := (Op.load 23 (Operand.tmp 1))) (.slice A l.length c) hR rfl (by kernel_rfl) (by kernel_rfl) (run_load_at (by kernel_rfl) (run_loadVar_one0 (by kernel_rfl) (hf 0 _ rfl))) ?_
  clear hR
  intro a hR
  refine segP (i := 1) 1 [3, 4, 5] (l' := [(3, .v (.bool false)), (4, .v (.slice A l.length c)), (5, .v (.int .i64 x))]) (H' := []) hR (by kernel_rfl) (by kernel_rfl) ?_
  clear hR
  intro a hR
  refine callB (i := 2) 8 #[.slice A l.length c, .int .i64 x] hR rfl (by kernel_rfl) (by kernel_rfl) (by kernel_rfl) (Nat.le_refl _) (Tryd.has_any A c l x _ (hl) hn) ?_
  clear hR
  rintro v_ a w1 rfl hb2 hR
  refine segP (i := 3) 1 [3] (l' := [(3, .v (.bool (hasF l x)))]) (H' := []) hR (by kernel_rfl) (by kernel_rfl) ?_
  clear hR
  intro a hR
  refine At.stop (by kernel_rfl) ?_
  refine hK2 _ _ ?_
  refine wp_ret ?_
  exact ret1 (.v (.bool (hasF l x))) hR rfl (by kernel_rfl) ⟨_, rfl, hR.below, rfl⟩

set_option maxRecDepth 10000 in
theorem Tryd.idxFam (A : Option Addr) (c : Nat) (l : List (Int)) (ad : Addr) (A0 : Option Addr) (c0 : Nat) (m : List (Int × Int)) (w : World) (hl : Rd w 1 Go.KW.encI A l) (hn : l.length ≤ 1000000000000) (hf : Pt w ad [.slice A0 m.length c0]) (hm : Rd w 2 encR A0 m) (hnm : m.length ≤ 1000000000000) :
    Calls Tryd.prog 30 #[.slice A l.length c, .func (.func 16) #[] #[.pointer (some ad)]] w (RetB w fun v w' => v = .int .i64 (idxF (hasF m) l)) := by
  refine enter [(0, .v (.slice A l.length c)), (1, .v (.func (.func 16) #[] #[.pointer (some ad)]))] Tryd.func30 rfl ⟨19, rfl, rfl, rfl⟩ ?_
  intro a hR
  refine seqS fun K1 hK1 => ?_
  refine At.start ?_
  refine segP (i := 0) 1 [0, 1, 4] (l' := [(0, .v (.slice A l.length c)), (1, .v (.func (.func 16) #[] #[.pointer (some ad)])), (4, .v (.int .i64 0))]) (H' := []) hR (by kernel_rfl) (by kernel_rfl) ?_
  clear hR
  intro a hR
  refine At.stop (by kernel_rfl) ?_
  refine hK1 _ _ ?_
  refine seqS fun K2 hK2 => ?_
  refine seqS fun K3 hK3 => ?_
  refine At.start ?_
  refine segP (i := 0) 3 [0, 1, 4, 7, 8] (l' := [(0, .v (.slice A l.length c)), (1, .v (.func (.func 16) #[] #[.pointer (some ad)])), (4, .v (.int .i64 0)), (7, .v (.int .i64 (l.length : Int))), (8, .v (.int .i64 0))]) (H' := []) hR (by kernel_rfl) (by kernel_rfl) ?_
  clear hR
  intro a hR
  refine At.stop (by kernel_rfl) ?_
  refine hK3 _ _ ?_
  refine wp_block ?_
  refine loopS (α := Nat) (fun x_ a wr => match x_ with | j => Rel [] 19 w (w.heap.size) [] [(0, .v (.slice A l.length c)), (1, .v (.func (.func 16) #[] #[.pointer (some ad)])), (4, .v (.int .i64 0)), (7, .v (.int .i64 (l.length : Int))), (8, .v (.int .i64 (j : Int)))] [] a wr ∧ (j ≤ l.length) ∧ (noneTo (hasF m) l j)) (fun (x_ : Nat) => match x_ with | j => l.length - j) 0 ?_ ?_
  · exact ⟨hR, by omega, noneTo_zero _ _⟩
  intro j a w1 hI
  clear hR
  obtain ⟨hR, hj, hq⟩ := hI
  refine seqS fun K4 hK4 => ?_
  refine At.start ?_
  refine segP (i := 0) 1 [0, 1, 4, 7, 8, 9] (l' := [(0, .v (.slice A l.length c)), (1, .v (.func (.func 16) #[] #[.pointer (some ad)])), (4, .v (.int .i64 0)), (7, .v (.int .i64 (l.length : Int))), (8, .v (.int .i64 (j : Int))), (9, .v (.bool (decide ((j : Int) < (l.length : Int)))))]) (H' := []) hR (by kernel_rfl) (by kernel_rfl) ?_
  clear hR
  intro a hR
  refine At.stop (by kernel_rfl) ?_
  refine hK4 _ _ ?_
  refine seqS fun K5 hK5 => ?_
  refine condS (decide ((j : Int) < (l.length : Int))) hR (by kernel_rfl) (fun c2 => ?_) (fun c2 => ?_)
  ·
    have c2 := of_decide_eq_true c2
    refine wp_skip ?_
    refine hK5 _ _ ?_
    refine seqS fun K6 hK6 => ?_
    refine wp_block ?_
    refine seqS fun K7 hK7 => ?_
    refine At.start ?_
    refine segP (i := 0) 2 [0, 1, 4, 5, 7, 8] (l' := [(0, .v (.slice A l.length c)), (1, .v (.func (.func 16) #[] #[.pointer (some ad)])), (4, .v (.int .i64 0)), (5, .v (.int .i64 (j : Int))), (7, .v (.int .i64 (l.length : Int))), (8, .v (.int .i64 (j : Int)))]) (H' := []) hR (by kernel_rfl) (by kernel_rfl) ?_
    clear hR
    intro a hR
    refine At.stop (by kernel_rfl) ?_
    refine hK7 _ _ ?_
    refine seqS fun K8 hK8 => ?_
    refine At.start ?_
    refine segP (i := 0) 3 [0, 1, 4, 5, 7, 8, 11, 12, 13] (l' := [(0, .v (.slice A l.length c)), (1, .v (.func (.func 16) #[] #[.pointer (some ad)])), (4, .v (.int .i64 0)), (5, .v (.int .i64 (j : Int))), (7, .v (.int .i64 (l.length : Int))), (8, .v (.int .i64 (j : Int))), (11, .v (.func (.func 16) #[] #[.pointer (some ad)])), (12, .v (.slice A l.length c)), (13, .v (.int .i64 (j : Int)))]) (H' := []) hR (by kernel_rfl) (by kernel_rfl) ?_
    clear hR
    intro a hR
    obtain ⟨x4, hxe3⟩ : ∃ x_, (l)[j]? = some x_ := ⟨_, List.getElem?_eq_getElem (by omega)⟩
    obtain ⟨ade3, hAe3, hce3⟩ := (hl.below hR.below) _ _ hxe3
    subst hAe3
    refine stepV (i := 3) (op := (Op.indexAddr 37 (Operand.tmp 12) (Operand.tmp 13))) (.pointer (some (ade3.add (j * 1)))) hR rfl (by kernel_rfl) (by kernel_rfl) (run_indexAddr (e := 3) (k := 1) (ad := ade3) (len := l.length) (cap := c) (kk := .i64) (i := (j : Int)) (by kernel_rfl) (by kernel_rfl) (by kernel_rfl) (by kernel_rfl) (by omega) (by omega)) ?_
    clear hR
    intro a hR
    refine stepV (i := 4) (op := (Op.load 3 (Operand.tmp 14))) (.int .i64 x4) hR rfl (by kernel_rfl) (by kernel_rfl) (run_load_at (by kernel_rfl) (run_loadVar_one0 (by kernel_rfl) (hce3 0 _ rfl))) ?_
    clear hR
    intro a hR
    refine callB (i := 5) 16 #[.int .i64 x4, .pointer (some ad)] hR rfl (by kernel_rfl) (by kernel_rfl) (by kernel_rfl) (hR.below.size) (Tryd.close11 ad A0 c0 m x4 _ (hf.below hR.below) (hm.below hR.below) hnm) ?_
    clear hR
    rintro v_ a w5 rfl hb6 hR
    refine At.stop (by kernel_rfl) ?_
    refine hK8 _ _ ?_
    refine condS (hasF m x4) hR (by kernel_rfl) (fun c7 => ?_) (fun c7 => ?_)
    ·
      refine seqS fun K9 hK9 => ?_
      refine At.start ?_
      refine segP (i := 0) 2 [0, 1, 4, 7, 8] (l' := [(0, .v (.slice (some ade3) l.length c)), (1, .v (.func (.func 16) #[] #[.pointer (some ad)])), (4, .v (.int .i64 (j : Int))), (7, .v (.int .i64 (l.length : Int))), (8, .v (.int .i64 (j : Int)))]) (H' := []) hR (by kernel_rfl) (by kernel_rfl) ?_
      clear hR
      intro a hR
      refine At.stop (by kernel_rfl) ?_
      refine hK9 _ _ ?_
      refine wp_ret ?_
      exact ret1 (.v (.int .i64 (j : Int))) hR rfl (by kernel_rfl) ⟨_, rfl, hR.below, congrArg (Value.int .i64) (idxF_found hq (by assumption) (by assumption)).symm⟩
    ·
      refine wp_skip ?_
      refine hK6 _ _ ?_
      refine At.start ?_
      refine segP (i := 0) 2 [0, 1, 4, 7, 8] (l' := [(0, .v (.slice (some ade3) l.length c)), (1, .v (.func (.func 16) #[] #[.pointer (some ad)])), (4, .v (.int .i64 0)), (7, .v (.int .i64 (l.length : Int))), (8, .v (.int .i64 (IntKind.i64.wrap ((j : Int) + 1))))]) (H' := []) hR (by kernel_rfl) (by kernel_rfl) ?_
      clear hR
      intro a hR
      rw [show IntKind.i64.wrap ((j : Int) + 1) = ((j : Int) + 1) from wrap_i64 (by omega) (by omega)] at hR
      refine At.stop (by kernel_rfl) ?_
      refine ⟨j + 1, ⟨?_, ?_, ?_⟩, ?_⟩
      · exact (hR.trimTo 0 [0, 1, 4, 7, 8] (by kernel_rfl) (by kernel_rfl) (by kernel_rfl))
      · omega
      · exact noneTo_succ hq (by assumption) (by assumption)
      · show _ < _
        dsimp only
        omega
  ·
    have c2 := of_decide_eq_false c2
    refine wp_exit ?_
    refine hK2 _ _ ?_
    refine seqS fun K10 hK10 => ?_
    refine At.start ?_
    refine segP (i := 0) 1 [4] (l' := [(4, .v (.int .i64 (-1)))]) (H' := []) hR (by kernel_rfl) (by kernel_rfl) ?_
    clear hR
    intro a hR
    refine At.stop (by kernel_rfl) ?_
    refine hK10 _ _ ?_
    refine wp_ret ?_
    exact ret1 (.v (.int .i64 (-1))) hR rfl (by kernel_rfl) ⟨_, rfl, hR.below, congrArg (Value.int .i64) (idxF_none (by have e : j = l.length := (by omega); rw [← e]; exact hq)).symm⟩

set_option maxRecDepth 10000 in
theorem Tryd.anyFam (A : Option Addr) (c : Nat) (l : List Int) (ad : Addr) (A0 : Option Addr) (c0 : Nat) (m : List (Int × Int)) (w : World) (hl : Rd w 1 Go.KW.encI A l) (hn : l.length ≤ 1000000000000) (hf : Pt w ad [.slice A0 m.length c0]) (hm : Rd w 2 encR A0 m) (hnm : m.length ≤ 1000000000000) :
    Calls Tryd.prog 15 #[.slice A l.length c, .func (.func 16) #[] #[.pointer (some ad)]] w (RetB w fun v w' => v = .bool (l.any (hasF m))) := by
  refine enter [(0, .v (.slice A l.length c)), (1, .v (.func (.func 16) #[] #[.pointer (some ad)]))] Tryd.func15 rfl ⟨9, rfl, rfl, rfl⟩ ?_
  intro a hR
  refine seqS fun K1 hK1 => ?_
  refine At.start ?_
  refine segP (i := 0) 1 [0, 1, 4] (l' := [(0, .v (.slice A l.length c)), (1, .v (.func (.func 16) #[] #[.pointer (some ad)])), (4, .v (.bool false))]) (H' := []) hR (by kernel_rfl) (by kernel_rfl) ?_
  clear hR
  intro a hR
  refine At.stop (by kernel_rfl) ?_
  refine hK1 _ _ ?_
  refine seqS fun K2 hK2 => ?_
  refine At.start ?_
  refine segP (i := 0) 2 [4, 5, 6] (l' := [(4, .v (.bool false)), (5, .v (.slice A l.length c)), (6, .v (.func (.func 16) #[] #[.pointer (some ad)]))]) (H' := []) hR (by kernel_rfl) (by kernel_rfl) ?_
  clear hR
  intro a hR
  refine callB (i := 2) 30 #[.slice A l.length c, .func (.func 16) #[] #[.pointer (some ad)]] hR rfl (by kernel_rfl) (by kernel_rfl) (by kernel_rfl) (Nat.le_refl _) (Tryd.idxFam A c l ad A0 c0 m _ hl hn hf hm hnm) ?_
  clear hR
  rintro v_ a w1 rfl hb2 hR
  refine segP (i := 3) 2 [4] (l' := [(4, .v (.bool (decide (idxF (hasF m) l ≥ 0))))]) (H' := []) hR (by kernel_rfl) (by kernel_rfl) ?_
  clear hR
  intro a hR
  refine At.stop (by kernel_rfl) ?_
  refine hK2 _ _ ?_
  refine wp_ret ?_
  exact ret1 (.v (.bool (decide (idxF (hasF m) l ≥ 0)))) hR rfl (by kernel_rfl) ⟨_, rfl, hR.below, congrArg Value.bool (idxF_any _ _)⟩

end Go.Proofs

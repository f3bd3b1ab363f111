/- Walks of functions. -/
import Derived.Test.YtpjibonpnghodaaDoorProg
import Derived.Test.YtpjibonpnghodaaDoorSets
set_option linter.unusedVariables false
set_option linter.unusedSimpArgs false
namespace Go.Proofs
open Go.RowKit Go.KW Go.Rng
set_option maxRecDepth 10000 in
theorem Tryd.others_any (w : World) :
    Calls Tryd.prog 18 #[] w (RetB w fun v w' => v = .agg othersV.toArray) := by
  refine enter [] Tryd.func18 rfl ⟨9, rfl, rfl, rfl⟩ ?_
  intro a hR
  refine seqS fun K1 hK1 => ?_
  refine At.start ?_
  refine allocS (i := 0) [.int .i64 0, .int .i64 0, .int .i64 0, .int .i64 0, .int .i64 0, .int .i64 0, .int .i64 0, .int .i64 0, .int .i64 0, .int .i64 0, .int .i64 0, .int .i64 0, .int .i64 0, .int .i64 0] hR rfl (by kernel_rfl) (by kernel_rfl) (by kernel_rfl) (Nat.le_refl _) ?_
  clear hR
  intro b1 a w2 hb1 hsb1 hgb1 hR
  refine At.stop (by kernel_rfl) ?_
  refine hK1 _ _ ?_
  refine seqS fun K2 hK2 => ?_
  refine At.start ?_
  refine seg (i := 0) 9 [0] (l' := [(0, .p 0 0)]) (H' := [([.v (.int .i64 255), .v (.int .i64 376), .v (.int .i64 181), .v (.int .i64 924), .v (.int .i64 962), .v (.int .i64 931), .v (.int .i64 8490), .v (.int .i64 75), .v (.int .i64 8491), .v (.int .i64 197), .v (.int .i64 383), .v (.int .i64 83), .v (.int .i64 8486), .v (.int .i64 937)], 47)]) hR (by kernel_rfl) ?_
  clear hR
  intro a w3 hR hO4
  refine At.stop (by kernel_rfl) ?_
  refine hK2 _ _ ?_
  refine wp_ret ?_
  exact ret1 (.v (.agg #[.int .i64 255, .int .i64 376, .int .i64 181, .int .i64 924, .int .i64 962, .int .i64 931, .int .i64 8490, .int .i64 75, .int .i64 8491, .int .i64 197, .int .i64 383, .int .i64 83, .int .i64 8486, .int .i64 937])) hR rfl (by kernel_rfl) ⟨_, rfl, hR.below, rfl⟩

set_option maxRecDepth 10000 in
theorem Tryd.blocks_any (w : World) :
    Calls Tryd.prog 17 #[] w (RetB w fun v w' => v = .agg blocksV.toArray) := by
  refine enter [] Tryd.func17 rfl ⟨9, rfl, rfl, rfl⟩ ?_
  intro a hR
  refine seqS fun K1 hK1 => ?_
  refine At.start ?_
  refine allocS (i := 0) [.int .i64 0, .int .i64 0, .int .i64 0, .int .i64 0, .int .i64 0, .int .i64 0, .int .i64 0, .int .i64 0, .int .i64 0, .int .i64 0, .int .i64 0, .int .i64 0, .int .i64 0, .int .i64 0, .int .i64 0, .int .i64 0, .int .i64 0, .int .i64 0, .int .i64 0, .int .i64 0, .int .i64 0] hR rfl (by kernel_rfl) (by kernel_rfl) (by kernel_rfl) (Nat.le_refl _) ?_
  clear hR
  intro b1 a w2 hb1 hsb1 hgb1 hR
  refine At.stop (by kernel_rfl) ?_
  refine hK1 _ _ ?_
  refine seqS fun K2 hK2 => ?_
  refine At.start ?_
  refine seg (i := 0) 9 [0] (l' := [(0, .p 0 0)]) (H' := [([.v (.int .i64 65), .v (.int .i64 90), .v (.int .i64 32), .v (.int .i64 192), .v (.int .i64 214), .v (.int .i64 32), .v (.int .i64 216), .v (.int .i64 222), .v (.int .i64 32), .v (.int .i64 913), .v (.int .i64 929), .v (.int .i64 32), .v (.int .i64 931), .v (.int .i64 939), .v (.int .i64 32), .v (.int .i64 1040), .v (.int .i64 1071), .v (.int .i64 32), .v (.int .i64 1024), .v (.int .i64 1039), .v (.int .i64 80)], 43)]) hR (by kernel_rfl) ?_
  clear hR
  intro a w3 hR hO4
  refine At.stop (by kernel_rfl) ?_
  refine hK2 _ _ ?_
  refine wp_ret ?_
  exact ret1 (.v (.agg #[.int .i64 65, .int .i64 90, .int .i64 32, .int .i64 192, .int .i64 214, .int .i64 32, .int .i64 216, .int .i64 222, .int .i64 32, .int .i64 913, .int .i64 929, .int .i64 32, .int .i64 931, .int .i64 939, .int .i64 32, .int .i64 1040, .int .i64 1071, .int .i64 32, .int .i64 1024, .int .i64 1039, .int .i64 80])) hR rfl (by kernel_rfl) ⟨_, rfl, hR.below, rfl⟩

set_option maxRecDepth 10000 in
theorem Tryd.capital_any (r : Int) (w : World) (h0 : -1000000000000 ≤ r) (h1 : r ≤ 1000000000000) :
    Calls Tryd.prog 28 #[.int .i64 r] w (RetB w fun v w' => v = .int .i64 (capF r)) := by
  refine enter [(0, .v (.int .i64 r))] Tryd.func28 rfl ⟨44, rfl, rfl, rfl⟩ ?_
  intro a hR
  refine seqS fun K1 hK1 => ?_
  refine At.start ?_
  refine segP (i := 0) 1 [0, 2] (l' := [(0, .v (.int .i64 r)), (2, .v (.int .i64 0))]) (H' := []) hR (by kernel_rfl) (by kernel_rfl) ?_
  clear hR
  intro a hR
  refine At.stop (by kernel_rfl) ?_
  refine hK1 _ _ ?_
  refine seqS fun K2 hK2 => ?_
  refine seqS fun K3 hK3 => ?_
  refine At.start ?_
  refine callB (i := 0) 18 #[] hR rfl (by kernel_rfl) (by kernel_rfl) (by kernel_rfl) (Nat.le_refl _) (Tryd.others_any _) ?_
  clear hR
  rintro v_ a w1 rfl hb2 hR
  refine segP (i := 1) 1 [0, 2, 7, 8] (l' := [(0, .v (.int .i64 r)), (2, .v (.int .i64 0)), (7, .v (.agg othersV.toArray)), (8, .v (.int .i64 0))]) (H' := []) hR (by kernel_rfl) (by kernel_rfl) ?_
  clear hR
  intro a hR
  refine At.stop (by kernel_rfl) ?_
  refine hK3 _ _ ?_
  refine wp_block ?_
  refine loopS (α := Nat) (fun x_ a wr => match x_ with | j => Rel [] 44 w (w.heap.size) [] [(0, .v (.int .i64 r)), (2, .v (.int .i64 0)), (7, .v (.agg othersV.toArray)), (8, .v (.int .i64 (j : Int)))] [] a wr ∧ (j ≤ 7) ∧ (noO r j)) (fun (x_ : Nat) => match x_ with | j => 7 - j) 0 ?_ ?_
  · exact ⟨hR, by omega, noO_zero r⟩
  intro j a w3 hI
  clear hR
  obtain ⟨hR, hj, hn⟩ := hI
  refine seqS fun K4 hK4 => ?_
  refine At.start ?_
  refine segP (i := 0) 1 [0, 2, 7, 8, 9] (l' := [(0, .v (.int .i64 r)), (2, .v (.int .i64 0)), (7, .v (.agg othersV.toArray)), (8, .v (.int .i64 (j : Int))), (9, .v (.bool (decide ((j : Int) < 7))))]) (H' := []) hR (by kernel_rfl) (by kernel_rfl) ?_
  clear hR
  intro a hR
  refine At.stop (by kernel_rfl) ?_
  refine hK4 _ _ ?_
  refine seqS fun K5 hK5 => ?_
  refine condS (decide ((j : Int) < 7)) hR (by kernel_rfl) (fun c4 => ?_) (fun c4 => ?_)
  ·
    have c4 := of_decide_eq_true c4
    refine wp_skip ?_
    refine hK5 _ _ ?_
    refine seqS fun K6 hK6 => ?_
    refine wp_block ?_
    refine seqS fun K7 hK7 => ?_
    refine At.start ?_
    have hX := others_at j (by omega)
    have hbd5 := oth_bd j (by omega)
    refine stepV (i := 0) (op := (Op.index 47 (Operand.tmp 7) (Operand.tmp 8))) (.agg #[.int .i64 (oR j), .int .i64 (oC j)]) hR rfl (by kernel_rfl) (by kernel_rfl) ((run_index_agg (e := 46) (len := 7) (k := 2) (cs := othersV.toArray) (kk := .i64) (i := (j : Int)) (by kernel_rfl) (by kernel_rfl) (by kernel_rfl) (by kernel_rfl) (by kernel_rfl) (by omega) (by omega)).trans (congrArg (fun z => Result.ok (Next.value (Value.agg z)) _) hX)) ?_
    clear hR
    intro a hR
    clear hX
    refine allocS (i := 1) [.int .i64 0, .int .i64 0] hR rfl (by kernel_rfl) (by kernel_rfl) (by kernel_rfl) (hR.below.size) ?_
    clear hR
    intro b6 a w7 hb6 hsb6 hgb6 hR
    refine seg (i := 2) 1 [0, 2, 4, 7, 8] (l' := [(0, .v (.int .i64 r)), (2, .v (.int .i64 0)), (4, .p 0 0), (7, .v (.agg othersV.toArray)), (8, .v (.int .i64 (j : Int)))]) (H' := [([.v (.int .i64 (oR j)), .v (.int .i64 (oC j))], 46)]) hR (by kernel_rfl) ?_
    clear hR
    intro a w8 hR hO9
    refine At.stop (by kernel_rfl) ?_
    refine hK7 _ _ ?_
    refine seqS fun K8 hK8 => ?_
    refine At.start ?_
    refine segP (i := 0) 4 [0, 2, 4, 7, 8, 14] (l' := [(0, .v (.int .i64 r)), (2, .v (.int .i64 0)), (4, .p 0 0), (7, .v (.agg othersV.toArray)), (8, .v (.int .i64 (j : Int))), (14, .v (.bool ((oR j) == r)))]) (H' := [([.v (.int .i64 (oR j)), .v (.int .i64 (oC j))], 46)]) hR (by kernel_rfl) (by kernel_rfl) ?_
    clear hR
    intro a hR
    refine At.stop (by kernel_rfl) ?_
    refine hK8 _ _ ?_
    refine condS ((oR j) == r) hR (by kernel_rfl) (fun c10 => ?_) (fun c10 => ?_)
    ·
      have c10 := (beq_iff_eq.1 c10)
      refine seqS fun K9 hK9 => ?_
      refine At.start ?_
      refine segP (i := 0) 3 [0, 2, 7, 8] (l' := [(0, .v (.int .i64 r)), (2, .v (.int .i64 (oC j))), (7, .v (.agg othersV.toArray)), (8, .v (.int .i64 (j : Int)))]) (H' := [([.v (.int .i64 (oR j)), .v (.int .i64 (oC j))], 46)]) hR (by kernel_rfl) (by kernel_rfl) ?_
      clear hR
      intro a hR
      refine At.stop (by kernel_rfl) ?_
      refine hK9 _ _ ?_
      refine wp_ret ?_
      exact ret1 (.v (.int .i64 (oC j))) hR rfl (by kernel_rfl) ⟨_, rfl, hR.below, by rw [capF_other hn (by omega) (by assumption)]; rfl⟩
    ·
      have c10 := (beq_eq_false_iff_ne.1 c10)
      refine wp_skip ?_
      refine hK6 _ _ ?_
      refine At.start ?_
      refine segP (i := 0) 2 [0, 2, 7, 8] (l' := [(0, .v (.int .i64 r)), (2, .v (.int .i64 0)), (7, .v (.agg othersV.toArray)), (8, .v (.int .i64 (IntKind.i64.wrap ((j : Int) + 1))))]) (H' := [([.v (.int .i64 (oR j)), .v (.int .i64 (oC j))], 46)]) hR (by kernel_rfl) (by kernel_rfl) ?_
      clear hR
      intro a hR
      rw [show IntKind.i64.wrap ((j : Int) + 1) = ((j : Int) + 1) from wrap_i64 (by omega) (by omega)] at hR
      refine At.stop (by kernel_rfl) ?_
      refine ⟨j + 1, ⟨?_, ?_, ?_⟩, ?_⟩
      · exact (hR.trimTo 0 [0, 2, 7, 8] (by kernel_rfl) (by kernel_rfl) (by kernel_rfl))
      · omega
      · exact noO_succ hn (by omega) (by assumption)
      · show _ < _
        dsimp only
        omega
  ·
    have c4 := of_decide_eq_false c4
    refine wp_exit ?_
    refine hK2 _ _ ?_
    refine seqS fun K10 hK10 => ?_
    refine seqS fun K11 hK11 => ?_
    refine At.start ?_
    refine callB (i := 0) 17 #[] hR rfl (by kernel_rfl) (by kernel_rfl) (by kernel_rfl) (hR.below.size) (Tryd.blocks_any _) ?_
    clear hR
    rintro v_ a w11 rfl hb12 hR
    refine segP (i := 1) 1 [0, 2, 18, 19] (l' := [(0, .v (.int .i64 r)), (2, .v (.int .i64 0)), (18, .v (.agg blocksV.toArray)), (19, .v (.int .i64 0))]) (H' := []) hR (by kernel_rfl) (by kernel_rfl) ?_
    clear hR
    intro a hR
    refine At.stop (by kernel_rfl) ?_
    refine hK11 _ _ ?_
    refine wp_block ?_
    have hn7 : noO r 7 := by
      obtain rfl : j = 7 := by omega
      exact hn
    clear hn hj
    refine loopS (α := Nat) (fun x_ a wr => match x_ with | j => Rel [] 44 w (w.heap.size) [] [(0, .v (.int .i64 r)), (2, .v (.int .i64 0)), (18, .v (.agg blocksV.toArray)), (19, .v (.int .i64 (j : Int)))] [] a wr ∧ (j ≤ 7) ∧ (noB r j)) (fun (x_ : Nat) => match x_ with | j => 7 - j) 0 ?_ ?_
    · exact ⟨hR, by omega, noB_zero r⟩
    intro j a w13 hI
    clear hR
    obtain ⟨hR, hj, hm⟩ := hI
    refine seqS fun K12 hK12 => ?_
    refine At.start ?_
    refine segP (i := 0) 1 [0, 2, 18, 19, 20] (l' := [(0, .v (.int .i64 r)), (2, .v (.int .i64 0)), (18, .v (.agg blocksV.toArray)), (19, .v (.int .i64 (j : Int))), (20, .v (.bool (decide ((j : Int) < 7))))]) (H' := []) hR (by kernel_rfl) (by kernel_rfl) ?_
    clear hR
    intro a hR
    refine At.stop (by kernel_rfl) ?_
    refine hK12 _ _ ?_
    refine seqS fun K13 hK13 => ?_
    refine condS (decide ((j : Int) < 7)) hR (by kernel_rfl) (fun c14 => ?_) (fun c14 => ?_)
    ·
      have c14 := of_decide_eq_true c14
      refine wp_skip ?_
      refine hK13 _ _ ?_
      refine seqS fun K14 hK14 => ?_
      refine wp_block ?_
      refine seqS fun K15 hK15 => ?_
      refine At.start ?_
      have hX := blocks_at j (by omega)
      have hbd15 := blk_bd j (by omega)
      refine stepV (i := 0) (op := (Op.index 43 (Operand.tmp 18) (Operand.tmp 19))) (.agg #[.int .i64 (bLo j), .int .i64 (bHi j), .int .i64 (bUp j)]) hR rfl (by kernel_rfl) (by kernel_rfl) ((run_index_agg (e := 42) (len := 7) (k := 3) (cs := blocksV.toArray) (kk := .i64) (i := (j : Int)) (by kernel_rfl) (by kernel_rfl) (by kernel_rfl) (by kernel_rfl) (by kernel_rfl) (by omega) (by omega)).trans (congrArg (fun z => Result.ok (Next.value (Value.agg z)) _) hX)) ?_
      clear hR
      intro a hR
      clear hX
      refine allocS (i := 1) [.int .i64 0, .int .i64 0, .int .i64 0] hR rfl (by kernel_rfl) (by kernel_rfl) (by kernel_rfl) (hR.below.size) ?_
      clear hR
      intro b16 a w17 hb16 hsb16 hgb16 hR
      refine seg (i := 2) 1 [0, 2, 6, 18, 19] (l' := [(0, .v (.int .i64 r)), (2, .v (.int .i64 0)), (6, .p 0 0), (18, .v (.agg blocksV.toArray)), (19, .v (.int .i64 (j : Int)))]) (H' := [([.v (.int .i64 (bLo j)), .v (.int .i64 (bHi j)), .v (.int .i64 (bUp j))], 42)]) hR (by kernel_rfl) ?_
      clear hR
      intro a w18 hR hO19
      refine At.stop (by kernel_rfl) ?_
      refine hK15 _ _ ?_
      refine seqS fun K16 hK16 => ?_
      refine At.start ?_
      refine segP (i := 0) 8 [0, 2, 6, 18, 19, 29] (l' := [(0, .v (.int .i64 r)), (2, .v (.int .i64 0)), (6, .p 0 0), (18, .v (.agg blocksV.toArray)), (19, .v (.int .i64 (j : Int))), (29, .v (.bool (decide (r ≥ IntKind.i64.wrap ((bLo j) + (bUp j))))))]) (H' := [([.v (.int .i64 (bLo j)), .v (.int .i64 (bHi j)), .v (.int .i64 (bUp j))], 42)]) hR (by kernel_rfl) (by kernel_rfl) ?_
      clear hR
      intro a hR
      rw [show IntKind.i64.wrap ((bLo j) + (bUp j)) = ((bLo j) + (bUp j)) from wrap_i64 (by omega) (by omega)] at hR
      cases c20 : (decide (r ≥ ((bLo j) + (bUp j))))
      case false =>
        rw [c20] at hR
        have c20 := of_decide_eq_false c20
        refine segP (i := 8) 8 [0, 2, 6, 18, 19, 37] (l' := [(0, .v (.int .i64 r)), (2, .v (.int .i64 0)), (6, .p 0 0), (18, .v (.agg blocksV.toArray)), (19, .v (.int .i64 (j : Int))), (37, .v (.bool false))]) (H' := [([.v (.int .i64 (bLo j)), .v (.int .i64 (bHi j)), .v (.int .i64 (bUp j))], 42)]) hR (by kernel_rfl) (by kernel_rfl) ?_
        clear hR
        intro a hR
        refine At.stop (by kernel_rfl) ?_
        refine hK16 _ _ ?_
        refine wp_cond_false (hR.fr.eval (by kernel_rfl : evS _ _ = some (.v (.bool false)))) ?_
        refine wp_skip ?_
        refine hK14 _ _ ?_
        refine At.start ?_
        refine segP (i := 0) 2 [0, 2, 18, 19] (l' := [(0, .v (.int .i64 r)), (2, .v (.int .i64 0)), (18, .v (.agg blocksV.toArray)), (19, .v (.int .i64 (IntKind.i64.wrap ((j : Int) + 1))))]) (H' := [([.v (.int .i64 (bLo j)), .v (.int .i64 (bHi j)), .v (.int .i64 (bUp j))], 42)]) hR (by kernel_rfl) (by kernel_rfl) ?_
        clear hR
        intro a hR
        rw [show IntKind.i64.wrap ((j : Int) + 1) = ((j : Int) + 1) from wrap_i64 (by omega) (by omega)] at hR
        refine At.stop (by kernel_rfl) ?_
        refine ⟨j + 1, ⟨?_, ?_, ?_⟩, ?_⟩
        · exact (hR.trimTo 0 [0, 2, 18, 19] (by kernel_rfl) (by kernel_rfl) (by kernel_rfl))
        · omega
        · exact noB_succ hm (by omega) (by omega)
        · show _ < _
          dsimp only
          omega
      case true =>
        rw [c20] at hR
        have c20 := of_decide_eq_true c20
        refine segP (i := 8) 8 [0, 2, 6, 18, 19, 37] (l' := [(0, .v (.int .i64 r)), (2, .v (.int .i64 0)), (6, .p 0 0), (18, .v (.agg blocksV.toArray)), (19, .v (.int .i64 (j : Int))), (37, .v (.bool (decide (r ≤ IntKind.i64.wrap ((bHi j) + (bUp j))))))]) (H' := [([.v (.int .i64 (bLo j)), .v (.int .i64 (bHi j)), .v (.int .i64 (bUp j))], 42)]) hR (by kernel_rfl) (by kernel_rfl) ?_
        clear hR
        intro a hR
        rw [show IntKind.i64.wrap ((bHi j) + (bUp j)) = ((bHi j) + (bUp j)) from wrap_i64 (by omega) (by omega)] at hR
        refine At.stop (by kernel_rfl) ?_
        refine hK16 _ _ ?_
        refine condS (decide (r ≤ ((bHi j) + (bUp j)))) hR (by kernel_rfl) (fun c21 => ?_) (fun c21 => ?_)
        ·
          have c21 := of_decide_eq_true c21
          refine seqS fun K17 hK17 => ?_
          refine At.start ?_
          refine segP (i := 0) 5 [0, 2, 18, 19] (l' := [(0, .v (.int .i64 r)), (2, .v (.int .i64 (IntKind.i64.wrap (r - (bUp j))))), (18, .v (.agg blocksV.toArray)), (19, .v (.int .i64 (j : Int)))]) (H' := [([.v (.int .i64 (bLo j)), .v (.int .i64 (bHi j)), .v (.int .i64 (bUp j))], 42)]) hR (by kernel_rfl) (by kernel_rfl) ?_
          clear hR
          intro a hR
          rw [show IntKind.i64.wrap (r - (bUp j)) = (r - (bUp j)) from wrap_i64 (by omega) (by omega)] at hR
          refine At.stop (by kernel_rfl) ?_
          refine hK17 _ _ ?_
          refine wp_ret ?_
          exact ret1 (.v (.int .i64 (r - (bUp j)))) hR rfl (by kernel_rfl) ⟨_, rfl, hR.below, by rw [capF_block hn7 hm (by omega) (by omega) (by omega)]; rfl⟩
        ·
          have c21 := of_decide_eq_false c21
          refine wp_skip ?_
          refine hK14 _ _ ?_
          refine At.start ?_
          refine segP (i := 0) 2 [0, 2, 18, 19] (l' := [(0, .v (.int .i64 r)), (2, .v (.int .i64 0)), (18, .v (.agg blocksV.toArray)), (19, .v (.int .i64 (IntKind.i64.wrap ((j : Int) + 1))))]) (H' := [([.v (.int .i64 (bLo j)), .v (.int .i64 (bHi j)), .v (.int .i64 (bUp j))], 42)]) hR (by kernel_rfl) (by kernel_rfl) ?_
          clear hR
          intro a hR
          rw [show IntKind.i64.wrap ((j : Int) + 1) = ((j : Int) + 1) from wrap_i64 (by omega) (by omega)] at hR
          refine At.stop (by kernel_rfl) ?_
          refine ⟨j + 1, ⟨?_, ?_, ?_⟩, ?_⟩
          · exact (hR.trimTo 0 [0, 2, 18, 19] (by kernel_rfl) (by kernel_rfl) (by kernel_rfl))
          · omega
          · exact noB_succ hm (by omega) (by omega)
          · show _ < _
            dsimp only
            omega
    ·
      have c14 := of_decide_eq_false c14
      refine wp_exit ?_
      refine hK10 _ _ ?_
      refine seqS fun K18 hK18 => ?_
      refine At.start ?_
      refine segP (i := 0) 2 [2] (l' := [(2, .v (.int .i64 r))]) (H' := []) hR (by kernel_rfl) (by kernel_rfl) ?_
      clear hR
      intro a hR
      refine At.stop (by kernel_rfl) ?_
      refine hK18 _ _ ?_
      refine wp_ret ?_
      exact ret1 (.v (.int .i64 r)) hR rfl (by kernel_rfl) ⟨_, rfl, hR.below, congrArg (Value.int .i64) (capF_self hn7 (by have e : j = 7 := (by omega); subst e; exact hm)).symm⟩

end Go.Proofs

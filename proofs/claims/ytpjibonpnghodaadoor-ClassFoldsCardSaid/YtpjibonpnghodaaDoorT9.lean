/- Walks of functions. -/
import Derived.Test.YtpjibonpnghodaaDoorT8
set_option linter.unusedVariables false
set_option linter.unusedSimpArgs false
namespace Go.Proofs
open Go.RowKit Go.KW Go.Rng
set_option maxRecDepth 10000 in
theorem Tryd.close_any (A : Option Addr) (c : Nat) (l : List (Int × Int)) (w : World) (hl : Rd w 2 encR A l) (hn : l.length ≤ 1000000000000) :
    Calls Tryd.prog 5 #[.slice A l.length c] w (RetB w fun v w' => ∃ A c, v = .slice A (closeL l).length c ∧ Row w' [] w.heap.size 34 2 encR A c (closeL l)) := by
  refine enter [(0, .v (.slice A l.length c))] Tryd.func5 rfl ⟨40, rfl, rfl, rfl⟩ ?_
  intro a hR
  have hlA := hl.lt encR_len (by decide)
  refine seqS fun K1 hK1 => ?_
  refine At.start ?_
  refine boxS (i := 0) (.v (.slice A l.length c)) hR rfl (by kernel_rfl) (by kernel_rfl) (by kernel_rfl) (Nat.le_refl _) ?_
  clear hR
  intro b1 a w2 hb1 hsb1 hgb1 hR
  refine segP (i := 1) 1 [1, 2] (l' := [(1, .p 0 0), (2, .v (.slice none 0 0))]) (H' := [([.v (.slice A l.length c)], 23)]) hR (by kernel_rfl) (by kernel_rfl) ?_
  clear hR
  intro a hR
  refine At.stop (by kernel_rfl) ?_
  refine hK1 _ _ ?_
  refine seqS fun K2 hK2 => ?_
  refine At.start ?_
  refine segP (i := 0) 1 [1, 2, 10] (l' := [(1, .p 0 0), (2, .v (.slice none 0 0)), (10, .v (.slice A l.length c))]) (H' := [([.v (.slice A l.length c)], 23)]) hR (by kernel_rfl) (by kernel_rfl) ?_
  clear hR
  intro a hR
  have hlt5 := hR.vars.lt
  have hsz6 := hR.below.size
  refine callB (i := 1) 12 #[.slice A l.length c] hR rfl (by kernel_rfl) (by kernel_rfl) (by kernel_rfl) (hR.below.size) (Tryd.clone_any A c l _ (hl.below hR.below) (by omega)) ?_
  clear hR
  rintro v_ a w3 ⟨A7, c8, rfl, hrow9⟩ hb4 hR
  replace hrow9 := (Row.of_own hrow9.own hlt5).mono hsz6
  refine allocS (i := 2) [.slice none 0 0] hR rfl (by kernel_rfl) (by kernel_rfl) (by kernel_rfl) (hR.below.size) ?_
  clear hR
  intro b10 a w11 hb10 hsb10 hgb10 hR
  replace hrow9 := hrow9.new hb10 hgb10
  refine seg (i := 3) 1 [1, 2, 3] (l' := [(1, .p 0 0), (2, .v (.slice none 0 0)), (3, .p 1 0)]) (H' := [([.v (.slice A l.length c)], 23), ([.v (.slice A7 l.length c8)], 23)]) hR (by kernel_rfl) ?_
  clear hR
  intro a w12 hR hO13
  replace hrow9 := hrow9.ownS hO13
  refine At.stop (by kernel_rfl) ?_
  refine hK2 _ _ ?_
  refine seqS fun K3 hK3 => ?_
  refine At.start ?_
  refine segP (i := 0) 2 [2, 3, 4] (l' := [(2, .v (.slice none 0 0)), (3, .p 1 0), (4, .v (.func (.func 13) #[] #[.pointer (some ⟨b1, 0, none⟩), .pointer (some ⟨b10, 0, none⟩)]))]) (H' := [([.v (.slice A l.length c)], 23), ([.v (.slice A7 l.length c8)], 23)]) hR (by kernel_rfl) (by kernel_rfl) ?_
  clear hR
  intro a hR
  refine At.stop (by kernel_rfl) ?_
  refine hK3 _ _ ?_
  refine seqS fun K4 hK4 => ?_
  refine seqS fun K5 hK5 => ?_
  refine At.start ?_
  refine callB (i := 0) 17 #[] hR rfl (by kernel_rfl) (by kernel_rfl) (by kernel_rfl) (hR.below.size) (Tryd.blocks_any _) ?_
  clear hR
  rintro v_ a w14 rfl hb15 hR
  replace hrow9 := hrow9.below hb15
  refine segP (i := 1) 1 [2, 3, 4, 13, 14] (l' := [(2, .v (.slice none 0 0)), (3, .p 1 0), (4, .v (.func (.func 13) #[] #[.pointer (some ⟨b1, 0, none⟩), .pointer (some ⟨b10, 0, none⟩)])), (13, .v (.agg blocksV.toArray)), (14, .v (.int .i64 0))]) (H' := [([.v (.slice A l.length c)], 23), ([.v (.slice A7 l.length c8)], 23)]) hR (by kernel_rfl) (by kernel_rfl) ?_
  clear hR
  intro a hR
  refine At.stop (by kernel_rfl) ?_
  refine hK5 _ _ ?_
  refine wp_block ?_
  refine loopS (α := Option Addr × Nat × List (Int × Int) × Nat) (fun x_ a wr => match x_ with | (A1, c1, o1, j) => Rel [] 40 w (w.heap.size) [b1, b10] [(2, .v (.slice none 0 0)), (3, .p 1 0), (4, .v (.func (.func 13) #[] #[.pointer (some ⟨b1, 0, none⟩), .pointer (some ⟨b10, 0, none⟩)])), (13, .v (.agg blocksV.toArray)), (14, .v (.int .i64 (j : Int)))] [([.v (.slice A l.length c)], 23), ([.v (.slice A1 o1.length c1)], 23)] a wr ∧ (j ≤ 7) ∧ (o1.length ≤ l.length + 30000 * j) ∧ (o1 = l ++ (capsB (blocksT.take j)).flatMap (addL l)) ∧ (Row wr [b1, b10] (w.heap.size) 34 2 encR A1 c1 o1)) (fun (x_ : Option Addr × Nat × List (Int × Int) × Nat) => match x_ with | (A1, c1, o1, j) => 7 - j) (A7, c8, l, 0) ?_ ?_
  · exact ⟨hR, by omega, by omega, by simp [capsB], hrow9⟩
  rintro ⟨A1, c1, o1, j⟩ a w16 hI
  clear hR
  obtain ⟨hR, hj, hol, ho, hrow1⟩ := hI
  refine seqS fun K6 hK6 => ?_
  refine At.start ?_
  refine segP (i := 0) 1 [2, 3, 4, 13, 14, 15] (l' := [(2, .v (.slice none 0 0)), (3, .p 1 0), (4, .v (.func (.func 13) #[] #[.pointer (some ⟨b1, 0, none⟩), .pointer (some ⟨b10, 0, none⟩)])), (13, .v (.agg blocksV.toArray)), (14, .v (.int .i64 (j : Int))), (15, .v (.bool (decide ((j : Int) < 7))))]) (H' := [([.v (.slice A l.length c)], 23), ([.v (.slice A1 o1.length c1)], 23)]) hR (by kernel_rfl) (by kernel_rfl) ?_
  clear hR
  intro a hR
  refine At.stop (by kernel_rfl) ?_
  refine hK6 _ _ ?_
  refine seqS fun K7 hK7 => ?_
  refine condS (decide ((j : Int) < 7)) hR (by kernel_rfl) (fun c17 => ?_) (fun c17 => ?_)
  ·
    have c17 := of_decide_eq_true c17
    refine wp_skip ?_
    refine hK7 _ _ ?_
    refine seqS fun K8 hK8 => ?_
    refine wp_block ?_
    refine seqS fun K9 hK9 => ?_
    refine At.start ?_
    have hX := blocks_at j (by omega)
    have hbd18 := blk_bd j (by omega)
    refine stepV (i := 0) (op := (Op.index 43 (Operand.tmp 13) (Operand.tmp 14))) (.agg #[.int .i64 (bLo j), .int .i64 (bHi j), .int .i64 (bUp j)]) hR rfl (by kernel_rfl) (by kernel_rfl) ((run_index_agg (e := 42) (len := 7) (k := 3) (cs := blocksV.toArray) (kk := .i64) (i := (j : Int)) (by kernel_rfl) (by kernel_rfl) (by kernel_rfl) (by kernel_rfl) (by kernel_rfl) (by omega) (by omega)).trans (congrArg (fun z => Result.ok (Next.value (Value.agg z)) _) hX)) ?_
    clear hR
    intro a hR
    clear hX
    refine allocS (i := 1) [.int .i64 0, .int .i64 0, .int .i64 0] hR rfl (by kernel_rfl) (by kernel_rfl) (by kernel_rfl) (hR.below.size) ?_
    clear hR
    intro b19 a w20 hb19 hsb19 hgb19 hR
    replace hrow1 := hrow1.new hb19 hgb19
    refine seg (i := 2) 1 [2, 3, 4, 6, 13, 14] (l' := [(2, .v (.slice none 0 0)), (3, .p 1 0), (4, .v (.func (.func 13) #[] #[.pointer (some ⟨b1, 0, none⟩), .pointer (some ⟨b10, 0, none⟩)])), (6, .p 2 0), (13, .v (.agg blocksV.toArray)), (14, .v (.int .i64 (j : Int)))]) (H' := [([.v (.slice A l.length c)], 23), ([.v (.slice A1 o1.length c1)], 23), ([.v (.int .i64 (bLo j)), .v (.int .i64 (bHi j)), .v (.int .i64 (bUp j))], 42)]) hR (by kernel_rfl) ?_
    clear hR
    intro a w21 hR hO22
    replace hrow1 := hrow1.ownS hO22
    refine At.stop (by kernel_rfl) ?_
    refine hK9 _ _ ?_
    refine seqS fun K10 hK10 => ?_
    refine At.start ?_
    refine segP (i := 0) 3 [2, 3, 4, 6, 7, 13, 14] (l' := [(2, .v (.slice none 0 0)), (3, .p 1 0), (4, .v (.func (.func 13) #[] #[.pointer (some ⟨b1, 0, none⟩), .pointer (some ⟨b10, 0, none⟩)])), (6, .p 2 0), (7, .v (.int .i64 (bLo j))), (13, .v (.agg blocksV.toArray)), (14, .v (.int .i64 (j : Int)))]) (H' := [([.v (.slice A l.length c)], 23), ([.v (.slice A1 o1.length c1)], 23), ([.v (.int .i64 (bLo j)), .v (.int .i64 (bHi j)), .v (.int .i64 (bUp j))], 42)]) hR (by kernel_rfl) (by kernel_rfl) ?_
    clear hR
    intro a hR
    refine At.stop (by kernel_rfl) ?_
    refine hK10 _ _ ?_
    refine wp_block ?_
    have hbj := blk_bd j (by omega)
    refine loopS (α := Option Addr × Nat × List (Int × Int) × Int) (fun x_ a wr => match x_ with | (A2, c2, o2, x) => Rel [] 40 w (w.heap.size) [b1, b10, b19] [(2, .v (.slice none 0 0)), (3, .p 1 0), (4, .v (.func (.func 13) #[] #[.pointer (some ⟨b1, 0, none⟩), .pointer (some ⟨b10, 0, none⟩)])), (6, .p 2 0), (7, .v (.int .i64 x)), (13, .v (.agg blocksV.toArray)), (14, .v (.int .i64 (j : Int)))] [([.v (.slice A l.length c)], 23), ([.v (.slice A2 o2.length c2)], 23), ([.v (.int .i64 (bLo j)), .v (.int .i64 (bHi j)), .v (.int .i64 (bUp j))], 42)] a wr ∧ (bLo j ≤ x ∧ x ≤ bHi j + 1) ∧ (o2.length ≤ l.length + 30000 * j + 15 * (x - bLo j).toNat) ∧ (o2 = l ++ (capsB (blocksT.take j) ++ upTo (bLo j) x).flatMap (addL l)) ∧ (Row wr [b1, b10, b19] (w.heap.size) 34 2 encR A2 c2 o2)) (fun (x_ : Option Addr × Nat × List (Int × Int) × Int) => match x_ with | (A2, c2, o2, x) => (bHi j + 1 - x).toNat) (A1, c1, o1, bLo j) ?_ ?_
    · exact ⟨hR, by omega, by omega, by rw [upTo_nil, List.append_nil]; exact ho, hrow1⟩
    rintro ⟨A2, c2, o2, x⟩ a w23 hI
    clear hR
    obtain ⟨hR, hx, hol2, ho2, hrow2⟩ := hI
    refine seqS fun K11 hK11 => ?_
    refine seqS fun K12 hK12 => ?_
    refine At.start ?_
    refine segP (i := 0) 4 [2, 3, 4, 6, 7, 13, 14, 22] (l' := [(2, .v (.slice none 0 0)), (3, .p 1 0), (4, .v (.func (.func 13) #[] #[.pointer (some ⟨b1, 0, none⟩), .pointer (some ⟨b10, 0, none⟩)])), (6, .p 2 0), (7, .v (.int .i64 x)), (13, .v (.agg blocksV.toArray)), (14, .v (.int .i64 (j : Int))), (22, .v (.bool (decide (x ≤ bHi j))))]) (H' := [([.v (.slice A l.length c)], 23), ([.v (.slice A2 o2.length c2)], 23), ([.v (.int .i64 (bLo j)), .v (.int .i64 (bHi j)), .v (.int .i64 (bUp j))], 42)]) hR (by kernel_rfl) (by kernel_rfl) ?_
    clear hR
    intro a hR
    refine At.stop (by kernel_rfl) ?_
    refine hK12 _ _ ?_
    refine condS (decide (x ≤ bHi j)) hR (by kernel_rfl) (fun c24 => ?_) (fun c24 => ?_)
    ·
      have c24 := of_decide_eq_true c24
      refine wp_skip ?_
      refine hK11 _ _ ?_
      refine seqS fun K13 hK13 => ?_
      refine wp_block ?_
      refine At.start ?_
      refine segP (i := 0) 2 [2, 3, 4, 6, 7, 13, 14, 25, 26] (l' := [(2, .v (.slice none 0 0)), (3, .p 1 0), (4, .v (.func (.func 13) #[] #[.pointer (some ⟨b1, 0, none⟩), .pointer (some ⟨b10, 0, none⟩)])), (6, .p 2 0), (7, .v (.int .i64 x)), (13, .v (.agg blocksV.toArray)), (14, .v (.int .i64 (j : Int))), (25, .v (.func (.func 13) #[] #[.pointer (some ⟨b1, 0, none⟩), .pointer (some ⟨b10, 0, none⟩)])), (26, .v (.int .i64 x))]) (H' := [([.v (.slice A l.length c)], 23), ([.v (.slice A2 o2.length c2)], 23), ([.v (.int .i64 (bLo j)), .v (.int .i64 (bHi j)), .v (.int .i64 (bUp j))], 42)]) hR (by kernel_rfl) (by kernel_rfl) ?_
      clear hR
      intro a hR
      have hlt26 := hR.vars.lt
      have hv27 := (show Rel [] 40 w w.heap.size [b1, b10] [] [([.v (.slice A l.length c)], 23), ([.v (.slice A2 o2.length c2)], 23)] a w23 from hR.trimTo 2 [] (by kernel_rfl) (by kernel_rfl) (by kernel_rfl)).vars
      refine callChg (i := 2) 13 #[.int .i64 x, .pointer (some ⟨b1, 0, none⟩), .pointer (some ⟨b10, 0, none⟩)] (.tuple #[]) (X := (Value.slice A2 o2.length c2).ownBlock) 1 (bo := b10) (cs0 := [.v (.slice A2 o2.length c2)]) (T := 23) hR rfl (by kernel_rfl) (by kernel_rfl) (by kernel_rfl) hR.below.size rfl rfl (hrow2.rowOk (Nat.le_refl _)) (Tryd.add_any x b1 b10 w.heap.size A c l A2 c2 o2 _ (by omega) (by omega) (hl.below hR.below) hlA hn (by omega) hR.below.size (hrow2.trim 2 rfl) hv27) ?_
      clear hR
      rintro us a w25 ⟨A30, cp31, rfl, hrow32, hfr29⟩ hch28 hR
      replace hrow32 := hrow32.apart hfr29 (fun b hb => hrow2.sep b hb) hlt26
      have halhrow32 := addL_length l x
      refine At.stop (by kernel_rfl) ?_
      refine hK13 _ _ ?_
      refine At.start ?_
      refine segP (i := 0) 3 [2, 3, 4, 6, 7, 13, 14] (l' := [(2, .v (.slice none 0 0)), (3, .p 1 0), (4, .v (.func (.func 13) #[] #[.pointer (some ⟨b1, 0, none⟩), .pointer (some ⟨b10, 0, none⟩)])), (6, .p 2 0), (7, .v (.int .i64 (IntKind.i64.wrap (x + 1)))), (13, .v (.agg blocksV.toArray)), (14, .v (.int .i64 (j : Int)))]) (H' := [([.v (.slice A l.length c)], 23), ([.v (.slice A30 ((o2 ++ addL l x).length) cp31)], 23), ([.v (.int .i64 (bLo j)), .v (.int .i64 (bHi j)), .v (.int .i64 (bUp j))], 42)]) hR (by kernel_rfl) (by kernel_rfl) ?_
      clear hR
      intro a hR
      rw [show IntKind.i64.wrap (x + 1) = (x + 1) from wrap_i64 (by omega) (by omega)] at hR
      refine At.stop (by kernel_rfl) ?_
      refine ⟨(A30, cp31, (o2 ++ addL l x), x + 1), ⟨?_, ?_, ?_, ?_, ?_⟩, ?_⟩
      · exact (hR.trimTo 3 [2, 3, 4, 6, 7, 13, 14] (by kernel_rfl) (by kernel_rfl) (by kernel_rfl))
      · omega
      · (try simp only [List.length_append]); omega
      · exact close_in ho2 (by omega) rfl
      · exact hrow32
      · show _ < _
        dsimp only
        omega
    ·
      have c24 := of_decide_eq_false c24
      refine wp_exit ?_
      refine hK8 _ _ ?_
      refine At.start ?_
      refine segP (i := 0) 2 [2, 3, 4, 13, 14] (l' := [(2, .v (.slice none 0 0)), (3, .p 1 0), (4, .v (.func (.func 13) #[] #[.pointer (some ⟨b1, 0, none⟩), .pointer (some ⟨b10, 0, none⟩)])), (13, .v (.agg blocksV.toArray)), (14, .v (.int .i64 (IntKind.i64.wrap ((j : Int) + 1))))]) (H' := [([.v (.slice A l.length c)], 23), ([.v (.slice A2 o2.length c2)], 23), ([.v (.int .i64 (bLo j)), .v (.int .i64 (bHi j)), .v (.int .i64 (bUp j))], 42)]) hR (by kernel_rfl) (by kernel_rfl) ?_
      clear hR
      intro a hR
      rw [show IntKind.i64.wrap ((j : Int) + 1) = ((j : Int) + 1) from wrap_i64 (by omega) (by omega)] at hR
      refine At.stop (by kernel_rfl) ?_
      refine ⟨(A2, c2, o2, j + 1), ⟨?_, ?_, ?_, ?_, ?_⟩, ?_⟩
      · exact (hR.trimTo 2 [2, 3, 4, 13, 14] (by kernel_rfl) (by kernel_rfl) (by kernel_rfl))
      · omega
      · have := blk_bd j (by omega); omega
      · rw [capsB_take (by omega), ← (show x = bHi j + 1 by omega)]; exact ho2
      · exact hrow2.trim 2 rfl
      · show _ < _
        dsimp only
        omega
  ·
    have c17 := of_decide_eq_false c17
    refine wp_exit ?_
    refine hK4 _ _ ?_
    refine seqS fun K14 hK14 => ?_
    refine seqS fun K15 hK15 => ?_
    refine At.start ?_
    refine callB (i := 0) 18 #[] hR rfl (by kernel_rfl) (by kernel_rfl) (by kernel_rfl) (hR.below.size) (Tryd.others_any _) ?_
    clear hR
    rintro v_ a w33 rfl hb34 hR
    replace hrow1 := hrow1.below hb34
    refine segP (i := 1) 1 [2, 3, 4, 29, 30] (l' := [(2, .v (.slice none 0 0)), (3, .p 1 0), (4, .v (.func (.func 13) #[] #[.pointer (some ⟨b1, 0, none⟩), .pointer (some ⟨b10, 0, none⟩)])), (29, .v (.agg othersV.toArray)), (30, .v (.int .i64 0))]) (H' := [([.v (.slice A l.length c)], 23), ([.v (.slice A1 o1.length c1)], 23)]) hR (by kernel_rfl) (by kernel_rfl) ?_
    clear hR
    intro a hR
    refine At.stop (by kernel_rfl) ?_
    refine hK15 _ _ ?_
    refine wp_block ?_
    have hj7 : j = 7 := by omega
    rw [hj7, show blocksT.take 7 = blocksT from rfl] at ho
    refine loopS (α := Option Addr × Nat × List (Int × Int) × Nat) (fun x_ a wr => match x_ with | (A3, c3, o3, i) => Rel [] 40 w (w.heap.size) [b1, b10] [(2, .v (.slice none 0 0)), (3, .p 1 0), (4, .v (.func (.func 13) #[] #[.pointer (some ⟨b1, 0, none⟩), .pointer (some ⟨b10, 0, none⟩)])), (29, .v (.agg othersV.toArray)), (30, .v (.int .i64 (i : Int)))] [([.v (.slice A l.length c)], 23), ([.v (.slice A3 o3.length c3)], 23)] a wr ∧ (i ≤ 7) ∧ (o3.length ≤ l.length + 210000 + 15 * i) ∧ (o3 = l ++ (capsB blocksT ++ (othersT.map (·.2)).take i).flatMap (addL l)) ∧ (Row wr [b1, b10] (w.heap.size) 34 2 encR A3 c3 o3)) (fun (x_ : Option Addr × Nat × List (Int × Int) × Nat) => match x_ with | (A3, c3, o3, i) => 7 - i) (A1, c1, o1, 0) ?_ ?_
    · exact ⟨hR, by omega, by omega, by simpa using ho, hrow1⟩
    rintro ⟨A3, c3, o3, i⟩ a w35 hI
    clear hR
    obtain ⟨hR, hi, hol3, ho3, hrow3⟩ := hI
    refine seqS fun K16 hK16 => ?_
    refine At.start ?_
    refine segP (i := 0) 1 [2, 3, 4, 29, 30, 31] (l' := [(2, .v (.slice none 0 0)), (3, .p 1 0), (4, .v (.func (.func 13) #[] #[.pointer (some ⟨b1, 0, none⟩), .pointer (some ⟨b10, 0, none⟩)])), (29, .v (.agg othersV.toArray)), (30, .v (.int .i64 (i : Int))), (31, .v (.bool (decide ((i : Int) < 7))))]) (H' := [([.v (.slice A l.length c)], 23), ([.v (.slice A3 o3.length c3)], 23)]) hR (by kernel_rfl) (by kernel_rfl) ?_
    clear hR
    intro a hR
    refine At.stop (by kernel_rfl) ?_
    refine hK16 _ _ ?_
    refine seqS fun K17 hK17 => ?_
    refine condS (decide ((i : Int) < 7)) hR (by kernel_rfl) (fun c36 => ?_) (fun c36 => ?_)
    ·
      have c36 := of_decide_eq_true c36
      refine wp_skip ?_
      refine hK17 _ _ ?_
      refine seqS fun K18 hK18 => ?_
      refine wp_block ?_
      refine seqS fun K19 hK19 => ?_
      refine At.start ?_
      have hX := others_at i (by omega)
      have hbd37 := oth_bd i (by omega)
      refine stepV (i := 0) (op := (Op.index 47 (Operand.tmp 29) (Operand.tmp 30))) (.agg #[.int .i64 (oR i), .int .i64 (oC i)]) hR rfl (by kernel_rfl) (by kernel_rfl) ((run_index_agg (e := 46) (len := 7) (k := 2) (cs := othersV.toArray) (kk := .i64) (i := (i : Int)) (by kernel_rfl) (by kernel_rfl) (by kernel_rfl) (by kernel_rfl) (by kernel_rfl) (by omega) (by omega)).trans (congrArg (fun z => Result.ok (Next.value (Value.agg z)) _) hX)) ?_
      clear hR
      intro a hR
      clear hX
      refine allocS (i := 1) [.int .i64 0, .int .i64 0] hR rfl (by kernel_rfl) (by kernel_rfl) (by kernel_rfl) (hR.below.size) ?_
      clear hR
      intro b38 a w39 hb38 hsb38 hgb38 hR
      replace hrow3 := hrow3.new hb38 hgb38
      refine seg (i := 2) 1 [2, 3, 4, 9, 29, 30] (l' := [(2, .v (.slice none 0 0)), (3, .p 1 0), (4, .v (.func (.func 13) #[] #[.pointer (some ⟨b1, 0, none⟩), .pointer (some ⟨b10, 0, none⟩)])), (9, .p 2 0), (29, .v (.agg othersV.toArray)), (30, .v (.int .i64 (i : Int)))]) (H' := [([.v (.slice A l.length c)], 23), ([.v (.slice A3 o3.length c3)], 23), ([.v (.int .i64 (oR i)), .v (.int .i64 (oC i))], 46)]) hR (by kernel_rfl) ?_
      clear hR
      intro a w40 hR hO41
      replace hrow3 := hrow3.ownS hO41
      refine At.stop (by kernel_rfl) ?_
      refine hK19 _ _ ?_
      refine At.start ?_
      refine segP (i := 0) 3 [2, 3, 4, 29, 30, 33, 35] (l' := [(2, .v (.slice none 0 0)), (3, .p 1 0), (4, .v (.func (.func 13) #[] #[.pointer (some ⟨b1, 0, none⟩), .pointer (some ⟨b10, 0, none⟩)])), (29, .v (.agg othersV.toArray)), (30, .v (.int .i64 (i : Int))), (33, .v (.func (.func 13) #[] #[.pointer (some ⟨b1, 0, none⟩), .pointer (some ⟨b10, 0, none⟩)])), (35, .v (.int .i64 (oC i)))]) (H' := [([.v (.slice A l.length c)], 23), ([.v (.slice A3 o3.length c3)], 23), ([.v (.int .i64 (oR i)), .v (.int .i64 (oC i))], 46)]) hR (by kernel_rfl) (by kernel_rfl) ?_
      clear hR
      intro a hR
      have hlt43 := hR.vars.lt
      have hv44 := (show Rel [] 40 w w.heap.size [b1, b10] [] [([.v (.slice A l.length c)], 23), ([.v (.slice A3 o3.length c3)], 23)] a w40 from hR.trimTo 2 [] (by kernel_rfl) (by kernel_rfl) (by kernel_rfl)).vars
      refine callChg (i := 3) 13 #[.int .i64 (oC i), .pointer (some ⟨b1, 0, none⟩), .pointer (some ⟨b10, 0, none⟩)] (.tuple #[]) (X := (Value.slice A3 o3.length c3).ownBlock) 1 (bo := b10) (cs0 := [.v (.slice A3 o3.length c3)]) (T := 23) hR rfl (by kernel_rfl) (by kernel_rfl) (by kernel_rfl) hR.below.size rfl rfl (hrow3.rowOk (Nat.le_refl _)) (Tryd.add_any (oC i) b1 b10 w.heap.size A c l A3 c3 o3 _ (by omega) (by omega) (hl.below hR.below) hlA hn (by omega) hR.below.size (hrow3.trim 2 rfl) hv44) ?_
      clear hR
      rintro us a w42 ⟨A47, cp48, rfl, hrow49, hfr46⟩ hch45 hR
      replace hrow49 := hrow49.apart hfr46 (fun b hb => hrow3.sep b hb) hlt43
      have halhrow49 := addL_length l (oC i)
      refine At.stop (by kernel_rfl) ?_
      refine hK18 _ _ ?_
      refine At.start ?_
      refine segP (i := 0) 2 [2, 3, 4, 29, 30] (l' := [(2, .v (.slice none 0 0)), (3, .p 1 0), (4, .v (.func (.func 13) #[] #[.pointer (some ⟨b1, 0, none⟩), .pointer (some ⟨b10, 0, none⟩)])), (29, .v (.agg othersV.toArray)), (30, .v (.int .i64 (IntKind.i64.wrap ((i : Int) + 1))))]) (H' := [([.v (.slice A l.length c)], 23), ([.v (.slice A47 ((o3 ++ addL l (oC i)).length) cp48)], 23), ([.v (.int .i64 (oR i)), .v (.int .i64 (oC i))], 46)]) hR (by kernel_rfl) (by kernel_rfl) ?_
      clear hR
      intro a hR
      rw [show IntKind.i64.wrap ((i : Int) + 1) = ((i : Int) + 1) from wrap_i64 (by omega) (by omega)] at hR
      refine At.stop (by kernel_rfl) ?_
      refine ⟨(A47, cp48, (o3 ++ addL l (oC i)), i + 1), ⟨?_, ?_, ?_, ?_, ?_⟩, ?_⟩
      · exact (hR.trimTo 2 [2, 3, 4, 29, 30] (by kernel_rfl) (by kernel_rfl) (by kernel_rfl))
      · omega
      · (try simp only [List.length_append]); omega
      · exact close_out ho3 (by omega) rfl
      · exact hrow49.trim 2 rfl
      · show _ < _
        dsimp only
        omega
    ·
      have c36 := of_decide_eq_false c36
      refine wp_exit ?_
      refine hK14 _ _ ?_
      refine seqS fun K20 hK20 => ?_
      refine At.start ?_
      refine segP (i := 0) 1 [2, 38] (l' := [(2, .v (.slice none 0 0)), (38, .v (.slice A3 o3.length c3))]) (H' := [([.v (.slice A l.length c)], 23), ([.v (.slice A3 o3.length c3)], 23)]) hR (by kernel_rfl) (by kernel_rfl) ?_
      clear hR
      intro a hR
      have hlt52 := hR.vars.lt
      have hsz53 := hR.below.size
      refine callB (i := 1) 19 #[.slice A3 o3.length c3] hR rfl (by kernel_rfl) (by kernel_rfl) (by kernel_rfl) (hR.below.size) (Tryd.norm_any A3 c3 o3 _ (hrow3.rd encR_len) (by omega)) ?_
      clear hR
      rintro v_ a w50 ⟨A54, c55, rfl, hrow56⟩ hb51 hR
      have hdis57 := Dis.newer hrow3 hrow56
      replace hrow3 := hrow3.below hb51
      replace hrow56 := (Row.of_own hrow56.own hlt52).mono hsz53
      refine segP (i := 2) 1 [2] (l' := [(2, .v (.slice A54 ((normL o3).length) c55))]) (H' := [([.v (.slice A l.length c)], 23), ([.v (.slice A3 o3.length c3)], 23)]) hR (by kernel_rfl) (by kernel_rfl) ?_
      clear hR
      intro a hR
      refine At.stop (by kernel_rfl) ?_
      refine hK20 _ _ ?_
      refine wp_ret ?_
      have e : normL o3 = closeL l := by
        have hi7 : i = 7 := by omega
        rw [hi7, show (othersT.map (·.2)).take 7 = othersT.map (·.2) from rfl] at ho3
        rw [ho3]; rfl
      exact ret1 (.v (.slice A54 ((normL o3).length) c55)) hR rfl (by kernel_rfl) ⟨_, rfl, hR.below, ⟨_, _, by rw [← e]; rfl, by rw [← e]; exact hrow56.trim 0 rfl⟩⟩

end Go.Proofs

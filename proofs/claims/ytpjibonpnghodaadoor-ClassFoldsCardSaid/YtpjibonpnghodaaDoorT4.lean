/- Walks of functions. -/
import Derived.Test.YtpjibonpnghodaaDoorProg
import Derived.Test.YtpjibonpnghodaaDoorSets
import Derived.Test.YtpjibonpnghodaaDoorE
import Derived.Test.YtpjibonpnghodaaDoorSort
set_option linter.unusedVariables false
set_option linter.unusedSimpArgs false
namespace Go.Proofs
open Go.RowKit Go.KW Go.Rng
set_option maxRecDepth 10000 in
theorem Tryd.norm_any (A : Option Addr) (c : Nat) (l : List (Int × Int)) (w : World) (hl : Rd w 2 encR A l) (hn : l.length ≤ 2000000000000) :
    Calls Tryd.prog 19 #[.slice A l.length c] w (RetB w fun v w' => ∃ A c, v = .slice A (normL l).length c ∧ Row w' [] w.heap.size 34 2 encR A c (normL l)) := by
  refine enter [(0, .v (.slice A l.length c))] Tryd.func19 rfl ⟨78, rfl, rfl, rfl⟩ ?_
  intro a hR
  refine seqS fun K1 hK1 => ?_
  refine At.start ?_
  refine segP (i := 0) 1 [0, 2] (l' := [(0, .v (.slice A l.length c)), (2, .v (.slice none 0 0))]) (H' := []) hR (by kernel_rfl) (by kernel_rfl) ?_
  clear hR
  intro a hR
  refine At.stop (by kernel_rfl) ?_
  refine hK1 _ _ ?_
  refine seqS fun K2 hK2 => ?_
  refine At.start ?_
  refine segP (i := 0) 1 [0, 2, 3] (l' := [(0, .v (.slice A l.length c)), (2, .v (.slice none 0 0)), (3, .v (.slice none 0 0))]) (H' := []) hR (by kernel_rfl) (by kernel_rfl) ?_
  clear hR
  intro a hR
  refine At.stop (by kernel_rfl) ?_
  refine hK2 _ _ ?_
  refine seqS fun K3 hK3 => ?_
  refine seqS fun K4 hK4 => ?_
  refine At.start ?_
  refine segP (i := 0) 3 [2, 3, 10, 11, 12] (l' := [(2, .v (.slice none 0 0)), (3, .v (.slice none 0 0)), (10, .v (.slice A l.length c)), (11, .v (.int .i64 (l.length : Int))), (12, .v (.int .i64 0))]) (H' := []) hR (by kernel_rfl) (by kernel_rfl) ?_
  clear hR
  intro a hR
  refine At.stop (by kernel_rfl) ?_
  refine hK4 _ _ ?_
  refine wp_block ?_
  refine loopS (α := Option Addr × Nat × List (Int × Int) × Nat) (fun x_ a wr => match x_ with | (A1, c1, d, j) => Rel [] 78 w (w.heap.size) [] [(2, .v (.slice none 0 0)), (3, .v (.slice A1 d.length c1)), (10, .v (.slice A l.length c)), (11, .v (.int .i64 (l.length : Int))), (12, .v (.int .i64 (j : Int)))] [] a wr ∧ (j ≤ l.length) ∧ (d.length ≤ j) ∧ (d = keepR (l.take j)) ∧ (Row wr [] (w.heap.size) 34 2 encR A1 c1 d)) (fun (x_ : Option Addr × Nat × List (Int × Int) × Nat) => match x_ with | (A1, c1, d, j) => l.length - j) (none, 0, [], 0) ?_ ?_
  · exact ⟨hR, by omega, by simp, by simp [keepR], Row.nil _ _ _ _ _ _⟩
  rintro ⟨A1, c1, d, j⟩ a w1 hI
  clear hR
  obtain ⟨hR, hj, hdl, hd, hrow⟩ := hI
  refine seqS fun K5 hK5 => ?_
  refine At.start ?_
  refine segP (i := 0) 1 [2, 3, 10, 11, 12, 13] (l' := [(2, .v (.slice none 0 0)), (3, .v (.slice A1 d.length c1)), (10, .v (.slice A l.length c)), (11, .v (.int .i64 (l.length : Int))), (12, .v (.int .i64 (j : Int))), (13, .v (.bool (decide ((j : Int) < (l.length : Int)))))]) (H' := []) hR (by kernel_rfl) (by kernel_rfl) ?_
  clear hR
  intro a hR
  refine At.stop (by kernel_rfl) ?_
  refine hK5 _ _ ?_
  refine seqS fun K6 hK6 => ?_
  refine condS (decide ((j : Int) < (l.length : Int))) hR (by kernel_rfl) (fun c2 => ?_) (fun c2 => ?_)
  ·
    have c2 := of_decide_eq_true c2
    refine wp_skip ?_
    refine hK6 _ _ ?_
    refine seqS fun K7 hK7 => ?_
    refine wp_block ?_
    refine seqS fun K8 hK8 => ?_
    refine At.start ?_
    obtain ⟨⟨lo4, hi5⟩, hxe3⟩ : ∃ x_, (l)[j]? = some x_ := ⟨_, List.getElem?_eq_getElem (by omega)⟩
    obtain ⟨ade3, hAe3, hce3⟩ := (hl.below hR.below) _ _ hxe3
    subst hAe3
    refine stepV (i := 0) (op := (Op.indexAddr 23 (Operand.tmp 10) (Operand.tmp 12))) (.pointer (some (ade3.add (j * 2)))) hR rfl (by kernel_rfl) (by kernel_rfl) (run_indexAddr (e := 34) (k := 2) (ad := ade3) (len := l.length) (cap := c) (kk := .i64) (i := (j : Int)) (by kernel_rfl) (by kernel_rfl) (by kernel_rfl) (by kernel_rfl) (by omega) (by omega)) ?_
    clear hR
    intro a hR
    refine stepV (i := 1) (op := (Op.load 34 (Operand.tmp 14))) (.agg #[.int .i64 lo4, .int .i64 hi5]) hR rfl (by kernel_rfl) (by kernel_rfl) (run_load_at (by kernel_rfl) (run_loadVar_agg (by kernel_rfl) (by kernel_rfl) hce3)) ?_
    clear hR
    intro a hR
    refine allocS (i := 2) [.int .i64 0, .int .i64 0] hR rfl (by kernel_rfl) (by kernel_rfl) (by kernel_rfl) (hR.below.size) ?_
    clear hR
    intro b6 a w7 hb6 hsb6 hgb6 hR
    replace hrow := hrow.new hb6 hgb6
    refine seg (i := 3) 1 [2, 3, 5, 10, 11, 12] (l' := [(2, .v (.slice none 0 0)), (3, .v (.slice A1 d.length c1)), (5, .p 0 0), (10, .v (.slice (some ade3) l.length c)), (11, .v (.int .i64 (l.length : Int))), (12, .v (.int .i64 (j : Int)))]) (H' := [([.v (.int .i64 lo4), .v (.int .i64 hi5)], 34)]) hR (by kernel_rfl) ?_
    clear hR
    intro a w8 hR hO9
    replace hrow := hrow.ownS hO9
    refine At.stop (by kernel_rfl) ?_
    refine hK8 _ _ ?_
    refine seqS fun K9 hK9 => ?_
    refine At.start ?_
    refine seg (i := 0) 10 [2, 3, 5, 10, 11, 12] (l' := [(2, .v (.slice none 0 0)), (3, .v (.slice A1 d.length c1)), (5, .p 0 0), (10, .v (.slice (some ade3) l.length c)), (11, .v (.int .i64 (l.length : Int))), (12, .v (.int .i64 (j : Int)))]) (H' := [([.v (.int .i64 (if 0 > lo4 then 0 else lo4)), .v (.int .i64 (if 1114111 < hi5 then 1114111 else hi5))], 34)]) hR (by kernel_rfl) ?_
    clear hR
    intro a w10 hR hO11
    replace hrow := hrow.ownS hO11
    refine At.stop (by kernel_rfl) ?_
    refine hK9 _ _ ?_
    refine seqS fun K10 hK10 => ?_
    refine At.start ?_
    refine segP (i := 0) 5 [2, 3, 5, 10, 11, 12, 28] (l' := [(2, .v (.slice none 0 0)), (3, .v (.slice A1 d.length c1)), (5, .p 0 0), (10, .v (.slice (some ade3) l.length c)), (11, .v (.int .i64 (l.length : Int))), (12, .v (.int .i64 (j : Int))), (28, .v (.bool (decide ((if 0 > lo4 then 0 else lo4) ≤ (if 1114111 < hi5 then 1114111 else hi5)))))]) (H' := [([.v (.int .i64 (if 0 > lo4 then 0 else lo4)), .v (.int .i64 (if 1114111 < hi5 then 1114111 else hi5))], 34)]) hR (by kernel_rfl) (by kernel_rfl) ?_
    clear hR
    intro a hR
    refine At.stop (by kernel_rfl) ?_
    refine hK10 _ _ ?_
    refine condS (decide ((if 0 > lo4 then 0 else lo4) ≤ (if 1114111 < hi5 then 1114111 else hi5))) hR (by kernel_rfl) (fun c12 => ?_) (fun c12 => ?_)
    ·
      have c12 := of_decide_eq_true c12
      refine At.start ?_
      refine segP (i := 0) 2 [2, 3, 10, 11, 12, 29, 30] (l' := [(2, .v (.slice none 0 0)), (3, .v (.slice A1 d.length c1)), (10, .v (.slice (some ade3) l.length c)), (11, .v (.int .i64 (l.length : Int))), (12, .v (.int .i64 (j : Int))), (29, .v (.slice A1 d.length c1)), (30, .v (.agg #[.int .i64 (if 0 > lo4 then 0 else lo4), .int .i64 (if 1114111 < hi5 then 1114111 else hi5)]))]) (H' := [([.v (.int .i64 (if 0 > lo4 then 0 else lo4)), .v (.int .i64 (if 1114111 < hi5 then 1114111 else hi5))], 34)]) hR (by kernel_rfl) (by kernel_rfl) ?_
      clear hR
      intro a hR
      refine buildS (i := 2) 34 2 (.agg #[.int .i64 0, .int .i64 0]) [.int .i64 (if 0 > lo4 then 0 else lo4), .int .i64 (if 1114111 < hi5 then 1114111 else hi5)] hR rfl (by kernel_rfl) (by kernel_rfl) (by kernel_rfl) (by kernel_rfl) (by kernel_rfl) (by kernel_rfl) (by kernel_rfl) (hR.below.size) ?_
      clear hR
      intro b13 a w14 hb13 hgb13 hkb13 hR
      replace hrow := hrow.below hgb13
      refine appendS (i := 3) (enc := encR) (xs := d) [((if 0 > lo4 then 0 else lo4), (if 1114111 < hi5 then 1114111 else hi5))] (.agg #[.int .i64 0, .int .i64 0]) 16 (ad := ⟨b13, 0, none⟩) (cy := 1) hR hrow encR_len encR_one rfl (by kernel_rfl) (by kernel_rfl) (by kernel_rfl) (by kernel_rfl) rfl (blk_cells hkb13) (by kernel_rfl) (by kernel_rfl) (by kernel_rfl) (by decide) (by decide) (by (try simp only [List.length_cons, List.length_nil, List.length_append]); omega) (hR.below.size) (Nat.le_refl _) ?_
      clear hR
      intro A15 cp16 a w17 hrow18 hgr19 hat20 hR
      refine segP (i := 4) 1 [2, 3, 10, 11, 12] (l' := [(2, .v (.slice none 0 0)), (3, .v (.slice A15 ((d ++ [((if 0 > lo4 then 0 else lo4), (if 1114111 < hi5 then 1114111 else hi5))]).length) cp16)), (10, .v (.slice (some ade3) l.length c)), (11, .v (.int .i64 (l.length : Int))), (12, .v (.int .i64 (j : Int)))]) (H' := [([.v (.int .i64 (if 0 > lo4 then 0 else lo4)), .v (.int .i64 (if 1114111 < hi5 then 1114111 else hi5))], 34)]) hR (by kernel_rfl) (by kernel_rfl) ?_
      clear hR
      intro a hR
      refine At.stop (by kernel_rfl) ?_
      refine hK7 _ _ ?_
      refine At.start ?_
      refine segP (i := 0) 2 [2, 3, 10, 11, 12] (l' := [(2, .v (.slice none 0 0)), (3, .v (.slice A15 ((d ++ [((if 0 > lo4 then 0 else lo4), (if 1114111 < hi5 then 1114111 else hi5))]).length) cp16)), (10, .v (.slice (some ade3) l.length c)), (11, .v (.int .i64 (l.length : Int))), (12, .v (.int .i64 (IntKind.i64.wrap ((j : Int) + 1))))]) (H' := [([.v (.int .i64 (if 0 > lo4 then 0 else lo4)), .v (.int .i64 (if 1114111 < hi5 then 1114111 else hi5))], 34)]) hR (by kernel_rfl) (by kernel_rfl) ?_
      clear hR
      intro a hR
      rw [show IntKind.i64.wrap ((j : Int) + 1) = ((j : Int) + 1) from wrap_i64 (by omega) (by omega)] at hR
      refine At.stop (by kernel_rfl) ?_
      refine ⟨(A15, cp16, (d ++ [((if 0 > lo4 then 0 else lo4), (if 1114111 < hi5 then 1114111 else hi5))]), j + 1), ⟨?_, ?_, ?_, ?_, ?_⟩, ?_⟩
      · exact (hR.trimTo 0 [2, 3, 10, 11, 12] (by kernel_rfl) (by kernel_rfl) (by kernel_rfl))
      · omega
      · (try simp only [List.length_append, List.length_singleton]); omega
      · exact keepR_yes hd hxe3 (y := (if 0 > lo4 then 0 else lo4, if 1114111 < hi5 then 1114111 else hi5)) rfl (by assumption)
      · exact hrow18.trim 0 rfl
      · show _ < _
        dsimp only
        omega
    ·
      have c12 := of_decide_eq_false c12
      refine wp_skip ?_
      refine hK7 _ _ ?_
      refine At.start ?_
      refine segP (i := 0) 2 [2, 3, 10, 11, 12] (l' := [(2, .v (.slice none 0 0)), (3, .v (.slice A1 d.length c1)), (10, .v (.slice (some ade3) l.length c)), (11, .v (.int .i64 (l.length : Int))), (12, .v (.int .i64 (IntKind.i64.wrap ((j : Int) + 1))))]) (H' := [([.v (.int .i64 (if 0 > lo4 then 0 else lo4)), .v (.int .i64 (if 1114111 < hi5 then 1114111 else hi5))], 34)]) hR (by kernel_rfl) (by kernel_rfl) ?_
      clear hR
      intro a hR
      rw [show IntKind.i64.wrap ((j : Int) + 1) = ((j : Int) + 1) from wrap_i64 (by omega) (by omega)] at hR
      refine At.stop (by kernel_rfl) ?_
      refine ⟨(A1, c1, d, j + 1), ⟨?_, ?_, ?_, ?_, ?_⟩, ?_⟩
      · exact (hR.trimTo 0 [2, 3, 10, 11, 12] (by kernel_rfl) (by kernel_rfl) (by kernel_rfl))
      · omega
      · (try simp only [List.length_append, List.length_singleton]); omega
      · exact keepR_no hd hxe3 (y := (if 0 > lo4 then 0 else lo4, if 1114111 < hi5 then 1114111 else hi5)) rfl (by assumption)
      · exact hrow.trim 0 rfl
      · show _ < _
        dsimp only
        omega
  ·
    have c2 := of_decide_eq_false c2
    refine wp_exit ?_
    refine hK3 _ _ ?_
    refine seqS fun K11 hK11 => ?_
    refine At.start ?_
    refine segP (i := 0) 1 [2, 3, 34] (l' := [(2, .v (.slice none 0 0)), (3, .v (.slice A1 d.length c1)), (34, .v (.slice A1 d.length c1))]) (H' := []) hR (by kernel_rfl) (by kernel_rfl) ?_
    clear hR
    intro a hR
    have hjl : j = l.length := by omega
    subst hjl
    rw [List.take_length] at hd
    have hokd : ∀ x, x ∈ d → Ok x := by rw [hd]; exact keepR_ok l
    refine callGrown (i := 1) 31 #[.slice A1 d.length c1, .func (.func 32) #[] #[]] (.tuple #[]) (row := (Value.slice A1 d.length c1).ownBlock) hR rfl (by kernel_rfl) (by kernel_rfl) (by kernel_rfl) hR.below.size (hrow.rowOk (Nat.le_refl _)) (Tryd.sortRanges hrow (by omega)) ?_
    clear hR
    intro a wS ⟨d2, hdl2, hp2, hs2, hrowS⟩ hgr hR
    rw [← hdl2] at hR
    have hok2 : ∀ x, x ∈ d2 → Ok x := fun x hx => hokd x (hp2.mem_iff.1 hx)
    refine At.stop (by kernel_rfl) ?_
    refine hK11 _ _ ?_
    refine seqS fun K12 hK12 => ?_
    refine At.start ?_
    refine segP (i := 0) 1 [2, 3, 6] (l' := [(2, .v (.slice none 0 0)), (3, .v (.slice A1 d2.length c1)), (6, .v (.slice none 0 0))]) (H' := []) hR (by kernel_rfl) (by kernel_rfl) ?_
    clear hR
    intro a hR
    refine At.stop (by kernel_rfl) ?_
    refine hK12 _ _ ?_
    refine seqS fun K13 hK13 => ?_
    refine seqS fun K14 hK14 => ?_
    refine At.start ?_
    refine segP (i := 0) 3 [2, 6, 36, 37, 38] (l' := [(2, .v (.slice none 0 0)), (6, .v (.slice none 0 0)), (36, .v (.slice A1 d2.length c1)), (37, .v (.int .i64 (d2.length : Int))), (38, .v (.int .i64 0))]) (H' := []) hR (by kernel_rfl) (by kernel_rfl) ?_
    clear hR
    intro a hR
    refine At.stop (by kernel_rfl) ?_
    refine hK14 _ _ ?_
    refine wp_block ?_
    clear hrow
    refine loopS (α := Option Addr × Nat × List (Int × Int) × Nat) (fun x_ a wr => match x_ with | (A2, c2, out, i) => Rel [] 78 w (w.heap.size) [] [(2, .v (.slice none 0 0)), (6, .v (.slice A2 out.length c2)), (36, .v (.slice A1 d2.length c1)), (37, .v (.int .i64 (d2.length : Int))), (38, .v (.int .i64 (i : Int)))] [] a wr ∧ (i ≤ d2.length) ∧ (out.length ≤ i) ∧ (out = mergeL (d2.take i)) ∧ (Row wr [] (w.heap.size) 34 2 encR A2 c2 out) ∧ (Row wr [] (w.heap.size) 34 2 encR A1 c1 d2) ∧ (Dis A1 A2)) (fun (x_ : Option Addr × Nat × List (Int × Int) × Nat) => match x_ with | (A2, c2, out, i) => d2.length - i) (none, 0, [], 0) ?_ ?_
    · exact ⟨hR, by omega, by simp, rfl, Row.nil _ _ _ _ _ _, hrowS, Dis.nil _⟩
    rintro ⟨A2, c2, out, i⟩ a w21 hI
    clear hR
    obtain ⟨hR, hi, hol, ho, hrow, hrowS, hdis⟩ := hI
    refine seqS fun K15 hK15 => ?_
    refine At.start ?_
    refine segP (i := 0) 1 [2, 6, 36, 37, 38, 39] (l' := [(2, .v (.slice none 0 0)), (6, .v (.slice A2 out.length c2)), (36, .v (.slice A1 d2.length c1)), (37, .v (.int .i64 (d2.length : Int))), (38, .v (.int .i64 (i : Int))), (39, .v (.bool (decide ((i : Int) < (d2.length : Int)))))]) (H' := []) hR (by kernel_rfl) (by kernel_rfl) ?_
    clear hR
    intro a hR
    refine At.stop (by kernel_rfl) ?_
    refine hK15 _ _ ?_
    refine seqS fun K16 hK16 => ?_
    refine condS (decide ((i : Int) < (d2.length : Int))) hR (by kernel_rfl) (fun c22 => ?_) (fun c22 => ?_)
    ·
      have c22 := of_decide_eq_true c22
      refine wp_skip ?_
      refine hK16 _ _ ?_
      refine seqS fun K17 hK17 => ?_
      refine wp_block ?_
      refine seqS fun K18 hK18 => ?_
      refine At.start ?_
      obtain ⟨⟨lo24, hi25⟩, hxe23⟩ : ∃ x_, (d2)[i]? = some x_ := ⟨_, List.getElem?_eq_getElem (by omega)⟩
      have hbde23 := ok_at hok2 hxe23
      dsimp only at hbde23
      obtain ⟨ge23, hGe23, hloe23, hnbe23⟩ := hrowS.addr (by omega)
      subst hGe23
      obtain ⟨ade23, hAe23, hce23⟩ := (hrowS.rd encR_len) _ _ hxe23
      obtain rfl : ade23 = ⟨ge23, 0, none⟩ := (Option.some.inj hAe23).symm
      refine stepV (i := 0) (op := (Op.indexAddr 23 (Operand.tmp 36) (Operand.tmp 38))) (.pointer (some ((⟨ge23, 0, none⟩ : Addr).add (i * 2)))) hR rfl (by kernel_rfl) (by kernel_rfl) (run_indexAddr (e := 34) (k := 2) (ad := ⟨ge23, 0, none⟩) (len := d2.length) (cap := c1) (kk := .i64) (i := (i : Int)) (by kernel_rfl) (by kernel_rfl) (by kernel_rfl) (by kernel_rfl) (by omega) (by omega)) ?_
      clear hR
      intro a hR
      refine stepV (i := 1) (op := (Op.load 34 (Operand.tmp 40))) (.agg #[.int .i64 lo24, .int .i64 hi25]) hR rfl (by kernel_rfl) (by kernel_rfl) (run_load_at (by kernel_rfl) (run_loadVar_agg (by kernel_rfl) (by kernel_rfl) hce23)) ?_
      clear hR
      intro a hR
      refine allocS (i := 2) [.int .i64 0, .int .i64 0] hR rfl (by kernel_rfl) (by kernel_rfl) (by kernel_rfl) (hR.below.size) ?_
      clear hR
      intro b26 a w27 hb26 hsb26 hgb26 hR
      replace hrow := hrow.new hb26 hgb26
      replace hrowS := hrowS.new hb26 hgb26
      refine seg (i := 3) 1 [2, 6, 8, 36, 37, 38] (l' := [(2, .v (.slice none 0 0)), (6, .v (.slice A2 out.length c2)), (8, .p 0 0), (36, .v (.slice (some ⟨ge23, 0, none⟩) d2.length c1)), (37, .v (.int .i64 (d2.length : Int))), (38, .v (.int .i64 (i : Int)))]) (H' := [([.v (.int .i64 lo24), .v (.int .i64 hi25)], 34)]) hR (by kernel_rfl) ?_
      clear hR
      intro a w28 hR hO29
      replace hrow := hrow.ownS hO29
      replace hrowS := hrowS.ownS hO29
      refine At.stop (by kernel_rfl) ?_
      refine hK18 _ _ ?_
      refine seqS fun K19 hK19 => ?_
      refine At.start ?_
      refine segP (i := 0) 3 [2, 6, 8, 9, 36, 37, 38] (l' := [(2, .v (.slice none 0 0)), (6, .v (.slice A2 out.length c2)), (8, .p 0 0), (9, .v (.int .i64 (out.length : Int))), (36, .v (.slice (some ⟨ge23, 0, none⟩) d2.length c1)), (37, .v (.int .i64 (d2.length : Int))), (38, .v (.int .i64 (i : Int)))]) (H' := [([.v (.int .i64 lo24), .v (.int .i64 hi25)], 34)]) hR (by kernel_rfl) (by kernel_rfl) ?_
      clear hR
      intro a hR
      refine At.stop (by kernel_rfl) ?_
      refine hK19 _ _ ?_
      refine seqS fun K20 hK20 => ?_
      refine St.startQ hR (by kernel_rfl) (by kernel_rfl) ?_
      intro w30 hh31 hO32 hR
      replace hrow := hrow.ownS hO32
      replace hrowS := hrowS.ownS hO32
      refine segSt (i := 0) 3 [2, 6, 8, 9, 36, 37, 38, 46] (l' := [(2, .v (.slice none 0 0)), (6, .v (.slice A2 out.length c2)), (8, .p 0 0), (9, .v (.int .i64 (out.length : Int))), (36, .v (.slice (some ⟨ge23, 0, none⟩) d2.length c1)), (37, .v (.int .i64 (d2.length : Int))), (38, .v (.int .i64 (i : Int))), (46, .v (.bool (decide ((out.length : Int) > 0))))]) (H' := [([.v (.int .i64 lo24), .v (.int .i64 hi25)], 34)]) hR (by kernel_rfl) (by kernel_rfl) ?_
      clear hR
      intro a hR
      cases c33 : (decide ((out.length : Int) > 0))
      case false =>
        rw [c33] at hR
        have c33 := of_decide_eq_false c33
        refine segSt (i := 3) 11 [2, 6, 8, 9, 36, 37, 38, 57] (l' := [(2, .v (.slice none 0 0)), (6, .v (.slice A2 out.length c2)), (8, .p 0 0), (9, .v (.int .i64 (out.length : Int))), (36, .v (.slice (some ⟨ge23, 0, none⟩) d2.length c1)), (37, .v (.int .i64 (d2.length : Int))), (38, .v (.int .i64 (i : Int))), (57, .v (.bool false))]) (H' := [([.v (.int .i64 lo24), .v (.int .i64 hi25)], 34)]) hR (by kernel_rfl) (by kernel_rfl) ?_
        clear hR
        intro a hR
        refine St.stop (by kernel_rfl) ?_
        refine hK20 _ _ ?_
        refine wp_cond_false (hR.fr.eval (by kernel_rfl : evS _ _ = some (.v (.bool false)))) ?_
        refine At.start ?_
        refine segP (i := 0) 2 [2, 6, 36, 37, 38, 72, 73] (l' := [(2, .v (.slice none 0 0)), (6, .v (.slice A2 out.length c2)), (36, .v (.slice (some ⟨ge23, 0, none⟩) d2.length c1)), (37, .v (.int .i64 (d2.length : Int))), (38, .v (.int .i64 (i : Int))), (72, .v (.slice A2 out.length c2)), (73, .v (.agg #[.int .i64 lo24, .int .i64 hi25]))]) (H' := [([.v (.int .i64 lo24), .v (.int .i64 hi25)], 34)]) hR (by kernel_rfl) (by kernel_rfl) ?_
        clear hR
        intro a hR
        refine buildS (i := 2) 34 2 (.agg #[.int .i64 0, .int .i64 0]) [.int .i64 lo24, .int .i64 hi25] hR rfl (by kernel_rfl) (by kernel_rfl) (by kernel_rfl) (by kernel_rfl) (by kernel_rfl) (by kernel_rfl) (by kernel_rfl) (hR.below.size) ?_
        clear hR
        intro b34 a w35 hb34 hgb34 hkb34 hR
        replace hrow := hrow.below hgb34
        replace hrowS := hrowS.below hgb34
        refine appendS (i := 3) (enc := encR) (xs := out) [(lo24, hi25)] (.agg #[.int .i64 0, .int .i64 0]) 16 (ad := ⟨b34, 0, none⟩) (cy := 1) hR hrow encR_len encR_one rfl (by kernel_rfl) (by kernel_rfl) (by kernel_rfl) (by kernel_rfl) rfl (blk_cells hkb34) (by kernel_rfl) (by kernel_rfl) (by kernel_rfl) (by decide) (by decide) (by (try simp only [List.length_cons, List.length_nil, List.length_append]); omega) (hR.below.size) (Nat.le_refl _) ?_
        clear hR
        intro A36 cp37 a w38 hrow39 hgr40 hat41 hR
        have hdis42 : Dis (some ⟨ge23, 0, none⟩) A36 := Dis.app hdis hrowS hat41
        replace hrowS := hrowS.grownD hgr40 hdis
        refine segP (i := 4) 1 [2, 6, 36, 37, 38] (l' := [(2, .v (.slice none 0 0)), (6, .v (.slice A36 ((out ++ [(lo24, hi25)]).length) cp37)), (36, .v (.slice (some ⟨ge23, 0, none⟩) d2.length c1)), (37, .v (.int .i64 (d2.length : Int))), (38, .v (.int .i64 (i : Int)))]) (H' := [([.v (.int .i64 lo24), .v (.int .i64 hi25)], 34)]) hR (by kernel_rfl) (by kernel_rfl) ?_
        clear hR
        intro a hR
        refine At.stop (by kernel_rfl) ?_
        refine hK17 _ _ ?_
        refine At.start ?_
        refine segP (i := 0) 2 [2, 6, 36, 37, 38] (l' := [(2, .v (.slice none 0 0)), (6, .v (.slice A36 ((out ++ [(lo24, hi25)]).length) cp37)), (36, .v (.slice (some ⟨ge23, 0, none⟩) d2.length c1)), (37, .v (.int .i64 (d2.length : Int))), (38, .v (.int .i64 (IntKind.i64.wrap ((i : Int) + 1))))]) (H' := [([.v (.int .i64 lo24), .v (.int .i64 hi25)], 34)]) hR (by kernel_rfl) (by kernel_rfl) ?_
        clear hR
        intro a hR
        rw [show IntKind.i64.wrap ((i : Int) + 1) = ((i : Int) + 1) from wrap_i64 (by omega) (by omega)] at hR
        refine At.stop (by kernel_rfl) ?_
        refine ⟨(A36, cp37, (out ++ [(lo24, hi25)]), i + 1), ⟨?_, ?_, ?_, ?_, ?_, ?_, ?_⟩, ?_⟩
        · exact (hR.trimTo 0 [2, 6, 36, 37, 38] (by kernel_rfl) (by kernel_rfl) (by kernel_rfl))
        · omega
        · (try simp only [List.length_append, List.length_singleton, List.length_set]); omega
        · exact (mergeS_first (x := (lo24, hi25)) (by assumption)).trans (mergeL_take ho hxe23)
        · exact hrow39.trim 0 rfl
        · exact hrowS.trim 0 rfl
        · exact hdis42
        · show _ < _
          dsimp only
          omega
      case true =>
        rw [c33] at hR
        have c33 := of_decide_eq_true c33
        refine segSt (i := 3) 5 [2, 6, 8, 9, 36, 37, 38, 46, 48, 49, 51] (l' := [(2, .v (.slice none 0 0)), (6, .v (.slice A2 out.length c2)), (8, .p 0 0), (9, .v (.int .i64 (out.length : Int))), (36, .v (.slice (some ⟨ge23, 0, none⟩) d2.length c1)), (37, .v (.int .i64 (d2.length : Int))), (38, .v (.int .i64 (i : Int))), (46, .v (.bool true)), (48, .v (.int .i64 lo24)), (49, .v (.slice A2 out.length c2)), (51, .v (.int .i64 (IntKind.i64.wrap ((out.length : Int) - 1))))]) (H' := [([.v (.int .i64 lo24), .v (.int .i64 hi25)], 34)]) hR (by kernel_rfl) (by kernel_rfl) ?_
        clear hR
        intro a hR
        rw [show IntKind.i64.wrap ((out.length : Int) - 1) = ((out.length : Int) - 1) from wrap_i64 (by omega) (by omega)] at hR
        obtain ⟨⟨lo44, hi45⟩, hxe43⟩ : ∃ x_, (out)[((out.length : Int) - 1).toNat]? = some x_ := ⟨_, List.getElem?_eq_getElem (by omega)⟩
        have hbde43 := mergeL_bd ho hs2 hok2 hxe43
        dsimp only at hbde43
        obtain ⟨ge43, hGe43, hloe43, hnbe43⟩ := hrow.addr (by omega)
        subst hGe43
        obtain ⟨ade43, hAe43, hce43⟩ := (hrow.rd encR_len) _ _ hxe43
        obtain rfl : ade43 = ⟨ge43, 0, none⟩ := (Option.some.inj hAe43).symm
        refine stepSt (i := 8) (op := (Op.indexAddr 23 (Operand.tmp 49) (Operand.tmp 51))) (.pointer (some ((⟨ge43, 0, none⟩ : Addr).add (((out.length : Int) - 1).toNat * 2)))) hR (by kernel_rfl) rfl (by kernel_rfl) (by kernel_rfl) (run_indexAddr (e := 34) (k := 2) (ad := ⟨ge43, 0, none⟩) (len := out.length) (cap := c2) (kk := .i64) (i := (out.length : Int) - 1) (by kernel_rfl) (by kernel_rfl) (by kernel_rfl) (by kernel_rfl) (by omega) (by omega)) ?_
        clear hR
        intro a hR
        refine segSt (i := 9) 1 [2, 6, 8, 9, 36, 37, 38, 46, 48, 53] (l' := [(2, .v (.slice none 0 0)), (6, .v (.slice (some ⟨ge43, 0, none⟩) out.length c2)), (8, .p 0 0), (9, .v (.int .i64 (out.length : Int))), (36, .v (.slice (some ⟨ge23, 0, none⟩) d2.length c1)), (37, .v (.int .i64 (d2.length : Int))), (38, .v (.int .i64 (i : Int))), (46, .v (.bool true)), (48, .v (.int .i64 lo24)), (53, .v (.pointer (some (((⟨ge43, 0, none⟩ : Addr).add (((out.length : Int) - 1).toNat * 2)).add 1))))]) (H' := [([.v (.int .i64 lo24), .v (.int .i64 hi25)], 34)]) hR (by kernel_rfl) (by kernel_rfl) ?_
        clear hR
        intro a hR
        refine stepSt (i := 10) (op := (Op.load 3 (Operand.tmp 53))) (.int .i64 hi45) hR (by kernel_rfl) rfl (by kernel_rfl) (by kernel_rfl) (run_load_at (by kernel_rfl) (run_loadVar_one (by kernel_rfl) (hce43 1 _ rfl))) ?_
        clear hR
        intro a hR
        refine segSt (i := 11) 3 [2, 6, 8, 9, 36, 37, 38, 57] (l' := [(2, .v (.slice none 0 0)), (6, .v (.slice (some ⟨ge43, 0, none⟩) out.length c2)), (8, .p 0 0), (9, .v (.int .i64 (out.length : Int))), (36, .v (.slice (some ⟨ge23, 0, none⟩) d2.length c1)), (37, .v (.int .i64 (d2.length : Int))), (38, .v (.int .i64 (i : Int))), (57, .v (.bool (decide (lo24 ≤ IntKind.i64.wrap (hi45 + 1)))))]) (H' := [([.v (.int .i64 lo24), .v (.int .i64 hi25)], 34)]) hR (by kernel_rfl) (by kernel_rfl) ?_
        clear hR
        intro a hR
        rw [show IntKind.i64.wrap (hi45 + 1) = (hi45 + 1) from wrap_i64 (by omega) (by omega)] at hR
        refine St.stop (by kernel_rfl) ?_
        refine hK20 _ _ ?_
        refine condS (decide (lo24 ≤ (hi45 + 1))) hR (by kernel_rfl) (fun c46 => ?_) (fun c46 => ?_)
        ·
          have c46 := of_decide_eq_true c46
          refine St.startT 14 hR (by kernel_rfl) (by kernel_rfl) ?_
          intro w47 hh48 hO49 hR
          replace hrow := hrow.ownS hO49
          replace hrowS := hrowS.ownS hO49
          refine segSt (i := 0) 6 [2, 6, 8, 36, 37, 38, 58, 60, 61, 63] (l' := [(2, .v (.slice none 0 0)), (6, .v (.slice (some ⟨ge43, 0, none⟩) out.length c2)), (8, .p 0 0), (36, .v (.slice (some ⟨ge23, 0, none⟩) d2.length c1)), (37, .v (.int .i64 (d2.length : Int))), (38, .v (.int .i64 (i : Int))), (58, .v (.slice (some ⟨ge43, 0, none⟩) out.length c2)), (60, .v (.int .i64 (IntKind.i64.wrap ((out.length : Int) - 1)))), (61, .v (.slice (some ⟨ge43, 0, none⟩) out.length c2)), (63, .v (.int .i64 (IntKind.i64.wrap ((out.length : Int) - 1))))]) (H' := [([.v (.int .i64 lo24), .v (.int .i64 hi25)], 34)]) hR (by kernel_rfl) (by kernel_rfl) ?_
          clear hR
          intro a hR
          rw [show IntKind.i64.wrap ((out.length : Int) - 1) = ((out.length : Int) - 1) from wrap_i64 (by omega) (by omega)] at hR
          obtain ⟨ade50, hAe50, hce50⟩ := (hrow.rd encR_len) _ _ hxe43
          obtain rfl : ade50 = ⟨ge43, 0, none⟩ := (Option.some.inj hAe50).symm
          refine stepSt (i := 6) (op := (Op.indexAddr 23 (Operand.tmp 61) (Operand.tmp 63))) (.pointer (some ((⟨ge43, 0, none⟩ : Addr).add (((out.length : Int) - 1).toNat * 2)))) hR (by kernel_rfl) rfl (by kernel_rfl) (by kernel_rfl) (run_indexAddr (e := 34) (k := 2) (ad := ⟨ge43, 0, none⟩) (len := out.length) (cap := c2) (kk := .i64) (i := (out.length : Int) - 1) (by kernel_rfl) (by kernel_rfl) (by kernel_rfl) (by kernel_rfl) (by omega) (by omega)) ?_
          clear hR
          intro a hR
          refine segSt (i := 7) 1 [2, 6, 8, 36, 37, 38, 58, 60, 65] (l' := [(2, .v (.slice none 0 0)), (6, .v (.slice (some ⟨ge43, 0, none⟩) out.length c2)), (8, .p 0 0), (36, .v (.slice (some ⟨ge23, 0, none⟩) d2.length c1)), (37, .v (.int .i64 (d2.length : Int))), (38, .v (.int .i64 (i : Int))), (58, .v (.slice (some ⟨ge43, 0, none⟩) out.length c2)), (60, .v (.int .i64 ((out.length : Int) - 1))), (65, .v (.pointer (some (((⟨ge43, 0, none⟩ : Addr).add (((out.length : Int) - 1).toNat * 2)).add 1))))]) (H' := [([.v (.int .i64 lo24), .v (.int .i64 hi25)], 34)]) hR (by kernel_rfl) (by kernel_rfl) ?_
          clear hR
          intro a hR
          refine stepSt (i := 8) (op := (Op.load 3 (Operand.tmp 65))) (.int .i64 hi45) hR (by kernel_rfl) rfl (by kernel_rfl) (by kernel_rfl) (run_load_at (by kernel_rfl) (run_loadVar_one (by kernel_rfl) (hce50 1 _ rfl))) ?_
          clear hR
          intro a hR
          refine segSt (i := 9) 3 [2, 6, 36, 37, 38, 58, 60, 69] (l' := [(2, .v (.slice none 0 0)), (6, .v (.slice (some ⟨ge43, 0, none⟩) out.length c2)), (36, .v (.slice (some ⟨ge23, 0, none⟩) d2.length c1)), (37, .v (.int .i64 (d2.length : Int))), (38, .v (.int .i64 (i : Int))), (58, .v (.slice (some ⟨ge43, 0, none⟩) out.length c2)), (60, .v (.int .i64 ((out.length : Int) - 1))), (69, .v (.int .i64 (if hi25 > hi45 then hi25 else hi45)))]) (H' := [([.v (.int .i64 lo24), .v (.int .i64 hi25)], 34)]) hR (by kernel_rfl) (by kernel_rfl) ?_
          clear hR
          intro a hR
          obtain ⟨ade51, hAe51, hce51⟩ := (hrow.rd encR_len) _ _ hxe43
          obtain rfl : ade51 = ⟨ge43, 0, none⟩ := (Option.some.inj hAe51).symm
          refine stepSt (i := 12) (op := (Op.indexAddr 23 (Operand.tmp 58) (Operand.tmp 60))) (.pointer (some ((⟨ge43, 0, none⟩ : Addr).add (((out.length : Int) - 1).toNat * 2)))) hR (by kernel_rfl) rfl (by kernel_rfl) (by kernel_rfl) (run_indexAddr (e := 34) (k := 2) (ad := ⟨ge43, 0, none⟩) (len := out.length) (cap := c2) (kk := .i64) (i := (out.length : Int) - 1) (by kernel_rfl) (by kernel_rfl) (by kernel_rfl) (by kernel_rfl) (by omega) (by omega)) ?_
          clear hR
          intro a hR
          refine segSt (i := 13) 1 [2, 6, 36, 37, 38, 69, 71] (l' := [(2, .v (.slice none 0 0)), (6, .v (.slice (some ⟨ge43, 0, none⟩) out.length c2)), (36, .v (.slice (some ⟨ge23, 0, none⟩) d2.length c1)), (37, .v (.int .i64 (d2.length : Int))), (38, .v (.int .i64 (i : Int))), (69, .v (.int .i64 (if hi25 > hi45 then hi25 else hi45))), (71, .v (.pointer (some (((⟨ge43, 0, none⟩ : Addr).add (((out.length : Int) - 1).toNat * 2)).add 1))))]) (H' := [([.v (.int .i64 lo24), .v (.int .i64 hi25)], 34)]) hR (by kernel_rfl) (by kernel_rfl) ?_
          clear hR
          intro a hR
          refine St.stop (by kernel_rfl) ?_
          refine storeRow (i := 14) (p := ((⟨ge43, 0, none⟩ : Addr).add (((out.length : Int) - 1).toNat * 2)).add 1) (xs := out) (v := .int .i64 (if hi25 > hi45 then hi25 else hi45)) (((out.length : Int) - 1).toNat) 1 (lo44, (if hi25 > hi45 then hi25 else hi45)) hR hrow encR_len rfl (by kernel_rfl) (by kernel_rfl) (by kernel_rfl) (by simp only [addr_add]; first | rfl | (congr 1; omega)) (by kernel_rfl) (by omega) (by kernel_rfl) (by simp [Value.cells, Value.oneCell']) (Nat.le_of_ble_eq_true (by kernel_rfl)) (by intro x hx; rw [hxe43] at hx; injection hx with hx; subst hx; rfl) (Nat.le_refl _) ?_
          clear hR
          intro a w55 hrow52 hgr53 hsz54 hR
          replace hrowS := hrowS.grownD hgr53 hdis
          have hlhrow52 : ((out).set (((out.length : Int) - 1).toNat) (lo44, (if hi25 > hi45 then hi25 else hi45))).length = out.length := List.length_set
          rw [← hlhrow52] at hR
          refine At.stop (by kernel_rfl) ?_
          refine hK17 _ _ ?_
          refine At.start ?_
          refine segP (i := 0) 2 [2, 6, 36, 37, 38] (l' := [(2, .v (.slice none 0 0)), (6, .v (.slice (some ⟨ge43, 0, none⟩) (((out).set (((out.length : Int) - 1).toNat) (lo44, (if hi25 > hi45 then hi25 else hi45))).length) c2)), (36, .v (.slice (some ⟨ge23, 0, none⟩) d2.length c1)), (37, .v (.int .i64 (d2.length : Int))), (38, .v (.int .i64 (IntKind.i64.wrap ((i : Int) + 1))))]) (H' := [([.v (.int .i64 lo24), .v (.int .i64 hi25)], 34)]) hR (by kernel_rfl) (by kernel_rfl) ?_
          clear hR
          intro a hR
          rw [show IntKind.i64.wrap ((i : Int) + 1) = ((i : Int) + 1) from wrap_i64 (by omega) (by omega)] at hR
          refine At.stop (by kernel_rfl) ?_
          refine ⟨((some ⟨ge43, 0, none⟩), c2, ((out).set (((out.length : Int) - 1).toNat) (lo44, (if hi25 > hi45 then hi25 else hi45))), i + 1), ⟨?_, ?_, ?_, ?_, ?_, ?_, ?_⟩, ?_⟩
          · exact (hR.trimTo 0 [2, 6, 36, 37, 38] (by kernel_rfl) (by kernel_rfl) (by kernel_rfl))
          · omega
          · (try simp only [List.length_append, List.length_singleton, List.length_set]); omega
          · exact (mergeS_join (x := (lo24, hi25)) hxe43 (by assumption)).trans (mergeL_take ho hxe23)
          · exact hrow52.trim 0 rfl
          · exact hrowS.trim 0 rfl
          · exact hdis
          · show _ < _
            dsimp only
            omega
        ·
          have c46 := of_decide_eq_false c46
          refine At.start ?_
          refine segP (i := 0) 2 [2, 6, 36, 37, 38, 72, 73] (l' := [(2, .v (.slice none 0 0)), (6, .v (.slice (some ⟨ge43, 0, none⟩) out.length c2)), (36, .v (.slice (some ⟨ge23, 0, none⟩) d2.length c1)), (37, .v (.int .i64 (d2.length : Int))), (38, .v (.int .i64 (i : Int))), (72, .v (.slice (some ⟨ge43, 0, none⟩) out.length c2)), (73, .v (.agg #[.int .i64 lo24, .int .i64 hi25]))]) (H' := [([.v (.int .i64 lo24), .v (.int .i64 hi25)], 34)]) hR (by kernel_rfl) (by kernel_rfl) ?_
          clear hR
          intro a hR
          refine buildS (i := 2) 34 2 (.agg #[.int .i64 0, .int .i64 0]) [.int .i64 lo24, .int .i64 hi25] hR rfl (by kernel_rfl) (by kernel_rfl) (by kernel_rfl) (by kernel_rfl) (by kernel_rfl) (by kernel_rfl) (by kernel_rfl) (hR.below.size) ?_
          clear hR
          intro b56 a w57 hb56 hgb56 hkb56 hR
          replace hrow := hrow.below hgb56
          replace hrowS := hrowS.below hgb56
          refine appendS (i := 3) (enc := encR) (xs := out) [(lo24, hi25)] (.agg #[.int .i64 0, .int .i64 0]) 16 (ad := ⟨b56, 0, none⟩) (cy := 1) hR hrow encR_len encR_one rfl (by kernel_rfl) (by kernel_rfl) (by kernel_rfl) (by kernel_rfl) rfl (blk_cells hkb56) (by kernel_rfl) (by kernel_rfl) (by kernel_rfl) (by decide) (by decide) (by (try simp only [List.length_cons, List.length_nil, List.length_append]); omega) (hR.below.size) (Nat.le_refl _) ?_
          clear hR
          intro A58 cp59 a w60 hrow61 hgr62 hat63 hR
          have hdis64 : Dis (some ⟨ge23, 0, none⟩) A58 := Dis.app hdis hrowS hat63
          replace hrowS := hrowS.grownD hgr62 hdis
          refine segP (i := 4) 1 [2, 6, 36, 37, 38] (l' := [(2, .v (.slice none 0 0)), (6, .v (.slice A58 ((out ++ [(lo24, hi25)]).length) cp59)), (36, .v (.slice (some ⟨ge23, 0, none⟩) d2.length c1)), (37, .v (.int .i64 (d2.length : Int))), (38, .v (.int .i64 (i : Int)))]) (H' := [([.v (.int .i64 lo24), .v (.int .i64 hi25)], 34)]) hR (by kernel_rfl) (by kernel_rfl) ?_
          clear hR
          intro a hR
          refine At.stop (by kernel_rfl) ?_
          refine hK17 _ _ ?_
          refine At.start ?_
          refine segP (i := 0) 2 [2, 6, 36, 37, 38] (l' := [(2, .v (.slice none 0 0)), (6, .v (.slice A58 ((out ++ [(lo24, hi25)]).length) cp59)), (36, .v (.slice (some ⟨ge23, 0, none⟩) d2.length c1)), (37, .v (.int .i64 (d2.length : Int))), (38, .v (.int .i64 (IntKind.i64.wrap ((i : Int) + 1))))]) (H' := [([.v (.int .i64 lo24), .v (.int .i64 hi25)], 34)]) hR (by kernel_rfl) (by kernel_rfl) ?_
          clear hR
          intro a hR
          rw [show IntKind.i64.wrap ((i : Int) + 1) = ((i : Int) + 1) from wrap_i64 (by omega) (by omega)] at hR
          refine At.stop (by kernel_rfl) ?_
          refine ⟨(A58, cp59, (out ++ [(lo24, hi25)]), i + 1), ⟨?_, ?_, ?_, ?_, ?_, ?_, ?_⟩, ?_⟩
          · exact (hR.trimTo 0 [2, 6, 36, 37, 38] (by kernel_rfl) (by kernel_rfl) (by kernel_rfl))
          · omega
          · (try simp only [List.length_append, List.length_singleton, List.length_set]); omega
          · exact (mergeS_more (x := (lo24, hi25)) hxe43 (by assumption)).trans (mergeL_take ho hxe23)
          · exact hrow61.trim 0 rfl
          · exact hrowS.trim 0 rfl
          · exact hdis64
          · show _ < _
            dsimp only
            omega
    ·
      have c22 := of_decide_eq_false c22
      refine wp_exit ?_
      refine hK13 _ _ ?_
      refine seqS fun K21 hK21 => ?_
      refine At.start ?_
      refine segP (i := 0) 2 [2] (l' := [(2, .v (.slice A2 out.length c2))]) (H' := []) hR (by kernel_rfl) (by kernel_rfl) ?_
      clear hR
      intro a hR
      refine At.stop (by kernel_rfl) ?_
      refine hK21 _ _ ?_
      refine wp_ret ?_
      have e : out = normL l := by
        have hil : i = d2.length := by omega
        subst hil
        rw [List.take_length] at ho
        rw [ho, ← normL_of_perm (hd ▸ hp2) hs2]
      exact ret1 (.v (.slice A2 out.length c2)) hR rfl (by kernel_rfl) ⟨_, rfl, hR.below, ⟨A2, c2, by rw [← e]; rfl, by rw [← e]; exact hrow⟩⟩

end Go.Proofs

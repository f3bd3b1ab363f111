/- Walks of functions. -/
import Derived.Test.YtpjibonpnghodaaDoorProg
import Derived.Test.YtpjibonpnghodaaDoorSets
import Derived.Test.YtpjibonpnghodaaDoorE
import Derived.Test.YtpjibonpnghodaaDoorEq
set_option linter.unusedVariables false
set_option linter.unusedSimpArgs false
namespace Go.Proofs
open Go.RowKit Go.KW Go.Rng
set_option maxRecDepth 10000 in
theorem Tryd.sameRanges (A : Option Addr) (c : Nat) (l : List (Int × Int)) (A0 : Option Addr) (c0 : Nat) (m : List (Int × Int)) (w : World) (hl : Rd w 2 encR A l) (hm : Rd w 2 encR A0 m) (hn : l.length ≤ 1000000000000) :
    Calls Tryd.prog 7 #[.slice A l.length c, .slice A0 m.length c0] w (RetB w fun v w' => v = .bool (decide (l = m))) := by
  refine enter [(0, .v (.slice A l.length c)), (1, .v (.slice A0 m.length c0))] Tryd.func7 rfl ⟨31, rfl, rfl, rfl⟩ ?_
  intro a hR
  refine seqS fun K1 hK1 => ?_
  refine At.start ?_
  refine segP (i := 0) 1 [0, 1, 4] (l' := [(0, .v (.slice A l.length c)), (1, .v (.slice A0 m.length c0)), (4, .v (.bool false))]) (H' := []) hR (by kernel_rfl) (by kernel_rfl) ?_
  clear hR
  intro a hR
  refine At.stop (by kernel_rfl) ?_
  refine hK1 _ _ ?_
  refine seqS fun K2 hK2 => ?_
  refine At.start ?_
  refine segP (i := 0) 6 [0, 1, 4, 5] (l' := [(0, .v (.slice A l.length c)), (1, .v (.slice A0 m.length c0)), (4, .v (.bool false)), (5, .v (.bool ((l.length : Int) == (m.length : Int))))]) (H' := []) hR (by kernel_rfl) (by kernel_rfl) ?_
  clear hR
  intro a hR
  refine At.stop (by kernel_rfl) ?_
  refine hK2 _ _ ?_
  refine seqS fun K3 hK3 => ?_
  refine seqS fun K4 hK4 => ?_
  refine At.start ?_
  refine segP (i := 0) 1 [0, 1, 4, 5, 6] (l' := [(0, .v (.slice A l.length c)), (1, .v (.slice A0 m.length c0)), (4, .v (.bool false)), (5, .v (.bool ((l.length : Int) == (m.length : Int)))), (6, .v (.int .i64 0))]) (H' := []) hR (by kernel_rfl) (by kernel_rfl) ?_
  clear hR
  intro a hR
  refine At.stop (by kernel_rfl) ?_
  refine hK4 _ _ ?_
  refine wp_block ?_
  refine loopS (α := Bool × Nat) (fun x_ a wr => match x_ with | (sm, j) => Rel [] 31 w (w.heap.size) [] [(0, .v (.slice A l.length c)), (1, .v (.slice A0 m.length c0)), (4, .v (.bool false)), (5, .v (.bool sm)), (6, .v (.int .i64 (j : Int)))] [] a wr ∧ (j ≤ l.length) ∧ (sm = sameTo l m j)) (fun (x_ : Bool × Nat) => match x_ with | (sm, j) => l.length - j) (((l.length : Int) == (m.length : Int)), 0) ?_ ?_
  · exact ⟨hR, by omega, sameTo_zero⟩
  rintro ⟨sm, j⟩ a w1 hI
  clear hR
  obtain ⟨hR, hj, hs⟩ := hI
  refine seqS fun K5 hK5 => ?_
  refine seqS fun K6 hK6 => ?_
  refine At.start ?_
  refine segP (i := 0) 2 [0, 1, 4, 5, 6, 13] (l' := [(0, .v (.slice A l.length c)), (1, .v (.slice A0 m.length c0)), (4, .v (.bool false)), (5, .v (.bool sm)), (6, .v (.int .i64 (j : Int))), (13, .v (.bool sm))]) (H' := []) hR (by kernel_rfl) (by kernel_rfl) ?_
  clear hR
  intro a hR
  cases c2 : (sm)
  case false =>
    rw [c2] at hR
    rw [c2] at hs
    refine segP (i := 2) 5 [0, 1, 4, 5, 6, 18] (l' := [(0, .v (.slice A l.length c)), (1, .v (.slice A0 m.length c0)), (4, .v (.bool false)), (5, .v (.bool false)), (6, .v (.int .i64 (j : Int))), (18, .v (.bool false))]) (H' := []) hR (by kernel_rfl) (by kernel_rfl) ?_
    clear hR
    intro a hR
    refine At.stop (by kernel_rfl) ?_
    refine hK6 _ _ ?_
    refine wp_cond_false (hR.fr.eval (by kernel_rfl : evS _ _ = some (.v (.bool false)))) ?_
    refine wp_exit ?_
    refine hK3 _ _ ?_
    refine seqS fun K7 hK7 => ?_
    refine At.start ?_
    refine segP (i := 0) 2 [4] (l' := [(4, .v (.bool false))]) (H' := []) hR (by kernel_rfl) (by kernel_rfl) ?_
    clear hR
    intro a hR
    refine At.stop (by kernel_rfl) ?_
    refine hK7 _ _ ?_
    refine wp_ret ?_
    exact ret1 (.v (.bool false)) hR rfl (by kernel_rfl) ⟨_, rfl, hR.below, congrArg Value.bool (sameTo_false hs).symm⟩
  case true =>
    rw [c2] at hR
    rw [c2] at hs
    have hlm := sameTo_len hs
    refine segP (i := 2) 5 [0, 1, 4, 5, 6, 18] (l' := [(0, .v (.slice A l.length c)), (1, .v (.slice A0 m.length c0)), (4, .v (.bool false)), (5, .v (.bool true)), (6, .v (.int .i64 (j : Int))), (18, .v (.bool (decide ((j : Int) < (l.length : Int)))))]) (H' := []) hR (by kernel_rfl) (by kernel_rfl) ?_
    clear hR
    intro a hR
    refine At.stop (by kernel_rfl) ?_
    refine hK6 _ _ ?_
    refine condS (decide ((j : Int) < (l.length : Int))) hR (by kernel_rfl) (fun c3 => ?_) (fun c3 => ?_)
    ·
      have c3 := of_decide_eq_true c3
      refine wp_skip ?_
      refine hK5 _ _ ?_
      refine seqS fun K8 hK8 => ?_
      refine wp_block ?_
      refine St.startQ hR (by kernel_rfl) (by kernel_rfl) ?_
      intro w4 hh5 hO6 hR
      refine segSt (i := 0) 2 [0, 1, 4, 5, 6, 21, 22] (l' := [(0, .v (.slice A l.length c)), (1, .v (.slice A0 m.length c0)), (4, .v (.bool false)), (5, .v (.bool true)), (6, .v (.int .i64 (j : Int))), (21, .v (.slice A l.length c)), (22, .v (.int .i64 (j : Int)))]) (H' := []) hR (by kernel_rfl) (by kernel_rfl) ?_
      clear hR
      intro a hR
      obtain ⟨⟨lo8, hi9⟩, hxe7⟩ : ∃ x_, (l)[j]? = some x_ := ⟨_, List.getElem?_eq_getElem (by omega)⟩
      obtain ⟨ade7, hAe7, hce7⟩ := (hl.below hR.below) _ _ hxe7
      subst hAe7
      refine stepSt (i := 2) (op := (Op.indexAddr 23 (Operand.tmp 21) (Operand.tmp 22))) (.pointer (some (ade7.add (j * 2)))) hR (by kernel_rfl) rfl (by kernel_rfl) (by kernel_rfl) (run_indexAddr (e := 34) (k := 2) (ad := ade7) (len := l.length) (cap := c) (kk := .i64) (i := (j : Int)) (by kernel_rfl) (by kernel_rfl) (by kernel_rfl) (by kernel_rfl) (by omega) (by omega)) ?_
      clear hR
      intro a hR
      refine stepSt (i := 3) (op := (Op.load 34 (Operand.tmp 23))) (.agg #[.int .i64 lo8, .int .i64 hi9]) hR (by kernel_rfl) rfl (by kernel_rfl) (by kernel_rfl) (run_load_at (by kernel_rfl) (run_loadVar_agg (by kernel_rfl) (by kernel_rfl) hce7)) ?_
      clear hR
      intro a hR
      refine segSt (i := 4) 2 [0, 1, 4, 5, 6, 24, 25, 26] (l' := [(0, .v (.slice (some ade7) l.length c)), (1, .v (.slice A0 m.length c0)), (4, .v (.bool false)), (5, .v (.bool true)), (6, .v (.int .i64 (j : Int))), (24, .v (.agg #[.int .i64 lo8, .int .i64 hi9])), (25, .v (.slice A0 m.length c0)), (26, .v (.int .i64 (j : Int)))]) (H' := []) hR (by kernel_rfl) (by kernel_rfl) ?_
      clear hR
      intro a hR
      obtain ⟨⟨lo11, hi12⟩, hxe10⟩ : ∃ x_, (m)[j]? = some x_ := ⟨_, List.getElem?_eq_getElem (by omega)⟩
      obtain ⟨ade10, hAe10, hce10⟩ := (hm.below hR.below) _ _ hxe10
      subst hAe10
      refine stepSt (i := 6) (op := (Op.indexAddr 23 (Operand.tmp 25) (Operand.tmp 26))) (.pointer (some (ade10.add (j * 2)))) hR (by kernel_rfl) rfl (by kernel_rfl) (by kernel_rfl) (run_indexAddr (e := 34) (k := 2) (ad := ade10) (len := m.length) (cap := c0) (kk := .i64) (i := (j : Int)) (by kernel_rfl) (by kernel_rfl) (by kernel_rfl) (by kernel_rfl) (by omega) (by omega)) ?_
      clear hR
      intro a hR
      refine stepSt (i := 7) (op := (Op.load 34 (Operand.tmp 27))) (.agg #[.int .i64 lo11, .int .i64 hi12]) hR (by kernel_rfl) rfl (by kernel_rfl) (by kernel_rfl) (run_load_at (by kernel_rfl) (run_loadVar_agg (by kernel_rfl) (by kernel_rfl) hce10)) ?_
      clear hR
      intro a hR
      refine stepSt (i := 8) (op := (Op.binOp BinOp.eql 34 (Operand.tmp 24) (Operand.tmp 28) 34)) (.bool ((lo8 : Int) == lo11 && ((hi9 : Int) == hi12))) hR (by kernel_rfl) rfl (by kernel_rfl) (by kernel_rfl) ((run_eql_agg (xs := #[.int .i64 lo8, .int .i64 hi9]) (ys := #[.int .i64 lo11, .int .i64 hi12]) (r := ((lo8 : Int) == lo11 && ((hi9 : Int) == hi12))) (by kernel_rfl) (by kernel_rfl) (by kernel_rfl)).1) ?_
      clear hR
      intro a hR
      refine segSt (i := 9) 1 [0, 1, 4, 5, 6] (l' := [(0, .v (.slice (some ade7) l.length c)), (1, .v (.slice (some ade10) m.length c0)), (4, .v (.bool false)), (5, .v (.bool ((lo8 : Int) == lo11 && ((hi9 : Int) == hi12)))), (6, .v (.int .i64 (j : Int)))]) (H' := []) hR (by kernel_rfl) (by kernel_rfl) ?_
      clear hR
      intro a hR
      refine St.stop (by kernel_rfl) ?_
      refine hK8 _ _ ?_
      refine At.start ?_
      refine segP (i := 0) 3 [0, 1, 4, 5, 6] (l' := [(0, .v (.slice (some ade7) l.length c)), (1, .v (.slice (some ade10) m.length c0)), (4, .v (.bool false)), (5, .v (.bool ((lo8 : Int) == lo11 && ((hi9 : Int) == hi12)))), (6, .v (.int .i64 (IntKind.i64.wrap ((j : Int) + 1))))]) (H' := []) hR (by kernel_rfl) (by kernel_rfl) ?_
      clear hR
      intro a hR
      rw [show IntKind.i64.wrap ((j : Int) + 1) = ((j : Int) + 1) from wrap_i64 (by omega) (by omega)] at hR
      refine At.stop (by kernel_rfl) ?_
      refine ⟨(((lo8 : Int) == lo11 && ((hi9 : Int) == hi12)), j + 1), ⟨?_, ?_, ?_⟩, ?_⟩
      · exact (hR.trimTo 0 [0, 1, 4, 5, 6] (by kernel_rfl) (by kernel_rfl) (by kernel_rfl))
      · omega
      · exact (eqR (lo8, hi9) (lo11, hi12)).trans (sameTo_succ hs hxe7 hxe10)
      · show _ < _
        dsimp only
        omega
    ·
      have c3 := of_decide_eq_false c3
      refine wp_exit ?_
      refine hK3 _ _ ?_
      refine seqS fun K9 hK9 => ?_
      refine At.start ?_
      refine segP (i := 0) 2 [4] (l' := [(4, .v (.bool true))]) (H' := []) hR (by kernel_rfl) (by kernel_rfl) ?_
      clear hR
      intro a hR
      refine At.stop (by kernel_rfl) ?_
      refine hK9 _ _ ?_
      refine wp_ret ?_
      exact ret1 (.v (.bool true)) hR rfl (by kernel_rfl) ⟨_, rfl, hR.below, congrArg Value.bool (sameTo_end hs (by omega)).symm⟩

end Go.Proofs

/- Walks of functions. -/
import Derived.Test.YtpjibonpnghodaaDoorProg
import Derived.Test.YtpjibonpnghodaaDoorSets
import Derived.Test.YtpjibonpnghodaaDoorE
set_option linter.unusedVariables false
set_option linter.unusedSimpArgs false
namespace Go.Proofs
open Go.RowKit Go.KW Go.Rng
set_option maxRecDepth 10000 in
theorem Tryd.has1 (ad : Addr) (r : Int) (x : Int × Int) (w : World) (hf : Pt w ad [.int .i64 r]) :
    Calls Tryd.prog 22 #[.agg #[.int .i64 x.1, .int .i64 x.2], .pointer (some ad)] w (RetB w fun v w' => v = .bool (hasP r x)) := by
  refine enter [(0, .v (.agg #[.int .i64 x.1, .int .i64 x.2])), (1, .v (.pointer (some ad)))] Tryd.func22 rfl ⟨14, rfl, rfl, rfl⟩ ?_
  intro a hR
  refine seqS fun K1 hK1 => ?_
  refine At.start ?_
  refine boxS (i := 0) (.v (.agg #[.int .i64 x.1, .int .i64 x.2])) hR rfl (by kernel_rfl) (by kernel_rfl) (by kernel_rfl) (Nat.le_refl _) ?_
  clear hR
  intro b1 a w2 hb1 hsb1 hgb1 hR
  refine segP (i := 1) 1 [1, 2, 3] (l' := [(1, .v (.pointer (some ad))), (2, .p 0 0), (3, .v (.bool false))]) (H' := [([.v (.int .i64 x.1), .v (.int .i64 x.2)], 34)]) hR (by kernel_rfl) (by kernel_rfl) ?_
  clear hR
  intro a hR
  refine At.stop (by kernel_rfl) ?_
  refine hK1 _ _ ?_
  refine seqS fun K2 hK2 => ?_
  refine At.start ?_
  refine segP (i := 0) 2 [1, 2, 3, 5] (l' := [(1, .v (.pointer (some ad))), (2, .p 0 0), (3, .v (.bool false)), (5, .v (.int .i64 x.1))]) (H' := [([.v (.int .i64 x.1), .v (.int .i64 x.2)], 34)]) hR (by kernel_rfl) (by kernel_rfl) ?_
  clear hR
  intro a hR
  refine stepV (i := 2) (op := (Op.load 3 (Operand.tmp 1))) (.int .i64 r) hR rfl (by kernel_rfl) (by kernel_rfl) (run_load_at (by kernel_rfl) (run_loadVar_one0 (by kernel_rfl) ((hf.below hR.below) 0 _ rfl))) ?_
  clear hR
  intro a hR
  refine segP (i := 3) 2 [1, 2, 3, 8] (l' := [(1, .v (.pointer (some ad))), (2, .p 0 0), (3, .v (.bool false)), (8, .v (.bool (decide (x.1 ≤ r))))]) (H' := [([.v (.int .i64 x.1), .v (.int .i64 x.2)], 34)]) hR (by kernel_rfl) (by kernel_rfl) ?_
  clear hR
  intro a hR
  cases c3 : (decide (x.1 ≤ r))
  case false =>
    rw [c3] at hR
    have c3 := of_decide_eq_false c3
    refine segP (i := 5) 6 [3] (l' := [(3, .v (.bool false))]) (H' := [([.v (.int .i64 x.1), .v (.int .i64 x.2)], 34)]) hR (by kernel_rfl) (by kernel_rfl) ?_
    clear hR
    intro a hR
    refine At.stop (by kernel_rfl) ?_
    refine hK2 _ _ ?_
    refine wp_ret ?_
    exact ret1 (.v (.bool false)) hR rfl (by kernel_rfl) ⟨_, rfl, hR.below, by simp [SV.den, hasP, c3]⟩
  case true =>
    rw [c3] at hR
    have c3 := of_decide_eq_true c3
    refine stepV (i := 5) (op := (Op.load 3 (Operand.tmp 1))) (.int .i64 r) hR rfl (by kernel_rfl) (by kernel_rfl) (run_load_at (by kernel_rfl) (run_loadVar_one0 (by kernel_rfl) ((hf.below hR.below) 0 _ rfl))) ?_
    clear hR
    intro a hR
    refine segP (i := 6) 5 [3] (l' := [(3, .v (.bool (decide (r ≤ x.2))))]) (H' := [([.v (.int .i64 x.1), .v (.int .i64 x.2)], 34)]) hR (by kernel_rfl) (by kernel_rfl) ?_
    clear hR
    intro a hR
    refine At.stop (by kernel_rfl) ?_
    refine hK2 _ _ ?_
    refine wp_ret ?_
    exact ret1 (.v (.bool (decide (r ≤ x.2)))) hR rfl (by kernel_rfl) ⟨_, rfl, hR.below, by simp [SV.den, hasP, c3]⟩

set_option maxRecDepth 10000 in
theorem Tryd.idxHas (A : Option Addr) (c : Nat) (l : List (Int × Int)) (ad : Addr) (r : Int) (w : World) (hl : Rd w 2 encR A l) (hn : l.length ≤ 1000000000000) (hf : Pt w ad [.int .i64 r]) :
    Calls Tryd.prog 34 #[.slice A l.length c, .func (.func 22) #[] #[.pointer (some ad)]] w (RetB w fun v w' => v = .int .i64 (idxF (hasP r) l)) := by
  refine enter [(0, .v (.slice A l.length c)), (1, .v (.func (.func 22) #[] #[.pointer (some ad)]))] Tryd.func34 rfl ⟨19, rfl, rfl, rfl⟩ ?_
  intro a hR
  refine seqS fun K1 hK1 => ?_
  refine At.start ?_
  refine segP (i := 0) 1 [0, 1, 4] (l' := [(0, .v (.slice A l.length c)), (1, .v (.func (.func 22) #[] #[.pointer (some ad)])), (4, .v (.int .i64 0))]) (H' := []) hR (by kernel_rfl) (by kernel_rfl) ?_
  clear hR
  intro a hR
  refine At.stop (by kernel_rfl) ?_
  refine hK1 _ _ ?_
  refine seqS fun K2 hK2 => ?_
  refine seqS fun K3 hK3 => ?_
  refine At.start ?_
  refine segP (i := 0) 3 [0, 1, 4, 7, 8] (l' := [(0, .v (.slice A l.length c)), (1, .v (.func (.func 22) #[] #[.pointer (some ad)])), (4, .v (.int .i64 0)), (7, .v (.int .i64 (l.length : Int))), (8, .v (.int .i64 0))]) (H' := []) hR (by kernel_rfl) (by kernel_rfl) ?_
  clear hR
  intro a hR
  refine At.stop (by kernel_rfl) ?_
  refine hK3 _ _ ?_
  refine wp_block ?_
  refine loopS (α := Nat) (fun x_ a wr => match x_ with | j => Rel [] 19 w (w.heap.size) [] [(0, .v (.slice A l.length c)), (1, .v (.func (.func 22) #[] #[.pointer (some ad)])), (4, .v (.int .i64 0)), (7, .v (.int .i64 (l.length : Int))), (8, .v (.int .i64 (j : Int)))] [] a wr ∧ (j ≤ l.length) ∧ (noneTo (hasP r) l j)) (fun (x_ : Nat) => match x_ with | j => l.length - j) 0 ?_ ?_
  · exact ⟨hR, by omega, noneTo_zero _ _⟩
  intro j a w1 hI
  clear hR
  obtain ⟨hR, hj, hq⟩ := hI
  refine seqS fun K4 hK4 => ?_
  refine At.start ?_
  refine segP (i := 0) 1 [0, 1, 4, 7, 8, 9] (l' := [(0, .v (.slice A l.length c)), (1, .v (.func (.func 22) #[] #[.pointer (some ad)])), (4, .v (.int .i64 0)), (7, .v (.int .i64 (l.length : Int))), (8, .v (.int .i64 (j : Int))), (9, .v (.bool (decide ((j : Int) < (l.length : Int)))))]) (H' := []) hR (by kernel_rfl) (by kernel_rfl) ?_
  clear hR
  intro a hR
  refine At.stop (by kernel_rfl) ?_
  refine hK4 _ _ ?_
  refine seqS fun K5 hK5 => ?_
  refine condS (decide ((j : Int) < (l.length : Int))) hR (by kernel_rfl) (fun c2 => ?_) (fun c2 => ?_)
  ·
    have c2 := of_decide_eq_true c2
    refine wp_skip ?_
    refine hK5 _ _ ?_
    refine seqS fun K6 hK6 => ?_
    refine wp_block ?_
    refine seqS fun K7 hK7 => ?_
    refine At.start ?_
    refine segP (i := 0) 2 [0, 1, 4, 5, 7, 8] (l' := [(0, .v (.slice A l.length c)), (1, .v (.func (.func 22) #[] #[.pointer (some ad)])), (4, .v (.int .i64 0)), (5, .v (.int .i64 (j : Int))), (7, .v (.int .i64 (l.length : Int))), (8, .v (.int .i64 (j : Int)))]) (H' := []) hR (by kernel_rfl) (by kernel_rfl) ?_
    clear hR
    intro a hR
    refine At.stop (by kernel_rfl) ?_
    refine hK7 _ _ ?_
    refine seqS fun K8 hK8 => ?_
    refine At.start ?_
    refine segP (i := 0) 3 [0, 1, 4, 5, 7, 8, 11, 12, 13] (l' := [(0, .v (.slice A l.length c)), (1, .v (.func (.func 22) #[] #[.pointer (some ad)])), (4, .v (.int .i64 0)), (5, .v (.int .i64 (j : Int))), (7, .v (.int .i64 (l.length : Int))), (8, .v (.int .i64 (j : Int))), (11, .v (.func (.func 22) #[] #[.pointer (some ad)])), (12, .v (.slice A l.length c)), (13, .v (.int .i64 (j : Int)))]) (H' := []) hR (by kernel_rfl) (by kernel_rfl) ?_
    clear hR
    intro a hR
    obtain ⟨⟨lo4, hi5⟩, hxe3⟩ : ∃ x_, (l)[j]? = some x_ := ⟨_, List.getElem?_eq_getElem (by omega)⟩
    obtain ⟨ade3, hAe3, hce3⟩ := (hl.below hR.below) _ _ hxe3
    subst hAe3
    refine stepV (i := 3) (op := (Op.indexAddr 23 (Operand.tmp 12) (Operand.tmp 13))) (.pointer (some (ade3.add (j * 2)))) hR rfl (by kernel_rfl) (by kernel_rfl) (run_indexAddr (e := 34) (k := 2) (ad := ade3) (len := l.length) (cap := c) (kk := .i64) (i := (j : Int)) (by kernel_rfl) (by kernel_rfl) (by kernel_rfl) (by kernel_rfl) (by omega) (by omega)) ?_
    clear hR
    intro a hR
    refine stepV (i := 4) (op := (Op.load 34 (Operand.tmp 14))) (.agg #[.int .i64 lo4, .int .i64 hi5]) hR rfl (by kernel_rfl) (by kernel_rfl) (run_load_at (by kernel_rfl) (run_loadVar_agg (by kernel_rfl) (by kernel_rfl) hce3)) ?_
    clear hR
    intro a hR
    refine callB (i := 5) 22 #[.agg #[.int .i64 lo4, .int .i64 hi5], .pointer (some ad)] hR rfl (by kernel_rfl) (by kernel_rfl) (by kernel_rfl) (hR.below.size) (Tryd.has1 ad r (lo4, hi5) _ (hf.below hR.below)) ?_
    clear hR
    rintro v_ a w6 rfl hb7 hR
    refine At.stop (by kernel_rfl) ?_
    refine hK8 _ _ ?_
    refine condS (hasP r (lo4, hi5)) hR (by kernel_rfl) (fun c8 => ?_) (fun c8 => ?_)
    ·
      refine seqS fun K9 hK9 => ?_
      refine At.start ?_
      refine segP (i := 0) 2 [0, 1, 4, 7, 8] (l' := [(0, .v (.slice (some ade3) l.length c)), (1, .v (.func (.func 22) #[] #[.pointer (some ad)])), (4, .v (.int .i64 (j : Int))), (7, .v (.int .i64 (l.length : Int))), (8, .v (.int .i64 (j : Int)))]) (H' := []) hR (by kernel_rfl) (by kernel_rfl) ?_
      clear hR
      intro a hR
      refine At.stop (by kernel_rfl) ?_
      refine hK9 _ _ ?_
      refine wp_ret ?_
      exact ret1 (.v (.int .i64 (j : Int))) hR rfl (by kernel_rfl) ⟨_, rfl, hR.below, congrArg (Value.int .i64) (idxF_found hq (by assumption) (by assumption)).symm⟩
    ·
      refine wp_skip ?_
      refine hK6 _ _ ?_
      refine At.start ?_
      refine segP (i := 0) 2 [0, 1, 4, 7, 8] (l' := [(0, .v (.slice (some ade3) l.length c)), (1, .v (.func (.func 22) #[] #[.pointer (some ad)])), (4, .v (.int .i64 0)), (7, .v (.int .i64 (l.length : Int))), (8, .v (.int .i64 (IntKind.i64.wrap ((j : Int) + 1))))]) (H' := []) hR (by kernel_rfl) (by kernel_rfl) ?_
      clear hR
      intro a hR
      rw [show IntKind.i64.wrap ((j : Int) + 1) = ((j : Int) + 1) from wrap_i64 (by omega) (by omega)] at hR
      refine At.stop (by kernel_rfl) ?_
      refine ⟨j + 1, ⟨?_, ?_, ?_⟩, ?_⟩
      · exact (hR.trimTo 0 [0, 1, 4, 7, 8] (by kernel_rfl) (by kernel_rfl) (by kernel_rfl))
      · omega
      · exact noneTo_succ hq (by assumption) (by assumption)
      · show _ < _
        dsimp only
        omega
  ·
    have c2 := of_decide_eq_false c2
    refine wp_exit ?_
    refine hK2 _ _ ?_
    refine seqS fun K10 hK10 => ?_
    refine At.start ?_
    refine segP (i := 0) 1 [4] (l' := [(4, .v (.int .i64 (-1)))]) (H' := []) hR (by kernel_rfl) (by kernel_rfl) ?_
    clear hR
    intro a hR
    refine At.stop (by kernel_rfl) ?_
    refine hK10 _ _ ?_
    refine wp_ret ?_
    exact ret1 (.v (.int .i64 (-1))) hR rfl (by kernel_rfl) ⟨_, rfl, hR.below, congrArg (Value.int .i64) (idxF_none (by have e : j = l.length := (by omega); rw [← e]; exact hq)).symm⟩

set_option maxRecDepth 10000 in
theorem Tryd.anyHas (A : Option Addr) (c : Nat) (l : List (Int × Int)) (ad : Addr) (r : Int) (w : World) (hl : Rd w 2 encR A l) (hn : l.length ≤ 1000000000000) (hf : Pt w ad [.int .i64 r]) :
    Calls Tryd.prog 21 #[.slice A l.length c, .func (.func 22) #[] #[.pointer (some ad)]] w (RetB w fun v w' => v = .bool (l.any (hasP r))) := by
  refine enter [(0, .v (.slice A l.length c)), (1, .v (.func (.func 22) #[] #[.pointer (some ad)]))] Tryd.func21 rfl ⟨9, rfl, rfl, rfl⟩ ?_
  intro a hR
  refine seqS fun K1 hK1 => ?_
  refine At.start ?_
  refine segP (i := 0) 1 [0, 1, 4] (l' := [(0, .v (.slice A l.length c)), (1, .v (.func (.func 22) #[] #[.pointer (some ad)])), (4, .v (.bool false))]) (H' := []) hR (by kernel_rfl) (by kernel_rfl) ?_
  clear hR
  intro a hR
  refine At.stop (by kernel_rfl) ?_
  refine hK1 _ _ ?_
  refine seqS fun K2 hK2 => ?_
  refine At.start ?_
  refine segP (i := 0) 2 [4, 5, 6] (l' := [(4, .v (.bool false)), (5, .v (.slice A l.length c)), (6, .v (.func (.func 22) #[] #[.pointer (some ad)]))]) (H' := []) hR (by kernel_rfl) (by kernel_rfl) ?_
  clear hR
  intro a hR
  refine callB (i := 2) 34 #[.slice A l.length c, .func (.func 22) #[] #[.pointer (some ad)]] hR rfl (by kernel_rfl) (by kernel_rfl) (by kernel_rfl) (Nat.le_refl _) (Tryd.idxHas A c l ad r _ hl hn hf) ?_
  clear hR
  rintro v_ a w1 rfl hb2 hR
  refine segP (i := 3) 2 [4] (l' := [(4, .v (.bool (decide (idxF (hasP r) l ≥ 0))))]) (H' := []) hR (by kernel_rfl) (by kernel_rfl) ?_
  clear hR
  intro a hR
  refine At.stop (by kernel_rfl) ?_
  refine hK2 _ _ ?_
  refine wp_ret ?_
  exact ret1 (.v (.bool (decide (idxF (hasP r) l ≥ 0)))) hR rfl (by kernel_rfl) ⟨_, rfl, hR.below, congrArg Value.bool (idxF_any _ _)⟩

set_option maxRecDepth 10000 in
theorem Tryd.has_any (A : Option Addr) (c : Nat) (l : List (Int × Int)) (r : Int) (w : World) (hl : Rd w 2 encR A l) (hn : l.length ≤ 1000000000000) :
    Calls Tryd.prog 8 #[.slice A l.length c, .int .i64 r] w (RetB w fun v w' => v = .bool (hasF l r)) := by
  refine enter [(0, .v (.slice A l.length c)), (1, .v (.int .i64 r))] Tryd.func8 rfl ⟨16, rfl, rfl, rfl⟩ ?_
  intro a hR
  refine seqS fun K1 hK1 => ?_
  refine At.start ?_
  refine boxS (i := 0) (.v (.int .i64 r)) hR rfl (by kernel_rfl) (by kernel_rfl) (by kernel_rfl) (Nat.le_refl _) ?_
  clear hR
  intro b1 a w2 hb1 hsb1 hgb1 hR
  refine segP (i := 1) 1 [0, 3, 4] (l' := [(0, .v (.slice A l.length c)), (3, .p 0 0), (4, .v (.bool false))]) (H' := [([.v (.int .i64 r)], 3)]) hR (by kernel_rfl) (by kernel_rfl) ?_
  clear hR
  intro a hR
  refine At.stop (by kernel_rfl) ?_
  refine hK1 _ _ ?_
  refine seqS fun K2 hK2 => ?_
  refine At.start ?_
  refine segP (i := 0) 3 [0, 3, 4, 7] (l' := [(0, .v (.slice A l.length c)), (3, .p 0 0), (4, .v (.bool false)), (7, .v (.bool (decide (r ≥ 0))))]) (H' := [([.v (.int .i64 r)], 3)]) hR (by kernel_rfl) (by kernel_rfl) ?_
  clear hR
  intro a hR
  cases c3 : (decide (r ≥ 0))
  case false =>
    rw [c3] at hR
    have c3 := of_decide_eq_false c3
    refine segP (i := 3) 9 [4] (l' := [(4, .v (.bool false))]) (H' := [([.v (.int .i64 r)], 3)]) hR (by kernel_rfl) (by kernel_rfl) ?_
    clear hR
    intro a hR
    refine At.stop (by kernel_rfl) ?_
    refine hK2 _ _ ?_
    refine wp_ret ?_
    exact ret1 (.v (.bool false)) hR rfl (by kernel_rfl) ⟨_, rfl, hR.below, by simp [SV.den, hasF, c3]⟩
  case true =>
    rw [c3] at hR
    have c3 := of_decide_eq_true c3
    refine segP (i := 3) 4 [0, 3, 4, 11] (l' := [(0, .v (.slice A l.length c)), (3, .p 0 0), (4, .v (.bool false)), (11, .v (.bool (decide (r ≤ 1114111))))]) (H' := [([.v (.int .i64 r)], 3)]) hR (by kernel_rfl) (by kernel_rfl) ?_
    clear hR
    intro a hR
    cases c4 : (decide (r ≤ 1114111))
    case false =>
      rw [c4] at hR
      have c4 := of_decide_eq_false c4
      refine segP (i := 7) 5 [4] (l' := [(4, .v (.bool false))]) (H' := [([.v (.int .i64 r)], 3)]) hR (by kernel_rfl) (by kernel_rfl) ?_
      clear hR
      intro a hR
      refine At.stop (by kernel_rfl) ?_
      refine hK2 _ _ ?_
      refine wp_ret ?_
      exact ret1 (.v (.bool false)) hR rfl (by kernel_rfl) ⟨_, rfl, hR.below, by simp [SV.den, hasF, c3, c4]⟩
    case true =>
      rw [c4] at hR
      have c4 := of_decide_eq_true c4
      refine segP (i := 7) 2 [4, 11, 12, 13] (l' := [(4, .v (.bool false)), (11, .v (.bool true)), (12, .v (.slice A l.length c)), (13, .v (.func (.func 22) #[] #[.pointer (some ⟨b1, 0, none⟩)]))]) (H' := [([.v (.int .i64 r)], 3)]) hR (by kernel_rfl) (by kernel_rfl) ?_
      clear hR
      intro a hR
      refine callB (i := 9) 21 #[.slice A l.length c, .func (.func 22) #[] #[.pointer (some ⟨b1, 0, none⟩)]] hR rfl (by kernel_rfl) (by kernel_rfl) (by kernel_rfl) (hR.below.size) (Tryd.anyHas A c l ⟨b1, 0, none⟩ r _ (hl.below hR.below) hn (Pt.var hR 0 rfl rfl rfl)) ?_
      clear hR
      rintro v_ a w5 rfl hb6 hR
      refine segP (i := 10) 2 [4] (l' := [(4, .v (.bool (l.any (hasP r))))]) (H' := [([.v (.int .i64 r)], 3)]) hR (by kernel_rfl) (by kernel_rfl) ?_
      clear hR
      intro a hR
      refine At.stop (by kernel_rfl) ?_
      refine hK2 _ _ ?_
      refine wp_ret ?_
      exact ret1 (.v (.bool (l.any (hasP r)))) hR rfl (by kernel_rfl) ⟨_, rfl, hR.below, by simp [SV.den, hasF, c3, c4]⟩

end Go.Proofs

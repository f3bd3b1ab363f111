/- Walks of functions. -/
import Derived.Test.YtpjibonpnghodaaDoorProg
import Derived.Test.YtpjibonpnghodaaDoorCls
import Derived.Test.YtpjibonpnghodaaDoorShelf
set_option linter.unusedVariables false
set_option linter.unusedSimpArgs false
namespace Go.Proofs
open Go.RowKit Go.KW Go.Rng
set_option maxRecDepth 10000 in
theorem Tryd.indexHex (c : Int) (w : World) : Calls Tryd.prog 71 #[.string ⟨#[48, 49, 50, 51, 52, 53, 54, 55, 56, 57, 65, 66, 67, 68, 69, 70]⟩, .int .u8 c] w (RetB w fun v w' => v = .int .i64 (Lib.indexByte hexesL c.toNat.toUInt8)) :=
  (Tryd.strings_IndexByte _ c w).mono (by rintro e w' ⟨rfl, rfl⟩; exact ⟨_, rfl, Below.refl _ _, rfl⟩)

set_option maxRecDepth 10000 in
theorem Tryd.number_any (s : ByteArray) (w : World) (hs : s.size ≤ 12) :
    Calls Tryd.prog 48 #[.string s] w (RetB w fun v w' => v = .int .i64 (numL s.data.toList)) := by
  refine enter [(0, .v (.string s))] Tryd.func48 rfl ⟨19, rfl, rfl, rfl⟩ ?_
  intro a hR
  refine seqS fun K1 hK1 => ?_
  refine At.start ?_
  refine segP (i := 0) 1 [0, 2] (l' := [(0, .v (.string s)), (2, .v (.int .i64 0))]) (H' := []) hR (by kernel_rfl) (by kernel_rfl) ?_
  clear hR
  intro a hR
  refine At.stop (by kernel_rfl) ?_
  refine hK1 _ _ ?_
  refine seqS fun K2 hK2 => ?_
  refine At.start ?_
  refine segP (i := 0) 1 [0, 2, 3] (l' := [(0, .v (.string s)), (2, .v (.int .i64 0)), (3, .v (.int .i64 0))]) (H' := []) hR (by kernel_rfl) (by kernel_rfl) ?_
  clear hR
  intro a hR
  refine At.stop (by kernel_rfl) ?_
  refine hK2 _ _ ?_
  refine seqS fun K3 hK3 => ?_
  refine seqS fun K4 hK4 => ?_
  refine At.start ?_
  refine segP (i := 0) 3 [0, 2, 3, 6, 7] (l' := [(0, .v (.string s)), (2, .v (.int .i64 0)), (3, .v (.int .i64 0)), (6, .v (.int .i64 (s.size : Int))), (7, .v (.int .i64 0))]) (H' := []) hR (by kernel_rfl) (by kernel_rfl) ?_
  clear hR
  intro a hR
  refine At.stop (by kernel_rfl) ?_
  refine hK4 _ _ ?_
  refine wp_block ?_
  have hsz : s.size = s.data.toList.length := Lib.size_eq s
  refine loopS (α := Nat × Int) (fun x_ a wr => match x_ with | (i, n) => Rel [] 19 w (w.heap.size) [] [(0, .v (.string s)), (2, .v (.int .i64 0)), (3, .v (.int .i64 n)), (6, .v (.int .i64 (s.size : Int))), (7, .v (.int .i64 (i : Int)))] [] a wr ∧ (i ≤ s.size) ∧ (n = numL (s.data.toList.take i))) (fun (x_ : Nat × Int) => match x_ with | (i, n) => s.size - i) (0, 0) ?_ ?_
  · exact ⟨hR, by omega, rfl⟩
  rintro ⟨i, n⟩ a w1 hI
  clear hR
  obtain ⟨hR, hi, hn⟩ := hI
  refine seqS fun K5 hK5 => ?_
  refine At.start ?_
  refine segP (i := 0) 1 [0, 2, 3, 6, 7, 8] (l' := [(0, .v (.string s)), (2, .v (.int .i64 0)), (3, .v (.int .i64 n)), (6, .v (.int .i64 (s.size : Int))), (7, .v (.int .i64 (i : Int))), (8, .v (.bool (decide ((i : Int) < (s.size : Int)))))]) (H' := []) hR (by kernel_rfl) (by kernel_rfl) ?_
  clear hR
  intro a hR
  refine At.stop (by kernel_rfl) ?_
  refine hK5 _ _ ?_
  refine seqS fun K6 hK6 => ?_
  refine condS (decide ((i : Int) < (s.size : Int))) hR (by kernel_rfl) (fun c2 => ?_) (fun c2 => ?_)
  ·
    have c2 := of_decide_eq_true c2
    refine wp_skip ?_
    refine hK6 _ _ ?_
    refine seqS fun K7 hK7 => ?_
    refine wp_block ?_
    refine seqS fun K8 hK8 => ?_
    refine At.start ?_
    refine segP (i := 0) 2 [0, 2, 3, 4, 6, 7] (l' := [(0, .v (.string s)), (2, .v (.int .i64 0)), (3, .v (.int .i64 n)), (4, .v (.int .i64 (i : Int))), (6, .v (.int .i64 (s.size : Int))), (7, .v (.int .i64 (i : Int)))]) (H' := []) hR (by kernel_rfl) (by kernel_rfl) ?_
    clear hR
    intro a hR
    refine At.stop (by kernel_rfl) ?_
    refine hK8 _ _ ?_
    refine At.start ?_
    have hnb := numL_small (l := s.data.toList.take i) (by rw [List.length_take]; omega)
    rw [← hn] at hnb
    refine segP (i := 0) 4 [0, 2, 3, 6, 7, 11, 12, 13] (l' := [(0, .v (.string s)), (2, .v (.int .i64 0)), (3, .v (.int .i64 n)), (6, .v (.int .i64 (s.size : Int))), (7, .v (.int .i64 (i : Int))), (11, .v (.int .i64 (IntKind.i64.wrap (16 * n)))), (12, .v (.string s)), (13, .v (.int .i64 (i : Int)))]) (H' := []) hR (by kernel_rfl) (by kernel_rfl) ?_
    clear hR
    intro a hR
    rw [show IntKind.i64.wrap (16 * n) = (16 * n) from wrap_i64 (by omega) (by omega)] at hR
    refine stepV (i := 4) (op := (Op.index 9 (Operand.tmp 12) (Operand.tmp 13))) (.int .u8 (bt s (i : Int))) hR rfl (by kernel_rfl) (by kernel_rfl) (run_index_str (s := s) (k := .i64) (i := (i : Int)) (by kernel_rfl) (by kernel_rfl) (by kernel_rfl) (by omega) (by omega)) ?_
    clear hR
    intro a hR
    have hib := indexByte_lt hexesL (bt s (i : Int)).toNat.toUInt8
    have hib2 : hexesL.length = 16 := rfl
    refine callB (i := 5) 71 #[.string (⟨#[48, 49, 50, 51, 52, 53, 54, 55, 56, 57, 65, 66, 67, 68, 69, 70]⟩), .int .u8 (bt s (i : Int))] hR rfl (by kernel_rfl) (by kernel_rfl) (by kernel_rfl) (hR.below.size) (Tryd.indexHex (bt s (i : Int)) _) ?_
    clear hR
    rintro v_ a w3 rfl hb4 hR
    refine segP (i := 6) 2 [0, 2, 3, 6, 7] (l' := [(0, .v (.string s)), (2, .v (.int .i64 0)), (3, .v (.int .i64 (IntKind.i64.wrap ((16 * n) + (Lib.indexByte hexesL (bt s (i : Int)).toNat.toUInt8))))), (6, .v (.int .i64 (s.size : Int))), (7, .v (.int .i64 (i : Int)))]) (H' := []) hR (by kernel_rfl) (by kernel_rfl) ?_
    clear hR
    intro a hR
    rw [show IntKind.i64.wrap ((16 * n) + (Lib.indexByte hexesL (bt s (i : Int)).toNat.toUInt8)) = ((16 * n) + (Lib.indexByte hexesL (bt s (i : Int)).toNat.toUInt8)) from wrap_i64 (by omega) (by omega)] at hR
    refine At.stop (by kernel_rfl) ?_
    refine hK7 _ _ ?_
    refine At.start ?_
    refine segP (i := 0) 2 [0, 2, 3, 6, 7] (l' := [(0, .v (.string s)), (2, .v (.int .i64 0)), (3, .v (.int .i64 ((16 * n) + (Lib.indexByte hexesL (bt s (i : Int)).toNat.toUInt8)))), (6, .v (.int .i64 (s.size : Int))), (7, .v (.int .i64 (IntKind.i64.wrap ((i : Int) + 1))))]) (H' := []) hR (by kernel_rfl) (by kernel_rfl) ?_
    clear hR
    intro a hR
    rw [show IntKind.i64.wrap ((i : Int) + 1) = ((i : Int) + 1) from wrap_i64 (by omega) (by omega)] at hR
    refine At.stop (by kernel_rfl) ?_
    refine ⟨(i + 1, (16 * n) + (Lib.indexByte hexesL (bt s (i : Int)).toNat.toUInt8)), ⟨?_, ?_, ?_⟩, ?_⟩
    · exact (hR.trimTo 0 [0, 2, 3, 6, 7] (by kernel_rfl) (by kernel_rfl) (by kernel_rfl))
    · omega
    · exact numL_take hn (by omega)
    · show _ < _
      dsimp only
      omega
  ·
    have c2 := of_decide_eq_false c2
    refine wp_exit ?_
    refine hK3 _ _ ?_
    refine seqS fun K9 hK9 => ?_
    refine At.start ?_
    refine segP (i := 0) 2 [2] (l' := [(2, .v (.int .i64 n))]) (H' := []) hR (by kernel_rfl) (by kernel_rfl) ?_
    clear hR
    intro a hR
    refine At.stop (by kernel_rfl) ?_
    refine hK9 _ _ ?_
    refine wp_ret ?_
    exact ret1 (.v (.int .i64 n)) hR rfl (by kernel_rfl) ⟨_, rfl, hR.below, congrArg (Value.int .i64) (by rw [hn, show i = s.data.toList.length by omega, List.take_length])⟩

set_option maxRecDepth 10000 in
theorem Tryd.find1 (ad : Addr) (nm : ByteArray) (x : Nm) (w : World) (hf : Pt w ad [.string nm]) :
    Calls Tryd.prog 38 #[.agg #[.string x.1, .string x.2], .pointer (some ad)] w (RetB w fun v w' => v = .bool (nameP nm x)) := by
  refine enter [(0, .v (.agg #[.string x.1, .string x.2])), (1, .v (.pointer (some ad)))] Tryd.func38 rfl ⟨8, rfl, rfl, rfl⟩ ?_
  intro a hR
  refine seqS fun K1 hK1 => ?_
  refine At.start ?_
  refine boxS (i := 0) (.v (.agg #[.string x.1, .string x.2])) hR rfl (by kernel_rfl) (by kernel_rfl) (by kernel_rfl) (Nat.le_refl _) ?_
  clear hR
  intro b1 a w2 hb1 hsb1 hgb1 hR
  refine segP (i := 1) 1 [1, 2, 3] (l' := [(1, .v (.pointer (some ad))), (2, .p 0 0), (3, .v (.bool false))]) (H' := [([.v (.string x.1), .v (.string x.2)], 56)]) hR (by kernel_rfl) (by kernel_rfl) ?_
  clear hR
  intro a hR
  refine At.stop (by kernel_rfl) ?_
  refine hK1 _ _ ?_
  refine seqS fun K2 hK2 => ?_
  refine At.start ?_
  refine segP (i := 0) 2 [1, 3, 5] (l' := [(1, .v (.pointer (some ad))), (3, .v (.bool false)), (5, .v (.string x.1))]) (H' := [([.v (.string x.1), .v (.string x.2)], 56)]) hR (by kernel_rfl) (by kernel_rfl) ?_
  clear hR
  intro a hR
  refine stepV (i := 2) (op := (Op.load 9 (Operand.tmp 1))) (.string nm) hR rfl (by kernel_rfl) (by kernel_rfl) (run_load_at (by kernel_rfl) (run_loadVar_one0 (by kernel_rfl) ((hf.below hR.below) 0 _ rfl))) ?_
  clear hR
  intro a hR
  refine segP (i := 3) 2 [3] (l' := [(3, .v (.bool ((x.1).toList == (nm).toList)))]) (H' := [([.v (.string x.1), .v (.string x.2)], 56)]) hR (by kernel_rfl) (by kernel_rfl) ?_
  clear hR
  intro a hR
  refine At.stop (by kernel_rfl) ?_
  refine hK2 _ _ ?_
  refine wp_ret ?_
  exact ret1 (.v (.bool ((x.1).toList == (nm).toList))) hR rfl (by kernel_rfl) ⟨_, rfl, hR.below, rfl⟩

set_option maxRecDepth 10000 in
theorem Tryd.idxNamed (A : Option Addr) (c : Nat) (l : List (ByteArray × ByteArray)) (ad : Addr) (nm : ByteArray) (w : World) (hl : Rd w 2 encN A l) (hn : l.length ≤ 1000000000000) (hf : Pt w ad [.string nm]) :
    Calls Tryd.prog 37 #[.slice A l.length c, .func (.func 38) #[] #[.pointer (some ad)]] w (RetB w fun v w' => v = .int .i64 (idxF (nameP nm) l)) := by
  refine enter [(0, .v (.slice A l.length c)), (1, .v (.func (.func 38) #[] #[.pointer (some ad)]))] Tryd.func37 rfl ⟨19, rfl, rfl, rfl⟩ ?_
  intro a hR
  refine seqS fun K1 hK1 => ?_
  refine At.start ?_
  refine segP (i := 0) 1 [0, 1, 4] (l' := [(0, .v (.slice A l.length c)), (1, .v (.func (.func 38) #[] #[.pointer (some ad)])), (4, .v (.int .i64 0))]) (H' := []) hR (by kernel_rfl) (by kernel_rfl) ?_
  clear hR
  intro a hR
  refine At.stop (by kernel_rfl) ?_
  refine hK1 _ _ ?_
  refine seqS fun K2 hK2 => ?_
  refine seqS fun K3 hK3 => ?_
  refine At.start ?_
  refine segP (i := 0) 3 [0, 1, 4, 7, 8] (l' := [(0, .v (.slice A l.length c)), (1, .v (.func (.func 38) #[] #[.pointer (some ad)])), (4, .v (.int .i64 0)), (7, .v (.int .i64 (l.length : Int))), (8, .v (.int .i64 0))]) (H' := []) hR (by kernel_rfl) (by kernel_rfl) ?_
  clear hR
  intro a hR
  refine At.stop (by kernel_rfl) ?_
  refine hK3 _ _ ?_
  refine wp_block ?_
  refine loopS (α := Nat) (fun x_ a wr => match x_ with | j => Rel [] 19 w (w.heap.size) [] [(0, .v (.slice A l.length c)), (1, .v (.func (.func 38) #[] #[.pointer (some ad)])), (4, .v (.int .i64 0)), (7, .v (.int .i64 (l.length : Int))), (8, .v (.int .i64 (j : Int)))] [] a wr ∧ (j ≤ l.length) ∧ (noneTo (nameP nm) l j)) (fun (x_ : Nat) => match x_ with | j => l.length - j) 0 ?_ ?_
  · exact ⟨hR, by omega, noneTo_zero _ _⟩
  intro j a w1 hI
  clear hR
  obtain ⟨hR, hj, hq⟩ := hI
  refine seqS fun K4 hK4 => ?_
  refine At.start ?_
  refine segP (i := 0) 1 [0, 1, 4, 7, 8, 9] (l' := [(0, .v (.slice A l.length c)), (1, .v (.func (.func 38) #[] #[.pointer (some ad)])), (4, .v (.int .i64 0)), (7, .v (.int .i64 (l.length : Int))), (8, .v (.int .i64 (j : Int))), (9, .v (.bool (decide ((j : Int) < (l.length : Int)))))]) (H' := []) hR (by kernel_rfl) (by kernel_rfl) ?_
  clear hR
  intro a hR
  refine At.stop (by kernel_rfl) ?_
  refine hK4 _ _ ?_
  refine seqS fun K5 hK5 => ?_
  refine condS (decide ((j : Int) < (l.length : Int))) hR (by kernel_rfl) (fun c2 => ?_) (fun c2 => ?_)
  ·
    have c2 := of_decide_eq_true c2
    refine wp_skip ?_
    refine hK5 _ _ ?_
    refine seqS fun K6 hK6 => ?_
    refine wp_block ?_
    refine seqS fun K7 hK7 => ?_
    refine At.start ?_
    refine segP (i := 0) 2 [0, 1, 4, 5, 7, 8] (l' := [(0, .v (.slice A l.length c)), (1, .v (.func (.func 38) #[] #[.pointer (some ad)])), (4, .v (.int .i64 0)), (5, .v (.int .i64 (j : Int))), (7, .v (.int .i64 (l.length : Int))), (8, .v (.int .i64 (j : Int)))]) (H' := []) hR (by kernel_rfl) (by kernel_rfl) ?_
    clear hR
    intro a hR
    refine At.stop (by kernel_rfl) ?_
    refine hK7 _ _ ?_
    refine seqS fun K8 hK8 => ?_
    refine At.start ?_
    refine segP (i := 0) 3 [0, 1, 4, 5, 7, 8, 11, 12, 13] (l' := [(0, .v (.slice A l.length c)), (1, .v (.func (.func 38) #[] #[.pointer (some ad)])), (4, .v (.int .i64 0)), (5, .v (.int .i64 (j : Int))), (7, .v (.int .i64 (l.length : Int))), (8, .v (.int .i64 (j : Int))), (11, .v (.func (.func 38) #[] #[.pointer (some ad)])), (12, .v (.slice A l.length c)), (13, .v (.int .i64 (j : Int)))]) (H' := []) hR (by kernel_rfl) (by kernel_rfl) ?_
    clear hR
    intro a hR
    obtain ⟨⟨nm4, tx5⟩, hxe3⟩ : ∃ x_, (l)[j]? = some x_ := ⟨_, List.getElem?_eq_getElem (by omega)⟩
    obtain ⟨ade3, hAe3, hce3⟩ := (hl.below hR.below) _ _ hxe3
    subst hAe3
    refine stepV (i := 3) (op := (Op.indexAddr 52 (Operand.tmp 12) (Operand.tmp 13))) (.pointer (some (ade3.add (j * 2)))) hR rfl (by kernel_rfl) (by kernel_rfl) (run_indexAddr (e := 56) (k := 2) (ad := ade3) (len := l.length) (cap := c) (kk := .i64) (i := (j : Int)) (by kernel_rfl) (by kernel_rfl) (by kernel_rfl) (by kernel_rfl) (by omega) (by omega)) ?_
    clear hR
    intro a hR
    refine stepV (i := 4) (op := (Op.load 56 (Operand.tmp 14))) (.agg #[.string nm4, .string tx5]) hR rfl (by kernel_rfl) (by kernel_rfl) (run_load_at (by kernel_rfl) (run_loadVar_agg (by kernel_rfl) (by kernel_rfl) hce3)) ?_
    clear hR
    intro a hR
    refine callB (i := 5) 38 #[.agg #[.string nm4, .string tx5], .pointer (some ad)] hR rfl (by kernel_rfl) (by kernel_rfl) (by kernel_rfl) (hR.below.size) (Tryd.find1 ad nm (nm4, tx5) _ (hf.below hR.below)) ?_
    clear hR
    rintro v_ a w6 rfl hb7 hR
    refine At.stop (by kernel_rfl) ?_
    refine hK8 _ _ ?_
    refine condS (nameP nm (nm4, tx5)) hR (by kernel_rfl) (fun c8 => ?_) (fun c8 => ?_)
    ·
      refine seqS fun K9 hK9 => ?_
      refine At.start ?_
      refine segP (i := 0) 2 [0, 1, 4, 7, 8] (l' := [(0, .v (.slice (some ade3) l.length c)), (1, .v (.func (.func 38) #[] #[.pointer (some ad)])), (4, .v (.int .i64 (j : Int))), (7, .v (.int .i64 (l.length : Int))), (8, .v (.int .i64 (j : Int)))]) (H' := []) hR (by kernel_rfl) (by kernel_rfl) ?_
      clear hR
      intro a hR
      refine At.stop (by kernel_rfl) ?_
      refine hK9 _ _ ?_
      refine wp_ret ?_
      exact ret1 (.v (.int .i64 (j : Int))) hR rfl (by kernel_rfl) ⟨_, rfl, hR.below, congrArg (Value.int .i64) (idxF_found hq (by assumption) (by assumption)).symm⟩
    ·
      refine wp_skip ?_
      refine hK6 _ _ ?_
      refine At.start ?_
      refine segP (i := 0) 2 [0, 1, 4, 7, 8] (l' := [(0, .v (.slice (some ade3) l.length c)), (1, .v (.func (.func 38) #[] #[.pointer (some ad)])), (4, .v (.int .i64 0)), (7, .v (.int .i64 (l.length : Int))), (8, .v (.int .i64 (IntKind.i64.wrap ((j : Int) + 1))))]) (H' := []) hR (by kernel_rfl) (by kernel_rfl) ?_
      clear hR
      intro a hR
      rw [show IntKind.i64.wrap ((j : Int) + 1) = ((j : Int) + 1) from wrap_i64 (by omega) (by omega)] at hR
      refine At.stop (by kernel_rfl) ?_
      refine ⟨j + 1, ⟨?_, ?_, ?_⟩, ?_⟩
      · exact (hR.trimTo 0 [0, 1, 4, 7, 8] (by kernel_rfl) (by kernel_rfl) (by kernel_rfl))
      · omega
      · exact noneTo_succ hq (by assumption) (by assumption)
      · show _ < _
        dsimp only
        omega
  ·
    have c2 := of_decide_eq_false c2
    refine wp_exit ?_
    refine hK2 _ _ ?_
    refine seqS fun K10 hK10 => ?_
    refine At.start ?_
    refine segP (i := 0) 1 [4] (l' := [(4, .v (.int .i64 (-1)))]) (H' := []) hR (by kernel_rfl) (by kernel_rfl) ?_
    clear hR
    intro a hR
    refine At.stop (by kernel_rfl) ?_
    refine hK10 _ _ ?_
    refine wp_ret ?_
    exact ret1 (.v (.int .i64 (-1))) hR rfl (by kernel_rfl) ⟨_, rfl, hR.below, congrArg (Value.int .i64) (idxF_none (by have e : j = l.length := (by omega); rw [← e]; exact hq)).symm⟩

def lettersT : List (ByteArray × ByteArray) := [(⟨#[100]⟩, ⟨#[51, 48, 45, 51, 57]⟩), (⟨#[115]⟩, ⟨#[57, 32, 65, 32, 67, 32, 68, 32, 50, 48]⟩), (⟨#[119]⟩, ⟨#[51, 48, 45, 51, 57, 32, 52, 49, 45, 53, 65, 32, 53, 70, 32, 54, 49, 45, 55, 65]⟩)]
def colonsT : List (ByteArray × ByteArray) := [(⟨#[97, 108, 110, 117, 109]⟩, ⟨#[51, 48, 45, 51, 57, 32, 52, 49, 45, 53, 65, 32, 54, 49, 45, 55, 65]⟩), (⟨#[97, 108, 112, 104, 97]⟩, ⟨#[52, 49, 45, 53, 65, 32, 54, 49, 45, 55, 65]⟩), (⟨#[97, 115, 99, 105, 105]⟩, ⟨#[48, 45, 55, 70]⟩), (⟨#[98, 108, 97, 110, 107]⟩, ⟨#[57, 32, 50, 48]⟩), (⟨#[99, 110, 116, 114, 108]⟩, ⟨#[48, 45, 49, 70, 32, 55, 70]⟩), (⟨#[100, 105, 103, 105, 116]⟩, ⟨#[51, 48, 45, 51, 57]⟩), (⟨#[103, 114, 97, 112, 104]⟩, ⟨#[50, 49, 45, 55, 69]⟩), (⟨#[108, 111, 119, 101, 114]⟩, ⟨#[54, 49, 45, 55, 65]⟩), (⟨#[112, 114, 105, 110, 116]⟩, ⟨#[50, 48, 45, 55, 69]⟩), (⟨#[112, 117, 110, 99, 116]⟩, ⟨#[50, 49, 45, 50, 70, 32, 51, 65, 45, 52, 48, 32, 53, 66, 45, 54, 48, 32, 55, 66, 45, 55, 69]⟩), (⟨#[115, 112, 97, 99, 101]⟩, ⟨#[57, 45, 68, 32, 50, 48]⟩), (⟨#[117, 112, 112, 101, 114]⟩, ⟨#[52, 49, 45, 53, 65]⟩), (⟨#[119, 111, 114, 100]⟩, ⟨#[51, 48, 45, 51, 57, 32, 52, 49, 45, 53, 65, 32, 53, 70, 32, 54, 49, 45, 55, 65]⟩), (⟨#[120, 100, 105, 103, 105, 116]⟩, ⟨#[51, 48, 45, 51, 57, 32, 52, 49, 45, 52, 54, 32, 54, 49, 45, 54, 54]⟩)]
def propsT : List (ByteArray × ByteArray) := [(⟨#[65, 110, 121]⟩, ⟨#[48, 45, 49, 48, 70, 70, 70, 70]⟩), (⟨#[67, 121, 114, 105, 108, 108, 105, 99]⟩, ⟨#[52, 48, 48, 45, 52, 56, 52, 32, 52, 56, 55, 45, 53, 50, 70]⟩), (⟨#[71, 114, 101, 101, 107]⟩, ⟨#[51, 55, 48, 45, 51, 55, 51, 32, 51, 55, 53, 45, 51, 55, 55, 32, 51, 55, 65, 45, 51, 55, 68, 32, 51, 55, 70, 32, 51, 56, 52, 32, 51, 56, 54, 32, 51, 56, 56, 45, 51, 56, 65, 32, 51, 56, 67, 32, 51, 56, 69, 45, 51, 65, 49, 32, 51, 65, 51, 45, 51, 69, 49, 32, 51, 70, 48, 45, 51, 70, 70, 32, 50, 49, 50, 54]⟩), (⟨#[76]⟩, ⟨#[52, 49, 45, 53, 65, 32, 67, 48, 45, 68, 54, 32, 68, 56, 45, 68, 69, 32, 49, 55, 56, 32, 51, 57, 49, 45, 51, 65, 49, 32, 51, 65, 51, 45, 51, 65, 66, 32, 52, 48, 48, 45, 52, 50, 70, 32, 54, 49, 45, 55, 65, 32, 66, 53, 32, 68, 70, 45, 70, 54, 32, 70, 56, 45, 70, 70, 32, 51, 65, 67, 45, 51, 67, 69, 32, 52, 51, 48, 45, 52, 53, 70, 32, 49, 55, 70, 32, 52, 49, 45, 53, 65, 32, 54, 49, 45, 55, 65, 32, 65, 65, 32, 66, 65, 32, 67, 48, 45, 68, 54, 32, 68, 56, 45, 70, 54, 32, 70, 56, 45, 50, 52, 70, 32, 51, 55, 48, 45, 51, 55, 51, 32, 51, 55, 53, 45, 51, 55, 55, 32, 51, 55, 65, 45, 51, 55, 68, 32, 51, 55, 70, 32, 51, 56, 52, 32, 51, 56, 54, 32, 51, 56, 56, 45, 51, 56, 65, 32, 51, 56, 67, 32, 51, 56, 69, 45, 51, 65, 49, 32, 51, 65, 51, 45, 51, 69, 49, 32, 51, 70, 48, 45, 51, 70, 70, 32, 50, 49, 50, 54, 32, 52, 48, 48, 45, 52, 56, 52, 32, 52, 56, 55, 45, 53, 50, 70]⟩), (⟨#[76, 97, 116, 105, 110]⟩, ⟨#[52, 49, 45, 53, 65, 32, 54, 49, 45, 55, 65, 32, 65, 65, 32, 66, 65, 32, 67, 48, 45, 68, 54, 32, 68, 56, 45, 70, 54, 32, 70, 56, 45, 50, 52, 70]⟩), (⟨#[76, 108]⟩, ⟨#[54, 49, 45, 55, 65, 32, 66, 53, 32, 68, 70, 45, 70, 54, 32, 70, 56, 45, 70, 70, 32, 51, 65, 67, 45, 51, 67, 69, 32, 52, 51, 48, 45, 52, 53, 70, 32, 49, 55, 70]⟩), (⟨#[76, 117]⟩, ⟨#[52, 49, 45, 53, 65, 32, 67, 48, 45, 68, 54, 32, 68, 56, 45, 68, 69, 32, 49, 55, 56, 32, 51, 57, 49, 45, 51, 65, 49, 32, 51, 65, 51, 45, 51, 65, 66, 32, 52, 48, 48, 45, 52, 50, 70]⟩), (⟨#[78, 100]⟩, ⟨#[51, 48, 45, 51, 57, 32, 54, 54, 48, 45, 54, 54, 57, 32, 54, 70, 48, 45, 54, 70, 57, 32, 57, 54, 54, 45, 57, 54, 70]⟩)]

set_option maxRecDepth 10000 in
theorem Tryd.letters_any (w : World) :
    Calls Tryd.prog 26 #[] w (RetB w fun v w' => ∃ A c, v = .slice A lettersT.length c ∧ Row w' [] w.heap.size 56 2 encN A c lettersT) := by
  refine enter [] Tryd.func26 rfl ⟨5, rfl, rfl, rfl⟩ ?_
  intro a hR
  refine seqS fun K1 hK1 => ?_
  refine At.start ?_
  refine segP (i := 0) 1 [0] (l' := [(0, .v (.slice none 0 0))]) (H' := []) hR (by kernel_rfl) (by kernel_rfl) ?_
  clear hR
  intro a hR
  refine At.stop (by kernel_rfl) ?_
  refine hK1 _ _ ?_
  refine seqS fun K2 hK2 => ?_
  refine At.start ?_
  refine segP (i := 0) 3 [0, 1, 2, 3] (l' := [(0, .v (.slice none 0 0)), (1, .v (.agg #[.string (⟨#[100]⟩), .string (⟨#[51, 48, 45, 51, 57]⟩)])), (2, .v (.agg #[.string (⟨#[115]⟩), .string (⟨#[57, 32, 65, 32, 67, 32, 68, 32, 50, 48]⟩)])), (3, .v (.agg #[.string (⟨#[119]⟩), .string (⟨#[51, 48, 45, 51, 57, 32, 52, 49, 45, 53, 65, 32, 53, 70, 32, 54, 49, 45, 55, 65]⟩)]))]) (H' := []) hR (by kernel_rfl) (by kernel_rfl) ?_
  clear hR
  intro a hR
  have hltb1 := hR.vars.lt
  have hszb1 := hR.below.size
  refine buildS (i := 3) 56 2 (.agg #[.string (⟨#[]⟩), .string (⟨#[]⟩)]) [.string (⟨#[100]⟩), .string (⟨#[51, 48, 45, 51, 57]⟩), .string (⟨#[115]⟩), .string (⟨#[57, 32, 65, 32, 67, 32, 68, 32, 50, 48]⟩), .string (⟨#[119]⟩), .string (⟨#[51, 48, 45, 51, 57, 32, 52, 49, 45, 53, 65, 32, 53, 70, 32, 54, 49, 45, 55, 65]⟩)] hR rfl (by kernel_rfl) (by kernel_rfl) (by kernel_rfl) (by kernel_rfl) (by kernel_rfl) (by kernel_rfl) (by kernel_rfl) (Nat.le_refl _) ?_
  clear hR
  intro b1 a w2 hb1 hgb1 hkb1 hR
  have hrowb1 := Row.lit (β := []) (lo := w.heap.size) (m := 3) [(⟨#[100]⟩, ⟨#[51, 48, 45, 51, 57]⟩), (⟨#[115]⟩, ⟨#[57, 32, 65, 32, 67, 32, 68, 32, 50, 48]⟩), (⟨#[119]⟩, ⟨#[51, 48, 45, 51, 57, 32, 52, 49, 45, 53, 65, 32, 53, 70, 32, 54, 49, 45, 55, 65]⟩)] hkb1 (by omega) (fun hm => by have := hltb1 _ hm; omega) encN_len rfl (show 3 ≤ maxLen by decide) rfl
  refine segP (i := 4) 1 [0] (l' := [(0, .v (.slice (some ⟨b1, 0, none⟩) 3 3))]) (H' := []) hR (by kernel_rfl) (by kernel_rfl) ?_
  clear hR
  intro a hR
  refine At.stop (by kernel_rfl) ?_
  refine hK2 _ _ ?_
  refine wp_ret ?_
  exact ret1 (.v (.slice (some ⟨b1, 0, none⟩) 3 3)) hR rfl (by kernel_rfl) ⟨_, rfl, hR.below, ⟨_, _, rfl, hrowb1⟩⟩

set_option maxRecDepth 10000 in
theorem Tryd.colons_any (w : World) :
    Calls Tryd.prog 24 #[] w (RetB w fun v w' => ∃ A c, v = .slice A colonsT.length c ∧ Row w' [] w.heap.size 56 2 encN A c colonsT) := by
  refine enter [] Tryd.func24 rfl ⟨16, rfl, rfl, rfl⟩ ?_
  intro a hR
  refine seqS fun K1 hK1 => ?_
  refine At.start ?_
  refine segP (i := 0) 1 [0] (l' := [(0, .v (.slice none 0 0))]) (H' := []) hR (by kernel_rfl) (by kernel_rfl) ?_
  clear hR
  intro a hR
  refine At.stop (by kernel_rfl) ?_
  refine hK1 _ _ ?_
  refine seqS fun K2 hK2 => ?_
  refine At.start ?_
  refine segP (i := 0) 14 [0, 1, 2, 3, 4, 5, 6, 7, 8, 9, 10, 11, 12, 13, 14] (l' := [(0, .v (.slice none 0 0)), (1, .v (.agg #[.string (⟨#[97, 108, 110, 117, 109]⟩), .string (⟨#[51, 48, 45, 51, 57, 32, 52, 49, 45, 53, 65, 32, 54, 49, 45, 55, 65]⟩)])), (2, .v (.agg #[.string (⟨#[97, 108, 112, 104, 97]⟩), .string (⟨#[52, 49, 45, 53, 65, 32, 54, 49, 45, 55, 65]⟩)])), (3, .v (.agg #[.string (⟨#[97, 115, 99, 105, 105]⟩), .string (⟨#[48, 45, 55, 70]⟩)])), (4, .v (.agg #[.string (⟨#[98, 108, 97, 110, 107]⟩), .string (⟨#[57, 32, 50, 48]⟩)])), (5, .v (.agg #[.string (⟨#[99, 110, 116, 114, 108]⟩), .string (⟨#[48, 45, 49, 70, 32, 55, 70]⟩)])), (6, .v (.agg #[.string (⟨#[100, 105, 103, 105, 116]⟩), .string (⟨#[51, 48, 45, 51, 57]⟩)])), (7, .v (.agg #[.string (⟨#[103, 114, 97, 112, 104]⟩), .string (⟨#[50, 49, 45, 55, 69]⟩)])), (8, .v (.agg #[.string (⟨#[108, 111, 119, 101, 114]⟩), .string (⟨#[54, 49, 45, 55, 65]⟩)])), (9, .v (.agg #[.string (⟨#[112, 114, 105, 110, 116]⟩), .string (⟨#[50, 48, 45, 55, 69]⟩)])), (10, .v (.agg #[.string (⟨#[112, 117, 110, 99, 116]⟩), .string (⟨#[50, 49, 45, 50, 70, 32, 51, 65, 45, 52, 48, 32, 53, 66, 45, 54, 48, 32, 55, 66, 45, 55, 69]⟩)])), (11, .v (.agg #[.string (⟨#[115, 112, 97, 99, 101]⟩), .string (⟨#[57, 45, 68, 32, 50, 48]⟩)])), (12, .v (.agg #[.string (⟨#[117, 112, 112, 101, 114]⟩), .string (⟨#[52, 49, 45, 53, 65]⟩)])), (13, .v (.agg #[.string (⟨#[119, 111, 114, 100]⟩), .string (⟨#[51, 48, 45, 51, 57, 32, 52, 49, 45, 53, 65, 32, 53, 70, 32, 54, 49, 45, 55, 65]⟩)])), (14, .v (.agg #[.string (⟨#[120, 100, 105, 103, 105, 116]⟩), .string (⟨#[51, 48, 45, 51, 57, 32, 52, 49, 45, 52, 54, 32, 54, 49, 45, 54, 54]⟩)]))]) (H' := []) hR (by kernel_rfl) (by kernel_rfl) ?_
  clear hR
  intro a hR
  have hltb1 := hR.vars.lt
  have hszb1 := hR.below.size
  refine buildS (i := 14) 56 2 (.agg #[.string (⟨#[]⟩), .string (⟨#[]⟩)]) [.string (⟨#[97, 108, 110, 117, 109]⟩), .string (⟨#[51, 48, 45, 51, 57, 32, 52, 49, 45, 53, 65, 32, 54, 49, 45, 55, 65]⟩), .string (⟨#[97, 108, 112, 104, 97]⟩), .string (⟨#[52, 49, 45, 53, 65, 32, 54, 49, 45, 55, 65]⟩), .string (⟨#[97, 115, 99, 105, 105]⟩), .string (⟨#[48, 45, 55, 70]⟩), .string (⟨#[98, 108, 97, 110, 107]⟩), .string (⟨#[57, 32, 50, 48]⟩), .string (⟨#[99, 110, 116, 114, 108]⟩), .string (⟨#[48, 45, 49, 70, 32, 55, 70]⟩), .string (⟨#[100, 105, 103, 105, 116]⟩), .string (⟨#[51, 48, 45, 51, 57]⟩), .string (⟨#[103, 114, 97, 112, 104]⟩), .string (⟨#[50, 49, 45, 55, 69]⟩), .string (⟨#[108, 111, 119, 101, 114]⟩), .string (⟨#[54, 49, 45, 55, 65]⟩), .string (⟨#[112, 114, 105, 110, 116]⟩), .string (⟨#[50, 48, 45, 55, 69]⟩), .string (⟨#[112, 117, 110, 99, 116]⟩), .string (⟨#[50, 49, 45, 50, 70, 32, 51, 65, 45, 52, 48, 32, 53, 66, 45, 54, 48, 32, 55, 66, 45, 55, 69]⟩), .string (⟨#[115, 112, 97, 99, 101]⟩), .string (⟨#[57, 45, 68, 32, 50, 48]⟩), .string (⟨#[117, 112, 112, 101, 114]⟩), .string (⟨#[52, 49, 45, 53, 65]⟩), .string (⟨#[119, 111, 114, 100]⟩), .string (⟨#[51, 48, 45, 51, 57, 32, 52, 49, 45, 53, 65, 32, 53, 70, 32, 54, 49, 45, 55, 65]⟩), .string (⟨#[120, 100, 105, 103, 105, 116]⟩), .string (⟨#[51, 48, 45, 51, 57, 32, 52, 49, 45, 52, 54, 32, 54, 49, 45, 54, 54]⟩)] hR rfl (by kernel_rfl) (by kernel_rfl) (by kernel_rfl) (by kernel_rfl) (by kernel_rfl) (by kernel_rfl) (by kernel_rfl) (Nat.le_refl _) ?_
  clear hR
  intro b1 a w2 hb1 hgb1 hkb1 hR
  have hrowb1 := Row.lit (β := []) (lo := w.heap.size) (m := 14) [(⟨#[97, 108, 110, 117, 109]⟩, ⟨#[51, 48, 45, 51, 57, 32, 52, 49, 45, 53, 65, 32, 54, 49, 45, 55, 65]⟩), (⟨#[97, 108, 112, 104, 97]⟩, ⟨#[52, 49, 45, 53, 65, 32, 54, 49, 45, 55, 65]⟩), (⟨#[97, 115, 99, 105, 105]⟩, ⟨#[48, 45, 55, 70]⟩), (⟨#[98, 108, 97, 110, 107]⟩, ⟨#[57, 32, 50, 48]⟩), (⟨#[99, 110, 116, 114, 108]⟩, ⟨#[48, 45, 49, 70, 32, 55, 70]⟩), (⟨#[100, 105, 103, 105, 116]⟩, ⟨#[51, 48, 45, 51, 57]⟩), (⟨#[103, 114, 97, 112, 104]⟩, ⟨#[50, 49, 45, 55, 69]⟩), (⟨#[108, 111, 119, 101, 114]⟩, ⟨#[54, 49, 45, 55, 65]⟩), (⟨#[112, 114, 105, 110, 116]⟩, ⟨#[50, 48, 45, 55, 69]⟩), (⟨#[112, 117, 110, 99, 116]⟩, ⟨#[50, 49, 45, 50, 70, 32, 51, 65, 45, 52, 48, 32, 53, 66, 45, 54, 48, 32, 55, 66, 45, 55, 69]⟩), (⟨#[115, 112, 97, 99, 101]⟩, ⟨#[57, 45, 68, 32, 50, 48]⟩), (⟨#[117, 112, 112, 101, 114]⟩, ⟨#[52, 49, 45, 53, 65]⟩), (⟨#[119, 111, 114, 100]⟩, ⟨#[51, 48, 45, 51, 57, 32, 52, 49, 45, 53, 65, 32, 53, 70, 32, 54, 49, 45, 55, 65]⟩), (⟨#[120, 100, 105, 103, 105, 116]⟩, ⟨#[51, 48, 45, 51, 57, 32, 52, 49, 45, 52, 54, 32, 54, 49, 45, 54, 54]⟩)] hkb1 (by omega) (fun hm => by have := hltb1 _ hm; omega) encN_len rfl (show 14 ≤ maxLen by decide) rfl
  refine segP (i := 15) 1 [0] (l' := [(0, .v (.slice (some ⟨b1, 0, none⟩) 14 14))]) (H' := []) hR (by kernel_rfl) (by kernel_rfl) ?_
  clear hR
  intro a hR
  refine At.stop (by kernel_rfl) ?_
  refine hK2 _ _ ?_
  refine wp_ret ?_
  exact ret1 (.v (.slice (some ⟨b1, 0, none⟩) 14 14)) hR rfl (by kernel_rfl) ⟨_, rfl, hR.below, ⟨_, _, rfl, hrowb1⟩⟩

set_option maxRecDepth 10000 in
theorem Tryd.properties_any (w : World) :
    Calls Tryd.prog 27 #[] w (RetB w fun v w' => ∃ A c, v = .slice A propsT.length c ∧ Row w' [] w.heap.size 56 2 encN A c propsT) := by
  refine enter [] Tryd.func27 rfl ⟨10, rfl, rfl, rfl⟩ ?_
  intro a hR
  refine seqS fun K1 hK1 => ?_
  refine At.start ?_
  refine segP (i := 0) 1 [0] (l' := [(0, .v (.slice none 0 0))]) (H' := []) hR (by kernel_rfl) (by kernel_rfl) ?_
  clear hR
  intro a hR
  refine At.stop (by kernel_rfl) ?_
  refine hK1 _ _ ?_
  refine seqS fun K2 hK2 => ?_
  refine At.start ?_
  refine segP (i := 0) 8 [0, 1, 2, 3, 4, 5, 6, 7, 8] (l' := [(0, .v (.slice none 0 0)), (1, .v (.agg #[.string (⟨#[65, 110, 121]⟩), .string (⟨#[48, 45, 49, 48, 70, 70, 70, 70]⟩)])), (2, .v (.agg #[.string (⟨#[67, 121, 114, 105, 108, 108, 105, 99]⟩), .string (⟨#[52, 48, 48, 45, 52, 56, 52, 32, 52, 56, 55, 45, 53, 50, 70]⟩)])), (3, .v (.agg #[.string (⟨#[71, 114, 101, 101, 107]⟩), .string (⟨#[51, 55, 48, 45, 51, 55, 51, 32, 51, 55, 53, 45, 51, 55, 55, 32, 51, 55, 65, 45, 51, 55, 68, 32, 51, 55, 70, 32, 51, 56, 52, 32, 51, 56, 54, 32, 51, 56, 56, 45, 51, 56, 65, 32, 51, 56, 67, 32, 51, 56, 69, 45, 51, 65, 49, 32, 51, 65, 51, 45, 51, 69, 49, 32, 51, 70, 48, 45, 51, 70, 70, 32, 50, 49, 50, 54]⟩)])), (4, .v (.agg #[.string (⟨#[76]⟩), .string (⟨#[52, 49, 45, 53, 65, 32, 67, 48, 45, 68, 54, 32, 68, 56, 45, 68, 69, 32, 49, 55, 56, 32, 51, 57, 49, 45, 51, 65, 49, 32, 51, 65, 51, 45, 51, 65, 66, 32, 52, 48, 48, 45, 52, 50, 70, 32, 54, 49, 45, 55, 65, 32, 66, 53, 32, 68, 70, 45, 70, 54, 32, 70, 56, 45, 70, 70, 32, 51, 65, 67, 45, 51, 67, 69, 32, 52, 51, 48, 45, 52, 53, 70, 32, 49, 55, 70, 32, 52, 49, 45, 53, 65, 32, 54, 49, 45, 55, 65, 32, 65, 65, 32, 66, 65, 32, 67, 48, 45, 68, 54, 32, 68, 56, 45, 70, 54, 32, 70, 56, 45, 50, 52, 70, 32, 51, 55, 48, 45, 51, 55, 51, 32, 51, 55, 53, 45, 51, 55, 55, 32, 51, 55, 65, 45, 51, 55, 68, 32, 51, 55, 70, 32, 51, 56, 52, 32, 51, 56, 54, 32, 51, 56, 56, 45, 51, 56, 65, 32, 51, 56, 67, 32, 51, 56, 69, 45, 51, 65, 49, 32, 51, 65, 51, 45, 51, 69, 49, 32, 51, 70, 48, 45, 51, 70, 70, 32, 50, 49, 50, 54, 32, 52, 48, 48, 45, 52, 56, 52, 32, 52, 56, 55, 45, 53, 50, 70]⟩)])), (5, .v (.agg #[.string (⟨#[76, 97, 116, 105, 110]⟩), .string (⟨#[52, 49, 45, 53, 65, 32, 54, 49, 45, 55, 65, 32, 65, 65, 32, 66, 65, 32, 67, 48, 45, 68, 54, 32, 68, 56, 45, 70, 54, 32, 70, 56, 45, 50, 52, 70]⟩)])), (6, .v (.agg #[.string (⟨#[76, 108]⟩), .string (⟨#[54, 49, 45, 55, 65, 32, 66, 53, 32, 68, 70, 45, 70, 54, 32, 70, 56, 45, 70, 70, 32, 51, 65, 67, 45, 51, 67, 69, 32, 52, 51, 48, 45, 52, 53, 70, 32, 49, 55, 70]⟩)])), (7, .v (.agg #[.string (⟨#[76, 117]⟩), .string (⟨#[52, 49, 45, 53, 65, 32, 67, 48, 45, 68, 54, 32, 68, 56, 45, 68, 69, 32, 49, 55, 56, 32, 51, 57, 49, 45, 51, 65, 49, 32, 51, 65, 51, 45, 51, 65, 66, 32, 52, 48, 48, 45, 52, 50, 70]⟩)])), (8, .v (.agg #[.string (⟨#[78, 100]⟩), .string (⟨#[51, 48, 45, 51, 57, 32, 54, 54, 48, 45, 54, 54, 57, 32, 54, 70, 48, 45, 54, 70, 57, 32, 57, 54, 54, 45, 57, 54, 70]⟩)]))]) (H' := []) hR (by kernel_rfl) (by kernel_rfl) ?_
  clear hR
  intro a hR
  have hltb1 := hR.vars.lt
  have hszb1 := hR.below.size
  refine buildS (i := 8) 56 2 (.agg #[.string (⟨#[]⟩), .string (⟨#[]⟩)]) [.string (⟨#[65, 110, 121]⟩), .string (⟨#[48, 45, 49, 48, 70, 70, 70, 70]⟩), .string (⟨#[67, 121, 114, 105, 108, 108, 105, 99]⟩), .string (⟨#[52, 48, 48, 45, 52, 56, 52, 32, 52, 56, 55, 45, 53, 50, 70]⟩), .string (⟨#[71, 114, 101, 101, 107]⟩), .string (⟨#[51, 55, 48, 45, 51, 55, 51, 32, 51, 55, 53, 45, 51, 55, 55, 32, 51, 55, 65, 45, 51, 55, 68, 32, 51, 55, 70, 32, 51, 56, 52, 32, 51, 56, 54, 32, 51, 56, 56, 45, 51, 56, 65, 32, 51, 56, 67, 32, 51, 56, 69, 45, 51, 65, 49, 32, 51, 65, 51, 45, 51, 69, 49, 32, 51, 70, 48, 45, 51, 70, 70, 32, 50, 49, 50, 54]⟩), .string (⟨#[76]⟩), .string (⟨#[52, 49, 45, 53, 65, 32, 67, 48, 45, 68, 54, 32, 68, 56, 45, 68, 69, 32, 49, 55, 56, 32, 51, 57, 49, 45, 51, 65, 49, 32, 51, 65, 51, 45, 51, 65, 66, 32, 52, 48, 48, 45, 52, 50, 70, 32, 54, 49, 45, 55, 65, 32, 66, 53, 32, 68, 70, 45, 70, 54, 32, 70, 56, 45, 70, 70, 32, 51, 65, 67, 45, 51, 67, 69, 32, 52, 51, 48, 45, 52, 53, 70, 32, 49, 55, 70, 32, 52, 49, 45, 53, 65, 32, 54, 49, 45, 55, 65, 32, 65, 65, 32, 66, 65, 32, 67, 48, 45, 68, 54, 32, 68, 56, 45, 70, 54, 32, 70, 56, 45, 50, 52, 70, 32, 51, 55, 48, 45, 51, 55, 51, 32, 51, 55, 53, 45, 51, 55, 55, 32, 51, 55, 65, 45, 51, 55, 68, 32, 51, 55, 70, 32, 51, 56, 52, 32, 51, 56, 54, 32, 51, 56, 56, 45, 51, 56, 65, 32, 51, 56, 67, 32, 51, 56, 69, 45, 51, 65, 49, 32, 51, 65, 51, 45, 51, 69, 49, 32, 51, 70, 48, 45, 51, 70, 70, 32, 50, 49, 50, 54, 32, 52, 48, 48, 45, 52, 56, 52, 32, 52, 56, 55, 45, 53, 50, 70]⟩), .string (⟨#[76, 97, 116, 105, 110]⟩), .string (⟨#[52, 49, 45, 53, 65, 32, 54, 49, 45, 55, 65, 32, 65, 65, 32, 66, 65, 32, 67, 48, 45, 68, 54, 32, 68, 56, 45, 70, 54, 32, 70, 56, 45, 50, 52, 70]⟩), .string (⟨#[76, 108]⟩), .string (⟨#[54, 49, 45, 55, 65, 32, 66, 53, 32, 68, 70, 45, 70, 54, 32, 70, 56, 45, 70, 70, 32, 51, 65, 67, 45, 51, 67, 69, 32, 52, 51, 48, 45, 52, 53, 70, 32, 49, 55, 70]⟩), .string (⟨#[76, 117]⟩), .string (⟨#[52, 49, 45, 53, 65, 32, 67, 48, 45, 68, 54, 32, 68, 56, 45, 68, 69, 32, 49, 55, 56, 32, 51, 57, 49, 45, 51, 65, 49, 32, 51, 65, 51, 45, 51, 65, 66, 32, 52, 48, 48, 45, 52, 50, 70]⟩), .string (⟨#[78, 100]⟩), .string (⟨#[51, 48, 45, 51, 57, 32, 54, 54, 48, 45, 54, 54, 57, 32, 54, 70, 48, 45, 54, 70, 57, 32, 57, 54, 54, 45, 57, 54, 70]⟩)] hR rfl (by kernel_rfl) (by kernel_rfl) (by kernel_rfl) (by kernel_rfl) (by kernel_rfl) (by kernel_rfl) (by kernel_rfl) (Nat.le_refl _) ?_
  clear hR
  intro b1 a w2 hb1 hgb1 hkb1 hR
  have hrowb1 := Row.lit (β := []) (lo := w.heap.size) (m := 8) [(⟨#[65, 110, 121]⟩, ⟨#[48, 45, 49, 48, 70, 70, 70, 70]⟩), (⟨#[67, 121, 114, 105, 108, 108, 105, 99]⟩, ⟨#[52, 48, 48, 45, 52, 56, 52, 32, 52, 56, 55, 45, 53, 50, 70]⟩), (⟨#[71, 114, 101, 101, 107]⟩, ⟨#[51, 55, 48, 45, 51, 55, 51, 32, 51, 55, 53, 45, 51, 55, 55, 32, 51, 55, 65, 45, 51, 55, 68, 32, 51, 55, 70, 32, 51, 56, 52, 32, 51, 56, 54, 32, 51, 56, 56, 45, 51, 56, 65, 32, 51, 56, 67, 32, 51, 56, 69, 45, 51, 65, 49, 32, 51, 65, 51, 45, 51, 69, 49, 32, 51, 70, 48, 45, 51, 70, 70, 32, 50, 49, 50, 54]⟩), (⟨#[76]⟩, ⟨#[52, 49, 45, 53, 65, 32, 67, 48, 45, 68, 54, 32, 68, 56, 45, 68, 69, 32, 49, 55, 56, 32, 51, 57, 49, 45, 51, 65, 49, 32, 51, 65, 51, 45, 51, 65, 66, 32, 52, 48, 48, 45, 52, 50, 70, 32, 54, 49, 45, 55, 65, 32, 66, 53, 32, 68, 70, 45, 70, 54, 32, 70, 56, 45, 70, 70, 32, 51, 65, 67, 45, 51, 67, 69, 32, 52, 51, 48, 45, 52, 53, 70, 32, 49, 55, 70, 32, 52, 49, 45, 53, 65, 32, 54, 49, 45, 55, 65, 32, 65, 65, 32, 66, 65, 32, 67, 48, 45, 68, 54, 32, 68, 56, 45, 70, 54, 32, 70, 56, 45, 50, 52, 70, 32, 51, 55, 48, 45, 51, 55, 51, 32, 51, 55, 53, 45, 51, 55, 55, 32, 51, 55, 65, 45, 51, 55, 68, 32, 51, 55, 70, 32, 51, 56, 52, 32, 51, 56, 54, 32, 51, 56, 56, 45, 51, 56, 65, 32, 51, 56, 67, 32, 51, 56, 69, 45, 51, 65, 49, 32, 51, 65, 51, 45, 51, 69, 49, 32, 51, 70, 48, 45, 51, 70, 70, 32, 50, 49, 50, 54, 32, 52, 48, 48, 45, 52, 56, 52, 32, 52, 56, 55, 45, 53, 50, 70]⟩), (⟨#[76, 97, 116, 105, 110]⟩, ⟨#[52, 49, 45, 53, 65, 32, 54, 49, 45, 55, 65, 32, 65, 65, 32, 66, 65, 32, 67, 48, 45, 68, 54, 32, 68, 56, 45, 70, 54, 32, 70, 56, 45, 50, 52, 70]⟩), (⟨#[76, 108]⟩, ⟨#[54, 49, 45, 55, 65, 32, 66, 53, 32, 68, 70, 45, 70, 54, 32, 70, 56, 45, 70, 70, 32, 51, 65, 67, 45, 51, 67, 69, 32, 52, 51, 48, 45, 52, 53, 70, 32, 49, 55, 70]⟩), (⟨#[76, 117]⟩, ⟨#[52, 49, 45, 53, 65, 32, 67, 48, 45, 68, 54, 32, 68, 56, 45, 68, 69, 32, 49, 55, 56, 32, 51, 57, 49, 45, 51, 65, 49, 32, 51, 65, 51, 45, 51, 65, 66, 32, 52, 48, 48, 45, 52, 50, 70]⟩), (⟨#[78, 100]⟩, ⟨#[51, 48, 45, 51, 57, 32, 54, 54, 48, 45, 54, 54, 57, 32, 54, 70, 48, 45, 54, 70, 57, 32, 57, 54, 54, 45, 57, 54, 70]⟩)] hkb1 (by omega) (fun hm => by have := hltb1 _ hm; omega) encN_len rfl (show 8 ≤ maxLen by decide) rfl
  refine segP (i := 9) 1 [0] (l' := [(0, .v (.slice (some ⟨b1, 0, none⟩) 8 8))]) (H' := []) hR (by kernel_rfl) (by kernel_rfl) ?_
  clear hR
  intro a hR
  refine At.stop (by kernel_rfl) ?_
  refine hK2 _ _ ?_
  refine wp_ret ?_
  exact ret1 (.v (.slice (some ⟨b1, 0, none⟩) 8 8)) hR rfl (by kernel_rfl) ⟨_, rfl, hR.below, ⟨_, _, rfl, hrowb1⟩⟩

end Go.Proofs

/- Walks of functions. -/
import Derived.Test.YtpjibonpnghodaaDoorT4
import Derived.Test.YtpjibonpnghodaaDoorT7
set_option linter.unusedVariables false
set_option linter.unusedSimpArgs false
namespace Go.Proofs
open Go.RowKit Go.KW Go.Rng
set_option maxRecDepth 10000 in
theorem Tryd.add_any (x : Int) (bl bo lo : Nat) (A : Option Addr) (c : Nat) (l : List (Int × Int)) (A0 : Option Addr) (c0 : Nat) (o : List (Int × Int)) (w : World) (h0 : -1000000000000 ≤ x) (h1 : x ≤ 1000000000000) (hl : Rd w 2 encR A l) (hlA : l ≠ [] → ∀ ad, A = some ad → ad.block < lo) (hn : l.length ≤ 1000000000000) (hno : o.length ≤ 2000000000000) (hlo : lo ≤ w.heap.size) (hrow : Row w [bl, bo] lo 34 2 encR A0 c0 o) (hV : Vars lo [bl, bo] [([.v (.slice A l.length c)], 23), ([.v (.slice A0 o.length c0)], 23)] w) :
    Calls Tryd.prog 13 #[.int .i64 x, .pointer (some (⟨bl, 0, none⟩)), .pointer (some (⟨bo, 0, none⟩))] w fun e w' => e = .returned (.tuple #[]) ∧ ∃ us, w'.heap[bo]? = some (.cells us.toArray 23 (0, 0)) ∧ Chg bo (Value.slice A0 o.length c0).ownBlock w w' ∧ ∃ A1 c1, us = [.slice A1 (o ++ addL l x).length c1] ∧ Row w' [bl, bo] lo 34 2 encR A1 c1 (o ++ addL l x) ∧ From w (Value.slice A0 o.length c0).ownBlock A1 := by
  refine enterV lo [(0, .v (.int .i64 x)), (1, .v (.pointer (some (⟨bl, 0, none⟩)))), (2, .v (.pointer (some (⟨bo, 0, none⟩))))] [(0, .v (.int .i64 x)), (1, .p 0 0), (2, .p 1 0)] hV Tryd.func13 rfl ⟨25, rfl, rfl, rfl⟩ rfl ?_
  intro a hR
  have hkept := Kept.refl [bl, bo] (Value.slice A0 o.length c0).ownBlock w
  have hor : From w (Value.slice A0 o.length c0).ownBlock A0 := From.refl
  refine seqS fun K1 hK1 => ?_
  refine At.start ?_
  refine segP (i := 0) 1 [1, 2, 7] (l' := [(1, .p 0 0), (2, .p 1 0), (7, .v (.int .i64 x))]) (H' := [([.v (.slice A l.length c)], 23), ([.v (.slice A0 o.length c0)], 23)]) hR (by kernel_rfl) (by kernel_rfl) ?_
  clear hR
  intro a hR
  have hlow := Nat.le_trans hlo hR.below.size
  have hflhrow7 := famL_length x
  have hlt3 := hR.vars.lt
  have hsz4 := Nat.le_trans hlo hR.below.size
  refine callB (i := 1) 14 #[.int .i64 x] hR rfl (by kernel_rfl) (by kernel_rfl) (by kernel_rfl) (Nat.le_trans hlo hR.below.size) (Tryd.family_any x _ (h0) (h1)) ?_
  clear hR
  rintro v_ a w1 ⟨A5, c6, rfl, hrow7⟩ hb2 hR
  have hdis8 := Dis.newer hrow hrow7
  replace hrow := hrow.below hb2
  replace hkept := hkept.below hb2
  replace hrow7 := (Row.of_own hrow7.own hlt3).mono hsz4
  refine segP (i := 2) 1 [1, 2, 4] (l' := [(1, .p 0 0), (2, .p 1 0), (4, .v (.slice A5 ((famL x).length) c6))]) (H' := [([.v (.slice A l.length c)], 23), ([.v (.slice A0 o.length c0)], 23)]) hR (by kernel_rfl) (by kernel_rfl) ?_
  clear hR
  intro a hR
  refine At.stop (by kernel_rfl) ?_
  refine hK1 _ _ ?_
  refine seqS fun K2 hK2 => ?_
  refine At.start ?_
  refine segP (i := 0) 2 [2, 4, 9, 10] (l' := [(2, .p 1 0), (4, .v (.slice A5 ((famL x).length) c6)), (9, .v (.slice A5 ((famL x).length) c6)), (10, .v (.func (.func 16) #[] #[.pointer (some ⟨bl, 0, none⟩)]))]) (H' := [([.v (.slice A l.length c)], 23), ([.v (.slice A0 o.length c0)], 23)]) hR (by kernel_rfl) (by kernel_rfl) ?_
  clear hR
  intro a hR
  refine callB (i := 2) 15 #[.slice A5 ((famL x).length) c6, .func (.func 16) #[] #[.pointer (some ⟨bl, 0, none⟩)]] hR rfl (by kernel_rfl) (by kernel_rfl) (by kernel_rfl) (Nat.le_trans hlo hR.below.size) (Tryd.anyFam A5 c6 (famL x) ⟨bl, 0, none⟩ A c l _ (hrow7.rd Go.KW.encI_len) (by have := famL_length x; omega) (Pt.var hR 0 rfl rfl rfl) (hl.belowB hR.below hlA) hn) ?_
  clear hR
  rintro v_ a w9 rfl hb10 hR
  replace hrow := hrow.below hb10
  replace hkept := hkept.below hb10
  replace hrow7 := hrow7.below hb10
  refine At.stop (by kernel_rfl) ?_
  refine hK2 _ _ ?_
  refine condS ((famL x).any (hasF l)) hR (by kernel_rfl) (fun c11 => ?_) (fun c11 => ?_)
  ·
    refine seqS fun K3 hK3 => ?_
    refine At.start ?_
    refine segP (i := 0) 3 [2, 12, 13, 14] (l' := [(2, .p 1 0), (12, .v (.slice A5 ((famL x).length) c6)), (13, .v (.int .i64 ((famL x).length : Int))), (14, .v (.int .i64 0))]) (H' := [([.v (.slice A l.length c)], 23), ([.v (.slice A0 o.length c0)], 23)]) hR (by kernel_rfl) (by kernel_rfl) ?_
    clear hR
    intro a hR
    refine At.stop (by kernel_rfl) ?_
    refine hK3 _ _ ?_
    refine wp_block ?_
    have hfl := famL_length x
    refine loopS (α := Option Addr × Nat × List (Int × Int) × Nat) (fun x_ a wr => match x_ with | (A1, c1, d, j) => Rel [] 25 w (lo) [bl, bo] [(2, .p 1 0), (12, .v (.slice A5 ((famL x).length) c6)), (13, .v (.int .i64 ((famL x).length : Int))), (14, .v (.int .i64 (j : Int)))] [([.v (.slice A l.length c)], 23), ([.v (.slice A1 d.length c1)], 23)] a wr ∧ (j ≤ (famL x).length) ∧ (d.length ≤ o.length + j) ∧ (d = o ++ ((famL x).take j).map fun r => (r, r)) ∧ (Row wr [bl, bo] (lo) 34 2 encR A1 c1 d) ∧ (Row wr [bl, bo] (lo) 3 1 Go.KW.encI A5 c6 (famL x)) ∧ (Dis A5 A1) ∧ (Kept [bl, bo] (Value.slice A0 o.length c0).ownBlock w [bl, bo] wr) ∧ (From w (Value.slice A0 o.length c0).ownBlock A1)) (fun (x_ : Option Addr × Nat × List (Int × Int) × Nat) => match x_ with | (A1, c1, d, j) => (famL x).length - j) (A0, c0, o, 0) ?_ ?_
    · exact ⟨hR, by omega, by omega, by simp, hrow, hrow7, hdis8.symm, hkept, hor⟩
    rintro ⟨A1, c1, d, j⟩ a w12 hI
    clear hR
    obtain ⟨hR, hj, hdl, hd, hrow1, hrow7, hdis, hkept, hor⟩ := hI
    refine seqS fun K4 hK4 => ?_
    refine At.start ?_
    refine segP (i := 0) 1 [2, 12, 13, 14, 15] (l' := [(2, .p 1 0), (12, .v (.slice A5 ((famL x).length) c6)), (13, .v (.int .i64 ((famL x).length : Int))), (14, .v (.int .i64 (j : Int))), (15, .v (.bool (decide ((j : Int) < ((famL x).length : Int)))))]) (H' := [([.v (.slice A l.length c)], 23), ([.v (.slice A1 d.length c1)], 23)]) hR (by kernel_rfl) (by kernel_rfl) ?_
    clear hR
    intro a hR
    refine At.stop (by kernel_rfl) ?_
    refine hK4 _ _ ?_
    refine seqS fun K5 hK5 => ?_
    refine condS (decide ((j : Int) < ((famL x).length : Int))) hR (by kernel_rfl) (fun c13 => ?_) (fun c13 => ?_)
    ·
      have c13 := of_decide_eq_true c13
      refine wp_skip ?_
      refine hK5 _ _ ?_
      refine seqS fun K6 hK6 => ?_
      refine wp_block ?_
      refine seqS fun K7 hK7 => ?_
      refine At.start ?_
      obtain ⟨x15, hxe14⟩ : ∃ x_, ((famL x))[j]? = some x_ := ⟨_, List.getElem?_eq_getElem (by omega)⟩
      obtain ⟨ge14, hGe14, hloe14, hnbe14⟩ := hrow7.addr (by omega)
      subst hGe14
      obtain ⟨ade14, hAe14, hce14⟩ := (hrow7.rd Go.KW.encI_len) _ _ hxe14
      obtain rfl : ade14 = ⟨ge14, 0, none⟩ := (Option.some.inj hAe14).symm
      refine stepV (i := 0) (op := (Op.indexAddr 37 (Operand.tmp 12) (Operand.tmp 14))) (.pointer (some ((⟨ge14, 0, none⟩ : Addr).add (j * 1)))) hR rfl (by kernel_rfl) (by kernel_rfl) (run_indexAddr (e := 3) (k := 1) (ad := ⟨ge14, 0, none⟩) (len := (famL x).length) (cap := c6) (kk := .i64) (i := (j : Int)) (by kernel_rfl) (by kernel_rfl) (by kernel_rfl) (by kernel_rfl) (by omega) (by omega)) ?_
      clear hR
      intro a hR
      refine stepV (i := 1) (op := (Op.load 3 (Operand.tmp 16))) (.int .i64 x15) hR rfl (by kernel_rfl) (by kernel_rfl) (run_load_at (by kernel_rfl) (run_loadVar_one0 (by kernel_rfl) (hce14 0 _ rfl))) ?_
      clear hR
      intro a hR
      refine segP (i := 2) 1 [2, 6, 12, 13, 14] (l' := [(2, .p 1 0), (6, .v (.int .i64 x15)), (12, .v (.slice (some ⟨ge14, 0, none⟩) ((famL x).length) c6)), (13, .v (.int .i64 ((famL x).length : Int))), (14, .v (.int .i64 (j : Int)))]) (H' := [([.v (.slice A l.length c)], 23), ([.v (.slice A1 d.length c1)], 23)]) hR (by kernel_rfl) (by kernel_rfl) ?_
      clear hR
      intro a hR
      refine At.stop (by kernel_rfl) ?_
      refine hK7 _ _ ?_
      refine At.start ?_
      refine segP (i := 0) 4 [2, 12, 13, 14, 18, 21] (l' := [(2, .p 1 0), (12, .v (.slice (some ⟨ge14, 0, none⟩) ((famL x).length) c6)), (13, .v (.int .i64 ((famL x).length : Int))), (14, .v (.int .i64 (j : Int))), (18, .v (.slice A1 d.length c1)), (21, .v (.agg #[.int .i64 x15, .int .i64 x15]))]) (H' := [([.v (.slice A l.length c)], 23), ([.v (.slice A1 d.length c1)], 23)]) hR (by kernel_rfl) (by kernel_rfl) ?_
      clear hR
      intro a hR
      refine buildS (i := 4) 34 2 (.agg #[.int .i64 0, .int .i64 0]) [.int .i64 x15, .int .i64 x15] hR rfl (by kernel_rfl) (by kernel_rfl) (by kernel_rfl) (by kernel_rfl) (by kernel_rfl) (by kernel_rfl) (by kernel_rfl) (Nat.le_trans hlo hR.below.size) ?_
      clear hR
      intro b16 a w17 hb16 hgb16 hkb16 hR
      replace hrow1 := hrow1.below hgb16
      replace hrow7 := hrow7.below hgb16
      replace hkept := hkept.below hgb16
      refine appendS (i := 5) (enc := encR) (xs := d) [(x15, x15)] (.agg #[.int .i64 0, .int .i64 0]) 16 (ad := ⟨b16, 0, none⟩) (cy := 1) hR hrow1 encR_len encR_one rfl (by kernel_rfl) (by kernel_rfl) (by kernel_rfl) (by kernel_rfl) rfl (blk_cells hkb16) (by kernel_rfl) (by kernel_rfl) (by kernel_rfl) (by decide) (by decide) (by (try simp only [List.length_cons, List.length_nil, List.length_append]); omega) (by have := hR.below.size; omega) (Nat.le_refl _) ?_
      clear hR
      intro A18 cp19 a w20 hrow21 hgr22 hat23 hR
      have hor2 := From.app hor hkept.size hat23
      have hdis24 : Dis (some ⟨ge14, 0, none⟩) A18 := Dis.app hdis hrow7 hat23
      replace hrow7 := hrow7.grownD hgr22 hdis
      replace hkept := hkept.grown hgr22 hor.own
      replace hor := hor2
      clear hor2
      refine seg (i := 6) 1 [2, 12, 13, 14] (l' := [(2, .p 1 0), (12, .v (.slice (some ⟨ge14, 0, none⟩) ((famL x).length) c6)), (13, .v (.int .i64 ((famL x).length : Int))), (14, .v (.int .i64 (j : Int)))]) (H' := [([.v (.slice A l.length c)], 23), ([.v (.slice A18 ((d ++ [(x15, x15)]).length) cp19)], 23)]) hR (by kernel_rfl) ?_
      clear hR
      intro a w25 hR hO26
      replace hrow7 := hrow7.ownS hO26
      replace hkept := hkept.own hO26
      replace hrow21 := hrow21.ownS hO26
      refine At.stop (by kernel_rfl) ?_
      refine hK6 _ _ ?_
      refine At.start ?_
      refine segP (i := 0) 2 [2, 12, 13, 14] (l' := [(2, .p 1 0), (12, .v (.slice (some ⟨ge14, 0, none⟩) ((famL x).length) c6)), (13, .v (.int .i64 ((famL x).length : Int))), (14, .v (.int .i64 (IntKind.i64.wrap ((j : Int) + 1))))]) (H' := [([.v (.slice A l.length c)], 23), ([.v (.slice A18 ((d ++ [(x15, x15)]).length) cp19)], 23)]) hR (by kernel_rfl) (by kernel_rfl) ?_
      clear hR
      intro a hR
      rw [show IntKind.i64.wrap ((j : Int) + 1) = ((j : Int) + 1) from wrap_i64 (by omega) (by omega)] at hR
      refine At.stop (by kernel_rfl) ?_
      refine ⟨(A18, cp19, (d ++ [(x15, x15)]), j + 1), ⟨?_, ?_, ?_, ?_, ?_, ?_, ?_, ?_, ?_⟩, ?_⟩
      · exact (hR.trimTo 2 [2, 12, 13, 14] (by kernel_rfl) (by kernel_rfl) (by kernel_rfl))
      · omega
      · (try simp only [List.length_append, List.length_singleton]); omega
      · exact famMap_take hd hxe14
      · exact hrow21
      · exact hrow7
      · exact hdis24
      · exact hkept
      · exact hor
      · show _ < _
        dsimp only
        omega
    ·
      have c13 := of_decide_eq_false c13
      refine wp_exit ?_
      have e := famMap_end hd (by omega) (by assumption : (famL x).any (hasF l) = true)
      have hb1 := hR.vars.blk 1 _ _ rfl
      have hb0 := hR.vars.blk 0 _ _ rfl
      have hch := hkept.chg2 (hb0.trans (hV.blk 0 _ _ rfl).symm)
      show bodyPost Tryd.prog Tryd.f13 (fun e w' => e = .returned (.tuple #[]) ∧ ∃ us, w'.heap[bo]? = some (.cells us.toArray 23 (0, 0)) ∧ Chg bo (Value.slice A0 o.length c0).ownBlock w w' ∧ ∃ A1 c1, us = [.slice A1 (o ++ addL l x).length c1] ∧ Row w' [bl, bo] lo 34 2 encR A1 c1 (o ++ addL l x) ∧ From w (Value.slice A0 o.length c0).ownBlock A1) .normal _ _
      exact end0 hR rfl ⟨rfl, _, hb1, hch, A1, c1, by rw [← e]; rfl, by rw [← e]; exact hrow1, hor⟩
  ·
    refine wp_skip ?_
    have e := addL_no (o := o) (by assumption : (famL x).any (hasF l) = false)
    have hb1 := hR.vars.blk 1 _ _ rfl
    have hb0 := hR.vars.blk 0 _ _ rfl
    have hch := hkept.chg2 (hb0.trans (hV.blk 0 _ _ rfl).symm)
    show bodyPost Tryd.prog Tryd.f13 (fun e w' => e = .returned (.tuple #[]) ∧ ∃ us, w'.heap[bo]? = some (.cells us.toArray 23 (0, 0)) ∧ Chg bo (Value.slice A0 o.length c0).ownBlock w w' ∧ ∃ A1 c1, us = [.slice A1 (o ++ addL l x).length c1] ∧ Row w' [bl, bo] lo 34 2 encR A1 c1 (o ++ addL l x) ∧ From w (Value.slice A0 o.length c0).ownBlock A1) .normal _ _
    exact end0 hR rfl ⟨rfl, _, hb1, hch, A0, c0, by rw [← e]; rfl, by rw [← e]; exact hrow, hor⟩

end Go.Proofs

/- Walks of functions. -/
import Derived.Test.YtpjibonpnghodaaDoorT4
import Derived.Test.YtpjibonpnghodaaDoorT11
set_option linter.unusedVariables false
set_option linter.unusedSimpArgs false
namespace Go.Proofs
open Go.RowKit Go.KW Go.Rng
set_option maxRecDepth 10000 in
theorem Tryd.pieces_any (t : ByteArray) (w : World) :
    Calls Tryd.prog 39 #[.string t] w (RetB w fun v w' => ∃ b, v = .func (.func 45) #[] #[.pointer (some ⟨b, 0, none⟩)] ∧ Pt w' ⟨b, 0, none⟩ [.string t]) := by
  refine enter [(0, .v (.string t))] Tryd.func39 rfl ⟨4, rfl, rfl, rfl⟩ ?_
  intro a hR
  refine seqS fun K1 hK1 => ?_
  refine At.start ?_
  refine boxS (i := 0) (.v (.string t)) hR rfl (by kernel_rfl) (by kernel_rfl) (by kernel_rfl) (Nat.le_refl _) ?_
  clear hR
  intro b1 a w2 hb1 hsb1 hgb1 hR
  refine segP (i := 1) 1 [1, 2] (l' := [(1, .p 0 0), (2, .v (.nilFunc))]) (H' := [([.v (.string t)], 9)]) hR (by kernel_rfl) (by kernel_rfl) ?_
  clear hR
  intro a hR
  refine At.stop (by kernel_rfl) ?_
  refine hK1 _ _ ?_
  refine seqS fun K2 hK2 => ?_
  refine At.start ?_
  refine segP (i := 0) 2 [2] (l' := [(2, .v (.func (.func 45) #[] #[.pointer (some ⟨b1, 0, none⟩)]))]) (H' := [([.v (.string t)], 9)]) hR (by kernel_rfl) (by kernel_rfl) ?_
  clear hR
  intro a hR
  refine At.stop (by kernel_rfl) ?_
  refine hK2 _ _ ?_
  refine wp_ret ?_
  exact ret1 (.v (.func (.func 45) #[] #[.pointer (some ⟨b1, 0, none⟩)])) hR rfl (by kernel_rfl) ⟨_, rfl, hR.below, ⟨_, rfl, Pt.var hR 0 rfl rfl rfl⟩⟩

set_option maxRecDepth 10000 in
theorem Tryd.find_any (A : Option Addr) (c : Nat) (all : List Nm) (nm : ByteArray) (mx : Int) (w : World) (hl : Rd w 2 encN A all) (hn : all.length ≤ 1000000000000) (hM : w.cell? ⟨0, 0, none⟩ = some (.int .i64 mx)) (htx : ∀ x, x ∈ all → textOk x.2.data.toList = true) :
    Calls Tryd.prog 25 #[.slice A all.length c, .string nm] w (RetB w fun v w' => ∃ A c, v = .tuple #[.slice A (listOf (findL all nm)).length c, .int .i64 (codeOf (findL all nm))] ∧ Row w' [] w.heap.size 34 2 encR A c (listOf (findL all nm))) := by
  refine enterM [(0, .v (.slice A all.length c)), (1, .v (.string nm))] Tryd.func25 rfl ⟨27, rfl, rfl, rfl⟩ ?_
  intro a hR
  have h00 : 0 < w.heap.size := cell_lt hM
  refine seqS fun K1 hK1 => ?_
  refine At.start ?_
  refine boxS (i := 0) (.v (.string nm)) hR rfl (by kernel_rfl) (by kernel_rfl) (by kernel_rfl) (Nat.le_refl _) ?_
  clear hR
  intro b1 a w2 hb1 hsb1 hgb1 hR
  refine segP (i := 1) 2 [0, 3, 4, 5] (l' := [(0, .v (.slice A all.length c)), (3, .p 0 0), (4, .v (.slice none 0 0)), (5, .v (.int .i64 0))]) (H' := [([.v (.string nm)], 9)]) hR (by kernel_rfl) (by kernel_rfl) ?_
  clear hR
  intro a hR
  refine At.stop (by kernel_rfl) ?_
  refine hK1 _ _ ?_
  refine seqS fun K2 hK2 => ?_
  refine At.start ?_
  refine segP (i := 0) 2 [0, 4, 5, 9, 10] (l' := [(0, .v (.slice A all.length c)), (4, .v (.slice none 0 0)), (5, .v (.int .i64 0)), (9, .v (.slice A all.length c)), (10, .v (.func (.func 38) #[] #[.pointer (some ⟨b1, 0, none⟩)]))]) (H' := [([.v (.string nm)], 9)]) hR (by kernel_rfl) (by kernel_rfl) ?_
  clear hR
  intro a hR
  obtain ⟨ix, hix⟩ : ∃ ix, ix = idxF (nameP nm) all := ⟨_, rfl⟩
  have hixr := idxF_range (nameP nm) all
  rw [← hix] at hixr
  refine callB (i := 2) 37 #[.slice A all.length c, .func (.func 38) #[] #[.pointer (some ⟨b1, 0, none⟩)]] hR rfl (by kernel_rfl) (by kernel_rfl) (by kernel_rfl) (hR.below.size) (Tryd.idxNamed A c all ⟨b1, 0, none⟩ nm _ (hl.below hR.below) hn (Pt.var hR 0 rfl rfl rfl)) ?_
  clear hR
  rintro v_ a w3 rfl hb4 hR
  rw [← hix] at hR
  refine segP (i := 3) 1 [0, 4, 5, 6] (l' := [(0, .v (.slice A all.length c)), (4, .v (.slice none 0 0)), (5, .v (.int .i64 0)), (6, .v (.int .i64 ix))]) (H' := [([.v (.string nm)], 9)]) hR (by kernel_rfl) (by kernel_rfl) ?_
  clear hR
  intro a hR
  refine At.stop (by kernel_rfl) ?_
  refine hK2 _ _ ?_
  refine seqS fun K3 hK3 => ?_
  refine seqS fun K4 hK4 => ?_
  refine At.start ?_
  refine segP (i := 0) 2 [0, 4, 5, 6, 13] (l' := [(0, .v (.slice A all.length c)), (4, .v (.slice none 0 0)), (5, .v (.int .i64 0)), (6, .v (.int .i64 ix)), (13, .v (.bool (decide (ix < 0))))]) (H' := [([.v (.string nm)], 9)]) hR (by kernel_rfl) (by kernel_rfl) ?_
  clear hR
  intro a hR
  refine At.stop (by kernel_rfl) ?_
  refine hK4 _ _ ?_
  refine condS (decide (ix < 0)) hR (by kernel_rfl) (fun c5 => ?_) (fun c5 => ?_)
  ·
    have c5 := of_decide_eq_true c5
    refine seqS fun K5 hK5 => ?_
    refine At.start ?_
    refine segP (i := 0) 2 [0, 4, 5, 6] (l' := [(0, .v (.slice A all.length c)), (4, .v (.slice none 0 0)), (5, .v (.int .i64 70)), (6, .v (.int .i64 ix))]) (H' := [([.v (.string nm)], 9)]) hR (by kernel_rfl) (by kernel_rfl) ?_
    clear hR
    intro a hR
    refine At.stop (by kernel_rfl) ?_
    refine hK5 _ _ ?_
    refine wp_ret ?_
    have e : findL all nm = none := findL_none (by rw [← hix]; assumption)
    show bodyPostM Fence.wide 3 Tryd.prog Tryd.f25 (RetB w fun v w' => ∃ A c, v = .tuple #[.slice A (listOf (findL all nm)).length c, .int .i64 (codeOf (findL all nm))] ∧ Row w' [] w.heap.size 34 2 encR A c (listOf (findL all nm))) .ret _ _
    exact ret2M (.v (.slice none 0 0)) (.v (.int .i64 70)) hR rfl (by kernel_rfl) (by kernel_rfl) ⟨_, rfl, hR.below, none, 0, by rw [e]; rfl, by rw [e]; exact Row.nil _ _ _ _ _ _⟩
  ·
    have c5 := of_decide_eq_false c5
    refine wp_skip ?_
    refine hK3 _ _ ?_
    refine seqS fun K6 hK6 => ?_
    refine At.start ?_
    refine allocS (i := 0) [.slice none 0 0] hR rfl (by kernel_rfl) (by kernel_rfl) (by kernel_rfl) (hR.below.size) ?_
    clear hR
    intro b6 a w7 hb6 hsb6 hgb6 hR
    refine At.stop (by kernel_rfl) ?_
    refine hK6 _ _ ?_
    refine seqS fun K7 hK7 => ?_
    refine seqS fun K8 hK8 => ?_
    refine At.start ?_
    refine segP (i := 0) 2 [4, 5, 7, 14, 15] (l' := [(4, .v (.slice none 0 0)), (5, .v (.int .i64 0)), (7, .p 1 0), (14, .v (.slice A all.length c)), (15, .v (.int .i64 ix))]) (H' := [([.v (.string nm)], 9), ([.v (.slice none 0 0)], 23)]) hR (by kernel_rfl) (by kernel_rfl) ?_
    clear hR
    intro a hR
    obtain ⟨⟨nm9, tx10⟩, hxe8⟩ : ∃ x_, (all)[(ix).toNat]? = some x_ := ⟨_, List.getElem?_eq_getElem (by omega)⟩
    obtain ⟨ade8, hAe8, hce8⟩ := (hl.below hR.below) _ _ hxe8
    subst hAe8
    refine stepV (i := 2) (op := (Op.indexAddr 52 (Operand.tmp 14) (Operand.tmp 15))) (.pointer (some (ade8.add ((ix).toNat * 2)))) hR rfl (by kernel_rfl) (by kernel_rfl) (run_indexAddr (e := 56) (k := 2) (ad := ade8) (len := all.length) (cap := c) (kk := .i64) (i := ix) (by kernel_rfl) (by kernel_rfl) (by kernel_rfl) (by kernel_rfl) (by omega) (by omega)) ?_
    clear hR
    intro a hR
    refine segP (i := 3) 1 [4, 5, 7, 17] (l' := [(4, .v (.slice none 0 0)), (5, .v (.int .i64 0)), (7, .p 1 0), (17, .v (.pointer (some ((ade8.add ((ix).toNat * 2)).add 1))))]) (H' := [([.v (.string nm)], 9), ([.v (.slice none 0 0)], 23)]) hR (by kernel_rfl) (by kernel_rfl) ?_
    clear hR
    intro a hR
    refine stepV (i := 4) (op := (Op.load 9 (Operand.tmp 17))) (.string tx10) hR rfl (by kernel_rfl) (by kernel_rfl) (run_load_at (by kernel_rfl) (run_loadVar_one (by kernel_rfl) (hce8 1 _ rfl))) ?_
    clear hR
    intro a hR
    refine callB (i := 5) 39 #[.string tx10] hR rfl (by kernel_rfl) (by kernel_rfl) (by kernel_rfl) (hR.below.size) (Tryd.pieces_any tx10 _) ?_
    clear hR
    rintro v_ a w11 ⟨bp, rfl, hPt⟩ hb12 hR
    refine At.stop (by kernel_rfl) ?_
    refine hK8 _ _ ?_
    refine wp_block ?_
    have hlow := hR.below.size
    have hV0 := hR.vars
    have hlt0 := hR.vars.lt
    have hF0 := hR.fr
    have hMc := cell_below hR.below hM h00
    have htxx := htx _ (List.mem_of_getElem? hxe8)
    have hBc := hR.below
    refine (wpIn_wide (n := 3)).1 ?_
    refine wpIn_rangeFunc_ownH (α := Int × Int) rfl (by decide) (gf := 45) (lb := #[.pointer (some ⟨bp, 0, none⟩)]) (hF0.eval (by kernel_rfl : evS _ _ = some (.v (.func (.func 45) #[] #[.pointer (some ⟨bp, 0, none⟩)])))) trivial (enters_of Tryd.func45 (by kernel_rfl) rfl) (encs := fun x => #[.agg #[.int .i64 x.1, .int .i64 x.2]]) (Kp := Upd w.heap.size 23 34) (S := fun xs => xs = piecesL tx10.data.toList) (Sp := fun _ => True) (N := 1000000000000) (w0 := w11) ?seq Upd.trans (Upd.putObj hlow) (Below.refl _ _) (fun _ => rfl)
      (fun pre W => ∃ A c, Vars w.heap.size [b1, b6] [([.v (.string nm)], 9), ([.v (.slice A pre.length c)], 23)] W ∧ Row W [b1, b6] w.heap.size 34 2 encR A c pre ∧ Below w.heap.size w W) (fun _ _ _ => False) ?hI (fun _ _ _ _ _ h _ _ => h) ?h0
      (fun x a' W => ∃ b8 A c nl, W.heap[b6]? = some (.cells (#[.slice A nl c] : Array Value) 23 (0, 0)) ∧ (∀ ad, A = some ad → ad.block ≠ b8) ∧ b8 ∉ [b1, b6] ∧ w.heap.size ≤ b8 ∧ W.heap[b8]? = some (.cells (#[.int .i64 x.1, .int .i64 x.2] : Array Value) 34 (0, 0)) ∧ Fr [] 27 [b1, b6, b8] [(7, .p 1 0), (8, .p 2 0)] a') ?hAx ?assign ?body ?done ?stop
    case seq =>
      intro l J Jx W hW hJ hJx hY h0
      exact callsIn_wide.2 (Tryd.pieces1 w.heap.size l _ ⟨bp, 0, none⟩ tx10 mx J Jx W hJ (hPt.below hW) (cell_below hW hMc (cell_lt hMc)) h00 (Nat.le_trans hlow hW.size) htxx hY h0 (Vars.nil 0 W))
    case hI =>
      rintro pre W W' row ⟨A1, c1, h1, h2, h3⟩ hg hr
      exact ⟨A1, c1, h1.turn hg (fun r e => (hr r e).2), h2.turn hg (fun r e => (hr r e).2), h3.grown hg h3.size (fun k e => Nat.le_trans hlow (hr k e).1)⟩
    case h0 => exact ⟨none, 0, hV0, Row.nil _ _ _ _ _ _, hBc⟩
    case hAx =>
      rintro x a' _ W W' row ⟨b8, A1, c1, nl, h1, h2, h3, h4, h5, h6⟩ hg hr
      exact ⟨b8, A1, c1, nl, cells_turn h1 hg (fun r e => (hr r e).2), h2, h3, h4, cells_turn h5 hg (fun r e => (hr r e).2), h6⟩
    case assign =>
      rintro lr pre x W K ⟨A1, c1, hV1, hrow, hB1⟩ hK
      have hltW := hV1.lt
      have hBlW := hB1.size
      refine region_round (by kernel_rfl) (by rintro ⟨_, _, h⟩; exact h) ?_
      have hz : ((#[20] : Array Tmp).zip #[(.agg #[.int .i64 x.1, .int .i64 x.2] : Value)]).foldl (fun t (p, v) => t.setIfInBounds p v) a.tmps = a.tmps.setIfInBounds 20 (.agg #[.int .i64 x.1, .int .i64 x.2]) := by simp
      change At _ _ _ 0 { tmps := ((#[20] : Array Tmp).zip #[(.agg #[.int .i64 x.1, .int .i64 x.2] : Value)]).foldl (fun t (p, v) => t.setIfInBounds p v) a.tmps, defers := [] } W
      rw [hz]
      obtain ⟨a0, ha0⟩ : ∃ a0 : Act, a0 = { tmps := a.tmps.setIfInBounds 20 (.agg #[.int .i64 x.1, .int .i64 x.2]), defers := [] } := ⟨_, rfl⟩
      rw [← ha0]
      have hFa : Fr [] 27 [b1, b6] [(20, .v (.agg #[.int .i64 x.1, .int .i64 x.2])), (7, .p 1 0)] a0 := by
        have h1 : Fr [] 27 [b1, b6] [(7, .p 1 0)] a := hF0.pick (ks := [7]) (by kernel_rfl)
        have h2 := h1.put (some 20) (.v (.agg #[.int .i64 x.1, .int .i64 x.2])) (fun k e => by injection e with e; subst e; decide)
        rw [ha0]
        exact ⟨rfl, h2.size, h2.get⟩
      have hR : Rel [] 27 w w.heap.size [b1, b6] [(20, .v (.agg #[.int .i64 x.1, .int .i64 x.2])), (7, .p 1 0)] [([.v (.string nm)], 9), ([.v (.slice A1 pre.length c1)], 23)] a0 W := ⟨hFa, hV1, hB1⟩
      have hrowW := hrow
      refine allocS (i := 0) [.int .i64 0, .int .i64 0] hR rfl (by kernel_rfl) (by kernel_rfl) (by kernel_rfl) (hR.below.size) ?_
      clear hR
      intro b13 a w14 hb13 hsb13 hgb13 hR
      replace hrow := hrow.new hb13 hgb13
      have hgb_ := hgb13
      refine seg (i := 1) 1 [7, 8] (l' := [(7, .p 1 0), (8, .p 2 0)]) (H' := [([.v (.string nm)], 9), ([.v (.slice A1 pre.length c1)], 23), ([.v (.int .i64 x.1), .v (.int .i64 x.2)], 34)]) hR (by kernel_rfl) ?_
      clear hR
      intro a w15 hR hO16
      replace hrow := hrow.ownS hO16
      have hOs_ := hO16
      refine At.stop (by kernel_rfl) ?_
      have hrow0 := hrow.trim 2 (γ := [b1, b6]) rfl
      have hbel : Below W.heap.size W w15 := own_below hV1 hR.vars rfl hgb_ hOs_ (by intro b hb; simp at hb; omega)
      refine hK _ _ (others_ofBelow hbel _) (Upd.ofBelow hbel hBlW) ⟨A1, c1, ?_, hrow0, hB1.trans (hbel.mono hBlW)⟩ ⟨b13, A1, c1, pre.length, hR.vars.blk 1 _ _ rfl, ?_, ?_, ?_, hR.vars.blk 2 _ _ rfl, hR.fr.pick (ks := [7, 8]) (by kernel_rfl)⟩
      · exact (show Rel [] 27 w w.heap.size [b1, b6] [] [([.v (.string nm)], 9), ([.v (.slice A1 pre.length c1)], 23)] a w15 from hR.trimTo 2 [] (by kernel_rfl) (by kernel_rfl) (by kernel_rfl)).vars
      · intro ad hA e
        have := (hrowW.own.lt ad.block (hrowW.blk ad hA)).2
        omega
      · intro hm
        have := hltW _ hm
        omega
      · omega
    case body =>
      rintro lr pre x a W hlr hrec ⟨A1, c1, hV1, hrow, hB1⟩ ⟨b8, A2, c2, nl, h1, h2, h3, h4, h5, h6⟩ hlen
      obtain ⟨rfl, rfl, rfl⟩ : A2 = A1 ∧ nl = pre.length ∧ c2 = c1 := cell_slice h1 (hV1.blk 1 _ _ rfl)
      refine wpIn_block ?_
      refine region_round (by kernel_rfl) (by rintro ⟨_, _, h⟩; exact h) ?_
      have hV3 : Vars w.heap.size [b1, b6, b8] [([.v (.string nm)], 9), ([.v (.slice A2 pre.length c2)], 23), ([.v (.int .i64 x.1), .v (.int .i64 x.2)], 34)] W := hV1.snoc h3 h4 rfl h5
      have hR : Rel [] 27 w w.heap.size [b1, b6, b8] [(7, .p 1 0), (8, .p 2 0)] [([.v (.string nm)], 9), ([.v (.slice A2 pre.length c2)], 23), ([.v (.int .i64 x.1), .v (.int .i64 x.2)], 34)] a W := ⟨h6, hV3, hB1⟩
      replace hrow : Row W [b1, b6, b8] w.heap.size 34 2 encR A2 c2 pre := hrow.snocBlk h2
      have hkept := Kept.refl [b1, b6, b8] (Value.slice A2 pre.length c2).ownBlock W
      have hor : From W (Value.slice A2 pre.length c2).ownBlock A2 := From.refl
      have hty := hrow.ofType
      have hrowW := hrow
      refine segP (i := 0) 2 [7, 21, 22] (l' := [(7, .p 1 0), (21, .v (.slice A2 pre.length c2)), (22, .v (.agg #[.int .i64 x.1, .int .i64 x.2]))]) (H' := [([.v (.string nm)], 9), ([.v (.slice A2 pre.length c2)], 23), ([.v (.int .i64 x.1), .v (.int .i64 x.2)], 34)]) hR (by kernel_rfl) (by kernel_rfl) ?_
      clear hR
      intro a hR
      refine buildS (i := 2) 34 2 (.agg #[.int .i64 0, .int .i64 0]) [.int .i64 x.1, .int .i64 x.2] hR rfl (by kernel_rfl) (by kernel_rfl) (by kernel_rfl) (by kernel_rfl) (by kernel_rfl) (by kernel_rfl) (by kernel_rfl) (hR.below.size) ?_
      clear hR
      intro b17 a w18 hb17 hgb17 hkb17 hR
      replace hrow := hrow.below hgb17
      replace hkept := hkept.below hgb17
      refine appendS (i := 3) (enc := encR) (xs := pre) [(x.1, x.2)] (.agg #[.int .i64 0, .int .i64 0]) 16 (ad := ⟨b17, 0, none⟩) (cy := 1) hR hrow encR_len encR_one rfl (by kernel_rfl) (by kernel_rfl) (by kernel_rfl) (by kernel_rfl) rfl (blk_cells hkb17) (by kernel_rfl) (by kernel_rfl) (by kernel_rfl) (by decide) (by decide) (by (try simp only [List.length_cons, List.length_nil, List.length_append]); omega) (hR.below.size) (Nat.le_refl _) ?_
      clear hR
      intro A19 cp20 a w21 hrow22 hgr23 hat24 hR
      have hor2 := From.app hor hkept.size hat24
      replace hkept := hkept.grown hgr23 hor.own
      replace hor := hor2
      clear hor2
      refine seg (i := 4) 1 [7] (l' := [(7, .p 1 0)]) (H' := [([.v (.string nm)], 9), ([.v (.slice A19 ((pre ++ [(x.1, x.2)]).length) cp20)], 23), ([.v (.int .i64 x.1), .v (.int .i64 x.2)], 34)]) hR (by kernel_rfl) ?_
      clear hR
      intro a w25 hR hO26
      replace hkept := hkept.own hO26
      replace hrow22 := hrow22.ownS hO26
      refine At.stop (by kernel_rfl) ?_
      have hbl : Below w.heap.size W w25 := ⟨hkept.os, hkept.tape, hkept.output, hkept.size, fun i hi => hkept.block i (Nat.lt_of_lt_of_le hi hB1.size) (fun hm => by have := hV3.ge i hm; omega) (fun e => by have := (hrowW.own.lt i e).1; omega)⟩
      have hu := Upd.ofKept (T1 := 23) (T2 := 34) hkept hbl (by
        intro b hb
        simp only [List.mem_cons, List.not_mem_nil, or_false] at hb
        rcases hb with rfl | rfl | rfl
        · left; exact (hR.vars.blk 0 _ _ rfl).trans (hV3.blk 0 _ _ rfl).symm
        · right; exact ⟨_, hV3.blk 1 _ _ rfl⟩
        · left; exact (hR.vars.blk 2 _ _ rfl).trans (hV3.blk 2 _ _ rfl).symm) hty
      refine ⟨hu.2.from _, hu.1, A19, cp20, ?_, hrow22.trim 2 rfl, hR.below⟩
      exact (show Rel [] 27 w w.heap.size [b1, b6] [] [([.v (.string nm)], 9), ([.v (.slice A19 (pre ++ [(x.1, x.2)]).length cp20)], 23)] a w25 from hR.trimTo 2 [] (by kernel_rfl) (by kernel_rfl) (by kernel_rfl)).vars
    case stop =>
      rintro D cc pre W _ _ h _
      exact h.elim
    case done =>
      rintro D xs W hD hS ⟨A1, c1, hV1, hrow, hB1⟩ hK
      have hxl : xs.length ≤ 1000000 + 2 := by
        rw [hS, piecesL_length]
        have h1 := words_length_le tx10
        have h2 := htxx
        simp only [textOk, Bool.and_eq_true, decide_eq_true_eq] at h2
        have h3 := Lib.size_eq tx10
        omega
      have hR : Rel [{ target := .collected D, args := #[] }] 27 w w.heap.size [b1, b6] [(7, .p 1 0)] [([.v (.string nm)], 9), ([.v (.slice A1 xs.length c1)], 23)] { a with defers := { target := .collected D, args := #[] } :: a.defers } W := ⟨⟨by rw [show a.defers = [] from hF0.defers], hF0.size, (hF0.pick (ks := [7]) (m := [(7, .p 1 0)]) (by kernel_rfl)).get⟩, hV1, hB1⟩
      refine hK7 _ _ ?_
      refine seqS fun K9 hK9 => ?_
      refine At.start ?_
      refine segP (i := 0) 1 [25] (l' := [(25, .v (.slice A1 xs.length c1))]) (H' := [([.v (.string nm)], 9), ([.v (.slice A1 xs.length c1)], 23)]) hR (by kernel_rfl) (by kernel_rfl) ?_
      clear hR
      intro a hR
      have hlt29 := hR.vars.lt
      have hsz30 := hR.below.size
      refine callB (i := 1) 19 #[.slice A1 xs.length c1] hR rfl (by kernel_rfl) (by kernel_rfl) (by kernel_rfl) (hR.below.size) (Tryd.norm_any A1 c1 xs _ (hrow.rd encR_len) (by omega)) ?_
      clear hR
      rintro v_ a w27 ⟨A31, c32, rfl, hrow33⟩ hb28 hR
      have hdis34 := Dis.newer hrow hrow33
      replace hrow := hrow.below hb28
      replace hK := (hb28.block _ (Array.getElem?_eq_some_iff.1 hK).1).trans hK
      replace hrow33 := (Row.of_own hrow33.own hlt29).mono hsz30
      refine segP (i := 2) 2 [4, 5] (l' := [(4, .v (.slice A31 ((normL xs).length) c32)), (5, .v (.int .i64 0))]) (H' := [([.v (.string nm)], 9), ([.v (.slice A1 xs.length c1)], 23)]) hR (by kernel_rfl) (by kernel_rfl) ?_
      clear hR
      intro a hR
      refine At.stop (by kernel_rfl) ?_
      refine hK9 _ _ ?_
      refine wp_ret ?_
      have e : findL all nm = some (normL xs) := by rw [hS]; exact findL_some (by rw [← hix]; assumption) (by rw [← hix]; exact hxe8)
      have hDK := hK
      show bodyPostM Fence.wide 3 Tryd.prog Tryd.f25 (RetB w fun v w' => ∃ A c, v = .tuple #[.slice A (listOf (findL all nm)).length c, .int .i64 (codeOf (findL all nm))] ∧ Row w' [] w.heap.size 34 2 encR A c (listOf (findL all nm))) .ret _ _
      refine ret2D (.v (.slice A31 ((normL xs).length) c32)) (.v (.int .i64 0)) hR hDK (Nat.le_trans hlow hD) hR.below.size rfl (by kernel_rfl) (by kernel_rfl) fun w' hg hB => ⟨_, rfl, hB, _, _, by rw [e]; rfl, by rw [e]; exact (hrow33.turn hg (fun r e => by injection e with e; subst e; exact ⟨_, hDK, rfl⟩)).trim 0 rfl⟩

end Go.Proofs

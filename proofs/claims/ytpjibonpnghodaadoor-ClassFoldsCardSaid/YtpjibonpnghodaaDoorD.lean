/- Regions that draw their order: operations that leave the world alone, in the text's order; a tail that writes. -/
import Derived.Test.YtpjibonpnghodaaDoorR
import Derived.Still
import Derived.StillTail
import Derived.Orders
set_option linter.unusedVariables false
set_option linter.unusedSimpArgs false
namespace Go.KW
open Go.RowKit
variable {Ds : List Deferred}

section
variable {P : Program} {n B : Nat} {w0 : World} {β : List Nat} {ops : Array Oper} {l : En} {H : VH} {a : Act} {w : World}

/-- The first m operations of a region that draws, from number i on, in a world that none of them changes. -/
def St (P : Program) (ops : Array Oper) (w : World) (Q : Act → Prop) (m i : Nat) (a : Act) : Prop := wpStill P ops w Q ((ops.toList.take m).drop i) a

theorem Rel.drawn (hR : Rel Ds n w0 B β l H a w) (k : Nat) : Rel Ds n w0 B β l H a { w with drawn := k } :=
  ⟨hR.fr, ⟨hR.vars.len, hR.vars.nodup, hR.vars.ge, hR.vars.blk⟩, ⟨hR.below.os, hR.below.tape, hR.below.output, hR.below.size, hR.below.block⟩⟩

theorem St.startQ {id : Nat} {Q : Exit → Act → World → Prop} (hR : Rel Ds n w0 B β l H a w) (hm : P.follows .mixedOrders = true) (hB : Region.lexB .any ops = true)
    (h : ∀ w1, w1.heap = w.heap → Own β w w1 → Rel Ds n w0 B β l H a w1 → St P ops w1 (fun a' => Q .normal a' w1) ops.size 0 a) : (Code.region id ops true).wp P Q a w := by
  refine wp_region_still hm hB ?_
  have := h { w with drawn := w.drawn + 1 } rfl ⟨rfl, rfl, rfl, rfl, fun _ _ => rfl⟩ (hR.drawn _)
  unfold St at this
  rw [List.take_of_length_le (by simp), List.drop_zero] at this
  exact this

theorem St.startT {id : Nat} {Q : Exit → Act → World → Prop} (m : Nat) (hR : Rel Ds n w0 B β l H a w) (hm : P.follows .mixedOrders = true) (hB : Region.lexTailB .any ops m = true)
    (h : ∀ w1, w1.heap = w.heap → Own β w w1 → Rel Ds n w0 B β l H a w1 → St P ops w1 (fun a' => At P ops Q m a' w1) m 0 a) : (Code.region id ops true).wp P Q a w := by
  have := h { w with drawn := w.drawn + 1 } rfl ⟨rfl, rfl, rfl, rfl, fun _ _ => rfl⟩ (hR.drawn _)
  have hx := wp_region_still_tail (P := P) (id := id) (Q := Q) (a := a) (w := w) (l := ops.toList) m hm (by simpa using hB) (by simpa [St, At] using this)
  simpa using hx

theorem St.stop {Q : Act → Prop} {m i : Nat} (hi : ((ops.toList.take m).drop i).isEmpty = true) (h : Q a) : St P ops w Q m i a := by
  unfold St
  rw [List.isEmpty_iff.1 hi]
  exact h

theorem runSt {Q : Act → Prop} : ∀ (L rest : List Oper) (l l' : En) (H H' : VH) (a : Act),
    Rel Ds n w0 B β l H a w → L.all noStore = true → runS P n β ops L l H = some (l', H') → (∀ a', Rel Ds n w0 B β l' H a' w → wpStill P ops w Q rest a') → wpStill P ops w Q (L ++ rest) a
  | [], rest, l, l', H, H', a, hR, hn, h, hQ => by
    simp only [runS, Option.some.injEq, Prod.mk.injEq] at h
    obtain ⟨rfl, rfl⟩ := h
    exact hQ a hR
  | o :: L, rest, l, l', H, H', a, hR, hn, h, hQ => by
    simp only [List.all_cons, Bool.and_eq_true] at hn
    obtain ⟨hn1, hn2⟩ := hn
    simp only [runS] at h
    cases hd : dstOk n o.dst with
    | false => rw [hd] at h; cases h
    | true =>
      rw [hd] at h
      simp only [cond_true] at h
      have hd' : ∀ k, o.dst = some k → k < n := by
        intro k hk
        rw [hk] at hd
        exact Nat.le_of_ble_eq_true hd
      cases hwn : wantS ops o l with
      | none => simp [hwn] at h
      | some b =>
        have hb := hR.wanted (g := o.guard) (b := b) (o := o) (by simpa [wantG, wantS] using hwn) rfl
        simp only [hwn] at h
        show wpStill P ops w Q (o :: (L ++ rest)) a
        unfold wpStill
        cases b with
        | false =>
          rw [if_neg (by rw [hb]; decide)]
          simp only at h
          have hR' : Rel Ds n w0 B β (puts l o.dst (.v undef)) H (a.put o.dst undef) w := ⟨hR.fr.put o.dst (.v undef) hd', hR.vars, hR.below⟩
          exact runSt L rest _ l' H H' _ hR' hn2 h hQ
        | true =>
          rw [if_pos hb]
          cases hs : stepS P β o l H with
          | none => simp [hs] at h
          | some sH =>
            obtain ⟨s, H2⟩ := sH
            simp only [hs] at h
            obtain rfl := stepS_noStore hn1 hs
            have h1 := stepS_noStore_run hR.fr hR.vars hn1 hs
            have hR' : Rel Ds n w0 B β (puts l o.dst s) H2 (a.put o.dst (s.den β)) w := ⟨hR.fr.put o.dst s hd', hR.vars, hR.below⟩
            unfold Oper.still
            rw [h1]
            exact ⟨rfl, runSt L rest _ l' H2 H' _ hR' hn2 h hQ⟩

theorem drop_splitS (L : List Oper) (i k : Nat) : L.drop i = (L.drop i).take k ++ L.drop (i + k) := by
  rw [← List.drop_drop, List.take_append_drop]

/-- k operations that write nothing. -/
theorem segSt {Q : Act → Prop} {m i : Nat} (k : Nat) (ks : List Nat) {l' : En} {H' : VH} (hR : Rel Ds n w0 B β l H a w) (hn : (((ops.toList.take m).drop i).take k).all noStore = true)
    (hr : outcome ks (runS P n β ops (((ops.toList.take m).drop i).take k) l H) = some (l', H'))
    (h : ∀ a', Rel Ds n w0 B β l' H a' w → St P ops w Q m (i + k) a') : St P ops w Q m i a := by
  unfold St
  rw [drop_splitS _ i k]
  unfold outcome at hr
  cases hx : runS P n β ops (((ops.toList.take m).drop i).take k) l H with
  | none => simp [hx] at hr
  | some r =>
    obtain ⟨lr, Hr⟩ := r
    simp only [hx] at hr
    cases hp : pick ks lr with
    | none => simp [hp] at hr
    | some q =>
      simp only [hp, Option.some.injEq, Prod.mk.injEq] at hr
      obtain ⟨rfl, rfl⟩ := hr
      exact runSt _ _ l lr H Hr a hR hn hx fun a' h1 => h a' ⟨h1.fr.pick hp, h1.vars, h1.below⟩

/-- An operation whose run is known. -/
theorem stepSt {Q : Act → Prop} {m i : Nat} {d : Option Tmp} {op : Op} {ty : TypeId} {g : Option (Nat × Bool)} (v : Value) (hR : Rel Ds n w0 B β l H a w) (him : Nat.blt i m = true) (ho : opAt ops i = some (d, op, ty, g)) (hg : wantG ops g l = some true)
    (hk : (dstOk n d && (simpleOp op && op.operands.toList.all (known l))) = true) (hr : (X β l op ty).run P w = .ok (.value v) w)
    (h : ∀ a', Rel Ds n w0 B β (puts l d (.v v)) H a' w → St P ops w Q m (i + 1) a') : St P ops w Q m i a := by
  obtain ⟨hd, hk⟩ := (Bool.and_eq_true _ _).mp hk
  obtain ⟨o, h1, h2, h3, h4, h5⟩ := At.cons ho
  have him' : i < m := Nat.le_of_ble_eq_true him
  have hd' : ∀ k, d = some k → k < n := by
    intro k e
    rw [e] at hd
    exact Nat.le_of_ble_eq_true hd
  have e : (ops.toList.take m).drop i = o :: (ops.toList.take m).drop (i + 1) := by
    rw [List.drop_take, h5, List.drop_take, show m - i = (m - (i + 1)) + 1 by omega, List.take_succ_cons]
  unfold St
  rw [e]
  unfold wpStill
  rw [if_pos (hR.wanted hg h4)]
  unfold Oper.still
  rw [hR.exec h2 h3 hk, hr]
  refine ⟨rfl, ?_⟩
  rw [h1]
  exact h _ ⟨hR.fr.put d (.v v) hd', hR.vars, hR.below⟩
end

/-! ### A store into an element of a row of the call's own -/
section
variable {α : Type} {P : Program} {n B : Nat} {w0 : World} {β : List Nat} {ops : Array Oper} {Q : Exit → Act → World → Prop} {l : En} {H : VH} {a : Act} {w : World}

theorem Row.heap {w w' : World} {lo : Nat} {e : TypeId} {k : Nat} {enc : α → List Value} {A : Option Addr} {c : Nat} {xs : List α} (h : Row w β lo e k enc A c xs) (he : w'.heap = w.heap) : Row w' β lo e k enc A c xs := by
  refine ⟨?_, h.sep⟩
  have := h.own
  unfold World.ownsRow at this ⊢
  rw [he]
  exact this

theorem flat_set {enc : α → List Value} {k : Nat} (hk : ∀ x, (enc x).length = k) (y : α) : ∀ (xs : List α) (i : Nat), i < xs.length → flat enc (xs.set i y) = (flat enc xs).take (i * k) ++ enc y ++ (flat enc xs).drop (i * k + k)
  | [], i, h => by simp at h
  | x :: r, 0, h => by
    have e : (enc x).length = k := hk x
    simp only [flat, List.set_cons_zero, List.flatMap_cons, Nat.zero_mul, List.take_zero, List.nil_append, Nat.zero_add]
    rw [← e, List.drop_left]
  | x :: r, i + 1, h => by
    have ih := flat_set hk y r i (by simpa using h)
    have e : (enc x).length = k := hk x
    simp only [flat, List.set_cons_succ, List.flatMap_cons] at ih ⊢
    rw [ih]
    have e1 : (i + 1) * k = (enc x).length + i * k := by rw [Nat.add_mul, e]; omega
    have e2 : (i + 1) * k + k = (enc x).length + (i * k + k) := by rw [e1]; omega
    rw [e2, e1, List.take_length_add_append, List.drop_length_add_append]
    simp

/-- The address of an element of a row. -/
theorem Row.addr {lo : Nat} {e : TypeId} {k : Nat} {enc : α → List Value} {A : Option Addr} {c : Nat} {xs : List α} (h : Row w β lo e k enc A c xs) (hn : 0 < xs.length) : ∃ g, A = some ⟨g, 0, none⟩ ∧ lo ≤ g ∧ g ∉ β := by
  obtain ⟨g, cap, hv, hg, _⟩ := h.own.form hn
  have hA : A = some ⟨g, 0, none⟩ := by injection hv
  exact ⟨g, hA, by have := h.own.lt g (by rw [hA]; rfl); exact this.1, h.sep g (by rw [hA]; rfl)⟩

/-- A store of the cells us at offset j of element i: the element becomes y. -/
theorem Row.store {lo : Nat} {e : TypeId} {k : Nat} {enc : α → List Value} {g c : Nat} {xs : List α} (h : Row w β lo e k enc (some ⟨g, 0, none⟩) c xs) (hk : ∀ x, (enc x).length = k) {i j : Nat} (hi : i < xs.length) {T : TypeId} {v : Value} (y : α)
    (hs : sizeOfT P T = some v.cells.size) (h1 : ∀ u ∈ v.cells.toList, u.oneCell' = true) (hj : j + v.cells.size ≤ k) (hy : ∀ x, xs[i]? = some x → enc y = (enc x).take j ++ v.cells.toList ++ (enc x).drop (j + v.cells.size)) :
    ∃ w', (storeVar T ⟨g, i * k + j, none⟩ v).run P w = .ok () w' ∧ Row w' β lo e k enc (some ⟨g, 0, none⟩) c (xs.set i y) ∧ w.grownBy w' (some g) ∧ w'.heap.size = w.heap.size := by
  obtain ⟨hl, hown⟩ := h.own
  rcases hown with ⟨hv, h0⟩ | ⟨g', cap, cur, hv, hlo, hh, hnc, hcm, hcs, htk⟩
  · omega
  · injection hv with hA _ hcap
    injection hA with hA
    injection hA with hg
    subst hg hcap
    have hik : i * k + k ≤ xs.length * k := by
      have : (i + 1) * k ≤ xs.length * k := Nat.mul_le_mul_right k hi
      rw [Nat.add_mul] at this; omega
    have hcs2 : xs.length * k ≤ cur.size := by rw [hcs]; exact Nat.mul_le_mul_right k hnc
    have hst := run_storeN (P := P) g (i * k + j) e v.cells.toList 0 cur w hh (by simp; omega) h1
    obtain ⟨arr, harr⟩ : ∃ arr, arr = (cur.toList.take (i * k + j + 0) ++ v.cells.toList ++ cur.toList.drop (i * k + j + 0 + v.cells.toList.length)).toArray := ⟨_, rfl⟩
    rw [← harr] at hst
    refine ⟨w.setRow g arr, ?_, ⟨?_, h.sep⟩, ?_, by simp⟩
    · simp only [storeVar, Sem.run_bind, sizeOfT_run hs w, Result.andThen_ok, ne_eq, not_true_eq_false, if_false, Sem.run_pure]
      exact hst
    · refine ⟨by rw [flat_length hk, List.length_set], .inr ⟨g, c, arr, by rw [List.length_set], hlo, setRow_heap w _ _ _ _ _ hh, by rw [List.length_set]; exact hnc, hcm, ?_, ?_⟩⟩
      · rw [harr]; simp; omega
      · rw [harr]
        obtain ⟨x, hx⟩ : ∃ x, xs[i]? = some x := ⟨_, List.getElem?_eq_getElem hi⟩
        have hyx := hy x hx
        rw [List.length_set, flat_set hk y xs i hi, hyx, ← htk]
        apply List.ext_getElem?
        intro q
        have hxe : ∀ t, t < k → (enc x)[t]? = cur.toList[i * k + t]? := by
          intro t ht
          have hft := flat_get hk xs i x hx t ((enc x)[t]'(by rw [hk]; exact ht)) (by simp [hk, ht])
          rw [← htk, List.getElem?_take, if_pos (by omega)] at hft
          rw [hft]; simp [hk, ht]
        have hlen : (enc x).length = k := hk x
        simp only [Nat.add_zero, List.getElem?_take, List.getElem?_append, List.length_take, Array.length_toList, List.length_append, List.length_drop, List.getElem?_drop, hlen]
        have m1 : min (i * k + j) cur.size = i * k + j := by omega
        have m2 : min j k = j := by omega
        have m3 : min (i * k) (min (xs.length * k) cur.size) = i * k := by omega
        rw [m1, m2, m3]
        by_cases q0 : q < xs.length * k
        · rw [if_pos q0]
          by_cases q1 : q < i * k
          · rw [if_pos (by omega), if_pos (by omega), if_pos (by omega), if_pos (by omega), if_pos q1, if_pos q0, if_pos q1]
          · by_cases q2 : q < i * k + j
            · rw [if_pos (by omega), if_pos q2, if_pos (by omega), if_pos (by omega), if_neg (by omega), if_pos (by omega), if_pos (by omega), if_pos (by omega), hxe _ (by omega), show i * k + (q - i * k) = q by omega]
            · by_cases q3 : q < i * k + j + v.cells.size
              · rw [if_pos q3, if_neg q2, if_pos (by omega), if_neg q1, if_pos (by omega), if_neg (by omega)]
                congr 1; omega
              · by_cases q4 : q < i * k + k
                · rw [if_neg q3, if_pos (by omega), if_neg q1, if_neg (by omega), hxe _ (by omega)]
                  congr 1; omega
                · rw [if_neg q3, if_neg (by omega), if_pos (by omega)]
                  congr 1; omega
        · rw [if_neg q0]
          symm
          rw [if_neg (by omega), if_neg (by omega)]
    · exact ⟨rfl, rfl, rfl, by simp, fun t ht hne => setRow_other _ _ _ _ fun e => hne (by rw [e])⟩
end

/-! ### Regions that draw their order, where the order matters: every order -/
section
variable {P : Program} {n B : Nat} {w0 : World} {β : List Nat} {ops : Array Oper} {Q : Exit → Act → World → Prop} {l : En} {H : VH} {a : Act} {w : World}
def An (P : Program) (ops : Array Oper) (Q : Exit → Act → World → Prop) (f : Nat) (ls : Array Bool) (a : Act) (w : World) : Prop := wpAny P .any ops Q f ls a w

theorem An.start {id : Nat} {m : Nat} {ls : Array Bool} (hR : Rel Ds n w0 B β l H a w) (hm : P.follows .mixedOrders = true) (hs : ops.size = m) (hls : Array.replicate ops.size false = ls)
    (h : ∀ w1, w1.heap = w.heap → Own β w w1 → Rel Ds n w0 B β l H a w1 → An P ops Q m ls a w1) : (Code.region id ops true).wp P Q a w := by
  subst hs hls
  exact wp_region_any hm (h { w with drawn := w.drawn + 1 } rfl ⟨rfl, rfl, rfl, rfl, fun _ _ => rfl⟩ (hR.drawn _))

theorem An.take {i f : Nat} {ls ls' : Array Bool} {d : Option Tmp} {op : Op} {ty : TypeId} (v : Value) (hR : Rel Ds n w0 B β l H a w) (ho : opAt ops i = some (d, op, ty, none)) (hk : (dstOk n d && (simpleOp op && op.operands.toList.all (known l))) = true)
    (hs : Region.noSelect ops = true) (hf : Region.free .any ops ls i = true) (hr : (Region.ready .any ops ls).contains i = true) (hls : ls.setIfInBounds i true = ls') (hQ : ∀ c a w, Q (.panic c) (a.put d v) w → Q (.panic c) a w) (hp : pureOf P (X β l op ty) = some (.value v))
    (h : ∀ a', Rel Ds n w0 B β (puts l d (.v v)) H a' w → An P ops Q f ls' a' w) : An P ops Q (f + 1) ls a w := by
  subst hls
  obtain ⟨hd, hk⟩ := (Bool.and_eq_true _ _).mp hk
  have hd' : ∀ k, d = some k → k < n := by
    intro k e
    rw [e] at hd
    exact Nat.le_of_ble_eq_true hd
  unfold opAt at ho
  cases hoi : ops[i]? with
  | none => simp [hoi] at ho
  | some o =>
    simp only [hoi, Option.map_some, Option.some.injEq, Prod.mk.injEq] at ho
    obtain ⟨h1, h2, h3, h4⟩ := ho
    have hex := hR.exec (o := o) h2 h3 hk
    refine wpAny_take (v := v) hoi hs hf hr (by rw [h1]; exact hQ) ?_ ?_
    · exact .inl ⟨by simp [Region.wanted, h4], fun w' => by rw [hex]; exact run_of_pureOf P _ _ hp w'⟩
    · rw [h1]
      exact h _ ⟨hR.fr.put d (.v v) hd', hR.vars, hR.below⟩

theorem An.op {i f : Nat} {ls' : Array Bool} {o : Oper} (ho : ops[i]? = some o) (hg : o.guard = none) (h : At P #[o] (Exit.then (fun a w => An P ops Q f ls' a w) Q) 0 a w) : wpOp P ops Q i (wpAny P .any ops Q f ls') a w := by
  have hw : ∀ ys, Region.wanted o ys = true := fun ys => by simp [Region.wanted, hg]
  unfold wpOp
  simp only [ho, hw, if_true]
  unfold At at h
  rw [List.drop_zero] at h
  change wpList P #[o] _ [o] a w at h
  unfold wpList at h
  rw [if_pos (hw _)] at h
  rcases h with h | ⟨h1, h2⟩
  · left
    unfold Oper.wp at h ⊢
    generalize (execOp a.eval o).run P w = r at h ⊢
    cases r with
    | ok n w' =>
      cases n <;> simp only [Oper.upon] at h ⊢ <;>
        first
          | exact h
          | exact Calls.mono h (fun e w'' he => by cases e <;> exact he)
          | exact Rows.mono h (fun _ _ he => he)
    | halt x w' => cases x <;> simp only [Oper.upon] at h ⊢ <;> exact h
  · exact .inr ⟨h1, h2⟩
theorem An.one {f : Nat} {ls ls' : Array Bool} (i : Nat) {o : Oper} (hr : Region.ready .any ops ls = [i]) (ho : ops[i]? = some o) (hg : o.guard = none) (hls : ls.setIfInBounds i true = ls') (h : At P #[o] (Exit.then (fun a w => An P ops Q f ls' a w) Q) 0 a w) : An P ops Q (f + 1) ls a w := by
  subst hls
  refine wpAny_all hr (by simp) fun j hj => ?_
  rw [List.mem_singleton] at hj
  subst hj
  exact An.op ho hg h
theorem An.two {f : Nat} {ls l1 l2 : Array Bool} (i j : Nat) {o o2 : Oper} (hr : Region.ready .any ops ls = [i, j]) (ho : ops[i]? = some o) (hg : o.guard = none) (ho2 : ops[j]? = some o2) (hg2 : o2.guard = none) (hls : ls.setIfInBounds i true = l1) (hls2 : ls.setIfInBounds j true = l2)
    (h : At P #[o] (Exit.then (fun a w => An P ops Q f l1 a w) Q) 0 a w) (h2 : At P #[o2] (Exit.then (fun a w => An P ops Q f l2 a w) Q) 0 a w) : An P ops Q (f + 1) ls a w := by
  subst hls hls2
  refine wpAny_all hr (by simp) fun k hk => ?_
  simp only [List.mem_cons, List.not_mem_nil, or_false] at hk
  rcases hk with rfl | rfl
  · exact An.op ho hg h
  · exact An.op ho2 hg2 h2
theorem An.stop {ls : Array Bool} {f : Nat} (hr : Region.ready .any ops ls = []) (h : Q .normal a w) : An P ops Q f ls a w := wpAny_done hr h _
end
end Go.KW

/- Slices: rows that are read, rows of the call's own, literals, append; addresses of elements. -/
import Derived.Test.YtpjibonpnghodaaDoorK
import Derived.Maps.AppendAt
import Derived.Laws.OwnMore
import Derived.Deep.AppendLies
set_option linter.unusedVariables false
set_option linter.unusedSimpArgs false
namespace Go.KW
open Go.RowKit
variable {Ds : List Deferred}

/-! ### Reading -/
theorem addr_add_add (a : Addr) (m n : Nat) : (a.add m).add n = a.add (m + n) := by
  unfold Addr.add
  by_cases h : m = 0
  · subst h; simp
  · by_cases h2 : n = 0
    · subst h2; simp [h]
    · simp [h, h2, show ¬ (m + n = 0) by omega, Nat.add_assoc]
theorem addr_add_block (a : Addr) (m : Nat) : (a.add m).block = a.block := by
  unfold Addr.add; split <;> rfl

/-- The slice at A reads as the list l: an element x lies in the cells enc x, k of them. -/
def Rd {α : Type} (w : World) (k : Nat) (enc : α → List Value) (A : Option Addr) (l : List α) : Prop :=
  ∀ i x, l[i]? = some x → ∃ ad, A = some ad ∧ ∀ j u, (enc x)[j]? = some u → w.cell? ((ad.add (i * k)).add j) = some u

theorem cell_below {B : Nat} {w w' : World} (hb : Below B w w') {a : Addr} {u : Value} (h : w.cell? a = some u) (hlt : a.block < B) : w'.cell? a = some u :=
  (World.cell?_of_block (hb.block _ hlt)).trans h
theorem cell_lt {w : World} {a : Addr} {u : Value} (h : w.cell? a = some u) : a.block < w.heap.size := World.block_lt_of_cell? w a h

theorem Rd.below {α : Type} {w w' : World} {k : Nat} {enc : α → List Value} {A : Option Addr} {l : List α} (h : Rd w k enc A l) (hb : Below w.heap.size w w') : Rd w' k enc A l := by
  intro i x hx
  obtain ⟨ad, hA, hc⟩ := h i x hx
  exact ⟨ad, hA, fun j u hu => cell_below hb (hc j u hu) (cell_lt (hc j u hu))⟩

theorem Rd.nil {α : Type} (w : World) (k : Nat) (enc : α → List Value) (A : Option Addr) : Rd w k enc A ([] : List α) := fun i x h => by simp at h

theorem run_loadVar_one {P : Program} {T : TypeId} {p : Addr} {u : Value} {w : World} (ha : aggOf P T = some false) (h : w.cell? p = some u) : (loadVar T p).run P w = .ok u w := by
  simp only [loadVar, Sem.run_bind, aggOf_run ha w, Result.andThen_ok]
  simp [run_load, h]
theorem run_loadVar_one0 {P : Program} {T : TypeId} {p : Addr} {u : Value} {w : World} (ha : aggOf P T = some false) (h : w.cell? (p.add 0) = some u) : (loadVar T p).run P w = .ok u w :=
  run_loadVar_one ha (by rwa [show p.add 0 = p by unfold Addr.add; simp] at h)
theorem run_loadVar_agg {P : Program} {T : TypeId} {p : Addr} {us : List Value} {w : World} (ha : aggOf P T = some true) (hs : sizeOfT P T = some us.length) (h : ∀ j u, us[j]? = some u → w.cell? (p.add j) = some u) : (loadVar T p).run P w = .ok (.agg us.toArray) w := by
  have hl := run_loadCells_list (P := P) w p us h
  simp only [loadVar, Sem.run_bind, aggOf_run ha w, Result.andThen_ok, if_true, sizeOfT_run hs w, hl]
  rfl

section
variable {P : Program} {n B : Nat} {w0 : World} {β : List Nat} {ops : Array Oper} {Q : Exit → Act → World → Prop} {l : En} {H : VH} {a : Act} {w : World}

/-- A load from an address that is known. -/
theorem run_load_at {T : TypeId} {x : Operand} {p : Addr} {v : Value} {ty : TypeId} (hx : evV β l x = .pointer (some p)) (h : (loadVar T p).run P w = .ok v w) : (X β l (.load T x) ty).run P w = .ok (.value v) w := by
  simp only [X, execOp, hx, Instr.loadAt, Instr.sureAddr, Sem.run_bind, Sem.run_pure, Result.andThen_ok, h]

theorem run_indexAddr {T e : TypeId} {k : Nat} {x ix : Operand} {ad : Addr} {len cap : Nat} {kk : IntKind} {i : Int} {ty : TypeId} (hu : P.underlying T = some (.slice e)) (hs : sizeOfT P e = some k) (hx : evV β l x = .slice (some ad) len cap) (hi : evV β l ix = .int kk i) (h0 : 0 ≤ i) (h1 : i < (len : Int)) :
    (X β l (.indexAddr T x ix) ty).run P w = .ok (.value (.pointer (some (ad.add (i.toNat * k))))) w := by
  simp [X, execOp, Instr.indexAt, hx, hi, asIntOf, run_underlying hu, sizeOfT_run hs w, h0, h1]

theorem run_index_agg {T e : TypeId} {len k : Nat} {x ix : Operand} {cs : Array Value} {kk : IntKind} {i : Int} {ty : TypeId} (hu : P.underlying T = some (.array len e)) (hs : sizeOfT P e = some k) (ha : aggOf P e = some true) (hx : evV β l x = .agg cs) (hi : evV β l ix = .int kk i) (h0 : 0 ≤ i) (h1 : i < (len : Int)) :
    (X β l (.index T x ix) ty).run P w = .ok (.value (.agg (cs.extract (i.toNat * k) (i.toNat * k + k)))) w := by
  simp [X, execOp, Instr.index, hx, hi, asIntOf, run_underlying hu, sizeOfT_run hs w, h0, h1, part, aggOf_run ha w]
end

/-! ### How elements lie -/
def encI (x : Int) : List Value := [.int .i64 x]
theorem encI_len (x : Int) : (encI x).length = 1 := rfl
theorem encI_one (x : Int) : ∀ u ∈ encI x, u.oneCell' = true := by simp [encI, Value.oneCell']
def encR (x : Int × Int) : List Value := [.int .i64 x.1, .int .i64 x.2]
theorem encR_len (x : Int × Int) : (encR x).length = 2 := rfl
theorem encR_one (x : Int × Int) : ∀ u ∈ encR x, u.oneCell' = true := by simp [encR, Value.oneCell']

/-! ### Rows of the call's own -/
def flat {α : Type} (enc : α → List Value) (l : List α) : List Value := l.flatMap enc

theorem flat_length {α : Type} {enc : α → List Value} {k : Nat} (hk : ∀ x, (enc x).length = k) (l : List α) : (flat enc l).length = l.length * k := by
  induction l with
  | nil => simp [flat]
  | cons x r ih => simp only [flat, List.flatMap_cons, List.length_append, List.length_cons] at *; rw [ih, hk]; rw [Nat.add_mul]; omega

theorem flat_get {α : Type} {enc : α → List Value} {k : Nat} (hk : ∀ x, (enc x).length = k) : ∀ (l : List α) (i : Nat) (x : α), l[i]? = some x → ∀ j u, (enc x)[j]? = some u → (flat enc l)[i * k + j]? = some u
  | [], i, x, h, _, _, _ => by simp at h
  | y :: r, 0, x, h, j, u, hu => by
    simp only [List.getElem?_cons_zero, Option.some.injEq] at h
    subst h
    have hj : j < (enc y).length := (List.getElem?_eq_some_iff.1 hu).1
    simp only [flat, List.flatMap_cons, Nat.zero_mul, Nat.zero_add]
    rw [List.getElem?_append_left hj]
    exact hu
  | y :: r, i + 1, x, h, j, u, hu => by
    simp only [List.getElem?_cons_succ] at h
    have ih := flat_get hk r i x h j u hu
    simp only [flat, List.flatMap_cons]
    rw [List.getElem?_append_right (by rw [hk, Nat.add_mul]; omega), hk, show (i + 1) * k + j - k = i * k + j by rw [Nat.add_mul]; omega]
    exact ih

/-- A slice of the call's own: its block is none of the local variables. -/
structure Row {α : Type} (w : World) (β : List Nat) (lo : Nat) (e : TypeId) (k : Nat) (enc : α → List Value) (A : Option Addr) (c : Nat) (l : List α) : Prop where
  own : w.ownsRow lo e k (.slice A l.length c) l.length (flat enc l)
  sep : ∀ g, (Value.slice A l.length c).ownBlock = some g → g ∉ β

section
variable {α : Type} {w w' : World} {β : List Nat} {lo : Nat} {e : TypeId} {k : Nat} {enc : α → List Value} {A : Option Addr} {c : Nat} {l : List α}

theorem Row.below (h : Row w β lo e k enc A c l) (hb : Below w.heap.size w w') : Row w' β lo e k enc A c l :=
  ⟨h.own.kept (row := none) ⟨hb.os, hb.tape, hb.output, hb.size, fun i hi _ => hb.block i hi⟩ (by cases (Value.slice A l.length c).ownBlock <;> simp), h.sep⟩
theorem Row.new (h : Row w β lo e k enc A c l) {b : Nat} (hb : w.heap.size = b) (hg : Below w.heap.size w w') : Row w' (β ++ [b]) lo e k enc A c l :=
  ⟨(h.below hg).own, fun g hg2 hm => by
    simp only [List.mem_append, List.mem_singleton] at hm
    rcases hm with hm | rfl
    · exact h.sep g hg2 hm
    · have := (h.own.lt g hg2).2; omega⟩
theorem Row.ownS (h : Row w β lo e k enc A c l) (ho : KW.Own β w w') : Row w' β lo e k enc A c l := by
  refine ⟨?_, h.sep⟩
  obtain ⟨h1, h2⟩ := h.own
  refine ⟨h1, ?_⟩
  rcases h2 with h2 | ⟨g, cap, cur, hv, hg, hh, r⟩
  · exact .inl h2
  · refine .inr ⟨g, cap, cur, hv, hg, ?_, r⟩
    rw [ho.block g (h.sep g (by rw [hv]; rfl))]
    exact hh
theorem Row.trim (h : Row w β lo e k enc A c l) (m : Nat) {γ : List Nat} (hγ : β.take m = γ) : Row w γ lo e k enc A c l :=
  ⟨h.own, fun g hg hm => h.sep g hg (by rw [← hγ] at hm; exact List.mem_of_mem_take hm)⟩
theorem Row.nil (w : World) (β : List Nat) (lo : Nat) (e : TypeId) (k : Nat) (enc : α → List Value) : Row w β lo e k enc none 0 ([] : List α) :=
  ⟨⟨by simp [flat], .inl ⟨rfl, rfl⟩⟩, fun g hg => by simp [Value.ownBlock] at hg⟩
theorem Row.grown (h : Row w β lo e k enc A c l) {row : Option Nat} (hg : w.grownBy w' row) (hne : (Value.slice A l.length c).ownBlock = none ∨ (Value.slice A l.length c).ownBlock ≠ row) : Row w' β lo e k enc A c l :=
  ⟨h.own.kept hg hne, h.sep⟩
theorem Row.rd (h : Row w β lo e k enc A c l) (hk : ∀ x, (enc x).length = k) : Rd w k enc A l := by
  intro i x hx
  have hn : 0 < l.length := by have := (List.getElem?_eq_some_iff.1 hx).1; omega
  obtain ⟨g, cap, hv, _, _⟩ := h.own.form hn
  have hA : A = some ⟨g, 0, none⟩ := by injection hv
  refine ⟨_, hA, fun j u hu => ?_⟩
  rw [addr_add_add]
  exact h.own.cells (g := g) (by rw [hA]; rfl) _ _ (flat_get hk l i x hx j u hu)
/-- What a callee made is none of our local variables. -/
theorem Row.of_own (h : w'.ownsRow w.heap.size e k (.slice A l.length c) l.length (flat enc l)) (hβ : ∀ b ∈ β, b < w.heap.size) : Row w' β w.heap.size e k enc A c l :=
  ⟨h, fun g hg hm => by have h1 := (h.lt g hg).1; have h2 := hβ g hm; omega⟩
theorem Row.mono (h : Row w β lo e k enc A c l) {lo' : Nat} (hl : lo' ≤ lo) : Row w β lo' e k enc A c l :=
  ⟨⟨h.own.1, h.own.2.imp_right fun ⟨g, cap, cur, hv, hg, r⟩ => ⟨g, cap, cur, hv, Nat.le_trans hl hg, r⟩⟩, h.sep⟩
end

section
variable {P : Program} {n B : Nat} {w0 : World} {β : List Nat} {ops : Array Oper} {Q : Exit → Act → World → Prop} {l : En} {H : VH} {a : Act} {w : World}

def partsV (β : List Nat) (l : En) (ps : Array (Nat × Operand)) : Array (Nat × Value) := ps.map fun (i, x) => (i, evV β l x)

theorem run_buildSlice {T e : TypeId} {m k : Nat} {ps : Array (Nat × Operand)} {z : Value} {cs : Array Value} {ty : TypeId} (hu : P.underlying T = some (.slice e)) (hs : sizeOfT P e = some k) (hz : zeroOf P e = some z) (hm : (Nat.ble (m * k) 16777216 && Nat.blt 0 (m * k)) = true)
    (hf : Instr.fill (fun i => some (i * k, k)) ((Array.range (m * k)).map (z.cells[· % z.cells.size]!)) (partsV β l ps).toList = some cs) :
    (X β l (.buildSlice T m ps) ty).run P w = .ok (.value (.slice (some ⟨w.heap.size, 0, none⟩) m m)) (w.alloc (.cells cs e)) := by
  obtain ⟨h1, h2⟩ := (Bool.and_eq_true _ _).mp hm
  have h1' := Nat.le_of_ble_eq_true h1
  have h2' : 0 < m * k := Nat.le_of_ble_eq_true h2
  have hzv : (zeroValue e).run P w = .ok z w := by
    unfold zeroOf at hz
    cases hq : P.info? e with
    | none => simp [hq] at hz
    | some i => simp [zeroValue, typeInfo, hq, show i.zero = some z by simpa [hq] using hz]
  unfold partsV at hf
  simp only [X, execOp, Instr.buildSlice, Sem.run_bind, run_underlying hu, Result.andThen_ok, sizeOfT_run hs w]
  rw [if_neg (show ¬ (m * k > 2 ^ 24) by omega), if_neg (show ¬ (m * k = 0) by omega)]
  simp only [Sem.run_bind, hzv, Result.andThen_ok, Sem.run_pure, hf, newRow, newObj]
  rfl

/-- A literal '[]T{..}' in memory of its own. -/
theorem buildS {i d m : Nat} {T ty : TypeId} {ps : Array (Nat × Operand)} {g : Option (Nat × Bool)} (e : TypeId) (k : Nat) (z : Value) (cs : List Value) (hR : Rel Ds n w0 B β l H a w) (ho : opAt ops i = some (some d, .buildSlice T m ps, ty, g)) (hg : wantG ops g l = some true)
    (hk : (Nat.blt d n && ps.toList.all fun x => known l x.2) = true) (hu : P.underlying T = some (.slice e)) (hs : sizeOfT P e = some k) (hz : zeroOf P e = some z) (hm : (Nat.ble (m * k) 16777216 && Nat.blt 0 (m * k)) = true)
    (hf : (Instr.fill (fun i => some (i * k, k)) ((Array.range (m * k)).map (z.cells[· % z.cells.size]!)) (partsV β l ps).toList).map (·.toList) = some cs) (hB : B ≤ w.heap.size)
    (h : ∀ b a' w', w.heap.size = b → Below w.heap.size w w' → w'.heap[b]? = some (.cells cs.toArray e (0, 0)) → Rel Ds n w0 B β ((d, .v (.slice (some ⟨b, 0, none⟩) m m)) :: l) H a' w' → At P ops Q (i + 1) a' w') : At P ops Q i a w := by
  obtain ⟨hd, hk⟩ := (Bool.and_eq_true _ _).mp hk
  cases hff : Instr.fill (fun i => some (i * k, k)) ((Array.range (m * k)).map (z.cells[· % z.cells.size]!)) (partsV β l ps).toList with
  | none => simp [hff] at hf
  | some ca =>
    have hca : ca.toList = cs := by simpa [hff] using hf
    have hrun := run_buildSlice (w := w) (ty := ty) hu hs hz hm hff
    refine step (.v (.slice (some ⟨w.heap.size, 0, none⟩) m m)) (w' := w.alloc (.cells ca e)) (H' := H) hR ho hg ?_ (.inl hrun) (hR.vars.below (Below.alloc (Below.refl _ _) (Nat.le_refl _) _)) (hR.below.alloc hB _) ?_
    · simp only [dstOk, simpleOp, Op.operands, Bool.true_and, Bool.and_eq_true]
      refine ⟨hd, ?_⟩
      rw [List.all_eq_true] at hk ⊢
      intro x hx
      simp only [List.mem_map] at hx
      obtain ⟨p, hp, rfl⟩ := hx
      exact hk p hp
    · intro a' hR'
      refine h w.heap.size a' _ rfl (Below.alloc (Below.refl _ _) (Nat.le_refl _) _) ?_ hR'
      rw [← hca, Array.toArray_toList]
      exact heap_alloc_new _ _

theorem blk_cells {w : World} {b : Nat} {cs : List Value} {T : TypeId} {fr : Nat × Nat} (h : w.heap[b]? = some (.cells cs.toArray T fr)) : ∀ j u, cs[j]? = some u → w.cell? ((⟨b, 0, none⟩ : Addr).add j) = some u := by
  intro j u hu
  rw [addr_add]
  simp [World.cell?, h, hu]

/-- 'append(s, ys...)', s a row of the call's own. -/
theorem appendS {α : Type} {i : Nat} {d : Option Tmp} {s x : Operand} {t ty : TypeId} {g : Option (Nat × Bool)} {lo : Nat} {e : TypeId} {k : Nat} {enc : α → List Value} {A : Option Addr} {c : Nat} {xs : List α} (ys : List α) (z : Value) (bytes : Nat) {ad : Addr} {m cy : Nat}
    (hR : Rel Ds n w0 B β l H a w) (hrow : Row w β lo e k enc A c xs) (hk1 : ∀ x, (enc x).length = k) (h1c : ∀ x, ∀ u ∈ enc x, u.oneCell' = true)
    (ho : opAt ops i = some (d, .call { callee := .builtin .append, args := #[s, x], argTypes := #[t, t] }, ty, g)) (hg : wantG ops g l = some true) (hk : (dstOk n d && (known l s && known l x)) = true)
    (hs : evV β l s = .slice A xs.length c) (hx : evV β l x = .slice (some ad) m cy) (hm : ys.length = m) (hy : ∀ j u, (flat enc ys)[j]? = some u → w.cell? (ad.add j) = some u)
    (ht : P.underlying t = some (.slice e)) (hinfo : (P.info? e).map (fun i => (i.zero, i.size, i.bytes)) = some (some z, k, bytes)) (hz : z.cells.size = k) (hk0 : 0 < k) (hb0 : 0 < bytes)
    (hbytes : (xs.length + m) * bytes ≤ 140737488355328) (hlo : lo ≤ w.heap.size) (hBlo : B ≤ lo)
    (h : ∀ A' c' a' w', Row w' β lo e k enc A' c' (xs ++ ys) → w.grownBy w' (Value.slice A xs.length c).ownBlock → ((Value.slice A' (xs ++ ys).length c').ownBlock = (Value.slice A xs.length c).ownBlock ∨ (Value.slice A' (xs ++ ys).length c').ownBlock = some w.heap.size) →
      Rel Ds n w0 B β (puts l d (.v (.slice A' (xs ++ ys).length c'))) H a' w' → At P ops Q (i + 1) a' w') : At P ops Q i a w := by
  obtain ⟨hd, hk⟩ := (Bool.and_eq_true _ _).mp hk
  obtain ⟨hks, hkx⟩ := (Bool.and_eq_true _ _).mp hk
  obtain ⟨i0, hi, hzz⟩ := Option.map_eq_some_iff.1 hinfo
  simp only [Prod.mk.injEq] at hzz
  obtain ⟨hz0, hz1, hz2⟩ := hzz
  have hlen : xs.length + m ≤ maxLen := by
    have := Nat.le_trans (Nat.le_mul_of_pos_right _ hb0) hbytes
    unfold maxLen; omega
  obtain ⟨v', w', hrun, h2, h3, h4, h5⟩ := run_append_own_at (P := P) w lo t ty e i0 z k bytes ht hi hz0 hz1 hz2 hz hk0 (.slice A xs.length c) xs.length (flat enc xs) hrow.own ad m cy (flat enc ys) (by rw [flat_length hk1, hm]) hy
    (by intro u hu; simp only [flat, List.mem_flatMap] at hu; obtain ⟨y, _, hu⟩ := hu; exact h1c y u hu) hlen hbytes hlo
  obtain ⟨A', c', rfl⟩ : ∃ A' c', v' = .slice A' (xs ++ ys).length c' := by
    have e : xs.length + m = (xs ++ ys).length := by simp [hm]
    rcases h2.2 with ⟨hv, h0⟩ | ⟨g', cap', cur', hv, _⟩
    · exact ⟨none, 0, by rw [hv]; congr 1; simp; omega⟩
    · exact ⟨some ⟨g', 0, none⟩, cap', by rw [hv, e]⟩
  have hsep : ∀ g', (Value.slice A' (xs ++ ys).length c').ownBlock = some g' → g' ∉ β := by
    intro g' hg' hmem
    rcases h5 with h5 | h5
    · exact hrow.sep g' (by rw [← h5]; exact hg') hmem
    · rw [hg'] at h5
      injection h5 with h5
      have := hR.vars.lt g' hmem
      omega
  have hV : Vars B β H w' := ⟨hR.vars.len, hR.vars.nodup, hR.vars.ge, fun j cs T hj => by
    have hb := hR.vars.blk j cs T hj
    have hlt := (Array.getElem?_eq_some_iff.1 hb).1
    rw [h3.block _ hlt (fun e => by
      have hj' : j < β.length := by rw [hR.vars.len]; exact (List.getElem?_eq_some_iff.1 hj).1
      have hmem : β.getD j 0 ∈ β := by simp [List.getD_eq_getElem?_getD, List.getElem?_eq_getElem hj']
      exact hrow.sep _ e.symm hmem)]
    exact hb⟩
  have hBel : Below B w0 w' := hR.below.grown h3 (Nat.le_trans hBlo hlo) (fun g' hg' => by have := (hrow.own.lt g' hg').1; omega)
  have hfin := h A' c'
  refine step (.v (.slice A' (xs ++ ys).length c')) (w' := w') (H' := H) hR ho hg ?_ (.inl ?_) hV hBel ?_
  · simp only [dstOk, simpleOp, Op.operands, Call.operands, Bool.true_and, Bool.and_eq_true]
    exact ⟨hd, by simp [hks, hkx]⟩
  · simp only [X, execOp, resolve, invoke, builtin, Sem.run_bind, Sem.run_pure, Result.andThen_ok, List.map_toArray, List.map_cons, List.map_nil, hs, hx]
    simp only [hrun]
    rfl
  · intro a' hR'
    exact hfin a' w' ⟨by simpa [flat, hm] using h2, hsep⟩ h3 h5 hR'
end
end Go.KW

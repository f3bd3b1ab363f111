/- Rows of the call's own: literals, stores into elements, calls that rewrite a row; what a closure keeps. -/
import Derived.Test.YtpjibonpnghodaaDoorD
import Derived.Laws.BytesArg
import Derived.Laws.Concat
set_option linter.unusedVariables false
set_option linter.unusedSimpArgs false
namespace Go.KW
open Go.RowKit
variable {Ds : List Deferred}

section
variable {α : Type} {P : Program} {n B : Nat} {w0 : World} {β : List Nat} {ops : Array Oper} {Q : Exit → Act → World → Prop} {l : En} {H : VH} {a : Act} {w w' : World}

/-- A literal is a row of the call's own. -/
theorem Row.lit {b : Nat} {e : TypeId} {k : Nat} {enc : α → List Value} {cs : List Value} {lo m : Nat} (ys : List α) (hk : w.heap[b]? = some (.cells cs.toArray e (0, 0))) (hb : lo ≤ b) (hβ : b ∉ β) (hl : ∀ x, (enc x).length = k) (hf : flat enc ys = cs) (hm : ys.length ≤ maxLen) (hm2 : ys.length = m) :
    Row w β lo e k enc (some ⟨b, 0, none⟩) m ys := by
  subst hm2
  refine ⟨⟨by rw [flat_length hl], .inr ⟨b, ys.length, cs.toArray, rfl, hb, hk, Nat.le_refl _, hm, ?_, ?_⟩⟩, fun g hg => by injection hg with hg; rw [← hg]; exact hβ⟩
  · rw [← hf]; simp [flat_length hl]
  · rw [← hf, ← flat_length hl]; simp

/-- '[]T{}': a new block without cells. -/
theorem buildS0 {i d : Nat} {T ty : TypeId} {g : Option (Nat × Bool)} (e : TypeId) (k : Nat) (hR : Rel Ds n w0 B β l H a w) (ho : opAt ops i = some (some d, .buildSlice T 0 #[], ty, g)) (hg : wantG ops g l = some true)
    (hk : Nat.blt d n = true) (hu : P.underlying T = some (.slice e)) (hs : sizeOfT P e = some k) (hB : B ≤ w.heap.size)
    (h : ∀ b a' w', w.heap.size = b → Below w.heap.size w w' → w'.heap[b]? = some (.cells (([] : List Value)).toArray e (0, 0)) → Rel Ds n w0 B β ((d, .v (.slice (some ⟨b, 0, none⟩) 0 0)) :: l) H a' w' → At P ops Q (i + 1) a' w') : At P ops Q i a w := by
  have hrun : (X β l (.buildSlice T 0 #[]) ty).run P w = .ok (.value (.slice (some ⟨w.heap.size, 0, none⟩) 0 0)) (w.alloc (.cells #[] e)) := by
    simp only [X, execOp, Instr.buildSlice, Sem.run_bind, run_underlying hu, Result.andThen_ok, sizeOfT_run hs w]
    rw [if_neg (show ¬ (0 * k > 2 ^ 24) by omega), if_pos (show 0 * k = 0 by omega)]
    simp only [Sem.run_bind, Result.andThen_ok, Sem.run_pure, newRow, newObj, Nat.zero_mul]
    have e1 : ∀ (pl : Nat → Option (Nat × Nat)) (f : Nat → Value) (q : Nat × Operand → Nat × Value), Instr.fill pl ((Array.range 0).map f) (Array.map q #[]).toList = some #[] := by
      intro pl f q
      have : (Array.range 0).map f = #[] := by simp
      rw [this]
      simp [Instr.fill]
    rw [e1]
    rfl
  refine step (.v (.slice (some ⟨w.heap.size, 0, none⟩) 0 0)) (w' := w.alloc (.cells #[] e)) (H' := H) hR ho hg (by simp [dstOk, simpleOp, Op.operands, hk]) (.inl hrun) (hR.vars.below (Below.alloc (Below.refl _ _) (Nat.le_refl _) _)) (hR.below.alloc hB _) ?_
  intro a' hR'
  exact h w.heap.size a' _ rfl (Below.alloc (Below.refl _ _) (Nat.le_refl _) _) (heap_alloc_new _ _) hR'

/-- What a row's change leaves of the local variables. -/
theorem Vars.grown (hV : Vars B β H w) {row : Option Nat} (hg : w.grownBy w' row) (hr : ∀ b, row = some b → b ∉ β) : Vars B β H w' :=
  ⟨hV.len, hV.nodup, hV.ge, fun j cs T hj => by
    have hb := hV.blk j cs T hj
    have hlt := (Array.getElem?_eq_some_iff.1 hb).1
    rw [hg.block _ hlt (fun e => by
      have hj' : j < β.length := by rw [hV.len]; exact (List.getElem?_eq_some_iff.1 hj).1
      have hmem : β.getD j 0 ∈ β := by simp [List.getD_eq_getElem?_getD, List.getElem?_eq_getElem hj']
      exact hr _ e.symm hmem)]
    exact hb⟩

/-- A call that rewrites one row. -/
theorem callGrown {i : Nat} {d : Option Tmp} {op : Op} {ty : TypeId} {g : Option (Nat × Bool)} (f : FuncId) (vs : Array Value) (v : Value) {C : World → Prop} {row : Option Nat} (hR : Rel Ds n w0 B β l H a w) (ho : opAt ops i = some (d, op, ty, g)) (hg : wantG ops g l = some true)
    (hk : (dstOk n d && (simpleOp op && op.operands.toList.all (known l))) = true) (hp : pureOf P (X β l op ty) = some (.enter f vs)) (hB : B ≤ w.heap.size) (hrow : ∀ b, row = some b → B ≤ b ∧ b ∉ β)
    (hc : Calls P f vs w fun e w' => e = .returned v ∧ C w' ∧ w.grownBy w' row)
    (h : ∀ a' w', C w' → w.grownBy w' row → Rel Ds n w0 B β (puts l d (.v v)) H a' w' → At P ops Q (i + 1) a' w') : At P ops Q i a w :=
  callG hR ho hg hk hp hc (by
    rintro e w' ⟨rfl, hC, hgr⟩
    exact ⟨.v v, H, rfl, hR.vars.grown hgr (fun b hb => (hrow b hb).2), hR.below.grown hgr hB (fun b hb => (hrow b hb).1), fun a' hR' => h a' w' hC hgr hR'⟩)

theorem Row.rowOk {lo : Nat} {e : TypeId} {k : Nat} {enc : α → List Value} {A : Option Addr} {c : Nat} {xs : List α} (h : Row w β lo e k enc A c xs) (hB : B ≤ lo) : ∀ b, (Value.slice A xs.length c).ownBlock = some b → B ≤ b ∧ b ∉ β :=
  fun b hb => ⟨Nat.le_trans hB (h.own.lt b hb).1, h.sep b hb⟩

/-- A store into an element of a row: element q becomes yy. -/
theorem storeRow {i : Nat} {T ty : TypeId} {x y : Operand} {g : Option (Nat × Bool)} {lo : Nat} {e : TypeId} {k : Nat} {enc : α → List Value} {b c : Nat} {xs : List α} {p : Addr} {v : Value} (q j : Nat) (yy : α) (hR : Rel Ds n w0 B β l H a w) (hrow : Row w β lo e k enc (some ⟨b, 0, none⟩) c xs) (hk1 : ∀ x, (enc x).length = k)
    (ho : opAt ops i = some (none, .store T x y, ty, g)) (hg : wantG ops g l = some true) (hk : (known l x && known l y) = true) (hx : evV β l x = .pointer (some p)) (hp : p = ⟨b, q * k + j, none⟩) (hy : evV β l y = v) (hq : q < xs.length)
    (hs : sizeOfT P T = some v.cells.size) (h1 : ∀ u ∈ v.cells.toList, u.oneCell' = true) (hj : j + v.cells.size ≤ k) (hyy : ∀ x, xs[q]? = some x → enc yy = (enc x).take j ++ v.cells.toList ++ (enc x).drop (j + v.cells.size)) (hBlo : B ≤ lo)
    (h : ∀ a' w', Row w' β lo e k enc (some ⟨b, 0, none⟩) c (xs.set q yy) → w.grownBy w' (Value.slice (some ⟨b, 0, none⟩) xs.length c).ownBlock → w'.heap.size = w.heap.size → Rel Ds n w0 B β l H a' w' → At P ops Q (i + 1) a' w') : At P ops Q i a w := by
  obtain ⟨w', hrun, hrow', hgr, hsz⟩ := hrow.store (P := P) hk1 hq (T := T) (v := v) yy hs h1 hj hyy
  have hlt := hrow.own.lt b rfl
  refine step (.v undef) (w' := w') (H' := H) hR ho hg (by simp only [dstOk, simpleOp, Op.operands, Bool.true_and]; simpa using hk) (.inr ⟨?_, rfl⟩) (hR.vars.grown hgr (fun b' hb => by injection hb with hb; rw [← hb]; exact hrow.sep b rfl)) (hR.below.grown hgr (by omega) (fun b' hb => by injection hb with hb; omega)) (fun a' hR' => h a' w' hrow' hgr hsz hR')
  have hsure : (Instr.sureAddr (Value.pointer (some (⟨b, q * k + j, none⟩ : Addr)))).run P w = .ok ⟨b, q * k + j, none⟩ w := rfl
  simp only [X, execOp, Instr.storeAt, hx, hy, hp, Sem.run_bind, hsure, hrun, Result.andThen_ok, Sem.run_pure]
end

theorem Rd.flat {α : Type} {w : World} {k : Nat} {enc : α → List Value} {ad : Addr} {l : List α} (h : Rd w k enc (some ad) l) (hk : ∀ x, (enc x).length = k) (hk0 : 0 < k) : ∀ j u, (flat enc l)[j]? = some u → w.cell? (ad.add j) = some u := by
  intro j u hu
  have hlt : j < l.length * k := by
    rw [← flat_length hk]
    exact (List.getElem?_eq_some_iff.1 hu).1
  have hi : j / k < l.length := Nat.div_lt_of_lt_mul (by rw [Nat.mul_comm]; exact hlt)
  have ht : j % k < k := Nat.mod_lt _ hk0
  have hx : l[j / k]? = some l[j / k] := List.getElem?_eq_getElem hi
  have hv : (enc l[j / k])[j % k]? = some ((enc l[j / k])[j % k]'(by rw [hk]; exact ht)) := List.getElem?_eq_getElem _
  have e : j / k * k + j % k = j := by rw [Nat.mul_comm]; exact Nat.div_add_mod j k
  have h1 := flat_get hk l (j / k) _ hx _ _ hv
  rw [e, hu] at h1
  injection h1 with h1
  obtain ⟨ad', ha, hc⟩ := h (j / k) _ hx
  injection ha with ha
  have h2 := hc _ _ hv
  rw [addr_add_add, e, ← h1, ← ha] at h2
  exact h2
theorem Rd.none_nil {α : Type} {w : World} {k : Nat} {enc : α → List Value} {l : List α} (h : Rd w k enc none l) : l = [] := by
  cases l with
  | nil => rfl
  | cons x r => obtain ⟨ad, ha, _⟩ := h 0 x rfl; cases ha

/-- Two slices that lie in different blocks. -/
def Dis (A A2 : Option Addr) : Prop := ∀ a b, A = some a → A2 = some b → a.block ≠ b.block
theorem Dis.nil (A : Option Addr) : Dis A none := fun _ _ _ h => by cases h
theorem Dis.nil' (A : Option Addr) : Dis none A := fun _ _ h => by cases h
theorem Dis.symm {A A2 : Option Addr} (h : Dis A A2) : Dis A2 A := fun a b ha hb e => h b a hb ha e.symm
section
variable {α : Type} {w w' : World} {β : List Nat} {lo : Nat} {e : TypeId} {k : Nat} {enc : α → List Value} {A A2 : Option Addr} {c : Nat} {l : List α}
theorem Row.blk (h : Row w β lo e k enc A c l) : ∀ a, A = some a → (Value.slice A l.length c).ownBlock = some a.block := fun a ha => by rw [ha]; rfl
theorem Dis.app (h : Dis A A2) (hr : Row w β lo e k enc A c l) {A3 : Option Addr} {n2 c2 n3 c3 : Nat} (hat : (Value.slice A3 n3 c3).ownBlock = (Value.slice A2 n2 c2).ownBlock ∨ (Value.slice A3 n3 c3).ownBlock = some w.heap.size) : Dis A A3 := by
  intro a b ha hb eq
  subst hb
  have hlt := (hr.own.lt a.block (hr.blk a ha)).2
  rcases hat with hat | hat
  · cases A2 with
    | none => simp [Value.ownBlock] at hat
    | some a2 => simp only [Value.ownBlock, Option.some.injEq] at hat; exact h a a2 ha rfl (by rw [eq, hat])
  · simp only [Value.ownBlock, Option.some.injEq] at hat; omega
theorem Dis.fresh (hr : Row w β lo e k enc A c l) {b : Nat} (hb : w.heap.size = b) : Dis A (some ⟨b, 0, none⟩) := by
  intro a b' ha hb' eq
  injection hb' with hb'
  have hlt := (hr.own.lt a.block (hr.blk a ha)).2
  rw [eq, ← hb', ← hb] at hlt
  simp at hlt
theorem Dis.newer (hr : Row w β lo e k enc A c l) {α2 : Type} {β2 : List Nat} {e2 : TypeId} {k2 : Nat} {enc2 : α2 → List Value} {c2 : Nat} {l2 : List α2} (h2 : Row w' β2 w.heap.size e2 k2 enc2 A2 c2 l2) : Dis A A2 := by
  intro a b ha hb eq
  have h1 := (hr.own.lt a.block (hr.blk a ha)).2
  have h3 := (h2.own.lt b.block (h2.blk b hb)).1
  omega
theorem Row.grownD (h : Row w β lo e k enc A c l) {n2 c2 : Nat} (hg : w.grownBy w' (Value.slice A2 n2 c2).ownBlock) (hd : Dis A A2) : Row w' β lo e k enc A c l := by
  refine h.grown hg ?_
  cases A with
  | none => exact .inl rfl
  | some a =>
    right
    cases A2 with
    | none => simp [Value.ownBlock]
    | some b => simpa [Value.ownBlock] using hd a b rfl rfl
end

/-- Cells behind a pointer that came in. -/
def Pt (w : World) (ad : Addr) (cs : List Value) : Prop := ∀ j u, cs[j]? = some u → w.cell? (ad.add j) = some u
theorem Pt.below {w w' : World} {ad : Addr} {cs : List Value} (h : Pt w ad cs) (hb : Below w.heap.size w w') : Pt w' ad cs :=
  fun j u hu => cell_below hb (h j u hu) (cell_lt (h j u hu))
theorem Pt.var {n B : Nat} {w0 w : World} {β : List Nat} {l : En} {H : VH} {a : Act} (hR : Rel Ds n w0 B β l H a w) (i : Nat) {b : Nat} {cs : List SV} {T : TypeId} {us : List Value} (hi : H[i]? = some (cs, T)) (hb : β.getD i 0 = b) (hu : cs.map (SV.den β) = us) : Pt w ⟨b, 0, none⟩ us := by
  have := hR.vars.blk i cs T hi
  rw [hb, hu] at this
  exact blk_cells this

/-- The place of the first element that p holds for, or -1. -/
def idxF {α : Type} (p : α → Bool) : List α → Int
  | [] => -1
  | x :: l => if p x then 0 else let i := idxF p l; if i < 0 then -1 else i + 1
def noneTo {α : Type} (p : α → Bool) (l : List α) (j : Nat) : Prop := ∀ i x, i < j → l[i]? = some x → p x = false
theorem noneTo_zero {α : Type} (p : α → Bool) (l : List α) : noneTo p l 0 := fun i x h => by omega
theorem noneTo_succ {α : Type} {p : α → Bool} {l : List α} {j : Nat} {x : α} (h : noneTo p l j) (hx : l[j]? = some x) (hp : p x = false) : noneTo p l (j + 1) := fun i y hi hy => by
  by_cases e : i = j
  · subst e; rw [hx] at hy; cases hy; exact hp
  · exact h i y (by omega) hy
theorem idxF_found {α : Type} {p : α → Bool} : ∀ {l : List α} {j : Nat} {x : α}, noneTo p l j → l[j]? = some x → p x = true → idxF p l = j
  | [], j, x, _, hx, _ => by simp at hx
  | y :: l, 0, x, h, hx, hp => by simp at hx; subst hx; simp [idxF, hp]
  | y :: l, j + 1, x, h, hx, hp => by
    have h0 := h 0 y (by omega) rfl
    have ih := idxF_found (p := p) (l := l) (j := j) (x := x) (fun i z hi hz => h (i + 1) z (by omega) (by simpa using hz)) (by simpa using hx) hp
    simp only [idxF, h0, ih]
    simp
    omega
theorem idxF_none {α : Type} {p : α → Bool} : ∀ {l : List α}, noneTo p l l.length → idxF p l = -1
  | [], _ => rfl
  | y :: l, h => by
    have h0 := h 0 y (by simp) rfl
    have ih := idxF_none (p := p) (l := l) (fun i z hi hz => h (i + 1) z (by simpa using hi) (by simpa using hz))
    simp [idxF, h0, ih]
theorem idxF_any {α : Type} (p : α → Bool) : ∀ l : List α, decide (idxF p l ≥ 0) = l.any p
  | [] => rfl
  | y :: l => by
    have ih := idxF_any p l
    by_cases h : p y = true
    · simp [idxF, h]
    · simp only [idxF, h, List.any_cons, Bool.false_or, ← ih]
      by_cases h2 : idxF p l < 0
      · simp [h2]
      · simp [h2]; omega
theorem idxF_range {α : Type} (p : α → Bool) : ∀ l : List α, -1 ≤ idxF p l ∧ idxF p l < (l.length : Int) ∨ idxF p l = -1
  | [] => .inr rfl
  | y :: l => by
    have ih := idxF_range p l
    by_cases h : p y = true
    · left; simp [idxF, h]
    · by_cases h2 : idxF p l < 0
      · right; simp [idxF, h, h2]
      · left; simp only [idxF, h, h2, List.length_cons]; simp; omega

/-- What a call keeps that writes into the blocks β0 (its captured variables) and into the row X: all other blocks of its first world. -/
structure Kept (β0 : List Nat) (X : Option Nat) (w0 : World) (β : List Nat) (w : World) : Prop where
  os : w.os = w0.os
  tape : w.tape = w0.tape
  output : w.output = w0.output
  size : w0.heap.size ≤ w.heap.size
  mem : ∀ b ∈ β, b ∈ β0 ∨ w0.heap.size ≤ b
  block : ∀ i, i < w0.heap.size → i ∉ β0 → X ≠ some i → w.heap[i]? = w0.heap[i]?

section
variable {β0 β : List Nat} {X : Option Nat} {w0 w w' : World}
theorem Kept.refl (β0 : List Nat) (X : Option Nat) (w : World) : Kept β0 X w β0 w := ⟨rfl, rfl, rfl, Nat.le_refl _, fun b h => .inl h, fun _ _ _ _ => rfl⟩
theorem Kept.own (h : Kept β0 X w0 β w) (ho : Own β w w') : Kept β0 X w0 β w' :=
  ⟨ho.os.trans h.os, ho.tape.trans h.tape, ho.output.trans h.output, by rw [ho.size]; exact h.size, h.mem, fun i hi h0 hX => by
    rw [ho.block i (fun hm => by rcases h.mem i hm with hm | hm; exact h0 hm; omega)]; exact h.block i hi h0 hX⟩
theorem Kept.below (h : Kept β0 X w0 β w) (hb : Below w.heap.size w w') : Kept β0 X w0 β w' :=
  ⟨hb.os.trans h.os, hb.tape.trans h.tape, hb.output.trans h.output, Nat.le_trans h.size hb.size, h.mem, fun i hi h0 hX => by
    rw [hb.block i (Nat.lt_of_lt_of_le hi h.size)]; exact h.block i hi h0 hX⟩
theorem Kept.new (h : Kept β0 X w0 β w) {b : Nat} (hb : w.heap.size = b) (hg : Below w.heap.size w w') : Kept β0 X w0 (β ++ [b]) w' := by
  have := h.below hg
  refine ⟨this.os, this.tape, this.output, this.size, fun c hc => ?_, this.block⟩
  simp only [List.mem_append, List.mem_singleton] at hc
  rcases hc with hc | rfl
  · exact h.mem c hc
  · have := h.size; exact .inr (by omega)
theorem Kept.trim (h : Kept β0 X w0 β w) (m : Nat) {γ : List Nat} (hγ : β.take m = γ) : Kept β0 X w0 γ w :=
  ⟨h.os, h.tape, h.output, h.size, fun b hb => h.mem b (by rw [← hγ] at hb; exact List.mem_of_mem_take hb), h.block⟩
theorem Kept.grown (h : Kept β0 X w0 β w) {row : Option Nat} (hg : w.grownBy w' row) (hr : ∀ b, row = some b → X = some b ∨ w0.heap.size ≤ b) : Kept β0 X w0 β w' :=
  ⟨hg.os.trans h.os, hg.tape.trans h.tape, hg.output.trans h.output, Nat.le_trans h.size hg.size, h.mem, fun i hi h0 hX => by
    rw [hg.block i (Nat.lt_of_lt_of_le hi h.size) (fun e => by rcases hr i e.symm with e | e; exact hX e; omega)]; exact h.block i hi h0 hX⟩
end

/-- The reading of a slice that came in, where all that lies below B has stayed. -/
theorem Rd.belowB {α : Type} {w w' : World} {B k : Nat} {enc : α → List Value} {A : Option Addr} {l : List α} (h : Rd w k enc A l) (hb : Below B w w') (hA : l ≠ [] → ∀ ad, A = some ad → ad.block < B) : Rd w' k enc A l := by
  intro i x hx
  obtain ⟨ad, ha, hc⟩ := h i x hx
  refine ⟨ad, ha, fun j u hu => ?_⟩
  have := hc j u hu
  refine cell_below hb this ?_
  have h2 := hA (by rintro rfl; simp at hx) ad ha
  simpa [addr_add_block] using h2

theorem Rd.lt {α : Type} {w : World} {k : Nat} {enc : α → List Value} {A : Option Addr} {l : List α} (h : Rd w k enc A l) (hk : ∀ x, (enc x).length = k) (hk0 : 0 < k) : l ≠ [] → ∀ ad, A = some ad → ad.block < w.heap.size := by
  intro hl ad ha
  cases l with
  | nil => exact absurd rfl hl
  | cons x r =>
    obtain ⟨ad', ha', hc⟩ := h 0 x rfl
    have h1 : (enc x)[0]? = some ((enc x)[0]'(by rw [hk]; exact hk0)) := List.getElem?_eq_getElem _
    have h2 := cell_lt (hc 0 _ h1)
    rw [ha] at ha'
    injection ha' with ha'
    subst ha'
    simpa [addr_add_block] using h2

/-- Only the block bo and the row X have changed. -/
structure Chg (bo : Nat) (X : Option Nat) (w w' : World) : Prop where
  os : w'.os = w.os
  tape : w'.tape = w.tape
  output : w'.output = w.output
  size : w.heap.size ≤ w'.heap.size
  block : ∀ i, i < w.heap.size → i ≠ bo → X ≠ some i → w'.heap[i]? = w.heap[i]?
theorem Kept.chg {bo : Nat} {X : Option Nat} {w w' : World} {β : List Nat} (h : Kept [bo] X w β w') : Chg bo X w w' :=
  ⟨h.os, h.tape, h.output, h.size, fun i hi h0 hX => h.block i hi (by simpa using h0) hX⟩
theorem Kept.chg2 {bl bo : Nat} {X : Option Nat} {w w' : World} {β : List Nat} (h : Kept [bl, bo] X w β w') (hb : w'.heap[bl]? = w.heap[bl]?) : Chg bo X w w' :=
  ⟨h.os, h.tape, h.output, h.size, fun i hi h0 hX => by
    by_cases e : i = bl
    · rw [e]; exact hb
    · exact h.block i hi (by simp [e, h0]) hX⟩
/-- Where a row lies that began at X. -/
def From (w : World) (X : Option Nat) (A : Option Addr) : Prop := ∀ a, A = some a → X = some a.block ∨ w.heap.size ≤ a.block
theorem From.refl {w : World} {A : Option Addr} {n c : Nat} : From w (Value.slice A n c).ownBlock A := fun a ha => .inl (by rw [ha]; rfl)
theorem From.app {w w1 : World} {X : Option Nat} {A A2 : Option Addr} {n c n2 c2 : Nat} (h : From w X A) (hs : w.heap.size ≤ w1.heap.size) (hat : (Value.slice A2 n2 c2).ownBlock = (Value.slice A n c).ownBlock ∨ (Value.slice A2 n2 c2).ownBlock = some w1.heap.size) : From w X A2 := by
  intro a ha
  subst ha
  rcases hat with hat | hat
  · cases A with
    | none => simp [Value.ownBlock] at hat
    | some b => simp only [Value.ownBlock, Option.some.injEq] at hat; rw [hat]; exact h b rfl
  · simp only [Value.ownBlock, Option.some.injEq] at hat; right; omega
theorem From.own {w : World} {X : Option Nat} {A : Option Addr} (h : From w X A) {n c : Nat} : ∀ b, (Value.slice A n c).ownBlock = some b → X = some b ∨ w.heap.size ≤ b := by
  intro b hb
  cases A with
  | none => simp [Value.ownBlock] at hb
  | some a => simp only [Value.ownBlock, Option.some.injEq] at hb; rw [← hb]; exact h a rfl

section
variable {α : Type} {P : Program} {n B : Nat} {w0 : World} {β : List Nat} {ops : Array Oper} {Q : Exit → Act → World → Prop} {l : En} {H : VH} {a : Act} {w w' : World}
/-- A call that changes one of our local variables, and a row. -/
theorem callChg {i : Nat} {d : Option Tmp} {op : Op} {ty : TypeId} {g : Option (Nat × Bool)} (f : FuncId) (vs : Array Value) (v : Value) {C : List Value → World → Prop} {X : Option Nat} (k : Nat) {bo : Nat} {cs0 : List SV} {T : TypeId} (hR : Rel Ds n w0 B β l H a w) (ho : opAt ops i = some (d, op, ty, g)) (hg : wantG ops g l = some true)
    (hk : (dstOk n d && (simpleOp op && op.operands.toList.all (known l))) = true) (hp : pureOf P (KW.X β l op ty) = some (.enter f vs)) (hB : B ≤ w.heap.size) (hb : β.getD k 0 = bo) (hT : H[k]? = some (cs0, T)) (hX : ∀ b, X = some b → B ≤ b ∧ b ∉ β)
    (hc : Calls P f vs w fun e w' => e = .returned v ∧ ∃ us, w'.heap[bo]? = some (.cells us.toArray T (0, 0)) ∧ Chg bo X w w' ∧ C us w')
    (h : ∀ us a' w', C us w' → Chg bo X w w' → Rel Ds n w0 B β (puts l d (.v v)) (setH H k (us.map .v)) a' w' → At P ops Q (i + 1) a' w') : At P ops Q i a w := by
  refine callG hR ho hg hk hp hc ?_
  rintro e w' ⟨rfl, us, hu, hch, hC⟩
  have hV := hR.vars
  have hkl : k < H.length := (List.getElem?_eq_some_iff.1 hT).1
  have hkb : k < β.length := by rw [hV.len]; exact hkl
  have hmem : bo ∈ β := by rw [← hb]; simp [List.getD_eq_getElem?_getD, List.getElem?_eq_getElem hkb]
  refine ⟨.v v, setH H k (us.map .v), rfl, ⟨by rw [setH_length]; exact hV.len, hV.nodup, hV.ge, ?_⟩, ?_, fun a' hR' => h us a' w' hC hch hR'⟩
  · intro j cs T' hj
    rw [setH_get] at hj
    by_cases e : k = j
    · subst e
      rw [if_pos rfl, hT] at hj
      simp only [Option.map_some, Option.some.injEq, Prod.mk.injEq] at hj
      obtain ⟨rfl, rfl⟩ := hj
      rw [hb, hu]
      simp [List.map_map, Function.comp_def, SV.den]
    · rw [if_neg e] at hj
      have h1 := hV.blk j cs T' hj
      have hj' : j < β.length := by rw [hV.len]; exact (List.getElem?_eq_some_iff.1 hj).1
      have hjm : β.getD j 0 ∈ β := by simp [List.getD_eq_getElem?_getD, List.getElem?_eq_getElem hj']
      rw [hch.block _ (hV.lt _ hjm) (fun e2 => e (getD_inj hV.nodup hkb hj' (by rw [hb, e2]))) (fun e2 => (hX _ e2).2 hjm)]
      exact h1
  · exact hR.below.trans ⟨hch.os, hch.tape, hch.output, hch.size, fun i hi => hch.block i (Nat.lt_of_lt_of_le hi hB) (fun e => by have := hV.ge bo hmem; omega) (fun e => by have := (hX _ e).1; omega)⟩

theorem gets_map (γ : List Nat) : ∀ (l : En) (i : Nat), gets (l.map fun x => (x.1, SV.v (x.2.den γ))) i = (gets l i).map fun s => SV.v (s.den γ)
  | [], i => rfl
  | (k, s) :: l, i => by
    simp only [List.map_cons, gets_cons, gets_map γ l i]
    by_cases e : k = i <;> simp [e]

/-- A closure's begin: captured variables are local variables from the start. -/
theorem enterV {f : FuncId} {fn : Func} {c : Code} {args : Array Value} {R : Ending → World → Prop} (B : Nat) (l0 l : En) (hV : Vars B β H w) (hf : P.funcs[f]? = some fn) (hb : fn.body = some c)
    (hl : ∃ m : Nat, m = fn.ntmps ∧ (args.toList.zipIdx.map fun x => (x.2, SV.v x.1)) = l0 ∧ Nat.ble args.size m = true) (hd : (l.map fun x => (x.1, SV.v (x.2.den β))) = l0)
    (h : ∀ a, Rel [] fn.ntmps w B β l H a w → c.wp P (bodyPost P fn R) a w) : Calls P f args w R := by
  refine enter l0 hf hb hl fun a hR => h a ⟨⟨hR.fr.defers, hR.fr.size, fun i s hi => ?_⟩, hV, Below.refl _ _⟩
  have := hR.fr.get i (.v (s.den β)) (by rw [← hd, gets_map, hi]; rfl)
  exact this

theorem Row.chg {lo : Nat} {e : TypeId} {k : Nat} {enc : α → List Value} {A : Option Addr} {c : Nat} {xs : List α} {bo : Nat} {X : Option Nat} (h : Row w β lo e k enc A c xs) (hb : bo ∈ β) (hch : Chg bo X w w') (hX : ∀ a, A = some a → X ≠ some a.block) : Row w' β lo e k enc A c xs := by
  refine ⟨?_, h.sep⟩
  obtain ⟨h1, h2⟩ := h.own
  refine ⟨h1, ?_⟩
  rcases h2 with h2 | ⟨g, cap, cur, hv, hg, hh, r⟩
  · exact .inl h2
  · refine .inr ⟨g, cap, cur, hv, hg, ?_, r⟩
    have hA : A = some ⟨g, 0, none⟩ := by injection hv
    rw [hch.block g (Array.getElem?_eq_some_iff.1 hh).1 (fun e => h.sep g (by rw [hA]; rfl) (e ▸ hb)) (hX _ hA)]
    exact hh
/-- A row that a closure has grown lies apart from all our local variables. -/
theorem Row.apart {lo : Nat} {e : TypeId} {k : Nat} {enc : α → List Value} {A : Option Addr} {c : Nat} {xs : List α} {γ : List Nat} {X : Option Nat} (h : Row w' γ lo e k enc A c xs) (hf : From w X A) (hX : ∀ b, X = some b → b ∉ β) (hlt : ∀ b ∈ β, b < w.heap.size) : Row w' β lo e k enc A c xs :=
  ⟨h.own, fun g hg hm => by
    rcases hf.own g hg with e | e
    · exact hX g e hm
    · have := hlt g hm; omega⟩
end

/-- The text of a literal of bytes. -/
theorem run_conv_lit {P : Program} {β : List Nat} {l : En} {src dst e ty : TypeId} {x : Operand} {b len : Nat} {w : World} {T : TypeId} {fr : Nat × Nat} (xs : List Int) (hx : evV β l x = .slice (some ⟨b, 0, none⟩) len len) (hs : P.underlying src = some (.slice e)) (he : P.underlying e = some (.int .u8)) (hd : P.underlying dst = some .string) (hlen : xs.length = len)
    (hk : w.heap[b]? = some (.cells (xs.map (Value.int .u8)).toArray T fr)) : (KW.X β l (.convert src dst x) ty).run P w = .ok (.value (.string (strOfNums xs))) w := by
  simp only [KW.X, execOp, Sem.run_bind, hx]
  have := run_convert_bytes_arg (P := P) w src e hs he b 0 len len xs hlen (fun i hi => by
    have h1 := blk_cells hk i (.int .u8 (xs.getD i 0)) (by
      rw [List.getElem?_map, List.getElem?_eq_getElem (by omega)]
      simp [List.getD, List.getElem?_eq_getElem (show i < xs.length by omega)])
    rwa [addr_add] at h1) dst hd
  rw [this]
  rfl
theorem run_str_add {P : Program} {β : List Nat} {l : En} {T t2 ty : TypeId} {x y : Operand} {s t : ByteArray} {w : World} (hx : evV β l x = .string s) (hy : evV β l y = .string t) (h : s.size + t.size ≤ 9223372036854775807) : (KW.X β l (.binOp .add T x y t2) ty).run P w = .ok (.value (.string (s ++ t))) w := by
  have h1 := run_string_add_sum (P := P) (w := w) s t h
  simp only [KW.X, execOp, Sem.run_bind, hx, hy, eqGuard, Bool.not_false, if_true, Sem.run_pure, Result.andThen_ok, binOp, h1]
end Go.KW

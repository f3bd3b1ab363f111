/- A small logic for walks: a frame as a list of slots, local variables in memory as a list of blocks; runs of operations are reckoned by the kernel. -/
import Derived.WalkKit
import Derived.KernelRfl
import Derived.Deep.LoopGhost
import Derived.Laws.Tables
import Derived.Laws.Rows
import Derived.Below
import Derived.Deep.Quiet
set_option linter.unusedVariables false
set_option linter.unusedSimpArgs false
namespace Go.KW
open Go.RowKit
variable {Ds : List Deferred}

/-! ### Operations that neither read nor write memory -/
def pureOf {α : Type} (P : Program) : Sem α → Option α
  | .pure a => some a
  | .program k => pureOf P (k P)
  | .mark _ k => pureOf P k
  | _ => none

theorem run_of_pureOf {α : Type} (P : Program) : ∀ (s : Sem α) (v : α), pureOf P s = some v → ∀ w, s.run P w = .ok v w := by
  intro s
  induction s with
  | pure a => intro v h w; simp only [pureOf, Option.some.injEq] at h; subst h; rfl
  | program k ih => intro v h w; exact ih P v h w
  | mark m k ih => intro v h w; exact ih v h w
  | _ => intro v h; simp [pureOf] at h

/-! ### The frame -/
/-- What a slot holds: a value, or the address of one of the call's own local variables. -/
inductive SV where
  | v (x : Value)
  | p (i off : Nat)

def SV.den (β : List Nat) : SV → Value
  | .v x => x
  | .p i off => .pointer (some ⟨β.getD i 0, off, none⟩)

abbrev En := List (Nat × SV)
abbrev VH := List (List SV × TypeId)

def gets : En → Nat → Option SV
  | [], _ => none
  | (k, s) :: r, t => bif Nat.beq k t then some s else gets r t

def puts (l : En) (d : Option Tmp) (s : SV) : En := match d with | some d => (d, s) :: l | none => l

def pick (ks : List Nat) (l : En) : Option En :=
  match ks with
  | [] => some []
  | k :: r => match gets l k, pick r l with
    | some s, some m => some ((k, s) :: m)
    | _, _ => none

def evS (l : En) : Operand → Option SV
  | .tmp t => gets l t
  | .const v => some (.v v)
  | .global g => some (.v (.pointer (some ⟨g, 0, none⟩)))
  | .func f => some (.v (.func (.func f) #[] #[]))

def evV (β : List Nat) (l : En) (x : Operand) : Value := match evS l x with | some s => s.den β | none => undef

def known (l : En) (x : Operand) : Bool := (evS l x).isSome

/-- The frame a holds what l says. -/
structure Fr (Ds : List Deferred) (n : Nat) (β : List Nat) (l : En) (a : Act) : Prop where
  defers : a.defers = Ds
  size : a.tmps.size = n
  get : ∀ i s, gets l i = some s → a.tmps[i]? = some (s.den β)

theorem Fr.eval {n : Nat} {β : List Nat} {l : En} {a : Act} (h : Fr Ds n β l a) {x : Operand} {s : SV} (hx : evS l x = some s) : a.eval x = s.den β := by
  cases x with
  | tmp t =>
    have := h.get t s hx
    simp [Act.eval, this]
  | const v => simp only [evS, Option.some.injEq] at hx; subst hx; rfl
  | global g => simp only [evS, Option.some.injEq] at hx; subst hx; rfl
  | func f => simp only [evS, Option.some.injEq] at hx; subst hx; rfl

theorem Fr.evalV {n : Nat} {β : List Nat} {l : En} {a : Act} (h : Fr Ds n β l a) {x : Operand} (hx : known l x = true) : a.eval x = evV β l x := by
  unfold known at hx
  obtain ⟨s, hs⟩ := Option.isSome_iff_exists.1 hx
  rw [h.eval hs]
  simp [evV, hs]

theorem gets_cons (k : Nat) (s : SV) (l : En) (i : Nat) : gets ((k, s) :: l) i = if k = i then some s else gets l i := by
  show (bif Nat.beq k i then some s else gets l i) = _
  by_cases h : k = i
  · subst h; simp
  · have : Nat.beq k i = false := by
      rw [Bool.eq_false_iff]
      intro e
      exact h (Nat.eq_of_beq_eq_true e)
    simp [this, h]

theorem Fr.put {n : Nat} {β : List Nat} {l : En} {a : Act} (h : Fr Ds n β l a) (d : Option Tmp) (s : SV) (hd : ∀ k, d = some k → k < n) : Fr Ds n β (puts l d s) (a.put d (s.den β)) := by
  cases d with
  | none => exact h
  | some k =>
    refine ⟨h.defers, by simp [Act.put, h.size], ?_⟩
    intro i t hi
    simp only [puts, gets_cons] at hi
    simp only [Act.put]
    have hk : k < a.tmps.size := by rw [h.size]; exact hd k rfl
    by_cases e : k = i
    · subst e
      simp only [if_true, Option.some.injEq] at hi
      subst hi
      simp [Array.getElem?_setIfInBounds, hk]
    · simp only [e, if_false] at hi
      rw [Array.getElem?_setIfInBounds, if_neg e]
      exact h.get i t hi

theorem gets_pick : ∀ (ks : List Nat) (l m : En), pick ks l = some m → ∀ i s, gets m i = some s → gets l i = some s := by
  intro ks
  induction ks with
  | nil => intro l m h i s hi; simp only [pick, Option.some.injEq] at h; subst h; simp [gets] at hi
  | cons k r ih =>
    intro l m h i s hi
    simp only [pick] at h
    cases hk : gets l k with
    | none => simp [hk] at h
    | some t =>
      cases hr : pick r l with
      | none => simp [hk, hr] at h
      | some m' =>
        simp only [hk, hr, Option.some.injEq] at h
        subst h
        rw [gets_cons] at hi
        by_cases e : k = i
        · subst e; simp only [if_true, Option.some.injEq] at hi; subst hi; exact hk
        · simp only [e, if_false] at hi; exact ih l m' hr i s hi

theorem Fr.pick {n : Nat} {β : List Nat} {l m : En} {a : Act} (h : Fr Ds n β l a) {ks : List Nat} (hp : pick ks l = some m) : Fr Ds n β m a :=
  ⟨h.defers, h.size, fun i s hi => h.get i s (gets_pick ks l m hp i s hi)⟩

/-! ### An operation hangs on its operands alone -/
theorem map_congr_mem {α β : Type} (f g : α → β) (xs : Array α) (h : ∀ x ∈ xs, f x = g x) : xs.map f = xs.map g :=
  Array.map_congr_left h

theorem resolve_congr {ρ ρ' : Operand → Value} (c : Call) (ty : TypeId) (h : ∀ x ∈ c.operands, ρ x = ρ' x) : resolve ρ c ty = resolve ρ' c ty := by
  obtain ⟨callee, args, ts⟩ := c
  have ha : args.map ρ = args.map ρ' := map_congr_mem _ _ _ fun x hx => h x (by simp [Call.operands, hx])
  cases callee with
  | builtin b => simp only [resolve, ha]
  | invoke r nm => simp only [resolve, ha, h r (by simp [Call.operands])]
  | value f => simp only [resolve, ha, h f (by simp [Call.operands])]

def simpleOp : Op → Bool
  | .select .. | .send .. | .recv .. | .go .. | .defer .. => false
  | _ => true

theorem parts_congr {ρ ρ' : Operand → Value} (ps : Array (Nat × Operand)) (h : ∀ x ∈ (ps.toList.map (·.2)).toArray, ρ x = ρ' x) : (ps.map fun (i, x) => (i, ρ x)) = ps.map fun (i, x) => (i, ρ' x) := by
  refine Array.map_congr_left fun p hp => ?_
  obtain ⟨i, x⟩ := p
  have : ρ x = ρ' x := h x (by simpa using ⟨i, hp⟩)
  show (i, ρ x) = (i, ρ' x)
  rw [this]

theorem opt_congr {ρ ρ' : Operand → Value} (x : Option Operand) (h : ∀ y ∈ x.toArray, ρ y = ρ' y) : x.map ρ = x.map ρ' := by
  cases x with
  | none => rfl
  | some y => simp [h y (by simp)]

theorem execOp_congr {ρ ρ' : Operand → Value} (o : Oper) (hs : simpleOp o.op = true) (h : ∀ x ∈ o.op.operands, ρ x = ρ' x) : execOp ρ o = execOp ρ' o := by
  obtain ⟨dst, op, type, pos, after, guard⟩ := o
  cases op <;> simp only [simpleOp, Bool.false_eq_true] at hs <;> simp only [Op.operands] at h
  case call c => simp only [execOp, resolve_congr c type h]
  case build t ps => simp only [execOp, parts_congr ps h]
  case buildSlice t len ps => simp only [execOp, parts_congr ps h]
  case makeFunc fn first captured =>
    have h1 : first.map ρ = first.map ρ' := map_congr_mem _ _ _ fun x hx => h x (by simp [hx])
    have h2 : captured.map ρ = captured.map ρ' := map_congr_mem _ _ _ fun x hx => h x (by simp [hx])
    simp only [execOp, h1, h2]
  case makeMap t r => simp only [execOp, opt_congr r h]
  case slice t x lo hi mx =>
    have h1 : ρ x = ρ' x := h x (by simp)
    have h2 := opt_congr (ρ := ρ) (ρ' := ρ') lo fun y hy => h y (by simp only [Array.mem_append]; exact .inl (.inl (.inr hy)))
    have h3 := opt_congr (ρ := ρ) (ρ' := ρ') hi fun y hy => h y (by simp only [Array.mem_append]; exact .inl (.inr hy))
    have h4 := opt_congr (ρ := ρ) (ρ' := ρ') mx fun y hy => h y (by simp only [Array.mem_append]; exact .inr hy)
    simp only [execOp, h1, h2, h3, h4]
  all_goals first
    | rfl
    | (simp only [execOp]; simp only [h _ (by simp : _ ∈ (#[_] : Array Operand))])
    | (simp at h; simp only [execOp, h])
    | (simp at h; obtain ⟨h1, h2⟩ := h; simp only [execOp, h1, h2])
    | (simp at h; obtain ⟨h1, h2, h3⟩ := h; simp only [execOp, h1, h2, h3])

/-! ### Local variables in memory -/
structure Vars (B : Nat) (β : List Nat) (H : VH) (w : World) : Prop where
  len : β.length = H.length
  nodup : β.Nodup
  ge : ∀ b ∈ β, B ≤ b
  blk : ∀ i cs T, H[i]? = some (cs, T) → w.heap[β.getD i 0]? = some (.cells (cs.map (SV.den β)).toArray T (0, 0))

def fieldOff (P : Program) (T : TypeId) (f : Nat) : Option Nat :=
  match P.underlying T with
  | some (.struct fs) => match fs[f]? with
    | some fd => match P.info? fd.type with
      | some i => bif Nat.beq i.size 0 then none else some fd.offset
      | none => none
    | none => none
  | _ => none

def aggOf (P : Program) (T : TypeId) : Option Bool :=
  match P.underlying T with
  | some (.struct _) => some true
  | some (.array _ _) => some true
  | some _ => some false
  | none => none

def sizeOfT (P : Program) (T : TypeId) : Option Nat := (P.info? T).map (·.size)

def denAll (β : List Nat) : List SV → List Value
  | [] => []
  | s :: r => s.den β :: denAll β r
theorem denAll_eq (β : List Nat) (l : List SV) : denAll β l = l.map (SV.den β) := by induction l with
  | nil => rfl
  | cons s r ih => simp [denAll, ih]

def takeN : Nat → List SV → Option (List SV)
  | 0, _ => some []
  | _ + 1, [] => none
  | n + 1, s :: r => match takeN n r with | some m => some (s :: m) | none => none
def dropN : Nat → List SV → List SV
  | 0, l => l
  | _ + 1, [] => []
  | n + 1, _ :: r => dropN n r

def loadS (P : Program) (β : List Nat) (T : TypeId) (cs : List SV) (off : Nat) : Option SV :=
  match aggOf P T with
  | some true => match sizeOfT P T with
    | some n => match takeN n (dropN off cs) with
      | some r => some (.v (.agg (denAll β r).toArray))
      | none => none
    | none => none
  | some false => (dropN off cs).head?
  | none => none

def one (s : SV) : Bool := match s with | .p _ _ => true | .v x => x.oneCell'

def cellsS : SV → List SV
  | .v (.agg cs) => cs.toList.map .v
  | s => [s]

def writeN : Nat → List SV → List SV → Option (List SV)
  | 0, [], l => some l
  | 0, _ :: _, [] => none
  | 0, x :: xs, _ :: r => match writeN 0 xs r with | some m => some (x :: m) | none => none
  | _ + 1, _, [] => none
  | n + 1, xs, y :: r => match writeN n xs r with | some m => some (y :: m) | none => none

def setH : VH → Nat → List SV → VH
  | [], _, _ => []
  | (_, T) :: r, 0, cs => (cs, T) :: r
  | x :: r, i + 1, cs => x :: setH r i cs

def storeS (P : Program) (T : TypeId) (H : VH) (i off : Nat) (s : SV) : Option VH :=
  match H[i]? with
  | some (cs, _) =>
    let xs := cellsS s
    match sizeOfT P T with
    | some n => bif Nat.beq xs.length n && xs.all one then
        match writeN off xs cs with | some m => some (setH H i m) | none => none
      else none
    | none => none
  | none => none

def pureStep (P : Program) (β : List Nat) (o : Oper) (l : En) : Option Value :=
  bif simpleOp o.op && o.op.operands.toList.all (known l) then
    match pureOf P (execOp (evV β l) o) with
    | some (.value v) => some v
    | _ => none
  else none

/-- One operation: what its slot gets, and the local variables behind it. -/
def stepS (P : Program) (β : List Nat) (o : Oper) (l : En) (H : VH) : Option (SV × VH) :=
  match o.op with
  | .move x => (evS l x).map fun s => (s, H)
  | .assign x => (evS l x).map fun s => (s, H)
  | .nilCheck x => match evS l x with
    | some (.p i off) => some (.p i off, H)
    | _ => (pureStep P β o l).map fun v => (.v v, H)
  | .fieldAddr T x f => match evS l x with
    | some (.p i off) => (fieldOff P T f).map fun k => (.p i (off + k), H)
    | _ => (pureStep P β o l).map fun v => (.v v, H)
  | .load T x => match evS l x with
    | some (.p i off) => match H[i]? with
      | some (cs, _) => (loadS P β T cs off).map fun s => (s, H)
      | none => none
    | _ => none
  | .store T x y => match evS l x, evS l y with
    | some (.p i off), some s => (storeS P T H i off s).map fun H' => (.v undef, H')
    | _, _ => none
  | _ => (pureStep P β o l).map fun v => (.v v, H)

def wantS (ops : Array Oper) (o : Oper) (l : En) : Option Bool :=
  match o.guard with
  | none => some true
  | some (j, b) => match (ops[j]?).bind (·.dst) with
    | some d => match gets l d with
      | some (.v (.bool c)) => some (c == b)
      | _ => none
    | none => none

def dstOk (n : Nat) (d : Option Tmp) : Bool := match d with | some k => Nat.blt k n | none => true

def runS (P : Program) (n : Nat) (β : List Nat) (ops : Array Oper) : List Oper → En → VH → Option (En × VH)
  | [], l, H => some (l, H)
  | o :: rest, l, H =>
    bif dstOk n o.dst then
      match wantS ops o l with
      | some true => match stepS P β o l H with
        | some (s, H') => runS P n β ops rest (puts l o.dst s) H'
        | none => none
      | some false => runS P n β ops rest (puts l o.dst (.v undef)) H
      | none => none
    else none

/-- Nothing but the call's own local variables has changed. -/
structure Own (β : List Nat) (w w' : World) : Prop where
  os : w'.os = w.os
  tape : w'.tape = w.tape
  output : w'.output = w.output
  size : w'.heap.size = w.heap.size
  block : ∀ k, k ∉ β → w'.heap[k]? = w.heap[k]?
theorem Own.refl (β : List Nat) (w : World) : Own β w w := ⟨rfl, rfl, rfl, rfl, fun _ _ => rfl⟩
theorem Own.trans {β : List Nat} {a b c : World} (h : Own β a b) (k : Own β b c) : Own β a c :=
  ⟨k.os.trans h.os, k.tape.trans h.tape, k.output.trans h.output, k.size.trans h.size, fun i hi => (k.block i hi).trans (h.block i hi)⟩
theorem Own.below {β : List Nat} {w w' : World} (h : Own β w w') {B : Nat} (hB : ∀ b ∈ β, B ≤ b) : Below B w w' :=
  ⟨h.os, h.tape, h.output, by rw [h.size]; exact Nat.le_refl _, fun k hk => h.block k fun e => by have := hB k e; omega⟩

/-! ### Loads and stores -/
theorem takeN_eq : ∀ (n : Nat) (l r : List SV), takeN n l = some r → r = l.take n ∧ r.length = n
  | 0, l, r, h => by simp only [takeN, Option.some.injEq] at h; subst h; simp
  | n + 1, [], r, h => by simp [takeN] at h
  | n + 1, s :: l, r, h => by
    simp only [takeN] at h
    cases hm : takeN n l with
    | none => simp [hm] at h
    | some m =>
      simp only [hm, Option.some.injEq] at h
      subst h
      obtain ⟨h1, h2⟩ := takeN_eq n l m hm
      exact ⟨by rw [List.take_succ_cons, ← h1], by simp [h2]⟩
theorem dropN_eq : ∀ (n : Nat) (l : List SV), dropN n l = l.drop n
  | 0, l => rfl
  | n + 1, [] => by simp [dropN]
  | n + 1, s :: l => by simp only [dropN, List.drop_succ_cons]; exact dropN_eq n l
theorem writeN_eq : ∀ (n : Nat) (xs l m : List SV), writeN n xs l = some m → m = l.take n ++ xs ++ l.drop (n + xs.length) ∧ n + xs.length ≤ l.length
  | 0, [], l, m, h => by simp only [writeN, Option.some.injEq] at h; subst h; simp
  | 0, x :: xs, [], m, h => by simp [writeN] at h
  | 0, x :: xs, y :: r, m, h => by
    simp only [writeN] at h
    cases hm : writeN 0 xs r with
    | none => simp [hm] at h
    | some m' =>
      simp only [hm, Option.some.injEq] at h
      subst h
      obtain ⟨h1, h2⟩ := writeN_eq 0 xs r m' hm
      refine ⟨?_, by simp at h2 ⊢; omega⟩
      simp only [Nat.zero_add] at h1
      simp [h1]
  | n + 1, xs, [], m, h => by cases xs <;> simp [writeN] at h
  | n + 1, xs, y :: r, m, h => by
    have h' : (match writeN n xs r with | some m => some (y :: m) | none => none) = some m := by cases xs <;> simpa [writeN] using h
    cases hm : writeN n xs r with
    | none => simp [hm] at h'
    | some m' =>
      simp only [hm, Option.some.injEq] at h'
      subst h'
      obtain ⟨h1, h2⟩ := writeN_eq n xs r m' hm
      refine ⟨?_, by simp at h2 ⊢; omega⟩
      rw [h1, show n + 1 + xs.length = (n + xs.length) + 1 by omega]
      simp

theorem aggOf_run {P : Program} {T : TypeId} {b : Bool} (h : aggOf P T = some b) (w : World) : (isAgg T).run P w = .ok b w := by
  unfold aggOf at h
  unfold isAgg
  cases hu : P.underlying T with
  | none => simp [hu] at h
  | some d =>
    rw [Sem.run_bind, run_underlying hu w]
    cases d <;> simp_all
theorem sizeOfT_run {P : Program} {T : TypeId} {n : Nat} (h : sizeOfT P T = some n) (w : World) : (Go.sizeOf T).run P w = .ok n w := by
  unfold sizeOfT at h
  cases hq : P.info? T with
  | none => simp [hq] at h
  | some i => simp [hq] at h; subst h; simp [Go.sizeOf, typeInfo, hq]

theorem addr_add (b off i : Nat) : (⟨b, off, none⟩ : Addr).add i = ⟨b, off + i, none⟩ := by
  unfold Addr.add
  split <;> simp_all

theorem run_loadVar_blk {P : Program} {β : List Nat} {w : World} {b : Nat} {cs : List SV} {T T' : TypeId} {off : Nat} {s : SV}
    (hb : w.heap[b]? = some (.cells (cs.map (SV.den β)).toArray T' (0, 0))) (h : loadS P β T cs off = some s) : (loadVar T ⟨b, off, none⟩).run P w = .ok (s.den β) w := by
  have hcell : ∀ j, w.cell? ⟨b, j, none⟩ = (cs[j]?).map (SV.den β) := by intro j; simp [World.cell?, hb]
  unfold loadS at h
  cases ha : aggOf P T with
  | none => simp [ha] at h
  | some ag =>
    cases ag with
    | false =>
      simp only [ha, dropN_eq, List.head?_drop] at h
      have hc := hcell off
      rw [h] at hc
      simp only [loadVar, Sem.run_bind, aggOf_run ha w, Result.andThen_ok]
      simp [run_load, hc]
    | true =>
      cases hn : sizeOfT P T with
      | none => simp [ha, hn] at h
      | some n =>
        cases ht : takeN n (dropN off cs) with
        | none => simp [ha, hn, ht] at h
        | some r =>
          simp only [ha, hn, ht, Option.some.injEq] at h
          subst h
          obtain ⟨h1, h2⟩ := takeN_eq _ _ _ ht
          rw [dropN_eq] at h1
          have hl : (loadCells ⟨b, off, none⟩ (denAll β r).length).run P w = .ok (denAll β r).toArray w :=
            run_loadCells_list w ⟨b, off, none⟩ (denAll β r) (fun j v hv => by
              rw [addr_add, hcell]
              rw [denAll_eq, List.getElem?_map] at hv
              cases hj : r[j]? with
              | none => simp [hj] at hv
              | some x =>
                have hjn : j < n := by have := (List.getElem?_eq_some_iff.1 hj).1; omega
                have : cs[off + j]? = some x := by rw [h1, List.getElem?_take, if_pos hjn, List.getElem?_drop] at hj; exact hj
                rw [this]
                simp [hj] at hv
                simp [hv])
          have hlen : (denAll β r).length = n := by rw [denAll_eq]; simp [h2]
          rw [hlen] at hl
          simp only [loadVar, Sem.run_bind, aggOf_run ha w, Result.andThen_ok, if_true, sizeOfT_run hn w, hl]
          rfl

theorem run_storeN {P : Program} (g off : Nat) (t : TypeId) : ∀ (vs : List Value) (i : Nat) (cur : Array Value) (w : World), w.heap[g]? = some (.cells cur t (0, 0)) → off + i + vs.length ≤ cur.size → (∀ v ∈ vs, v.oneCell' = true) →
    (storeCells ⟨g, off, none⟩ vs i).run P w = .ok () (w.setRow g (cur.toList.take (off + i) ++ vs ++ cur.toList.drop (off + i + vs.length)).toArray)
  | [], i, cur, w, hg, hl, _ => by
    have e : (cur.toList.take (off + i) ++ [] ++ cur.toList.drop (off + i + ([] : List Value).length)) = cur.toList := by simp
    have hlt : g < w.heap.size := (Array.getElem?_eq_some_iff.1 hg).1
    have hv : w.heap[g] = .cells cur t (0, 0) := (Array.getElem?_eq_some_iff.1 hg).2
    simp only [storeCells, e, Array.toArray_toList]
    show Result.ok () w = _
    congr 1
    unfold World.setRow
    cases w with
    | mk heap tape drawn os output =>
      congr 1
      apply Array.ext
      · simp
      · intro k h1 h2
        simp only [Array.getElem_modify]
        split
        · rename_i hk; subst hk; simp at hv; simp [hv]
        · rfl
  | v :: rest, i, cur, w, hg, hl, h1 => by
    have hi : off + i < cur.size := by simp at hl; omega
    have hcell : w.cell? ⟨g, off + i, none⟩ = some cur[off + i] := by simp [World.cell?, hg, hi]
    have hfro : w.frozen? ⟨g, off + i, none⟩ = false := by simp [World.frozen?, hg]
    have hst : (store ((⟨g, off, none⟩ : Addr).add i) v).run P w = .ok () (w.setRow g (cur.setIfInBounds (off + i) v)) := by
      rw [addr_add, run_store P w _ v _ (h1 v (by simp)), hcell]
      simp [hfro, setCell_eq_setRow w g (off + i) cur t (0, 0) v hg]
    have ih := run_storeN (P := P) g off t rest (i + 1) (cur.setIfInBounds (off + i) v) (w.setRow g (cur.setIfInBounds (off + i) v)) (setRow_heap w g cur _ t _ hg) (by simp at hl ⊢; omega) (fun x hx => h1 x (by simp [hx]))
    simp only [storeCells, Sem.run_bind, hst, Result.andThen_ok, ih, setRow_setRow]
    congr 3
    apply List.ext_getElem?
    intro k
    simp only [Array.toList_setIfInBounds, List.getElem?_append, List.length_take, List.length_set, Array.length_toList, List.length_append, List.length_cons, List.getElem?_drop, List.getElem?_take, List.getElem?_set]
    by_cases hk : k < off + i
    · simp [hk, show k < off + (i + 1) by omega, show k < off + i + (rest.length + 1) by omega, show min (off + (i + 1)) cur.size = off + (i + 1) by omega, show min (off + i) cur.size = off + i by omega, show off + i ≠ k by omega, show k < off + (i + 1) + rest.length by omega]
    · by_cases hk2 : k = off + i
      · subst hk2
        simp [show min (off + (i + 1)) cur.size = off + (i + 1) by omega, show min (off + i) cur.size = off + i by omega, show off + i < off + (i + 1) by omega, show off + i < off + (i + 1) + rest.length by omega, hi]
      · have e1 : min (off + (i + 1)) cur.size = off + (i + 1) := by omega
        have e2 : min (off + i) cur.size = off + i := by omega
        by_cases hk3 : k < off + i + (rest.length + 1)
        · simp [e1, e2, hk, show ¬ k < off + (i + 1) by omega, show k < off + (i + 1) + rest.length by omega, hk3, show k - (off + i) = (k - (off + (i + 1))) + 1 by omega]
        · have e3 : k - (off + (i + 1) + rest.length) = k - (off + i + (rest.length + 1)) := by omega
          simp [e1, e2, hk, show ¬ k < off + (i + 1) by omega, show ¬ k < off + (i + 1) + rest.length by omega, hk3, e3, show off + i ≠ off + (i + 1) + rest.length + (k - (off + i + (rest.length + 1))) by omega, show off + (i + 1) + rest.length + (k - (off + i + (rest.length + 1))) = k by omega, show off + i + (rest.length + 1) + (k - (off + i + (rest.length + 1))) = k by omega, show ¬ (off + i = k) by omega]

/-! ### A run of operations -/
theorem getD_inj {β : List Nat} (h : β.Nodup) {i j : Nat} (hi : i < β.length) (hj : j < β.length) (e : β.getD i 0 = β.getD j 0) : i = j := by
  simp only [List.getD_eq_getElem?_getD, List.getElem?_eq_getElem hi, List.getElem?_eq_getElem hj, Option.getD_some] at e
  have h' := List.pairwise_iff_getElem.1 h
  rcases Nat.lt_trichotomy i j with hlt | heq | hgt
  · exact absurd e (h' i j hi hj hlt)
  · exact heq
  · exact absurd e.symm (h' j i hj hi hgt)

theorem setH_get : ∀ (H : VH) (i : Nat) (cs : List SV) (j : Nat), (setH H i cs)[j]? = if i = j then (H[j]?).map (fun x => (cs, x.2)) else H[j]?
  | [], i, cs, j => by simp [setH]
  | (x, T) :: r, 0, cs, 0 => by simp [setH]
  | (x, T) :: r, 0, cs, j + 1 => by simp [setH]
  | x :: r, i + 1, cs, 0 => by simp [setH]
  | x :: r, i + 1, cs, j + 1 => by
    simp only [setH, List.getElem?_cons_succ, setH_get r i cs j]
    by_cases h : i = j <;> simp [h]
theorem setH_length : ∀ (H : VH) (i : Nat) (cs : List SV), (setH H i cs).length = H.length
  | [], i, cs => rfl
  | (x, T) :: r, 0, cs => rfl
  | x :: r, i + 1, cs => by simp [setH, setH_length r i cs]

theorem cellsS_den (β : List Nat) (s : SV) (h : (cellsS s).all one = true) : (s.den β).cells.toList = (cellsS s).map (SV.den β) ∧ ∀ v ∈ (cellsS s).map (SV.den β), v.oneCell' = true := by
  cases s with
  | p i off => exact ⟨rfl, by simp [cellsS, SV.den, Value.oneCell']⟩
  | v x =>
    cases x with
    | agg cs =>
      refine ⟨by simp only [cellsS, SV.den, Value.cells, List.map_map]; rw [show (SV.den β ∘ SV.v) = id from rfl, List.map_id], ?_⟩
      intro v hv
      simp only [cellsS, List.map_map, List.mem_map, Function.comp] at hv
      obtain ⟨y, hy, rfl⟩ := hv
      simp only [cellsS, List.all_eq_true, List.mem_map] at h
      exact h (.v y) ⟨y, hy, rfl⟩
    | _ => exact ⟨rfl, by simpa [cellsS, SV.den, one] using h⟩

theorem Vars.store {P : Program} {B : Nat} {β : List Nat} {H H' : VH} {w : World} (hV : Vars B β H w) {T : TypeId} {i off : Nat} {s : SV} (h : storeS P T H i off s = some H') :
    ∃ w', (storeVar T ⟨β.getD i 0, off, none⟩ (s.den β)).run P w = .ok () w' ∧ Vars B β H' w' ∧ Own β w w' := by
  unfold storeS at h
  cases hi : H[i]? with
  | none => simp [hi] at h
  | some x =>
    obtain ⟨cs, T'⟩ := x
    simp only [hi] at h
    cases hn : sizeOfT P T with
    | none => simp [hn] at h
    | some n =>
      simp only [hn] at h
      cases hc : Nat.beq (cellsS s).length n && (cellsS s).all one with
      | false => simp [hc] at h
      | true =>
        simp only [hc, cond_true] at h
        obtain ⟨hlen, hone⟩ := (Bool.and_eq_true _ _).mp hc
        have hlen' : (cellsS s).length = n := Nat.eq_of_beq_eq_true hlen
        cases hw : writeN off (cellsS s) cs with
        | none => simp [hw] at h
        | some m =>
          simp only [hw, Option.some.injEq] at h
          subst h
          obtain ⟨hm, hle⟩ := writeN_eq _ _ _ _ hw
          have hb := hV.blk i cs T' hi
          have hilt : i < H.length := (List.getElem?_eq_some_iff.1 hi).1
          obtain ⟨hd1, hd2⟩ := cellsS_den β s hone
          have hst := run_storeN (P := P) (β.getD i 0) off T' ((cellsS s).map (SV.den β)) 0 (cs.map (SV.den β)).toArray w hb (by simp; omega) hd2
          have harr : ((cs.map (SV.den β)).toArray.toList.take (off + 0) ++ (cellsS s).map (SV.den β) ++ (cs.map (SV.den β)).toArray.toList.drop (off + 0 + ((cellsS s).map (SV.den β)).length)).toArray = (m.map (SV.den β)).toArray := by
            rw [hm]; simp
          rw [harr] at hst
          refine ⟨w.setRow (β.getD i 0) (m.map (SV.den β)).toArray, ?_, ⟨?_, hV.nodup, hV.ge, ?_⟩, ?_⟩
          · have hsz : (s.den β).cells.size = n := by
              rw [← Array.length_toList, hd1]; simp [hlen']
            simp only [storeVar, Sem.run_bind, sizeOfT_run hn w, Result.andThen_ok, hsz, ne_eq, not_true_eq_false, if_false, Sem.run_pure, hd1]
            exact hst
          · rw [setH_length]; exact hV.len
          · intro j cs2 T2 hj
            rw [setH_get] at hj
            by_cases e : i = j
            · subst e
              simp only [if_true, hi, Option.map_some, Option.some.injEq, Prod.mk.injEq] at hj
              obtain ⟨rfl, rfl⟩ := hj
              exact setRow_heap w _ _ _ _ _ hb
            · simp only [e, if_false] at hj
              rw [setRow_other]
              · exact hV.blk j cs2 T2 hj
              · intro e2
                have hjlt : j < H.length := (List.getElem?_eq_some_iff.1 hj).1
                exact e (getD_inj hV.nodup (by rw [hV.len]; exact hilt) (by rw [hV.len]; exact hjlt) e2.symm)
          · refine ⟨rfl, rfl, rfl, by simp, fun k hk => setRow_other _ _ _ _ fun e => hk ?_⟩
            subst e
            have : i < β.length := by rw [hV.len]; exact hilt
            simp [List.getD_eq_getElem?_getD, List.getElem?_eq_getElem this]

theorem Vars.load {P : Program} {B : Nat} {β : List Nat} {H : VH} {w : World} (hV : Vars B β H w) {T : TypeId} {i off : Nat} {cs : List SV} {T' : TypeId} {s : SV} (hi : H[i]? = some (cs, T')) (h : loadS P β T cs off = some s) :
    (loadVar T ⟨β.getD i 0, off, none⟩).run P w = .ok (s.den β) w := run_loadVar_blk (hV.blk i cs T' hi) h

/-- What one operation's reckoning says of the machine's. -/
theorem pureStep_run {P : Program} {n : Nat} {β : List Nat} {l : En} {a : Act} (hF : Fr Ds n β l a) {o : Oper} {v : Value} (h : pureStep P β o l = some v) (w : World) : (execOp a.eval o).run P w = .ok (.value v) w := by
  unfold pureStep at h
  cases hc : simpleOp o.op && o.op.operands.toList.all (known l) with
  | false => rw [hc] at h; cases h
  | true =>
    simp only [hc, cond_true] at h
    obtain ⟨hs, hk⟩ := (Bool.and_eq_true _ _).mp hc
    have e : execOp a.eval o = execOp (evV β l) o := execOp_congr o hs fun x hx => hF.evalV (by
      rw [List.all_eq_true] at hk
      exact hk x (by simpa using hx))
    rw [e]
    cases hp : pureOf P (execOp (evV β l) o) with
    | none => simp [hp] at h
    | some nx =>
      simp only [hp] at h
      cases nx <;> simp_all
      exact run_of_pureOf P _ _ hp w

theorem fieldOff_run {P : Program} {T : TypeId} {f k : Nat} (h : fieldOff P T f = some k) (b off : Nat) (w : World) : (Instr.fieldAt T (.pointer (some ⟨b, off, none⟩)) f).run P w = .ok (.pointer (some ⟨b, off + k, none⟩)) w := by
  unfold fieldOff at h
  cases hu : P.underlying T with
  | none => simp [hu] at h
  | some d =>
    cases d <;> simp [hu] at h
    rename_i fs
    cases hf : fs[f]? with
    | none => simp [hf] at h
    | some fd =>
      simp only [hf] at h
      cases hq : P.info? fd.type with
      | none => simp [hq] at h
      | some i =>
        simp only [hq] at h
        cases hz : Nat.beq i.size 0 with
        | true => simp [hz] at h
        | false =>
          simp only [hz, cond_false, Option.some.injEq] at h
          subst h
          have hz' : i.size ≠ 0 := fun e => by rw [e] at hz; exact absurd hz (by decide)
          simp [Instr.fieldAt, run_underlying hu, hf, Instr.sureAddr, fieldPlace, Go.sizeOf, typeInfo, hq, hz', addr_add]

theorem stepS_run {P : Program} {n B : Nat} {β : List Nat} {l : En} {H H' : VH} {a : Act} {w : World} (hF : Fr Ds n β l a) (hV : Vars B β H w) {o : Oper} {s : SV} (h : stepS P β o l H = some (s, H')) :
    ∃ r w', (execOp a.eval o).run P w = .ok r w' ∧ (r = .value (s.den β) ∨ (r = .skip ∧ s.den β = undef)) ∧ Vars B β H' w' ∧ Own β w w' := by
  have pure_case : ∀ v, pureStep P β o l = some v → s = .v v → H' = H → ∃ r w', (execOp a.eval o).run P w = .ok r w' ∧ (r = .value (s.den β) ∨ (r = .skip ∧ s.den β = undef)) ∧ Vars B β H' w' ∧ Own β w w' := by
    rintro v hv rfl rfl
    exact ⟨_, w, pureStep_run hF hv w, .inl rfl, hV, Own.refl _ _⟩
  have gen : (pureStep P β o l).map (fun v => (SV.v v, H)) = some (s, H') → ∃ r w', (execOp a.eval o).run P w = .ok r w' ∧ (r = .value (s.den β) ∨ (r = .skip ∧ s.den β = undef)) ∧ Vars B β H' w' ∧ Own β w w' := by
    intro e
    cases hp : pureStep P β o l with
    | none => simp [hp] at e
    | some v =>
      simp only [hp, Option.map_some, Option.some.injEq, Prod.mk.injEq] at e
      exact pure_case v hp e.1.symm e.2.symm
  obtain ⟨dst, op, type, pos, after, guard⟩ := o
  cases op
  case move x =>
    simp only [stepS] at h
    cases hx : evS l x with
    | none => simp [hx] at h
    | some t =>
      simp only [hx, Option.map_some, Option.some.injEq, Prod.mk.injEq] at h
      obtain ⟨rfl, rfl⟩ := h
      exact ⟨_, w, by simp only [execOp, hF.eval hx]; rfl, .inl rfl, hV, Own.refl _ _⟩
  case assign x =>
    simp only [stepS] at h
    cases hx : evS l x with
    | none => simp [hx] at h
    | some t =>
      simp only [hx, Option.map_some, Option.some.injEq, Prod.mk.injEq] at h
      obtain ⟨rfl, rfl⟩ := h
      exact ⟨_, w, by simp only [execOp, hF.eval hx]; rfl, .inl rfl, hV, Own.refl _ _⟩
  case nilCheck x =>
    simp only [stepS] at h
    cases hx : evS l x with
    | none => simp only [hx] at h; exact gen h
    | some t =>
      cases t with
      | v y => simp only [hx] at h; exact gen h
      | p i off =>
        simp only [hx, Option.some.injEq, Prod.mk.injEq] at h
        obtain ⟨rfl, rfl⟩ := h
        exact ⟨_, w, by simp only [execOp, hF.eval hx, SV.den]; rfl, .inl rfl, hV, Own.refl _ _⟩
  case fieldAddr T x f =>
    simp only [stepS] at h
    cases hx : evS l x with
    | none => simp only [hx] at h; exact gen h
    | some t =>
      cases t with
      | v y => simp only [hx] at h; exact gen h
      | p i off =>
        simp only [hx] at h
        cases hk : fieldOff P T f with
        | none => simp [hk] at h
        | some k =>
          simp only [hk, Option.map_some, Option.some.injEq, Prod.mk.injEq] at h
          obtain ⟨rfl, rfl⟩ := h
          exact ⟨_, w, by simp only [execOp, hF.eval hx, SV.den, Sem.run_bind, fieldOff_run hk, Result.andThen_ok]; rfl, .inl rfl, hV, Own.refl _ _⟩
  case load T x =>
    simp only [stepS] at h
    cases hx : evS l x with
    | none => simp [hx] at h
    | some t =>
      cases t with
      | v y => simp [hx] at h
      | p i off =>
        simp only [hx] at h
        cases hi : H[i]? with
        | none => simp [hi] at h
        | some z =>
          obtain ⟨cs, T'⟩ := z
          simp only [hi] at h
          cases hl : loadS P β T cs off with
          | none => simp [hl] at h
          | some u =>
            simp only [hl, Option.map_some, Option.some.injEq, Prod.mk.injEq] at h
            obtain ⟨rfl, rfl⟩ := h
            exact ⟨_, w, by simp only [execOp, hF.eval hx, SV.den, Instr.loadAt, Instr.sureAddr, Sem.run_bind, Sem.run_pure, Result.andThen_ok, hV.load hi hl], .inl rfl, hV, Own.refl _ _⟩
  case store T x y =>
    simp only [stepS] at h
    cases hx : evS l x with
    | none => simp [hx] at h
    | some t =>
      cases t with
      | v z => simp [hx] at h
      | p i off =>
        cases hy : evS l y with
        | none => simp [hx, hy] at h
        | some u =>
          simp only [hx, hy] at h
          cases hs : storeS P T H i off u with
          | none => simp [hs] at h
          | some H2 =>
            simp only [hs, Option.map_some, Option.some.injEq, Prod.mk.injEq] at h
            obtain ⟨rfl, rfl⟩ := h
            obtain ⟨w', h1, h2, h3⟩ := hV.store hs
            exact ⟨_, w', by simp only [execOp, hF.eval hx, hF.eval hy, SV.den, Instr.storeAt, Instr.sureAddr, Sem.run_bind, Sem.run_pure, Result.andThen_ok] at h1 ⊢; rw [h1]; rfl, .inr ⟨rfl, rfl⟩, h2, h3⟩
  all_goals exact gen h

/-! ### The walk through a region -/
/-- The region's operations from number i on. -/
def At (P : Program) (ops : Array Oper) (Q : Exit → Act → World → Prop) (i : Nat) (a : Act) (w : World) : Prop := wpList P ops Q (ops.toList.drop i) a w

theorem At.start {P : Program} {id : Nat} {ops : Array Oper} {Q : Exit → Act → World → Prop} {a : Act} {w : World} (h : At P ops Q 0 a w) : (Code.region id ops false).wp P Q a w :=
  wp_region_list h
theorem At.stop {P : Program} {ops : Array Oper} {Q : Exit → Act → World → Prop} {i : Nat} {a : Act} {w : World} (hi : (ops.toList.drop i).isEmpty = true) (h : Q .normal a w) : At P ops Q i a w := by
  unfold At
  rw [List.isEmpty_iff.1 hi]
  exact h

/-- What holds at a place of the walk: the frame, the local variables, and what lay below B as it was in w0. -/
structure Rel (Ds : List Deferred) (n : Nat) (w0 : World) (B : Nat) (β : List Nat) (l : En) (H : VH) (a : Act) (w : World) : Prop where
  fr : Fr Ds n β l a
  vars : Vars B β H w
  below : Below B w0 w

theorem runS_wp {P : Program} {n B : Nat} {w0 : World} {β : List Nat} {ops : Array Oper} {Q : Exit → Act → World → Prop} : ∀ (L rest : List Oper) (l l' : En) (H H' : VH) (a : Act) (w : World),
    Rel Ds n w0 B β l H a w → runS P n β ops L l H = some (l', H') → (∀ a' w', Rel Ds n w0 B β l' H' a' w' → Own β w w' → wpList P ops Q rest a' w') → wpList P ops Q (L ++ rest) a w
  | [], rest, l, l', H, H', a, w, hR, h, hQ => by
    simp only [runS, Option.some.injEq, Prod.mk.injEq] at h
    obtain ⟨rfl, rfl⟩ := h
    exact hQ a w hR (Own.refl _ _)
  | o :: L, rest, l, l', H, H', a, w, hR, h, hQ => by
    simp only [runS] at h
    cases hd : dstOk n o.dst with
    | false => rw [hd] at h; cases h
    | true =>
      rw [hd] at h
      simp only [cond_true] at h
      have hd' : ∀ k, o.dst = some k → k < n := by
        intro k hk
        rw [hk] at hd
        exact Nat.le_of_ble_eq_true hd
      have hwant : ∀ b, wantS ops o l = some b → Region.wanted o (yielded ops a.tmps) = b := by
        intro b hb
        unfold wantS at hb
        unfold Region.wanted
        cases hg : o.guard with
        | none => simp [hg] at hb; simp [← hb]
        | some jb =>
          obtain ⟨j, want⟩ := jb
          simp only [hg] at hb ⊢
          cases hj : (ops[j]?).bind (·.dst) with
          | none => simp [hj] at hb
          | some d =>
            simp only [hj] at hb
            cases hgd : gets l d with
            | none => simp [hgd] at hb
            | some s =>
              cases s with
              | p i off => simp [hgd] at hb
              | v x =>
                cases x <;> simp [hgd] at hb
                rename_i c
                have ht := hR.fr.get d _ hgd
                unfold yielded
                rw [hj]
                simp only [Option.bind_some, ht, SV.den]
                rw [← hb]
                cases c <;> cases want <;> rfl
      cases hwn : wantS ops o l with
      | none => simp [hwn] at h
      | some b =>
        have hb := hwant b hwn
        simp only [hwn] at h
        show wpList P ops Q (o :: (L ++ rest)) a w
        unfold wpList
        cases b with
        | false =>
          rw [if_neg (by rw [hb]; decide)]
          simp only at h
          have hR' : Rel Ds n w0 B β (puts l o.dst (.v undef)) H (a.put o.dst undef) w := ⟨hR.fr.put o.dst (.v undef) hd', hR.vars, hR.below⟩
          exact runS_wp L rest _ l' H H' _ w hR' h hQ
        | true =>
          rw [if_pos hb]
          cases hs : stepS P β o l H with
          | none => simp [hs] at h
          | some sH =>
            obtain ⟨s, H2⟩ := sH
            simp only [hs] at h
            obtain ⟨r, w', h1, h2, h3, h4⟩ := stepS_run hR.fr hR.vars hs
            refine .inl ?_
            have hR' : Rel Ds n w0 B β (puts l o.dst s) H2 (a.put o.dst (s.den β)) w' := ⟨hR.fr.put o.dst s hd', h3, hR.below.trans (h4.below hR.vars.ge)⟩
            have key : wpList P ops Q (L ++ rest) (a.put o.dst (s.den β)) w' := runS_wp L rest _ l' H2 H' _ w' hR' h fun a' w'' h5 h6 => hQ a' w'' h5 (h4.trans h6)
            unfold Oper.wp
            rw [h1]
            rcases h2 with rfl | ⟨rfl, hu⟩
            · exact key
            · rw [hu] at key; exact key

/-- Is an operation no store? -/
def noStore (o : Oper) : Bool := match o.op with | .store .. => false | _ => true

theorem stepS_noStore {P : Program} {β : List Nat} {o : Oper} {l : En} {H H' : VH} {s : SV} (hn : noStore o = true) (h : stepS P β o l H = some (s, H')) : H' = H := by
  have gen : ∀ x : Option Value, x.map (fun v => (SV.v v, H)) = some (s, H') → H' = H := by
    intro x e; cases x <;> simp at e; exact e.2.symm
  obtain ⟨dst, op, type, pos, after, guard⟩ := o
  cases op <;> simp only [noStore, Bool.false_eq_true] at hn <;> simp only [stepS] at h
  case load T x =>
    cases hx : evS l x with
    | none => simp [hx] at h
    | some t =>
      cases t with
      | v y => simp [hx] at h
      | p i off =>
        simp only [hx] at h
        cases hi : H[i]? with
        | none => simp [hi] at h
        | some z => simp only [hi] at h; cases hl : loadS P β T z.1 off <;> simp [hl] at h; exact h.2.symm
  case move x => cases hx : evS l x <;> simp [hx] at h; exact h.2.symm
  case assign x => cases hx : evS l x <;> simp [hx] at h; exact h.2.symm
  case nilCheck x =>
    cases hx : evS l x with
    | none => simp only [hx] at h; exact gen _ h
    | some t => cases t with
      | v y => simp only [hx] at h; exact gen _ h
      | p i off => simp [hx] at h; exact h.2.symm
  case fieldAddr T x f =>
    cases hx : evS l x with
    | none => simp only [hx] at h; exact gen _ h
    | some t => cases t with
      | v y => simp only [hx] at h; exact gen _ h
      | p i off => simp only [hx] at h; cases hk : fieldOff P T f <;> simp [hk] at h; exact h.2.symm
  all_goals exact gen _ h

theorem stepS_noStore_run {P : Program} {n B : Nat} {β : List Nat} {l : En} {H H' : VH} {a : Act} {w : World} (hF : Fr Ds n β l a) (hV : Vars B β H w) {o : Oper} {s : SV} (hn : noStore o = true) (h : stepS P β o l H = some (s, H')) :
    (execOp a.eval o).run P w = .ok (.value (s.den β)) w := by
  have gen : (pureStep P β o l).map (fun v => (SV.v v, H)) = some (s, H') → (execOp a.eval o).run P w = .ok (.value (s.den β)) w := by
    intro e
    cases hp : pureStep P β o l with
    | none => simp [hp] at e
    | some v =>
      simp only [hp, Option.map_some, Option.some.injEq, Prod.mk.injEq] at e
      rw [← e.1]
      exact pureStep_run hF hp w
  obtain ⟨dst, op, type, pos, after, guard⟩ := o
  cases op <;> simp only [noStore, Bool.false_eq_true] at hn
  case move x =>
    simp only [stepS] at h
    cases hx : evS l x with
    | none => simp [hx] at h
    | some t => simp [hx] at h; obtain ⟨rfl, _⟩ := h; simp only [execOp, hF.eval hx]; rfl
  case assign x =>
    simp only [stepS] at h
    cases hx : evS l x with
    | none => simp [hx] at h
    | some t => simp [hx] at h; obtain ⟨rfl, _⟩ := h; simp only [execOp, hF.eval hx]; rfl
  case nilCheck x =>
    simp only [stepS] at h
    cases hx : evS l x with
    | none => simp only [hx] at h; exact gen h
    | some t => cases t with
      | v y => simp only [hx] at h; exact gen h
      | p i off => simp [hx] at h; obtain ⟨rfl, _⟩ := h; simp only [execOp, hF.eval hx, SV.den]; rfl
  case fieldAddr T x f =>
    simp only [stepS] at h
    cases hx : evS l x with
    | none => simp only [hx] at h; exact gen h
    | some t => cases t with
      | v y => simp only [hx] at h; exact gen h
      | p i off =>
        simp only [hx] at h
        cases hk : fieldOff P T f with
        | none => simp [hk] at h
        | some k => simp [hk] at h; obtain ⟨rfl, _⟩ := h; simp only [execOp, hF.eval hx, SV.den, Sem.run_bind, fieldOff_run hk, Result.andThen_ok]; rfl
  case load T x =>
    simp only [stepS] at h
    cases hx : evS l x with
    | none => simp [hx] at h
    | some t => cases t with
      | v y => simp [hx] at h
      | p i off =>
        simp only [hx] at h
        cases hi : H[i]? with
        | none => simp [hi] at h
        | some z =>
          obtain ⟨cs, T'⟩ := z
          simp only [hi] at h
          cases hl : loadS P β T cs off with
          | none => simp [hl] at h
          | some u => simp [hl] at h; obtain ⟨rfl, _⟩ := h; simp only [execOp, hF.eval hx, SV.den, Instr.loadAt, Instr.sureAddr, Sem.run_bind, Sem.run_pure, Result.andThen_ok, hV.load hi hl]
  all_goals exact gen h

theorem runP_wp {P : Program} {n B : Nat} {w0 : World} {β : List Nat} {ops : Array Oper} {Q : Exit → Act → World → Prop} : ∀ (L rest : List Oper) (l l' : En) (H H' : VH) (a : Act) (w : World),
    Rel Ds n w0 B β l H a w → L.all noStore = true → runS P n β ops L l H = some (l', H') → (∀ a', Rel Ds n w0 B β l' H a' w → wpList P ops Q rest a' w) → wpList P ops Q (L ++ rest) a w
  | [], rest, l, l', H, H', a, w, hR, hn, h, hQ => by
    simp only [runS, Option.some.injEq, Prod.mk.injEq] at h
    obtain ⟨rfl, rfl⟩ := h
    exact hQ a hR
  | o :: L, rest, l, l', H, H', a, w, hR, hn, h, hQ => by
    simp only [List.all_cons, Bool.and_eq_true] at hn
    obtain ⟨hn1, hn2⟩ := hn
    simp only [runS] at h
    cases hd : dstOk n o.dst with
    | false => rw [hd] at h; cases h
    | true =>
      rw [hd] at h
      simp only [cond_true] at h
      have hd' : ∀ k, o.dst = some k → k < n := by
        intro k hk
        rw [hk] at hd
        exact Nat.le_of_ble_eq_true hd
      have hwant : ∀ b, wantS ops o l = some b → Region.wanted o (yielded ops a.tmps) = b := by
        intro b hb
        unfold wantS at hb
        unfold Region.wanted
        cases hg : o.guard with
        | none => simp [hg] at hb; simp [← hb]
        | some jb =>
          obtain ⟨j, want⟩ := jb
          simp only [hg] at hb ⊢
          cases hj : (ops[j]?).bind (·.dst) with
          | none => simp [hj] at hb
          | some d =>
            simp only [hj] at hb
            cases hgd : gets l d with
            | none => simp [hgd] at hb
            | some s =>
              cases s with
              | p i off => simp [hgd] at hb
              | v x =>
                cases x <;> simp [hgd] at hb
                rename_i c
                have ht := hR.fr.get d _ hgd
                unfold yielded
                rw [hj]
                simp only [Option.bind_some, ht, SV.den]
                rw [← hb]
                cases c <;> cases want <;> rfl
      cases hwn : wantS ops o l with
      | none => simp [hwn] at h
      | some b =>
        have hb := hwant b hwn
        simp only [hwn] at h
        show wpList P ops Q (o :: (L ++ rest)) a w
        unfold wpList
        cases b with
        | false =>
          rw [if_neg (by rw [hb]; decide)]
          simp only at h
          have hR' : Rel Ds n w0 B β (puts l o.dst (.v undef)) H (a.put o.dst undef) w := ⟨hR.fr.put o.dst (.v undef) hd', hR.vars, hR.below⟩
          exact runP_wp L rest _ l' H H' _ w hR' hn2 h hQ
        | true =>
          rw [if_pos hb]
          cases hs : stepS P β o l H with
          | none => simp [hs] at h
          | some sH =>
            obtain ⟨s, H2⟩ := sH
            simp only [hs] at h
            obtain rfl := stepS_noStore hn1 hs
            have h1 := stepS_noStore_run hR.fr hR.vars hn1 hs
            refine .inl ?_
            have hR' : Rel Ds n w0 B β (puts l o.dst s) H2 (a.put o.dst (s.den β)) w := ⟨hR.fr.put o.dst s hd', hR.vars, hR.below⟩
            unfold Oper.wp
            rw [h1]
            exact runP_wp L rest _ l' H2 H' _ w hR' hn2 h hQ

section
variable {P : Program} {n B : Nat} {w0 : World} {β : List Nat} {ops : Array Oper} {Q : Exit → Act → World → Prop} {l : En} {H : VH} {a : Act} {w : World}

theorem drop_split (L : List Oper) (i k : Nat) : L.drop i = (L.drop i).take k ++ L.drop (i + k) := by
  rw [← List.drop_drop, List.take_append_drop]

def outcome (ks : List Nat) (r : Option (En × VH)) : Option (En × VH) :=
  match r with
  | some (l, H) => match pick ks l with | some m => some (m, H) | none => none
  | none => none

/-- k operations that write nothing but local variables: the frame keeps the slots ks. -/
theorem seg {i : Nat} (k : Nat) (ks : List Nat) {l' : En} {H' : VH} (hR : Rel Ds n w0 B β l H a w)
    (hr : outcome ks (runS P n β ops ((ops.toList.drop i).take k) l H) = some (l', H'))
    (h : ∀ a' w', Rel Ds n w0 B β l' H' a' w' → Own β w w' → At P ops Q (i + k) a' w') : At P ops Q i a w := by
  unfold At
  rw [drop_split _ i k]
  unfold outcome at hr
  cases hx : runS P n β ops ((ops.toList.drop i).take k) l H with
  | none => simp [hx] at hr
  | some r =>
    obtain ⟨lr, Hr⟩ := r
    simp only [hx] at hr
    cases hp : pick ks lr with
    | none => simp [hp] at hr
    | some m =>
      simp only [hp, Option.some.injEq, Prod.mk.injEq] at hr
      obtain ⟨rfl, rfl⟩ := hr
      exact runS_wp _ _ l lr H Hr a w hR hx fun a' w' h1 h2 => h a' w' ⟨h1.fr.pick hp, h1.vars, h1.below⟩ h2

/-- k operations that write nothing. -/
theorem segP {i : Nat} (k : Nat) (ks : List Nat) {l' : En} {H' : VH} (hR : Rel Ds n w0 B β l H a w) (hn : ((ops.toList.drop i).take k).all noStore = true)
    (hr : outcome ks (runS P n β ops ((ops.toList.drop i).take k) l H) = some (l', H'))
    (h : ∀ a', Rel Ds n w0 B β l' H a' w → At P ops Q (i + k) a' w) : At P ops Q i a w := by
  unfold At
  rw [drop_split _ i k]
  unfold outcome at hr
  cases hx : runS P n β ops ((ops.toList.drop i).take k) l H with
  | none => simp [hx] at hr
  | some r =>
    obtain ⟨lr, Hr⟩ := r
    simp only [hx] at hr
    cases hp : pick ks lr with
    | none => simp [hp] at hr
    | some m =>
      simp only [hp, Option.some.injEq, Prod.mk.injEq] at hr
      obtain ⟨rfl, rfl⟩ := hr
      exact runP_wp _ _ l lr H Hr a w hR hn hx fun a' h1 => h a' ⟨h1.fr.pick hp, h1.vars, h1.below⟩

/-- What stands at number i: where it goes, what it is, its type, its guard. -/
def opAt (ops : Array Oper) (i : Nat) : Option (Option Tmp × Op × TypeId × Option (Nat × Bool)) := (ops[i]?).map fun o => (o.dst, o.op, o.type, o.guard)

/-- An operation's run in a frame that is told by a list. -/
def X (β : List Nat) (l : En) (op : Op) (ty : TypeId) : Sem Next := execOp (evV β l) ⟨none, op, ty, "", #[], none⟩

def wantG (ops : Array Oper) (g : Option (Nat × Bool)) (l : En) : Option Bool := wantS ops ⟨none, .alloc 0, 0, "", #[], g⟩ l

theorem At.cons {i : Nat} {d : Option Tmp} {op : Op} {ty : TypeId} {g : Option (Nat × Bool)} (ho : opAt ops i = some (d, op, ty, g)) :
    ∃ o : Oper, o.dst = d ∧ o.op = op ∧ o.type = ty ∧ o.guard = g ∧ ops.toList.drop i = o :: ops.toList.drop (i + 1) := by
  unfold opAt at ho
  cases hx : ops[i]? with
  | none => simp [hx] at ho
  | some o =>
    simp only [hx, Option.map_some, Option.some.injEq, Prod.mk.injEq] at ho
    obtain ⟨hlt, hv⟩ := Array.getElem?_eq_some_iff.1 hx
    refine ⟨o, ho.1, ho.2.1, ho.2.2.1, ho.2.2.2, ?_⟩
    rw [← hv, List.drop_eq_getElem_cons (l := ops.toList) (i := i) (by simpa using hlt), Array.getElem_toList]

theorem Rel.wanted (hR : Rel Ds n w0 B β l H a w) {g : Option (Nat × Bool)} {b : Bool} (hg : wantG ops g l = some b) {o : Oper} (ho : o.guard = g) : Region.wanted o (yielded ops a.tmps) = b := by
  unfold wantG wantS at hg
  unfold Region.wanted
  rw [ho]
  cases g with
  | none => simp at hg; simp [← hg]
  | some jb =>
    obtain ⟨j, want⟩ := jb
    simp only at hg ⊢
    cases hj : (ops[j]?).bind (·.dst) with
    | none => simp [hj] at hg
    | some d =>
      simp only [hj] at hg
      cases hgd : gets l d with
      | none => simp [hgd] at hg
      | some s =>
        cases s with
        | p i off => simp [hgd] at hg
        | v x =>
          cases x <;> simp [hgd] at hg
          rename_i c
          have ht := hR.fr.get d _ hgd
          unfold yielded
          rw [hj]
          simp only [Option.bind_some, ht, SV.den]
          rw [← hg]
          cases c <;> cases want <;> rfl

theorem Rel.exec (hR : Rel Ds n w0 B β l H a w) {o : Oper} {op : Op} {ty : TypeId} (h2 : o.op = op) (h3 : o.type = ty) (hk : (simpleOp op && op.operands.toList.all (known l)) = true) : execOp a.eval o = X β l op ty := by
  obtain ⟨hs, hk⟩ := (Bool.and_eq_true _ _).mp hk
  obtain ⟨dst, op', type, pos, after, guard⟩ := o
  simp only at h2 h3
  subst h2 h3
  unfold X
  rw [execOp_congr (ρ := a.eval) (ρ' := evV β l) _ hs fun x hx => hR.fr.evalV (by
    rw [List.all_eq_true] at hk
    exact hk x (by simpa using hx))]
  rfl

/-- An operation whose run is known: a value, and the world behind it. -/
theorem step {i : Nat} {d : Option Tmp} {op : Op} {ty : TypeId} {g : Option (Nat × Bool)} (s : SV) {w' : World} {H' : VH} (hR : Rel Ds n w0 B β l H a w) (ho : opAt ops i = some (d, op, ty, g)) (hg : wantG ops g l = some true)
    (hk : (dstOk n d && (simpleOp op && op.operands.toList.all (known l))) = true)
    (hr : (X β l op ty).run P w = .ok (.value (s.den β)) w' ∨ ((X β l op ty).run P w = .ok .skip w' ∧ s.den β = undef)) (hV : Vars B β H' w') (hB : Below B w0 w')
    (h : ∀ a', Rel Ds n w0 B β (puts l d s) H' a' w' → At P ops Q (i + 1) a' w') : At P ops Q i a w := by
  obtain ⟨hd, hk⟩ := (Bool.and_eq_true _ _).mp hk
  obtain ⟨o, h1, h2, h3, h4, h5⟩ := At.cons ho
  have hd' : ∀ k, d = some k → k < n := by
    intro k e
    rw [e] at hd
    exact Nat.le_of_ble_eq_true hd
  unfold At
  rw [h5]
  unfold wpList
  rw [if_pos (hR.wanted hg h4)]
  refine .inl ?_
  unfold Oper.wp
  rw [hR.exec h2 h3 hk]
  have key := h _ ⟨hR.fr.put d s hd', hV, hB⟩
  rcases hr with e | ⟨e, hu⟩
  · rw [e]
    show wpList _ _ _ _ (a.put o.dst (s.den β)) w'
    rw [h1]
    exact key
  · rw [e]
    show wpList _ _ _ _ (a.put o.dst undef) w'
    rw [h1, ← hu]
    exact key

/-- The same where the world stays. -/
theorem stepV {i : Nat} {d : Option Tmp} {op : Op} {ty : TypeId} {g : Option (Nat × Bool)} (v : Value) (hR : Rel Ds n w0 B β l H a w) (ho : opAt ops i = some (d, op, ty, g)) (hg : wantG ops g l = some true)
    (hk : (dstOk n d && (simpleOp op && op.operands.toList.all (known l))) = true) (hr : (X β l op ty).run P w = .ok (.value v) w)
    (h : ∀ a', Rel Ds n w0 B β (puts l d (.v v)) H a' w → At P ops Q (i + 1) a' w) : At P ops Q i a w :=
  step (.v v) hR ho hg hk (.inl hr) hR.vars hR.below h

/-- An operation that is passed over. -/
theorem skipG {i : Nat} {d : Option Tmp} {op : Op} {ty : TypeId} {g : Option (Nat × Bool)} (hR : Rel Ds n w0 B β l H a w) (ho : opAt ops i = some (d, op, ty, g)) (hg : wantG ops g l = some false) (hd : dstOk n d = true)
    (h : ∀ a', Rel Ds n w0 B β (puts l d (.v undef)) H a' w → At P ops Q (i + 1) a' w) : At P ops Q i a w := by
  obtain ⟨o, h1, h2, h3, h4, h5⟩ := At.cons ho
  have hd' : ∀ k, d = some k → k < n := by
    intro k e
    rw [e] at hd
    exact Nat.le_of_ble_eq_true hd
  unfold At
  rw [h5]
  unfold wpList
  rw [if_neg (by rw [hR.wanted hg h4]; decide), h1]
  exact h _ ⟨hR.fr.put d (.v undef) hd', hR.vars, hR.below⟩

def wfS (k : Nat) : SV → Bool
  | .v _ => true
  | .p i _ => Nat.blt i k
def wfL (k : Nat) (l : En) : Bool := l.all fun x => wfS k x.2
def wfH (k : Nat) (H : VH) : Bool := H.all fun x => x.1.all (wfS k)

theorem wfS_den {s : SV} (h : wfS β.length s = true) (γ : List Nat) : s.den (β ++ γ) = s.den β := by
  cases s with
  | v x => rfl
  | p i off =>
    have hi : i < β.length := Nat.le_of_ble_eq_true h
    simp [SV.den, List.getD_eq_getElem?_getD, List.getElem?_append_left hi]

theorem wfL_get {k : Nat} : ∀ {l : En}, wfL k l = true → ∀ i s, gets l i = some s → wfS k s = true
  | [], _, i, s, hi => by simp [gets] at hi
  | (j, t) :: r, h, i, s, hi => by
    simp only [wfL, List.all_cons, Bool.and_eq_true] at h
    rw [gets_cons] at hi
    by_cases e : j = i
    · simp only [e, if_true, Option.some.injEq] at hi; subst hi; exact h.1
    · simp only [e, if_false] at hi; exact wfL_get (l := r) h.2 i s hi

theorem Vars.lt (hV : Vars B β H w) : ∀ b ∈ β, b < w.heap.size := by
  intro b hb
  obtain ⟨i, hi, rfl⟩ := List.getElem_of_mem hb
  have hi' : i < H.length := by rw [← hV.len]; exact hi
  have := hV.blk i (H[i]).1 (H[i]).2 (by simp [List.getElem?_eq_getElem hi'])
  simp only [List.getD_eq_getElem?_getD, List.getElem?_eq_getElem hi, Option.getD_some] at this
  exact (Array.getElem?_eq_some_iff.1 this).1

/-- A new local variable. -/
theorem Rel.new (hR : Rel Ds n w0 B β l H a w) (hB : B ≤ w.heap.size) (T : TypeId) (zs : List SV) (hw : (wfL β.length l && (wfH β.length H && zs.all (wfS β.length))) = true) :
    Rel Ds n w0 B (β ++ [w.heap.size]) l (H ++ [(zs, T)]) a (w.alloc (.cells (zs.map (SV.den β)).toArray T)) := by
  simp only [Bool.and_eq_true] at hw
  obtain ⟨hw1, hw2, hw3⟩ := hw
  have hlt := hR.vars.lt
  refine ⟨⟨hR.fr.defers, hR.fr.size, fun i s hi => ?_⟩, ⟨by simp [hR.vars.len], ?_, ?_, ?_⟩, hR.below.alloc hB _⟩
  · rw [wfS_den (wfL_get hw1 i s hi)]
    exact hR.fr.get i s hi
  · rw [List.nodup_append]
    refine ⟨hR.vars.nodup, by simp, ?_⟩
    intro b hb c hc e
    simp only [List.mem_singleton] at hc
    have := hlt b hb
    omega
  · intro b hb
    simp only [List.mem_append, List.mem_singleton] at hb
    rcases hb with hb | rfl
    · exact hR.vars.ge b hb
    · exact hB
  · intro i cs T' hi
    have hmap : ∀ cs : List SV, cs.all (wfS β.length) = true → cs.map (SV.den (β ++ [w.heap.size])) = cs.map (SV.den β) := by
      intro cs h
      refine List.map_congr_left fun s hs => wfS_den ?_ _
      rw [List.all_eq_true] at h
      exact h s hs
    by_cases h : i < H.length
    · rw [List.getElem?_append_left h] at hi
      have hi' : i < β.length := by rw [hR.vars.len]; exact h
      have hb := hR.vars.blk i cs T' hi
      have e : (β ++ [w.heap.size]).getD i 0 = β.getD i 0 := by simp [List.getD_eq_getElem?_getD, List.getElem?_append_left hi']
      have hcs : cs.all (wfS β.length) = true := by
        rw [wfH, List.all_eq_true] at hw2
        exact hw2 (cs, T') (List.mem_of_getElem? hi)
      rw [e, hmap cs hcs, Below.heap_alloc]
      · exact hb
      · exact (Array.getElem?_eq_some_iff.1 hb).1
    · have hi2 : i = H.length := by
        have := (List.getElem?_eq_some_iff.1 hi).1
        simp at this
        omega
      subst hi2
      simp only [List.getElem?_append_right (Nat.le_refl _), Nat.sub_self, List.getElem?_cons_zero, Option.some.injEq, Prod.mk.injEq] at hi
      obtain ⟨rfl, rfl⟩ := hi
      have e : (β ++ [w.heap.size]).getD H.length 0 = w.heap.size := by rw [← hR.vars.len]; simp [List.getD_eq_getElem?_getD]
      rw [e, hmap _ hw3]
      exact heap_alloc_new _ _

def zeroOf (P : Program) (T : TypeId) : Option Value := (P.info? T).bind (·.zero)

theorem run_alloc {T : TypeId} {z : Value} (hz : zeroOf P T = some z) (w : World) (β : List Nat) (l : En) (ty : TypeId) :
    (X β l (.alloc T) ty).run P w = .ok (.value (.pointer (some ⟨w.heap.size, 0, none⟩))) (w.alloc (.cells z.cells T)) := by
  unfold zeroOf at hz
  cases hq : P.info? T with
  | none => simp [hq] at hz
  | some i =>
    have hz' : i.zero = some z := by simpa [hq] using hz
    have hzv : (zeroValue T).run P w = .ok z w := by simp [zeroValue, typeInfo, hq, hz']
    simp only [X, execOp, Instr.alloc, Sem.run_bind, hzv, Result.andThen_ok, newVar, newRow, newObj]
    rfl

theorem run_box {T : TypeId} {x : Operand} (w : World) (β : List Nat) (l : En) (ty : TypeId) :
    (X β l (.box T x) ty).run P w = .ok (.value (.pointer (some ⟨w.heap.size, 0, none⟩))) (w.alloc (.cells (evV β l x).cells T)) := rfl

/-- 'var x T'. -/
theorem allocS {i d : Nat} {T ty : TypeId} {g : Option (Nat × Bool)} (z : List Value) (hR : Rel Ds n w0 B β l H a w) (ho : opAt ops i = some (some d, .alloc T, ty, g)) (hg : wantG ops g l = some true)
    (hk : (Nat.blt d n && (wfL β.length l && wfH β.length H)) = true) (hz : (zeroOf P T).map (fun z => z.cells.toList) = some z) (hB : B ≤ w.heap.size)
    (h : ∀ b a' w', w.heap.size = b → w'.heap.size = b + 1 → Below w.heap.size w w' → Rel Ds n w0 B (β ++ [b]) ((d, .p β.length 0) :: l) (H ++ [(z.map .v, T)]) a' w' → At P ops Q (i + 1) a' w') : At P ops Q i a w := by
  simp only [Bool.and_eq_true] at hk
  obtain ⟨hd, hw1, hw2⟩ := hk
  obtain ⟨o, h1, h2, h3, h4, h5⟩ := At.cons ho
  cases hzz : zeroOf P T with
  | none => simp [hzz] at hz
  | some zv =>
    have hzl : zv.cells.toList = z := by simpa [hzz] using hz
    have hzw : (z.map SV.v).all (wfS β.length) = true := by simp [wfS]
    have hR2 := hR.new hB T (z.map .v) (by simp only [Bool.and_eq_true]; exact ⟨hw1, hw2, hzw⟩)
    have hcells : ((z.map SV.v).map (SV.den β)).toArray = zv.cells := by
      rw [← hzl, List.map_map, show (SV.den β ∘ SV.v) = id from rfl, List.map_id, Array.toArray_toList]
    rw [hcells] at hR2
    unfold At
    rw [h5]
    unfold wpList
    rw [if_pos (hR.wanted hg h4)]
    refine .inl ?_
    unfold Oper.wp
    rw [hR.exec h2 h3 (by simp [simpleOp, Op.operands]), run_alloc hzz]
    show wpList _ _ _ _ (a.put o.dst (.pointer (some ⟨w.heap.size, 0, none⟩))) _
    rw [h1]
    have e : SV.den (β ++ [w.heap.size]) (.p β.length 0) = .pointer (some ⟨w.heap.size, 0, none⟩) := by simp [SV.den, List.getD_eq_getElem?_getD]
    refine h w.heap.size _ _ rfl (by simp) (Below.alloc (Below.refl _ _) (Nat.le_refl _) _) ⟨?_, hR2.vars, hR2.below⟩
    have := hR2.fr.put (some d) (.p β.length 0) (fun k hk => by cases hk; exact Nat.le_of_ble_eq_true hd)
    rw [e] at this
    exact this

/-- A parameter, or a variable, that lies in memory from its first value on. -/
theorem boxS {i d : Nat} {T ty : TypeId} {x : Operand} {g : Option (Nat × Bool)} (s : SV) (hR : Rel Ds n w0 B β l H a w) (ho : opAt ops i = some (some d, .box T x, ty, g)) (hg : wantG ops g l = some true) (hs : evS l x = some s)
    (hk : (Nat.blt d n && (wfL β.length l && (wfH β.length H && (cellsS s).all (wfS β.length)))) = true) (hB : B ≤ w.heap.size)
    (h : ∀ b a' w', w.heap.size = b → w'.heap.size = b + 1 → Below w.heap.size w w' → Rel Ds n w0 B (β ++ [b]) ((d, .p β.length 0) :: l) (H ++ [(cellsS s, T)]) a' w' → At P ops Q (i + 1) a' w') : At P ops Q i a w := by
  simp only [Bool.and_eq_true] at hk
  obtain ⟨hd, hw1, hw2, hw3⟩ := hk
  obtain ⟨o, h1, h2, h3, h4, h5⟩ := At.cons ho
  have hR2 := hR.new hB T (cellsS s) (by simp only [Bool.and_eq_true]; exact ⟨hw1, hw2, hw3⟩)
  have hcells : ((cellsS s).map (SV.den β)).toArray = (evV β l x).cells := by
    have : evV β l x = s.den β := by simp [evV, hs]
    rw [this]
    cases s with
    | p i off => rfl
    | v y =>
      cases y with
      | agg cs => simp only [cellsS, SV.den, Value.cells, List.map_map]; rw [show (SV.den β ∘ SV.v) = id from rfl, List.map_id, Array.toArray_toList]
      | _ => rfl
  rw [hcells] at hR2
  unfold At
  rw [h5]
  unfold wpList
  rw [if_pos (hR.wanted hg h4)]
  refine .inl ?_
  unfold Oper.wp
  rw [hR.exec h2 h3 (by simp [simpleOp, Op.operands, known, hs]), run_box]
  show wpList _ _ _ _ (a.put o.dst (.pointer (some ⟨w.heap.size, 0, none⟩))) _
  rw [h1]
  have e : SV.den (β ++ [w.heap.size]) (.p β.length 0) = .pointer (some ⟨w.heap.size, 0, none⟩) := by simp [SV.den, List.getD_eq_getElem?_getD]
  refine h w.heap.size _ _ rfl (by simp) (Below.alloc (Below.refl _ _) (Nat.le_refl _) _) ⟨?_, hR2.vars, hR2.below⟩
  have := hR2.fr.put (some d) (.p β.length 0) (fun k hk => by cases hk; exact Nat.le_of_ble_eq_true hd)
  rw [e] at this
  exact this

/-! ### Calls -/
/-- How a contract ends: the call returned, nothing that lay there before has changed, and Q. -/
def RetB (w : World) (Q : Value → World → Prop) (e : Ending) (w' : World) : Prop := ∃ v, e = .returned v ∧ Below w.heap.size w w' ∧ Q v w'

theorem Vars.below (hV : Vars B β H w) {w' : World} (hb : Below w.heap.size w w') : Vars B β H w' :=
  ⟨hV.len, hV.nodup, hV.ge, fun i cs T hi => (hb.block _ (Array.getElem?_eq_some_iff.1 (hV.blk i cs T hi)).1).trans (hV.blk i cs T hi)⟩

/-- A call, by a contract of whatever form. -/
theorem callG {i : Nat} {d : Option Tmp} {op : Op} {ty : TypeId} {g : Option (Nat × Bool)} {f : FuncId} {vs : Array Value} {R : Ending → World → Prop} (hR : Rel Ds n w0 B β l H a w) (ho : opAt ops i = some (d, op, ty, g)) (hg : wantG ops g l = some true)
    (hk : (dstOk n d && (simpleOp op && op.operands.toList.all (known l))) = true) (hp : pureOf P (X β l op ty) = some (.enter f vs)) (hc : Calls P f vs w R)
    (h : ∀ e w', R e w' → ∃ s H', e = .returned (SV.den β s) ∧ Vars B β H' w' ∧ Below B w0 w' ∧ ∀ a', Rel Ds n w0 B β (puts l d s) H' a' w' → At P ops Q (i + 1) a' w') : At P ops Q i a w := by
  obtain ⟨hd, hk⟩ := (Bool.and_eq_true _ _).mp hk
  obtain ⟨o, h1, h2, h3, h4, h5⟩ := At.cons ho
  have hd' : ∀ k, d = some k → k < n := by
    intro k e
    rw [e] at hd
    exact Nat.le_of_ble_eq_true hd
  unfold At
  rw [h5]
  unfold wpList
  rw [if_pos (hR.wanted hg h4)]
  refine .inl ?_
  unfold Oper.wp
  rw [hR.exec h2 h3 hk, run_of_pureOf P _ _ hp w]
  show Calls P f vs w _
  refine hc.mono ?_
  intro e w' hr
  obtain ⟨s, H', rfl, hV, hB, hn⟩ := h e w' hr
  show wpList _ _ _ _ (a.put o.dst (s.den β)) w'
  rw [h1]
  exact hn _ ⟨hR.fr.put d s hd', hV, hB⟩

/-- A call that changes nothing that lay there before. -/
theorem callB {i : Nat} {d : Option Tmp} {op : Op} {ty : TypeId} {g : Option (Nat × Bool)} (f : FuncId) (vs : Array Value) {C : Value → World → Prop} (hR : Rel Ds n w0 B β l H a w) (ho : opAt ops i = some (d, op, ty, g)) (hg : wantG ops g l = some true)
    (hk : (dstOk n d && (simpleOp op && op.operands.toList.all (known l))) = true) (hp : pureOf P (X β l op ty) = some (.enter f vs)) (hB : B ≤ w.heap.size) (hc : Calls P f vs w (RetB w C))
    (h : ∀ v a' w', C v w' → Below w.heap.size w w' → Rel Ds n w0 B β (puts l d (.v v)) H a' w' → At P ops Q (i + 1) a' w') : At P ops Q i a w :=
  callG hR ho hg hk hp hc (by
    rintro e w' ⟨v, rfl, hb, hq⟩
    exact ⟨.v v, H, rfl, hR.vars.below hb, hR.below.trans (hb.mono hB), fun a' hR' => h v a' w' hq hb hR'⟩)
end

/-! ### Code -/
section
variable {P : Program} {n B : Nat} {w0 : World} {β : List Nat} {Q : Exit → Act → World → Prop} {l : En} {H : VH} {a : Act} {w : World}

theorem seqS {x y : Code} (h : ∀ K : Act → World → Prop, (∀ a w, y.wp P Q a w → K a w) → x.wp P (Exit.then K Q) a w) : (Code.seq x y).wp P Q a w := wp_seq_k h

theorem condS {c : Operand} {x y : Code} (t : Bool) (hR : Rel Ds n w0 B β l H a w) (hc : evS l c = some (.v (.bool t))) (h1 : t = true → x.wp P Q a w) (h2 : t = false → y.wp P Q a w) : (Code.cond c x y).wp P Q a w :=
  wp_cond_split (hR.fr.eval hc) h1 h2

theorem loopS {α : Type} {c : Code} (I : α → Act → World → Prop) (μ : α → Nat) (x0 : α) (h0 : I x0 a w)
    (round : ∀ x a w, I x a w → c.wp P (Exit.then (fun a' w' => ∃ y, I y a' w' ∧ μ y < μ x) Q) a w) : (Code.loop c).wp P Q a w := by
  refine wp_loop_ghost (fun k a w => ∃ x, μ x = k ∧ I x a w) (μ x0) ⟨x0, rfl, h0⟩ ?_
  rintro k a w ⟨x, rfl, hx⟩
  refine wp_mono (round x a w hx) ?_
  intro e a' w' hq
  cases e with
  | normal => obtain ⟨y, h1, h2⟩ := hq; exact ⟨μ y, h2, y, rfl, h1⟩
  | exit id => exact hq
  | goto l => exact hq
  | ret => exact hq
  | panic ch => exact hq
  | outgrown => exact hq

/-! ### The function's begin and end -/
theorem enter {f : FuncId} {fn : Func} {c : Code} {args : Array Value} {w : World} {R : Ending → World → Prop} (l : En) (hf : P.funcs[f]? = some fn) (hb : fn.body = some c)
    (hl : ∃ m : Nat, m = fn.ntmps ∧ (args.toList.zipIdx.map fun x => (x.2, SV.v x.1)) = l ∧ Nat.ble args.size m = true)
    (h : ∀ a, Rel [] fn.ntmps w w.heap.size [] l [] a w → c.wp P (bodyPost P fn R) a w) : Calls P f args w R := by
  refine calls_of_wp hf hb (h _ ⟨⟨rfl, ?_, ?_⟩, ⟨rfl, by simp, by simp, by simp⟩, Below.refl _ _⟩)
  · obtain ⟨m, rfl, _, h3⟩ := hl
    have := Nat.le_of_ble_eq_true h3
    simp; omega
  · obtain ⟨m, rfl, rfl, h3⟩ := hl
    intro i s hi
    have key : ∀ (xs : List Value) (k : Nat) i s, gets ((xs.zipIdx k).map fun x => (x.2, SV.v x.1)) i = some s → k ≤ i ∧ ∃ v, xs[i - k]? = some v ∧ s = .v v := by
      intro xs
      induction xs with
      | nil => intro k i s h; simp [gets] at h
      | cons x r ih =>
        intro k i s h
        simp only [List.zipIdx_cons, List.map_cons, gets_cons] at h
        by_cases e : k = i
        · subst e; simp only [if_true, Option.some.injEq] at h; subst h; exact ⟨Nat.le_refl _, x, by simp, rfl⟩
        · simp only [e, if_false] at h
          obtain ⟨h1, v, h2, h3⟩ := ih (k + 1) i s h
          exact ⟨by omega, v, by rw [show i - k = (i - (k + 1)) + 1 by omega]; simpa using h2, h3⟩
    obtain ⟨_, v, hv, rfl⟩ := key args.toList 0 i s hi
    simp only [Nat.sub_zero] at hv
    rw [Array.getElem?_append]
    have hlt : i < args.size := by simpa using (List.getElem?_eq_some_iff.1 hv).1
    rw [if_pos hlt]
    simpa [SV.den] using hv

def resS (P : Program) (β : List Nat) (l : En) (H : VH) : ResultVar → Option SV
  | .tmp t => gets l t
  | .cell t T => match gets l t with
    | some (.p i off) => match H[i]? with
      | some (cs, _) => loadS P β T cs off
      | none => none
    | _ => none

def resRun (r : ResultVar) (tmps : Array Value) : Sem Value := match r with
  | .tmp t => pure (tmps.getD t undef)
  | .cell a t => do loadVar t (← asAddr (tmps.getD a undef))

theorem resS_run (hR : Rel Ds n w0 B β l H a w) {r : ResultVar} {s : SV} (h : resS P β l H r = some s) : (resRun r a.tmps).run P w = .ok (s.den β) w := by
  cases r with
  | tmp t =>
    have := hR.fr.get t s h
    simp [resRun, this]
  | cell t T =>
    simp only [resS] at h
    cases hx : gets l t with
    | none => simp [hx] at h
    | some y => cases y with
      | v z => simp [hx] at h
      | p i off =>
        simp only [hx] at h
        cases hi : H[i]? with
        | none => simp [hi] at h
        | some q =>
          obtain ⟨cs, T'⟩ := q
          simp only [hi] at h
          have h1 := hR.fr.get t _ hx
          simp only [resRun, show a.tmps.getD t undef = SV.den β (.p i off) by simp [h1], SV.den, asAddr, Sem.run_bind, Sem.run_pure, Result.andThen_ok]
          exact hR.vars.load hi h

theorem results_eq (fn : Func) (tmps : Array Value) : results fn tmps = (do
    let vs ← fn.results.mapM fun r => resRun r tmps
    pure (if h : vs.size = 1 then vs[0] else .tuple vs)) := by
  unfold results
  congr 1
theorem results0 {fn : Func} (h : fn.results = #[]) (tmps : Array Value) (w : World) : (results fn tmps).run P w = .ok (.tuple #[]) w := by simp [results, h]
theorem results1 {fn : Func} {r : ResultVar} (h : fn.results = #[r]) (tmps : Array Value) (w : World) {v : Value} (h1 : (resRun r tmps).run P w = .ok v w) : (results fn tmps).run P w = .ok v w := by
  rw [results_eq]; simp [h, h1]
theorem results2 {fn : Func} {r s : ResultVar} (h : fn.results = #[r, s]) (tmps : Array Value) (w : World) {v u : Value} (h1 : (resRun r tmps).run P w = .ok v w) (h2 : (resRun s tmps).run P w = .ok u w) : (results fn tmps).run P w = .ok (.tuple #[v, u]) w := by
  rw [results_eq]; simp [h, h1, h2]
theorem results3 {fn : Func} {r s t : ResultVar} (h : fn.results = #[r, s, t]) (tmps : Array Value) (w : World) {v u x : Value} (h1 : (resRun r tmps).run P w = .ok v w) (h2 : (resRun s tmps).run P w = .ok u w) (h3 : (resRun t tmps).run P w = .ok x w) : (results fn tmps).run P w = .ok (.tuple #[v, u, x]) w := by
  rw [results_eq]; simp [h, h1, h2, h3]

theorem ret0 {fn : Func} {R : Ending → World → Prop} (hR : Rel [] n w0 B β l H a w) (hf : fn.results = #[]) (h : R (.returned (.tuple #[])) w) : bodyPost P fn R .ret a w :=
  ⟨hR.fr.defers, _, results0 hf _ _, h⟩
theorem ret1 {fn : Func} {R : Ending → World → Prop} (s : SV) (hR : Rel [] n w0 B β l H a w) {r : ResultVar} (hf : fn.results = #[r]) (h1 : resS P β l H r = some s) (h : R (.returned (s.den β)) w) : bodyPost P fn R .ret a w :=
  ⟨hR.fr.defers, _, results1 hf _ _ (resS_run hR h1), h⟩
theorem ret2 {fn : Func} {R : Ending → World → Prop} (s t : SV) (hR : Rel [] n w0 B β l H a w) {r r' : ResultVar} (hf : fn.results = #[r, r']) (h1 : resS P β l H r = some s) (h2 : resS P β l H r' = some t) (h : R (.returned (.tuple #[s.den β, t.den β])) w) : bodyPost P fn R .ret a w :=
  ⟨hR.fr.defers, _, results2 hf _ _ (resS_run hR h1) (resS_run hR h2), h⟩
theorem ret3 {fn : Func} {R : Ending → World → Prop} (s t u : SV) (hR : Rel [] n w0 B β l H a w) {r r' r'' : ResultVar} (hf : fn.results = #[r, r', r'']) (h1 : resS P β l H r = some s) (h2 : resS P β l H r' = some t) (h3 : resS P β l H r'' = some u) (h : R (.returned (.tuple #[s.den β, t.den β, u.den β])) w) : bodyPost P fn R .ret a w :=
  ⟨hR.fr.defers, _, results3 hf _ _ (resS_run hR h1) (resS_run hR h2) (resS_run hR h3), h⟩
theorem end0 {fn : Func} {R : Ending → World → Prop} (hR : Rel [] n w0 B β l H a w) (hf : fn.results = #[]) (h : R (.returned (.tuple #[])) w) : bodyPost P fn R .normal a w :=
  ⟨hR.fr.defers, _, results0 hf _ _, h⟩

/-! ### What is dropped -/
theorem wfS_take {k : Nat} {s : SV} (hk : k ≤ β.length) (h : wfS k s = true) : s.den (β.take k) = s.den β := by
  cases s with
  | v x => rfl
  | p i off =>
    have hi : i < k := Nat.le_of_ble_eq_true h
    simp [SV.den, List.getD_eq_getElem?_getD, List.getElem?_take, hi]

/-- Local variables from number k on are forgotten; of the frame the slots ks are kept. -/
theorem Rel.trimTo (hR : Rel Ds n w0 B β l H a w) (k : Nat) (ks : List Nat) {l' : En} {H' : VH} {γ : List Nat} (hp : outcome ks (some (l, H.take k)) = some (l', H')) (hγ : β.take k = γ) (hw : (Nat.ble k β.length && (wfL k l' && wfH k H')) = true) : Rel Ds n w0 B γ l' H' a w := by
  subst hγ
  simp only [Bool.and_eq_true] at hw
  obtain ⟨hk, hw1, hw2⟩ := hw
  have hk' : k ≤ β.length := Nat.le_of_ble_eq_true hk
  unfold outcome at hp
  cases hm : pick ks l with
  | none => simp [hm] at hp
  | some m =>
    simp only [hm, Option.some.injEq, Prod.mk.injEq] at hp
    obtain ⟨rfl, rfl⟩ := hp
    have hf := hR.fr.pick hm
    refine ⟨⟨hf.defers, hf.size, fun i s hi => ?_⟩, ⟨?_, hR.vars.nodup.sublist (List.take_sublist _ _), fun b hb => hR.vars.ge b (List.mem_of_mem_take hb), ?_⟩, hR.below⟩
    · rw [wfS_take hk' (wfL_get hw1 i s hi)]
      exact hf.get i s hi
    · simp [hR.vars.len]
    · intro i cs T hi
      have hik : i < k := by
        have := (List.getElem?_eq_some_iff.1 hi).1
        simp at this
        omega
      rw [List.getElem?_take, if_pos hik] at hi
      have hb := hR.vars.blk i cs T hi
      have e : (β.take k).getD i 0 = β.getD i 0 := by simp [List.getD_eq_getElem?_getD, List.getElem?_take, hik]
      rw [e, hb]
      have hcs : cs.all (wfS k) = true := by
        rw [wfH, List.all_eq_true] at hw2
        exact hw2 (cs, T) (List.mem_of_getElem? (by rw [List.getElem?_take, if_pos hik]; exact hi))
      congr 3
      refine List.map_congr_left fun s hs => (wfS_take hk' ?_).symm
      rw [List.all_eq_true] at hcs
      exact hcs s hs

/-! ### Operations under a condition -/
def bt (s : ByteArray) (i : Int) : Int := ((s[i.toNat]?).map fun b => (b.toNat : Int)).getD 0
theorem bt_range (s : ByteArray) (i : Int) : 0 ≤ bt s i ∧ bt s i ≤ 255 := by
  unfold bt
  cases s[i.toNat]? with
  | none => simp
  | some b => simp; have := b.toNat_lt; omega

theorem run_index_str {T : TypeId} {x ix : Operand} {ty : TypeId} {s : ByteArray} {k : IntKind} {i : Int} (hu : P.underlying T = some .string) (hx : evV β l x = .string s) (hi : evV β l ix = .int k i) (h0 : 0 ≤ i) (h1 : i < (s.size : Int)) :
    (X β l (.index T x ix) ty).run P w = .ok (.value (.int .u8 (bt s i))) w := by
  have hlt : i.toNat < s.size := by omega
  have hget : s[i.toNat]? = some s[i.toNat] := by simp [hlt]
  simp [X, execOp, Instr.index, hx, hi, asIntOf, run_underlying hu, h0, hget, bt]

def bitsOp (op : BinOp) (k : IntKind) (x y : Int) : Int :=
  let a := BitVec.ofInt k.bits x
  let b := BitVec.ofInt k.bits y
  match op with
  | .and => k.wrap (a &&& b).toNat
  | .or => k.wrap (a ||| b).toNat
  | .xor => k.wrap (a ^^^ b).toNat
  | .andNot => k.wrap (a &&& ~~~b).toNat
  | _ => 0

theorem wrap_i64 {x : Int} (h1 : -9223372036854775808 ≤ x) (h2 : x ≤ 9223372036854775807) : IntKind.i64.wrap x = x := by
  have e : IntKind.i64.wrap x = if 9223372036854775808 ≤ x % 18446744073709551616 then x % 18446744073709551616 - 18446744073709551616 else x % 18446744073709551616 := by
    simp [IntKind.wrap, IntKind.bits, IntKind.signed]
  rw [e]
  split <;> omega
theorem wrap_u8 {x : Int} (h1 : 0 ≤ x) (h2 : x ≤ 255) : IntKind.u8.wrap x = x := by
  simp [IntKind.wrap, IntKind.bits, IntKind.signed]; omega
theorem wrap_u64 {x : Int} (h1 : 0 ≤ x) (h2 : x ≤ 18446744073709551615) : IntKind.u64.wrap x = x := by
  simp [IntKind.wrap, IntKind.bits, IntKind.signed]; omega
theorem wrap_u32 {x : Int} (h1 : 0 ≤ x) (h2 : x ≤ 4294967295) : IntKind.u32.wrap x = x := by
  simp [IntKind.wrap, IntKind.bits, IntKind.signed]; omega
end
end Go.KW

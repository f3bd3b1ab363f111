/- A range over a function, in the logic of XK: the iterator's calls of yield, the caller's loop. -/
import Derived.Test.YtpjibonpnghodaaDoorE
import Derived.RangeFuncNested
import Derived.RangeFuncLeaves
import Derived.RangeFuncCalls
set_option linter.unusedVariables false
set_option linter.unusedSimpArgs false
namespace Go.KW
open Go.RowKit
variable {Ds : List Deferred}

def calmOps (ops : List Oper) : Bool := ops.all fun o => (match o.op with | .defer _ => false | _ => true) && o.guard.isNone
theorem calm_op {o : Oper} {L : List Oper} (h : calmOps L = true) (ho : o ∈ L) : (∀ c, o.op ≠ .defer c) ∧ o.guard = none := by
  unfold calmOps at h
  rw [List.all_eq_true] at h
  have := h o ho
  simp only [Bool.and_eq_true, Option.isNone_iff_eq_none] at this
  exact ⟨fun c e => by rw [e] at this; simp at this, this.2⟩
theorem wanted_none {o : Oper} (h : o.guard = none) (ys : Nat → Option Bool) : Region.wanted o ys = true := by
  simp [Region.wanted, h]

theorem uponIn_of {P : Program} {o : Oper} {a : Act} {next next' : Act → World → Prop} {Q Q' : Exit → Act → World → Prop} {F : Fence} {n : Nat} (hF : F = Fence.wide ∨ ∃ l, F = Fence.wide.inRound l) (hn : ∀ a w, next a w → next' a w) (hp : ∀ c a w, Q (.panic c) a w → Q' (.panic c) a w) (hl : LetsOut Q → LetsOut Q')
    {r : Result Next} (h : o.upon P a next Q r) : o.uponIn F n P a next' Q' r := by
  have hd : F.depth = none := by rcases hF with rfl | ⟨l, rfl⟩ <;> rfl
  have hd2 : ∀ m, F.depth.isSome = true → 1 ≤ m := fun m e => by rw [hd] at e; cases e
  have hc : ∀ {m f args w R}, Calls P f args w R → CallsIn F m P f args w R := by
    intro m f args w R h
    rcases hF with rfl | ⟨l, rfl⟩
    · exact callsIn_wide.2 h
    · exact CallsIn.inRound l (callsIn_wide.2 h)
  match r, h with
  | .ok (.value v) w, h => exact hn _ _ h
  | .ok .skip w, h => exact hn _ _ h
  | .ok (.defer d) w, h => exact hn _ _ h
  | .ok (.enter f args) w, h =>
    refine ⟨hd2 _, (hc h).mono ?_⟩
    rintro (v | c | _) w' h'
    · exact hn _ _ h'
    · exact hp _ _ _ h'
    · exact hl h'
  | .ok (.row row args) w, h =>
    refine ⟨hd2 _, fun c cs hroom => ?_⟩
    obtain ⟨v, w', hr, hs⟩ := h c cs
    refine ⟨v, w', hn _ _ hr, ?_⟩
    have : Machine.fenced P F = Machine.fenced P Fence.wide := by rcases hF with rfl | ⟨l, rfl⟩ <;> rfl
    rw [this]
    exact stepsIn_wide.2 hs
  | .halt (.panic v) w, h => exact hp _ _ _ h

theorem listIn_of {P : Program} {ops ops' : Array Oper} {Q Q' : Exit → Act → World → Prop} {F : Fence} {n : Nat} (hF : F = Fence.wide ∨ ∃ l, F = Fence.wide.inRound l) (hp : ∀ c a w, Q (.panic c) a w → Q' (.panic c) a w) (hq : ¬ LetsOut Q) (rest : List Oper) (hrest : ∀ a w, Q .normal a w → wpListIn F n P ops' Q' rest a w) :
    ∀ (L : List Oper) (a : Act) (w : World), calmOps L = true → wpList P ops Q L a w → wpListIn F n P ops' Q' (L ++ rest) a w
  | [], a, w, _, h => hrest a w h
  | o :: L, a, w, hc, h => by
    obtain ⟨h1, h2⟩ := calm_op hc (List.mem_cons_self ..)
    have hc' : calmOps L = true := by unfold calmOps at hc ⊢; simp only [List.all_cons, Bool.and_eq_true] at hc; exact hc.2
    have hfn : ∀ f, F.fn f := fun f => by rcases hF with rfl | ⟨l, rfl⟩ <;> exact trivial
    unfold wpList at h
    rw [if_pos (wanted_none h2 _)] at h
    show wpListIn F n P ops' Q' (o :: (L ++ rest)) a w
    unfold wpListIn
    rw [if_pos (wanted_none h2 _)]
    rcases h with h | ⟨_, hl⟩
    · refine ⟨fun f _ => hfn f, ?_⟩
      rw [Oper.semAt_eq _ _ _ h1]
      exact uponIn_of hF (fun a w h => listIn_of hF hp hq rest hrest L a w hc' h) hp (fun h => absurd h hq) h
    · exact absurd hl hq

theorem region_in {P : Program} {id : Nat} {ops : Array Oper} {Q : Exit → Act → World → Prop} {F : Fence} {n : Nat} {a : Act} {w : World} (h : wpListIn F n P ops Q ops.toList a w) : (Code.region id ops false).wpIn F n P Q a w := by
  refine wpIn_region ?_
  have e : List.range ops.size = List.range' 0 ops.toList.length := by rw [List.range_eq_range']; simp
  rw [e, wpOpsIn_eq_wpListIn ops.toList 0 (fun j => by simp)]
  exact h

/-- A region of a round's code (no call deferred, no guard). -/
theorem region_round {P : Program} {id : Nat} {ops : Array Oper} {Q : Exit → Act → World → Prop} {n l : Nat} {a : Act} {w : World} (hc : calmOps ops.toList = true) (hq : ¬ LetsOut Q) (h : At P ops Q 0 a w) : (Code.region id ops false).wpIn (Fence.wide.inRound l) n P Q a w := by
  refine region_in ?_
  have := listIn_of (P := P) (ops := ops) (ops' := ops) (Q := Q) (Q' := Q) (F := Fence.wide.inRound l) (n := n) (.inr ⟨l, rfl⟩) (fun _ _ _ h => h) hq [] (fun a w h => h) ops.toList a w hc (by simpa [At] using h)
  simpa using this

/-- What stands at a call of yield: the round, and what follows. -/
def AtYield (P : Program) (ops : Array Oper) (k : Nat) (o : Oper) (Q : Exit → Act → World → Prop) (a : Act) (w : World) : Prop :=
  ∃ (l m : Nat) (args : Array Value) (R : Ending → World → Prop), YieldAt Fence.wide m P l args w R ∧ (execOp a.eval o).run P w = (Instr.yield l args).run P w ∧
    ∀ e w', R e w' → ∃ v, e = .returned v ∧ At P (ops.extract (k + 1) ops.size) Q 0 (a.put o.dst v) w'

theorem round_any {P : Program} {m m' l : Nat} {f : FuncId} {tmps : Array Value} {assign body : Code} {w : World} {R : Ending → World → Prop} (h : RoundIn Fence.wide m P l f tmps assign body w R) : RoundIn Fence.wide m' P l f tmps assign body w R :=
  ⟨h.1, fun c cs _ => h.2 c cs (room_wide _)⟩

/-- A region with a call of yield in its midst. -/
theorem region_yield {P : Program} {id : Nat} {ops : Array Oper} {Q : Exit → Act → World → Prop} {a : Act} {w : World} (k : Nat) {o : Oper} (ho : ops[k]? = some o) (hc : calmOps ops.toList = true) (hq : ¬ LetsOut Q)
    (h : At P (ops.extract 0 k) (fun e a' w' => e = .normal ∧ AtYield P ops k o Q a' w') 0 a w) : (Code.region id ops false).wp P Q a w := by
  have hk : k < ops.size := (Array.getElem?_eq_some_iff.1 ho).1
  have hsplit : ops.toList = (ops.extract 0 k).toList ++ o :: (ops.extract (k + 1) ops.size).toList := by
    have e1 : ops.toList[k]? = some o := by rw [Array.getElem?_toList]; exact ho
    have e2 : (ops.extract 0 k).toList = ops.toList.take k := by simp
    have e3 : (ops.extract (k + 1) ops.size).toList = ops.toList.drop (k + 1) := by
      rw [Array.toList_extract, List.extract_eq_take_drop, List.take_of_length_le (by simp)]
    rw [e2, e3]
    have := List.take_append_drop k ops.toList
    rw [List.drop_eq_getElem_cons (by simpa using hk)] at this
    have e4 : ops.toList[k]'(by simpa using hk) = o := by
      rw [List.getElem?_eq_getElem (by simpa using hk)] at e1
      injection e1
    rw [e4] at this
    exact this.symm
  have hca : ∀ (L M : List Oper), calmOps (L ++ M) = true → calmOps L = true ∧ calmOps M = true := by
    intro L M h
    unfold calmOps at h ⊢
    rw [List.all_append] at h
    exact (Bool.and_eq_true _ _).mp h
  have hc1 := hc
  rw [hsplit] at hc1
  obtain ⟨hcp, hcr⟩ := hca _ _ hc1
  obtain ⟨_, hcr2⟩ := hca [o] _ hcr
  obtain ⟨ho1, ho2⟩ := calm_op hcr (List.mem_cons_self ..)
  refine (wpIn_wide (n := 1)).1 (region_in ?_)
  rw [hsplit]
  refine listIn_of (P := P) (ops := ops.extract 0 k) (ops' := ops) (Q := fun e a' w' => e = .normal ∧ AtYield P ops k o Q a' w') (Q' := Q) (.inl rfl) (fun c a w h => by cases h.1) (by rintro ⟨a, w, h, _⟩; cases h) _ ?_ _ a w hcp (by unfold At at h; rw [List.drop_zero] at h; exact h)
  rintro a w ⟨_, l, m, args, R, hy, he, hn⟩
  unfold wpListIn
  rw [if_pos (wanted_none ho2 _)]
  refine ⟨fun _ _ => trivial, ?_⟩
  rw [Oper.semAt_eq _ _ _ ho1, he]
  obtain ⟨fn, tmps, assign, body, hy1, hy2⟩ := hy
  rw [hy1]
  refine ⟨fun e => (by cases e), (round_any hy2).mono ?_⟩
  rintro e w' hr
  obtain ⟨v, rfl, hat⟩ := hn e w' hr
  have := listIn_of (P := P) (ops := ops.extract (k + 1) ops.size) (ops' := ops) (Q := Q) (Q' := Q) (F := Fence.wide) (n := 1) (.inl rfl) (fun _ _ _ h => h) hq [] (fun a w h => h) (ops.extract (k + 1) ops.size).toList _ w' hcr2 (by unfold At at hat; rw [List.drop_zero] at hat; exact hat)
  simpa using this

section
variable {P : Program} {n B : Nat} {w0 : World} {β : List Nat} {ops : Array Oper} {Q : Exit → Act → World → Prop} {l : En} {H : VH} {a : Act} {w : World}
/-- The call of yield, behind the operations ahead of it. -/
theorem yieldS {k : Nat} {o : Oper} {lp m : Nat} {args : Array Value} {R : Ending → World → Prop} (hR : Rel Ds n w0 B β l H a w) (hd : dstOk n o.dst = true) (hk : (simpleOp o.op && o.op.operands.toList.all (known l)) = true)
    (hx : (X β l o.op o.type).run P w = (Instr.yield lp args).run P w) (hy : YieldAt Fence.wide m P lp args w R)
    (h : ∀ e w', R e w' → ∃ v, e = .returned v ∧ ∀ a', Fr Ds n β (puts l o.dst (.v v)) a' → At P (ops.extract (k + 1) ops.size) Q 0 a' w') : AtYield P ops k o Q a w := by
  refine ⟨lp, m, args, R, hy, ?_, fun e w' hr => ?_⟩
  · rw [hR.exec (o := o) rfl rfl hk]; exact hx
  · obtain ⟨v, rfl, hn⟩ := h e w' hr
    refine ⟨v, rfl, hn _ (hR.fr.put o.dst (.v v) fun k e => ?_)⟩
    rw [e] at hd
    exact Nat.le_of_ble_eq_true hd

theorem Vars.nil (B : Nat) (w : World) : Vars B [] [] w := ⟨rfl, by simp, by simp, by simp⟩

/-- What a round of a collecting loop keeps: what lies below lo, cells of other types than T1 and T2. -/
structure Upd (lo : Nat) (T1 T2 : TypeId) (w w' : World) : Prop where
  below : Below lo w w'
  cells : ∀ (i : Nat) (cs : Array Value) (T : TypeId) (fr : Nat × Nat), w.heap[i]? = some (.cells cs T fr) → T ≠ T1 → T ≠ T2 → w'.heap[i]? = some (.cells cs T fr)
theorem Upd.trans {lo : Nat} {T1 T2 : TypeId} {a b c : World} (h : Upd lo T1 T2 a b) (k : Upd lo T1 T2 b c) : Upd lo T1 T2 a c :=
  ⟨h.below.trans k.below, fun i cs T fr hi h1 h2 => k.cells i cs T fr (h.cells i cs T fr hi h1 h2) h1 h2⟩
theorem Upd.ofBelow {lo : Nat} {T1 T2 : TypeId} {a b : World} (h : Below a.heap.size a b) (hlo : lo ≤ a.heap.size) : Upd lo T1 T2 a b :=
  ⟨h.mono hlo, fun i cs T fr hi _ _ => (h.block i (Array.getElem?_eq_some_iff.1 hi).1).trans hi⟩
theorem Upd.putObj {lo T1 T2 B : Nat} (hB : lo ≤ B) (W : World) (l : Nat) (o o' : Obj) (hl : B ≤ l) (h : W.heap[l]? = some o) (hc : o.isCells = false) (_ : o.isWalk = false) : Upd lo T1 T2 W (W.putObj l o') := by
  have hg := grownBy_putObj' W l o'
  refine ⟨(Below.refl lo W).grown hg (by have := (Array.getElem?_eq_some_iff.1 h).1; omega) (fun k e => by injection e with e; omega), fun i cs T fr hi _ _ => ?_⟩
  rw [hg.block i (Array.getElem?_eq_some_iff.1 hi).1 (fun e => by
    injection e with e
    subst e
    rw [h] at hi
    injection hi with hi
    rw [hi] at hc
    cases hc)]
  exact hi
theorem others_ofBelow {a b : World} (h : Below a.heap.size a b) (B : Nat) : KeepsFrom B a b :=
  ⟨h.size, fun i o _ hi _ => (h.block i (Array.getElem?_eq_some_iff.1 hi).1).trans hi⟩
/-- New variables were laid, and written. -/
theorem own_below {lo : Nat} {β γ : List Nat} {H G : VH} {W w2 w3 : World} (h0 : Vars lo β H W) (h1 : Vars lo (β ++ γ) (H ++ G) w3) (hwf : wfH β.length H = true) (hb : Below W.heap.size W w2) (ho : Own (β ++ γ) w2 w3) (hγ : ∀ b ∈ γ, W.heap.size ≤ b) : Below W.heap.size W w3 := by
  refine ⟨ho.os.trans hb.os, ho.tape.trans hb.tape, ho.output.trans hb.output, by rw [ho.size]; exact hb.size, fun i hi => ?_⟩
  by_cases hm : i ∈ β ++ γ
  · rw [List.mem_append] at hm
    rcases hm with hm | hm
    · obtain ⟨j, hj, e⟩ := List.getElem_of_mem hm
      have hjH : j < H.length := by rw [← h0.len]; exact hj
      have a0 := h0.blk j H[j].1 H[j].2 (List.getElem?_eq_getElem hjH)
      have a1 := h1.blk j H[j].1 H[j].2 (by rw [List.getElem?_append_left hjH]; exact List.getElem?_eq_getElem hjH)
      have e0 : β.getD j 0 = i := by simp [List.getD_eq_getElem?_getD, List.getElem?_eq_getElem hj, e]
      have e1 : (β ++ γ).getD j 0 = i := by rw [List.getD_eq_getElem?_getD, List.getElem?_append_left hj]; simp [List.getElem?_eq_getElem hj, e]
      rw [e0] at a0
      rw [e1] at a1
      rw [a0, a1]
      have hcs : H[j].1.map (SV.den (β ++ γ)) = H[j].1.map (SV.den β) := by
        refine List.map_congr_left fun s hs => wfS_den ?_ _
        rw [wfH, List.all_eq_true] at hwf
        have := hwf H[j] (List.getElem_mem hjH)
        rw [List.all_eq_true] at this
        exact this s hs
      rw [hcs]
    · have := hγ i hm; omega
  · rw [ho.block i hm]
    exact hb.block i hi
/-- One variable more. -/
theorem Vars.snoc {lo : Nat} {β : List Nat} {H : VH} {W : World} (h : Vars lo β H W) {b : Nat} {cs : List Value} {T : TypeId} (hb : b ∉ β) (hlo : lo ≤ b) (hwf : wfH β.length H = true) (hc : W.heap[b]? = some (.cells cs.toArray T (0, 0))) : Vars lo (β ++ [b]) (H ++ [(cs.map SV.v, T)]) W := by
  refine ⟨by simp [h.len], ?_, ?_, ?_⟩
  · rw [List.nodup_append]
    refine ⟨h.nodup, by simp, ?_⟩
    intro x hx y hy e
    simp only [List.mem_singleton] at hy
    exact hb (hy ▸ e ▸ hx)
  · intro x hx
    simp only [List.mem_append, List.mem_singleton] at hx
    rcases hx with hx | rfl
    · exact h.ge x hx
    · exact hlo
  · intro i cs' T' hi
    by_cases hlt : i < H.length
    · rw [List.getElem?_append_left hlt] at hi
      have hi' : i < β.length := by rw [h.len]; exact hlt
      have e : (β ++ [b]).getD i 0 = β.getD i 0 := by simp [List.getD_eq_getElem?_getD, List.getElem?_append_left hi']
      have hcs : cs'.map (SV.den (β ++ [b])) = cs'.map (SV.den β) := by
        refine List.map_congr_left fun s hs => wfS_den ?_ _
        rw [wfH, List.all_eq_true] at hwf
        have := hwf (cs', T') (List.mem_of_getElem? hi)
        rw [List.all_eq_true] at this
        exact this s hs
      rw [e, hcs]
      exact h.blk i cs' T' hi
    · have hi2 : i = H.length := by
        have := (List.getElem?_eq_some_iff.1 hi).1
        simp at this
        omega
      subst hi2
      simp only [List.getElem?_append_right (Nat.le_refl _), Nat.sub_self, List.getElem?_cons_zero, Option.some.injEq, Prod.mk.injEq] at hi
      obtain ⟨rfl, rfl⟩ := hi
      have e : (β ++ [b]).getD H.length 0 = b := by rw [← h.len]; simp [List.getD_eq_getElem?_getD]
      rw [e, hc]
      simp [List.map_map, Function.comp_def, SV.den]
/-- What a collecting round has kept, out of what it has written. -/
theorem Upd.ofKept {lo : Nat} {T1 T2 : TypeId} {W W' : World} {β0 β : List Nat} {X : Option Nat} (hk : Kept β0 X W β W') (hb : Below lo W W') (h0 : ∀ b ∈ β0, W'.heap[b]? = W.heap[b]? ∨ ∃ cs, W.heap[b]? = some (.cells cs T1 (0, 0))) (hX : ∀ g, X = some g → ∃ cs, W.heap[g]? = some (.cells cs T2 (0, 0))) :
    Upd lo T1 T2 W W' ∧ KeepsOthers W W' := by
  have key : ∀ (i : Nat) (o : Obj), W.heap[i]? = some o → (∀ cs, o ≠ .cells cs T1 (0, 0)) → (∀ cs, o ≠ .cells cs T2 (0, 0)) → W'.heap[i]? = some o := by
    intro i o hi h1 h2
    have hlt := (Array.getElem?_eq_some_iff.1 hi).1
    by_cases hm : i ∈ β0
    · rcases h0 i hm with e | ⟨cs, e⟩
      · rw [e]; exact hi
      · rw [hi] at e; injection e with e; exact absurd e (h1 cs)
    · by_cases hx : X = some i
      · obtain ⟨cs, e⟩ := hX i hx
        rw [hi] at e; injection e with e; exact absurd e (h2 cs)
      · rw [hk.block i hlt hm hx]; exact hi
  exact ⟨⟨hb, fun i cs T fr hi h1 h2 => key i _ hi (fun cs' e => by injection e with _ e; exact h1 e) (fun cs' e => by injection e with _ e; exact h2 e)⟩,
    ⟨hb.size, fun i o hi hc => key i o hi (fun cs e => by rw [e] at hc; cases hc) (fun cs e => by rw [e] at hc; cases hc)⟩⟩
theorem Row.snocBlk {α : Type} {w : World} {β : List Nat} {lo : Nat} {e : TypeId} {k : Nat} {enc : α → List Value} {A : Option Addr} {c : Nat} {l : List α} {b : Nat} (h : Row w β lo e k enc A c l) (hb : ∀ ad, A = some ad → ad.block ≠ b) : Row w (β ++ [b]) lo e k enc A c l :=
  ⟨h.own, fun g hg hm => by
    rw [List.mem_append, List.mem_singleton] at hm
    rcases hm with hm | rfl
    · exact h.sep g hg hm
    · cases A with
      | none => cases hg
      | some ad => injection hg with hg; exact hb ad rfl hg⟩
theorem cell_slice {A A2 : Option Addr} {n n2 c c2 : Nat} {T : TypeId} {o : Option Obj} (h : o = some (.cells #[.slice A n c] T (0, 0))) (h2 : o = some (.cells #[.slice A2 n2 c2] T (0, 0))) : A = A2 ∧ n = n2 ∧ c = c2 := by
  rw [h] at h2
  injection h2 with h2
  injection h2 with h2
  have h3 : [Value.slice A n c] = [Value.slice A2 n2 c2] := congrArg Array.toList h2
  injection h3 with h3
  injection h3 with x y z
  exact ⟨x, y, z⟩
theorem Row.ofType {α : Type} {w : World} {β : List Nat} {lo : Nat} {e : TypeId} {k : Nat} {enc : α → List Value} {A : Option Addr} {c : Nat} {l : List α} (h : Row w β lo e k enc A c l) : ∀ g, (Value.slice A l.length c).ownBlock = some g → ∃ cs, w.heap[g]? = some (.cells cs e (0, 0)) := by
  intro g hg
  rcases h.own.2 with ⟨hv, _⟩ | ⟨g', cap, cur, hv, _, hh, _⟩
  · rw [hv] at hg; cases hg
  · rw [hv] at hg; injection hg with hg; rw [← hg]; exact ⟨cur, hh⟩
end

theorem grown_of_below {w w' : World} (h : Below w.heap.size w w') : w.grownBy w' none := ⟨h.os, h.tape, h.output, h.size, fun i hi _ => h.block i hi⟩

section
variable {α : Type} {B lo : Nat} {β : List Nat} {H : VH} {w w' : World} {row : Option Nat}
/-- The turn of a block that is no cells. -/
theorem Vars.turn (hV : Vars B β H w) (hg : w.grownBy w' row) (hr : ∀ r, row = some r → ∃ o : Obj, w.heap[r]? = some o ∧ o.isCells = false) : Vars B β H w' :=
  hV.grown hg fun b hb hm => by
    obtain ⟨i, hi, e⟩ := List.getElem_of_mem hm
    have hiH : i < H.length := by rw [← hV.len]; exact hi
    have h1 := hV.blk i H[i].1 H[i].2 (List.getElem?_eq_getElem hiH)
    have e2 : β.getD i 0 = b := by simp [List.getD_eq_getElem?_getD, List.getElem?_eq_getElem hi, e]
    rw [e2] at h1
    obtain ⟨o, ho, hc⟩ := hr b hb
    rw [h1] at ho
    injection ho with ho
    rw [← ho] at hc
    cases hc
theorem Row.turn {e : TypeId} {k : Nat} {enc : α → List Value} {A : Option Addr} {c : Nat} {l : List α} (h : Row w β lo e k enc A c l) (hg : w.grownBy w' row) (hr : ∀ r, row = some r → ∃ o : Obj, w.heap[r]? = some o ∧ o.isCells = false) : Row w' β lo e k enc A c l := by
  refine h.grown hg ?_
  rcases h.own.2 with ⟨hv, h0⟩ | ⟨g, cap, cur, hv, hlo, hh, _⟩
  · left; rw [hv]; rfl
  · right
    rw [hv]
    intro e
    obtain ⟨o, ho, hc⟩ := hr g e.symm
    rw [hh] at ho
    injection ho with ho
    rw [← ho] at hc
    cases hc
theorem cells_turn {i : Nat} {cs : Array Value} {T : TypeId} {fr : Nat × Nat} (h : w.heap[i]? = some (.cells cs T fr)) (hg : w.grownBy w' row) (hr : ∀ r, row = some r → ∃ o : Obj, w.heap[r]? = some o ∧ o.isCells = false) : w'.heap[i]? = some (.cells cs T fr) := by
  rw [hg.block i (Array.getElem?_eq_some_iff.1 h).1 (fun e => by
    obtain ⟨o, ho, hc⟩ := hr i e.symm
    rw [h] at ho
    injection ho with ho
    rw [← ho] at hc
    cases hc)]
  exact h
end

/-- A function whose body holds a range over a function. -/
theorem enterM {P : Program} {f : FuncId} {fn : Func} {c : Code} {args : Array Value} {w : World} {R : Ending → World → Prop} (l : En) (hf : P.funcs[f]? = some fn) (hb : fn.body = some c)
    (hl : ∃ m : Nat, m = fn.ntmps ∧ (args.toList.zipIdx.map fun x => (x.2, SV.v x.1)) = l ∧ Nat.ble args.size m = true)
    (h : ∀ a, Rel [] fn.ntmps w w.heap.size [] l [] a w → c.wp P (bodyPostM Fence.wide 3 P fn R) a w) : Calls P f args w R := by
  refine callsIn_wide.1 (callsIn_of_wp_marks (n := 3) hf hb trivial (wpIn_wide.2 (h _ ⟨⟨rfl, ?_, ?_⟩, ⟨rfl, by simp, by simp, by simp⟩, Below.refl _ _⟩)))
  · obtain ⟨m, rfl, _, h3⟩ := hl
    have := Nat.le_of_ble_eq_true h3
    simp; omega
  · obtain ⟨m, rfl, rfl, h3⟩ := hl
    intro i s hi
    have key : ∀ (xs : List Value) (k : Nat) i s, gets ((xs.zipIdx k).map fun x => (x.2, SV.v x.1)) i = some s → k ≤ i ∧ ∃ v, xs[i - k]? = some v ∧ s = .v v := by
      intro xs
      induction xs with
      | nil => intro k i s h; simp [gets] at h
      | cons x r ih =>
        intro k i s h
        simp only [List.zipIdx_cons, List.map_cons, gets_cons] at h
        by_cases e : k = i
        · subst e; simp only [if_true, Option.some.injEq] at h; subst h; exact ⟨Nat.le_refl _, x, by simp, rfl⟩
        · simp only [e, if_false] at h
          obtain ⟨h1, v, h2, h3⟩ := ih (k + 1) i s h
          exact ⟨by omega, v, by rw [show i - k = (i - (k + 1)) + 1 by omega]; simpa using h2, h3⟩
    obtain ⟨_, v, hv, rfl⟩ := key args.toList 0 i s hi
    simp only [Nat.sub_zero] at hv
    rw [Array.getElem?_append]
    have hlt : i < args.size := by simpa using (List.getElem?_eq_some_iff.1 hv).1
    rw [if_pos hlt]
    simpa [SV.den] using hv

section
variable {P : Program} {n B : Nat} {w0 : World} {β : List Nat} {l : En} {H : VH} {a : Act} {w : World} {fn : Func} {R : Ending → World → Prop}
theorem ret2M (s t : SV) (hR : Rel [] n w0 B β l H a w) {r r' : ResultVar} (hf : fn.results = #[r, r']) (h1 : resS P β l H r = some s) (h2 : resS P β l H r' = some t) (h : R (.returned (.tuple #[s.den β, t.den β])) w) : bodyPostM Fence.wide 3 P fn R .ret a w := by
  show LeavesInM Fence.wide 3 P fn a.tmps R a.defers .returning w
  rw [hR.fr.defers]
  exact ⟨_, results2 hf _ _ (resS_run hR h1) (resS_run hR h2), h⟩
theorem resS_runD (hR : Rel Ds n w0 B β l H a w) {r : ResultVar} {s : SV} (h : resS P β l H r = some s) : (resRun r a.tmps).run P w = .ok (s.den β) w := by
  have hR2 : Rel [] n w0 B β l H { a with defers := [] } w := ⟨⟨rfl, hR.fr.size, hR.fr.get⟩, hR.vars, hR.below⟩
  exact resS_run (a := { a with defers := [] }) hR2 h
/-- The return behind one loop: the block for the rounds' deferred calls is taken. -/
theorem ret2D {D : Nat} (s t : SV) (hR : Rel [{ target := .collected D, args := #[] }] n w0 B β l H a w) (hK : w.heap[D]? = some (.deferred (some []))) (hD : B ≤ D) (hB : B ≤ w.heap.size) {r r' : ResultVar} (hf : fn.results = #[r, r']) (h1 : resS P β l H r = some s) (h2 : resS P β l H r' = some t)
    (h : ∀ w', w.grownBy w' (some D) → Below B w0 w' → R (.returned (.tuple #[s.den β, t.den β])) w') : bodyPostM Fence.wide 3 P fn R .ret a w := by
  show LeavesInM Fence.wide 3 P fn a.tmps R a.defers .returning w
  rw [hR.fr.defers]
  have hg := grownBy_putObj' w D (.deferred none)
  have hturn : ∀ r, some D = some r → ∃ o : Obj, w.heap[r]? = some o ∧ o.isCells = false := fun r e => by injection e with e; subst e; exact ⟨_, hK, rfl⟩
  have hR2 : Rel [{ target := .collected D, args := #[] }] n w0 B β l H a (w.putObj D (.deferred none)) := ⟨hR.fr, hR.vars.turn hg hturn, hR.below.grown hg hB (fun k e => by injection e with e; subst e; exact hD)⟩
  exact ⟨by simp, .inl ⟨_, _, rfl, run_takeDeferred hK, ⟨_, results2 hf _ _ (resS_runD hR2 h1) (resS_runD hR2 h2), h _ hg hR2.below⟩⟩⟩
end
end Go.KW

/- '==' of structs of plain parts, reckoned by the kernel. -/
import Derived.Test.YtpjibonpnghodaaDoorE
import Derived.Laws.StructEq
set_option linter.unusedVariables false
set_option linter.unusedSimpArgs false
namespace Go.KW
open Go.RowKit
variable {Ds : List Deferred}

def eqS (P : Program) (t : TypeId) : Value → Value → Option Bool
  | .int k a, .int k' b => match P.underlying t with | some (.int _) => cond (decide (k = k')) (some (a == b)) none | _ => none
  | .bool a, .bool b => match P.underlying t with | some .bool => some (a == b) | _ => none
  | .string a, .string b => match P.underlying t with | some .string => some (a.toList == b.toList) | _ => none
  | _, _ => none
def eqF (P : Program) (xs ys : Array Value) (f : Field) : Option Bool :=
  cond (f.name == "_") none (match aggOf P f.type, xs[f.offset]?, ys[f.offset]? with | some false, some a, some b => eqS P f.type a b | _, _, _ => none)
def eqFs (P : Program) (xs ys : Array Value) : List Field → Option Bool
  | [] => some true
  | [f] => eqF P xs ys f
  | f :: fs => match eqF P xs ys f, eqFs P xs ys fs with | some a, some b => some (a && b) | _, _ => none
def eqTop (P : Program) (T : TypeId) (xs ys : Array Value) : Option Bool :=
  match P.underlying T with
  | some (.struct fs) => cond (P.stoodInHeld T || P.eqGuardType P.depth T) none (eqFs P xs ys fs.toList)
  | _ => none

section
variable {P : Program} {w : World}
theorem eqS_run {d : Nat} {t : TypeId} {a b : Value} {r : Bool} (h : eqS P t a b = some r) : (Op.equalIn (d + 1) t a b).run P w = .ok r w := by
  cases a <;> cases b <;> first | (exfalso; simp [eqS] at h; done) | skip
  case bool.bool x y =>
    simp only [eqS] at h
    split at h
    · next hu => injection h with h; rw [← h]; exact run_equalIn_bool' w d t _ _ hu
    · cases h
  case int.int k x k' y =>
    simp only [eqS] at h
    split at h
    · next hu =>
      cases hk : decide (k = k') with
      | false => rw [hk] at h; cases h
      | true =>
        have hk' : k = k' := of_decide_eq_true hk
        rw [hk] at h
        injection h with h
        subst hk'
        rw [← h]
        exact run_equalIn_int w d t k _ _ _ hu
    · cases h
  case string.string x y =>
    simp only [eqS] at h
    split at h
    · next hu => injection h with h; rw [← h]; exact run_equalIn_string w d t _ _ hu
    · cases h
theorem part_run {t : TypeId} {xs : Array Value} {off : Nat} {a : Value} (ha : aggOf P t = some false) (hx : xs[off]? = some a) : (part t xs off).run P w = .ok a w := by
  simp only [part, Sem.run_bind, aggOf_run ha w, Result.andThen_ok, Bool.false_eq_true, if_false, hx, Sem.run_pure]
theorem eqF_run {d : Nat} {xs ys : Array Value} {f : Field} {r : Bool} (h : eqF P xs ys f = some r) : f.name ≠ "_" ∧ ∃ a b, (part f.type xs f.offset).run P w = .ok a w ∧ (part f.type ys f.offset).run P w = .ok b w ∧ (Op.equalIn (d + 1) f.type a b).run P w = .ok r w := by
  unfold eqF at h
  cases hn : f.name == "_" with
  | true => simp [hn] at h
  | false =>
    simp only [hn, cond_false] at h
    refine ⟨by simpa using hn, ?_⟩
    split at h
    · rename_i a b h1 h2 h3
      exact ⟨_, _, part_run h1 h2, part_run h1 h3, eqS_run h⟩
    · cases h
theorem eqFs_run {d : Nat} {xs ys : Array Value} : ∀ (fs : List Field) (r : Bool), eqFs P xs ys fs = some r → (Op.eqFields (d + 1) xs ys fs).run P w = .ok r w
  | [], r, h => by simp [eqFs] at h; subst h; simp [Op.eqFields]
  | [f], r, h => by
    obtain ⟨hn, a, b, ha, hb, he⟩ := eqF_run (d := d) (w := w) (show eqF P xs ys f = some r from h)
    simp only [Op.eqFields, if_pos hn, Sem.run_bind, ha, hb, he, Result.andThen_ok]
    cases r <;> simp
  | f :: g :: fs, r, h => by
    unfold eqFs at h
    split at h
    · rename_i s t h1 h2
      simp only [Option.some.injEq] at h
      subst h
      obtain ⟨hn, a, b, ha, hb, he⟩ := eqF_run (d := d) (w := w) h1
      have ih := eqFs_run (d := d) (g :: fs) t h2
      rw [Op.eqFields]
      simp only [if_pos hn, Sem.run_bind, ha, hb, he, Result.andThen_ok]
      cases s
      · simp
      · simpa using ih
    · cases h
theorem run_eql_agg {β : List Nat} {l : En} {T : TypeId} {x y : Operand} {t2 ty : TypeId} {xs ys : Array Value} {r : Bool} (hx : evV β l x = .agg xs) (hy : evV β l y = .agg ys) (h : eqTop P T xs ys = some r) :
    (X β l (.binOp .eql T x y t2) ty).run P w = .ok (.value (.bool r)) w ∧ (X β l (.binOp .neq T x y t2) ty).run P w = .ok (.value (.bool !r)) w := by
  unfold eqTop at h
  split at h
  · rename_i fs hu
    cases hc : (P.stoodInHeld T || P.eqGuardType P.depth T) with
    | true => simp [hc] at h
    | false =>
      simp only [hc, cond_false] at h
      obtain ⟨h1, h2⟩ := Bool.or_eq_false_iff.1 hc
      have hf : P.fieldsOf T = fs := by simp [Program.fieldsOf, hu]
      have he : (Op.equalIn 10000 T (.agg xs) (.agg ys)).run P w = .ok r w := by
        rw [show (10000 : Nat) = 9999 + 1 from rfl, run_equalIn_struct w 9999 T xs ys (by rw [hf]; exact hu) h1, hf]
        exact eqFs_run (d := 9998) fs.toList r h
      constructor
      · simp only [X, execOp, Sem.run_bind, hx, hy, run_eqGuard_agg w _ T x y xs ys h2, Result.andThen_ok, run_eql_struct, he, Sem.run_pure]
      · simp only [X, execOp, Sem.run_bind, hx, hy, run_eqGuard_agg w _ T x y xs ys h2, Result.andThen_ok, run_neq_struct, he, Sem.run_pure]
  · cases h
end
end Go.KW

/- Specifications from contracts. No condition. -/
import Derived.Test.YtajdkbgbekdbmaaE9
namespace Go.Proofs.Ytajdkbgbekdbmaa
set_option linter.unusedVariables false
set_option linter.unusedSimpArgs false
open Go.RowKit E

def E.At.toVal : At → Option Value
  | .val v => some v
  | .bit b => some (.bool b)
  | _ => none
def E.atsVal : List At → Option (List Value)
  | [] => some []
  | a :: l => match a.toVal, atsVal l with
    | some v, some vs => some (v :: vs)
    | _, _ => none
def E.NV.toVal : NV → Option Value
  | .one a => a.toVal
  | .agg l => match atsVal l with
    | some vs => some (.agg vs.toArray)
    | none => none
def E.svsVal : List SV → Option (List Value)
  | [] => some []
  | .nv x :: l => match x.toVal, svsVal l with
    | some v, some vs => some (v :: vs)
    | _, _ => none
  | _ => none
theorem E.At.toVal_rel {env : Env} {a : At} {v u : Value} (h : a.toVal = some v) (k : a.rel env u) : u = v := by
  cases a <;> simp only [At.toVal, Option.some.injEq, reduceCtorEq] at h
  · subst h; exact k
  · subst h; exact k
theorem E.atsVal_rel {env : Env} : ∀ {l : List At} {vs us : List Value}, atsVal l = some vs → AllRel env l us → us = vs
  | [], vs, [], h, _ => by simp only [atsVal, Option.some.injEq] at h; exact h
  | a :: l, vs, u :: us, h, k => by
    simp only [atsVal] at h
    split at h
    · rename_i v vs' e1 e2
      simp only [Option.some.injEq] at h; subst h
      rw [At.toVal_rel e1 k.1, atsVal_rel e2 k.2]
    · cases h
theorem E.NV.toVal_rel {env : Env} {x : NV} {v u : Value} (h : x.toVal = some v) (k : x.rel env u) : u = v := by
  cases x with
  | one a => exact At.toVal_rel h k
  | agg l =>
    obtain ⟨cs, rfl, k⟩ := k
    simp only [NV.toVal] at h
    split at h
    · rename_i vs e
      simp only [Option.some.injEq] at h; subst h
      rw [← atsVal_rel e k]
    · cases h
theorem E.svsVal_rel {env : Env} : ∀ {l : List SV} {vs us : List Value}, svsVal l = some vs → AllSV env l us → us = vs
  | [], vs, [], h, _ => by simp only [svsVal, Option.some.injEq] at h; exact h
  | .nv a :: l, vs, u :: us, h, k => by
    simp only [svsVal] at h
    split at h
    · rename_i v vs' e1 e2
      simp only [Option.some.injEq] at h; subst h
      rw [NV.toVal_rel e1 k.1, svsVal_rel e2 k.2]
    · cases h
  | .tup _ :: l, vs, us, h, k => by simp [svsVal] at h
  | .any :: l, vs, us, h, k => by simp [svsVal] at h
theorem E.vals_eq {args : List SV} {vs : List Value} (h : svsVal args = some vs) {vals : Array Value} (hv : vs.toArray = vals) : ∀ us, AllSV (fun _ => none) args us → us.toArray = vals :=
  fun us hu => by rw [svsVal_rel h hu, hv]

theorem E.leAts_self {ρ : List (Nat × Bd)} {m : Nat} : ∀ {l : List At}, plainL l = true → AllT (leAts ρ m l l)
  | [], _ => trivial
  | a :: l, h => by
    simp only [plainL, Bool.and_eq_true] at h
    refine AllT.append.2 ⟨?_, leAts_self h.2⟩
    have h1 := h.1
    cases a with
    | val v =>
      cases v with
      | int k n => show AllT (if k = k then [n = n] else [False]); rw [if_pos rfl]; exact ⟨rfl, trivial⟩
      | bool b => exact ⟨rfl, trivial⟩
      | string b => exact ⟨rfl, trivial⟩
      | _ => exact ⟨rfl, trivial⟩
    | bit b => exact ⟨rfl, trivial⟩
    | any => trivial
    | _ => cases h1
/-- Two rows that are one. -/
theorem E.leG_eq {ρ : List (Nat × Bd)} {m n : Nat} {g g' : Nat → List At} (h : ∀ i, i < n → g i = g' i) (hp : ∀ i, i < n → plainL (g' i) = true) : ∀ i, i < n → AllT (leAts ρ m (g i) (g' i)) :=
  fun i hi => by rw [h i hi]; exact leAts_self (hp i hi)

abbrev iA (n : Int) : SV := .nv (.one (.val (.int .i64 n)))
abbrev uA (n : Int) : SV := .nv (.one (.val (.int .u64 n)))
abbrev bA (b : Bool) : SV := .nv (.one (.val (.bool b)))
theorem enter_of {P : Program} {f : FuncId} {fn : Func} (h : P.funcs[f]? = some fn) (h2 : (fn.name == "runtime.NumGoroutine") = false) (h3 : fn.body.isNone = false) : EnterOk P f := ⟨fn, h, h2, h3⟩
end Go.Proofs.Ytajdkbgbekdbmaa

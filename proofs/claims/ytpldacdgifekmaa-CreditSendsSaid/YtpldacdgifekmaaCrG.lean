/- Credit: what each function gives, for the symbolic run. No condition. -/
import Derived.Test.YtpldacdgifekmaaE9
import Derived.Test.YtpldacdgifekmaaCrU
namespace Go.Proofs.Ytpldacdgifekmaa
set_option linter.unusedVariables false
set_option linter.unusedSimpArgs false
open Go.RowKit E

def E.At.toVal : At → Option Value
  | .val v => some v
  | .bit b => some (.bool b)
  | _ => none
def E.atsVal : List At → Option (List Value)
  | [] => some []
  | a :: l => match a.toVal, atsVal l with
    | some v, some vs => some (v :: vs)
    | _, _ => none
def E.NV.toVal : NV → Option Value
  | .one a => a.toVal
  | .agg l => match atsVal l with
    | some vs => some (.agg vs.toArray)
    | none => none
def E.svsVal : List SV → Option (List Value)
  | [] => some []
  | .nv x :: l => match x.toVal, svsVal l with
    | some v, some vs => some (v :: vs)
    | _, _ => none
  | _ => none
theorem E.At.toVal_rel {env : Env} {a : At} {v u : Value} (h : a.toVal = some v) (k : a.rel env u) : u = v := by
  cases a <;> simp only [At.toVal, Option.some.injEq, reduceCtorEq] at h
  · subst h; exact k
  · subst h; exact k
theorem E.atsVal_rel {env : Env} : ∀ {l : List At} {vs us : List Value}, atsVal l = some vs → AllRel env l us → us = vs
  | [], vs, [], h, _ => by simp only [atsVal, Option.some.injEq] at h; exact h
  | a :: l, vs, u :: us, h, k => by
    simp only [atsVal] at h
    split at h
    · rename_i v vs' e1 e2
      simp only [Option.some.injEq] at h; subst h
      rw [At.toVal_rel e1 k.1, atsVal_rel e2 k.2]
    · cases h
theorem E.NV.toVal_rel {env : Env} {x : NV} {v u : Value} (h : x.toVal = some v) (k : x.rel env u) : u = v := by
  cases x with
  | one a => exact At.toVal_rel h k
  | agg l =>
    obtain ⟨cs, rfl, k⟩ := k
    simp only [NV.toVal] at h
    split at h
    · rename_i vs e
      simp only [Option.some.injEq] at h; subst h
      rw [← atsVal_rel e k]
    · cases h
theorem E.svsVal_rel {env : Env} : ∀ {l : List SV} {vs us : List Value}, svsVal l = some vs → AllSV env l us → us = vs
  | [], vs, [], h, _ => by simp only [svsVal, Option.some.injEq] at h; exact h
  | .nv a :: l, vs, u :: us, h, k => by
    simp only [svsVal] at h
    split at h
    · rename_i v vs' e1 e2
      simp only [Option.some.injEq] at h; subst h
      rw [NV.toVal_rel e1 k.1, svsVal_rel e2 k.2]
    · cases h
  | .tup _ :: l, vs, us, h, k => by simp [svsVal] at h
  | .any :: l, vs, us, h, k => by simp [svsVal] at h
theorem E.vals_eq {args : List SV} {vs : List Value} (h : svsVal args = some vs) {vals : Array Value} (hv : vs.toArray = vals) : ∀ us, AllSV (fun _ => none) args us → us.toArray = vals :=
  fun us hu => by rw [svsVal_rel h hu, hv]

abbrev iA (n : Int) : SV := .nv (.one (.val (.int .i64 n)))
abbrev uA (n : Int) : SV := .nv (.one (.val (.int .u64 n)))
abbrev bA (b : Bool) : SV := .nv (.one (.val (.bool b)))
abbrev clN (i s h v : Int) : NV := .agg [.val (.int .i64 i), .val (.int .i64 s), .val (.int .i64 h), .val (.int .i64 v)]

def ifc (i s h v x : Int) : Int := if okC i s h v then x else 0
def sentH (i s h v n : Int) : Int := ifc i s h v (if v < 0 ∨ 65535 < n then v else v - s * n)
theorem tickV_eq (i s h v t : Int) (wt : Bool) : tickV i s h v t wt = .agg #[.int .i64 (ifc i s h v i), .int .i64 (ifc i s h v s), .int .i64 (ifc i s h v h), .int .i64 (ifc i s h v (tickH i h v t wt))] := by
  unfold tickV ifc; split <;> rfl
theorem sentV_eq (i s h v n : Int) : sentV i s h v n = .agg #[.int .i64 (ifc i s h v i), .int .i64 (ifc i s h v s), .int .i64 (ifc i s h v h), .int .i64 (sentH i s h v n)] := by
  unfold sentV sentH ifc; split
  · split <;> rfl
  · rfl

theorem chk0 (i s h v : Int) : (chkC i s h v == 0) = okB i s h v := by
  unfold chkC okB; split <;> simp [*]
theorem chk6 {i s h v : Int} (k : okB i s h v = false) : chkC i s h v = 6 := by
  unfold chkC okB at *; rw [if_neg (by simpa using k)]
theorem ifc_t {i s h v : Int} (x : Int) (k : okB i s h v = true) : ifc i s h v x = x := by
  unfold ifc okB at *; rw [if_pos (by simpa using k)]
theorem ifc_f {i s h v : Int} (x : Int) (k : okB i s h v = false) : ifc i s h v x = 0 := by
  unfold ifc okB at *; rw [if_neg (by simpa using k)]
theorem mayB_ok (i s h v : Int) : mayB i s h v = (okB i s h v && decide (0 ≤ v)) := by
  unfold mayB okB; rw [Bool.decide_and]

def gCheck : List SV → Option (SV × List Prop)
  | [.nv (.agg [.val (.int .i64 i), .val (.int .i64 s), .val (.int .i64 h), .val (.int .i64 v)])] => some (iA (chkC i s h v), [])
  | _ => none
def gMay : List SV → Option (SV × List Prop)
  | [.nv (.agg [.val (.int .i64 i), .val (.int .i64 s), .val (.int .i64 h), .val (.int .i64 v)])] => some (bA (mayB i s h v), [])
  | _ => none
def gRMay : List SV → Option (SV × List Prop)
  | [.nv (.agg [.val (.int .i64 i), .val (.int .i64 s), .val (.int .i64 h), .val (.int .i64 v)])] => some (bA (okB i s h v), [])
  | _ => none
def gWait : List SV → Option (SV × List Prop)
  | [.nv (.agg [.val (.int .i64 i), .val (.int .i64 s), .val (.int .i64 h), .val (.int .i64 v)])] => some (uA (waitV i s h v), [])
  | _ => none
def gTick : List SV → Option (SV × List Prop)
  | [.nv (.agg [.val (.int .i64 i), .val (.int .i64 s), .val (.int .i64 h), .val (.int .i64 v)]), .nv (.one (.val (.int .u64 t))), .nv (.one (.val (.bool wt)))] =>
    some (.nv (clN (ifc i s h v i) (ifc i s h v s) (ifc i s h v h) (ifc i s h v (tickH i h v t wt))), [0 ≤ t, t ≤ 18446744073709551615])
  | _ => none
def gSent : List SV → Option (SV × List Prop)
  | [.nv (.agg [.val (.int .i64 i), .val (.int .i64 s), .val (.int .i64 h), .val (.int .i64 v)]), .nv (.one (.val (.int .u64 n)))] =>
    some (.tup [clN (ifc i s h v i) (ifc i s h v s) (ifc i s h v h) (sentH i s h v n), .one (.val (.bool (sentB i s h v n)))], [0 ≤ n, n ≤ 18446744073709551615])
  | _ => none
def gNew : List SV → Option (SV × List Prop)
  | [.nv (.one (.val (.int .i64 i))), .nv (.one (.val (.int .i64 s))), .nv (.one (.val (.int .i64 h)))] =>
    some (.tup [clN (ifc i s h 0 i) (ifc i s h 0 s) (ifc i s h 0 h) 0, .one (.val (.int .i64 (chkC i s h 0)))], [])
  | _ => none

theorem spCheck : SpOk Try.prog 9 (pureS gCheck) := pureS_ok (by
  intro args r obl h ho
  unfold gCheck at h
  split at h
  · simp only [Option.some.injEq, Prod.mk.injEq] at h
    obtain ⟨rfl, rfl⟩ := h
    exact ⟨rfl, rfl, pure_of_calls (check_any _ _ _ _) (vals_eq rfl rfl) rfl⟩
  · cases h)
theorem spMay : SpOk Try.prog 14 (pureS gMay) := pureS_ok (by
  intro args r obl h ho
  unfold gMay at h
  split at h
  · simp only [Option.some.injEq, Prod.mk.injEq] at h
    obtain ⟨rfl, rfl⟩ := h
    exact ⟨rfl, rfl, pure_of_calls (may_any _ _ _ _) (vals_eq rfl rfl) rfl⟩
  · cases h)
theorem spRMay : SpOk Try.prog 8 (pureS gRMay) := pureS_ok (by
  intro args r obl h ho
  unfold gRMay at h
  split at h
  · simp only [Option.some.injEq, Prod.mk.injEq] at h
    obtain ⟨rfl, rfl⟩ := h
    exact ⟨rfl, rfl, pure_of_calls (rmay_any _ _ _ _) (vals_eq rfl rfl) rfl⟩
  · cases h)
theorem spWait : SpOk Try.prog 12 (pureS gWait) := pureS_ok (by
  intro args r obl h ho
  unfold gWait at h
  split at h
  · simp only [Option.some.injEq, Prod.mk.injEq] at h
    obtain ⟨rfl, rfl⟩ := h
    exact ⟨rfl, rfl, pure_of_calls (wait_any _ _ _ _) (vals_eq rfl rfl) rfl⟩
  · cases h)
theorem spRWait : SpOk Try.prog 13 (pureS gWait) := pureS_ok (by
  intro args r obl h ho
  unfold gWait at h
  split at h
  · simp only [Option.some.injEq, Prod.mk.injEq] at h
    obtain ⟨rfl, rfl⟩ := h
    exact ⟨rfl, rfl, pure_of_calls (rwait_any _ _ _ _) (vals_eq rfl rfl) rfl⟩
  · cases h)
theorem spTick : SpOk Try.prog 10 (pureS gTick) := pureS_ok (by
  intro args r obl h ho
  unfold gTick at h
  split at h
  · rename_i i s h' v t wt
    simp only [Option.some.injEq, Prod.mk.injEq] at h
    obtain ⟨rfl, rfl⟩ := h
    simp only [AllT, and_true] at ho
    exact ⟨rfl, rfl, pure_of_calls (fun w => tick_any _ _ _ _ _ _ w ho) (vals_eq rfl rfl) ⟨_, tickV_eq _ _ _ _ _ _, rfl, rfl, rfl, rfl, trivial⟩⟩
  · cases h)
theorem spRTick : SpOk Try.prog 11 (pureS gTick) := pureS_ok (by
  intro args r obl h ho
  unfold gTick at h
  split at h
  · simp only [Option.some.injEq, Prod.mk.injEq] at h
    obtain ⟨rfl, rfl⟩ := h
    simp only [AllT, and_true] at ho
    exact ⟨rfl, rfl, pure_of_calls (fun w => rtick_any _ _ _ _ _ _ w ho) (vals_eq rfl rfl) ⟨_, tickV_eq _ _ _ _ _ _, rfl, rfl, rfl, rfl, trivial⟩⟩
  · cases h)
theorem spSent : SpOk Try.prog 15 (pureS gSent) := pureS_ok (by
  intro args r obl h ho
  unfold gSent at h
  split at h
  · simp only [Option.some.injEq, Prod.mk.injEq] at h
    obtain ⟨rfl, rfl⟩ := h
    simp only [AllT, and_true] at ho
    exact ⟨rfl, rfl, pure_of_calls (fun w => sent_any _ _ _ _ _ w ho) (vals_eq rfl rfl) ⟨_, rfl, ⟨_, sentV_eq _ _ _ _ _, rfl, rfl, rfl, rfl, trivial⟩, rfl, trivial⟩⟩
  · cases h)
theorem spRSent : SpOk Try.prog 16 (pureS gSent) := pureS_ok (by
  intro args r obl h ho
  unfold gSent at h
  split at h
  · simp only [Option.some.injEq, Prod.mk.injEq] at h
    obtain ⟨rfl, rfl⟩ := h
    simp only [AllT, and_true] at ho
    exact ⟨rfl, rfl, pure_of_calls (fun w => rsent_any _ _ _ _ _ w ho) (vals_eq rfl rfl) ⟨_, rfl, ⟨_, sentV_eq _ _ _ _ _, rfl, rfl, rfl, rfl, trivial⟩, rfl, trivial⟩⟩
  · cases h)
theorem spNew : SpOk Try.prog 7 (pureS gNew) := pureS_ok (by
  intro args r obl hg ho
  unfold gNew at hg
  split at hg
  · rename_i i s h
    simp only [Option.some.injEq, Prod.mk.injEq] at hg
    obtain ⟨rfl, rfl⟩ := hg
    refine ⟨rfl, rfl, ?_⟩
    by_cases hk : okC i s h 0
    · refine pure_of_calls (fun w => new_yes i s h w hk) (vals_eq rfl rfl) ⟨_, rfl, ⟨_, rfl, ?_, ?_, ?_, rfl, trivial⟩, ?_, trivial⟩
      all_goals (simp only [At.rel, ifc, chkC, if_pos hk]; try rfl)
    · refine pure_of_calls (fun w => new_no i s h w hk) (vals_eq rfl rfl) ⟨_, rfl, ⟨_, rfl, ?_, ?_, ?_, rfl, trivial⟩, ?_, trivial⟩
      all_goals (simp only [At.rel, ifc, chkC, if_neg hk]; try rfl)
  · cases hg)

def G1 : List (FuncId × Sp) := [(9, pureS gCheck), (14, pureS gMay), (8, pureS gRMay), (12, pureS gWait), (13, pureS gWait),
  (10, pureS gTick), (11, pureS gTick), (15, pureS gSent), (16, pureS gSent), (7, pureS gNew)]
theorem enter_of {f : FuncId} {fn : Func} (h : Try.prog.funcs[f]? = some fn) (h2 : (fn.name == "runtime.NumGoroutine") = false) (h3 : fn.body.isNone = false) : EnterOk Try.prog f := ⟨fn, h, h2, h3⟩
theorem G1_ok : CtxOk Try.prog G1 :=
  ctx_cons (enter_of Try.func9 (by kernel_rfl) (by kernel_rfl)) spCheck <| ctx_cons (enter_of Try.func14 (by kernel_rfl) (by kernel_rfl)) spMay <|
  ctx_cons (enter_of Try.func8 (by kernel_rfl) (by kernel_rfl)) spRMay <| ctx_cons (enter_of Try.func12 (by kernel_rfl) (by kernel_rfl)) spWait <|
  ctx_cons (enter_of Try.func13 (by kernel_rfl) (by kernel_rfl)) spRWait <| ctx_cons (enter_of Try.func10 (by kernel_rfl) (by kernel_rfl)) spTick <|
  ctx_cons (enter_of Try.func11 (by kernel_rfl) (by kernel_rfl)) spRTick <| ctx_cons (enter_of Try.func15 (by kernel_rfl) (by kernel_rfl)) spSent <|
  ctx_cons (enter_of Try.func16 (by kernel_rfl) (by kernel_rfl)) spRSent <| ctx_cons (enter_of Try.func7 (by kernel_rfl) (by kernel_rfl)) spNew G0_ok

def actsG (t x : Nat → Int) (wt : Nat → Bool) : Nat → List At := fun k => [.val (.int .u64 (t k)), .val (.int .u64 (x k)), .val (.bool (wt k))]
def clC (i s h v : Int) : List At := [.val (.int .i64 i), .val (.int .i64 s), .val (.int .i64 h), .val (.int .i64 v)]
/-- The head of the loop of CreditPlays. -/
def playsS (len : Nat) (t x : Nat → Int) (wt : Nat → Bool) (k : Nat) (i s h v : Int) : St :=
  mkSt 147 [(2, .nv (.one (.ptr 1 0))), (5, .nv (.one (.ptr 2 0))), (81, .nv (.one (.own 0))), (82, iA len), (83, iA k)] [.ro 3 len (actsG t x wt), .box 23 (clC i s h v), .box 26 (clC i s h v)]
def playsE : St := mkSt 147 [] [.gone]
end Go.Proofs.Ytpldacdgifekmaa

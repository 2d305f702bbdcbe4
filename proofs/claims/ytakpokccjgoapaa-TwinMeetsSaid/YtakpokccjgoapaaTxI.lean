/- Rows of items: the document's Squeeze, as a specification. No condition. -/
import Derived.Test.YtakpokccjgoapaaTxH
namespace Go.Proofs.Ytakpokccjgoapaa
set_option linter.unusedVariables false
set_option linter.unusedSimpArgs false
open Go.RowKit E
def rsqN (L : It) (n : Nat) (r m : Int) : Nat := if (n : Int) < m then n + 1 else if laR L n ≤ r then n else n - 1 + 1
def rsqL (L : It) (n : Nat) (r m x : Int) : It := if (n : Int) < m then L.ins (L.pos r n) r x else if laR L n ≤ r then L else L.ins (L.pos r (n - 1)) r x
def rsqX (L : It) (n : Nat) (r m x : Int) : Int := if (n : Int) < m then 0 else if laR L n ≤ r then x else laX L n
abbrev lB : TypeId := 29
theorem fnRSq (n : Nat) (L : It) (r x m : Int) (hn : n ≤ 100000) : FnOk Try.prog 29 [.nv (.one (.own 0)), iA m, uA r, iA x] [rwIt n L]
    (.tup [.one (.own 1), .one (.val (.int .i64 (rsqX L n r m x))), .one (.val (.bool (!decide ((n : Int) < m))))]) [.gone, rwIt (rsqN L n r m) (rsqL L n r m x)] := by
  unfold rsqX rsqN rsqL
  by_cases q : (n : Int) < m
  · simp only [if_pos q, decide_eq_true q]
    exact rsq_a n L r x m hn q
  · simp only [if_neg q, decide_eq_false q]
    by_cases w : laR L n ≤ r
    · simp only [if_pos w]
      exact rsq_b n L r x m hn q w
    · simp only [if_neg w]
      exact rsq_c n L r x m hn q w
def gRSq : List SV → List Seg → Option (CS × List Prop)
  | [.nv (.one a), .nv (.one (.val (.int .i64 m))), .nv (.one (.val (.int .u64 r))), .nv (.one (.val (.int .i64 x)))], mem => match srcOf mem 2 a with
    | some (n, g, _) => some (⟨[.nv (.one (.own 0)), iA m, uA r, iA x], [rwIt n (itOf g)], .tup [.one (.own 1), .one (.val (.int .i64 (rsqX (itOf g) n r m x))), .one (.val (.bool (!decide ((n : Int) < m))))], [.gone, rwIt (rsqN (itOf g) n r m) (rsqL (itOf g) n r m x)]⟩, [n ≤ 100000])
    | none => none
  | _, _ => none
theorem spRSq : SpOk Try.prog 29 (.lift gRSq) := by
  intro args mem cs obl h ho
  unfold gRSq at h
  split at h
  · split at h
    · simp only [Option.some.injEq, Prod.mk.injEq] at h
      obtain ⟨rfl, rfl⟩ := h
      exact fnRSq _ _ _ _ _ ho.1
    · cases h
  · cases h
/-- What both rows are behind an act. -/
abbrev stMem (n n2 : Nat) (T : Tw Int) (L : It) (c m : Int) : List Seg := [.box 53 [.own 1, .val (.int .u64 c), .val (.int .i64 m)], .row 67 3 n (gTi T), .box lB [.own 3], rwIt n2 L]
abbrev stPost (n n2 : Nat) (T : Tw Int) (L : It) (c m : Int) : List Seg := [.box 53 [.own 4, .val (.int .u64 c), .val (.int .i64 m)], .gone, .box lB [.own 5], .gone, .row 67 3 n (gTi T), rwIt n2 L]
abbrev stArgs (kd r x m : Int) : List SV := [.nv (.one (.ptr 0 0)), .nv (.one (.ptr 2 0)), iA m, .nv (.agg [.val (.int .u8 kd), .val (.int .u64 r), .val (.int .i64 x)])]
def Gi1 : List (FuncId × Sp) := (29, .lift gRSq) :: Gi0
theorem Gi1_ok : CtxOk Try.prog Gi1 := ctx_cons (enter_of Try.func29 (by kernel_rfl) (by kernel_rfl)) spRSq Gi0_ok
end Go.Proofs.Ytakpokccjgoapaa

/- The document's Sort, as a specification. No condition. -/
import Derived.Test.YtakpokccjgoapaaTyB
namespace Go.Proofs.Ytakpokccjgoapaa
set_option linter.unusedVariables false
set_option linter.unusedSimpArgs false
open Go.RowKit E
theorem fnSort (n : Nat) (F : It) (hn : n ≤ 100000) : FnOk Try.prog 20 [.nv (.one (.own 0))] [roIt n F] (.nv (.one (.own 1))) [roIt n F, rwIt n (srtIt F n)] := by
  refine so_f n F ?_
  refine loop_ok (α := Nat) (fun i => mkSt 24 [(0, .nv (.one (.own 0))), (3, .nv (.one (.own 1))), (4, iA i)] [roIt n F, rwIt i (srtIt F i)]) (fun i => i ≤ n) (fun i => n - i) (by simp) ?_ (x := 0) (Nat.zero_le _)
  intro i hi
  by_cases e : i = n
  · subst e; exact .inr (so_e i F)
  · exact .inl ⟨i + 1, (show i + 1 ≤ n by omega), (show n - (i + 1) < n - i by omega), so_n n i F (by omega) hn⟩
def gSort : List SV → List Seg → Option (CS × List Prop)
  | [.nv (.one a)], mem => match srcOf mem 2 a with
    | some (n, g, _) => some (⟨[.nv (.one (.own 0))], [roIt n (itOf g)], .nv (.one (.own 1)), [roIt n (itOf g), rwIt n (srtIt (itOf g) n)]⟩, [n ≤ 100000])
    | none => none
  | _, _ => none
theorem spSort : SpOk Try.prog 20 (.lift gSort) := by
  intro args mem cs obl h ho
  unfold gSort at h
  split at h
  · split at h
    · simp only [Option.some.injEq, Prod.mk.injEq] at h
      obtain ⟨rfl, rfl⟩ := h
      exact fnSort _ _ ho.1
    · cases h
  · cases h
abbrev beMem (len n nt k : Nat) (c : Int) (R : Nat → Int) (T : Tw Int) (F : It) : List Seg := [.ro 1 len (rkT R), .box 53 [.own 2, .val (.int .u64 c), .val (.int .i64 n)], .row 67 3 nt (gTi T), rwIt k F]
def Gps : List (FuncId × Sp) := (20, .lift gSort) :: Gpn
theorem Gps_ok : CtxOk Try.prog Gps := ctx_cons (enter_of Try.func20 (by kernel_rfl) (by kernel_rfl)) spSort Gpn_ok
end Go.Proofs.Ytakpokccjgoapaa

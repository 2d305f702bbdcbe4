/- mail: lives, nobody's box. No condition. -/
import Derived.Test.YtajdkbgbekdbmaaMlH
namespace Go.Proofs.Ytajdkbgbekdbmaa
set_option linter.unusedVariables false
set_option linter.unusedSimpArgs false
open Go.RowKit E
def gLv35 : List SV → Option (SV × List Prop)
  | [] => some (bA true, [])
  | _ => none
theorem spLv35 : SpOk Try.prog 7 (pureS gLv35) := pureS_ok (by
  intro args r obl h ho
  unfold gLv35 at h
  split at h
  · simp only [Option.some.injEq, Prod.mk.injEq] at h
    obtain ⟨rfl, rfl⟩ := h
    exact ⟨rfl, rfl, lv35⟩
  · cases h)
theorem fnSomeNil (n : Int) : FnOk Try.prog 15 [pnil, iA n] [] (.nv (.one (.own 0))) [.row 3 1 0 (fun _ => [.val (.int .i64 0)])] := by
  by_cases h : n ≤ 0
  · exact some_nil0 n h
  · exact some_nil1 n (by omega)
def gSomeNil : List SV → List Seg → Option (CS × List Prop)
  | [.nv (.one (.val (.pointer none))), .nv (.one (.val (.int .i64 n)))], _ => some (⟨[pnil, iA n], [], .nv (.one (.own 0)), [.row 3 1 0 (fun _ => [.val (.int .i64 0)])]⟩, [])
  | _, _ => none
theorem spSomeNil : SpOk Try.prog 15 (.lift gSomeNil) := by
  intro args mem cs obl h ho
  unfold gSomeNil at h
  split at h
  · simp only [Option.some.injEq, Prod.mk.injEq] at h
    obtain ⟨rfl, rfl⟩ := h
    exact fnSomeNil _
  · cases h
def gFirstNil : List SV → List Seg → Option (CS × List Prop)
  | [.nv (.one a)], mem => match srcOf mem 1 a with
    | some (_, _, _) => some (⟨[.nv (.one (.own 0))], [.ro 1 2 (fun _ => [.val (.pointer none)])], .tup [.one (.val (.int .i64 0)), .one (.val (.int .i64 0)), .one (.val (.bool false))], [.gone]⟩, [])
    | none => none
  | _, _ => none
theorem spFirstNil : SpOk Try.prog 10 (.lift gFirstNil) := by
  intro args mem cs obl h ho
  unfold gFirstNil at h
  split at h
  · split at h
    · simp only [Option.some.injEq, Prod.mk.injEq] at h
      obtain ⟨rfl, rfl⟩ := h
      exact first_nil
    · cases h
  · cases h
theorem gI_step {T T' : Nat → Int} {k : Nat} {x : Int} (hT : T' k = x) (hT2 : ∀ i, i < k → T i = T' i) {j : Nat} (hj : j < k + 1) : (if j = k then [At.val (.int .i64 x)] else [At.val (.int .i64 (T j))]) = [At.val (.int .i64 (T' j))] := by
  split
  · rename_i e; rw [e, hT]
  · rw [hT2 j (by omega)]
theorem tl_eq {T T' : Nat → Int} {n : Nat} (hT : ∀ i, i < n → T (i + 1) = T' i) {i : Nat} (hi : i < n + 1 - Int.toNat (Prod.snd (IntKind.i64, (1 : Int)))) : T (1 + i) = T' i := by
  have h1 : Int.toNat (Prod.snd (IntKind.i64, (1 : Int))) = 1 := rfl
  rw [h1] at hi
  rw [Nat.add_comm]
  exact hT i (by omega)
theorem two17 {p : Nat → Prop} (h0 : p 0) (h1 : p 1) : ∀ i, i < 2 → p i := fun i hi => by
  match i, hi with
  | 0, _ => exact h0
  | 1, _ => exact h1
def Gmln : List (FuncId × Sp) := (7, pureS gLv35) :: (15, .lift gSomeNil) :: (10, .lift gFirstNil) :: Gml1
theorem Gmln_ok : CtxOk Try.prog Gmln := ctx_cons (enter_of Try.func7 (by kernel_rfl) (by kernel_rfl)) spLv35 <|
  ctx_cons (enter_of Try.func15 (by kernel_rfl) (by kernel_rfl)) spSomeNil <|
  ctx_cons (enter_of Try.func10 (by kernel_rfl) (by kernel_rfl)) spFirstNil Gml1_ok
end Go.Proofs.Ytajdkbgbekdbmaa

/- MailFirst: what it calls. No condition. -/
import Derived.Test.YtajdkbgbekdbmaaMlY
namespace Go.Proofs.Ytajdkbgbekdbmaa
set_option linter.unusedVariables false
set_option linter.unusedSimpArgs false
open Go.RowKit E
/-- A piece of code: where it stands. -/
def E.subC : List Bool → Code → Code
  | [], c => c
  | b :: p, .seq x y => subC p (if b then y else x)
  | _ :: p, .block _ c => subC p c
  | _ :: p, .loop c => subC p c
  | b :: p, .cond _ x y => subC p (if b then y else x)
  | _, c => c
abbrev tPb : TypeId := 26
def GmF : List (FuncId × Sp) := (8, .lift gMNewI) :: (7, pureS gLv35) :: Gml1
theorem GmF_ok : CtxOk Try.prog GmF := ctx_cons (enter_of Try.func8 (by kernel_rfl) (by kernel_rfl)) spMNewI <|
  ctx_cons (enter_of Try.func7 (by kernel_rfl) (by kernel_rfl)) spLv35 Gml1_ok
def Gf3 (N : FiN) : List (FuncId × Sp) := (10, .lift (gLit (csFi N))) :: G0
theorem Gf3_ok (N : FiN) (ih : FnCs 10 (csFi N)) : CtxOk Try.prog (Gf3 N) := ctx_cons (enter_of Try.func10 (by kernel_rfl) (by kernel_rfl)) (spLit ih) G0_ok
structure FeN where
  L : List (List Int)
  n : Nat
  al : List Int
def Gfe (N : FeN) : List (FuncId × Sp) := (10, .lift (gLit (csFn ⟨N.L, N.n, 0, 0, []⟩))) :: (11, .lift (gLit (csSm N.al))) :: (7, pureS gLv35) :: G0
theorem Gfe_ok (N : FeN) (ih : FnCs 10 (csFn ⟨N.L, N.n, 0, 0, []⟩) ∧ N.al.length ≤ 1000000) : CtxOk Try.prog (Gfe N) := ctx_cons (enter_of Try.func10 (by kernel_rfl) (by kernel_rfl)) (spLit ih.1) <|
  ctx_cons (enter_of Try.func11 (by kernel_rfl) (by kernel_rfl)) (spLit (fnSame _ _ _ ih.2 (fun _ _ => rfl))) <|
  ctx_cons (enter_of Try.func7 (by kernel_rfl) (by kernel_rfl)) spLv35 G0_ok
/-- The rows that came in: slices. -/
abbrev gRw (A : Nat → Option Addr) (N C : Nat → Nat) : Nat → List At := fun j => [.val (.slice (A j) (N j) (C j))]
theorem leN (ρ : List (Nat × Bd)) (m : Nat) {x y : Int} (h : x = y) : AllT (leAts ρ m [.val (.int .i64 x)] [.val (.int .i64 y)]) := by subst h; exact ⟨rfl, trivial⟩
theorem lT_a {al l : List Int} {j : Nat} (h : j < al.length) : lT (al ++ l) j = lT al j := by
  simp only [lT, List.getD_eq_getElem?_getD]; rw [List.getElem?_append_left h]
theorem lT_b {al l : List Int} {j : Nat} (h : al.length ≤ j) : lT (al ++ l) j = lT l (j - al.length) := by
  simp only [lT, List.getD_eq_getElem?_getD]; rw [List.getElem?_append_right h]
theorem app_le (ρ : List (Nat × Bd)) (m : Nat) (al l : List Int) {j : Nat} (hj : j < al.length + l.length) : AllT (leAts ρ m (if l.length = 1 then if j = al.length then gN (lT l) 0 else gN (lT al) j else if j < al.length then gN (lT al) j else gN (lT l) (j - al.length)) (gN (lT (al ++ l)) j)) := by
  by_cases h1 : l.length = 1
  · rw [if_pos h1]
    by_cases h2 : j = al.length
    · rw [if_pos h2]; exact leN ρ m (by rw [lT_b (by omega), h2, Nat.sub_self])
    · rw [if_neg h2]; exact leN ρ m (lT_a (by omega)).symm
  · rw [if_neg h1]
    by_cases h2 : j < al.length
    · rw [if_pos h2]; exact leN ρ m (lT_a h2).symm
    · rw [if_neg h2]; exact leN ρ m (lT_b (by omega)).symm
theorem one_le (ρ : List (Nat × Bd)) (m : Nat) {k : Nat} {F G : Nat → Int} {x : Int} (h : ∀ j, j < k → G j = F j) (hx : G k = x) {j : Nat} (hj : j < k + 1) : AllT (leAts ρ m (if j = k then [.val (.int .i64 x)] else [.val (.int .i64 (F j))]) [.val (.int .i64 (G j))]) := by
  by_cases e : j = k
  · subst e; rw [if_pos rfl]; exact leN ρ m hx.symm
  · rw [if_neg e]; exact leN ρ m (h j (by omega)).symm
theorem bx_le (ρ : List (Nat × Bd)) (m : Nat) {k i : Nat} (h1 : AllT (leAts ρ m [.ptr k 0] [.ptr 4 0])) (h2 : ∀ j, AllT (leAts ρ m [.root 1 j true] [.root 1 j true])) (j : Nat) : AllT (leAts ρ m (if j = i then [.ptr k 0] else [.root 1 j true]) (gBx i j)) := by
  unfold gBx
  by_cases e : j = i
  · rw [if_pos e, if_pos e]; exact h1
  · rw [if_neg e, if_neg e]; exact h2 j
end Go.Proofs.Ytajdkbgbekdbmaa

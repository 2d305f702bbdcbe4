/- Twins: the item at a place. No condition. -/
import Derived.Test.YtakpokccjgoapaaTwL
namespace Go.Proofs.Ytakpokccjgoapaa
set_option linter.unusedVariables false
set_option linter.unusedSimpArgs false
open Go.RowKit E
def isP (n : Nat) (i : Int) : Bool := decide (0 ≤ i) && decide (i.toNat < n)
section
variable {α : Type}
def atR (T : Tw α) (n : Nat) (i : Int) : Int := if isP n i = true then T.r i.toNat else 0
def atX (z : α) (T : Tw α) (n : Nat) (i : Int) : α := if isP n i = true then T.x i.toNat else z
end
/-- The place of the last item. -/
def mxI (n : Nat) : Int := if 1 < n then 1 else (n : Int) - 1
theorem mxI_eq {n : Nat} (hn : n ≤ 100000) : List.foldl (fun x y => if y < x then y else x) (1 : Int) [IntKind.wrap IntKind.i64 ((↑n : Int) - (1 : Int))] = mxI n := by
  rw [show IntKind.wrap IntKind.i64 ((↑n : Int) - (1 : Int)) = n - 1 from w64 rfl (by omega)]
  simp only [List.foldl]
  unfold mxI
  split <;> split <;> omega

abbrev itI (r : Int) (x : Int) (b : Bool) : SV := .tup [.one (.val (.int .u64 r)), .one (.val (.int .i64 x)), .one (.val (.bool b))]
theorem app_putI (n : Nat) (T : Tw Int) (r c : Int) (x : Int) : twI (appG n 1 (gTi T) (litG 3 [.val (.int .u64 r), .val (.int .u64 c), .val (.int .i64 x)])) = T.put n r c x := by
  unfold twI Tw.put
  congr 1 <;> funext j <;> by_cases h : j = n <;> simp [appG, litG, h, cellJ, cellS]
def gAtI : List SV → List Seg → Option (CS × List Prop)
  | [.nv (.one (.ptr h 0)), .nv (.one (.val (.int .i64 i)))], mem => match twAt mem h with
    | some (n, g, c, m) => some (⟨[.nv (.one (.ptr 0 0)), iA i], twRI n (twI g) c m, itI (atR (twI g) n i) (atX 0 (twI g) n i) (isP n i), twRI n (twI g) c m⟩, [])
    | none => none
  | [.nv (.one (.val (.pointer none))), .nv (.one (.val (.int .i64 i)))], _ => some (⟨[nilA, iA i], [], itI 0 0 false, []⟩, [i ≤ 0])
  | _, _ => none
theorem spAtI : SpOk Try.prog 30 (.lift gAtI) := by
  intro args mem cs obl h ho
  unfold gAtI at h
  split at h
  · rename_i _ i
    split at h
    · rename_i n g c m _
      simp only [Option.some.injEq, Prod.mk.injEq] at h
      obtain ⟨rfl, rfl⟩ := h
      by_cases h1 : i < 0
      · have e : isP n i = false := by unfold isP; rw [decide_eq_false (by omega)]; rfl
        simp only [atR, atX, e]
        exact atI_n n _ c m i h1
      · obtain ⟨k, rfl⟩ := Int.eq_ofNat_of_zero_le (show 0 ≤ i by omega)
        by_cases h2 : k < n
        · have e : isP n (k : Int) = true := by unfold isP; rw [decide_eq_true (by omega), decide_eq_true (by omega)]; rfl
          simp only [atR, atX, e]
          exact atI_i n k _ c m h2
        · have e : isP n (k : Int) = false := by unfold isP; rw [decide_eq_false (show ¬ (k : Int).toNat < n by omega), Bool.and_false]
          simp only [atR, atX, e]
          exact atI_o n k _ c m (by omega)
    · cases h
  · rename_i i
    simp only [Option.some.injEq, Prod.mk.injEq] at h
    obtain ⟨rfl, rfl⟩ := h
    obtain ⟨o1, _⟩ := ho
    by_cases h1 : i < 0
    · exact atI_z i h1
    · obtain rfl : i = 0 := by omega
      exact atI_z0 0
  · cases h

abbrev itS (r : Int) (x : ByteArray) (b : Bool) : SV := .tup [.one (.val (.int .u64 r)), .one (.val (.string x)), .one (.val (.bool b))]
theorem app_putS (n : Nat) (T : Tw ByteArray) (r c : Int) (x : ByteArray) : twS (appG n 1 (gTs T) (litG 3 [.val (.int .u64 r), .val (.int .u64 c), .val (.string x)])) = T.put n r c x := by
  unfold twS Tw.put
  congr 1 <;> funext j <;> by_cases h : j = n <;> simp [appG, litG, h, cellJ, cellS]
def gAtS : List SV → List Seg → Option (CS × List Prop)
  | [.nv (.one (.ptr h 0)), .nv (.one (.val (.int .i64 i)))], mem => match twAt mem h with
    | some (n, g, c, m) => some (⟨[.nv (.one (.ptr 0 0)), iA i], twRS n (twS g) c m, itS (atR (twS g) n i) (atX ByteArray.empty (twS g) n i) (isP n i), twRS n (twS g) c m⟩, [])
    | none => none
  | [.nv (.one (.val (.pointer none))), .nv (.one (.val (.int .i64 i)))], _ => some (⟨[nilA, iA i], [], itS 0 ByteArray.empty false, []⟩, [i ≤ 0])
  | _, _ => none
theorem spAtS : SpOk Try.prog 37 (.lift gAtS) := by
  intro args mem cs obl h ho
  unfold gAtS at h
  split at h
  · rename_i _ i
    split at h
    · rename_i n g c m _
      simp only [Option.some.injEq, Prod.mk.injEq] at h
      obtain ⟨rfl, rfl⟩ := h
      by_cases h1 : i < 0
      · have e : isP n i = false := by unfold isP; rw [decide_eq_false (by omega)]; rfl
        simp only [atR, atX, e]
        exact atS_n n _ c m i h1
      · obtain ⟨k, rfl⟩ := Int.eq_ofNat_of_zero_le (show 0 ≤ i by omega)
        by_cases h2 : k < n
        · have e : isP n (k : Int) = true := by unfold isP; rw [decide_eq_true (by omega), decide_eq_true (by omega)]; rfl
          simp only [atR, atX, e]
          exact atS_i n k _ c m h2
        · have e : isP n (k : Int) = false := by unfold isP; rw [decide_eq_false (show ¬ (k : Int).toNat < n by omega), Bool.and_false]
          simp only [atR, atX, e]
          exact atS_o n k _ c m (by omega)
    · cases h
  · rename_i i
    simp only [Option.some.injEq, Prod.mk.injEq] at h
    obtain ⟨rfl, rfl⟩ := h
    obtain ⟨o1, _⟩ := ho
    by_cases h1 : i < 0
    · exact atS_z i h1
    · obtain rfl : i = 0 := by omega
      exact atS_z0 0
  · cases h
def Gt4 : List (FuncId × Sp) := (30, .lift gAtI) :: (37, .lift gAtS) :: Gt3
theorem Gt4_ok : CtxOk Try.prog Gt4 := ctx_cons (enter_of Try.func30 (by kernel_rfl) (by kernel_rfl)) spAtI <|
  ctx_cons (enter_of Try.func37 (by kernel_rfl) (by kernel_rfl)) spAtS Gt3_ok
end Go.Proofs.Ytakpokccjgoapaa

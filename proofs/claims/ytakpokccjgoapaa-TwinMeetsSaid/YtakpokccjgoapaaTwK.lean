/- Twins: Len, New, cut, as specifications. No condition. -/
import Derived.Test.YtakpokccjgoapaaTwH
import Derived.Test.YtakpokccjgoapaaTwJ
namespace Go.Proofs.Ytakpokccjgoapaa
set_option linter.unusedVariables false
set_option linter.unusedSimpArgs false
open Go.RowKit E
abbrev nilA : SV := .nv (.one (.val (.pointer none)))

/-- As a Twin lies behind a change of its slice. -/
abbrev twNI (n : Nat) (T : Tw Int) (c m : Int) : List Seg := [.box 53 [.own 2, .val (.int .u64 c), .val (.int .i64 m)], .gone, .row 67 3 n (gTi T)]
def gLenI : List SV → List Seg → Option (CS × List Prop)
  | [.nv (.one (.ptr h 0))], mem => match twAt mem h with
    | some (n, g, c, m) => some (⟨[.nv (.one (.ptr 0 0))], twRI n (twI g) c m, iA n, twRI n (twI g) c m⟩, [])
    | none => none
  | [.nv (.one (.val (.pointer none)))], _ => some (⟨[nilA], [], iA 0, []⟩, [])
  | _, _ => none
theorem spLenI : SpOk Try.prog 15 (.lift gLenI) := by
  intro args mem cs obl h ho
  unfold gLenI at h
  split at h
  · split at h
    · simp only [Option.some.injEq, Prod.mk.injEq] at h
      obtain ⟨rfl, rfl⟩ := h
      exact lenI _ _ _ _
    · cases h
  · simp only [Option.some.injEq, Prod.mk.injEq] at h
    obtain ⟨rfl, rfl⟩ := h
    exact lenI_0 0
  · cases h
def gCutI : List SV → List Seg → Option (CS × List Prop)
  | [.nv (.one (.ptr h 0)), .nv (.one (.val (.int .i64 i)))], mem => match twAt mem h with
    | some (n, g, c, m) => some (⟨[.nv (.one (.ptr 0 0)), iA i], twMI n (twI g) c m, .any, twNI (n - 1) ((twI g).put i.toNat ((twI g).r (n - 1)) ((twI g).c (n - 1)) ((twI g).x (n - 1))) c m⟩, [0 ≤ i, i.toNat < n, n ≤ 100000])
    | none => none
  | _, _ => none
theorem spCutI : SpOk Try.prog 32 (.lift gCutI) := by
  intro args mem cs obl h ho
  unfold gCutI at h
  split at h
  · split at h
    · simp only [Option.some.injEq, Prod.mk.injEq] at h
      obtain ⟨rfl, rfl⟩ := h
      obtain ⟨o1, o2, o3, _⟩ := ho
      obtain ⟨i, rfl⟩ := Int.eq_ofNat_of_zero_le o1
      simp only [Int.toNat_natCast] at o2
      exact cutI _ i _ _ _ o2 o3 (w64 (by omega) (by omega))
    · cases h
  · cases h
def tw0I : Tw Int := ⟨fun _ => 0, fun _ => 0, fun _ => 0⟩
theorem fnNewI (m : Int) (h : 1 ≤ m) (h2 : m ≤ 4096) : FnOk Try.prog 7 [iA m] [] (.tup [.one (.ptr 0 0), .one (.val (.int .i64 0))]) (twMI 0 tw0I 0 m) := newI_c m h h2 tw0I
theorem fnNewXI (m : Int) (h : m < 1 ∨ 4096 < m) : FnOk Try.prog 7 [iA m] [] (.tup [.one (.val (.pointer none)), .one (.val (.int .i64 25))]) [] := by
  by_cases h1 : m < 1
  · exact newI_a m h1
  · exact newI_b m (by omega)

/-- As a Twin lies behind a change of its slice. -/
abbrev twNS (n : Nat) (T : Tw ByteArray) (c m : Int) : List Seg := [.box 71 [.own 2, .val (.int .u64 c), .val (.int .i64 m)], .gone, .row 73 3 n (gTs T)]
def gLenS : List SV → List Seg → Option (CS × List Prop)
  | [.nv (.one (.ptr h 0))], mem => match twAt mem h with
    | some (n, g, c, m) => some (⟨[.nv (.one (.ptr 0 0))], twRS n (twS g) c m, iA n, twRS n (twS g) c m⟩, [])
    | none => none
  | [.nv (.one (.val (.pointer none)))], _ => some (⟨[nilA], [], iA 0, []⟩, [])
  | _, _ => none
theorem spLenS : SpOk Try.prog 25 (.lift gLenS) := by
  intro args mem cs obl h ho
  unfold gLenS at h
  split at h
  · split at h
    · simp only [Option.some.injEq, Prod.mk.injEq] at h
      obtain ⟨rfl, rfl⟩ := h
      exact lenS _ _ _ _
    · cases h
  · simp only [Option.some.injEq, Prod.mk.injEq] at h
    obtain ⟨rfl, rfl⟩ := h
    exact lenS_0 0
  · cases h
def gCutS : List SV → List Seg → Option (CS × List Prop)
  | [.nv (.one (.ptr h 0)), .nv (.one (.val (.int .i64 i)))], mem => match twAt mem h with
    | some (n, g, c, m) => some (⟨[.nv (.one (.ptr 0 0)), iA i], twMS n (twS g) c m, .any, twNS (n - 1) ((twS g).put i.toNat ((twS g).r (n - 1)) ((twS g).c (n - 1)) ((twS g).x (n - 1))) c m⟩, [0 ≤ i, i.toNat < n, n ≤ 100000])
    | none => none
  | _, _ => none
theorem spCutS : SpOk Try.prog 45 (.lift gCutS) := by
  intro args mem cs obl h ho
  unfold gCutS at h
  split at h
  · split at h
    · simp only [Option.some.injEq, Prod.mk.injEq] at h
      obtain ⟨rfl, rfl⟩ := h
      obtain ⟨o1, o2, o3, _⟩ := ho
      obtain ⟨i, rfl⟩ := Int.eq_ofNat_of_zero_le o1
      simp only [Int.toNat_natCast] at o2
      exact cutS _ i _ _ _ o2 o3 (w64 (by omega) (by omega))
    · cases h
  · cases h
def tw0S : Tw ByteArray := ⟨fun _ => 0, fun _ => 0, fun _ => ByteArray.empty⟩
theorem fnNewS (m : Int) (h : 1 ≤ m) (h2 : m ≤ 4096) : FnOk Try.prog 21 [iA m] [] (.tup [.one (.ptr 0 0), .one (.val (.int .i64 0))]) (twMS 0 tw0S 0 m) := newS_c m h h2 tw0S
theorem fnNewXS (m : Int) (h : m < 1 ∨ 4096 < m) : FnOk Try.prog 21 [iA m] [] (.tup [.one (.val (.pointer none)), .one (.val (.int .i64 25))]) [] := by
  by_cases h1 : m < 1
  · exact newS_a m h1
  · exact newS_b m (by omega)
def Gt3 : List (FuncId × Sp) := (15, .lift gLenI) :: (32, .lift gCutI) :: (25, .lift gLenS) :: (45, .lift gCutS) :: Gt2
theorem Gt3_ok : CtxOk Try.prog Gt3 := ctx_cons (enter_of Try.func15 (by kernel_rfl) (by kernel_rfl)) spLenI <|
  ctx_cons (enter_of Try.func32 (by kernel_rfl) (by kernel_rfl)) spCutI <|
  ctx_cons (enter_of Try.func25 (by kernel_rfl) (by kernel_rfl)) spLenS <|
  ctx_cons (enter_of Try.func45 (by kernel_rfl) (by kernel_rfl)) spCutS Gt2_ok
end Go.Proofs.Ytakpokccjgoapaa

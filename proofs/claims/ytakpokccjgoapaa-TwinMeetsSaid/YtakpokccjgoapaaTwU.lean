/- Twins: Squeeze, New, as specifications. No condition. -/
import Derived.Test.YtakpokccjgoapaaTwT
namespace Go.Proofs.Ytakpokccjgoapaa
set_option linter.unusedVariables false
set_option linter.unusedSimpArgs false
open Go.RowKit E
section
variable {α : Type}
def Tw.sqz (T : Tw α) (n : Nat) (r c m : Int) (x : α) : Tw α := if (n : Int) < m then T.push n r c m x else if atR T n (mxI n) ≤ r then T else (T.popH n).push (n - 1) r c m x
def sqN (T : Tw α) (n : Nat) (r m : Int) : Nat := if (n : Int) < m then pushN n m else if atR T n (mxI n) ≤ r then n else pushN (n - 1) m
def sqC (T : Tw α) (n : Nat) (r c m : Int) : Int := if (n : Int) < m then pushC n c m else if atR T n (mxI n) ≤ r then c else pushC (n - 1) c m
def sqX (z : α) (T : Tw α) (n : Nat) (r m : Int) (x : α) : α := if (n : Int) < m then z else if atR T n (mxI n) ≤ r then x else atX z T n (mxI n)
end

def gSqI : List SV → List Seg → Option (CS × List Prop)
  | [.nv (.one (.ptr h 0)), .nv (.one (.val (.int .u64 r))), .nv (.one (.val (.int .i64 x)))], mem => match twAt mem h with
    | some (n, g, c, m) => some (⟨[.nv (.one (.ptr 0 0)), .nv (.one (.val (.int .u64 r))), .nv (.one (.val (.int .i64 x)))], twMI n (twI g) c m, .tup [.one (.val (.int .i64 (sqX 0 (twI g) n r m x))), .one (.val (.bool (!decide ((n : Int) < m))))], twNI (sqN (twI g) n r m) ((twI g).sqz n r c m x) (sqC (twI g) n r c m) m⟩, [room c m n, 1 ≤ m, n ≤ 100000])
    | none => none
  | [.nv (.one (.val (.pointer none))), .nv (.one (.val (.int .u64 r))), .nv (.one (.val (.int .i64 x)))], _ => some (⟨[nilA, .nv (.one (.val (.int .u64 r))), .nv (.one (.val (.int .i64 x)))], [], .tup [.one (.val (.int .i64 x)), .one (.val (.bool true))], []⟩, [])
  | _, _ => none
theorem fnSqI (n : Nat) (T : Tw Int) (r c m : Int) (x : Int) (h : room c m n) (hm : 1 ≤ m) (hn : n ≤ 100000) : FnOk Try.prog 19 [.nv (.one (.ptr 0 0)), .nv (.one (.val (.int .u64 r))), .nv (.one (.val (.int .i64 x)))] (twMI n T c m)
    (.tup [.one (.val (.int .i64 (sqX 0 T n r m x))), .one (.val (.bool (!decide ((n : Int) < m))))]) (twNI (sqN T n r m) (T.sqz n r c m x) (sqC T n r c m) m) := by
  unfold sqX sqN sqC Tw.sqz
  by_cases q : (n : Int) < m
  · simp only [if_pos q, decide_eq_true q]
    exact sqI_a n T r c m x h q
  · simp only [if_neg q, decide_eq_false q]
    have e0 : pushN n m = n := if_neg q
    have e1 : T.push n r c m x = T := if_neg q
    have e2 : pushC n c m = c := if_neg q
    have e3 : isP n (mxI n) = true := by
      unfold mxI
      split
      · exact isP_1 (by omega)
      · rw [show (n : Int) - 1 = 0 by omega]; exact isP_0 (by omega)
    obtain ⟨h1, h2, h3, h4⟩ := h
    by_cases w : atR T n (mxI n) ≤ r
    · simp only [if_pos w]
      exact sqI_b n T r c m x ⟨h1, h2, h3, h4⟩ hm q e0 e1 e2 e3 w (by omega)
    · simp only [if_neg w]
      exact sqI_c n T r c m x ⟨h1, h2, h3, h4⟩ ⟨by omega, h2, h3, h4⟩ hm q e0 e1 e2 e3 w _ rfl hn (by omega)
theorem spSqI : SpOk Try.prog 19 (.lift gSqI) := by
  intro args mem cs obl h ho
  unfold gSqI at h
  split at h
  · split at h
    · simp only [Option.some.injEq, Prod.mk.injEq] at h
      obtain ⟨rfl, rfl⟩ := h
      exact fnSqI _ _ _ _ _ _ ho.1 ho.2.1 ho.2.2.1
    · cases h
  · simp only [Option.some.injEq, Prod.mk.injEq] at h
    obtain ⟨rfl, rfl⟩ := h
    exact sqI_z _ _
  · cases h
def gNewI : List SV → List Seg → Option (CS × List Prop)
  | [.nv (.one (.val (.int .i64 m)))], _ => some (⟨[iA m], [], .tup [.one (.ptr 0 0), .one (.val (.int .i64 0))], twMI 0 tw0I 0 m⟩, [1 ≤ m, m ≤ 4096])
  | _, _ => none
theorem spNewI : SpOk Try.prog 7 (.lift gNewI) := by
  intro args mem cs obl h ho
  unfold gNewI at h
  split at h
  · simp only [Option.some.injEq, Prod.mk.injEq] at h
    obtain ⟨rfl, rfl⟩ := h
    exact fnNewI _ ho.1 ho.2.1
  · cases h

def gSqS : List SV → List Seg → Option (CS × List Prop)
  | [.nv (.one (.ptr h 0)), .nv (.one (.val (.int .u64 r))), .nv (.one (.val (.string x)))], mem => match twAt mem h with
    | some (n, g, c, m) => some (⟨[.nv (.one (.ptr 0 0)), .nv (.one (.val (.int .u64 r))), .nv (.one (.val (.string x)))], twMS n (twS g) c m, .tup [.one (.val (.string (sqX ByteArray.empty (twS g) n r m x))), .one (.val (.bool (!decide ((n : Int) < m))))], twNS (sqN (twS g) n r m) ((twS g).sqz n r c m x) (sqC (twS g) n r c m) m⟩, [room c m n, 1 ≤ m, n ≤ 2])
    | none => none
  | [.nv (.one (.val (.pointer none))), .nv (.one (.val (.int .u64 r))), .nv (.one (.val (.string x)))], _ => some (⟨[nilA, .nv (.one (.val (.int .u64 r))), .nv (.one (.val (.string x)))], [], .tup [.one (.val (.string x)), .one (.val (.bool true))], []⟩, [False])
  | _, _ => none
theorem fnSqS (n : Nat) (T : Tw ByteArray) (r c m : Int) (x : ByteArray) (h : room c m n) (hm : 1 ≤ m) (hn : n ≤ 2) : FnOk Try.prog 23 [.nv (.one (.ptr 0 0)), .nv (.one (.val (.int .u64 r))), .nv (.one (.val (.string x)))] (twMS n T c m)
    (.tup [.one (.val (.string (sqX ByteArray.empty T n r m x))), .one (.val (.bool (!decide ((n : Int) < m))))]) (twNS (sqN T n r m) (T.sqz n r c m x) (sqC T n r c m) m) := by
  unfold sqX sqN sqC Tw.sqz
  by_cases q : (n : Int) < m
  · simp only [if_pos q, decide_eq_true q]
    exact sqS_a n T r c m x h q
  · simp only [if_neg q, decide_eq_false q]
    have e0 : pushN n m = n := if_neg q
    have e1 : T.push n r c m x = T := if_neg q
    have e2 : pushC n c m = c := if_neg q
    have e3 : isP n (mxI n) = true := by
      unfold mxI
      split
      · exact isP_1 (by omega)
      · rw [show (n : Int) - 1 = 0 by omega]; exact isP_0 (by omega)
    obtain ⟨h1, h2, h3, h4⟩ := h
    by_cases w : atR T n (mxI n) ≤ r
    · simp only [if_pos w]
      exact sqS_b n T r c m x ⟨h1, h2, h3, h4⟩ hm q e0 e1 e2 e3 w (by omega)
    · simp only [if_neg w]
      exact sqS_c n T r c m x ⟨h1, h2, h3, h4⟩ ⟨by omega, h2, h3, h4⟩ hm q e0 e1 e2 e3 w _ rfl hn (by omega)
theorem spSqS : SpOk Try.prog 23 (.lift gSqS) := by
  intro args mem cs obl h ho
  unfold gSqS at h
  split at h
  · split at h
    · simp only [Option.some.injEq, Prod.mk.injEq] at h
      obtain ⟨rfl, rfl⟩ := h
      exact fnSqS _ _ _ _ _ _ ho.1 ho.2.1 ho.2.2.1
    · cases h
  · simp only [Option.some.injEq, Prod.mk.injEq] at h
    obtain ⟨rfl, rfl⟩ := h
    exact ho.1.elim
  · cases h
def gNewS : List SV → List Seg → Option (CS × List Prop)
  | [.nv (.one (.val (.int .i64 m)))], _ => some (⟨[iA m], [], .tup [.one (.ptr 0 0), .one (.val (.int .i64 0))], twMS 0 tw0S 0 m⟩, [1 ≤ m, m ≤ 4096])
  | _, _ => none
theorem spNewS : SpOk Try.prog 21 (.lift gNewS) := by
  intro args mem cs obl h ho
  unfold gNewS at h
  split at h
  · simp only [Option.some.injEq, Prod.mk.injEq] at h
    obtain ⟨rfl, rfl⟩ := h
    exact fnNewS _ ho.1 ho.2.1
  · cases h

def gNewXI : List SV → List Seg → Option (CS × List Prop)
  | [.nv (.one (.val (.int .i64 m)))], _ => some (⟨[iA m], [], .tup [.one (.val (.pointer none)), .one (.val (.int .i64 25))], []⟩, [m < 1 ∨ 4096 < m])
  | _, _ => none
theorem spNewXI : SpOk Try.prog 7 (.lift gNewXI) := by
  intro args mem cs obl h ho
  unfold gNewXI at h
  split at h
  · simp only [Option.some.injEq, Prod.mk.injEq] at h
    obtain ⟨rfl, rfl⟩ := h
    exact fnNewXI _ ho.1
  · cases h
def Gt7 : List (FuncId × Sp) := (21, .lift gNewS) :: (19, .lift gSqI) :: (23, .lift gSqS) :: Gt6
theorem Gt7_ok : CtxOk Try.prog Gt7 := ctx_cons (enter_of Try.func21 (by kernel_rfl) (by kernel_rfl)) spNewS <|
  ctx_cons (enter_of Try.func19 (by kernel_rfl) (by kernel_rfl)) spSqI <|
  ctx_cons (enter_of Try.func23 (by kernel_rfl) (by kernel_rfl)) spSqS Gt6_ok
def Gtn : List (FuncId × Sp) := (7, .lift gNewI) :: Gt7
theorem Gtn_ok : CtxOk Try.prog Gtn := ctx_cons (enter_of Try.func7 (by kernel_rfl) (by kernel_rfl)) spNewI Gt7_ok
def Gtx : List (FuncId × Sp) := (7, .lift gNewXI) :: Gt7
theorem Gtx_ok : CtxOk Try.prog Gtx := ctx_cons (enter_of Try.func7 (by kernel_rfl) (by kernel_rfl)) spNewXI Gt7_ok
end Go.Proofs.Ytakpokccjgoapaa

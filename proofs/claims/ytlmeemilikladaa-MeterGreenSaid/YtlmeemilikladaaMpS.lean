/- MeterPlays: New, and the states of the loop. No condition. -/
import Derived.Test.YtlmeemilikladaaMhJ
namespace Go.Proofs.Ytlmeemilikladaa
set_option linter.unusedVariables false
set_option linter.unusedSimpArgs false
open Go.RowKit E

def gNew1 : List SV → Option (SV × List Prop)
  | [.nv (.one (.val (.int .u64 r))), .nv (.one (.val (.int .u64 n))), .nv (.one (.val (.int .u64 f)))] =>
    some (.tup [oneN (ifm (ckOne r n f n f) r) (ifm (ckOne r n f n f) n) (ifm (ckOne r n f n f) f) (ifm (ckOne r n f n f) n) (ifm (ckOne r n f n f) f), .one (.val (.int .i64 (ckOne r n f n f)))], [0 ≤ r, r ≤ 18446744073709551615, 0 ≤ n, n ≤ 18446744073709551615, 0 ≤ f, f ≤ 18446744073709551615])
  | _ => none
def gNew2 : List SV → Option (SV × List Prop)
  | [.nv (.one (.val (.int .u64 s))), .nv (.one (.val (.int .u64 q))), .nv (.one (.val (.int .u64 n))), .nv (.one (.val (.int .u64 f)))] =>
    some (.tup [twoN (ifm (ckTwo s q n f n f) s) (ifm (ckTwo s q n f n f) q) (ifm (ckTwo s q n f n f) n) (ifm (ckTwo s q n f n f) f) (ifm (ckTwo s q n f n f) n) (ifm (ckTwo s q n f n f) f), .one (.val (.int .i64 (ckTwo s q n f n f)))], [0 ≤ s, s ≤ 18446744073709551615, 0 ≤ q, q ≤ 18446744073709551615, 0 ≤ n, n ≤ 18446744073709551615, 0 ≤ f, f ≤ 18446744073709551615])
  | _ => none
theorem spNew1 : SpOk Try.prog 14 (pureS gNew1) := pureS_ok (by
  intro args r obl h ho
  unfold gNew1 at h
  split at h
  · rename_i r n f
    simp only [Option.some.injEq, Prod.mk.injEq] at h
    obtain ⟨rfl, rfl⟩ := h
    simp only [AllT, and_true] at ho
    obtain ⟨h1, h2, h3, h4, h5⟩ := ho
    refine ⟨rfl, rfl, ?_⟩
    by_cases hk : ckOne r n f n f = 0
    · simp only [hk, ifm, if_true]; exact n1_yes r n f ⟨h1, h2⟩ ⟨h3, h4⟩ h5 hk
    · simp only [ifm, if_neg hk]; exact n1_no r n f ⟨h1, h2⟩ ⟨h3, h4⟩ h5 hk
  · cases h)
theorem spNew2 : SpOk Try.prog 15 (pureS gNew2) := pureS_ok (by
  intro args r obl h ho
  unfold gNew2 at h
  split at h
  · rename_i s q n f
    simp only [Option.some.injEq, Prod.mk.injEq] at h
    obtain ⟨rfl, rfl⟩ := h
    simp only [AllT, and_true] at ho
    obtain ⟨h1, h2, h3, h4, h5, h6, h7⟩ := ho
    refine ⟨rfl, rfl, ?_⟩
    by_cases hk : ckTwo s q n f n f = 0
    · simp only [hk, ifm, if_true]; exact n2_yes s q n f ⟨h1, h2⟩ ⟨h3, h4⟩ ⟨h5, h6⟩ h7 hk
    · simp only [ifm, if_neg hk]; exact n2_no s q n f ⟨h1, h2⟩ ⟨h3, h4⟩ ⟨h5, h6⟩ h7 hk
  · cases h)
def Gp : List (FuncId × Sp) := (14, pureS gNew1) :: (15, pureS gNew2) :: Gc
theorem Gp_ok : CtxOk Try.prog Gp := ctx_cons (enter_of Try.func14 (by kernel_rfl) (by kernel_rfl)) spNew1 <| ctx_cons (enter_of Try.func15 (by kernel_rfl) (by kernel_rfl)) spNew2 Gc_ok

def mActs (t x c : Nat → Int) : Nat → List At := fun k => [.val (.int .u64 (t k)), .val (.int .u64 (x k)), .val (.int .i64 (c k))]
def oneC (r n f a b : Int) : List At := [.val (.int .u64 r), .val (.int .u64 n), .val (.int .u64 f), .val (.int .u64 a), .val (.int .u64 b)]
def twoC (s q n f a b : Int) : List At := [.val (.int .u64 s), .val (.int .u64 q), .val (.int .u64 n), .val (.int .u64 f), .val (.int .u64 a), .val (.int .u64 b)]
def mplaysS (len : Nat) (t x c : Nat → Int) (k : Nat) (r n f a b s q n2 f2 a2 b2 : Int) : St :=
  mkSt 225 [(3, .nv (.one (.ptr 1 0))), (4, .nv (.one (.ptr 2 0))), (7, .nv (.one (.ptr 3 0))), (10, .nv (.one (.ptr 4 0))), (139, .nv (.one (.own 0))), (140, iA len), (141, iA k)]
    [.ro 3 len (mActs t x c), .box 24 (oneC r n f a b), .box 26 (twoC s q n2 f2 a2 b2), .box 29 (oneC r n f a b), .box 32 (twoC s q n2 f2 a2 b2)]
def mplaysE : St := mkSt 225 [] [.gone]
end Go.Proofs.Ytlmeemilikladaa

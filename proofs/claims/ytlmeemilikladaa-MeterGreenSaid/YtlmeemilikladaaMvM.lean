/- MeterGreen: the states, and its plain numbers. No condition. -/
import Derived.Test.YtlmeemilikladaaMpI
namespace Go.Proofs.Ytlmeemilikladaa
set_option linter.unusedVariables false
set_option linter.unusedSimpArgs false
open Go.RowKit E

def uG (f : Nat → Int) : Nat → List At := fun k => [.val (.int .u64 (f k))]
def wC (x : Int) : List At := [.val (.int .u64 (d0 x)), .val (.int .u64 (d1 x)), .val (.int .u64 (d2 x)), .val (.int .u64 (d3 x))]
def greenS (len : Nat) (t x c : Nat → Int) (near slow : Int) (k : Nat) (r n f a b s q m g d e : Int) (u v w : Nat → Int) : St :=
  mkSt 177 [(9, uA near), (11, uA slow), (12, .nv (.one (.ptr 3 0))), (14, .nv (.one (.ptr 4 0))), (16, .nv (.one (.own 5))), (17, .nv (.one (.own 6))), (18, .nv (.one (.own 7))), (72, .nv (.one (.own 0))), (73, iA len), (74, iA k)]
    [.ro 3 len (mActs t x c), .gone, .gone, .box 29 (oneC r n f a b), .box 32 (twoC s q m g d e), .row 22 1 k (uG u), .row 22 1 k (uG v), .row 22 1 k (uG w)]
def greenR (n : Nat) (u v w : Nat → Int) : List Seg := [.gone, .row 22 1 n (uG u), .row 22 1 n (uG v), .row 22 1 n (uG w)]
def greenM (near slow : Int) (n : Nat) (u v w : Nat → Int) : St :=
  mkSt 177 [(9, uA near), (11, uA slow), (16, .nv (.one (.own 1))), (17, .nv (.one (.own 2))), (18, .nv (.one (.own 3)))] (greenR n u v w)
def greenO (near slow : Int) (n : Nat) (u v w : Nat → Int) (j : Nat) : St :=
  mkSt 177 [(9, uA near), (11, uA slow), (16, .nv (.one (.own 1))), (17, .nv (.one (.own 2))), (18, .nv (.one (.own 3))), (127, iA n), (128, iA j)] (greenR n u v w)
def greenI (near slow : Int) (n : Nat) (u v w : Nat → Int) (j k : Nat) (A B C : Int) : St :=
  mkSt 177 [(9, uA near), (11, uA slow), (16, .nv (.one (.own 1))), (17, .nv (.one (.own 2))), (18, .nv (.one (.own 3))), (127, iA n), (128, iA j), (26, iA j), (27, .nv (.one (.ptr 4 0))), (28, .nv (.one (.ptr 5 0))), (29, .nv (.one (.ptr 6 0))), (30, iA k)]
    [.gone, .row 22 1 n (uG u), .row 22 1 n (uG v), .row 22 1 n (uG w), .box 62 (wC A), .box 62 (wC B), .box 62 (wC C)]
def greenE : St := mkSt 177 [] [.gone]

def Gg : List (FuncId × Sp) := (20, pureS gOf) :: (21, pureS gPlus) :: (23, pureS gLess) :: (22, pureS gTimes) :: Gp
theorem Gg_ok : CtxOk Try.prog Gg := ctx_cons (enter_of Try.func20 (by kernel_rfl) (by kernel_rfl)) spOf <| ctx_cons (enter_of Try.func21 (by kernel_rfl) (by kernel_rfl)) spPlus <|
  ctx_cons (enter_of Try.func23 (by kernel_rfl) (by kernel_rfl)) spLess <| ctx_cons (enter_of Try.func22 (by kernel_rfl) (by kernel_rfl)) spTimes Gp_ok
end Go.Proofs.Ytlmeemilikladaa

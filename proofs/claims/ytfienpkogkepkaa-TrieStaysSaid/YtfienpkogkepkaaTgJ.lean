/- the document's entries: where a prefix is. No condition. -/
import Derived.Test.YtfienpkogkepkaaTgE
import Derived.Test.YtfienpkogkepkaaChecked
import Derived.KernelRfl
namespace Go.Proofs.Ytfienpkogkepkaa
set_option linter.unusedVariables false
set_option linter.unusedSimpArgs false
open Go.RowKit E
/-- Where a prefix is, in so many entries from a place on. -/
def atK (L : Nat → En) (a n : Int) : Nat → Nat → Int
  | 0, _ => -1
  | k + 1, i => if (L i).a = a ∧ (L i).n = n then i else atK L a n k (i + 1)
end Go.Proofs.Ytfienpkogkepkaa

/- Runs of Go code, as printed by a program: no condition beyond those that each states. -/
namespace Go.Proofs.Ytfienpkogkepkaa
set_option linter.unusedVariables false
set_option linter.unusedSimpArgs false
set_option maxRecDepth 100000
open Go.RowKit E
attribute [local irreducible] bl8 bl32 wdN msk rgt hasB ahB atK
set_option maxHeartbeats 2000000 in
theorem at_h (N : Nat) (L : Nat → En) (hN : N ≤ 4096) (a n : Int) (i : Nat) (hi : i < N) (hq : ((L i).a == a && ((L i).n == n && true)) = true) : CodeOk Try.prog 1 (loopOf Try.f16 0) (mkSt 20 [(0, .nv (.one (.own 0))), (3, .nv (.one (.ptr 1 0))), (5, iA i)] [.ro 3 N (gEn L), .box 28 [.val (.int .u32 a), .val (.int .i64 n)]]) .ret (mkSt 20 [(4, iA i)] [.ro 3 N (gEn L)]) :=
  code_run GrC_ok (orc := ⟨[true, true], []⟩) (obl := [decide ((↑i : Int) < (↑N : Int)) = true,
      (0 : Int) ≤ (↑i : Int),
      (↑i : Int) < (↑N : Int),
      Int.toNat (↑i : Int) < N,
      (En.a (L (Int.toNat (↑i : Int))) == a && (En.n (L (Int.toNat (↑i : Int))) == n && true)) = true,
      (↑i : Int) = (↑i : Int),
      N = N,
      ∀ (i : Nat), i < N → En.a (L i) = En.a (L i) ∧ En.n (L i) = En.n (L i) ∧ En.x (L i) = En.x (L i) ∧ True]) (by kernel_rfl) (.cons (by exact decide_eq_true (by omega)) (.cons (by omega) (.cons (by omega) (.cons (by assumption) (.cons (by assumption) (.cons (by rfl) (.cons (by rfl) (.cons (by (simp; done)) .nil)))))))) (Nat.le_of_ble_eq_true (by kernel_rfl))

set_option maxHeartbeats 2000000 in
theorem at_n (N : Nat) (L : Nat → En) (hN : N ≤ 4096) (a n : Int) (i : Nat) (hi : i < N) (hq : ((L i).a == a && ((L i).n == n && true)) = false) : CodeOk Try.prog 1 (loopOf Try.f16 0) (mkSt 20 [(0, .nv (.one (.own 0))), (3, .nv (.one (.ptr 1 0))), (5, iA i)] [.ro 3 N (gEn L), .box 28 [.val (.int .u32 a), .val (.int .i64 n)]]) .normal (mkSt 20 [(0, .nv (.one (.own 0))), (3, .nv (.one (.ptr 1 0))), (5, iA (i + 1 : Nat))] [.ro 3 N (gEn L), .box 28 [.val (.int .u32 a), .val (.int .i64 n)]]) :=
  code_run GrC_ok (orc := ⟨[true, false], []⟩) (obl := [decide ((↑i : Int) < (↑N : Int)) = true,
      (0 : Int) ≤ (↑i : Int),
      (↑i : Int) < (↑N : Int),
      Int.toNat (↑i : Int) < N,
      (En.a (L (Int.toNat (↑i : Int))) == a && (En.n (L (Int.toNat (↑i : Int))) == n && true)) = false,
      (0 : Nat) = (0 : Nat),
      IntKind.wrap IntKind.i64 ((↑i : Int) + (1 : Int)) = (↑(i + (1 : Nat)) : Int),
      N = N,
      ∀ (i : Nat), i < N → En.a (L i) = En.a (L i) ∧ En.n (L i) = En.n (L i) ∧ En.x (L i) = En.x (L i) ∧ True,
      a = a,
      n = n]) (by kernel_rfl) (.cons (by exact decide_eq_true (by omega)) (.cons (by omega) (.cons (by omega) (.cons (by assumption) (.cons (by assumption) (.cons (by rfl) (.cons (by exact w64 (by omega) (by omega)) (.cons (by rfl) (.cons (by (simp; done)) (.cons (by rfl) (.cons (by rfl) .nil))))))))))) (Nat.le_of_ble_eq_true (by kernel_rfl))

set_option maxHeartbeats 2000000 in
theorem at_x (N : Nat) (L : Nat → En) (hN : N ≤ 4096) (a n : Int) : CodeOk Try.prog 1 (loopOf Try.f16 0) (mkSt 20 [(0, .nv (.one (.own 0))), (3, .nv (.one (.ptr 1 0))), (5, iA N)] [.ro 3 N (gEn L), .box 28 [.val (.int .u32 a), .val (.int .i64 n)]]) (.exit 0) (mkSt 20 [] [.ro 3 N (gEn L)]) :=
  code_run GrC_ok (orc := ⟨[false], []⟩) (obl := [decide ((↑N : Int) < (↑N : Int)) = false,
      N = N,
      ∀ (i : Nat), i < N → En.a (L i) = En.a (L i) ∧ En.n (L i) = En.n (L i) ∧ En.x (L i) = En.x (L i) ∧ True]) (by kernel_rfl) (.cons (by exact decide_eq_false (by omega)) (.cons (by rfl) (.cons (by (simp; done)) .nil))) (Nat.le_of_ble_eq_true (by kernel_rfl))

set_option maxHeartbeats 2000000 in
theorem at_fr (N : Nat) (L : Nat → En) (hN : N ≤ 4096) (a n : Int) (i : Nat) (l0 : CodeOk Try.prog 1 (.loop (loopOf Try.f16 0)) (mkSt 20 [(0, .nv (.one (.own 0))), (3, .nv (.one (.ptr 1 0))), (5, iA (0 : Nat))] [.ro 3 N (gEn L), .box 28 [.val (.int .u32 a), .val (.int .i64 n)]]) .ret (mkSt 20 [(4, iA i)] [.ro 3 N (gEn L)])) : FnOk Try.prog 16 ([.nv (.one (.own 0)), .nv (.agg [.val (.int .u32 a), .val (.int .i64 n)])]) ([.ro 3 N (gEn L)]) (iA i) ([.gone]) :=
  fn_run GrC_ok Try.func16 (orc := ⟨[], [⟨mkSt 20 [(0, .nv (.one (.own 0))), (3, .nv (.one (.ptr 1 0))), (5, iA (0 : Nat))] [.ro 3 N (gEn L), .box 28 [.val (.int .u32 a), .val (.int .i64 n)]], .ret, mkSt 20 [(4, iA i)] [.ro 3 N (gEn L)]⟩]⟩) (obl := [(0 : Nat) = (0 : Nat),
      (0 : Int) = (↑(0 : Nat) : Int),
      N = N,
      ∀ (i : Nat), i < N → En.a (L i) = En.a (L i) ∧ En.n (L i) = En.n (L i) ∧ En.x (L i) = En.x (L i) ∧ True,
      a = a,
      n = n,
      (1 : Nat) ≤ (2 : Nat),
      CodeOk Try.prog (1 : Nat) (Code.loop (loopOf Try.f16 (0 : Nat))) (mkSt (20 : Nat) [((0 : Nat), SV.nv (NV.one (At.own (0 : Nat)))), ((3 : Nat), SV.nv (NV.one (At.ptr (1 : Nat) (0 : Nat)))), ((5 : Nat), iA (↑(0 : Nat) : Int))] [Seg.ro (3 : Nat) N (gEn L), Seg.box (28 : TypeId) [At.val (Value.int IntKind.u32 a), At.val (Value.int IntKind.i64 n)]]) Ex.ret (mkSt (20 : Nat) [((4 : Nat), iA (↑i : Int))] [Seg.ro (3 : Nat) N (gEn L)]),
      (↑i : Int) = (↑i : Int)]) (by kernel_rfl) (.cons (by rfl) (.cons (by rfl) (.cons (by rfl) (.cons (by (simp; done)) (.cons (by rfl) (.cons (by rfl) (.cons (by trivial) (.cons (by assumption) (.cons (by rfl) .nil))))))))) (Nat.le_of_ble_eq_true (by kernel_rfl))

set_option maxHeartbeats 2000000 in
theorem at_fx (N : Nat) (L : Nat → En) (hN : N ≤ 4096) (a n : Int) (l0 : CodeOk Try.prog 1 (.loop (loopOf Try.f16 0)) (mkSt 20 [(0, .nv (.one (.own 0))), (3, .nv (.one (.ptr 1 0))), (5, iA (0 : Nat))] [.ro 3 N (gEn L), .box 28 [.val (.int .u32 a), .val (.int .i64 n)]]) (.exit 0) (mkSt 20 [] [.ro 3 N (gEn L)])) : FnOk Try.prog 16 ([.nv (.one (.own 0)), .nv (.agg [.val (.int .u32 a), .val (.int .i64 n)])]) ([.ro 3 N (gEn L)]) (iA (-1)) ([.gone]) :=
  fn_run GrC_ok Try.func16 (orc := ⟨[], [⟨mkSt 20 [(0, .nv (.one (.own 0))), (3, .nv (.one (.ptr 1 0))), (5, iA (0 : Nat))] [.ro 3 N (gEn L), .box 28 [.val (.int .u32 a), .val (.int .i64 n)]], .exit 0, mkSt 20 [] [.ro 3 N (gEn L)]⟩]⟩) (obl := [(0 : Nat) = (0 : Nat),
      (0 : Int) = (↑(0 : Nat) : Int),
      N = N,
      ∀ (i : Nat), i < N → En.a (L i) = En.a (L i) ∧ En.n (L i) = En.n (L i) ∧ En.x (L i) = En.x (L i) ∧ True,
      a = a,
      n = n,
      (1 : Nat) ≤ (2 : Nat),
      CodeOk Try.prog (1 : Nat) (Code.loop (loopOf Try.f16 (0 : Nat))) (mkSt (20 : Nat) [((0 : Nat), SV.nv (NV.one (At.own (0 : Nat)))), ((3 : Nat), SV.nv (NV.one (At.ptr (1 : Nat) (0 : Nat)))), ((5 : Nat), iA (↑(0 : Nat) : Int))] [Seg.ro (3 : Nat) N (gEn L), Seg.box (28 : TypeId) [At.val (Value.int IntKind.u32 a), At.val (Value.int IntKind.i64 n)]]) (Ex.exit (0 : Nat)) (mkSt (20 : Nat) [] [Seg.ro (3 : Nat) N (gEn L)]),
      (-1 : Int) = (-1 : Int)]) (by kernel_rfl) (.cons (by rfl) (.cons (by rfl) (.cons (by rfl) (.cons (by (simp; done)) (.cons (by rfl) (.cons (by rfl) (.cons (by trivial) (.cons (by assumption) (.cons (by rfl) .nil))))))))) (Nat.le_of_ble_eq_true (by kernel_rfl))
end Go.Proofs.Ytfienpkogkepkaa

/- Runs of Go code, as printed by a program: no condition beyond those that each states. -/
namespace Go.Proofs.Ytfienpkogkepkaa
set_option linter.unusedVariables false
set_option linter.unusedSimpArgs false
set_option maxRecDepth 100000
open Go.RowKit E
attribute [local irreducible] bl8 bl32 wdN msk rgt hasB ahB atK
set_option maxHeartbeats 2000000 in
theorem fn_n (N : Nat) (L : Nat → En) (hN : N ≤ 4096) (k : Int) (hk : 0 ≤ k) (hk2 : k ≤ 4294967295) (b : Int) (i : Nat) (hi : i < N) (ha : 0 ≤ (L i).a) (ha2 : (L i).a ≤ 4294967295) (hq : hasB (L i).a (L i).n k = false) : CodeOk Try.prog 1 (loopOf Try.f14 0) (mkSt 41 [(0, .nv (.one (.own 0))), (1, .nv (.one (.val (.int .u32 k)))), (5, iA b), (6, iA i)] [.ro 3 N (gEn L)]) .normal (mkSt 41 [(0, .nv (.one (.own 0))), (1, .nv (.one (.val (.int .u32 k)))), (5, iA b), (6, iA (i + 1 : Nat))] [.ro 3 N (gEn L)]) :=
  code_run GrC_ok (orc := ⟨[true, false, false], []⟩) (obl := [decide ((↑i : Int) < (↑N : Int)) = true,
      (0 : Int) ≤ (↑i : Int),
      (↑i : Int) < (↑N : Int),
      Int.toNat (↑i : Int) < N,
      (0 : Int) ≤ En.a (L (Int.toNat (↑i : Int))),
      En.a (L (Int.toNat (↑i : Int))) ≤ (4294967295 : Int),
      (0 : Int) ≤ k,
      k ≤ (4294967295 : Int),
      hasB (En.a (L (Int.toNat (↑i : Int)))) (En.n (L (Int.toNat (↑i : Int)))) k = false,
      false = false,
      k = k,
      b = b,
      IntKind.wrap IntKind.i64 ((↑i : Int) + (1 : Int)) = (↑(i + (1 : Nat)) : Int),
      N = N,
      ∀ (i : Nat), i < N → En.a (L i) = En.a (L i) ∧ En.n (L i) = En.n (L i) ∧ En.x (L i) = En.x (L i) ∧ True]) (by kernel_rfl) (.cons (by exact decide_eq_true (by omega)) (.cons (by omega) (.cons (by omega) (.cons (by assumption) (.cons (by assumption) (.cons (by assumption) (.cons (by assumption) (.cons (by assumption) (.cons (by assumption) (.cons (by rfl) (.cons (by rfl) (.cons (by rfl) (.cons (by exact w64 (by omega) (by omega)) (.cons (by rfl) (.cons (by (simp; done)) .nil))))))))))))))) (Nat.le_of_ble_eq_true (by kernel_rfl))

set_option maxHeartbeats 2000000 in
theorem fn_1 (N : Nat) (L : Nat → En) (hN : N ≤ 4096) (k : Int) (hk : 0 ≤ k) (hk2 : k ≤ 4294967295) (i : Nat) (hi : i < N) (ha : 0 ≤ (L i).a) (ha2 : (L i).a ≤ 4294967295) (hq : hasB (L i).a (L i).n k = true) : CodeOk Try.prog 1 (loopOf Try.f14 0) (mkSt 41 [(0, .nv (.one (.own 0))), (1, .nv (.one (.val (.int .u32 k)))), (5, iA (-1)), (6, iA i)] [.ro 3 N (gEn L)]) .normal (mkSt 41 [(0, .nv (.one (.own 0))), (1, .nv (.one (.val (.int .u32 k)))), (5, iA i), (6, iA (i + 1 : Nat))] [.ro 3 N (gEn L)]) :=
  code_run GrC_ok (orc := ⟨[true, true, true, true], []⟩) (obl := [decide ((↑i : Int) < (↑N : Int)) = true,
      (0 : Int) ≤ (↑i : Int),
      (↑i : Int) < (↑N : Int),
      Int.toNat (↑i : Int) < N,
      (0 : Int) ≤ En.a (L (Int.toNat (↑i : Int))),
      En.a (L (Int.toNat (↑i : Int))) ≤ (4294967295 : Int),
      (0 : Int) ≤ k,
      k ≤ (4294967295 : Int),
      hasB (En.a (L (Int.toNat (↑i : Int)))) (En.n (L (Int.toNat (↑i : Int)))) k = true,
      decide ((-1 : Int) < (0 : Int)) = true,
      true = true,
      k = k,
      (↑i : Int) = (↑i : Int),
      IntKind.wrap IntKind.i64 ((↑i : Int) + (1 : Int)) = (↑(i + (1 : Nat)) : Int),
      N = N,
      ∀ (i : Nat), i < N → En.a (L i) = En.a (L i) ∧ En.n (L i) = En.n (L i) ∧ En.x (L i) = En.x (L i) ∧ True]) (by kernel_rfl) (.cons (by exact decide_eq_true (by omega)) (.cons (by omega) (.cons (by omega) (.cons (by assumption) (.cons (by assumption) (.cons (by assumption) (.cons (by assumption) (.cons (by assumption) (.cons (by assumption) (.cons (by rfl) (.cons (by rfl) (.cons (by rfl) (.cons (by rfl) (.cons (by exact w64 (by omega) (by omega)) (.cons (by rfl) (.cons (by (simp; done)) .nil)))))))))))))))) (Nat.le_of_ble_eq_true (by kernel_rfl))

set_option maxHeartbeats 2000000 in
theorem fn_2 (N : Nat) (L : Nat → En) (hN : N ≤ 4096) (k : Int) (hk : 0 ≤ k) (hk2 : k ≤ 4294967295) (i : Nat) (hi : i < N) (ha : 0 ≤ (L i).a) (ha2 : (L i).a ≤ 4294967295) (b : Nat) (hb : b < N) (hq : hasB (L i).a (L i).n k = true) (hg : (L i).n > (L b).n) : CodeOk Try.prog 1 (loopOf Try.f14 0) (mkSt 41 [(0, .nv (.one (.own 0))), (1, .nv (.one (.val (.int .u32 k)))), (5, iA b), (6, iA i)] [.ro 3 N (gEn L)]) .normal (mkSt 41 [(0, .nv (.one (.own 0))), (1, .nv (.one (.val (.int .u32 k)))), (5, iA i), (6, iA (i + 1 : Nat))] [.ro 3 N (gEn L)]) :=
  code_run GrC_ok (orc := ⟨[true, true, false, true], []⟩) (obl := [decide ((↑i : Int) < (↑N : Int)) = true,
      (0 : Int) ≤ (↑i : Int),
      (↑i : Int) < (↑N : Int),
      Int.toNat (↑i : Int) < N,
      (0 : Int) ≤ En.a (L (Int.toNat (↑i : Int))),
      En.a (L (Int.toNat (↑i : Int))) ≤ (4294967295 : Int),
      (0 : Int) ≤ k,
      k ≤ (4294967295 : Int),
      hasB (En.a (L (Int.toNat (↑i : Int)))) (En.n (L (Int.toNat (↑i : Int)))) k = true,
      decide ((↑b : Int) < (0 : Int)) = false,
      (0 : Int) ≤ (↑i : Int),
      (↑i : Int) < (↑N : Int),
      Int.toNat (↑i : Int) < N,
      (0 : Int) ≤ (↑b : Int),
      (↑b : Int) < (↑N : Int),
      Int.toNat (↑b : Int) < N,
      decide (En.n (L (Int.toNat (↑i : Int))) > En.n (L (Int.toNat (↑b : Int)))) = true,
      k = k,
      (↑i : Int) = (↑i : Int),
      IntKind.wrap IntKind.i64 ((↑i : Int) + (1 : Int)) = (↑(i + (1 : Nat)) : Int),
      N = N,
      ∀ (i : Nat), i < N → En.a (L i) = En.a (L i) ∧ En.n (L i) = En.n (L i) ∧ En.x (L i) = En.x (L i) ∧ True]) (by kernel_rfl) (.cons (by exact decide_eq_true (by omega)) (.cons (by omega) (.cons (by omega) (.cons (by assumption) (.cons (by assumption) (.cons (by assumption) (.cons (by assumption) (.cons (by assumption) (.cons (by assumption) (.cons (by rfl) (.cons (by omega) (.cons (by omega) (.cons (by assumption) (.cons (by omega) (.cons (by omega) (.cons (by assumption) (.cons (by exact decide_eq_true hg) (.cons (by rfl) (.cons (by rfl) (.cons (by exact w64 (by omega) (by omega)) (.cons (by rfl) (.cons (by (simp; done)) .nil)))))))))))))))))))))) (Nat.le_of_ble_eq_true (by kernel_rfl))

set_option maxHeartbeats 2000000 in
theorem fn_3 (N : Nat) (L : Nat → En) (hN : N ≤ 4096) (k : Int) (hk : 0 ≤ k) (hk2 : k ≤ 4294967295) (i : Nat) (hi : i < N) (ha : 0 ≤ (L i).a) (ha2 : (L i).a ≤ 4294967295) (b : Nat) (hb : b < N) (hq : hasB (L i).a (L i).n k = true) (hg : ¬ (L i).n > (L b).n) : CodeOk Try.prog 1 (loopOf Try.f14 0) (mkSt 41 [(0, .nv (.one (.own 0))), (1, .nv (.one (.val (.int .u32 k)))), (5, iA b), (6, iA i)] [.ro 3 N (gEn L)]) .normal (mkSt 41 [(0, .nv (.one (.own 0))), (1, .nv (.one (.val (.int .u32 k)))), (5, iA b), (6, iA (i + 1 : Nat))] [.ro 3 N (gEn L)]) :=
  code_run GrC_ok (orc := ⟨[true, true, false, false], []⟩) (obl := [decide ((↑i : Int) < (↑N : Int)) = true,
      (0 : Int) ≤ (↑i : Int),
      (↑i : Int) < (↑N : Int),
      Int.toNat (↑i : Int) < N,
      (0 : Int) ≤ En.a (L (Int.toNat (↑i : Int))),
      En.a (L (Int.toNat (↑i : Int))) ≤ (4294967295 : Int),
      (0 : Int) ≤ k,
      k ≤ (4294967295 : Int),
      hasB (En.a (L (Int.toNat (↑i : Int)))) (En.n (L (Int.toNat (↑i : Int)))) k = true,
      decide ((↑b : Int) < (0 : Int)) = false,
      (0 : Int) ≤ (↑i : Int),
      (↑i : Int) < (↑N : Int),
      Int.toNat (↑i : Int) < N,
      (0 : Int) ≤ (↑b : Int),
      (↑b : Int) < (↑N : Int),
      Int.toNat (↑b : Int) < N,
      decide (En.n (L (Int.toNat (↑i : Int))) > En.n (L (Int.toNat (↑b : Int)))) = false,
      k = k,
      (↑b : Int) = (↑b : Int),
      IntKind.wrap IntKind.i64 ((↑i : Int) + (1 : Int)) = (↑(i + (1 : Nat)) : Int),
      N = N,
      ∀ (i : Nat), i < N → En.a (L i) = En.a (L i) ∧ En.n (L i) = En.n (L i) ∧ En.x (L i) = En.x (L i) ∧ True]) (by kernel_rfl) (.cons (by exact decide_eq_true (by omega)) (.cons (by omega) (.cons (by omega) (.cons (by assumption) (.cons (by assumption) (.cons (by assumption) (.cons (by assumption) (.cons (by assumption) (.cons (by assumption) (.cons (by rfl) (.cons (by omega) (.cons (by omega) (.cons (by assumption) (.cons (by omega) (.cons (by omega) (.cons (by assumption) (.cons (by exact decide_eq_false hg) (.cons (by rfl) (.cons (by rfl) (.cons (by exact w64 (by omega) (by omega)) (.cons (by rfl) (.cons (by (simp; done)) .nil)))))))))))))))))))))) (Nat.le_of_ble_eq_true (by kernel_rfl))

set_option maxHeartbeats 2000000 in
theorem fn_x (N : Nat) (L : Nat → En) (hN : N ≤ 4096) (k b : Int) : CodeOk Try.prog 1 (loopOf Try.f14 0) (mkSt 41 [(0, .nv (.one (.own 0))), (1, .nv (.one (.val (.int .u32 k)))), (5, iA b), (6, iA N)] [.ro 3 N (gEn L)]) (.exit 0) (mkSt 41 [(5, iA b)] [.ro 3 N (gEn L)]) :=
  code_run GrC_ok (orc := ⟨[false], []⟩) (obl := [decide ((↑N : Int) < (↑N : Int)) = false,
      b = b,
      N = N,
      ∀ (i : Nat), i < N → En.a (L i) = En.a (L i) ∧ En.n (L i) = En.n (L i) ∧ En.x (L i) = En.x (L i) ∧ True]) (by kernel_rfl) (.cons (by exact decide_eq_false (by omega)) (.cons (by rfl) (.cons (by rfl) (.cons (by (simp; done)) .nil)))) (Nat.le_of_ble_eq_true (by kernel_rfl))

set_option maxHeartbeats 2000000 in
theorem fn_f (N : Nat) (L : Nat → En) (hN : N ≤ 4096) (k b : Int) (l0 : CodeOk Try.prog 1 (.loop (loopOf Try.f14 0)) (mkSt 41 [(0, .nv (.one (.own 0))), (1, .nv (.one (.val (.int .u32 k)))), (5, iA (-1)), (6, iA (0 : Nat))] [.ro 3 N (gEn L)]) (.exit 0) (mkSt 41 [(5, iA b)] [.ro 3 N (gEn L)])) : FnOk Try.prog 14 ([.nv (.one (.own 0)), .nv (.one (.val (.int .u32 k)))]) ([.ro 3 N (gEn L)]) (iA b) ([.gone]) :=
  fn_run GrC_ok Try.func14 (orc := ⟨[], [⟨mkSt 41 [(0, .nv (.one (.own 0))), (1, .nv (.one (.val (.int .u32 k)))), (5, iA (-1)), (6, iA (0 : Nat))] [.ro 3 N (gEn L)], .exit 0, mkSt 41 [(5, iA b)] [.ro 3 N (gEn L)]⟩]⟩) (obl := [k = k,
      (-1 : Int) = (-1 : Int),
      (0 : Int) = (↑(0 : Nat) : Int),
      N = N,
      ∀ (i : Nat), i < N → En.a (L i) = En.a (L i) ∧ En.n (L i) = En.n (L i) ∧ En.x (L i) = En.x (L i) ∧ True,
      (1 : Nat) ≤ (1 : Nat),
      CodeOk Try.prog (1 : Nat) (Code.loop (loopOf Try.f14 (0 : Nat))) (mkSt (41 : Nat) [((0 : Nat), SV.nv (NV.one (At.own (0 : Nat)))), ((1 : Nat), SV.nv (NV.one (At.val (Value.int IntKind.u32 k)))), ((5 : Nat), iA (-1 : Int)), ((6 : Nat), iA (↑(0 : Nat) : Int))] [Seg.ro (3 : Nat) N (gEn L)]) (Ex.exit (0 : Nat)) (mkSt (41 : Nat) [((5 : Nat), iA b)] [Seg.ro (3 : Nat) N (gEn L)]),
      b = b]) (by kernel_rfl) (.cons (by rfl) (.cons (by rfl) (.cons (by rfl) (.cons (by rfl) (.cons (by (simp; done)) (.cons (by trivial) (.cons (by assumption) (.cons (by rfl) .nil)))))))) (Nat.le_of_ble_eq_true (by kernel_rfl))
end Go.Proofs.Ytfienpkogkepkaa

/- the document's At and Find, as callees. No condition. -/
namespace Go.Proofs.Ytfienpkogkepkaa
set_option linter.unusedVariables false
set_option linter.unusedSimpArgs false
open Go.RowKit E
def atSt (N : Nat) (L : Nat → En) (a n : Int) (i : Nat) : E.St := mkSt 20 [(0, .nv (.one (.own 0))), (3, .nv (.one (.ptr 1 0))), (5, iA i)] [.ro 3 N (gEn L), .box 28 [.val (.int .u32 a), .val (.int .i64 n)]]
theorem eq_bb {a b n m : Int} : (a == b && (n == m && true)) = true ↔ a = b ∧ n = m := by simp
theorem at_loop {N : Nat} {L : Nat → En} (hN : N ≤ 4096) (a n : Int) : ∀ (k i : Nat), i + k = N →
    (atK L a n k i = -1 ∧ LoopOk Try.prog 1 (loopOf Try.f16 0) (atSt N L a n i) (.exit 0) (mkSt 20 [] [.ro 3 N (gEn L)])) ∨
      ∃ j : Nat, atK L a n k i = j ∧ j < N ∧ LoopOk Try.prog 1 (loopOf Try.f16 0) (atSt N L a n i) .ret (mkSt 20 [(4, iA j)] [.ro 3 N (gEn L)])
  | 0, i, hk => by
    have : i = N := by omega
    subst this
    exact .inl ⟨rfl, LoopOk.last (by simp) (at_x i L hN a n)⟩
  | k + 1, i, hk => by
    rw [atK]
    by_cases he : (L i).a = a ∧ (L i).n = n
    · rw [if_pos he]
      exact .inr ⟨i, rfl, by omega, LoopOk.last (by simp) (at_h N L hN a n i (by omega) (eq_bb.2 he))⟩
    · rw [if_neg he]
      have h1 := at_n N L hN a n i (by omega) (by rw [Bool.eq_false_iff]; exact fun q => he (eq_bb.1 q))
      rcases at_loop hN a n k (i + 1) (by omega) with ⟨q1, q2⟩ | ⟨j, q1, q2, q3⟩
      · exact .inl ⟨q1, LoopOk.step h1 q2⟩
      · exact .inr ⟨j, q1, q2, LoopOk.step h1 q3⟩
theorem fnAt {N : Nat} {L : Nat → En} (hN : N ≤ 4096) (a n : Int) : FnOk Try.prog 16 [.nv (.one (.own 0)), .nv (.agg [.val (.int .u32 a), .val (.int .i64 n)])] [.ro 3 N (gEn L)] (iA (atK L a n N 0)) [.gone] := by
  rcases at_loop (L := L) hN a n N 0 (by omega) with ⟨q1, q2⟩ | ⟨j, q1, _, q2⟩
  · rw [q1]; exact at_fx N L hN a n q2.code
  · rw [q1]; exact at_fr N L hN a n j q2.code
/-- Where the longest prefix is, that has an address. -/
def fnK (L : Nat → En) (k : Int) : Nat → Nat → Int → Int
  | 0, _, b => b
  | m + 1, i, b => fnK L k m (i + 1) (if hasB (L i).a (L i).n k = true ∧ (b < 0 ∨ (L i).n > (L b.toNat).n) then i else b)
def adL (N : Nat) (L : Nat → En) : Prop := ∀ i, i < N → 0 ≤ (L i).a ∧ (L i).a ≤ 4294967295
def fnSt (N : Nat) (L : Nat → En) (k b : Int) (i : Nat) : E.St := mkSt 41 [(0, .nv (.one (.own 0))), (1, .nv (.one (.val (.int .u32 k)))), (5, iA b), (6, iA i)] [.ro 3 N (gEn L)]
theorem fn_loop {N : Nat} {L : Nat → En} (hN : N ≤ 4096) (hL : adL N L) {k : Int} (hk : 0 ≤ k ∧ k ≤ 4294967295) : ∀ (m i : Nat) (b : Int), i + m = N → (b = -1 ∨ ∃ j : Nat, b = j ∧ j < N) →
    LoopOk Try.prog 1 (loopOf Try.f14 0) (fnSt N L k b i) (.exit 0) (mkSt 41 [(5, iA (fnK L k m i b))] [.ro 3 N (gEn L)])
  | 0, i, b, hm, hb => by
    have : i = N := by omega
    subst this
    exact LoopOk.last (by simp) (fn_x i L hN k b)
  | m + 1, i, b, hm, hb => by
    have hi : i < N := by omega
    have ha := hL i hi
    rw [fnK]
    cases hq : hasB (L i).a (L i).n k with
    | false =>
      rw [if_neg (by simp)]
      exact LoopOk.step (fn_n N L hN k hk.1 hk.2 b i hi ha.1 ha.2 hq) (fn_loop hN hL hk m (i + 1) b (by omega) hb)
    | true =>
      rcases hb with rfl | ⟨j, rfl, hj⟩
      · rw [if_pos ⟨rfl, .inl (by omega)⟩]
        exact LoopOk.step (fn_1 N L hN k hk.1 hk.2 i hi ha.1 ha.2 hq) (fn_loop hN hL hk m (i + 1) i (by omega) (.inr ⟨i, rfl, hi⟩))
      · by_cases hg : (L i).n > (L j).n
        · rw [if_pos ⟨rfl, .inr (by rw [Int.toNat_natCast]; exact hg)⟩]
          exact LoopOk.step (fn_2 N L hN k hk.1 hk.2 i hi ha.1 ha.2 j hj hq hg) (fn_loop hN hL hk m (i + 1) i (by omega) (.inr ⟨i, rfl, hi⟩))
        · rw [if_neg (by rintro ⟨_, q | q⟩; omega; rw [Int.toNat_natCast] at q; exact hg q)]
          exact LoopOk.step (fn_3 N L hN k hk.1 hk.2 i hi ha.1 ha.2 j hj hq hg) (fn_loop hN hL hk m (i + 1) j (by omega) (.inr ⟨j, rfl, hj⟩))
theorem fnFind32 {N : Nat} {L : Nat → En} (hN : N ≤ 4096) (hL : adL N L) {k : Int} (hk : 0 ≤ k ∧ k ≤ 4294967295) : FnOk Try.prog 14 [.nv (.one (.own 0)), .nv (.one (.val (.int .u32 k)))] [.ro 3 N (gEn L)] (iA (fnK L k N 0 (-1))) [.gone] :=
  fn_f N L hN k _ (fn_loop hN hL hk N 0 (-1) (by omega) (.inl rfl)).code
def e0Z : List At → Int
  | .val (.int _ n) :: _ => n
  | _ => 0
def e1Z : List At → Int
  | _ :: .val (.int _ n) :: _ => n
  | _ => 0
def e2Z : List At → Int
  | _ :: _ :: .val (.int _ n) :: _ => n
  | _ => 0
def enOf (g : Nat → List At) : Nat → En := fun k => ⟨e0Z (g k), e1Z (g k), e2Z (g k)⟩
theorem enOf_gEn (L : Nat → En) : enOf (gEn L) = L := rfl
def gAt : List SV → List Seg → Option (CS × List Prop)
  | [.nv (.one (.own h)), .nv (.agg [.val (.int .u32 a), .val (.int .i64 n)])], mem => match mem[h]? with
    | some (.row _ 3 N g) | some (.ro 3 N g) => some (⟨[.nv (.one (.own 0)), .nv (.agg [.val (.int .u32 a), .val (.int .i64 n)])], [.ro 3 N (gEn (enOf g))], iA (atK (enOf g) a n N 0), [.gone]⟩, [N ≤ 4096])
    | _ => none
  | _, _ => none
theorem spAt : SpOk Try.prog 16 (.lift gAt) := by
  intro args mem cs obl h ho
  unfold gAt at h
  split at h
  · split at h
    · simp only [Option.some.injEq, Prod.mk.injEq] at h
      obtain ⟨rfl, rfl⟩ := h
      exact fnAt ho.1 _ _
    · simp only [Option.some.injEq, Prod.mk.injEq] at h
      obtain ⟨rfl, rfl⟩ := h
      exact fnAt ho.1 _ _
    · cases h
  · cases h
def gFind32 : List SV → List Seg → Option (CS × List Prop)
  | [.nv (.one (.own h)), .nv (.one (.val (.int .u32 k)))], mem => match mem[h]? with
    | some (.row _ 3 N g) | some (.ro 3 N g) => some (⟨[.nv (.one (.own 0)), .nv (.one (.val (.int .u32 k)))], [.ro 3 N (gEn (enOf g))], iA (fnK (enOf g) k N 0 (-1)), [.gone]⟩, [N ≤ 4096, adL N (enOf g), 0 ≤ k, k ≤ 4294967295])
    | _ => none
  | _, _ => none
theorem spFind32 : SpOk Try.prog 14 (.lift gFind32) := by
  intro args mem cs obl h ho
  unfold gFind32 at h
  split at h
  · split at h
    · simp only [Option.some.injEq, Prod.mk.injEq] at h
      obtain ⟨rfl, rfl⟩ := h
      exact fnFind32 ho.1 ho.2.1 ⟨ho.2.2.1, ho.2.2.2.1⟩
    · simp only [Option.some.injEq, Prod.mk.injEq] at h
      obtain ⟨rfl, rfl⟩ := h
      exact fnFind32 ho.1 ho.2.1 ⟨ho.2.2.1, ho.2.2.2.1⟩
    · cases h
  · cases h
def GrD : List (FuncId × Sp) := (16, .lift gAt) :: (14, .lift gFind32) :: GrC
theorem GrD_ok : CtxOk Try.prog GrD := ctx_cons (enter_of Try.func16 (by kernel_rfl) (by kernel_rfl)) spAt <|
  ctx_cons (enter_of Try.func14 (by kernel_rfl) (by kernel_rfl)) spFind32 GrC_ok
/-! Drop: where a prefix is told -/
structure DpN where
  N : Nat
  L : Nat → En
  a : Int
  n : Int
  k : Nat
def DpOk (N : DpN) : Prop := N.k < N.N ∧ N.N ≤ 4096 ∧ atK N.L N.a N.n N.N 0 = (N.k : Nat)
def gAtK (N : DpN) : List SV → List Seg → Option (CS × List Prop)
  | [_, _], _ => some (⟨[.nv (.one (.own 0)), .nv (.agg [.val (.int .u32 N.a), .val (.int .i64 N.n)])], [.ro 3 N.N (gEn N.L)], iA (N.k : Nat), [.gone]⟩, [])
  | _, _ => none
theorem spAtK {N : DpN} (h : DpOk N) : SpOk Try.prog 16 (.lift (gAtK N)) := by
  intro args mem cs obl hg ho
  unfold gAtK at hg
  split at hg
  · simp only [Option.some.injEq, Prod.mk.injEq] at hg
    obtain ⟨rfl, rfl⟩ := hg
    have := fnAt (L := N.L) h.2.1 N.a N.n
    rw [h.2.2] at this
    exact this
  · cases hg
def GrE (N : DpN) : List (FuncId × Sp) := (16, .lift (gAtK N)) :: GrC
theorem GrE_ok (N : DpN) (ih : DpOk N) : CtxOk Try.prog (GrE N) := ctx_cons (enter_of Try.func16 (by kernel_rfl) (by kernel_rfl)) (spAtK ih) GrC_ok
def dpF (N : DpN) (F : Nat → En) : Prop := ∀ i, i < N.N - 1 → F i = if i < N.k then N.L i else N.L (i + 1)
/-- Two entries more. -/
theorem app2_en {ρ : List (Nat × Bd)} {m n : Nat} {F F2 G : Nat → En} {a k x : Int} {e : En} (hF : ∀ j, j < n → F2 j = F j) (hG : F2 n = ⟨a, k, x⟩) (hF2 : ∀ j, j < n + 1 → G j = F2 j) (hG2 : G (n + 1) = ⟨e.a, e.n, e.x⟩) {i : Nat} (hi : i < n + 1 + 1) :
    AllT (leAts ρ m (if i = n + 1 then [.val (.int .u32 e.a), .val (.int .i64 e.n), .val (.int .i64 e.x)] else if i = n then [.val (.int .u32 a), .val (.int .i64 k), .val (.int .i64 x)] else gEn F i) (gEn G i)) := by
  by_cases h1 : i = n + 1
  · subst h1; rw [if_pos rfl]; exact enE hG2 ρ m
  · rw [if_neg h1]
    by_cases h2 : i = n
    · subst h2; rw [if_pos rfl]; exact enE ((hF2 i (by omega)).trans hG) ρ m
    · rw [if_neg h2]; exact leG_en ρ m ((hF2 i (by omega)).trans (hF i (by omega))).symm
theorem leE (ρ : List (Nat × Bd)) (m : Nat) {e e' : En} (h : e = e') : AllT (leAts ρ m [.val (.int .u32 e.a), .val (.int .i64 e.n), .val (.int .i64 e.x)] [.val (.int .u32 e'.a), .val (.int .i64 e'.n), .val (.int .i64 e'.x)]) := by
  subst h; exact ⟨rfl, rfl, rfl, trivial⟩
theorem dp_le {N : DpN} {F : Nat → En} (hF : dpF N F) (h1 : N.k < N.N) {W : Int} (hW : W = (N.k : Int) + 1) (ρ : List (Nat × Bd)) (m : Nat) : ∀ i : Nat, i < ((N.k : Nat) : Int).toNat + (N.N - W.toNat) →
    AllT (leAts ρ m (if N.N - W.toNat = 1 then if i = ((N.k : Nat) : Int).toNat then gEn N.L (W.toNat + 0) else gEn N.L (0 + i) else if i < ((N.k : Nat) : Int).toNat then gEn N.L (0 + i) else gEn N.L (W.toNat + (i - ((N.k : Nat) : Int).toNat))) (gEn F i)) := by
  intro i hi
  subst hW
  rw [Int.toNat_natCast] at hi ⊢
  have e : ((N.k : Int) + 1).toNat = N.k + 1 := by omega
  rw [e] at hi ⊢
  have hf := hF i (by omega)
  by_cases c1 : N.N - (N.k + 1) = 1
  · rw [if_pos c1]
    by_cases c2 : i = N.k
    · rw [if_pos c2]
      rw [if_neg (by omega)] at hf
      exact leE ρ m (show N.L (N.k + 1 + 0) = F i by rw [hf, c2])
    · rw [if_neg c2]
      rw [if_pos (by omega)] at hf
      exact leE ρ m (show N.L (0 + i) = F i by rw [hf, Nat.zero_add])
  · rw [if_neg c1]
    by_cases c2 : i < N.k
    · rw [if_pos c2]
      rw [if_pos c2] at hf
      exact leE ρ m (show N.L (0 + i) = F i by rw [hf, Nat.zero_add])
    · rw [if_neg c2]
      rw [if_neg c2] at hf
      exact leE ρ m (show N.L (N.k + 1 + (i - N.k)) = F i by rw [hf]; congr 1; omega)
end Go.Proofs.Ytfienpkogkepkaa

/- Runs of Go code, as printed by a program: no condition beyond those that each states. -/
namespace Go.Proofs.Ytfienpkogkepkaa
set_option linter.unusedVariables false
set_option linter.unusedSimpArgs false
set_option maxRecDepth 100000
open Go.RowKit E
set_option maxHeartbeats 2000000 in
theorem pr_w (N : Nat) (L : Nat → En) (hN : N ≤ 4096) (a n x : Int) (ha : 0 ≤ a) (ha2 : a ≤ 4294967295) (hr : rgt a n = false) : FnOk Try.prog 13 ([.nv (.one (.own 0)), .nv (.agg [.val (.int .u32 a), .val (.int .i64 n)]), iA x]) ([.row 46 3 N (gEn L)]) (.tup [.one (.own 1), .one (.val (.int .i64 6))]) ([.gone, .row 46 3 N (gEn L)]) :=
  fn_run GrD_ok Try.func13 (orc := ⟨[true], []⟩) (obl := [(0 : Int) ≤ a,
      a ≤ (4294967295 : Int),
      (!rgt a n) = true,
      (6 : Int) = (6 : Int),
      N = N,
      ∀ (i : Nat), i < N → En.a (L i) = En.a (L i) ∧ En.n (L i) = En.n (L i) ∧ En.x (L i) = En.x (L i) ∧ True]) (by kernel_rfl) (.cons (by assumption) (.cons (by assumption) (.cons (by (simp [*]; done)) (.cons (by rfl) (.cons (by rfl) (.cons (by (intro _ _; exact ⟨rfl, rfl, rfl, trivial⟩)) .nil)))))) (Nat.le_of_ble_eq_true (by kernel_rfl))

set_option maxHeartbeats 2000000 in
theorem pr_t (N : Nat) (L : Nat → En) (hN : N ≤ 4096) (a n x : Int) (ha : 0 ≤ a) (ha2 : a ≤ 4294967295) (hr : rgt a n = true) (hg : atK L a n N 0 ≥ 0) : FnOk Try.prog 13 ([.nv (.one (.own 0)), .nv (.agg [.val (.int .u32 a), .val (.int .i64 n)]), iA x]) ([.row 46 3 N (gEn L)]) (.tup [.one (.own 1), .one (.val (.int .i64 8))]) ([.gone, .row 46 3 N (gEn L)]) :=
  fn_run GrD_ok Try.func13 (orc := ⟨[false, true], []⟩) (obl := [(0 : Int) ≤ a,
      a ≤ (4294967295 : Int),
      (!rgt a n) = false,
      N ≤ (4096 : Nat),
      a = a,
      n = n,
      N = N,
      ∀ (i : Nat), i < N → En.a (L i) = En.a (enOf (gEn L) i) ∧ En.n (L i) = En.n (enOf (gEn L) i) ∧ En.x (L i) = En.x (enOf (gEn L) i) ∧ True,
      decide (atK (enOf (gEn L)) a n N (0 : Nat) ≥ (0 : Int)) = true,
      (8 : Int) = (8 : Int),
      N = N,
      ∀ (i : Nat), i < N → En.a (L i) = En.a (L i) ∧ En.n (L i) = En.n (L i) ∧ En.x (L i) = En.x (L i) ∧ True]) (by kernel_rfl) (.cons (by assumption) (.cons (by assumption) (.cons (by (simp [*]; done)) (.cons (by assumption) (.cons (by rfl) (.cons (by rfl) (.cons (by rfl) (.cons (by (intro _ _; exact ⟨rfl, rfl, rfl, trivial⟩)) (.cons (by exact decide_eq_true hg) (.cons (by rfl) (.cons (by rfl) (.cons (by (intro _ _; exact ⟨rfl, rfl, rfl, trivial⟩)) .nil)))))))))))) (Nat.le_of_ble_eq_true (by kernel_rfl))

set_option maxHeartbeats 2000000 in
theorem pr_full (N : Nat) (L : Nat → En) (hN : N ≤ 4096) (a n x : Int) (ha : 0 ≤ a) (ha2 : a ≤ 4294967295) (hr : rgt a n = true) (h : ¬ atK L a n N 0 ≥ 0) (h0 : (N : Int) ≥ 4096) : FnOk Try.prog 13 ([.nv (.one (.own 0)), .nv (.agg [.val (.int .u32 a), .val (.int .i64 n)]), iA x]) ([.row 46 3 N (gEn L)]) (.tup [.one (.own 1), .one (.val (.int .i64 20))]) ([.gone, .row 46 3 N (gEn L)]) :=
  fn_run GrD_ok Try.func13 (orc := ⟨[false, false, true], []⟩) (obl := [(0 : Int) ≤ a,
      a ≤ (4294967295 : Int),
      (!rgt a n) = false,
      N ≤ (4096 : Nat),
      a = a,
      n = n,
      N = N,
      ∀ (i : Nat), i < N → En.a (L i) = En.a (enOf (gEn L) i) ∧ En.n (L i) = En.n (enOf (gEn L) i) ∧ En.x (L i) = En.x (enOf (gEn L) i) ∧ True,
      decide (atK (enOf (gEn L)) a n N (0 : Nat) ≥ (0 : Int)) = false,
      decide ((↑N : Int) ≥ (4096 : Int)) = true,
      (20 : Int) = (20 : Int),
      N = N,
      ∀ (i : Nat), i < N → En.a (L i) = En.a (L i) ∧ En.n (L i) = En.n (L i) ∧ En.x (L i) = En.x (L i) ∧ True]) (by kernel_rfl) (.cons (by assumption) (.cons (by assumption) (.cons (by (simp [*]; done)) (.cons (by assumption) (.cons (by rfl) (.cons (by rfl) (.cons (by rfl) (.cons (by (intro _ _; exact ⟨rfl, rfl, rfl, trivial⟩)) (.cons (by exact decide_eq_false h) (.cons (by exact decide_eq_true h0) (.cons (by rfl) (.cons (by rfl) (.cons (by (intro _ _; exact ⟨rfl, rfl, rfl, trivial⟩)) .nil))))))))))))) (Nat.le_of_ble_eq_true (by kernel_rfl))

set_option maxHeartbeats 2000000 in
theorem pr_1 (N : Nat) (L : Nat → En) (hN : N ≤ 4096) (a n x : Int) (ha : 0 ≤ a) (ha2 : a ≤ 4294967295) (i m : Nat) (hi : i < N) (hm : m ≤ 4097) (F F2 G : Nat → En) (hq : ahB a n (L i).a (L i).n = true) (hF : ∀ j, j < m → F2 j = F j) (hG : F2 m = ⟨a, n, x⟩) (hF2 : ∀ j, j < m + 1 → G j = F2 j) (hG2 : G (m + 1) = ⟨(L i).a, (L i).n, (L i).x⟩) : CodeOk Try.prog 1 (loopOf Try.f13 0) (mkSt 63 [(0, .nv (.one (.own 0))), (2, iA x), (4, .nv (.one (.ptr 1 0))), (8, .nv (.one (.own 2))), (9, bA false), (10, iA i)] [.row 46 3 N (gEn L), .box 28 [.val (.int .u32 a), .val (.int .i64 n)], .row 46 3 m (gEn F)]) .normal (mkSt 63 [(0, .nv (.one (.own 0))), (2, iA x), (4, .nv (.one (.ptr 1 0))), (8, .nv (.one (.own 2))), (9, bA true), (10, iA (i + 1 : Nat))] [.row 46 3 N (gEn L), .box 28 [.val (.int .u32 a), .val (.int .i64 n)], .row 46 3 (m + 2) (gEn G)]) :=
  code_run GrD_ok (orc := ⟨[true, true, true], []⟩) (obl := [decide ((↑i : Int) < (↑N : Int)) = true,
      (!false) = true,
      (0 : Int) ≤ (↑i : Int),
      (↑i : Int) < (↑N : Int),
      Int.toNat (↑i : Int) < N,
      ahB a n (En.a (L (Int.toNat (↑i : Int)))) (En.n (L (Int.toNat (↑i : Int)))) = true,
      m + (1 : Nat) ≤ (4611686018427387904 : Nat),
      (m + (1 : Nat)) * (24 : Nat) ≤ (140737488355328 : Nat),
      (0 : Int) ≤ (↑i : Int),
      (↑i : Int) < (↑N : Int),
      Int.toNat (↑i : Int) < N,
      m + (1 : Nat) + (1 : Nat) ≤ (4611686018427387904 : Nat),
      (m + (1 : Nat) + (1 : Nat)) * (24 : Nat) ≤ (140737488355328 : Nat),
      x = x,
      (0 : Nat) = (0 : Nat),
      true = true,
      IntKind.wrap IntKind.i64 ((↑i : Int) + (1 : Int)) = (↑(i + (1 : Nat)) : Int),
      N = N,
      ∀ (i : Nat), i < N → En.a (L i) = En.a (L i) ∧ En.n (L i) = En.n (L i) ∧ En.x (L i) = En.x (L i) ∧ True,
      a = a,
      n = n,
      m + (1 : Nat) + (1 : Nat) = m + (2 : Nat),
      ∀ (i_1 : Nat), i_1 < m + (1 : Nat) + (1 : Nat) → AllT (leAts ([(nat_lit 0, Bd.same (nat_lit 0))] ++ ([((0 : Nat), Bd.same (0 : Nat))] ++ ([] ++ ([((1 : Nat), Bd.same (1 : Nat))] ++ ([((2 : Nat), Bd.same (6 : Nat))] ++ ([] ++ ([] ++ [])))))) ++ ([] ++ ([] ++ ([] ++ ([] ++ []) ++ ([] ++ []))) ++ ([] ++ [])) ++ [((0 : Nat), Bd.same (0 : Nat)), ((1 : Nat), Bd.same (1 : Nat)), ((2 : Nat), Bd.same (2 : Nat))]) (3 : Nat) (if i_1 = m + (1 : Nat) then [At.val (Value.int IntKind.u32 (En.a (L (Int.toNat (↑i : Int))))), At.val (Value.int IntKind.i64 (En.n (L (Int.toNat (↑i : Int))))), At.val (Value.int IntKind.i64 (En.x (L (Int.toNat (↑i : Int)))))] else if i_1 = m then [At.val (Value.int IntKind.u32 a), At.val (Value.int IntKind.i64 n), At.val (Value.int IntKind.i64 x)] else gEn F i_1) (gEn G i_1))]) (by kernel_rfl) (.cons (by exact decide_eq_true (by omega)) (.cons (by rfl) (.cons (by omega) (.cons (by omega) (.cons (by assumption) (.cons (by assumption) (.cons (by omega) (.cons (by omega) (.cons (by omega) (.cons (by omega) (.cons (by assumption) (.cons (by omega) (.cons (by omega) (.cons (by rfl) (.cons (by rfl) (.cons (by rfl) (.cons (by exact w64 (by omega) (by omega)) (.cons (by rfl) (.cons (by (intro _ _; exact ⟨rfl, rfl, rfl, trivial⟩)) (.cons (by rfl) (.cons (by rfl) (.cons (by rfl) (.cons (by (intro j hj; exact app2_en hF hG hF2 hG2 hj)) .nil))))))))))))))))))))))) (Nat.le_of_ble_eq_true (by kernel_rfl))

set_option maxHeartbeats 2000000 in
theorem pr_2 (N : Nat) (L : Nat → En) (hN : N ≤ 4096) (a n x : Int) (ha : 0 ≤ a) (ha2 : a ≤ 4294967295) (i m : Nat) (hi : i < N) (hm : m ≤ 4097) (F F2 G : Nat → En) (hq : ahB a n (L i).a (L i).n = false) (hF : ∀ j, j < m → G j = F j) (hG : G m = ⟨(L i).a, (L i).n, (L i).x⟩) : CodeOk Try.prog 1 (loopOf Try.f13 0) (mkSt 63 [(0, .nv (.one (.own 0))), (2, iA x), (4, .nv (.one (.ptr 1 0))), (8, .nv (.one (.own 2))), (9, bA false), (10, iA i)] [.row 46 3 N (gEn L), .box 28 [.val (.int .u32 a), .val (.int .i64 n)], .row 46 3 m (gEn F)]) .normal (mkSt 63 [(0, .nv (.one (.own 0))), (2, iA x), (4, .nv (.one (.ptr 1 0))), (8, .nv (.one (.own 2))), (9, bA false), (10, iA (i + 1 : Nat))] [.row 46 3 N (gEn L), .box 28 [.val (.int .u32 a), .val (.int .i64 n)], .row 46 3 (m + 1) (gEn G)]) :=
  code_run GrD_ok (orc := ⟨[true, true, false], []⟩) (obl := [decide ((↑i : Int) < (↑N : Int)) = true,
      (!false) = true,
      (0 : Int) ≤ (↑i : Int),
      (↑i : Int) < (↑N : Int),
      Int.toNat (↑i : Int) < N,
      ahB a n (En.a (L (Int.toNat (↑i : Int)))) (En.n (L (Int.toNat (↑i : Int)))) = false,
      (0 : Int) ≤ (↑i : Int),
      (↑i : Int) < (↑N : Int),
      Int.toNat (↑i : Int) < N,
      m + (1 : Nat) ≤ (4611686018427387904 : Nat),
      (m + (1 : Nat)) * (24 : Nat) ≤ (140737488355328 : Nat),
      x = x,
      (0 : Nat) = (0 : Nat),
      false = false,
      IntKind.wrap IntKind.i64 ((↑i : Int) + (1 : Int)) = (↑(i + (1 : Nat)) : Int),
      N = N,
      ∀ (i : Nat), i < N → En.a (L i) = En.a (L i) ∧ En.n (L i) = En.n (L i) ∧ En.x (L i) = En.x (L i) ∧ True,
      a = a,
      n = n,
      m + (1 : Nat) = m + (1 : Nat),
      ∀ (i_1 : Nat), i_1 < m + (1 : Nat) → AllT (leAts ([(nat_lit 0, Bd.same (nat_lit 0))] ++ ([((0 : Nat), Bd.same (0 : Nat))] ++ ([] ++ ([((1 : Nat), Bd.same (1 : Nat))] ++ ([((2 : Nat), Bd.same (4 : Nat))] ++ ([] ++ ([] ++ [])))))) ++ ([] ++ ([] ++ ([] ++ ([] ++ []) ++ ([] ++ []))) ++ ([] ++ [])) ++ [((0 : Nat), Bd.same (0 : Nat)), ((1 : Nat), Bd.same (1 : Nat)), ((2 : Nat), Bd.same (2 : Nat))]) (3 : Nat) (if i_1 = m then [At.val (Value.int IntKind.u32 (En.a (L (Int.toNat (↑i : Int))))), At.val (Value.int IntKind.i64 (En.n (L (Int.toNat (↑i : Int))))), At.val (Value.int IntKind.i64 (En.x (L (Int.toNat (↑i : Int)))))] else gEn F i_1) (gEn G i_1))]) (by kernel_rfl) (.cons (by exact decide_eq_true (by omega)) (.cons (by rfl) (.cons (by omega) (.cons (by omega) (.cons (by assumption) (.cons (by assumption) (.cons (by omega) (.cons (by omega) (.cons (by assumption) (.cons (by omega) (.cons (by omega) (.cons (by rfl) (.cons (by rfl) (.cons (by rfl) (.cons (by exact w64 (by omega) (by omega)) (.cons (by rfl) (.cons (by (intro _ _; exact ⟨rfl, rfl, rfl, trivial⟩)) (.cons (by rfl) (.cons (by rfl) (.cons (by rfl) (.cons (by exact app1_en hF hG) .nil))))))))))))))))))))) (Nat.le_of_ble_eq_true (by kernel_rfl))

set_option maxHeartbeats 2000000 in
theorem pr_3 (N : Nat) (L : Nat → En) (hN : N ≤ 4096) (a n x : Int) (ha : 0 ≤ a) (ha2 : a ≤ 4294967295) (i m : Nat) (hi : i < N) (hm : m ≤ 4097) (F F2 G : Nat → En) (hF : ∀ j, j < m → G j = F j) (hG : G m = ⟨(L i).a, (L i).n, (L i).x⟩) : CodeOk Try.prog 1 (loopOf Try.f13 0) (mkSt 63 [(0, .nv (.one (.own 0))), (2, iA x), (4, .nv (.one (.ptr 1 0))), (8, .nv (.one (.own 2))), (9, bA true), (10, iA i)] [.row 46 3 N (gEn L), .box 28 [.val (.int .u32 a), .val (.int .i64 n)], .row 46 3 m (gEn F)]) .normal (mkSt 63 [(0, .nv (.one (.own 0))), (2, iA x), (4, .nv (.one (.ptr 1 0))), (8, .nv (.one (.own 2))), (9, bA true), (10, iA (i + 1 : Nat))] [.row 46 3 N (gEn L), .box 28 [.val (.int .u32 a), .val (.int .i64 n)], .row 46 3 (m + 1) (gEn G)]) :=
  code_run GrD_ok (orc := ⟨[true, false, false], []⟩) (obl := [decide ((↑i : Int) < (↑N : Int)) = true,
      (!true) = false,
      false = false,
      (0 : Int) ≤ (↑i : Int),
      (↑i : Int) < (↑N : Int),
      Int.toNat (↑i : Int) < N,
      m + (1 : Nat) ≤ (4611686018427387904 : Nat),
      (m + (1 : Nat)) * (24 : Nat) ≤ (140737488355328 : Nat),
      x = x,
      (0 : Nat) = (0 : Nat),
      true = true,
      IntKind.wrap IntKind.i64 ((↑i : Int) + (1 : Int)) = (↑(i + (1 : Nat)) : Int),
      N = N,
      ∀ (i : Nat), i < N → En.a (L i) = En.a (L i) ∧ En.n (L i) = En.n (L i) ∧ En.x (L i) = En.x (L i) ∧ True,
      a = a,
      n = n,
      m + (1 : Nat) = m + (1 : Nat),
      ∀ (i_1 : Nat), i_1 < m + (1 : Nat) → AllT (leAts ([(nat_lit 0, Bd.same (nat_lit 0))] ++ ([((0 : Nat), Bd.same (0 : Nat))] ++ ([] ++ ([((1 : Nat), Bd.same (1 : Nat))] ++ ([((2 : Nat), Bd.same (4 : Nat))] ++ ([] ++ ([] ++ [])))))) ++ ([] ++ ([] ++ ([] ++ ([] ++ []) ++ ([] ++ []))) ++ ([] ++ [])) ++ [((0 : Nat), Bd.same (0 : Nat)), ((1 : Nat), Bd.same (1 : Nat)), ((2 : Nat), Bd.same (2 : Nat))]) (3 : Nat) (if i_1 = m then [At.val (Value.int IntKind.u32 (En.a (L (Int.toNat (↑i : Int))))), At.val (Value.int IntKind.i64 (En.n (L (Int.toNat (↑i : Int))))), At.val (Value.int IntKind.i64 (En.x (L (Int.toNat (↑i : Int)))))] else gEn F i_1) (gEn G i_1))]) (by kernel_rfl) (.cons (by exact decide_eq_true (by omega)) (.cons (by rfl) (.cons (by rfl) (.cons (by omega) (.cons (by omega) (.cons (by assumption) (.cons (by omega) (.cons (by omega) (.cons (by rfl) (.cons (by rfl) (.cons (by rfl) (.cons (by exact w64 (by omega) (by omega)) (.cons (by rfl) (.cons (by (intro _ _; exact ⟨rfl, rfl, rfl, trivial⟩)) (.cons (by rfl) (.cons (by rfl) (.cons (by rfl) (.cons (by exact app1_en hF hG) .nil)))))))))))))))))) (Nat.le_of_ble_eq_true (by kernel_rfl))

set_option maxHeartbeats 2000000 in
theorem pr_xt (N : Nat) (L : Nat → En) (hN : N ≤ 4096) (a n x : Int) (m : Nat) (F : Nat → En) : CodeOk Try.prog 1 (loopOf Try.f13 0) (mkSt 63 [(0, .nv (.one (.own 0))), (2, iA x), (4, .nv (.one (.ptr 1 0))), (8, .nv (.one (.own 2))), (9, bA true), (10, iA N)] [.row 46 3 N (gEn L), .box 28 [.val (.int .u32 a), .val (.int .i64 n)], .row 46 3 m (gEn F)]) (.exit 0) (mkSt 63 [(2, iA x), (4, .nv (.one (.ptr 1 0))), (8, .nv (.one (.own 2))), (9, bA true)] [.row 46 3 N (gEn L), .box 28 [.val (.int .u32 a), .val (.int .i64 n)], .row 46 3 m (gEn F)]) :=
  code_run GrD_ok (orc := ⟨[false], []⟩) (obl := [decide ((↑N : Int) < (↑N : Int)) = false,
      x = x,
      (0 : Nat) = (0 : Nat),
      true = true,
      N = N,
      ∀ (i : Nat), i < N → En.a (L i) = En.a (L i) ∧ En.n (L i) = En.n (L i) ∧ En.x (L i) = En.x (L i) ∧ True,
      a = a,
      n = n,
      m = m,
      ∀ (i : Nat), i < m → En.a (F i) = En.a (F i) ∧ En.n (F i) = En.n (F i) ∧ En.x (F i) = En.x (F i) ∧ True]) (by kernel_rfl) (.cons (by exact decide_eq_false (by omega)) (.cons (by rfl) (.cons (by rfl) (.cons (by rfl) (.cons (by rfl) (.cons (by (intro _ _; exact ⟨rfl, rfl, rfl, trivial⟩)) (.cons (by rfl) (.cons (by rfl) (.cons (by rfl) (.cons (by (intro _ _; exact ⟨rfl, rfl, rfl, trivial⟩)) .nil)))))))))) (Nat.le_of_ble_eq_true (by kernel_rfl))

set_option maxHeartbeats 2000000 in
theorem pr_ft (N : Nat) (L : Nat → En) (hN : N ≤ 4096) (a n x : Int) (ha : 0 ≤ a) (ha2 : a ≤ 4294967295) (hr : rgt a n = true) (h : ¬ atK L a n N 0 ≥ 0) (h0 : ¬ (N : Int) ≥ 4096) (m : Nat) (hm : m ≤ 4097) (F F2 F0 : Nat → En) (l0 : CodeOk Try.prog 1 (.loop (loopOf Try.f13 0)) (mkSt 63 [(0, .nv (.one (.own 0))), (2, iA x), (4, .nv (.one (.ptr 1 0))), (8, .nv (.one (.own 2))), (9, bA false), (10, iA (0 : Nat))] [.row 46 3 N (gEn L), .box 28 [.val (.int .u32 a), .val (.int .i64 n)], .row 46 3 0 (gEn F0)]) (.exit 0) (mkSt 63 [(2, iA x), (4, .nv (.one (.ptr 1 0))), (8, .nv (.one (.own 2))), (9, bA true)] [.row 46 3 N (gEn L), .box 28 [.val (.int .u32 a), .val (.int .i64 n)], .row 46 3 m (gEn F)])) : FnOk Try.prog 13 ([.nv (.one (.own 0)), .nv (.agg [.val (.int .u32 a), .val (.int .i64 n)]), iA x]) ([.row 46 3 N (gEn L)]) (.tup [.one (.own 1), .one (.val (.int .i64 0))]) ([.gone, .row 46 3 m (gEn F)]) :=
  fn_run GrD_ok Try.func13 (orc := ⟨[false, false, false, false], [⟨mkSt 63 [(0, .nv (.one (.own 0))), (2, iA x), (4, .nv (.one (.ptr 1 0))), (8, .nv (.one (.own 2))), (9, bA false), (10, iA (0 : Nat))] [.row 46 3 N (gEn L), .box 28 [.val (.int .u32 a), .val (.int .i64 n)], .row 46 3 0 (gEn F0)], .exit 0, mkSt 63 [(2, iA x), (4, .nv (.one (.ptr 1 0))), (8, .nv (.one (.own 2))), (9, bA true)] [.row 46 3 N (gEn L), .box 28 [.val (.int .u32 a), .val (.int .i64 n)], .row 46 3 m (gEn F)]⟩]⟩) (obl := [(0 : Int) ≤ a,
      a ≤ (4294967295 : Int),
      (!rgt a n) = false,
      N ≤ (4096 : Nat),
      a = a,
      n = n,
      N = N,
      ∀ (i : Nat), i < N → En.a (L i) = En.a (enOf (gEn L) i) ∧ En.n (L i) = En.n (enOf (gEn L) i) ∧ En.x (L i) = En.x (enOf (gEn L) i) ∧ True,
      decide (atK (enOf (gEn L)) a n N (0 : Nat) ≥ (0 : Int)) = false,
      decide ((↑N : Int) ≥ (4096 : Int)) = false,
      x = x,
      (0 : Nat) = (0 : Nat),
      false = false,
      (0 : Int) = (↑(0 : Nat) : Int),
      N = N,
      ∀ (i : Nat), i < N → En.a (L i) = En.a (L i) ∧ En.n (L i) = En.n (L i) ∧ En.x (L i) = En.x (L i) ∧ True,
      a = a,
      n = n,
      (0 : Nat) = (0 : Nat),
      (1 : Nat) ≤ (3 : Nat),
      CodeOk Try.prog (1 : Nat) (Code.loop (loopOf Try.f13 (0 : Nat))) (mkSt (63 : Nat) [((0 : Nat), SV.nv (NV.one (At.own (0 : Nat)))), ((2 : Nat), iA x), ((4 : Nat), SV.nv (NV.one (At.ptr (1 : Nat) (0 : Nat)))), ((8 : Nat), SV.nv (NV.one (At.own (2 : Nat)))), ((9 : Nat), bA false), ((10 : Nat), iA (↑(0 : Nat) : Int))] [Seg.row (46 : TypeId) (3 : Nat) N (gEn L), Seg.box (28 : TypeId) [At.val (Value.int IntKind.u32 a), At.val (Value.int IntKind.i64 n)], Seg.row (46 : TypeId) (3 : Nat) (0 : Nat) (gEn F0)]) (Ex.exit (0 : Nat)) (mkSt (63 : Nat) [((2 : Nat), iA x), ((4 : Nat), SV.nv (NV.one (At.ptr (1 : Nat) (0 : Nat)))), ((8 : Nat), SV.nv (NV.one (At.own (2 : Nat)))), ((9 : Nat), bA true)] [Seg.row (46 : TypeId) (3 : Nat) N (gEn L), Seg.box (28 : TypeId) [At.val (Value.int IntKind.u32 a), At.val (Value.int IntKind.i64 n)], Seg.row (46 : TypeId) (3 : Nat) m (gEn F)]),
      (!true) = false,
      (0 : Int) = (0 : Int),
      m = m,
      ∀ (i : Nat), i < m → En.a (F i) = En.a (F i) ∧ En.n (F i) = En.n (F i) ∧ En.x (F i) = En.x (F i) ∧ True]) (by kernel_rfl) (.cons (by assumption) (.cons (by assumption) (.cons (by (simp [*]; done)) (.cons (by assumption) (.cons (by rfl) (.cons (by rfl) (.cons (by rfl) (.cons (by (intro _ _; exact ⟨rfl, rfl, rfl, trivial⟩)) (.cons (by exact decide_eq_false h) (.cons (by exact decide_eq_false h0) (.cons (by rfl) (.cons (by rfl) (.cons (by rfl) (.cons (by rfl) (.cons (by rfl) (.cons (by (intro _ _; exact ⟨rfl, rfl, rfl, trivial⟩)) (.cons (by rfl) (.cons (by rfl) (.cons (by rfl) (.cons (by trivial) (.cons (by assumption) (.cons (by rfl) (.cons (by rfl) (.cons (by rfl) (.cons (by (intro _ _; exact ⟨rfl, rfl, rfl, trivial⟩)) .nil))))))))))))))))))))))))) (Nat.le_of_ble_eq_true (by kernel_rfl))

set_option maxHeartbeats 2000000 in
theorem pr_xf (N : Nat) (L : Nat → En) (hN : N ≤ 4096) (a n x : Int) (m : Nat) (F : Nat → En) : CodeOk Try.prog 1 (loopOf Try.f13 0) (mkSt 63 [(0, .nv (.one (.own 0))), (2, iA x), (4, .nv (.one (.ptr 1 0))), (8, .nv (.one (.own 2))), (9, bA false), (10, iA N)] [.row 46 3 N (gEn L), .box 28 [.val (.int .u32 a), .val (.int .i64 n)], .row 46 3 m (gEn F)]) (.exit 0) (mkSt 63 [(2, iA x), (4, .nv (.one (.ptr 1 0))), (8, .nv (.one (.own 2))), (9, bA false)] [.row 46 3 N (gEn L), .box 28 [.val (.int .u32 a), .val (.int .i64 n)], .row 46 3 m (gEn F)]) :=
  code_run GrD_ok (orc := ⟨[false], []⟩) (obl := [decide ((↑N : Int) < (↑N : Int)) = false,
      x = x,
      (0 : Nat) = (0 : Nat),
      false = false,
      N = N,
      ∀ (i : Nat), i < N → En.a (L i) = En.a (L i) ∧ En.n (L i) = En.n (L i) ∧ En.x (L i) = En.x (L i) ∧ True,
      a = a,
      n = n,
      m = m,
      ∀ (i : Nat), i < m → En.a (F i) = En.a (F i) ∧ En.n (F i) = En.n (F i) ∧ En.x (F i) = En.x (F i) ∧ True]) (by kernel_rfl) (.cons (by exact decide_eq_false (by omega)) (.cons (by rfl) (.cons (by rfl) (.cons (by rfl) (.cons (by rfl) (.cons (by (intro _ _; exact ⟨rfl, rfl, rfl, trivial⟩)) (.cons (by rfl) (.cons (by rfl) (.cons (by rfl) (.cons (by (intro _ _; exact ⟨rfl, rfl, rfl, trivial⟩)) .nil)))))))))) (Nat.le_of_ble_eq_true (by kernel_rfl))

set_option maxHeartbeats 2000000 in
theorem pr_ff (N : Nat) (L : Nat → En) (hN : N ≤ 4096) (a n x : Int) (ha : 0 ≤ a) (ha2 : a ≤ 4294967295) (hr : rgt a n = true) (h : ¬ atK L a n N 0 ≥ 0) (h0 : ¬ (N : Int) ≥ 4096) (m : Nat) (hm : m ≤ 4097) (F F2 F0 : Nat → En) (hF : ∀ j, j < m → F2 j = F j) (hG : F2 m = ⟨a, n, x⟩) (l0 : CodeOk Try.prog 1 (.loop (loopOf Try.f13 0)) (mkSt 63 [(0, .nv (.one (.own 0))), (2, iA x), (4, .nv (.one (.ptr 1 0))), (8, .nv (.one (.own 2))), (9, bA false), (10, iA (0 : Nat))] [.row 46 3 N (gEn L), .box 28 [.val (.int .u32 a), .val (.int .i64 n)], .row 46 3 0 (gEn F0)]) (.exit 0) (mkSt 63 [(2, iA x), (4, .nv (.one (.ptr 1 0))), (8, .nv (.one (.own 2))), (9, bA false)] [.row 46 3 N (gEn L), .box 28 [.val (.int .u32 a), .val (.int .i64 n)], .row 46 3 m (gEn F)])) : FnOk Try.prog 13 ([.nv (.one (.own 0)), .nv (.agg [.val (.int .u32 a), .val (.int .i64 n)]), iA x]) ([.row 46 3 N (gEn L)]) (.tup [.one (.own 1), .one (.val (.int .i64 0))]) ([.gone, .row 46 3 (m + 1) (gEn F2)]) :=
  fn_run GrD_ok Try.func13 (orc := ⟨[false, false, false, true], [⟨mkSt 63 [(0, .nv (.one (.own 0))), (2, iA x), (4, .nv (.one (.ptr 1 0))), (8, .nv (.one (.own 2))), (9, bA false), (10, iA (0 : Nat))] [.row 46 3 N (gEn L), .box 28 [.val (.int .u32 a), .val (.int .i64 n)], .row 46 3 0 (gEn F0)], .exit 0, mkSt 63 [(2, iA x), (4, .nv (.one (.ptr 1 0))), (8, .nv (.one (.own 2))), (9, bA false)] [.row 46 3 N (gEn L), .box 28 [.val (.int .u32 a), .val (.int .i64 n)], .row 46 3 m (gEn F)]⟩]⟩) (obl := [(0 : Int) ≤ a,
      a ≤ (4294967295 : Int),
      (!rgt a n) = false,
      N ≤ (4096 : Nat),
      a = a,
      n = n,
      N = N,
      ∀ (i : Nat), i < N → En.a (L i) = En.a (enOf (gEn L) i) ∧ En.n (L i) = En.n (enOf (gEn L) i) ∧ En.x (L i) = En.x (enOf (gEn L) i) ∧ True,
      decide (atK (enOf (gEn L)) a n N (0 : Nat) ≥ (0 : Int)) = false,
      decide ((↑N : Int) ≥ (4096 : Int)) = false,
      x = x,
      (0 : Nat) = (0 : Nat),
      false = false,
      (0 : Int) = (↑(0 : Nat) : Int),
      N = N,
      ∀ (i : Nat), i < N → En.a (L i) = En.a (L i) ∧ En.n (L i) = En.n (L i) ∧ En.x (L i) = En.x (L i) ∧ True,
      a = a,
      n = n,
      (0 : Nat) = (0 : Nat),
      (1 : Nat) ≤ (3 : Nat),
      CodeOk Try.prog (1 : Nat) (Code.loop (loopOf Try.f13 (0 : Nat))) (mkSt (63 : Nat) [((0 : Nat), SV.nv (NV.one (At.own (0 : Nat)))), ((2 : Nat), iA x), ((4 : Nat), SV.nv (NV.one (At.ptr (1 : Nat) (0 : Nat)))), ((8 : Nat), SV.nv (NV.one (At.own (2 : Nat)))), ((9 : Nat), bA false), ((10 : Nat), iA (↑(0 : Nat) : Int))] [Seg.row (46 : TypeId) (3 : Nat) N (gEn L), Seg.box (28 : TypeId) [At.val (Value.int IntKind.u32 a), At.val (Value.int IntKind.i64 n)], Seg.row (46 : TypeId) (3 : Nat) (0 : Nat) (gEn F0)]) (Ex.exit (0 : Nat)) (mkSt (63 : Nat) [((2 : Nat), iA x), ((4 : Nat), SV.nv (NV.one (At.ptr (1 : Nat) (0 : Nat)))), ((8 : Nat), SV.nv (NV.one (At.own (2 : Nat)))), ((9 : Nat), bA false)] [Seg.row (46 : TypeId) (3 : Nat) N (gEn L), Seg.box (28 : TypeId) [At.val (Value.int IntKind.u32 a), At.val (Value.int IntKind.i64 n)], Seg.row (46 : TypeId) (3 : Nat) m (gEn F)]),
      (!false) = true,
      m + (1 : Nat) ≤ (4611686018427387904 : Nat),
      (m + (1 : Nat)) * (24 : Nat) ≤ (140737488355328 : Nat),
      (0 : Int) = (0 : Int),
      m + (1 : Nat) = m + (1 : Nat),
      ∀ (i : Nat), i < m + (1 : Nat) → AllT (leAts ([(nat_lit 0, Bd.same (nat_lit 0))] ++ ([((1 : Nat), Bd.same (4 : Nat))] ++ ([] ++ []) ++ []) ++ ([] ++ ([] ++ []) ++ ([] ++ [])) ++ [((0 : Nat), Bd.same (0 : Nat)), ((1 : Nat), Bd.same (1 : Nat))]) (2 : Nat) (if i = m then [At.val (Value.int IntKind.u32 a), At.val (Value.int IntKind.i64 n), At.val (Value.int IntKind.i64 x)] else gEn F i) (gEn F2 i))]) (by kernel_rfl) (.cons (by assumption) (.cons (by assumption) (.cons (by (simp [*]; done)) (.cons (by assumption) (.cons (by rfl) (.cons (by rfl) (.cons (by rfl) (.cons (by (intro _ _; exact ⟨rfl, rfl, rfl, trivial⟩)) (.cons (by exact decide_eq_false h) (.cons (by exact decide_eq_false h0) (.cons (by rfl) (.cons (by rfl) (.cons (by rfl) (.cons (by rfl) (.cons (by rfl) (.cons (by (intro _ _; exact ⟨rfl, rfl, rfl, trivial⟩)) (.cons (by rfl) (.cons (by rfl) (.cons (by rfl) (.cons (by trivial) (.cons (by assumption) (.cons (by rfl) (.cons (by omega) (.cons (by omega) (.cons (by rfl) (.cons (by rfl) (.cons (by exact app1_en hF hG) .nil))))))))))))))))))))))))))) (Nat.le_of_ble_eq_true (by kernel_rfl))
end Go.Proofs.Ytfienpkogkepkaa

/- Runs of Go code, as printed by a program: no condition beyond those that each states. -/
namespace Go.Proofs.Ytfienpkogkepkaa
set_option linter.unusedVariables false
set_option linter.unusedSimpArgs false
set_option maxRecDepth 100000
open Go.RowKit E
attribute [local irreducible] bl8 bl32 wdN msk rgt hasB ahB atK
set_option maxHeartbeats 2000000 in
theorem dp_n (N : Nat) (L : Nat → En) (hN : N ≤ 4096) (a n : Int) (hg : atK L a n N 0 < 0) : FnOk Try.prog 12 ([.nv (.one (.own 0)), .nv (.agg [.val (.int .u32 a), .val (.int .i64 n)])]) ([.row 46 3 N (gEn L)]) (.tup [.one (.own 1), .one (.val (.int .i64 0)), .one (.val (.bool false))]) ([.gone, .row 46 3 N (gEn L)]) :=
  fn_run GrD_ok Try.func12 (orc := ⟨[true], []⟩) (obl := [N ≤ (4096 : Nat),
      a = a,
      n = n,
      N = N,
      ∀ (i : Nat), i < N → En.a (L i) = En.a (enOf (gEn L) i) ∧ En.n (L i) = En.n (enOf (gEn L) i) ∧ En.x (L i) = En.x (enOf (gEn L) i) ∧ True,
      decide (atK (enOf (gEn L)) a n N (0 : Nat) < (0 : Int)) = true,
      (0 : Int) = (0 : Int),
      false = false,
      N = N,
      ∀ (i : Nat), i < N → En.a (L i) = En.a (L i) ∧ En.n (L i) = En.n (L i) ∧ En.x (L i) = En.x (L i) ∧ True]) (by kernel_rfl) (.cons (by assumption) (.cons (by rfl) (.cons (by rfl) (.cons (by rfl) (.cons (by (intro _ _; exact ⟨rfl, rfl, rfl, trivial⟩)) (.cons (by exact decide_eq_true hg) (.cons (by rfl) (.cons (by rfl) (.cons (by rfl) (.cons (by (intro _ _; exact ⟨rfl, rfl, rfl, trivial⟩)) .nil)))))))))) (Nat.le_of_ble_eq_true (by kernel_rfl))

set_option maxHeartbeats 2000000 in
theorem dp_y (N : DpN) (ih : DpOk N) (F : Nat → En) (hF : dpF N F) : FnOk Try.prog 12 ([.nv (.one (.own 0)), .nv (.agg [.val (.int .u32 N.a), .val (.int .i64 N.n)])]) ([.row 46 3 N.N (gEn N.L)]) (.tup [.one (.own 1), .one (.val (.int .i64 (N.L N.k).x)), .one (.val (.bool true))]) ([.gone, .row 46 3 (0 + N.k + (N.N - (N.k + 1))) (gEn F)]) :=
  fn_run (GrE_ok N ih) Try.func12 (orc := ⟨[false], []⟩) (obl := [DpN.a N = DpN.a N,
      DpN.n N = DpN.n N,
      DpN.N N = DpN.N N,
      ∀ (i : Nat), i < DpN.N N → En.a (DpN.L N i) = En.a (DpN.L N i) ∧ En.n (DpN.L N i) = En.n (DpN.L N i) ∧ En.x (DpN.L N i) = En.x (DpN.L N i) ∧ True,
      decide ((↑(DpN.k N) : Int) < (0 : Int)) = false,
      (0 : Int) ≤ Prod.snd (IntKind.i64, (↑(DpN.k N) : Int)),
      Prod.snd (IntKind.i64, (↑(DpN.k N) : Int)) ≤ (↑(DpN.N N) : Int),
      (0 : Nat) + Int.toNat (Prod.snd (IntKind.i64, (↑(DpN.k N) : Int))) ≤ DpN.N N,
      Int.toNat (Prod.snd (IntKind.i64, (↑(DpN.k N) : Int))) ≤ (4611686018427387904 : Nat),
      Int.toNat (Prod.snd (IntKind.i64, (↑(DpN.k N) : Int))) * (24 : Nat) ≤ (140737488355328 : Nat),
      (0 : Int) ≤ Prod.snd (IntKind.i64, IntKind.wrap IntKind.i64 ((↑(DpN.k N) : Int) + (1 : Int))),
      Prod.snd (IntKind.i64, IntKind.wrap IntKind.i64 ((↑(DpN.k N) : Int) + (1 : Int))) ≤ (↑(DpN.N N) : Int),
      Int.toNat (Prod.snd (IntKind.i64, IntKind.wrap IntKind.i64 ((↑(DpN.k N) : Int) + (1 : Int)))) + (DpN.N N - Int.toNat (Prod.snd (IntKind.i64, IntKind.wrap IntKind.i64 ((↑(DpN.k N) : Int) + (1 : Int))))) ≤ DpN.N N,
      Int.toNat (Prod.snd (IntKind.i64, (↑(DpN.k N) : Int))) + (DpN.N N - Int.toNat (Prod.snd (IntKind.i64, IntKind.wrap IntKind.i64 ((↑(DpN.k N) : Int) + (1 : Int))))) ≤ (4611686018427387904 : Nat),
      (Int.toNat (Prod.snd (IntKind.i64, (↑(DpN.k N) : Int))) + (DpN.N N - Int.toNat (Prod.snd (IntKind.i64, IntKind.wrap IntKind.i64 ((↑(DpN.k N) : Int) + (1 : Int)))))) * (24 : Nat) ≤ (140737488355328 : Nat),
      (0 : Int) ≤ (↑(DpN.k N) : Int),
      (↑(DpN.k N) : Int) < (↑(DpN.N N) : Int),
      Int.toNat (↑(DpN.k N) : Int) < DpN.N N,
      En.x (DpN.L N (Int.toNat (↑(DpN.k N) : Int))) = En.x (DpN.L N (DpN.k N)),
      true = true,
      Int.toNat (Prod.snd (IntKind.i64, (↑(DpN.k N) : Int))) + (DpN.N N - Int.toNat (Prod.snd (IntKind.i64, IntKind.wrap IntKind.i64 ((↑(DpN.k N) : Int) + (1 : Int))))) = (0 : Nat) + DpN.k N + (DpN.N N - (DpN.k N + (1 : Nat))),
      ∀ (i : Nat), i < Int.toNat (Prod.snd (IntKind.i64, (↑(DpN.k N) : Int))) + (DpN.N N - Int.toNat (Prod.snd (IntKind.i64, IntKind.wrap IntKind.i64 ((↑(DpN.k N) : Int) + (1 : Int))))) → AllT (leAts ([(nat_lit 0, Bd.same (nat_lit 0))] ++ ([((1 : Nat), Bd.same (3 : Nat))] ++ ([] ++ ([] ++ [])) ++ []) ++ ([] ++ ([] ++ []) ++ ([] ++ [])) ++ [((0 : Nat), Bd.same (0 : Nat)), ((1 : Nat), Bd.same (1 : Nat))]) (2 : Nat) (if DpN.N N - Int.toNat (Prod.snd (IntKind.i64, IntKind.wrap IntKind.i64 ((↑(DpN.k N) : Int) + (1 : Int)))) = (1 : Nat) then if i = Int.toNat (Prod.snd (IntKind.i64, (↑(DpN.k N) : Int))) then gEn (DpN.L N) (Int.toNat (Prod.snd (IntKind.i64, IntKind.wrap IntKind.i64 ((↑(DpN.k N) : Int) + (1 : Int)))) + (0 : Nat)) else gEn (DpN.L N) ((0 : Nat) + i) else if i < Int.toNat (Prod.snd (IntKind.i64, (↑(DpN.k N) : Int))) then gEn (DpN.L N) ((0 : Nat) + i) else gEn (DpN.L N) (Int.toNat (Prod.snd (IntKind.i64, IntKind.wrap IntKind.i64 ((↑(DpN.k N) : Int) + (1 : Int)))) + (i - Int.toNat (Prod.snd (IntKind.i64, (↑(DpN.k N) : Int)))))) (gEn F i))]) (by kernel_rfl) (.cons (by rfl) (.cons (by rfl) (.cons (by rfl) (.cons (by (intro _ _; exact ⟨rfl, rfl, rfl, trivial⟩)) (.cons (by rfl) (.cons (by (have h1 := ih.1; have h2 := ih.2.1; omega)) (.cons (by (have h1 := ih.1; have h2 := ih.2.1; omega)) (.cons (by (have h1 := ih.1; have h2 := ih.2.1; omega)) (.cons (by (have h1 := ih.1; have h2 := ih.2.1; omega)) (.cons (by (have h1 := ih.1; have h2 := ih.2.1; omega)) (.cons (by (have h1 := ih.1; have h2 := ih.2.1; have hw : IntKind.wrap IntKind.i64 ((N.k : Int) + 1) = N.k + 1 := w64 rfl (by omega); simp only [hw]; omega)) (.cons (by (have h1 := ih.1; have h2 := ih.2.1; have hw : IntKind.wrap IntKind.i64 ((N.k : Int) + 1) = N.k + 1 := w64 rfl (by omega); simp only [hw]; omega)) (.cons (by (have h1 := ih.1; have h2 := ih.2.1; have hw : IntKind.wrap IntKind.i64 ((N.k : Int) + 1) = N.k + 1 := w64 rfl (by omega); simp only [hw]; omega)) (.cons (by (have h1 := ih.1; have h2 := ih.2.1; omega)) (.cons (by (have h1 := ih.1; have h2 := ih.2.1; omega)) (.cons (by (have h1 := ih.1; have h2 := ih.2.1; omega)) (.cons (by (have h1 := ih.1; have h2 := ih.2.1; omega)) (.cons (by (have h1 := ih.1; have h2 := ih.2.1; omega)) (.cons (by rfl) (.cons (by rfl) (.cons (by (have h1 := ih.1; have h2 := ih.2.1; have hw : IntKind.wrap IntKind.i64 ((N.k : Int) + 1) = N.k + 1 := w64 rfl (by omega); simp only [hw]; omega)) (.cons (by (have h1 := ih.1; have h2 := ih.2.1; exact dp_le hF h1 (w64 rfl (by omega)) _ _)) .nil)))))))))))))))))))))) (Nat.le_of_ble_eq_true (by kernel_rfl))
end Go.Proofs.Ytfienpkogkepkaa

/- the document's Put and Drop: lists. No condition. -/
namespace Go.Proofs.Ytfienpkogkepkaa
set_option linter.unusedVariables false
set_option linter.unusedSimpArgs false
open Go.RowKit E
abbrev tEn : TypeId := 46
def enF (l : List En) : Nat → En := fun i => l.getD i ⟨0, 0, 0⟩
theorem enF_get {l : List En} {i : Nat} {e : En} (h : l[i]? = some e) : enF l i = e := by
  unfold enF; rw [List.getD_eq_getElem?_getD, h]; rfl
theorem enF_app1 {l m : List En} {i : Nat} (h : i < l.length) : enF (l ++ m) i = enF l i := by
  unfold enF; rw [List.getD_eq_getElem?_getD, List.getD_eq_getElem?_getD, List.getElem?_append_left h]
theorem enF_app2 {l m : List En} {i : Nat} : enF (l ++ m) (l.length + i) = enF m i := by
  unfold enF; rw [List.getD_eq_getElem?_getD, List.getD_eq_getElem?_getD, List.getElem?_append_right (by omega), Nat.add_sub_cancel_left]
/-- A row of entries. -/
def enS (l : List En) : Seg := .row tEn 3 l.length (gEn (enF l))
/-- An entry put in its place. -/
def insE (a n x : Int) : List En → List En
  | [] => [⟨a, n, x⟩]
  | e :: r => if ahB a n e.a e.n = true then ⟨a, n, x⟩ :: e :: r else e :: insE a n x r
/-- Is one behind it? -/
def anyE (a n : Int) : List En → Bool
  | [] => false
  | e :: r => ahB a n e.a e.n || anyE a n r
theorem insE_end {a n x : Int} : ∀ {l : List En}, anyE a n l = false → insE a n x l = l ++ [⟨a, n, x⟩]
  | [], _ => rfl
  | e :: r, h => by
    rw [anyE, Bool.or_eq_false_iff] at h
    rw [insE, h.1, if_neg (by simp), insE_end h.2]; rfl
theorem insE_len {a n x : Int} : ∀ {l : List En}, (insE a n x l).length = l.length + 1
  | [] => rfl
  | e :: r => by
    rw [insE]
    split
    · rfl
    · simp [insE_len (l := r)]
def prSt (l : List En) (a n x : Int) (O : List En) (p : Bool) (i : Nat) : E.St := mkSt 63 [(0, .nv (.one (.own 0))), (2, iA x), (4, .nv (.one (.ptr 1 0))), (8, .nv (.one (.own 2))), (9, bA p), (10, iA i)] [enS l, .box 28 [.val (.int .u32 a), .val (.int .i64 n)], enS O]
def prEx (l : List En) (a n x : Int) (O : List En) (p : Bool) : E.St := mkSt 63 [(2, iA x), (4, .nv (.one (.ptr 1 0))), (8, .nv (.one (.own 2))), (9, bA p)] [enS l, .box 28 [.val (.int .u32 a), .val (.int .i64 n)], enS O]
theorem e_eta (e : En) : e = ⟨e.a, e.n, e.x⟩ := rfl
theorem at_app {X : List En} {e : En} {Y : List En} : enF (X ++ e :: Y) X.length = e := enF_get (by rw [List.getElem?_append_right (Nat.le_refl _), Nat.sub_self]; rfl)
theorem len1 {O : List En} {e : En} : (O ++ [e]).length = O.length + 1 := by simp
theorem len2 {O : List En} {e f : En} : (O ++ [e] ++ [f]).length = O.length + 2 := by simp
section
variable {a n x : Int} (ha : 0 ≤ a ∧ a ≤ 4294967295)
include ha
theorem pr_loopT : ∀ (Y X O : List En), (X ++ Y).length ≤ 4096 → O.length ≤ X.length + 1 → LoopOk Try.prog 1 (loopOf Try.f13 0) (prSt (X ++ Y) a n x O true X.length) (.exit 0) (prEx (X ++ Y) a n x (O ++ Y) true)
  | [], X, O, h, hO => by
    have h' : X.length ≤ 4096 := by simpa using h
    rw [List.append_nil, List.append_nil]
    exact LoopOk.last (by simp) (pr_xt X.length (enF X) h' a n x O.length (enF O))
  | e :: Y, X, O, h, hO => by
    simp only [List.length_append, List.length_cons] at h
    have k := pr_loopT Y (X ++ [e]) (O ++ [e]) (by simp; omega) (by simp; omega)
    have e1 : X ++ [e] ++ Y = X ++ e :: Y := by simp
    have e2 : O ++ [e] ++ Y = O ++ e :: Y := by simp
    rw [e1, e2] at k
    have hl : (X ++ e :: Y).length ≤ 4096 := by simp; omega
    refine LoopOk.step ?_ k
    have := pr_3 (X ++ e :: Y).length (enF (X ++ e :: Y)) hl a n x ha.1 ha.2 X.length O.length (by simp) (by omega) (enF O) (enF O) (enF (O ++ [e])) (fun j hj => enF_app1 hj) (by rw [at_app (X := X) (Y := Y)]; exact (enF_app2 (i := 0)))
    unfold prSt enS
    rw [len1, len1]
    exact this
theorem pr_loop : ∀ (Y X O : List En), (X ++ Y).length ≤ 4096 → O.length = X.length → LoopOk Try.prog 1 (loopOf Try.f13 0) (prSt (X ++ Y) a n x O false X.length) (.exit 0) (prEx (X ++ Y) a n x (O ++ (if anyE a n Y = true then insE a n x Y else Y)) (anyE a n Y))
  | [], X, O, h, hO => by
    have h' : X.length ≤ 4096 := by simpa using h
    rw [anyE, if_neg (by simp), List.append_nil, List.append_nil]
    exact LoopOk.last (by simp) (pr_xf X.length (enF X) h' a n x O.length (enF O))
  | e :: Y, X, O, h, hO => by
    simp only [List.length_append, List.length_cons] at h
    have hl : (X ++ e :: Y).length ≤ 4096 := by simp; omega
    have e1 : X ++ [e] ++ Y = X ++ e :: Y := by simp
    cases hq : ahB a n e.a e.n with
    | true =>
      have k := pr_loopT (x := x) (n := n) ha Y (X ++ [e]) (O ++ [⟨a, n, x⟩] ++ [e]) (by simp; omega) (by simp; omega)
      have e2 : O ++ [⟨a, n, x⟩] ++ [e] ++ Y = O ++ (⟨a, n, x⟩ :: e :: Y) := by simp
      rw [e1, e2] at k
      rw [anyE, hq, Bool.true_or, if_pos rfl, insE, if_pos hq]
      refine LoopOk.step ?_ k
      have := pr_1 (X ++ e :: Y).length (enF (X ++ e :: Y)) hl a n x ha.1 ha.2 X.length O.length (by simp) (by omega) (enF O) (enF (O ++ [⟨a, n, x⟩])) (enF (O ++ [⟨a, n, x⟩] ++ [e])) (by rw [at_app]; exact hq) (fun j hj => enF_app1 hj) (enF_app2 (i := 0)) (fun j hj => enF_app1 (by rw [len1]; exact hj)) (by rw [at_app]; have := enF_app2 (l := O ++ [⟨a, n, x⟩]) (m := [e]) (i := 0); rw [len1, Nat.add_zero] at this; exact this)
      unfold prSt enS
      rw [len1, len2]
      exact this
    | false =>
      have k := pr_loop Y (X ++ [e]) (O ++ [e]) (by simp; omega) (by simp; omega)
      rw [e1] at k
      rw [anyE, hq, Bool.false_or, insE, hq]
      have e2 : O ++ [e] ++ (if anyE a n Y = true then insE a n x Y else Y) = O ++ (if anyE a n Y = true then (if false = true then ⟨a, n, x⟩ :: e :: Y else e :: insE a n x Y) else e :: Y) := by
        cases anyE a n Y <;> simp
      rw [e2] at k
      refine LoopOk.step ?_ k
      have := pr_2 (X ++ e :: Y).length (enF (X ++ e :: Y)) hl a n x ha.1 ha.2 X.length O.length (by simp) (by omega) (enF O) (enF O) (enF (O ++ [e])) (by rw [at_app]; exact hq) (fun j hj => enF_app1 hj) (by rw [at_app (X := X) (Y := Y)]; exact (enF_app2 (i := 0)))
      unfold prSt enS
      rw [len1, len1]
      exact this
end
structure PuE where
  l : List En
  e : Int
def atE (a n : Int) (l : List En) : Int := atK (enF l) a n l.length 0
/-- The document's Put. -/
def puE (a n x : Int) (l : List En) : PuE := if rgt a n = false then ⟨l, 6⟩ else if atE a n l ≥ 0 then ⟨l, 8⟩ else if l.length ≥ 4096 then ⟨l, 20⟩ else ⟨insE a n x l, 0⟩
theorem fnPut32 {a n x : Int} (ha : 0 ≤ a ∧ a ≤ 4294967295) {l : List En} (hl : l.length ≤ 4096) : FnOk Try.prog 13 [.nv (.one (.own 0)), .nv (.agg [.val (.int .u32 a), .val (.int .i64 n)]), iA x] [enS l] (.tup [.one (.own 1), .one (.val (.int .i64 (puE a n x l).e))]) [.gone, enS (puE a n x l).l] := by
  unfold puE
  cases hr : rgt a n with
  | false => rw [if_pos rfl]; exact pr_w l.length (enF l) hl a n x ha.1 ha.2 hr
  | true =>
    rw [if_neg (by simp)]
    by_cases hg : atE a n l ≥ 0
    · rw [if_pos hg]; exact pr_t l.length (enF l) hl a n x ha.1 ha.2 hr hg
    · rw [if_neg hg]
      by_cases hf : l.length ≥ 4096
      · rw [if_pos hf]; exact pr_full l.length (enF l) hl a n x ha.1 ha.2 hr hg (by omega)
      · rw [if_neg hf]
        have hlp := (pr_loop (a := a) (n := n) (x := x) ha l [] [] (by simpa using hl) rfl).code
        simp only [List.nil_append] at hlp
        cases hy : anyE a n l with
        | true =>
          rw [hy, if_pos rfl] at hlp
          exact pr_ft l.length (enF l) hl a n x ha.1 ha.2 hr hg (by omega) (insE a n x l).length (by rw [insE_len]; omega) (enF (insE a n x l)) (enF l) (enF []) hlp
        | false =>
          rw [hy, if_neg (by simp)] at hlp
          have := pr_ff l.length (enF l) hl a n x ha.1 ha.2 hr hg (by omega) l.length (by omega) (enF l) (enF (l ++ [⟨a, n, x⟩])) (enF []) (fun j hj => enF_app1 hj) (enF_app2 (i := 0)) hlp
          rw [insE_end hy]
          show FnOk _ _ _ _ _ [.gone, .row tEn 3 (l ++ [(⟨a, n, x⟩ : En)]).length _]
          rw [len1]
          exact this
structure DrE where
  l : List En
  x : Int
  b : Bool
def drE (a n : Int) (l : List En) : DrE := if atE a n l < 0 then ⟨l, 0, false⟩ else ⟨l.eraseIdx (atE a n l).toNat, (enF l (atE a n l).toNat).x, true⟩
theorem atK_lt {L : Nat → En} {a n : Int} : ∀ (k i : Nat), atK L a n k i = -1 ∨ ∃ j : Nat, atK L a n k i = j ∧ i ≤ j ∧ j < i + k
  | 0, i => .inl rfl
  | k + 1, i => by
    rw [atK]
    by_cases h : (L i).a = a ∧ (L i).n = n
    · rw [if_pos h]; exact .inr ⟨i, rfl, Nat.le_refl _, by omega⟩
    · rw [if_neg h]
      rcases atK_lt k (i + 1) with q | ⟨j, q1, q2, q3⟩
      · exact .inl q
      · exact .inr ⟨j, q1, by omega, by omega⟩
theorem fnDrop32 {a n : Int} {l : List En} (hl : l.length ≤ 4096) : FnOk Try.prog 12 [.nv (.one (.own 0)), .nv (.agg [.val (.int .u32 a), .val (.int .i64 n)])] [enS l] (.tup [.one (.own 1), .one (.val (.int .i64 (drE a n l).x)), .one (.val (.bool (drE a n l).b))]) [.gone, enS (drE a n l).l] := by
  unfold drE
  by_cases hg : atE a n l < 0
  · rw [if_pos hg]; exact dp_n l.length (enF l) hl a n hg
  · rw [if_neg hg]
    rcases atK_lt (L := enF l) (a := a) (n := n) l.length 0 with q | ⟨j, q1, q2, q3⟩
    · exact absurd (show atE a n l < 0 by unfold atE; rw [q]; decide) hg
    · have e : atE a n l = j := q1
      rw [e, Int.toNat_natCast]
      have hj : j < l.length := by omega
      have := dp_y (⟨l.length, enF l, a, n, j⟩ : DpN) ⟨hj, hl, q1⟩ (enF (l.eraseIdx j)) (fun i hi => by
        have hi : i < l.length - 1 := hi
        show enF (l.eraseIdx j) i = if i < j then enF l i else enF l (i + 1)
        unfold enF
        rw [List.getD_eq_getElem?_getD, List.getD_eq_getElem?_getD, List.getD_eq_getElem?_getD, List.getElem?_eraseIdx]
        split <;> rfl)
      have e2 : (l.eraseIdx j).length = 0 + j + (l.length - (j + 1)) := by rw [List.length_eraseIdx_of_lt hj]; omega
      show FnOk _ _ _ _ _ [.gone, .row tEn 3 (l.eraseIdx j).length _]
      rw [e2]
      exact this
end Go.Proofs.Ytfienpkogkepkaa

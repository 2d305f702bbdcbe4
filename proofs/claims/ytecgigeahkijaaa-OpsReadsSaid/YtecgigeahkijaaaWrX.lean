/- Runs of Go code, as printed by a program: no condition beyond those that each states. -/
import Derived.Test.YtecgigeahkijaaaWrW
import Derived.Test.YtecgigeahkijaaaChecked
import Derived.KernelRfl
namespace Go.Proofs.Ytecgigeahkijaaa
set_option linter.unusedVariables false
set_option linter.unusedSimpArgs false
set_option maxRecDepth 100000
open Go.RowKit E
set_option maxHeartbeats 2000000 in
theorem rp_n (len i : Nat) (L : Nat → Fl) (s r : ByteArray) (hi : i < len) (hl : len ≤ 1000) (w0 : 0 ≤ (L i).n) (w1 : (L i).n ≤ 18446744073709551615) (ck : ckZ ⟨(L i).k, (L i).n, (L i).s⟩ = 0) (hz : ((s.size + (oneStr ⟨(L i).k, (L i).n, (L i).s⟩).size : Nat) : Int) ≤ IntKind.max IntKind.i64) (er : s ++ oneStr ⟨(L i).k, (L i).n, (L i).s⟩ = r) : CodeOk Try.prog 1 (loopOf Try.f22 0) (mkSt 29 [(0, .nv (.one (.own 0))), (4, sA s), (5, iA i)] [.ro 3 len (gF L)]) .normal (mkSt 29 [(0, .nv (.one (.own 0))), (4, sA r), (5, iA (i + 1 : Nat))] [.ro 3 len (gF L)]) :=
  code_run GbA_ok (orc := ⟨[true, false], []⟩) (obl := [decide ((↑i : Int) < (↑len : Int)) = true,
      (0 : Int) ≤ (↑i : Int),
      (↑i : Int) < (↑len : Int),
      Int.toNat (↑i : Int) < len,
      (0 : Int) ≤ Fl.n (L (Int.toNat (↑i : Int))),
      Fl.n (L (Int.toNat (↑i : Int))) ≤ (18446744073709551615 : Int),
      (ckZ { k := Fl.k (L (Int.toNat (↑i : Int))), n := Fl.n (L (Int.toNat (↑i : Int))), s := Fl.s (L (Int.toNat (↑i : Int))) } != (0 : Int)) = false,
      (↑(ByteArray.size s + ByteArray.size (oneStr { k := Fl.k (L (Int.toNat (↑i : Int))), n := Fl.n (L (Int.toNat (↑i : Int))), s := Fl.s (L (Int.toNat (↑i : Int))) })) : Int) ≤ IntKind.max IntKind.i64,
      s ++ oneStr { k := Fl.k (L (Int.toNat (↑i : Int))), n := Fl.n (L (Int.toNat (↑i : Int))), s := Fl.s (L (Int.toNat (↑i : Int))) } = r,
      IntKind.wrap IntKind.i64 ((↑i : Int) + (1 : Int)) = (↑(i + (1 : Nat)) : Int),
      len = len,
      ∀ (i : Nat), i < len → Fl.k (L i) = Fl.k (L i) ∧ Fl.n (L i) = Fl.n (L i) ∧ Fl.s (L i) = Fl.s (L i) ∧ True]) (by kernel_rfl) (.cons (by exact decide_eq_true (by omega)) (.cons (by omega) (.cons (by omega) (.cons (by assumption) (.cons (by assumption) (.cons (by assumption) (.cons (by exact bne_eq_false_iff_eq.2 ck) (.cons (by assumption) (.cons (by assumption) (.cons (by exact w64 (by omega) (by omega)) (.cons (by rfl) (.cons (by (intro _ _; exact ⟨rfl, rfl, rfl, trivial⟩)) .nil)))))))))))) (Nat.le_of_ble_eq_true (by kernel_rfl))

set_option maxHeartbeats 2000000 in
theorem rp_r (len i : Nat) (c : Int) (L : Nat → Fl) (s : ByteArray) (hi : i < len) (hl : len ≤ 1000) (w0 : 0 ≤ (L i).n) (w1 : (L i).n ≤ 18446744073709551615) (ck : ckZ ⟨(L i).k, (L i).n, (L i).s⟩ = c) (hc : c ≠ 0) : CodeOk Try.prog 1 (loopOf Try.f22 0) (mkSt 29 [(0, .nv (.one (.own 0))), (4, sA s), (5, iA i)] [.ro 3 len (gF L)]) .ret (mkSt 29 [(2, sA ⟨#[]⟩), (3, iA c)] [.ro 3 len (gF L)]) :=
  code_run GbA_ok (orc := ⟨[true, true], []⟩) (obl := [decide ((↑i : Int) < (↑len : Int)) = true,
      (0 : Int) ≤ (↑i : Int),
      (↑i : Int) < (↑len : Int),
      Int.toNat (↑i : Int) < len,
      (0 : Int) ≤ Fl.n (L (Int.toNat (↑i : Int))),
      Fl.n (L (Int.toNat (↑i : Int))) ≤ (18446744073709551615 : Int),
      (ckZ { k := Fl.k (L (Int.toNat (↑i : Int))), n := Fl.n (L (Int.toNat (↑i : Int))), s := Fl.s (L (Int.toNat (↑i : Int))) } != (0 : Int)) = true,
      (ByteArray.mk #[]) = (ByteArray.mk #[]),
      ckZ { k := Fl.k (L (Int.toNat (↑i : Int))), n := Fl.n (L (Int.toNat (↑i : Int))), s := Fl.s (L (Int.toNat (↑i : Int))) } = c,
      len = len,
      ∀ (i : Nat), i < len → Fl.k (L i) = Fl.k (L i) ∧ Fl.n (L i) = Fl.n (L i) ∧ Fl.s (L i) = Fl.s (L i) ∧ True]) (by kernel_rfl) (.cons (by exact decide_eq_true (by omega)) (.cons (by omega) (.cons (by omega) (.cons (by assumption) (.cons (by assumption) (.cons (by assumption) (.cons (by exact bne_iff_ne.2 (by intro e; exact hc (ck.symm.trans e))) (.cons (by rfl) (.cons (by assumption) (.cons (by rfl) (.cons (by (intro _ _; exact ⟨rfl, rfl, rfl, trivial⟩)) .nil))))))))))) (Nat.le_of_ble_eq_true (by kernel_rfl))

set_option maxHeartbeats 2000000 in
theorem rp_e (len : Nat) (L : Nat → Fl) (s : ByteArray) : CodeOk Try.prog 1 (loopOf Try.f22 0) (mkSt 29 [(0, .nv (.one (.own 0))), (4, sA s), (5, iA len)] [.ro 3 len (gF L)]) (.exit 0) (mkSt 29 [(4, sA s)] [.ro 3 len (gF L)]) :=
  code_run GbA_ok (orc := ⟨[false], []⟩) (obl := [decide ((↑len : Int) < (↑len : Int)) = false,
      s = s,
      len = len,
      ∀ (i : Nat), i < len → Fl.k (L i) = Fl.k (L i) ∧ Fl.n (L i) = Fl.n (L i) ∧ Fl.s (L i) = Fl.s (L i) ∧ True]) (by kernel_rfl) (.cons (by exact decide_eq_false (by omega)) (.cons (by rfl) (.cons (by rfl) (.cons (by (intro _ _; exact ⟨rfl, rfl, rfl, trivial⟩)) .nil)))) (Nat.le_of_ble_eq_true (by kernel_rfl))

set_option maxHeartbeats 2000000 in
theorem rp_k (len : Nat) (L : Nat → Fl) (s : ByteArray) (l0 : CodeOk Try.prog 1 (.loop (loopOf Try.f22 0)) (mkSt 29 [(0, .nv (.one (.own 0))), (4, sA ⟨#[]⟩), (5, iA (0 : Nat))] [.ro 3 len (gF L)]) (.exit 0) (mkSt 29 [(4, sA s)] [.ro 3 len (gF L)])) : FnOk Try.prog 22 ([.nv (.one (.own 0))]) ([.ro 3 len (gF L)]) (.tup [.one (.val (.string s)), .one (.val (.int .i64 0))]) ([.ro 3 len (gF L)]) :=
  fn_run GbA_ok Try.func22 (orc := ⟨[], [⟨mkSt 29 [(0, .nv (.one (.own 0))), (4, sA ⟨#[]⟩), (5, iA (0 : Nat))] [.ro 3 len (gF L)], .exit 0, mkSt 29 [(4, sA s)] [.ro 3 len (gF L)]⟩]⟩) (obl := [(ByteArray.mk #[]) = (ByteArray.mk #[]),
      (0 : Int) = (↑(0 : Nat) : Int),
      len = len,
      ∀ (i : Nat), i < len → Fl.k (L i) = Fl.k (L i) ∧ Fl.n (L i) = Fl.n (L i) ∧ Fl.s (L i) = Fl.s (L i) ∧ True,
      (1 : Nat) ≤ (1 : Nat),
      CodeOk Try.prog (1 : Nat) (Code.loop (loopOf Try.f22 (0 : Nat))) (mkSt (29 : Nat) [((0 : Nat), SV.nv (NV.one (At.own (0 : Nat)))), ((4 : Nat), sA (ByteArray.mk #[])), ((5 : Nat), iA (↑(0 : Nat) : Int))] [Seg.ro (3 : Nat) len (gF L)]) (Ex.exit (0 : Nat)) (mkSt (29 : Nat) [((4 : Nat), sA s)] [Seg.ro (3 : Nat) len (gF L)]),
      s = s,
      (0 : Int) = (0 : Int),
      len = len,
      ∀ (i : Nat), i < len → Fl.k (L i) = Fl.k (L i) ∧ Fl.n (L i) = Fl.n (L i) ∧ Fl.s (L i) = Fl.s (L i) ∧ True]) (by kernel_rfl) (.cons (by rfl) (.cons (by rfl) (.cons (by rfl) (.cons (by (intro _ _; exact ⟨rfl, rfl, rfl, trivial⟩)) (.cons (by trivial) (.cons (by assumption) (.cons (by rfl) (.cons (by rfl) (.cons (by rfl) (.cons (by (intro _ _; exact ⟨rfl, rfl, rfl, trivial⟩)) .nil)))))))))) (Nat.le_of_ble_eq_true (by kernel_rfl))

set_option maxHeartbeats 2000000 in
theorem rp_x (len : Nat) (c : Int) (L : Nat → Fl) (l0 : CodeOk Try.prog 1 (.loop (loopOf Try.f22 0)) (mkSt 29 [(0, .nv (.one (.own 0))), (4, sA ⟨#[]⟩), (5, iA (0 : Nat))] [.ro 3 len (gF L)]) .ret (mkSt 29 [(2, sA ⟨#[]⟩), (3, iA c)] [.ro 3 len (gF L)])) : FnOk Try.prog 22 ([.nv (.one (.own 0))]) ([.ro 3 len (gF L)]) (.tup [.one (.val (.string ⟨#[]⟩)), .one (.val (.int .i64 c))]) ([.ro 3 len (gF L)]) :=
  fn_run GbA_ok Try.func22 (orc := ⟨[], [⟨mkSt 29 [(0, .nv (.one (.own 0))), (4, sA ⟨#[]⟩), (5, iA (0 : Nat))] [.ro 3 len (gF L)], .ret, mkSt 29 [(2, sA ⟨#[]⟩), (3, iA c)] [.ro 3 len (gF L)]⟩]⟩) (obl := [(ByteArray.mk #[]) = (ByteArray.mk #[]),
      (0 : Int) = (↑(0 : Nat) : Int),
      len = len,
      ∀ (i : Nat), i < len → Fl.k (L i) = Fl.k (L i) ∧ Fl.n (L i) = Fl.n (L i) ∧ Fl.s (L i) = Fl.s (L i) ∧ True,
      (1 : Nat) ≤ (1 : Nat),
      CodeOk Try.prog (1 : Nat) (Code.loop (loopOf Try.f22 (0 : Nat))) (mkSt (29 : Nat) [((0 : Nat), SV.nv (NV.one (At.own (0 : Nat)))), ((4 : Nat), sA (ByteArray.mk #[])), ((5 : Nat), iA (↑(0 : Nat) : Int))] [Seg.ro (3 : Nat) len (gF L)]) Ex.ret (mkSt (29 : Nat) [((2 : Nat), sA (ByteArray.mk #[])), ((3 : Nat), iA c)] [Seg.ro (3 : Nat) len (gF L)]),
      (ByteArray.mk #[]) = (ByteArray.mk #[]),
      c = c,
      len = len,
      ∀ (i : Nat), i < len → Fl.k (L i) = Fl.k (L i) ∧ Fl.n (L i) = Fl.n (L i) ∧ Fl.s (L i) = Fl.s (L i) ∧ True]) (by kernel_rfl) (.cons (by rfl) (.cons (by rfl) (.cons (by rfl) (.cons (by (intro _ _; exact ⟨rfl, rfl, rfl, trivial⟩)) (.cons (by trivial) (.cons (by assumption) (.cons (by rfl) (.cons (by rfl) (.cons (by rfl) (.cons (by (intro _ _; exact ⟨rfl, rfl, rfl, trivial⟩)) .nil)))))))))) (Nat.le_of_ble_eq_true (by kernel_rfl))

end Go.Proofs.Ytecgigeahkijaaa

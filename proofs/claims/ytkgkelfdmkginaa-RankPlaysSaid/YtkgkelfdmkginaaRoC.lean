/- Runs of Go code, as printed by a program: no condition beyond those that each states. -/
import Derived.Test.YtkgkelfdmkginaaRoB
import Derived.Test.YtkgkelfdmkginaaChecked
import Derived.KernelRfl
namespace Go.Proofs.Ytkgkelfdmkginaa
set_option linter.unusedVariables false
set_option linter.unusedSimpArgs false
set_option maxRecDepth 100000
open Go.RowKit E
attribute [local irreducible] nextT nextR nextE layT layV layE idx chkR
set_option maxHeartbeats 2000000 in
theorem rp_ll (k : Int) (n len : Nat) (F : Fl) (A : Ac) (h : 100 < n) : LawOk Try.prog 5 ([iA k, .nv (.one (.own 0)), .nv (.one (.own 1))]) ([.ro 5 n (gFl F), .ro 5 len (gAc A)]) (bA true) :=
  law_run Glk_ok Try.func5 (orc := ⟨[true, true], []⟩) (obl := [decide ((↑n : Int) > (100 : Int)) = true,
      true = true,
      true = true]) (by kernel_rfl) (.cons (by exact decide_eq_true (by omega)) (.cons (by rfl) (.cons (by rfl) .nil)))

set_option maxHeartbeats 2000000 in
theorem rp_ll2 (k : Int) (n len : Nat) (F : Fl) (A : Ac) (h : n ≤ 100) (h2 : 200 < len) : LawOk Try.prog 5 ([iA k, .nv (.one (.own 0)), .nv (.one (.own 1))]) ([.ro 5 n (gFl F), .ro 5 len (gAc A)]) (bA true) :=
  law_run Glk_ok Try.func5 (orc := ⟨[false, true], []⟩) (obl := [decide ((↑n : Int) > (100 : Int)) = false,
      decide ((↑len : Int) > (200 : Int)) = true,
      true = true]) (by kernel_rfl) (.cons (by exact decide_eq_false (by omega)) (.cons (by exact decide_eq_true (by omega)) (.cons (by rfl) .nil)))

set_option maxHeartbeats 2000000 in
theorem rp_x (k : Int) (n len : Nat) (F : Fl) (A : Ac) (h : n ≤ 100) (h2 : len ≤ 200) (he : chkR k n F ≠ 0) : LawOk Try.prog 5 ([iA k, .nv (.one (.own 0)), .nv (.one (.own 1))]) ([.ro 5 n (gFl F), .ro 5 len (gAc A)]) (bA true) :=
  law_run Gle_ok Try.func5 (orc := ⟨[false, false, false, false, true], []⟩) (obl := [decide ((↑n : Int) > (100 : Int)) = false,
      decide ((↑len : Int) > (200 : Int)) = false,
      chkR k n F ≠ (0 : Int),
      k = k,
      n = n,
      ∀ (i : Nat), i < n → Fl.id F i = Fl.id F i ∧ Fl.co F i = Fl.co F i ∧ Fl.bu F i = Fl.bu F i ∧ Fl.si F i = Fl.si F i ∧ Fl.ca F i = Fl.ca F i ∧ True,
      k = k,
      n = n,
      ∀ (i : Nat), i < n → Fl.id F i = Fl.id F i ∧ Fl.co F i = Fl.co F i ∧ Fl.bu F i = Fl.bu F i ∧ Fl.si F i = Fl.si F i ∧ Fl.ca F i = Fl.ca F i ∧ True,
      (chkR k n F != chkR k n F) = false,
      (!false == (chkR k n F == (0 : Int))) = false,
      (chkR k n F != (0 : Int)) = true,
      true = true]) (by kernel_rfl) (.cons (by exact decide_eq_false (by omega)) (.cons (by exact decide_eq_false (by omega)) (.cons (by assumption) (.cons (by rfl) (.cons (by rfl) (.cons (by (simp; done)) (.cons (by rfl) (.cons (by rfl) (.cons (by (simp; done)) (.cons (by exact bne_self_eq_false _) (.cons (by (rw [beq_eq_false_iff_ne.2 he]; rfl)) (.cons (by exact bne_iff_ne.2 he) (.cons (by rfl) .nil)))))))))))))

set_option maxHeartbeats 2000000 in
theorem rp_fW (w0 : World) (k : Int) (n len : Nat) (F : Fl) (A : Ac) (h0 : n ≤ 64) (h2 : len ≤ 200) (he : chkR k n F = 0) (h1 : 1 ≤ n) (k1 : 1 ≤ k) (k3 : k ≤ 3) (hd : dup F.id n = false) (l : CodeOkW Try.prog w0 2 (.loop (loopOf Try.f5 0)) (mkSt 139 [(7, .nv (.one (.ptr 2 0))), (10, .nv (.one (.ptr 5 0))), (11, uA 0), (52, .nv (.one (.own 1))), (53, iA len), (54, iA 0)] [.ro 5 n (gFl F), .ro 5 len (gAc A), .box 60 [.val (.int .i64 k), .own 3, .own 4, .val (.int .u64 0)], .row 56 5 n (gFl F), .row 31 1 n (gU64 (tag0 k F)), .box 50 [.val (.int .i64 k), .own 0, .own 6, .val (.int .u64 0)], .row 31 1 n (gU64 (tag0 k F))]) (.exit 0) (mkSt 139 [] [.ro 5 n (gFl F), .ro 5 len (gAc A)])) : LawOkW Try.prog w0 5 ([iA k, .nv (.one (.own 0)), .nv (.one (.own 1))]) ([.ro 5 n (gFl F), .ro 5 len (gAc A)]) (bA true) :=
  law_runW Glo_ok Try.func5 (orc := ⟨[false, false, false, false, false], [⟨mkSt 139 [(7, .nv (.one (.ptr 2 0))), (10, .nv (.one (.ptr 5 0))), (11, uA 0), (52, .nv (.one (.own 1))), (53, iA len), (54, iA 0)] [.ro 5 n (gFl F), .ro 5 len (gAc A), .box 60 [.val (.int .i64 k), .own 3, .own 4, .val (.int .u64 0)], .row 56 5 n (gFl F), .row 31 1 n (gU64 (tag0 k F)), .box 50 [.val (.int .i64 k), .own 0, .own 6, .val (.int .u64 0)], .row 31 1 n (gU64 (tag0 k F))], .exit 0, mkSt 139 [] [.ro 5 n (gFl F), .ro 5 len (gAc A)]⟩]⟩) (obl := [decide ((↑n : Int) > (100 : Int)) = false,
      decide ((↑len : Int) > (200 : Int)) = false,
      (1 : Int) ≤ k,
      k ≤ (3 : Int),
      (1 : Nat) ≤ n,
      n ≤ (64 : Nat),
      dup (Fl.id F) n = false,
      k = k,
      n = n,
      ∀ (i : Nat), i < n → Fl.id F i = Fl.id F i ∧ Fl.co F i = Fl.co F i ∧ Fl.bu F i = Fl.bu F i ∧ Fl.si F i = Fl.si F i ∧ Fl.ca F i = Fl.ca F i ∧ True,
      ∀ (i : Nat), i < n → (true && (true && (true && (true && (true && true))))) = true,
      ∀ (i : Nat), i < n → (true && true) = true,
      k = k,
      n = n,
      ∀ (i : Nat), i < n → Fl.id F i = Fl.id F i ∧ Fl.co F i = Fl.co F i ∧ Fl.bu F i = Fl.bu F i ∧ Fl.si F i = Fl.si F i ∧ Fl.ca F i = Fl.ca F i ∧ True,
      ((0 : Int) != chkR k n F) = false,
      (!true == (chkR k n F == (0 : Int))) = false,
      (chkR k n F != (0 : Int)) = false,
      n ≤ (64 : Nat),
      k = k,
      n = n,
      ∀ (i : Nat), i < n → Fl.id F i = Fl.id F i ∧ Fl.co F i = Fl.co F i ∧ Fl.bu F i = Fl.bu F i ∧ Fl.si F i = Fl.si F i ∧ Fl.ca F i = Fl.ca F i ∧ True,
      ∀ (i : Nat), i < n → (true && true) = true,
      (0 : Nat) = (0 : Nat),
      (0 : Nat) = (0 : Nat),
      (0 : Int) = (0 : Int),
      (↑len : Int) = (↑len : Int),
      (0 : Int) = (0 : Int),
      n = n,
      ∀ (i : Nat), i < n → Fl.id F i = Fl.id F i ∧ Fl.co F i = Fl.co F i ∧ Fl.bu F i = Fl.bu F i ∧ Fl.si F i = Fl.si F i ∧ Fl.ca F i = Fl.ca F i ∧ True,
      len = len,
      ∀ (i : Nat), i < len → Ac.kd A i = Ac.kd A i ∧ Ac.id A i = Ac.id A i ∧ Ac.sz A i = Ac.sz A i ∧ Ac.la A i = Ac.la A i ∧ Value.slice (Ac.ta A i) (Ac.tl A i) (Ac.tc A i) = Value.slice (Ac.ta A i) (Ac.tl A i) (Ac.tc A i) ∧ True,
      k = k,
      (0 : Int) = (0 : Int),
      n = n,
      ∀ (i : Nat), i < n → Fl.id F i = Fl.id F i ∧ Fl.co F i = Fl.co F i ∧ Fl.bu F i = Fl.bu F i ∧ Fl.si F i = Fl.si F i ∧ Fl.ca F i = Fl.ca F i ∧ True,
      n = n,
      ∀ (i : Nat), i < n → tag0 k F i = tag0 k F i ∧ True,
      k = k,
      (0 : Int) = (0 : Int),
      n = n,
      ∀ (i : Nat), i < n → tag0 k F i = tag0 k F i ∧ True,
      (2 : Nat) ≤ (7 : Nat),
      CodeOkW Try.prog w0 (2 : Nat) (Code.loop (loopOf Try.f5 (0 : Nat))) (mkSt (139 : Nat) [((7 : Nat), SV.nv (NV.one (At.ptr (2 : Nat) (0 : Nat)))), ((10 : Nat), SV.nv (NV.one (At.ptr (5 : Nat) (0 : Nat)))), ((11 : Nat), uA (0 : Int)), ((52 : Nat), SV.nv (NV.one (At.own (1 : Nat)))), ((53 : Nat), iA (↑len : Int)), ((54 : Nat), iA (0 : Int))] [Seg.ro (5 : Nat) n (gFl F), Seg.ro (5 : Nat) len (gAc A), Seg.box (60 : TypeId) [At.val (Value.int IntKind.i64 k), At.own (3 : Nat), At.own (4 : Nat), At.val (Value.int IntKind.u64 (0 : Int))], Seg.row (56 : TypeId) (5 : Nat) n (gFl F), Seg.row (31 : TypeId) (1 : Nat) n (gU64 (tag0 k F)), Seg.box (50 : TypeId) [At.val (Value.int IntKind.i64 k), At.own (0 : Nat), At.own (6 : Nat), At.val (Value.int IntKind.u64 (0 : Int))], Seg.row (31 : TypeId) (1 : Nat) n (gU64 (tag0 k F))]) (Ex.exit (0 : Nat)) (mkSt (139 : Nat) [] [Seg.ro (5 : Nat) n (gFl F), Seg.ro (5 : Nat) len (gAc A)]),
      true = true]) (by kernel_rfl) (.cons (by exact decide_eq_false (by omega)) (.cons (by exact decide_eq_false (by omega)) (.cons (by assumption) (.cons (by assumption) (.cons (by assumption) (.cons (by assumption) (.cons (by assumption) (.cons (by rfl) (.cons (by rfl) (.cons (by (simp; done)) (.cons (by (intro _ _; rfl)) (.cons (by (intro _ _; rfl)) (.cons (by rfl) (.cons (by rfl) (.cons (by (simp; done)) (.cons (by exact bne_eq_false_iff_eq.2 (by omega)) (.cons (by (rw [beq_iff_eq.2 he]; rfl)) (.cons (by exact bne_eq_false_iff_eq.2 (by omega)) (.cons (by assumption) (.cons (by rfl) (.cons (by rfl) (.cons (by (simp; done)) (.cons (by (intro _ _; rfl)) (.cons (by rfl) (.cons (by rfl) (.cons (by rfl) (.cons (by rfl) (.cons (by rfl) (.cons (by rfl) (.cons (by (simp; done)) (.cons (by rfl) (.cons (by (simp; done)) (.cons (by rfl) (.cons (by rfl) (.cons (by rfl) (.cons (by (simp; done)) (.cons (by rfl) (.cons (by (intro _ _; exact ⟨rfl, trivial⟩)) (.cons (by rfl) (.cons (by rfl) (.cons (by rfl) (.cons (by (intro _ _; exact ⟨rfl, trivial⟩)) (.cons (by trivial) (.cons (by assumption) (.cons (by rfl) .nil)))))))))))))))))))))))))))))))))))))))))))))
end Go.Proofs.Ytkgkelfdmkginaa

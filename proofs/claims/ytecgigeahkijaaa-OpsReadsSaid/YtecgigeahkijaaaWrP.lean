/- Runs of Go code, as printed by a program: no condition beyond those that each states. -/
import Derived.Test.YtecgigeahkijaaaWrO
import Derived.Test.YtecgigeahkijaaaChecked
import Derived.KernelRfl
namespace Go.Proofs.Ytecgigeahkijaaa
set_option linter.unusedVariables false
set_option linter.unusedSimpArgs false
set_option maxRecDepth 100000
open Go.RowKit E
set_option maxHeartbeats 2000000 in
theorem pu_n (len i n N : Nat) (L : Nat → Fl) (F H : Nat → Int) (hi : i < len) (hl : len ≤ 1000) (w0 : 0 ≤ (L i).n) (w1 : (L i).n ≤ 18446744073709551615) (ck : ckZ ⟨(L i).k, (L i).n, (L i).s⟩ = 0) (hs : (L i).s.size ≤ 65535) (hw : widthZ (L i).k ≠ 0 ∨ (L i).k = 5 ∨ (L i).k = 6) (hn : n + 65546 ≤ 140737488355328) (e3 : n + (putL (L i)).length = N) (e4 : ∀ j, j < n + (putL (L i)).length → catF n F (putL (L i)) j = H j) : CodeOk Try.prog 1 (loopOf Try.f18 0) (puS len L i n F) .normal (puS len L (i + 1) N H) :=
  code_run Gb7_ok (orc := ⟨[true, false], []⟩) (obl := [decide ((↑i : Int) < (↑len : Int)) = true,
      (0 : Int) ≤ (↑i : Int),
      (↑i : Int) < (↑len : Int),
      Int.toNat (↑i : Int) < len,
      (0 : Int) ≤ Fl.n (L (Int.toNat (↑i : Int))),
      Fl.n (L (Int.toNat (↑i : Int))) ≤ (18446744073709551615 : Int),
      (ckZ { k := Fl.k (L (Int.toNat (↑i : Int))), n := Fl.n (L (Int.toNat (↑i : Int))), s := Fl.s (L (Int.toNat (↑i : Int))) } != (0 : Int)) = false,
      (0 : Int) ≤ Fl.n (L (Int.toNat (↑i : Int))),
      Fl.n (L (Int.toNat (↑i : Int))) ≤ (18446744073709551615 : Int),
      ByteArray.size (Fl.s (L (Int.toNat (↑i : Int)))) ≤ (65535 : Nat),
      widthZ (Fl.k (L (Int.toNat (↑i : Int)))) ≠ (0 : Int) ∨ Fl.k (L (Int.toNat (↑i : Int))) = (5 : Int) ∨ Fl.k (L (Int.toNat (↑i : Int))) = (6 : Int),
      n + (65546 : Nat) ≤ (140737488355328 : Nat),
      (0 : Nat) = (0 : Nat),
      Fl.k (L (Int.toNat (↑i : Int))) = Fl.k (L (Int.toNat (↑i : Int))),
      Fl.n (L (Int.toNat (↑i : Int))) = Fl.n (L (Int.toNat (↑i : Int))),
      Fl.s (L (Int.toNat (↑i : Int))) = Fl.s (L (Int.toNat (↑i : Int))),
      n = n,
      ∀ (i : Nat), i < n → F i = F i ∧ True,
      ∀ (i_1 : Nat), i_1 < n + List.length (putL { k := Fl.k (L (Int.toNat (↑i : Int))), n := Fl.n (L (Int.toNat (↑i : Int))), s := Fl.s (L (Int.toNat (↑i : Int))) }) → (true && true) = true,
      (0 : Nat) = (0 : Nat),
      (↑len : Int) = (↑len : Int),
      IntKind.wrap IntKind.i64 ((↑i : Int) + (1 : Int)) = (↑(i + (1 : Nat)) : Int),
      len = len,
      ∀ (i : Nat), i < len → Fl.k (L i) = Fl.k (L i) ∧ Fl.n (L i) = Fl.n (L i) ∧ Fl.s (L i) = Fl.s (L i) ∧ True,
      n + List.length (putL { k := Fl.k (L (Int.toNat (↑i : Int))), n := Fl.n (L (Int.toNat (↑i : Int))), s := Fl.s (L (Int.toNat (↑i : Int))) }) = N,
      ∀ (i_1 : Nat), i_1 < n + List.length (putL { k := Fl.k (L (Int.toNat (↑i : Int))), n := Fl.n (L (Int.toNat (↑i : Int))), s := Fl.s (L (Int.toNat (↑i : Int))) }) → catF n (fun (k : Nat) => F k) (putL { k := Fl.k (L (Int.toNat (↑i : Int))), n := Fl.n (L (Int.toNat (↑i : Int))), s := Fl.s (L (Int.toNat (↑i : Int))) }) i_1 = H i_1 ∧ True]) (by kernel_rfl) (.cons (by exact decide_eq_true (show (i : Int) < len by omega)) (.cons (by omega) (.cons (by omega) (.cons (by assumption) (.cons (by assumption) (.cons (by assumption) (.cons (by exact bne_eq_false_iff_eq.2 ck) (.cons (by assumption) (.cons (by assumption) (.cons (by assumption) (.cons (by assumption) (.cons (by assumption) (.cons (by rfl) (.cons (by rfl) (.cons (by rfl) (.cons (by rfl) (.cons (by rfl) (.cons (by (intro _ _; exact ⟨rfl, trivial⟩)) (.cons (by (intro _ _; rfl)) (.cons (by rfl) (.cons (by rfl) (.cons (by exact w64 (by omega) (by omega)) (.cons (by rfl) (.cons (by (intro _ _; exact ⟨rfl, rfl, rfl, trivial⟩)) (.cons (by assumption) (.cons (by (intro j hj; exact ⟨e4 j hj, trivial⟩)) .nil)))))))))))))))))))))))))) (Nat.le_of_ble_eq_true (by kernel_rfl))

set_option maxHeartbeats 2000000 in
theorem pu_r (len i n : Nat) (c : Int) (L : Nat → Fl) (F : Nat → Int) (hi : i < len) (hl : len ≤ 1000) (w0 : 0 ≤ (L i).n) (w1 : (L i).n ≤ 18446744073709551615) (ck : ckZ ⟨(L i).k, (L i).n, (L i).s⟩ = c) (hc : c ≠ 0) : CodeOk Try.prog 1 (loopOf Try.f18 0) (puS len L i n F) .ret (puX len L c) :=
  code_run Gb7_ok (orc := ⟨[true, true], []⟩) (obl := [decide ((↑i : Int) < (↑len : Int)) = true,
      (0 : Int) ≤ (↑i : Int),
      (↑i : Int) < (↑len : Int),
      Int.toNat (↑i : Int) < len,
      (0 : Int) ≤ Fl.n (L (Int.toNat (↑i : Int))),
      Fl.n (L (Int.toNat (↑i : Int))) ≤ (18446744073709551615 : Int),
      (ckZ { k := Fl.k (L (Int.toNat (↑i : Int))), n := Fl.n (L (Int.toNat (↑i : Int))), s := Fl.s (L (Int.toNat (↑i : Int))) } != (0 : Int)) = true,
      (ByteArray.mk #[]) = (ByteArray.mk #[]),
      ckZ { k := Fl.k (L (Int.toNat (↑i : Int))), n := Fl.n (L (Int.toNat (↑i : Int))), s := Fl.s (L (Int.toNat (↑i : Int))) } = c,
      len = len,
      ∀ (i : Nat), i < len → Fl.k (L i) = Fl.k (L i) ∧ Fl.n (L i) = Fl.n (L i) ∧ Fl.s (L i) = Fl.s (L i) ∧ True]) (by kernel_rfl) (.cons (by exact decide_eq_true (show (i : Int) < len by omega)) (.cons (by omega) (.cons (by omega) (.cons (by assumption) (.cons (by assumption) (.cons (by assumption) (.cons (by exact bne_iff_ne.2 (by intro e; exact hc (ck.symm.trans e))) (.cons (by rfl) (.cons (by assumption) (.cons (by rfl) (.cons (by (intro _ _; exact ⟨rfl, rfl, rfl, trivial⟩)) .nil))))))))))) (Nat.le_of_ble_eq_true (by kernel_rfl))

set_option maxHeartbeats 2000000 in
theorem pu_e (len n : Nat) (L : Nat → Fl) (F : Nat → Int) : CodeOk Try.prog 1 (loopOf Try.f18 0) (puS len L len n F) (.exit 0) (puE len L n F) :=
  code_run Gb7_ok (orc := ⟨[false], []⟩) (obl := [decide ((↑len : Int) < (↑len : Int)) = false,
      (0 : Nat) = (0 : Nat),
      len = len,
      ∀ (i : Nat), i < len → Fl.k (L i) = Fl.k (L i) ∧ Fl.n (L i) = Fl.n (L i) ∧ Fl.s (L i) = Fl.s (L i) ∧ True,
      n = n,
      ∀ (i : Nat), i < n → F i = F i ∧ True]) (by kernel_rfl) (.cons (by exact decide_eq_false (by omega)) (.cons (by rfl) (.cons (by rfl) (.cons (by (intro _ _; exact ⟨rfl, rfl, rfl, trivial⟩)) (.cons (by rfl) (.cons (by (intro _ _; exact ⟨rfl, trivial⟩)) .nil)))))) (Nat.le_of_ble_eq_true (by kernel_rfl))

set_option maxHeartbeats 2000000 in
theorem pu_k (len n : Nat) (L : Nat → Fl) (F0 F : Nat → Int) (h0 : 0 < n) (hR : byteR n F) (l0 : CodeOk Try.prog 1 (.loop (loopOf Try.f18 0)) (puS len L 0 0 F0) (.exit 0) (puE len L n F)) : FnOk Try.prog 18 ([.nv (.one (.own 0))]) ([.ro 3 len (gF L)]) (.tup [.one (.val (.string (bstr n F))), .one (.val (.int .i64 0))]) ([.ro 3 len (gF L)]) :=
  fn_run Gb7_ok Try.func18 (orc := ⟨[], [⟨puS len L 0 0 F0, .exit 0, puE len L n F⟩]⟩) (obl := [(0 : Nat) = (0 : Nat),
      (↑len : Int) = (↑len : Int),
      (0 : Int) = (↑(0 : Nat) : Int),
      len = len,
      ∀ (i : Nat), i < len → Fl.k (L i) = Fl.k (L i) ∧ Fl.n (L i) = Fl.n (L i) ∧ Fl.s (L i) = Fl.s (L i) ∧ True,
      (0 : Nat) = (0 : Nat),
      (1 : Nat) ≤ (3 : Nat),
      CodeOk Try.prog (1 : Nat) (Code.loop (loopOf Try.f18 (0 : Nat))) (puS len L (0 : Nat) (0 : Nat) F0) (Ex.exit (0 : Nat)) (puE len L n F),
      (0 : Nat) < n,
      byteR n fun (k : Nat) => F k,
      (0 : Nat) = (0 : Nat),
      n = n,
      ∀ (i : Nat), i < n → F i = F i ∧ True,
      (bstr n fun (k : Nat) => F k) = bstr n F,
      (0 : Int) = (0 : Int),
      len = len,
      ∀ (i : Nat), i < len → Fl.k (L i) = Fl.k (L i) ∧ Fl.n (L i) = Fl.n (L i) ∧ Fl.s (L i) = Fl.s (L i) ∧ True]) (by kernel_rfl) (.cons (by rfl) (.cons (by rfl) (.cons (by rfl) (.cons (by rfl) (.cons (by (intro _ _; exact ⟨rfl, rfl, rfl, trivial⟩)) (.cons (by rfl) (.cons (by trivial) (.cons (by assumption) (.cons (by assumption) (.cons (by assumption) (.cons (by rfl) (.cons (by rfl) (.cons (by (intro _ _; exact ⟨rfl, trivial⟩)) (.cons (by rfl) (.cons (by rfl) (.cons (by rfl) (.cons (by (intro _ _; exact ⟨rfl, rfl, rfl, trivial⟩)) .nil))))))))))))))))) (Nat.le_of_ble_eq_true (by kernel_rfl))

set_option maxHeartbeats 2000000 in
theorem pu_x (len : Nat) (c : Int) (L : Nat → Fl) (F0 : Nat → Int) (l0 : CodeOk Try.prog 1 (.loop (loopOf Try.f18 0)) (puS len L 0 0 F0) .ret (puX len L c)) : FnOk Try.prog 18 ([.nv (.one (.own 0))]) ([.ro 3 len (gF L)]) (.tup [.one (.val (.string ⟨#[]⟩)), .one (.val (.int .i64 c))]) ([.ro 3 len (gF L)]) :=
  fn_run Gb7_ok Try.func18 (orc := ⟨[], [⟨puS len L 0 0 F0, .ret, puX len L c⟩]⟩) (obl := [(0 : Nat) = (0 : Nat),
      (↑len : Int) = (↑len : Int),
      (0 : Int) = (↑(0 : Nat) : Int),
      len = len,
      ∀ (i : Nat), i < len → Fl.k (L i) = Fl.k (L i) ∧ Fl.n (L i) = Fl.n (L i) ∧ Fl.s (L i) = Fl.s (L i) ∧ True,
      (0 : Nat) = (0 : Nat),
      (1 : Nat) ≤ (3 : Nat),
      CodeOk Try.prog (1 : Nat) (Code.loop (loopOf Try.f18 (0 : Nat))) (puS len L (0 : Nat) (0 : Nat) F0) Ex.ret (puX len L c),
      (ByteArray.mk #[]) = (ByteArray.mk #[]),
      c = c,
      len = len,
      ∀ (i : Nat), i < len → Fl.k (L i) = Fl.k (L i) ∧ Fl.n (L i) = Fl.n (L i) ∧ Fl.s (L i) = Fl.s (L i) ∧ True]) (by kernel_rfl) (.cons (by rfl) (.cons (by rfl) (.cons (by rfl) (.cons (by rfl) (.cons (by (intro _ _; exact ⟨rfl, rfl, rfl, trivial⟩)) (.cons (by rfl) (.cons (by trivial) (.cons (by assumption) (.cons (by rfl) (.cons (by rfl) (.cons (by rfl) (.cons (by (intro _ _; exact ⟨rfl, rfl, rfl, trivial⟩)) .nil)))))))))))) (Nat.le_of_ble_eq_true (by kernel_rfl))

set_option maxHeartbeats 2000000 in
theorem pu_0 (L : Nat → Fl) : FnOk Try.prog 18 ([.nv (.one (.own 0))]) ([.ro 3 0 (gF L)]) (.tup [.one (.val (.string .empty)), .one (.val (.int .i64 0))]) ([.ro 3 0 (gF L)]) :=
  fn_run Gb7_ok Try.func18 (orc := ⟨[false], [unroll 1]⟩) (obl := [decide ((0 : Int) < (↑(0 : Nat) : Int)) = false,
      (0 : Nat) = (0 : Nat),
      Value.slice none (0 : Nat) (0 : Nat) = Value.slice none (0 : Nat) (0 : Nat),
      ByteArray.empty = ByteArray.empty,
      (0 : Int) = (0 : Int),
      (0 : Nat) = (0 : Nat),
      ∀ (i : Nat), i < (0 : Nat) → Fl.k (L i) = Fl.k (L i) ∧ Fl.n (L i) = Fl.n (L i) ∧ Fl.s (L i) = Fl.s (L i) ∧ True]) (by kernel_rfl) (.cons (by rfl) (.cons (by rfl) (.cons (by rfl) (.cons (by rfl) (.cons (by rfl) (.cons (by rfl) (.cons (by (intro _ _; exact ⟨rfl, rfl, rfl, trivial⟩)) .nil))))))) (Nat.le_of_ble_eq_true (by kernel_rfl))
end Go.Proofs.Ytecgigeahkijaaa

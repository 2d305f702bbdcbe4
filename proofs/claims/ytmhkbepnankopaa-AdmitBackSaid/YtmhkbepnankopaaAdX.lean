/- admit: a configuration. No condition. -/
import Derived.Test.YtmhkbepnankopaaAdU
import Derived.Test.YtmhkbepnankopaaChecked
import Derived.KernelRfl
namespace Go.Proofs.Ytmhkbepnankopaa
set_option linter.unusedVariables false
set_option linter.unusedSimpArgs false
open Go.RowKit E
/-- A configuration without its flows. -/
structure Cf where
  a : Int
  c : Int
  l : Int
  q : Int
  P : Int
  B : Int
  S : Int
  U : Int
  r : Int
  u : Int
abbrev cfC (c : Cf) (fl : At) : List At := [.val (.int .i64 c.a), .val (.int .i64 c.c), .val (.int .i64 c.l), .val (.int .i64 c.q), .val (.int .i64 c.P), .val (.int .u64 c.B), .val (.int .i64 c.S), .val (.int .u64 c.U), .val (.int .u64 c.r), .val (.int .u64 c.u), fl]
abbrev cfV (c : Cf) (fl : At) : SV := .nv (.agg (cfC c fl))
end Go.Proofs.Ytmhkbepnankopaa

/- Runs of Go code, as printed by a program: no condition beyond those that each states. -/
namespace Go.Proofs.Ytmhkbepnankopaa
set_option linter.unusedVariables false
set_option linter.unusedSimpArgs false
set_option maxRecDepth 100000
open Go.RowKit E
attribute [local irreducible] fd homeN reT capU gtP gtB gtO gtU setT shU Ga.fit Ga.may chkF
set_option maxHeartbeats 2000000 in
theorem ck_a (c : Cf) (n : Nat) (F : Fl) (ha : c.P < 1) : FnOk Try.prog 16 ([cfV c (.own 0)]) ([.ro 5 n (gFl F)]) (iA 25) ([.gone]) :=
  fn_run Gad7_ok Try.func16 (orc := ⟨[true, true, true, true, true], []⟩) (obl := [decide (Cf.P c < (1 : Int)) = true,
      true = true,
      true = true,
      true = true,
      true = true,
      (25 : Int) = (25 : Int)]) (by kernel_rfl) (.cons (by exact decide_eq_true (by omega)) (.cons (by rfl) (.cons (by rfl) (.cons (by rfl) (.cons (by rfl) (.cons (by rfl) .nil)))))) (Nat.le_of_ble_eq_true (by kernel_rfl))

set_option maxHeartbeats 2000000 in
theorem ck_b (c : Cf) (n : Nat) (F : Fl) (ha : ¬ c.P < 1) (hb : 4096 < c.P) : FnOk Try.prog 16 ([cfV c (.own 0)]) ([.ro 5 n (gFl F)]) (iA 25) ([.gone]) :=
  fn_run Gad7_ok Try.func16 (orc := ⟨[false, true, true, true, true], []⟩) (obl := [decide (Cf.P c < (1 : Int)) = false,
      decide (Cf.P c > (4096 : Int)) = true,
      true = true,
      true = true,
      true = true,
      (25 : Int) = (25 : Int)]) (by kernel_rfl) (.cons (by exact decide_eq_false (by omega)) (.cons (by exact decide_eq_true (by omega)) (.cons (by rfl) (.cons (by rfl) (.cons (by rfl) (.cons (by rfl) .nil)))))) (Nat.le_of_ble_eq_true (by kernel_rfl))

set_option maxHeartbeats 2000000 in
theorem ck_c (c : Cf) (n : Nat) (F : Fl) (ha : ¬ c.P < 1) (hb : ¬ 4096 < c.P) (hc : c.B = 0) : FnOk Try.prog 16 ([cfV c (.own 0)]) ([.ro 5 n (gFl F)]) (iA 25) ([.gone]) :=
  fn_run Gad7_ok Try.func16 (orc := ⟨[false, false, true, true, true], []⟩) (obl := [decide (Cf.P c < (1 : Int)) = false,
      decide (Cf.P c > (4096 : Int)) = false,
      (Cf.B c == (0 : Int)) = true,
      true = true,
      true = true,
      (25 : Int) = (25 : Int)]) (by kernel_rfl) (.cons (by exact decide_eq_false (by omega)) (.cons (by exact decide_eq_false (by omega)) (.cons (by exact decide_eq_true (by omega)) (.cons (by rfl) (.cons (by rfl) (.cons (by rfl) .nil)))))) (Nat.le_of_ble_eq_true (by kernel_rfl))

set_option maxHeartbeats 2000000 in
theorem ck_d (c : Cf) (n : Nat) (F : Fl) (ha : ¬ c.P < 1) (hb : ¬ 4096 < c.P) (hc : ¬ c.B = 0) (hd : c.S < 0) : FnOk Try.prog 16 ([cfV c (.own 0)]) ([.ro 5 n (gFl F)]) (iA 25) ([.gone]) :=
  fn_run Gad7_ok Try.func16 (orc := ⟨[false, false, false, true, true], []⟩) (obl := [decide (Cf.P c < (1 : Int)) = false,
      decide (Cf.P c > (4096 : Int)) = false,
      (Cf.B c == (0 : Int)) = false,
      decide (Cf.S c < (0 : Int)) = true,
      true = true,
      (25 : Int) = (25 : Int)]) (by kernel_rfl) (.cons (by exact decide_eq_false (by omega)) (.cons (by exact decide_eq_false (by omega)) (.cons (by exact decide_eq_false (by omega)) (.cons (by exact decide_eq_true (by omega)) (.cons (by rfl) (.cons (by rfl) .nil)))))) (Nat.le_of_ble_eq_true (by kernel_rfl))

set_option maxHeartbeats 2000000 in
theorem ck_e (c : Cf) (n : Nat) (F : Fl) (ha : ¬ c.P < 1) (hb : ¬ 4096 < c.P) (hc : ¬ c.B = 0) (hd : ¬ c.S < 0) (he : 16 < c.S) : FnOk Try.prog 16 ([cfV c (.own 0)]) ([.ro 5 n (gFl F)]) (iA 25) ([.gone]) :=
  fn_run Gad7_ok Try.func16 (orc := ⟨[false, false, false, false, true], []⟩) (obl := [decide (Cf.P c < (1 : Int)) = false,
      decide (Cf.P c > (4096 : Int)) = false,
      (Cf.B c == (0 : Int)) = false,
      decide (Cf.S c < (0 : Int)) = false,
      decide (Cf.S c > (16 : Int)) = true,
      (25 : Int) = (25 : Int)]) (by kernel_rfl) (.cons (by exact decide_eq_false (by omega)) (.cons (by exact decide_eq_false (by omega)) (.cons (by exact decide_eq_false (by omega)) (.cons (by exact decide_eq_false (by omega)) (.cons (by exact decide_eq_true (by omega)) (.cons (by rfl) .nil)))))) (Nat.le_of_ble_eq_true (by kernel_rfl))

set_option maxHeartbeats 2000000 in
theorem ck_f (c : Cf) (n : Nat) (F : Fl) (ha : ¬ c.P < 1) (hb : ¬ 4096 < c.P) (hc : ¬ c.B = 0) (hd : ¬ c.S < 0) (he : ¬ 16 < c.S) (Q : Int) (eQ : Int.fdiv 18446744073709551615 (2 ^ min (Int.toNat c.S) (IntKind.bits IntKind.u64)) = Q) (hf : Q < c.B) : FnOk Try.prog 16 ([cfV c (.own 0)]) ([.ro 5 n (gFl F)]) (iA 25) ([.gone]) :=
  fn_run Gad7_ok Try.func16 (orc := ⟨[false, false, false, false, false, true], []⟩) (obl := [decide (Cf.P c < (1 : Int)) = false,
      decide (Cf.P c > (4096 : Int)) = false,
      (Cf.B c == (0 : Int)) = false,
      decide (Cf.S c < (0 : Int)) = false,
      decide (Cf.S c > (16 : Int)) = false,
      (0 : Int) ≤ Cf.S c,
      decide (Cf.B c > Int.fdiv (18446744073709551615 : Int) ((2 : Int) ^ min (Int.toNat (Cf.S c)) (IntKind.bits IntKind.u64))) = true,
      (25 : Int) = (25 : Int)]) (by kernel_rfl) (.cons (by exact decide_eq_false (by omega)) (.cons (by exact decide_eq_false (by omega)) (.cons (by exact decide_eq_false (by omega)) (.cons (by exact decide_eq_false (by omega)) (.cons (by exact decide_eq_false (by omega)) (.cons (by omega) (.cons (by (rw [eQ]; exact decide_eq_true hf)) (.cons (by rfl) .nil)))))))) (Nat.le_of_ble_eq_true (by kernel_rfl))

set_option maxHeartbeats 2000000 in
theorem ck_g (c : Cf) (n : Nat) (F : Fl) (ha : ¬ c.P < 1) (hb : ¬ 4096 < c.P) (hc : ¬ c.B = 0) (hd : ¬ c.S < 0) (he : ¬ 16 < c.S) (Q : Int) (eQ : Int.fdiv 18446744073709551615 (2 ^ min (Int.toNat c.S) (IntKind.bits IntKind.u64)) = Q) (hf : ¬ Q < c.B) (hg : c.U < 1) : FnOk Try.prog 16 ([cfV c (.own 0)]) ([.ro 5 n (gFl F)]) (iA 26) ([.gone]) :=
  fn_run Gad7_ok Try.func16 (orc := ⟨[false, false, false, false, false, false, true, true], []⟩) (obl := [decide (Cf.P c < (1 : Int)) = false,
      decide (Cf.P c > (4096 : Int)) = false,
      (Cf.B c == (0 : Int)) = false,
      decide (Cf.S c < (0 : Int)) = false,
      decide (Cf.S c > (16 : Int)) = false,
      (0 : Int) ≤ Cf.S c,
      decide (Cf.B c > Int.fdiv (18446744073709551615 : Int) ((2 : Int) ^ min (Int.toNat (Cf.S c)) (IntKind.bits IntKind.u64))) = false,
      decide (Cf.U c < (1 : Int)) = true,
      true = true,
      (26 : Int) = (26 : Int)]) (by kernel_rfl) (.cons (by exact decide_eq_false (by omega)) (.cons (by exact decide_eq_false (by omega)) (.cons (by exact decide_eq_false (by omega)) (.cons (by exact decide_eq_false (by omega)) (.cons (by exact decide_eq_false (by omega)) (.cons (by omega) (.cons (by (rw [eQ]; exact decide_eq_false hf)) (.cons (by exact decide_eq_true (by omega)) (.cons (by rfl) (.cons (by rfl) .nil)))))))))) (Nat.le_of_ble_eq_true (by kernel_rfl))

set_option maxHeartbeats 2000000 in
theorem ck_h (c : Cf) (n : Nat) (F : Fl) (ha : ¬ c.P < 1) (hb : ¬ 4096 < c.P) (hc : ¬ c.B = 0) (hd : ¬ c.S < 0) (he : ¬ 16 < c.S) (Q : Int) (eQ : Int.fdiv 18446744073709551615 (2 ^ min (Int.toNat c.S) (IntKind.bits IntKind.u64)) = Q) (hf : ¬ Q < c.B) (hg : ¬ c.U < 1) (hh : 65535 < c.U) : FnOk Try.prog 16 ([cfV c (.own 0)]) ([.ro 5 n (gFl F)]) (iA 26) ([.gone]) :=
  fn_run Gad7_ok Try.func16 (orc := ⟨[false, false, false, false, false, false, false, true], []⟩) (obl := [decide (Cf.P c < (1 : Int)) = false,
      decide (Cf.P c > (4096 : Int)) = false,
      (Cf.B c == (0 : Int)) = false,
      decide (Cf.S c < (0 : Int)) = false,
      decide (Cf.S c > (16 : Int)) = false,
      (0 : Int) ≤ Cf.S c,
      decide (Cf.B c > Int.fdiv (18446744073709551615 : Int) ((2 : Int) ^ min (Int.toNat (Cf.S c)) (IntKind.bits IntKind.u64))) = false,
      decide (Cf.U c < (1 : Int)) = false,
      decide (Cf.U c > (65535 : Int)) = true,
      (26 : Int) = (26 : Int)]) (by kernel_rfl) (.cons (by exact decide_eq_false (by omega)) (.cons (by exact decide_eq_false (by omega)) (.cons (by exact decide_eq_false (by omega)) (.cons (by exact decide_eq_false (by omega)) (.cons (by exact decide_eq_false (by omega)) (.cons (by omega) (.cons (by (rw [eQ]; exact decide_eq_false hf)) (.cons (by exact decide_eq_false (by omega)) (.cons (by exact decide_eq_true (by omega)) (.cons (by rfl) .nil)))))))))) (Nat.le_of_ble_eq_true (by kernel_rfl))

set_option maxHeartbeats 2000000 in
theorem ck_i (c : Cf) (n : Nat) (F : Fl) (ha : ¬ c.P < 1) (hb : ¬ 4096 < c.P) (hc : ¬ c.B = 0) (hd : ¬ c.S < 0) (he : ¬ 16 < c.S) (Q : Int) (eQ : Int.fdiv 18446744073709551615 (2 ^ min (Int.toNat c.S) (IntKind.bits IntKind.u64)) = Q) (hf : ¬ Q < c.B) (hg : ¬ c.U < 1) (hh : ¬ 65535 < c.U) : FnOk Try.prog 16 ([cfV c (.own 0)]) ([.ro 5 n (gFl F)]) (iA (chkF n F)) ([.gone]) :=
  fn_run Gad7_ok Try.func16 (orc := ⟨[false, false, false, false, false, false, false, false], []⟩) (obl := [decide (Cf.P c < (1 : Int)) = false,
      decide (Cf.P c > (4096 : Int)) = false,
      (Cf.B c == (0 : Int)) = false,
      decide (Cf.S c < (0 : Int)) = false,
      decide (Cf.S c > (16 : Int)) = false,
      (0 : Int) ≤ Cf.S c,
      decide (Cf.B c > Int.fdiv (18446744073709551615 : Int) ((2 : Int) ^ min (Int.toNat (Cf.S c)) (IntKind.bits IntKind.u64))) = false,
      decide (Cf.U c < (1 : Int)) = false,
      decide (Cf.U c > (65535 : Int)) = false,
      (2 : Int) = (2 : Int),
      n = n,
      ∀ (i : Nat), i < n → Fl.id F i = Fl.id (flOf (gFl F)) i ∧ Fl.co F i = Fl.co (flOf (gFl F)) i ∧ Fl.bu F i = Fl.bu (flOf (gFl F)) i ∧ Fl.si F i = Fl.si (flOf (gFl F)) i ∧ Fl.ca F i = Fl.ca (flOf (gFl F)) i ∧ True,
      chkF n (flOf (gFl F)) = chkF n F]) (by kernel_rfl) (.cons (by exact decide_eq_false (by omega)) (.cons (by exact decide_eq_false (by omega)) (.cons (by exact decide_eq_false (by omega)) (.cons (by exact decide_eq_false (by omega)) (.cons (by exact decide_eq_false (by omega)) (.cons (by omega) (.cons (by (rw [eQ]; exact decide_eq_false hf)) (.cons (by exact decide_eq_false (by omega)) (.cons (by exact decide_eq_false (by omega)) (.cons (by rfl) (.cons (by rfl) (.cons (by (intro _ _; exact ⟨rfl, rfl, rfl, rfl, rfl, trivial⟩)) (.cons (by rfl) .nil))))))))))))) (Nat.le_of_ble_eq_true (by kernel_rfl))

set_option maxHeartbeats 2000000 in
theorem rkl_n (c : Cf) (n i : Nat) (F : Fl) (p q : Int) (hi : (i : Int) < c.S) (hs : c.S ≤ 16) (hq : IntKind.wrap IntKind.u64 (p * 2) = q) : CodeOk Try.prog 1 (loopOf Try.f15 0) (mkSt 52 [(1, .nv (.one (.ptr 1 0))), (3, uA p), (4, iA i)] [.ro 5 n (gFl F), .box 25 (cfC c (.own 0))]) .normal (mkSt 52 [(1, .nv (.one (.ptr 1 0))), (3, uA q), (4, iA (i + 1 : Nat))] [.ro 5 n (gFl F), .box 25 (cfC c (.own 0))]) :=
  code_run Gad7_ok (orc := ⟨[true], []⟩) (obl := [decide ((↑i : Int) < Cf.S c) = true,
      (0 : Nat) = (0 : Nat),
      IntKind.wrap IntKind.u64 (p * (2 : Int)) = q,
      IntKind.wrap IntKind.i64 ((↑i : Int) + (1 : Int)) = (↑(i + (1 : Nat)) : Int),
      n = n,
      ∀ (i : Nat), i < n → Fl.id F i = Fl.id F i ∧ Fl.co F i = Fl.co F i ∧ Fl.bu F i = Fl.bu F i ∧ Fl.si F i = Fl.si F i ∧ Fl.ca F i = Fl.ca F i ∧ True,
      Cf.a c = Cf.a c,
      Cf.c c = Cf.c c,
      Cf.l c = Cf.l c,
      Cf.q c = Cf.q c,
      Cf.P c = Cf.P c,
      Cf.B c = Cf.B c,
      Cf.S c = Cf.S c,
      Cf.U c = Cf.U c,
      Cf.r c = Cf.r c,
      Cf.u c = Cf.u c]) (by kernel_rfl) (.cons (by exact decide_eq_true (by omega)) (.cons (by rfl) (.cons (by assumption) (.cons (by exact w64 (by omega) (by omega)) (.cons (by rfl) (.cons (by (simp; done)) (.cons (by rfl) (.cons (by rfl) (.cons (by rfl) (.cons (by rfl) (.cons (by rfl) (.cons (by rfl) (.cons (by rfl) (.cons (by rfl) (.cons (by rfl) (.cons (by rfl) .nil)))))))))))))))) (Nat.le_of_ble_eq_true (by kernel_rfl))

set_option maxHeartbeats 2000000 in
theorem rkl_e (c : Cf) (n i : Nat) (F : Fl) (p : Int) (hi : (i : Int) = c.S) : CodeOk Try.prog 1 (loopOf Try.f15 0) (mkSt 52 [(1, .nv (.one (.ptr 1 0))), (3, uA p), (4, iA i)] [.ro 5 n (gFl F), .box 25 (cfC c (.own 0))]) (.exit 0) (mkSt 52 [(1, .nv (.one (.ptr 1 0))), (3, uA p)] [.ro 5 n (gFl F), .box 25 (cfC c (.own 0))]) :=
  code_run Gad7_ok (orc := ⟨[false], []⟩) (obl := [decide ((↑i : Int) < Cf.S c) = false,
      (0 : Nat) = (0 : Nat),
      p = p,
      n = n,
      ∀ (i : Nat), i < n → Fl.id F i = Fl.id F i ∧ Fl.co F i = Fl.co F i ∧ Fl.bu F i = Fl.bu F i ∧ Fl.si F i = Fl.si F i ∧ Fl.ca F i = Fl.ca F i ∧ True,
      Cf.a c = Cf.a c,
      Cf.c c = Cf.c c,
      Cf.l c = Cf.l c,
      Cf.q c = Cf.q c,
      Cf.P c = Cf.P c,
      Cf.B c = Cf.B c,
      Cf.S c = Cf.S c,
      Cf.U c = Cf.U c,
      Cf.r c = Cf.r c,
      Cf.u c = Cf.u c]) (by kernel_rfl) (.cons (by exact decide_eq_false (by omega)) (.cons (by rfl) (.cons (by rfl) (.cons (by rfl) (.cons (by (simp; done)) (.cons (by rfl) (.cons (by rfl) (.cons (by rfl) (.cons (by rfl) (.cons (by rfl) (.cons (by rfl) (.cons (by rfl) (.cons (by rfl) (.cons (by rfl) (.cons (by rfl) .nil))))))))))))))) (Nat.le_of_ble_eq_true (by kernel_rfl))

set_option maxHeartbeats 2000000 in
theorem rk_a (c : Cf) (n : Nat) (F : Fl) (ha : c.P < 1) : FnOk Try.prog 15 ([cfV c (.own 0)]) ([.ro 5 n (gFl F)]) (iA 25) ([.ro 5 n (gFl F)]) :=
  fn_run Gad7_ok Try.func15 (orc := ⟨[true, true, true, true, true], []⟩) (obl := [decide (Cf.P c < (1 : Int)) = true,
      true = true,
      true = true,
      true = true,
      true = true,
      (25 : Int) = (25 : Int),
      n = n,
      ∀ (i : Nat), i < n → Fl.id F i = Fl.id F i ∧ Fl.co F i = Fl.co F i ∧ Fl.bu F i = Fl.bu F i ∧ Fl.si F i = Fl.si F i ∧ Fl.ca F i = Fl.ca F i ∧ True]) (by kernel_rfl) (.cons (by exact decide_eq_true (by omega)) (.cons (by rfl) (.cons (by rfl) (.cons (by rfl) (.cons (by rfl) (.cons (by rfl) (.cons (by rfl) (.cons (by (simp; done)) .nil)))))))) (Nat.le_of_ble_eq_true (by kernel_rfl))

set_option maxHeartbeats 2000000 in
theorem rk_b (c : Cf) (n : Nat) (F : Fl) (ha : ¬ c.P < 1) (hb : 4096 < c.P) : FnOk Try.prog 15 ([cfV c (.own 0)]) ([.ro 5 n (gFl F)]) (iA 25) ([.ro 5 n (gFl F)]) :=
  fn_run Gad7_ok Try.func15 (orc := ⟨[false, true, true, true, true], []⟩) (obl := [decide (Cf.P c < (1 : Int)) = false,
      decide (Cf.P c > (4096 : Int)) = true,
      true = true,
      true = true,
      true = true,
      (25 : Int) = (25 : Int),
      n = n,
      ∀ (i : Nat), i < n → Fl.id F i = Fl.id F i ∧ Fl.co F i = Fl.co F i ∧ Fl.bu F i = Fl.bu F i ∧ Fl.si F i = Fl.si F i ∧ Fl.ca F i = Fl.ca F i ∧ True]) (by kernel_rfl) (.cons (by exact decide_eq_false (by omega)) (.cons (by exact decide_eq_true (by omega)) (.cons (by rfl) (.cons (by rfl) (.cons (by rfl) (.cons (by rfl) (.cons (by rfl) (.cons (by (simp; done)) .nil)))))))) (Nat.le_of_ble_eq_true (by kernel_rfl))

set_option maxHeartbeats 2000000 in
theorem rk_c (c : Cf) (n : Nat) (F : Fl) (ha : ¬ c.P < 1) (hb : ¬ 4096 < c.P) (hc : c.B = 0) : FnOk Try.prog 15 ([cfV c (.own 0)]) ([.ro 5 n (gFl F)]) (iA 25) ([.ro 5 n (gFl F)]) :=
  fn_run Gad7_ok Try.func15 (orc := ⟨[false, false, true, true, true], []⟩) (obl := [decide (Cf.P c < (1 : Int)) = false,
      decide (Cf.P c > (4096 : Int)) = false,
      (Cf.B c == (0 : Int)) = true,
      true = true,
      true = true,
      (25 : Int) = (25 : Int),
      n = n,
      ∀ (i : Nat), i < n → Fl.id F i = Fl.id F i ∧ Fl.co F i = Fl.co F i ∧ Fl.bu F i = Fl.bu F i ∧ Fl.si F i = Fl.si F i ∧ Fl.ca F i = Fl.ca F i ∧ True]) (by kernel_rfl) (.cons (by exact decide_eq_false (by omega)) (.cons (by exact decide_eq_false (by omega)) (.cons (by exact decide_eq_true (by omega)) (.cons (by rfl) (.cons (by rfl) (.cons (by rfl) (.cons (by rfl) (.cons (by (simp; done)) .nil)))))))) (Nat.le_of_ble_eq_true (by kernel_rfl))

set_option maxHeartbeats 2000000 in
theorem rk_d (c : Cf) (n : Nat) (F : Fl) (ha : ¬ c.P < 1) (hb : ¬ 4096 < c.P) (hc : ¬ c.B = 0) (hd : c.S < 0) : FnOk Try.prog 15 ([cfV c (.own 0)]) ([.ro 5 n (gFl F)]) (iA 25) ([.ro 5 n (gFl F)]) :=
  fn_run Gad7_ok Try.func15 (orc := ⟨[false, false, false, true, true], []⟩) (obl := [decide (Cf.P c < (1 : Int)) = false,
      decide (Cf.P c > (4096 : Int)) = false,
      (Cf.B c == (0 : Int)) = false,
      decide (Cf.S c < (0 : Int)) = true,
      true = true,
      (25 : Int) = (25 : Int),
      n = n,
      ∀ (i : Nat), i < n → Fl.id F i = Fl.id F i ∧ Fl.co F i = Fl.co F i ∧ Fl.bu F i = Fl.bu F i ∧ Fl.si F i = Fl.si F i ∧ Fl.ca F i = Fl.ca F i ∧ True]) (by kernel_rfl) (.cons (by exact decide_eq_false (by omega)) (.cons (by exact decide_eq_false (by omega)) (.cons (by exact decide_eq_false (by omega)) (.cons (by exact decide_eq_true (by omega)) (.cons (by rfl) (.cons (by rfl) (.cons (by rfl) (.cons (by (simp; done)) .nil)))))))) (Nat.le_of_ble_eq_true (by kernel_rfl))

set_option maxHeartbeats 2000000 in
theorem rk_e (c : Cf) (n : Nat) (F : Fl) (ha : ¬ c.P < 1) (hb : ¬ 4096 < c.P) (hc : ¬ c.B = 0) (hd : ¬ c.S < 0) (he : 16 < c.S) : FnOk Try.prog 15 ([cfV c (.own 0)]) ([.ro 5 n (gFl F)]) (iA 25) ([.ro 5 n (gFl F)]) :=
  fn_run Gad7_ok Try.func15 (orc := ⟨[false, false, false, false, true], []⟩) (obl := [decide (Cf.P c < (1 : Int)) = false,
      decide (Cf.P c > (4096 : Int)) = false,
      (Cf.B c == (0 : Int)) = false,
      decide (Cf.S c < (0 : Int)) = false,
      decide (Cf.S c > (16 : Int)) = true,
      (25 : Int) = (25 : Int),
      n = n,
      ∀ (i : Nat), i < n → Fl.id F i = Fl.id F i ∧ Fl.co F i = Fl.co F i ∧ Fl.bu F i = Fl.bu F i ∧ Fl.si F i = Fl.si F i ∧ Fl.ca F i = Fl.ca F i ∧ True]) (by kernel_rfl) (.cons (by exact decide_eq_false (by omega)) (.cons (by exact decide_eq_false (by omega)) (.cons (by exact decide_eq_false (by omega)) (.cons (by exact decide_eq_false (by omega)) (.cons (by exact decide_eq_true (by omega)) (.cons (by rfl) (.cons (by rfl) (.cons (by (simp; done)) .nil)))))))) (Nat.le_of_ble_eq_true (by kernel_rfl))

set_option maxHeartbeats 2000000 in
theorem rk_f (c : Cf) (n : Nat) (F : Fl) (ha : ¬ c.P < 1) (hb : ¬ 4096 < c.P) (hc : ¬ c.B = 0) (hd : ¬ c.S < 0) (he : ¬ 16 < c.S) (Q : Int) (p : Int) (p0 : p ≠ 0) (eQ : IntKind.wrap IntKind.u64 (Int.tdiv 18446744073709551615 p) = Q) (hf : Q < c.B) (l : CodeOk Try.prog 1 (.loop (loopOf Try.f15 0)) (mkSt 52 [(1, .nv (.one (.ptr 1 0))), (3, uA 1), (4, iA 0)] [.ro 5 n (gFl F), .box 25 (cfC c (.own 0))]) (.exit 0) (mkSt 52 [(1, .nv (.one (.ptr 1 0))), (3, uA p)] [.ro 5 n (gFl F), .box 25 (cfC c (.own 0))])) : FnOk Try.prog 15 ([cfV c (.own 0)]) ([.ro 5 n (gFl F)]) (iA 25) ([.ro 5 n (gFl F)]) :=
  fn_run Gad7_ok Try.func15 (orc := ⟨[false, false, false, false, false, true], [⟨mkSt 52 [(1, .nv (.one (.ptr 1 0))), (3, uA 1), (4, iA 0)] [.ro 5 n (gFl F), .box 25 (cfC c (.own 0))], .exit 0, mkSt 52 [(1, .nv (.one (.ptr 1 0))), (3, uA p)] [.ro 5 n (gFl F), .box 25 (cfC c (.own 0))]⟩]⟩) (obl := [decide (Cf.P c < (1 : Int)) = false,
      decide (Cf.P c > (4096 : Int)) = false,
      (Cf.B c == (0 : Int)) = false,
      decide (Cf.S c < (0 : Int)) = false,
      decide (Cf.S c > (16 : Int)) = false,
      (0 : Nat) = (0 : Nat),
      (1 : Int) = (1 : Int),
      (0 : Int) = (0 : Int),
      n = n,
      ∀ (i : Nat), i < n → Fl.id F i = Fl.id F i ∧ Fl.co F i = Fl.co F i ∧ Fl.bu F i = Fl.bu F i ∧ Fl.si F i = Fl.si F i ∧ Fl.ca F i = Fl.ca F i ∧ True,
      Cf.a c = Cf.a c,
      Cf.c c = Cf.c c,
      Cf.l c = Cf.l c,
      Cf.q c = Cf.q c,
      Cf.P c = Cf.P c,
      Cf.B c = Cf.B c,
      Cf.S c = Cf.S c,
      Cf.U c = Cf.U c,
      Cf.r c = Cf.r c,
      Cf.u c = Cf.u c,
      (1 : Nat) ≤ (2 : Nat),
      CodeOk Try.prog (1 : Nat) (Code.loop (loopOf Try.f15 (0 : Nat))) (mkSt (52 : Nat) [((1 : Nat), SV.nv (NV.one (At.ptr (1 : Nat) (0 : Nat)))), ((3 : Nat), uA (1 : Int)), ((4 : Nat), iA (0 : Int))] [Seg.ro (5 : Nat) n (gFl F), Seg.box (25 : TypeId) (cfC c (At.own (0 : Nat)))]) (Ex.exit (0 : Nat)) (mkSt (52 : Nat) [((1 : Nat), SV.nv (NV.one (At.ptr (1 : Nat) (0 : Nat)))), ((3 : Nat), uA p)] [Seg.ro (5 : Nat) n (gFl F), Seg.box (25 : TypeId) (cfC c (At.own (0 : Nat)))]),
      p ≠ (0 : Int),
      decide (Cf.B c > IntKind.wrap IntKind.u64 (Int.tdiv (18446744073709551615 : Int) p)) = true,
      (25 : Int) = (25 : Int),
      n = n,
      ∀ (i : Nat), i < n → Fl.id F i = Fl.id F i ∧ Fl.co F i = Fl.co F i ∧ Fl.bu F i = Fl.bu F i ∧ Fl.si F i = Fl.si F i ∧ Fl.ca F i = Fl.ca F i ∧ True]) (by kernel_rfl) (.cons (by exact decide_eq_false (by omega)) (.cons (by exact decide_eq_false (by omega)) (.cons (by exact decide_eq_false (by omega)) (.cons (by exact decide_eq_false (by omega)) (.cons (by exact decide_eq_false (by omega)) (.cons (by rfl) (.cons (by rfl) (.cons (by rfl) (.cons (by rfl) (.cons (by (simp; done)) (.cons (by rfl) (.cons (by rfl) (.cons (by rfl) (.cons (by rfl) (.cons (by rfl) (.cons (by rfl) (.cons (by rfl) (.cons (by rfl) (.cons (by rfl) (.cons (by rfl) (.cons (by trivial) (.cons (by assumption) (.cons (by assumption) (.cons (by (rw [eQ]; exact decide_eq_true hf)) (.cons (by rfl) (.cons (by rfl) (.cons (by (simp; done)) .nil))))))))))))))))))))))))))) (Nat.le_of_ble_eq_true (by kernel_rfl))

set_option maxHeartbeats 2000000 in
theorem rk_g (c : Cf) (n : Nat) (F : Fl) (ha : ¬ c.P < 1) (hb : ¬ 4096 < c.P) (hc : ¬ c.B = 0) (hd : ¬ c.S < 0) (he : ¬ 16 < c.S) (Q : Int) (p : Int) (p0 : p ≠ 0) (eQ : IntKind.wrap IntKind.u64 (Int.tdiv 18446744073709551615 p) = Q) (hf : ¬ Q < c.B) (hg : c.U < 1) (l : CodeOk Try.prog 1 (.loop (loopOf Try.f15 0)) (mkSt 52 [(1, .nv (.one (.ptr 1 0))), (3, uA 1), (4, iA 0)] [.ro 5 n (gFl F), .box 25 (cfC c (.own 0))]) (.exit 0) (mkSt 52 [(1, .nv (.one (.ptr 1 0))), (3, uA p)] [.ro 5 n (gFl F), .box 25 (cfC c (.own 0))])) : FnOk Try.prog 15 ([cfV c (.own 0)]) ([.ro 5 n (gFl F)]) (iA 26) ([.ro 5 n (gFl F)]) :=
  fn_run Gad7_ok Try.func15 (orc := ⟨[false, false, false, false, false, false, true, true], [⟨mkSt 52 [(1, .nv (.one (.ptr 1 0))), (3, uA 1), (4, iA 0)] [.ro 5 n (gFl F), .box 25 (cfC c (.own 0))], .exit 0, mkSt 52 [(1, .nv (.one (.ptr 1 0))), (3, uA p)] [.ro 5 n (gFl F), .box 25 (cfC c (.own 0))]⟩]⟩) (obl := [decide (Cf.P c < (1 : Int)) = false,
      decide (Cf.P c > (4096 : Int)) = false,
      (Cf.B c == (0 : Int)) = false,
      decide (Cf.S c < (0 : Int)) = false,
      decide (Cf.S c > (16 : Int)) = false,
      (0 : Nat) = (0 : Nat),
      (1 : Int) = (1 : Int),
      (0 : Int) = (0 : Int),
      n = n,
      ∀ (i : Nat), i < n → Fl.id F i = Fl.id F i ∧ Fl.co F i = Fl.co F i ∧ Fl.bu F i = Fl.bu F i ∧ Fl.si F i = Fl.si F i ∧ Fl.ca F i = Fl.ca F i ∧ True,
      Cf.a c = Cf.a c,
      Cf.c c = Cf.c c,
      Cf.l c = Cf.l c,
      Cf.q c = Cf.q c,
      Cf.P c = Cf.P c,
      Cf.B c = Cf.B c,
      Cf.S c = Cf.S c,
      Cf.U c = Cf.U c,
      Cf.r c = Cf.r c,
      Cf.u c = Cf.u c,
      (1 : Nat) ≤ (2 : Nat),
      CodeOk Try.prog (1 : Nat) (Code.loop (loopOf Try.f15 (0 : Nat))) (mkSt (52 : Nat) [((1 : Nat), SV.nv (NV.one (At.ptr (1 : Nat) (0 : Nat)))), ((3 : Nat), uA (1 : Int)), ((4 : Nat), iA (0 : Int))] [Seg.ro (5 : Nat) n (gFl F), Seg.box (25 : TypeId) (cfC c (At.own (0 : Nat)))]) (Ex.exit (0 : Nat)) (mkSt (52 : Nat) [((1 : Nat), SV.nv (NV.one (At.ptr (1 : Nat) (0 : Nat)))), ((3 : Nat), uA p)] [Seg.ro (5 : Nat) n (gFl F), Seg.box (25 : TypeId) (cfC c (At.own (0 : Nat)))]),
      p ≠ (0 : Int),
      decide (Cf.B c > IntKind.wrap IntKind.u64 (Int.tdiv (18446744073709551615 : Int) p)) = false,
      decide (Cf.U c < (1 : Int)) = true,
      true = true,
      (26 : Int) = (26 : Int),
      n = n,
      ∀ (i : Nat), i < n → Fl.id F i = Fl.id F i ∧ Fl.co F i = Fl.co F i ∧ Fl.bu F i = Fl.bu F i ∧ Fl.si F i = Fl.si F i ∧ Fl.ca F i = Fl.ca F i ∧ True]) (by kernel_rfl) (.cons (by exact decide_eq_false (by omega)) (.cons (by exact decide_eq_false (by omega)) (.cons (by exact decide_eq_false (by omega)) (.cons (by exact decide_eq_false (by omega)) (.cons (by exact decide_eq_false (by omega)) (.cons (by rfl) (.cons (by rfl) (.cons (by rfl) (.cons (by rfl) (.cons (by (simp; done)) (.cons (by rfl) (.cons (by rfl) (.cons (by rfl) (.cons (by rfl) (.cons (by rfl) (.cons (by rfl) (.cons (by rfl) (.cons (by rfl) (.cons (by rfl) (.cons (by rfl) (.cons (by trivial) (.cons (by assumption) (.cons (by assumption) (.cons (by (rw [eQ]; exact decide_eq_false hf)) (.cons (by exact decide_eq_true (by omega)) (.cons (by rfl) (.cons (by rfl) (.cons (by rfl) (.cons (by (simp; done)) .nil))))))))))))))))))))))))))))) (Nat.le_of_ble_eq_true (by kernel_rfl))

set_option maxHeartbeats 2000000 in
theorem rk_h (c : Cf) (n : Nat) (F : Fl) (ha : ¬ c.P < 1) (hb : ¬ 4096 < c.P) (hc : ¬ c.B = 0) (hd : ¬ c.S < 0) (he : ¬ 16 < c.S) (Q : Int) (p : Int) (p0 : p ≠ 0) (eQ : IntKind.wrap IntKind.u64 (Int.tdiv 18446744073709551615 p) = Q) (hf : ¬ Q < c.B) (hg : ¬ c.U < 1) (hh : 65535 < c.U) (l : CodeOk Try.prog 1 (.loop (loopOf Try.f15 0)) (mkSt 52 [(1, .nv (.one (.ptr 1 0))), (3, uA 1), (4, iA 0)] [.ro 5 n (gFl F), .box 25 (cfC c (.own 0))]) (.exit 0) (mkSt 52 [(1, .nv (.one (.ptr 1 0))), (3, uA p)] [.ro 5 n (gFl F), .box 25 (cfC c (.own 0))])) : FnOk Try.prog 15 ([cfV c (.own 0)]) ([.ro 5 n (gFl F)]) (iA 26) ([.ro 5 n (gFl F)]) :=
  fn_run Gad7_ok Try.func15 (orc := ⟨[false, false, false, false, false, false, false, true], [⟨mkSt 52 [(1, .nv (.one (.ptr 1 0))), (3, uA 1), (4, iA 0)] [.ro 5 n (gFl F), .box 25 (cfC c (.own 0))], .exit 0, mkSt 52 [(1, .nv (.one (.ptr 1 0))), (3, uA p)] [.ro 5 n (gFl F), .box 25 (cfC c (.own 0))]⟩]⟩) (obl := [decide (Cf.P c < (1 : Int)) = false,
      decide (Cf.P c > (4096 : Int)) = false,
      (Cf.B c == (0 : Int)) = false,
      decide (Cf.S c < (0 : Int)) = false,
      decide (Cf.S c > (16 : Int)) = false,
      (0 : Nat) = (0 : Nat),
      (1 : Int) = (1 : Int),
      (0 : Int) = (0 : Int),
      n = n,
      ∀ (i : Nat), i < n → Fl.id F i = Fl.id F i ∧ Fl.co F i = Fl.co F i ∧ Fl.bu F i = Fl.bu F i ∧ Fl.si F i = Fl.si F i ∧ Fl.ca F i = Fl.ca F i ∧ True,
      Cf.a c = Cf.a c,
      Cf.c c = Cf.c c,
      Cf.l c = Cf.l c,
      Cf.q c = Cf.q c,
      Cf.P c = Cf.P c,
      Cf.B c = Cf.B c,
      Cf.S c = Cf.S c,
      Cf.U c = Cf.U c,
      Cf.r c = Cf.r c,
      Cf.u c = Cf.u c,
      (1 : Nat) ≤ (2 : Nat),
      CodeOk Try.prog (1 : Nat) (Code.loop (loopOf Try.f15 (0 : Nat))) (mkSt (52 : Nat) [((1 : Nat), SV.nv (NV.one (At.ptr (1 : Nat) (0 : Nat)))), ((3 : Nat), uA (1 : Int)), ((4 : Nat), iA (0 : Int))] [Seg.ro (5 : Nat) n (gFl F), Seg.box (25 : TypeId) (cfC c (At.own (0 : Nat)))]) (Ex.exit (0 : Nat)) (mkSt (52 : Nat) [((1 : Nat), SV.nv (NV.one (At.ptr (1 : Nat) (0 : Nat)))), ((3 : Nat), uA p)] [Seg.ro (5 : Nat) n (gFl F), Seg.box (25 : TypeId) (cfC c (At.own (0 : Nat)))]),
      p ≠ (0 : Int),
      decide (Cf.B c > IntKind.wrap IntKind.u64 (Int.tdiv (18446744073709551615 : Int) p)) = false,
      decide (Cf.U c < (1 : Int)) = false,
      decide (Cf.U c > (65535 : Int)) = true,
      (26 : Int) = (26 : Int),
      n = n,
      ∀ (i : Nat), i < n → Fl.id F i = Fl.id F i ∧ Fl.co F i = Fl.co F i ∧ Fl.bu F i = Fl.bu F i ∧ Fl.si F i = Fl.si F i ∧ Fl.ca F i = Fl.ca F i ∧ True]) (by kernel_rfl) (.cons (by exact decide_eq_false (by omega)) (.cons (by exact decide_eq_false (by omega)) (.cons (by exact decide_eq_false (by omega)) (.cons (by exact decide_eq_false (by omega)) (.cons (by exact decide_eq_false (by omega)) (.cons (by rfl) (.cons (by rfl) (.cons (by rfl) (.cons (by rfl) (.cons (by (simp; done)) (.cons (by rfl) (.cons (by rfl) (.cons (by rfl) (.cons (by rfl) (.cons (by rfl) (.cons (by rfl) (.cons (by rfl) (.cons (by rfl) (.cons (by rfl) (.cons (by rfl) (.cons (by trivial) (.cons (by assumption) (.cons (by assumption) (.cons (by (rw [eQ]; exact decide_eq_false hf)) (.cons (by exact decide_eq_false (by omega)) (.cons (by exact decide_eq_true (by omega)) (.cons (by rfl) (.cons (by rfl) (.cons (by (simp; done)) .nil))))))))))))))))))))))))))))) (Nat.le_of_ble_eq_true (by kernel_rfl))

set_option maxHeartbeats 2000000 in
theorem rk_i (c : Cf) (n : Nat) (F : Fl) (ha : ¬ c.P < 1) (hb : ¬ 4096 < c.P) (hc : ¬ c.B = 0) (hd : ¬ c.S < 0) (he : ¬ 16 < c.S) (Q : Int) (p : Int) (p0 : p ≠ 0) (eQ : IntKind.wrap IntKind.u64 (Int.tdiv 18446744073709551615 p) = Q) (hf : ¬ Q < c.B) (hg : ¬ c.U < 1) (hh : ¬ 65535 < c.U) (l : CodeOk Try.prog 1 (.loop (loopOf Try.f15 0)) (mkSt 52 [(1, .nv (.one (.ptr 1 0))), (3, uA 1), (4, iA 0)] [.ro 5 n (gFl F), .box 25 (cfC c (.own 0))]) (.exit 0) (mkSt 52 [(1, .nv (.one (.ptr 1 0))), (3, uA p)] [.ro 5 n (gFl F), .box 25 (cfC c (.own 0))])) : FnOk Try.prog 15 ([cfV c (.own 0)]) ([.ro 5 n (gFl F)]) (iA (chkF n F)) ([.ro 5 n (gFl F)]) :=
  fn_run Gad7_ok Try.func15 (orc := ⟨[false, false, false, false, false, false, false, false], [⟨mkSt 52 [(1, .nv (.one (.ptr 1 0))), (3, uA 1), (4, iA 0)] [.ro 5 n (gFl F), .box 25 (cfC c (.own 0))], .exit 0, mkSt 52 [(1, .nv (.one (.ptr 1 0))), (3, uA p)] [.ro 5 n (gFl F), .box 25 (cfC c (.own 0))]⟩]⟩) (obl := [decide (Cf.P c < (1 : Int)) = false,
      decide (Cf.P c > (4096 : Int)) = false,
      (Cf.B c == (0 : Int)) = false,
      decide (Cf.S c < (0 : Int)) = false,
      decide (Cf.S c > (16 : Int)) = false,
      (0 : Nat) = (0 : Nat),
      (1 : Int) = (1 : Int),
      (0 : Int) = (0 : Int),
      n = n,
      ∀ (i : Nat), i < n → Fl.id F i = Fl.id F i ∧ Fl.co F i = Fl.co F i ∧ Fl.bu F i = Fl.bu F i ∧ Fl.si F i = Fl.si F i ∧ Fl.ca F i = Fl.ca F i ∧ True,
      Cf.a c = Cf.a c,
      Cf.c c = Cf.c c,
      Cf.l c = Cf.l c,
      Cf.q c = Cf.q c,
      Cf.P c = Cf.P c,
      Cf.B c = Cf.B c,
      Cf.S c = Cf.S c,
      Cf.U c = Cf.U c,
      Cf.r c = Cf.r c,
      Cf.u c = Cf.u c,
      (1 : Nat) ≤ (2 : Nat),
      CodeOk Try.prog (1 : Nat) (Code.loop (loopOf Try.f15 (0 : Nat))) (mkSt (52 : Nat) [((1 : Nat), SV.nv (NV.one (At.ptr (1 : Nat) (0 : Nat)))), ((3 : Nat), uA (1 : Int)), ((4 : Nat), iA (0 : Int))] [Seg.ro (5 : Nat) n (gFl F), Seg.box (25 : TypeId) (cfC c (At.own (0 : Nat)))]) (Ex.exit (0 : Nat)) (mkSt (52 : Nat) [((1 : Nat), SV.nv (NV.one (At.ptr (1 : Nat) (0 : Nat)))), ((3 : Nat), uA p)] [Seg.ro (5 : Nat) n (gFl F), Seg.box (25 : TypeId) (cfC c (At.own (0 : Nat)))]),
      p ≠ (0 : Int),
      decide (Cf.B c > IntKind.wrap IntKind.u64 (Int.tdiv (18446744073709551615 : Int) p)) = false,
      decide (Cf.U c < (1 : Int)) = false,
      decide (Cf.U c > (65535 : Int)) = false,
      n = n,
      ∀ (i : Nat), i < n → Fl.id F i = Fl.id (flOf (gFl F)) i ∧ Fl.co F i = Fl.co (flOf (gFl F)) i ∧ Fl.bu F i = Fl.bu (flOf (gFl F)) i ∧ Fl.si F i = Fl.si (flOf (gFl F)) i ∧ Fl.ca F i = Fl.ca (flOf (gFl F)) i ∧ True,
      chkF n (flOf (gFl F)) = chkF n F,
      n = n,
      ∀ (i : Nat), i < n → Fl.id F i = Fl.id F i ∧ Fl.co F i = Fl.co F i ∧ Fl.bu F i = Fl.bu F i ∧ Fl.si F i = Fl.si F i ∧ Fl.ca F i = Fl.ca F i ∧ True]) (by kernel_rfl) (.cons (by exact decide_eq_false (by omega)) (.cons (by exact decide_eq_false (by omega)) (.cons (by exact decide_eq_false (by omega)) (.cons (by exact decide_eq_false (by omega)) (.cons (by exact decide_eq_false (by omega)) (.cons (by rfl) (.cons (by rfl) (.cons (by rfl) (.cons (by rfl) (.cons (by (simp; done)) (.cons (by rfl) (.cons (by rfl) (.cons (by rfl) (.cons (by rfl) (.cons (by rfl) (.cons (by rfl) (.cons (by rfl) (.cons (by rfl) (.cons (by rfl) (.cons (by rfl) (.cons (by trivial) (.cons (by assumption) (.cons (by assumption) (.cons (by (rw [eQ]; exact decide_eq_false hf)) (.cons (by exact decide_eq_false (by omega)) (.cons (by exact decide_eq_false (by omega)) (.cons (by rfl) (.cons (by (intro _ _; exact ⟨rfl, rfl, rfl, rfl, rfl, trivial⟩)) (.cons (by rfl) (.cons (by rfl) (.cons (by (simp; done)) .nil))))))))))))))))))))))))))))))) (Nat.le_of_ble_eq_true (by kernel_rfl))
end Go.Proofs.Ytmhkbepnankopaa

/- admit: both Checks as specifications. No condition. -/
namespace Go.Proofs.Ytmhkbepnankopaa
set_option linter.unusedVariables false
set_option linter.unusedSimpArgs false
open Go.RowKit E
/-- May a configuration be? -/
def chkA (c : Cf) (n : Nat) (F : Fl) : Int :=
  if c.P < 1 ∨ 4096 < c.P ∨ c.B = 0 ∨ c.S < 0 ∨ 16 < c.S then 25 else if 18446744073709551615 / (2 ^ c.S.toNat) < c.B then 25 else if c.U < 1 ∨ 65535 < c.U then 26 else chkF n F
theorem p16 {S : Int} (h0 : ¬ S < 0) (h1 : ¬ 16 < S) : (1 : Int) ≤ 2 ^ S.toNat ∧ (2 : Int) ^ S.toNat ≤ 65536 := by
  have h : S.toNat ≤ 16 := by omega
  have e : ((2 : Int) ^ S.toNat) = ((2 ^ S.toNat : Nat) : Int) := by rw [Int.natCast_pow]; rfl
  have a := Nat.pow_le_pow_right (n := 2) (by omega) h
  have b := Nat.two_pow_pos S.toNat
  rw [e]
  omega
theorem fnCheck17 (c : Cf) (n : Nat) (F : Fl) : FnOk Try.prog 16 [cfV c (.own 0)] [.ro 5 n (gFl F)] (iA (chkA c n F)) [.gone] := by
  unfold chkA
  by_cases a : c.P < 1
  · rw [if_pos (.inl a)]; exact ck_a c n F a
  by_cases a2 : 4096 < c.P
  · rw [if_pos (.inr (.inl a2))]; exact ck_b c n F a a2
  by_cases a3 : c.B = 0
  · rw [if_pos (.inr (.inr (.inl a3)))]; exact ck_c c n F a a2 a3
  by_cases a4 : c.S < 0
  · rw [if_pos (.inr (.inr (.inr (.inl a4))))]; exact ck_d c n F a a2 a3 a4
  by_cases a5 : 16 < c.S
  · rw [if_pos (.inr (.inr (.inr (.inr a5))))]; exact ck_e c n F a a2 a3 a4 a5
  rw [if_neg (by rintro (q | q | q | q | q) <;> contradiction)]
  obtain ⟨p1, p2⟩ := p16 a4 a5
  have eQ : Int.fdiv 18446744073709551615 (2 ^ min (Int.toNat c.S) (IntKind.bits IntKind.u64)) = 18446744073709551615 / (2 ^ c.S.toNat) := by
    have : min (Int.toNat c.S) (IntKind.bits IntKind.u64) = c.S.toNat := Nat.min_eq_left (by show c.S.toNat ≤ 64; omega)
    rw [this, Int.fdiv_eq_ediv_of_nonneg _ (by omega)]
  by_cases a6 : 18446744073709551615 / (2 ^ c.S.toNat) < c.B
  · rw [if_pos a6]; exact ck_f c n F a a2 a3 a4 a5 _ eQ a6
  rw [if_neg a6]
  by_cases a7 : c.U < 1
  · rw [if_pos (.inl a7)]; exact ck_g c n F a a2 a3 a4 a5 _ eQ a6 a7
  by_cases a8 : 65535 < c.U
  · rw [if_pos (.inr a8)]; exact ck_h c n F a a2 a3 a4 a5 _ eQ a6 a7 a8
  rw [if_neg (by rintro (q | q) <;> contradiction)]
  exact ck_i c n F a a2 a3 a4 a5 _ eQ a6 a7 a8
theorem fnRCheck17 (c : Cf) (n : Nat) (F : Fl) : FnOk Try.prog 15 [cfV c (.own 0)] [.ro 5 n (gFl F)] (iA (chkA c n F)) [.ro 5 n (gFl F)] := by
  unfold chkA
  by_cases a : c.P < 1
  · rw [if_pos (.inl a)]; exact rk_a c n F a
  by_cases a2 : 4096 < c.P
  · rw [if_pos (.inr (.inl a2))]; exact rk_b c n F a a2
  by_cases a3 : c.B = 0
  · rw [if_pos (.inr (.inr (.inl a3)))]; exact rk_c c n F a a2 a3
  by_cases a4 : c.S < 0
  · rw [if_pos (.inr (.inr (.inr (.inl a4))))]; exact rk_d c n F a a2 a3 a4
  by_cases a5 : 16 < c.S
  · rw [if_pos (.inr (.inr (.inr (.inr a5))))]; exact rk_e c n F a a2 a3 a4 a5
  rw [if_neg (by rintro (q | q | q | q | q) <;> contradiction)]
  obtain ⟨p1, p2⟩ := p16 a4 a5
  have pk : ∀ k : Nat, k ≤ 16 → (1 : Int) ≤ 2 ^ k ∧ (2 : Int) ^ k ≤ 65536 := by
    intro k hk
    have := p16 (S := k) (by omega) (by omega)
    simpa using this
  have l : CodeOk Try.prog 1 (.loop (loopOf Try.f15 0)) (mkSt 52 [(1, .nv (.one (.ptr 1 0))), (3, uA 1), (4, iA 0)] [.ro 5 n (gFl F), .box 25 (cfC c (.own 0))]) (.exit 0) (mkSt 52 [(1, .nv (.one (.ptr 1 0))), (3, uA (2 ^ c.S.toNat))] [.ro 5 n (gFl F), .box 25 (cfC c (.own 0))]) := by
    have l0 := count_loop (P := Try.prog) (m0 := 1) (c := loopOf Try.f15 0) (n := c.S.toNat) (fun i => mkSt 52 [(1, .nv (.one (.ptr 1 0))), (3, uA (2 ^ i)), (4, iA i)] [.ro 5 n (gFl F), .box 25 (cfC c (.own 0))]) (X := .exit 0) (by simp)
      (fun i hi => rkl_n c n i F _ _ (by omega) (by omega) (by
        obtain ⟨q1, q2⟩ := pk (i + 1) (by omega)
        rw [← Int.pow_succ]
        show ((2 : Int) ^ (i + 1)) % 18446744073709551616 = _
        omega)) (rkl_e c n _ F _ (by omega))
    rw [Int.pow_zero] at l0
    exact l0
  have p0 : (2 : Int) ^ c.S.toNat ≠ 0 := by omega
  have eQ : IntKind.wrap IntKind.u64 (Int.tdiv 18446744073709551615 (2 ^ c.S.toNat)) = 18446744073709551615 / (2 ^ c.S.toNat) := by
    rw [Int.tdiv_eq_ediv_of_nonneg (by omega)]
    have h1 : (0 : Int) ≤ 18446744073709551615 / (2 ^ c.S.toNat) := Int.ediv_nonneg (by omega) (by omega)
    have h2 : (18446744073709551615 : Int) / (2 ^ c.S.toNat) ≤ 18446744073709551615 := Int.ediv_le_self _ (by omega)
    show (18446744073709551615 / (2 ^ c.S.toNat) : Int) % 18446744073709551616 = _
    omega
  by_cases a6 : 18446744073709551615 / (2 ^ c.S.toNat) < c.B
  · rw [if_pos a6]; exact rk_f c n F a a2 a3 a4 a5 _ _ p0 eQ a6 l
  rw [if_neg a6]
  by_cases a7 : c.U < 1
  · rw [if_pos (.inl a7)]; exact rk_g c n F a a2 a3 a4 a5 _ _ p0 eQ a6 a7 l
  by_cases a8 : 65535 < c.U
  · rw [if_pos (.inr a8)]; exact rk_h c n F a a2 a3 a4 a5 _ _ p0 eQ a6 a7 a8 l
  rw [if_neg (by rintro (q | q) <;> contradiction)]
  exact rk_i c n F a a2 a3 a4 a5 _ _ p0 eQ a6 a7 a8 l
def gChkA : List SV → List Seg → Option (CS × List Prop)
  | [.nv (.agg [.val (.int .i64 a), .val (.int .i64 c), .val (.int .i64 l), .val (.int .i64 q), .val (.int .i64 P), .val (.int .u64 B), .val (.int .i64 S), .val (.int .u64 U), .val (.int .u64 r), .val (.int .u64 u), fl])], mem => match srcOf mem 5 fl with
    | some (n, g, _) => some (⟨[cfV ⟨a, c, l, q, P, B, S, U, r, u⟩ (.own 0)], [.ro 5 n (gFl (flOf g))], iA (chkA ⟨a, c, l, q, P, B, S, U, r, u⟩ n (flOf g)), [.gone]⟩, [])
    | none => none
  | _, _ => none
theorem spChkA : SpOk Try.prog 16 (.lift gChkA) := by
  intro args mem cs obl h ho
  unfold gChkA at h
  split at h
  · split at h
    · simp only [Option.some.injEq, Prod.mk.injEq] at h
      obtain ⟨rfl, rfl⟩ := h
      exact fnCheck17 _ _ _
    · cases h
  · cases h
def gChkR : List SV → List Seg → Option (CS × List Prop)
  | [.nv (.agg [.val (.int .i64 a), .val (.int .i64 c), .val (.int .i64 l), .val (.int .i64 q), .val (.int .i64 P), .val (.int .u64 B), .val (.int .i64 S), .val (.int .u64 U), .val (.int .u64 r), .val (.int .u64 u), fl])], mem => match srcOf mem 5 fl with
    | some (n, g, _) => some (⟨[cfV ⟨a, c, l, q, P, B, S, U, r, u⟩ (.own 0)], [.ro 5 n (gFl (flOf g))], iA (chkA ⟨a, c, l, q, P, B, S, U, r, u⟩ n (flOf g)), [.ro 5 n (gFl (flOf g))]⟩, [])
    | none => none
  | _, _ => none
theorem spChkR : SpOk Try.prog 15 (.lift gChkR) := by
  intro args mem cs obl h ho
  unfold gChkR at h
  split at h
  · split at h
    · simp only [Option.some.injEq, Prod.mk.injEq] at h
      obtain ⟨rfl, rfl⟩ := h
      exact fnRCheck17 _ _ _
    · cases h
  · cases h
def Gad8 : List (FuncId × Sp) := (16, .lift gChkA) :: (15, .lift gChkR) :: Gad7
theorem Gad8_ok : CtxOk Try.prog Gad8 := ctx_cons (enter_of Try.func16 (by kernel_rfl) (by kernel_rfl)) spChkA <|
  ctx_cons (enter_of Try.func15 (by kernel_rfl) (by kernel_rfl)) spChkR Gad7_ok
end Go.Proofs.Ytmhkbepnankopaa

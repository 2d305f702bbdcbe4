/- Runs of Go code, as printed by a program: no condition beyond those that each states. -/
import Derived.Test.YtkgkelfdmkginaaRnF
import Derived.Test.YtkgkelfdmkginaaChecked
import Derived.KernelRfl
namespace Go.Proofs.Ytkgkelfdmkginaa
set_option linter.unusedVariables false
set_option linter.unusedSimpArgs false
set_option maxRecDepth 100000
open Go.RowKit E
set_option maxHeartbeats 2000000 in
theorem sent_nil (r : Int) : FnOk Try.prog 9 ([.nv (.one (.val (.pointer none))), uA r]) ([]) (.any) ([]) :=
  fn_run Gnx_ok Try.func9 (orc := ⟨[false, false], []⟩) (obl := [false = false,
      false = false]) (by kernel_rfl) (.cons (by rfl) (.cons (by rfl) .nil)) (Nat.le_of_ble_eq_true (by kernel_rfl))

set_option maxHeartbeats 2000000 in
theorem virt (k v : Int) : FnOk Try.prog 12 ([.nv (.one (.ptr 0 0))]) ([.robox 60 [.val (.int .i64 k), .any, .any, .val (.int .u64 v)]]) (uA v) ([.robox 60 [.val (.int .i64 k), .any, .any, .val (.int .u64 v)]]) :=
  fn_run Gnx_ok Try.func12 (orc := ⟨[false], []⟩) (obl := [false = false,
      v = v,
      k = k,
      v = v]) (by kernel_rfl) (.cons (by rfl) (.cons (by rfl) (.cons (by rfl) (.cons (by rfl) .nil)))) (Nat.le_of_ble_eq_true (by kernel_rfl))

set_option maxHeartbeats 2000000 in
theorem virt_nil  : FnOk Try.prog 12 ([.nv (.one (.val (.pointer none)))]) ([]) (uA 0) ([]) :=
  fn_run Gnx_ok Try.func12 (orc := ⟨[true], []⟩) (obl := [true = true,
      (0 : Int) = (0 : Int)]) (by kernel_rfl) (.cons (by rfl) (.cons (by rfl) .nil)) (Nat.le_of_ble_eq_true (by kernel_rfl))

set_option maxHeartbeats 2000000 in
theorem tags (k v : Int) (n : Nat) (T : Nat → Int) (h : 1 ≤ n) (hn : n ≤ 64) : FnOk Try.prog 20 ([.nv (.one (.ptr 0 0))]) ([.robox 60 [.val (.int .i64 k), .any, .own 1, .val (.int .u64 v)], .ro 1 n (gU64 T)]) (.nv (.one (.own 2))) ([.robox 60 [.val (.int .i64 k), .any, .own 1, .val (.int .u64 v)], .ro 1 n (gU64 T), .row 31 1 n (gU64 T)]) :=
  fn_run Gnx_ok Try.func20 (orc := ⟨[false], []⟩) (obl := [false = false,
      (1 : Nat) ≤ n,
      n ≤ (4096 : Nat),
      n = n,
      ∀ (i : Nat), i < n → T i = colOf (gU64 T) i ∧ True,
      ∀ (i : Nat), i < n → (true && true) = true,
      k = k,
      v = v,
      n = n,
      ∀ (i : Nat), i < n → T i = T i ∧ True,
      n = n,
      ∀ (i : Nat), i < n → colOf (gU64 T) i = T i ∧ True]) (by kernel_rfl) (.cons (by rfl) (.cons (by assumption) (.cons (by omega) (.cons (by rfl) (.cons (by (intro _ _; exact ⟨rfl, trivial⟩)) (.cons (by (intro _ _; rfl)) (.cons (by rfl) (.cons (by rfl) (.cons (by rfl) (.cons (by (intro _ _; exact ⟨rfl, trivial⟩)) (.cons (by rfl) (.cons (by (intro _ _; exact ⟨rfl, trivial⟩)) .nil)))))))))))) (Nat.le_of_ble_eq_true (by kernel_rfl))

set_option maxHeartbeats 2000000 in
theorem tags_nil  : FnOk Try.prog 20 ([.nv (.one (.val (.pointer none)))]) ([]) (.nv (.one (.val (.slice none 0 0)))) ([]) :=
  fn_run Gnx_ok Try.func20 (orc := ⟨[true], []⟩) (obl := [true = true,
      Value.slice none (0 : Nat) (0 : Nat) = Value.slice none (0 : Nat) (0 : Nat)]) (by kernel_rfl) (.cons (by rfl) (.cons (by rfl) .nil)) (Nat.le_of_ble_eq_true (by kernel_rfl))

set_option maxHeartbeats 2000000 in
theorem next_nil (now x m : Int) : FnOk Try.prog 10 ([.nv (.one (.val (.pointer none))), uA now, .nv (.one (.val (.int .u32 x))), uA m]) ([]) (pairS 0 10) ([]) :=
  fn_run Gnx_ok Try.func10 (orc := ⟨[true], []⟩) (obl := [true = true,
      (0 : Int) = (0 : Int),
      (10 : Int) = (10 : Int)]) (by kernel_rfl) (.cons (by rfl) (.cons (by rfl) (.cons (by rfl) .nil))) (Nat.le_of_ble_eq_true (by kernel_rfl))

set_option maxHeartbeats 2000000 in
theorem lay_nil (v : Int) : FnOk Try.prog 16 ([.nv (.one (.val (.pointer none))), uA v, .nv (.one (.val (.slice none 0 0)))]) ([]) (iA 10) ([]) :=
  fn_run Gnx_ok Try.func16 (orc := ⟨[true], []⟩) (obl := [true = true,
      (10 : Int) = (10 : Int)]) (by kernel_rfl) (.cons (by rfl) (.cons (by rfl) .nil)) (Nat.le_of_ble_eq_true (by kernel_rfl))

set_option maxHeartbeats 2000000 in
theorem check_k (k : Int) (n : Nat) (F : Fl) (h : k < 1) : FnOk Try.prog 13 ([iA k, .nv (.one (.own 0))]) ([.ro 5 n (gFl F)]) (iA 22) ([.ro 5 n (gFl F)]) :=
  fn_run Gnx_ok Try.func13 (orc := ⟨[true, true], []⟩) (obl := [decide (k < (1 : Int)) = true,
      true = true,
      (22 : Int) = (22 : Int),
      n = n,
      ∀ (i : Nat), i < n → Fl.id F i = Fl.id F i ∧ Fl.co F i = Fl.co F i ∧ Fl.bu F i = Fl.bu F i ∧ Fl.si F i = Fl.si F i ∧ Fl.ca F i = Fl.ca F i ∧ True]) (by kernel_rfl) (.cons (by exact decide_eq_true (by omega)) (.cons (by rfl) (.cons (by rfl) (.cons (by rfl) (.cons (by (simp; done)) .nil))))) (Nat.le_of_ble_eq_true (by kernel_rfl))

set_option maxHeartbeats 2000000 in
theorem check_k3 (k : Int) (n : Nat) (F : Fl) (h : 3 < k) : FnOk Try.prog 13 ([iA k, .nv (.one (.own 0))]) ([.ro 5 n (gFl F)]) (iA 22) ([.ro 5 n (gFl F)]) :=
  fn_run Gnx_ok Try.func13 (orc := ⟨[false, true], []⟩) (obl := [decide (k < (1 : Int)) = false,
      decide (k > (3 : Int)) = true,
      (22 : Int) = (22 : Int),
      n = n,
      ∀ (i : Nat), i < n → Fl.id F i = Fl.id F i ∧ Fl.co F i = Fl.co F i ∧ Fl.bu F i = Fl.bu F i ∧ Fl.si F i = Fl.si F i ∧ Fl.ca F i = Fl.ca F i ∧ True]) (by kernel_rfl) (.cons (by exact decide_eq_false (by omega)) (.cons (by exact decide_eq_true (by omega)) (.cons (by rfl) (.cons (by rfl) (.cons (by (simp; done)) .nil))))) (Nat.le_of_ble_eq_true (by kernel_rfl))

set_option maxHeartbeats 2000000 in
theorem check_f (k : Int) (n : Nat) (F : Fl) (h : 1 ≤ k ∧ k ≤ 3) : FnOk Try.prog 13 ([iA k, .nv (.one (.own 0))]) ([.ro 5 n (gFl F)]) (iA (chkF n F)) ([.ro 5 n (gFl F)]) :=
  fn_run Gnx_ok Try.func13 (orc := ⟨[false, false], []⟩) (obl := [decide (k < (1 : Int)) = false,
      decide (k > (3 : Int)) = false,
      n = n,
      ∀ (i : Nat), i < n → Fl.id F i = Fl.id (flOf (gFl F)) i ∧ Fl.co F i = Fl.co (flOf (gFl F)) i ∧ Fl.bu F i = Fl.bu (flOf (gFl F)) i ∧ Fl.si F i = Fl.si (flOf (gFl F)) i ∧ Fl.ca F i = Fl.ca (flOf (gFl F)) i ∧ True,
      chkF n (flOf (gFl F)) = chkF n F,
      n = n,
      ∀ (i : Nat), i < n → Fl.id F i = Fl.id F i ∧ Fl.co F i = Fl.co F i ∧ Fl.bu F i = Fl.bu F i ∧ Fl.si F i = Fl.si F i ∧ Fl.ca F i = Fl.ca F i ∧ True]) (by kernel_rfl) (.cons (by exact decide_eq_false (by omega)) (.cons (by exact decide_eq_false (by omega)) (.cons (by rfl) (.cons (by (intro _ _; exact ⟨rfl, rfl, rfl, rfl, rfl, trivial⟩)) (.cons (by rfl) (.cons (by rfl) (.cons (by (simp; done)) .nil))))))) (Nat.le_of_ble_eq_true (by kernel_rfl))

set_option maxHeartbeats 2000000 in
theorem new_k (k : Int) (n : Nat) (F : Fl) (h : k < 1) : FnOk Try.prog 8 ([iA k, .nv (.one (.own 0))]) ([.ro 5 n (gFl F)]) (.tup [.one (.val (.pointer none)), .one (.val (.int .i64 22))]) ([.ro 5 n (gFl F)]) :=
  fn_run Gnx_ok Try.func8 (orc := ⟨[true, true], []⟩) (obl := [decide (k < (1 : Int)) = true,
      true = true,
      Value.pointer none = Value.pointer none,
      (22 : Int) = (22 : Int),
      n = n,
      ∀ (i : Nat), i < n → Fl.id F i = Fl.id F i ∧ Fl.co F i = Fl.co F i ∧ Fl.bu F i = Fl.bu F i ∧ Fl.si F i = Fl.si F i ∧ Fl.ca F i = Fl.ca F i ∧ True]) (by kernel_rfl) (.cons (by exact decide_eq_true (by omega)) (.cons (by rfl) (.cons (by rfl) (.cons (by rfl) (.cons (by rfl) (.cons (by (simp; done)) .nil)))))) (Nat.le_of_ble_eq_true (by kernel_rfl))

set_option maxHeartbeats 2000000 in
theorem new_k3 (k : Int) (n : Nat) (F : Fl) (h : 3 < k) : FnOk Try.prog 8 ([iA k, .nv (.one (.own 0))]) ([.ro 5 n (gFl F)]) (.tup [.one (.val (.pointer none)), .one (.val (.int .i64 22))]) ([.ro 5 n (gFl F)]) :=
  fn_run Gnx_ok Try.func8 (orc := ⟨[false, true], []⟩) (obl := [decide (k < (1 : Int)) = false,
      decide (k > (3 : Int)) = true,
      Value.pointer none = Value.pointer none,
      (22 : Int) = (22 : Int),
      n = n,
      ∀ (i : Nat), i < n → Fl.id F i = Fl.id F i ∧ Fl.co F i = Fl.co F i ∧ Fl.bu F i = Fl.bu F i ∧ Fl.si F i = Fl.si F i ∧ Fl.ca F i = Fl.ca F i ∧ True]) (by kernel_rfl) (.cons (by exact decide_eq_false (by omega)) (.cons (by exact decide_eq_true (by omega)) (.cons (by rfl) (.cons (by rfl) (.cons (by rfl) (.cons (by (simp; done)) .nil)))))) (Nat.le_of_ble_eq_true (by kernel_rfl))

set_option maxHeartbeats 2000000 in
theorem new_0 (k : Int) (F : Fl) (h : 1 ≤ k ∧ k ≤ 3) : FnOk Try.prog 8 ([iA k, .nv (.one (.own 0))]) ([.ro 5 0 (gFl F)]) (.tup [.one (.val (.pointer none)), .one (.val (.int .i64 29))]) ([.ro 5 0 (gFl F)]) :=
  fn_run Gnx_ok Try.func8 (orc := ⟨[false, false, true, true], []⟩) (obl := [decide (k < (1 : Int)) = false,
      decide (k > (3 : Int)) = false,
      ((↑(0 : Nat) : Int) == (0 : Int)) = true,
      true = true,
      Value.pointer none = Value.pointer none,
      (29 : Int) = (29 : Int),
      (0 : Nat) = (0 : Nat),
      ∀ (i : Nat), i < (0 : Nat) → Fl.id F i = Fl.id F i ∧ Fl.co F i = Fl.co F i ∧ Fl.bu F i = Fl.bu F i ∧ Fl.si F i = Fl.si F i ∧ Fl.ca F i = Fl.ca F i ∧ True]) (by kernel_rfl) (.cons (by exact decide_eq_false (by omega)) (.cons (by exact decide_eq_false (by omega)) (.cons (by rfl) (.cons (by rfl) (.cons (by rfl) (.cons (by rfl) (.cons (by rfl) (.cons (by omega) .nil)))))))) (Nat.le_of_ble_eq_true (by kernel_rfl))

set_option maxHeartbeats 2000000 in
theorem new_64 (k : Int) (n : Nat) (F : Fl) (h : 1 ≤ k ∧ k ≤ 3) (hn : 64 < n) : FnOk Try.prog 8 ([iA k, .nv (.one (.own 0))]) ([.ro 5 n (gFl F)]) (.tup [.one (.val (.pointer none)), .one (.val (.int .i64 29))]) ([.ro 5 n (gFl F)]) :=
  fn_run Gnx_ok Try.func8 (orc := ⟨[false, false, false, true], []⟩) (obl := [decide (k < (1 : Int)) = false,
      decide (k > (3 : Int)) = false,
      ((↑n : Int) == (0 : Int)) = false,
      decide ((↑n : Int) > (64 : Int)) = true,
      Value.pointer none = Value.pointer none,
      (29 : Int) = (29 : Int),
      n = n,
      ∀ (i : Nat), i < n → Fl.id F i = Fl.id F i ∧ Fl.co F i = Fl.co F i ∧ Fl.bu F i = Fl.bu F i ∧ Fl.si F i = Fl.si F i ∧ Fl.ca F i = Fl.ca F i ∧ True]) (by kernel_rfl) (.cons (by exact decide_eq_false (by omega)) (.cons (by exact decide_eq_false (by omega)) (.cons (by exact decide_eq_false (by omega)) (.cons (by exact decide_eq_true (by omega)) (.cons (by rfl) (.cons (by rfl) (.cons (by rfl) (.cons (by (simp; done)) .nil)))))))) (Nat.le_of_ble_eq_true (by kernel_rfl))

set_option maxHeartbeats 2000000 in
theorem new_d (k : Int) (n : Nat) (F : Fl) (h : 1 ≤ k ∧ k ≤ 3) (h1 : 1 ≤ n) (hn : n ≤ 64) (hd : dup (flOf (gFl F)).id n = true) : FnOk Try.prog 8 ([iA k, .nv (.one (.own 0))]) ([.ro 5 n (gFl F)]) (.tup [.one (.val (.pointer none)), .one (.val (.int .i64 30))]) ([.ro 5 n (gFl F)]) :=
  fn_run Gnx_ok Try.func8 (orc := ⟨[false, false, false, false, true], []⟩) (obl := [decide (k < (1 : Int)) = false,
      decide (k > (3 : Int)) = false,
      ((↑n : Int) == (0 : Int)) = false,
      decide ((↑n : Int) > (64 : Int)) = false,
      n ≤ (64 : Nat),
      n = n,
      ∀ (i : Nat), i < n → Fl.id F i = Fl.id (flOf (gFl F)) i ∧ Fl.co F i = Fl.co (flOf (gFl F)) i ∧ Fl.bu F i = Fl.bu (flOf (gFl F)) i ∧ Fl.si F i = Fl.si (flOf (gFl F)) i ∧ Fl.ca F i = Fl.ca (flOf (gFl F)) i ∧ True,
      dup (Fl.id (flOf (gFl F))) n = true,
      Value.pointer none = Value.pointer none,
      (30 : Int) = (30 : Int),
      n = n,
      ∀ (i : Nat), i < n → Fl.id F i = Fl.id F i ∧ Fl.co F i = Fl.co F i ∧ Fl.bu F i = Fl.bu F i ∧ Fl.si F i = Fl.si F i ∧ Fl.ca F i = Fl.ca F i ∧ True]) (by kernel_rfl) (.cons (by exact decide_eq_false (by omega)) (.cons (by exact decide_eq_false (by omega)) (.cons (by exact decide_eq_false (by omega)) (.cons (by exact decide_eq_false (by omega)) (.cons (by assumption) (.cons (by rfl) (.cons (by (intro _ _; exact ⟨rfl, rfl, rfl, rfl, rfl, trivial⟩)) (.cons (by assumption) (.cons (by rfl) (.cons (by rfl) (.cons (by rfl) (.cons (by (simp; done)) .nil)))))))))))) (Nat.le_of_ble_eq_true (by kernel_rfl))

set_option maxHeartbeats 2000000 in
theorem lay_n (k v w : Int) (n m : Nat) (F : Fl) (T U : Nat → Int) (h : n ≠ m) (hn : n ≤ 64) : FnOk Try.prog 16 ([.nv (.one (.ptr 0 0)), uA w, .nv (.one (.own 3))]) ([.box 60 [.val (.int .i64 k), .own 1, .own 2, .val (.int .u64 v)], .ro 5 n (gFl F), .row 31 1 n (gU64 T), .ro 1 m (gU64 U)]) (iA 6) ([.box 60 [.val (.int .i64 k), .own 1, .own 2, .val (.int .u64 v)], .ro 5 n (gFl F), .row 31 1 n (gU64 T), .ro 1 m (gU64 U)]) :=
  fn_run Gnx_ok Try.func16 (orc := ⟨[false, true], []⟩) (obl := [false = false,
      ((↑m : Int) != (↑n : Int)) = true,
      (6 : Int) = (6 : Int),
      k = k,
      v = v,
      n = n,
      ∀ (i : Nat), i < n → Fl.id F i = Fl.id F i ∧ Fl.co F i = Fl.co F i ∧ Fl.bu F i = Fl.bu F i ∧ Fl.si F i = Fl.si F i ∧ Fl.ca F i = Fl.ca F i ∧ True,
      n = n,
      ∀ (i : Nat), i < n → T i = T i ∧ True,
      m = m,
      ∀ (i : Nat), i < m → U i = U i ∧ True]) (by kernel_rfl) (.cons (by rfl) (.cons (by exact bne_iff_ne.2 (by omega)) (.cons (by rfl) (.cons (by rfl) (.cons (by rfl) (.cons (by rfl) (.cons (by (simp; done)) (.cons (by rfl) (.cons (by (intro _ _; exact ⟨rfl, trivial⟩)) (.cons (by rfl) (.cons (by (intro _ _; exact ⟨rfl, trivial⟩)) .nil))))))))))) (Nat.le_of_ble_eq_true (by kernel_rfl))

set_option maxHeartbeats 2000000 in
theorem lay_y (k v w : Int) (n : Nat) (F : Fl) (T U : Nat → Int) (hn : n ≤ 64) : FnOk Try.prog 16 ([.nv (.one (.ptr 0 0)), uA w, .nv (.one (.own 3))]) ([.box 60 [.val (.int .i64 k), .own 1, .own 2, .val (.int .u64 v)], .ro 5 n (gFl F), .row 31 1 n (gU64 T), .ro 1 n (gU64 U)]) (iA 0) ([.box 60 [.val (.int .i64 k), .own 1, .own 2, .val (.int .u64 w)], .ro 5 n (gFl F), .row 31 1 n (gU64 U), .ro 1 n (gU64 U)]) :=
  fn_run Gnx_ok Try.func16 (orc := ⟨[false, false], []⟩) (obl := [false = false,
      ((↑n : Int) != (↑n : Int)) = false,
      (0 : Int) = (0 : Int),
      k = k,
      w = w,
      n = n,
      ∀ (i : Nat), i < n → Fl.id F i = Fl.id F i ∧ Fl.co F i = Fl.co F i ∧ Fl.bu F i = Fl.bu F i ∧ Fl.si F i = Fl.si F i ∧ Fl.ca F i = Fl.ca F i ∧ True,
      n = n,
      ∀ (i : Nat), i < n → AllT (leAts ([(nat_lit 3, Bd.same (nat_lit 3)), (nat_lit 2, Bd.same (nat_lit 2)), (nat_lit 1, Bd.same (nat_lit 1)), (nat_lit 0, Bd.same (nat_lit 0))] ++ ([] ++ []) ++ ([] ++ ([] ++ ([] ++ ([] ++ ([((1 : Nat), Bd.same (1 : Nat))] ++ ([((2 : Nat), Bd.same (2 : Nat))] ++ ([] ++ []))) ++ []))) ++ ([] ++ ([] ++ []) ++ []))) (4 : Nat) (if (0 : Nat) ≤ i ∧ i < (0 : Nat) + Nat.min n n then gU64 U (i - (0 : Nat)) else gU64 T i) (gU64 U i)),
      n = n,
      ∀ (i : Nat), i < n → U i = U i ∧ True]) (by kernel_rfl) (.cons (by rfl) (.cons (by exact bne_eq_false_iff_eq.2 (by omega)) (.cons (by rfl) (.cons (by rfl) (.cons (by rfl) (.cons (by rfl) (.cons (by (simp; done)) (.cons (by rfl) (.cons (by (refine leG_eq (fun i hi => ?_) (fun _ _ => rfl); (repeat' split) <;> first | rfl | omega | (subst_vars; rfl) | (simp_all; done))) (.cons (by rfl) (.cons (by (intro _ _; exact ⟨rfl, trivial⟩)) .nil))))))))))) (Nat.le_of_ble_eq_true (by kernel_rfl))

set_option maxHeartbeats 2000000 in
theorem rlay_n (k v w : Int) (n m : Nat) (F : Fl) (T U : Nat → Int) (h : n ≠ m) (hn : n ≤ 64) : FnOk Try.prog 17 ([.nv (.one (.ptr 0 0)), uA w, .nv (.one (.own 3))]) ([.box 50 [.val (.int .i64 k), .own 1, .own 2, .val (.int .u64 v)], .ro 5 n (gFl F), .row 31 1 n (gU64 T), .ro 1 m (gU64 U)]) (iA 6) ([.box 50 [.val (.int .i64 k), .own 1, .own 4, .val (.int .u64 v)], .ro 5 n (gFl F), .gone, .ro 1 m (gU64 U), .row 31 1 n (gU64 T)]) :=
  fn_run Gnx_ok Try.func17 (orc := ⟨[true], []⟩) (obl := [((↑m : Int) != (↑n : Int)) = true,
      (6 : Int) = (6 : Int),
      k = k,
      v = v,
      n = n,
      ∀ (i : Nat), i < n → Fl.id F i = Fl.id F i ∧ Fl.co F i = Fl.co F i ∧ Fl.bu F i = Fl.bu F i ∧ Fl.si F i = Fl.si F i ∧ Fl.ca F i = Fl.ca F i ∧ True,
      m = m,
      ∀ (i : Nat), i < m → U i = U i ∧ True,
      n = n,
      ∀ (i : Nat), i < n → T i = T i ∧ True]) (by kernel_rfl) (.cons (by exact bne_iff_ne.2 (by omega)) (.cons (by rfl) (.cons (by rfl) (.cons (by rfl) (.cons (by rfl) (.cons (by (simp; done)) (.cons (by rfl) (.cons (by (intro _ _; exact ⟨rfl, trivial⟩)) (.cons (by rfl) (.cons (by (intro _ _; exact ⟨rfl, trivial⟩)) .nil)))))))))) (Nat.le_of_ble_eq_true (by kernel_rfl))

set_option maxHeartbeats 2000000 in
theorem rlay_y (k v w : Int) (n : Nat) (F : Fl) (T U : Nat → Int) (hn : n ≤ 64) : FnOk Try.prog 17 ([.nv (.one (.ptr 0 0)), uA w, .nv (.one (.own 3))]) ([.box 50 [.val (.int .i64 k), .own 1, .own 2, .val (.int .u64 v)], .ro 5 n (gFl F), .row 31 1 n (gU64 T), .ro 1 n (gU64 U)]) (iA 0) ([.box 50 [.val (.int .i64 k), .own 1, .own 4, .val (.int .u64 w)], .ro 5 n (gFl F), .gone, .ro 1 n (gU64 U), .row 31 1 n (gU64 U)]) :=
  fn_run Gnx_ok Try.func17 (orc := ⟨[false], []⟩) (obl := [((↑n : Int) != (↑n : Int)) = false,
      n ≤ (4611686018427387904 : Nat),
      n * (8 : Nat) ≤ (140737488355328 : Nat),
      (0 : Int) = (0 : Int),
      k = k,
      w = w,
      n = n,
      ∀ (i : Nat), i < n → Fl.id F i = Fl.id F i ∧ Fl.co F i = Fl.co F i ∧ Fl.bu F i = Fl.bu F i ∧ Fl.si F i = Fl.si F i ∧ Fl.ca F i = Fl.ca F i ∧ True,
      n = n,
      ∀ (i : Nat), i < n → U i = U i ∧ True,
      n = n,
      ∀ (i : Nat), i < n → U i = U i ∧ True]) (by kernel_rfl) (.cons (by exact bne_eq_false_iff_eq.2 (by omega)) (.cons (by omega) (.cons (by omega) (.cons (by rfl) (.cons (by rfl) (.cons (by rfl) (.cons (by rfl) (.cons (by (simp; done)) (.cons (by rfl) (.cons (by (intro _ _; exact ⟨rfl, trivial⟩)) (.cons (by rfl) (.cons (by (intro _ _; exact ⟨rfl, trivial⟩)) .nil)))))))))))) (Nat.le_of_ble_eq_true (by kernel_rfl))

set_option maxHeartbeats 2000000 in
theorem sent_1 (k v r : Int) (n n2 : Nat) (F : Fl) (T : Nat → Int) : FnOk Try.prog 9 ([.nv (.one (.ptr 0 0)), uA r]) ([.box 60 [.val (.int .i64 1), .own 1, .own 2, .val (.int .u64 v)], .ro 5 n (gFl F), .ro 1 n2 (gU64 T)]) (.any) ([.box 60 [.val (.int .i64 1), .own 1, .own 2, .val (.int .u64 r)], .ro 5 n (gFl F), .ro 1 n2 (gU64 T)]) :=
  fn_run Gnx_ok Try.func9 (orc := ⟨[true, true], []⟩) (obl := [true = true,
      ((1 : Int) == (1 : Int)) = true,
      (1 : Int) = (1 : Int),
      r = r,
      n = n,
      ∀ (i : Nat), i < n → Fl.id F i = Fl.id F i ∧ Fl.co F i = Fl.co F i ∧ Fl.bu F i = Fl.bu F i ∧ Fl.si F i = Fl.si F i ∧ Fl.ca F i = Fl.ca F i ∧ True,
      n2 = n2,
      ∀ (i : Nat), i < n2 → T i = T i ∧ True]) (by kernel_rfl) (.cons (by rfl) (.cons (by rfl) (.cons (by rfl) (.cons (by rfl) (.cons (by rfl) (.cons (by (simp; done)) (.cons (by rfl) (.cons (by (intro _ _; exact ⟨rfl, trivial⟩)) .nil)))))))) (Nat.le_of_ble_eq_true (by kernel_rfl))

set_option maxHeartbeats 2000000 in
theorem sent_0 (k v r : Int) (n n2 : Nat) (F : Fl) (T : Nat → Int) (hk : k ≠ 1) : FnOk Try.prog 9 ([.nv (.one (.ptr 0 0)), uA r]) ([.box 60 [.val (.int .i64 k), .own 1, .own 2, .val (.int .u64 v)], .ro 5 n (gFl F), .ro 1 n2 (gU64 T)]) (.any) ([.box 60 [.val (.int .i64 k), .own 1, .own 2, .val (.int .u64 v)], .ro 5 n (gFl F), .ro 1 n2 (gU64 T)]) :=
  fn_run Gnx_ok Try.func9 (orc := ⟨[true, false], []⟩) (obl := [true = true,
      (k == (1 : Int)) = false,
      k = k,
      v = v,
      n = n,
      ∀ (i : Nat), i < n → Fl.id F i = Fl.id F i ∧ Fl.co F i = Fl.co F i ∧ Fl.bu F i = Fl.bu F i ∧ Fl.si F i = Fl.si F i ∧ Fl.ca F i = Fl.ca F i ∧ True,
      n2 = n2,
      ∀ (i : Nat), i < n2 → T i = T i ∧ True]) (by kernel_rfl) (.cons (by rfl) (.cons (by exact decide_eq_false (by omega)) (.cons (by rfl) (.cons (by rfl) (.cons (by rfl) (.cons (by (simp; done)) (.cons (by rfl) (.cons (by (intro _ _; exact ⟨rfl, trivial⟩)) .nil)))))))) (Nat.le_of_ble_eq_true (by kernel_rfl))

set_option maxHeartbeats 2000000 in
theorem rsent_1 (k v r : Int) (n n2 : Nat) (F : Fl) (T : Nat → Int) : FnOk Try.prog 15 ([.nv (.one (.ptr 0 0)), uA r]) ([.box 50 [.val (.int .i64 1), .own 1, .own 2, .val (.int .u64 v)], .ro 5 n (gFl F), .ro 1 n2 (gU64 T)]) (.any) ([.box 50 [.val (.int .i64 1), .own 1, .own 2, .val (.int .u64 r)], .ro 5 n (gFl F), .ro 1 n2 (gU64 T)]) :=
  fn_run Gnx_ok Try.func15 (orc := ⟨[true], []⟩) (obl := [((1 : Int) == (1 : Int)) = true,
      (1 : Int) = (1 : Int),
      r = r,
      n = n,
      ∀ (i : Nat), i < n → Fl.id F i = Fl.id F i ∧ Fl.co F i = Fl.co F i ∧ Fl.bu F i = Fl.bu F i ∧ Fl.si F i = Fl.si F i ∧ Fl.ca F i = Fl.ca F i ∧ True,
      n2 = n2,
      ∀ (i : Nat), i < n2 → T i = T i ∧ True]) (by kernel_rfl) (.cons (by rfl) (.cons (by rfl) (.cons (by rfl) (.cons (by rfl) (.cons (by (simp; done)) (.cons (by rfl) (.cons (by (intro _ _; exact ⟨rfl, trivial⟩)) .nil))))))) (Nat.le_of_ble_eq_true (by kernel_rfl))

set_option maxHeartbeats 2000000 in
theorem rsent_0 (k v r : Int) (n n2 : Nat) (F : Fl) (T : Nat → Int) (hk : k ≠ 1) : FnOk Try.prog 15 ([.nv (.one (.ptr 0 0)), uA r]) ([.box 50 [.val (.int .i64 k), .own 1, .own 2, .val (.int .u64 v)], .ro 5 n (gFl F), .ro 1 n2 (gU64 T)]) (.any) ([.box 50 [.val (.int .i64 k), .own 1, .own 2, .val (.int .u64 v)], .ro 5 n (gFl F), .ro 1 n2 (gU64 T)]) :=
  fn_run Gnx_ok Try.func15 (orc := ⟨[false], []⟩) (obl := [(k == (1 : Int)) = false,
      k = k,
      v = v,
      n = n,
      ∀ (i : Nat), i < n → Fl.id F i = Fl.id F i ∧ Fl.co F i = Fl.co F i ∧ Fl.bu F i = Fl.bu F i ∧ Fl.si F i = Fl.si F i ∧ Fl.ca F i = Fl.ca F i ∧ True,
      n2 = n2,
      ∀ (i : Nat), i < n2 → T i = T i ∧ True]) (by kernel_rfl) (.cons (by exact decide_eq_false (by omega)) (.cons (by rfl) (.cons (by rfl) (.cons (by rfl) (.cons (by (simp; done)) (.cons (by rfl) (.cons (by (intro _ _; exact ⟨rfl, trivial⟩)) .nil))))))) (Nat.le_of_ble_eq_true (by kernel_rfl))

set_option maxHeartbeats 2000000 in
theorem nw_n3 (k : Int) (n i : Nat) (F : Fl) (h3 : k = 3) (hi : i < n) (hn : n ≤ 64) : CodeOk Try.prog 1 (loopOf Try.f8 0) (mkSt 56 [(0, iA k), (6, .nv (.one (.ptr 2 0))), (34, .nv (.one (.own 0))), (35, iA n), (36, iA i)] [.ro 5 n (gFl F), .row 56 5 n (gFl F), .box 60 [.val (.int .i64 k), .own 1, .own 3, .val (.int .u64 0)], .row 31 1 i (gU64 (tag0 k F))]) .normal (mkSt 56 [(0, iA k), (6, .nv (.one (.ptr 2 0))), (34, .nv (.one (.own 0))), (35, iA n), (36, iA (i + 1 : Nat))] [.ro 5 n (gFl F), .row 56 5 n (gFl F), .box 60 [.val (.int .i64 k), .own 1, .own 3, .val (.int .u64 0)], .row 31 1 (i + 1) (gU64 (tag0 k F))]) :=
  code_run Gnx_ok (orc := ⟨[true, true], []⟩) (obl := [decide ((↑i : Int) < (↑n : Int)) = true,
      (0 : Int) ≤ (↑i : Int),
      (↑i : Int) < (↑n : Int),
      Int.toNat (↑i : Int) < n,
      (k == (3 : Int)) = true,
      i + (1 : Nat) ≤ (4611686018427387904 : Nat),
      (i + (1 : Nat)) * (8 : Nat) ≤ (140737488355328 : Nat),
      k = k,
      (0 : Nat) = (0 : Nat),
      (↑n : Int) = (↑n : Int),
      IntKind.wrap IntKind.i64 ((↑i : Int) + (1 : Int)) = (↑(i + (1 : Nat)) : Int),
      n = n,
      ∀ (i : Nat), i < n → Fl.id F i = Fl.id F i ∧ Fl.co F i = Fl.co F i ∧ Fl.bu F i = Fl.bu F i ∧ Fl.si F i = Fl.si F i ∧ Fl.ca F i = Fl.ca F i ∧ True,
      n = n,
      ∀ (i : Nat), i < n → Fl.id F i = Fl.id F i ∧ Fl.co F i = Fl.co F i ∧ Fl.bu F i = Fl.bu F i ∧ Fl.si F i = Fl.si F i ∧ Fl.ca F i = Fl.ca F i ∧ True,
      k = k,
      (0 : Int) = (0 : Int),
      i + (1 : Nat) = i + (1 : Nat),
      ∀ (i_1 : Nat), i_1 < i + (1 : Nat) → AllT (leAts ([(nat_lit 0, Bd.same (nat_lit 0))] ++ ([] ++ ([((2 : Nat), Bd.same (2 : Nat))] ++ ([((0 : Nat), Bd.same (0 : Nat))] ++ ([] ++ ([] ++ []))))) ++ ([] ++ ([] ++ ([((1 : Nat), Bd.same (1 : Nat))] ++ ([((3 : Nat), Bd.same (6 : Nat))] ++ ([] ++ []))) ++ ([] ++ [])) ++ ([] ++ ([] ++ []) ++ []))) (4 : Nat) (if i_1 = i then [At.val (Value.int IntKind.u64 (Fl.si F (Int.toNat (↑i : Int))))] else gU64 (tag0 k F) i_1) (gU64 (tag0 k F) i_1))]) (by kernel_rfl) (.cons (by exact decide_eq_true (by omega)) (.cons (by (simp [tag0, h3]; done)) (.cons (by omega) (.cons (by assumption) (.cons (by (simp [tag0, h3]; done)) (.cons (by omega) (.cons (by omega) (.cons (by rfl) (.cons (by rfl) (.cons (by rfl) (.cons (by exact w64 (by omega) (by omega)) (.cons (by rfl) (.cons (by (simp [tag0, h3]; done)) (.cons (by rfl) (.cons (by (simp [tag0, h3]; done)) (.cons (by rfl) (.cons (by rfl) (.cons (by rfl) (.cons (by (refine leG_eq (fun i hi => ?_) (fun _ _ => rfl); (repeat' split) <;> first | rfl | omega | (simp_all [tag0]; done))) .nil))))))))))))))))))) (Nat.le_of_ble_eq_true (by kernel_rfl))

set_option maxHeartbeats 2000000 in
theorem nw_n (k : Int) (n i : Nat) (F : Fl) (h3 : k ≠ 3) (hi : i < n) (hn : n ≤ 64) : CodeOk Try.prog 1 (loopOf Try.f8 0) (mkSt 56 [(0, iA k), (6, .nv (.one (.ptr 2 0))), (34, .nv (.one (.own 0))), (35, iA n), (36, iA i)] [.ro 5 n (gFl F), .row 56 5 n (gFl F), .box 60 [.val (.int .i64 k), .own 1, .own 3, .val (.int .u64 0)], .row 31 1 i (gU64 (tag0 k F))]) .normal (mkSt 56 [(0, iA k), (6, .nv (.one (.ptr 2 0))), (34, .nv (.one (.own 0))), (35, iA n), (36, iA (i + 1 : Nat))] [.ro 5 n (gFl F), .row 56 5 n (gFl F), .box 60 [.val (.int .i64 k), .own 1, .own 3, .val (.int .u64 0)], .row 31 1 (i + 1) (gU64 (tag0 k F))]) :=
  code_run Gnx_ok (orc := ⟨[true, false], []⟩) (obl := [decide ((↑i : Int) < (↑n : Int)) = true,
      (0 : Int) ≤ (↑i : Int),
      (↑i : Int) < (↑n : Int),
      Int.toNat (↑i : Int) < n,
      (k == (3 : Int)) = false,
      i + (1 : Nat) ≤ (4611686018427387904 : Nat),
      (i + (1 : Nat)) * (8 : Nat) ≤ (140737488355328 : Nat),
      k = k,
      (0 : Nat) = (0 : Nat),
      (↑n : Int) = (↑n : Int),
      IntKind.wrap IntKind.i64 ((↑i : Int) + (1 : Int)) = (↑(i + (1 : Nat)) : Int),
      n = n,
      ∀ (i : Nat), i < n → Fl.id F i = Fl.id F i ∧ Fl.co F i = Fl.co F i ∧ Fl.bu F i = Fl.bu F i ∧ Fl.si F i = Fl.si F i ∧ Fl.ca F i = Fl.ca F i ∧ True,
      n = n,
      ∀ (i : Nat), i < n → Fl.id F i = Fl.id F i ∧ Fl.co F i = Fl.co F i ∧ Fl.bu F i = Fl.bu F i ∧ Fl.si F i = Fl.si F i ∧ Fl.ca F i = Fl.ca F i ∧ True,
      k = k,
      (0 : Int) = (0 : Int),
      i + (1 : Nat) = i + (1 : Nat),
      ∀ (i_1 : Nat), i_1 < i + (1 : Nat) → AllT (leAts ([(nat_lit 0, Bd.same (nat_lit 0))] ++ ([] ++ ([((2 : Nat), Bd.same (2 : Nat))] ++ ([((0 : Nat), Bd.same (0 : Nat))] ++ ([] ++ ([] ++ []))))) ++ ([] ++ ([] ++ ([((1 : Nat), Bd.same (1 : Nat))] ++ ([((3 : Nat), Bd.same (6 : Nat))] ++ ([] ++ []))) ++ ([] ++ [])) ++ ([] ++ ([] ++ []) ++ []))) (4 : Nat) (if i_1 = i then [At.val (Value.int IntKind.u64 (0 : Int))] else gU64 (tag0 k F) i_1) (gU64 (tag0 k F) i_1))]) (by kernel_rfl) (.cons (by exact decide_eq_true (by omega)) (.cons (by (simp [tag0, h3]; done)) (.cons (by omega) (.cons (by assumption) (.cons (by (simp [tag0, h3]; done)) (.cons (by omega) (.cons (by omega) (.cons (by rfl) (.cons (by rfl) (.cons (by rfl) (.cons (by exact w64 (by omega) (by omega)) (.cons (by rfl) (.cons (by (simp [tag0, h3]; done)) (.cons (by rfl) (.cons (by (simp [tag0, h3]; done)) (.cons (by rfl) (.cons (by rfl) (.cons (by rfl) (.cons (by (refine leG_eq (fun i hi => ?_) (fun _ _ => rfl); (repeat' split) <;> first | rfl | omega | (simp_all [tag0]; done))) .nil))))))))))))))))))) (Nat.le_of_ble_eq_true (by kernel_rfl))

set_option maxHeartbeats 2000000 in
theorem nw_e (k : Int) (n : Nat) (F : Fl) (hn : n ≤ 64) : CodeOk Try.prog 1 (loopOf Try.f8 0) (mkSt 56 [(0, iA k), (6, .nv (.one (.ptr 2 0))), (34, .nv (.one (.own 0))), (35, iA n), (36, iA n)] [.ro 5 n (gFl F), .row 56 5 n (gFl F), .box 60 [.val (.int .i64 k), .own 1, .own 3, .val (.int .u64 0)], .row 31 1 n (gU64 (tag0 k F))]) (.exit 1) (mkSt 56 [(6, .nv (.one (.ptr 2 0)))] [.ro 5 n (gFl F), .row 56 5 n (gFl F), .box 60 [.val (.int .i64 k), .own 1, .own 3, .val (.int .u64 0)], .row 31 1 n (gU64 (tag0 k F))]) :=
  code_run Gnx_ok (orc := ⟨[false], []⟩) (obl := [decide ((↑n : Int) < (↑n : Int)) = false,
      (0 : Nat) = (0 : Nat),
      n = n,
      ∀ (i : Nat), i < n → Fl.id F i = Fl.id F i ∧ Fl.co F i = Fl.co F i ∧ Fl.bu F i = Fl.bu F i ∧ Fl.si F i = Fl.si F i ∧ Fl.ca F i = Fl.ca F i ∧ True,
      n = n,
      ∀ (i : Nat), i < n → Fl.id F i = Fl.id F i ∧ Fl.co F i = Fl.co F i ∧ Fl.bu F i = Fl.bu F i ∧ Fl.si F i = Fl.si F i ∧ Fl.ca F i = Fl.ca F i ∧ True,
      k = k,
      (0 : Int) = (0 : Int),
      n = n,
      ∀ (i : Nat), i < n → tag0 k F i = tag0 k F i ∧ True]) (by kernel_rfl) (.cons (by exact decide_eq_false (by omega)) (.cons (by rfl) (.cons (by rfl) (.cons (by (simp; done)) (.cons (by rfl) (.cons (by (simp; done)) (.cons (by rfl) (.cons (by rfl) (.cons (by rfl) (.cons (by (intro _ _; exact ⟨rfl, trivial⟩)) .nil)))))))))) (Nat.le_of_ble_eq_true (by kernel_rfl))

set_option maxHeartbeats 2000000 in
theorem new_ok (k : Int) (n : Nat) (F : Fl) (h : 1 ≤ k ∧ k ≤ 3) (h1 : 1 ≤ n) (hn : n ≤ 64) (hd : dup (flOf (gFl F)).id n = false) (l : CodeOk Try.prog 1 (.loop (loopOf Try.f8 0)) (mkSt 56 [(0, iA k), (6, .nv (.one (.ptr 2 0))), (34, .nv (.one (.own 0))), (35, iA n), (36, iA (0 : Nat))] [.ro 5 n (gFl F), .row 56 5 n (gFl F), .box 60 [.val (.int .i64 k), .own 1, .own 3, .val (.int .u64 0)], .row 31 1 0 (gU64 (tag0 k F))]) (.exit 1) (mkSt 56 [(6, .nv (.one (.ptr 2 0)))] [.ro 5 n (gFl F), .row 56 5 n (gFl F), .box 60 [.val (.int .i64 k), .own 1, .own 3, .val (.int .u64 0)], .row 31 1 n (gU64 (tag0 k F))])) : FnOk Try.prog 8 ([iA k, .nv (.one (.own 0))]) ([.ro 5 n (gFl F)]) (.tup [.one (.ptr 1 0), .one (.val (.int .i64 0))]) ([.ro 5 n (gFl F), .box 60 [.val (.int .i64 k), .own 2, .own 3, .val (.int .u64 0)], .row 56 5 n (gFl F), .row 31 1 n (gU64 (tag0 k F))]) :=
  fn_run Gnx_ok Try.func8 (orc := ⟨[false, false, false, false, false], [⟨mkSt 56 [(0, iA k), (6, .nv (.one (.ptr 2 0))), (34, .nv (.one (.own 0))), (35, iA n), (36, iA (0 : Nat))] [.ro 5 n (gFl F), .row 56 5 n (gFl F), .box 60 [.val (.int .i64 k), .own 1, .own 3, .val (.int .u64 0)], .row 31 1 0 (gU64 (tag0 k F))], .exit 1, mkSt 56 [(6, .nv (.one (.ptr 2 0)))] [.ro 5 n (gFl F), .row 56 5 n (gFl F), .box 60 [.val (.int .i64 k), .own 1, .own 3, .val (.int .u64 0)], .row 31 1 n (gU64 (tag0 k F))]⟩]⟩) (obl := [decide (k < (1 : Int)) = false,
      decide (k > (3 : Int)) = false,
      ((↑n : Int) == (0 : Int)) = false,
      decide ((↑n : Int) > (64 : Int)) = false,
      n ≤ (64 : Nat),
      n = n,
      ∀ (i : Nat), i < n → Fl.id F i = Fl.id (flOf (gFl F)) i ∧ Fl.co F i = Fl.co (flOf (gFl F)) i ∧ Fl.bu F i = Fl.bu (flOf (gFl F)) i ∧ Fl.si F i = Fl.si (flOf (gFl F)) i ∧ Fl.ca F i = Fl.ca (flOf (gFl F)) i ∧ True,
      dup (Fl.id (flOf (gFl F))) n = false,
      (1 : Nat) ≤ n,
      n ≤ (4096 : Nat),
      n = n,
      ∀ (i : Nat), i < n → Fl.id F i = Fl.id (flOf (gFl F)) i ∧ Fl.co F i = Fl.co (flOf (gFl F)) i ∧ Fl.bu F i = Fl.bu (flOf (gFl F)) i ∧ Fl.si F i = Fl.si (flOf (gFl F)) i ∧ Fl.ca F i = Fl.ca (flOf (gFl F)) i ∧ True,
      ∀ (i : Nat), i < n → (true && (true && (true && (true && (true && true))))) = true,
      k = k,
      (0 : Nat) = (0 : Nat),
      (↑n : Int) = (↑n : Int),
      (0 : Int) = (↑(0 : Nat) : Int),
      n = n,
      ∀ (i : Nat), i < n → Fl.id F i = Fl.id F i ∧ Fl.co F i = Fl.co F i ∧ Fl.bu F i = Fl.bu F i ∧ Fl.si F i = Fl.si F i ∧ Fl.ca F i = Fl.ca F i ∧ True,
      n = n,
      ∀ (i : Nat), i < n → Fl.id (flOf (gFl F)) i = Fl.id F i ∧ Fl.co (flOf (gFl F)) i = Fl.co F i ∧ Fl.bu (flOf (gFl F)) i = Fl.bu F i ∧ Fl.si (flOf (gFl F)) i = Fl.si F i ∧ Fl.ca (flOf (gFl F)) i = Fl.ca F i ∧ True,
      k = k,
      (0 : Int) = (0 : Int),
      (0 : Nat) = (0 : Nat),
      (1 : Nat) ≤ (4 : Nat),
      CodeOk Try.prog (1 : Nat) (Code.loop (loopOf Try.f8 (0 : Nat))) (mkSt (56 : Nat) [((0 : Nat), iA k), ((6 : Nat), SV.nv (NV.one (At.ptr (2 : Nat) (0 : Nat)))), ((34 : Nat), SV.nv (NV.one (At.own (0 : Nat)))), ((35 : Nat), iA (↑n : Int)), ((36 : Nat), iA (↑(0 : Nat) : Int))] [Seg.ro (5 : Nat) n (gFl F), Seg.row (56 : TypeId) (5 : Nat) n (gFl F), Seg.box (60 : TypeId) [At.val (Value.int IntKind.i64 k), At.own (1 : Nat), At.own (3 : Nat), At.val (Value.int IntKind.u64 (0 : Int))], Seg.row (31 : TypeId) (1 : Nat) (0 : Nat) (gU64 (tag0 k F))]) (Ex.exit (1 : Nat)) (mkSt (56 : Nat) [((6 : Nat), SV.nv (NV.one (At.ptr (2 : Nat) (0 : Nat))))] [Seg.ro (5 : Nat) n (gFl F), Seg.row (56 : TypeId) (5 : Nat) n (gFl F), Seg.box (60 : TypeId) [At.val (Value.int IntKind.i64 k), At.own (1 : Nat), At.own (3 : Nat), At.val (Value.int IntKind.u64 (0 : Int))], Seg.row (31 : TypeId) (1 : Nat) n (gU64 (tag0 k F))]),
      (0 : Nat) = (0 : Nat),
      (0 : Int) = (0 : Int),
      n = n,
      ∀ (i : Nat), i < n → Fl.id F i = Fl.id F i ∧ Fl.co F i = Fl.co F i ∧ Fl.bu F i = Fl.bu F i ∧ Fl.si F i = Fl.si F i ∧ Fl.ca F i = Fl.ca F i ∧ True,
      k = k,
      (0 : Int) = (0 : Int),
      n = n,
      ∀ (i : Nat), i < n → Fl.id F i = Fl.id F i ∧ Fl.co F i = Fl.co F i ∧ Fl.bu F i = Fl.bu F i ∧ Fl.si F i = Fl.si F i ∧ Fl.ca F i = Fl.ca F i ∧ True,
      n = n,
      ∀ (i : Nat), i < n → tag0 k F i = tag0 k F i ∧ True]) (by kernel_rfl) (.cons (by exact decide_eq_false (by omega)) (.cons (by exact decide_eq_false (by omega)) (.cons (by exact decide_eq_false (by omega)) (.cons (by exact decide_eq_false (by omega)) (.cons (by assumption) (.cons (by rfl) (.cons (by (intro _ _; exact ⟨rfl, rfl, rfl, rfl, rfl, trivial⟩)) (.cons (by assumption) (.cons (by assumption) (.cons (by omega) (.cons (by rfl) (.cons (by (intro _ _; exact ⟨rfl, rfl, rfl, rfl, rfl, trivial⟩)) (.cons (by (intro _ _; rfl)) (.cons (by rfl) (.cons (by rfl) (.cons (by rfl) (.cons (by rfl) (.cons (by rfl) (.cons (by (simp; done)) (.cons (by rfl) (.cons (by (intro _ _; exact ⟨rfl, rfl, rfl, rfl, rfl, trivial⟩)) (.cons (by rfl) (.cons (by rfl) (.cons (by rfl) (.cons (by trivial) (.cons (by assumption) (.cons (by rfl) (.cons (by rfl) (.cons (by rfl) (.cons (by (simp; done)) (.cons (by rfl) (.cons (by rfl) (.cons (by rfl) (.cons (by (simp; done)) (.cons (by rfl) (.cons (by (intro _ _; exact ⟨rfl, trivial⟩)) .nil)))))))))))))))))))))))))))))))))))) (Nat.le_of_ble_eq_true (by kernel_rfl))

set_option maxHeartbeats 2000000 in
theorem rw_n3 (k : Int) (n i : Nat) (F : Fl) (h3 : k = 3) (hi : i < n) (hn : n ≤ 64) : CodeOk Try.prog 1 (loopOf Try.f14 0) (mkSt 36 [(0, iA k), (1, .nv (.one (.own 0))), (5, .nv (.one (.ptr 1 0))), (6, iA i)] [.ro 5 n (gFl F), .box 50 [.val (.int .i64 k), .own 0, .own 2, .val (.int .u64 0)], .row 31 1 i (gU64 (tag0 k F))]) .normal (mkSt 36 [(0, iA k), (1, .nv (.one (.own 0))), (5, .nv (.one (.ptr 1 0))), (6, iA (i + 1 : Nat))] [.ro 5 n (gFl F), .box 50 [.val (.int .i64 k), .own 0, .own 2, .val (.int .u64 0)], .row 31 1 (i + 1) (gU64 (tag0 k F))]) :=
  code_run Gnx_ok (orc := ⟨[true, true], []⟩) (obl := [decide ((↑i : Int) < (↑n : Int)) = true,
      (k == (3 : Int)) = true,
      (0 : Int) ≤ (↑i : Int),
      (↑i : Int) < (↑n : Int),
      Int.toNat (↑i : Int) < n,
      i + (1 : Nat) ≤ (4611686018427387904 : Nat),
      (i + (1 : Nat)) * (8 : Nat) ≤ (140737488355328 : Nat),
      k = k,
      (0 : Nat) = (0 : Nat),
      IntKind.wrap IntKind.i64 ((↑i : Int) + (1 : Int)) = (↑(i + (1 : Nat)) : Int),
      n = n,
      ∀ (i : Nat), i < n → Fl.id F i = Fl.id F i ∧ Fl.co F i = Fl.co F i ∧ Fl.bu F i = Fl.bu F i ∧ Fl.si F i = Fl.si F i ∧ Fl.ca F i = Fl.ca F i ∧ True,
      k = k,
      (0 : Int) = (0 : Int),
      i + (1 : Nat) = i + (1 : Nat),
      ∀ (i_1 : Nat), i_1 < i + (1 : Nat) → AllT (leAts ([(nat_lit 0, Bd.same (nat_lit 0))] ++ ([] ++ ([((0 : Nat), Bd.same (0 : Nat))] ++ ([((1 : Nat), Bd.same (1 : Nat))] ++ ([] ++ [])))) ++ ([] ++ ([] ++ ([] ++ ([((0 : Nat), Bd.same (0 : Nat))] ++ ([((2 : Nat), Bd.same (4 : Nat))] ++ ([] ++ []))) ++ [])) ++ ([] ++ ([] ++ []) ++ []))) (3 : Nat) (if i_1 = i then [At.val (Value.int IntKind.u64 (Fl.si F (Int.toNat (↑i : Int))))] else gU64 (tag0 k F) i_1) (gU64 (tag0 k F) i_1))]) (by kernel_rfl) (.cons (by exact decide_eq_true (by omega)) (.cons (by (simp [tag0, h3]; done)) (.cons (by (simp [tag0, h3]; done)) (.cons (by omega) (.cons (by assumption) (.cons (by omega) (.cons (by omega) (.cons (by rfl) (.cons (by rfl) (.cons (by exact w64 (by omega) (by omega)) (.cons (by rfl) (.cons (by (simp [tag0, h3]; done)) (.cons (by rfl) (.cons (by rfl) (.cons (by rfl) (.cons (by (refine leG_eq (fun i hi => ?_) (fun _ _ => rfl); (repeat' split) <;> first | rfl | omega | (simp_all [tag0]; done))) .nil)))))))))))))))) (Nat.le_of_ble_eq_true (by kernel_rfl))

set_option maxHeartbeats 2000000 in
theorem rw_n (k : Int) (n i : Nat) (F : Fl) (h3 : k ≠ 3) (hi : i < n) (hn : n ≤ 64) : CodeOk Try.prog 1 (loopOf Try.f14 0) (mkSt 36 [(0, iA k), (1, .nv (.one (.own 0))), (5, .nv (.one (.ptr 1 0))), (6, iA i)] [.ro 5 n (gFl F), .box 50 [.val (.int .i64 k), .own 0, .own 2, .val (.int .u64 0)], .row 31 1 i (gU64 (tag0 k F))]) .normal (mkSt 36 [(0, iA k), (1, .nv (.one (.own 0))), (5, .nv (.one (.ptr 1 0))), (6, iA (i + 1 : Nat))] [.ro 5 n (gFl F), .box 50 [.val (.int .i64 k), .own 0, .own 2, .val (.int .u64 0)], .row 31 1 (i + 1) (gU64 (tag0 k F))]) :=
  code_run Gnx_ok (orc := ⟨[true, false], []⟩) (obl := [decide ((↑i : Int) < (↑n : Int)) = true,
      (k == (3 : Int)) = false,
      i + (1 : Nat) ≤ (4611686018427387904 : Nat),
      (i + (1 : Nat)) * (8 : Nat) ≤ (140737488355328 : Nat),
      k = k,
      (0 : Nat) = (0 : Nat),
      IntKind.wrap IntKind.i64 ((↑i : Int) + (1 : Int)) = (↑(i + (1 : Nat)) : Int),
      n = n,
      ∀ (i : Nat), i < n → Fl.id F i = Fl.id F i ∧ Fl.co F i = Fl.co F i ∧ Fl.bu F i = Fl.bu F i ∧ Fl.si F i = Fl.si F i ∧ Fl.ca F i = Fl.ca F i ∧ True,
      k = k,
      (0 : Int) = (0 : Int),
      i + (1 : Nat) = i + (1 : Nat),
      ∀ (i_1 : Nat), i_1 < i + (1 : Nat) → AllT (leAts ([(nat_lit 0, Bd.same (nat_lit 0))] ++ ([] ++ ([((0 : Nat), Bd.same (0 : Nat))] ++ ([((1 : Nat), Bd.same (1 : Nat))] ++ ([] ++ [])))) ++ ([] ++ ([] ++ ([] ++ ([((0 : Nat), Bd.same (0 : Nat))] ++ ([((2 : Nat), Bd.same (4 : Nat))] ++ ([] ++ []))) ++ [])) ++ ([] ++ ([] ++ []) ++ []))) (3 : Nat) (if i_1 = i then [At.val (Value.int IntKind.u64 (0 : Int))] else gU64 (tag0 k F) i_1) (gU64 (tag0 k F) i_1))]) (by kernel_rfl) (.cons (by exact decide_eq_true (by omega)) (.cons (by (simp [tag0, h3]; done)) (.cons (by omega) (.cons (by omega) (.cons (by rfl) (.cons (by rfl) (.cons (by exact w64 (by omega) (by omega)) (.cons (by rfl) (.cons (by (simp [tag0, h3]; done)) (.cons (by rfl) (.cons (by rfl) (.cons (by rfl) (.cons (by (refine leG_eq (fun i hi => ?_) (fun _ _ => rfl); (repeat' split) <;> first | rfl | omega | (simp_all [tag0]; done))) .nil))))))))))))) (Nat.le_of_ble_eq_true (by kernel_rfl))

set_option maxHeartbeats 2000000 in
theorem rw_e (k : Int) (n : Nat) (F : Fl) (hn : n ≤ 64) : CodeOk Try.prog 1 (loopOf Try.f14 0) (mkSt 36 [(0, iA k), (1, .nv (.one (.own 0))), (5, .nv (.one (.ptr 1 0))), (6, iA n)] [.ro 5 n (gFl F), .box 50 [.val (.int .i64 k), .own 0, .own 2, .val (.int .u64 0)], .row 31 1 n (gU64 (tag0 k F))]) (.exit 0) (mkSt 36 [(5, .nv (.one (.ptr 1 0)))] [.ro 5 n (gFl F), .box 50 [.val (.int .i64 k), .own 0, .own 2, .val (.int .u64 0)], .row 31 1 n (gU64 (tag0 k F))]) :=
  code_run Gnx_ok (orc := ⟨[false], []⟩) (obl := [decide ((↑n : Int) < (↑n : Int)) = false,
      (0 : Nat) = (0 : Nat),
      n = n,
      ∀ (i : Nat), i < n → Fl.id F i = Fl.id F i ∧ Fl.co F i = Fl.co F i ∧ Fl.bu F i = Fl.bu F i ∧ Fl.si F i = Fl.si F i ∧ Fl.ca F i = Fl.ca F i ∧ True,
      k = k,
      (0 : Int) = (0 : Int),
      n = n,
      ∀ (i : Nat), i < n → tag0 k F i = tag0 k F i ∧ True]) (by kernel_rfl) (.cons (by exact decide_eq_false (by omega)) (.cons (by rfl) (.cons (by rfl) (.cons (by (simp; done)) (.cons (by rfl) (.cons (by rfl) (.cons (by rfl) (.cons (by (intro _ _; exact ⟨rfl, trivial⟩)) .nil)))))))) (Nat.le_of_ble_eq_true (by kernel_rfl))

set_option maxHeartbeats 2000000 in
theorem rnew (k : Int) (n : Nat) (F : Fl) (hn : n ≤ 64) (l : CodeOk Try.prog 1 (.loop (loopOf Try.f14 0)) (mkSt 36 [(0, iA k), (1, .nv (.one (.own 0))), (5, .nv (.one (.ptr 1 0))), (6, iA (0 : Nat))] [.ro 5 n (gFl F), .box 50 [.val (.int .i64 k), .own 0, .own 2, .val (.int .u64 0)], .row 31 1 0 (gU64 (tag0 k F))]) (.exit 0) (mkSt 36 [(5, .nv (.one (.ptr 1 0)))] [.ro 5 n (gFl F), .box 50 [.val (.int .i64 k), .own 0, .own 2, .val (.int .u64 0)], .row 31 1 n (gU64 (tag0 k F))])) : FnOk Try.prog 14 ([iA k, .nv (.one (.own 0))]) ([.ro 5 n (gFl F)]) (.nv (.one (.ptr 1 0))) ([.ro 5 n (gFl F), .box 50 [.val (.int .i64 k), .own 0, .own 2, .val (.int .u64 0)], .row 31 1 n (gU64 (tag0 k F))]) :=
  fn_run Gnx_ok Try.func14 (orc := ⟨[], [⟨mkSt 36 [(0, iA k), (1, .nv (.one (.own 0))), (5, .nv (.one (.ptr 1 0))), (6, iA (0 : Nat))] [.ro 5 n (gFl F), .box 50 [.val (.int .i64 k), .own 0, .own 2, .val (.int .u64 0)], .row 31 1 0 (gU64 (tag0 k F))], .exit 0, mkSt 36 [(5, .nv (.one (.ptr 1 0)))] [.ro 5 n (gFl F), .box 50 [.val (.int .i64 k), .own 0, .own 2, .val (.int .u64 0)], .row 31 1 n (gU64 (tag0 k F))]⟩]⟩) (obl := [k = k,
      (0 : Nat) = (0 : Nat),
      (0 : Int) = (↑(0 : Nat) : Int),
      n = n,
      ∀ (i : Nat), i < n → Fl.id F i = Fl.id F i ∧ Fl.co F i = Fl.co F i ∧ Fl.bu F i = Fl.bu F i ∧ Fl.si F i = Fl.si F i ∧ Fl.ca F i = Fl.ca F i ∧ True,
      k = k,
      (0 : Int) = (0 : Int),
      (0 : Nat) = (0 : Nat),
      (1 : Nat) ≤ (3 : Nat),
      CodeOk Try.prog (1 : Nat) (Code.loop (loopOf Try.f14 (0 : Nat))) (mkSt (36 : Nat) [((0 : Nat), iA k), ((1 : Nat), SV.nv (NV.one (At.own (0 : Nat)))), ((5 : Nat), SV.nv (NV.one (At.ptr (1 : Nat) (0 : Nat)))), ((6 : Nat), iA (↑(0 : Nat) : Int))] [Seg.ro (5 : Nat) n (gFl F), Seg.box (50 : TypeId) [At.val (Value.int IntKind.i64 k), At.own (0 : Nat), At.own (2 : Nat), At.val (Value.int IntKind.u64 (0 : Int))], Seg.row (31 : TypeId) (1 : Nat) (0 : Nat) (gU64 (tag0 k F))]) (Ex.exit (0 : Nat)) (mkSt (36 : Nat) [((5 : Nat), SV.nv (NV.one (At.ptr (1 : Nat) (0 : Nat))))] [Seg.ro (5 : Nat) n (gFl F), Seg.box (50 : TypeId) [At.val (Value.int IntKind.i64 k), At.own (0 : Nat), At.own (2 : Nat), At.val (Value.int IntKind.u64 (0 : Int))], Seg.row (31 : TypeId) (1 : Nat) n (gU64 (tag0 k F))]),
      (0 : Nat) = (0 : Nat),
      n = n,
      ∀ (i : Nat), i < n → Fl.id F i = Fl.id F i ∧ Fl.co F i = Fl.co F i ∧ Fl.bu F i = Fl.bu F i ∧ Fl.si F i = Fl.si F i ∧ Fl.ca F i = Fl.ca F i ∧ True,
      k = k,
      (0 : Int) = (0 : Int),
      n = n,
      ∀ (i : Nat), i < n → tag0 k F i = tag0 k F i ∧ True]) (by kernel_rfl) (.cons (by rfl) (.cons (by rfl) (.cons (by rfl) (.cons (by rfl) (.cons (by (simp; done)) (.cons (by rfl) (.cons (by rfl) (.cons (by rfl) (.cons (by trivial) (.cons (by assumption) (.cons (by rfl) (.cons (by rfl) (.cons (by (simp; done)) (.cons (by rfl) (.cons (by rfl) (.cons (by rfl) (.cons (by (intro _ _; exact ⟨rfl, trivial⟩)) .nil))))))))))))))))) (Nat.le_of_ble_eq_true (by kernel_rfl))
end Go.Proofs.Ytkgkelfdmkginaa

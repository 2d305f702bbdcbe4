/- admit: the table's slots. No condition. -/
import Derived.Test.YtmhkbepnankopaaRnF
import Derived.Test.YtmhkbepnankopaaED
import Derived.Test.YtmhkbepnankopaaChecked
import Derived.KernelRfl
namespace Go.Proofs.Ytmhkbepnankopaa
set_option linter.unusedVariables false
set_option linter.unusedSimpArgs false
open Go.RowKit E
/-- A slot: a number, whether it is in use, packets, bytes, how many bytes may wait. -/
structure Sl where
  id : Int
  us : Bool
  pk : Int
  bt : Int
  mo : Int
abbrev gS (T : Nat → Sl) : Nat → List At := fun k => [.val (.int .u32 (T k).id), .val (.bool (T k).us), .val (.int .i64 (T k).pk), .val (.int .u64 (T k).bt), .val (.int .u64 (T k).mo)]
def ceZ (l : List At) (j : Nat) : Int := match l[j]? with | some (.val (.int _ n)) => n | _ => 0
def ceB (l : List At) (j : Nat) : Bool := match l[j]? with | some (.val (.bool b)) => b | _ => false
def slOf (g : Nat → List At) : Nat → Sl := fun k => ⟨ceZ (g k) 0, ceB (g k) 1, ceZ (g k) 2, ceZ (g k) 3, ceZ (g k) 4⟩
theorem slOf_g (T : Nat → Sl) : slOf (gS T) = T := rfl
def sl0 : Sl := ⟨0, false, 0, 0, 0⟩
/-- A number's own place. -/
def homeN (id : Int) (M : Nat) : Nat := (id * 2654435769 % 4294967296 / 128).toNat % M
/-- Where a number lies, or would. -/
def fdF (T : Nat → Sl) (M : Nat) (id : Int) : Nat → Nat → Nat
  | 0, at' => at'
  | f + 1, at' => if (T at').us = true ∧ (T at').id ≠ id then fdF T M id f ((at' + 1) % M) else at'
def fd (T : Nat → Sl) (M : Nat) (id : Int) : Nat := fdF T M id M (homeN id M)
def putS (T : Nat → Sl) (j : Nat) (s : Sl) : Nat → Sl := fun k => if k = j then s else T k
theorem i64_mask {x m : Nat} (hx : x < 4611686018427387904) (hm : m ≤ 20) : bits .and .i64 (x : Int) (((2 ^ m : Nat) : Int) - 1) = ((x % 2 ^ m : Nat) : Int) := by
  have hp : 0 < 2 ^ m := Nat.two_pow_pos m
  have hp2 : 2 ^ m ≤ 2 ^ 20 := Nat.pow_le_pow_right (by omega) hm
  have h127 : (BitVec.ofInt 64 (((2 ^ m : Nat) : Int) - 1)).toNat = 2 ^ m - 1 := by
    rw [BitVec.toNat_ofInt]; omega
  have hxx : (BitVec.ofInt 64 (x : Int)).toNat = x := by rw [BitVec.toNat_ofInt]; omega
  have key : (BitVec.ofInt 64 (x : Int) &&& BitVec.ofInt 64 (((2 ^ m : Nat) : Int) - 1)).toNat = x % 2 ^ m := by
    rw [BitVec.toNat_and, h127, hxx, Nat.and_two_pow_sub_one_eq_mod]
  show IntKind.i64.wrap ((BitVec.ofInt 64 (x : Int) &&& BitVec.ofInt 64 (((2 ^ m : Nat) : Int) - 1)).toNat : Nat) = _
  rw [key]
  have := Nat.mod_lt x hp
  exact w64 rfl (by omega)
theorem mask_M {x M m : Nat} (hM : M = 2 ^ m) (hm : m ≤ 20) (hx : x < 4611686018427387904) : bits .and .i64 (x : Int) (IntKind.wrap .i64 ((M : Int) - 1)) = ((x % M : Nat) : Int) := by
  subst hM
  have hp : 0 < 2 ^ m := Nat.two_pow_pos m
  have hp2 : 2 ^ m ≤ 2 ^ 20 := Nat.pow_le_pow_right (by omega) hm
  rw [w64 (a := ((2 ^ m : Nat) : Int) - 1) rfl (by omega)]
  exact i64_mask hx hm
theorem home_z {id : Int} : IntKind.wrap .i64 (Int.fdiv (IntKind.wrap .u32 (id * 2654435769)) (2 ^ 7)) = ((id * 2654435769 % 4294967296 / 128).toNat : Nat) := by
  rw [show IntKind.wrap .u32 (id * 2654435769) = id * 2654435769 % 4294967296 from rfl, Int.fdiv_eq_ediv_of_nonneg _ (by decide)]
  exact w64 (by omega) (by omega)
theorem home_M {id : Int} {M m : Nat} (hM : M = 2 ^ m) (hm : m ≤ 20) : bits .and .i64 (IntKind.wrap .i64 (Int.fdiv (IntKind.wrap .u32 (id * 2654435769)) (2 ^ 7))) (IntKind.wrap .i64 ((M : Int) - 1)) = ((homeN id M : Nat) : Int) := by
  rw [home_z]; exact mask_M hM hm (by omega)
theorem homeN_lt (id : Int) {M : Nat} (h : 0 < M) : homeN id M < M := Nat.mod_lt _ h
end Go.Proofs.Ytmhkbepnankopaa

/- Runs of Go code, as printed by a program: no condition beyond those that each states. -/
namespace Go.Proofs.Ytmhkbepnankopaa
set_option linter.unusedVariables false
set_option linter.unusedSimpArgs false
set_option maxRecDepth 100000
open Go.RowKit E
set_option maxHeartbeats 2000000 in
theorem made_f (M : Nat) (n : Int) (T : Nat → Sl) (hM : 0 < M) : FnOk Try.prog 38 ([.nv (.one (.ptr 0 0))]) ([.robox 78 [.own 1, .val (.int .i64 n), .val (.int .i64 64)], .ro 5 M (gS T)]) (bA true) ([.gone, .gone]) :=
  fn_run G0_ok Try.func38 (orc := ⟨[true], []⟩) (obl := [true = true,
      decide ((↑M : Int) > (0 : Int)) = true]) (by kernel_rfl) (.cons (by rfl) (.cons (by exact decide_eq_true (by omega)) .nil)) (Nat.le_of_ble_eq_true (by kernel_rfl))

set_option maxHeartbeats 2000000 in
theorem home_f (M m : Nat) (n id : Int) (T : Nat → Sl) (hM : M = 2 ^ m) (hm : m ≤ 20) (h0 : 0 < M) : FnOk Try.prog 46 ([.nv (.one (.ptr 0 0)), .nv (.one (.val (.int .u32 id)))]) ([.robox 78 [.own 1, .val (.int .i64 n), .val (.int .i64 64)], .ro 5 M (gS T)]) (iA (homeN id M : Nat)) ([.gone, .gone]) :=
  fn_run G0_ok Try.func46 (orc := ⟨[], []⟩) (obl := [(0 : Int) ≤ (7 : Int),
      bits BinOp.and IntKind.i64 (IntKind.wrap IntKind.i64 (Int.fdiv (IntKind.wrap IntKind.u32 (id * (2654435769 : Int))) ((2 : Int) ^ (7 : Nat)))) (IntKind.wrap IntKind.i64 ((↑M : Int) - (1 : Int))) = (↑(homeN id M) : Int)]) (by kernel_rfl) (.cons (by trivial) (.cons (by exact home_M hM hm) .nil)) (Nat.le_of_ble_eq_true (by kernel_rfl))

set_option maxHeartbeats 2000000 in
theorem fnew_f  : FnOk Try.prog 25 ([iA 64]) ([]) (.tup [.one (.ptr 0 0), .one (.val (.int .i64 0))]) ([.box 78 [.own 1, .val (.int .i64 0), .val (.int .i64 64)], .row 80 5 8 (gS (fun _ => sl0))]) :=
  fn_run G0_ok Try.func25 (orc := ⟨[false, false], []⟩) (obl := [decide ((64 : Int) < (1 : Int)) = false,
      decide ((64 : Int) > (4096 : Int)) = false,
      (0 : Int) ≤ (8 : Int),
      (8 : Int) = (8 : Int),
      (↑(32 : Nat) : Int) * (8 : Int) ≤ (281474976710656 : Int),
      (8 : Int) ≤ (4611686018427387904 : Int),
      (0 : Nat) = (0 : Nat),
      (0 : Int) = (0 : Int),
      (0 : Int) = (0 : Int),
      (64 : Int) = (64 : Int),
      (8 : Nat) = (8 : Nat),
      ∀ (i : Nat), i < (8 : Nat) → (0 : Int) = Sl.id sl0 ∧ false = Sl.us sl0 ∧ (0 : Int) = Sl.pk sl0 ∧ (0 : Int) = Sl.bt sl0 ∧ (0 : Int) = Sl.mo sl0 ∧ True]) (by kernel_rfl) (.cons (by rfl) (.cons (by rfl) (.cons (by trivial) (.cons (by rfl) (.cons (by trivial) (.cons (by trivial) (.cons (by rfl) (.cons (by rfl) (.cons (by rfl) (.cons (by rfl) (.cons (by rfl) (.cons (by trivial) .nil)))))))))))) (Nat.le_of_ble_eq_true (by kernel_rfl))

set_option maxHeartbeats 2000000 in
theorem nk_0 (F : Fl) : FnOk Try.prog 34 ([iA 2, .nv (.one (.own 0))]) ([.ro 5 0 (gFl F)]) (.tup [.one .any, .one (.val (.int .i64 29))]) ([.gone]) :=
  fn_run Gnx_ok Try.func34 (orc := ⟨[false, false, true, true], []⟩) (obl := [decide ((2 : Int) < (1 : Int)) = false,
      decide ((2 : Int) > (3 : Int)) = false,
      ((↑(0 : Nat) : Int) == (0 : Int)) = true,
      true = true,
      (29 : Int) = (29 : Int)]) (by kernel_rfl) (.cons (by rfl) (.cons (by rfl) (.cons (by rfl) (.cons (by rfl) (.cons (by rfl) .nil))))) (Nat.le_of_ble_eq_true (by kernel_rfl))

set_option maxHeartbeats 2000000 in
theorem nk_64 (n : Nat) (F : Fl) (hn : 64 < n) : FnOk Try.prog 34 ([iA 2, .nv (.one (.own 0))]) ([.ro 5 n (gFl F)]) (.tup [.one .any, .one (.val (.int .i64 29))]) ([.gone]) :=
  fn_run Gnx_ok Try.func34 (orc := ⟨[false, false, false, true], []⟩) (obl := [decide ((2 : Int) < (1 : Int)) = false,
      decide ((2 : Int) > (3 : Int)) = false,
      ((↑n : Int) == (0 : Int)) = false,
      decide ((↑n : Int) > (64 : Int)) = true,
      (29 : Int) = (29 : Int)]) (by kernel_rfl) (.cons (by rfl) (.cons (by rfl) (.cons (by exact decide_eq_false (by omega)) (.cons (by exact decide_eq_true (by omega)) (.cons (by rfl) .nil))))) (Nat.le_of_ble_eq_true (by kernel_rfl))

set_option maxHeartbeats 2000000 in
theorem nk_d (n : Nat) (F : Fl) (h1 : 1 ≤ n) (hn : n ≤ 64) (hd : dup (flOf (gFl F)).id n = true) : FnOk Try.prog 34 ([iA 2, .nv (.one (.own 0))]) ([.ro 5 n (gFl F)]) (.tup [.one .any, .one (.val (.int .i64 30))]) ([.gone]) :=
  fn_run Gnx_ok Try.func34 (orc := ⟨[false, false, false, false, true], []⟩) (obl := [decide ((2 : Int) < (1 : Int)) = false,
      decide ((2 : Int) > (3 : Int)) = false,
      ((↑n : Int) == (0 : Int)) = false,
      decide ((↑n : Int) > (64 : Int)) = false,
      n ≤ (64 : Nat),
      n = n,
      ∀ (i : Nat), i < n → Fl.id F i = Fl.id (flOf (gFl F)) i ∧ Fl.co F i = Fl.co (flOf (gFl F)) i ∧ Fl.bu F i = Fl.bu (flOf (gFl F)) i ∧ Fl.si F i = Fl.si (flOf (gFl F)) i ∧ Fl.ca F i = Fl.ca (flOf (gFl F)) i ∧ True,
      dup (Fl.id (flOf (gFl F))) n = true,
      (30 : Int) = (30 : Int)]) (by kernel_rfl) (.cons (by rfl) (.cons (by rfl) (.cons (by exact decide_eq_false (by omega)) (.cons (by exact decide_eq_false (by omega)) (.cons (by assumption) (.cons (by rfl) (.cons (by (intro _ _; exact ⟨rfl, rfl, rfl, rfl, rfl, trivial⟩)) (.cons (by assumption) (.cons (by rfl) .nil))))))))) (Nat.le_of_ble_eq_true (by kernel_rfl))

set_option maxHeartbeats 2000000 in
theorem nk_n (n i : Nat) (F : Fl) (hi : i < n) (hn : n ≤ 64) : CodeOk Try.prog 1 (loopOf Try.f34 0) (mkSt 56 [(0, iA 2), (6, .nv (.one (.ptr 2 0))), (34, .nv (.one (.own 0))), (35, iA n), (36, iA i)] [.ro 5 n (gFl F), .row 42 5 n (gFl F), .box 86 [.val (.int .i64 2), .own 1, .own 3, .val (.int .u64 0)], .row 22 1 i (gU64 (fun _ => 0))]) .normal (mkSt 56 [(0, iA 2), (6, .nv (.one (.ptr 2 0))), (34, .nv (.one (.own 0))), (35, iA n), (36, iA (i + 1 : Nat))] [.ro 5 n (gFl F), .row 42 5 n (gFl F), .box 86 [.val (.int .i64 2), .own 1, .own 3, .val (.int .u64 0)], .row 22 1 (i + 1) (gU64 (fun _ => 0))]) :=
  code_run Gnx_ok (orc := ⟨[true, false], []⟩) (obl := [decide ((↑i : Int) < (↑n : Int)) = true,
      (0 : Int) ≤ (↑i : Int),
      (↑i : Int) < (↑n : Int),
      Int.toNat (↑i : Int) < n,
      ((2 : Int) == (3 : Int)) = false,
      i + (1 : Nat) ≤ (4611686018427387904 : Nat),
      (i + (1 : Nat)) * (8 : Nat) ≤ (140737488355328 : Nat),
      (2 : Int) = (2 : Int),
      (0 : Nat) = (0 : Nat),
      (↑n : Int) = (↑n : Int),
      IntKind.wrap IntKind.i64 ((↑i : Int) + (1 : Int)) = (↑(i + (1 : Nat)) : Int),
      n = n,
      ∀ (i : Nat), i < n → Fl.id F i = Fl.id F i ∧ Fl.co F i = Fl.co F i ∧ Fl.bu F i = Fl.bu F i ∧ Fl.si F i = Fl.si F i ∧ Fl.ca F i = Fl.ca F i ∧ True,
      n = n,
      ∀ (i : Nat), i < n → Fl.id F i = Fl.id F i ∧ Fl.co F i = Fl.co F i ∧ Fl.bu F i = Fl.bu F i ∧ Fl.si F i = Fl.si F i ∧ Fl.ca F i = Fl.ca F i ∧ True,
      (2 : Int) = (2 : Int),
      (0 : Int) = (0 : Int),
      i + (1 : Nat) = i + (1 : Nat),
      ∀ (i_1 : Nat), i_1 < i + (1 : Nat) → AllT (leAts ([(nat_lit 0, Bd.same (nat_lit 0))] ++ ([] ++ ([((2 : Nat), Bd.same (2 : Nat))] ++ ([((0 : Nat), Bd.same (0 : Nat))] ++ ([] ++ ([] ++ []))))) ++ ([] ++ ([] ++ ([((1 : Nat), Bd.same (1 : Nat))] ++ ([((3 : Nat), Bd.same (6 : Nat))] ++ ([] ++ []))) ++ ([] ++ [])) ++ ([] ++ ([] ++ []) ++ []))) (4 : Nat) (if i_1 = i then [At.val (Value.int IntKind.u64 (0 : Int))] else gU64 (fun (x : Nat) => (0 : Int)) i_1) (gU64 (fun (x : Nat) => (0 : Int)) i_1))]) (by kernel_rfl) (.cons (by exact decide_eq_true (by omega)) (.cons (by omega) (.cons (by omega) (.cons (by assumption) (.cons (by rfl) (.cons (by omega) (.cons (by omega) (.cons (by rfl) (.cons (by rfl) (.cons (by rfl) (.cons (by exact w64 (by omega) (by omega)) (.cons (by rfl) (.cons (by (simp; done)) (.cons (by rfl) (.cons (by (simp; done)) (.cons (by rfl) (.cons (by rfl) (.cons (by rfl) (.cons (by (refine leG_eq (fun i hi => ?_) (fun _ _ => rfl); (repeat' split) <;> first | rfl | omega | (subst_vars; rfl) | (simp_all; done))) .nil))))))))))))))))))) (Nat.le_of_ble_eq_true (by kernel_rfl))

set_option maxHeartbeats 2000000 in
theorem nk_e (n : Nat) (F : Fl) (hn : n ≤ 64) : CodeOk Try.prog 1 (loopOf Try.f34 0) (mkSt 56 [(0, iA 2), (6, .nv (.one (.ptr 2 0))), (34, .nv (.one (.own 0))), (35, iA n), (36, iA n)] [.ro 5 n (gFl F), .row 42 5 n (gFl F), .box 86 [.val (.int .i64 2), .own 1, .own 3, .val (.int .u64 0)], .row 22 1 n (gU64 (fun _ => 0))]) (.exit 1) (mkSt 56 [(6, .nv (.one (.ptr 2 0)))] [.ro 5 n (gFl F), .gone, .gone]) :=
  code_run Gnx_ok (orc := ⟨[false], []⟩) (obl := [decide ((↑n : Int) < (↑n : Int)) = false,
      (0 : Nat) = (0 : Nat),
      n = n,
      ∀ (i : Nat), i < n → Fl.id F i = Fl.id F i ∧ Fl.co F i = Fl.co F i ∧ Fl.bu F i = Fl.bu F i ∧ Fl.si F i = Fl.si F i ∧ Fl.ca F i = Fl.ca F i ∧ True]) (by kernel_rfl) (.cons (by exact decide_eq_false (by omega)) (.cons (by rfl) (.cons (by rfl) (.cons (by (simp; done)) .nil)))) (Nat.le_of_ble_eq_true (by kernel_rfl))

set_option maxHeartbeats 2000000 in
theorem nk_ok (n : Nat) (F : Fl) (h1 : 1 ≤ n) (hn : n ≤ 64) (hd : dup (flOf (gFl F)).id n = false) (l : CodeOk Try.prog 1 (.loop (loopOf Try.f34 0)) (mkSt 56 [(0, iA 2), (6, .nv (.one (.ptr 2 0))), (34, .nv (.one (.own 0))), (35, iA n), (36, iA (0 : Nat))] [.ro 5 n (gFl F), .row 42 5 n (gFl F), .box 86 [.val (.int .i64 2), .own 1, .own 3, .val (.int .u64 0)], .row 22 1 0 (gU64 (fun _ => 0))]) (.exit 1) (mkSt 56 [(6, .nv (.one (.ptr 2 0)))] [.ro 5 n (gFl F), .gone, .gone])) : FnOk Try.prog 34 ([iA 2, .nv (.one (.own 0))]) ([.ro 5 n (gFl F)]) (.tup [.one .any, .one (.val (.int .i64 0))]) ([.gone]) :=
  fn_run Gnx_ok Try.func34 (orc := ⟨[false, false, false, false, false], [⟨mkSt 56 [(0, iA 2), (6, .nv (.one (.ptr 2 0))), (34, .nv (.one (.own 0))), (35, iA n), (36, iA (0 : Nat))] [.ro 5 n (gFl F), .row 42 5 n (gFl F), .box 86 [.val (.int .i64 2), .own 1, .own 3, .val (.int .u64 0)], .row 22 1 0 (gU64 (fun _ => 0))], .exit 1, mkSt 56 [(6, .nv (.one (.ptr 2 0)))] [.ro 5 n (gFl F), .gone, .gone]⟩]⟩) (obl := [decide ((2 : Int) < (1 : Int)) = false,
      decide ((2 : Int) > (3 : Int)) = false,
      ((↑n : Int) == (0 : Int)) = false,
      decide ((↑n : Int) > (64 : Int)) = false,
      n ≤ (64 : Nat),
      n = n,
      ∀ (i : Nat), i < n → Fl.id F i = Fl.id (flOf (gFl F)) i ∧ Fl.co F i = Fl.co (flOf (gFl F)) i ∧ Fl.bu F i = Fl.bu (flOf (gFl F)) i ∧ Fl.si F i = Fl.si (flOf (gFl F)) i ∧ Fl.ca F i = Fl.ca (flOf (gFl F)) i ∧ True,
      dup (Fl.id (flOf (gFl F))) n = false,
      (1 : Nat) ≤ n,
      n ≤ (4096 : Nat),
      n = n,
      ∀ (i : Nat), i < n → Fl.id F i = Fl.id (flOf (gFl F)) i ∧ Fl.co F i = Fl.co (flOf (gFl F)) i ∧ Fl.bu F i = Fl.bu (flOf (gFl F)) i ∧ Fl.si F i = Fl.si (flOf (gFl F)) i ∧ Fl.ca F i = Fl.ca (flOf (gFl F)) i ∧ True,
      ∀ (i : Nat), i < n → (true && (true && (true && (true && (true && true))))) = true,
      (2 : Int) = (2 : Int),
      (0 : Nat) = (0 : Nat),
      (↑n : Int) = (↑n : Int),
      (0 : Int) = (↑(0 : Nat) : Int),
      n = n,
      ∀ (i : Nat), i < n → Fl.id F i = Fl.id F i ∧ Fl.co F i = Fl.co F i ∧ Fl.bu F i = Fl.bu F i ∧ Fl.si F i = Fl.si F i ∧ Fl.ca F i = Fl.ca F i ∧ True,
      n = n,
      ∀ (i : Nat), i < n → Fl.id (flOf (gFl F)) i = Fl.id F i ∧ Fl.co (flOf (gFl F)) i = Fl.co F i ∧ Fl.bu (flOf (gFl F)) i = Fl.bu F i ∧ Fl.si (flOf (gFl F)) i = Fl.si F i ∧ Fl.ca (flOf (gFl F)) i = Fl.ca F i ∧ True,
      (2 : Int) = (2 : Int),
      (0 : Int) = (0 : Int),
      (0 : Nat) = (0 : Nat),
      (1 : Nat) ≤ (4 : Nat),
      CodeOk Try.prog (1 : Nat) (Code.loop (loopOf Try.f34 (0 : Nat))) (mkSt (56 : Nat) [((0 : Nat), iA (2 : Int)), ((6 : Nat), SV.nv (NV.one (At.ptr (2 : Nat) (0 : Nat)))), ((34 : Nat), SV.nv (NV.one (At.own (0 : Nat)))), ((35 : Nat), iA (↑n : Int)), ((36 : Nat), iA (↑(0 : Nat) : Int))] [Seg.ro (5 : Nat) n (gFl F), Seg.row (42 : TypeId) (5 : Nat) n (gFl F), Seg.box (86 : TypeId) [At.val (Value.int IntKind.i64 (2 : Int)), At.own (1 : Nat), At.own (3 : Nat), At.val (Value.int IntKind.u64 (0 : Int))], Seg.row (22 : TypeId) (1 : Nat) (0 : Nat) (gU64 fun (x : Nat) => (0 : Int))]) (Ex.exit (1 : Nat)) (mkSt (56 : Nat) [((6 : Nat), SV.nv (NV.one (At.ptr (2 : Nat) (0 : Nat))))] [Seg.ro (5 : Nat) n (gFl F), Seg.gone, Seg.gone]),
      (0 : Int) = (0 : Int)]) (by kernel_rfl) (.cons (by rfl) (.cons (by rfl) (.cons (by exact decide_eq_false (by omega)) (.cons (by exact decide_eq_false (by omega)) (.cons (by assumption) (.cons (by rfl) (.cons (by (intro _ _; exact ⟨rfl, rfl, rfl, rfl, rfl, trivial⟩)) (.cons (by assumption) (.cons (by assumption) (.cons (by omega) (.cons (by rfl) (.cons (by (intro _ _; exact ⟨rfl, rfl, rfl, rfl, rfl, trivial⟩)) (.cons (by (intro _ _; rfl)) (.cons (by rfl) (.cons (by rfl) (.cons (by rfl) (.cons (by rfl) (.cons (by rfl) (.cons (by (simp; done)) (.cons (by rfl) (.cons (by (intro _ _; exact ⟨rfl, rfl, rfl, rfl, rfl, trivial⟩)) (.cons (by rfl) (.cons (by rfl) (.cons (by rfl) (.cons (by trivial) (.cons (by assumption) (.cons (by rfl) .nil))))))))))))))))))))))))))) (Nat.le_of_ble_eq_true (by kernel_rfl))
end Go.Proofs.Ytmhkbepnankopaa

/- admit: the table's small functions, and rank.New, as specifications. No condition. -/
namespace Go.Proofs.Ytmhkbepnankopaa
set_option linter.unusedVariables false
set_option linter.unusedSimpArgs false
open Go.RowKit E
def P2 (M : Nat) : Prop := ∃ m, M = 2 ^ m ∧ m ≤ 20
theorem P2.pos {M : Nat} (h : P2 M) : 0 < M := by obtain ⟨m, rfl, _⟩ := h; exact Nat.two_pow_pos m
theorem P2.le {M : Nat} (h : P2 M) : M ≤ 1048576 := by
  obtain ⟨m, rfl, hm⟩ := h
  exact (Nat.pow_le_pow_right (by omega) hm : 2 ^ m ≤ 2 ^ 20)
abbrev tbC (n : Int) : List At := [.own 1, .val (.int .i64 n), .val (.int .i64 64)]
abbrev tbR (n : Int) (M : Nat) (T : Nat → Sl) : List Seg := [.robox 78 (tbC n), .ro 5 M (gS T)]
abbrev tbW (n : Int) (M : Nat) (T : Nat → Sl) : List Seg := [.box 78 (tbC n), .row 80 5 M (gS T)]
abbrev p0 : SV := .nv (.one (.ptr 0 0))
abbrev u32A (x : Int) : SV := .nv (.one (.val (.int .u32 x)))
/-- The table at a pointer: how many, how many slots, the slots. -/
def tbAt (mem : List Seg) (h : Nat) : Option (Int × Nat × (Nat → List At)) :=
  match boxAt mem h with
  | some [s, .val (.int .i64 n), .val (.int .i64 _)] => match srcOf mem 5 s with
    | some (M, g, _) => some (n, M, g)
    | none => none
  | _ => none
def gMade : List SV → List Seg → Option (CS × List Prop)
  | [.nv (.one (.ptr h 0))], mem => match tbAt mem h with
    | some (n, M, g) => some (⟨[p0], tbR n M (slOf g), bA true, [.gone, .gone]⟩, [0 < M])
    | none => none
  | _, _ => none
theorem spMade : SpOk Try.prog 38 (.lift gMade) := by
  intro args mem cs obl h ho
  unfold gMade at h
  split at h
  · split at h
    · simp only [Option.some.injEq, Prod.mk.injEq] at h
      obtain ⟨rfl, rfl⟩ := h
      exact made_f _ _ _ ho.1
    · cases h
  · cases h
def gHome : List SV → List Seg → Option (CS × List Prop)
  | [.nv (.one (.ptr h 0)), .nv (.one (.val (.int .u32 id)))], mem => match tbAt mem h with
    | some (n, M, g) => some (⟨[p0, u32A id], tbR n M (slOf g), iA (homeN id M : Nat), [.gone, .gone]⟩, [P2 M])
    | none => none
  | _, _ => none
theorem spHome : SpOk Try.prog 46 (.lift gHome) := by
  intro args mem cs obl h ho
  unfold gHome at h
  split at h
  · split at h
    · simp only [Option.some.injEq, Prod.mk.injEq] at h
      obtain ⟨rfl, rfl⟩ := h
      have hp := ho.1.pos
      obtain ⟨m, hM, hm⟩ := ho.1
      exact home_f _ m _ _ _ hM hm hp
    · cases h
  · cases h
def gFNew : List SV → List Seg → Option (CS × List Prop)
  | [.nv (.one (.val (.int .i64 64)))], _ => some (⟨[iA 64], [], .tup [.one (.ptr 0 0), .one (.val (.int .i64 0))], tbW 0 8 (fun _ => sl0)⟩, [])
  | _, _ => none
theorem spFNew : SpOk Try.prog 25 (.lift gFNew) := by
  intro args mem cs obl h ho
  unfold gFNew at h
  split at h
  · simp only [Option.some.injEq, Prod.mk.injEq] at h
    obtain ⟨rfl, rfl⟩ := h
    exact fnew_f
  · cases h
theorem fnNk (n : Nat) (F : Fl) : FnOk Try.prog 34 [iA 2, .nv (.one (.own 0))] [.ro 5 n (gFl F)] (.tup [.one .any, .one (.val (.int .i64 (chkF n F)))]) [.gone] := by
  unfold chkF
  by_cases h3 : n = 0
  · subst h3; rw [if_pos (.inl rfl)]; exact nk_0 F
  by_cases h4 : 64 < n
  · rw [if_pos (.inr h4)]; exact nk_64 n F h4
  rw [if_neg (by omega)]
  by_cases h5 : dup F.id n = true
  · rw [if_pos h5]; exact nk_d n F (by omega) (by omega) h5
  · rw [if_neg h5]
    refine nk_ok n F (by omega) (by omega) (Bool.eq_false_iff.2 h5) ?_
    refine count_loop (P := Try.prog) (m0 := 1) (c := loopOf Try.f34 0) (n := n) (fun i => mkSt 56 [(0, iA 2), (6, .nv (.one (.ptr 2 0))), (34, .nv (.one (.own 0))), (35, iA n), (36, iA i)] [.ro 5 n (gFl F), .row 42 5 n (gFl F), .box 86 [.val (.int .i64 2), .own 1, .own 3, .val (.int .u64 0)], .row 22 1 i (gU64 (fun _ => 0))]) (X := .exit 1) (by simp)
      (fun i hi => nk_n n i F hi (by omega)) (nk_e n F (by omega))
def gNk : List SV → List Seg → Option (CS × List Prop)
  | [.nv (.one (.val (.int .i64 2))), .nv (.one a)], mem => match srcOf mem 5 a with
    | some (n, g, _) => some (⟨[iA 2, .nv (.one (.own 0))], [.ro 5 n (gFl (flOf g))], .tup [.one .any, .one (.val (.int .i64 (chkF n (flOf g))))], [.gone]⟩, [])
    | none => none
  | _, _ => none
theorem spNk : SpOk Try.prog 34 (.lift gNk) := by
  intro args mem cs obl h ho
  unfold gNk at h
  split at h
  · split at h
    · simp only [Option.some.injEq, Prod.mk.injEq] at h
      obtain ⟨rfl, rfl⟩ := h
      exact fnNk _ _
    · cases h
  · cases h
def Gad0 : List (FuncId × Sp) := (38, .lift gMade) :: (46, .lift gHome) :: (25, .lift gFNew) :: (34, .lift gNk) :: Gnx
theorem Gad0_ok : CtxOk Try.prog Gad0 := ctx_cons (enter_of Try.func38 (by kernel_rfl) (by kernel_rfl)) spMade <|
  ctx_cons (enter_of Try.func46 (by kernel_rfl) (by kernel_rfl)) spHome <|
  ctx_cons (enter_of Try.func25 (by kernel_rfl) (by kernel_rfl)) spFNew <|
  ctx_cons (enter_of Try.func34 (by kernel_rfl) (by kernel_rfl)) spNk Gnx_ok
end Go.Proofs.Ytmhkbepnankopaa

/- Runs of Go code, as printed by a program: no condition beyond those that each states. -/
namespace Go.Proofs.Ytmhkbepnankopaa
set_option linter.unusedVariables false
set_option linter.unusedSimpArgs false
set_option maxRecDepth 100000
open Go.RowKit E
attribute [local irreducible] homeN
set_option maxHeartbeats 2000000 in
theorem fi_s (M a : Nat) (n id : Int) (T : Nat → Sl) (h2 : P2 M) (h3 : M ≤ 1048576) (ha : a < M) (hu : (T a).us = true) (hi : (T a).id ≠ id) (em : bits BinOp.and IntKind.i64 (IntKind.wrap IntKind.i64 ((a : Int) + 1)) (IntKind.wrap IntKind.i64 ((M : Int) - 1)) = (((a + 1) % M : Nat) : Int)) : CodeOk Try.prog 2 (loopOf Try.f39 0) (mkSt 39 [(0, p0), (1, u32A id), (5, iA a)] (tbR n M T)) .normal (mkSt 39 [(0, p0), (1, u32A id), (5, iA ((a + 1) % M : Nat))] (tbR n M T)) :=
  code_run Gad0_ok (orc := ⟨[true, true], []⟩) (obl := [(0 : Int) ≤ (↑a : Int),
      (↑a : Int) < (↑M : Int),
      Int.toNat (↑a : Int) < M,
      Sl.us (T (Int.toNat (↑a : Int))) = true,
      (0 : Int) ≤ (↑a : Int),
      (↑a : Int) < (↑M : Int),
      Int.toNat (↑a : Int) < M,
      (Sl.id (T (Int.toNat (↑a : Int))) != id) = true,
      (0 : Nat) = (0 : Nat),
      id = id,
      bits BinOp.and IntKind.i64 (IntKind.wrap IntKind.i64 ((↑a : Int) + (1 : Int))) (IntKind.wrap IntKind.i64 ((↑M : Int) - (1 : Int))) = (↑((a + (1 : Nat)) % M) : Int),
      n = n,
      (64 : Int) = (64 : Int),
      M = M,
      ∀ (i : Nat), i < M → Sl.id (T i) = Sl.id (T i) ∧ Sl.us (T i) = Sl.us (T i) ∧ Sl.pk (T i) = Sl.pk (T i) ∧ Sl.bt (T i) = Sl.bt (T i) ∧ Sl.mo (T i) = Sl.mo (T i) ∧ True]) (by kernel_rfl) (.cons (by omega) (.cons (by omega) (.cons (by assumption) (.cons (by assumption) (.cons (by omega) (.cons (by omega) (.cons (by assumption) (.cons (by exact bne_iff_ne.2 hi) (.cons (by rfl) (.cons (by rfl) (.cons (by assumption) (.cons (by rfl) (.cons (by rfl) (.cons (by rfl) (.cons (by (simp; done)) .nil))))))))))))))) (Nat.le_of_ble_eq_true (by kernel_rfl))

set_option maxHeartbeats 2000000 in
theorem fi_u (M a : Nat) (n id : Int) (T : Nat → Sl) (h2 : P2 M) (h3 : M ≤ 1048576) (ha : a < M) (hu : (T a).us = false) : CodeOk Try.prog 2 (loopOf Try.f39 0) (mkSt 39 [(0, p0), (1, u32A id), (5, iA a)] (tbR n M T)) (.exit 0) (mkSt 39 [(5, iA a)] (tbR n M T)) :=
  code_run Gad0_ok (orc := ⟨[false, false], []⟩) (obl := [(0 : Int) ≤ (↑a : Int),
      (↑a : Int) < (↑M : Int),
      Int.toNat (↑a : Int) < M,
      Sl.us (T (Int.toNat (↑a : Int))) = false,
      false = false,
      (↑a : Int) = (↑a : Int),
      n = n,
      (64 : Int) = (64 : Int),
      M = M,
      ∀ (i : Nat), i < M → Sl.id (T i) = Sl.id (T i) ∧ Sl.us (T i) = Sl.us (T i) ∧ Sl.pk (T i) = Sl.pk (T i) ∧ Sl.bt (T i) = Sl.bt (T i) ∧ Sl.mo (T i) = Sl.mo (T i) ∧ True]) (by kernel_rfl) (.cons (by omega) (.cons (by omega) (.cons (by assumption) (.cons (by assumption) (.cons (by rfl) (.cons (by rfl) (.cons (by rfl) (.cons (by rfl) (.cons (by rfl) (.cons (by (simp; done)) .nil)))))))))) (Nat.le_of_ble_eq_true (by kernel_rfl))

set_option maxHeartbeats 2000000 in
theorem fi_h (M a : Nat) (n id : Int) (T : Nat → Sl) (h2 : P2 M) (h3 : M ≤ 1048576) (ha : a < M) (hu : (T a).us = true) (hi : (T a).id = id) : CodeOk Try.prog 2 (loopOf Try.f39 0) (mkSt 39 [(0, p0), (1, u32A id), (5, iA a)] (tbR n M T)) (.exit 0) (mkSt 39 [(5, iA a)] (tbR n M T)) :=
  code_run Gad0_ok (orc := ⟨[true, false], []⟩) (obl := [(0 : Int) ≤ (↑a : Int),
      (↑a : Int) < (↑M : Int),
      Int.toNat (↑a : Int) < M,
      Sl.us (T (Int.toNat (↑a : Int))) = true,
      (0 : Int) ≤ (↑a : Int),
      (↑a : Int) < (↑M : Int),
      Int.toNat (↑a : Int) < M,
      (Sl.id (T (Int.toNat (↑a : Int))) != id) = false,
      (↑a : Int) = (↑a : Int),
      n = n,
      (64 : Int) = (64 : Int),
      M = M,
      ∀ (i : Nat), i < M → Sl.id (T i) = Sl.id (T i) ∧ Sl.us (T i) = Sl.us (T i) ∧ Sl.pk (T i) = Sl.pk (T i) ∧ Sl.bt (T i) = Sl.bt (T i) ∧ Sl.mo (T i) = Sl.mo (T i) ∧ True]) (by kernel_rfl) (.cons (by omega) (.cons (by omega) (.cons (by assumption) (.cons (by assumption) (.cons (by omega) (.cons (by omega) (.cons (by assumption) (.cons (by exact bne_eq_false_iff_eq.2 hi) (.cons (by rfl) (.cons (by rfl) (.cons (by rfl) (.cons (by rfl) (.cons (by (simp; done)) .nil))))))))))))) (Nat.le_of_ble_eq_true (by kernel_rfl))

set_option maxHeartbeats 2000000 in
theorem fi_f (M a : Nat) (n id : Int) (T : Nat → Sl) (h2 : P2 M) (l : CodeOk Try.prog 2 (.loop (loopOf Try.f39 0)) (mkSt 39 [(0, p0), (1, u32A id), (5, iA (homeN id M : Nat))] (tbR n M T)) (.exit 0) (mkSt 39 [(5, iA a)] (tbR n M T))) : FnOk Try.prog 39 ([p0, u32A id]) ((tbR n M T)) (iA a) ([.gone, .gone]) :=
  fn_run Gad0_ok Try.func39 (orc := ⟨[], [⟨mkSt 39 [(0, p0), (1, u32A id), (5, iA (homeN id M : Nat))] (tbR n M T), .exit 0, mkSt 39 [(5, iA a)] (tbR n M T)⟩]⟩) (obl := [P2 M,
      (0 : Nat) = (0 : Nat),
      id = id,
      n = n,
      (64 : Int) = (64 : Int),
      M = M,
      ∀ (i : Nat), i < M → Sl.id (T i) = Sl.id (slOf (gS T) i) ∧ Sl.us (T i) = Sl.us (slOf (gS T) i) ∧ Sl.pk (T i) = Sl.pk (slOf (gS T) i) ∧ Sl.bt (T i) = Sl.bt (slOf (gS T) i) ∧ Sl.mo (T i) = Sl.mo (slOf (gS T) i) ∧ True,
      (0 : Nat) = (0 : Nat),
      id = id,
      (↑(homeN id M) : Int) = (↑(homeN id M) : Int),
      n = n,
      (64 : Int) = (64 : Int),
      M = M,
      ∀ (i : Nat), i < M → Sl.id (T i) = Sl.id (T i) ∧ Sl.us (T i) = Sl.us (T i) ∧ Sl.pk (T i) = Sl.pk (T i) ∧ Sl.bt (T i) = Sl.bt (T i) ∧ Sl.mo (T i) = Sl.mo (T i) ∧ True,
      (2 : Nat) ≤ (2 : Nat),
      CodeOk Try.prog (2 : Nat) (Code.loop (loopOf Try.f39 (0 : Nat))) (mkSt (39 : Nat) [((0 : Nat), p0), ((1 : Nat), u32A id), ((5 : Nat), iA (↑(homeN id M) : Int))] (tbR n M T)) (Ex.exit (0 : Nat)) (mkSt (39 : Nat) [((5 : Nat), iA (↑a : Int))] (tbR n M T)),
      (↑a : Int) = (↑a : Int)]) (by kernel_rfl) (.cons (by assumption) (.cons (by rfl) (.cons (by rfl) (.cons (by rfl) (.cons (by rfl) (.cons (by rfl) (.cons (by (intro _ _; exact ⟨rfl, rfl, rfl, rfl, rfl, trivial⟩)) (.cons (by rfl) (.cons (by rfl) (.cons (by rfl) (.cons (by rfl) (.cons (by rfl) (.cons (by rfl) (.cons (by (simp; done)) (.cons (by trivial) (.cons (by assumption) (.cons (by rfl) .nil))))))))))))))))) (Nat.le_of_ble_eq_true (by kernel_rfl))
end Go.Proofs.Ytmhkbepnankopaa

/- admit: find as a specification. No condition. -/
namespace Go.Proofs.Ytmhkbepnankopaa
set_option linter.unusedVariables false
set_option linter.unusedSimpArgs false
open Go.RowKit E
theorem mod_step {M a d : Nat} (ha : a < M) (hd : 0 < d) : ((a + 1) % M + (d - 1)) % M = (a + d) % M := by
  rw [Nat.add_mod ((a + 1) % M), Nat.mod_mod, ← Nat.add_mod]
  congr 1; omega
/-- A slot that is not in use is met. -/
theorem far {M a j : Nat} (ha : a < M) (hj : j < M) : ∃ d, d < M ∧ (a + d) % M = j := by
  refine ⟨(j + M - a) % M, Nat.mod_lt _ (by omega), ?_⟩
  rw [Nat.add_mod, Nat.mod_mod, ← Nat.add_mod, show a + (j + M - a) = j + M by omega, Nat.add_mod_right, Nat.mod_eq_of_lt hj]
abbrev fiS (M : Nat) (n id : Int) (T : Nat → Sl) (a : Nat) : St := mkSt 39 [(0, p0), (1, u32A id), (5, iA a)] (tbR n M T)
theorem fi_loop {M : Nat} (n id : Int) (T : Nat → Sl) (h2 : P2 M) : ∀ (d f a : Nat), a < M → d < f → (T ((a + d) % M)).us = false → LoopOk Try.prog 2 (loopOf Try.f39 0) (fiS M n id T a) (.exit 0) (mkSt 39 [(5, iA (fdF T M id f a : Nat))] (tbR n M T))
  | d, f + 1, a, ha, hd, hu => by
    have hp := h2.pos
    have hl := h2.le
    by_cases h : (T a).us = true ∧ (T a).id ≠ id
    · have e : fdF T M id (f + 1) a = fdF T M id f ((a + 1) % M) := by rw [fdF, if_pos h]
      rw [e]
      have h0 : 0 < d := by
        rcases Nat.eq_zero_or_pos d with q | q
        · subst q
          rw [Nat.add_zero, Nat.mod_eq_of_lt ha, h.1] at hu; cases hu
        · exact q
      obtain ⟨m, hM, hm⟩ := h2
      refine .step (fi_s M a n id T ⟨m, hM, hm⟩ hl ha h.1 h.2 ?_) (fi_loop n id T ⟨m, hM, hm⟩ (d - 1) f _ (Nat.mod_lt _ hp) (by omega) (by rw [mod_step ha h0]; exact hu))
      rw [w64 (a := (a : Int) + 1) (b := ((a + 1 : Nat) : Int)) (by omega) (by omega)]
      exact mask_M hM hm (by omega)
    · have e : fdF T M id (f + 1) a = a := by rw [fdF, if_neg h]
      rw [e]
      cases hu' : (T a).us
      · exact .last (by simp) (fi_u M a n id T h2 hl ha hu')
      · exact .last (by simp) (fi_h M a n id T h2 hl ha hu' (Classical.byContradiction fun q => h ⟨hu', q⟩))
/-- Some slot is not in use. -/
def free (M : Nat) (T : Nat → Sl) : Prop := ∃ j, j < M ∧ (T j).us = false
theorem fnFind17 {M : Nat} (n id : Int) (T : Nat → Sl) (h2 : P2 M) (hf : free M T) : FnOk Try.prog 39 [p0, u32A id] (tbR n M T) (iA (fd T M id : Nat)) [.gone, .gone] := by
  have hp := h2.pos
  obtain ⟨j, hj, hu⟩ := hf
  obtain ⟨d, hd, e⟩ := far (homeN_lt id hp) hj
  exact fi_f M _ n id T h2 (fi_loop n id T h2 d M (homeN id M) (homeN_lt id hp) hd (by rw [e]; exact hu)).code
def gFind17 : List SV → List Seg → Option (CS × List Prop)
  | [.nv (.one (.ptr h 0)), .nv (.one (.val (.int .u32 id)))], mem => match tbAt mem h with
    | some (n, M, g) => some (⟨[p0, u32A id], tbR n M (slOf g), iA (fd (slOf g) M id : Nat), [.gone, .gone]⟩, [P2 M, free M (slOf g)])
    | none => none
  | _, _ => none
theorem spFind17 : SpOk Try.prog 39 (.lift gFind17) := by
  intro args mem cs obl h ho
  unfold gFind17 at h
  split at h
  · split at h
    · simp only [Option.some.injEq, Prod.mk.injEq] at h
      obtain ⟨rfl, rfl⟩ := h
      exact fnFind17 _ _ _ ho.1 ho.2.1
    · cases h
  · cases h
/-- Where it stops: a slot that is not in use, or that has the number. -/
theorem fdF_stop {M : Nat} (T : Nat → Sl) (id : Int) : ∀ (d f a : Nat), a < M → d < f → (T ((a + d) % M)).us = false → fdF T M id f a < M ∧ ((T (fdF T M id f a)).us = false ∨ (T (fdF T M id f a)).id = id)
  | d, f + 1, a, ha, hd, hu => by
    unfold fdF
    split
    · rename_i h
      have h0 : 0 < d := by
        rcases Nat.eq_zero_or_pos d with q | q
        · subst q
          rw [Nat.add_zero, Nat.mod_eq_of_lt ha, h.1] at hu; cases hu
        · exact q
      exact fdF_stop T id (d - 1) f _ (Nat.mod_lt _ (by omega)) (by omega) (by rw [mod_step ha h0]; exact hu)
    · rename_i h
      refine ⟨ha, ?_⟩
      cases hu' : (T a).us
      · exact .inl rfl
      · exact .inr (Classical.byContradiction fun q => h ⟨hu', q⟩)
theorem fd_stop {M : Nat} (T : Nat → Sl) (id : Int) (hf : free M T) : fd T M id < M ∧ ((T (fd T M id)).us = false ∨ (T (fd T M id)).id = id) := by
  obtain ⟨j, hj, hu⟩ := hf
  obtain ⟨d, hd, e⟩ := far (homeN_lt id (show 0 < M by omega)) hj
  exact fdF_stop T id d M _ (homeN_lt id (by omega)) hd (by rw [e]; exact hu)
def Gad1 : List (FuncId × Sp) := (39, .lift gFind17) :: Gad0
theorem Gad1_ok : CtxOk Try.prog Gad1 := ctx_cons (enter_of Try.func39 (by kernel_rfl) (by kernel_rfl)) spFind17 Gad0_ok
end Go.Proofs.Ytmhkbepnankopaa

/- Runs of Go code, as printed by a program: no condition beyond those that each states. -/
import Derived.Test.YtakpokccjgoapaaTyA
import Derived.Test.YtakpokccjgoapaaChecked
import Derived.KernelRfl
namespace Go.Proofs.Ytakpokccjgoapaa
set_option linter.unusedVariables false
set_option linter.unusedSimpArgs false
set_option maxRecDepth 100000
open Go.RowKit E
set_option maxHeartbeats 2000000 in
theorem so_n (n i : Nat) (F : It) (hi : i < n) (hn : n ≤ 100000) : CodeOk Try.prog 1 (loopOf Try.f20 0) (mkSt 24 [(0, .nv (.one (.own 0))), (3, .nv (.one (.own 1))), (4, iA i)] [roIt n F, rwIt i (srtIt F i)]) .normal (mkSt 24 [(0, .nv (.one (.own 0))), (3, .nv (.one (.own 1))), (4, iA (i + 1 : Nat))] [roIt n F, rwIt (i + 1) (srtIt F (i + 1))]) :=
  code_run Gpn_ok (orc := ⟨[true], []⟩) (obl := [decide ((↑i : Int) < (↑n : Int)) = true,
      (0 : Int) ≤ (↑i : Int),
      (↑i : Int) < (↑n : Int),
      Int.toNat (↑i : Int) < n,
      (0 : Int) ≤ (↑i : Int),
      (↑i : Int) < (↑n : Int),
      Int.toNat (↑i : Int) < n,
      i ≤ (100000 : Nat),
      It.r F (Int.toNat (↑i : Int)) = It.r F (Int.toNat (↑i : Int)),
      It.x F (Int.toNat (↑i : Int)) = It.x F (Int.toNat (↑i : Int)),
      i = i,
      ∀ (i_1 : Nat), i_1 < i → It.r (srtIt F i) i_1 = It.r (itOf (gIt (srtIt F i))) i_1 ∧ It.x (srtIt F i) i_1 = It.x (itOf (gIt (srtIt F i))) i_1 ∧ True,
      ∀ (i_1 : Nat), i_1 < i + (1 : Nat) → (true && (true && true)) = true,
      IntKind.wrap IntKind.i64 ((↑i : Int) + (1 : Int)) = (↑(i + (1 : Nat)) : Int),
      n = n,
      ∀ (i : Nat), i < n → It.r F i = It.r F i ∧ It.x F i = It.x F i ∧ True,
      i + (1 : Nat) = i + (1 : Nat),
      ∀ (i_1 : Nat), i_1 < i + (1 : Nat) → It.r (It.ins (itOf (gIt (srtIt F i))) (It.pos (itOf (gIt (srtIt F i))) (It.r F (Int.toNat (↑i : Int))) i) (It.r F (Int.toNat (↑i : Int))) (It.x F (Int.toNat (↑i : Int)))) i_1 = It.r (srtIt F (i + (1 : Nat))) i_1 ∧ It.x (It.ins (itOf (gIt (srtIt F i))) (It.pos (itOf (gIt (srtIt F i))) (It.r F (Int.toNat (↑i : Int))) i) (It.r F (Int.toNat (↑i : Int))) (It.x F (Int.toNat (↑i : Int)))) i_1 = It.x (srtIt F (i + (1 : Nat))) i_1 ∧ True]) (by kernel_rfl) (.cons (by exact decide_eq_true (by omega)) (.cons (by omega) (.cons (by omega) (.cons (by assumption) (.cons (by omega) (.cons (by omega) (.cons (by assumption) (.cons (by omega) (.cons (by rfl) (.cons (by rfl) (.cons (by rfl) (.cons (by (intro _ _; exact ⟨rfl, rfl, trivial⟩)) (.cons (by (intro _ _; rfl)) (.cons (by exact w64 (by omega) (by omega)) (.cons (by rfl) (.cons (by (intro _ _; exact ⟨rfl, rfl, trivial⟩)) (.cons (by rfl) (.cons (by (intro _ _; exact ⟨rfl, rfl, trivial⟩)) .nil)))))))))))))))))) (Nat.le_of_ble_eq_true (by kernel_rfl))

set_option maxHeartbeats 2000000 in
theorem so_e (n : Nat) (F : It) : CodeOk Try.prog 1 (loopOf Try.f20 0) (mkSt 24 [(0, .nv (.one (.own 0))), (3, .nv (.one (.own 1))), (4, iA n)] [roIt n F, rwIt n (srtIt F n)]) (.exit 0) (mkSt 24 [(3, .nv (.one (.own 1)))] [roIt n F, rwIt n (srtIt F n)]) :=
  code_run Gpn_ok (orc := ⟨[false], []⟩) (obl := [decide ((↑n : Int) < (↑n : Int)) = false,
      n = n,
      ∀ (i : Nat), i < n → It.r F i = It.r F i ∧ It.x F i = It.x F i ∧ True,
      n = n,
      ∀ (i : Nat), i < n → It.r (srtIt F n) i = It.r (srtIt F n) i ∧ It.x (srtIt F n) i = It.x (srtIt F n) i ∧ True]) (by kernel_rfl) (.cons (by exact decide_eq_false (by omega)) (.cons (by rfl) (.cons (by (simp; done)) (.cons (by rfl) (.cons (by (simp; done)) .nil))))) (Nat.le_of_ble_eq_true (by kernel_rfl))

set_option maxHeartbeats 2000000 in
theorem so_f (n : Nat) (F : It) (l : CodeOk Try.prog 1 (.loop (loopOf Try.f20 0)) (mkSt 24 [(0, .nv (.one (.own 0))), (3, .nv (.one (.own 1))), (4, iA (0 : Nat))] [roIt n F, rwIt 0 (srtIt F 0)]) (.exit 0) (mkSt 24 [(3, .nv (.one (.own 1)))] [roIt n F, rwIt n (srtIt F n)])) : FnOk Try.prog 20 ([.nv (.one (.own 0))]) ([roIt n F]) (.nv (.one (.own 1))) ([roIt n F, rwIt n (srtIt F n)]) :=
  fn_run Gpn_ok Try.func20 (orc := ⟨[], [⟨mkSt 24 [(0, .nv (.one (.own 0))), (3, .nv (.one (.own 1))), (4, iA (0 : Nat))] [roIt n F, rwIt 0 (srtIt F 0)], .exit 0, mkSt 24 [(3, .nv (.one (.own 1)))] [roIt n F, rwIt n (srtIt F n)]⟩]⟩) (obl := [(0 : Int) = (↑(0 : Nat) : Int),
      n = n,
      ∀ (i : Nat), i < n → It.r F i = It.r F i ∧ It.x F i = It.x F i ∧ True,
      (0 : Nat) = (0 : Nat),
      (1 : Nat) ≤ (2 : Nat),
      CodeOk Try.prog (1 : Nat) (Code.loop (loopOf Try.f20 (0 : Nat))) (mkSt (24 : Nat) [((0 : Nat), SV.nv (NV.one (At.own (0 : Nat)))), ((3 : Nat), SV.nv (NV.one (At.own (1 : Nat)))), ((4 : Nat), iA (↑(0 : Nat) : Int))] [roIt n F, rwIt (0 : Nat) (srtIt F (0 : Nat))]) (Ex.exit (0 : Nat)) (mkSt (24 : Nat) [((3 : Nat), SV.nv (NV.one (At.own (1 : Nat))))] [roIt n F, rwIt n (srtIt F n)]),
      n = n,
      ∀ (i : Nat), i < n → It.r F i = It.r F i ∧ It.x F i = It.x F i ∧ True,
      n = n,
      ∀ (i : Nat), i < n → It.r (srtIt F n) i = It.r (srtIt F n) i ∧ It.x (srtIt F n) i = It.x (srtIt F n) i ∧ True]) (by kernel_rfl) (.cons (by rfl) (.cons (by rfl) (.cons (by (intro _ _; exact ⟨rfl, rfl, trivial⟩)) (.cons (by rfl) (.cons (by trivial) (.cons (by assumption) (.cons (by rfl) (.cons (by (intro _ _; exact ⟨rfl, rfl, trivial⟩)) (.cons (by rfl) (.cons (by (intro _ _; exact ⟨rfl, rfl, trivial⟩)) .nil)))))))))) (Nat.le_of_ble_eq_true (by kernel_rfl))

set_option maxHeartbeats 2000000 in
theorem be_n0 (len n nt i : Nat) (o c : Int) (R : Nat → Int) (T : Tw Int) (hi : i < len) (hl : len ≤ 300) (hr : room c n nt) (h1 : 1 ≤ (n : Int)) (hnt : nt ≤ 100000) (q : (nt : Int) < (n : Int)) (hq : (!decide ((nt : Int) < (n : Int))) = false) : CodeOk Try.prog 1 (loopOf Try.f5 0) (mkSt 106 [(5, iA n), (6, .nv (.one (.ptr 1 0))), (8, .nv (.one (.own 3))), (9, iA o), (33, .nv (.one (.own 0))), (34, iA len), (35, iA i)] [.ro 1 len (rkT R), .box 53 [.own 2, .val (.int .u64 c), .val (.int .i64 n)], .row 67 3 nt (gTi T), rwIt i ⟨R, fun j => j⟩]) .normal (mkSt 106 [(5, iA n), (6, .nv (.one (.ptr 1 0))), (8, .nv (.one (.own 3))), (9, iA o), (33, .nv (.one (.own 0))), (34, iA len), (35, iA (i + 1 : Nat))] [.ro 1 len (rkT R), .box 53 [.own 2, .val (.int .u64 (sqC T nt (R i) c n)), .val (.int .i64 n)], .row 67 3 (sqN T nt (R i) n) (gTi (T.sqz nt (R i) c n i)), rwIt (i + 1) ⟨R, fun j => j⟩]) :=
  code_run Gpn_ok (orc := ⟨[true, false], []⟩) (obl := [decide ((↑i : Int) < (↑len : Int)) = true,
      (0 : Int) ≤ (↑i : Int),
      (↑i : Int) < (↑len : Int),
      Int.toNat (↑i : Int) < len,
      i + (1 : Nat) ≤ (4611686018427387904 : Nat),
      (i + (1 : Nat)) * (16 : Nat) ≤ (140737488355328 : Nat),
      room c (↑n : Int) nt,
      (1 : Int) ≤ (↑n : Int),
      nt ≤ (100000 : Nat),
      (0 : Nat) = (0 : Nat),
      R (Int.toNat (↑i : Int)) = R (Int.toNat (↑i : Int)),
      (↑i : Int) = (↑i : Int),
      c = c,
      (↑n : Int) = (↑n : Int),
      nt = nt,
      ∀ (i : Nat), i < nt → Tw.r T i = Tw.r (twI (gTi T)) i ∧ Tw.c T i = Tw.c (twI (gTi T)) i ∧ Tw.x T i = Tw.x (twI (gTi T)) i ∧ True,
      ∀ (i_1 : Nat), i_1 < sqN (twI (gTi T)) nt (R (Int.toNat (↑i : Int))) (↑n : Int) → (true && (true && (true && true))) = true,
      (!decide ((↑nt : Int) < (↑n : Int))) = false,
      (↑n : Int) = (↑n : Int),
      (0 : Nat) = (0 : Nat),
      o = o,
      (↑len : Int) = (↑len : Int),
      IntKind.wrap IntKind.i64 ((↑i : Int) + (1 : Int)) = (↑(i + (1 : Nat)) : Int),
      len = len,
      ∀ (i : Nat), i < len → R i = R i ∧ True,
      sqC (twI (gTi T)) nt (R (Int.toNat (↑i : Int))) c (↑n : Int) = sqC T nt (R i) c (↑n : Int),
      (↑n : Int) = (↑n : Int),
      sqN (twI (gTi T)) nt (R (Int.toNat (↑i : Int))) (↑n : Int) = sqN T nt (R i) (↑n : Int),
      ∀ (i_1 : Nat), i_1 < sqN (twI (gTi T)) nt (R (Int.toNat (↑i : Int))) (↑n : Int) → Tw.r (Tw.sqz (twI (gTi T)) nt (R (Int.toNat (↑i : Int))) c (↑n : Int) (↑i : Int)) i_1 = Tw.r (Tw.sqz T nt (R i) c (↑n : Int) (↑i : Int)) i_1 ∧ Tw.c (Tw.sqz (twI (gTi T)) nt (R (Int.toNat (↑i : Int))) c (↑n : Int) (↑i : Int)) i_1 = Tw.c (Tw.sqz T nt (R i) c (↑n : Int) (↑i : Int)) i_1 ∧ Tw.x (Tw.sqz (twI (gTi T)) nt (R (Int.toNat (↑i : Int))) c (↑n : Int) (↑i : Int)) i_1 = Tw.x (Tw.sqz T nt (R i) c (↑n : Int) (↑i : Int)) i_1 ∧ True,
      i + (1 : Nat) = i + (1 : Nat),
      ∀ (i_1 : Nat), i_1 < i + (1 : Nat) → AllT (leAts ([(nat_lit 0, Bd.same (nat_lit 0))] ++ ([] ++ ([((1 : Nat), Bd.same (1 : Nat))] ++ ([((3 : Nat), Bd.same (5 : Nat))] ++ ([] ++ ([((0 : Nat), Bd.same (0 : Nat))] ++ ([] ++ ([] ++ []))))))) ++ ([] ++ ([((2 : Nat), Bd.same (6 : Nat))] ++ ([] ++ ([] ++ [])) ++ ([] ++ ([] ++ []))) ++ ([] ++ [] ++ []))) (4 : Nat) (if i_1 = i then [At.val (Value.int IntKind.u64 (R (Int.toNat (↑i : Int)))), At.val (Value.int IntKind.i64 (↑i : Int))] else gIt { r := R, x := fun j => (↑j : Int) } i_1) (gIt { r := R, x := fun j => (↑j : Int) } i_1))]) (by kernel_rfl) (.cons (by exact decide_eq_true (by omega)) (.cons (by omega) (.cons (by omega) (.cons (by assumption) (.cons (by omega) (.cons (by omega) (.cons (by assumption) (.cons (by assumption) (.cons (by assumption) (.cons (by rfl) (.cons (by rfl) (.cons (by rfl) (.cons (by rfl) (.cons (by rfl) (.cons (by rfl) (.cons (by (intro _ _; exact ⟨rfl, rfl, rfl, trivial⟩)) (.cons (by (intro _ _; rfl)) (.cons (by assumption) (.cons (by rfl) (.cons (by rfl) (.cons (by rfl) (.cons (by rfl) (.cons (by exact w64 (by omega) (by omega)) (.cons (by rfl) (.cons (by (intro j hj; exact Or.elim (Decidable.em (j = i)) (fun a => by simp [a, leAts, leAt, AllT]) (fun a => by simp [a, leAts, leAt, AllT]))) (.cons (by rfl) (.cons (by rfl) (.cons (by rfl) (.cons (by (intro _ _; exact ⟨rfl, rfl, rfl, trivial⟩)) (.cons (by rfl) (.cons (by (intro j hj; exact Or.elim (Decidable.em (j = i)) (fun a => by simp [a, leAts, leAt, AllT]) (fun a => by simp [a, leAts, leAt, AllT]))) .nil))))))))))))))))))))))))))))))) (Nat.le_of_ble_eq_true (by kernel_rfl))

set_option maxHeartbeats 2000000 in
theorem be_n1 (len n nt i : Nat) (o c : Int) (R : Nat → Int) (T : Tw Int) (hi : i < len) (hl : len ≤ 300) (hr : room c n nt) (h1 : 1 ≤ (n : Int)) (hnt : nt ≤ 100000) (q : ¬ (nt : Int) < (n : Int)) (hq : (!decide ((nt : Int) < (n : Int))) = true) (eo : IntKind.wrap IntKind.i64 (o + 1) = o + 1) : CodeOk Try.prog 1 (loopOf Try.f5 0) (mkSt 106 [(5, iA n), (6, .nv (.one (.ptr 1 0))), (8, .nv (.one (.own 3))), (9, iA o), (33, .nv (.one (.own 0))), (34, iA len), (35, iA i)] [.ro 1 len (rkT R), .box 53 [.own 2, .val (.int .u64 c), .val (.int .i64 n)], .row 67 3 nt (gTi T), rwIt i ⟨R, fun j => j⟩]) .normal (mkSt 106 [(5, iA n), (6, .nv (.one (.ptr 1 0))), (8, .nv (.one (.own 3))), (9, iA (o + 1)), (33, .nv (.one (.own 0))), (34, iA len), (35, iA (i + 1 : Nat))] [.ro 1 len (rkT R), .box 53 [.own 2, .val (.int .u64 (sqC T nt (R i) c n)), .val (.int .i64 n)], .row 67 3 (sqN T nt (R i) n) (gTi (T.sqz nt (R i) c n i)), rwIt (i + 1) ⟨R, fun j => j⟩]) :=
  code_run Gpn_ok (orc := ⟨[true, true], []⟩) (obl := [decide ((↑i : Int) < (↑len : Int)) = true,
      (0 : Int) ≤ (↑i : Int),
      (↑i : Int) < (↑len : Int),
      Int.toNat (↑i : Int) < len,
      i + (1 : Nat) ≤ (4611686018427387904 : Nat),
      (i + (1 : Nat)) * (16 : Nat) ≤ (140737488355328 : Nat),
      room c (↑n : Int) nt,
      (1 : Int) ≤ (↑n : Int),
      nt ≤ (100000 : Nat),
      (0 : Nat) = (0 : Nat),
      R (Int.toNat (↑i : Int)) = R (Int.toNat (↑i : Int)),
      (↑i : Int) = (↑i : Int),
      c = c,
      (↑n : Int) = (↑n : Int),
      nt = nt,
      ∀ (i : Nat), i < nt → Tw.r T i = Tw.r (twI (gTi T)) i ∧ Tw.c T i = Tw.c (twI (gTi T)) i ∧ Tw.x T i = Tw.x (twI (gTi T)) i ∧ True,
      ∀ (i_1 : Nat), i_1 < sqN (twI (gTi T)) nt (R (Int.toNat (↑i : Int))) (↑n : Int) → (true && (true && (true && true))) = true,
      (!decide ((↑nt : Int) < (↑n : Int))) = true,
      (↑n : Int) = (↑n : Int),
      (0 : Nat) = (0 : Nat),
      IntKind.wrap IntKind.i64 (o + (1 : Int)) = o + (1 : Int),
      (↑len : Int) = (↑len : Int),
      IntKind.wrap IntKind.i64 ((↑i : Int) + (1 : Int)) = (↑(i + (1 : Nat)) : Int),
      len = len,
      ∀ (i : Nat), i < len → R i = R i ∧ True,
      sqC (twI (gTi T)) nt (R (Int.toNat (↑i : Int))) c (↑n : Int) = sqC T nt (R i) c (↑n : Int),
      (↑n : Int) = (↑n : Int),
      sqN (twI (gTi T)) nt (R (Int.toNat (↑i : Int))) (↑n : Int) = sqN T nt (R i) (↑n : Int),
      ∀ (i_1 : Nat), i_1 < sqN (twI (gTi T)) nt (R (Int.toNat (↑i : Int))) (↑n : Int) → Tw.r (Tw.sqz (twI (gTi T)) nt (R (Int.toNat (↑i : Int))) c (↑n : Int) (↑i : Int)) i_1 = Tw.r (Tw.sqz T nt (R i) c (↑n : Int) (↑i : Int)) i_1 ∧ Tw.c (Tw.sqz (twI (gTi T)) nt (R (Int.toNat (↑i : Int))) c (↑n : Int) (↑i : Int)) i_1 = Tw.c (Tw.sqz T nt (R i) c (↑n : Int) (↑i : Int)) i_1 ∧ Tw.x (Tw.sqz (twI (gTi T)) nt (R (Int.toNat (↑i : Int))) c (↑n : Int) (↑i : Int)) i_1 = Tw.x (Tw.sqz T nt (R i) c (↑n : Int) (↑i : Int)) i_1 ∧ True,
      i + (1 : Nat) = i + (1 : Nat),
      ∀ (i_1 : Nat), i_1 < i + (1 : Nat) → AllT (leAts ([(nat_lit 0, Bd.same (nat_lit 0))] ++ ([] ++ ([((1 : Nat), Bd.same (1 : Nat))] ++ ([((3 : Nat), Bd.same (5 : Nat))] ++ ([] ++ ([((0 : Nat), Bd.same (0 : Nat))] ++ ([] ++ ([] ++ []))))))) ++ ([] ++ ([((2 : Nat), Bd.same (6 : Nat))] ++ ([] ++ ([] ++ [])) ++ ([] ++ ([] ++ []))) ++ ([] ++ [] ++ []))) (4 : Nat) (if i_1 = i then [At.val (Value.int IntKind.u64 (R (Int.toNat (↑i : Int)))), At.val (Value.int IntKind.i64 (↑i : Int))] else gIt { r := R, x := fun j => (↑j : Int) } i_1) (gIt { r := R, x := fun j => (↑j : Int) } i_1))]) (by kernel_rfl) (.cons (by exact decide_eq_true (by omega)) (.cons (by omega) (.cons (by omega) (.cons (by assumption) (.cons (by omega) (.cons (by omega) (.cons (by assumption) (.cons (by assumption) (.cons (by assumption) (.cons (by rfl) (.cons (by rfl) (.cons (by rfl) (.cons (by rfl) (.cons (by rfl) (.cons (by rfl) (.cons (by (intro _ _; exact ⟨rfl, rfl, rfl, trivial⟩)) (.cons (by (intro _ _; rfl)) (.cons (by assumption) (.cons (by rfl) (.cons (by rfl) (.cons (by assumption) (.cons (by rfl) (.cons (by exact w64 (by omega) (by omega)) (.cons (by rfl) (.cons (by (intro j hj; exact Or.elim (Decidable.em (j = i)) (fun a => by simp [a, leAts, leAt, AllT]) (fun a => by simp [a, leAts, leAt, AllT]))) (.cons (by rfl) (.cons (by rfl) (.cons (by rfl) (.cons (by (intro _ _; exact ⟨rfl, rfl, rfl, trivial⟩)) (.cons (by rfl) (.cons (by (intro j hj; exact Or.elim (Decidable.em (j = i)) (fun a => by simp [a, leAts, leAt, AllT]) (fun a => by simp [a, leAts, leAt, AllT]))) .nil))))))))))))))))))))))))))))))) (Nat.le_of_ble_eq_true (by kernel_rfl))

set_option maxHeartbeats 2000000 in
theorem be_e (len n nt : Nat) (o c : Int) (R : Nat → Int) (T : Tw Int) : CodeOk Try.prog 1 (loopOf Try.f5 0) (mkSt 106 [(5, iA n), (6, .nv (.one (.ptr 1 0))), (8, .nv (.one (.own 3))), (9, iA o), (33, .nv (.one (.own 0))), (34, iA len), (35, iA len)] [.ro 1 len (rkT R), .box 53 [.own 2, .val (.int .u64 c), .val (.int .i64 n)], .row 67 3 nt (gTi T), rwIt len ⟨R, fun j => j⟩]) (.exit 0) (mkSt 106 [(5, iA n), (6, .nv (.one (.ptr 1 0))), (8, .nv (.one (.own 3))), (9, iA o)] [.ro 1 len (rkT R), .box 53 [.own 2, .val (.int .u64 c), .val (.int .i64 n)], .row 67 3 nt (gTi T), rwIt len ⟨R, fun j => j⟩]) :=
  code_run Gpn_ok (orc := ⟨[false], []⟩) (obl := [decide ((↑len : Int) < (↑len : Int)) = false,
      (↑n : Int) = (↑n : Int),
      (0 : Nat) = (0 : Nat),
      o = o,
      len = len,
      ∀ (i : Nat), i < len → R i = R i ∧ True,
      c = c,
      (↑n : Int) = (↑n : Int),
      nt = nt,
      ∀ (i : Nat), i < nt → Tw.r T i = Tw.r T i ∧ Tw.c T i = Tw.c T i ∧ Tw.x T i = Tw.x T i ∧ True,
      len = len,
      ∀ (i : Nat), i < len → It.r { r := R, x := fun j => (↑j : Int) } i = It.r { r := R, x := fun j => (↑j : Int) } i ∧ It.x { r := R, x := fun j => (↑j : Int) } i = It.x { r := R, x := fun j => (↑j : Int) } i ∧ True]) (by kernel_rfl) (.cons (by exact decide_eq_false (by omega)) (.cons (by rfl) (.cons (by rfl) (.cons (by rfl) (.cons (by rfl) (.cons (by (intro _ _; exact ⟨rfl, trivial⟩)) (.cons (by rfl) (.cons (by rfl) (.cons (by rfl) (.cons (by (simp; done)) (.cons (by rfl) (.cons (by (simp; done)) .nil)))))))))))) (Nat.le_of_ble_eq_true (by kernel_rfl))
end Go.Proofs.Ytakpokccjgoapaa

/- Runs of Go code, as printed by a program: no condition beyond those that each states. -/
import Derived.Test.YtecgigeahkijaaaOpD
import Derived.Test.YtecgigeahkijaaaChecked
import Derived.KernelRfl
import Derived.Test.YtecgigeahkijaaaED
namespace Go.Proofs.Ytecgigeahkijaaa
set_option linter.unusedVariables false
set_option linter.unusedSimpArgs false
set_option maxRecDepth 100000
open Go.RowKit E
attribute [local irreducible] errT atN fldT oneZ numZ txtZ oneX oneW oneL
set_option maxHeartbeats 2000000 in
theorem or_j (t : ByteArray) (i : Nat) (L M : Nat → Op5) (hz : t.size ≤ 100000000) (h1 : 1 ≤ t.size) (hi : i ≤ 100000000) (eL : ∀ j, j < i → L j = M j) (c : Int) (ec : IntKind.wrap IntKind.u64 (byteAt t 0) = c) (eb : byteAt t 0 = c) (hb : begB c = false) (eM : M i = ⟨0, 0, 0, c, 0⟩) : CodeOk Try.prog 0 (loopOf Try.f8 0) (mkSt 39 [(0, sA t), (3, .nv (.one (.own 0)))] [.row 30 5 i (gO L)]) .normal (mkSt 39 [(0, sA (fromZ t 1)), (3, .nv (.one (.own 0)))] [.row 30 5 (i + 1) (gO M)]) :=
  code_run GoA_ok (orc := ⟨[true, true], []⟩) (obl := [(!ByteArray.toList t == ByteArray.toList (ByteArray.mk #[])) = true,
      (0 : Int) ≤ (0 : Int),
      (0 : Int) < (↑(ByteArray.size t) : Int),
      (!begB (IntKind.wrap IntKind.u64 (byteAt t (0 : Int)))) = true,
      i + (1 : Nat) ≤ (4611686018427387904 : Nat),
      (i + (1 : Nat)) * (32 : Nat) ≤ (140737488355328 : Nat),
      (0 : Int) ≤ Option.getD (some (Prod.snd (IntKind.i64, (1 : Int)))) (0 : Int),
      Option.getD (some (Prod.snd (IntKind.i64, (1 : Int)))) (0 : Int) ≤ Option.getD none (↑(ByteArray.size t) : Int),
      Option.getD none (↑(ByteArray.size t) : Int) ≤ (↑(ByteArray.size t) : Int),
      Prod.fst (ByteArray.extract t (Int.toNat (Option.getD (some (Prod.snd (IntKind.i64, (1 : Int)))) (0 : Int))) (Int.toNat (Option.getD none (↑(ByteArray.size t) : Int))), [(0 : Int) ≤ Option.getD (some (Prod.snd (IntKind.i64, (1 : Int)))) (0 : Int), Option.getD (some (Prod.snd (IntKind.i64, (1 : Int)))) (0 : Int) ≤ Option.getD none (↑(ByteArray.size t) : Int), Option.getD none (↑(ByteArray.size t) : Int) ≤ (↑(ByteArray.size t) : Int)]) = fromZ t (1 : Nat),
      i + (1 : Nat) = i + (1 : Nat),
      ∀ (i_1 : Nat), i_1 < i + (1 : Nat) → AllT (leAts ([] ++ ([] ++ ([((0 : Nat), Bd.same (2 : Nat))] ++ [])) ++ ([] ++ [] ++ ([] ++ []))) (1 : Nat) (if i_1 = i then [At.val (Value.int IntKind.i64 (0 : Int)), At.val (Value.int IntKind.u32 (0 : Int)), At.val (Value.int IntKind.u32 (0 : Int)), At.val (Value.int IntKind.u64 (IntKind.wrap IntKind.u64 (byteAt t (0 : Int)))), At.val (Value.int IntKind.u64 (0 : Int))] else gO L i_1) (gO M i_1))]) (by kernel_rfl) (.cons (by (rw [str_ne (by omega)]; rfl)) (.cons (by trivial) (.cons (by omega) (.cons (by (rw [ec, hb]; rfl)) (.cons (by omega) (.cons (by omega) (.cons (by trivial) (.cons (by (simp; omega)) (.cons (by (simp; done)) (.cons (by rfl) (.cons (by rfl) (.cons (by (intro j hj; by_cases e9 : j = i; (rw [if_pos e9]; subst e9; exact ⟨(congrArg Op5.k eM).symm, (congrArg Op5.fl eM).symm, (congrArg Op5.id eM).symm, ec.trans (congrArg Op5.ln eM).symm, (congrArg Op5.tk eM).symm, trivial⟩); (rw [if_neg e9]; have h9 := eL j (by omega); exact ⟨congrArg Op5.k h9, congrArg Op5.fl h9, congrArg Op5.id h9, congrArg Op5.ln h9, congrArg Op5.tk h9, trivial⟩))) .nil)))))))))))) (Nat.le_of_ble_eq_true (by kernel_rfl))

set_option maxHeartbeats 2000000 in
theorem or_w (t : ByteArray) (i : Nat) (L M : Nat → Op5) (hz : t.size ≤ 100000000) (h1 : 1 ≤ t.size) (hi : i ≤ 100000000) (eL : ∀ j, j < i → L j = M j) (c : Int) (ec : IntKind.wrap IntKind.u64 (byteAt t 0) = c) (eb : byteAt t 0 = c) (hb : begB c = true) (n : Nat) (hb2 : begB (byteAt t 0) = true) (hw : oneW t = true) (hn : (if oneW t = true then oneL t else 0) = n) (hn1 : n ≤ t.size) (eM : M i = oneX t) : CodeOk Try.prog 0 (loopOf Try.f8 0) (mkSt 39 [(0, sA t), (3, .nv (.one (.own 0)))] [.row 30 5 i (gO L)]) .normal (mkSt 39 [(0, sA (fromZ t n)), (3, .nv (.one (.own 0)))] [.row 30 5 (i + 1) (gO M)]) :=
  code_run GoA_ok (orc := ⟨[true, false, false], []⟩) (obl := [(!ByteArray.toList t == ByteArray.toList (ByteArray.mk #[])) = true,
      (0 : Int) ≤ (0 : Int),
      (0 : Int) < (↑(ByteArray.size t) : Int),
      (!begB (IntKind.wrap IntKind.u64 (byteAt t (0 : Int)))) = false,
      (1 : Nat) ≤ ByteArray.size t,
      ByteArray.size t ≤ (100000000 : Nat),
      begB (byteAt t (0 : Int)) = true,
      i + (1 : Nat) ≤ (4611686018427387904 : Nat),
      (i + (1 : Nat)) * (32 : Nat) ≤ (140737488355328 : Nat),
      (!oneW t) = false,
      (0 : Int) ≤ Option.getD (some (Prod.snd (IntKind.i64, (↑(if oneW t = true then oneL t else (0 : Nat)) : Int)))) (0 : Int),
      Option.getD (some (Prod.snd (IntKind.i64, (↑(if oneW t = true then oneL t else (0 : Nat)) : Int)))) (0 : Int) ≤ Option.getD none (↑(ByteArray.size t) : Int),
      Option.getD none (↑(ByteArray.size t) : Int) ≤ (↑(ByteArray.size t) : Int),
      Prod.fst (ByteArray.extract t (Int.toNat (Option.getD (some (Prod.snd (IntKind.i64, (↑(if oneW t = true then oneL t else (0 : Nat)) : Int)))) (0 : Int))) (Int.toNat (Option.getD none (↑(ByteArray.size t) : Int))), [(0 : Int) ≤ Option.getD (some (Prod.snd (IntKind.i64, (↑(if oneW t = true then oneL t else (0 : Nat)) : Int)))) (0 : Int), Option.getD (some (Prod.snd (IntKind.i64, (↑(if oneW t = true then oneL t else (0 : Nat)) : Int)))) (0 : Int) ≤ Option.getD none (↑(ByteArray.size t) : Int), Option.getD none (↑(ByteArray.size t) : Int) ≤ (↑(ByteArray.size t) : Int)]) = fromZ t n,
      i + (1 : Nat) = i + (1 : Nat),
      ∀ (i_1 : Nat), i_1 < i + (1 : Nat) → AllT (leAts ([] ++ ([] ++ ([((0 : Nat), Bd.same (3 : Nat))] ++ [])) ++ ([] ++ [] ++ ([] ++ []))) (1 : Nat) (if i_1 = i then [At.val (Value.int IntKind.i64 (Op5.k (oneX t))), At.val (Value.int IntKind.u32 (Op5.fl (oneX t))), At.val (Value.int IntKind.u32 (Op5.id (oneX t))), At.val (Value.int IntKind.u64 (Op5.ln (oneX t))), At.val (Value.int IntKind.u64 (Op5.tk (oneX t)))] else gO L i_1) (gO M i_1))]) (by kernel_rfl) (.cons (by (rw [str_ne (by omega)]; rfl)) (.cons (by trivial) (.cons (by omega) (.cons (by (rw [ec, hb]; rfl)) (.cons (by assumption) (.cons (by assumption) (.cons (by assumption) (.cons (by omega) (.cons (by omega) (.cons (by (rw [hw]; rfl)) (.cons (by (simp only [Option.getD, hn]; omega)) (.cons (by (simp only [Option.getD, hn]; omega)) (.cons (by (simp only [Option.getD, hn]; omega)) (.cons (by (simp only [Option.getD, hn]; rfl)) (.cons (by rfl) (.cons (by (intro j hj; by_cases e9 : j = i; (rw [if_pos e9]; subst e9; exact ⟨(congrArg Op5.k eM).symm, (congrArg Op5.fl eM).symm, (congrArg Op5.id eM).symm, (congrArg Op5.ln eM).symm, (congrArg Op5.tk eM).symm, trivial⟩); (rw [if_neg e9]; have h9 := eL j (by omega); exact ⟨congrArg Op5.k h9, congrArg Op5.fl h9, congrArg Op5.id h9, congrArg Op5.ln h9, congrArg Op5.tk h9, trivial⟩))) .nil)))))))))))))))) (Nat.le_of_ble_eq_true (by kernel_rfl))

set_option maxHeartbeats 2000000 in
theorem or_t (t : ByteArray) (i : Nat) (L M : Nat → Op5) (hz : t.size ≤ 100000000) (h1 : 1 ≤ t.size) (hi : i ≤ 100000000) (eL : ∀ j, j < i → L j = M j) (c : Int) (ec : IntKind.wrap IntKind.u64 (byteAt t 0) = c) (eb : byteAt t 0 = c) (hb : begB c = true) (hb2 : begB (byteAt t 0) = true) (hw : oneW t = false) (eM : M i = oneX t) : CodeOk Try.prog 0 (loopOf Try.f8 0) (mkSt 39 [(0, sA t), (3, .nv (.one (.own 0)))] [.row 30 5 i (gO L)]) (.exit 0) (mkSt 39 [(3, .nv (.one (.own 0)))] [.row 30 5 (i + 1) (gO M)]) :=
  code_run GoA_ok (orc := ⟨[true, false, true], []⟩) (obl := [(!ByteArray.toList t == ByteArray.toList (ByteArray.mk #[])) = true,
      (0 : Int) ≤ (0 : Int),
      (0 : Int) < (↑(ByteArray.size t) : Int),
      (!begB (IntKind.wrap IntKind.u64 (byteAt t (0 : Int)))) = false,
      (1 : Nat) ≤ ByteArray.size t,
      ByteArray.size t ≤ (100000000 : Nat),
      begB (byteAt t (0 : Int)) = true,
      i + (1 : Nat) ≤ (4611686018427387904 : Nat),
      (i + (1 : Nat)) * (32 : Nat) ≤ (140737488355328 : Nat),
      (!oneW t) = true,
      i + (1 : Nat) = i + (1 : Nat),
      ∀ (i_1 : Nat), i_1 < i + (1 : Nat) → AllT (leAts ([] ++ ([((0 : Nat), Bd.same (3 : Nat))] ++ []) ++ ([] ++ [] ++ ([] ++ []))) (1 : Nat) (if i_1 = i then [At.val (Value.int IntKind.i64 (Op5.k (oneX t))), At.val (Value.int IntKind.u32 (Op5.fl (oneX t))), At.val (Value.int IntKind.u32 (Op5.id (oneX t))), At.val (Value.int IntKind.u64 (Op5.ln (oneX t))), At.val (Value.int IntKind.u64 (Op5.tk (oneX t)))] else gO L i_1) (gO M i_1))]) (by kernel_rfl) (.cons (by (rw [str_ne (by omega)]; rfl)) (.cons (by trivial) (.cons (by omega) (.cons (by (rw [ec, hb]; rfl)) (.cons (by assumption) (.cons (by assumption) (.cons (by assumption) (.cons (by omega) (.cons (by omega) (.cons (by (rw [hw]; rfl)) (.cons (by rfl) (.cons (by (intro j hj; by_cases e9 : j = i; (rw [if_pos e9]; subst e9; exact ⟨(congrArg Op5.k eM).symm, (congrArg Op5.fl eM).symm, (congrArg Op5.id eM).symm, (congrArg Op5.ln eM).symm, (congrArg Op5.tk eM).symm, trivial⟩); (rw [if_neg e9]; have h9 := eL j (by omega); exact ⟨congrArg Op5.k h9, congrArg Op5.fl h9, congrArg Op5.id h9, congrArg Op5.ln h9, congrArg Op5.tk h9, trivial⟩))) .nil)))))))))))) (Nat.le_of_ble_eq_true (by kernel_rfl))

set_option maxHeartbeats 2000000 in
theorem or_e (t : ByteArray) (i : Nat) (L : Nat → Op5) (h1 : t.size = 0) : CodeOk Try.prog 0 (loopOf Try.f8 0) (mkSt 39 [(0, sA t), (3, .nv (.one (.own 0)))] [.row 30 5 i (gO L)]) (.exit 0) (mkSt 39 [(3, .nv (.one (.own 0)))] [.row 30 5 i (gO L)]) :=
  code_run GoA_ok (orc := ⟨[false], []⟩) (obl := [(!ByteArray.toList t == ByteArray.toList (ByteArray.mk #[])) = false,
      i = i,
      ∀ (i_1 : Nat), i_1 < i → Op5.k (L i_1) = Op5.k (L i_1) ∧ Op5.fl (L i_1) = Op5.fl (L i_1) ∧ Op5.id (L i_1) = Op5.id (L i_1) ∧ Op5.ln (L i_1) = Op5.ln (L i_1) ∧ Op5.tk (L i_1) = Op5.tk (L i_1) ∧ True]) (by kernel_rfl) (.cons (by (rw [str_eq h1]; rfl)) (.cons (by rfl) (.cons (by (intro _ _; exact ⟨rfl, rfl, rfl, rfl, rfl, trivial⟩)) .nil))) (Nat.le_of_ble_eq_true (by kernel_rfl))

set_option maxHeartbeats 2000000 in
theorem or_f (s : ByteArray) (n : Nat) (L0 L : Nat → Op5) (l0 : CodeOk Try.prog 0 (.loop (loopOf Try.f8 0)) (mkSt 39 [(0, sA s), (3, .nv (.one (.own 0)))] [.row 30 5 0 (gO L0)]) (.exit 0) (mkSt 39 [(3, .nv (.one (.own 0)))] [.row 30 5 n (gO L)])) : FnOk Try.prog 8 ([sA s]) ([]) (.nv (.one (.own 0))) ([.row 30 5 n (gO L)]) :=
  fn_run GoA_ok Try.func8 (orc := ⟨[], [⟨mkSt 39 [(0, sA s), (3, .nv (.one (.own 0)))] [.row 30 5 0 (gO L0)], .exit 0, mkSt 39 [(3, .nv (.one (.own 0)))] [.row 30 5 n (gO L)]⟩]⟩) (obl := [s = s,
      (0 : Nat) = (0 : Nat),
      (0 : Nat) ≤ (1 : Nat),
      CodeOk Try.prog (0 : Nat) (Code.loop (loopOf Try.f8 (0 : Nat))) (mkSt (39 : Nat) [((0 : Nat), sA s), ((3 : Nat), SV.nv (NV.one (At.own (0 : Nat))))] [Seg.row (30 : TypeId) (5 : Nat) (0 : Nat) (gO L0)]) (Ex.exit (0 : Nat)) (mkSt (39 : Nat) [((3 : Nat), SV.nv (NV.one (At.own (0 : Nat))))] [Seg.row (30 : TypeId) (5 : Nat) n (gO L)]),
      n = n,
      ∀ (i : Nat), i < n → Op5.k (L i) = Op5.k (L i) ∧ Op5.fl (L i) = Op5.fl (L i) ∧ Op5.id (L i) = Op5.id (L i) ∧ Op5.ln (L i) = Op5.ln (L i) ∧ Op5.tk (L i) = Op5.tk (L i) ∧ True]) (by kernel_rfl) (.cons (by rfl) (.cons (by rfl) (.cons (by trivial) (.cons (by assumption) (.cons (by rfl) (.cons (by (intro _ _; exact ⟨rfl, rfl, rfl, rfl, rfl, trivial⟩)) .nil)))))) (Nat.le_of_ble_eq_true (by kernel_rfl))

set_option maxHeartbeats 2000000 in
theorem rr_1e (t : ByteArray) (i : Nat) (L M : Nat → Op5) (hz : t.size ≤ 100000000) (h1 : 1 ≤ t.size) (hi : i ≤ 100000000) (eL : ∀ j, j < i → L j = M j) (e : Int) (ec : IntKind.wrap IntKind.i64 (byteAt t 0) = 1) (he : (∀ K : Nat → Int, (∀ j, j < 3 → K j = kindsF 1 j) → errT (fromZ t 1) K 3 = e)) (h0 : e ≠ 0) (eM : M i = ⟨5, 0, 0, 0, 0⟩) : CodeOk Try.prog 0 (loopOf Try.f9 0) (mkSt 91 [(0, sA t), (3, .nv (.one (.own 0)))] [.row 30 5 i (gO L)]) .ret (mkSt 91 [(2, .nv (.one (.own 0)))] [.row 30 5 (i + 1) (gO M)]) :=
  code_run GoA_ok (orc := ⟨[true, true, false, false, false, true], []⟩) (obl := [decide ((↑(ByteArray.size t) : Int) > (0 : Int)) = true,
      (0 : Int) ≤ (0 : Int),
      (0 : Int) < (↑(ByteArray.size t) : Int),
      (IntKind.wrap IntKind.i64 (byteAt t (0 : Int)) == (1 : Int)) = true,
      (3 : Nat) ≤ (4611686018427387904 : Nat),
      (24 : Nat) ≤ (140737488355328 : Nat),
      (IntKind.wrap IntKind.i64 (byteAt t (0 : Int)) == (3 : Int)) = false,
      (IntKind.wrap IntKind.i64 (byteAt t (0 : Int)) == (0 : Int)) = false,
      decide (IntKind.wrap IntKind.i64 (byteAt t (0 : Int)) > (4 : Int)) = false,
      (0 : Int) ≤ Option.getD (some (Prod.snd (IntKind.i64, (1 : Int)))) (0 : Int),
      Option.getD (some (Prod.snd (IntKind.i64, (1 : Int)))) (0 : Int) ≤ Option.getD none (↑(ByteArray.size t) : Int),
      Option.getD none (↑(ByteArray.size t) : Int) ≤ (↑(ByteArray.size t) : Int),
      ByteArray.size (Prod.fst (ByteArray.extract t (Int.toNat (Option.getD (some (Prod.snd (IntKind.i64, (1 : Int)))) (0 : Int))) (Int.toNat (Option.getD none (↑(ByteArray.size t) : Int))), [(0 : Int) ≤ Option.getD (some (Prod.snd (IntKind.i64, (1 : Int)))) (0 : Int), Option.getD (some (Prod.snd (IntKind.i64, (1 : Int)))) (0 : Int) ≤ Option.getD none (↑(ByteArray.size t) : Int), Option.getD none (↑(ByteArray.size t) : Int) ≤ (↑(ByteArray.size t) : Int)])) ≤ (140737488355328 : Nat),
      (3 : Nat) ≤ (1000 : Nat),
      Prod.fst (ByteArray.extract t (Int.toNat (Option.getD (some (Prod.snd (IntKind.i64, (1 : Int)))) (0 : Int))) (Int.toNat (Option.getD none (↑(ByteArray.size t) : Int))), [(0 : Int) ≤ Option.getD (some (Prod.snd (IntKind.i64, (1 : Int)))) (0 : Int), Option.getD (some (Prod.snd (IntKind.i64, (1 : Int)))) (0 : Int) ≤ Option.getD none (↑(ByteArray.size t) : Int), Option.getD none (↑(ByteArray.size t) : Int) ≤ (↑(ByteArray.size t) : Int)]) = Prod.fst (ByteArray.extract t (Int.toNat (Option.getD (some (Prod.snd (IntKind.i64, (1 : Int)))) (0 : Int))) (Int.toNat (Option.getD none (↑(ByteArray.size t) : Int))), [(0 : Int) ≤ Option.getD (some (Prod.snd (IntKind.i64, (1 : Int)))) (0 : Int), Option.getD (some (Prod.snd (IntKind.i64, (1 : Int)))) (0 : Int) ≤ Option.getD none (↑(ByteArray.size t) : Int), Option.getD none (↑(ByteArray.size t) : Int) ≤ (↑(ByteArray.size t) : Int)]),
      (3 : Nat) = (3 : Nat),
      ∀ (i : Nat), i < (3 : Nat) → AllT (leAts ([] ++ ([] ++ ([((0 : Nat), Bd.same (3 : Nat))] ++ [])) ++ ([] ++ [] ++ ([] ++ []))) (1 : Nat) (litG (1 : Nat) [At.val (Value.int IntKind.i64 (3 : Int)), At.val (Value.int IntKind.i64 (3 : Int)), At.val (Value.int IntKind.i64 (5 : Int))] i) (gK (kOf (litG (1 : Nat) [At.val (Value.int IntKind.i64 (3 : Int)), At.val (Value.int IntKind.i64 (3 : Int)), At.val (Value.int IntKind.i64 (5 : Int))])) i)),
      ∀ (i : Nat), (i < if errT (Prod.fst (ByteArray.extract t (Int.toNat (Option.getD (some (Prod.snd (IntKind.i64, (1 : Int)))) (0 : Int))) (Int.toNat (Option.getD none (↑(ByteArray.size t) : Int))), [(0 : Int) ≤ Option.getD (some (Prod.snd (IntKind.i64, (1 : Int)))) (0 : Int), Option.getD (some (Prod.snd (IntKind.i64, (1 : Int)))) (0 : Int) ≤ Option.getD none (↑(ByteArray.size t) : Int), Option.getD none (↑(ByteArray.size t) : Int) ≤ (↑(ByteArray.size t) : Int)])) (kOf (litG (1 : Nat) [At.val (Value.int IntKind.i64 (3 : Int)), At.val (Value.int IntKind.i64 (3 : Int)), At.val (Value.int IntKind.i64 (5 : Int))])) (3 : Nat) = (0 : Int) then (3 : Nat) else (0 : Nat)) → (true && (true && (true && true))) = true,
      (errT (Prod.fst (ByteArray.extract t (Int.toNat (Option.getD (some (Prod.snd (IntKind.i64, (1 : Int)))) (0 : Int))) (Int.toNat (Option.getD none (↑(ByteArray.size t) : Int))), [(0 : Int) ≤ Option.getD (some (Prod.snd (IntKind.i64, (1 : Int)))) (0 : Int), Option.getD (some (Prod.snd (IntKind.i64, (1 : Int)))) (0 : Int) ≤ Option.getD none (↑(ByteArray.size t) : Int), Option.getD none (↑(ByteArray.size t) : Int) ≤ (↑(ByteArray.size t) : Int)])) (kOf (litG (1 : Nat) [At.val (Value.int IntKind.i64 (3 : Int)), At.val (Value.int IntKind.i64 (3 : Int)), At.val (Value.int IntKind.i64 (5 : Int))])) (3 : Nat) != (0 : Int)) = true,
      i + (1 : Nat) ≤ (4611686018427387904 : Nat),
      (i + (1 : Nat)) * (32 : Nat) ≤ (140737488355328 : Nat),
      i + (1 : Nat) = i + (1 : Nat),
      ∀ (i_1 : Nat), i_1 < i + (1 : Nat) → AllT (leAts ([] ++ ([((0 : Nat), Bd.same (6 : Nat))] ++ []) ++ ([] ++ [] ++ ([] ++ []))) (1 : Nat) (if i_1 = i then [At.val (Value.int IntKind.i64 (5 : Int)), At.val (Value.int IntKind.u32 (0 : Int)), At.val (Value.int IntKind.u32 (0 : Int)), At.val (Value.int IntKind.u64 (0 : Int)), At.val (Value.int IntKind.u64 (0 : Int))] else gO L i_1) (gO M i_1))]) (by kernel_rfl) (.cons (by exact decide_eq_true (by omega)) (.cons (by trivial) (.cons (by omega) (.cons (by (rw [ec]; rfl)) (.cons (by trivial) (.cons (by trivial) (.cons (by (rw [ec]; rfl)) (.cons (by (rw [ec]; rfl)) (.cons (by (rw [ec]; rfl)) (.cons (by trivial) (.cons (by (simp; omega)) (.cons (by (simp; done)) (.cons (by exact ext_size (by omega)) (.cons (by trivial) (.cons (by rfl) (.cons (by rfl) (.cons (by (intro i hi; match i, hi with | 0, _ => exact ⟨rfl, trivial⟩ | 1, _ => exact ⟨rfl, trivial⟩ | 2, _ => exact ⟨rfl, trivial⟩)) (.cons (by (intro _ _; rfl)) (.cons (by exact bne_iff_ne.2 (fun h9 => h0 ((he _ k1_lit).symm.trans h9))) (.cons (by omega) (.cons (by omega) (.cons (by rfl) (.cons (by (intro j hj; by_cases e9 : j = i; (rw [if_pos e9]; subst e9; exact ⟨(congrArg Op5.k eM).symm, (congrArg Op5.fl eM).symm, (congrArg Op5.id eM).symm, (congrArg Op5.ln eM).symm, (congrArg Op5.tk eM).symm, trivial⟩); (rw [if_neg e9]; have h9 := eL j (by omega); exact ⟨congrArg Op5.k h9, congrArg Op5.fl h9, congrArg Op5.id h9, congrArg Op5.ln h9, congrArg Op5.tk h9, trivial⟩))) .nil))))))))))))))))))))))) (Nat.le_of_ble_eq_true (by kernel_rfl))

set_option maxHeartbeats 2000000 in
theorem rr_1k (t : ByteArray) (i : Nat) (L M : Nat → Op5) (hz : t.size ≤ 100000000) (h1 : 1 ≤ t.size) (hi : i ≤ 100000000) (eL : ∀ j, j < i → L j = M j) (e : Int) (m : Nat) (a b d : Int) (ec : IntKind.wrap IntKind.i64 (byteAt t 0) = 1) (he : (∀ K : Nat → Int, (∀ j, j < 3 → K j = kindsF 1 j) → errT (fromZ t 1) K 3 = e)) (h0 : e = 0) (ha : (∀ K : Nat → Int, (∀ j, j < 3 → K j = kindsF 1 j) → IntKind.wrap IntKind.u32 (fldT (fromZ t 1) K 0).n = a)) (hb : (∀ K : Nat → Int, (∀ j, j < 3 → K j = kindsF 1 j) → IntKind.wrap IntKind.u32 (fldT (fromZ t 1) K 1).n = b)) (hd : (∀ K : Nat → Int, (∀ j, j < 3 → K j = kindsF 1 j) → (fldT (fromZ t 1) K 2).n = d)) (hm : (∀ K : Nat → Int, (∀ j, j < 3 → K j = kindsF 1 j) → IntKind.wrap IntKind.i64 ((if errT (fromZ t 1) K 3 = 0 then (atN (fromZ t 1) K 3 : Int) else 0) + 1) = (m : Nat))) (hmz : m ≤ t.size) (eM : M i = ⟨1, a, b, d, 0⟩) : CodeOk Try.prog 0 (loopOf Try.f9 0) (mkSt 91 [(0, sA t), (3, .nv (.one (.own 0)))] [.row 30 5 i (gO L)]) .normal (mkSt 91 [(0, sA (fromZ t m)), (3, .nv (.one (.own 0)))] [.row 30 5 (i + 1) (gO M)]) :=
  code_run GoA_ok (orc := ⟨[true, true, false, false, false, false, true, false], []⟩) (obl := [decide ((↑(ByteArray.size t) : Int) > (0 : Int)) = true,
      (0 : Int) ≤ (0 : Int),
      (0 : Int) < (↑(ByteArray.size t) : Int),
      (IntKind.wrap IntKind.i64 (byteAt t (0 : Int)) == (1 : Int)) = true,
      (3 : Nat) ≤ (4611686018427387904 : Nat),
      (24 : Nat) ≤ (140737488355328 : Nat),
      (IntKind.wrap IntKind.i64 (byteAt t (0 : Int)) == (3 : Int)) = false,
      (IntKind.wrap IntKind.i64 (byteAt t (0 : Int)) == (0 : Int)) = false,
      decide (IntKind.wrap IntKind.i64 (byteAt t (0 : Int)) > (4 : Int)) = false,
      (0 : Int) ≤ Option.getD (some (Prod.snd (IntKind.i64, (1 : Int)))) (0 : Int),
      Option.getD (some (Prod.snd (IntKind.i64, (1 : Int)))) (0 : Int) ≤ Option.getD none (↑(ByteArray.size t) : Int),
      Option.getD none (↑(ByteArray.size t) : Int) ≤ (↑(ByteArray.size t) : Int),
      ByteArray.size (Prod.fst (ByteArray.extract t (Int.toNat (Option.getD (some (Prod.snd (IntKind.i64, (1 : Int)))) (0 : Int))) (Int.toNat (Option.getD none (↑(ByteArray.size t) : Int))), [(0 : Int) ≤ Option.getD (some (Prod.snd (IntKind.i64, (1 : Int)))) (0 : Int), Option.getD (some (Prod.snd (IntKind.i64, (1 : Int)))) (0 : Int) ≤ Option.getD none (↑(ByteArray.size t) : Int), Option.getD none (↑(ByteArray.size t) : Int) ≤ (↑(ByteArray.size t) : Int)])) ≤ (140737488355328 : Nat),
      (3 : Nat) ≤ (1000 : Nat),
      Prod.fst (ByteArray.extract t (Int.toNat (Option.getD (some (Prod.snd (IntKind.i64, (1 : Int)))) (0 : Int))) (Int.toNat (Option.getD none (↑(ByteArray.size t) : Int))), [(0 : Int) ≤ Option.getD (some (Prod.snd (IntKind.i64, (1 : Int)))) (0 : Int), Option.getD (some (Prod.snd (IntKind.i64, (1 : Int)))) (0 : Int) ≤ Option.getD none (↑(ByteArray.size t) : Int), Option.getD none (↑(ByteArray.size t) : Int) ≤ (↑(ByteArray.size t) : Int)]) = Prod.fst (ByteArray.extract t (Int.toNat (Option.getD (some (Prod.snd (IntKind.i64, (1 : Int)))) (0 : Int))) (Int.toNat (Option.getD none (↑(ByteArray.size t) : Int))), [(0 : Int) ≤ Option.getD (some (Prod.snd (IntKind.i64, (1 : Int)))) (0 : Int), Option.getD (some (Prod.snd (IntKind.i64, (1 : Int)))) (0 : Int) ≤ Option.getD none (↑(ByteArray.size t) : Int), Option.getD none (↑(ByteArray.size t) : Int) ≤ (↑(ByteArray.size t) : Int)]),
      (3 : Nat) = (3 : Nat),
      ∀ (i : Nat), i < (3 : Nat) → AllT (leAts ([] ++ ([] ++ ([((0 : Nat), Bd.same (3 : Nat))] ++ [])) ++ ([] ++ [] ++ ([] ++ []))) (1 : Nat) (litG (1 : Nat) [At.val (Value.int IntKind.i64 (3 : Int)), At.val (Value.int IntKind.i64 (3 : Int)), At.val (Value.int IntKind.i64 (5 : Int))] i) (gK (kOf (litG (1 : Nat) [At.val (Value.int IntKind.i64 (3 : Int)), At.val (Value.int IntKind.i64 (3 : Int)), At.val (Value.int IntKind.i64 (5 : Int))])) i)),
      ∀ (i : Nat), (i < if errT (Prod.fst (ByteArray.extract t (Int.toNat (Option.getD (some (Prod.snd (IntKind.i64, (1 : Int)))) (0 : Int))) (Int.toNat (Option.getD none (↑(ByteArray.size t) : Int))), [(0 : Int) ≤ Option.getD (some (Prod.snd (IntKind.i64, (1 : Int)))) (0 : Int), Option.getD (some (Prod.snd (IntKind.i64, (1 : Int)))) (0 : Int) ≤ Option.getD none (↑(ByteArray.size t) : Int), Option.getD none (↑(ByteArray.size t) : Int) ≤ (↑(ByteArray.size t) : Int)])) (kOf (litG (1 : Nat) [At.val (Value.int IntKind.i64 (3 : Int)), At.val (Value.int IntKind.i64 (3 : Int)), At.val (Value.int IntKind.i64 (5 : Int))])) (3 : Nat) = (0 : Int) then (3 : Nat) else (0 : Nat)) → (true && (true && (true && true))) = true,
      (errT (Prod.fst (ByteArray.extract t (Int.toNat (Option.getD (some (Prod.snd (IntKind.i64, (1 : Int)))) (0 : Int))) (Int.toNat (Option.getD none (↑(ByteArray.size t) : Int))), [(0 : Int) ≤ Option.getD (some (Prod.snd (IntKind.i64, (1 : Int)))) (0 : Int), Option.getD (some (Prod.snd (IntKind.i64, (1 : Int)))) (0 : Int) ≤ Option.getD none (↑(ByteArray.size t) : Int), Option.getD none (↑(ByteArray.size t) : Int) ≤ (↑(ByteArray.size t) : Int)])) (kOf (litG (1 : Nat) [At.val (Value.int IntKind.i64 (3 : Int)), At.val (Value.int IntKind.i64 (3 : Int)), At.val (Value.int IntKind.i64 (5 : Int))])) (3 : Nat) != (0 : Int)) = false,
      (IntKind.wrap IntKind.i64 (byteAt t (0 : Int)) == (1 : Int)) = true,
      (0 : Int) ≤ (0 : Int),
      (0 : Int) < (↑(if errT (Prod.fst (ByteArray.extract t (Int.toNat (Option.getD (some (Prod.snd (IntKind.i64, (1 : Int)))) (0 : Int))) (Int.toNat (Option.getD none (↑(ByteArray.size t) : Int))), [(0 : Int) ≤ Option.getD (some (Prod.snd (IntKind.i64, (1 : Int)))) (0 : Int), Option.getD (some (Prod.snd (IntKind.i64, (1 : Int)))) (0 : Int) ≤ Option.getD none (↑(ByteArray.size t) : Int), Option.getD none (↑(ByteArray.size t) : Int) ≤ (↑(ByteArray.size t) : Int)])) (kOf (litG (1 : Nat) [At.val (Value.int IntKind.i64 (3 : Int)), At.val (Value.int IntKind.i64 (3 : Int)), At.val (Value.int IntKind.i64 (5 : Int))])) (3 : Nat) = (0 : Int) then (3 : Nat) else (0 : Nat)) : Int),
      (0 : Nat) < if errT (Prod.fst (ByteArray.extract t (Int.toNat (Option.getD (some (Prod.snd (IntKind.i64, (1 : Int)))) (0 : Int))) (Int.toNat (Option.getD none (↑(ByteArray.size t) : Int))), [(0 : Int) ≤ Option.getD (some (Prod.snd (IntKind.i64, (1 : Int)))) (0 : Int), Option.getD (some (Prod.snd (IntKind.i64, (1 : Int)))) (0 : Int) ≤ Option.getD none (↑(ByteArray.size t) : Int), Option.getD none (↑(ByteArray.size t) : Int) ≤ (↑(ByteArray.size t) : Int)])) (kOf (litG (1 : Nat) [At.val (Value.int IntKind.i64 (3 : Int)), At.val (Value.int IntKind.i64 (3 : Int)), At.val (Value.int IntKind.i64 (5 : Int))])) (3 : Nat) = (0 : Int) then (3 : Nat) else (0 : Nat),
      (0 : Int) ≤ (1 : Int),
      (1 : Int) < (↑(if errT (Prod.fst (ByteArray.extract t (Int.toNat (Option.getD (some (Prod.snd (IntKind.i64, (1 : Int)))) (0 : Int))) (Int.toNat (Option.getD none (↑(ByteArray.size t) : Int))), [(0 : Int) ≤ Option.getD (some (Prod.snd (IntKind.i64, (1 : Int)))) (0 : Int), Option.getD (some (Prod.snd (IntKind.i64, (1 : Int)))) (0 : Int) ≤ Option.getD none (↑(ByteArray.size t) : Int), Option.getD none (↑(ByteArray.size t) : Int) ≤ (↑(ByteArray.size t) : Int)])) (kOf (litG (1 : Nat) [At.val (Value.int IntKind.i64 (3 : Int)), At.val (Value.int IntKind.i64 (3 : Int)), At.val (Value.int IntKind.i64 (5 : Int))])) (3 : Nat) = (0 : Int) then (3 : Nat) else (0 : Nat)) : Int),
      (1 : Nat) < if errT (Prod.fst (ByteArray.extract t (Int.toNat (Option.getD (some (Prod.snd (IntKind.i64, (1 : Int)))) (0 : Int))) (Int.toNat (Option.getD none (↑(ByteArray.size t) : Int))), [(0 : Int) ≤ Option.getD (some (Prod.snd (IntKind.i64, (1 : Int)))) (0 : Int), Option.getD (some (Prod.snd (IntKind.i64, (1 : Int)))) (0 : Int) ≤ Option.getD none (↑(ByteArray.size t) : Int), Option.getD none (↑(ByteArray.size t) : Int) ≤ (↑(ByteArray.size t) : Int)])) (kOf (litG (1 : Nat) [At.val (Value.int IntKind.i64 (3 : Int)), At.val (Value.int IntKind.i64 (3 : Int)), At.val (Value.int IntKind.i64 (5 : Int))])) (3 : Nat) = (0 : Int) then (3 : Nat) else (0 : Nat),
      (0 : Int) ≤ (2 : Int),
      (2 : Int) < (↑(if errT (Prod.fst (ByteArray.extract t (Int.toNat (Option.getD (some (Prod.snd (IntKind.i64, (1 : Int)))) (0 : Int))) (Int.toNat (Option.getD none (↑(ByteArray.size t) : Int))), [(0 : Int) ≤ Option.getD (some (Prod.snd (IntKind.i64, (1 : Int)))) (0 : Int), Option.getD (some (Prod.snd (IntKind.i64, (1 : Int)))) (0 : Int) ≤ Option.getD none (↑(ByteArray.size t) : Int), Option.getD none (↑(ByteArray.size t) : Int) ≤ (↑(ByteArray.size t) : Int)])) (kOf (litG (1 : Nat) [At.val (Value.int IntKind.i64 (3 : Int)), At.val (Value.int IntKind.i64 (3 : Int)), At.val (Value.int IntKind.i64 (5 : Int))])) (3 : Nat) = (0 : Int) then (3 : Nat) else (0 : Nat)) : Int),
      (2 : Nat) < if errT (Prod.fst (ByteArray.extract t (Int.toNat (Option.getD (some (Prod.snd (IntKind.i64, (1 : Int)))) (0 : Int))) (Int.toNat (Option.getD none (↑(ByteArray.size t) : Int))), [(0 : Int) ≤ Option.getD (some (Prod.snd (IntKind.i64, (1 : Int)))) (0 : Int), Option.getD (some (Prod.snd (IntKind.i64, (1 : Int)))) (0 : Int) ≤ Option.getD none (↑(ByteArray.size t) : Int), Option.getD none (↑(ByteArray.size t) : Int) ≤ (↑(ByteArray.size t) : Int)])) (kOf (litG (1 : Nat) [At.val (Value.int IntKind.i64 (3 : Int)), At.val (Value.int IntKind.i64 (3 : Int)), At.val (Value.int IntKind.i64 (5 : Int))])) (3 : Nat) = (0 : Int) then (3 : Nat) else (0 : Nat),
      (IntKind.wrap IntKind.i64 (byteAt t (0 : Int)) == (3 : Int)) = false,
      i + (1 : Nat) ≤ (4611686018427387904 : Nat),
      (i + (1 : Nat)) * (32 : Nat) ≤ (140737488355328 : Nat),
      (0 : Int) ≤ Option.getD (some (Prod.snd (IntKind.i64, IntKind.wrap IntKind.i64 ((if errT (Prod.fst (ByteArray.extract t (Int.toNat (Option.getD (some (Prod.snd (IntKind.i64, (1 : Int)))) (0 : Int))) (Int.toNat (Option.getD none (↑(ByteArray.size t) : Int))), [(0 : Int) ≤ Option.getD (some (Prod.snd (IntKind.i64, (1 : Int)))) (0 : Int), Option.getD (some (Prod.snd (IntKind.i64, (1 : Int)))) (0 : Int) ≤ Option.getD none (↑(ByteArray.size t) : Int), Option.getD none (↑(ByteArray.size t) : Int) ≤ (↑(ByteArray.size t) : Int)])) (kOf (litG (1 : Nat) [At.val (Value.int IntKind.i64 (3 : Int)), At.val (Value.int IntKind.i64 (3 : Int)), At.val (Value.int IntKind.i64 (5 : Int))])) (3 : Nat) = (0 : Int) then (↑(atN (Prod.fst (ByteArray.extract t (Int.toNat (Option.getD (some (Prod.snd (IntKind.i64, (1 : Int)))) (0 : Int))) (Int.toNat (Option.getD none (↑(ByteArray.size t) : Int))), [(0 : Int) ≤ Option.getD (some (Prod.snd (IntKind.i64, (1 : Int)))) (0 : Int), Option.getD (some (Prod.snd (IntKind.i64, (1 : Int)))) (0 : Int) ≤ Option.getD none (↑(ByteArray.size t) : Int), Option.getD none (↑(ByteArray.size t) : Int) ≤ (↑(ByteArray.size t) : Int)])) (kOf (litG (1 : Nat) [At.val (Value.int IntKind.i64 (3 : Int)), At.val (Value.int IntKind.i64 (3 : Int)), At.val (Value.int IntKind.i64 (5 : Int))])) (3 : Nat)) : Int) else (0 : Int)) + (1 : Int))))) (0 : Int),
      Option.getD (some (Prod.snd (IntKind.i64, IntKind.wrap IntKind.i64 ((if errT (Prod.fst (ByteArray.extract t (Int.toNat (Option.getD (some (Prod.snd (IntKind.i64, (1 : Int)))) (0 : Int))) (Int.toNat (Option.getD none (↑(ByteArray.size t) : Int))), [(0 : Int) ≤ Option.getD (some (Prod.snd (IntKind.i64, (1 : Int)))) (0 : Int), Option.getD (some (Prod.snd (IntKind.i64, (1 : Int)))) (0 : Int) ≤ Option.getD none (↑(ByteArray.size t) : Int), Option.getD none (↑(ByteArray.size t) : Int) ≤ (↑(ByteArray.size t) : Int)])) (kOf (litG (1 : Nat) [At.val (Value.int IntKind.i64 (3 : Int)), At.val (Value.int IntKind.i64 (3 : Int)), At.val (Value.int IntKind.i64 (5 : Int))])) (3 : Nat) = (0 : Int) then (↑(atN (Prod.fst (ByteArray.extract t (Int.toNat (Option.getD (some (Prod.snd (IntKind.i64, (1 : Int)))) (0 : Int))) (Int.toNat (Option.getD none (↑(ByteArray.size t) : Int))), [(0 : Int) ≤ Option.getD (some (Prod.snd (IntKind.i64, (1 : Int)))) (0 : Int), Option.getD (some (Prod.snd (IntKind.i64, (1 : Int)))) (0 : Int) ≤ Option.getD none (↑(ByteArray.size t) : Int), Option.getD none (↑(ByteArray.size t) : Int) ≤ (↑(ByteArray.size t) : Int)])) (kOf (litG (1 : Nat) [At.val (Value.int IntKind.i64 (3 : Int)), At.val (Value.int IntKind.i64 (3 : Int)), At.val (Value.int IntKind.i64 (5 : Int))])) (3 : Nat)) : Int) else (0 : Int)) + (1 : Int))))) (0 : Int) ≤ Option.getD none (↑(ByteArray.size t) : Int),
      Option.getD none (↑(ByteArray.size t) : Int) ≤ (↑(ByteArray.size t) : Int),
      Prod.fst (ByteArray.extract t (Int.toNat (Option.getD (some (Prod.snd (IntKind.i64, IntKind.wrap IntKind.i64 ((if errT (Prod.fst (ByteArray.extract t (Int.toNat (Option.getD (some (Prod.snd (IntKind.i64, (1 : Int)))) (0 : Int))) (Int.toNat (Option.getD none (↑(ByteArray.size t) : Int))), [(0 : Int) ≤ Option.getD (some (Prod.snd (IntKind.i64, (1 : Int)))) (0 : Int), Option.getD (some (Prod.snd (IntKind.i64, (1 : Int)))) (0 : Int) ≤ Option.getD none (↑(ByteArray.size t) : Int), Option.getD none (↑(ByteArray.size t) : Int) ≤ (↑(ByteArray.size t) : Int)])) (kOf (litG (1 : Nat) [At.val (Value.int IntKind.i64 (3 : Int)), At.val (Value.int IntKind.i64 (3 : Int)), At.val (Value.int IntKind.i64 (5 : Int))])) (3 : Nat) = (0 : Int) then (↑(atN (Prod.fst (ByteArray.extract t (Int.toNat (Option.getD (some (Prod.snd (IntKind.i64, (1 : Int)))) (0 : Int))) (Int.toNat (Option.getD none (↑(ByteArray.size t) : Int))), [(0 : Int) ≤ Option.getD (some (Prod.snd (IntKind.i64, (1 : Int)))) (0 : Int), Option.getD (some (Prod.snd (IntKind.i64, (1 : Int)))) (0 : Int) ≤ Option.getD none (↑(ByteArray.size t) : Int), Option.getD none (↑(ByteArray.size t) : Int) ≤ (↑(ByteArray.size t) : Int)])) (kOf (litG (1 : Nat) [At.val (Value.int IntKind.i64 (3 : Int)), At.val (Value.int IntKind.i64 (3 : Int)), At.val (Value.int IntKind.i64 (5 : Int))])) (3 : Nat)) : Int) else (0 : Int)) + (1 : Int))))) (0 : Int))) (Int.toNat (Option.getD none (↑(ByteArray.size t) : Int))), [(0 : Int) ≤ Option.getD (some (Prod.snd (IntKind.i64, IntKind.wrap IntKind.i64 ((if errT (Prod.fst (ByteArray.extract t (Int.toNat (Option.getD (some (Prod.snd (IntKind.i64, (1 : Int)))) (0 : Int))) (Int.toNat (Option.getD none (↑(ByteArray.size t) : Int))), [(0 : Int) ≤ Option.getD (some (Prod.snd (IntKind.i64, (1 : Int)))) (0 : Int), Option.getD (some (Prod.snd (IntKind.i64, (1 : Int)))) (0 : Int) ≤ Option.getD none (↑(ByteArray.size t) : Int), Option.getD none (↑(ByteArray.size t) : Int) ≤ (↑(ByteArray.size t) : Int)])) (kOf (litG (1 : Nat) [At.val (Value.int IntKind.i64 (3 : Int)), At.val (Value.int IntKind.i64 (3 : Int)), At.val (Value.int IntKind.i64 (5 : Int))])) (3 : Nat) = (0 : Int) then (↑(atN (Prod.fst (ByteArray.extract t (Int.toNat (Option.getD (some (Prod.snd (IntKind.i64, (1 : Int)))) (0 : Int))) (Int.toNat (Option.getD none (↑(ByteArray.size t) : Int))), [(0 : Int) ≤ Option.getD (some (Prod.snd (IntKind.i64, (1 : Int)))) (0 : Int), Option.getD (some (Prod.snd (IntKind.i64, (1 : Int)))) (0 : Int) ≤ Option.getD none (↑(ByteArray.size t) : Int), Option.getD none (↑(ByteArray.size t) : Int) ≤ (↑(ByteArray.size t) : Int)])) (kOf (litG (1 : Nat) [At.val (Value.int IntKind.i64 (3 : Int)), At.val (Value.int IntKind.i64 (3 : Int)), At.val (Value.int IntKind.i64 (5 : Int))])) (3 : Nat)) : Int) else (0 : Int)) + (1 : Int))))) (0 : Int), Option.getD (some (Prod.snd (IntKind.i64, IntKind.wrap IntKind.i64 ((if errT (Prod.fst (ByteArray.extract t (Int.toNat (Option.getD (some (Prod.snd (IntKind.i64, (1 : Int)))) (0 : Int))) (Int.toNat (Option.getD none (↑(ByteArray.size t) : Int))), [(0 : Int) ≤ Option.getD (some (Prod.snd (IntKind.i64, (1 : Int)))) (0 : Int), Option.getD (some (Prod.snd (IntKind.i64, (1 : Int)))) (0 : Int) ≤ Option.getD none (↑(ByteArray.size t) : Int), Option.getD none (↑(ByteArray.size t) : Int) ≤ (↑(ByteArray.size t) : Int)])) (kOf (litG (1 : Nat) [At.val (Value.int IntKind.i64 (3 : Int)), At.val (Value.int IntKind.i64 (3 : Int)), At.val (Value.int IntKind.i64 (5 : Int))])) (3 : Nat) = (0 : Int) then (↑(atN (Prod.fst (ByteArray.extract t (Int.toNat (Option.getD (some (Prod.snd (IntKind.i64, (1 : Int)))) (0 : Int))) (Int.toNat (Option.getD none (↑(ByteArray.size t) : Int))), [(0 : Int) ≤ Option.getD (some (Prod.snd (IntKind.i64, (1 : Int)))) (0 : Int), Option.getD (some (Prod.snd (IntKind.i64, (1 : Int)))) (0 : Int) ≤ Option.getD none (↑(ByteArray.size t) : Int), Option.getD none (↑(ByteArray.size t) : Int) ≤ (↑(ByteArray.size t) : Int)])) (kOf (litG (1 : Nat) [At.val (Value.int IntKind.i64 (3 : Int)), At.val (Value.int IntKind.i64 (3 : Int)), At.val (Value.int IntKind.i64 (5 : Int))])) (3 : Nat)) : Int) else (0 : Int)) + (1 : Int))))) (0 : Int) ≤ Option.getD none (↑(ByteArray.size t) : Int), Option.getD none (↑(ByteArray.size t) : Int) ≤ (↑(ByteArray.size t) : Int)]) = fromZ t m,
      i + (1 : Nat) = i + (1 : Nat),
      ∀ (i_1 : Nat), i_1 < i + (1 : Nat) → AllT (leAts ([] ++ ([] ++ ([((0 : Nat), Bd.same (6 : Nat))] ++ [])) ++ ([] ++ [] ++ ([] ++ []))) (1 : Nat) (if i_1 = i then [At.val (Value.int IntKind.i64 (IntKind.wrap IntKind.i64 (byteAt t (0 : Int)))), At.val (Value.int IntKind.u32 (IntKind.wrap IntKind.u32 (Fl.n (fldT (Prod.fst (ByteArray.extract t (Int.toNat (Option.getD (some (Prod.snd (IntKind.i64, (1 : Int)))) (0 : Int))) (Int.toNat (Option.getD none (↑(ByteArray.size t) : Int))), [(0 : Int) ≤ Option.getD (some (Prod.snd (IntKind.i64, (1 : Int)))) (0 : Int), Option.getD (some (Prod.snd (IntKind.i64, (1 : Int)))) (0 : Int) ≤ Option.getD none (↑(ByteArray.size t) : Int), Option.getD none (↑(ByteArray.size t) : Int) ≤ (↑(ByteArray.size t) : Int)])) (kOf (litG (1 : Nat) [At.val (Value.int IntKind.i64 (3 : Int)), At.val (Value.int IntKind.i64 (3 : Int)), At.val (Value.int IntKind.i64 (5 : Int))])) (0 : Nat))))), At.val (Value.int IntKind.u32 (IntKind.wrap IntKind.u32 (Fl.n (fldT (Prod.fst (ByteArray.extract t (Int.toNat (Option.getD (some (Prod.snd (IntKind.i64, (1 : Int)))) (0 : Int))) (Int.toNat (Option.getD none (↑(ByteArray.size t) : Int))), [(0 : Int) ≤ Option.getD (some (Prod.snd (IntKind.i64, (1 : Int)))) (0 : Int), Option.getD (some (Prod.snd (IntKind.i64, (1 : Int)))) (0 : Int) ≤ Option.getD none (↑(ByteArray.size t) : Int), Option.getD none (↑(ByteArray.size t) : Int) ≤ (↑(ByteArray.size t) : Int)])) (kOf (litG (1 : Nat) [At.val (Value.int IntKind.i64 (3 : Int)), At.val (Value.int IntKind.i64 (3 : Int)), At.val (Value.int IntKind.i64 (5 : Int))])) (1 : Nat))))), At.val (Value.int IntKind.u64 (Fl.n (fldT (Prod.fst (ByteArray.extract t (Int.toNat (Option.getD (some (Prod.snd (IntKind.i64, (1 : Int)))) (0 : Int))) (Int.toNat (Option.getD none (↑(ByteArray.size t) : Int))), [(0 : Int) ≤ Option.getD (some (Prod.snd (IntKind.i64, (1 : Int)))) (0 : Int), Option.getD (some (Prod.snd (IntKind.i64, (1 : Int)))) (0 : Int) ≤ Option.getD none (↑(ByteArray.size t) : Int), Option.getD none (↑(ByteArray.size t) : Int) ≤ (↑(ByteArray.size t) : Int)])) (kOf (litG (1 : Nat) [At.val (Value.int IntKind.i64 (3 : Int)), At.val (Value.int IntKind.i64 (3 : Int)), At.val (Value.int IntKind.i64 (5 : Int))])) (2 : Nat)))), At.val (Value.int IntKind.u64 (0 : Int))] else gO L i_1) (gO M i_1))]) (by kernel_rfl) (.cons (by exact decide_eq_true (by omega)) (.cons (by trivial) (.cons (by omega) (.cons (by (rw [ec]; rfl)) (.cons (by trivial) (.cons (by trivial) (.cons (by (rw [ec]; rfl)) (.cons (by (rw [ec]; rfl)) (.cons (by (rw [ec]; rfl)) (.cons (by trivial) (.cons (by (simp; omega)) (.cons (by (simp; done)) (.cons (by exact ext_size (by omega)) (.cons (by trivial) (.cons (by rfl) (.cons (by rfl) (.cons (by (intro i hi; match i, hi with | 0, _ => exact ⟨rfl, trivial⟩ | 1, _ => exact ⟨rfl, trivial⟩ | 2, _ => exact ⟨rfl, trivial⟩)) (.cons (by (intro _ _; rfl)) (.cons (by exact bne_eq_false_iff_eq.2 ((he _ k1_lit).trans h0)) (.cons (by (rw [ec]; rfl)) (.cons (by trivial) (.cons (by (show ((0 : Nat) : Int) < ((if errT (fromZ t 1) _ 3 = 0 then 3 else 0 : Nat) : Int); rw [if_pos ((he _ k1_lit).trans h0)]; decide)) (.cons (by (show (0 : Nat) < (if errT (fromZ t 1) _ 3 = 0 then 3 else 0); rw [if_pos ((he _ k1_lit).trans h0)]; decide)) (.cons (by trivial) (.cons (by (show ((1 : Nat) : Int) < ((if errT (fromZ t 1) _ 3 = 0 then 3 else 0 : Nat) : Int); rw [if_pos ((he _ k1_lit).trans h0)]; decide)) (.cons (by (show (1 : Nat) < (if errT (fromZ t 1) _ 3 = 0 then 3 else 0); rw [if_pos ((he _ k1_lit).trans h0)]; decide)) (.cons (by trivial) (.cons (by (show ((2 : Nat) : Int) < ((if errT (fromZ t 1) _ 3 = 0 then 3 else 0 : Nat) : Int); rw [if_pos ((he _ k1_lit).trans h0)]; decide)) (.cons (by (show (2 : Nat) < (if errT (fromZ t 1) _ 3 = 0 then 3 else 0); rw [if_pos ((he _ k1_lit).trans h0)]; decide)) (.cons (by (rw [ec]; rfl)) (.cons (by omega) (.cons (by omega) (.cons (by (show (0 : Int) ≤ IntKind.wrap IntKind.i64 ((if errT (fromZ t 1) _ 3 = 0 then (atN (fromZ t 1) _ 3 : Int) else 0) + 1); rw [hm _ k1_lit]; omega)) (.cons (by (show IntKind.wrap IntKind.i64 ((if errT (fromZ t 1) _ 3 = 0 then (atN (fromZ t 1) _ 3 : Int) else 0) + 1) ≤ (t.size : Int); rw [hm _ k1_lit]; omega)) (.cons (by (simp; done)) (.cons (by (show t.extract (IntKind.wrap IntKind.i64 ((if errT (fromZ t 1) _ 3 = 0 then (atN (fromZ t 1) _ 3 : Int) else 0) + 1)).toNat t.size = fromZ t m; rw [hm _ k1_lit]; rfl)) (.cons (by rfl) (.cons (by (intro j hj; by_cases e9 : j = i; (rw [if_pos e9]; subst e9; exact ⟨ec.trans (congrArg Op5.k eM).symm, (ha _ k1_lit).trans (congrArg Op5.fl eM).symm, (hb _ k1_lit).trans (congrArg Op5.id eM).symm, (hd _ k1_lit).trans (congrArg Op5.ln eM).symm, (Eq.refl _).trans (congrArg Op5.tk eM).symm, trivial⟩); (rw [if_neg e9]; have h9 := eL j (by omega); exact ⟨congrArg Op5.k h9, congrArg Op5.fl h9, congrArg Op5.id h9, congrArg Op5.ln h9, congrArg Op5.tk h9, trivial⟩))) .nil)))))))))))))))))))))))))))))))))))))) (Nat.le_of_ble_eq_true (by kernel_rfl))

set_option maxHeartbeats 2000000 in
theorem rr_3e (t : ByteArray) (i : Nat) (L M : Nat → Op5) (hz : t.size ≤ 100000000) (h1 : 1 ≤ t.size) (hi : i ≤ 100000000) (eL : ∀ j, j < i → L j = M j) (e : Int) (ec : IntKind.wrap IntKind.i64 (byteAt t 0) = 3) (he : (∀ K : Nat → Int, (∀ j, j < 1 → K j = kindsF 3 j) → errT (fromZ t 1) K 1 = e)) (h0 : e ≠ 0) (eM : M i = ⟨5, 0, 0, 0, 0⟩) : CodeOk Try.prog 0 (loopOf Try.f9 0) (mkSt 91 [(0, sA t), (3, .nv (.one (.own 0)))] [.row 30 5 i (gO L)]) .ret (mkSt 91 [(2, .nv (.one (.own 0)))] [.row 30 5 (i + 1) (gO M)]) :=
  code_run GoA_ok (orc := ⟨[true, false, true, false, false, true], []⟩) (obl := [decide ((↑(ByteArray.size t) : Int) > (0 : Int)) = true,
      (0 : Int) ≤ (0 : Int),
      (0 : Int) < (↑(ByteArray.size t) : Int),
      (IntKind.wrap IntKind.i64 (byteAt t (0 : Int)) == (1 : Int)) = false,
      (IntKind.wrap IntKind.i64 (byteAt t (0 : Int)) == (3 : Int)) = true,
      (1 : Nat) ≤ (4611686018427387904 : Nat),
      (8 : Nat) ≤ (140737488355328 : Nat),
      (IntKind.wrap IntKind.i64 (byteAt t (0 : Int)) == (0 : Int)) = false,
      decide (IntKind.wrap IntKind.i64 (byteAt t (0 : Int)) > (4 : Int)) = false,
      (0 : Int) ≤ Option.getD (some (Prod.snd (IntKind.i64, (1 : Int)))) (0 : Int),
      Option.getD (some (Prod.snd (IntKind.i64, (1 : Int)))) (0 : Int) ≤ Option.getD none (↑(ByteArray.size t) : Int),
      Option.getD none (↑(ByteArray.size t) : Int) ≤ (↑(ByteArray.size t) : Int),
      ByteArray.size (Prod.fst (ByteArray.extract t (Int.toNat (Option.getD (some (Prod.snd (IntKind.i64, (1 : Int)))) (0 : Int))) (Int.toNat (Option.getD none (↑(ByteArray.size t) : Int))), [(0 : Int) ≤ Option.getD (some (Prod.snd (IntKind.i64, (1 : Int)))) (0 : Int), Option.getD (some (Prod.snd (IntKind.i64, (1 : Int)))) (0 : Int) ≤ Option.getD none (↑(ByteArray.size t) : Int), Option.getD none (↑(ByteArray.size t) : Int) ≤ (↑(ByteArray.size t) : Int)])) ≤ (140737488355328 : Nat),
      (1 : Nat) ≤ (1000 : Nat),
      Prod.fst (ByteArray.extract t (Int.toNat (Option.getD (some (Prod.snd (IntKind.i64, (1 : Int)))) (0 : Int))) (Int.toNat (Option.getD none (↑(ByteArray.size t) : Int))), [(0 : Int) ≤ Option.getD (some (Prod.snd (IntKind.i64, (1 : Int)))) (0 : Int), Option.getD (some (Prod.snd (IntKind.i64, (1 : Int)))) (0 : Int) ≤ Option.getD none (↑(ByteArray.size t) : Int), Option.getD none (↑(ByteArray.size t) : Int) ≤ (↑(ByteArray.size t) : Int)]) = Prod.fst (ByteArray.extract t (Int.toNat (Option.getD (some (Prod.snd (IntKind.i64, (1 : Int)))) (0 : Int))) (Int.toNat (Option.getD none (↑(ByteArray.size t) : Int))), [(0 : Int) ≤ Option.getD (some (Prod.snd (IntKind.i64, (1 : Int)))) (0 : Int), Option.getD (some (Prod.snd (IntKind.i64, (1 : Int)))) (0 : Int) ≤ Option.getD none (↑(ByteArray.size t) : Int), Option.getD none (↑(ByteArray.size t) : Int) ≤ (↑(ByteArray.size t) : Int)]),
      (1 : Nat) = (1 : Nat),
      ∀ (i : Nat), i < (1 : Nat) → AllT (leAts ([] ++ ([] ++ ([((0 : Nat), Bd.same (3 : Nat))] ++ [])) ++ ([] ++ [] ++ ([] ++ []))) (1 : Nat) (litG (1 : Nat) [At.val (Value.int IntKind.i64 (5 : Int))] i) (gK (kOf (litG (1 : Nat) [At.val (Value.int IntKind.i64 (5 : Int))])) i)),
      ∀ (i : Nat), (i < if errT (Prod.fst (ByteArray.extract t (Int.toNat (Option.getD (some (Prod.snd (IntKind.i64, (1 : Int)))) (0 : Int))) (Int.toNat (Option.getD none (↑(ByteArray.size t) : Int))), [(0 : Int) ≤ Option.getD (some (Prod.snd (IntKind.i64, (1 : Int)))) (0 : Int), Option.getD (some (Prod.snd (IntKind.i64, (1 : Int)))) (0 : Int) ≤ Option.getD none (↑(ByteArray.size t) : Int), Option.getD none (↑(ByteArray.size t) : Int) ≤ (↑(ByteArray.size t) : Int)])) (kOf (litG (1 : Nat) [At.val (Value.int IntKind.i64 (5 : Int))])) (1 : Nat) = (0 : Int) then (1 : Nat) else (0 : Nat)) → (true && (true && (true && true))) = true,
      (errT (Prod.fst (ByteArray.extract t (Int.toNat (Option.getD (some (Prod.snd (IntKind.i64, (1 : Int)))) (0 : Int))) (Int.toNat (Option.getD none (↑(ByteArray.size t) : Int))), [(0 : Int) ≤ Option.getD (some (Prod.snd (IntKind.i64, (1 : Int)))) (0 : Int), Option.getD (some (Prod.snd (IntKind.i64, (1 : Int)))) (0 : Int) ≤ Option.getD none (↑(ByteArray.size t) : Int), Option.getD none (↑(ByteArray.size t) : Int) ≤ (↑(ByteArray.size t) : Int)])) (kOf (litG (1 : Nat) [At.val (Value.int IntKind.i64 (5 : Int))])) (1 : Nat) != (0 : Int)) = true,
      i + (1 : Nat) ≤ (4611686018427387904 : Nat),
      (i + (1 : Nat)) * (32 : Nat) ≤ (140737488355328 : Nat),
      i + (1 : Nat) = i + (1 : Nat),
      ∀ (i_1 : Nat), i_1 < i + (1 : Nat) → AllT (leAts ([] ++ ([((0 : Nat), Bd.same (6 : Nat))] ++ []) ++ ([] ++ [] ++ ([] ++ []))) (1 : Nat) (if i_1 = i then [At.val (Value.int IntKind.i64 (5 : Int)), At.val (Value.int IntKind.u32 (0 : Int)), At.val (Value.int IntKind.u32 (0 : Int)), At.val (Value.int IntKind.u64 (0 : Int)), At.val (Value.int IntKind.u64 (0 : Int))] else gO L i_1) (gO M i_1))]) (by kernel_rfl) (.cons (by exact decide_eq_true (by omega)) (.cons (by trivial) (.cons (by omega) (.cons (by (rw [ec]; rfl)) (.cons (by (rw [ec]; rfl)) (.cons (by trivial) (.cons (by trivial) (.cons (by (rw [ec]; rfl)) (.cons (by (rw [ec]; rfl)) (.cons (by trivial) (.cons (by (simp; omega)) (.cons (by (simp; done)) (.cons (by exact ext_size (by omega)) (.cons (by trivial) (.cons (by rfl) (.cons (by rfl) (.cons (by (intro i hi; match i, hi with | 0, _ => exact ⟨rfl, trivial⟩)) (.cons (by (intro _ _; rfl)) (.cons (by exact bne_iff_ne.2 (fun h9 => h0 ((he _ k3_lit).symm.trans h9))) (.cons (by omega) (.cons (by omega) (.cons (by rfl) (.cons (by (intro j hj; by_cases e9 : j = i; (rw [if_pos e9]; subst e9; exact ⟨(congrArg Op5.k eM).symm, (congrArg Op5.fl eM).symm, (congrArg Op5.id eM).symm, (congrArg Op5.ln eM).symm, (congrArg Op5.tk eM).symm, trivial⟩); (rw [if_neg e9]; have h9 := eL j (by omega); exact ⟨congrArg Op5.k h9, congrArg Op5.fl h9, congrArg Op5.id h9, congrArg Op5.ln h9, congrArg Op5.tk h9, trivial⟩))) .nil))))))))))))))))))))))) (Nat.le_of_ble_eq_true (by kernel_rfl))

set_option maxHeartbeats 2000000 in
theorem rr_3k (t : ByteArray) (i : Nat) (L M : Nat → Op5) (hz : t.size ≤ 100000000) (h1 : 1 ≤ t.size) (hi : i ≤ 100000000) (eL : ∀ j, j < i → L j = M j) (e : Int) (m : Nat) (d : Int) (ec : IntKind.wrap IntKind.i64 (byteAt t 0) = 3) (he : (∀ K : Nat → Int, (∀ j, j < 1 → K j = kindsF 3 j) → errT (fromZ t 1) K 1 = e)) (h0 : e = 0) (hd : (∀ K : Nat → Int, (∀ j, j < 1 → K j = kindsF 3 j) → (fldT (fromZ t 1) K 0).n = d)) (hm : (∀ K : Nat → Int, (∀ j, j < 1 → K j = kindsF 3 j) → IntKind.wrap IntKind.i64 ((if errT (fromZ t 1) K 1 = 0 then (atN (fromZ t 1) K 1 : Int) else 0) + 1) = (m : Nat))) (hmz : m ≤ t.size) (eM : M i = ⟨3, 0, 0, 0, d⟩) : CodeOk Try.prog 0 (loopOf Try.f9 0) (mkSt 91 [(0, sA t), (3, .nv (.one (.own 0)))] [.row 30 5 i (gO L)]) .normal (mkSt 91 [(0, sA (fromZ t m)), (3, .nv (.one (.own 0)))] [.row 30 5 (i + 1) (gO M)]) :=
  code_run GoA_ok (orc := ⟨[true, false, true, false, false, false, false, true], []⟩) (obl := [decide ((↑(ByteArray.size t) : Int) > (0 : Int)) = true,
      (0 : Int) ≤ (0 : Int),
      (0 : Int) < (↑(ByteArray.size t) : Int),
      (IntKind.wrap IntKind.i64 (byteAt t (0 : Int)) == (1 : Int)) = false,
      (IntKind.wrap IntKind.i64 (byteAt t (0 : Int)) == (3 : Int)) = true,
      (1 : Nat) ≤ (4611686018427387904 : Nat),
      (8 : Nat) ≤ (140737488355328 : Nat),
      (IntKind.wrap IntKind.i64 (byteAt t (0 : Int)) == (0 : Int)) = false,
      decide (IntKind.wrap IntKind.i64 (byteAt t (0 : Int)) > (4 : Int)) = false,
      (0 : Int) ≤ Option.getD (some (Prod.snd (IntKind.i64, (1 : Int)))) (0 : Int),
      Option.getD (some (Prod.snd (IntKind.i64, (1 : Int)))) (0 : Int) ≤ Option.getD none (↑(ByteArray.size t) : Int),
      Option.getD none (↑(ByteArray.size t) : Int) ≤ (↑(ByteArray.size t) : Int),
      ByteArray.size (Prod.fst (ByteArray.extract t (Int.toNat (Option.getD (some (Prod.snd (IntKind.i64, (1 : Int)))) (0 : Int))) (Int.toNat (Option.getD none (↑(ByteArray.size t) : Int))), [(0 : Int) ≤ Option.getD (some (Prod.snd (IntKind.i64, (1 : Int)))) (0 : Int), Option.getD (some (Prod.snd (IntKind.i64, (1 : Int)))) (0 : Int) ≤ Option.getD none (↑(ByteArray.size t) : Int), Option.getD none (↑(ByteArray.size t) : Int) ≤ (↑(ByteArray.size t) : Int)])) ≤ (140737488355328 : Nat),
      (1 : Nat) ≤ (1000 : Nat),
      Prod.fst (ByteArray.extract t (Int.toNat (Option.getD (some (Prod.snd (IntKind.i64, (1 : Int)))) (0 : Int))) (Int.toNat (Option.getD none (↑(ByteArray.size t) : Int))), [(0 : Int) ≤ Option.getD (some (Prod.snd (IntKind.i64, (1 : Int)))) (0 : Int), Option.getD (some (Prod.snd (IntKind.i64, (1 : Int)))) (0 : Int) ≤ Option.getD none (↑(ByteArray.size t) : Int), Option.getD none (↑(ByteArray.size t) : Int) ≤ (↑(ByteArray.size t) : Int)]) = Prod.fst (ByteArray.extract t (Int.toNat (Option.getD (some (Prod.snd (IntKind.i64, (1 : Int)))) (0 : Int))) (Int.toNat (Option.getD none (↑(ByteArray.size t) : Int))), [(0 : Int) ≤ Option.getD (some (Prod.snd (IntKind.i64, (1 : Int)))) (0 : Int), Option.getD (some (Prod.snd (IntKind.i64, (1 : Int)))) (0 : Int) ≤ Option.getD none (↑(ByteArray.size t) : Int), Option.getD none (↑(ByteArray.size t) : Int) ≤ (↑(ByteArray.size t) : Int)]),
      (1 : Nat) = (1 : Nat),
      ∀ (i : Nat), i < (1 : Nat) → AllT (leAts ([] ++ ([] ++ ([((0 : Nat), Bd.same (3 : Nat))] ++ [])) ++ ([] ++ [] ++ ([] ++ []))) (1 : Nat) (litG (1 : Nat) [At.val (Value.int IntKind.i64 (5 : Int))] i) (gK (kOf (litG (1 : Nat) [At.val (Value.int IntKind.i64 (5 : Int))])) i)),
      ∀ (i : Nat), (i < if errT (Prod.fst (ByteArray.extract t (Int.toNat (Option.getD (some (Prod.snd (IntKind.i64, (1 : Int)))) (0 : Int))) (Int.toNat (Option.getD none (↑(ByteArray.size t) : Int))), [(0 : Int) ≤ Option.getD (some (Prod.snd (IntKind.i64, (1 : Int)))) (0 : Int), Option.getD (some (Prod.snd (IntKind.i64, (1 : Int)))) (0 : Int) ≤ Option.getD none (↑(ByteArray.size t) : Int), Option.getD none (↑(ByteArray.size t) : Int) ≤ (↑(ByteArray.size t) : Int)])) (kOf (litG (1 : Nat) [At.val (Value.int IntKind.i64 (5 : Int))])) (1 : Nat) = (0 : Int) then (1 : Nat) else (0 : Nat)) → (true && (true && (true && true))) = true,
      (errT (Prod.fst (ByteArray.extract t (Int.toNat (Option.getD (some (Prod.snd (IntKind.i64, (1 : Int)))) (0 : Int))) (Int.toNat (Option.getD none (↑(ByteArray.size t) : Int))), [(0 : Int) ≤ Option.getD (some (Prod.snd (IntKind.i64, (1 : Int)))) (0 : Int), Option.getD (some (Prod.snd (IntKind.i64, (1 : Int)))) (0 : Int) ≤ Option.getD none (↑(ByteArray.size t) : Int), Option.getD none (↑(ByteArray.size t) : Int) ≤ (↑(ByteArray.size t) : Int)])) (kOf (litG (1 : Nat) [At.val (Value.int IntKind.i64 (5 : Int))])) (1 : Nat) != (0 : Int)) = false,
      (IntKind.wrap IntKind.i64 (byteAt t (0 : Int)) == (1 : Int)) = false,
      (IntKind.wrap IntKind.i64 (byteAt t (0 : Int)) == (3 : Int)) = true,
      (0 : Int) ≤ (0 : Int),
      (0 : Int) < (↑(if errT (Prod.fst (ByteArray.extract t (Int.toNat (Option.getD (some (Prod.snd (IntKind.i64, (1 : Int)))) (0 : Int))) (Int.toNat (Option.getD none (↑(ByteArray.size t) : Int))), [(0 : Int) ≤ Option.getD (some (Prod.snd (IntKind.i64, (1 : Int)))) (0 : Int), Option.getD (some (Prod.snd (IntKind.i64, (1 : Int)))) (0 : Int) ≤ Option.getD none (↑(ByteArray.size t) : Int), Option.getD none (↑(ByteArray.size t) : Int) ≤ (↑(ByteArray.size t) : Int)])) (kOf (litG (1 : Nat) [At.val (Value.int IntKind.i64 (5 : Int))])) (1 : Nat) = (0 : Int) then (1 : Nat) else (0 : Nat)) : Int),
      (0 : Nat) < if errT (Prod.fst (ByteArray.extract t (Int.toNat (Option.getD (some (Prod.snd (IntKind.i64, (1 : Int)))) (0 : Int))) (Int.toNat (Option.getD none (↑(ByteArray.size t) : Int))), [(0 : Int) ≤ Option.getD (some (Prod.snd (IntKind.i64, (1 : Int)))) (0 : Int), Option.getD (some (Prod.snd (IntKind.i64, (1 : Int)))) (0 : Int) ≤ Option.getD none (↑(ByteArray.size t) : Int), Option.getD none (↑(ByteArray.size t) : Int) ≤ (↑(ByteArray.size t) : Int)])) (kOf (litG (1 : Nat) [At.val (Value.int IntKind.i64 (5 : Int))])) (1 : Nat) = (0 : Int) then (1 : Nat) else (0 : Nat),
      i + (1 : Nat) ≤ (4611686018427387904 : Nat),
      (i + (1 : Nat)) * (32 : Nat) ≤ (140737488355328 : Nat),
      (0 : Int) ≤ Option.getD (some (Prod.snd (IntKind.i64, IntKind.wrap IntKind.i64 ((if errT (Prod.fst (ByteArray.extract t (Int.toNat (Option.getD (some (Prod.snd (IntKind.i64, (1 : Int)))) (0 : Int))) (Int.toNat (Option.getD none (↑(ByteArray.size t) : Int))), [(0 : Int) ≤ Option.getD (some (Prod.snd (IntKind.i64, (1 : Int)))) (0 : Int), Option.getD (some (Prod.snd (IntKind.i64, (1 : Int)))) (0 : Int) ≤ Option.getD none (↑(ByteArray.size t) : Int), Option.getD none (↑(ByteArray.size t) : Int) ≤ (↑(ByteArray.size t) : Int)])) (kOf (litG (1 : Nat) [At.val (Value.int IntKind.i64 (5 : Int))])) (1 : Nat) = (0 : Int) then (↑(atN (Prod.fst (ByteArray.extract t (Int.toNat (Option.getD (some (Prod.snd (IntKind.i64, (1 : Int)))) (0 : Int))) (Int.toNat (Option.getD none (↑(ByteArray.size t) : Int))), [(0 : Int) ≤ Option.getD (some (Prod.snd (IntKind.i64, (1 : Int)))) (0 : Int), Option.getD (some (Prod.snd (IntKind.i64, (1 : Int)))) (0 : Int) ≤ Option.getD none (↑(ByteArray.size t) : Int), Option.getD none (↑(ByteArray.size t) : Int) ≤ (↑(ByteArray.size t) : Int)])) (kOf (litG (1 : Nat) [At.val (Value.int IntKind.i64 (5 : Int))])) (1 : Nat)) : Int) else (0 : Int)) + (1 : Int))))) (0 : Int),
      Option.getD (some (Prod.snd (IntKind.i64, IntKind.wrap IntKind.i64 ((if errT (Prod.fst (ByteArray.extract t (Int.toNat (Option.getD (some (Prod.snd (IntKind.i64, (1 : Int)))) (0 : Int))) (Int.toNat (Option.getD none (↑(ByteArray.size t) : Int))), [(0 : Int) ≤ Option.getD (some (Prod.snd (IntKind.i64, (1 : Int)))) (0 : Int), Option.getD (some (Prod.snd (IntKind.i64, (1 : Int)))) (0 : Int) ≤ Option.getD none (↑(ByteArray.size t) : Int), Option.getD none (↑(ByteArray.size t) : Int) ≤ (↑(ByteArray.size t) : Int)])) (kOf (litG (1 : Nat) [At.val (Value.int IntKind.i64 (5 : Int))])) (1 : Nat) = (0 : Int) then (↑(atN (Prod.fst (ByteArray.extract t (Int.toNat (Option.getD (some (Prod.snd (IntKind.i64, (1 : Int)))) (0 : Int))) (Int.toNat (Option.getD none (↑(ByteArray.size t) : Int))), [(0 : Int) ≤ Option.getD (some (Prod.snd (IntKind.i64, (1 : Int)))) (0 : Int), Option.getD (some (Prod.snd (IntKind.i64, (1 : Int)))) (0 : Int) ≤ Option.getD none (↑(ByteArray.size t) : Int), Option.getD none (↑(ByteArray.size t) : Int) ≤ (↑(ByteArray.size t) : Int)])) (kOf (litG (1 : Nat) [At.val (Value.int IntKind.i64 (5 : Int))])) (1 : Nat)) : Int) else (0 : Int)) + (1 : Int))))) (0 : Int) ≤ Option.getD none (↑(ByteArray.size t) : Int),
      Option.getD none (↑(ByteArray.size t) : Int) ≤ (↑(ByteArray.size t) : Int),
      Prod.fst (ByteArray.extract t (Int.toNat (Option.getD (some (Prod.snd (IntKind.i64, IntKind.wrap IntKind.i64 ((if errT (Prod.fst (ByteArray.extract t (Int.toNat (Option.getD (some (Prod.snd (IntKind.i64, (1 : Int)))) (0 : Int))) (Int.toNat (Option.getD none (↑(ByteArray.size t) : Int))), [(0 : Int) ≤ Option.getD (some (Prod.snd (IntKind.i64, (1 : Int)))) (0 : Int), Option.getD (some (Prod.snd (IntKind.i64, (1 : Int)))) (0 : Int) ≤ Option.getD none (↑(ByteArray.size t) : Int), Option.getD none (↑(ByteArray.size t) : Int) ≤ (↑(ByteArray.size t) : Int)])) (kOf (litG (1 : Nat) [At.val (Value.int IntKind.i64 (5 : Int))])) (1 : Nat) = (0 : Int) then (↑(atN (Prod.fst (ByteArray.extract t (Int.toNat (Option.getD (some (Prod.snd (IntKind.i64, (1 : Int)))) (0 : Int))) (Int.toNat (Option.getD none (↑(ByteArray.size t) : Int))), [(0 : Int) ≤ Option.getD (some (Prod.snd (IntKind.i64, (1 : Int)))) (0 : Int), Option.getD (some (Prod.snd (IntKind.i64, (1 : Int)))) (0 : Int) ≤ Option.getD none (↑(ByteArray.size t) : Int), Option.getD none (↑(ByteArray.size t) : Int) ≤ (↑(ByteArray.size t) : Int)])) (kOf (litG (1 : Nat) [At.val (Value.int IntKind.i64 (5 : Int))])) (1 : Nat)) : Int) else (0 : Int)) + (1 : Int))))) (0 : Int))) (Int.toNat (Option.getD none (↑(ByteArray.size t) : Int))), [(0 : Int) ≤ Option.getD (some (Prod.snd (IntKind.i64, IntKind.wrap IntKind.i64 ((if errT (Prod.fst (ByteArray.extract t (Int.toNat (Option.getD (some (Prod.snd (IntKind.i64, (1 : Int)))) (0 : Int))) (Int.toNat (Option.getD none (↑(ByteArray.size t) : Int))), [(0 : Int) ≤ Option.getD (some (Prod.snd (IntKind.i64, (1 : Int)))) (0 : Int), Option.getD (some (Prod.snd (IntKind.i64, (1 : Int)))) (0 : Int) ≤ Option.getD none (↑(ByteArray.size t) : Int), Option.getD none (↑(ByteArray.size t) : Int) ≤ (↑(ByteArray.size t) : Int)])) (kOf (litG (1 : Nat) [At.val (Value.int IntKind.i64 (5 : Int))])) (1 : Nat) = (0 : Int) then (↑(atN (Prod.fst (ByteArray.extract t (Int.toNat (Option.getD (some (Prod.snd (IntKind.i64, (1 : Int)))) (0 : Int))) (Int.toNat (Option.getD none (↑(ByteArray.size t) : Int))), [(0 : Int) ≤ Option.getD (some (Prod.snd (IntKind.i64, (1 : Int)))) (0 : Int), Option.getD (some (Prod.snd (IntKind.i64, (1 : Int)))) (0 : Int) ≤ Option.getD none (↑(ByteArray.size t) : Int), Option.getD none (↑(ByteArray.size t) : Int) ≤ (↑(ByteArray.size t) : Int)])) (kOf (litG (1 : Nat) [At.val (Value.int IntKind.i64 (5 : Int))])) (1 : Nat)) : Int) else (0 : Int)) + (1 : Int))))) (0 : Int), Option.getD (some (Prod.snd (IntKind.i64, IntKind.wrap IntKind.i64 ((if errT (Prod.fst (ByteArray.extract t (Int.toNat (Option.getD (some (Prod.snd (IntKind.i64, (1 : Int)))) (0 : Int))) (Int.toNat (Option.getD none (↑(ByteArray.size t) : Int))), [(0 : Int) ≤ Option.getD (some (Prod.snd (IntKind.i64, (1 : Int)))) (0 : Int), Option.getD (some (Prod.snd (IntKind.i64, (1 : Int)))) (0 : Int) ≤ Option.getD none (↑(ByteArray.size t) : Int), Option.getD none (↑(ByteArray.size t) : Int) ≤ (↑(ByteArray.size t) : Int)])) (kOf (litG (1 : Nat) [At.val (Value.int IntKind.i64 (5 : Int))])) (1 : Nat) = (0 : Int) then (↑(atN (Prod.fst (ByteArray.extract t (Int.toNat (Option.getD (some (Prod.snd (IntKind.i64, (1 : Int)))) (0 : Int))) (Int.toNat (Option.getD none (↑(ByteArray.size t) : Int))), [(0 : Int) ≤ Option.getD (some (Prod.snd (IntKind.i64, (1 : Int)))) (0 : Int), Option.getD (some (Prod.snd (IntKind.i64, (1 : Int)))) (0 : Int) ≤ Option.getD none (↑(ByteArray.size t) : Int), Option.getD none (↑(ByteArray.size t) : Int) ≤ (↑(ByteArray.size t) : Int)])) (kOf (litG (1 : Nat) [At.val (Value.int IntKind.i64 (5 : Int))])) (1 : Nat)) : Int) else (0 : Int)) + (1 : Int))))) (0 : Int) ≤ Option.getD none (↑(ByteArray.size t) : Int), Option.getD none (↑(ByteArray.size t) : Int) ≤ (↑(ByteArray.size t) : Int)]) = fromZ t m,
      i + (1 : Nat) = i + (1 : Nat),
      ∀ (i_1 : Nat), i_1 < i + (1 : Nat) → AllT (leAts ([] ++ ([] ++ ([((0 : Nat), Bd.same (6 : Nat))] ++ [])) ++ ([] ++ [] ++ ([] ++ []))) (1 : Nat) (if i_1 = i then [At.val (Value.int IntKind.i64 (IntKind.wrap IntKind.i64 (byteAt t (0 : Int)))), At.val (Value.int IntKind.u32 (0 : Int)), At.val (Value.int IntKind.u32 (0 : Int)), At.val (Value.int IntKind.u64 (0 : Int)), At.val (Value.int IntKind.u64 (Fl.n (fldT (Prod.fst (ByteArray.extract t (Int.toNat (Option.getD (some (Prod.snd (IntKind.i64, (1 : Int)))) (0 : Int))) (Int.toNat (Option.getD none (↑(ByteArray.size t) : Int))), [(0 : Int) ≤ Option.getD (some (Prod.snd (IntKind.i64, (1 : Int)))) (0 : Int), Option.getD (some (Prod.snd (IntKind.i64, (1 : Int)))) (0 : Int) ≤ Option.getD none (↑(ByteArray.size t) : Int), Option.getD none (↑(ByteArray.size t) : Int) ≤ (↑(ByteArray.size t) : Int)])) (kOf (litG (1 : Nat) [At.val (Value.int IntKind.i64 (5 : Int))])) (0 : Nat))))] else gO L i_1) (gO M i_1))]) (by kernel_rfl) (.cons (by exact decide_eq_true (by omega)) (.cons (by trivial) (.cons (by omega) (.cons (by (rw [ec]; rfl)) (.cons (by (rw [ec]; rfl)) (.cons (by trivial) (.cons (by trivial) (.cons (by (rw [ec]; rfl)) (.cons (by (rw [ec]; rfl)) (.cons (by trivial) (.cons (by (simp; omega)) (.cons (by (simp; done)) (.cons (by exact ext_size (by omega)) (.cons (by trivial) (.cons (by rfl) (.cons (by rfl) (.cons (by (intro i hi; match i, hi with | 0, _ => exact ⟨rfl, trivial⟩)) (.cons (by (intro _ _; rfl)) (.cons (by exact bne_eq_false_iff_eq.2 ((he _ k3_lit).trans h0)) (.cons (by (rw [ec]; rfl)) (.cons (by (rw [ec]; rfl)) (.cons (by trivial) (.cons (by (show ((0 : Nat) : Int) < ((if errT (fromZ t 1) _ 1 = 0 then 1 else 0 : Nat) : Int); rw [if_pos ((he _ k3_lit).trans h0)]; decide)) (.cons (by (show (0 : Nat) < (if errT (fromZ t 1) _ 1 = 0 then 1 else 0); rw [if_pos ((he _ k3_lit).trans h0)]; decide)) (.cons (by omega) (.cons (by omega) (.cons (by (show (0 : Int) ≤ IntKind.wrap IntKind.i64 ((if errT (fromZ t 1) _ 1 = 0 then (atN (fromZ t 1) _ 1 : Int) else 0) + 1); rw [hm _ k3_lit]; omega)) (.cons (by (show IntKind.wrap IntKind.i64 ((if errT (fromZ t 1) _ 1 = 0 then (atN (fromZ t 1) _ 1 : Int) else 0) + 1) ≤ (t.size : Int); rw [hm _ k3_lit]; omega)) (.cons (by (simp; done)) (.cons (by (show t.extract (IntKind.wrap IntKind.i64 ((if errT (fromZ t 1) _ 1 = 0 then (atN (fromZ t 1) _ 1 : Int) else 0) + 1)).toNat t.size = fromZ t m; rw [hm _ k3_lit]; rfl)) (.cons (by rfl) (.cons (by (intro j hj; by_cases e9 : j = i; (rw [if_pos e9]; subst e9; exact ⟨ec.trans (congrArg Op5.k eM).symm, (Eq.refl _).trans (congrArg Op5.fl eM).symm, (Eq.refl _).trans (congrArg Op5.id eM).symm, (Eq.refl _).trans (congrArg Op5.ln eM).symm, (hd _ k3_lit).trans (congrArg Op5.tk eM).symm, trivial⟩); (rw [if_neg e9]; have h9 := eL j (by omega); exact ⟨congrArg Op5.k h9, congrArg Op5.fl h9, congrArg Op5.id h9, congrArg Op5.ln h9, congrArg Op5.tk h9, trivial⟩))) .nil)))))))))))))))))))))))))))))))) (Nat.le_of_ble_eq_true (by kernel_rfl))

set_option maxHeartbeats 2000000 in
theorem rr_2 (t : ByteArray) (i : Nat) (L M : Nat → Op5) (hz : t.size ≤ 100000000) (h1 : 1 ≤ t.size) (hi : i ≤ 100000000) (eL : ∀ j, j < i → L j = M j) (c : Int) (ec : IntKind.wrap IntKind.i64 (byteAt t 0) = c) (hc1 : c ≠ 1) (hc3 : c ≠ 3) (hc0 : c ≠ 0) (hc4 : c ≤ 4) (eM : M i = ⟨c, 0, 0, 0, 0⟩) : CodeOk Try.prog 0 (loopOf Try.f9 0) (mkSt 91 [(0, sA t), (3, .nv (.one (.own 0)))] [.row 30 5 i (gO L)]) .normal (mkSt 91 [(0, sA (fromZ t 1)), (3, .nv (.one (.own 0)))] [.row 30 5 (i + 1) (gO M)]) :=
  code_run GoA_ok (orc := ⟨[true, false, false, false, false, false, false, false], []⟩) (obl := [decide ((↑(ByteArray.size t) : Int) > (0 : Int)) = true,
      (0 : Int) ≤ (0 : Int),
      (0 : Int) < (↑(ByteArray.size t) : Int),
      (IntKind.wrap IntKind.i64 (byteAt t (0 : Int)) == (1 : Int)) = false,
      (IntKind.wrap IntKind.i64 (byteAt t (0 : Int)) == (3 : Int)) = false,
      (IntKind.wrap IntKind.i64 (byteAt t (0 : Int)) == (0 : Int)) = false,
      decide (IntKind.wrap IntKind.i64 (byteAt t (0 : Int)) > (4 : Int)) = false,
      (0 : Int) ≤ Option.getD (some (Prod.snd (IntKind.i64, (1 : Int)))) (0 : Int),
      Option.getD (some (Prod.snd (IntKind.i64, (1 : Int)))) (0 : Int) ≤ Option.getD none (↑(ByteArray.size t) : Int),
      Option.getD none (↑(ByteArray.size t) : Int) ≤ (↑(ByteArray.size t) : Int),
      ByteArray.size (Prod.fst (ByteArray.extract t (Int.toNat (Option.getD (some (Prod.snd (IntKind.i64, (1 : Int)))) (0 : Int))) (Int.toNat (Option.getD none (↑(ByteArray.size t) : Int))), [(0 : Int) ≤ Option.getD (some (Prod.snd (IntKind.i64, (1 : Int)))) (0 : Int), Option.getD (some (Prod.snd (IntKind.i64, (1 : Int)))) (0 : Int) ≤ Option.getD none (↑(ByteArray.size t) : Int), Option.getD none (↑(ByteArray.size t) : Int) ≤ (↑(ByteArray.size t) : Int)])) ≤ (140737488355328 : Nat),
      Prod.fst (ByteArray.extract t (Int.toNat (Option.getD (some (Prod.snd (IntKind.i64, (1 : Int)))) (0 : Int))) (Int.toNat (Option.getD none (↑(ByteArray.size t) : Int))), [(0 : Int) ≤ Option.getD (some (Prod.snd (IntKind.i64, (1 : Int)))) (0 : Int), Option.getD (some (Prod.snd (IntKind.i64, (1 : Int)))) (0 : Int) ≤ Option.getD none (↑(ByteArray.size t) : Int), Option.getD none (↑(ByteArray.size t) : Int) ≤ (↑(ByteArray.size t) : Int)]) = Prod.fst (ByteArray.extract t (Int.toNat (Option.getD (some (Prod.snd (IntKind.i64, (1 : Int)))) (0 : Int))) (Int.toNat (Option.getD none (↑(ByteArray.size t) : Int))), [(0 : Int) ≤ Option.getD (some (Prod.snd (IntKind.i64, (1 : Int)))) (0 : Int), Option.getD (some (Prod.snd (IntKind.i64, (1 : Int)))) (0 : Int) ≤ Option.getD none (↑(ByteArray.size t) : Int), Option.getD none (↑(ByteArray.size t) : Int) ≤ (↑(ByteArray.size t) : Int)]),
      (0 : Nat) = (0 : Nat),
      ∀ (i : Nat), i < (0 : Nat) → (true && (true && (true && true))) = true,
      ((0 : Int) != (0 : Int)) = false,
      (IntKind.wrap IntKind.i64 (byteAt t (0 : Int)) == (1 : Int)) = false,
      (IntKind.wrap IntKind.i64 (byteAt t (0 : Int)) == (3 : Int)) = false,
      i + (1 : Nat) ≤ (4611686018427387904 : Nat),
      (i + (1 : Nat)) * (32 : Nat) ≤ (140737488355328 : Nat),
      (0 : Int) ≤ Option.getD (some (Prod.snd (IntKind.i64, IntKind.wrap IntKind.i64 ((0 : Int) + (1 : Int))))) (0 : Int),
      Option.getD (some (Prod.snd (IntKind.i64, IntKind.wrap IntKind.i64 ((0 : Int) + (1 : Int))))) (0 : Int) ≤ Option.getD none (↑(ByteArray.size t) : Int),
      Option.getD none (↑(ByteArray.size t) : Int) ≤ (↑(ByteArray.size t) : Int),
      Prod.fst (ByteArray.extract t (Int.toNat (Option.getD (some (Prod.snd (IntKind.i64, IntKind.wrap IntKind.i64 ((0 : Int) + (1 : Int))))) (0 : Int))) (Int.toNat (Option.getD none (↑(ByteArray.size t) : Int))), [(0 : Int) ≤ Option.getD (some (Prod.snd (IntKind.i64, IntKind.wrap IntKind.i64 ((0 : Int) + (1 : Int))))) (0 : Int), Option.getD (some (Prod.snd (IntKind.i64, IntKind.wrap IntKind.i64 ((0 : Int) + (1 : Int))))) (0 : Int) ≤ Option.getD none (↑(ByteArray.size t) : Int), Option.getD none (↑(ByteArray.size t) : Int) ≤ (↑(ByteArray.size t) : Int)]) = fromZ t (1 : Nat),
      i + (1 : Nat) = i + (1 : Nat),
      ∀ (i_1 : Nat), i_1 < i + (1 : Nat) → AllT (leAts ([] ++ ([] ++ ([((0 : Nat), Bd.same (4 : Nat))] ++ [])) ++ ([] ++ [] ++ ([] ++ []))) (1 : Nat) (if i_1 = i then [At.val (Value.int IntKind.i64 (IntKind.wrap IntKind.i64 (byteAt t (0 : Int)))), At.val (Value.int IntKind.u32 (0 : Int)), At.val (Value.int IntKind.u32 (0 : Int)), At.val (Value.int IntKind.u64 (0 : Int)), At.val (Value.int IntKind.u64 (0 : Int))] else gO L i_1) (gO M i_1))]) (by kernel_rfl) (.cons (by exact decide_eq_true (by omega)) (.cons (by trivial) (.cons (by (show IntKind.wrap IntKind.i64 (0 + 1) ≤ (t.size : Int); rw [show IntKind.wrap IntKind.i64 (0 + 1) = 1 from rfl]; omega)) (.cons (by (rw [ec]; exact beq_eq_false_iff_ne.2 hc1)) (.cons (by (rw [ec]; exact beq_eq_false_iff_ne.2 hc3)) (.cons (by (rw [ec]; exact beq_eq_false_iff_ne.2 hc0)) (.cons (by (rw [ec]; exact decide_eq_false (by omega))) (.cons (by trivial) (.cons (by (show IntKind.wrap IntKind.i64 (0 + 1) ≤ (t.size : Int); rw [show IntKind.wrap IntKind.i64 (0 + 1) = 1 from rfl]; omega)) (.cons (by (simp; done)) (.cons (by exact ext_size (by omega)) (.cons (by rfl) (.cons (by rfl) (.cons (by trivial) (.cons (by rfl) (.cons (by (rw [ec]; exact beq_eq_false_iff_ne.2 hc1)) (.cons (by (rw [ec]; exact beq_eq_false_iff_ne.2 hc3)) (.cons (by omega) (.cons (by omega) (.cons (by trivial) (.cons (by (show IntKind.wrap IntKind.i64 (0 + 1) ≤ (t.size : Int); rw [show IntKind.wrap IntKind.i64 (0 + 1) = 1 from rfl]; omega)) (.cons (by (simp; done)) (.cons (by rfl) (.cons (by rfl) (.cons (by (intro j hj; by_cases e9 : j = i; (rw [if_pos e9]; subst e9; exact ⟨ec.trans (congrArg Op5.k eM).symm, (Eq.refl _).trans (congrArg Op5.fl eM).symm, (Eq.refl _).trans (congrArg Op5.id eM).symm, (Eq.refl _).trans (congrArg Op5.ln eM).symm, (Eq.refl _).trans (congrArg Op5.tk eM).symm, trivial⟩); (rw [if_neg e9]; have h9 := eL j (by omega); exact ⟨congrArg Op5.k h9, congrArg Op5.fl h9, congrArg Op5.id h9, congrArg Op5.ln h9, congrArg Op5.tk h9, trivial⟩))) .nil))))))))))))))))))))))))) (Nat.le_of_ble_eq_true (by kernel_rfl))

set_option maxHeartbeats 2000000 in
theorem rr_j0 (t : ByteArray) (i : Nat) (L M : Nat → Op5) (hz : t.size ≤ 100000000) (h1 : 1 ≤ t.size) (hi : i ≤ 100000000) (eL : ∀ j, j < i → L j = M j) (c : Int) (ec : IntKind.wrap IntKind.i64 (byteAt t 0) = c) (eu : IntKind.wrap IntKind.u64 (byteAt t 0) = c) (hc0 : c = 0) (eM : M i = ⟨0, 0, 0, c, 0⟩) : CodeOk Try.prog 0 (loopOf Try.f9 0) (mkSt 91 [(0, sA t), (3, .nv (.one (.own 0)))] [.row 30 5 i (gO L)]) .normal (mkSt 91 [(0, sA (fromZ t 1)), (3, .nv (.one (.own 0)))] [.row 30 5 (i + 1) (gO M)]) :=
  code_run GoA_ok (orc := ⟨[true, false, false, true, true, false, false, false], []⟩) (obl := [decide ((↑(ByteArray.size t) : Int) > (0 : Int)) = true,
      (0 : Int) ≤ (0 : Int),
      (0 : Int) < (↑(ByteArray.size t) : Int),
      (IntKind.wrap IntKind.i64 (byteAt t (0 : Int)) == (1 : Int)) = false,
      (IntKind.wrap IntKind.i64 (byteAt t (0 : Int)) == (3 : Int)) = false,
      (IntKind.wrap IntKind.i64 (byteAt t (0 : Int)) == (0 : Int)) = true,
      true = true,
      (0 : Int) ≤ (0 : Int),
      (0 : Int) < (↑(ByteArray.size t) : Int),
      (0 : Int) ≤ Option.getD (some (Prod.snd (IntKind.i64, (1 : Int)))) (0 : Int),
      Option.getD (some (Prod.snd (IntKind.i64, (1 : Int)))) (0 : Int) ≤ Option.getD none (↑(ByteArray.size t) : Int),
      Option.getD none (↑(ByteArray.size t) : Int) ≤ (↑(ByteArray.size t) : Int),
      ByteArray.size (Prod.fst (ByteArray.extract t (Int.toNat (Option.getD (some (Prod.snd (IntKind.i64, (1 : Int)))) (0 : Int))) (Int.toNat (Option.getD none (↑(ByteArray.size t) : Int))), [(0 : Int) ≤ Option.getD (some (Prod.snd (IntKind.i64, (1 : Int)))) (0 : Int), Option.getD (some (Prod.snd (IntKind.i64, (1 : Int)))) (0 : Int) ≤ Option.getD none (↑(ByteArray.size t) : Int), Option.getD none (↑(ByteArray.size t) : Int) ≤ (↑(ByteArray.size t) : Int)])) ≤ (140737488355328 : Nat),
      Prod.fst (ByteArray.extract t (Int.toNat (Option.getD (some (Prod.snd (IntKind.i64, (1 : Int)))) (0 : Int))) (Int.toNat (Option.getD none (↑(ByteArray.size t) : Int))), [(0 : Int) ≤ Option.getD (some (Prod.snd (IntKind.i64, (1 : Int)))) (0 : Int), Option.getD (some (Prod.snd (IntKind.i64, (1 : Int)))) (0 : Int) ≤ Option.getD none (↑(ByteArray.size t) : Int), Option.getD none (↑(ByteArray.size t) : Int) ≤ (↑(ByteArray.size t) : Int)]) = Prod.fst (ByteArray.extract t (Int.toNat (Option.getD (some (Prod.snd (IntKind.i64, (1 : Int)))) (0 : Int))) (Int.toNat (Option.getD none (↑(ByteArray.size t) : Int))), [(0 : Int) ≤ Option.getD (some (Prod.snd (IntKind.i64, (1 : Int)))) (0 : Int), Option.getD (some (Prod.snd (IntKind.i64, (1 : Int)))) (0 : Int) ≤ Option.getD none (↑(ByteArray.size t) : Int), Option.getD none (↑(ByteArray.size t) : Int) ≤ (↑(ByteArray.size t) : Int)]),
      (0 : Nat) = (0 : Nat),
      ∀ (i : Nat), i < (0 : Nat) → (true && (true && (true && true))) = true,
      ((0 : Int) != (0 : Int)) = false,
      ((0 : Int) == (1 : Int)) = false,
      ((0 : Int) == (3 : Int)) = false,
      i + (1 : Nat) ≤ (4611686018427387904 : Nat),
      (i + (1 : Nat)) * (32 : Nat) ≤ (140737488355328 : Nat),
      (0 : Int) ≤ Option.getD (some (Prod.snd (IntKind.i64, IntKind.wrap IntKind.i64 ((0 : Int) + (1 : Int))))) (0 : Int),
      Option.getD (some (Prod.snd (IntKind.i64, IntKind.wrap IntKind.i64 ((0 : Int) + (1 : Int))))) (0 : Int) ≤ Option.getD none (↑(ByteArray.size t) : Int),
      Option.getD none (↑(ByteArray.size t) : Int) ≤ (↑(ByteArray.size t) : Int),
      Prod.fst (ByteArray.extract t (Int.toNat (Option.getD (some (Prod.snd (IntKind.i64, IntKind.wrap IntKind.i64 ((0 : Int) + (1 : Int))))) (0 : Int))) (Int.toNat (Option.getD none (↑(ByteArray.size t) : Int))), [(0 : Int) ≤ Option.getD (some (Prod.snd (IntKind.i64, IntKind.wrap IntKind.i64 ((0 : Int) + (1 : Int))))) (0 : Int), Option.getD (some (Prod.snd (IntKind.i64, IntKind.wrap IntKind.i64 ((0 : Int) + (1 : Int))))) (0 : Int) ≤ Option.getD none (↑(ByteArray.size t) : Int), Option.getD none (↑(ByteArray.size t) : Int) ≤ (↑(ByteArray.size t) : Int)]) = fromZ t (1 : Nat),
      i + (1 : Nat) = i + (1 : Nat),
      ∀ (i_1 : Nat), i_1 < i + (1 : Nat) → AllT (leAts ([] ++ ([] ++ ([((0 : Nat), Bd.same (4 : Nat))] ++ [])) ++ ([] ++ [] ++ ([] ++ []))) (1 : Nat) (if i_1 = i then [At.val (Value.int IntKind.i64 (0 : Int)), At.val (Value.int IntKind.u32 (0 : Int)), At.val (Value.int IntKind.u32 (0 : Int)), At.val (Value.int IntKind.u64 (IntKind.wrap IntKind.u64 (byteAt t (0 : Int)))), At.val (Value.int IntKind.u64 (0 : Int))] else gO L i_1) (gO M i_1))]) (by kernel_rfl) (.cons (by exact decide_eq_true (by omega)) (.cons (by trivial) (.cons (by (show IntKind.wrap IntKind.i64 (0 + 1) ≤ (t.size : Int); rw [show IntKind.wrap IntKind.i64 (0 + 1) = 1 from rfl]; omega)) (.cons (by (rw [ec]; exact beq_eq_false_iff_ne.2 (by omega))) (.cons (by (rw [ec]; exact beq_eq_false_iff_ne.2 (by omega))) (.cons (by (rw [ec]; exact beq_iff_eq.2 hc0)) (.cons (by rfl) (.cons (by trivial) (.cons (by (show IntKind.wrap IntKind.i64 (0 + 1) ≤ (t.size : Int); rw [show IntKind.wrap IntKind.i64 (0 + 1) = 1 from rfl]; omega)) (.cons (by trivial) (.cons (by (show IntKind.wrap IntKind.i64 (0 + 1) ≤ (t.size : Int); rw [show IntKind.wrap IntKind.i64 (0 + 1) = 1 from rfl]; omega)) (.cons (by (simp; done)) (.cons (by exact ext_size (by omega)) (.cons (by rfl) (.cons (by rfl) (.cons (by trivial) (.cons (by rfl) (.cons (by rfl) (.cons (by rfl) (.cons (by omega) (.cons (by omega) (.cons (by trivial) (.cons (by (show IntKind.wrap IntKind.i64 (0 + 1) ≤ (t.size : Int); rw [show IntKind.wrap IntKind.i64 (0 + 1) = 1 from rfl]; omega)) (.cons (by (simp; done)) (.cons (by rfl) (.cons (by rfl) (.cons (by (intro j hj; by_cases e9 : j = i; (rw [if_pos e9]; subst e9; exact ⟨(Eq.refl _).trans (congrArg Op5.k eM).symm, (Eq.refl _).trans (congrArg Op5.fl eM).symm, (Eq.refl _).trans (congrArg Op5.id eM).symm, eu.trans (congrArg Op5.ln eM).symm, (Eq.refl _).trans (congrArg Op5.tk eM).symm, trivial⟩); (rw [if_neg e9]; have h9 := eL j (by omega); exact ⟨congrArg Op5.k h9, congrArg Op5.fl h9, congrArg Op5.id h9, congrArg Op5.ln h9, congrArg Op5.tk h9, trivial⟩))) .nil))))))))))))))))))))))))))) (Nat.le_of_ble_eq_true (by kernel_rfl))

set_option maxHeartbeats 2000000 in
theorem rr_j5 (t : ByteArray) (i : Nat) (L M : Nat → Op5) (hz : t.size ≤ 100000000) (h1 : 1 ≤ t.size) (hi : i ≤ 100000000) (eL : ∀ j, j < i → L j = M j) (c : Int) (ec : IntKind.wrap IntKind.i64 (byteAt t 0) = c) (eu : IntKind.wrap IntKind.u64 (byteAt t 0) = c) (hc0 : 4 < c) (eM : M i = ⟨0, 0, 0, c, 0⟩) : CodeOk Try.prog 0 (loopOf Try.f9 0) (mkSt 91 [(0, sA t), (3, .nv (.one (.own 0)))] [.row 30 5 i (gO L)]) .normal (mkSt 91 [(0, sA (fromZ t 1)), (3, .nv (.one (.own 0)))] [.row 30 5 (i + 1) (gO M)]) :=
  code_run GoA_ok (orc := ⟨[true, false, false, false, true, false, false, false], []⟩) (obl := [decide ((↑(ByteArray.size t) : Int) > (0 : Int)) = true,
      (0 : Int) ≤ (0 : Int),
      (0 : Int) < (↑(ByteArray.size t) : Int),
      (IntKind.wrap IntKind.i64 (byteAt t (0 : Int)) == (1 : Int)) = false,
      (IntKind.wrap IntKind.i64 (byteAt t (0 : Int)) == (3 : Int)) = false,
      (IntKind.wrap IntKind.i64 (byteAt t (0 : Int)) == (0 : Int)) = false,
      decide (IntKind.wrap IntKind.i64 (byteAt t (0 : Int)) > (4 : Int)) = true,
      (0 : Int) ≤ (0 : Int),
      (0 : Int) < (↑(ByteArray.size t) : Int),
      (0 : Int) ≤ Option.getD (some (Prod.snd (IntKind.i64, (1 : Int)))) (0 : Int),
      Option.getD (some (Prod.snd (IntKind.i64, (1 : Int)))) (0 : Int) ≤ Option.getD none (↑(ByteArray.size t) : Int),
      Option.getD none (↑(ByteArray.size t) : Int) ≤ (↑(ByteArray.size t) : Int),
      ByteArray.size (Prod.fst (ByteArray.extract t (Int.toNat (Option.getD (some (Prod.snd (IntKind.i64, (1 : Int)))) (0 : Int))) (Int.toNat (Option.getD none (↑(ByteArray.size t) : Int))), [(0 : Int) ≤ Option.getD (some (Prod.snd (IntKind.i64, (1 : Int)))) (0 : Int), Option.getD (some (Prod.snd (IntKind.i64, (1 : Int)))) (0 : Int) ≤ Option.getD none (↑(ByteArray.size t) : Int), Option.getD none (↑(ByteArray.size t) : Int) ≤ (↑(ByteArray.size t) : Int)])) ≤ (140737488355328 : Nat),
      Prod.fst (ByteArray.extract t (Int.toNat (Option.getD (some (Prod.snd (IntKind.i64, (1 : Int)))) (0 : Int))) (Int.toNat (Option.getD none (↑(ByteArray.size t) : Int))), [(0 : Int) ≤ Option.getD (some (Prod.snd (IntKind.i64, (1 : Int)))) (0 : Int), Option.getD (some (Prod.snd (IntKind.i64, (1 : Int)))) (0 : Int) ≤ Option.getD none (↑(ByteArray.size t) : Int), Option.getD none (↑(ByteArray.size t) : Int) ≤ (↑(ByteArray.size t) : Int)]) = Prod.fst (ByteArray.extract t (Int.toNat (Option.getD (some (Prod.snd (IntKind.i64, (1 : Int)))) (0 : Int))) (Int.toNat (Option.getD none (↑(ByteArray.size t) : Int))), [(0 : Int) ≤ Option.getD (some (Prod.snd (IntKind.i64, (1 : Int)))) (0 : Int), Option.getD (some (Prod.snd (IntKind.i64, (1 : Int)))) (0 : Int) ≤ Option.getD none (↑(ByteArray.size t) : Int), Option.getD none (↑(ByteArray.size t) : Int) ≤ (↑(ByteArray.size t) : Int)]),
      (0 : Nat) = (0 : Nat),
      ∀ (i : Nat), i < (0 : Nat) → (true && (true && (true && true))) = true,
      ((0 : Int) != (0 : Int)) = false,
      ((0 : Int) == (1 : Int)) = false,
      ((0 : Int) == (3 : Int)) = false,
      i + (1 : Nat) ≤ (4611686018427387904 : Nat),
      (i + (1 : Nat)) * (32 : Nat) ≤ (140737488355328 : Nat),
      (0 : Int) ≤ Option.getD (some (Prod.snd (IntKind.i64, IntKind.wrap IntKind.i64 ((0 : Int) + (1 : Int))))) (0 : Int),
      Option.getD (some (Prod.snd (IntKind.i64, IntKind.wrap IntKind.i64 ((0 : Int) + (1 : Int))))) (0 : Int) ≤ Option.getD none (↑(ByteArray.size t) : Int),
      Option.getD none (↑(ByteArray.size t) : Int) ≤ (↑(ByteArray.size t) : Int),
      Prod.fst (ByteArray.extract t (Int.toNat (Option.getD (some (Prod.snd (IntKind.i64, IntKind.wrap IntKind.i64 ((0 : Int) + (1 : Int))))) (0 : Int))) (Int.toNat (Option.getD none (↑(ByteArray.size t) : Int))), [(0 : Int) ≤ Option.getD (some (Prod.snd (IntKind.i64, IntKind.wrap IntKind.i64 ((0 : Int) + (1 : Int))))) (0 : Int), Option.getD (some (Prod.snd (IntKind.i64, IntKind.wrap IntKind.i64 ((0 : Int) + (1 : Int))))) (0 : Int) ≤ Option.getD none (↑(ByteArray.size t) : Int), Option.getD none (↑(ByteArray.size t) : Int) ≤ (↑(ByteArray.size t) : Int)]) = fromZ t (1 : Nat),
      i + (1 : Nat) = i + (1 : Nat),
      ∀ (i_1 : Nat), i_1 < i + (1 : Nat) → AllT (leAts ([] ++ ([] ++ ([((0 : Nat), Bd.same (4 : Nat))] ++ [])) ++ ([] ++ [] ++ ([] ++ []))) (1 : Nat) (if i_1 = i then [At.val (Value.int IntKind.i64 (0 : Int)), At.val (Value.int IntKind.u32 (0 : Int)), At.val (Value.int IntKind.u32 (0 : Int)), At.val (Value.int IntKind.u64 (IntKind.wrap IntKind.u64 (byteAt t (0 : Int)))), At.val (Value.int IntKind.u64 (0 : Int))] else gO L i_1) (gO M i_1))]) (by kernel_rfl) (.cons (by exact decide_eq_true (by omega)) (.cons (by trivial) (.cons (by (show IntKind.wrap IntKind.i64 (0 + 1) ≤ (t.size : Int); rw [show IntKind.wrap IntKind.i64 (0 + 1) = 1 from rfl]; omega)) (.cons (by (rw [ec]; exact beq_eq_false_iff_ne.2 (by omega))) (.cons (by (rw [ec]; exact beq_eq_false_iff_ne.2 (by omega))) (.cons (by (rw [ec]; exact beq_eq_false_iff_ne.2 (by omega))) (.cons (by (rw [ec]; exact decide_eq_true (by omega))) (.cons (by trivial) (.cons (by (show IntKind.wrap IntKind.i64 (0 + 1) ≤ (t.size : Int); rw [show IntKind.wrap IntKind.i64 (0 + 1) = 1 from rfl]; omega)) (.cons (by trivial) (.cons (by (show IntKind.wrap IntKind.i64 (0 + 1) ≤ (t.size : Int); rw [show IntKind.wrap IntKind.i64 (0 + 1) = 1 from rfl]; omega)) (.cons (by (simp; done)) (.cons (by exact ext_size (by omega)) (.cons (by rfl) (.cons (by rfl) (.cons (by trivial) (.cons (by rfl) (.cons (by rfl) (.cons (by rfl) (.cons (by omega) (.cons (by omega) (.cons (by trivial) (.cons (by (show IntKind.wrap IntKind.i64 (0 + 1) ≤ (t.size : Int); rw [show IntKind.wrap IntKind.i64 (0 + 1) = 1 from rfl]; omega)) (.cons (by (simp; done)) (.cons (by rfl) (.cons (by rfl) (.cons (by (intro j hj; by_cases e9 : j = i; (rw [if_pos e9]; subst e9; exact ⟨(Eq.refl _).trans (congrArg Op5.k eM).symm, (Eq.refl _).trans (congrArg Op5.fl eM).symm, (Eq.refl _).trans (congrArg Op5.id eM).symm, eu.trans (congrArg Op5.ln eM).symm, (Eq.refl _).trans (congrArg Op5.tk eM).symm, trivial⟩); (rw [if_neg e9]; have h9 := eL j (by omega); exact ⟨congrArg Op5.k h9, congrArg Op5.fl h9, congrArg Op5.id h9, congrArg Op5.ln h9, congrArg Op5.tk h9, trivial⟩))) .nil))))))))))))))))))))))))))) (Nat.le_of_ble_eq_true (by kernel_rfl))

set_option maxHeartbeats 2000000 in
theorem rr_e (t : ByteArray) (i : Nat) (L : Nat → Op5) (h1 : t.size = 0) : CodeOk Try.prog 0 (loopOf Try.f9 0) (mkSt 91 [(0, sA t), (3, .nv (.one (.own 0)))] [.row 30 5 i (gO L)]) (.exit 0) (mkSt 91 [(3, .nv (.one (.own 0)))] [.row 30 5 i (gO L)]) :=
  code_run GoA_ok (orc := ⟨[false], []⟩) (obl := [decide ((↑(ByteArray.size t) : Int) > (0 : Int)) = false,
      i = i,
      ∀ (i_1 : Nat), i_1 < i → Op5.k (L i_1) = Op5.k (L i_1) ∧ Op5.fl (L i_1) = Op5.fl (L i_1) ∧ Op5.id (L i_1) = Op5.id (L i_1) ∧ Op5.ln (L i_1) = Op5.ln (L i_1) ∧ Op5.tk (L i_1) = Op5.tk (L i_1) ∧ True]) (by kernel_rfl) (.cons (by exact decide_eq_false (by omega)) (.cons (by rfl) (.cons (by (intro _ _; exact ⟨rfl, rfl, rfl, rfl, rfl, trivial⟩)) .nil))) (Nat.le_of_ble_eq_true (by kernel_rfl))

set_option maxHeartbeats 2000000 in
theorem rr_f (s : ByteArray) (n : Nat) (L0 L : Nat → Op5) (l0 : CodeOk Try.prog 0 (.loop (loopOf Try.f9 0)) (mkSt 91 [(0, sA s), (3, .nv (.one (.own 0)))] [.row 30 5 0 (gO L0)]) (.exit 0) (mkSt 91 [(3, .nv (.one (.own 0)))] [.row 30 5 n (gO L)])) : FnOk Try.prog 9 ([sA s]) ([]) (.nv (.one (.own 0))) ([.row 30 5 n (gO L)]) :=
  fn_run GoA_ok Try.func9 (orc := ⟨[], [⟨mkSt 91 [(0, sA s), (3, .nv (.one (.own 0)))] [.row 30 5 0 (gO L0)], .exit 0, mkSt 91 [(3, .nv (.one (.own 0)))] [.row 30 5 n (gO L)]⟩]⟩) (obl := [s = s,
      (0 : Nat) = (0 : Nat),
      (0 : Nat) ≤ (1 : Nat),
      CodeOk Try.prog (0 : Nat) (Code.loop (loopOf Try.f9 (0 : Nat))) (mkSt (91 : Nat) [((0 : Nat), sA s), ((3 : Nat), SV.nv (NV.one (At.own (0 : Nat))))] [Seg.row (30 : TypeId) (5 : Nat) (0 : Nat) (gO L0)]) (Ex.exit (0 : Nat)) (mkSt (91 : Nat) [((3 : Nat), SV.nv (NV.one (At.own (0 : Nat))))] [Seg.row (30 : TypeId) (5 : Nat) n (gO L)]),
      n = n,
      ∀ (i : Nat), i < n → Op5.k (L i) = Op5.k (L i) ∧ Op5.fl (L i) = Op5.fl (L i) ∧ Op5.id (L i) = Op5.id (L i) ∧ Op5.ln (L i) = Op5.ln (L i) ∧ Op5.tk (L i) = Op5.tk (L i) ∧ True]) (by kernel_rfl) (.cons (by rfl) (.cons (by rfl) (.cons (by trivial) (.cons (by assumption) (.cons (by rfl) (.cons (by (intro _ _; exact ⟨rfl, rfl, rfl, rfl, rfl, trivial⟩)) .nil)))))) (Nat.le_of_ble_eq_true (by kernel_rfl))

set_option maxHeartbeats 2000000 in
theorem rr_g (s : ByteArray) (n : Nat) (L0 L : Nat → Op5) (l0 : CodeOk Try.prog 0 (.loop (loopOf Try.f9 0)) (mkSt 91 [(0, sA s), (3, .nv (.one (.own 0)))] [.row 30 5 0 (gO L0)]) .ret (mkSt 91 [(2, .nv (.one (.own 0)))] [.row 30 5 n (gO L)])) : FnOk Try.prog 9 ([sA s]) ([]) (.nv (.one (.own 0))) ([.row 30 5 n (gO L)]) :=
  fn_run GoA_ok Try.func9 (orc := ⟨[], [⟨mkSt 91 [(0, sA s), (3, .nv (.one (.own 0)))] [.row 30 5 0 (gO L0)], .ret, mkSt 91 [(2, .nv (.one (.own 0)))] [.row 30 5 n (gO L)]⟩]⟩) (obl := [s = s,
      (0 : Nat) = (0 : Nat),
      (0 : Nat) ≤ (1 : Nat),
      CodeOk Try.prog (0 : Nat) (Code.loop (loopOf Try.f9 (0 : Nat))) (mkSt (91 : Nat) [((0 : Nat), sA s), ((3 : Nat), SV.nv (NV.one (At.own (0 : Nat))))] [Seg.row (30 : TypeId) (5 : Nat) (0 : Nat) (gO L0)]) Ex.ret (mkSt (91 : Nat) [((2 : Nat), SV.nv (NV.one (At.own (0 : Nat))))] [Seg.row (30 : TypeId) (5 : Nat) n (gO L)]),
      n = n,
      ∀ (i : Nat), i < n → Op5.k (L i) = Op5.k (L i) ∧ Op5.fl (L i) = Op5.fl (L i) ∧ Op5.id (L i) = Op5.id (L i) ∧ Op5.ln (L i) = Op5.ln (L i) ∧ Op5.tk (L i) = Op5.tk (L i) ∧ True]) (by kernel_rfl) (.cons (by rfl) (.cons (by rfl) (.cons (by trivial) (.cons (by assumption) (.cons (by rfl) (.cons (by (intro _ _; exact ⟨rfl, rfl, rfl, rfl, rfl, trivial⟩)) .nil)))))) (Nat.le_of_ble_eq_true (by kernel_rfl))

set_option maxHeartbeats 2000000 in
theorem os_n (len i : Nat) (L M : Nat → Op5) (hi : i < len) (hl : len ≤ 100000000) (e : L i = M i) : CodeOk Try.prog 2 (loopOf Try.f7 0) (mkSt 26 [(0, .nv (.one (.own 0))), (1, .nv (.one (.own 1))), (5, iA i)] [.ro 5 len (gO L), .ro 5 len (gO M)]) .normal (mkSt 26 [(0, .nv (.one (.own 0))), (1, .nv (.one (.own 1))), (5, iA (i + 1 : Nat))] [.ro 5 len (gO L), .ro 5 len (gO M)]) :=
  code_run GoA_ok (orc := ⟨[true, false], []⟩) (obl := [decide ((↑i : Int) < (↑len : Int)) = true,
      (0 : Int) ≤ (↑i : Int),
      (↑i : Int) < (↑len : Int),
      Int.toNat (↑i : Int) < len,
      (0 : Int) ≤ (↑i : Int),
      (↑i : Int) < (↑len : Int),
      Int.toNat (↑i : Int) < len,
      (!(Op5.k (L (Int.toNat (↑i : Int))) == Op5.k (M (Int.toNat (↑i : Int))) && (Op5.fl (L (Int.toNat (↑i : Int))) == Op5.fl (M (Int.toNat (↑i : Int))) && (Op5.id (L (Int.toNat (↑i : Int))) == Op5.id (M (Int.toNat (↑i : Int))) && (Op5.ln (L (Int.toNat (↑i : Int))) == Op5.ln (M (Int.toNat (↑i : Int))) && (Op5.tk (L (Int.toNat (↑i : Int))) == Op5.tk (M (Int.toNat (↑i : Int))) && true)))))) = false,
      IntKind.wrap IntKind.i64 ((↑i : Int) + (1 : Int)) = (↑(i + (1 : Nat)) : Int),
      len = len,
      ∀ (i : Nat), i < len → Op5.k (L i) = Op5.k (L i) ∧ Op5.fl (L i) = Op5.fl (L i) ∧ Op5.id (L i) = Op5.id (L i) ∧ Op5.ln (L i) = Op5.ln (L i) ∧ Op5.tk (L i) = Op5.tk (L i) ∧ True,
      len = len,
      ∀ (i : Nat), i < len → Op5.k (M i) = Op5.k (M i) ∧ Op5.fl (M i) = Op5.fl (M i) ∧ Op5.id (M i) = Op5.id (M i) ∧ Op5.ln (M i) = Op5.ln (M i) ∧ Op5.tk (M i) = Op5.tk (M i) ∧ True]) (by kernel_rfl) (.cons (by exact decide_eq_true (by omega)) (.cons (by (simp [e])) (.cons (by omega) (.cons (by assumption) (.cons (by (simp [e])) (.cons (by omega) (.cons (by assumption) (.cons (by (simp [e])) (.cons (by exact w64 (by omega) (by omega)) (.cons (by rfl) (.cons (by (simp [e])) (.cons (by rfl) (.cons (by (simp [e])) .nil))))))))))))) (Nat.le_of_ble_eq_true (by kernel_rfl))

set_option maxHeartbeats 2000000 in
theorem os_e (len : Nat) (L M : Nat → Op5) : CodeOk Try.prog 2 (loopOf Try.f7 0) (mkSt 26 [(0, .nv (.one (.own 0))), (1, .nv (.one (.own 1))), (5, iA len)] [.ro 5 len (gO L), .ro 5 len (gO M)]) (.exit 0) (mkSt 26 [] [.ro 5 len (gO L), .ro 5 len (gO M)]) :=
  code_run GoA_ok (orc := ⟨[false], []⟩) (obl := [decide ((↑len : Int) < (↑len : Int)) = false,
      len = len,
      ∀ (i : Nat), i < len → Op5.k (L i) = Op5.k (L i) ∧ Op5.fl (L i) = Op5.fl (L i) ∧ Op5.id (L i) = Op5.id (L i) ∧ Op5.ln (L i) = Op5.ln (L i) ∧ Op5.tk (L i) = Op5.tk (L i) ∧ True,
      len = len,
      ∀ (i : Nat), i < len → Op5.k (M i) = Op5.k (M i) ∧ Op5.fl (M i) = Op5.fl (M i) ∧ Op5.id (M i) = Op5.id (M i) ∧ Op5.ln (M i) = Op5.ln (M i) ∧ Op5.tk (M i) = Op5.tk (M i) ∧ True]) (by kernel_rfl) (.cons (by exact decide_eq_false (by omega)) (.cons (by rfl) (.cons (by (intro _ _; exact ⟨rfl, rfl, rfl, rfl, rfl, trivial⟩)) (.cons (by rfl) (.cons (by (intro _ _; exact ⟨rfl, rfl, rfl, rfl, rfl, trivial⟩)) .nil))))) (Nat.le_of_ble_eq_true (by kernel_rfl))

set_option maxHeartbeats 2000000 in
theorem os_f (len : Nat) (L M : Nat → Op5) (l0 : CodeOk Try.prog 2 (.loop (loopOf Try.f7 0)) (mkSt 26 [(0, .nv (.one (.own 0))), (1, .nv (.one (.own 1))), (5, iA (0 : Nat))] [.ro 5 len (gO L), .ro 5 len (gO M)]) (.exit 0) (mkSt 26 [] [.ro 5 len (gO L), .ro 5 len (gO M)])) : FnOk Try.prog 7 ([.nv (.one (.own 0)), .nv (.one (.own 1))]) ([.ro 5 len (gO L), .ro 5 len (gO M)]) (bA true) ([.ro 5 len (gO L), .ro 5 len (gO M)]) :=
  fn_run GoA_ok Try.func7 (orc := ⟨[false], [⟨mkSt 26 [(0, .nv (.one (.own 0))), (1, .nv (.one (.own 1))), (5, iA (0 : Nat))] [.ro 5 len (gO L), .ro 5 len (gO M)], .exit 0, mkSt 26 [] [.ro 5 len (gO L), .ro 5 len (gO M)]⟩]⟩) (obl := [((↑len : Int) != (↑len : Int)) = false,
      (0 : Int) = (↑(0 : Nat) : Int),
      len = len,
      ∀ (i : Nat), i < len → Op5.k (L i) = Op5.k (L i) ∧ Op5.fl (L i) = Op5.fl (L i) ∧ Op5.id (L i) = Op5.id (L i) ∧ Op5.ln (L i) = Op5.ln (L i) ∧ Op5.tk (L i) = Op5.tk (L i) ∧ True,
      len = len,
      ∀ (i : Nat), i < len → Op5.k (M i) = Op5.k (M i) ∧ Op5.fl (M i) = Op5.fl (M i) ∧ Op5.id (M i) = Op5.id (M i) ∧ Op5.ln (M i) = Op5.ln (M i) ∧ Op5.tk (M i) = Op5.tk (M i) ∧ True,
      (2 : Nat) ≤ (2 : Nat),
      CodeOk Try.prog (2 : Nat) (Code.loop (loopOf Try.f7 (0 : Nat))) (mkSt (26 : Nat) [((0 : Nat), SV.nv (NV.one (At.own (0 : Nat)))), ((1 : Nat), SV.nv (NV.one (At.own (1 : Nat)))), ((5 : Nat), iA (↑(0 : Nat) : Int))] [Seg.ro (5 : Nat) len (gO L), Seg.ro (5 : Nat) len (gO M)]) (Ex.exit (0 : Nat)) (mkSt (26 : Nat) [] [Seg.ro (5 : Nat) len (gO L), Seg.ro (5 : Nat) len (gO M)]),
      true = true,
      len = len,
      ∀ (i : Nat), i < len → Op5.k (L i) = Op5.k (L i) ∧ Op5.fl (L i) = Op5.fl (L i) ∧ Op5.id (L i) = Op5.id (L i) ∧ Op5.ln (L i) = Op5.ln (L i) ∧ Op5.tk (L i) = Op5.tk (L i) ∧ True,
      len = len,
      ∀ (i : Nat), i < len → Op5.k (M i) = Op5.k (M i) ∧ Op5.fl (M i) = Op5.fl (M i) ∧ Op5.id (M i) = Op5.id (M i) ∧ Op5.ln (M i) = Op5.ln (M i) ∧ Op5.tk (M i) = Op5.tk (M i) ∧ True]) (by kernel_rfl) (.cons (by exact bne_eq_false_iff_eq.2 (by omega)) (.cons (by rfl) (.cons (by rfl) (.cons (by (intro _ _; exact ⟨rfl, rfl, rfl, rfl, rfl, trivial⟩)) (.cons (by rfl) (.cons (by (intro _ _; exact ⟨rfl, rfl, rfl, rfl, rfl, trivial⟩)) (.cons (by trivial) (.cons (by assumption) (.cons (by rfl) (.cons (by rfl) (.cons (by (intro _ _; exact ⟨rfl, rfl, rfl, rfl, rfl, trivial⟩)) (.cons (by rfl) (.cons (by (intro _ _; exact ⟨rfl, rfl, rfl, rfl, rfl, trivial⟩)) .nil))))))))))))) (Nat.le_of_ble_eq_true (by kernel_rfl))
end Go.Proofs.Ytecgigeahkijaaa

/- ops: Read, the document's, and Same, as specifications. No condition. -/
namespace Go.Proofs.Ytecgigeahkijaaa
set_option linter.unusedVariables false
set_option linter.unusedSimpArgs false
open Go.RowKit E
theorem offO_ge (s : ByteArray) : ∀ i, i ≤ offO s i
  | 0 => Nat.le_refl _
  | i + 1 => by
    have := offO_ge s i
    have := oneL_pos (fromZ s (offO s i))
    rw [offO]; omega
theorem oneW_beg {t : ByteArray} (h : begB (byteAt t 0) = false) : oneW t = true ∧ oneL t = 1 ∧ oneX t = ⟨0, 0, 0, byteAt t 0, 0⟩ := by
  unfold oneW oneL oneX
  rw [if_pos h, if_pos h, if_pos h]
  exact ⟨rfl, rfl, rfl⟩
theorem or_loop (s : ByteArray) (hz : s.size ≤ 100000000) : ∀ (f i : Nat), offO s i ≤ s.size → s.size - offO s i ≤ f →
    LoopOk Try.prog 0 (loopOf Try.f8 0) (mkSt 39 [(0, sA (fromZ s (offO s i))), (3, .nv (.one (.own 0)))] [.row 30 5 i (gO (opX s))]) (.exit 0) (mkSt 39 [(3, .nv (.one (.own 0)))] [.row 30 5 (i + (cntO s f i).1) (gO (opX s))])
  | 0, i, h1, h2 => .last (by simp) (or_e _ i _ (by rw [fromZ_size h1]; omega))
  | f + 1, i, h1, h2 => by
    have hts := fromZ_size h1
    have hge := offO_ge s i
    rw [cntO]
    by_cases q : s.size ≤ offO s i
    · rw [if_pos q]
      exact .last (by simp) (or_e _ i _ (by rw [hts]; omega))
    · rw [if_neg q]
      have hc := byteAt_bd (fromZ s (offO s i)) 0
      have ec : IntKind.wrap IntKind.u64 (byteAt (fromZ s (offO s i)) 0) = byteAt (fromZ s (offO s i)) 0 := byteAt_wrap _ _
      cases hb : begB (byteAt (fromZ s (offO s i)) 0) with
      | false =>
        obtain ⟨w1, w2, w3⟩ := oneW_beg hb
        rw [if_pos w1]
        have hn : offO s (i + 1) = offO s i + 1 := by rw [offO, w2]
        have ih := or_loop s hz f (i + 1) (by omega) (by omega)
        rw [hn, show i + 1 + (cntO s f (i + 1)).1 = i + ((cntO s f (i + 1)).1 + 1) by omega, ← fromZ_fromZ] at ih
        exact .step (or_j _ i _ (opX s) (by rw [hts]; omega) (by rw [hts]; omega) (by omega) (fun _ _ => rfl) _ ec rfl hb w3) ih
      | true =>
        by_cases w1 : oneW (fromZ s (offO s i)) = true
        · rw [if_pos w1]
          have hle := oneL_le (by rw [hts]; omega) w1
          have hle2 := hle
          rw [hts] at hle2
          have hn : offO s (i + 1) = offO s i + oneL (fromZ s (offO s i)) := rfl
          have hp := oneL_pos (fromZ s (offO s i))
          have ih := or_loop s hz f (i + 1) (by omega) (by omega)
          rw [hn, show i + 1 + (cntO s f (i + 1)).1 = i + ((cntO s f (i + 1)).1 + 1) by omega, ← fromZ_fromZ] at ih
          exact .step (or_w _ i _ (opX s) (by rw [hts]; omega) (by rw [hts]; omega) (by omega) (fun _ _ => rfl) _ ec rfl hb _ hb w1 (if_pos w1) hle rfl) ih
        · rw [if_neg w1]
          exact .last (by simp) (or_t _ i _ (opX s) (by rw [hts]; omega) (by rw [hts]; omega) (by omega) (fun _ _ => rfl) _ ec rfl hb hb (Bool.eq_false_iff.2 w1) rfl)
theorem fnReadO (s : ByteArray) (hz : s.size ≤ 100000000) : FnOk Try.prog 8 [sA s] [] (.nv (.one (.own 0))) [.row 30 5 (numO s) (gO (opX s))] := by
  have := or_loop s hz s.size 0 (Nat.zero_le _) (Nat.sub_le _ _)
  rw [show fromZ s (offO s 0) = s from ints_ext (by rw [fromZ_ints]; rfl), Nat.zero_add] at this
  exact or_f s _ _ _ this.code
theorem rr_loop (s : ByteArray) (hz : s.size ≤ 100000000) : ∀ (f i : Nat), offO s i ≤ s.size → s.size - offO s i ≤ f →
    LoopOk Try.prog 0 (loopOf Try.f9 0) (mkSt 91 [(0, sA (fromZ s (offO s i))), (3, .nv (.one (.own 0)))] [.row 30 5 i (gO (opX s))]) (.exit 0) (mkSt 91 [(3, .nv (.one (.own 0)))] [.row 30 5 (i + (cntO s f i).1) (gO (opX s))]) ∨
    LoopOk Try.prog 0 (loopOf Try.f9 0) (mkSt 91 [(0, sA (fromZ s (offO s i))), (3, .nv (.one (.own 0)))] [.row 30 5 i (gO (opX s))]) .ret (mkSt 91 [(2, .nv (.one (.own 0)))] [.row 30 5 (i + (cntO s f i).1) (gO (opX s))])
  | 0, i, h1, h2 => .inl (.last (by simp) (rr_e _ i _ (by rw [fromZ_size h1]; omega)))
  | f + 1, i, h1, h2 => by
    have hts := fromZ_size h1
    have hge := offO_ge s i
    rw [cntO]
    by_cases q : s.size ≤ offO s i
    · rw [if_pos q]
      exact .inl (.last (by simp) (rr_e _ i _ (by rw [hts]; omega)))
    · rw [if_neg q]
      have next : oneW (fromZ s (offO s i)) = true → CodeOk Try.prog 0 (loopOf Try.f9 0) (mkSt 91 [(0, sA (fromZ s (offO s i))), (3, .nv (.one (.own 0)))] [.row 30 5 i (gO (opX s))]) .normal (mkSt 91 [(0, sA (fromZ (fromZ s (offO s i)) (oneL (fromZ s (offO s i))))), (3, .nv (.one (.own 0)))] [.row 30 5 (i + 1) (gO (opX s))]) →
          (LoopOk Try.prog 0 (loopOf Try.f9 0) (mkSt 91 [(0, sA (fromZ s (offO s i))), (3, .nv (.one (.own 0)))] [.row 30 5 i (gO (opX s))]) (.exit 0) (mkSt 91 [(3, .nv (.one (.own 0)))] [.row 30 5 (i + ((cntO s f (i + 1)).1 + 1)) (gO (opX s))]) ∨
          LoopOk Try.prog 0 (loopOf Try.f9 0) (mkSt 91 [(0, sA (fromZ s (offO s i))), (3, .nv (.one (.own 0)))] [.row 30 5 i (gO (opX s))]) .ret (mkSt 91 [(2, .nv (.one (.own 0)))] [.row 30 5 (i + ((cntO s f (i + 1)).1 + 1)) (gO (opX s))])) := by
        intro w1 step
        have hle := oneL_le (by rw [hts]; omega) w1
        rw [hts] at hle
        have hn : offO s (i + 1) = offO s i + oneL (fromZ s (offO s i)) := rfl
        have hp := oneL_pos (fromZ s (offO s i))
        have ih := rr_loop s hz f (i + 1) (by omega) (by omega)
        rw [hn, show i + 1 + (cntO s f (i + 1)).1 = i + ((cntO s f (i + 1)).1 + 1) by omega, ← fromZ_fromZ] at ih
        exact ih.imp (.step step) (.step step)
      have hx : opX s i = oneX (fromZ s (offO s i)) := rfl
      have hsz : (fromZ s (offO s i)).size ≤ 100000000 := by rw [hts]; omega
      have hs1 : 1 ≤ (fromZ s (offO s i)).size := by rw [hts]; omega
      revert next hx hsz hs1
      generalize fromZ s (offO s i) = t
      intro next hx hsz hs1
      have hc := byteAt_bd t 0
      have ec : IntKind.wrap IntKind.u64 (byteAt t 0) = byteAt t 0 := byteAt_wrap _ _
      have ei : IntKind.wrap IntKind.i64 (byteAt t 0) = byteAt t 0 := w64 rfl (by omega)
      have ht1 := fromZ_size hs1
      cases hb : begB (byteAt t 0) with
      | false =>
        obtain ⟨w1, w2, w3⟩ := oneW_beg hb
        rw [if_pos w1]
        apply next w1
        rw [w2]
        have : byteAt t 0 = 0 ∨ 4 < byteAt t 0 := by
          unfold begB at hb
          simp only [Bool.and_eq_false_iff, decide_eq_false_iff_not] at hb
          omega
        rcases this with c0 | c5
        · exact rr_j0 t i _ (opX s) hsz hs1 (by omega) (fun _ _ => rfl) _ ei ec c0 (hx.trans w3)
        · exact rr_j5 t i _ (opX s) hsz hs1 (by omega) (fun _ _ => rfl) _ ei ec c5 (hx.trans w3)
      | true =>
        have hnb : ¬ begB (byteAt t 0) = false := by rw [hb]; decide
        have hbb : 1 ≤ byteAt t 0 ∧ byteAt t 0 ≤ 4 := by
          unfold begB at hb
          simp only [Bool.and_eq_true, decide_eq_true_eq] at hb
          exact hb
        have eX : oneX t = if errT (fromZ t 1) (kindsF (byteAt t 0)) (kindsN (byteAt t 0)) ≠ 0 then ⟨5, 0, 0, 0, 0⟩
            else if byteAt t 0 = 1 then ⟨1, (fldT (fromZ t 1) (kindsF 1) 0).n, (fldT (fromZ t 1) (kindsF 1) 1).n, (fldT (fromZ t 1) (kindsF 1) 2).n, 0⟩
            else if byteAt t 0 = 3 then ⟨3, 0, 0, 0, (fldT (fromZ t 1) (kindsF 3) 0).n⟩
            else ⟨byteAt t 0, 0, 0, 0, 0⟩ := by unfold oneX; rw [if_neg hnb]
        have eW : oneW t = decide (errT (fromZ t 1) (kindsF (byteAt t 0)) (kindsN (byteAt t 0)) = 0) := by unfold oneW; rw [if_neg hnb]
        have eL : oneL t = atN (fromZ t 1) (kindsF (byteAt t 0)) (kindsN (byteAt t 0)) + 1 := by unfold oneL; rw [if_neg hnb]
        by_cases c1 : byteAt t 0 = 1
        · rw [c1, show kindsN 1 = 3 from rfl] at eX eW eL
          replace ei := ei.trans c1
          have he : ∀ K : Nat → Int, (∀ j, j < 3 → K j = kindsF 1 j) → errT (fromZ t 1) K 3 = errT (fromZ t 1) (kindsF 1) 3 := fun K hK => (take_congr hK).1
          by_cases e : errT (fromZ t 1) (kindsF 1) 3 = 0
          · have ha := atN_le e
            rw [ht1] at ha
            rw [if_neg (fun q => q e), if_pos rfl] at eX
            rw [decide_eq_true e] at eW
            rw [if_pos eW]
            apply next eW
            rw [eL]
            have w0 := fld_word (s := fromZ t 1) (K := kindsF 1) (i := 0) rfl
            have w1 := fld_word (s := fromZ t 1) (K := kindsF 1) (i := 1) rfl
            refine rr_1k t i _ (opX s) hsz hs1 (by omega) (fun _ _ => rfl) _ _ _ _ _ ei he e (fun K hK => ?_) (fun K hK => ?_) (fun K hK => ?_) (fun K hK => ?_) (by omega) (hx.trans eX)
            · rw [fld_congr (n := 0) (fun j hj => hK j (by omega))]; exact wU32 rfl (by omega)
            · rw [fld_congr (n := 1) (fun j hj => hK j (by omega))]; exact wU32 rfl (by omega)
            · rw [fld_congr (n := 2) (fun j hj => hK j (by omega))]
            · rw [(take_congr hK).1, (take_congr hK).2, if_pos e]; exact w64 (by omega) (by omega)
          · rw [if_pos e] at eX
            rw [decide_eq_false e] at eW
            rw [if_neg (by rw [eW]; decide)]
            exact .inr (.last (by simp) (rr_1e t i _ (opX s) hsz hs1 (by omega) (fun _ _ => rfl) _ ei he e (hx.trans eX)))
        · by_cases c3 : byteAt t 0 = 3
          · rw [c3, show kindsN 3 = 1 from rfl] at eX eW eL
            replace ei := ei.trans c3
            have he : ∀ K : Nat → Int, (∀ j, j < 1 → K j = kindsF 3 j) → errT (fromZ t 1) K 1 = errT (fromZ t 1) (kindsF 3) 1 := fun K hK => (take_congr hK).1
            by_cases e : errT (fromZ t 1) (kindsF 3) 1 = 0
            · have ha := atN_le e
              rw [ht1] at ha
              rw [if_neg (fun q => q e), if_neg (by decide), if_pos rfl] at eX
              rw [decide_eq_true e] at eW
              rw [if_pos eW]
              apply next eW
              rw [eL]
              refine rr_3k t i _ (opX s) hsz hs1 (by omega) (fun _ _ => rfl) _ _ _ ei he e (fun K hK => ?_) (fun K hK => ?_) (by omega) (hx.trans eX)
              · rw [fld_congr (n := 0) (fun j hj => hK j (by omega))]
              · rw [(take_congr hK).1, (take_congr hK).2, if_pos e]; exact w64 (by omega) (by omega)
            · rw [if_pos e] at eX
              rw [decide_eq_false e] at eW
              rw [if_neg (by rw [eW]; decide)]
              exact .inr (.last (by simp) (rr_3e t i _ (opX s) hsz hs1 (by omega) (fun _ _ => rfl) _ ei he e (hx.trans eX)))
          · have k0 : kindsN (byteAt t 0) = 0 := by unfold kindsN; rw [if_neg c1, if_neg c3]
            rw [k0] at eX eW eL
            have e : errT (fromZ t 1) (kindsF (byteAt t 0)) 0 = 0 := rfl
            rw [if_neg (fun q => q e), if_neg c1, if_neg c3] at eX
            rw [decide_eq_true e] at eW
            rw [if_pos eW]
            apply next eW
            rw [eL]
            exact rr_2 t i _ (opX s) hsz hs1 (by omega) (fun _ _ => rfl) _ ei c1 c3 (by omega) (by omega) (hx.trans eX)
theorem fnRRead (s : ByteArray) (hz : s.size ≤ 100000000) : FnOk Try.prog 9 [sA s] [] (.nv (.one (.own 0))) [.row 30 5 (numO s) (gO (opX s))] := by
  have := rr_loop s hz s.size 0 (Nat.zero_le _) (Nat.sub_le _ _)
  rw [show fromZ s (offO s 0) = s from ints_ext (by rw [fromZ_ints]; rfl), Nat.zero_add] at this
  rcases this with h | h
  · exact rr_f s _ _ _ h.code
  · exact rr_g s _ (opX s) _ h.code
def gRead : List SV → List Seg → Option (CS × List Prop)
  | [.nv (.one (.val (.string s)))], mem => some (⟨[sA s], [], .nv (.one (.own 0)), [.row 30 5 (numO s) (gO (opX s))]⟩, [s.size ≤ 100000000])
  | _, _ => none
theorem spReadO : SpOk Try.prog 8 (.lift gRead) := by
  intro args mem cs obl h ho
  unfold gRead at h
  split at h
  · simp only [Option.some.injEq, Prod.mk.injEq] at h
    obtain ⟨rfl, rfl⟩ := h
    exact fnReadO _ ho.1
  · cases h
theorem spRRead : SpOk Try.prog 9 (.lift gRead) := by
  intro args mem cs obl h ho
  unfold gRead at h
  split at h
  · simp only [Option.some.injEq, Prod.mk.injEq] at h
    obtain ⟨rfl, rfl⟩ := h
    exact fnRRead _ ho.1
  · cases h
theorem fnSameO (len : Nat) (L M : Nat → Op5) (hl : len ≤ 100000000) (e : ∀ i, i < len → L i = M i) :
    FnOk Try.prog 7 [.nv (.one (.own 0)), .nv (.one (.own 1))] [.ro 5 len (gO L), .ro 5 len (gO M)] (bA true) [.ro 5 len (gO L), .ro 5 len (gO M)] := by
  refine os_f len L M ?_
  refine loop_ok (α := Nat) (fun i => mkSt 26 [(0, .nv (.one (.own 0))), (1, .nv (.one (.own 1))), (5, iA i)] [.ro 5 len (gO L), .ro 5 len (gO M)]) (fun i => i ≤ len) (fun i => len - i) (by simp) ?_ (x := 0) (Nat.zero_le _)
  intro i hi
  by_cases q : i = len
  · subst q; exact .inr (os_e i L M)
  · exact .inl ⟨i + 1, (show i + 1 ≤ len by omega), (show len - (i + 1) < len - i by omega), os_n len i L M (by omega) hl (e i (by omega))⟩
def gSameO : List SV → List Seg → Option (CS × List Prop)
  | [.nv (.one a), .nv (.one b)], mem => match srcOf mem 5 a, srcOf mem 5 b with
    | some (n, g, _), some (m, g2, _) => some (⟨[.nv (.one (.own 0)), .nv (.one (.own 1))], [.ro 5 n (gO (opOf g)), .ro 5 n (gO (opOf g2))], bA true, [.ro 5 n (gO (opOf g)), .ro 5 n (gO (opOf g2))]⟩, [n ≤ 100000000, ∀ i, i < n → opOf g i = opOf g2 i])
    | _, _ => none
  | _, _ => none
theorem spSameO : SpOk Try.prog 7 (.lift gSameO) := by
  intro args mem cs obl h ho
  unfold gSameO at h
  split at h
  · split at h
    · simp only [Option.some.injEq, Prod.mk.injEq] at h
      obtain ⟨rfl, rfl⟩ := h
      exact fnSameO _ _ _ ho.1 ho.2.1
    · cases h
  · cases h
theorem cnt_le (s : ByteArray) : ∀ (f i : Nat), i + (cntO s f i).1 ≤ i + f
  | 0, i => Nat.le_refl _
  | f + 1, i => by
    have := cnt_le s f (i + 1)
    rw [cntO]
    split
    · simp
    · split
      · simp only; omega
      · simp
theorem opEq {a b : Op5} (h : a.k = b.k ∧ a.fl = b.fl ∧ a.id = b.id ∧ a.ln = b.ln ∧ a.tk = b.tk) : a = b := by
  obtain ⟨h1, h2, h3, h4, h5⟩ := h
  cases a; cases b; simp_all
theorem numO_le (s : ByteArray) : numO s ≤ s.size := by have := cnt_le s s.size 0; unfold numO; omega
def GoB : List (FuncId × Sp) := (8, .lift gRead) :: (9, .lift gRead) :: (7, .lift gSameO) :: GoA
theorem GoB_ok : CtxOk Try.prog GoB := ctx_cons (enter_of Try.func8 (by kernel_rfl) (by kernel_rfl)) spReadO <|
  ctx_cons (enter_of Try.func9 (by kernel_rfl) (by kernel_rfl)) spRRead <|
  ctx_cons (enter_of Try.func7 (by kernel_rfl) (by kernel_rfl)) spSameO GoA_ok
end Go.Proofs.Ytecgigeahkijaaa

/- Runs of Go code, as printed by a program: no condition beyond those that each states. -/
namespace Go.Proofs.Ytecgigeahkijaaa
set_option linter.unusedVariables false
set_option linter.unusedSimpArgs false
set_option maxRecDepth 100000
open Go.RowKit E
set_option maxHeartbeats 2000000 in
theorem lvo  : PureOk Try.prog 6 ([]) (bA true) :=
  pure_run GoB_ok Try.func6 (orc := ⟨[], []⟩) (obl := [ByteArray.size (ByteArray.mk #[(2 : UInt8), (9 : UInt8), (3 : UInt8), (5 : UInt8), (1 : UInt8)]) ≤ (100000000 : Nat),
      (ByteArray.mk #[(2 : UInt8), (9 : UInt8), (3 : UInt8), (5 : UInt8), (1 : UInt8)]) = (ByteArray.mk #[(2 : UInt8), (9 : UInt8), (3 : UInt8), (5 : UInt8), (1 : UInt8)]),
      ∀ (i : Nat), i < numO (ByteArray.mk #[(2 : UInt8), (9 : UInt8), (3 : UInt8), (5 : UInt8), (1 : UInt8)]) → (true && (true && (true && (true && (true && true))))) = true,
      (4 : Nat) ≤ (100000000 : Nat),
      ∀ (i : Nat), i < (4 : Nat) → opOf (gO (opX (ByteArray.mk #[(2 : UInt8), (9 : UInt8), (3 : UInt8), (5 : UInt8), (1 : UInt8)]))) i = opOf (litG (5 : Nat) [At.val (Value.int IntKind.i64 (2 : Int)), At.val (Value.int IntKind.u32 (0 : Int)), At.val (Value.int IntKind.u32 (0 : Int)), At.val (Value.int IntKind.u64 (0 : Int)), At.val (Value.int IntKind.u64 (0 : Int)), At.val (Value.int IntKind.i64 (0 : Int)), At.val (Value.int IntKind.u32 (0 : Int)), At.val (Value.int IntKind.u32 (0 : Int)), At.val (Value.int IntKind.u64 (9 : Int)), At.val (Value.int IntKind.u64 (0 : Int)), At.val (Value.int IntKind.i64 (3 : Int)), At.val (Value.int IntKind.u32 (0 : Int)), At.val (Value.int IntKind.u32 (0 : Int)), At.val (Value.int IntKind.u64 (0 : Int)), At.val (Value.int IntKind.u64 (5 : Int)), At.val (Value.int IntKind.i64 (5 : Int)), At.val (Value.int IntKind.u32 (0 : Int)), At.val (Value.int IntKind.u32 (0 : Int)), At.val (Value.int IntKind.u64 (0 : Int)), At.val (Value.int IntKind.u64 (0 : Int))]) i,
      (4 : Nat) = (4 : Nat),
      ∀ (i : Nat), i < (4 : Nat) → Op5.k (opX (ByteArray.mk #[(2 : UInt8), (9 : UInt8), (3 : UInt8), (5 : UInt8), (1 : UInt8)]) i) = Op5.k (opOf (gO (opX (ByteArray.mk #[(2 : UInt8), (9 : UInt8), (3 : UInt8), (5 : UInt8), (1 : UInt8)]))) i) ∧ Op5.fl (opX (ByteArray.mk #[(2 : UInt8), (9 : UInt8), (3 : UInt8), (5 : UInt8), (1 : UInt8)]) i) = Op5.fl (opOf (gO (opX (ByteArray.mk #[(2 : UInt8), (9 : UInt8), (3 : UInt8), (5 : UInt8), (1 : UInt8)]))) i) ∧ Op5.id (opX (ByteArray.mk #[(2 : UInt8), (9 : UInt8), (3 : UInt8), (5 : UInt8), (1 : UInt8)]) i) = Op5.id (opOf (gO (opX (ByteArray.mk #[(2 : UInt8), (9 : UInt8), (3 : UInt8), (5 : UInt8), (1 : UInt8)]))) i) ∧ Op5.ln (opX (ByteArray.mk #[(2 : UInt8), (9 : UInt8), (3 : UInt8), (5 : UInt8), (1 : UInt8)]) i) = Op5.ln (opOf (gO (opX (ByteArray.mk #[(2 : UInt8), (9 : UInt8), (3 : UInt8), (5 : UInt8), (1 : UInt8)]))) i) ∧ Op5.tk (opX (ByteArray.mk #[(2 : UInt8), (9 : UInt8), (3 : UInt8), (5 : UInt8), (1 : UInt8)]) i) = Op5.tk (opOf (gO (opX (ByteArray.mk #[(2 : UInt8), (9 : UInt8), (3 : UInt8), (5 : UInt8), (1 : UInt8)]))) i) ∧ True,
      (4 : Nat) = (4 : Nat),
      ∀ (i : Nat), i < (4 : Nat) → AllT (leAts ([] ++ ([((0 : Nat), Bd.same (0 : Nat))] ++ ([((1 : Nat), Bd.same (1 : Nat))] ++ [])) ++ ([] ++ ([] ++ []) ++ ([] ++ []))) (2 : Nat) (litG (5 : Nat) [At.val (Value.int IntKind.i64 (2 : Int)), At.val (Value.int IntKind.u32 (0 : Int)), At.val (Value.int IntKind.u32 (0 : Int)), At.val (Value.int IntKind.u64 (0 : Int)), At.val (Value.int IntKind.u64 (0 : Int)), At.val (Value.int IntKind.i64 (0 : Int)), At.val (Value.int IntKind.u32 (0 : Int)), At.val (Value.int IntKind.u32 (0 : Int)), At.val (Value.int IntKind.u64 (9 : Int)), At.val (Value.int IntKind.u64 (0 : Int)), At.val (Value.int IntKind.i64 (3 : Int)), At.val (Value.int IntKind.u32 (0 : Int)), At.val (Value.int IntKind.u32 (0 : Int)), At.val (Value.int IntKind.u64 (0 : Int)), At.val (Value.int IntKind.u64 (5 : Int)), At.val (Value.int IntKind.i64 (5 : Int)), At.val (Value.int IntKind.u32 (0 : Int)), At.val (Value.int IntKind.u32 (0 : Int)), At.val (Value.int IntKind.u64 (0 : Int)), At.val (Value.int IntKind.u64 (0 : Int))] i) (gO (opOf (litG (5 : Nat) [At.val (Value.int IntKind.i64 (2 : Int)), At.val (Value.int IntKind.u32 (0 : Int)), At.val (Value.int IntKind.u32 (0 : Int)), At.val (Value.int IntKind.u64 (0 : Int)), At.val (Value.int IntKind.u64 (0 : Int)), At.val (Value.int IntKind.i64 (0 : Int)), At.val (Value.int IntKind.u32 (0 : Int)), At.val (Value.int IntKind.u32 (0 : Int)), At.val (Value.int IntKind.u64 (9 : Int)), At.val (Value.int IntKind.u64 (0 : Int)), At.val (Value.int IntKind.i64 (3 : Int)), At.val (Value.int IntKind.u32 (0 : Int)), At.val (Value.int IntKind.u32 (0 : Int)), At.val (Value.int IntKind.u64 (0 : Int)), At.val (Value.int IntKind.u64 (5 : Int)), At.val (Value.int IntKind.i64 (5 : Int)), At.val (Value.int IntKind.u32 (0 : Int)), At.val (Value.int IntKind.u32 (0 : Int)), At.val (Value.int IntKind.u64 (0 : Int)), At.val (Value.int IntKind.u64 (0 : Int))])) i)),
      true = true]) (by kernel_rfl) (.cons (by trivial) (.cons (by rfl) (.cons (by trivial) (.cons (by trivial) (.cons (by (intro i hi; have e : i = 0 ∨ i = 1 ∨ i = 2 ∨ i = 3 := (by omega); rcases e with e | e | e | e; (subst e; exact opEq (by decide +kernel)); (subst e; exact opEq (by decide +kernel)); (subst e; exact opEq (by decide +kernel)); (subst e; exact opEq (by decide +kernel)))) (.cons (by rfl) (.cons (by trivial) (.cons (by rfl) (.cons (by (intro i hi; have e : i = 0 ∨ i = 1 ∨ i = 2 ∨ i = 3 := (by omega); rcases e with e | e | e | e; (subst e; exact ⟨rfl, rfl, rfl, rfl, rfl, trivial⟩); (subst e; exact ⟨rfl, rfl, rfl, rfl, rfl, trivial⟩); (subst e; exact ⟨rfl, rfl, rfl, rfl, rfl, trivial⟩); (subst e; exact ⟨rfl, rfl, rfl, rfl, rfl, trivial⟩))) (.cons (by rfl) .nil))))))))))
end Go.Proofs.Ytecgigeahkijaaa

/- ops: lives. No condition. -/
namespace Go.Proofs.Ytecgigeahkijaaa
set_option linter.unusedVariables false
set_option linter.unusedSimpArgs false
open Go.RowKit E
def gLivesO : List SV → Option (SV × List Prop)
  | [] => some (bA true, [])
  | _ => none
theorem spLivesO : SpOk Try.prog 6 (pureS gLivesO) := pureS_ok (by
  intro args r obl h ho
  unfold gLivesO at h
  split at h
  · simp only [Option.some.injEq, Prod.mk.injEq] at h
    obtain ⟨rfl, rfl⟩ := h
    exact ⟨rfl, rfl, lvo⟩
  · cases h)
def GoC : List (FuncId × Sp) := (6, pureS gLivesO) :: GoB
theorem GoC_ok : CtxOk Try.prog GoC := ctx_cons (enter_of Try.func6 (by kernel_rfl) (by kernel_rfl)) spLivesO GoB_ok
end Go.Proofs.Ytecgigeahkijaaa

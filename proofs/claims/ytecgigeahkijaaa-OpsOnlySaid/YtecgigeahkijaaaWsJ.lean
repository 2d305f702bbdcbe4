/- Runs of Go code, as printed by a program: no condition beyond those that each states. -/
import Derived.Test.YtecgigeahkijaaaWsH
import Derived.Test.YtecgigeahkijaaaChecked
import Derived.KernelRfl
namespace Go.Proofs.Ytecgigeahkijaaa
set_option linter.unusedVariables false
set_option linter.unusedSimpArgs false
set_option maxRecDepth 100000
open Go.RowKit E
set_option maxHeartbeats 2000000 in
theorem tk_n (s : ByteArray) (len i a b : Nat) (K : Nat → Int) (L M : Nat → Fl) (hz : s.size ≤ 140737488355328) (hl : len ≤ 1000) (hi : i < len) (ha : a ≤ s.size) (he : (oneZ (fromZ s a) (K i)).2.2.2 = 0) (eb : IntKind.wrap IntKind.i64 ((a : Int) + (oneZ (fromZ s a) (K i)).2.2.1) = b) (eL : ∀ j, j < i → L j = M j) (eM : M i = ⟨K i, (oneZ (fromZ s a) (K i)).1, (oneZ (fromZ s a) (K i)).2.1⟩) : CodeOk Try.prog 1 (loopOf Try.f24 0) (mkSt 42 [(0, sA s), (7, .nv (.one (.own 1))), (8, iA a), (14, .nv (.one (.own 0))), (15, iA len), (16, iA i)] [.ro 1 len (gK K), .row 47 3 i (gF L)]) .normal (mkSt 42 [(0, sA s), (7, .nv (.one (.own 1))), (8, iA b), (14, .nv (.one (.own 0))), (15, iA len), (16, iA (i + 1))] [.ro 1 len (gK K), .row 47 3 (i + 1) (gF M)]) :=
  code_run GbF_ok (orc := ⟨[true, false], []⟩) (obl := [decide ((↑i : Int) < (↑len : Int)) = true,
      (0 : Int) ≤ (↑i : Int),
      (↑i : Int) < (↑len : Int),
      Int.toNat (↑i : Int) < len,
      (0 : Int) ≤ Option.getD (some (Prod.snd (IntKind.i64, (↑a : Int)))) (0 : Int),
      Option.getD (some (Prod.snd (IntKind.i64, (↑a : Int)))) (0 : Int) ≤ Option.getD none (↑(ByteArray.size s) : Int),
      Option.getD none (↑(ByteArray.size s) : Int) ≤ (↑(ByteArray.size s) : Int),
      ByteArray.size (Prod.fst (ByteArray.extract s (Int.toNat (Option.getD (some (Prod.snd (IntKind.i64, (↑a : Int)))) (0 : Int))) (Int.toNat (Option.getD none (↑(ByteArray.size s) : Int))), [(0 : Int) ≤ Option.getD (some (Prod.snd (IntKind.i64, (↑a : Int)))) (0 : Int), Option.getD (some (Prod.snd (IntKind.i64, (↑a : Int)))) (0 : Int) ≤ Option.getD none (↑(ByteArray.size s) : Int), Option.getD none (↑(ByteArray.size s) : Int) ≤ (↑(ByteArray.size s) : Int)])) ≤ (140737488355328 : Nat),
      (Prod.snd (Prod.snd (Prod.snd (oneZ (Prod.fst (ByteArray.extract s (Int.toNat (Option.getD (some (Prod.snd (IntKind.i64, (↑a : Int)))) (0 : Int))) (Int.toNat (Option.getD none (↑(ByteArray.size s) : Int))), [(0 : Int) ≤ Option.getD (some (Prod.snd (IntKind.i64, (↑a : Int)))) (0 : Int), Option.getD (some (Prod.snd (IntKind.i64, (↑a : Int)))) (0 : Int) ≤ Option.getD none (↑(ByteArray.size s) : Int), Option.getD none (↑(ByteArray.size s) : Int) ≤ (↑(ByteArray.size s) : Int)])) (K (Int.toNat (↑i : Int)))))) != (0 : Int)) = false,
      i + (1 : Nat) ≤ (4611686018427387904 : Nat),
      (i + (1 : Nat)) * (32 : Nat) ≤ (140737488355328 : Nat),
      s = s,
      IntKind.wrap IntKind.i64 ((↑a : Int) + Prod.fst (Prod.snd (Prod.snd (oneZ (Prod.fst (ByteArray.extract s (Int.toNat (Option.getD (some (Prod.snd (IntKind.i64, (↑a : Int)))) (0 : Int))) (Int.toNat (Option.getD none (↑(ByteArray.size s) : Int))), [(0 : Int) ≤ Option.getD (some (Prod.snd (IntKind.i64, (↑a : Int)))) (0 : Int), Option.getD (some (Prod.snd (IntKind.i64, (↑a : Int)))) (0 : Int) ≤ Option.getD none (↑(ByteArray.size s) : Int), Option.getD none (↑(ByteArray.size s) : Int) ≤ (↑(ByteArray.size s) : Int)])) (K (Int.toNat (↑i : Int))))))) = (↑b : Int),
      (↑len : Int) = (↑len : Int),
      IntKind.wrap IntKind.i64 ((↑i : Int) + (1 : Int)) = (↑i : Int) + (1 : Int),
      len = len,
      ∀ (i : Nat), i < len → K i = K i ∧ True,
      i + (1 : Nat) = i + (1 : Nat),
      ∀ (i_1 : Nat), i_1 < i + (1 : Nat) → AllT (leAts ([(nat_lit 0, Bd.same (nat_lit 0))] ++ ([] ++ ([((1 : Nat), Bd.same (4 : Nat))] ++ ([] ++ ([((0 : Nat), Bd.same (0 : Nat))] ++ ([] ++ ([] ++ [])))))) ++ ([] ++ ([] ++ ([] ++ [])) ++ ([] ++ []))) (2 : Nat) (if i_1 = i then [At.val (Value.int IntKind.i64 (K (Int.toNat (↑i : Int)))), At.val (Value.int IntKind.u64 (Prod.fst (oneZ (Prod.fst (ByteArray.extract s (Int.toNat (Option.getD (some (Prod.snd (IntKind.i64, (↑a : Int)))) (0 : Int))) (Int.toNat (Option.getD none (↑(ByteArray.size s) : Int))), [(0 : Int) ≤ Option.getD (some (Prod.snd (IntKind.i64, (↑a : Int)))) (0 : Int), Option.getD (some (Prod.snd (IntKind.i64, (↑a : Int)))) (0 : Int) ≤ Option.getD none (↑(ByteArray.size s) : Int), Option.getD none (↑(ByteArray.size s) : Int) ≤ (↑(ByteArray.size s) : Int)])) (K (Int.toNat (↑i : Int)))))), At.val (Value.string (Prod.fst (Prod.snd (oneZ (Prod.fst (ByteArray.extract s (Int.toNat (Option.getD (some (Prod.snd (IntKind.i64, (↑a : Int)))) (0 : Int))) (Int.toNat (Option.getD none (↑(ByteArray.size s) : Int))), [(0 : Int) ≤ Option.getD (some (Prod.snd (IntKind.i64, (↑a : Int)))) (0 : Int), Option.getD (some (Prod.snd (IntKind.i64, (↑a : Int)))) (0 : Int) ≤ Option.getD none (↑(ByteArray.size s) : Int), Option.getD none (↑(ByteArray.size s) : Int) ≤ (↑(ByteArray.size s) : Int)])) (K (Int.toNat (↑i : Int)))))))] else gF L i_1) (gF M i_1))]) (by kernel_rfl) (.cons (by exact decide_eq_true (by omega)) (.cons (by omega) (.cons (by omega) (.cons (by assumption) (.cons (by (simp; done)) (.cons (by (simp [*]; done)) (.cons (by (simp; done)) (.cons (by exact ext_size hz) (.cons (by exact bne_eq_false_iff_eq.2 he) (.cons (by omega) (.cons (by omega) (.cons (by rfl) (.cons (by assumption) (.cons (by rfl) (.cons (by exact w64 (by omega) (by omega)) (.cons (by rfl) (.cons (by (intro _ _; exact ⟨rfl, trivial⟩)) (.cons (by rfl) (.cons (by (intro j hj; by_cases e : j = i; (rw [if_pos e]; subst e; exact ⟨(congrArg Fl.k eM).symm, (congrArg Fl.n eM).symm, (congrArg Fl.s eM).symm, trivial⟩); (rw [if_neg e]; have h9 := eL j (by omega); exact ⟨congrArg Fl.k h9, congrArg Fl.n h9, congrArg Fl.s h9, trivial⟩))) .nil))))))))))))))))))) (Nat.le_of_ble_eq_true (by kernel_rfl))

set_option maxHeartbeats 2000000 in
theorem tk_r (s : ByteArray) (len i a : Nat) (K : Nat → Int) (L : Nat → Fl) (c : Int) (hz : s.size ≤ 140737488355328) (hl : len ≤ 1000) (hi : i < len) (ha : a ≤ s.size) (he : (oneZ (fromZ s a) (K i)).2.2.2 = c) (hc : c ≠ 0) : CodeOk Try.prog 1 (loopOf Try.f24 0) (mkSt 42 [(0, sA s), (7, .nv (.one (.own 1))), (8, iA a), (14, .nv (.one (.own 0))), (15, iA len), (16, iA i)] [.ro 1 len (gK K), .row 47 3 i (gF L)]) .ret (mkSt 42 [(4, .nv (.one (.val (.slice none 0 0)))), (5, iA 0), (6, iA c)] [.ro 1 len (gK K)]) :=
  code_run GbF_ok (orc := ⟨[true, true], []⟩) (obl := [decide ((↑i : Int) < (↑len : Int)) = true,
      (0 : Int) ≤ (↑i : Int),
      (↑i : Int) < (↑len : Int),
      Int.toNat (↑i : Int) < len,
      (0 : Int) ≤ Option.getD (some (Prod.snd (IntKind.i64, (↑a : Int)))) (0 : Int),
      Option.getD (some (Prod.snd (IntKind.i64, (↑a : Int)))) (0 : Int) ≤ Option.getD none (↑(ByteArray.size s) : Int),
      Option.getD none (↑(ByteArray.size s) : Int) ≤ (↑(ByteArray.size s) : Int),
      ByteArray.size (Prod.fst (ByteArray.extract s (Int.toNat (Option.getD (some (Prod.snd (IntKind.i64, (↑a : Int)))) (0 : Int))) (Int.toNat (Option.getD none (↑(ByteArray.size s) : Int))), [(0 : Int) ≤ Option.getD (some (Prod.snd (IntKind.i64, (↑a : Int)))) (0 : Int), Option.getD (some (Prod.snd (IntKind.i64, (↑a : Int)))) (0 : Int) ≤ Option.getD none (↑(ByteArray.size s) : Int), Option.getD none (↑(ByteArray.size s) : Int) ≤ (↑(ByteArray.size s) : Int)])) ≤ (140737488355328 : Nat),
      (Prod.snd (Prod.snd (Prod.snd (oneZ (Prod.fst (ByteArray.extract s (Int.toNat (Option.getD (some (Prod.snd (IntKind.i64, (↑a : Int)))) (0 : Int))) (Int.toNat (Option.getD none (↑(ByteArray.size s) : Int))), [(0 : Int) ≤ Option.getD (some (Prod.snd (IntKind.i64, (↑a : Int)))) (0 : Int), Option.getD (some (Prod.snd (IntKind.i64, (↑a : Int)))) (0 : Int) ≤ Option.getD none (↑(ByteArray.size s) : Int), Option.getD none (↑(ByteArray.size s) : Int) ≤ (↑(ByteArray.size s) : Int)])) (K (Int.toNat (↑i : Int)))))) != (0 : Int)) = true,
      Value.slice none (0 : Nat) (0 : Nat) = Value.slice none (0 : Nat) (0 : Nat),
      (0 : Int) = (0 : Int),
      Prod.snd (Prod.snd (Prod.snd (oneZ (Prod.fst (ByteArray.extract s (Int.toNat (Option.getD (some (Prod.snd (IntKind.i64, (↑a : Int)))) (0 : Int))) (Int.toNat (Option.getD none (↑(ByteArray.size s) : Int))), [(0 : Int) ≤ Option.getD (some (Prod.snd (IntKind.i64, (↑a : Int)))) (0 : Int), Option.getD (some (Prod.snd (IntKind.i64, (↑a : Int)))) (0 : Int) ≤ Option.getD none (↑(ByteArray.size s) : Int), Option.getD none (↑(ByteArray.size s) : Int) ≤ (↑(ByteArray.size s) : Int)])) (K (Int.toNat (↑i : Int)))))) = c,
      len = len,
      ∀ (i : Nat), i < len → K i = K i ∧ True]) (by kernel_rfl) (.cons (by exact decide_eq_true (by omega)) (.cons (by omega) (.cons (by omega) (.cons (by assumption) (.cons (by (simp; done)) (.cons (by (simp [*]; done)) (.cons (by (simp; done)) (.cons (by exact ext_size hz) (.cons (by exact bne_iff_ne.2 (by intro e; exact hc (he.symm.trans e))) (.cons (by rfl) (.cons (by rfl) (.cons (by assumption) (.cons (by rfl) (.cons (by (intro _ _; exact ⟨rfl, trivial⟩)) .nil)))))))))))))) (Nat.le_of_ble_eq_true (by kernel_rfl))

set_option maxHeartbeats 2000000 in
theorem tk_e (s : ByteArray) (len a : Nat) (K : Nat → Int) (L : Nat → Fl) : CodeOk Try.prog 1 (loopOf Try.f24 0) (mkSt 42 [(0, sA s), (7, .nv (.one (.own 1))), (8, iA a), (14, .nv (.one (.own 0))), (15, iA len), (16, iA len)] [.ro 1 len (gK K), .row 47 3 len (gF L)]) (.exit 0) (mkSt 42 [(7, .nv (.one (.own 1))), (8, iA a)] [.ro 1 len (gK K), .row 47 3 len (gF L)]) :=
  code_run GbF_ok (orc := ⟨[false], []⟩) (obl := [decide ((↑len : Int) < (↑len : Int)) = false,
      (↑a : Int) = (↑a : Int),
      len = len,
      ∀ (i : Nat), i < len → K i = K i ∧ True,
      len = len,
      ∀ (i : Nat), i < len → Fl.k (L i) = Fl.k (L i) ∧ Fl.n (L i) = Fl.n (L i) ∧ Fl.s (L i) = Fl.s (L i) ∧ True]) (by kernel_rfl) (.cons (by exact decide_eq_false (by omega)) (.cons (by rfl) (.cons (by rfl) (.cons (by (intro _ _; exact ⟨rfl, trivial⟩)) (.cons (by rfl) (.cons (by (intro _ _; exact ⟨rfl, rfl, rfl, trivial⟩)) .nil)))))) (Nat.le_of_ble_eq_true (by kernel_rfl))

set_option maxHeartbeats 2000000 in
theorem tk_k (s : ByteArray) (len a : Nat) (K : Nat → Int) (L0 L : Nat → Fl) (l0 : CodeOk Try.prog 1 (.loop (loopOf Try.f24 0)) (mkSt 42 [(0, sA s), (7, .nv (.one (.own 1))), (8, iA 0), (14, .nv (.one (.own 0))), (15, iA len), (16, iA 0)] [.ro 1 len (gK K), .row 47 3 0 (gF L0)]) (.exit 0) (mkSt 42 [(7, .nv (.one (.own 1))), (8, iA a)] [.ro 1 len (gK K), .row 47 3 len (gF L)])) : FnOk Try.prog 24 ([sA s, .nv (.one (.own 0))]) ([.ro 1 len (gK K)]) (.tup [.one (.own 1), .one (.val (.int .i64 a)), .one (.val (.int .i64 0))]) ([.ro 1 len (gK K), .row 47 3 len (gF L)]) :=
  fn_run GbF_ok Try.func24 (orc := ⟨[], [⟨mkSt 42 [(0, sA s), (7, .nv (.one (.own 1))), (8, iA 0), (14, .nv (.one (.own 0))), (15, iA len), (16, iA 0)] [.ro 1 len (gK K), .row 47 3 0 (gF L0)], .exit 0, mkSt 42 [(7, .nv (.one (.own 1))), (8, iA a)] [.ro 1 len (gK K), .row 47 3 len (gF L)]⟩]⟩) (obl := [s = s,
      (0 : Int) = (0 : Int),
      (↑len : Int) = (↑len : Int),
      (0 : Int) = (0 : Int),
      len = len,
      ∀ (i : Nat), i < len → K i = K i ∧ True,
      (0 : Nat) = (0 : Nat),
      (1 : Nat) ≤ (2 : Nat),
      CodeOk Try.prog (1 : Nat) (Code.loop (loopOf Try.f24 (0 : Nat))) (mkSt (42 : Nat) [((0 : Nat), sA s), ((7 : Nat), SV.nv (NV.one (At.own (1 : Nat)))), ((8 : Nat), iA (0 : Int)), ((14 : Nat), SV.nv (NV.one (At.own (0 : Nat)))), ((15 : Nat), iA (↑len : Int)), ((16 : Nat), iA (0 : Int))] [Seg.ro (1 : Nat) len (gK K), Seg.row (47 : TypeId) (3 : Nat) (0 : Nat) (gF L0)]) (Ex.exit (0 : Nat)) (mkSt (42 : Nat) [((7 : Nat), SV.nv (NV.one (At.own (1 : Nat)))), ((8 : Nat), iA (↑a : Int))] [Seg.ro (1 : Nat) len (gK K), Seg.row (47 : TypeId) (3 : Nat) len (gF L)]),
      (↑a : Int) = (↑a : Int),
      (0 : Int) = (0 : Int),
      len = len,
      ∀ (i : Nat), i < len → K i = K i ∧ True,
      len = len,
      ∀ (i : Nat), i < len → Fl.k (L i) = Fl.k (L i) ∧ Fl.n (L i) = Fl.n (L i) ∧ Fl.s (L i) = Fl.s (L i) ∧ True]) (by kernel_rfl) (.cons (by rfl) (.cons (by rfl) (.cons (by rfl) (.cons (by rfl) (.cons (by rfl) (.cons (by (intro _ _; exact ⟨rfl, trivial⟩)) (.cons (by rfl) (.cons (by trivial) (.cons (by assumption) (.cons (by rfl) (.cons (by rfl) (.cons (by rfl) (.cons (by (intro _ _; exact ⟨rfl, trivial⟩)) (.cons (by rfl) (.cons (by (intro _ _; exact ⟨rfl, rfl, rfl, trivial⟩)) .nil))))))))))))))) (Nat.le_of_ble_eq_true (by kernel_rfl))

set_option maxHeartbeats 2000000 in
theorem tk_x (s : ByteArray) (len : Nat) (K : Nat → Int) (L0 L : Nat → Fl) (c : Int) (l0 : CodeOk Try.prog 1 (.loop (loopOf Try.f24 0)) (mkSt 42 [(0, sA s), (7, .nv (.one (.own 1))), (8, iA 0), (14, .nv (.one (.own 0))), (15, iA len), (16, iA 0)] [.ro 1 len (gK K), .row 47 3 0 (gF L0)]) .ret (mkSt 42 [(4, .nv (.one (.val (.slice none 0 0)))), (5, iA 0), (6, iA c)] [.ro 1 len (gK K)])) : FnOk Try.prog 24 ([sA s, .nv (.one (.own 0))]) ([.ro 1 len (gK K)]) (.tup [.one (.own 1), .one (.val (.int .i64 0)), .one (.val (.int .i64 c))]) ([.ro 1 len (gK K), .row 47 3 0 (gF L)]) :=
  fn_run GbF_ok Try.func24 (orc := ⟨[], [⟨mkSt 42 [(0, sA s), (7, .nv (.one (.own 1))), (8, iA 0), (14, .nv (.one (.own 0))), (15, iA len), (16, iA 0)] [.ro 1 len (gK K), .row 47 3 0 (gF L0)], .ret, mkSt 42 [(4, .nv (.one (.val (.slice none 0 0)))), (5, iA 0), (6, iA c)] [.ro 1 len (gK K)]⟩]⟩) (obl := [s = s,
      (0 : Int) = (0 : Int),
      (↑len : Int) = (↑len : Int),
      (0 : Int) = (0 : Int),
      len = len,
      ∀ (i : Nat), i < len → K i = K i ∧ True,
      (0 : Nat) = (0 : Nat),
      (1 : Nat) ≤ (2 : Nat),
      CodeOk Try.prog (1 : Nat) (Code.loop (loopOf Try.f24 (0 : Nat))) (mkSt (42 : Nat) [((0 : Nat), sA s), ((7 : Nat), SV.nv (NV.one (At.own (1 : Nat)))), ((8 : Nat), iA (0 : Int)), ((14 : Nat), SV.nv (NV.one (At.own (0 : Nat)))), ((15 : Nat), iA (↑len : Int)), ((16 : Nat), iA (0 : Int))] [Seg.ro (1 : Nat) len (gK K), Seg.row (47 : TypeId) (3 : Nat) (0 : Nat) (gF L0)]) Ex.ret (mkSt (42 : Nat) [((4 : Nat), SV.nv (NV.one (At.val (Value.slice none (0 : Nat) (0 : Nat))))), ((5 : Nat), iA (0 : Int)), ((6 : Nat), iA c)] [Seg.ro (1 : Nat) len (gK K)]),
      (0 : Int) = (0 : Int),
      c = c,
      len = len,
      ∀ (i : Nat), i < len → K i = K i ∧ True,
      (0 : Nat) = (0 : Nat)]) (by kernel_rfl) (.cons (by rfl) (.cons (by rfl) (.cons (by rfl) (.cons (by rfl) (.cons (by rfl) (.cons (by (intro _ _; exact ⟨rfl, trivial⟩)) (.cons (by rfl) (.cons (by trivial) (.cons (by assumption) (.cons (by rfl) (.cons (by rfl) (.cons (by rfl) (.cons (by (intro _ _; exact ⟨rfl, trivial⟩)) (.cons (by rfl) .nil)))))))))))))) (Nat.le_of_ble_eq_true (by kernel_rfl))

set_option maxHeartbeats 2000000 in
theorem rt_n (s : ByteArray) (len i a b : Nat) (K : Nat → Int) (L M : Nat → Fl) (hz : s.size ≤ 140737488355328) (hl : len ≤ 1000) (hi : i < len) (ha : a ≤ s.size) (he : (oneZ (fromZ s a) (K i)).2.2.2 = 0) (eb : IntKind.wrap IntKind.i64 ((a : Int) + (oneZ (fromZ s a) (K i)).2.2.1) = b) (eL : ∀ j, j < i → L j = M j) (eM : M i = ⟨K i, (oneZ (fromZ s a) (K i)).1, (oneZ (fromZ s a) (K i)).2.1⟩) : CodeOk Try.prog 1 (loopOf Try.f16 0) (mkSt 43 [(0, sA s), (1, .nv (.one (.own 0))), (7, .nv (.one (.own 1))), (8, iA a), (9, iA i)] [.ro 1 len (gK K), .row 47 3 i (gF L)]) .normal (mkSt 43 [(0, sA s), (1, .nv (.one (.own 0))), (7, .nv (.one (.own 1))), (8, iA b), (9, iA (i + 1))] [.ro 1 len (gK K), .row 47 3 (i + 1) (gF M)]) :=
  code_run GbF_ok (orc := ⟨[true, false], []⟩) (obl := [decide ((↑i : Int) < (↑len : Int)) = true,
      (0 : Int) ≤ Option.getD (some (Prod.snd (IntKind.i64, (↑a : Int)))) (0 : Int),
      Option.getD (some (Prod.snd (IntKind.i64, (↑a : Int)))) (0 : Int) ≤ Option.getD none (↑(ByteArray.size s) : Int),
      Option.getD none (↑(ByteArray.size s) : Int) ≤ (↑(ByteArray.size s) : Int),
      (0 : Int) ≤ (↑i : Int),
      (↑i : Int) < (↑len : Int),
      Int.toNat (↑i : Int) < len,
      ByteArray.size (Prod.fst (ByteArray.extract s (Int.toNat (Option.getD (some (Prod.snd (IntKind.i64, (↑a : Int)))) (0 : Int))) (Int.toNat (Option.getD none (↑(ByteArray.size s) : Int))), [(0 : Int) ≤ Option.getD (some (Prod.snd (IntKind.i64, (↑a : Int)))) (0 : Int), Option.getD (some (Prod.snd (IntKind.i64, (↑a : Int)))) (0 : Int) ≤ Option.getD none (↑(ByteArray.size s) : Int), Option.getD none (↑(ByteArray.size s) : Int) ≤ (↑(ByteArray.size s) : Int)])) ≤ (140737488355328 : Nat),
      (Prod.snd (Prod.snd (Prod.snd (oneZ (Prod.fst (ByteArray.extract s (Int.toNat (Option.getD (some (Prod.snd (IntKind.i64, (↑a : Int)))) (0 : Int))) (Int.toNat (Option.getD none (↑(ByteArray.size s) : Int))), [(0 : Int) ≤ Option.getD (some (Prod.snd (IntKind.i64, (↑a : Int)))) (0 : Int), Option.getD (some (Prod.snd (IntKind.i64, (↑a : Int)))) (0 : Int) ≤ Option.getD none (↑(ByteArray.size s) : Int), Option.getD none (↑(ByteArray.size s) : Int) ≤ (↑(ByteArray.size s) : Int)])) (K (Int.toNat (↑i : Int)))))) != (0 : Int)) = false,
      i + (1 : Nat) ≤ (4611686018427387904 : Nat),
      (i + (1 : Nat)) * (32 : Nat) ≤ (140737488355328 : Nat),
      s = s,
      IntKind.wrap IntKind.i64 ((↑a : Int) + Prod.fst (Prod.snd (Prod.snd (oneZ (Prod.fst (ByteArray.extract s (Int.toNat (Option.getD (some (Prod.snd (IntKind.i64, (↑a : Int)))) (0 : Int))) (Int.toNat (Option.getD none (↑(ByteArray.size s) : Int))), [(0 : Int) ≤ Option.getD (some (Prod.snd (IntKind.i64, (↑a : Int)))) (0 : Int), Option.getD (some (Prod.snd (IntKind.i64, (↑a : Int)))) (0 : Int) ≤ Option.getD none (↑(ByteArray.size s) : Int), Option.getD none (↑(ByteArray.size s) : Int) ≤ (↑(ByteArray.size s) : Int)])) (K (Int.toNat (↑i : Int))))))) = (↑b : Int),
      IntKind.wrap IntKind.i64 ((↑i : Int) + (1 : Int)) = (↑i : Int) + (1 : Int),
      len = len,
      ∀ (i : Nat), i < len → K i = K i ∧ True,
      i + (1 : Nat) = i + (1 : Nat),
      ∀ (i_1 : Nat), i_1 < i + (1 : Nat) → AllT (leAts ([(nat_lit 0, Bd.same (nat_lit 0))] ++ ([] ++ ([((0 : Nat), Bd.same (0 : Nat))] ++ ([((1 : Nat), Bd.same (4 : Nat))] ++ ([] ++ ([] ++ []))))) ++ ([] ++ ([] ++ ([] ++ [])) ++ ([] ++ []))) (2 : Nat) (if i_1 = i then [At.val (Value.int IntKind.i64 (K (Int.toNat (↑i : Int)))), At.val (Value.int IntKind.u64 (Prod.fst (oneZ (Prod.fst (ByteArray.extract s (Int.toNat (Option.getD (some (Prod.snd (IntKind.i64, (↑a : Int)))) (0 : Int))) (Int.toNat (Option.getD none (↑(ByteArray.size s) : Int))), [(0 : Int) ≤ Option.getD (some (Prod.snd (IntKind.i64, (↑a : Int)))) (0 : Int), Option.getD (some (Prod.snd (IntKind.i64, (↑a : Int)))) (0 : Int) ≤ Option.getD none (↑(ByteArray.size s) : Int), Option.getD none (↑(ByteArray.size s) : Int) ≤ (↑(ByteArray.size s) : Int)])) (K (Int.toNat (↑i : Int)))))), At.val (Value.string (Prod.fst (Prod.snd (oneZ (Prod.fst (ByteArray.extract s (Int.toNat (Option.getD (some (Prod.snd (IntKind.i64, (↑a : Int)))) (0 : Int))) (Int.toNat (Option.getD none (↑(ByteArray.size s) : Int))), [(0 : Int) ≤ Option.getD (some (Prod.snd (IntKind.i64, (↑a : Int)))) (0 : Int), Option.getD (some (Prod.snd (IntKind.i64, (↑a : Int)))) (0 : Int) ≤ Option.getD none (↑(ByteArray.size s) : Int), Option.getD none (↑(ByteArray.size s) : Int) ≤ (↑(ByteArray.size s) : Int)])) (K (Int.toNat (↑i : Int)))))))] else gF L i_1) (gF M i_1))]) (by kernel_rfl) (.cons (by exact decide_eq_true (by omega)) (.cons (by (simp; done)) (.cons (by (simp [*]; done)) (.cons (by (simp; done)) (.cons (by omega) (.cons (by omega) (.cons (by assumption) (.cons (by exact ext_size hz) (.cons (by exact bne_eq_false_iff_eq.2 he) (.cons (by omega) (.cons (by omega) (.cons (by rfl) (.cons (by assumption) (.cons (by exact w64 (by omega) (by omega)) (.cons (by rfl) (.cons (by (intro _ _; exact ⟨rfl, trivial⟩)) (.cons (by rfl) (.cons (by (intro j hj; by_cases e : j = i; (rw [if_pos e]; subst e; exact ⟨(congrArg Fl.k eM).symm, (congrArg Fl.n eM).symm, (congrArg Fl.s eM).symm, trivial⟩); (rw [if_neg e]; have h9 := eL j (by omega); exact ⟨congrArg Fl.k h9, congrArg Fl.n h9, congrArg Fl.s h9, trivial⟩))) .nil)))))))))))))))))) (Nat.le_of_ble_eq_true (by kernel_rfl))

set_option maxHeartbeats 2000000 in
theorem rt_r (s : ByteArray) (len i a : Nat) (K : Nat → Int) (L : Nat → Fl) (c : Int) (hz : s.size ≤ 140737488355328) (hl : len ≤ 1000) (hi : i < len) (ha : a ≤ s.size) (he : (oneZ (fromZ s a) (K i)).2.2.2 = c) (hc : c ≠ 0) : CodeOk Try.prog 1 (loopOf Try.f16 0) (mkSt 43 [(0, sA s), (1, .nv (.one (.own 0))), (7, .nv (.one (.own 1))), (8, iA a), (9, iA i)] [.ro 1 len (gK K), .row 47 3 i (gF L)]) .ret (mkSt 43 [(4, .nv (.one (.val (.slice none 0 0)))), (5, iA 0), (6, iA c)] [.ro 1 len (gK K)]) :=
  code_run GbF_ok (orc := ⟨[true, true], []⟩) (obl := [decide ((↑i : Int) < (↑len : Int)) = true,
      (0 : Int) ≤ Option.getD (some (Prod.snd (IntKind.i64, (↑a : Int)))) (0 : Int),
      Option.getD (some (Prod.snd (IntKind.i64, (↑a : Int)))) (0 : Int) ≤ Option.getD none (↑(ByteArray.size s) : Int),
      Option.getD none (↑(ByteArray.size s) : Int) ≤ (↑(ByteArray.size s) : Int),
      (0 : Int) ≤ (↑i : Int),
      (↑i : Int) < (↑len : Int),
      Int.toNat (↑i : Int) < len,
      ByteArray.size (Prod.fst (ByteArray.extract s (Int.toNat (Option.getD (some (Prod.snd (IntKind.i64, (↑a : Int)))) (0 : Int))) (Int.toNat (Option.getD none (↑(ByteArray.size s) : Int))), [(0 : Int) ≤ Option.getD (some (Prod.snd (IntKind.i64, (↑a : Int)))) (0 : Int), Option.getD (some (Prod.snd (IntKind.i64, (↑a : Int)))) (0 : Int) ≤ Option.getD none (↑(ByteArray.size s) : Int), Option.getD none (↑(ByteArray.size s) : Int) ≤ (↑(ByteArray.size s) : Int)])) ≤ (140737488355328 : Nat),
      (Prod.snd (Prod.snd (Prod.snd (oneZ (Prod.fst (ByteArray.extract s (Int.toNat (Option.getD (some (Prod.snd (IntKind.i64, (↑a : Int)))) (0 : Int))) (Int.toNat (Option.getD none (↑(ByteArray.size s) : Int))), [(0 : Int) ≤ Option.getD (some (Prod.snd (IntKind.i64, (↑a : Int)))) (0 : Int), Option.getD (some (Prod.snd (IntKind.i64, (↑a : Int)))) (0 : Int) ≤ Option.getD none (↑(ByteArray.size s) : Int), Option.getD none (↑(ByteArray.size s) : Int) ≤ (↑(ByteArray.size s) : Int)])) (K (Int.toNat (↑i : Int)))))) != (0 : Int)) = true,
      Value.slice none (0 : Nat) (0 : Nat) = Value.slice none (0 : Nat) (0 : Nat),
      (0 : Int) = (0 : Int),
      Prod.snd (Prod.snd (Prod.snd (oneZ (Prod.fst (ByteArray.extract s (Int.toNat (Option.getD (some (Prod.snd (IntKind.i64, (↑a : Int)))) (0 : Int))) (Int.toNat (Option.getD none (↑(ByteArray.size s) : Int))), [(0 : Int) ≤ Option.getD (some (Prod.snd (IntKind.i64, (↑a : Int)))) (0 : Int), Option.getD (some (Prod.snd (IntKind.i64, (↑a : Int)))) (0 : Int) ≤ Option.getD none (↑(ByteArray.size s) : Int), Option.getD none (↑(ByteArray.size s) : Int) ≤ (↑(ByteArray.size s) : Int)])) (K (Int.toNat (↑i : Int)))))) = c,
      len = len,
      ∀ (i : Nat), i < len → K i = K i ∧ True]) (by kernel_rfl) (.cons (by exact decide_eq_true (by omega)) (.cons (by (simp; done)) (.cons (by (simp [*]; done)) (.cons (by (simp; done)) (.cons (by omega) (.cons (by omega) (.cons (by assumption) (.cons (by exact ext_size hz) (.cons (by exact bne_iff_ne.2 (by intro e; exact hc (he.symm.trans e))) (.cons (by rfl) (.cons (by rfl) (.cons (by assumption) (.cons (by rfl) (.cons (by (intro _ _; exact ⟨rfl, trivial⟩)) .nil)))))))))))))) (Nat.le_of_ble_eq_true (by kernel_rfl))

set_option maxHeartbeats 2000000 in
theorem rt_e (s : ByteArray) (len a : Nat) (K : Nat → Int) (L : Nat → Fl) : CodeOk Try.prog 1 (loopOf Try.f16 0) (mkSt 43 [(0, sA s), (1, .nv (.one (.own 0))), (7, .nv (.one (.own 1))), (8, iA a), (9, iA len)] [.ro 1 len (gK K), .row 47 3 len (gF L)]) (.exit 0) (mkSt 43 [(7, .nv (.one (.own 1))), (8, iA a)] [.ro 1 len (gK K), .row 47 3 len (gF L)]) :=
  code_run GbF_ok (orc := ⟨[false], []⟩) (obl := [decide ((↑len : Int) < (↑len : Int)) = false,
      (↑a : Int) = (↑a : Int),
      len = len,
      ∀ (i : Nat), i < len → K i = K i ∧ True,
      len = len,
      ∀ (i : Nat), i < len → Fl.k (L i) = Fl.k (L i) ∧ Fl.n (L i) = Fl.n (L i) ∧ Fl.s (L i) = Fl.s (L i) ∧ True]) (by kernel_rfl) (.cons (by exact decide_eq_false (by omega)) (.cons (by rfl) (.cons (by rfl) (.cons (by (intro _ _; exact ⟨rfl, trivial⟩)) (.cons (by rfl) (.cons (by (intro _ _; exact ⟨rfl, rfl, rfl, trivial⟩)) .nil)))))) (Nat.le_of_ble_eq_true (by kernel_rfl))

set_option maxHeartbeats 2000000 in
theorem rt_k (s : ByteArray) (len a : Nat) (K : Nat → Int) (L0 L : Nat → Fl) (l0 : CodeOk Try.prog 1 (.loop (loopOf Try.f16 0)) (mkSt 43 [(0, sA s), (1, .nv (.one (.own 0))), (7, .nv (.one (.own 1))), (8, iA 0), (9, iA 0)] [.ro 1 len (gK K), .row 47 3 0 (gF L0)]) (.exit 0) (mkSt 43 [(7, .nv (.one (.own 1))), (8, iA a)] [.ro 1 len (gK K), .row 47 3 len (gF L)])) : FnOk Try.prog 16 ([sA s, .nv (.one (.own 0))]) ([.ro 1 len (gK K)]) (.tup [.one (.own 1), .one (.val (.int .i64 a)), .one (.val (.int .i64 0))]) ([.ro 1 len (gK K), .row 47 3 len (gF L)]) :=
  fn_run GbF_ok Try.func16 (orc := ⟨[], [⟨mkSt 43 [(0, sA s), (1, .nv (.one (.own 0))), (7, .nv (.one (.own 1))), (8, iA 0), (9, iA 0)] [.ro 1 len (gK K), .row 47 3 0 (gF L0)], .exit 0, mkSt 43 [(7, .nv (.one (.own 1))), (8, iA a)] [.ro 1 len (gK K), .row 47 3 len (gF L)]⟩]⟩) (obl := [s = s,
      (0 : Int) = (0 : Int),
      (0 : Int) = (0 : Int),
      len = len,
      ∀ (i : Nat), i < len → K i = K i ∧ True,
      (0 : Nat) = (0 : Nat),
      (1 : Nat) ≤ (2 : Nat),
      CodeOk Try.prog (1 : Nat) (Code.loop (loopOf Try.f16 (0 : Nat))) (mkSt (43 : Nat) [((0 : Nat), sA s), ((1 : Nat), SV.nv (NV.one (At.own (0 : Nat)))), ((7 : Nat), SV.nv (NV.one (At.own (1 : Nat)))), ((8 : Nat), iA (0 : Int)), ((9 : Nat), iA (0 : Int))] [Seg.ro (1 : Nat) len (gK K), Seg.row (47 : TypeId) (3 : Nat) (0 : Nat) (gF L0)]) (Ex.exit (0 : Nat)) (mkSt (43 : Nat) [((7 : Nat), SV.nv (NV.one (At.own (1 : Nat)))), ((8 : Nat), iA (↑a : Int))] [Seg.ro (1 : Nat) len (gK K), Seg.row (47 : TypeId) (3 : Nat) len (gF L)]),
      (↑a : Int) = (↑a : Int),
      (0 : Int) = (0 : Int),
      len = len,
      ∀ (i : Nat), i < len → K i = K i ∧ True,
      len = len,
      ∀ (i : Nat), i < len → Fl.k (L i) = Fl.k (L i) ∧ Fl.n (L i) = Fl.n (L i) ∧ Fl.s (L i) = Fl.s (L i) ∧ True]) (by kernel_rfl) (.cons (by rfl) (.cons (by rfl) (.cons (by rfl) (.cons (by rfl) (.cons (by (intro _ _; exact ⟨rfl, trivial⟩)) (.cons (by rfl) (.cons (by trivial) (.cons (by assumption) (.cons (by rfl) (.cons (by rfl) (.cons (by rfl) (.cons (by (intro _ _; exact ⟨rfl, trivial⟩)) (.cons (by rfl) (.cons (by (intro _ _; exact ⟨rfl, rfl, rfl, trivial⟩)) .nil)))))))))))))) (Nat.le_of_ble_eq_true (by kernel_rfl))

set_option maxHeartbeats 2000000 in
theorem rt_x (s : ByteArray) (len : Nat) (K : Nat → Int) (L0 L : Nat → Fl) (c : Int) (l0 : CodeOk Try.prog 1 (.loop (loopOf Try.f16 0)) (mkSt 43 [(0, sA s), (1, .nv (.one (.own 0))), (7, .nv (.one (.own 1))), (8, iA 0), (9, iA 0)] [.ro 1 len (gK K), .row 47 3 0 (gF L0)]) .ret (mkSt 43 [(4, .nv (.one (.val (.slice none 0 0)))), (5, iA 0), (6, iA c)] [.ro 1 len (gK K)])) : FnOk Try.prog 16 ([sA s, .nv (.one (.own 0))]) ([.ro 1 len (gK K)]) (.tup [.one (.own 1), .one (.val (.int .i64 0)), .one (.val (.int .i64 c))]) ([.ro 1 len (gK K), .row 47 3 0 (gF L)]) :=
  fn_run GbF_ok Try.func16 (orc := ⟨[], [⟨mkSt 43 [(0, sA s), (1, .nv (.one (.own 0))), (7, .nv (.one (.own 1))), (8, iA 0), (9, iA 0)] [.ro 1 len (gK K), .row 47 3 0 (gF L0)], .ret, mkSt 43 [(4, .nv (.one (.val (.slice none 0 0)))), (5, iA 0), (6, iA c)] [.ro 1 len (gK K)]⟩]⟩) (obl := [s = s,
      (0 : Int) = (0 : Int),
      (0 : Int) = (0 : Int),
      len = len,
      ∀ (i : Nat), i < len → K i = K i ∧ True,
      (0 : Nat) = (0 : Nat),
      (1 : Nat) ≤ (2 : Nat),
      CodeOk Try.prog (1 : Nat) (Code.loop (loopOf Try.f16 (0 : Nat))) (mkSt (43 : Nat) [((0 : Nat), sA s), ((1 : Nat), SV.nv (NV.one (At.own (0 : Nat)))), ((7 : Nat), SV.nv (NV.one (At.own (1 : Nat)))), ((8 : Nat), iA (0 : Int)), ((9 : Nat), iA (0 : Int))] [Seg.ro (1 : Nat) len (gK K), Seg.row (47 : TypeId) (3 : Nat) (0 : Nat) (gF L0)]) Ex.ret (mkSt (43 : Nat) [((4 : Nat), SV.nv (NV.one (At.val (Value.slice none (0 : Nat) (0 : Nat))))), ((5 : Nat), iA (0 : Int)), ((6 : Nat), iA c)] [Seg.ro (1 : Nat) len (gK K)]),
      (0 : Int) = (0 : Int),
      c = c,
      len = len,
      ∀ (i : Nat), i < len → K i = K i ∧ True,
      (0 : Nat) = (0 : Nat)]) (by kernel_rfl) (.cons (by rfl) (.cons (by rfl) (.cons (by rfl) (.cons (by rfl) (.cons (by (intro _ _; exact ⟨rfl, trivial⟩)) (.cons (by rfl) (.cons (by trivial) (.cons (by assumption) (.cons (by rfl) (.cons (by rfl) (.cons (by rfl) (.cons (by (intro _ _; exact ⟨rfl, trivial⟩)) (.cons (by rfl) .nil))))))))))))) (Nat.le_of_ble_eq_true (by kernel_rfl))
end Go.Proofs.Ytecgigeahkijaaa

/- wire: Take, and the document's, as specifications. No condition. -/
namespace Go.Proofs.Ytecgigeahkijaaa
set_option linter.unusedVariables false
set_option linter.unusedSimpArgs false
open Go.RowKit E
theorem fnTake (s : ByteArray) (len : Nat) (K : Nat → Int) (hz : s.size ≤ 140737488355328) (hl : len ≤ 1000) :
    FnOk Try.prog 24 [sA s, .nv (.one (.own 0))] [.ro 1 len (gK K)] (.tup [.one (.own 1), .one (.val (.int .i64 (if errT s K len = 0 then (atN s K len : Int) else 0))), .one (.val (.int .i64 (errT s K len)))]) [.ro 1 len (gK K), .row 47 3 (if errT s K len = 0 then len else 0) (gF (fldT s K))] := by
  have step : ∀ p i, errT s K p = 0 → i < p → p ≤ len → CodeOk Try.prog 1 (loopOf Try.f24 0) (mkSt 42 [(0, sA s), (7, .nv (.one (.own 1))), (8, iA (atN s K i)), (14, .nv (.one (.own 0))), (15, iA len), (16, iA i)] [.ro 1 len (gK K), .row 47 3 i (gF (fldT s K))]) .normal (mkSt 42 [(0, sA s), (7, .nv (.one (.own 1))), (8, iA (atN s K (i + 1))), (14, .nv (.one (.own 0))), (15, iA len), (16, iA (i + 1))] [.ro 1 len (gK K), .row 47 3 (i + 1) (gF (fldT s K))]) := by
    intro p i hp hi hpl
    obtain ⟨h1, h2⟩ := errT_low hp i hi
    have ha := atN_le h1
    have hb := oneZ_bd _ _ h2
    rw [fromZ_size ha] at hb
    exact tk_n s len i _ _ K _ _ hz hl (by omega) ha h2 (w64 (by rw [atN]; omega) (by rw [atN]; omega)) (fun _ _ => rfl) rfl
  by_cases hb : errT s K len = 0
  · rw [if_pos hb, if_pos hb, hb]
    refine tk_k s len _ K (fldT s K) _ ?_
    refine loop_ok (α := Nat) (fun i => mkSt 42 [(0, sA s), (7, .nv (.one (.own 1))), (8, iA (atN s K i)), (14, .nv (.one (.own 0))), (15, iA len), (16, iA i)] [.ro 1 len (gK K), .row 47 3 i (gF (fldT s K))]) (fun i => i ≤ len) (fun i => len - i) (by simp) ?_ (x := 0) (Nat.zero_le _)
    intro i hi
    by_cases e : i = len
    · subst e; exact .inr (tk_e s i _ K _)
    · exact .inl ⟨i + 1, (show i + 1 ≤ len by omega), (show len - (i + 1) < len - i by omega), step len i hb (by omega) (Nat.le_refl _)⟩
  · rw [if_neg hb, if_neg hb]
    obtain ⟨p, hp, hp0, hpc⟩ := errT_at hb
    refine tk_x s len K (fldT s K) _ _ ?_
    refine loop_ok (α := Nat) (fun i => mkSt 42 [(0, sA s), (7, .nv (.one (.own 1))), (8, iA (atN s K i)), (14, .nv (.one (.own 0))), (15, iA len), (16, iA i)] [.ro 1 len (gK K), .row 47 3 i (gF (fldT s K))]) (fun i => i ≤ p) (fun i => p - i) (by simp) ?_ (x := 0) (Nat.zero_le _)
    intro i hi
    by_cases e : i = p
    · subst e
      exact .inr (tk_r s len i _ K _ _ hz hl hp (atN_le hp0) hpc hb)
    · exact .inl ⟨i + 1, (show i + 1 ≤ p by omega), (show p - (i + 1) < p - i by omega), step p i hp0 (by omega) (by omega)⟩
theorem fnRTake (s : ByteArray) (len : Nat) (K : Nat → Int) (hz : s.size ≤ 140737488355328) (hl : len ≤ 1000) :
    FnOk Try.prog 16 [sA s, .nv (.one (.own 0))] [.ro 1 len (gK K)] (.tup [.one (.own 1), .one (.val (.int .i64 (if errT s K len = 0 then (atN s K len : Int) else 0))), .one (.val (.int .i64 (errT s K len)))]) [.ro 1 len (gK K), .row 47 3 (if errT s K len = 0 then len else 0) (gF (fldT s K))] := by
  have step : ∀ p i, errT s K p = 0 → i < p → p ≤ len → CodeOk Try.prog 1 (loopOf Try.f16 0) (mkSt 43 [(0, sA s), (1, .nv (.one (.own 0))), (7, .nv (.one (.own 1))), (8, iA (atN s K i)), (9, iA i)] [.ro 1 len (gK K), .row 47 3 i (gF (fldT s K))]) .normal (mkSt 43 [(0, sA s), (1, .nv (.one (.own 0))), (7, .nv (.one (.own 1))), (8, iA (atN s K (i + 1))), (9, iA (i + 1))] [.ro 1 len (gK K), .row 47 3 (i + 1) (gF (fldT s K))]) := by
    intro p i hp hi hpl
    obtain ⟨h1, h2⟩ := errT_low hp i hi
    have ha := atN_le h1
    have hb := oneZ_bd _ _ h2
    rw [fromZ_size ha] at hb
    exact rt_n s len i _ _ K _ _ hz hl (by omega) ha h2 (w64 (by rw [atN]; omega) (by rw [atN]; omega)) (fun _ _ => rfl) rfl
  by_cases hb : errT s K len = 0
  · rw [if_pos hb, if_pos hb, hb]
    refine rt_k s len _ K (fldT s K) _ ?_
    refine loop_ok (α := Nat) (fun i => mkSt 43 [(0, sA s), (1, .nv (.one (.own 0))), (7, .nv (.one (.own 1))), (8, iA (atN s K i)), (9, iA i)] [.ro 1 len (gK K), .row 47 3 i (gF (fldT s K))]) (fun i => i ≤ len) (fun i => len - i) (by simp) ?_ (x := 0) (Nat.zero_le _)
    intro i hi
    by_cases e : i = len
    · subst e; exact .inr (rt_e s i _ K _)
    · exact .inl ⟨i + 1, (show i + 1 ≤ len by omega), (show len - (i + 1) < len - i by omega), step len i hb (by omega) (Nat.le_refl _)⟩
  · rw [if_neg hb, if_neg hb]
    obtain ⟨p, hp, hp0, hpc⟩ := errT_at hb
    refine rt_x s len K (fldT s K) _ _ ?_
    refine loop_ok (α := Nat) (fun i => mkSt 43 [(0, sA s), (1, .nv (.one (.own 0))), (7, .nv (.one (.own 1))), (8, iA (atN s K i)), (9, iA i)] [.ro 1 len (gK K), .row 47 3 i (gF (fldT s K))]) (fun i => i ≤ p) (fun i => p - i) (by simp) ?_ (x := 0) (Nat.zero_le _)
    intro i hi
    by_cases e : i = p
    · subst e
      exact .inr (rt_r s len i _ K _ _ hz hl hp (atN_le hp0) hpc hb)
    · exact .inl ⟨i + 1, (show i + 1 ≤ p by omega), (show p - (i + 1) < p - i by omega), step p i hp0 (by omega) (by omega)⟩
def kOf (g : Nat → List At) : Nat → Int := fun j => cellN (g j)
def gTake : List SV → List Seg → Option (CS × List Prop)
  | [.nv (.one (.val (.string s))), .nv (.one a)], mem => match srcOf mem 1 a with
    | some (n, g, _) => some (⟨[sA s, .nv (.one (.own 0))], [.ro 1 n (gK (kOf g))], .tup [.one (.own 1), .one (.val (.int .i64 (if errT s (kOf g) n = 0 then (atN s (kOf g) n : Int) else 0))), .one (.val (.int .i64 (errT s (kOf g) n)))], [.ro 1 n (gK (kOf g)), .row 47 3 (if errT s (kOf g) n = 0 then n else 0) (gF (fldT s (kOf g)))]⟩, [s.size ≤ 140737488355328, n ≤ 1000])
    | none => none
  | _, _ => none
theorem spTake : SpOk Try.prog 24 (.lift gTake) := by
  intro args mem cs obl h ho
  unfold gTake at h
  split at h
  · split at h
    · simp only [Option.some.injEq, Prod.mk.injEq] at h
      obtain ⟨rfl, rfl⟩ := h
      exact fnTake _ _ _ ho.1 ho.2.1
    · cases h
  · cases h
theorem spRTake : SpOk Try.prog 16 (.lift gTake) := by
  intro args mem cs obl h ho
  unfold gTake at h
  split at h
  · split at h
    · simp only [Option.some.injEq, Prod.mk.injEq] at h
      obtain ⟨rfl, rfl⟩ := h
      exact fnRTake _ _ _ ho.1 ho.2.1
    · cases h
  · cases h
def GbG : List (FuncId × Sp) := (24, .lift gTake) :: (16, .lift gTake) :: GbF
theorem GbG_ok : CtxOk Try.prog GbG := ctx_cons (enter_of Try.func24 (by kernel_rfl) (by kernel_rfl)) spTake <|
  ctx_cons (enter_of Try.func16 (by kernel_rfl) (by kernel_rfl)) spRTake GbF_ok
end Go.Proofs.Ytecgigeahkijaaa

/- Runs of Go code, as printed by a program: no condition beyond those that each states. -/
import Derived.Test.YtajdkbgbekdbmaaMlR
import Derived.Test.YtajdkbgbekdbmaaChecked
import Derived.KernelRfl
namespace Go.Proofs.Ytajdkbgbekdbmaa
set_option linter.unusedVariables false
set_option linter.unusedSimpArgs false
set_option maxRecDepth 100000
open Go.RowKit E
attribute [local irreducible] rtX rtI rtT rsB rsN rsT sndR snocV unL lT smK smN shT
set_option maxHeartbeats 2000000 in
theorem mp_x (m : Int) (len : Nat) (A : Ac35) (h1 : m < 1 ∨ 4096 < m) (h : ¬ (1 ≤ m ∧ m ≤ 4096)) : LawOk Try.prog 4 ([iA m, .nv (.one (.own 0))]) ([.ro 2 len (gA35 A)]) (bA true) :=
  law_run Gme_ok Try.func4 (orc := ⟨[false, false, true, false, true, true], []⟩) (obl := [m < (1 : Int) ∨ (4096 : Int) < m,
      m = m,
      (!decide ((1 : Int) ≤ m ∧ m ≤ (4096 : Int)) == ((25 : Int) == (0 : Int))) = false,
      (!decide ((1 : Int) ≤ m ∧ m ≤ (4096 : Int)) == false) = false,
      (!decide ((1 : Int) ≤ m ∧ m ≤ (4096 : Int))) = true,
      ((25 : Int) != (25 : Int)) = false,
      (!decide ((1 : Int) ≤ m ∧ m ≤ (4096 : Int))) = true,
      true = true,
      true = true]) (by kernel_rfl) (.cons (by assumption) (.cons (by rfl) (.cons (by (rw [decide_eq_false h]; rfl)) (.cons (by (rw [decide_eq_false h]; rfl)) (.cons (by (rw [decide_eq_false h]; rfl)) (.cons (by rfl) (.cons (by (rw [decide_eq_false h]; rfl)) (.cons (by rfl) (.cons (by rfl) .nil)))))))))

set_option maxHeartbeats 2000000 in
theorem mp_l (m : Int) (len : Nat) (A : Ac35) (h1 : 1 ≤ m) (h2 : m ≤ 4096) (hl : 200 < len) : LawOk Try.prog 4 ([iA m, .nv (.one (.own 0))]) ([.ro 2 len (gA35 A)]) (bA true) :=
  law_run Gmk_ok Try.func4 (orc := ⟨[false, false, false, false, false, true], []⟩) (obl := [(0 : Int) ≤ m,
      (1 : Nat) ≤ Int.toNat m,
      Int.toNat m ≤ (4096 : Nat),
      m = (↑(Int.toNat m) : Int),
      (!decide ((1 : Int) ≤ m ∧ m ≤ (4096 : Int)) == ((0 : Int) == (0 : Int))) = false,
      (!decide ((1 : Int) ≤ m ∧ m ≤ (4096 : Int)) == true) = false,
      (!decide ((1 : Int) ≤ m ∧ m ≤ (4096 : Int))) = false,
      false = false,
      (!decide ((1 : Int) ≤ m ∧ m ≤ (4096 : Int))) = false,
      decide ((↑len : Int) > (200 : Int)) = true,
      true = true]) (by kernel_rfl) (.cons (by omega) (.cons (by omega) (.cons (by omega) (.cons (by omega) (.cons (by (rw [decide_eq_true (show 1 ≤ m ∧ m ≤ 4096 from ⟨h1, h2⟩)]; rfl)) (.cons (by (rw [decide_eq_true (show 1 ≤ m ∧ m ≤ 4096 from ⟨h1, h2⟩)]; rfl)) (.cons (by (rw [decide_eq_true (show 1 ≤ m ∧ m ≤ 4096 from ⟨h1, h2⟩)]; rfl)) (.cons (by rfl) (.cons (by (rw [decide_eq_true (show 1 ≤ m ∧ m ≤ 4096 from ⟨h1, h2⟩)]; rfl)) (.cons (by exact decide_eq_true (by omega)) (.cons (by rfl) .nil)))))))))))

set_option maxHeartbeats 2000000 in
theorem mp_f (m : Int) (len : Nat) (A : Ac35) (h1 : 1 ≤ m) (h2 : m ≤ 4096) (hl : len ≤ 200) (l : CodeOk Try.prog 1 (.loop (loopOf Try.f4 0)) (mkSt 136 [(5, .nv (.one (.ptr 1 0))), (8, .nv (.one (.ptr 3 0))), (51, .nv (.one (.own 0))), (52, iA len), (53, iA 0)] [.ro 2 len (gA35 A), .box 56 [.chn 2, .val (.bool false)], .chan m.toNat [] false, .box 38 [.val (.int .i64 m), .val (.bool false), .own 4], .row 3 1 0 (gN (fun _ => 0))]) (.exit 0) (mkSt 136 [] [.ro 2 len (gA35 A)])) : LawOk Try.prog 4 ([iA m, .nv (.one (.own 0))]) ([.ro 2 len (gA35 A)]) (bA true) :=
  law_run Gmk_ok Try.func4 (orc := ⟨[false, false, false, false, false, false], [⟨mkSt 136 [(5, .nv (.one (.ptr 1 0))), (8, .nv (.one (.ptr 3 0))), (51, .nv (.one (.own 0))), (52, iA len), (53, iA 0)] [.ro 2 len (gA35 A), .box 56 [.chn 2, .val (.bool false)], .chan m.toNat [] false, .box 38 [.val (.int .i64 m), .val (.bool false), .own 4], .row 3 1 0 (gN (fun _ => 0))], .exit 0, mkSt 136 [] [.ro 2 len (gA35 A)]⟩]⟩) (obl := [(0 : Int) ≤ m,
      (1 : Nat) ≤ Int.toNat m,
      Int.toNat m ≤ (4096 : Nat),
      m = (↑(Int.toNat m) : Int),
      (!decide ((1 : Int) ≤ m ∧ m ≤ (4096 : Int)) == ((0 : Int) == (0 : Int))) = false,
      (!decide ((1 : Int) ≤ m ∧ m ≤ (4096 : Int)) == true) = false,
      (!decide ((1 : Int) ≤ m ∧ m ≤ (4096 : Int))) = false,
      false = false,
      (!decide ((1 : Int) ≤ m ∧ m ≤ (4096 : Int))) = false,
      decide ((↑len : Int) > (200 : Int)) = false,
      (0 : Nat) = (0 : Nat),
      (0 : Nat) = (0 : Nat),
      (↑len : Int) = (↑len : Int),
      (0 : Int) = (0 : Int),
      len = len,
      ∀ (i : Nat), i < len → Ac35.ki A i = Ac35.ki A i ∧ Ac35.n A i = Ac35.n A i ∧ True,
      false = false,
      Int.toNat m = Int.toNat m,
      ([] : List Value) = ([] : List Value),
      false = false,
      m = m,
      false = false,
      (0 : Nat) = (0 : Nat),
      (1 : Nat) ≤ (5 : Nat),
      CodeOk Try.prog (1 : Nat) (Code.loop (loopOf Try.f4 (0 : Nat))) (mkSt (136 : Nat) [((5 : Nat), SV.nv (NV.one (At.ptr (1 : Nat) (0 : Nat)))), ((8 : Nat), SV.nv (NV.one (At.ptr (3 : Nat) (0 : Nat)))), ((51 : Nat), SV.nv (NV.one (At.own (0 : Nat)))), ((52 : Nat), iA (↑len : Int)), ((53 : Nat), iA (0 : Int))] [Seg.ro (2 : Nat) len (gA35 A), Seg.box (56 : TypeId) [At.chn (2 : Nat), At.val (Value.bool false)], Seg.chan (Int.toNat m) [] false, Seg.box (38 : TypeId) [At.val (Value.int IntKind.i64 m), At.val (Value.bool false), At.own (4 : Nat)], Seg.row (3 : TypeId) (1 : Nat) (0 : Nat) (gN fun (x : Nat) => (0 : Int))]) (Ex.exit (0 : Nat)) (mkSt (136 : Nat) [] [Seg.ro (2 : Nat) len (gA35 A)]),
      true = true]) (by kernel_rfl) (.cons (by omega) (.cons (by omega) (.cons (by omega) (.cons (by omega) (.cons (by (rw [decide_eq_true (show 1 ≤ m ∧ m ≤ 4096 from ⟨h1, h2⟩)]; rfl)) (.cons (by (rw [decide_eq_true (show 1 ≤ m ∧ m ≤ 4096 from ⟨h1, h2⟩)]; rfl)) (.cons (by (rw [decide_eq_true (show 1 ≤ m ∧ m ≤ 4096 from ⟨h1, h2⟩)]; rfl)) (.cons (by rfl) (.cons (by (rw [decide_eq_true (show 1 ≤ m ∧ m ≤ 4096 from ⟨h1, h2⟩)]; rfl)) (.cons (by exact decide_eq_false (by omega)) (.cons (by rfl) (.cons (by rfl) (.cons (by rfl) (.cons (by rfl) (.cons (by rfl) (.cons (by (simp; done)) (.cons (by rfl) (.cons (by rfl) (.cons (by rfl) (.cons (by rfl) (.cons (by rfl) (.cons (by rfl) (.cons (by rfl) (.cons (by trivial) (.cons (by assumption) (.cons (by rfl) .nil))))))))))))))))))))))))))
end Go.Proofs.Ytajdkbgbekdbmaa

/- Runs of Go code, as printed by a program: no condition beyond those that each states. -/
import Derived.Test.YtffkakkijifoaaaIvL
import Derived.Test.YtffkakkijifoaaaChecked
import Derived.KernelRfl
namespace Go.Proofs.Ytffkakkijifoaaa
set_option linter.unusedVariables false
set_option linter.unusedSimpArgs false
set_option maxRecDepth 100000
open Go.RowKit E
attribute [local irreducible] srt IntKind.wrap sea
set_option maxHeartbeats 2000000 in
theorem lp_a (N : Nat) (L : Nat → Int) (hN : N ≤ 1000) (i m : Nat) (E : Nat → Int) (hi : i < N) (hm : m ≤ i) (hs : sea E (L i) m = m) : CodeOk Try.prog 1 (loopOf Try.f14 0) (mkSt 32 [(3, .nv (.one (.ptr 1 0))), (7, .nv (.one (.own 0))), (8, iA N), (9, iA i)] [.ro 1 N (gU L), .box 22 [.own 2], .row 24 1 m (gU E)]) .normal (mkSt 32 [(3, .nv (.one (.ptr 1 0))), (7, .nv (.one (.own 0))), (8, iA N), (9, iA (i + 1 : Nat))] [.ro 1 N (gU L), .box 22 [.own 2], .row 24 1 (m + 1) (gU (putF E m (L i)))]) :=
  code_run Giv2_ok (orc := ⟨[true, true], []⟩) (obl := [decide ((↑i : Int) < (↑N : Int)) = true,
      (0 : Int) ≤ (↑i : Int),
      (↑i : Int) < (↑N : Int),
      Int.toNat (↑i : Int) < N,
      m ≤ (1000 : Nat),
      (↑m : Int) = (↑m : Int),
      (0 : Nat) = (0 : Nat),
      (0 : Nat) = (0 : Nat),
      L (Int.toNat (↑i : Int)) = L (Int.toNat (↑i : Int)),
      m = m,
      ∀ (i : Nat), i < m → E i = cF (gU E) i ∧ True,
      ((↑(sea (cF (gU E)) (L (Int.toNat (↑i : Int))) m) : Int) == (↑m : Int)) = true,
      m + (1 : Nat) ≤ (4611686018427387904 : Nat),
      (m + (1 : Nat)) * (8 : Nat) ≤ (140737488355328 : Nat),
      (0 : Nat) = (0 : Nat),
      (↑N : Int) = (↑N : Int),
      IntKind.wrap IntKind.i64 ((↑i : Int) + (1 : Int)) = (↑(i + (1 : Nat)) : Int),
      N = N,
      ∀ (i : Nat), i < N → L i = L i ∧ True,
      m + (1 : Nat) = m + (1 : Nat),
      ∀ (i_1 : Nat), i_1 < m + (1 : Nat) → AllT (leAts ([(nat_lit 0, Bd.same (nat_lit 0))] ++ ([((1 : Nat), Bd.same (1 : Nat))] ++ ([((0 : Nat), Bd.same (0 : Nat))] ++ ([] ++ ([] ++ [])))) ++ ([] ++ ([((2 : Nat), Bd.same (5 : Nat))] ++ [] ++ ([] ++ [])) ++ ([] ++ [] ++ []))) (3 : Nat) (if i_1 = m then [At.val (Value.int IntKind.u64 (L (Int.toNat (↑i : Int))))] else gU E i_1) (gU (putF E m (L i)) i_1))]) (by kernel_rfl) (.cons (by exact decide_eq_true (by omega)) (.cons (by omega) (.cons (by omega) (.cons (by assumption) (.cons (by omega) (.cons (by rfl) (.cons (by rfl) (.cons (by rfl) (.cons (by rfl) (.cons (by rfl) (.cons (by (intro _ _; exact ⟨rfl, trivial⟩)) (.cons (by (rw [Int.toNat_natCast]; exact beq_iff_eq.2 (congrArg Int.ofNat hs))) (.cons (by omega) (.cons (by omega) (.cons (by rfl) (.cons (by rfl) (.cons (by exact w64 (by omega) (by omega)) (.cons (by rfl) (.cons (by (intro _ _; exact ⟨rfl, trivial⟩)) (.cons (by rfl) (.cons (by (refine leG_eq (fun j hj => ?_) (fun _ _ => rfl); simp only [Int.toNat_natCast, putF, gU]; (repeat' split) <;> first | rfl | omega | (subst_vars; rfl) | (simp_all; done) | (exfalso; omega))) .nil))))))))))))))))))))) (Nat.le_of_ble_eq_true (by kernel_rfl))

set_option maxHeartbeats 2000000 in
theorem lp_r (N : Nat) (L : Nat → Int) (hN : N ≤ 1000) (i m a : Nat) (E : Nat → Int) (hi : i < N) (hm : m ≤ i) (hs : sea E (L i) m = a) (ha : a < m) : CodeOk Try.prog 1 (loopOf Try.f14 0) (mkSt 32 [(3, .nv (.one (.ptr 1 0))), (7, .nv (.one (.own 0))), (8, iA N), (9, iA i)] [.ro 1 N (gU L), .box 22 [.own 2], .row 24 1 m (gU E)]) .normal (mkSt 32 [(3, .nv (.one (.ptr 1 0))), (7, .nv (.one (.own 0))), (8, iA N), (9, iA (i + 1 : Nat))] [.ro 1 N (gU L), .box 22 [.own 2], .row 24 1 m (gU (putF E a (L i)))]) :=
  code_run Giv2_ok (orc := ⟨[true, false], []⟩) (obl := [decide ((↑i : Int) < (↑N : Int)) = true,
      (0 : Int) ≤ (↑i : Int),
      (↑i : Int) < (↑N : Int),
      Int.toNat (↑i : Int) < N,
      m ≤ (1000 : Nat),
      (↑m : Int) = (↑m : Int),
      (0 : Nat) = (0 : Nat),
      (0 : Nat) = (0 : Nat),
      L (Int.toNat (↑i : Int)) = L (Int.toNat (↑i : Int)),
      m = m,
      ∀ (i : Nat), i < m → E i = cF (gU E) i ∧ True,
      ((↑(sea (cF (gU E)) (L (Int.toNat (↑i : Int))) m) : Int) == (↑m : Int)) = false,
      (0 : Int) ≤ (↑(sea (cF (gU E)) (L (Int.toNat (↑i : Int))) m) : Int),
      (↑(sea (cF (gU E)) (L (Int.toNat (↑i : Int))) m) : Int) < (↑m : Int),
      Int.toNat (↑(sea (cF (gU E)) (L (Int.toNat (↑i : Int))) m) : Int) < m,
      (0 : Nat) = (0 : Nat),
      (↑N : Int) = (↑N : Int),
      IntKind.wrap IntKind.i64 ((↑i : Int) + (1 : Int)) = (↑(i + (1 : Nat)) : Int),
      N = N,
      ∀ (i : Nat), i < N → L i = L i ∧ True,
      m = m,
      ∀ (i_1 : Nat), i_1 < m → AllT (leAts ([(nat_lit 0, Bd.same (nat_lit 0))] ++ ([((1 : Nat), Bd.same (1 : Nat))] ++ ([((0 : Nat), Bd.same (0 : Nat))] ++ ([] ++ ([] ++ [])))) ++ ([] ++ ([((2 : Nat), Bd.same (2 : Nat))] ++ [] ++ ([] ++ [])) ++ ([] ++ [] ++ []))) (3 : Nat) (if i_1 = Int.toNat (↑(sea (cF (gU E)) (L (Int.toNat (↑i : Int))) m) : Int) then List.take (0 : Nat) (gU E (Int.toNat (↑(sea (cF (gU E)) (L (Int.toNat (↑i : Int))) m) : Int))) ++ [At.val (Value.int IntKind.u64 (L (Int.toNat (↑i : Int))))] ++ List.drop (1 : Nat) (gU E (Int.toNat (↑(sea (cF (gU E)) (L (Int.toNat (↑i : Int))) m) : Int))) else gU E i_1) (gU (putF E a (L i)) i_1))]) (by kernel_rfl) (.cons (by exact decide_eq_true (by omega)) (.cons (by omega) (.cons (by omega) (.cons (by assumption) (.cons (by omega) (.cons (by rfl) (.cons (by rfl) (.cons (by rfl) (.cons (by rfl) (.cons (by rfl) (.cons (by (intro _ _; exact ⟨rfl, trivial⟩)) (.cons (by (rw [Int.toNat_natCast]; exact beq_eq_false_iff_ne.2 (fun e => absurd (Int.ofNat.inj e) (by rw [show sea (cF (gU E)) (L i) m = a from hs]; omega)))) (.cons (by (rw [Int.toNat_natCast, show sea (cF (gU E)) (L i) m = a from hs]; omega)) (.cons (by (rw [Int.toNat_natCast, show sea (cF (gU E)) (L i) m = a from hs]; omega)) (.cons (by (simp only [Int.toNat_natCast]; rw [show sea (cF (gU E)) (L i) m = a from hs]; exact ha)) (.cons (by rfl) (.cons (by rfl) (.cons (by exact w64 (by omega) (by omega)) (.cons (by rfl) (.cons (by (intro _ _; exact ⟨rfl, trivial⟩)) (.cons (by rfl) (.cons (by (refine leG_eq (fun j hj => ?_) (fun _ _ => rfl); simp only [Int.toNat_natCast]; rw [show sea (cF (gU E)) (L i) m = a from hs]; simp only [putF, gU]; split <;> simp_all)) .nil)))))))))))))))))))))) (Nat.le_of_ble_eq_true (by kernel_rfl))

set_option maxHeartbeats 2000000 in
theorem lp_e (N : Nat) (L : Nat → Int) (hN : N ≤ 1000) (m : Nat) (E : Nat → Int) : CodeOk Try.prog 1 (loopOf Try.f14 0) (mkSt 32 [(3, .nv (.one (.ptr 1 0))), (7, .nv (.one (.own 0))), (8, iA N), (9, iA N)] [.ro 1 N (gU L), .box 22 [.own 2], .row 24 1 m (gU E)]) (.exit 0) (mkSt 32 [(3, .nv (.one (.ptr 1 0)))] [.ro 1 N (gU L), .box 22 [.own 2], .row 24 1 m (gU E)]) :=
  code_run Giv2_ok (orc := ⟨[false], []⟩) (obl := [decide ((↑N : Int) < (↑N : Int)) = false,
      (0 : Nat) = (0 : Nat),
      N = N,
      ∀ (i : Nat), i < N → L i = L i ∧ True,
      m = m,
      ∀ (i : Nat), i < m → E i = E i ∧ True]) (by kernel_rfl) (.cons (by exact decide_eq_false (by omega)) (.cons (by rfl) (.cons (by rfl) (.cons (by (intro _ _; exact ⟨rfl, trivial⟩)) (.cons (by rfl) (.cons (by (intro _ _; exact ⟨rfl, trivial⟩)) .nil)))))) (Nat.le_of_ble_eq_true (by kernel_rfl))

set_option maxHeartbeats 2000000 in
theorem lp_f (N : Nat) (L : Nat → Int) (hN : N ≤ 1000) (m : Nat) (E : Nat → Int) (l0 : CodeOk Try.prog 1 (.loop (loopOf Try.f14 0)) (mkSt 32 [(3, .nv (.one (.ptr 1 0))), (7, .nv (.one (.own 0))), (8, iA N), (9, iA (0 : Nat))] [.ro 1 N (gU L), .box 22 [.own 2], .row 24 1 0 (gU z0)]) (.exit 0) (mkSt 32 [(3, .nv (.one (.ptr 1 0)))] [.ro 1 N (gU L), .box 22 [.own 2], .row 24 1 m (gU E)])) : FnOk Try.prog 14 ([.nv (.one (.own 0))]) ([.ro 1 N (gU L)]) (iA m) ([.gone]) :=
  fn_run Giv2_ok Try.func14 (orc := ⟨[], [⟨mkSt 32 [(3, .nv (.one (.ptr 1 0))), (7, .nv (.one (.own 0))), (8, iA N), (9, iA (0 : Nat))] [.ro 1 N (gU L), .box 22 [.own 2], .row 24 1 0 (gU z0)], .exit 0, mkSt 32 [(3, .nv (.one (.ptr 1 0)))] [.ro 1 N (gU L), .box 22 [.own 2], .row 24 1 m (gU E)]⟩]⟩) (obl := [(0 : Nat) = (0 : Nat),
      (↑N : Int) = (↑N : Int),
      (0 : Int) = (↑(0 : Nat) : Int),
      N = N,
      ∀ (i : Nat), i < N → L i = L i ∧ True,
      (0 : Nat) = (0 : Nat),
      (1 : Nat) ≤ (3 : Nat),
      CodeOk Try.prog (1 : Nat) (Code.loop (loopOf Try.f14 (0 : Nat))) (mkSt (32 : Nat) [((3 : Nat), SV.nv (NV.one (At.ptr (1 : Nat) (0 : Nat)))), ((7 : Nat), SV.nv (NV.one (At.own (0 : Nat)))), ((8 : Nat), iA (↑N : Int)), ((9 : Nat), iA (↑(0 : Nat) : Int))] [Seg.ro (1 : Nat) N (gU L), Seg.box (22 : TypeId) [At.own (2 : Nat)], Seg.row (24 : TypeId) (1 : Nat) (0 : Nat) (gU z0)]) (Ex.exit (0 : Nat)) (mkSt (32 : Nat) [((3 : Nat), SV.nv (NV.one (At.ptr (1 : Nat) (0 : Nat))))] [Seg.ro (1 : Nat) N (gU L), Seg.box (22 : TypeId) [At.own (2 : Nat)], Seg.row (24 : TypeId) (1 : Nat) m (gU E)]),
      (↑m : Int) = (↑m : Int)]) (by kernel_rfl) (.cons (by rfl) (.cons (by rfl) (.cons (by rfl) (.cons (by rfl) (.cons (by (intro _ _; exact ⟨rfl, trivial⟩)) (.cons (by rfl) (.cons (by trivial) (.cons (by assumption) (.cons (by rfl) .nil))))))))) (Nat.le_of_ble_eq_true (by kernel_rfl))
end Go.Proofs.Ytffkakkijifoaaa

/- Runs of Go code, as printed by a program: no condition beyond those that each states. -/
import Derived.Test.YtakpokccjgoapaaTyD
import Derived.Test.YtakpokccjgoapaaChecked
import Derived.KernelRfl
namespace Go.Proofs.Ytakpokccjgoapaa
set_option linter.unusedVariables false
set_option linter.unusedSimpArgs false
set_option maxRecDepth 100000
open Go.RowKit E
set_option maxHeartbeats 2000000 in
theorem be_m (len n nt N nt2 : Nat) (R : Nat → Int) (rm c c2 o : Int) (T T2 : Tw Int) (hz : nt2 = 0) (hn : IntKind.wrap IntKind.i64 (IntKind.wrap IntKind.i64 (Int.tmod rm 50) + 1) = (n : Nat)) (hn1 : 1 ≤ n ∧ n ≤ 50) (hl : len ≤ 300) (eo : (o != List.foldl (fun x y => if y > x then y else x) (IntKind.wrap IntKind.i64 ((len : Int) - n)) [0]) = false) (eN : List.foldl (fun x y => if y < x then y else x) (n : Int) [(len : Int)] = (N : Nat)) (l0 : CodeOk Try.prog 1 (.loop (loopOf Try.f5 0)) (mkSt 106 [(5, iA n), (6, .nv (.one (.ptr 1 0))), (8, .nv (.one (.own 3))), (9, iA 0), (33, .nv (.one (.own 0))), (34, iA len), (35, iA (0 : Nat))] (beMem len n 0 0 0 R tw0I ⟨R, fun j => j⟩)) (.exit 0) (mkSt 106 [(5, iA n), (6, .nv (.one (.ptr 1 0))), (8, .nv (.one (.own 3))), (9, iA o)] (beMem len n nt len c R T ⟨R, fun j => j⟩))) (l1 : CodeOk Try.prog 1 (.loop (loopOf Try.f5 1)) (mkSt 106 [(6, .nv (.one (.ptr 1 0))), (8, .nv (.one (.own 3))), (69, iA N), (70, iA (0 : Nat))] (beMem len n nt len c R T (srtIt ⟨R, fun j => j⟩ len))) (.exit 2) (mkSt 106 [(6, .nv (.one (.ptr 1 0)))] (beMem len n nt2 len c2 R T2 (srtIt ⟨R, fun j => j⟩ len)))) : LawOk Try.prog 5 ([.nv (.one (.val (.int .u8 rm))), .nv (.one (.own 0))]) ([.ro 1 len (rkT R)]) (bA true) :=
  law_run Gps_ok Try.func5 (orc := ⟨[false, false, false, true], [⟨mkSt 106 [(5, iA n), (6, .nv (.one (.ptr 1 0))), (8, .nv (.one (.own 3))), (9, iA 0), (33, .nv (.one (.own 0))), (34, iA len), (35, iA (0 : Nat))] (beMem len n 0 0 0 R tw0I ⟨R, fun j => j⟩), .exit 0, mkSt 106 [(5, iA n), (6, .nv (.one (.ptr 1 0))), (8, .nv (.one (.own 3))), (9, iA o)] (beMem len n nt len c R T ⟨R, fun j => j⟩)⟩, ⟨mkSt 106 [(6, .nv (.one (.ptr 1 0))), (8, .nv (.one (.own 3))), (69, iA N), (70, iA (0 : Nat))] (beMem len n nt len c R T (srtIt ⟨R, fun j => j⟩ len)), .exit 2, mkSt 106 [(6, .nv (.one (.ptr 1 0)))] (beMem len n nt2 len c2 R T2 (srtIt ⟨R, fun j => j⟩ len))⟩]⟩) (obl := [decide ((↑len : Int) > (300 : Int)) = false,
      (50 : Int) ≠ (0 : Int),
      (1 : Int) ≤ IntKind.wrap IntKind.i64 (IntKind.wrap IntKind.i64 (Int.tmod rm (50 : Int)) + (1 : Int)),
      IntKind.wrap IntKind.i64 (IntKind.wrap IntKind.i64 (Int.tmod rm (50 : Int)) + (1 : Int)) ≤ (4096 : Int),
      IntKind.wrap IntKind.i64 (IntKind.wrap IntKind.i64 (Int.tmod rm (50 : Int)) + (1 : Int)) = IntKind.wrap IntKind.i64 (IntKind.wrap IntKind.i64 (Int.tmod rm (50 : Int)) + (1 : Int)),
      ∀ (i : Nat), i < (0 : Nat) → (true && (true && (true && true))) = true,
      false = false,
      IntKind.wrap IntKind.i64 (IntKind.wrap IntKind.i64 (Int.tmod rm (50 : Int)) + (1 : Int)) = (↑n : Int),
      (0 : Nat) = (0 : Nat),
      (0 : Int) = (0 : Int),
      (↑len : Int) = (↑len : Int),
      (0 : Int) = (↑(0 : Nat) : Int),
      len = len,
      ∀ (i : Nat), i < len → R i = R i ∧ True,
      (0 : Int) = (0 : Int),
      IntKind.wrap IntKind.i64 (IntKind.wrap IntKind.i64 (Int.tmod rm (50 : Int)) + (1 : Int)) = (↑n : Int),
      (0 : Nat) = (0 : Nat),
      ∀ (i : Nat), i < (0 : Nat) → Tw.r tw0I i = Tw.r tw0I i ∧ Tw.c tw0I i = Tw.c tw0I i ∧ Tw.x tw0I i = Tw.x tw0I i ∧ True,
      (0 : Nat) = (0 : Nat),
      (1 : Nat) ≤ (4 : Nat),
      CodeOk Try.prog (1 : Nat) (Code.loop (loopOf Try.f5 (0 : Nat))) (mkSt (106 : Nat) [((5 : Nat), iA (↑n : Int)), ((6 : Nat), SV.nv (NV.one (At.ptr (1 : Nat) (0 : Nat)))), ((8 : Nat), SV.nv (NV.one (At.own (3 : Nat)))), ((9 : Nat), iA (0 : Int)), ((33 : Nat), SV.nv (NV.one (At.own (0 : Nat)))), ((34 : Nat), iA (↑len : Int)), ((35 : Nat), iA (↑(0 : Nat) : Int))] (beMem len n (0 : Nat) (0 : Nat) (0 : Int) R tw0I { r := R, x := fun j => (↑j : Int) })) (Ex.exit (0 : Nat)) (mkSt (106 : Nat) [((5 : Nat), iA (↑n : Int)), ((6 : Nat), SV.nv (NV.one (At.ptr (1 : Nat) (0 : Nat)))), ((8 : Nat), SV.nv (NV.one (At.own (3 : Nat)))), ((9 : Nat), iA o)] (beMem len n nt len c R T { r := R, x := fun j => (↑j : Int) })),
      len ≤ (100000 : Nat),
      len = len,
      ∀ (i : Nat), i < len → It.r { r := R, x := fun j => (↑j : Int) } i = It.r (itOf (gIt { r := R, x := fun j => (↑j : Int) })) i ∧ It.x { r := R, x := fun j => (↑j : Int) } i = It.x (itOf (gIt { r := R, x := fun j => (↑j : Int) })) i ∧ True,
      ∀ (i : Nat), i < len → (true && (true && true)) = true,
      (o != List.foldl (fun x y => if y > x then y else x) (IntKind.wrap IntKind.i64 ((↑len : Int) - (↑n : Int))) [(0 : Int)]) = false,
      (0 : Nat) = (0 : Nat),
      List.foldl (fun x y => if y < x then y else x) (↑n : Int) [(↑len : Int)] = (↑N : Int),
      (0 : Int) = (↑(0 : Nat) : Int),
      len = len,
      ∀ (i : Nat), i < len → R i = R i ∧ True,
      c = c,
      (↑n : Int) = (↑n : Int),
      nt = nt,
      ∀ (i : Nat), i < nt → Tw.r T i = Tw.r T i ∧ Tw.c T i = Tw.c T i ∧ Tw.x T i = Tw.x T i ∧ True,
      len = len,
      ∀ (i : Nat), i < len → It.r (srtIt (itOf (gIt { r := R, x := fun j => (↑j : Int) })) len) i = It.r (srtIt { r := R, x := fun j => (↑j : Int) } len) i ∧ It.x (srtIt (itOf (gIt { r := R, x := fun j => (↑j : Int) })) len) i = It.x (srtIt { r := R, x := fun j => (↑j : Int) } len) i ∧ True,
      (1 : Nat) ≤ (4 : Nat),
      CodeOk Try.prog (1 : Nat) (Code.loop (loopOf Try.f5 (1 : Nat))) (mkSt (106 : Nat) [((6 : Nat), SV.nv (NV.one (At.ptr (1 : Nat) (0 : Nat)))), ((8 : Nat), SV.nv (NV.one (At.own (3 : Nat)))), ((69 : Nat), iA (↑N : Int)), ((70 : Nat), iA (↑(0 : Nat) : Int))] (beMem len n nt len c R T (srtIt { r := R, x := fun j => (↑j : Int) } len))) (Ex.exit (2 : Nat)) (mkSt (106 : Nat) [((6 : Nat), SV.nv (NV.one (At.ptr (1 : Nat) (0 : Nat))))] (beMem len n nt2 len c2 R T2 (srtIt { r := R, x := fun j => (↑j : Int) } len))),
      (0 : Nat) = (0 : Nat),
      c2 = c2,
      (↑n : Int) = (↑n : Int),
      nt2 = nt2,
      ∀ (i : Nat), i < nt2 → Tw.r T2 i = Tw.r (twI (gTi T2)) i ∧ Tw.c T2 i = Tw.c (twI (gTi T2)) i ∧ Tw.x T2 i = Tw.x (twI (gTi T2)) i ∧ True,
      ((↑nt2 : Int) == (0 : Int)) = true,
      true = true]) (by kernel_rfl) (.cons (by exact decide_eq_false (by omega)) (.cons (by trivial) (.cons (by (rw [hn]; omega)) (.cons (by (rw [hn]; omega)) (.cons (by rfl) (.cons (by trivial) (.cons (by rfl) (.cons (by assumption) (.cons (by rfl) (.cons (by rfl) (.cons (by rfl) (.cons (by rfl) (.cons (by rfl) (.cons (by (intro _ _; exact ⟨rfl, trivial⟩)) (.cons (by rfl) (.cons (by assumption) (.cons (by rfl) (.cons (by trivial) (.cons (by rfl) (.cons (by trivial) (.cons (by assumption) (.cons (by omega) (.cons (by rfl) (.cons (by (intro _ _; exact ⟨rfl, rfl, trivial⟩)) (.cons (by (intro _ _; rfl)) (.cons (by assumption) (.cons (by rfl) (.cons (by assumption) (.cons (by rfl) (.cons (by rfl) (.cons (by (intro _ _; exact ⟨rfl, trivial⟩)) (.cons (by rfl) (.cons (by rfl) (.cons (by rfl) (.cons (by (intro _ _; exact ⟨rfl, rfl, rfl, trivial⟩)) (.cons (by rfl) (.cons (by (intro _ _; exact ⟨rfl, rfl, trivial⟩)) (.cons (by trivial) (.cons (by assumption) (.cons (by rfl) (.cons (by rfl) (.cons (by rfl) (.cons (by rfl) (.cons (by (intro _ _; exact ⟨rfl, rfl, rfl, trivial⟩)) (.cons (by (subst hz; rfl)) (.cons (by rfl) .nil))))))))))))))))))))))))))))))))))))))))))))))
end Go.Proofs.Ytakpokccjgoapaa

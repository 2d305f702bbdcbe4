/- Runs of Go code, as printed by a program: no condition beyond those that each states. -/
import Derived.Test.YtkgkelfdmkginaaRnK
import Derived.Test.YtkgkelfdmkginaaChecked
import Derived.KernelRfl
namespace Go.Proofs.Ytkgkelfdmkginaa
set_option linter.unusedVariables false
set_option linter.unusedSimpArgs false
set_option maxRecDepth 100000
open Go.RowKit E
set_option maxHeartbeats 2000000 in
theorem rises_ok (kd k : Int) (n len : Nat) (F : Fl) (A : Ac) (hl : len ≤ 200) (hk : IntKind.wrap IntKind.i64 (IntKind.wrap IntKind.i64 (Int.tmod kd 3) + 1) = k) (hk1 : 1 ≤ k ∧ k ≤ 3) (h1 : 1 ≤ n) (hn : n ≤ 64) (hd : dup (flOf (gFl F)).id n = false) (l : CodeOk Try.prog 2 (.loop (loopOf Try.f3 0)) (risesS k n len F A 0 0 0 0 (tag0 k F) (fun _ => 0) (fun _ => false)) (.exit 0) (mkSt 136 [] [.gone, .gone])) : LawOk Try.prog 3 ([.nv (.one (.val (.int .u8 kd))), .nv (.one (.own 0)), .nv (.one (.own 1))]) ([.ro 5 n (gFl F), .ro 5 len (gAc A)]) (bA true) :=
  law_run Glk_ok Try.func3 (orc := ⟨[false, false, false], [⟨risesS k n len F A 0 0 0 0 (tag0 k F) (fun _ => 0) (fun _ => false), .exit 0, mkSt 136 [] [.gone, .gone]⟩]⟩) (obl := [decide ((↑len : Int) > (200 : Int)) = false,
      (3 : Int) ≠ (0 : Int),
      (1 : Int) ≤ IntKind.wrap IntKind.i64 (IntKind.wrap IntKind.i64 (Int.tmod kd (3 : Int)) + (1 : Int)),
      IntKind.wrap IntKind.i64 (IntKind.wrap IntKind.i64 (Int.tmod kd (3 : Int)) + (1 : Int)) ≤ (3 : Int),
      (1 : Nat) ≤ n,
      n ≤ (64 : Nat),
      dup (Fl.id (flOf (gFl F))) n = false,
      IntKind.wrap IntKind.i64 (IntKind.wrap IntKind.i64 (Int.tmod kd (3 : Int)) + (1 : Int)) = IntKind.wrap IntKind.i64 (IntKind.wrap IntKind.i64 (Int.tmod kd (3 : Int)) + (1 : Int)),
      n = n,
      ∀ (i : Nat), i < n → Fl.id F i = Fl.id (flOf (gFl F)) i ∧ Fl.co F i = Fl.co (flOf (gFl F)) i ∧ Fl.bu F i = Fl.bu (flOf (gFl F)) i ∧ Fl.si F i = Fl.si (flOf (gFl F)) i ∧ Fl.ca F i = Fl.ca (flOf (gFl F)) i ∧ True,
      ∀ (i : Nat), i < n → (true && (true && (true && (true && (true && true))))) = true,
      ∀ (i : Nat), i < n → (true && true) = true,
      ((0 : Int) != (0 : Int)) = false,
      false = false,
      (0 : Int) ≤ (↑n : Int),
      (↑n : Int) = (↑n : Int),
      (↑(8 : Nat) : Int) * (↑n : Int) ≤ (281474976710656 : Int),
      (↑n : Int) ≤ (4611686018427387904 : Int),
      (0 : Int) ≤ (↑n : Int),
      (↑n : Int) = (↑n : Int),
      (↑(1 : Nat) : Int) * (↑n : Int) ≤ (281474976710656 : Int),
      (↑n : Int) ≤ (4611686018427387904 : Int),
      IntKind.wrap IntKind.i64 (IntKind.wrap IntKind.i64 (Int.tmod kd (3 : Int)) + (1 : Int)) = k,
      (0 : Nat) = (0 : Nat),
      (0 : Int) = (0 : Int),
      (0 : Int) = (0 : Int),
      (↑len : Int) = (↑len : Int),
      (0 : Int) = (↑(0 : Nat) : Int),
      n = n,
      ∀ (i : Nat), i < n → Fl.id F i = Fl.id F i ∧ Fl.co F i = Fl.co F i ∧ Fl.bu F i = Fl.bu F i ∧ Fl.si F i = Fl.si F i ∧ Fl.ca F i = Fl.ca F i ∧ True,
      len = len,
      ∀ (i : Nat), i < len → Ac.kd A i = Ac.kd A i ∧ Ac.id A i = Ac.id A i ∧ Ac.sz A i = Ac.sz A i ∧ Ac.la A i = Ac.la A i ∧ Value.slice (Ac.ta A i) (Ac.tl A i) (Ac.tc A i) = Value.slice (Ac.ta A i) (Ac.tl A i) (Ac.tc A i) ∧ True,
      IntKind.wrap IntKind.i64 (IntKind.wrap IntKind.i64 (Int.tmod kd (3 : Int)) + (1 : Int)) = k,
      (0 : Int) = (0 : Int),
      n = n,
      ∀ (i : Nat), i < n → Fl.id (flOf (gFl F)) i = Fl.id F i ∧ Fl.co (flOf (gFl F)) i = Fl.co F i ∧ Fl.bu (flOf (gFl F)) i = Fl.bu F i ∧ Fl.si (flOf (gFl F)) i = Fl.si F i ∧ Fl.ca (flOf (gFl F)) i = Fl.ca F i ∧ True,
      n = n,
      ∀ (i : Nat), i < n → tag0 (IntKind.wrap IntKind.i64 (IntKind.wrap IntKind.i64 (Int.tmod kd (3 : Int)) + (1 : Int))) (flOf (gFl F)) i = tag0 k F i ∧ True,
      Int.toNat (↑n : Int) = n,
      ∀ (i : Nat), i < Int.toNat (↑n : Int) → (0 : Int) = (0 : Int) ∧ True,
      Int.toNat (↑n : Int) = n,
      ∀ (i : Nat), i < Int.toNat (↑n : Int) → false = false ∧ True,
      (2 : Nat) ≤ (7 : Nat),
      CodeOk Try.prog (2 : Nat) (Code.loop (loopOf Try.f3 (0 : Nat))) (risesS k n len F A (0 : Nat) (0 : Int) (0 : Int) (0 : Int) (tag0 k F) (fun x => (0 : Int)) fun x => false) (Ex.exit (0 : Nat)) (mkSt (136 : Nat) [] [Seg.gone, Seg.gone]),
      true = true]) (by kernel_rfl) (.cons (by exact decide_eq_false (by omega)) (.cons (by trivial) (.cons (by (rw [hk]; omega)) (.cons (by (rw [hk]; omega)) (.cons (by assumption) (.cons (by assumption) (.cons (by assumption) (.cons (by rfl) (.cons (by rfl) (.cons (by (intro _ _; exact ⟨rfl, rfl, rfl, rfl, rfl, trivial⟩)) (.cons (by (intro _ _; rfl)) (.cons (by (intro _ _; rfl)) (.cons (by rfl) (.cons (by rfl) (.cons (by omega) (.cons (by rfl) (.cons (by omega) (.cons (by omega) (.cons (by omega) (.cons (by rfl) (.cons (by omega) (.cons (by omega) (.cons (by assumption) (.cons (by rfl) (.cons (by rfl) (.cons (by rfl) (.cons (by rfl) (.cons (by rfl) (.cons (by rfl) (.cons (by (simp; done)) (.cons (by rfl) (.cons (by (simp; done)) (.cons (by assumption) (.cons (by rfl) (.cons (by rfl) (.cons (by (intro _ _; exact ⟨rfl, rfl, rfl, rfl, rfl, trivial⟩)) (.cons (by rfl) (.cons (by (simp only [hk]; intro j hj; exact ⟨rfl, trivial⟩)) (.cons (by rfl) (.cons (by (intro _ _; exact ⟨rfl, trivial⟩)) (.cons (by rfl) (.cons (by (intro _ _; exact ⟨rfl, trivial⟩)) (.cons (by trivial) (.cons (by assumption) (.cons (by rfl) .nil)))))))))))))))))))))))))))))))))))))))))))))

set_option maxHeartbeats 2000000 in
theorem rises_err (kd k : Int) (n len : Nat) (F : Fl) (A : Ac) (hl : len ≤ 200) (hk : IntKind.wrap IntKind.i64 (IntKind.wrap IntKind.i64 (Int.tmod kd 3) + 1) = k) (hc : chkR k n (flOf (gFl F)) ≠ 0) : LawOk Try.prog 3 ([.nv (.one (.val (.int .u8 kd))), .nv (.one (.own 0)), .nv (.one (.own 1))]) ([.ro 5 n (gFl F), .ro 5 len (gAc A)]) (bA true) :=
  law_run Gle_ok Try.func3 (orc := ⟨[false, true, true], []⟩) (obl := [decide ((↑len : Int) > (200 : Int)) = false,
      (3 : Int) ≠ (0 : Int),
      chkR (IntKind.wrap IntKind.i64 (IntKind.wrap IntKind.i64 (Int.tmod kd (3 : Int)) + (1 : Int))) n (flOf (gFl F)) ≠ (0 : Int),
      IntKind.wrap IntKind.i64 (IntKind.wrap IntKind.i64 (Int.tmod kd (3 : Int)) + (1 : Int)) = IntKind.wrap IntKind.i64 (IntKind.wrap IntKind.i64 (Int.tmod kd (3 : Int)) + (1 : Int)),
      n = n,
      ∀ (i : Nat), i < n → Fl.id F i = Fl.id (flOf (gFl F)) i ∧ Fl.co F i = Fl.co (flOf (gFl F)) i ∧ Fl.bu F i = Fl.bu (flOf (gFl F)) i ∧ Fl.si F i = Fl.si (flOf (gFl F)) i ∧ Fl.ca F i = Fl.ca (flOf (gFl F)) i ∧ True,
      (chkR (IntKind.wrap IntKind.i64 (IntKind.wrap IntKind.i64 (Int.tmod kd (3 : Int)) + (1 : Int))) n (flOf (gFl F)) != (0 : Int)) = true,
      true = true,
      true = true]) (by kernel_rfl) (.cons (by exact decide_eq_false (by omega)) (.cons (by trivial) (.cons (by (rw [hk]; omega)) (.cons (by rfl) (.cons (by rfl) (.cons (by (intro _ _; exact ⟨rfl, rfl, rfl, rfl, rfl, trivial⟩)) (.cons (by (rw [hk]; exact bne_iff_ne.2 hc)) (.cons (by rfl) (.cons (by rfl) .nil)))))))))

set_option maxHeartbeats 2000000 in
theorem rises_long (kd : Int) (n len : Nat) (F : Fl) (A : Ac) (hl : 200 < len) : LawOk Try.prog 3 ([.nv (.one (.val (.int .u8 kd))), .nv (.one (.own 0)), .nv (.one (.own 1))]) ([.ro 5 n (gFl F), .ro 5 len (gAc A)]) (bA true) :=
  law_run Gle_ok Try.func3 (orc := ⟨[true], []⟩) (obl := [decide ((↑len : Int) > (200 : Int)) = true,
      true = true]) (by kernel_rfl) (.cons (by exact decide_eq_true (by omega)) (.cons (by rfl) .nil))

set_option maxHeartbeats 2000000 in
theorem nobody (now x m : Int) : PureOk Try.prog 6 ([uA now, .nv (.one (.val (.int .u32 x))), uA m]) (bA true) :=
  pure_run Gln_ok Try.func6 (orc := ⟨[true, true, true, true, true], []⟩) (obl := [Value.pointer none = Value.pointer none,
      now = now,
      x = x,
      m = m,
      Value.pointer none = Value.pointer none,
      m = m,
      ((0 : Int) == (0 : Int)) = true,
      ((10 : Int) == (10 : Int)) = true,
      Value.pointer none = Value.pointer none,
      ((0 : Int) == (0 : Int)) = true,
      Value.pointer none = Value.pointer none,
      ((↑(0 : Nat) : Int) == (0 : Int)) = true,
      Value.pointer none = Value.pointer none,
      m = m,
      Value.slice none (0 : Nat) (0 : Nat) = Value.slice none (0 : Nat) (0 : Nat),
      ((10 : Int) == (10 : Int)) = true,
      true = true]) (by kernel_rfl) (.cons (by rfl) (.cons (by rfl) (.cons (by rfl) (.cons (by rfl) (.cons (by rfl) (.cons (by rfl) (.cons (by rfl) (.cons (by rfl) (.cons (by rfl) (.cons (by rfl) (.cons (by rfl) (.cons (by rfl) (.cons (by rfl) (.cons (by rfl) (.cons (by rfl) (.cons (by rfl) (.cons (by rfl) .nil)))))))))))))))))
end Go.Proofs.Ytkgkelfdmkginaa

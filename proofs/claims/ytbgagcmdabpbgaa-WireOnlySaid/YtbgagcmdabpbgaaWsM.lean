/- Runs of Go code, as printed by a program: no condition beyond those that each states. -/
import Derived.Test.YtbgagcmdabpbgaaWsL
import Derived.Test.YtbgagcmdabpbgaaChecked
import Derived.KernelRfl
namespace Go.Proofs.Ytbgagcmdabpbgaa
set_option linter.unusedVariables false
set_option linter.unusedSimpArgs false
set_option maxRecDepth 100000
open Go.RowKit E
set_option maxHeartbeats 2000000 in
theorem wp_f (len : Nat) (L : Nat → Fl) (hl : len ≤ 9223372036854775807) (hf : fewB L len = false) : LawOk Try.prog 3 ([.nv (.one (.own 0))]) ([.ro 3 len (gF L)]) (bA true) :=
  law_run GbH_ok Try.func3 (orc := ⟨[true], []⟩) (obl := [len ≤ (9223372036854775807 : Nat),
      len = len,
      ∀ (i : Nat), i < len → Fl.k (L i) = Fl.k (flOf (gF L) i) ∧ Fl.n (L i) = Fl.n (flOf (gF L) i) ∧ Fl.s (L i) = Fl.s (flOf (gF L) i) ∧ True,
      (!fewB (flOf (gF L)) len) = true,
      true = true]) (by kernel_rfl) (.cons (by assumption) (.cons (by rfl) (.cons (by (intro _ _; exact ⟨rfl, rfl, rfl, trivial⟩)) (.cons (by (show (!fewB L len) = true; rw [hf]; rfl)) (.cons (by rfl) .nil)))))

set_option maxHeartbeats 2000000 in
theorem wp_n (len i : Nat) (L : Nat → Fl) (X : ByteArray) (Y : Int) (hi : i < len) (hl : len ≤ 200) (w0 : 0 ≤ (L i).n) (w1 : (L i).n < 18446744073709551616) (es : (putStr (fun _ => ⟨(L i).k, (L i).n, (L i).s⟩) 1).size = (oneStr ⟨(L i).k, (L i).n, (L i).s⟩).size) : CodeOk Try.prog 1 (loopOf Try.f3 0) (mkSt 57 [(0, .nv (.one (.own 0))), (3, sA X), (4, iA Y), (5, sA X), (6, iA Y), (25, iA len), (26, iA i)] [.ro 3 len (gF L)]) .normal (mkSt 57 [(0, .nv (.one (.own 0))), (3, sA X), (4, iA Y), (5, sA X), (6, iA Y), (25, iA len), (26, iA (i + 1))] [.ro 3 len (gF L)]) :=
  code_run GbH_ok (orc := ⟨[true, false], []⟩) (obl := [decide ((↑i : Int) < (↑len : Int)) = true,
      (0 : Int) ≤ (↑i : Int),
      (↑i : Int) < (↑len : Int),
      Int.toNat (↑i : Int) < len,
      (0 : Int) ≤ Fl.n (L (Int.toNat (↑i : Int))),
      Fl.n (L (Int.toNat (↑i : Int))) ≤ (18446744073709551615 : Int),
      (0 : Int) ≤ (↑i : Int),
      (↑i : Int) < (↑len : Int),
      Int.toNat (↑i : Int) < len,
      (0 : Int) ≤ Fl.n (L (Int.toNat (↑i : Int))),
      Fl.n (L (Int.toNat (↑i : Int))) < (18446744073709551616 : Int),
      ((↑(ByteArray.size (putStr (fun (x : Nat) => { k := Fl.k (L (Int.toNat (↑i : Int))), n := Fl.n (L (Int.toNat (↑i : Int))), s := Fl.s (L (Int.toNat (↑i : Int))) }) (1 : Nat))) : Int) != (↑(ByteArray.size (oneStr { k := Fl.k (L (Int.toNat (↑i : Int))), n := Fl.n (L (Int.toNat (↑i : Int))), s := Fl.s (L (Int.toNat (↑i : Int))) })) : Int)) = false,
      X = X,
      Y = Y,
      X = X,
      Y = Y,
      (↑len : Int) = (↑len : Int),
      IntKind.wrap IntKind.i64 ((↑i : Int) + (1 : Int)) = (↑i : Int) + (1 : Int),
      len = len,
      ∀ (i : Nat), i < len → Fl.k (L i) = Fl.k (L i) ∧ Fl.n (L i) = Fl.n (L i) ∧ Fl.s (L i) = Fl.s (L i) ∧ True]) (by kernel_rfl) (.cons (by exact decide_eq_true (by omega)) (.cons (by omega) (.cons (by omega) (.cons (by assumption) (.cons (by assumption) (.cons (by exact Int.le_of_lt_add_one w1) (.cons (by omega) (.cons (by omega) (.cons (by assumption) (.cons (by assumption) (.cons (by assumption) (.cons (by exact bne_eq_false_iff_eq.2 (congrArg Int.ofNat es)) (.cons (by rfl) (.cons (by rfl) (.cons (by rfl) (.cons (by rfl) (.cons (by rfl) (.cons (by exact w64 (by omega) (by omega)) (.cons (by rfl) (.cons (by (intro _ _; exact ⟨rfl, rfl, rfl, trivial⟩)) .nil)))))))))))))))))))) (Nat.le_of_ble_eq_true (by kernel_rfl))

set_option maxHeartbeats 2000000 in
theorem wp_e (len : Nat) (L : Nat → Fl) (X : ByteArray) (Y : Int) : CodeOk Try.prog 1 (loopOf Try.f3 0) (mkSt 57 [(0, .nv (.one (.own 0))), (3, sA X), (4, iA Y), (5, sA X), (6, iA Y), (25, iA len), (26, iA len)] [.ro 3 len (gF L)]) (.exit 0) (mkSt 57 [(3, sA X), (4, iA Y), (5, sA X), (6, iA Y)] [.ro 3 len (gF L)]) :=
  code_run GbH_ok (orc := ⟨[false], []⟩) (obl := [decide ((↑len : Int) < (↑len : Int)) = false,
      X = X,
      Y = Y,
      X = X,
      Y = Y,
      len = len,
      ∀ (i : Nat), i < len → Fl.k (L i) = Fl.k (L i) ∧ Fl.n (L i) = Fl.n (L i) ∧ Fl.s (L i) = Fl.s (L i) ∧ True]) (by kernel_rfl) (.cons (by exact decide_eq_false (by omega)) (.cons (by rfl) (.cons (by rfl) (.cons (by rfl) (.cons (by rfl) (.cons (by rfl) (.cons (by (intro _ _; exact ⟨rfl, rfl, rfl, trivial⟩)) .nil))))))) (Nat.le_of_ble_eq_true (by kernel_rfl))

set_option maxHeartbeats 2000000 in
theorem wp_m (len : Nat) (L : Nat → Fl) (X : ByteArray) (Y : Int) (hl : len ≤ 200) (hf : fewB L len = true) (hw : ∀ i, i < len → (L i).wf) (eX : putStr L len = X) (eY : badZ L len = Y) (l0 : CodeOk Try.prog 1 (.loop (loopOf Try.f3 0)) (mkSt 57 [(0, .nv (.one (.own 0))), (3, sA X), (4, iA Y), (5, sA X), (6, iA Y), (25, iA len), (26, iA 0)] [.ro 3 len (gF L)]) (.exit 0) (mkSt 57 [(3, sA X), (4, iA Y), (5, sA X), (6, iA Y)] [.ro 3 len (gF L)])) : LawOk Try.prog 3 ([.nv (.one (.own 0))]) ([.ro 3 len (gF L)]) (bA true) :=
  law_run GbH_ok Try.func3 (orc := ⟨[false, true, true], [⟨mkSt 57 [(0, .nv (.one (.own 0))), (3, sA X), (4, iA Y), (5, sA X), (6, iA Y), (25, iA len), (26, iA 0)] [.ro 3 len (gF L)], .exit 0, mkSt 57 [(3, sA X), (4, iA Y), (5, sA X), (6, iA Y)] [.ro 3 len (gF L)]⟩]⟩) (obl := [len ≤ (9223372036854775807 : Nat),
      len = len,
      ∀ (i : Nat), i < len → Fl.k (L i) = Fl.k (flOf (gF L) i) ∧ Fl.n (L i) = Fl.n (flOf (gF L) i) ∧ Fl.s (L i) = Fl.s (flOf (gF L) i) ∧ True,
      (!fewB (flOf (gF L)) len) = false,
      len ≤ (1000 : Nat),
      ∀ (i : Nat), i < len → Fl.wf (flOf (gF L) i),
      len = len,
      ∀ (i : Nat), i < len → Fl.k (L i) = Fl.k (flOf (gF L) i) ∧ Fl.n (L i) = Fl.n (flOf (gF L) i) ∧ Fl.s (L i) = Fl.s (flOf (gF L) i) ∧ True,
      len ≤ (1000 : Nat),
      ∀ (i : Nat), i < len → Fl.wf (flOf (gF L) i),
      len = len,
      ∀ (i : Nat), i < len → Fl.k (L i) = Fl.k (flOf (gF L) i) ∧ Fl.n (L i) = Fl.n (flOf (gF L) i) ∧ Fl.s (L i) = Fl.s (flOf (gF L) i) ∧ True,
      putStr (flOf (gF L)) len = X,
      badZ (flOf (gF L)) len = Y,
      putStr (flOf (gF L)) len = X,
      badZ (flOf (gF L)) len = Y,
      (↑len : Int) = (↑len : Int),
      (0 : Int) = (0 : Int),
      len = len,
      ∀ (i : Nat), i < len → Fl.k (L i) = Fl.k (L i) ∧ Fl.n (L i) = Fl.n (L i) ∧ Fl.s (L i) = Fl.s (L i) ∧ True,
      (1 : Nat) ≤ (1 : Nat),
      CodeOk Try.prog (1 : Nat) (Code.loop (loopOf Try.f3 (0 : Nat))) (mkSt (57 : Nat) [((0 : Nat), SV.nv (NV.one (At.own (0 : Nat)))), ((3 : Nat), sA X), ((4 : Nat), iA Y), ((5 : Nat), sA X), ((6 : Nat), iA Y), ((25 : Nat), iA (↑len : Int)), ((26 : Nat), iA (0 : Int))] [Seg.ro (3 : Nat) len (gF L)]) (Ex.exit (0 : Nat)) (mkSt (57 : Nat) [((3 : Nat), sA X), ((4 : Nat), iA Y), ((5 : Nat), sA X), ((6 : Nat), iA Y)] [Seg.ro (3 : Nat) len (gF L)]),
      (ByteArray.toList X == ByteArray.toList X) = true,
      (Y == Y) = true,
      true = true]) (by kernel_rfl) (.cons (by omega) (.cons (by rfl) (.cons (by (intro _ _; exact ⟨rfl, rfl, rfl, trivial⟩)) (.cons (by (show (!fewB L len) = false; rw [hf]; rfl)) (.cons (by omega) (.cons (by assumption) (.cons (by rfl) (.cons (by (intro _ _; exact ⟨rfl, rfl, rfl, trivial⟩)) (.cons (by omega) (.cons (by assumption) (.cons (by rfl) (.cons (by (intro _ _; exact ⟨rfl, rfl, rfl, trivial⟩)) (.cons (by assumption) (.cons (by assumption) (.cons (by assumption) (.cons (by assumption) (.cons (by rfl) (.cons (by rfl) (.cons (by rfl) (.cons (by (intro _ _; exact ⟨rfl, rfl, rfl, trivial⟩)) (.cons (by trivial) (.cons (by assumption) (.cons (by exact toList_same _) (.cons (by exact decide_eq_true (by omega)) (.cons (by rfl) .nil)))))))))))))))))))))))))

set_option maxHeartbeats 2000000 in
theorem wt_l (s : ByteArray) (len : Nat) (K : Nat → Int) (hl : 80000 < s.size) : LawOk Try.prog 4 ([sA s, .nv (.one (.own 0))]) ([.ro 1 len (gK K)]) (bA true) :=
  law_run GbH_ok Try.func4 (orc := ⟨[true, true], []⟩) (obl := [decide ((↑(ByteArray.size s) : Int) > (80000 : Int)) = true,
      true = true,
      true = true]) (by kernel_rfl) (.cons (by exact decide_eq_true (by omega)) (.cons (by rfl) (.cons (by rfl) .nil)))

set_option maxHeartbeats 2000000 in
theorem wt_k (s : ByteArray) (len : Nat) (K : Nat → Int) (hl : s.size ≤ 80000) (hk : 200 < len) : LawOk Try.prog 4 ([sA s, .nv (.one (.own 0))]) ([.ro 1 len (gK K)]) (bA true) :=
  law_run GbH_ok Try.func4 (orc := ⟨[false, true], []⟩) (obl := [decide ((↑(ByteArray.size s) : Int) > (80000 : Int)) = false,
      decide ((↑len : Int) > (200 : Int)) = true,
      true = true]) (by kernel_rfl) (.cons (by exact decide_eq_false (by omega)) (.cons (by exact decide_eq_true (by omega)) (.cons (by rfl) .nil)))

set_option maxHeartbeats 2000000 in
theorem wt_m (s : ByteArray) (len : Nat) (K : Nat → Int) (hl : s.size ≤ 80000) (hk : len ≤ 200) (hn : (if errT s K len = 0 then len else 0) ≤ 200) : LawOk Try.prog 4 ([sA s, .nv (.one (.own 0))]) ([.ro 1 len (gK K)]) (bA true) :=
  law_run GbH_ok Try.func4 (orc := ⟨[false, false, true, true, true], []⟩) (obl := [decide ((↑(ByteArray.size s) : Int) > (80000 : Int)) = false,
      decide ((↑len : Int) > (200 : Int)) = false,
      ByteArray.size s ≤ (140737488355328 : Nat),
      len ≤ (1000 : Nat),
      s = s,
      len = len,
      ∀ (i : Nat), i < len → K i = kOf (gK K) i ∧ True,
      ∀ (i : Nat), (i < if errT s (kOf (gK K)) len = (0 : Int) then len else (0 : Nat)) → (true && (true && (true && true))) = true,
      ByteArray.size s ≤ (140737488355328 : Nat),
      len ≤ (1000 : Nat),
      s = s,
      len = len,
      ∀ (i : Nat), i < len → K i = kOf (gK K) i ∧ True,
      ∀ (i : Nat), (i < if errT s (kOf (gK K)) len = (0 : Int) then len else (0 : Nat)) → (true && (true && (true && true))) = true,
      (if errT s (kOf (gK K)) len = (0 : Int) then len else (0 : Nat)) ≤ (100000 : Nat),
      ∀ (i : Nat), (i < if errT s (kOf (gK K)) len = (0 : Int) then len else (0 : Nat)) → flOf (gF (fldT s (kOf (gK K)))) i = flOf (gF (fldT s (kOf (gK K)))) i,
      (if errT s (kOf (gK K)) len = (0 : Int) then len else (0 : Nat)) = if errT s (kOf (gK K)) len = (0 : Int) then len else (0 : Nat),
      ∀ (i : Nat), (i < if errT s (kOf (gK K)) len = (0 : Int) then len else (0 : Nat)) → Fl.k (fldT s (kOf (gK K)) i) = Fl.k (flOf (gF (fldT s (kOf (gK K)))) i) ∧ Fl.n (fldT s (kOf (gK K)) i) = Fl.n (flOf (gF (fldT s (kOf (gK K)))) i) ∧ Fl.s (fldT s (kOf (gK K)) i) = Fl.s (flOf (gF (fldT s (kOf (gK K)))) i) ∧ True,
      (if errT s (kOf (gK K)) len = (0 : Int) then len else (0 : Nat)) = if errT s (kOf (gK K)) len = (0 : Int) then len else (0 : Nat),
      ∀ (i : Nat), (i < if errT s (kOf (gK K)) len = (0 : Int) then len else (0 : Nat)) → Fl.k (fldT s (kOf (gK K)) i) = Fl.k (flOf (gF (fldT s (kOf (gK K)))) i) ∧ Fl.n (fldT s (kOf (gK K)) i) = Fl.n (flOf (gF (fldT s (kOf (gK K)))) i) ∧ Fl.s (fldT s (kOf (gK K)) i) = Fl.s (flOf (gF (fldT s (kOf (gK K)))) i) ∧ True,
      true = true,
      ((if errT s (kOf (gK K)) len = (0 : Int) then (↑(atN s (kOf (gK K)) len) : Int) else (0 : Int)) == if errT s (kOf (gK K)) len = (0 : Int) then (↑(atN s (kOf (gK K)) len) : Int) else (0 : Int)) = true,
      (errT s (kOf (gK K)) len == errT s (kOf (gK K)) len) = true,
      true = true]) (by kernel_rfl) (.cons (by exact decide_eq_false (by omega)) (.cons (by exact decide_eq_false (by omega)) (.cons (by omega) (.cons (by omega) (.cons (by rfl) (.cons (by rfl) (.cons (by (intro _ _; exact ⟨rfl, trivial⟩)) (.cons (by (intro _ _; rfl)) (.cons (by omega) (.cons (by omega) (.cons (by rfl) (.cons (by rfl) (.cons (by (intro _ _; exact ⟨rfl, trivial⟩)) (.cons (by (intro _ _; rfl)) (.cons (by exact Nat.le_trans hn (by decide)) (.cons (by (intro _ _; rfl)) (.cons (by rfl) (.cons (by (intro _ _; exact ⟨rfl, rfl, rfl, trivial⟩)) (.cons (by rfl) (.cons (by (intro _ _; exact ⟨rfl, rfl, rfl, trivial⟩)) (.cons (by rfl) (.cons (by exact decide_eq_true (by omega)) (.cons (by exact decide_eq_true (by omega)) (.cons (by rfl) .nil))))))))))))))))))))))))
end Go.Proofs.Ytbgagcmdabpbgaa

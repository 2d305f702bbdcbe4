/- Runs of Go code, as printed by a program: no condition beyond those that each states. -/
import Derived.Test.YtbgagcmdabpbgaaWsP
import Derived.Test.YtbgagcmdabpbgaaChecked
import Derived.KernelRfl
namespace Go.Proofs.Ytbgagcmdabpbgaa
set_option linter.unusedVariables false
set_option linter.unusedSimpArgs false
set_option maxRecDepth 100000
open Go.RowKit E
set_option maxHeartbeats 2000000 in
theorem wo_m (s : ByteArray) (len : Nat) (K : Nat → Int) (hl : s.size ≤ 80000) (hk : len ≤ 200) (he : errT s K len = 0) (hn : (if errT s K len = 0 then len else 0) ≤ 200) (hw : ∀ i, i < (if errT s K len = 0 then len else 0) → (fldT s K i).wf) (hb : badZ (fldT s K) (if errT s K len = 0 then len else 0) = 0) (ha : atN s K len ≤ s.size) (ei : (if errT s K len = 0 then (atN s K len : Int) else 0) = (atN s K len : Int)) (d1 : decide ((if errT s K len = 0 then (atN s K len : Int) else 0) ≥ 0) = true) (d2 : decide ((if errT s K len = 0 then (atN s K len : Int) else 0) ≤ (s.size : Int)) = true) (es : ((putStr (fldT s K) (if errT s K len = 0 then len else 0)).toList == (s.extract 0 (atN s K len)).toList) = true) : LawOk Try.prog 6 ([sA s, .nv (.one (.own 0))]) ([.ro 1 len (gK K)]) (bA true) :=
  law_run GbH_ok Try.func6 (orc := ⟨[false, false, false, true, true, true, true], []⟩) (obl := [decide ((↑(ByteArray.size s) : Int) > (80000 : Int)) = false,
      decide ((↑len : Int) > (200 : Int)) = false,
      ByteArray.size s ≤ (140737488355328 : Nat),
      len ≤ (1000 : Nat),
      s = s,
      len = len,
      ∀ (i : Nat), i < len → K i = kOf (gK K) i ∧ True,
      ∀ (i : Nat), (i < if errT s (kOf (gK K)) len = (0 : Int) then len else (0 : Nat)) → (true && (true && (true && true))) = true,
      (errT s (kOf (gK K)) len != (0 : Int)) = false,
      (if errT s (kOf (gK K)) len = (0 : Int) then len else (0 : Nat)) ≤ (1000 : Nat),
      ∀ (i : Nat), (i < if errT s (kOf (gK K)) len = (0 : Int) then len else (0 : Nat)) → Fl.wf (flOf (gF (fldT s (kOf (gK K)))) i),
      (if errT s (kOf (gK K)) len = (0 : Int) then len else (0 : Nat)) = if errT s (kOf (gK K)) len = (0 : Int) then len else (0 : Nat),
      ∀ (i : Nat), (i < if errT s (kOf (gK K)) len = (0 : Int) then len else (0 : Nat)) → Fl.k (fldT s (kOf (gK K)) i) = Fl.k (flOf (gF (fldT s (kOf (gK K)))) i) ∧ Fl.n (fldT s (kOf (gK K)) i) = Fl.n (flOf (gF (fldT s (kOf (gK K)))) i) ∧ Fl.s (fldT s (kOf (gK K)) i) = Fl.s (flOf (gF (fldT s (kOf (gK K)))) i) ∧ True,
      (badZ (flOf (gF (fldT s (kOf (gK K))))) (if errT s (kOf (gK K)) len = (0 : Int) then len else (0 : Nat)) == (0 : Int)) = true,
      decide ((if errT s (kOf (gK K)) len = (0 : Int) then (↑(atN s (kOf (gK K)) len) : Int) else (0 : Int)) ≥ (0 : Int)) = true,
      decide ((if errT s (kOf (gK K)) len = (0 : Int) then (↑(atN s (kOf (gK K)) len) : Int) else (0 : Int)) ≤ (↑(ByteArray.size s) : Int)) = true,
      (0 : Int) ≤ Option.getD none (0 : Int),
      Option.getD none (0 : Int) ≤ Option.getD (some (Prod.snd (IntKind.i64, if errT s (kOf (gK K)) len = (0 : Int) then (↑(atN s (kOf (gK K)) len) : Int) else (0 : Int)))) (↑(ByteArray.size s) : Int),
      Option.getD (some (Prod.snd (IntKind.i64, if errT s (kOf (gK K)) len = (0 : Int) then (↑(atN s (kOf (gK K)) len) : Int) else (0 : Int)))) (↑(ByteArray.size s) : Int) ≤ (↑(ByteArray.size s) : Int),
      (ByteArray.toList (putStr (flOf (gF (fldT s (kOf (gK K))))) (if errT s (kOf (gK K)) len = (0 : Int) then len else (0 : Nat))) == ByteArray.toList (Prod.fst (ByteArray.extract s (Int.toNat (Option.getD none (0 : Int))) (Int.toNat (Option.getD (some (Prod.snd (IntKind.i64, if errT s (kOf (gK K)) len = (0 : Int) then (↑(atN s (kOf (gK K)) len) : Int) else (0 : Int)))) (↑(ByteArray.size s) : Int))), [(0 : Int) ≤ Option.getD none (0 : Int), Option.getD none (0 : Int) ≤ Option.getD (some (Prod.snd (IntKind.i64, if errT s (kOf (gK K)) len = (0 : Int) then (↑(atN s (kOf (gK K)) len) : Int) else (0 : Int)))) (↑(ByteArray.size s) : Int), Option.getD (some (Prod.snd (IntKind.i64, if errT s (kOf (gK K)) len = (0 : Int) then (↑(atN s (kOf (gK K)) len) : Int) else (0 : Int)))) (↑(ByteArray.size s) : Int) ≤ (↑(ByteArray.size s) : Int)]))) = true,
      true = true]) (by kernel_rfl) (.cons (by exact decide_eq_false (by omega)) (.cons (by exact decide_eq_false (by omega)) (.cons (by omega) (.cons (by omega) (.cons (by rfl) (.cons (by rfl) (.cons (by (intro _ _; exact ⟨rfl, trivial⟩)) (.cons (by (intro _ _; rfl)) (.cons (by exact bne_eq_false_iff_eq.2 he) (.cons (by exact Nat.le_trans hn (by decide)) (.cons (by assumption) (.cons (by rfl) (.cons (by (intro _ _; exact ⟨rfl, rfl, rfl, trivial⟩)) (.cons (by exact beq_iff_eq.2 hb) (.cons (by assumption) (.cons (by assumption) (.cons (by trivial) (.cons (by (simp only [Option.getD, ei]; omega)) (.cons (by exact of_decide_eq_true d2) (.cons (by (show ((putStr (fldT s K) (if errT s K len = 0 then len else 0)).toList == (s.extract 0 (if errT s K len = 0 then (atN s K len : Int) else 0).toNat).toList) = true; rw [ei]; exact es)) (.cons (by rfl) .nil)))))))))))))))))))))

set_option maxHeartbeats 2000000 in
theorem wo_e (s : ByteArray) (len : Nat) (K : Nat → Int) (hl : s.size ≤ 80000) (hk : len ≤ 200) (he : errT s K len ≠ 0) : LawOk Try.prog 6 ([sA s, .nv (.one (.own 0))]) ([.ro 1 len (gK K)]) (bA true) :=
  law_run GbH_ok Try.func6 (orc := ⟨[false, false, true, true, true], []⟩) (obl := [decide ((↑(ByteArray.size s) : Int) > (80000 : Int)) = false,
      decide ((↑len : Int) > (200 : Int)) = false,
      ByteArray.size s ≤ (140737488355328 : Nat),
      len ≤ (1000 : Nat),
      s = s,
      len = len,
      ∀ (i : Nat), i < len → K i = kOf (gK K) i ∧ True,
      ∀ (i : Nat), (i < if errT s (kOf (gK K)) len = (0 : Int) then len else (0 : Nat)) → (true && (true && (true && true))) = true,
      (errT s (kOf (gK K)) len != (0 : Int)) = true,
      ((↑(if errT s (kOf (gK K)) len = (0 : Int) then len else (0 : Nat)) : Int) == (0 : Int)) = true,
      ((if errT s (kOf (gK K)) len = (0 : Int) then (↑(atN s (kOf (gK K)) len) : Int) else (0 : Int)) == (0 : Int)) = true,
      true = true]) (by kernel_rfl) (.cons (by exact decide_eq_false (by omega)) (.cons (by exact decide_eq_false (by omega)) (.cons (by omega) (.cons (by omega) (.cons (by rfl) (.cons (by rfl) (.cons (by (intro _ _; exact ⟨rfl, trivial⟩)) (.cons (by (intro _ _; rfl)) (.cons (by exact bne_iff_ne.2 he) (.cons (by exact beq_iff_eq.2 (congrArg Int.ofNat (if_neg he))) (.cons (by exact beq_iff_eq.2 (if_neg he)) (.cons (by rfl) .nil))))))))))))

set_option maxHeartbeats 2000000 in
theorem wo_l (s : ByteArray) (len : Nat) (K : Nat → Int) (hl : 80000 < s.size) : LawOk Try.prog 6 ([sA s, .nv (.one (.own 0))]) ([.ro 1 len (gK K)]) (bA true) :=
  law_run GbH_ok Try.func6 (orc := ⟨[true, true], []⟩) (obl := [decide ((↑(ByteArray.size s) : Int) > (80000 : Int)) = true,
      true = true,
      true = true]) (by kernel_rfl) (.cons (by exact decide_eq_true (by omega)) (.cons (by rfl) (.cons (by rfl) .nil)))

set_option maxHeartbeats 2000000 in
theorem wo_k (s : ByteArray) (len : Nat) (K : Nat → Int) (hl : s.size ≤ 80000) (hk : 200 < len) : LawOk Try.prog 6 ([sA s, .nv (.one (.own 0))]) ([.ro 1 len (gK K)]) (bA true) :=
  law_run GbH_ok Try.func6 (orc := ⟨[false, true], []⟩) (obl := [decide ((↑(ByteArray.size s) : Int) > (80000 : Int)) = false,
      decide ((↑len : Int) > (200 : Int)) = true,
      true = true]) (by kernel_rfl) (.cons (by exact decide_eq_false (by omega)) (.cons (by exact decide_eq_true (by omega)) (.cons (by rfl) .nil)))
end Go.Proofs.Ytbgagcmdabpbgaa

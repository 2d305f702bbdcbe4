/- Runs of Go code, as printed by a program: no condition beyond those that each states. -/
import Derived.Test.YtecgigeahkijaaaOpV
import Derived.Test.YtecgigeahkijaaaChecked
import Derived.KernelRfl
namespace Go.Proofs.Ytecgigeahkijaaa
set_option linter.unusedVariables false
set_option linter.unusedSimpArgs false
set_option maxRecDepth 100000
open Go.RowKit E
attribute [local irreducible] rgt fldN fldF putStr badZ opsS allR opX numO
set_option maxHeartbeats 2000000 in
theorem oo_l (s t : ByteArray) (h : 2000 < s.size) : LawOk Try.prog 5 ([sA s, sA t]) ([]) (bA true) :=
  law_run GoG_ok Try.func5 (orc := ⟨[true, true], []⟩) (obl := [decide ((↑(ByteArray.size s) : Int) > (2000 : Int)) = true,
      true = true,
      true = true]) (by kernel_rfl) (.cons (by exact decide_eq_true (by omega)) (.cons (by rfl) (.cons (by rfl) .nil)))

set_option maxHeartbeats 2000000 in
theorem oo_k (s t : ByteArray) (h : s.size ≤ 2000) (ht : 2000 < t.size) : LawOk Try.prog 5 ([sA s, sA t]) ([]) (bA true) :=
  law_run GoG_ok Try.func5 (orc := ⟨[false, true], []⟩) (obl := [decide ((↑(ByteArray.size s) : Int) > (2000 : Int)) = false,
      decide ((↑(ByteArray.size t) : Int) > (2000 : Int)) = true,
      true = true]) (by kernel_rfl) (.cons (by exact decide_eq_false (by omega)) (.cons (by exact decide_eq_true (by omega)) (.cons (by rfl) .nil)))

set_option maxHeartbeats 2000000 in
theorem oo_t (s t : ByteArray) (h : s.size ≤ 2000) (ht : t.size ≤ 2000) (hn : numO s ≤ 2000) (hm : numO t ≤ 2000) (h0 : 0 < numO s) (p : Nat) (ep : IntKind.wrap IntKind.i64 ((numO s : Int) - 1) = p) (hp : p < numO s) (hk : (opX s p).k = 5) (hw : ∀ i, i < p → (opX s i).wf) (hr : ((if allR (opX s) p = true then (0 : Int) else 6) == 0) = true) (d1 : decide (((opsS (opX s) p).size : Int) < (s.size : Int)) = true) (he : ((opsS (opX s) p).toList == (s.extract 0 ((opsS (opX s) p).size : Int).toNat).toList) = true) : LawOk Try.prog 5 ([sA s, sA t]) ([]) (bA true) :=
  law_run GoG_ok Try.func5 (orc := ⟨[false, false, true, true, true, true, true], []⟩) (obl := [decide ((↑(ByteArray.size s) : Int) > (2000 : Int)) = false,
      decide ((↑(ByteArray.size t) : Int) > (2000 : Int)) = false,
      ByteArray.size s ≤ (100000000 : Nat),
      s = s,
      ∀ (i : Nat), i < numO s → (true && (true && (true && (true && (true && true))))) = true,
      decide ((↑(numO s) : Int) > (0 : Int)) = true,
      (0 : Int) ≤ IntKind.wrap IntKind.i64 ((↑(numO s) : Int) - (1 : Int)),
      IntKind.wrap IntKind.i64 ((↑(numO s) : Int) - (1 : Int)) < (↑(numO s) : Int),
      Int.toNat (IntKind.wrap IntKind.i64 ((↑(numO s) : Int) - (1 : Int))) < numO s,
      (Op5.k (opX s (Int.toNat (IntKind.wrap IntKind.i64 ((↑(numO s) : Int) - (1 : Int))))) == (5 : Int)) = true,
      (0 : Int) ≤ Prod.snd (IntKind.i64, IntKind.wrap IntKind.i64 ((↑(numO s) : Int) - (1 : Int))),
      Prod.snd (IntKind.i64, IntKind.wrap IntKind.i64 ((↑(numO s) : Int) - (1 : Int))) ≤ (↑(numO s) : Int),
      Int.toNat (Prod.snd (IntKind.i64, IntKind.wrap IntKind.i64 ((↑(numO s) : Int) - (1 : Int)))) ≤ (100000 : Nat),
      ∀ (i : Nat), i < Int.toNat (Prod.snd (IntKind.i64, IntKind.wrap IntKind.i64 ((↑(numO s) : Int) - (1 : Int)))) → Op5.wf (opOf (gO (opX s)) i),
      (0 : Nat) = (0 : Nat),
      Int.toNat (Prod.snd (IntKind.i64, IntKind.wrap IntKind.i64 ((↑(numO s) : Int) - (1 : Int)))) = Int.toNat (Prod.snd (IntKind.i64, IntKind.wrap IntKind.i64 ((↑(numO s) : Int) - (1 : Int)))),
      Int.toNat (Prod.snd (IntKind.i64, IntKind.wrap IntKind.i64 ((↑(numO s) : Int) - (1 : Int)))) = Int.toNat (Prod.snd (IntKind.i64, IntKind.wrap IntKind.i64 ((↑(numO s) : Int) - (1 : Int)))),
      Int.toNat (Prod.snd (IntKind.i64, IntKind.wrap IntKind.i64 ((↑(numO s) : Int) - (1 : Int)))) ≤ numO s,
      ∀ (i : Nat), i < Int.toNat (Prod.snd (IntKind.i64, IntKind.wrap IntKind.i64 ((↑(numO s) : Int) - (1 : Int)))) → Op5.k (opX s i) = Op5.k (opOf (gO (opX s)) i) ∧ Op5.fl (opX s i) = Op5.fl (opOf (gO (opX s)) i) ∧ Op5.id (opX s i) = Op5.id (opOf (gO (opX s)) i) ∧ Op5.ln (opX s i) = Op5.ln (opOf (gO (opX s)) i) ∧ Op5.tk (opX s i) = Op5.tk (opOf (gO (opX s)) i) ∧ True,
      ((if allR (opOf (gO (opX s))) (Int.toNat (Prod.snd (IntKind.i64, IntKind.wrap IntKind.i64 ((↑(numO s) : Int) - (1 : Int))))) = true then (0 : Int) else (6 : Int)) == (0 : Int)) = true,
      decide ((↑(ByteArray.size (opsS (opOf (gO (opX s))) (Int.toNat (Prod.snd (IntKind.i64, IntKind.wrap IntKind.i64 ((↑(numO s) : Int) - (1 : Int))))))) : Int) < (↑(ByteArray.size s) : Int)) = true,
      (0 : Int) ≤ Option.getD none (0 : Int),
      Option.getD none (0 : Int) ≤ Option.getD (some (Prod.snd (IntKind.i64, (↑(ByteArray.size (opsS (opOf (gO (opX s))) (Int.toNat (Prod.snd (IntKind.i64, IntKind.wrap IntKind.i64 ((↑(numO s) : Int) - (1 : Int))))))) : Int)))) (↑(ByteArray.size s) : Int),
      Option.getD (some (Prod.snd (IntKind.i64, (↑(ByteArray.size (opsS (opOf (gO (opX s))) (Int.toNat (Prod.snd (IntKind.i64, IntKind.wrap IntKind.i64 ((↑(numO s) : Int) - (1 : Int))))))) : Int)))) (↑(ByteArray.size s) : Int) ≤ (↑(ByteArray.size s) : Int),
      (ByteArray.toList (opsS (opOf (gO (opX s))) (Int.toNat (Prod.snd (IntKind.i64, IntKind.wrap IntKind.i64 ((↑(numO s) : Int) - (1 : Int)))))) == ByteArray.toList (Prod.fst (ByteArray.extract s (Int.toNat (Option.getD none (0 : Int))) (Int.toNat (Option.getD (some (Prod.snd (IntKind.i64, (↑(ByteArray.size (opsS (opOf (gO (opX s))) (Int.toNat (Prod.snd (IntKind.i64, IntKind.wrap IntKind.i64 ((↑(numO s) : Int) - (1 : Int))))))) : Int)))) (↑(ByteArray.size s) : Int))), [(0 : Int) ≤ Option.getD none (0 : Int), Option.getD none (0 : Int) ≤ Option.getD (some (Prod.snd (IntKind.i64, (↑(ByteArray.size (opsS (opOf (gO (opX s))) (Int.toNat (Prod.snd (IntKind.i64, IntKind.wrap IntKind.i64 ((↑(numO s) : Int) - (1 : Int))))))) : Int)))) (↑(ByteArray.size s) : Int), Option.getD (some (Prod.snd (IntKind.i64, (↑(ByteArray.size (opsS (opOf (gO (opX s))) (Int.toNat (Prod.snd (IntKind.i64, IntKind.wrap IntKind.i64 ((↑(numO s) : Int) - (1 : Int))))))) : Int)))) (↑(ByteArray.size s) : Int) ≤ (↑(ByteArray.size s) : Int)]))) = true,
      true = true]) (by kernel_rfl) (.cons (by exact decide_eq_false (by omega)) (.cons (by exact decide_eq_false (by omega)) (.cons (by omega) (.cons (by rfl) (.cons (by (intro _ _; rfl)) (.cons (by exact decide_eq_true (by omega)) (.cons (by (rw [ep]; omega)) (.cons (by (rw [ep]; omega)) (.cons (by (rw [ep]; omega)) (.cons (by (show ((opX s (IntKind.wrap IntKind.i64 ((numO s : Int) - 1)).toNat).k == 5) = true; rw [ep]; exact beq_iff_eq.2 hk)) (.cons (by (rw [ep]; omega)) (.cons (by (rw [ep]; omega)) (.cons (by (rw [ep]; omega)) (.cons (by (show ∀ i, i < (IntKind.wrap IntKind.i64 ((numO s : Int) - 1)).toNat → ((opX s) i).wf; rw [ep]; exact hw)) (.cons (by rfl) (.cons (by rfl) (.cons (by rfl) (.cons (by (rw [ep]; omega)) (.cons (by (intro _ _; exact ⟨rfl, rfl, rfl, rfl, rfl, trivial⟩)) (.cons (by (show ((if allR (opX s) (IntKind.wrap IntKind.i64 ((numO s : Int) - 1)).toNat = true then (0 : Int) else 6) == 0) = true; rw [ep]; exact hr)) (.cons (by (show decide (((opsS (opX s) (IntKind.wrap IntKind.i64 ((numO s : Int) - 1)).toNat).size : Int) < (s.size : Int)) = true; rw [ep]; exact d1)) (.cons (by trivial) (.cons (by (simp; done)) (.cons (by (show ((opsS (opX s) (IntKind.wrap IntKind.i64 ((numO s : Int) - 1)).toNat).size : Int) ≤ (s.size : Int); rw [ep]; exact Int.le_of_lt (of_decide_eq_true d1))) (.cons (by (show ((opsS (opX s) (IntKind.wrap IntKind.i64 ((numO s : Int) - 1)).toNat).toList == (s.extract 0 ((opsS (opX s) (IntKind.wrap IntKind.i64 ((numO s : Int) - 1)).toNat).size : Int).toNat).toList) = true; rw [ep]; exact he)) (.cons (by rfl) .nil))))))))))))))))))))))))))

set_option maxHeartbeats 2000000 in
theorem oo_w (s t : ByteArray) (h : s.size ≤ 2000) (ht : t.size ≤ 2000) (hn : numO s ≤ 2000) (hm : numO t ≤ 2000) (h0 : 0 < numO s) (p : Nat) (ep : IntKind.wrap IntKind.i64 ((numO s : Int) - 1) = p) (hp : p < numO s) (hk : (opX s p).k ≠ 5) (hw : ∀ i, i < numO s → (opX s i).wf) (hr : ((if allR (opX s) (numO s) = true then (0 : Int) else 6) == 0) = true) (hS : (opsS (opX s) (numO s)) = s) (hN : numO (s ++ t) = numO s + numO t) (hB : ∀ j, opX (s ++ t) j = if j < numO s then opX s j else if j < numO s + numO t then opX t (j - numO s) else opX (s ++ t) j) : LawOk Try.prog 5 ([sA s, sA t]) ([]) (bA true) :=
  law_run GoG_ok Try.func5 (orc := ⟨[false, false, true, false, true, true, true], []⟩) (obl := [decide ((↑(ByteArray.size s) : Int) > (2000 : Int)) = false,
      decide ((↑(ByteArray.size t) : Int) > (2000 : Int)) = false,
      ByteArray.size s ≤ (100000000 : Nat),
      s = s,
      ∀ (i : Nat), i < numO s → (true && (true && (true && (true && (true && true))))) = true,
      decide ((↑(numO s) : Int) > (0 : Int)) = true,
      (0 : Int) ≤ IntKind.wrap IntKind.i64 ((↑(numO s) : Int) - (1 : Int)),
      IntKind.wrap IntKind.i64 ((↑(numO s) : Int) - (1 : Int)) < (↑(numO s) : Int),
      Int.toNat (IntKind.wrap IntKind.i64 ((↑(numO s) : Int) - (1 : Int))) < numO s,
      (Op5.k (opX s (Int.toNat (IntKind.wrap IntKind.i64 ((↑(numO s) : Int) - (1 : Int))))) == (5 : Int)) = false,
      numO s ≤ (100000 : Nat),
      ∀ (i : Nat), i < numO s → Op5.wf (opOf (gO (opX s)) i),
      numO s = numO s,
      ∀ (i : Nat), i < numO s → Op5.k (opX s i) = Op5.k (opOf (gO (opX s)) i) ∧ Op5.fl (opX s i) = Op5.fl (opOf (gO (opX s)) i) ∧ Op5.id (opX s i) = Op5.id (opOf (gO (opX s)) i) ∧ Op5.ln (opX s i) = Op5.ln (opOf (gO (opX s)) i) ∧ Op5.tk (opX s i) = Op5.tk (opOf (gO (opX s)) i) ∧ True,
      (0 : Nat) + numO s ≤ (4611686018427387904 : Nat),
      ((0 : Nat) + numO s) * (32 : Nat) ≤ (140737488355328 : Nat),
      ByteArray.size t ≤ (100000000 : Nat),
      t = t,
      ∀ (i : Nat), i < numO t → (true && (true && (true && (true && (true && true))))) = true,
      (0 : Nat) + numO s + numO t ≤ (4611686018427387904 : Nat),
      ((0 : Nat) + numO s + numO t) * (32 : Nat) ≤ (140737488355328 : Nat),
      ((if allR (opOf (gO (opX s))) (numO s) = true then (0 : Int) else (6 : Int)) == (0 : Int)) = true,
      (ByteArray.toList (opsS (opOf (gO (opX s))) (numO s)) == ByteArray.toList s) = true,
      (↑(ByteArray.size s + ByteArray.size t) : Int) ≤ IntKind.max IntKind.i64,
      ByteArray.size (s ++ t) ≤ (100000000 : Nat),
      s ++ t = s ++ t,
      ∀ (i : Nat), i < numO (s ++ t) → (true && (true && (true && (true && (true && true))))) = true,
      numO (s ++ t) ≤ (100000000 : Nat),
      ∀ (i : Nat), i < numO (s ++ t) → opOf (gO (opX (s ++ t))) i = opOf (appG ((0 : Nat) + numO s) (numO t) (appG (0 : Nat) (numO s) (fun (x : Nat) => []) (gO (opX s))) (gO (opX t))) i,
      numO (s ++ t) = numO (s ++ t),
      ∀ (i : Nat), i < numO (s ++ t) → Op5.k (opX (s ++ t) i) = Op5.k (opOf (gO (opX (s ++ t))) i) ∧ Op5.fl (opX (s ++ t) i) = Op5.fl (opOf (gO (opX (s ++ t))) i) ∧ Op5.id (opX (s ++ t) i) = Op5.id (opOf (gO (opX (s ++ t))) i) ∧ Op5.ln (opX (s ++ t) i) = Op5.ln (opOf (gO (opX (s ++ t))) i) ∧ Op5.tk (opX (s ++ t) i) = Op5.tk (opOf (gO (opX (s ++ t))) i) ∧ True,
      (0 : Nat) + numO s + numO t = numO (s ++ t),
      ∀ (i : Nat), i < (0 : Nat) + numO s + numO t → AllT (leAts ([] ++ ([((0 : Nat), Bd.same (5 : Nat))] ++ ([((1 : Nat), Bd.same (4 : Nat))] ++ [])) ++ ([] ++ ([] ++ []) ++ ([] ++ []))) (2 : Nat) (if numO t = (1 : Nat) then if i = (0 : Nat) + numO s then gO (opX t) (0 : Nat) else if numO s = (1 : Nat) then if i = (0 : Nat) then gO (opX s) (0 : Nat) else [] else if i < (0 : Nat) then [] else gO (opX s) (i - (0 : Nat)) else if i < (0 : Nat) + numO s then if numO s = (1 : Nat) then if i = (0 : Nat) then gO (opX s) (0 : Nat) else [] else if i < (0 : Nat) then [] else gO (opX s) (i - (0 : Nat)) else gO (opX t) (i - ((0 : Nat) + numO s))) (gO (opOf (appG ((0 : Nat) + numO s) (numO t) (appG (0 : Nat) (numO s) (fun (x : Nat) => []) (gO (opX s))) (gO (opX t)))) i)),
      true = true,
      true = true]) (by kernel_rfl) (.cons (by exact decide_eq_false (by omega)) (.cons (by exact decide_eq_false (by omega)) (.cons (by omega) (.cons (by rfl) (.cons (by (intro _ _; rfl)) (.cons (by exact decide_eq_true (by omega)) (.cons (by (rw [ep]; omega)) (.cons (by (rw [ep]; omega)) (.cons (by (rw [ep]; omega)) (.cons (by (show ((opX s (IntKind.wrap IntKind.i64 ((numO s : Int) - 1)).toNat).k == 5) = false; rw [ep]; exact beq_eq_false_iff_ne.2 hk)) (.cons (by omega) (.cons (by assumption) (.cons (by rfl) (.cons (by (intro _ _; exact ⟨rfl, rfl, rfl, rfl, rfl, trivial⟩)) (.cons (by omega) (.cons (by omega) (.cons (by omega) (.cons (by rfl) (.cons (by (intro _ _; rfl)) (.cons (by omega) (.cons (by omega) (.cons (by assumption) (.cons (by (show ((opsS (opX s) (numO s)).toList == s.toList) = true; rw [hS]; exact toList_same _)) (.cons (by (show ((s.size + t.size : Nat) : Int) ≤ IntKind.max IntKind.i64; rw [show IntKind.max IntKind.i64 = 9223372036854775807 from rfl]; omega)) (.cons (by (show (s ++ t).size ≤ 100000000; rw [ByteArray.size_append]; omega)) (.cons (by rfl) (.cons (by (intro _ _; rfl)) (.cons (by (rw [hN]; omega)) (.cons (by (intro i hi; exact both_at hB i (hN ▸ hi))) (.cons (by rfl) (.cons (by (intro _ _; exact ⟨rfl, rfl, rfl, rfl, rfl, trivial⟩)) (.cons (by (rw [hN]; omega)) (.cons (by exact both_le _ _) (.cons (by rfl) (.cons (by rfl) .nil)))))))))))))))))))))))))))))))))))

set_option maxHeartbeats 2000000 in
theorem oo_0 (s t : ByteArray) (h : s.size ≤ 2000) (ht : t.size ≤ 2000) (hn : numO s ≤ 2000) (hm : numO t ≤ 2000) (h0 : numO s = 0) (hw : ∀ i, i < numO s → (opX s i).wf) (hr : ((if allR (opX s) (numO s) = true then (0 : Int) else 6) == 0) = true) (hS : (opsS (opX s) (numO s)) = s) (hN : numO (s ++ t) = numO s + numO t) (hB : ∀ j, opX (s ++ t) j = if j < numO s then opX s j else if j < numO s + numO t then opX t (j - numO s) else opX (s ++ t) j) : LawOk Try.prog 5 ([sA s, sA t]) ([]) (bA true) :=
  law_run GoG_ok Try.func5 (orc := ⟨[false, false, false, false, true, true, true], []⟩) (obl := [decide ((↑(ByteArray.size s) : Int) > (2000 : Int)) = false,
      decide ((↑(ByteArray.size t) : Int) > (2000 : Int)) = false,
      ByteArray.size s ≤ (100000000 : Nat),
      s = s,
      ∀ (i : Nat), i < numO s → (true && (true && (true && (true && (true && true))))) = true,
      decide ((↑(numO s) : Int) > (0 : Int)) = false,
      false = false,
      numO s ≤ (100000 : Nat),
      ∀ (i : Nat), i < numO s → Op5.wf (opOf (gO (opX s)) i),
      numO s = numO s,
      ∀ (i : Nat), i < numO s → Op5.k (opX s i) = Op5.k (opOf (gO (opX s)) i) ∧ Op5.fl (opX s i) = Op5.fl (opOf (gO (opX s)) i) ∧ Op5.id (opX s i) = Op5.id (opOf (gO (opX s)) i) ∧ Op5.ln (opX s i) = Op5.ln (opOf (gO (opX s)) i) ∧ Op5.tk (opX s i) = Op5.tk (opOf (gO (opX s)) i) ∧ True,
      (0 : Nat) + numO s ≤ (4611686018427387904 : Nat),
      ((0 : Nat) + numO s) * (32 : Nat) ≤ (140737488355328 : Nat),
      ByteArray.size t ≤ (100000000 : Nat),
      t = t,
      ∀ (i : Nat), i < numO t → (true && (true && (true && (true && (true && true))))) = true,
      (0 : Nat) + numO s + numO t ≤ (4611686018427387904 : Nat),
      ((0 : Nat) + numO s + numO t) * (32 : Nat) ≤ (140737488355328 : Nat),
      ((if allR (opOf (gO (opX s))) (numO s) = true then (0 : Int) else (6 : Int)) == (0 : Int)) = true,
      (ByteArray.toList (opsS (opOf (gO (opX s))) (numO s)) == ByteArray.toList s) = true,
      (↑(ByteArray.size s + ByteArray.size t) : Int) ≤ IntKind.max IntKind.i64,
      ByteArray.size (s ++ t) ≤ (100000000 : Nat),
      s ++ t = s ++ t,
      ∀ (i : Nat), i < numO (s ++ t) → (true && (true && (true && (true && (true && true))))) = true,
      numO (s ++ t) ≤ (100000000 : Nat),
      ∀ (i : Nat), i < numO (s ++ t) → opOf (gO (opX (s ++ t))) i = opOf (appG ((0 : Nat) + numO s) (numO t) (appG (0 : Nat) (numO s) (fun (x : Nat) => []) (gO (opX s))) (gO (opX t))) i,
      numO (s ++ t) = numO (s ++ t),
      ∀ (i : Nat), i < numO (s ++ t) → Op5.k (opX (s ++ t) i) = Op5.k (opOf (gO (opX (s ++ t))) i) ∧ Op5.fl (opX (s ++ t) i) = Op5.fl (opOf (gO (opX (s ++ t))) i) ∧ Op5.id (opX (s ++ t) i) = Op5.id (opOf (gO (opX (s ++ t))) i) ∧ Op5.ln (opX (s ++ t) i) = Op5.ln (opOf (gO (opX (s ++ t))) i) ∧ Op5.tk (opX (s ++ t) i) = Op5.tk (opOf (gO (opX (s ++ t))) i) ∧ True,
      (0 : Nat) + numO s + numO t = numO (s ++ t),
      ∀ (i : Nat), i < (0 : Nat) + numO s + numO t → AllT (leAts ([] ++ ([((0 : Nat), Bd.same (5 : Nat))] ++ ([((1 : Nat), Bd.same (4 : Nat))] ++ [])) ++ ([] ++ ([] ++ []) ++ ([] ++ []))) (2 : Nat) (if numO t = (1 : Nat) then if i = (0 : Nat) + numO s then gO (opX t) (0 : Nat) else if numO s = (1 : Nat) then if i = (0 : Nat) then gO (opX s) (0 : Nat) else [] else if i < (0 : Nat) then [] else gO (opX s) (i - (0 : Nat)) else if i < (0 : Nat) + numO s then if numO s = (1 : Nat) then if i = (0 : Nat) then gO (opX s) (0 : Nat) else [] else if i < (0 : Nat) then [] else gO (opX s) (i - (0 : Nat)) else gO (opX t) (i - ((0 : Nat) + numO s))) (gO (opOf (appG ((0 : Nat) + numO s) (numO t) (appG (0 : Nat) (numO s) (fun (x : Nat) => []) (gO (opX s))) (gO (opX t)))) i)),
      true = true,
      true = true]) (by kernel_rfl) (.cons (by exact decide_eq_false (by omega)) (.cons (by exact decide_eq_false (by omega)) (.cons (by omega) (.cons (by rfl) (.cons (by (intro _ _; rfl)) (.cons (by exact decide_eq_false (by omega)) (.cons (by rfl) (.cons (by omega) (.cons (by assumption) (.cons (by rfl) (.cons (by (intro _ _; exact ⟨rfl, rfl, rfl, rfl, rfl, trivial⟩)) (.cons (by omega) (.cons (by omega) (.cons (by omega) (.cons (by rfl) (.cons (by (intro _ _; rfl)) (.cons (by omega) (.cons (by omega) (.cons (by assumption) (.cons (by (show ((opsS (opX s) (numO s)).toList == s.toList) = true; rw [hS]; exact toList_same _)) (.cons (by (show ((s.size + t.size : Nat) : Int) ≤ IntKind.max IntKind.i64; rw [show IntKind.max IntKind.i64 = 9223372036854775807 from rfl]; omega)) (.cons (by (show (s ++ t).size ≤ 100000000; rw [ByteArray.size_append]; omega)) (.cons (by rfl) (.cons (by (intro _ _; rfl)) (.cons (by (rw [hN]; omega)) (.cons (by (intro i hi; exact both_at hB i (hN ▸ hi))) (.cons (by rfl) (.cons (by (intro _ _; exact ⟨rfl, rfl, rfl, rfl, rfl, trivial⟩)) (.cons (by (rw [hN]; omega)) (.cons (by exact both_le _ _) (.cons (by rfl) (.cons (by rfl) .nil))))))))))))))))))))))))))))))))
end Go.Proofs.Ytecgigeahkijaaa

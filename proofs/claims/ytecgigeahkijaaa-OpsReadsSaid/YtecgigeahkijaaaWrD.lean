/- Runs of Go code, as printed by a program: no condition beyond those that each states. -/
import Derived.Test.YtecgigeahkijaaaWrC
import Derived.Test.YtecgigeahkijaaaChecked
import Derived.KernelRfl
namespace Go.Proofs.Ytecgigeahkijaaa
set_option linter.unusedVariables false
set_option linter.unusedSimpArgs false
set_option maxRecDepth 100000
open Go.RowKit E
set_option maxHeartbeats 2000000 in
theorem wb_f (n : Nat) (F : Nat → Int) (c : Int) (hn : n + 1 ≤ 140737488355328) : FnOk Try.prog 36 ([.nv (.one (.ptr 0 0)), .nv (.one (.val (.int .u8 c)))]) (bldM n F) (.nv (.one (.val .nilIface))) (bldP (n + 1) (catF n F [c])) :=
  fn_run Gb1_ok Try.func36 (orc := ⟨[], []⟩) (obl := [(0 : Nat) = (0 : Nat),
      n = n,
      ∀ (i : Nat), i < n → F i = F i ∧ True,
      ∀ (i : Nat), i < n → (true && true) = true,
      n + (1 : Nat) ≤ (4611686018427387904 : Nat),
      (n + (1 : Nat)) * (1 : Nat) ≤ (140737488355328 : Nat),
      Value.nilIface = Value.nilIface,
      n + (1 : Nat) = n + (1 : Nat),
      ∀ (i : Nat), i < n + (1 : Nat) → AllT (leAts ([(nat_lit 1, Bd.same (nat_lit 1)), (nat_lit 0, Bd.same (nat_lit 0))] ++ ([] ++ []) ++ ([] ++ ([((0 : Nat), Bd.same (0 : Nat))] ++ ([((2 : Nat), Bd.same (3 : Nat))] ++ []) ++ []) ++ ([((0 : Nat), Bd.same (0 : Nat))] ++ ([((2 : Nat), Bd.same (3 : Nat))] ++ []) ++ ([] ++ []) ++ ([((0 : Nat), Bd.same (0 : Nat))] ++ ([((2 : Nat), Bd.same (3 : Nat))] ++ []) ++ ([] ++ []))))) (3 : Nat) (if i = n then [At.val (Value.int IntKind.u8 c)] else gB (fun (k : Nat) => F k) i) (gB (catF n F [c]) i))]) (by kernel_rfl) (.cons (by rfl) (.cons (by rfl) (.cons (by (intro _ _; exact ⟨rfl, trivial⟩)) (.cons (by (intro _ _; rfl)) (.cons (by omega) (.cons (by omega) (.cons (by rfl) (.cons (by rfl) (.cons (by (intro i hi; have h9 := cat_one n F c i hi; by_cases e : i = n; (rw [if_pos e] at h9 ⊢; exact ⟨h9, trivial⟩); (rw [if_neg e] at h9 ⊢; exact ⟨h9, trivial⟩))) .nil))))))))) (Nat.le_of_ble_eq_true (by kernel_rfl))

set_option maxHeartbeats 2000000 in
theorem ws_f (n : Nat) (F : Nat → Int) (s : ByteArray) (hn : n + s.size ≤ 140737488355328) : FnOk Try.prog 20 ([.nv (.one (.ptr 0 0)), .nv (.one (.val (.string s)))]) (bldM n F) (.tup [.one (.val (.int .i64 s.size)), .one (.val .nilIface)]) (bldP (n + s.size) (catF n F (ints s))) :=
  fn_run Gb1_ok Try.func20 (orc := ⟨[], []⟩) (obl := [(0 : Nat) = (0 : Nat),
      n = n,
      ∀ (i : Nat), i < n → F i = F i ∧ True,
      ∀ (i : Nat), i < n → (true && true) = true,
      n + ByteArray.size s ≤ (140737488355328 : Nat),
      (↑(ByteArray.size s) : Int) = (↑(ByteArray.size s) : Int),
      Value.nilIface = Value.nilIface,
      n + ByteArray.size s = n + ByteArray.size s,
      ∀ (i : Nat), i < n + ByteArray.size s → AllT (leAts ([(nat_lit 1, Bd.same (nat_lit 1)), (nat_lit 0, Bd.same (nat_lit 0))] ++ ([] ++ ([] ++ []) ++ []) ++ ([] ++ ([((0 : Nat), Bd.same (0 : Nat))] ++ ([((2 : Nat), Bd.same (2 : Nat))] ++ []) ++ []) ++ ([((0 : Nat), Bd.same (0 : Nat))] ++ ([((2 : Nat), Bd.same (2 : Nat))] ++ []) ++ ([] ++ []) ++ ([((0 : Nat), Bd.same (0 : Nat))] ++ ([((2 : Nat), Bd.same (2 : Nat))] ++ []) ++ ([] ++ []))))) (3 : Nat) (if i < n then gB (fun (k : Nat) => F k) i else [At.val (Value.int IntKind.u8 (↑(UInt8.toNat (List.getD (Array.toList (ByteArray.data s)) (Int.toNat (↑(i - n) : Int)) (0 : UInt8))) : Int))]) (gB (catF n F (ints s)) i))]) (by kernel_rfl) (.cons (by rfl) (.cons (by rfl) (.cons (by (intro _ _; exact ⟨rfl, trivial⟩)) (.cons (by (intro _ _; rfl)) (.cons (by assumption) (.cons (by rfl) (.cons (by rfl) (.cons (by rfl) (.cons (by (intro i hi; by_cases e : i < n; (rw [if_pos e]; exact ⟨(if_pos e).symm, trivial⟩); (rw [if_neg e]; exact ⟨(byteAt_ints s (i - n)).trans (if_neg e).symm, trivial⟩))) .nil))))))))) (Nat.le_of_ble_eq_true (by kernel_rfl))

set_option maxHeartbeats 2000000 in
theorem st_f (n : Nat) (F : Nat → Int) (h0 : 0 < n) (hR : byteR n F) : FnOk Try.prog 21 ([.nv (.one (.ptr 0 0))]) ([.box 52 [.any, .own 1], .row 5 1 n (gB F)]) (.nv (.one (.val (.string (bstr n F))))) ([.gone, .gone]) :=
  fn_run Gb1_ok Try.func21 (orc := ⟨[], []⟩) (obl := [(0 : Nat) < n,
      (↑n : Int) = (↑n : Int),
      (0 : Nat) < n,
      ∀ (i : Nat), i < n → gB F i = [At.val (Value.int IntKind.u8 (F i))] ∧ (0 : Int) ≤ F i ∧ F i < (256 : Int),
      { data := List.toArray (List.map (fun (i : Nat) => UInt8.ofNat (Int.toNat (F i))) (List.range n)) } = bstr n F]) (by kernel_rfl) (.cons (by assumption) (.cons (by rfl) (.cons (by assumption) (.cons (by exact bytesR_gB hR) (.cons (by rfl) .nil))))) (Nat.le_of_ble_eq_true (by kernel_rfl))

set_option maxHeartbeats 2000000 in
theorem st_e  : FnOk Try.prog 21 ([.nv (.one (.ptr 0 0))]) ([.box 52 [.any, .val (.slice none 0 0)]]) (.nv (.one (.val (.string .empty)))) ([.gone]) :=
  fn_run Gb1_ok Try.func21 (orc := ⟨[], []⟩) (obl := [(↑(0 : Nat) : Int) = (0 : Int),
      ByteArray.empty = ByteArray.empty]) (by kernel_rfl) (.cons (by rfl) (.cons (by rfl) .nil)) (Nat.le_of_ble_eq_true (by kernel_rfl))

set_option maxHeartbeats 2000000 in
theorem scl_e (s : ByteArray) (h : s.size = 0) : PureOk Try.prog 44 ([.nv (.one (.val (.string s)))]) (.nv (.one (.val (.string .empty)))) :=
  pure_run Gb1_ok Try.func44 (orc := ⟨[true], []⟩) (obl := [((↑(ByteArray.size s) : Int) == (0 : Int)) = true,
      (ByteArray.mk #[]) = ByteArray.empty]) (by kernel_rfl) (.cons (by exact decide_eq_true (by omega)) (.cons (by rfl) .nil))

set_option maxHeartbeats 2000000 in
theorem scl_s (s : ByteArray) (h : s.size ≠ 0) (hb : s.size ≤ 140737488355328) (hz : (s.size : Int) ≠ 0) : PureOk Try.prog 44 ([.nv (.one (.val (.string s)))]) (.nv (.one (.val (.string s)))) :=
  pure_run Gb1_ok Try.func44 (orc := ⟨[false], []⟩) (obl := [((↑(ByteArray.size s) : Int) == (0 : Int)) = false,
      (0 : Int) ≤ (↑(ByteArray.size s) : Int),
      (↑(ByteArray.size s) : Int) = (↑(ByteArray.size s) : Int),
      (↑(1 : Nat) : Int) * (↑(ByteArray.size s) : Int) ≤ (281474976710656 : Int),
      (↑(ByteArray.size s) : Int) ≤ (4611686018427387904 : Int),
      Int.toNat (↑(ByteArray.size s) : Int) = ByteArray.size s,
      (0 : Nat) < Int.toNat (↑(ByteArray.size s) : Int),
      (0 : Int) ≤ (0 : Int),
      (0 : Int) < (↑(Int.toNat (↑(ByteArray.size s) : Int)) : Int),
      (↑(Int.toNat (↑(ByteArray.size s) : Int)) : Int) = (↑(Int.toNat (↑(ByteArray.size s) : Int)) : Int),
      (0 : Nat) < Int.toNat (↑(ByteArray.size s) : Int),
      ∀ (i : Nat), i < Int.toNat (↑(ByteArray.size s) : Int) → [At.val (Value.int IntKind.u8 (↑(UInt8.toNat (List.getD (Array.toList (ByteArray.data s)) (Int.toNat (↑i : Int)) (0 : UInt8))) : Int))] = [At.val (Value.int IntKind.u8 (↑(UInt8.toNat (List.getD (Array.toList (ByteArray.data s)) (Int.toNat (↑i : Int)) (0 : UInt8))) : Int))] ∧ (0 : Int) ≤ (↑(UInt8.toNat (List.getD (Array.toList (ByteArray.data s)) (Int.toNat (↑i : Int)) (0 : UInt8))) : Int) ∧ (↑(UInt8.toNat (List.getD (Array.toList (ByteArray.data s)) (Int.toNat (↑i : Int)) (0 : UInt8))) : Int) < (256 : Int),
      { data := List.toArray (List.map (fun (i : Nat) => UInt8.ofNat (Int.toNat (↑(UInt8.toNat (List.getD (Array.toList (ByteArray.data s)) (Int.toNat (↑i : Int)) (0 : UInt8))) : Int))) (List.range (Int.toNat (↑(ByteArray.size s) : Int)))) } = s]) (by kernel_rfl) (.cons (by exact decide_eq_false (by omega)) (.cons (by omega) (.cons (by rfl) (.cons (by omega) (.cons (by omega) (.cons (by rfl) (.cons (by omega) (.cons (by trivial) (.cons (by omega) (.cons (by rfl) (.cons (by omega) (.cons (by exact bytesR_strG s) (.cons (by exact rowStr_strG s) .nil)))))))))))))
end Go.Proofs.Ytecgigeahkijaaa

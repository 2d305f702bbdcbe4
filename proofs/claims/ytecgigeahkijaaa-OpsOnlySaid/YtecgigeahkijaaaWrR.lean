/- Runs of Go code, as printed by a program: no condition beyond those that each states. -/
import Derived.Test.YtecgigeahkijaaaWrL
import Derived.Test.YtecgigeahkijaaaChecked
import Derived.KernelRfl
namespace Go.Proofs.Ytecgigeahkijaaa
set_option linter.unusedVariables false
set_option linter.unusedSimpArgs false
set_option maxRecDepth 100000
open Go.RowKit E
set_option maxHeartbeats 2000000 in
theorem pt_n (n N i : Nat) (F H : Nat → Int) (k v b : Int) (s : ByteArray) (hi : i ≤ 8) (hn : n + 1 ≤ 140737488355328) (eb : IntKind.wrap IntKind.u8 (Int.fdiv v (2 ^ Nat.min (IntKind.wrap IntKind.i64 (8 * (i : Int))).toNat 64)) = b) (ei : IntKind.wrap IntKind.i64 (8 * (i : Int)) = 8 * i) (e3 : n + 1 = N) (e4 : ∀ j, j < n + 1 → catF n F [b] j = H j) : CodeOk Try.prog 2 (loopOf Try.f27 0) (mkSt 41 [(0, .nv (.one (.ptr 0 0))), (3, .nv (.one (.ptr 2 0))), (4, iA i)] [.box 52 [.optr 0, .own 3], .gone, .box 47 [.val (.int .i64 k), .val (.int .u64 v), .val (.string s)], .row 5 1 n (gB F)]) .normal (mkSt 41 [(0, .nv (.one (.ptr 0 0))), (3, .nv (.one (.ptr 2 0))), (4, iA ((i : Int) - 1))] [.box 52 [.optr 0, .own 3], .gone, .box 47 [.val (.int .i64 k), .val (.int .u64 v), .val (.string s)], .row 5 1 N (gB H)]) :=
  code_run Gb6_ok (orc := ⟨[true], []⟩) (obl := [decide ((↑i : Int) ≥ (0 : Int)) = true,
      (0 : Int) ≤ IntKind.wrap IntKind.i64 ((8 : Int) * (↑i : Int)),
      n + (1 : Nat) ≤ (140737488355328 : Nat),
      (0 : Nat) = (0 : Nat),
      IntKind.wrap IntKind.u8 (Int.fdiv v ((2 : Int) ^ min (Int.toNat (IntKind.wrap IntKind.i64 ((8 : Int) * (↑i : Int)))) (IntKind.bits IntKind.u64))) = IntKind.wrap IntKind.u8 (Int.fdiv v ((2 : Int) ^ min (Int.toNat (IntKind.wrap IntKind.i64 ((8 : Int) * (↑i : Int)))) (IntKind.bits IntKind.u64))),
      n = n,
      ∀ (i : Nat), i < n → F i = F i ∧ True,
      ∀ (i : Nat), i < n + (1 : Nat) → (true && true) = true,
      (0 : Nat) = (0 : Nat),
      (0 : Nat) = (0 : Nat),
      IntKind.wrap IntKind.i64 ((↑i : Int) - (1 : Int)) = (↑i : Int) - (1 : Int),
      k = k,
      v = v,
      s = s,
      n + (1 : Nat) = N,
      ∀ (i_1 : Nat), i_1 < n + (1 : Nat) → catF n (fun (k : Nat) => F k) [IntKind.wrap IntKind.u8 (Int.fdiv v ((2 : Int) ^ min (Int.toNat (IntKind.wrap IntKind.i64 ((8 : Int) * (↑i : Int)))) (IntKind.bits IntKind.u64)))] i_1 = H i_1 ∧ True]) (by kernel_rfl) (.cons (by rfl) (.cons (by (rw [ei]; omega)) (.cons (by assumption) (.cons (by rfl) (.cons (by rfl) (.cons (by rfl) (.cons (by (intro _ _; exact ⟨rfl, trivial⟩)) (.cons (by (intro _ _; rfl)) (.cons (by rfl) (.cons (by rfl) (.cons (by exact w64 (by omega) (by omega)) (.cons (by rfl) (.cons (by rfl) (.cons (by rfl) (.cons (by assumption) (.cons (by (intro j hj; exact ⟨by rw [← e4 j hj, ← eb]; rfl, trivial⟩)) .nil)))))))))))))))) (Nat.le_of_ble_eq_true (by kernel_rfl))

set_option maxHeartbeats 2000000 in
theorem pt_e (n : Nat) (F : Nat → Int) (k v : Int) (s : ByteArray) : CodeOk Try.prog 2 (loopOf Try.f27 0) (mkSt 41 [(0, .nv (.one (.ptr 0 0))), (3, .nv (.one (.ptr 2 0))), (4, iA (-1))] [.box 52 [.optr 0, .own 3], .gone, .box 47 [.val (.int .i64 k), .val (.int .u64 v), .val (.string s)], .row 5 1 n (gB F)]) (.exit 1) (mkSt 41 [(0, .nv (.one (.ptr 0 0))), (3, .nv (.one (.ptr 2 0))), (4, iA (-1))] [.box 52 [.optr 0, .own 3], .gone, .box 47 [.val (.int .i64 k), .val (.int .u64 v), .val (.string s)], .row 5 1 n (gB F)]) :=
  code_run Gb6_ok (orc := ⟨[false], []⟩) (obl := [decide ((-1 : Int) ≥ (0 : Int)) = false,
      (0 : Nat) = (0 : Nat),
      (0 : Nat) = (0 : Nat),
      (-1 : Int) = (-1 : Int),
      k = k,
      v = v,
      s = s,
      n = n,
      ∀ (i : Nat), i < n → F i = F i ∧ True]) (by kernel_rfl) (.cons (by rfl) (.cons (by rfl) (.cons (by rfl) (.cons (by rfl) (.cons (by rfl) (.cons (by rfl) (.cons (by rfl) (.cons (by rfl) (.cons (by (intro _ _; exact ⟨rfl, trivial⟩)) .nil))))))))) (Nat.le_of_ble_eq_true (by kernel_rfl))

set_option maxHeartbeats 2000000 in
theorem pt_w (n N : Nat) (F F0 H : Nat → Int) (k v w : Int) (s : ByteArray) (h5 : k ≠ 5) (h6 : k ≠ 6) (e0 : ∀ i, i < n → F i = F0 i) (ew : IntKind.wrap IntKind.i64 (widthZ k - 1) = w) (l0 : CodeOk Try.prog 2 (.loop (loopOf Try.f27 0)) (mkSt 41 [(0, .nv (.one (.ptr 0 0))), (3, .nv (.one (.ptr 2 0))), (4, iA w)] [.box 52 [.optr 0, .own 3], .gone, .box 47 [.val (.int .i64 k), .val (.int .u64 v), .val (.string s)], .row 5 1 n (gB F0)]) (.exit 1) (mkSt 41 [(0, .nv (.one (.ptr 0 0))), (3, .nv (.one (.ptr 2 0))), (4, iA (-1))] [.box 52 [.optr 0, .own 3], .gone, .box 47 [.val (.int .i64 k), .val (.int .u64 v), .val (.string s)], .row 5 1 N (gB H)])) : FnOk Try.prog 27 ([.nv (.one (.ptr 0 0)), .nv (.agg [.val (.int .i64 k), .val (.int .u64 v), .val (.string s)])]) (bldM n F) (.any) (bldP N H) :=
  fn_run Gb6_ok Try.func27 (orc := ⟨[false, false], [⟨mkSt 41 [(0, .nv (.one (.ptr 0 0))), (3, .nv (.one (.ptr 2 0))), (4, iA w)] [.box 52 [.optr 0, .own 3], .gone, .box 47 [.val (.int .i64 k), .val (.int .u64 v), .val (.string s)], .row 5 1 n (gB F0)], .exit 1, mkSt 41 [(0, .nv (.one (.ptr 0 0))), (3, .nv (.one (.ptr 2 0))), (4, iA (-1))] [.box 52 [.optr 0, .own 3], .gone, .box 47 [.val (.int .i64 k), .val (.int .u64 v), .val (.string s)], .row 5 1 N (gB H)]⟩]⟩) (obl := [(k == (5 : Int)) = false,
      (k == (6 : Int)) = false,
      (0 : Nat) = (0 : Nat),
      (0 : Nat) = (0 : Nat),
      IntKind.wrap IntKind.i64 (widthZ k - (1 : Int)) = w,
      k = k,
      v = v,
      s = s,
      n = n,
      ∀ (i : Nat), i < n → F i = F0 i ∧ True,
      (2 : Nat) ≤ (4 : Nat),
      CodeOk Try.prog (2 : Nat) (Code.loop (loopOf Try.f27 (0 : Nat))) (mkSt (41 : Nat) [((0 : Nat), SV.nv (NV.one (At.ptr (0 : Nat) (0 : Nat)))), ((3 : Nat), SV.nv (NV.one (At.ptr (2 : Nat) (0 : Nat)))), ((4 : Nat), iA w)] [Seg.box (52 : TypeId) [At.optr (0 : Nat), At.own (3 : Nat)], Seg.gone, Seg.box (47 : TypeId) [At.val (Value.int IntKind.i64 k), At.val (Value.int IntKind.u64 v), At.val (Value.string s)], Seg.row (5 : TypeId) (1 : Nat) n (gB F0)]) (Ex.exit (1 : Nat)) (mkSt (41 : Nat) [((0 : Nat), SV.nv (NV.one (At.ptr (0 : Nat) (0 : Nat)))), ((3 : Nat), SV.nv (NV.one (At.ptr (2 : Nat) (0 : Nat)))), ((4 : Nat), iA (-1 : Int))] [Seg.box (52 : TypeId) [At.optr (0 : Nat), At.own (3 : Nat)], Seg.gone, Seg.box (47 : TypeId) [At.val (Value.int IntKind.i64 k), At.val (Value.int IntKind.u64 v), At.val (Value.string s)], Seg.row (5 : TypeId) (1 : Nat) N (gB H)]),
      N = N,
      ∀ (i : Nat), i < N → H i = H i ∧ True]) (by kernel_rfl) (.cons (by exact decide_eq_false (by omega)) (.cons (by exact decide_eq_false (by omega)) (.cons (by rfl) (.cons (by rfl) (.cons (by assumption) (.cons (by rfl) (.cons (by rfl) (.cons (by rfl) (.cons (by rfl) (.cons (by (intro i hi; exact ⟨e0 i hi, trivial⟩)) (.cons (by trivial) (.cons (by assumption) (.cons (by rfl) (.cons (by (intro _ _; exact ⟨rfl, trivial⟩)) .nil)))))))))))))) (Nat.le_of_ble_eq_true (by kernel_rfl))

set_option maxHeartbeats 2000000 in
theorem pt_5 (n : Nat) (F : Nat → Int) (v : Int) (s : ByteArray) (h0 : 0 ≤ v) (h1 : v ≤ 18446744073709551615) (hn : n + 10 ≤ 140737488355328) : FnOk Try.prog 27 ([.nv (.one (.ptr 0 0)), .nv (.agg [.val (.int .i64 5), .val (.int .u64 v), .val (.string s)])]) (bldM n F) (.any) (bldP (n + (varL 9 v).length) (catF n F (varL 9 v))) :=
  fn_run Gb6_ok Try.func27 (orc := ⟨[true], []⟩) (obl := [((5 : Int) == (5 : Int)) = true,
      (0 : Int) ≤ v,
      v ≤ (18446744073709551615 : Int),
      n + (10 : Nat) ≤ (140737488355328 : Nat),
      (0 : Nat) = (0 : Nat),
      v = v,
      n = n,
      ∀ (i : Nat), i < n → F i = F i ∧ True,
      ∀ (i : Nat), i < n + List.length (varL (9 : Nat) v) → (true && true) = true,
      n + List.length (varL (9 : Nat) v) = n + List.length (varL (9 : Nat) v),
      ∀ (i : Nat), i < n + List.length (varL (9 : Nat) v) → catF n (fun (k : Nat) => F k) (varL (9 : Nat) v) i = catF n F (varL (9 : Nat) v) i ∧ True]) (by kernel_rfl) (.cons (by rfl) (.cons (by assumption) (.cons (by assumption) (.cons (by assumption) (.cons (by rfl) (.cons (by rfl) (.cons (by rfl) (.cons (by (intro i hi; exact ⟨rfl, trivial⟩)) (.cons (by (intro _ _; rfl)) (.cons (by rfl) (.cons (by (intro i hi; exact ⟨rfl, trivial⟩)) .nil))))))))))) (Nat.le_of_ble_eq_true (by kernel_rfl))

set_option maxHeartbeats 2000000 in
theorem pt_6 (n N : Nat) (F H : Nat → Int) (v : Int) (s : ByteArray) (hs : s.size ≤ 65535) (hl : (varL 9 s.size).length ≤ 10) (hn : n + 65546 ≤ 140737488355328) (ew : IntKind.wrap IntKind.u64 (s.size : Int) = s.size) (e1 : n + (varL 9 s.size).length + s.size = N) (e2 : ∀ i, i < N → catF (n + (varL 9 s.size).length) (catF n F (varL 9 s.size)) (ints s) i = H i) : FnOk Try.prog 27 ([.nv (.one (.ptr 0 0)), .nv (.agg [.val (.int .i64 6), .val (.int .u64 v), .val (.string s)])]) (bldM n F) (.any) (bldP N H) :=
  fn_run Gb6_ok Try.func27 (orc := ⟨[false, true], []⟩) (obl := [((6 : Int) == (5 : Int)) = false,
      ((6 : Int) == (6 : Int)) = true,
      (0 : Int) ≤ IntKind.wrap IntKind.u64 (↑(ByteArray.size s) : Int),
      IntKind.wrap IntKind.u64 (↑(ByteArray.size s) : Int) ≤ (18446744073709551615 : Int),
      n + (10 : Nat) ≤ (140737488355328 : Nat),
      (0 : Nat) = (0 : Nat),
      IntKind.wrap IntKind.u64 (↑(ByteArray.size s) : Int) = IntKind.wrap IntKind.u64 (↑(ByteArray.size s) : Int),
      n = n,
      ∀ (i : Nat), i < n → F i = F i ∧ True,
      ∀ (i : Nat), i < n + List.length (varL (9 : Nat) (IntKind.wrap IntKind.u64 (↑(ByteArray.size s) : Int))) → (true && true) = true,
      n + List.length (varL (9 : Nat) (IntKind.wrap IntKind.u64 (↑(ByteArray.size s) : Int))) + ByteArray.size s ≤ (140737488355328 : Nat),
      (0 : Nat) = (0 : Nat),
      s = s,
      n + List.length (varL (9 : Nat) (IntKind.wrap IntKind.u64 (↑(ByteArray.size s) : Int))) = n + List.length (varL (9 : Nat) (IntKind.wrap IntKind.u64 (↑(ByteArray.size s) : Int))),
      ∀ (i : Nat), i < n + List.length (varL (9 : Nat) (IntKind.wrap IntKind.u64 (↑(ByteArray.size s) : Int))) → catF n (fun (k : Nat) => F k) (varL (9 : Nat) (IntKind.wrap IntKind.u64 (↑(ByteArray.size s) : Int))) i = catF n (fun (k : Nat) => F k) (varL (9 : Nat) (IntKind.wrap IntKind.u64 (↑(ByteArray.size s) : Int))) i ∧ True,
      ∀ (i : Nat), i < n + List.length (varL (9 : Nat) (IntKind.wrap IntKind.u64 (↑(ByteArray.size s) : Int))) + ByteArray.size s → (true && true) = true,
      n + List.length (varL (9 : Nat) (IntKind.wrap IntKind.u64 (↑(ByteArray.size s) : Int))) + ByteArray.size s = N,
      ∀ (i : Nat), i < n + List.length (varL (9 : Nat) (IntKind.wrap IntKind.u64 (↑(ByteArray.size s) : Int))) + ByteArray.size s → catF (n + List.length (varL (9 : Nat) (IntKind.wrap IntKind.u64 (↑(ByteArray.size s) : Int)))) (fun (k : Nat) => catF n (fun (k : Nat) => F k) (varL (9 : Nat) (IntKind.wrap IntKind.u64 (↑(ByteArray.size s) : Int))) k) (ints s) i = H i ∧ True]) (by kernel_rfl) (.cons (by rfl) (.cons (by rfl) (.cons (by (rw [ew]; omega)) (.cons (by (rw [ew]; omega)) (.cons (by omega) (.cons (by rfl) (.cons (by rfl) (.cons (by rfl) (.cons (by (intro _ _; exact ⟨rfl, trivial⟩)) (.cons (by (intro _ _; rfl)) (.cons (by (rw [ew]; omega)) (.cons (by rfl) (.cons (by rfl) (.cons (by rfl) (.cons (by (intro _ _; exact ⟨rfl, trivial⟩)) (.cons (by (intro _ _; rfl)) (.cons (by (rw [ew]; omega)) (.cons (by (intro i hi; rw [ew] at hi ⊢; exact ⟨e2 i (by omega), trivial⟩)) .nil)))))))))))))))))) (Nat.le_of_ble_eq_true (by kernel_rfl))
end Go.Proofs.Ytecgigeahkijaaa

/- wire: put as a specification. No condition. -/
namespace Go.Proofs.Ytecgigeahkijaaa
set_option linter.unusedVariables false
set_option linter.unusedSimpArgs false
open Go.RowKit E

theorem hiL_len : ∀ w n, (hiL w n).length = w
  | 0, n => rfl
  | w + 1, n => by unfold hiL; simp [hiL_len w]
theorem putL_len {f : Fl} (hs : f.s.size ≤ 65535) : (putL f).length ≤ 65545 := by
  unfold putL
  have := varL_len 9 f.n
  have := varL_len 9 f.s.size
  have := widthZ_bd f.k
  split
  · omega
  · split
    · simp [ints_len]; omega
    · rw [hiL_len]; omega
theorem wrap8 (x : Int) : IntKind.u8.wrap x = x % 256 := by
  simp [IntKind.wrap, IntKind.signed, IntKind.bits]
theorem pow_2_8 (i : Nat) : ((2 : Int) ^ (8 * i)) = 256 ^ i := by rw [Int.pow_mul]; rfl
theorem fnPut (n : Nat) (F : Nat → Int) (k v : Int) (s : ByteArray) (h0 : 0 ≤ v) (h1 : v ≤ 18446744073709551615) (hs : s.size ≤ 65535) (hw : widthZ k ≠ 0 ∨ k = 5 ∨ k = 6) (hn : n + 65546 ≤ 140737488355328) :
    FnOk Try.prog 27 [.nv (.one (.ptr 0 0)), .nv (.agg [.val (.int .i64 k), .val (.int .u64 v), .val (.string s)])] (bldM n F) .any (bldP (n + (putL ⟨k, v, s⟩).length) (catF n F (putL ⟨k, v, s⟩))) := by
  by_cases k5 : k = 5
  · subst k5; exact pt_5 n F v s h0 h1 (by omega)
  by_cases k6 : k = 6
  · subst k6
    have hv := varL_len 9 s.size
    have e : putL ⟨6, v, s⟩ = varL 9 s.size ++ ints s := rfl
    rw [e]
    exact pt_6 n _ F _ v s hs hv hn (wU64 rfl (by omega)) (by simp [ints_len]; omega) (fun i hi => catF_cat n F _ _ i)
  have e : putL ⟨k, v, s⟩ = hiL (widthZ k).toNat v := by unfold putL; rw [if_neg k5, if_neg k6]
  rw [e, hiL_len]
  have hb := widthZ_bd k
  obtain ⟨W, hW⟩ := Int.eq_ofNat_of_zero_le hb.1
  rw [hW]
  refine pt_w n (n + W) F (catF n F []) _ k v ((W : Int) - 1) s k5 k6 (fun i hi => (if_pos hi).symm) (by rw [hW]; exact w64 rfl (by omega)) ?_
  have := loop_ok (P := Try.prog) (m0 := 2) (c := loopOf Try.f27 0) (ex := .exit 1) (post := (mkSt 41 [(0, .nv (.one (.ptr 0 0))), (3, .nv (.one (.ptr 2 0))), (4, iA (-1))] [.box 52 [.optr 0, .own 3], .gone, .box 47 [.val (.int .i64 k), .val (.int .u64 v), .val (.string s)], .row 5 1 (n + W) (gB (catF n F (hiL W v)))]))
    (α := Nat) (fun j => (mkSt 41 [(0, .nv (.one (.ptr 0 0))), (3, .nv (.one (.ptr 2 0))), (4, iA ((W : Int) - 1 - (j : Int)))] [.box 52 [.optr 0, .own 3], .gone, .box 47 [.val (.int .i64 k), .val (.int .u64 v), .val (.string s)], .row 5 1 (n + j) (gB (catF n F (hiL j (v / 256 ^ (W - j)))))])) (fun j => j ≤ W) (fun j => W - j) (by simp) ?_ (x := 0) (Nat.zero_le _)
  · simp only [Nat.sub_zero, Int.natCast_zero, Int.sub_zero] at this
    exact this
  · intro j hj
    by_cases ej : j = W
    · subst ej
      rw [show ((j : Int) - 1 - j) = -1 by omega]
      have := pt_e (n + j) (catF n F (hiL j (v / 256 ^ (j - j)))) k v s
      rw [Nat.sub_self, Int.pow_zero, Int.ediv_one] at this ⊢
      exact .inr this
    · refine .inl ⟨j + 1, (show j + 1 ≤ W by omega), (show W - (j + 1) < W - j by omega), ?_⟩
      obtain ⟨i, hi⟩ : ∃ i : Nat, W = i + j + 1 := ⟨W - j - 1, by omega⟩
      have ei : IntKind.wrap IntKind.i64 (8 * (i : Int)) = 8 * i := w64 rfl (by omega)
      have hp : (0 : Int) < 256 ^ i := Int.pow_pos (by omega)
      have hq : 0 ≤ v / 256 ^ i := Int.ediv_nonneg h0 (by omega)
      have := pt_n (n + j) (n + (j + 1)) i (catF n F (hiL j (v / 256 ^ (i + 1)))) (catF n F (hiL (j + 1) (v / 256 ^ i))) k v (v / 256 ^ i % 256) s (by omega) (by omega) (by
        rw [ei]
        rw [show Nat.min (8 * (i : Int)).toNat 64 = 8 * i by rw [show (8 * (i : Int)).toNat = 8 * i by omega]; exact Nat.min_eq_left (by omega)]
        rw [Int.fdiv_eq_ediv_of_nonneg _ (by exact Int.le_of_lt (Int.pow_pos (by omega))), pow_2_8]
        exact wrap8 _) ei rfl (fun x hx => by
        rw [show hiL (j + 1) (v / 256 ^ i) = hiL j (v / 256 ^ i / 256) ++ [v / 256 ^ i % 256] from rfl, ← catF_cat, hiL_len, Int.ediv_ediv_of_nonneg (by omega), ← Int.pow_succ])
      rw [show W - j = i + 1 by omega, show W - (j + 1) = i by omega, show ((W : Int) - 1 - j) = i by omega, show ((W : Int) - 1 - ((j + 1 : Nat) : Int)) = (i : Int) - 1 by omega]
      exact this
def gPut1 : List SV → List Seg → Option (CS × List Prop)
  | [.nv (.one (.ptr h 0)), .nv (.agg [.val (.int .i64 k), .val (.int .u64 v), .val (.string s)])], mem => match bldAt mem h with
    | some (n, F) => some (⟨[.nv (.one (.ptr 0 0)), .nv (.agg [.val (.int .i64 k), .val (.int .u64 v), .val (.string s)])], bldM n F, .any, bldP (n + (putL ⟨k, v, s⟩).length) (catF n F (putL ⟨k, v, s⟩))⟩, [0 ≤ v, v ≤ 18446744073709551615, s.size ≤ 65535, widthZ k ≠ 0 ∨ k = 5 ∨ k = 6, n + 65546 ≤ 140737488355328])
    | none => none
  | _, _ => none
theorem spPut1 : SpOk Try.prog 27 (.lift gPut1) := by
  intro args mem cs obl h ho
  unfold gPut1 at h
  split at h
  · split at h
    · simp only [Option.some.injEq, Prod.mk.injEq] at h
      obtain ⟨rfl, rfl⟩ := h
      obtain ⟨o1, o2, o3, o4, o5, _⟩ := ho
      exact fnPut _ _ _ _ _ o1 o2 o3 o4 o5
    · cases h
  · cases h
def Gb7 : List (FuncId × Sp) := (27, .lift gPut1) :: Gb6
theorem Gb7_ok : CtxOk Try.prog Gb7 := ctx_cons (enter_of Try.func27 (by kernel_rfl) (by kernel_rfl)) spPut1 Gb6_ok
end Go.Proofs.Ytecgigeahkijaaa

/- wire: the bytes of fields. No condition. -/
namespace Go.Proofs.Ytecgigeahkijaaa
set_option linter.unusedVariables false
set_option linter.unusedSimpArgs false
open Go.RowKit E
/-- The bytes of the first i fields. -/
def putAll (L : Nat → Fl) : Nat → List Int
  | 0 => []
  | i + 1 => putAll L i ++ putL (L i)
/-- What is wrong with the first bad one of the first i fields. -/
def badZ (L : Nat → Fl) : Nat → Int
  | 0 => 0
  | i + 1 => if badZ L i = 0 then ckZ (L i) else badZ L i
abbrev puS (len : Nat) (L : Nat → Fl) (i n : Nat) (F : Nat → Int) : St := mkSt 23 [(4, .nv (.one (.ptr 1 0))), (8, .nv (.one (.own 0))), (9, iA len), (10, iA i)] [.ro 3 len (gF L), .box 52 [.optr 1, .own 2], .row 5 1 n (gB F)]
abbrev puE (len : Nat) (L : Nat → Fl) (n : Nat) (F : Nat → Int) : St := mkSt 23 [(4, .nv (.one (.ptr 1 0)))] [.ro 3 len (gF L), .box 52 [.optr 1, .own 2], .row 5 1 n (gB F)]
abbrev sA (s : ByteArray) : SV := .nv (.one (.val (.string s)))
abbrev puX (len : Nat) (L : Nat → Fl) (c : Int) : St := mkSt 23 [(2, sA ⟨#[]⟩), (3, iA c)] [.ro 3 len (gF L)]
theorem ckZ_ok {f : Fl} (h : ckZ f = 0) : f.s.size ≤ 65535 ∧ (widthZ f.k ≠ 0 ∨ f.k = 5 ∨ f.k = 6) ∧ (f.k ≠ 6 → f.s.size = 0) ∧ (f.k = 6 → f.n = 0) ∧ (widthZ f.k > 0 → f.n < (2 ^ (8 * (widthZ f.k).toNat) : Nat)) := by
  unfold ckZ at h
  split at h
  · omega
  · rename_i h1
    split at h
    · omega
    · rename_i h2
      split at h
      · omega
      · rename_i h3
        split at h
        · omega
        · refine ⟨by omega, by omega, by omega, by omega, fun q => ?_⟩
          by_cases w : f.n < (2 ^ (8 * (widthZ f.k).toNat) : Nat)
          · exact w
          · exact absurd ⟨q, w⟩ h3
theorem putL_pos {f : Fl} (h : ckZ f = 0) : 1 ≤ (putL f).length := by
  have hk := (ckZ_ok h).2.1
  have := widthZ_bd f.k
  have := varL_pos 9 f.n
  have := varL_pos 9 f.s.size
  unfold putL
  split
  · omega
  · split
    · simp; omega
    · rw [hiL_len]; omega
end Go.Proofs.Ytecgigeahkijaaa

/- Runs of Go code, as printed by a program: no condition beyond those that each states. -/
namespace Go.Proofs.Ytecgigeahkijaaa
set_option linter.unusedVariables false
set_option linter.unusedSimpArgs false
set_option maxRecDepth 100000
open Go.RowKit E
set_option maxHeartbeats 2000000 in
theorem pu_n (len i n N : Nat) (L : Nat → Fl) (F H : Nat → Int) (hi : i < len) (hl : len ≤ 1000) (w0 : 0 ≤ (L i).n) (w1 : (L i).n ≤ 18446744073709551615) (ck : ckZ ⟨(L i).k, (L i).n, (L i).s⟩ = 0) (hs : (L i).s.size ≤ 65535) (hw : widthZ (L i).k ≠ 0 ∨ (L i).k = 5 ∨ (L i).k = 6) (hn : n + 65546 ≤ 140737488355328) (e3 : n + (putL (L i)).length = N) (e4 : ∀ j, j < n + (putL (L i)).length → catF n F (putL (L i)) j = H j) : CodeOk Try.prog 1 (loopOf Try.f18 0) (puS len L i n F) .normal (puS len L (i + 1) N H) :=
  code_run Gb7_ok (orc := ⟨[true, false], []⟩) (obl := [decide ((↑i : Int) < (↑len : Int)) = true,
      (0 : Int) ≤ (↑i : Int),
      (↑i : Int) < (↑len : Int),
      Int.toNat (↑i : Int) < len,
      (0 : Int) ≤ Fl.n (L (Int.toNat (↑i : Int))),
      Fl.n (L (Int.toNat (↑i : Int))) ≤ (18446744073709551615 : Int),
      (ckZ { k := Fl.k (L (Int.toNat (↑i : Int))), n := Fl.n (L (Int.toNat (↑i : Int))), s := Fl.s (L (Int.toNat (↑i : Int))) } != (0 : Int)) = false,
      (0 : Int) ≤ Fl.n (L (Int.toNat (↑i : Int))),
      Fl.n (L (Int.toNat (↑i : Int))) ≤ (18446744073709551615 : Int),
      ByteArray.size (Fl.s (L (Int.toNat (↑i : Int)))) ≤ (65535 : Nat),
      widthZ (Fl.k (L (Int.toNat (↑i : Int)))) ≠ (0 : Int) ∨ Fl.k (L (Int.toNat (↑i : Int))) = (5 : Int) ∨ Fl.k (L (Int.toNat (↑i : Int))) = (6 : Int),
      n + (65546 : Nat) ≤ (140737488355328 : Nat),
      (0 : Nat) = (0 : Nat),
      Fl.k (L (Int.toNat (↑i : Int))) = Fl.k (L (Int.toNat (↑i : Int))),
      Fl.n (L (Int.toNat (↑i : Int))) = Fl.n (L (Int.toNat (↑i : Int))),
      Fl.s (L (Int.toNat (↑i : Int))) = Fl.s (L (Int.toNat (↑i : Int))),
      n = n,
      ∀ (i : Nat), i < n → F i = F i ∧ True,
      ∀ (i_1 : Nat), i_1 < n + List.length (putL { k := Fl.k (L (Int.toNat (↑i : Int))), n := Fl.n (L (Int.toNat (↑i : Int))), s := Fl.s (L (Int.toNat (↑i : Int))) }) → (true && true) = true,
      (0 : Nat) = (0 : Nat),
      (↑len : Int) = (↑len : Int),
      IntKind.wrap IntKind.i64 ((↑i : Int) + (1 : Int)) = (↑(i + (1 : Nat)) : Int),
      len = len,
      ∀ (i : Nat), i < len → Fl.k (L i) = Fl.k (L i) ∧ Fl.n (L i) = Fl.n (L i) ∧ Fl.s (L i) = Fl.s (L i) ∧ True,
      n + List.length (putL { k := Fl.k (L (Int.toNat (↑i : Int))), n := Fl.n (L (Int.toNat (↑i : Int))), s := Fl.s (L (Int.toNat (↑i : Int))) }) = N,
      ∀ (i_1 : Nat), i_1 < n + List.length (putL { k := Fl.k (L (Int.toNat (↑i : Int))), n := Fl.n (L (Int.toNat (↑i : Int))), s := Fl.s (L (Int.toNat (↑i : Int))) }) → catF n (fun (k : Nat) => F k) (putL { k := Fl.k (L (Int.toNat (↑i : Int))), n := Fl.n (L (Int.toNat (↑i : Int))), s := Fl.s (L (Int.toNat (↑i : Int))) }) i_1 = H i_1 ∧ True]) (by kernel_rfl) (.cons (by exact decide_eq_true (show (i : Int) < len by omega)) (.cons (by omega) (.cons (by omega) (.cons (by assumption) (.cons (by assumption) (.cons (by assumption) (.cons (by exact bne_eq_false_iff_eq.2 ck) (.cons (by assumption) (.cons (by assumption) (.cons (by assumption) (.cons (by assumption) (.cons (by assumption) (.cons (by rfl) (.cons (by rfl) (.cons (by rfl) (.cons (by rfl) (.cons (by rfl) (.cons (by (intro _ _; exact ⟨rfl, trivial⟩)) (.cons (by (intro _ _; rfl)) (.cons (by rfl) (.cons (by rfl) (.cons (by exact w64 (by omega) (by omega)) (.cons (by rfl) (.cons (by (intro _ _; exact ⟨rfl, rfl, rfl, trivial⟩)) (.cons (by assumption) (.cons (by (intro j hj; exact ⟨e4 j hj, trivial⟩)) .nil)))))))))))))))))))))))))) (Nat.le_of_ble_eq_true (by kernel_rfl))

set_option maxHeartbeats 2000000 in
theorem pu_r (len i n : Nat) (c : Int) (L : Nat → Fl) (F : Nat → Int) (hi : i < len) (hl : len ≤ 1000) (w0 : 0 ≤ (L i).n) (w1 : (L i).n ≤ 18446744073709551615) (ck : ckZ ⟨(L i).k, (L i).n, (L i).s⟩ = c) (hc : c ≠ 0) : CodeOk Try.prog 1 (loopOf Try.f18 0) (puS len L i n F) .ret (puX len L c) :=
  code_run Gb7_ok (orc := ⟨[true, true], []⟩) (obl := [decide ((↑i : Int) < (↑len : Int)) = true,
      (0 : Int) ≤ (↑i : Int),
      (↑i : Int) < (↑len : Int),
      Int.toNat (↑i : Int) < len,
      (0 : Int) ≤ Fl.n (L (Int.toNat (↑i : Int))),
      Fl.n (L (Int.toNat (↑i : Int))) ≤ (18446744073709551615 : Int),
      (ckZ { k := Fl.k (L (Int.toNat (↑i : Int))), n := Fl.n (L (Int.toNat (↑i : Int))), s := Fl.s (L (Int.toNat (↑i : Int))) } != (0 : Int)) = true,
      (ByteArray.mk #[]) = (ByteArray.mk #[]),
      ckZ { k := Fl.k (L (Int.toNat (↑i : Int))), n := Fl.n (L (Int.toNat (↑i : Int))), s := Fl.s (L (Int.toNat (↑i : Int))) } = c,
      len = len,
      ∀ (i : Nat), i < len → Fl.k (L i) = Fl.k (L i) ∧ Fl.n (L i) = Fl.n (L i) ∧ Fl.s (L i) = Fl.s (L i) ∧ True]) (by kernel_rfl) (.cons (by exact decide_eq_true (show (i : Int) < len by omega)) (.cons (by omega) (.cons (by omega) (.cons (by assumption) (.cons (by assumption) (.cons (by assumption) (.cons (by exact bne_iff_ne.2 (by intro e; exact hc (ck.symm.trans e))) (.cons (by rfl) (.cons (by assumption) (.cons (by rfl) (.cons (by (intro _ _; exact ⟨rfl, rfl, rfl, trivial⟩)) .nil))))))))))) (Nat.le_of_ble_eq_true (by kernel_rfl))

set_option maxHeartbeats 2000000 in
theorem pu_e (len n : Nat) (L : Nat → Fl) (F : Nat → Int) : CodeOk Try.prog 1 (loopOf Try.f18 0) (puS len L len n F) (.exit 0) (puE len L n F) :=
  code_run Gb7_ok (orc := ⟨[false], []⟩) (obl := [decide ((↑len : Int) < (↑len : Int)) = false,
      (0 : Nat) = (0 : Nat),
      len = len,
      ∀ (i : Nat), i < len → Fl.k (L i) = Fl.k (L i) ∧ Fl.n (L i) = Fl.n (L i) ∧ Fl.s (L i) = Fl.s (L i) ∧ True,
      n = n,
      ∀ (i : Nat), i < n → F i = F i ∧ True]) (by kernel_rfl) (.cons (by exact decide_eq_false (by omega)) (.cons (by rfl) (.cons (by rfl) (.cons (by (intro _ _; exact ⟨rfl, rfl, rfl, trivial⟩)) (.cons (by rfl) (.cons (by (intro _ _; exact ⟨rfl, trivial⟩)) .nil)))))) (Nat.le_of_ble_eq_true (by kernel_rfl))

set_option maxHeartbeats 2000000 in
theorem pu_k (len n : Nat) (L : Nat → Fl) (F0 F : Nat → Int) (h0 : 0 < n) (hR : byteR n F) (l0 : CodeOk Try.prog 1 (.loop (loopOf Try.f18 0)) (puS len L 0 0 F0) (.exit 0) (puE len L n F)) : FnOk Try.prog 18 ([.nv (.one (.own 0))]) ([.ro 3 len (gF L)]) (.tup [.one (.val (.string (bstr n F))), .one (.val (.int .i64 0))]) ([.ro 3 len (gF L)]) :=
  fn_run Gb7_ok Try.func18 (orc := ⟨[], [⟨puS len L 0 0 F0, .exit 0, puE len L n F⟩]⟩) (obl := [(0 : Nat) = (0 : Nat),
      (↑len : Int) = (↑len : Int),
      (0 : Int) = (↑(0 : Nat) : Int),
      len = len,
      ∀ (i : Nat), i < len → Fl.k (L i) = Fl.k (L i) ∧ Fl.n (L i) = Fl.n (L i) ∧ Fl.s (L i) = Fl.s (L i) ∧ True,
      (0 : Nat) = (0 : Nat),
      (1 : Nat) ≤ (3 : Nat),
      CodeOk Try.prog (1 : Nat) (Code.loop (loopOf Try.f18 (0 : Nat))) (puS len L (0 : Nat) (0 : Nat) F0) (Ex.exit (0 : Nat)) (puE len L n F),
      (0 : Nat) < n,
      byteR n fun (k : Nat) => F k,
      (0 : Nat) = (0 : Nat),
      n = n,
      ∀ (i : Nat), i < n → F i = F i ∧ True,
      (bstr n fun (k : Nat) => F k) = bstr n F,
      (0 : Int) = (0 : Int),
      len = len,
      ∀ (i : Nat), i < len → Fl.k (L i) = Fl.k (L i) ∧ Fl.n (L i) = Fl.n (L i) ∧ Fl.s (L i) = Fl.s (L i) ∧ True]) (by kernel_rfl) (.cons (by rfl) (.cons (by rfl) (.cons (by rfl) (.cons (by rfl) (.cons (by (intro _ _; exact ⟨rfl, rfl, rfl, trivial⟩)) (.cons (by rfl) (.cons (by trivial) (.cons (by assumption) (.cons (by assumption) (.cons (by assumption) (.cons (by rfl) (.cons (by rfl) (.cons (by (intro _ _; exact ⟨rfl, trivial⟩)) (.cons (by rfl) (.cons (by rfl) (.cons (by rfl) (.cons (by (intro _ _; exact ⟨rfl, rfl, rfl, trivial⟩)) .nil))))))))))))))))) (Nat.le_of_ble_eq_true (by kernel_rfl))

set_option maxHeartbeats 2000000 in
theorem pu_x (len : Nat) (c : Int) (L : Nat → Fl) (F0 : Nat → Int) (l0 : CodeOk Try.prog 1 (.loop (loopOf Try.f18 0)) (puS len L 0 0 F0) .ret (puX len L c)) : FnOk Try.prog 18 ([.nv (.one (.own 0))]) ([.ro 3 len (gF L)]) (.tup [.one (.val (.string ⟨#[]⟩)), .one (.val (.int .i64 c))]) ([.ro 3 len (gF L)]) :=
  fn_run Gb7_ok Try.func18 (orc := ⟨[], [⟨puS len L 0 0 F0, .ret, puX len L c⟩]⟩) (obl := [(0 : Nat) = (0 : Nat),
      (↑len : Int) = (↑len : Int),
      (0 : Int) = (↑(0 : Nat) : Int),
      len = len,
      ∀ (i : Nat), i < len → Fl.k (L i) = Fl.k (L i) ∧ Fl.n (L i) = Fl.n (L i) ∧ Fl.s (L i) = Fl.s (L i) ∧ True,
      (0 : Nat) = (0 : Nat),
      (1 : Nat) ≤ (3 : Nat),
      CodeOk Try.prog (1 : Nat) (Code.loop (loopOf Try.f18 (0 : Nat))) (puS len L (0 : Nat) (0 : Nat) F0) Ex.ret (puX len L c),
      (ByteArray.mk #[]) = (ByteArray.mk #[]),
      c = c,
      len = len,
      ∀ (i : Nat), i < len → Fl.k (L i) = Fl.k (L i) ∧ Fl.n (L i) = Fl.n (L i) ∧ Fl.s (L i) = Fl.s (L i) ∧ True]) (by kernel_rfl) (.cons (by rfl) (.cons (by rfl) (.cons (by rfl) (.cons (by rfl) (.cons (by (intro _ _; exact ⟨rfl, rfl, rfl, trivial⟩)) (.cons (by rfl) (.cons (by trivial) (.cons (by assumption) (.cons (by rfl) (.cons (by rfl) (.cons (by rfl) (.cons (by (intro _ _; exact ⟨rfl, rfl, rfl, trivial⟩)) .nil)))))))))))) (Nat.le_of_ble_eq_true (by kernel_rfl))

set_option maxHeartbeats 2000000 in
theorem pu_0 (L : Nat → Fl) : FnOk Try.prog 18 ([.nv (.one (.own 0))]) ([.ro 3 0 (gF L)]) (.tup [.one (.val (.string .empty)), .one (.val (.int .i64 0))]) ([.ro 3 0 (gF L)]) :=
  fn_run Gb7_ok Try.func18 (orc := ⟨[false], [unroll 1]⟩) (obl := [decide ((0 : Int) < (↑(0 : Nat) : Int)) = false,
      (0 : Nat) = (0 : Nat),
      Value.slice none (0 : Nat) (0 : Nat) = Value.slice none (0 : Nat) (0 : Nat),
      ByteArray.empty = ByteArray.empty,
      (0 : Int) = (0 : Int),
      (0 : Nat) = (0 : Nat),
      ∀ (i : Nat), i < (0 : Nat) → Fl.k (L i) = Fl.k (L i) ∧ Fl.n (L i) = Fl.n (L i) ∧ Fl.s (L i) = Fl.s (L i) ∧ True]) (by kernel_rfl) (.cons (by rfl) (.cons (by rfl) (.cons (by rfl) (.cons (by rfl) (.cons (by rfl) (.cons (by rfl) (.cons (by (intro _ _; exact ⟨rfl, rfl, rfl, trivial⟩)) .nil))))))) (Nat.le_of_ble_eq_true (by kernel_rfl))
end Go.Proofs.Ytecgigeahkijaaa

/- wire: Put as a specification. No condition. -/
namespace Go.Proofs.Ytecgigeahkijaaa
set_option linter.unusedVariables false
set_option linter.unusedSimpArgs false
open Go.RowKit E

def strL (l : List Int) : ByteArray := bstr l.length (lF l)
def putStr (L : Nat → Fl) (n : Nat) : ByteArray := if badZ L n = 0 then strL (putAll L n) else .empty
theorem badZ_at {L : Nat → Fl} : ∀ {n : Nat}, badZ L n ≠ 0 → ∃ p, p < n ∧ badZ L p = 0 ∧ ckZ (L p) = badZ L n
  | 0, h => absurd rfl h
  | n + 1, h => by
    by_cases e : badZ L n = 0
    · exact ⟨n, by omega, e, by rw [badZ, if_pos e]⟩
    · obtain ⟨p, h1, h2, h3⟩ := badZ_at e
      exact ⟨p, by omega, h2, by rw [badZ, if_neg e]; exact h3⟩
theorem badZ_low {L : Nat → Fl} : ∀ {n : Nat}, badZ L n = 0 → ∀ i, i < n → badZ L i = 0 ∧ ckZ (L i) = 0
  | 0, h, i, hi => absurd hi (Nat.not_lt_zero i)
  | n + 1, h, i, hi => by
    by_cases e : badZ L n = 0
    · rw [badZ, if_pos e] at h
      by_cases q : i = n
      · subst q; exact ⟨e, h⟩
      · exact badZ_low e i (by omega)
    · rw [badZ, if_neg e] at h; exact absurd h e
theorem putAll_len {L : Nat → Fl} : ∀ {n : Nat}, badZ L n = 0 → (putAll L n).length ≤ n * 65545 ∧ n ≤ (putAll L n).length
  | 0, _ => ⟨Nat.le_refl _, Nat.le_refl _⟩
  | n + 1, h => by
    obtain ⟨h1, h2⟩ := badZ_low h n (Nat.lt_succ_self n)
    have := putAll_len h1
    have := putL_len (ckZ_ok h2).1
    have := putL_pos h2
    rw [putAll, List.length_append]
    omega
def inB (l : List Int) : Prop := ∀ x ∈ l, 0 ≤ x ∧ x < 256
theorem inB_app {l m : List Int} : inB l → inB m → inB (l ++ m) := fun h k x hx => (List.mem_append.1 hx).elim (h x) (k x)
theorem inB_lF {l : List Int} (h : inB l) : byteR l.length (lF l) := fun i hi => by
  unfold lF
  rw [List.getD_eq_getElem?_getD, List.getElem?_eq_getElem hi]
  exact h _ (List.getElem_mem hi)
theorem inB_var : ∀ f (n : Int), 0 ≤ n → n < 2 * 128 ^ f → inB (varL f n)
  | 0, n, h0, h1 => fun x hx => by simp [varL] at hx; subst hx; omega
  | f + 1, n, h0, h1 => fun x hx => by
    rw [Int.pow_succ] at h1
    by_cases q : 128 ≤ n
    · rw [varL_go q] at hx
      rcases List.mem_cons.1 hx with rfl | hx
      · omega
      · exact inB_var f (n / 128) (by omega) (by omega) x hx
    · rw [varL_end q] at hx; simp at hx; subst hx; omega
theorem inB_hi : ∀ w (n : Int), inB (hiL w n)
  | 0, n => fun x hx => by simp [hiL] at hx
  | w + 1, n => inB_app (inB_hi w _) (fun x hx => by simp at hx; subst hx; omega)
theorem inB_ints (s : ByteArray) : inB (ints s) := fun x hx => by
  unfold ints at hx
  obtain ⟨b, _, rfl⟩ := List.mem_map.1 hx
  have := b.toNat_lt
  omega
theorem inB_put {f : Fl} (h : ckZ f = 0) (hf : f.wf) : inB (putL f) := by
  have hs := (ckZ_ok h).1
  unfold putL
  split
  · exact inB_var 9 f.n hf.1 (by have := hf.2; omega)
  · split
    · exact inB_app (inB_var 9 _ (by omega) (by omega)) (inB_ints _)
    · exact inB_hi _ _
theorem inB_all {L : Nat → Fl} : ∀ {n : Nat}, badZ L n = 0 → (∀ i, i < n → (L i).wf) → inB (putAll L n)
  | 0, _, _ => fun x hx => by simp [putAll] at hx
  | n + 1, h, hw => inB_app (inB_all (badZ_low h n (Nat.lt_succ_self n)).1 (fun i hi => hw i (by omega))) (inB_put (badZ_low h n (Nat.lt_succ_self n)).2 (hw n (by omega)))
theorem fnPutAll (len : Nat) (L : Nat → Fl) (hl : len ≤ 1000) (hw : ∀ i, i < len → (L i).wf) :
    FnOk Try.prog 18 [.nv (.one (.own 0))] [.ro 3 len (gF L)] (.tup [.one (.val (.string (putStr L len))), .one (.val (.int .i64 (badZ L len)))]) [.ro 3 len (gF L)] := by
  by_cases hb : badZ L len = 0
  · unfold putStr
    rw [if_pos hb, hb]
    by_cases h0 : len = 0
    · subst h0; exact pu_0 L
    · have hpl := putAll_len hb
      refine pu_k len (putAll L len).length L (lF []) (lF (putAll L len)) (by omega) (inB_lF (inB_all hb hw)) ?_
      refine loop_ok (α := Nat) (fun i => puS len L i (putAll L i).length (lF (putAll L i))) (fun i => i ≤ len) (fun i => len - i) (by simp) ?_ (x := 0) (Nat.zero_le _)
      intro i hi
      by_cases e : i = len
      · subst e; exact .inr (pu_e i _ L _)
      · obtain ⟨h1, h2⟩ := badZ_low hb i (by omega)
        have hil := putAll_len h1
        have hf := hw i (by omega)
        obtain ⟨k1, k2, _⟩ := ckZ_ok h2
        have := Nat.mul_le_mul_right 65545 (show i ≤ 1000 by omega)
        exact .inl ⟨i + 1, (show i + 1 ≤ len by omega), (show len - (i + 1) < len - i by omega), pu_n len i _ _ L _ _ (by omega) hl hf.1 (by have := hf.2; omega) h2 k1 k2 (by omega) (by rw [putAll, List.length_append]) (fun j hj => lF_cat _ _ j)⟩
  · unfold putStr
    rw [if_neg hb]
    obtain ⟨p, hp, hp0, hpc⟩ := badZ_at hb
    refine pu_x len (badZ L len) L (lF []) ?_
    refine loop_ok (α := Nat) (fun i => puS len L i (putAll L i).length (lF (putAll L i))) (fun i => i ≤ p) (fun i => p - i) (by simp) ?_ (x := 0) (Nat.zero_le _)
    intro i hi
    have hf := hw i (by omega)
    by_cases e : i = p
    · subst e
      exact .inr (pu_r len i _ _ L _ hp hl hf.1 (by have := hf.2; omega) hpc hb)
    · obtain ⟨h1, h2⟩ := badZ_low hp0 i (by omega)
      have hil := putAll_len h1
      obtain ⟨k1, k2, _⟩ := ckZ_ok h2
      have := Nat.mul_le_mul_right 65545 (show i ≤ 1000 by omega)
      exact .inl ⟨i + 1, (show i + 1 ≤ p by omega), (show p - (i + 1) < p - i by omega), pu_n len i _ _ L _ _ (by omega) hl hf.1 (by have := hf.2; omega) h2 k1 k2 (by omega) (by rw [putAll, List.length_append]) (fun j hj => lF_cat _ _ j)⟩
def gPut : List SV → List Seg → Option (CS × List Prop)
  | [.nv (.one a)], mem => match srcOf mem 3 a with
    | some (n, g, _) => some (⟨[.nv (.one (.own 0))], [.ro 3 n (gF (flOf g))], .tup [.one (.val (.string (putStr (flOf g) n))), .one (.val (.int .i64 (badZ (flOf g) n)))], [.ro 3 n (gF (flOf g))]⟩, [n ≤ 1000, ∀ i, i < n → (flOf g i).wf])
    | none => none
  | _, _ => none
theorem spPut : SpOk Try.prog 18 (.lift gPut) := by
  intro args mem cs obl h ho
  unfold gPut at h
  split at h
  · split at h
    · simp only [Option.some.injEq, Prod.mk.injEq] at h
      obtain ⟨rfl, rfl⟩ := h
      exact fnPutAll _ _ ho.1 ho.2.1
    · cases h
  · cases h
def Gb8 : List (FuncId × Sp) := (18, .lift gPut) :: Gb7
theorem Gb8_ok : CtxOk Try.prog Gb8 := ctx_cons (enter_of Try.func18 (by kernel_rfl) (by kernel_rfl)) spPut Gb7_ok
end Go.Proofs.Ytecgigeahkijaaa

/- wire: the document's bytes of numbers: as far as so many. No condition. -/
namespace Go.Proofs.Ytecgigeahkijaaa
set_option linter.unusedVariables false
set_option linter.unusedSimpArgs false
open Go.RowKit E

theorem strL_ints {l : List Int} (h : inB l) : ints (strL l) = l := by
  unfold strL
  rw [ints_bstr (inB_lF h)]
  apply List.ext_getElem?
  intro i
  rw [List.getElem?_map]
  by_cases e : i < l.length
  · rw [List.getElem?_range e, List.getElem?_eq_getElem e]
    simp [lF, List.getD_eq_getElem?_getD, List.getElem?_eq_getElem e]
  · rw [List.getElem?_eq_none (by simpa using e), List.getElem?_eq_none (by omega)]; rfl
theorem ints_app (a b : ByteArray) : ints (a ++ b) = ints a ++ ints b := by unfold ints; rw [app_toList, List.map_append]
theorem strL_app {a b : List Int} (ha : inB a) (hb : inB b) : strL (a ++ b) = strL a ++ strL b :=
  ints_ext (by rw [ints_app, strL_ints (inB_app ha hb), strL_ints ha, strL_ints hb])
theorem strL_str (s : ByteArray) : strL (ints s) = s := ints_ext (strL_ints (inB_ints s))
theorem strL_size (l : List Int) : (strL l).size = l.length := bstr_size _ _
theorem row_one (g : Nat → List At) (x : Int) (h : cellN (g 0) = x) (hx : 0 ≤ x ∧ x < 256) : rowStr 1 g = strL [x] := by
  apply ints_ext
  rw [strL_ints (fun y hy => by simp at hy; subst hy; exact hx)]
  have : rowStr 1 g = bstr 1 (fun i => cellN (g i)) := rfl
  rw [this, ints_bstr (fun i hi => by have : i = 0 := by omega
                                      subst this; rw [h]; exact hx)]
  simp [h]
theorem row_lit {x y : Int} (h : x = y) (hy : 0 ≤ y ∧ y < 256) : rowStr 1 (litG 1 [.val (.int .u8 x)]) = strL [y] := row_one _ y h hy
theorem bytes_lit (x : Int) : bytesG 1 (litG 1 [.val (.int .u8 x)]) := fun i hi => by
  have e : i = 0 := by omega
  subst e; rfl
def gHighN (N : Nat) : List SV → Option (SV × List Prop)
  | [.nv (.one (.val (.int .u64 n))), .nv (.one (.val (.int .i64 w)))] => some (sA (strL (hiL w.toNat n)), [0 ≤ n, n ≤ 18446744073709551615, 0 ≤ w, w.toNat ≤ N, w ≤ 8])
  | _ => none
def Ghi (N : Nat) : List (FuncId × Sp) := (39, pureS (gHighN N)) :: Gb8
theorem Ghi_ok (N : Nat) (ih : SpOk Try.prog 39 (pureS (gHighN N))) : CtxOk Try.prog (Ghi N) := ctx_cons (enter_of Try.func39 (by kernel_rfl) (by kernel_rfl)) ih Gb8_ok
def gFewN (N : Nat) : List SV → Option (SV × List Prop)
  | [.nv (.one (.val (.int .u64 n)))] => some (sA (strL (varL N n)), [0 ≤ n, n ≤ 18446744073709551615, n < 2 * 128 ^ N, N ≤ 100])
  | _ => none
def Gfew (N : Nat) : List (FuncId × Sp) := (38, pureS (gFewN N)) :: Gb8
theorem Gfew_ok (N : Nat) (ih : SpOk Try.prog 38 (pureS (gFewN N))) : CtxOk Try.prog (Gfew N) := ctx_cons (enter_of Try.func38 (by kernel_rfl) (by kernel_rfl)) ih Gb8_ok
theorem tdiv_e {n : Int} (h : 0 ≤ n) (k : Int) : Int.tdiv n k = n / k := Int.tdiv_eq_ediv_of_nonneg h
theorem tmod_e {n : Int} (h : 0 ≤ n) (k : Int) : Int.tmod n k = n % k := Int.tmod_eq_emod_of_nonneg h
end Go.Proofs.Ytecgigeahkijaaa

/- Runs of Go code, as printed by a program: no condition beyond those that each states. -/
import Derived.Test.YteehpliloegkgaaWrR
import Derived.Test.YteehpliloegkgaaChecked
import Derived.KernelRfl
namespace Go.Proofs.Yteehpliloegkgaa
set_option linter.unusedVariables false
set_option linter.unusedSimpArgs false
set_option maxRecDepth 100000
open Go.RowKit E
set_option maxHeartbeats 2000000 in
theorem by_l (k : Int) (h : k < 1) : PureOk Try.prog 34 ([iA k]) (iA 0) :=
  pure_run G0_ok Try.func34 (orc := ⟨[true, true], []⟩) (obl := [decide (k < (1 : Int)) = true,
      true = true,
      (0 : Int) = (0 : Int)]) (by kernel_rfl) (.cons (by exact decide_eq_true (by omega)) (.cons (by rfl) (.cons (by rfl) .nil)))

set_option maxHeartbeats 2000000 in
theorem by_h (k : Int) (h : 4 < k) : PureOk Try.prog 34 ([iA k]) (iA 0) :=
  pure_run G0_ok Try.func34 (orc := ⟨[false, true], []⟩) (obl := [decide (k < (1 : Int)) = false,
      decide (k > (4 : Int)) = true,
      (0 : Int) = (0 : Int)]) (by kernel_rfl) (.cons (by exact decide_eq_false (by omega)) (.cons (by exact decide_eq_true (by omega)) (.cons (by rfl) .nil)))

set_option maxHeartbeats 2000000 in
theorem by_1  : PureOk Try.prog 34 ([iA 1]) (iA 1) :=
  pure_run G0_ok Try.func34 (orc := ⟨[false, false], []⟩) (obl := [decide ((1 : Int) < (1 : Int)) = false,
      decide ((1 : Int) > (4 : Int)) = false,
      (0 : Int) ≤ (1 : Int),
      (1 : Int) < (↑(5 : Nat) : Int),
      (1 : Nat) < (5 : Nat),
      (1 : Int) = (1 : Int)]) (by kernel_rfl) (.cons (by rfl) (.cons (by rfl) (.cons (by trivial) (.cons (by trivial) (.cons (by trivial) (.cons (by rfl) .nil))))))

set_option maxHeartbeats 2000000 in
theorem by_2  : PureOk Try.prog 34 ([iA 2]) (iA 2) :=
  pure_run G0_ok Try.func34 (orc := ⟨[false, false], []⟩) (obl := [decide ((2 : Int) < (1 : Int)) = false,
      decide ((2 : Int) > (4 : Int)) = false,
      (0 : Int) ≤ (2 : Int),
      (2 : Int) < (↑(5 : Nat) : Int),
      (2 : Nat) < (5 : Nat),
      (2 : Int) = (2 : Int)]) (by kernel_rfl) (.cons (by rfl) (.cons (by rfl) (.cons (by trivial) (.cons (by trivial) (.cons (by trivial) (.cons (by rfl) .nil))))))

set_option maxHeartbeats 2000000 in
theorem by_3  : PureOk Try.prog 34 ([iA 3]) (iA 4) :=
  pure_run G0_ok Try.func34 (orc := ⟨[false, false], []⟩) (obl := [decide ((3 : Int) < (1 : Int)) = false,
      decide ((3 : Int) > (4 : Int)) = false,
      (0 : Int) ≤ (3 : Int),
      (3 : Int) < (↑(5 : Nat) : Int),
      (3 : Nat) < (5 : Nat),
      (4 : Int) = (4 : Int)]) (by kernel_rfl) (.cons (by rfl) (.cons (by rfl) (.cons (by trivial) (.cons (by trivial) (.cons (by trivial) (.cons (by rfl) .nil))))))

set_option maxHeartbeats 2000000 in
theorem by_4  : PureOk Try.prog 34 ([iA 4]) (iA 8) :=
  pure_run G0_ok Try.func34 (orc := ⟨[false, false], []⟩) (obl := [decide ((4 : Int) < (1 : Int)) = false,
      decide ((4 : Int) > (4 : Int)) = false,
      (0 : Int) ≤ (4 : Int),
      (4 : Int) < (↑(5 : Nat) : Int),
      (4 : Nat) < (5 : Nat),
      (8 : Int) = (8 : Int)]) (by kernel_rfl) (.cons (by rfl) (.cons (by rfl) (.cons (by trivial) (.cons (by trivial) (.cons (by trivial) (.cons (by rfl) .nil))))))

set_option maxHeartbeats 2000000 in
theorem hi_0 (n : Int) : PureOk Try.prog 36 ([uA n, iA 0]) (sA ⟨#[]⟩) :=
  pure_run Gb8_ok Try.func36 (orc := ⟨[true], []⟩) (obl := [((0 : Int) == (0 : Int)) = true,
      (ByteArray.mk #[]) = (ByteArray.mk #[])]) (by kernel_rfl) (.cons (by rfl) (.cons (by rfl) .nil))

set_option maxHeartbeats 2000000 in
theorem hi_s (N w : Nat) (n : Int) (ih : SpOk Try.prog 36 (pureS (gHighN N))) (h0 : 0 ≤ n) (h1 : n ≤ 18446744073709551615) (hw : w ≤ N) (hw8 : w < 8) (r : ByteArray) (ew : IntKind.wrap IntKind.i64 (((w + 1 : Nat) : Int) - 1) = w) (e1 : IntKind.wrap IntKind.u64 (Int.tdiv n 256) = n / 256) (e2 : IntKind.wrap IntKind.u8 (Int.tmod n 256) = n % 256) (er : strL (hiL w (n / 256)) ++ strL [n % 256] = r) (hz : ((strL (hiL w (n / 256))).size : Int) + 1 ≤ 9223372036854775807) : PureOk Try.prog 36 ([uA n, iA (w + 1 : Nat)]) (sA r) :=
  pure_run (Ghi_ok N ih) Try.func36 (orc := ⟨[false], []⟩) (obl := [((↑(w + (1 : Nat)) : Int) == (0 : Int)) = false,
      (256 : Int) ≠ (0 : Int),
      (0 : Int) ≤ IntKind.wrap IntKind.u64 (Int.tdiv n (256 : Int)),
      IntKind.wrap IntKind.u64 (Int.tdiv n (256 : Int)) ≤ (18446744073709551615 : Int),
      (0 : Int) ≤ IntKind.wrap IntKind.i64 ((↑(w + (1 : Nat)) : Int) - (1 : Int)),
      Int.toNat (IntKind.wrap IntKind.i64 ((↑(w + (1 : Nat)) : Int) - (1 : Int))) ≤ N,
      IntKind.wrap IntKind.i64 ((↑(w + (1 : Nat)) : Int) - (1 : Int)) ≤ (8 : Int),
      (256 : Int) ≠ (0 : Int),
      bytesG (1 : Nat) (litG (1 : Nat) [At.val (Value.int IntKind.u8 (IntKind.wrap IntKind.u8 (Int.tmod n (256 : Int))))]),
      (↑(ByteArray.size (strL (hiL (Int.toNat (IntKind.wrap IntKind.i64 ((↑(w + (1 : Nat)) : Int) - (1 : Int)))) (IntKind.wrap IntKind.u64 (Int.tdiv n (256 : Int))))) + ByteArray.size (rowStr (1 : Nat) (litG (1 : Nat) [At.val (Value.int IntKind.u8 (IntKind.wrap IntKind.u8 (Int.tmod n (256 : Int))))]))) : Int) ≤ IntKind.max IntKind.i64,
      strL (hiL (Int.toNat (IntKind.wrap IntKind.i64 ((↑(w + (1 : Nat)) : Int) - (1 : Int)))) (IntKind.wrap IntKind.u64 (Int.tdiv n (256 : Int)))) ++ rowStr (1 : Nat) (litG (1 : Nat) [At.val (Value.int IntKind.u8 (IntKind.wrap IntKind.u8 (Int.tmod n (256 : Int))))]) = r]) (by kernel_rfl) (.cons (by rfl) (.cons (by trivial) (.cons (by (rw [e1]; omega)) (.cons (by (rw [e1]; omega)) (.cons (by (rw [ew]; omega)) (.cons (by (rw [ew]; omega)) (.cons (by (rw [ew]; omega)) (.cons (by trivial) (.cons (by exact bytes_lit _) (.cons (by (simp only [ew, e1, Int.toNat_natCast]; rw [row_lit e2 (by omega), strL_size [n % 256]]; exact hz)) (.cons (by (simp only [ew, e1, Int.toNat_natCast]; rw [row_lit e2 (by omega)]; exact er)) .nil)))))))))))

set_option maxHeartbeats 2000000 in
theorem fe_0 (n : Int) (h0 : 0 ≤ n) (h : n < 128) (r : ByteArray) (er : strL [n] = r) : PureOk Try.prog 35 ([uA n]) (sA r) :=
  pure_run Gb8_ok Try.func35 (orc := ⟨[true], []⟩) (obl := [decide (n < (128 : Int)) = true,
      bytesG (1 : Nat) (litG (1 : Nat) [At.val (Value.int IntKind.u8 (IntKind.wrap IntKind.u8 n))]),
      rowStr (1 : Nat) (litG (1 : Nat) [At.val (Value.int IntKind.u8 (IntKind.wrap IntKind.u8 n))]) = r]) (by kernel_rfl) (.cons (by exact decide_eq_true (by omega)) (.cons (by exact bytes_lit _) (.cons (by (rw [row_lit (wU8 (b := n) rfl (by omega)) (by omega)]; exact er)) .nil)))

set_option maxHeartbeats 2000000 in
theorem fe_s (N : Nat) (n : Int) (hN : N ≤ 100) (ih : SpOk Try.prog 35 (pureS (gFewN N))) (h : 128 ≤ n) (h1 : n ≤ 18446744073709551615) (hb : n / 128 < 2 * 128 ^ N) (e1 : IntKind.wrap IntKind.u64 (Int.tdiv n 128) = n / 128) (e2 : IntKind.wrap IntKind.u8 (IntKind.wrap IntKind.u64 (128 + Int.tmod n 128)) = n % 128 + 128) (hz : 1 + ((strL (varL N (n / 128))).size : Int) ≤ 9223372036854775807) (r : ByteArray) (er : strL [n % 128 + 128] ++ strL (varL N (n / 128)) = r) : PureOk Try.prog 35 ([uA n]) (sA r) :=
  pure_run (Gfew_ok N ih) Try.func35 (orc := ⟨[false], []⟩) (obl := [decide (n < (128 : Int)) = false,
      (128 : Int) ≠ (0 : Int),
      bytesG (1 : Nat) (litG (1 : Nat) [At.val (Value.int IntKind.u8 (IntKind.wrap IntKind.u8 (IntKind.wrap IntKind.u64 ((128 : Int) + Int.tmod n (128 : Int)))))]),
      (128 : Int) ≠ (0 : Int),
      (0 : Int) ≤ IntKind.wrap IntKind.u64 (Int.tdiv n (128 : Int)),
      IntKind.wrap IntKind.u64 (Int.tdiv n (128 : Int)) ≤ (18446744073709551615 : Int),
      IntKind.wrap IntKind.u64 (Int.tdiv n (128 : Int)) < (2 : Int) * (128 : Int) ^ N,
      N ≤ (100 : Nat),
      (↑(ByteArray.size (rowStr (1 : Nat) (litG (1 : Nat) [At.val (Value.int IntKind.u8 (IntKind.wrap IntKind.u8 (IntKind.wrap IntKind.u64 ((128 : Int) + Int.tmod n (128 : Int)))))])) + ByteArray.size (strL (varL N (IntKind.wrap IntKind.u64 (Int.tdiv n (128 : Int)))))) : Int) ≤ IntKind.max IntKind.i64,
      rowStr (1 : Nat) (litG (1 : Nat) [At.val (Value.int IntKind.u8 (IntKind.wrap IntKind.u8 (IntKind.wrap IntKind.u64 ((128 : Int) + Int.tmod n (128 : Int)))))]) ++ strL (varL N (IntKind.wrap IntKind.u64 (Int.tdiv n (128 : Int)))) = r]) (by kernel_rfl) (.cons (by exact decide_eq_false (by omega)) (.cons (by trivial) (.cons (by exact bytes_lit _) (.cons (by trivial) (.cons (by (rw [e1]; omega)) (.cons (by (rw [e1]; omega)) (.cons (by (rw [e1]; omega)) (.cons (by assumption) (.cons (by (rw [e1, row_lit e2 (by omega), strL_size [n % 128 + 128]]; exact hz)) (.cons (by (rw [e1, row_lit e2 (by omega)]; exact er)) .nil))))))))))
end Go.Proofs.Yteehpliloegkgaa

/- wire: the document's bytes of numbers, and sizes of fields, as specifications. No condition. -/
namespace Go.Proofs.Yteehpliloegkgaa
set_option linter.unusedVariables false
set_option linter.unusedSimpArgs false
open Go.RowKit E

theorem empty_eq : (⟨#[]⟩ : ByteArray) = strL [] := rfl
theorem spHighN : ∀ N, SpOk Try.prog 36 (pureS (gHighN N))
  | 0 => pureS_ok (by
    intro args r obl h ho
    unfold gHighN at h
    split at h
    · rename_i n w
      simp only [Option.some.injEq, Prod.mk.injEq] at h
      obtain ⟨rfl, rfl⟩ := h
      obtain ⟨o1, o2, o3, o4, _⟩ := ho
      have : w = 0 := by omega
      subst this
      exact ⟨rfl, rfl, hi_0 n⟩
    · cases h)
  | N + 1 => pureS_ok (by
    intro args r obl h ho
    unfold gHighN at h
    split at h
    · rename_i n w
      simp only [Option.some.injEq, Prod.mk.injEq] at h
      obtain ⟨rfl, rfl⟩ := h
      obtain ⟨o1, o2, o3, o4, o5, _⟩ := ho
      obtain ⟨w, rfl⟩ := Int.eq_ofNat_of_zero_le o3
      refine ⟨rfl, rfl, ?_⟩
      cases w with
      | zero => exact hi_0 n
      | succ w =>
        have hz : (strL (hiL w (n / 256))).size = w := by rw [strL_size, hiL_len]
        exact hi_s N w n (spHighN N) o1 o2 (by omega) (by omega) _ (w64 (by omega) (by omega)) (by rw [tdiv_e o1]; exact wU64 rfl (by omega)) (by rw [tmod_e o1]; exact wU8 rfl (by omega))
          (strL_app (inB_hi w _) (fun x hx => by simp at hx; subst hx; omega)).symm (by rw [hz]; omega)
    · cases h)
theorem spFewN : ∀ N, SpOk Try.prog 35 (pureS (gFewN N))
  | 0 => pureS_ok (by
    intro args r obl h ho
    unfold gFewN at h
    split at h
    · rename_i n
      simp only [Option.some.injEq, Prod.mk.injEq] at h
      obtain ⟨rfl, rfl⟩ := h
      obtain ⟨o1, o2, o3, _⟩ := ho
      exact ⟨rfl, rfl, fe_0 n o1 (by omega) _ rfl⟩
    · cases h)
  | N + 1 => pureS_ok (by
    intro args r obl h ho
    unfold gFewN at h
    split at h
    · rename_i n
      simp only [Option.some.injEq, Prod.mk.injEq] at h
      obtain ⟨rfl, rfl⟩ := h
      obtain ⟨o1, o2, o3, o4, _⟩ := ho
      refine ⟨rfl, rfl, ?_⟩
      by_cases q : 128 ≤ n
      · rw [Int.pow_succ] at o3
        have hz := varL_len N (n / 128)
        exact fe_s N n (by omega) (spFewN N) q o2 (by omega) (by rw [tdiv_e o1]; exact wU64 rfl (by omega)) (by rw [tmod_e o1, wU64 (a := 128 + n % 128) (b := n % 128 + 128) (by omega) (by omega)]; exact wU8 rfl (by omega)) (by rw [strL_size]; omega) _
            (by rw [varL_go q, ← strL_app (fun x hx => by simp at hx; subst hx; omega) (inB_var N _ (by omega) (by omega))]; rfl)
      · rw [varL_end q]; exact fe_0 n o1 (by omega) _ rfl
    · cases h)
def gSize : List SV → Option (SV × List Prop)
  | [.nv (.agg [.val (.int .i64 k), .val (.int .u64 n), .val (.string s)])] => some (iA ((putStr (fun _ => ⟨k, n, s⟩) 1).size : Nat), [0 ≤ n, n < 18446744073709551616])
  | _ => none
def gBytes : List SV → Option (SV × List Prop)
  | [.nv (.one (.val (.int .i64 k)))] => some (iA (widthZ k), [])
  | _ => none
theorem spBytes : SpOk Try.prog 34 (pureS gBytes) := pureS_ok (by
  intro args r obl h ho
  unfold gBytes at h
  split at h
  · rename_i k
    simp only [Option.some.injEq, Prod.mk.injEq] at h
    obtain ⟨rfl, rfl⟩ := h
    refine ⟨rfl, rfl, ?_⟩
    unfold widthZ
    split
    · rename_i e; subst e; exact by_1
    · split
      · rename_i e; subst e; exact by_2
      · split
        · rename_i e; subst e; exact by_3
        · split
          · rename_i e; subst e; exact by_4
          · by_cases q : k < 1
            · exact by_l k q
            · exact by_h k (by omega)
  · cases h)
def Gb9 : List (FuncId × Sp) := (34, pureS gBytes) :: (36, pureS (gHighN 8)) :: (35, pureS (gFewN 9)) :: Gb8
theorem Gb9_ok : CtxOk Try.prog Gb9 := ctx_cons (enter_of Try.func34 (by kernel_rfl) (by kernel_rfl)) spBytes <|
  ctx_cons (enter_of Try.func36 (by kernel_rfl) (by kernel_rfl)) (spHighN 8) <|
  ctx_cons (enter_of Try.func35 (by kernel_rfl) (by kernel_rfl)) (spFewN 9) Gb8_ok
end Go.Proofs.Yteehpliloegkgaa

/- Runs of Go code, as printed by a program: no condition beyond those that each states. -/
namespace Go.Proofs.Yteehpliloegkgaa
set_option linter.unusedVariables false
set_option linter.unusedSimpArgs false
set_option maxRecDepth 100000
open Go.RowKit E
set_option maxHeartbeats 2000000 in
theorem on_1 (k n : Int) (s : ByteArray) (h1 : k < 1) : PureOk Try.prog 33 ([.nv (.agg [.val (.int .i64 k), .val (.int .u64 n), .val (.string s)])]) (.tup [.one (.val (.string ⟨#[]⟩)), .one (.val (.int .i64 6))]) :=
  pure_run Gb9_ok Try.func33 (orc := ⟨[true, true, true, true], []⟩) (obl := [decide (k < (1 : Int)) = true,
      true = true,
      true = true,
      true = true,
      (ByteArray.mk #[]) = (ByteArray.mk #[]),
      (6 : Int) = (6 : Int)]) (by kernel_rfl) (.cons (by exact decide_eq_true (by omega)) (.cons (by rfl) (.cons (by rfl) (.cons (by rfl) (.cons (by rfl) (.cons (by rfl) .nil))))))

set_option maxHeartbeats 2000000 in
theorem on_2 (k n : Int) (s : ByteArray) (h1 : 6 < k) : PureOk Try.prog 33 ([.nv (.agg [.val (.int .i64 k), .val (.int .u64 n), .val (.string s)])]) (.tup [.one (.val (.string ⟨#[]⟩)), .one (.val (.int .i64 6))]) :=
  pure_run Gb9_ok Try.func33 (orc := ⟨[false, true, true, true], []⟩) (obl := [decide (k < (1 : Int)) = false,
      decide (k > (6 : Int)) = true,
      true = true,
      true = true,
      (ByteArray.mk #[]) = (ByteArray.mk #[]),
      (6 : Int) = (6 : Int)]) (by kernel_rfl) (.cons (by exact decide_eq_false (by omega)) (.cons (by exact decide_eq_true (by omega)) (.cons (by rfl) (.cons (by rfl) (.cons (by rfl) (.cons (by rfl) .nil))))))

set_option maxHeartbeats 2000000 in
theorem on_3 (n : Int) (s : ByteArray) (h1 : n ≠ 0) : PureOk Try.prog 33 ([.nv (.agg [.val (.int .i64 6), .val (.int .u64 n), .val (.string s)])]) (.tup [.one (.val (.string ⟨#[]⟩)), .one (.val (.int .i64 6))]) :=
  pure_run Gb9_ok Try.func33 (orc := ⟨[false, false, true, true, true], []⟩) (obl := [decide ((6 : Int) < (1 : Int)) = false,
      decide ((6 : Int) > (6 : Int)) = false,
      ((6 : Int) == (6 : Int)) = true,
      (n != (0 : Int)) = true,
      true = true,
      (ByteArray.mk #[]) = (ByteArray.mk #[]),
      (6 : Int) = (6 : Int)]) (by kernel_rfl) (.cons (by rfl) (.cons (by rfl) (.cons (by rfl) (.cons (by exact bne_iff_ne.2 (by omega)) (.cons (by rfl) (.cons (by rfl) (.cons (by rfl) .nil)))))))

set_option maxHeartbeats 2000000 in
theorem on_4 (k n : Int) (s : ByteArray) (h1 : 1 ≤ k) (h6 : k ≤ 5) (hs : s.size ≠ 0) : PureOk Try.prog 33 ([.nv (.agg [.val (.int .i64 k), .val (.int .u64 n), .val (.string s)])]) (.tup [.one (.val (.string ⟨#[]⟩)), .one (.val (.int .i64 6))]) :=
  pure_run Gb9_ok Try.func33 (orc := ⟨[false, false, false, false, true, true], []⟩) (obl := [decide (k < (1 : Int)) = false,
      decide (k > (6 : Int)) = false,
      (k == (6 : Int)) = false,
      false = false,
      (k != (6 : Int)) = true,
      (!ByteArray.toList s == ByteArray.toList (ByteArray.mk #[])) = true,
      (ByteArray.mk #[]) = (ByteArray.mk #[]),
      (6 : Int) = (6 : Int)]) (by kernel_rfl) (.cons (by exact decide_eq_false (by omega)) (.cons (by exact decide_eq_false (by omega)) (.cons (by exact decide_eq_false (by omega)) (.cons (by rfl) (.cons (by exact bne_iff_ne.2 (by omega)) (.cons (by (rw [str_ne hs]; rfl)) (.cons (by rfl) (.cons (by rfl) .nil))))))))

set_option maxHeartbeats 2000000 in
theorem on_5 (s : ByteArray) (hl : s.size > 65535) : PureOk Try.prog 33 ([.nv (.agg [.val (.int .i64 6), .val (.int .u64 0), .val (.string s)])]) (.tup [.one (.val (.string ⟨#[]⟩)), .one (.val (.int .i64 4))]) :=
  pure_run Gb9_ok Try.func33 (orc := ⟨[false, false, true, false, false, false, false, false, false, true], [unroll 1]⟩) (obl := [decide ((6 : Int) < (1 : Int)) = false,
      decide ((6 : Int) > (6 : Int)) = false,
      ((6 : Int) == (6 : Int)) = true,
      ((0 : Int) != (0 : Int)) = false,
      ((6 : Int) != (6 : Int)) = false,
      false = false,
      decide ((0 : Int) < widthZ (6 : Int)) = false,
      decide (widthZ (6 : Int) > (0 : Int)) = false,
      false = false,
      decide ((↑(ByteArray.size s) : Int) > (65535 : Int)) = true,
      (ByteArray.mk #[]) = (ByteArray.mk #[]),
      (4 : Int) = (4 : Int)]) (by kernel_rfl) (.cons (by rfl) (.cons (by rfl) (.cons (by rfl) (.cons (by rfl) (.cons (by rfl) (.cons (by rfl) (.cons (by rfl) (.cons (by rfl) (.cons (by rfl) (.cons (by exact decide_eq_true (by omega)) (.cons (by rfl) (.cons (by rfl) .nil))))))))))))

set_option maxHeartbeats 2000000 in
theorem on_6 (s : ByteArray) (hl : s.size ≤ 65535) (ew : IntKind.wrap IntKind.u64 (s.size : Int) = s.size) (hv : (strL (varL 9 s.size)).size ≤ 10) : PureOk Try.prog 33 ([.nv (.agg [.val (.int .i64 6), .val (.int .u64 0), .val (.string s)])]) (.tup [.one (.val (.string (strL (varL 9 s.size) ++ s))), .one (.val (.int .i64 0))]) :=
  pure_run Gb9_ok Try.func33 (orc := ⟨[false, false, true, false, false, false, false, false, false, false, true], [unroll 1]⟩) (obl := [decide ((6 : Int) < (1 : Int)) = false,
      decide ((6 : Int) > (6 : Int)) = false,
      ((6 : Int) == (6 : Int)) = true,
      ((0 : Int) != (0 : Int)) = false,
      ((6 : Int) != (6 : Int)) = false,
      false = false,
      decide ((0 : Int) < widthZ (6 : Int)) = false,
      decide (widthZ (6 : Int) > (0 : Int)) = false,
      false = false,
      decide ((↑(ByteArray.size s) : Int) > (65535 : Int)) = false,
      ((6 : Int) == (6 : Int)) = true,
      (0 : Int) ≤ IntKind.wrap IntKind.u64 (↑(ByteArray.size s) : Int),
      IntKind.wrap IntKind.u64 (↑(ByteArray.size s) : Int) ≤ (18446744073709551615 : Int),
      IntKind.wrap IntKind.u64 (↑(ByteArray.size s) : Int) < (2 : Int) * (128 : Int) ^ (9 : Nat),
      (9 : Nat) ≤ (100 : Nat),
      (↑(ByteArray.size (strL (varL (9 : Nat) (IntKind.wrap IntKind.u64 (↑(ByteArray.size s) : Int)))) + ByteArray.size s) : Int) ≤ IntKind.max IntKind.i64,
      strL (varL (9 : Nat) (IntKind.wrap IntKind.u64 (↑(ByteArray.size s) : Int))) ++ s = strL (varL (9 : Nat) (↑(ByteArray.size s) : Int)) ++ s,
      (0 : Int) = (0 : Int)]) (by kernel_rfl) (.cons (by rfl) (.cons (by rfl) (.cons (by rfl) (.cons (by rfl) (.cons (by rfl) (.cons (by rfl) (.cons (by rfl) (.cons (by rfl) (.cons (by rfl) (.cons (by exact decide_eq_false (by omega)) (.cons (by rfl) (.cons (by (rw [ew]; omega)) (.cons (by (rw [ew]; omega)) (.cons (by (rw [ew]; omega)) (.cons (by trivial) (.cons (by (rw [ew, show IntKind.max IntKind.i64 = 9223372036854775807 from rfl]; omega)) (.cons (by (simp [*]; done)) (.cons (by rfl) .nil))))))))))))))))))

set_option maxHeartbeats 2000000 in
theorem on_7 (n : Int) (s : ByteArray) (hs : s.size = 0) (h0 : 0 ≤ n) (h1 : n ≤ 18446744073709551615) : PureOk Try.prog 33 ([.nv (.agg [.val (.int .i64 5), .val (.int .u64 n), .val (.string s)])]) (.tup [.one (.val (.string (strL (varL 9 n)))), .one (.val (.int .i64 0))]) :=
  pure_run Gb9_ok Try.func33 (orc := ⟨[false, false, false, false, true, false, false, false, false, false, false, true], [unroll 1]⟩) (obl := [decide ((5 : Int) < (1 : Int)) = false,
      decide ((5 : Int) > (6 : Int)) = false,
      ((5 : Int) == (6 : Int)) = false,
      false = false,
      ((5 : Int) != (6 : Int)) = true,
      (!ByteArray.toList s == ByteArray.toList (ByteArray.mk #[])) = false,
      decide ((0 : Int) < widthZ (5 : Int)) = false,
      decide (widthZ (5 : Int) > (0 : Int)) = false,
      false = false,
      decide ((↑(ByteArray.size s) : Int) > (65535 : Int)) = false,
      ((5 : Int) == (6 : Int)) = false,
      ((5 : Int) == (5 : Int)) = true,
      (0 : Int) ≤ n,
      n ≤ (18446744073709551615 : Int),
      n < (2 : Int) * (128 : Int) ^ (9 : Nat),
      (9 : Nat) ≤ (100 : Nat),
      strL (varL (9 : Nat) n) = strL (varL (9 : Nat) n),
      (0 : Int) = (0 : Int)]) (by kernel_rfl) (.cons (by rfl) (.cons (by rfl) (.cons (by rfl) (.cons (by rfl) (.cons (by rfl) (.cons (by (rw [str_eq hs]; rfl)) (.cons (by rfl) (.cons (by rfl) (.cons (by rfl) (.cons (by exact decide_eq_false (by omega)) (.cons (by rfl) (.cons (by rfl) (.cons (by assumption) (.cons (by assumption) (.cons (by omega) (.cons (by trivial) (.cons (by rfl) (.cons (by rfl) .nil))))))))))))))))))

set_option maxHeartbeats 2000000 in
theorem on_n (k n x w : Int) (s : ByteArray) (i : Nat) (hi : (i : Int) < w) (hw : w ≤ 8) (h0 : 0 ≤ x) (h1 : x ≤ 18446744073709551615) (e1 : IntKind.wrap IntKind.u64 (Int.tdiv x 256) = x / 256) : CodeOk Try.prog 0 (loopOf Try.f33 0) (mkSt 78 [(1, .nv (.one (.ptr 0 0))), (4, iA w), (5, uA x), (6, iA i)] [.box 64 [.val (.int .i64 k), .val (.int .u64 n), .val (.string s)]]) .normal (mkSt 78 [(1, .nv (.one (.ptr 0 0))), (4, iA w), (5, uA (x / 256)), (6, iA (i + 1 : Nat))] [.box 64 [.val (.int .i64 k), .val (.int .u64 n), .val (.string s)]]) :=
  code_run Gb9_ok (orc := ⟨[true], []⟩) (obl := [decide ((↑i : Int) < w) = true,
      (256 : Int) ≠ (0 : Int),
      (0 : Nat) = (0 : Nat),
      w = w,
      IntKind.wrap IntKind.u64 (Int.tdiv x (256 : Int)) = x / (256 : Int),
      IntKind.wrap IntKind.i64 ((↑i : Int) + (1 : Int)) = (↑(i + (1 : Nat)) : Int),
      k = k,
      n = n,
      s = s]) (by kernel_rfl) (.cons (by exact decide_eq_true (by omega)) (.cons (by trivial) (.cons (by rfl) (.cons (by rfl) (.cons (by assumption) (.cons (by exact w64 (by omega) (by omega)) (.cons (by rfl) (.cons (by rfl) (.cons (by rfl) .nil))))))))) (Nat.le_of_ble_eq_true (by kernel_rfl))

set_option maxHeartbeats 2000000 in
theorem on_e (k n x w : Int) (s : ByteArray) : CodeOk Try.prog 0 (loopOf Try.f33 0) (mkSt 78 [(1, .nv (.one (.ptr 0 0))), (4, iA w), (5, uA x), (6, iA w)] [.box 64 [.val (.int .i64 k), .val (.int .u64 n), .val (.string s)]]) (.exit 0) (mkSt 78 [(1, .nv (.one (.ptr 0 0))), (4, iA w), (5, uA x)] [.box 64 [.val (.int .i64 k), .val (.int .u64 n), .val (.string s)]]) :=
  code_run Gb9_ok (orc := ⟨[false], []⟩) (obl := [decide (w < w) = false,
      (0 : Nat) = (0 : Nat),
      w = w,
      x = x,
      k = k,
      n = n,
      s = s]) (by kernel_rfl) (.cons (by exact decide_eq_false (by omega)) (.cons (by rfl) (.cons (by rfl) (.cons (by rfl) (.cons (by rfl) (.cons (by rfl) (.cons (by rfl) .nil))))))) (Nat.le_of_ble_eq_true (by kernel_rfl))

set_option maxHeartbeats 2000000 in
theorem on_o (k n x w : Int) (s : ByteArray) (h1 : 1 ≤ k) (h4 : k ≤ 4) (hs : s.size = 0) (hk : widthZ k = w) (hw : 0 < w) (hx : 0 < x) (l0 : CodeOk Try.prog 0 (.loop (loopOf Try.f33 0)) (mkSt 78 [(1, .nv (.one (.ptr 0 0))), (4, iA w), (5, uA n), (6, iA (0 : Nat))] [.box 64 [.val (.int .i64 k), .val (.int .u64 n), .val (.string s)]]) (.exit 0) (mkSt 78 [(1, .nv (.one (.ptr 0 0))), (4, iA w), (5, uA x)] [.box 64 [.val (.int .i64 k), .val (.int .u64 n), .val (.string s)]])) : PureOk Try.prog 33 ([.nv (.agg [.val (.int .i64 k), .val (.int .u64 n), .val (.string s)])]) (.tup [.one (.val (.string ⟨#[]⟩)), .one (.val (.int .i64 5))]) :=
  pure_run Gb9_ok Try.func33 (orc := ⟨[false, false, false, false, true, false, true, true], [⟨mkSt 78 [(1, .nv (.one (.ptr 0 0))), (4, iA w), (5, uA n), (6, iA (0 : Nat))] [.box 64 [.val (.int .i64 k), .val (.int .u64 n), .val (.string s)]], .exit 0, mkSt 78 [(1, .nv (.one (.ptr 0 0))), (4, iA w), (5, uA x)] [.box 64 [.val (.int .i64 k), .val (.int .u64 n), .val (.string s)]]⟩]⟩) (obl := [decide (k < (1 : Int)) = false,
      decide (k > (6 : Int)) = false,
      (k == (6 : Int)) = false,
      false = false,
      (k != (6 : Int)) = true,
      (!ByteArray.toList s == ByteArray.toList (ByteArray.mk #[])) = false,
      (0 : Nat) = (0 : Nat),
      widthZ k = w,
      n = n,
      (0 : Int) = (↑(0 : Nat) : Int),
      k = k,
      n = n,
      s = s,
      (0 : Nat) ≤ (1 : Nat),
      CodeOk Try.prog (0 : Nat) (Code.loop (loopOf Try.f33 (0 : Nat))) (mkSt (78 : Nat) [((1 : Nat), SV.nv (NV.one (At.ptr (0 : Nat) (0 : Nat)))), ((4 : Nat), iA w), ((5 : Nat), uA n), ((6 : Nat), iA (↑(0 : Nat) : Int))] [Seg.box (64 : TypeId) [At.val (Value.int IntKind.i64 k), At.val (Value.int IntKind.u64 n), At.val (Value.string s)]]) (Ex.exit (0 : Nat)) (mkSt (78 : Nat) [((1 : Nat), SV.nv (NV.one (At.ptr (0 : Nat) (0 : Nat)))), ((4 : Nat), iA w), ((5 : Nat), uA x)] [Seg.box (64 : TypeId) [At.val (Value.int IntKind.i64 k), At.val (Value.int IntKind.u64 n), At.val (Value.string s)]]),
      decide (w > (0 : Int)) = true,
      decide (x > (0 : Int)) = true,
      (ByteArray.mk #[]) = (ByteArray.mk #[]),
      (5 : Int) = (5 : Int)]) (by kernel_rfl) (.cons (by exact decide_eq_false (by omega)) (.cons (by exact decide_eq_false (by omega)) (.cons (by exact decide_eq_false (by omega)) (.cons (by rfl) (.cons (by exact bne_iff_ne.2 (by omega)) (.cons (by (rw [str_eq hs]; rfl)) (.cons (by rfl) (.cons (by assumption) (.cons (by rfl) (.cons (by rfl) (.cons (by rfl) (.cons (by rfl) (.cons (by rfl) (.cons (by trivial) (.cons (by assumption) (.cons (by exact decide_eq_true (by omega)) (.cons (by exact decide_eq_true (by omega)) (.cons (by rfl) (.cons (by rfl) .nil)))))))))))))))))))

set_option maxHeartbeats 2000000 in
theorem on_w (k n x w : Int) (s : ByteArray) (h1 : 1 ≤ k) (h4 : k ≤ 4) (hs : s.size = 0) (hk : widthZ k = w) (hw : 0 < w) (hw8 : w ≤ 8) (hx : ¬ 0 < x) (h0 : 0 ≤ n) (hn : n ≤ 18446744073709551615) (l0 : CodeOk Try.prog 0 (.loop (loopOf Try.f33 0)) (mkSt 78 [(1, .nv (.one (.ptr 0 0))), (4, iA w), (5, uA n), (6, iA (0 : Nat))] [.box 64 [.val (.int .i64 k), .val (.int .u64 n), .val (.string s)]]) (.exit 0) (mkSt 78 [(1, .nv (.one (.ptr 0 0))), (4, iA w), (5, uA x)] [.box 64 [.val (.int .i64 k), .val (.int .u64 n), .val (.string s)]])) : PureOk Try.prog 33 ([.nv (.agg [.val (.int .i64 k), .val (.int .u64 n), .val (.string s)])]) (.tup [.one (.val (.string (strL (hiL w.toNat n)))), .one (.val (.int .i64 0))]) :=
  pure_run Gb9_ok Try.func33 (orc := ⟨[false, false, false, false, true, false, true, false, false, false, false], [⟨mkSt 78 [(1, .nv (.one (.ptr 0 0))), (4, iA w), (5, uA n), (6, iA (0 : Nat))] [.box 64 [.val (.int .i64 k), .val (.int .u64 n), .val (.string s)]], .exit 0, mkSt 78 [(1, .nv (.one (.ptr 0 0))), (4, iA w), (5, uA x)] [.box 64 [.val (.int .i64 k), .val (.int .u64 n), .val (.string s)]]⟩]⟩) (obl := [decide (k < (1 : Int)) = false,
      decide (k > (6 : Int)) = false,
      (k == (6 : Int)) = false,
      false = false,
      (k != (6 : Int)) = true,
      (!ByteArray.toList s == ByteArray.toList (ByteArray.mk #[])) = false,
      (0 : Nat) = (0 : Nat),
      widthZ k = w,
      n = n,
      (0 : Int) = (↑(0 : Nat) : Int),
      k = k,
      n = n,
      s = s,
      (0 : Nat) ≤ (1 : Nat),
      CodeOk Try.prog (0 : Nat) (Code.loop (loopOf Try.f33 (0 : Nat))) (mkSt (78 : Nat) [((1 : Nat), SV.nv (NV.one (At.ptr (0 : Nat) (0 : Nat)))), ((4 : Nat), iA w), ((5 : Nat), uA n), ((6 : Nat), iA (↑(0 : Nat) : Int))] [Seg.box (64 : TypeId) [At.val (Value.int IntKind.i64 k), At.val (Value.int IntKind.u64 n), At.val (Value.string s)]]) (Ex.exit (0 : Nat)) (mkSt (78 : Nat) [((1 : Nat), SV.nv (NV.one (At.ptr (0 : Nat) (0 : Nat)))), ((4 : Nat), iA w), ((5 : Nat), uA x)] [Seg.box (64 : TypeId) [At.val (Value.int IntKind.i64 k), At.val (Value.int IntKind.u64 n), At.val (Value.string s)]]),
      decide (w > (0 : Int)) = true,
      decide (x > (0 : Int)) = false,
      decide ((↑(ByteArray.size s) : Int) > (65535 : Int)) = false,
      (k == (6 : Int)) = false,
      (k == (5 : Int)) = false,
      (0 : Int) ≤ n,
      n ≤ (18446744073709551615 : Int),
      (0 : Int) ≤ w,
      Int.toNat w ≤ (8 : Nat),
      w ≤ (8 : Int),
      strL (hiL (Int.toNat w) n) = strL (hiL (Int.toNat w) n),
      (0 : Int) = (0 : Int)]) (by kernel_rfl) (.cons (by exact decide_eq_false (by omega)) (.cons (by exact decide_eq_false (by omega)) (.cons (by exact decide_eq_false (by omega)) (.cons (by rfl) (.cons (by exact bne_iff_ne.2 (by omega)) (.cons (by (rw [str_eq hs]; rfl)) (.cons (by rfl) (.cons (by assumption) (.cons (by rfl) (.cons (by rfl) (.cons (by rfl) (.cons (by rfl) (.cons (by rfl) (.cons (by trivial) (.cons (by assumption) (.cons (by exact decide_eq_true (by omega)) (.cons (by exact decide_eq_false (by omega)) (.cons (by exact decide_eq_false (by omega)) (.cons (by exact decide_eq_false (by omega)) (.cons (by exact decide_eq_false (by omega)) (.cons (by assumption) (.cons (by assumption) (.cons (by omega) (.cons (by omega) (.cons (by assumption) (.cons (by rfl) (.cons (by rfl) .nil)))))))))))))))))))))))))))
end Go.Proofs.Yteehpliloegkgaa

/- wire: the document's bytes of a field, as a specification. No condition. -/
namespace Go.Proofs.Yteehpliloegkgaa
set_option linter.unusedVariables false
set_option linter.unusedSimpArgs false
open Go.RowKit E

/-- The document's bytes of a field. -/
def oneStr (f : Fl) : ByteArray := if ckZ f = 0 then strL (putL f) else .empty
theorem on_loop (k n w : Int) (s : ByteArray) (h0 : 0 ≤ n) (h1 : n ≤ 18446744073709551615) (hw : 0 ≤ w) (hw8 : w ≤ 8) :
    CodeOk Try.prog 0 (.loop (loopOf Try.f33 0)) (mkSt 78 [(1, .nv (.one (.ptr 0 0))), (4, iA w), (5, uA n), (6, iA (0 : Nat))] [.box 64 [.val (.int .i64 k), .val (.int .u64 n), .val (.string s)]]) (.exit 0) (mkSt 78 [(1, .nv (.one (.ptr 0 0))), (4, iA w), (5, uA (n / 256 ^ w.toNat))] [.box 64 [.val (.int .i64 k), .val (.int .u64 n), .val (.string s)]]) := by
  have := loop_ok (P := Try.prog) (m0 := 0) (c := loopOf Try.f33 0) (ex := .exit 0) (post := (mkSt 78 [(1, .nv (.one (.ptr 0 0))), (4, iA w), (5, uA (n / 256 ^ w.toNat))] [.box 64 [.val (.int .i64 k), .val (.int .u64 n), .val (.string s)]]))
    (α := Nat) (fun i => (mkSt 78 [(1, .nv (.one (.ptr 0 0))), (4, iA w), (5, uA (n / 256 ^ i)), (6, iA i)] [.box 64 [.val (.int .i64 k), .val (.int .u64 n), .val (.string s)]])) (fun i => i ≤ w.toNat) (fun i => w.toNat - i) (by simp) ?_ (x := 0) (Nat.zero_le _)
  · rw [Int.pow_zero, Int.ediv_one] at this; exact this
  · intro i hi
    have hp : (0 : Int) < 256 ^ i := Int.pow_pos (by omega)
    have hq : 0 ≤ n / 256 ^ i := Int.ediv_nonneg h0 (by omega)
    have hq2 : n / 256 ^ i ≤ n := Int.ediv_le_self _ h0
    by_cases e : i = w.toNat
    · subst e
      have := on_e k n (n / 256 ^ w.toNat) w s
      rw [show ((w.toNat : Nat) : Int) = w by omega]
      exact .inr this
    · refine .inl ⟨i + 1, (show i + 1 ≤ w.toNat by omega), (show w.toNat - (i + 1) < w.toNat - i by omega), ?_⟩
      have := on_n k n (n / 256 ^ i) w s i (by omega) hw8 hq (by omega) (by rw [tdiv_e hq]; exact wU64 rfl (by omega))
      rw [Int.ediv_ediv_of_nonneg (by omega), ← Int.pow_succ] at this
      exact this
theorem pureOne (k n : Int) (s : ByteArray) (h0 : 0 ≤ n) (h1 : n ≤ 18446744073709551615) :
    PureOk Try.prog 33 [.nv (.agg [.val (.int .i64 k), .val (.int .u64 n), .val (.string s)])] (.tup [.one (.val (.string (oneStr ⟨k, n, s⟩))), .one (.val (.int .i64 (ckZ ⟨k, n, s⟩)))]) := by
  have hwk : ∀ k : Int, widthZ k = 0 ↔ k < 1 ∨ 4 < k := fun k => by unfold widthZ; (repeat' split) <;> omega
  have hb := widthZ_bd k
  have fin : ∀ (c : Int) (r : ByteArray), ckZ ⟨k, n, s⟩ = c → r = (if c = 0 then strL (putL ⟨k, n, s⟩) else .empty) → PureOk Try.prog 33 [.nv (.agg [.val (.int .i64 k), .val (.int .u64 n), .val (.string s)])] (.tup [.one (.val (.string r)), .one (.val (.int .i64 c))]) → PureOk Try.prog 33 [.nv (.agg [.val (.int .i64 k), .val (.int .u64 n), .val (.string s)])] (.tup [.one (.val (.string (oneStr ⟨k, n, s⟩))), .one (.val (.int .i64 (ckZ ⟨k, n, s⟩)))]) := by
    intro c r e1 e2 h
    unfold oneStr
    rw [e1, ← e2]; exact h
  by_cases c1 : k < 1
  · exact fin 6 _ (by unfold ckZ; simp only; rw [if_pos ⟨(hwk k).2 (.inl c1), by omega, by omega⟩]) rfl (on_1 k n s c1)
  by_cases c2 : 6 < k
  · exact fin 6 _ (by unfold ckZ; simp only; rw [if_pos ⟨(hwk k).2 (.inr (by omega)), by omega, by omega⟩]) rfl (on_2 k n s c2)
  have c3 : ¬ (widthZ k = 0 ∧ k ≠ 5 ∧ k ≠ 6) := by rw [hwk]; omega
  by_cases k6 : k = 6
  · subst k6
    have w6 : widthZ 6 = 0 := rfl
    by_cases hn : n = 0
    · subst hn
      by_cases hl : s.size > 65535
      · exact fin 4 _ (by unfold ckZ; simp only; rw [if_neg c3, if_neg (by omega), if_neg (by rw [w6]; omega), if_pos hl]) rfl (on_5 s hl)
      · have hv := varL_len 9 (s.size : Int)
        have e : strL (putL ⟨6, 0, s⟩) = strL (varL 9 s.size) ++ s := by
          show strL (varL 9 s.size ++ ints s) = _
          rw [strL_app (inB_var 9 _ (by omega) (by omega)) (inB_ints s), strL_str]
        exact fin 0 _ (by unfold ckZ; simp only; rw [if_neg c3, if_neg (by omega), if_neg (by rw [w6]; omega), if_neg hl]) (by rw [if_pos rfl, e]) (on_6 s (by omega) (wU64 rfl (by omega)) (by rw [strL_size]; omega))
    · exact fin 6 _ (by unfold ckZ; simp only; rw [if_neg c3, if_pos (.inl ⟨by trivial, hn⟩)]) rfl (on_3 n s hn)
  · by_cases hs : s.size = 0
    · by_cases k5 : k = 5
      · subst k5
        have w5 : widthZ 5 = 0 := rfl
        exact fin 0 _ (by unfold ckZ; simp only; rw [if_neg c3, if_neg (by omega), if_neg (by rw [w5]; omega), if_neg (by omega)]) rfl (on_7 n s hs h0 h1)
      · have hw0 : 0 < widthZ k := by have := hwk k; omega
        have hp : (0 : Int) < 256 ^ (widthZ k).toNat := Int.pow_pos (by omega)
        have h2 : (((2 ^ (8 * (widthZ k).toNat) : Nat)) : Int) = 256 ^ (widthZ k).toNat := by
          rw [Int.natCast_pow]; exact pow_2_8 _
        have hl := on_loop k n (widthZ k) s h0 h1 hb.1 hb.2
        by_cases hx : 0 < n / 256 ^ (widthZ k).toNat
        · have : ¬ n < (2 ^ (8 * (widthZ k).toNat) : Nat) := by
            intro q; rw [h2] at q; rw [Int.ediv_eq_zero_of_lt h0 q] at hx; omega
          exact fin 5 _ (by unfold ckZ; simp only; rw [if_neg c3, if_neg (by omega), if_pos ⟨hw0, this⟩]) rfl (on_o k n _ _ s (by omega) (by omega) hs rfl hw0 hx hl)
        · have : n < (2 ^ (8 * (widthZ k).toNat) : Nat) := by
            rw [h2]
            have : n / 256 ^ (widthZ k).toNat < 1 := by omega
            have := (Int.ediv_lt_iff_lt_mul hp).1 this
            omega
          have e : putL ⟨k, n, s⟩ = hiL (widthZ k).toNat n := by unfold putL; rw [if_neg k5, if_neg k6]
          exact fin 0 _ (by unfold ckZ; simp only; rw [if_neg c3, if_neg (by omega), if_neg (fun q => q.2 this), if_neg (by omega)]) (by rw [if_pos rfl, e]) (on_w k n _ _ s (by omega) (by omega) hs rfl hw0 hb.2 hx h0 h1 hl)
    · exact fin 6 _ (by unfold ckZ; simp only; rw [if_neg c3, if_pos (.inr ⟨k6, hs⟩)]) rfl (on_4 k n s (by omega) (by omega) hs)
def gOne : List SV → Option (SV × List Prop)
  | [.nv (.agg [.val (.int .i64 k), .val (.int .u64 n), .val (.string s)])] => some (.tup [.one (.val (.string (oneStr ⟨k, n, s⟩))), .one (.val (.int .i64 (ckZ ⟨k, n, s⟩)))], [0 ≤ n, n ≤ 18446744073709551615])
  | _ => none
theorem spOne : SpOk Try.prog 33 (pureS gOne) := pureS_ok (by
  intro args r obl h ho
  unfold gOne at h
  split at h
  · simp only [Option.some.injEq, Prod.mk.injEq] at h
    obtain ⟨rfl, rfl⟩ := h
    exact ⟨rfl, rfl, pureOne _ _ _ ho.1 ho.2.1⟩
  · cases h)
def GbA : List (FuncId × Sp) := (33, pureS gOne) :: Gb9
theorem GbA_ok : CtxOk Try.prog GbA := ctx_cons (enter_of Try.func33 (by kernel_rfl) (by kernel_rfl)) spOne Gb9_ok
end Go.Proofs.Yteehpliloegkgaa

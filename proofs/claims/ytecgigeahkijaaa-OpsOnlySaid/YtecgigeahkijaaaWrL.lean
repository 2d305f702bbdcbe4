/- Runs of Go code, as printed by a program: no condition beyond those that each states. -/
import Derived.Test.YtecgigeahkijaaaWrF
import Derived.Test.YtecgigeahkijaaaChecked
import Derived.KernelRfl
namespace Go.Proofs.Ytecgigeahkijaaa
set_option linter.unusedVariables false
set_option linter.unusedSimpArgs false
set_option maxRecDepth 100000
open Go.RowKit E
set_option maxHeartbeats 2000000 in
theorem wd_1  : PureOk Try.prog 33 ([iA 1]) (iA 1) :=
  pure_run G0_ok Try.func33 (orc := ⟨[true, true], []⟩) (obl := [decide ((1 : Int) ≥ (1 : Int)) = true,
      decide ((1 : Int) ≤ (4 : Int)) = true,
      (0 : Int) ≤ IntKind.wrap IntKind.i64 ((1 : Int) - (1 : Int)),
      IntKind.wrap IntKind.i64 ((1 : Int) * (2 : Int) ^ (0 : Nat)) = (1 : Int)]) (by kernel_rfl) (.cons (by rfl) (.cons (by rfl) (.cons (by trivial) (.cons (by rfl) .nil))))

set_option maxHeartbeats 2000000 in
theorem wd_2  : PureOk Try.prog 33 ([iA 2]) (iA 2) :=
  pure_run G0_ok Try.func33 (orc := ⟨[true, true], []⟩) (obl := [decide ((2 : Int) ≥ (1 : Int)) = true,
      decide ((2 : Int) ≤ (4 : Int)) = true,
      (0 : Int) ≤ IntKind.wrap IntKind.i64 ((2 : Int) - (1 : Int)),
      IntKind.wrap IntKind.i64 ((1 : Int) * (2 : Int) ^ (1 : Nat)) = (2 : Int)]) (by kernel_rfl) (.cons (by rfl) (.cons (by rfl) (.cons (by trivial) (.cons (by rfl) .nil))))

set_option maxHeartbeats 2000000 in
theorem wd_3  : PureOk Try.prog 33 ([iA 3]) (iA 4) :=
  pure_run G0_ok Try.func33 (orc := ⟨[true, true], []⟩) (obl := [decide ((3 : Int) ≥ (1 : Int)) = true,
      decide ((3 : Int) ≤ (4 : Int)) = true,
      (0 : Int) ≤ IntKind.wrap IntKind.i64 ((3 : Int) - (1 : Int)),
      IntKind.wrap IntKind.i64 ((1 : Int) * (2 : Int) ^ (2 : Nat)) = (4 : Int)]) (by kernel_rfl) (.cons (by rfl) (.cons (by rfl) (.cons (by trivial) (.cons (by rfl) .nil))))

set_option maxHeartbeats 2000000 in
theorem wd_4  : PureOk Try.prog 33 ([iA 4]) (iA 8) :=
  pure_run G0_ok Try.func33 (orc := ⟨[true, true], []⟩) (obl := [decide ((4 : Int) ≥ (1 : Int)) = true,
      decide ((4 : Int) ≤ (4 : Int)) = true,
      (0 : Int) ≤ IntKind.wrap IntKind.i64 ((4 : Int) - (1 : Int)),
      IntKind.wrap IntKind.i64 ((1 : Int) * (2 : Int) ^ (3 : Nat)) = (8 : Int)]) (by kernel_rfl) (.cons (by rfl) (.cons (by rfl) (.cons (by trivial) (.cons (by rfl) .nil))))

set_option maxHeartbeats 2000000 in
theorem wd_l (k : Int) (h : k < 1) : PureOk Try.prog 33 ([iA k]) (iA 0) :=
  pure_run G0_ok Try.func33 (orc := ⟨[false, false], []⟩) (obl := [decide (k ≥ (1 : Int)) = false,
      false = false,
      (0 : Int) = (0 : Int)]) (by kernel_rfl) (.cons (by exact decide_eq_false (by omega)) (.cons (by rfl) (.cons (by rfl) .nil)))

set_option maxHeartbeats 2000000 in
theorem wd_h (k : Int) (h : 4 < k) : PureOk Try.prog 33 ([iA k]) (iA 0) :=
  pure_run G0_ok Try.func33 (orc := ⟨[true, false], []⟩) (obl := [decide (k ≥ (1 : Int)) = true,
      decide (k ≤ (4 : Int)) = false,
      (0 : Int) = (0 : Int)]) (by kernel_rfl) (.cons (by exact decide_eq_true (by omega)) (.cons (by exact decide_eq_false (by omega)) (.cons (by rfl) .nil)))
end Go.Proofs.Ytecgigeahkijaaa

/- wire: fields, their widths, what is wrong with them, their bytes: plain functions, and width as a specification. No condition. -/
namespace Go.Proofs.Ytecgigeahkijaaa
set_option linter.unusedVariables false
set_option linter.unusedSimpArgs false
open Go.RowKit E

/-- A field. -/
structure Fl where
  k : Int
  n : Int
  s : ByteArray
abbrev gF (L : Nat → Fl) : Nat → List At := fun j => [.val (.int .i64 (L j).k), .val (.int .u64 (L j).n), .val (.string (L j).s)]
def cellZ (l : List At) (j : Nat) : Int := match l[j]? with | some (.val (.int _ n)) => n | _ => 0
def cellY (l : List At) (j : Nat) : ByteArray := match l[j]? with | some (.val (.string s)) => s | _ => .empty
def flOf (g : Nat → List At) : Nat → Fl := fun j => ⟨cellZ (g j) 0, cellZ (g j) 1, cellY (g j) 2⟩
def Fl.wf (f : Fl) : Prop := 0 ≤ f.n ∧ f.n < 18446744073709551616
def widthZ (k : Int) : Int := if k = 1 then 1 else if k = 2 then 2 else if k = 3 then 4 else if k = 4 then 8 else 0
def gWidth : List SV → Option (SV × List Prop)
  | [.nv (.one (.val (.int .i64 k)))] => some (iA (widthZ k), [])
  | _ => none
theorem spWidth : SpOk Try.prog 33 (pureS gWidth) := pureS_ok (by
  intro args r obl h ho
  unfold gWidth at h
  split at h
  · rename_i k
    simp only [Option.some.injEq, Prod.mk.injEq] at h
    obtain ⟨rfl, rfl⟩ := h
    refine ⟨rfl, rfl, ?_⟩
    unfold widthZ
    split
    · rename_i e; subst e; exact wd_1
    · split
      · rename_i e; subst e; exact wd_2
      · split
        · rename_i e; subst e; exact wd_3
        · split
          · rename_i e; subst e; exact wd_4
          · by_cases q : k < 1
            · exact wd_l k q
            · exact wd_h k (by omega)
  · cases h)
def Gb4 : List (FuncId × Sp) := (33, pureS gWidth) :: Gb3
theorem Gb4_ok : CtxOk Try.prog Gb4 := ctx_cons (enter_of Try.func33 (by kernel_rfl) (by kernel_rfl)) spWidth Gb3_ok
theorem str_empty (s : ByteArray) : s = .empty ↔ s.size = 0 := by
  constructor
  · intro h; subst h; rfl
  · intro h; exact ByteArray.ext (Array.eq_empty_of_size_eq_zero h)
theorem str_ne {s : ByteArray} (h : s.size ≠ 0) : (s.toList == ByteArray.toList ⟨#[]⟩) = false := toList_ne (fun e => h (by rw [e]; rfl))
theorem str_eq {s : ByteArray} (h : s.size = 0) : (s.toList == ByteArray.toList ⟨#[]⟩) = true := by
  rw [(str_empty s).2 h]; exact toList_same _
theorem widthZ_bd (k : Int) : 0 ≤ widthZ k ∧ widthZ k ≤ 8 := by
  unfold widthZ; (repeat' split) <;> omega
/-- What is wrong with a field. -/
def ckZ (f : Fl) : Int :=
  if widthZ f.k = 0 ∧ f.k ≠ 5 ∧ f.k ≠ 6 then 6
  else if (f.k = 6 ∧ f.n ≠ 0) ∨ (f.k ≠ 6 ∧ f.s.size ≠ 0) then 6
  else if widthZ f.k > 0 ∧ ¬ f.n < (2 ^ (8 * (widthZ f.k).toNat) : Nat) then 5
  else if f.s.size > 65535 then 4 else 0
/-- A number's bytes, as few as it takes: at most so many and one. -/
def varL : Nat → Int → List Int
  | 0, n => [n]
  | f + 1, n => if 128 ≤ n then (n % 128 + 128) :: varL f (n / 128) else [n]
/-- So many bytes of a number, the highest first. -/
def hiL : Nat → Int → List Int
  | 0, _ => []
  | w + 1, n => hiL w (n / 256) ++ [n % 256]
/-- A field's bytes. -/
def putL (f : Fl) : List Int :=
  if f.k = 5 then varL 9 f.n else if f.k = 6 then varL 9 f.s.size ++ ints f.s else hiL (widthZ f.k).toNat f.n
end Go.Proofs.Ytecgigeahkijaaa

/- Runs of Go code, as printed by a program: no condition beyond those that each states. -/
namespace Go.Proofs.Ytecgigeahkijaaa
set_option linter.unusedVariables false
set_option linter.unusedSimpArgs false
set_option maxRecDepth 100000
open Go.RowKit E
set_option maxHeartbeats 2000000 in
theorem ck_1 (k n : Int) (s : ByteArray) (hw : widthZ k = 0) (h5 : k ≠ 5) (h6 : k ≠ 6) : PureOk Try.prog 26 ([.nv (.agg [.val (.int .i64 k), .val (.int .u64 n), .val (.string s)])]) (iA 6) :=
  pure_run Gb4_ok Try.func26 (orc := ⟨[true, true, true], []⟩) (obl := [(widthZ k == (0 : Int)) = true,
      (k != (5 : Int)) = true,
      (k != (6 : Int)) = true,
      (6 : Int) = (6 : Int)]) (by kernel_rfl) (.cons (by exact decide_eq_true (by omega)) (.cons (by exact bne_iff_ne.2 (by omega)) (.cons (by exact bne_iff_ne.2 (by omega)) (.cons (by rfl) .nil))))

set_option maxHeartbeats 2000000 in
theorem ck_2 (n : Int) (s : ByteArray) (hn : n ≠ 0) : PureOk Try.prog 26 ([.nv (.agg [.val (.int .i64 6), .val (.int .u64 n), .val (.string s)])]) (iA 6) :=
  pure_run Gb4_ok Try.func26 (orc := ⟨[true, true, false, true, true, true], []⟩) (obl := [(widthZ (6 : Int) == (0 : Int)) = true,
      ((6 : Int) != (5 : Int)) = true,
      ((6 : Int) != (6 : Int)) = false,
      ((6 : Int) == (6 : Int)) = true,
      (n != (0 : Int)) = true,
      true = true,
      (6 : Int) = (6 : Int)]) (by kernel_rfl) (.cons (by rfl) (.cons (by rfl) (.cons (by rfl) (.cons (by rfl) (.cons (by exact bne_iff_ne.2 (by omega)) (.cons (by rfl) (.cons (by rfl) .nil)))))))

set_option maxHeartbeats 2000000 in
theorem ck_3 (s : ByteArray) (hl : s.size > 65535) : PureOk Try.prog 26 ([.nv (.agg [.val (.int .i64 6), .val (.int .u64 0), .val (.string s)])]) (iA 4) :=
  pure_run Gb4_ok Try.func26 (orc := ⟨[true, true, false, true, false, false, false, false, false, true], []⟩) (obl := [(widthZ (6 : Int) == (0 : Int)) = true,
      ((6 : Int) != (5 : Int)) = true,
      ((6 : Int) != (6 : Int)) = false,
      ((6 : Int) == (6 : Int)) = true,
      ((0 : Int) != (0 : Int)) = false,
      ((6 : Int) != (6 : Int)) = false,
      false = false,
      decide (widthZ (6 : Int) > (0 : Int)) = false,
      false = false,
      decide ((↑(ByteArray.size s) : Int) > (65535 : Int)) = true,
      (4 : Int) = (4 : Int)]) (by kernel_rfl) (.cons (by rfl) (.cons (by rfl) (.cons (by rfl) (.cons (by rfl) (.cons (by rfl) (.cons (by rfl) (.cons (by rfl) (.cons (by rfl) (.cons (by rfl) (.cons (by exact decide_eq_true (by omega)) (.cons (by rfl) .nil)))))))))))

set_option maxHeartbeats 2000000 in
theorem ck_4 (s : ByteArray) (hl : s.size ≤ 65535) : PureOk Try.prog 26 ([.nv (.agg [.val (.int .i64 6), .val (.int .u64 0), .val (.string s)])]) (iA 0) :=
  pure_run Gb4_ok Try.func26 (orc := ⟨[true, true, false, true, false, false, false, false, false, false], []⟩) (obl := [(widthZ (6 : Int) == (0 : Int)) = true,
      ((6 : Int) != (5 : Int)) = true,
      ((6 : Int) != (6 : Int)) = false,
      ((6 : Int) == (6 : Int)) = true,
      ((0 : Int) != (0 : Int)) = false,
      ((6 : Int) != (6 : Int)) = false,
      false = false,
      decide (widthZ (6 : Int) > (0 : Int)) = false,
      false = false,
      decide ((↑(ByteArray.size s) : Int) > (65535 : Int)) = false,
      (0 : Int) = (0 : Int)]) (by kernel_rfl) (.cons (by rfl) (.cons (by rfl) (.cons (by rfl) (.cons (by rfl) (.cons (by rfl) (.cons (by rfl) (.cons (by rfl) (.cons (by rfl) (.cons (by rfl) (.cons (by exact decide_eq_false (by omega)) (.cons (by rfl) .nil)))))))))))

set_option maxHeartbeats 2000000 in
theorem ck_5 (n : Int) (s : ByteArray) (hs : s.size ≠ 0) : PureOk Try.prog 26 ([.nv (.agg [.val (.int .i64 5), .val (.int .u64 n), .val (.string s)])]) (iA 6) :=
  pure_run Gb4_ok Try.func26 (orc := ⟨[true, false, false, false, false, true, true], []⟩) (obl := [(widthZ (5 : Int) == (0 : Int)) = true,
      ((5 : Int) != (5 : Int)) = false,
      false = false,
      ((5 : Int) == (6 : Int)) = false,
      false = false,
      ((5 : Int) != (6 : Int)) = true,
      (!ByteArray.toList s == ByteArray.toList (ByteArray.mk #[])) = true,
      (6 : Int) = (6 : Int)]) (by kernel_rfl) (.cons (by rfl) (.cons (by rfl) (.cons (by rfl) (.cons (by rfl) (.cons (by rfl) (.cons (by rfl) (.cons (by (rw [str_ne hs]; rfl)) (.cons (by rfl) .nil))))))))

set_option maxHeartbeats 2000000 in
theorem ck_6 (n : Int) (s : ByteArray) (hs : s.size = 0) : PureOk Try.prog 26 ([.nv (.agg [.val (.int .i64 5), .val (.int .u64 n), .val (.string s)])]) (iA 0) :=
  pure_run Gb4_ok Try.func26 (orc := ⟨[true, false, false, false, false, true, false, false, false, false], []⟩) (obl := [(widthZ (5 : Int) == (0 : Int)) = true,
      ((5 : Int) != (5 : Int)) = false,
      false = false,
      ((5 : Int) == (6 : Int)) = false,
      false = false,
      ((5 : Int) != (6 : Int)) = true,
      (!ByteArray.toList s == ByteArray.toList (ByteArray.mk #[])) = false,
      decide (widthZ (5 : Int) > (0 : Int)) = false,
      false = false,
      decide ((↑(ByteArray.size s) : Int) > (65535 : Int)) = false,
      (0 : Int) = (0 : Int)]) (by kernel_rfl) (.cons (by rfl) (.cons (by rfl) (.cons (by rfl) (.cons (by rfl) (.cons (by rfl) (.cons (by rfl) (.cons (by (rw [str_eq hs]; rfl)) (.cons (by rfl) (.cons (by rfl) (.cons (by exact decide_eq_false (by omega)) (.cons (by rfl) .nil)))))))))))

set_option maxHeartbeats 2000000 in
theorem ck_7 (k n : Int) (s : ByteArray) (hk : k ≠ 6) (hw : widthZ k ≠ 0) (hs : s.size ≠ 0) : PureOk Try.prog 26 ([.nv (.agg [.val (.int .i64 k), .val (.int .u64 n), .val (.string s)])]) (iA 6) :=
  pure_run Gb4_ok Try.func26 (orc := ⟨[false, false, false, false, false, true, true], []⟩) (obl := [(widthZ k == (0 : Int)) = false,
      false = false,
      false = false,
      (k == (6 : Int)) = false,
      false = false,
      (k != (6 : Int)) = true,
      (!ByteArray.toList s == ByteArray.toList (ByteArray.mk #[])) = true,
      (6 : Int) = (6 : Int)]) (by kernel_rfl) (.cons (by exact decide_eq_false (by omega)) (.cons (by rfl) (.cons (by rfl) (.cons (by exact decide_eq_false (by omega)) (.cons (by rfl) (.cons (by exact bne_iff_ne.2 (by omega)) (.cons (by (rw [str_ne hs]; rfl)) (.cons (by rfl) .nil))))))))

set_option maxHeartbeats 2000000 in
theorem ck_8 (k n : Int) (s : ByteArray) (hk : k ≠ 6) (hw : 0 < widthZ k) (hw8 : widthZ k ≤ 8) (hs : s.size = 0) (h0 : 0 ≤ n) (h1 : n ≤ 18446744073709551615) (e : IntKind.wrap IntKind.i64 (8 * widthZ k) = 8 * widthZ k) (hb : (Go.Lib.bitLen n.toNat : Int) > 8 * widthZ k) : PureOk Try.prog 26 ([.nv (.agg [.val (.int .i64 k), .val (.int .u64 n), .val (.string s)])]) (iA 5) :=
  pure_run Gb4_ok Try.func26 (orc := ⟨[false, false, false, false, false, true, false, true, true], []⟩) (obl := [(widthZ k == (0 : Int)) = false,
      false = false,
      false = false,
      (k == (6 : Int)) = false,
      false = false,
      (k != (6 : Int)) = true,
      (!ByteArray.toList s == ByteArray.toList (ByteArray.mk #[])) = false,
      decide (widthZ k > (0 : Int)) = true,
      (0 : Int) ≤ n,
      n ≤ (18446744073709551615 : Int),
      decide ((↑(Lib.bitLen (Int.toNat n)) : Int) > IntKind.wrap IntKind.i64 ((8 : Int) * widthZ k)) = true,
      (5 : Int) = (5 : Int)]) (by kernel_rfl) (.cons (by exact decide_eq_false (by omega)) (.cons (by rfl) (.cons (by rfl) (.cons (by exact decide_eq_false (by omega)) (.cons (by rfl) (.cons (by exact bne_iff_ne.2 (by omega)) (.cons (by (rw [str_eq hs]; rfl)) (.cons (by exact decide_eq_true (by omega)) (.cons (by assumption) (.cons (by assumption) (.cons (by (rw [e]; exact decide_eq_true hb)) (.cons (by rfl) .nil))))))))))))

set_option maxHeartbeats 2000000 in
theorem ck_9 (k n : Int) (s : ByteArray) (hk : k ≠ 6) (hw : 0 < widthZ k) (hw8 : widthZ k ≤ 8) (hs : s.size = 0) (h0 : 0 ≤ n) (h1 : n ≤ 18446744073709551615) (e : IntKind.wrap IntKind.i64 (8 * widthZ k) = 8 * widthZ k) (hb : ¬ (Go.Lib.bitLen n.toNat : Int) > 8 * widthZ k) : PureOk Try.prog 26 ([.nv (.agg [.val (.int .i64 k), .val (.int .u64 n), .val (.string s)])]) (iA 0) :=
  pure_run Gb4_ok Try.func26 (orc := ⟨[false, false, false, false, false, true, false, true, false, false], []⟩) (obl := [(widthZ k == (0 : Int)) = false,
      false = false,
      false = false,
      (k == (6 : Int)) = false,
      false = false,
      (k != (6 : Int)) = true,
      (!ByteArray.toList s == ByteArray.toList (ByteArray.mk #[])) = false,
      decide (widthZ k > (0 : Int)) = true,
      (0 : Int) ≤ n,
      n ≤ (18446744073709551615 : Int),
      decide ((↑(Lib.bitLen (Int.toNat n)) : Int) > IntKind.wrap IntKind.i64 ((8 : Int) * widthZ k)) = false,
      decide ((↑(ByteArray.size s) : Int) > (65535 : Int)) = false,
      (0 : Int) = (0 : Int)]) (by kernel_rfl) (.cons (by exact decide_eq_false (by omega)) (.cons (by rfl) (.cons (by rfl) (.cons (by exact decide_eq_false (by omega)) (.cons (by rfl) (.cons (by exact bne_iff_ne.2 (by omega)) (.cons (by (rw [str_eq hs]; rfl)) (.cons (by exact decide_eq_true (by omega)) (.cons (by assumption) (.cons (by assumption) (.cons (by (rw [e]; exact decide_eq_false hb)) (.cons (by exact decide_eq_false (by omega)) (.cons (by rfl) .nil)))))))))))))
end Go.Proofs.Ytecgigeahkijaaa

/- wire: check as a specification; bytes of numbers. No condition. -/
namespace Go.Proofs.Ytecgigeahkijaaa
set_option linter.unusedVariables false
set_option linter.unusedSimpArgs false
open Go.RowKit E

def gCheck : List SV → Option (SV × List Prop)
  | [.nv (.agg [.val (.int .i64 k), .val (.int .u64 n), .val (.string s)])] => some (iA (ckZ ⟨k, n, s⟩), [0 ≤ n, n ≤ 18446744073709551615])
  | _ => none
theorem spCheck : SpOk Try.prog 26 (pureS gCheck) := pureS_ok (by
  intro args r obl h ho
  unfold gCheck at h
  split at h
  · rename_i k n s
    simp only [Option.some.injEq, Prod.mk.injEq] at h
    obtain ⟨rfl, rfl⟩ := h
    obtain ⟨o1, o2, _⟩ := ho
    refine ⟨rfl, rfl, ?_⟩
    have hb := widthZ_bd k
    unfold ckZ
    simp only
    by_cases c1 : widthZ k = 0 ∧ k ≠ 5 ∧ k ≠ 6
    · rw [if_pos c1]; exact ck_1 k n s c1.1 c1.2.1 c1.2.2
    · rw [if_neg c1]
      by_cases k6 : k = 6
      · subst k6
        have w6 : widthZ 6 = 0 := rfl
        by_cases hn : n = 0
        · subst hn
          rw [if_neg (by omega), if_neg (by rw [w6]; omega)]
          by_cases hl : s.size > 65535
          · rw [if_pos hl]; exact ck_3 s hl
          · rw [if_neg hl]; exact ck_4 s (by omega)
        · rw [if_pos (.inl ⟨rfl, hn⟩)]; exact ck_2 n s hn
      · by_cases k5 : k = 5
        · subst k5
          have w5 : widthZ 5 = 0 := rfl
          by_cases hs : s.size = 0
          · rw [if_neg (by omega), if_neg (by rw [w5]; omega), if_neg (by omega)]; exact ck_6 n s hs
          · rw [if_pos (.inr ⟨k6, hs⟩)]; exact ck_5 n s hs
        · have hw : widthZ k ≠ 0 := fun e => c1 ⟨e, k5, k6⟩
          by_cases hs : s.size = 0
          · have hbl := bl_le (x := n.toNat) (8 * (widthZ k).toNat) (by omega)
            have e8 : IntKind.wrap IntKind.i64 (8 * widthZ k) = 8 * widthZ k := w64 rfl (by omega)
            rw [if_neg (by omega)]
            by_cases hg : (Go.Lib.bitLen n.toNat : Int) > 8 * widthZ k
            · rw [if_pos ⟨by omega, by omega⟩]; exact ck_8 k n s k6 (by omega) hb.2 hs o1 o2 e8 hg
            · rw [if_neg (by omega), if_neg (by omega)]; exact ck_9 k n s k6 (by omega) hb.2 hs o1 o2 e8 hg
          · rw [if_pos (.inr ⟨k6, hs⟩)]; exact ck_7 k n s k6 hw hs
  · cases h)
def Gb5 : List (FuncId × Sp) := (26, pureS gCheck) :: Gb4
theorem Gb5_ok : CtxOk Try.prog Gb5 := ctx_cons (enter_of Try.func26 (by kernel_rfl) (by kernel_rfl)) spCheck Gb4_ok
theorem varL_len : ∀ f n, (varL f n).length ≤ f + 1
  | 0, n => by unfold varL; simp
  | f + 1, n => by unfold varL; split <;> simp; exact varL_len f _
theorem varL_pos : ∀ f n, 1 ≤ (varL f n).length
  | 0, n => by unfold varL; simp
  | f + 1, n => by unfold varL; split <;> simp
theorem varL_go {f : Nat} {n : Int} (h : 128 ≤ n) : varL (f + 1) n = (n % 128 + 128) :: varL f (n / 128) := by rw [varL, if_pos h]
theorem varL_end {f : Nat} {n : Int} (h : ¬ 128 ≤ n) : varL f n = [n] := by cases f with
  | zero => rfl
  | succ f => rw [varL, if_neg h]
end Go.Proofs.Ytecgigeahkijaaa

/- Runs of Go code, as printed by a program: no condition beyond those that each states. -/
namespace Go.Proofs.Ytecgigeahkijaaa
set_option linter.unusedVariables false
set_option linter.unusedSimpArgs false
set_option maxRecDepth 100000
open Go.RowKit E
set_option maxHeartbeats 2000000 in
theorem pv_n (n N : Nat) (F H : Nat → Int) (v : Int) (hv : 128 ≤ v) (h1 : v ≤ 18446744073709551615) (hn : n + 1 ≤ 140737488355328) (e1 : IntKind.wrap IntKind.u64 (Int.tdiv v 128) = v / 128) (e2 : IntKind.wrap IntKind.u8 (IntKind.wrap IntKind.u64 (Int.tmod v 128 + 128)) = v % 128 + 128) (e3 : n + 1 = N) (e4 : ∀ i, i < n + 1 → catF n F [v % 128 + 128] i = H i) : CodeOk Try.prog 2 (loopOf Try.f35 0) (mkSt 18 [(0, .nv (.one (.ptr 0 0))), (1, uA v)] (bldP n F)) .normal (mkSt 18 [(0, .nv (.one (.ptr 0 0))), (1, uA (v / 128))] (bldP N H)) :=
  code_run Gb5_ok (orc := ⟨[true], []⟩) (obl := [decide (v ≥ (128 : Int)) = true,
      (128 : Int) ≠ (0 : Int),
      n + (1 : Nat) ≤ (140737488355328 : Nat),
      (0 : Nat) = (0 : Nat),
      IntKind.wrap IntKind.u8 (IntKind.wrap IntKind.u64 (Int.tmod v (128 : Int) + (128 : Int))) = IntKind.wrap IntKind.u8 (IntKind.wrap IntKind.u64 (Int.tmod v (128 : Int) + (128 : Int))),
      n = n,
      ∀ (i : Nat), i < n → F i = F i ∧ True,
      ∀ (i : Nat), i < n + (1 : Nat) → (true && true) = true,
      (128 : Int) ≠ (0 : Int),
      (0 : Nat) = (0 : Nat),
      IntKind.wrap IntKind.u64 (Int.tdiv v (128 : Int)) = v / (128 : Int),
      n + (1 : Nat) = N,
      ∀ (i : Nat), i < n + (1 : Nat) → catF n (fun (k : Nat) => F k) [IntKind.wrap IntKind.u8 (IntKind.wrap IntKind.u64 (Int.tmod v (128 : Int) + (128 : Int)))] i = H i ∧ True]) (by kernel_rfl) (.cons (by exact decide_eq_true (by omega)) (.cons (by trivial) (.cons (by assumption) (.cons (by rfl) (.cons (by rfl) (.cons (by rfl) (.cons (by (intro _ _; exact ⟨rfl, trivial⟩)) (.cons (by (intro _ _; rfl)) (.cons (by trivial) (.cons (by rfl) (.cons (by assumption) (.cons (by assumption) (.cons (by (intro i hi; simp only [e2]; exact ⟨e4 i hi, trivial⟩)) .nil))))))))))))) (Nat.le_of_ble_eq_true (by kernel_rfl))

set_option maxHeartbeats 2000000 in
theorem pv_e (n : Nat) (F : Nat → Int) (v : Int) (hv : ¬ 128 ≤ v) : CodeOk Try.prog 2 (loopOf Try.f35 0) (mkSt 18 [(0, .nv (.one (.ptr 0 0))), (1, uA v)] (bldP n F)) (.exit 0) (mkSt 18 [(0, .nv (.one (.ptr 0 0))), (1, uA v)] (bldP n F)) :=
  code_run Gb5_ok (orc := ⟨[false], []⟩) (obl := [decide (v ≥ (128 : Int)) = false,
      (0 : Nat) = (0 : Nat),
      v = v,
      n = n,
      ∀ (i : Nat), i < n → F i = F i ∧ True]) (by kernel_rfl) (.cons (by exact decide_eq_false (by omega)) (.cons (by rfl) (.cons (by rfl) (.cons (by rfl) (.cons (by (intro _ _; exact ⟨rfl, trivial⟩)) .nil))))) (Nat.le_of_ble_eq_true (by kernel_rfl))

set_option maxHeartbeats 2000000 in
theorem pv_f (n m N : Nat) (F F0 G H : Nat → Int) (v u : Int) (e0 : ∀ i, i < n → F i = F0 i) (hm : m + 1 ≤ 140737488355328) (eu : IntKind.wrap IntKind.u8 u = u) (e1 : m + 1 = N) (e2 : ∀ i, i < m + 1 → catF m G [u] i = H i) (l0 : CodeOk Try.prog 2 (.loop (loopOf Try.f35 0)) (mkSt 18 [(0, .nv (.one (.ptr 0 0))), (1, uA v)] (bldP n F0)) (.exit 0) (mkSt 18 [(0, .nv (.one (.ptr 0 0))), (1, uA u)] (bldP m G))) : FnOk Try.prog 35 ([.nv (.one (.ptr 0 0)), uA v]) (bldM n F) (.any) (bldP N H) :=
  fn_run Gb5_ok Try.func35 (orc := ⟨[], [⟨mkSt 18 [(0, .nv (.one (.ptr 0 0))), (1, uA v)] (bldP n F0), .exit 0, mkSt 18 [(0, .nv (.one (.ptr 0 0))), (1, uA u)] (bldP m G)⟩]⟩) (obl := [(0 : Nat) = (0 : Nat),
      v = v,
      n = n,
      ∀ (i : Nat), i < n → F i = F0 i ∧ True,
      (2 : Nat) ≤ (3 : Nat),
      CodeOk Try.prog (2 : Nat) (Code.loop (loopOf Try.f35 (0 : Nat))) (mkSt (18 : Nat) [((0 : Nat), SV.nv (NV.one (At.ptr (0 : Nat) (0 : Nat)))), ((1 : Nat), uA v)] (bldP n F0)) (Ex.exit (0 : Nat)) (mkSt (18 : Nat) [((0 : Nat), SV.nv (NV.one (At.ptr (0 : Nat) (0 : Nat)))), ((1 : Nat), uA u)] (bldP m G)),
      m + (1 : Nat) ≤ (140737488355328 : Nat),
      (0 : Nat) = (0 : Nat),
      IntKind.wrap IntKind.u8 u = IntKind.wrap IntKind.u8 u,
      m = m,
      ∀ (i : Nat), i < m → G i = G i ∧ True,
      ∀ (i : Nat), i < m + (1 : Nat) → (true && true) = true,
      m + (1 : Nat) = N,
      ∀ (i : Nat), i < m + (1 : Nat) → catF m (fun (k : Nat) => G k) [IntKind.wrap IntKind.u8 u] i = H i ∧ True]) (by kernel_rfl) (.cons (by rfl) (.cons (by rfl) (.cons (by rfl) (.cons (by (intro i hi; exact ⟨e0 i hi, trivial⟩)) (.cons (by trivial) (.cons (by assumption) (.cons (by assumption) (.cons (by rfl) (.cons (by rfl) (.cons (by rfl) (.cons (by (intro _ _; exact ⟨rfl, trivial⟩)) (.cons (by (intro _ _; rfl)) (.cons (by assumption) (.cons (by (intro i hi; simp only [eu]; exact ⟨e2 i hi, trivial⟩)) .nil)))))))))))))) (Nat.le_of_ble_eq_true (by kernel_rfl))
end Go.Proofs.Ytecgigeahkijaaa

/- wire: putVar as a specification. No condition. -/
namespace Go.Proofs.Ytecgigeahkijaaa
set_option linter.unusedVariables false
set_option linter.unusedSimpArgs false
open Go.RowKit E

theorem varL_last (f : Nat) (v : Int) : (varL f v).dropLast ++ [(varL f v).getLastD 0] = varL f v := by
  have h := varL_pos f v
  have hne : varL f v ≠ [] := by intro e; rw [e] at h; simp at h
  rw [List.getLastD_eq_getLast?, List.getLast?_eq_some_getLast hne]
  exact List.dropLast_concat_getLast hne
theorem fnPutVar (n : Nat) (F : Nat → Int) (v : Int) (h0 : 0 ≤ v) (h1 : v ≤ 18446744073709551615) (hn : n + 10 ≤ 140737488355328) :
    FnOk Try.prog 35 [.nv (.one (.ptr 0 0)), uA v] (bldM n F) .any (bldP (n + (varL 9 v).length) (catF n F (varL 9 v))) := by
  generalize hp : (varL 9 v).dropLast = p
  generalize hu : (varL 9 v).getLastD 0 = u
  have hpu : p ++ [u] = varL 9 v := by rw [← hp, ← hu]; exact varL_last 9 v
  have hlen := varL_len 9 v
  have hpl : p.length + 1 = (varL 9 v).length := by rw [← hpu]; simp
  have hloop : ∃ _ : 0 ≤ u ∧ u < 128, CodeOk Try.prog 2 (.loop (loopOf Try.f35 0)) (mkSt 18 [(0, .nv (.one (.ptr 0 0))), (1, uA v)] (bldP n (catF n F []))) (.exit 0) (mkSt 18 [(0, .nv (.one (.ptr 0 0))), (1, uA u)] (bldP (n + p.length) (catF n F p))) := by
    have hub : 0 ≤ u ∧ u < 128 := by
      have key : ∀ f (x : Int), 0 ≤ x → x < 2 * 128 ^ f → 0 ≤ (varL f x).getLastD 0 ∧ (varL f x).getLastD 0 < 128 := by
        intro f
        induction f with
        | zero => intro x a b; simp [varL]; omega
        | succ f ih =>
          intro x a b
          by_cases q : 128 ≤ x
          · rw [varL_go q]
            have := ih (x / 128) (by omega) (by rw [Int.pow_succ] at b; omega)
            have hne : varL f (x / 128) ≠ [] := by intro e; have := varL_pos f (x / 128); rw [e] at this; simp at this
            rw [List.getLastD_eq_getLast?] at this ⊢
            rw [List.getLast?_cons, List.getLast?_eq_some_getLast hne] at *
            simpa using this
          · rw [varL_end q]; simp; omega
      have := key 9 v h0 (by omega)
      rw [hu] at this; exact this
    refine ⟨hub, ?_⟩
    have := loop_ok (P := Try.prog) (m0 := 2) (c := loopOf Try.f35 0) (ex := .exit 0) (post := mkSt 18 [(0, .nv (.one (.ptr 0 0))), (1, uA u)] (bldP (n + p.length) (catF n F p)))
      (α := Nat × List Int × Int) (fun z => mkSt 18 [(0, .nv (.one (.ptr 0 0))), (1, uA z.2.2)] (bldP (n + z.2.1.length) (catF n F z.2.1))) (fun z => z.2.1 ++ varL z.1 z.2.2 = varL 9 v ∧ 0 ≤ z.2.2 ∧ z.2.2 < 2 * 128 ^ z.1 ∧ z.2.2 ≤ 18446744073709551615) (fun z => z.2.2.toNat) (by simp) ?_ (x := (9, [], v)) ⟨rfl, h0, (show v < 2 * 128 ^ 9 by omega), h1⟩
    · exact this
    · rintro ⟨f, l, x⟩ ⟨i1, i2, i3, i4⟩
      simp only at i1 i2 i3 i4
      by_cases q : 128 ≤ x
      · cases f with
        | zero => omega
        | succ f =>
          rw [varL_go q] at i1
          have hl : l.length + 1 ≤ (varL 9 v).length := by rw [← i1]; simp
          refine .inl ⟨(f, l ++ [x % 128 + 128], x / 128), ⟨by rw [← i1]; simp, (show 0 ≤ x / 128 by omega), (show x / 128 < 2 * 128 ^ f by rw [Int.pow_succ] at i3; omega), (show x / 128 ≤ _ by omega)⟩, (show (x / 128).toNat < x.toNat by omega), ?_⟩
          exact pv_n (n + l.length) _ (catF n F l) _ x q i4 (by omega) (by rw [Int.tdiv_eq_ediv_of_nonneg i2]; exact wU64 rfl (by omega)) (by rw [Int.tmod_eq_emod_of_nonneg i2, wU64 (a := x % 128 + 128) (b := x % 128 + 128) rfl (by omega)]; exact wU8 rfl (by omega)) (by simp; omega) (fun i hi => catF_cat n F l _ i)
      · rw [varL_end q] at i1
        have e := i1.trans hpu.symm
        obtain ⟨e1, e2⟩ := List.append_inj' e rfl
        simp only [List.cons.injEq, and_true] at e2
        subst e1; subst e2
        exact .inr (pv_e _ _ _ q)
  obtain ⟨hub, hl⟩ := hloop
  refine pv_f n (n + p.length) _ F _ _ _ v u (fun i hi => (if_pos hi).symm) (by omega) (wU8 rfl (by omega)) (by omega) (fun i hi => ?_) hl
  rw [catF_cat, hpu]
def gPutVar : List SV → List Seg → Option (CS × List Prop)
  | [.nv (.one (.ptr h 0)), .nv (.one (.val (.int .u64 v)))], mem => match bldAt mem h with
    | some (n, F) => some (⟨[.nv (.one (.ptr 0 0)), uA v], bldM n F, .any, bldP (n + (varL 9 v).length) (catF n F (varL 9 v))⟩, [0 ≤ v, v ≤ 18446744073709551615, n + 10 ≤ 140737488355328])
    | none => none
  | _, _ => none
theorem spPutVar : SpOk Try.prog 35 (.lift gPutVar) := by
  intro args mem cs obl h ho
  unfold gPutVar at h
  split at h
  · split at h
    · simp only [Option.some.injEq, Prod.mk.injEq] at h
      obtain ⟨rfl, rfl⟩ := h
      exact fnPutVar _ _ _ ho.1 ho.2.1 ho.2.2.1
    · cases h
  · cases h
def Gb6 : List (FuncId × Sp) := (35, .lift gPutVar) :: Gb5
theorem Gb6_ok : CtxOk Try.prog Gb6 := ctx_cons (enter_of Try.func35 (by kernel_rfl) (by kernel_rfl)) spPutVar Gb5_ok
end Go.Proofs.Ytecgigeahkijaaa

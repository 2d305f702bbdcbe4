/- header: the document's two, four, number as specifications. No condition. -/
import Derived.Test.YteehpliloegkgaaHdN
namespace Go.Proofs.Yteehpliloegkgaa
set_option linter.unusedVariables false
set_option linter.unusedSimpArgs false
open Go.RowKit E
theorem w2_len (x : Int) : (w2 x).length = 2 := rfl
theorem put_one {L : Nat → Fl} (h : ckZ (L 0) = 0) : putStr L 1 = strL (putL (L 0)) := by
  have e : badZ L 1 = 0 := (if_pos rfl).trans h
  rw [putStr, if_pos e]; rfl
theorem ck_w {f : Fl} {k : Int} {w : Nat} (hk : f.k = k) (h56 : k ≠ 5 ∧ k ≠ 6) (hw : widthZ k = w) (w0 : 0 < w) (hs : f.s.size = 0) (hn : f.n < (2 ^ (8 * w) : Nat)) : ckZ f = 0 := by
  have hw' : widthZ f.k = w := by rw [hk]; exact hw
  unfold ckZ
  rw [if_neg (by rw [hw']; omega), if_neg (by rw [hk, hs]; omega), if_neg (by rw [hw']; intro q; exact q.2 hn), if_neg (by omega)]
theorem pureTwo (n : Int) (hn : 0 ≤ n ∧ n ≤ 65535) : PureOk Try.prog 19 [.nv (.one (.val (.int .i64 n)))] (.nv (.one (.val (.string (strL (w2 n)))))) := by
  have e : IntKind.wrap IntKind.u64 n = n := wU64 rfl (by omega)
  refine tw_f n _ ?_ ?_
  · rw [e]
    intro i hi
    match i, hi with
    | 0, _ => exact ⟨hn.1, (show n < 18446744073709551616 by omega)⟩
  · rw [e, put_one (ck_w (k := 2) (w := 2) rfl (by decide) rfl (by decide) rfl (show n < ((2 ^ (8 * 2) : Nat) : Int) by rw [show ((2 ^ (8 * 2) : Nat) : Int) = 65536 from rfl]; omega))]
    show strL ([] ++ [n / 256 % 256] ++ [n % 256]) = _
    rw [show n / 256 % 256 = n / 256 by omega]; rfl
theorem pureFour (n : Int) (hn : 0 ≤ n ∧ n ≤ 4294967295) : PureOk Try.prog 20 [.nv (.one (.val (.int .u32 n)))] (.nv (.one (.val (.string (strL (w2 (n / 65536) ++ w2 (n % 65536))))))) := by
  have e : IntKind.wrap IntKind.u64 n = n := wU64 rfl (by omega)
  refine fo_f n _ ?_ ?_
  · rw [e]
    intro i hi
    match i, hi with
    | 0, _ => exact ⟨hn.1, (show n < 18446744073709551616 by omega)⟩
  · rw [e, put_one (ck_w (k := 3) (w := 4) rfl (by decide) rfl (by decide) rfl (show n < ((2 ^ (8 * 4) : Nat) : Int) by rw [show ((2 ^ (8 * 4) : Nat) : Int) = 4294967296 from rfl]; omega))]
    show strL ([] ++ [n / 256 / 256 / 256 % 256] ++ [n / 256 / 256 % 256] ++ [n / 256 % 256] ++ [n % 256]) = _
    rw [show n / 256 / 256 / 256 % 256 = n / 65536 / 256 by omega, show n / 256 / 256 % 256 = n / 65536 % 256 by omega, show n / 256 % 256 = n % 65536 / 256 by omega, show n % 256 = n % 65536 % 256 by omega]; rfl
def gTwo : List SV → Option (SV × List Prop)
  | [.nv (.one (.val (.int .i64 n)))] => some (.nv (.one (.val (.string (strL (w2 n))))), [0 ≤ n, n ≤ 65535])
  | _ => none
theorem spTwo : SpOk Try.prog 19 (pureS gTwo) := pureS_ok (by
  intro args r obl h ho
  unfold gTwo at h
  split at h
  · simp only [Option.some.injEq, Prod.mk.injEq] at h
    obtain ⟨rfl, rfl⟩ := h
    exact ⟨rfl, rfl, pureTwo _ ⟨ho.1, ho.2.1⟩⟩
  · cases h)
def gFour : List SV → Option (SV × List Prop)
  | [.nv (.one (.val (.int .u32 n)))] => some (.nv (.one (.val (.string (strL (w2 (n / 65536) ++ w2 (n % 65536)))))), [0 ≤ n, n ≤ 4294967295])
  | _ => none
theorem spFour : SpOk Try.prog 20 (pureS gFour) := pureS_ok (by
  intro args r obl h ho
  unfold gFour at h
  split at h
  · simp only [Option.some.injEq, Prod.mk.injEq] at h
    obtain ⟨rfl, rfl⟩ := h
    exact ⟨rfl, rfl, pureFour _ ⟨ho.1, ho.2.1⟩⟩
  · cases h)
def nmZ (s : ByteArray) (k n : Int) : Int := if n = 2 then hfZ s k else wdZ s k
theorem pureNum (s : ByteArray) (k n : Int) (hs : 28 ≤ s.size) (hk : (n = 2 ∧ (k = 4 ∨ k = 20 ∨ k = 22)) ∨ (n = 4 ∧ (k = 12 ∨ k = 16))) : PureOk Try.prog 26 [.nv (.one (.val (.string s))), .nv (.one (.val (.int .i64 k))), .nv (.one (.val (.int .i64 n)))] (.nv (.one (.val (.int .u64 (nmZ s k n))))) := by
  have w : ∀ x : Int, 0 ≤ x → x < 4294967296 → IntKind.wrap IntKind.u64 x = x := fun x h0 h1 => wU64 rfl (by omega)
  have n4 : n = 2 → k = 4 → PureOk Try.prog 26 [.nv (.one (.val (.string s))), .nv (.one (.val (.int .i64 k))), .nv (.one (.val (.int .i64 n)))] (.nv (.one (.val (.int .u64 (nmZ s k n))))) := by
    rintro rfl rfl
    have b0 := byteAt_bd s 4
    have b1 := byteAt_bd s 5
    refine nu_4 s _ hs ?_
    rw [w (0 * 256) (by omega) (by omega), w (byteAt s 4) (by omega) (by omega), w (0 * 256 + byteAt s 4) (by omega) (by omega), w ((0 * 256 + byteAt s 4) * 256) (by omega) (by omega), w (byteAt s 5) (by omega) (by omega), w ((0 * 256 + byteAt s 4) * 256 + byteAt s 5) (by omega) (by omega)]
    show _ = byteAt s 4 * 256 + byteAt s (4 + 1)
    rw [show (4 : Int) + 1 = 5 from rfl]
    omega
  have n20 : n = 2 → k = 20 → PureOk Try.prog 26 [.nv (.one (.val (.string s))), .nv (.one (.val (.int .i64 k))), .nv (.one (.val (.int .i64 n)))] (.nv (.one (.val (.int .u64 (nmZ s k n))))) := by
    rintro rfl rfl
    have b0 := byteAt_bd s 20
    have b1 := byteAt_bd s 21
    refine nu_20 s _ hs ?_
    rw [w (0 * 256) (by omega) (by omega), w (byteAt s 20) (by omega) (by omega), w (0 * 256 + byteAt s 20) (by omega) (by omega), w ((0 * 256 + byteAt s 20) * 256) (by omega) (by omega), w (byteAt s 21) (by omega) (by omega), w ((0 * 256 + byteAt s 20) * 256 + byteAt s 21) (by omega) (by omega)]
    show _ = byteAt s 20 * 256 + byteAt s (20 + 1)
    rw [show (20 : Int) + 1 = 21 from rfl]
    omega
  have n22 : n = 2 → k = 22 → PureOk Try.prog 26 [.nv (.one (.val (.string s))), .nv (.one (.val (.int .i64 k))), .nv (.one (.val (.int .i64 n)))] (.nv (.one (.val (.int .u64 (nmZ s k n))))) := by
    rintro rfl rfl
    have b0 := byteAt_bd s 22
    have b1 := byteAt_bd s 23
    refine nu_22 s _ hs ?_
    rw [w (0 * 256) (by omega) (by omega), w (byteAt s 22) (by omega) (by omega), w (0 * 256 + byteAt s 22) (by omega) (by omega), w ((0 * 256 + byteAt s 22) * 256) (by omega) (by omega), w (byteAt s 23) (by omega) (by omega), w ((0 * 256 + byteAt s 22) * 256 + byteAt s 23) (by omega) (by omega)]
    show _ = byteAt s 22 * 256 + byteAt s (22 + 1)
    rw [show (22 : Int) + 1 = 23 from rfl]
    omega
  have n12 : n = 4 → k = 12 → PureOk Try.prog 26 [.nv (.one (.val (.string s))), .nv (.one (.val (.int .i64 k))), .nv (.one (.val (.int .i64 n)))] (.nv (.one (.val (.int .u64 (nmZ s k n))))) := by
    rintro rfl rfl
    have b0 := byteAt_bd s 12
    have b1 := byteAt_bd s 13
    have b2 := byteAt_bd s 14
    have b3 := byteAt_bd s 15
    refine nu_12 s _ hs ?_
    rw [w (0 * 256) (by omega) (by omega), w (byteAt s 12) (by omega) (by omega), w (0 * 256 + byteAt s 12) (by omega) (by omega), w ((0 * 256 + byteAt s 12) * 256) (by omega) (by omega), w (byteAt s 13) (by omega) (by omega), w ((0 * 256 + byteAt s 12) * 256 + byteAt s 13) (by omega) (by omega), w (((0 * 256 + byteAt s 12) * 256 + byteAt s 13) * 256) (by omega) (by omega), w (byteAt s 14) (by omega) (by omega), w (((0 * 256 + byteAt s 12) * 256 + byteAt s 13) * 256 + byteAt s 14) (by omega) (by omega), w ((((0 * 256 + byteAt s 12) * 256 + byteAt s 13) * 256 + byteAt s 14) * 256) (by omega) (by omega), w (byteAt s 15) (by omega) (by omega), w ((((0 * 256 + byteAt s 12) * 256 + byteAt s 13) * 256 + byteAt s 14) * 256 + byteAt s 15) (by omega) (by omega)]
    show _ = (byteAt s 12 * 256 + byteAt s (12 + 1)) * 65536 + (byteAt s (12 + 2) * 256 + byteAt s (12 + 2 + 1))
    rw [show (12 : Int) + 1 = 13 from rfl, show (12 : Int) + 2 = 14 from rfl, show (14 : Int) + 1 = 15 from rfl]
    omega
  have n16 : n = 4 → k = 16 → PureOk Try.prog 26 [.nv (.one (.val (.string s))), .nv (.one (.val (.int .i64 k))), .nv (.one (.val (.int .i64 n)))] (.nv (.one (.val (.int .u64 (nmZ s k n))))) := by
    rintro rfl rfl
    have b0 := byteAt_bd s 16
    have b1 := byteAt_bd s 17
    have b2 := byteAt_bd s 18
    have b3 := byteAt_bd s 19
    refine nu_16 s _ hs ?_
    rw [w (0 * 256) (by omega) (by omega), w (byteAt s 16) (by omega) (by omega), w (0 * 256 + byteAt s 16) (by omega) (by omega), w ((0 * 256 + byteAt s 16) * 256) (by omega) (by omega), w (byteAt s 17) (by omega) (by omega), w ((0 * 256 + byteAt s 16) * 256 + byteAt s 17) (by omega) (by omega), w (((0 * 256 + byteAt s 16) * 256 + byteAt s 17) * 256) (by omega) (by omega), w (byteAt s 18) (by omega) (by omega), w (((0 * 256 + byteAt s 16) * 256 + byteAt s 17) * 256 + byteAt s 18) (by omega) (by omega), w ((((0 * 256 + byteAt s 16) * 256 + byteAt s 17) * 256 + byteAt s 18) * 256) (by omega) (by omega), w (byteAt s 19) (by omega) (by omega), w ((((0 * 256 + byteAt s 16) * 256 + byteAt s 17) * 256 + byteAt s 18) * 256 + byteAt s 19) (by omega) (by omega)]
    show _ = (byteAt s 16 * 256 + byteAt s (16 + 1)) * 65536 + (byteAt s (16 + 2) * 256 + byteAt s (16 + 2 + 1))
    rw [show (16 : Int) + 1 = 17 from rfl, show (16 : Int) + 2 = 18 from rfl, show (18 : Int) + 1 = 19 from rfl]
    omega
  rcases hk with ⟨a, b | b | b⟩ | ⟨a, b | b⟩
  · exact n4 a b
  · exact n20 a b
  · exact n22 a b
  · exact n12 a b
  · exact n16 a b
def gNum : List SV → Option (SV × List Prop)
  | [.nv (.one (.val (.string s))), .nv (.one (.val (.int .i64 k))), .nv (.one (.val (.int .i64 n)))] => some (.nv (.one (.val (.int .u64 (nmZ s k n)))), [28 ≤ s.size, (n = 2 ∧ (k = 4 ∨ k = 20 ∨ k = 22)) ∨ (n = 4 ∧ (k = 12 ∨ k = 16))])
  | _ => none
theorem spNum : SpOk Try.prog 26 (pureS gNum) := pureS_ok (by
  intro args r obl h ho
  unfold gNum at h
  split at h
  · simp only [Option.some.injEq, Prod.mk.injEq] at h
    obtain ⟨rfl, rfl⟩ := h
    exact ⟨rfl, rfl, pureNum _ _ _ ho.1 ho.2.1⟩
  · cases h)
def GhG : List (FuncId × Sp) := (19, pureS gTwo) :: (20, pureS gFour) :: (26, pureS gNum) :: GhF
theorem GhG_ok : CtxOk Try.prog GhG := ctx_cons (enter_of Try.func19 (by kernel_rfl) (by kernel_rfl)) spTwo <|
  ctx_cons (enter_of Try.func20 (by kernel_rfl) (by kernel_rfl)) spFour <|
  ctx_cons (enter_of Try.func26 (by kernel_rfl) (by kernel_rfl)) spNum GhF_ok
end Go.Proofs.Yteehpliloegkgaa

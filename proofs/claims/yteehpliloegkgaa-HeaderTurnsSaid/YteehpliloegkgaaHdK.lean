/- header: Take, with as specifications. No condition. -/
import Derived.Test.YteehpliloegkgaaHdJ
namespace Go.Proofs.Yteehpliloegkgaa
set_option linter.unusedVariables false
set_option linter.unusedSimpArgs false
open Go.RowKit E
def hd0 : Hd := ⟨0, 0, 0, 0, 0, 0, 0⟩
abbrev hA (h : Hd) : List At := [.val (.int .u8 h.d), .val (.int .u16 h.id), .val (.int .u8 h.ttl), .val (.int .u32 h.src), .val (.int .u32 h.dst), .val (.int .u16 h.sp), .val (.int .u16 h.dp)]
/-- The header that the bytes say. -/
def rdH (s : ByteArray) : Hd := ⟨byteAt s 1 / 4, hfZ s 4, byteAt s 8, wdZ s 12, wdZ s 16, hfZ s 20, hfZ s 22⟩
def sumZ (s : ByteArray) : Int := inetZ ((s.extract 0 10 ++ (ByteArray.mk #[0, 0])) ++ s.extract 12 20)
def tkE (s : ByteArray) : Int := if s.size < 28 then 2 else if formZ s = false then 3 else if hfZ s 10 = sumZ s then 0 else 11
def tkH (s : ByteArray) : Hd := if tkE s = 0 then rdH s else hd0
def tkB (s : ByteArray) : ByteArray := if tkE s = 0 then s.extract 28 s.size else .empty
theorem pureTk (s : ByteArray) (hz : s.size ≤ 140737488355328) : PureOk Try.prog 10 [.nv (.one (.val (.string s)))] (.tup [.agg (hA (tkH s)), .one (.val (.string (tkB s))), .one (.val (.int .i64 (tkE s)))]) := by
  by_cases h1 : s.size < 28
  · have e : tkE s = 2 := if_pos h1
    rw [show tkH s = hd0 from if_neg (by rw [e]; decide), show tkB s = .empty from if_neg (by rw [e]; decide), e]
    exact tk_1 s h1
  have h1' : 28 ≤ s.size := by omega
  cases h2 : formZ s
  · have e : tkE s = 3 := (if_neg h1).trans (if_pos h2)
    rw [show tkH s = hd0 from if_neg (by rw [e]; decide), show tkB s = .empty from if_neg (by rw [e]; decide), e]
    exact tk_2 s h1' hz h2
  have h2' : ¬ formZ s = false := by rw [h2]; decide
  by_cases h3 : hfZ s 10 = sumZ s
  · have e : tkE s = 0 := (if_neg h1).trans ((if_neg h2').trans (if_pos h3))
    rw [show tkH s = rdH s from if_pos e, show tkB s = s.extract 28 s.size from if_pos e, e]
    have b1 := byteAt_bd s 1
    exact tk_4 s (byteAt s 1 / 4) h1' hz h2 h3 (by rw [show (2 : Int) ^ 2 = 4 from rfl, Int.fdiv_eq_ediv_of_nonneg _ (by omega)])
  · have e : tkE s = 11 := (if_neg h1).trans ((if_neg h2').trans (if_neg h3))
    rw [show tkH s = hd0 from if_neg (by rw [e]; decide), show tkB s = .empty from if_neg (by rw [e]; decide), e]
    exact tk_3 s h1' hz h2 h3
def gTk : List SV → Option (SV × List Prop)
  | [.nv (.one (.val (.string s)))] => some (.tup [.agg (hA (tkH s)), .one (.val (.string (tkB s))), .one (.val (.int .i64 (tkE s)))], [s.size ≤ 140737488355328])
  | _ => none
theorem spTk : SpOk Try.prog 10 (pureS gTk) := pureS_ok (by
  intro args r obl h ho
  unfold gTk at h
  split at h
  · simp only [Option.some.injEq, Prod.mk.injEq] at h
    obtain ⟨rfl, rfl⟩ := h
    exact ⟨rfl, rfl, pureTk _ ho.1⟩
  · cases h)
/-- Two bytes at a place are others. -/
def cutW (s : ByteArray) (k : Nat) (i : Int) : ByteArray := (s.extract 0 k ++ strL (w2 i)) ++ s.extract (k + 2) s.size
def wiZ (s : ByteArray) (k : Nat) (i : Int) : ByteArray := cutW (cutW s k i) 10 (updZ (hfZ s 10) (hfZ s k) i)
theorem pureWi (s : ByteArray) (k : Int) (i : Int) (h : 28 ≤ s.size) (hz : s.size ≤ 70000) (hk : k = 0 ∨ k = 8) (hi : 0 ≤ i ∧ i ≤ 65535) : PureOk Try.prog 27 [.nv (.one (.val (.string s))), .nv (.one (.val (.int .i64 k))), .nv (.one (.val (.int .u16 i)))] (.nv (.one (.val (.string (wiZ s k.toNat i))))) := by
  have b1 := hfZ_bd s 10
  rcases hk with rfl | rfl
  · have b2 := hfZ_bd s 0
    refine wi_0 s _ i h hz hi b1 b2 (updZ_bd b1 b2 hi) ?_
    rw [halv1, halv1]; rfl
  · have b2 := hfZ_bd s 8
    refine wi_8 s _ i h hz hi b1 b2 (updZ_bd b1 b2 hi) ?_
    rw [halv1, halv1]; rfl
def gWi : List SV → Option (SV × List Prop)
  | [.nv (.one (.val (.string s))), .nv (.one (.val (.int .i64 k))), .nv (.one (.val (.int .u16 i)))] => some (.nv (.one (.val (.string (wiZ s k.toNat i)))), [28 ≤ s.size, s.size ≤ 70000, k = 0 ∨ k = 8, 0 ≤ i, i ≤ 65535])
  | _ => none
theorem spWi : SpOk Try.prog 27 (pureS gWi) := pureS_ok (by
  intro args r obl h ho
  unfold gWi at h
  split at h
  · simp only [Option.some.injEq, Prod.mk.injEq] at h
    obtain ⟨rfl, rfl⟩ := h
    obtain ⟨o1, o2, o3, o4, o5, _⟩ := ho
    exact ⟨rfl, rfl, pureWi _ _ _ o1 o2 o3 ⟨o4, o5⟩⟩
  · cases h)
def GhE : List (FuncId × Sp) := (10, pureS gTk) :: (27, pureS gWi) :: GhD
theorem GhE_ok : CtxOk Try.prog GhE := ctx_cons (enter_of Try.func10 (by kernel_rfl) (by kernel_rfl)) spTk <|
  ctx_cons (enter_of Try.func27 (by kernel_rfl) (by kernel_rfl)) spWi GhD_ok
end Go.Proofs.Yteehpliloegkgaa

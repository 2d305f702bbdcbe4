/- header: the document's Take as a specification. No condition. -/
import Derived.Test.YteehpliloegkgaaHdR
namespace Go.Proofs.Yteehpliloegkgaa
set_option linter.unusedVariables false
set_option linter.unusedSimpArgs false
open Go.RowKit E
theorem rdH_wf (s : ByteArray) : (rdH s).wf := by
  have b1 := byteAt_bd s 1
  have b8 := byteAt_bd s 8
  exact ⟨(show 0 ≤ byteAt s 1 / 4 ∧ byteAt s 1 / 4 ≤ 255 by omega), hfZ_bd s 4, (show 0 ≤ byteAt s 8 ∧ byteAt s 8 ≤ 255 by omega), wdZ_bd s 12, wdZ_bd s 16, hfZ_bd s 20, hfZ_bd s 22⟩
theorem rdH_raw (s : ByteArray) : (Hd.mk (IntKind.wrap IntKind.u8 (Int.tdiv (byteAt s 1) 4)) (IntKind.wrap IntKind.u16 (nmZ s 4 2)) (byteAt s 8) (IntKind.wrap IntKind.u32 (nmZ s 12 4)) (IntKind.wrap IntKind.u32 (nmZ s 16 4)) (IntKind.wrap IntKind.u16 (nmZ s 20 2)) (IntKind.wrap IntKind.u16 (nmZ s 22 2))) = rdH s := by
  have b1 := byteAt_bd s 1
  have f := fun k => hfZ_bd s k
  have g := fun k => wdZ_bd s k
  have e1 : (IntKind.wrap IntKind.u8 (Int.tdiv (byteAt s 1) 4)) = byteAt s 1 / 4 := by rw [Int.tdiv_eq_ediv_of_nonneg b1.1]; exact wU8 rfl (by omega)
  have e2 : ∀ k, (IntKind.wrap IntKind.u16 (nmZ s k 2)) = hfZ s k := fun k => by rw [show nmZ s k 2 = hfZ s k from if_pos rfl]; exact wU16 rfl (f k)
  have e4 : ∀ k, (IntKind.wrap IntKind.u32 (nmZ s k 4)) = wdZ s k := fun k => by rw [show nmZ s k 4 = wdZ s k from if_neg (by decide)]; exact wU32 rfl (g k)
  rw [e1, e2, e2, e2, e4, e4]; rfl
theorem hdrL_len (h : Hd) (N : Int) : (hdrL h N).length = 28 := rfl
theorem hPutE_0 {h : Hd} {b : ByteArray} (e : hPutE h b = 0) : h.d ≤ 63 ∧ b.size ≤ 65507 := by
  unfold hPutE at e
  split at e
  · omega
  · split at e
    · omega
    · omega
theorem hPutS_0 {h : Hd} {b : ByteArray} (e : hPutE h b = 0) : hPutS h b = strL (hdrL h b.size ++ ints b) := by
  obtain ⟨h1, h2⟩ := hPutE_0 e
  unfold hPutS
  rw [if_neg (by omega), if_neg (by omega)]
theorem hPutS_size {h : Hd} {b : ByteArray} (e : hPutE h b = 0) : (hPutS h b).size = 28 + b.size := by
  rw [hPutS_0 e, strL_size, List.length_append, hdrL_len, ints_len]
/-- All but the sum. -/
def cutS (s : ByteArray) : ByteArray := s.extract 0 10 ++ s.extract 12 s.size
def bodyZ (s : ByteArray) : ByteArray := s.extract 28 s.size
def dtE (s : ByteArray) : Int := if s.size < 28 then 2 else if hPutE (rdH s) (bodyZ s) = 0 then if cutS (hPutS (rdH s) (bodyZ s)) = cutS s then if hPutS (rdH s) (bodyZ s) = s then 0 else 11 else 3 else 3
def dtH (s : ByteArray) : Hd := if dtE s = 0 then rdH s else hd0
def dtB (s : ByteArray) : ByteArray := if dtE s = 0 then bodyZ s else .empty
theorem pureDTk (s : ByteArray) (hz : s.size ≤ 70000) : PureOk Try.prog 12 [.nv (.one (.val (.string s)))] (.tup [.agg (hA (dtH s)), .one (.val (.string (dtB s))), .one (.val (.int .i64 (dtE s)))]) := by
  have zz : ∀ {c : Int}, dtE s = c → c ≠ 0 → dtH s = hd0 ∧ dtB s = .empty := fun e n => ⟨if_neg (by rw [e]; exact n), if_neg (by rw [e]; exact n)⟩
  by_cases h1 : s.size < 28
  · have e : dtE s = 2 := if_pos h1
    rw [(zz e (by decide)).1, (zz e (by decide)).2, e]
    exact dt_1 s h1
  have h1' : 28 ≤ s.size := by omega
  have hw : Hd.wf (Hd.mk (IntKind.wrap IntKind.u8 (Int.tdiv (byteAt s 1) 4)) (IntKind.wrap IntKind.u16 (nmZ s 4 2)) (byteAt s 8) (IntKind.wrap IntKind.u32 (nmZ s 12 4)) (IntKind.wrap IntKind.u32 (nmZ s 16 4)) (IntKind.wrap IntKind.u16 (nmZ s 20 2)) (IntKind.wrap IntKind.u16 (nmZ s 22 2))) := by rw [rdH_raw]; exact rdH_wf s
  by_cases h2 : hPutE (rdH s) (bodyZ s) = 0
  case neg =>
    have e : dtE s = 3 := (if_neg h1).trans (if_neg h2)
    rw [(zz e (by decide)).1, (zz e (by decide)).2, e]
    exact dt_2 s h1' hz hw (by rw [rdH_raw]; exact h2)
  have hs := hPutS_size h2
  have bs : (bodyZ s).size = s.size - 28 := by unfold bodyZ; rw [ByteArray.size_extract]; omega
  have g2 : hPutE (Hd.mk (IntKind.wrap IntKind.u8 (Int.tdiv (byteAt s 1) 4)) (IntKind.wrap IntKind.u16 (nmZ s 4 2)) (byteAt s 8) (IntKind.wrap IntKind.u32 (nmZ s 12 4)) (IntKind.wrap IntKind.u32 (nmZ s 16 4)) (IntKind.wrap IntKind.u16 (nmZ s 20 2)) (IntKind.wrap IntKind.u16 (nmZ s 22 2))) (s.extract 28 s.size) = 0 := by rw [rdH_raw]; exact h2
  have g3 : 28 ≤ (hPutS (Hd.mk (IntKind.wrap IntKind.u8 (Int.tdiv (byteAt s 1) 4)) (IntKind.wrap IntKind.u16 (nmZ s 4 2)) (byteAt s 8) (IntKind.wrap IntKind.u32 (nmZ s 12 4)) (IntKind.wrap IntKind.u32 (nmZ s 16 4)) (IntKind.wrap IntKind.u16 (nmZ s 20 2)) (IntKind.wrap IntKind.u16 (nmZ s 22 2))) (s.extract 28 s.size)).size := by rw [rdH_raw]; exact Nat.le_trans (by omega) (Nat.le_of_eq hs.symm)
  have g4 : (hPutS (Hd.mk (IntKind.wrap IntKind.u8 (Int.tdiv (byteAt s 1) 4)) (IntKind.wrap IntKind.u16 (nmZ s 4 2)) (byteAt s 8) (IntKind.wrap IntKind.u32 (nmZ s 12 4)) (IntKind.wrap IntKind.u32 (nmZ s 16 4)) (IntKind.wrap IntKind.u16 (nmZ s 20 2)) (IntKind.wrap IntKind.u16 (nmZ s 22 2))) (s.extract 28 s.size)).size ≤ 140000 := by rw [rdH_raw]; exact Nat.le_trans (Nat.le_of_eq hs) (by omega)
  by_cases h3 : cutS (hPutS (rdH s) (bodyZ s)) = cutS s
  case neg =>
    have e : dtE s = 3 := (if_neg h1).trans ((if_pos h2).trans (if_neg h3))
    rw [(zz e (by decide)).1, (zz e (by decide)).2, e]
    exact dt_3 s h1' hz hw g2 g3 g4 (by rw [rdH_raw]; exact h3)
  have g5 : ((cutS (hPutS (Hd.mk (IntKind.wrap IntKind.u8 (Int.tdiv (byteAt s 1) 4)) (IntKind.wrap IntKind.u16 (nmZ s 4 2)) (byteAt s 8) (IntKind.wrap IntKind.u32 (nmZ s 12 4)) (IntKind.wrap IntKind.u32 (nmZ s 16 4)) (IntKind.wrap IntKind.u16 (nmZ s 20 2)) (IntKind.wrap IntKind.u16 (nmZ s 22 2))) (s.extract 28 s.size))).toList == (cutS s).toList) = true := by
    rw [rdH_raw, show cutS (hPutS (rdH s) (s.extract 28 s.size)) = cutS s from h3]; exact toList_same _
  by_cases h4 : hPutS (rdH s) (bodyZ s) = s
  · have e : dtE s = 0 := (if_neg h1).trans ((if_pos h2).trans ((if_pos h3).trans (if_pos h4)))
    rw [show dtH s = rdH s from if_pos e, show dtB s = bodyZ s from if_pos e, e, ← rdH_raw]
    exact dt_5 s h1' hz hw g2 g3 g4 g5 (by rw [rdH_raw, show hPutS (rdH s) (s.extract 28 s.size) = s from h4]; exact toList_same _)
  · have e : dtE s = 11 := (if_neg h1).trans ((if_pos h2).trans ((if_pos h3).trans (if_neg h4)))
    rw [(zz e (by decide)).1, (zz e (by decide)).2, e]
    exact dt_4 s h1' hz hw g2 g3 g4 g5 (by rw [rdH_raw]; exact h4)
def gDTk : List SV → Option (SV × List Prop)
  | [.nv (.one (.val (.string s)))] => some (.tup [.agg (hA (dtH s)), .one (.val (.string (dtB s))), .one (.val (.int .i64 (dtE s)))], [s.size ≤ 70000])
  | _ => none
theorem spDTk : SpOk Try.prog 12 (pureS gDTk) := pureS_ok (by
  intro args r obl h ho
  unfold gDTk at h
  split at h
  · simp only [Option.some.injEq, Prod.mk.injEq] at h
    obtain ⟨rfl, rfl⟩ := h
    exact ⟨rfl, rfl, pureDTk _ ho.1⟩
  · cases h)
def GhI : List (FuncId × Sp) := (12, pureS gDTk) :: GhH
theorem GhI_ok : CtxOk Try.prog GhI := ctx_cons (enter_of Try.func12 (by kernel_rfl) (by kernel_rfl)) spDTk GhH_ok
end Go.Proofs.Yteehpliloegkgaa

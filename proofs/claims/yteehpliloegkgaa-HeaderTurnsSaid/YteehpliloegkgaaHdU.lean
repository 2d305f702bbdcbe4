/- header: the document's Mark, Hop as specifications. No condition. -/
import Derived.Test.YteehpliloegkgaaHdT
namespace Go.Proofs.Yteehpliloegkgaa
set_option linter.unusedVariables false
set_option linter.unusedSimpArgs false
open Go.RowKit E
theorem dtH_wf (s : ByteArray) : (dtH s).wf := by
  unfold dtH
  split
  · exact rdH_wf s
  · exact ⟨⟨by decide, by decide⟩, ⟨by decide, by decide⟩, ⟨by decide, by decide⟩, ⟨by decide, by decide⟩, ⟨by decide, by decide⟩, ⟨by decide, by decide⟩, ⟨by decide, by decide⟩⟩
/-- The header with another DSCP; one step further. -/
def mkH (h : Hd) (d : Int) : Hd := ⟨d, h.id, h.ttl, h.src, h.dst, h.sp, h.dp⟩
def hoH (h : Hd) : Hd := ⟨h.d, h.id, h.ttl - 1, h.src, h.dst, h.sp, h.dp⟩
theorem mkH_wf {h : Hd} (w : h.wf) {d : Int} (hd : 0 ≤ d ∧ d ≤ 255) : (mkH h d).wf := ⟨hd, w.2⟩
theorem hoH_wf {h : Hd} (w : h.wf) (ht : ¬ h.ttl < 2) : (hoH h).wf := by
  obtain ⟨a, b, c, e⟩ := w
  exact ⟨a, b, (show 0 ≤ h.ttl - 1 ∧ h.ttl - 1 ≤ 255 by omega), e⟩
def dmE (s : ByteArray) (d : Int) : Int := if d > 63 then 6 else if dtE s = 0 then hPutE (mkH (dtH s) d) (dtB s) else dtE s
def dmS (s : ByteArray) (d : Int) : ByteArray := if d > 63 then .empty else if dtE s = 0 then hPutS (mkH (dtH s) d) (dtB s) else .empty
def dhE (s : ByteArray) : Int := if dtE s = 0 then if (dtH s).ttl < 2 then 21 else hPutE (hoH (dtH s)) (dtB s) else dtE s
def dhS (s : ByteArray) : ByteArray := if dtE s = 0 then if (dtH s).ttl < 2 then .empty else hPutS (hoH (dtH s)) (dtB s) else .empty
theorem pureDMk (s : ByteArray) (d : Int) (hz : s.size ≤ 70000) (hd : 0 ≤ d ∧ d ≤ 255) : PureOk Try.prog 14 [.nv (.one (.val (.string s))), .nv (.one (.val (.int .u8 d)))] (.tup [.one (.val (.string (dmS s d))), .one (.val (.int .i64 (dmE s d)))]) := by
  unfold dmS dmE
  by_cases h1 : d > 63
  · rw [if_pos h1, if_pos h1]; exact dm_1 s d h1
  rw [if_neg h1, if_neg h1]
  by_cases h2 : dtE s = 0
  · rw [if_pos h2, if_pos h2]; exact dm_3 s d hz (by omega) h2 (mkH_wf (dtH_wf s) hd)
  · rw [if_neg h2, if_neg h2]; exact dm_2 s d hz (by omega) h2
theorem pureDHo (s : ByteArray) (hz : s.size ≤ 70000) : PureOk Try.prog 16 [.nv (.one (.val (.string s)))] (.tup [.one (.val (.string (dhS s))), .one (.val (.int .i64 (dhE s)))]) := by
  unfold dhS dhE
  by_cases h2 : dtE s = 0
  · rw [if_pos h2, if_pos h2]
    by_cases h3 : (dtH s).ttl < 2
    · rw [if_pos h3, if_pos h3]; exact dh_3 s hz h2 h3
    · rw [if_neg h3, if_neg h3]
      have hw := hoH_wf (dtH_wf s) h3
      have e : (Hd.mk (dtH s).d (dtH s).id (IntKind.wrap IntKind.u8 ((dtH s).ttl - 1)) (dtH s).src (dtH s).dst (dtH s).sp (dtH s).dp) = hoH (dtH s) := by
        rw [wU8 (a := (dtH s).ttl - 1) (b := (dtH s).ttl - 1) rfl hw.2.2.1]; rfl
      rw [← e]
      exact dh_4 s hz h2 h3 (by rw [e]; exact hw)
  · rw [if_neg h2, if_neg h2]; exact dh_2 s hz h2
def gDMk : List SV → Option (SV × List Prop)
  | [.nv (.one (.val (.string s))), .nv (.one (.val (.int .u8 d)))] => some (.tup [.one (.val (.string (dmS s d))), .one (.val (.int .i64 (dmE s d)))], [s.size ≤ 70000, 0 ≤ d, d ≤ 255])
  | _ => none
theorem spDMk : SpOk Try.prog 14 (pureS gDMk) := pureS_ok (by
  intro args r obl h ho
  unfold gDMk at h
  split at h
  · simp only [Option.some.injEq, Prod.mk.injEq] at h
    obtain ⟨rfl, rfl⟩ := h
    obtain ⟨o1, o2, o3, _⟩ := ho
    exact ⟨rfl, rfl, pureDMk _ _ o1 ⟨o2, o3⟩⟩
  · cases h)
def gDHo : List SV → Option (SV × List Prop)
  | [.nv (.one (.val (.string s)))] => some (.tup [.one (.val (.string (dhS s))), .one (.val (.int .i64 (dhE s)))], [s.size ≤ 70000])
  | _ => none
theorem spDHo : SpOk Try.prog 16 (pureS gDHo) := pureS_ok (by
  intro args r obl h ho
  unfold gDHo at h
  split at h
  · simp only [Option.some.injEq, Prod.mk.injEq] at h
    obtain ⟨rfl, rfl⟩ := h
    exact ⟨rfl, rfl, pureDHo _ ho.1⟩
  · cases h)
def GhJ : List (FuncId × Sp) := (14, pureS gDMk) :: (16, pureS gDHo) :: GhI
theorem GhJ_ok : CtxOk Try.prog GhJ := ctx_cons (enter_of Try.func14 (by kernel_rfl) (by kernel_rfl)) spDMk <|
  ctx_cons (enter_of Try.func16 (by kernel_rfl) (by kernel_rfl)) spDHo GhI_ok
end Go.Proofs.Yteehpliloegkgaa

/- header: Mark, Hop as specifications. No condition. -/
import Derived.Test.YteehpliloegkgaaHdL
namespace Go.Proofs.Yteehpliloegkgaa
set_option linter.unusedVariables false
set_option linter.unusedSimpArgs false
open Go.RowKit E
theorem tk0 {s : ByteArray} (e : tkE s = 0) : 28 ≤ s.size ∧ formZ s = true ∧ hfZ s 10 = sumZ s := by
  unfold tkE at e
  split at e
  · omega
  rename_i h1
  split at e
  · omega
  rename_i h2
  split at e
  · rename_i h3
    refine ⟨by omega, ?_, h3⟩
    cases h : formZ s
    · exact absurd h h2
    · rfl
  · omega
def mkE (s : ByteArray) (d : Int) : Int := if d > 63 then 6 else tkE s
def mkS (s : ByteArray) (d : Int) : ByteArray := if mkE s d = 0 then wiZ s 0 (17664 + 4 * d) else .empty
def hoE (s : ByteArray) : Int := if tkE s = 0 then if byteAt s 8 < 2 then 21 else 0 else tkE s
def hoS (s : ByteArray) : ByteArray := if hoE s = 0 then wiZ s 8 (hfZ s 8 - 256) else .empty
theorem pureMk (s : ByteArray) (d : Int) (hz : s.size ≤ 70000) (hd : 0 ≤ d ∧ d ≤ 255) : PureOk Try.prog 13 [.nv (.one (.val (.string s))), .nv (.one (.val (.int .u8 d)))] (.tup [.one (.val (.string (mkS s d))), .one (.val (.int .i64 (mkE s d)))]) := by
  by_cases h1 : d > 63
  · have e : mkE s d = 6 := if_pos h1
    rw [show mkS s d = .empty from if_neg (by rw [e]; decide), e]
    exact mk_1 s d h1
  have e : mkE s d = tkE s := if_neg h1
  by_cases h2 : tkE s = 0
  · rw [show mkS s d = wiZ s 0 (17664 + 4 * d) from if_pos (e.trans h2), e, h2]
    refine mk_3 s d _ hz (by omega) h2 (tk0 h2).1 ?_ (by omega)
    rw [wU16 (a := d) (b := d) rfl (by omega), wU16 (a := d * 2 ^ 2) (b := 4 * d) (by omega) (by omega)]; exact wU16 rfl (by omega)
  · rw [show mkS s d = .empty from if_neg (by rw [e]; exact h2), e]
    exact mk_2 s d hz (by omega) h2
theorem pureHo (s : ByteArray) (hz : s.size ≤ 70000) : PureOk Try.prog 15 [.nv (.one (.val (.string s)))] (.tup [.one (.val (.string (hoS s))), .one (.val (.int .i64 (hoE s)))]) := by
  by_cases h2 : tkE s = 0
  · have et : (tkH s).ttl = byteAt s 8 := congrArg Hd.ttl (if_pos h2)
    by_cases h3 : byteAt s 8 < 2
    · have e : hoE s = 21 := (if_pos h2).trans (if_pos h3)
      rw [show hoS s = .empty from if_neg (by rw [e]; decide), e]
      exact ho_3 s hz h2 (by rw [et]; exact h3)
    · have e : hoE s = 0 := (if_pos h2).trans (if_neg h3)
      rw [show hoS s = wiZ s 8 (hfZ s 8 - 256) from if_pos e, e]
      have hb : 0 ≤ hfZ s 8 - 256 ∧ hfZ s 8 - 256 ≤ 65535 := by
        have := hfZ_bd s 8
        have b9 := byteAt_bd s (8 + 1)
        have : hfZ s 8 = byteAt s 8 * 256 + byteAt s (8 + 1) := rfl
        omega
      exact ho_4 s _ hz h2 (by rw [et]; exact h3) (tk0 h2).1 (wU16 rfl hb) hb
  · have e : hoE s = tkE s := if_neg h2
    rw [show hoS s = .empty from if_neg (by rw [e]; exact h2), e]
    exact ho_2 s hz h2
def gMk : List SV → Option (SV × List Prop)
  | [.nv (.one (.val (.string s))), .nv (.one (.val (.int .u8 d)))] => some (.tup [.one (.val (.string (mkS s d))), .one (.val (.int .i64 (mkE s d)))], [s.size ≤ 70000, 0 ≤ d, d ≤ 255])
  | _ => none
theorem spMk : SpOk Try.prog 13 (pureS gMk) := pureS_ok (by
  intro args r obl h ho
  unfold gMk at h
  split at h
  · simp only [Option.some.injEq, Prod.mk.injEq] at h
    obtain ⟨rfl, rfl⟩ := h
    obtain ⟨o1, o2, o3, _⟩ := ho
    exact ⟨rfl, rfl, pureMk _ _ o1 ⟨o2, o3⟩⟩
  · cases h)
def gHo : List SV → Option (SV × List Prop)
  | [.nv (.one (.val (.string s)))] => some (.tup [.one (.val (.string (hoS s))), .one (.val (.int .i64 (hoE s)))], [s.size ≤ 70000])
  | _ => none
theorem spHo : SpOk Try.prog 15 (pureS gHo) := pureS_ok (by
  intro args r obl h ho
  unfold gHo at h
  split at h
  · simp only [Option.some.injEq, Prod.mk.injEq] at h
    obtain ⟨rfl, rfl⟩ := h
    exact ⟨rfl, rfl, pureHo _ ho.1⟩
  · cases h)
def GhF : List (FuncId × Sp) := (13, pureS gMk) :: (15, pureS gHo) :: GhE
theorem GhF_ok : CtxOk Try.prog GhF := ctx_cons (enter_of Try.func13 (by kernel_rfl) (by kernel_rfl)) spMk <|
  ctx_cons (enter_of Try.func15 (by kernel_rfl) (by kernel_rfl)) spHo GhE_ok
end Go.Proofs.Yteehpliloegkgaa

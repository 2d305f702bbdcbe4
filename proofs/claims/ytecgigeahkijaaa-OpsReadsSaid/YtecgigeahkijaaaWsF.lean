/- wire: text as a specification. No condition. -/
import Derived.Test.YtecgigeahkijaaaWsE
namespace Go.Proofs.Ytecgigeahkijaaa
set_option linter.unusedVariables false
set_option linter.unusedSimpArgs false
open Go.RowKit E
theorem pureText (s : ByteArray) (hz : s.size ≤ 140737488355328) :
    PureOk Try.prog 42 [sA s] (.tup [.one (.val (.string (txtZ s).1)), .one (.val (.int .i64 (txtZ s).2.1)), .one (.val (.int .i64 (txtZ s).2.2))]) := by
  have hn := numZ_bd s
  unfold txtZ
  by_cases e : (numZ s).2.2 = 0
  · obtain ⟨a1, a2, a3, a4, a5⟩ := hn.2.2 e
    rw [if_neg (by omega)]
    by_cases l : 65535 < (numZ s).1
    · rw [if_pos l]; exact tx_l s hz e l
    · rw [if_neg l]
      have ew := w64 (a := (numZ s).1) (b := (numZ s).1) rfl (by omega)
      have ew2 := w64 (a := (s.size : Int) - (numZ s).2.1) (b := (s.size : Int) - (numZ s).2.1) rfl (by omega)
      by_cases q : (s.size : Int) - (numZ s).2.1 < (numZ s).1
      · rw [if_pos q]; exact tx_s s hz e l a1 (by omega) a5 q ew ew2
      · rw [if_neg q]; exact tx_k s hz e l a1 (by omega) a5 q ew ew2 (w64 rfl (by omega))
  · rw [if_pos e]; exact tx_e s hz e
def gText : List SV → Option (SV × List Prop)
  | [.nv (.one (.val (.string s)))] => some (.tup [.one (.val (.string (txtZ s).1)), .one (.val (.int .i64 (txtZ s).2.1)), .one (.val (.int .i64 (txtZ s).2.2))], [s.size ≤ 140737488355328])
  | _ => none
theorem spText : SpOk Try.prog 42 (pureS gText) := pureS_ok (by
  intro args r obl h ho
  unfold gText at h
  split at h
  · simp only [Option.some.injEq, Prod.mk.injEq] at h
    obtain ⟨rfl, rfl⟩ := h
    exact ⟨rfl, rfl, pureText _ ho.1⟩
  · cases h)
def GbE : List (FuncId × Sp) := (42, pureS gText) :: GbD
theorem GbE_ok : CtxOk Try.prog GbE := ctx_cons (enter_of Try.func42 (by kernel_rfl) (by kernel_rfl)) spText GbD_ok
end Go.Proofs.Ytecgigeahkijaaa

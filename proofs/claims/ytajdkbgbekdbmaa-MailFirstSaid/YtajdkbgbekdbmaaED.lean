/- A symbolic run of Go code: loops, round by round. No condition. -/
import Derived.Test.YtajdkbgbekdbmaaEC
namespace Go.Proofs.Ytajdkbgbekdbmaa
set_option linter.unusedVariables false
set_option linter.unusedSimpArgs false
namespace E
open Go.RowKit
/-- So many rounds of a loop, at most, end so. -/
def RoundsOk (P : Program) (m0 : Nat) (c : Code) (n : Nat) (pre : St) (ex : Ex) (post : St) : Prop :=
  ∀ (cx : Cx) (env : Env) (a : Act) (w : World), cx.m0 = m0 → Ok cx env pre a w →
    Code.rounds P c (fun e a' w' => e = ex.to ∧ ∃ env', Ok cx env' post a' w') n a w
def LoopOk (P : Program) (m0 : Nat) (c : Code) (pre : St) (ex : Ex) (post : St) : Prop := ∃ n, RoundsOk P m0 c n pre ex post
theorem LoopOk.last {P : Program} {m0 : Nat} {c : Code} {pre : St} {ex : Ex} {post : St} (hex : ex ≠ .normal) (h : CodeOk P m0 c pre ex post) : LoopOk P m0 c pre ex post := by
  refine ⟨1, fun cx env a w hm hk => ?_⟩
  rw [rounds_succ]
  refine wp_mono (h cx env a w hm hk) ?_
  rintro e' a' w' ⟨rfl, env', hk'⟩
  cases ex with
  | normal => exact absurd rfl hex
  | exit id => exact ⟨rfl, env', hk'⟩
  | ret => exact ⟨rfl, env', hk'⟩
theorem LoopOk.step {P : Program} {m0 : Nat} {c : Code} {pre mid : St} {ex : Ex} {post : St} (h : CodeOk P m0 c pre .normal mid) (k : LoopOk P m0 c mid ex post) : LoopOk P m0 c pre ex post := by
  obtain ⟨n, k⟩ := k
  refine ⟨n + 1, fun cx env a w hm hk => ?_⟩
  rw [rounds_succ]
  refine wp_mono (h cx env a w hm hk) ?_
  rintro e' a' w' ⟨rfl, env', hk'⟩
  exact k cx env' a' w' hm hk'
theorem LoopOk.code {P : Program} {m0 : Nat} {c : Code} {pre : St} {ex : Ex} {post : St} (h : LoopOk P m0 c pre ex post) : CodeOk P m0 (.loop c) pre ex post := by
  obtain ⟨n, h⟩ := h
  intro cx env a w hm hk
  refine wp_mono (wp_loop_rounds _ (h cx env a w hm hk)) ?_
  rintro e' a' w' ⟨rfl, env', hk'⟩
  exact ⟨rfl, env', hk'⟩
end E
end Go.Proofs.Ytajdkbgbekdbmaa

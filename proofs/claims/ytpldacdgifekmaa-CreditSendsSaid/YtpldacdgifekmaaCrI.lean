/- The loop of CreditPlays. No condition. -/
import Derived.Test.YtpldacdgifekmaaCrH
namespace Go.Proofs.Ytpldacdgifekmaa
set_option linter.unusedVariables false
set_option linter.unusedSimpArgs false
open Go.RowKit E

theorem plays_loop (i s h v : Int) (len : Nat) (t x : Nat → Int) (wt : Nat → Bool) (hl : len ≤ 200) (bt : ∀ k, k < len → 0 ≤ t k ∧ t k ≤ 18446744073709551615) (bx : ∀ k, k < len → 0 ≤ x k ∧ x k ≤ 18446744073709551615) :
    CodeOk Try.prog 1 (.loop (loopOf Try.f3 0)) (playsS len t x wt 0 i s h v) (.exit 0) playsE := by
  refine loop_ok (α := Nat × Int × Int × Int × Int) (fun p => playsS len t x wt p.1 p.2.1 p.2.2.1 p.2.2.2.1 p.2.2.2.2) (fun p => p.1 ≤ len) (fun p => len - p.1) (by simp) ?_ (x := (0, i, s, h, v)) (Nat.zero_le _)
  rintro ⟨k, i, s, h, v⟩ hk
  simp only at hk
  by_cases e : k = len
  · subst e
    exact .inr (plays_end i s h v k t x wt)
  · have hlt : k < len := by omega
    have h1 : k + 1 ≤ len := by omega
    have h2 : len - (k + 1) < len - k := by omega
    cases hb : okB (ifc i s h v i) (ifc i s h v s) (ifc i s h v h) (ifc i s h v (tickH i h v (t k) (wt k)))
    · have := plays_round_f i s h v len k t x wt hlt hl (bt k hlt) (bx k hlt) _ _ _ _ _ _ _ _ rfl rfl rfl rfl rfl rfl rfl rfl hb
      exact .inl ⟨(k + 1, _, _, _, _), h1, h2, this⟩
    · have := plays_round i s h v len k t x wt hlt hl (bt k hlt) (bx k hlt) _ _ _ _ _ _ _ _ rfl rfl rfl rfl rfl rfl rfl rfl hb
      exact .inl ⟨(k + 1, _, _, _, _), h1, h2, this⟩

def gLives : List SV → Option (SV × List Prop)
  | [] => some (bA true, [])
  | _ => none
theorem spLives : SpOk Try.prog 6 (pureS gLives) := pureS_ok (by
  intro args r obl h ho
  unfold gLives at h
  split at h
  · simp only [Option.some.injEq, Prod.mk.injEq] at h
    obtain ⟨rfl, rfl⟩ := h
    exact ⟨rfl, rfl, lives_ok⟩
  · cases h)
def G2 : List (FuncId × Sp) := (6, pureS gLives) :: G1
theorem G2_ok : CtxOk Try.prog G2 := ctx_cons (enter_of Try.func6 (by kernel_rfl) (by kernel_rfl)) spLives G1_ok
end Go.Proofs.Ytpldacdgifekmaa

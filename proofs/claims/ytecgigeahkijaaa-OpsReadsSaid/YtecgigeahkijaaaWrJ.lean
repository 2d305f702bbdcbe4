/- wire: check as a specification; bytes of numbers. No condition. -/
import Derived.Test.YtecgigeahkijaaaWrI
namespace Go.Proofs.Ytecgigeahkijaaa
set_option linter.unusedVariables false
set_option linter.unusedSimpArgs false
open Go.RowKit E

def gCheck : List SV → Option (SV × List Prop)
  | [.nv (.agg [.val (.int .i64 k), .val (.int .u64 n), .val (.string s)])] => some (iA (ckZ ⟨k, n, s⟩), [0 ≤ n, n ≤ 18446744073709551615])
  | _ => none
theorem spCheck : SpOk Try.prog 26 (pureS gCheck) := pureS_ok (by
  intro args r obl h ho
  unfold gCheck at h
  split at h
  · rename_i k n s
    simp only [Option.some.injEq, Prod.mk.injEq] at h
    obtain ⟨rfl, rfl⟩ := h
    obtain ⟨o1, o2, _⟩ := ho
    refine ⟨rfl, rfl, ?_⟩
    have hb := widthZ_bd k
    unfold ckZ
    simp only
    by_cases c1 : widthZ k = 0 ∧ k ≠ 5 ∧ k ≠ 6
    · rw [if_pos c1]; exact ck_1 k n s c1.1 c1.2.1 c1.2.2
    · rw [if_neg c1]
      by_cases k6 : k = 6
      · subst k6
        have w6 : widthZ 6 = 0 := rfl
        by_cases hn : n = 0
        · subst hn
          rw [if_neg (by omega), if_neg (by rw [w6]; omega)]
          by_cases hl : s.size > 65535
          · rw [if_pos hl]; exact ck_3 s hl
          · rw [if_neg hl]; exact ck_4 s (by omega)
        · rw [if_pos (.inl ⟨rfl, hn⟩)]; exact ck_2 n s hn
      · by_cases k5 : k = 5
        · subst k5
          have w5 : widthZ 5 = 0 := rfl
          by_cases hs : s.size = 0
          · rw [if_neg (by omega), if_neg (by rw [w5]; omega), if_neg (by omega)]; exact ck_6 n s hs
          · rw [if_pos (.inr ⟨k6, hs⟩)]; exact ck_5 n s hs
        · have hw : widthZ k ≠ 0 := fun e => c1 ⟨e, k5, k6⟩
          by_cases hs : s.size = 0
          · have hbl := bl_le (x := n.toNat) (8 * (widthZ k).toNat) (by omega)
            have e8 : IntKind.wrap IntKind.i64 (8 * widthZ k) = 8 * widthZ k := w64 rfl (by omega)
            rw [if_neg (by omega)]
            by_cases hg : (Go.Lib.bitLen n.toNat : Int) > 8 * widthZ k
            · rw [if_pos ⟨by omega, by omega⟩]; exact ck_8 k n s k6 (by omega) hb.2 hs o1 o2 e8 hg
            · rw [if_neg (by omega), if_neg (by omega)]; exact ck_9 k n s k6 (by omega) hb.2 hs o1 o2 e8 hg
          · rw [if_pos (.inr ⟨k6, hs⟩)]; exact ck_7 k n s k6 hw hs
  · cases h)
def Gb5 : List (FuncId × Sp) := (26, pureS gCheck) :: Gb4
theorem Gb5_ok : CtxOk Try.prog Gb5 := ctx_cons (enter_of Try.func26 (by kernel_rfl) (by kernel_rfl)) spCheck Gb4_ok
theorem varL_len : ∀ f n, (varL f n).length ≤ f + 1
  | 0, n => by unfold varL; simp
  | f + 1, n => by unfold varL; split <;> simp; exact varL_len f _
theorem varL_pos : ∀ f n, 1 ≤ (varL f n).length
  | 0, n => by unfold varL; simp
  | f + 1, n => by unfold varL; split <;> simp
theorem varL_go {f : Nat} {n : Int} (h : 128 ≤ n) : varL (f + 1) n = (n % 128 + 128) :: varL f (n / 128) := by rw [varL, if_pos h]
theorem varL_end {f : Nat} {n : Int} (h : ¬ 128 ≤ n) : varL f n = [n] := by cases f with
  | zero => rfl
  | succ f => rw [varL, if_neg h]
end Go.Proofs.Ytecgigeahkijaaa

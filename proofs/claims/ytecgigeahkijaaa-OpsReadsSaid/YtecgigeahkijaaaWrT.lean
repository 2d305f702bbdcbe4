/- wire: the document's bytes of numbers, and sizes of fields, as specifications. No condition. -/
import Derived.Test.YtecgigeahkijaaaWrS
namespace Go.Proofs.Ytecgigeahkijaaa
set_option linter.unusedVariables false
set_option linter.unusedSimpArgs false
open Go.RowKit E

theorem empty_eq : (⟨#[]⟩ : ByteArray) = strL [] := rfl
theorem spHighN : ∀ N, SpOk Try.prog 39 (pureS (gHighN N))
  | 0 => pureS_ok (by
    intro args r obl h ho
    unfold gHighN at h
    split at h
    · rename_i n w
      simp only [Option.some.injEq, Prod.mk.injEq] at h
      obtain ⟨rfl, rfl⟩ := h
      obtain ⟨o1, o2, o3, o4, _⟩ := ho
      have : w = 0 := by omega
      subst this
      exact ⟨rfl, rfl, hi_0 n⟩
    · cases h)
  | N + 1 => pureS_ok (by
    intro args r obl h ho
    unfold gHighN at h
    split at h
    · rename_i n w
      simp only [Option.some.injEq, Prod.mk.injEq] at h
      obtain ⟨rfl, rfl⟩ := h
      obtain ⟨o1, o2, o3, o4, o5, _⟩ := ho
      obtain ⟨w, rfl⟩ := Int.eq_ofNat_of_zero_le o3
      refine ⟨rfl, rfl, ?_⟩
      cases w with
      | zero => exact hi_0 n
      | succ w =>
        have hz : (strL (hiL w (n / 256))).size = w := by rw [strL_size, hiL_len]
        exact hi_s N w n (spHighN N) o1 o2 (by omega) (by omega) _ (w64 (by omega) (by omega)) (by rw [tdiv_e o1]; exact wU64 rfl (by omega)) (by rw [tmod_e o1]; exact wU8 rfl (by omega))
          (strL_app (inB_hi w _) (fun x hx => by simp at hx; subst hx; omega)).symm (by rw [hz]; omega)
    · cases h)
theorem spFewN : ∀ N, SpOk Try.prog 38 (pureS (gFewN N))
  | 0 => pureS_ok (by
    intro args r obl h ho
    unfold gFewN at h
    split at h
    · rename_i n
      simp only [Option.some.injEq, Prod.mk.injEq] at h
      obtain ⟨rfl, rfl⟩ := h
      obtain ⟨o1, o2, o3, _⟩ := ho
      exact ⟨rfl, rfl, fe_0 n o1 (by omega) _ rfl⟩
    · cases h)
  | N + 1 => pureS_ok (by
    intro args r obl h ho
    unfold gFewN at h
    split at h
    · rename_i n
      simp only [Option.some.injEq, Prod.mk.injEq] at h
      obtain ⟨rfl, rfl⟩ := h
      obtain ⟨o1, o2, o3, o4, _⟩ := ho
      refine ⟨rfl, rfl, ?_⟩
      by_cases q : 128 ≤ n
      · rw [Int.pow_succ] at o3
        have hz := varL_len N (n / 128)
        exact fe_s N n (by omega) (spFewN N) q o2 (by omega) (by rw [tdiv_e o1]; exact wU64 rfl (by omega)) (by rw [tmod_e o1, wU64 (a := 128 + n % 128) (b := n % 128 + 128) (by omega) (by omega)]; exact wU8 rfl (by omega)) (by rw [strL_size]; omega) _
            (by rw [varL_go q, ← strL_app (fun x hx => by simp at hx; subst hx; omega) (inB_var N _ (by omega) (by omega))]; rfl)
      · rw [varL_end q]; exact fe_0 n o1 (by omega) _ rfl
    · cases h)
def gSize : List SV → Option (SV × List Prop)
  | [.nv (.agg [.val (.int .i64 k), .val (.int .u64 n), .val (.string s)])] => some (iA ((putStr (fun _ => ⟨k, n, s⟩) 1).size : Nat), [0 ≤ n, n < 18446744073709551616])
  | _ => none
def gBytes : List SV → Option (SV × List Prop)
  | [.nv (.one (.val (.int .i64 k)))] => some (iA (widthZ k), [])
  | _ => none
theorem spBytes : SpOk Try.prog 31 (pureS gBytes) := pureS_ok (by
  intro args r obl h ho
  unfold gBytes at h
  split at h
  · rename_i k
    simp only [Option.some.injEq, Prod.mk.injEq] at h
    obtain ⟨rfl, rfl⟩ := h
    refine ⟨rfl, rfl, ?_⟩
    unfold widthZ
    split
    · rename_i e; subst e; exact by_1
    · split
      · rename_i e; subst e; exact by_2
      · split
        · rename_i e; subst e; exact by_3
        · split
          · rename_i e; subst e; exact by_4
          · by_cases q : k < 1
            · exact by_l k q
            · exact by_h k (by omega)
  · cases h)
def Gb9 : List (FuncId × Sp) := (31, pureS gBytes) :: (39, pureS (gHighN 8)) :: (38, pureS (gFewN 9)) :: Gb8
theorem Gb9_ok : CtxOk Try.prog Gb9 := ctx_cons (enter_of Try.func31 (by kernel_rfl) (by kernel_rfl)) spBytes <|
  ctx_cons (enter_of Try.func39 (by kernel_rfl) (by kernel_rfl)) (spHighN 8) <|
  ctx_cons (enter_of Try.func38 (by kernel_rfl) (by kernel_rfl)) (spFewN 9) Gb8_ok
end Go.Proofs.Ytecgigeahkijaaa

/- header: rings, numbers of two bytes, as specifications. No condition. -/
import Derived.Test.YteehpliloegkgaaHdB
namespace Go.Proofs.Yteehpliloegkgaa
set_option linter.unusedVariables false
set_option linter.unusedSimpArgs false
open Go.RowKit E
theorem byteAt_bd (s : ByteArray) (i : Int) : 0 ≤ byteAt s i ∧ byteAt s i < 256 := by
  unfold byteAt
  have := (s.data.toList.getD i.toNat 0).toNat_lt
  omega
theorem hv_le {m : Nat} {F G : Nat → Int} {x y a b : Int} (hx : x = a) (hy : y = b) (eG : ∀ j, j < m + 2 → catF m F [a, b] j = G j) (ρ : List (Nat × Bd)) (k : Nat) : ∀ j, j < m + 2 →
    AllT (leAts ρ k (if (2 : Nat) = 1 then (if j = m then [.val (.int .u8 x)] else gB F j) else if j < m then gB F j else litG 1 [.val (.int .u8 x), .val (.int .u8 y)] (j - m)) (gB G j)) := by
  intro j hj
  have e := eG j hj
  rw [if_neg (by decide)]
  unfold catF at e
  by_cases q : j < m
  · rw [if_pos q] at e ⊢; exact ⟨e, trivial⟩
  · rw [if_neg q] at e ⊢
    by_cases q2 : j = m
    · subst q2
      rw [Nat.sub_self] at e ⊢
      exact ⟨hx.trans e, trivial⟩
    · have q3 : j - m = 1 := by omega
      rw [q3] at e ⊢
      exact ⟨hy.trans e, trivial⟩
def kOf (g : Nat → List At) : Nat → Int := fun j => cellN (g j)
def w2 (x : Int) : List Int := [x / 256, x % 256]
def gRing : List SV → Option (SV × List Prop)
  | [.nv (.one (.val (.int .u32 a))), .nv (.one (.val (.int .u32 b)))] => some (.nv (.one (.val (.int .u32 (ringZ a b)))), [0 ≤ a, a ≤ 65535, 0 ≤ b, b ≤ 65535])
  | _ => none
theorem spRing : SpOk Try.prog 28 (pureS gRing) := pureS_ok (by
  intro args r obl h ho
  unfold gRing at h
  split at h
  · rename_i a b
    simp only [Option.some.injEq, Prod.mk.injEq] at h
    obtain ⟨rfl, rfl⟩ := h
    obtain ⟨o1, o2, o3, o4, _⟩ := ho
    refine ⟨rfl, rfl, rg_s a b _ ?_⟩
    rw [wU32 (a := a + b) (b := a + b) rfl (by omega), u32_and65535 _ (by omega) (by omega), show (2 : Int) ^ 16 = 65536 from rfl, Int.fdiv_eq_ediv_of_nonneg _ (by omega)]
    unfold ringZ
    split
    · exact wU32 (by omega) (by omega)
    · exact wU32 (by omega) (by omega)
  · cases h)
def gRingD : List SV → Option (SV × List Prop)
  | [.nv (.one (.val (.int .i64 a))), .nv (.one (.val (.int .i64 b)))] => some (iA (ringZ a b), [0 ≤ a, a ≤ 65535, 0 ≤ b, b ≤ 65535])
  | _ => none
theorem spRingD : SpOk Try.prog 30 (pureS gRingD) := pureS_ok (by
  intro args r obl h ho
  unfold gRingD at h
  split at h
  · rename_i a b
    simp only [Option.some.injEq, Prod.mk.injEq] at h
    obtain ⟨rfl, rfl⟩ := h
    obtain ⟨o1, o2, o3, o4, _⟩ := ho
    refine ⟨rfl, rfl, ?_⟩
    unfold ringZ
    have e : IntKind.wrap IntKind.i64 (a + b) = a + b := w64 rfl (by omega)
    split
    · rename_i q; exact rg_d1 a b ⟨o1, o2⟩ ⟨o3, o4⟩ q e
    · rename_i q; exact rg_d0 a b ⟨o1, o2⟩ ⟨o3, o4⟩ q e
  · cases h)
theorem hfZ_bd (s : ByteArray) (k : Int) : 0 ≤ hfZ s k ∧ hfZ s k ≤ 65535 := by
  have := byteAt_bd s k
  have := byteAt_bd s (k + 1)
  unfold hfZ; omega
def gHalf : List SV → Option (SV × List Prop)
  | [.nv (.one (.val (.string s))), .nv (.one (.val (.int .i64 k)))] => some (.nv (.one (.val (.int .u16 (hfZ s k)))), [0 ≤ k, k + 1 < s.size, s.size ≤ 140737488355328])
  | _ => none
theorem spHalf : SpOk Try.prog 23 (pureS gHalf) := pureS_ok (by
  intro args r obl h ho
  unfold gHalf at h
  split at h
  · rename_i s k
    simp only [Option.some.injEq, Prod.mk.injEq] at h
    obtain ⟨rfl, rfl⟩ := h
    obtain ⟨o1, o2, o3, _⟩ := ho
    obtain ⟨k, rfl⟩ := Int.eq_ofNat_of_zero_le o1
    have b1 := byteAt_bd s k
    have b2 := byteAt_bd s (k + 1)
    refine ⟨rfl, rfl, hf_f s k _ (by omega) o3 ?_ (w64 rfl (by omega))⟩
    rw [wU16 (a := byteAt s k) (b := byteAt s k) rfl (by omega), show (2 : Int) ^ 8 = 256 from rfl, wU16 (a := byteAt s k * 256) (b := byteAt s k * 256) rfl (by omega), wU16 (a := byteAt s ((k : Int) + 1)) (b := byteAt s ((k : Int) + 1)) rfl (by omega)]
    exact wU16 rfl (show 0 ≤ byteAt s k * 256 + byteAt s ((k : Int) + 1) ∧ byteAt s k * 256 + byteAt s ((k : Int) + 1) ≤ 65535 by omega)
  · cases h)
def GhA : List (FuncId × Sp) := (28, pureS gRing) :: (30, pureS gRingD) :: (23, pureS gHalf) :: GbB
theorem GhA_ok : CtxOk Try.prog GhA := ctx_cons (enter_of Try.func28 (by kernel_rfl) (by kernel_rfl)) spRing <|
  ctx_cons (enter_of Try.func30 (by kernel_rfl) (by kernel_rfl)) spRingD <|
  ctx_cons (enter_of Try.func23 (by kernel_rfl) (by kernel_rfl)) spHalf GbB_ok
end Go.Proofs.Yteehpliloegkgaa

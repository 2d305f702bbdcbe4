/- Colours of meters, for the symbolic run. No condition. -/
import Derived.Test.YtlmeemilikladaaMhH
namespace Go.Proofs.Ytlmeemilikladaa
set_option linter.unusedVariables false
set_option linter.unusedSimpArgs false
open Go.RowKit E

def col1 (r n f a b x came : Int) : Int := if ckOne r n f a b = 0 then colOne a b x came else 3
def col2 (s q n f a b x came : Int) : Int := if ckTwo s q n f a b = 0 then colTwo a b x came else 3
def gCol1 : List SV → Option (SV × List Prop)
  | [.nv (.agg [.val (.int .u64 r), .val (.int .u64 n), .val (.int .u64 f), .val (.int .u64 a), .val (.int .u64 b)]), .nv (.one (.val (.int .u64 x))), .nv (.one (.val (.int .i64 came)))] =>
    some (.tup [oneN (ifm (ckOne r n f a b) r) (ifm (ckOne r n f a b) n) (ifm (ckOne r n f a b) f) (ifm (ckOne r n f a b) (tokA1 a b x came)) (ifm (ckOne r n f a b) (tokB1 a b x came)), .one (.val (.int .i64 (col1 r n f a b x came)))],
      [0 ≤ r, r ≤ 18446744073709551615, 0 ≤ n, n ≤ 18446744073709551615, 0 ≤ f, f ≤ 18446744073709551615, 0 ≤ a, a ≤ 18446744073709551615, 0 ≤ b, b ≤ 18446744073709551615, 0 ≤ x, x ≤ 18446744073709551615])
  | _ => none
def gCol2 : List SV → Option (SV × List Prop)
  | [.nv (.agg [.val (.int .u64 s), .val (.int .u64 q), .val (.int .u64 n), .val (.int .u64 f), .val (.int .u64 a), .val (.int .u64 b)]), .nv (.one (.val (.int .u64 x))), .nv (.one (.val (.int .i64 came)))] =>
    some (.tup [twoN (ifm (ckTwo s q n f a b) s) (ifm (ckTwo s q n f a b) q) (ifm (ckTwo s q n f a b) n) (ifm (ckTwo s q n f a b) f) (ifm (ckTwo s q n f a b) (tokA2 a b x came)) (ifm (ckTwo s q n f a b) (tokB2 a b x came)), .one (.val (.int .i64 (col2 s q n f a b x came)))],
      [0 ≤ s, s ≤ 18446744073709551615, 0 ≤ q, q ≤ 18446744073709551615, 0 ≤ n, n ≤ 18446744073709551615, 0 ≤ f, f ≤ 18446744073709551615, 0 ≤ a, a ≤ 18446744073709551615, 0 ≤ b, b ≤ 18446744073709551615, 0 ≤ x, x ≤ 18446744073709551615])
  | _ => none
theorem c1_pure (r n f a b x came : Int) (hr : 0 ≤ r ∧ r ≤ 18446744073709551615) (hn : 0 ≤ n ∧ n ≤ 18446744073709551615) (hf : 0 ≤ f ∧ f ≤ 18446744073709551615) (ha : 0 ≤ a ∧ a ≤ 18446744073709551615) (hb : 0 ≤ b ∧ b ≤ 18446744073709551615) (hx : 0 ≤ x ∧ x ≤ 18446744073709551615) : PureOk Try.prog 7 [.nv (oneN r n f a b), uA x, iA came] (.tup [oneN (ifm (ckOne r n f a b) r) (ifm (ckOne r n f a b) n) (ifm (ckOne r n f a b) f) (ifm (ckOne r n f a b) (tokA1 a b x came)) (ifm (ckOne r n f a b) (tokB1 a b x came)), .one (.val (.int .i64 (col1 r n f a b x came)))]) := by
  by_cases hk : ckOne r n f a b = 0
  · simp only [hk, ifm, col1, if_true]
    by_cases m3 : came = 3
    · have e : colOne a b x came = 3 := by unfold colOne; (repeat' split) <;> omega
      simp only [tokA1, tokB1, e]; exact c1_r1 r n f a b x came hr hn hf ha hb hx hk m3
    · by_cases m2 : came = 2
      · by_cases h : x ≤ b
        · have e : colOne a b x came = 2 := by unfold colOne; (repeat' split) <;> omega
          simp only [tokA1, tokB1, e]; exact c1_y1 r n f a b x came hr hn hf ha hb hx hk m2 h
        · have e : colOne a b x came = 3 := by unfold colOne; (repeat' split) <;> omega
          simp only [tokA1, tokB1, e]; exact c1_r2 r n f a b x came hr hn hf ha hb hx hk m2 (by omega)
      · by_cases h3 : x ≤ a
        · have e : colOne a b x came = 1 := by unfold colOne; (repeat' split) <;> omega
          simp only [tokA1, tokB1, e]; exact c1_g r n f a b x came hr hn hf ha hb hx hk m2 m3 h3
        · by_cases h : x ≤ b
          · have e : colOne a b x came = 2 := by unfold colOne; (repeat' split) <;> omega
            simp only [tokA1, tokB1, e]; exact c1_y2 r n f a b x came hr hn hf ha hb hx hk m2 m3 (by omega) h
          · have e : colOne a b x came = 3 := by unfold colOne; (repeat' split) <;> omega
            simp only [tokA1, tokB1, e]; exact c1_r3 r n f a b x came hr hn hf ha hb hx hk m2 m3 (by omega) (by omega)
  · simp only [ifm, col1, if_neg hk]
    exact c1_bad r n f a b x came hr hn hf ha hb hx hk
theorem c2_pure (s q n f a b x came : Int) (hs : 0 ≤ s ∧ s ≤ 18446744073709551615) (hq : 0 ≤ q ∧ q ≤ 18446744073709551615) (hn : 0 ≤ n ∧ n ≤ 18446744073709551615) (hf : 0 ≤ f ∧ f ≤ 18446744073709551615) (ha : 0 ≤ a ∧ a ≤ 18446744073709551615) (hb : 0 ≤ b ∧ b ≤ 18446744073709551615) (hx : 0 ≤ x ∧ x ≤ 18446744073709551615) : PureOk Try.prog 8 [.nv (twoN s q n f a b), uA x, iA came] (.tup [twoN (ifm (ckTwo s q n f a b) s) (ifm (ckTwo s q n f a b) q) (ifm (ckTwo s q n f a b) n) (ifm (ckTwo s q n f a b) f) (ifm (ckTwo s q n f a b) (tokA2 a b x came)) (ifm (ckTwo s q n f a b) (tokB2 a b x came)), .one (.val (.int .i64 (col2 s q n f a b x came)))]) := by
  by_cases hk : ckTwo s q n f a b = 0
  · simp only [hk, ifm, col2, if_true]
    by_cases m3 : came = 3
    · have e : colTwo a b x came = 3 := by unfold colTwo; (repeat' split) <;> omega
      simp only [tokA2, tokB2, e]; exact c2_r1 s q n f a b x came hs hq hn hf ha hb hx hk m3
    · by_cases h : x ≤ b
      · by_cases m2 : came = 2
        · have e : colTwo a b x came = 2 := by unfold colTwo; (repeat' split) <;> omega
          simp only [tokA2, tokB2, e]; exact c2_y1 s q n f a b x came hs hq hn hf ha hb hx hk m2 h
        · by_cases h3 : x ≤ a
          · have e : colTwo a b x came = 1 := by unfold colTwo; (repeat' split) <;> omega
            simp only [tokA2, tokB2, e]; exact c2_g s q n f a b x came hs hq hn hf ha hb hx hk m2 m3 h h3
          · have e : colTwo a b x came = 2 := by unfold colTwo; (repeat' split) <;> omega
            simp only [tokA2, tokB2, e]; exact c2_y2 s q n f a b x came hs hq hn hf ha hb hx hk m2 m3 h (by omega)
      · have e : colTwo a b x came = 3 := by unfold colTwo; (repeat' split) <;> omega
        simp only [tokA2, tokB2, e]; exact c2_r2 s q n f a b x came hs hq hn hf ha hb hx hk m3 (by omega)
  · simp only [ifm, col2, if_neg hk]
    exact c2_bad s q n f a b x came hs hq hn hf ha hb hx hk
theorem spCol1 : SpOk Try.prog 7 (pureS gCol1) := pureS_ok (by
  intro args r obl h ho
  unfold gCol1 at h
  split at h
  · simp only [Option.some.injEq, Prod.mk.injEq] at h
    obtain ⟨rfl, rfl⟩ := h
    simp only [AllT, and_true] at ho
    obtain ⟨h1, h2, h3, h4, h5, h6, h7, h8, h9, h10, h11⟩ := ho
    exact ⟨rfl, rfl, c1_pure _ _ _ _ _ _ _ ⟨h1, h2⟩ ⟨h3, h4⟩ ⟨h5, h6⟩ ⟨h7, h8⟩ ⟨h9, h10⟩ h11⟩
  · cases h)
theorem spCol2 : SpOk Try.prog 8 (pureS gCol2) := pureS_ok (by
  intro args r obl h ho
  unfold gCol2 at h
  split at h
  · simp only [Option.some.injEq, Prod.mk.injEq] at h
    obtain ⟨rfl, rfl⟩ := h
    simp only [AllT, and_true] at ho
    obtain ⟨h1, h2, h3, h4, h5, h6, h7, h8, h9, h10, h11, h12, h13⟩ := ho
    exact ⟨rfl, rfl, c2_pure _ _ _ _ _ _ _ _ ⟨h1, h2⟩ ⟨h3, h4⟩ ⟨h5, h6⟩ ⟨h7, h8⟩ ⟨h9, h10⟩ ⟨h11, h12⟩ h13⟩
  · cases h)
theorem rc1_pure (r n f a b x came : Int) (hr : 0 ≤ r ∧ r ≤ 18446744073709551615) (hn : 0 ≤ n ∧ n ≤ 18446744073709551615) (hf : 0 ≤ f ∧ f ≤ 18446744073709551615) (ha : 0 ≤ a ∧ a ≤ 18446744073709551615) (hb : 0 ≤ b ∧ b ≤ 18446744073709551615) (hx : 0 ≤ x ∧ x ≤ 18446744073709551615) : PureOk Try.prog 18 [.nv (oneN r n f a b), uA x, iA came] (.tup [oneN (ifm (ckOne r n f a b) r) (ifm (ckOne r n f a b) n) (ifm (ckOne r n f a b) f) (ifm (ckOne r n f a b) (tokA1 a b x came)) (ifm (ckOne r n f a b) (tokB1 a b x came)), .one (.val (.int .i64 (col1 r n f a b x came)))]) := by
  by_cases hk : ckOne r n f a b = 0
  · simp only [hk, ifm, col1, if_true]
    by_cases m3 : came = 3
    · have e : colOne a b x came = 3 := by unfold colOne; (repeat' split) <;> omega
      simp only [tokA1, tokB1, e]; exact rc1_r1 r n f a b x came hr hn hf ha hb hx hk m3
    · by_cases m2 : came = 2
      · by_cases h : x ≤ b
        · have e : colOne a b x came = 2 := by unfold colOne; (repeat' split) <;> omega
          simp only [tokA1, tokB1, e]; exact rc1_y1 r n f a b x came hr hn hf ha hb hx hk m2 h
        · have e : colOne a b x came = 3 := by unfold colOne; (repeat' split) <;> omega
          simp only [tokA1, tokB1, e]; exact rc1_r2 r n f a b x came hr hn hf ha hb hx hk m2 (by omega)
      · by_cases h3 : x ≤ a
        · have e : colOne a b x came = 1 := by unfold colOne; (repeat' split) <;> omega
          simp only [tokA1, tokB1, e]; exact rc1_g r n f a b x came hr hn hf ha hb hx hk m2 m3 h3
        · by_cases h : x ≤ b
          · have e : colOne a b x came = 2 := by unfold colOne; (repeat' split) <;> omega
            simp only [tokA1, tokB1, e]; exact rc1_y2 r n f a b x came hr hn hf ha hb hx hk m2 m3 (by omega) h
          · have e : colOne a b x came = 3 := by unfold colOne; (repeat' split) <;> omega
            simp only [tokA1, tokB1, e]; exact rc1_r3 r n f a b x came hr hn hf ha hb hx hk m2 m3 (by omega) (by omega)
  · simp only [ifm, col1, if_neg hk]
    exact rc1_bad r n f a b x came hr hn hf ha hb hx hk
theorem rc2_pure (s q n f a b x came : Int) (hs : 0 ≤ s ∧ s ≤ 18446744073709551615) (hq : 0 ≤ q ∧ q ≤ 18446744073709551615) (hn : 0 ≤ n ∧ n ≤ 18446744073709551615) (hf : 0 ≤ f ∧ f ≤ 18446744073709551615) (ha : 0 ≤ a ∧ a ≤ 18446744073709551615) (hb : 0 ≤ b ∧ b ≤ 18446744073709551615) (hx : 0 ≤ x ∧ x ≤ 18446744073709551615) : PureOk Try.prog 19 [.nv (twoN s q n f a b), uA x, iA came] (.tup [twoN (ifm (ckTwo s q n f a b) s) (ifm (ckTwo s q n f a b) q) (ifm (ckTwo s q n f a b) n) (ifm (ckTwo s q n f a b) f) (ifm (ckTwo s q n f a b) (tokA2 a b x came)) (ifm (ckTwo s q n f a b) (tokB2 a b x came)), .one (.val (.int .i64 (col2 s q n f a b x came)))]) := by
  by_cases hk : ckTwo s q n f a b = 0
  · simp only [hk, ifm, col2, if_true]
    by_cases m3 : came = 3
    · have e : colTwo a b x came = 3 := by unfold colTwo; (repeat' split) <;> omega
      simp only [tokA2, tokB2, e]; exact rc2_r1 s q n f a b x came hs hq hn hf ha hb hx hk m3
    · by_cases h : x ≤ b
      · by_cases m2 : came = 2
        · have e : colTwo a b x came = 2 := by unfold colTwo; (repeat' split) <;> omega
          simp only [tokA2, tokB2, e]; exact rc2_y1 s q n f a b x came hs hq hn hf ha hb hx hk m2 h
        · by_cases h3 : x ≤ a
          · have e : colTwo a b x came = 1 := by unfold colTwo; (repeat' split) <;> omega
            simp only [tokA2, tokB2, e]; exact rc2_g s q n f a b x came hs hq hn hf ha hb hx hk m2 m3 h h3
          · have e : colTwo a b x came = 2 := by unfold colTwo; (repeat' split) <;> omega
            simp only [tokA2, tokB2, e]; exact rc2_y2 s q n f a b x came hs hq hn hf ha hb hx hk m2 m3 h (by omega)
      · have e : colTwo a b x came = 3 := by unfold colTwo; (repeat' split) <;> omega
        simp only [tokA2, tokB2, e]; exact rc2_r2 s q n f a b x came hs hq hn hf ha hb hx hk m3 (by omega)
  · simp only [ifm, col2, if_neg hk]
    exact rc2_bad s q n f a b x came hs hq hn hf ha hb hx hk
theorem spRCol1 : SpOk Try.prog 18 (pureS gCol1) := pureS_ok (by
  intro args r obl h ho
  unfold gCol1 at h
  split at h
  · simp only [Option.some.injEq, Prod.mk.injEq] at h
    obtain ⟨rfl, rfl⟩ := h
    simp only [AllT, and_true] at ho
    obtain ⟨h1, h2, h3, h4, h5, h6, h7, h8, h9, h10, h11⟩ := ho
    exact ⟨rfl, rfl, rc1_pure _ _ _ _ _ _ _ ⟨h1, h2⟩ ⟨h3, h4⟩ ⟨h5, h6⟩ ⟨h7, h8⟩ ⟨h9, h10⟩ h11⟩
  · cases h)
theorem spRCol2 : SpOk Try.prog 19 (pureS gCol2) := pureS_ok (by
  intro args r obl h ho
  unfold gCol2 at h
  split at h
  · simp only [Option.some.injEq, Prod.mk.injEq] at h
    obtain ⟨rfl, rfl⟩ := h
    simp only [AllT, and_true] at ho
    obtain ⟨h1, h2, h3, h4, h5, h6, h7, h8, h9, h10, h11, h12, h13⟩ := ho
    exact ⟨rfl, rfl, rc2_pure _ _ _ _ _ _ _ _ ⟨h1, h2⟩ ⟨h3, h4⟩ ⟨h5, h6⟩ ⟨h7, h8⟩ ⟨h9, h10⟩ ⟨h11, h12⟩ h13⟩
  · cases h)
def Gc : List (FuncId × Sp) := (7, pureS gCol1) :: (8, pureS gCol2) :: (18, pureS gCol1) :: (19, pureS gCol2) :: (16, pureS gTick1) :: (17, pureS gTick2) :: (9, pureS gCk1) :: (10, pureS gCk2) :: Gt
theorem Gc_ok : CtxOk Try.prog Gc := ctx_cons (enter_of Try.func7 (by kernel_rfl) (by kernel_rfl)) spCol1 <| ctx_cons (enter_of Try.func8 (by kernel_rfl) (by kernel_rfl)) spCol2 <| ctx_cons (enter_of Try.func18 (by kernel_rfl) (by kernel_rfl)) spRCol1 <| ctx_cons (enter_of Try.func19 (by kernel_rfl) (by kernel_rfl)) spRCol2 <| ctx_cons (enter_of Try.func16 (by kernel_rfl) (by kernel_rfl)) spRTick1 <| ctx_cons (enter_of Try.func17 (by kernel_rfl) (by kernel_rfl)) spRTick2 <| ctx_cons (enter_of Try.func9 (by kernel_rfl) (by kernel_rfl)) spRMay1 <| ctx_cons (enter_of Try.func10 (by kernel_rfl) (by kernel_rfl)) spRMay2 Gt_ok
end Go.Proofs.Ytlmeemilikladaa

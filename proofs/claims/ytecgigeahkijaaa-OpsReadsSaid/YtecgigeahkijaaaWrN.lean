/- wire: put as a specification. No condition. -/
import Derived.Test.YtecgigeahkijaaaWrM
namespace Go.Proofs.Ytecgigeahkijaaa
set_option linter.unusedVariables false
set_option linter.unusedSimpArgs false
open Go.RowKit E

theorem hiL_len : ∀ w n, (hiL w n).length = w
  | 0, n => rfl
  | w + 1, n => by unfold hiL; simp [hiL_len w]
theorem putL_len {f : Fl} (hs : f.s.size ≤ 65535) : (putL f).length ≤ 65545 := by
  unfold putL
  have := varL_len 9 f.n
  have := varL_len 9 f.s.size
  have := widthZ_bd f.k
  split
  · omega
  · split
    · simp [ints_len]; omega
    · rw [hiL_len]; omega
theorem wrap8 (x : Int) : IntKind.u8.wrap x = x % 256 := by
  simp [IntKind.wrap, IntKind.signed, IntKind.bits]
theorem pow_2_8 (i : Nat) : ((2 : Int) ^ (8 * i)) = 256 ^ i := by rw [Int.pow_mul]; rfl
theorem fnPut (n : Nat) (F : Nat → Int) (k v : Int) (s : ByteArray) (h0 : 0 ≤ v) (h1 : v ≤ 18446744073709551615) (hs : s.size ≤ 65535) (hw : widthZ k ≠ 0 ∨ k = 5 ∨ k = 6) (hn : n + 65546 ≤ 140737488355328) :
    FnOk Try.prog 27 [.nv (.one (.ptr 0 0)), .nv (.agg [.val (.int .i64 k), .val (.int .u64 v), .val (.string s)])] (bldM n F) .any (bldP (n + (putL ⟨k, v, s⟩).length) (catF n F (putL ⟨k, v, s⟩))) := by
  by_cases k5 : k = 5
  · subst k5; exact pt_5 n F v s h0 h1 (by omega)
  by_cases k6 : k = 6
  · subst k6
    have hv := varL_len 9 s.size
    have e : putL ⟨6, v, s⟩ = varL 9 s.size ++ ints s := rfl
    rw [e]
    exact pt_6 n _ F _ v s hs hv hn (wU64 rfl (by omega)) (by simp [ints_len]; omega) (fun i hi => catF_cat n F _ _ i)
  have e : putL ⟨k, v, s⟩ = hiL (widthZ k).toNat v := by unfold putL; rw [if_neg k5, if_neg k6]
  rw [e, hiL_len]
  have hb := widthZ_bd k
  obtain ⟨W, hW⟩ := Int.eq_ofNat_of_zero_le hb.1
  rw [hW]
  refine pt_w n (n + W) F (catF n F []) _ k v ((W : Int) - 1) s k5 k6 (fun i hi => (if_pos hi).symm) (by rw [hW]; exact w64 rfl (by omega)) ?_
  have := loop_ok (P := Try.prog) (m0 := 2) (c := loopOf Try.f27 0) (ex := .exit 1) (post := (mkSt 41 [(0, .nv (.one (.ptr 0 0))), (3, .nv (.one (.ptr 2 0))), (4, iA (-1))] [.box 52 [.optr 0, .own 3], .gone, .box 47 [.val (.int .i64 k), .val (.int .u64 v), .val (.string s)], .row 5 1 (n + W) (gB (catF n F (hiL W v)))]))
    (α := Nat) (fun j => (mkSt 41 [(0, .nv (.one (.ptr 0 0))), (3, .nv (.one (.ptr 2 0))), (4, iA ((W : Int) - 1 - (j : Int)))] [.box 52 [.optr 0, .own 3], .gone, .box 47 [.val (.int .i64 k), .val (.int .u64 v), .val (.string s)], .row 5 1 (n + j) (gB (catF n F (hiL j (v / 256 ^ (W - j)))))])) (fun j => j ≤ W) (fun j => W - j) (by simp) ?_ (x := 0) (Nat.zero_le _)
  · simp only [Nat.sub_zero, Int.natCast_zero, Int.sub_zero] at this
    exact this
  · intro j hj
    by_cases ej : j = W
    · subst ej
      rw [show ((j : Int) - 1 - j) = -1 by omega]
      have := pt_e (n + j) (catF n F (hiL j (v / 256 ^ (j - j)))) k v s
      rw [Nat.sub_self, Int.pow_zero, Int.ediv_one] at this ⊢
      exact .inr this
    · refine .inl ⟨j + 1, (show j + 1 ≤ W by omega), (show W - (j + 1) < W - j by omega), ?_⟩
      obtain ⟨i, hi⟩ : ∃ i : Nat, W = i + j + 1 := ⟨W - j - 1, by omega⟩
      have ei : IntKind.wrap IntKind.i64 (8 * (i : Int)) = 8 * i := w64 rfl (by omega)
      have hp : (0 : Int) < 256 ^ i := Int.pow_pos (by omega)
      have hq : 0 ≤ v / 256 ^ i := Int.ediv_nonneg h0 (by omega)
      have := pt_n (n + j) (n + (j + 1)) i (catF n F (hiL j (v / 256 ^ (i + 1)))) (catF n F (hiL (j + 1) (v / 256 ^ i))) k v (v / 256 ^ i % 256) s (by omega) (by omega) (by
        rw [ei]
        rw [show Nat.min (8 * (i : Int)).toNat 64 = 8 * i by rw [show (8 * (i : Int)).toNat = 8 * i by omega]; exact Nat.min_eq_left (by omega)]
        rw [Int.fdiv_eq_ediv_of_nonneg _ (by exact Int.le_of_lt (Int.pow_pos (by omega))), pow_2_8]
        exact wrap8 _) ei rfl (fun x hx => by
        rw [show hiL (j + 1) (v / 256 ^ i) = hiL j (v / 256 ^ i / 256) ++ [v / 256 ^ i % 256] from rfl, ← catF_cat, hiL_len, Int.ediv_ediv_of_nonneg (by omega), ← Int.pow_succ])
      rw [show W - j = i + 1 by omega, show W - (j + 1) = i by omega, show ((W : Int) - 1 - j) = i by omega, show ((W : Int) - 1 - ((j + 1 : Nat) : Int)) = (i : Int) - 1 by omega]
      exact this
def gPut1 : List SV → List Seg → Option (CS × List Prop)
  | [.nv (.one (.ptr h 0)), .nv (.agg [.val (.int .i64 k), .val (.int .u64 v), .val (.string s)])], mem => match bldAt mem h with
    | some (n, F) => some (⟨[.nv (.one (.ptr 0 0)), .nv (.agg [.val (.int .i64 k), .val (.int .u64 v), .val (.string s)])], bldM n F, .any, bldP (n + (putL ⟨k, v, s⟩).length) (catF n F (putL ⟨k, v, s⟩))⟩, [0 ≤ v, v ≤ 18446744073709551615, s.size ≤ 65535, widthZ k ≠ 0 ∨ k = 5 ∨ k = 6, n + 65546 ≤ 140737488355328])
    | none => none
  | _, _ => none
theorem spPut1 : SpOk Try.prog 27 (.lift gPut1) := by
  intro args mem cs obl h ho
  unfold gPut1 at h
  split at h
  · split at h
    · simp only [Option.some.injEq, Prod.mk.injEq] at h
      obtain ⟨rfl, rfl⟩ := h
      obtain ⟨o1, o2, o3, o4, o5, _⟩ := ho
      exact fnPut _ _ _ _ _ o1 o2 o3 o4 o5
    · cases h
  · cases h
def Gb7 : List (FuncId × Sp) := (27, .lift gPut1) :: Gb6
theorem Gb7_ok : CtxOk Try.prog Gb7 := ctx_cons (enter_of Try.func27 (by kernel_rfl) (by kernel_rfl)) spPut1 Gb6_ok
end Go.Proofs.Ytecgigeahkijaaa

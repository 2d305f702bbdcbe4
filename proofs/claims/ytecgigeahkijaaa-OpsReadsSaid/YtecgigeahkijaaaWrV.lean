/- wire: the document's bytes of a field, as a specification. No condition. -/
import Derived.Test.YtecgigeahkijaaaWrU
namespace Go.Proofs.Ytecgigeahkijaaa
set_option linter.unusedVariables false
set_option linter.unusedSimpArgs false
open Go.RowKit E

/-- The document's bytes of a field. -/
def oneStr (f : Fl) : ByteArray := if ckZ f = 0 then strL (putL f) else .empty
theorem on_loop (k n w : Int) (s : ByteArray) (h0 : 0 ≤ n) (h1 : n ≤ 18446744073709551615) (hw : 0 ≤ w) (hw8 : w ≤ 8) :
    CodeOk Try.prog 0 (.loop (loopOf Try.f29 0)) (mkSt 78 [(1, .nv (.one (.ptr 0 0))), (4, iA w), (5, uA n), (6, iA (0 : Nat))] [.box 47 [.val (.int .i64 k), .val (.int .u64 n), .val (.string s)]]) (.exit 0) (mkSt 78 [(1, .nv (.one (.ptr 0 0))), (4, iA w), (5, uA (n / 256 ^ w.toNat))] [.box 47 [.val (.int .i64 k), .val (.int .u64 n), .val (.string s)]]) := by
  have := loop_ok (P := Try.prog) (m0 := 0) (c := loopOf Try.f29 0) (ex := .exit 0) (post := (mkSt 78 [(1, .nv (.one (.ptr 0 0))), (4, iA w), (5, uA (n / 256 ^ w.toNat))] [.box 47 [.val (.int .i64 k), .val (.int .u64 n), .val (.string s)]]))
    (α := Nat) (fun i => (mkSt 78 [(1, .nv (.one (.ptr 0 0))), (4, iA w), (5, uA (n / 256 ^ i)), (6, iA i)] [.box 47 [.val (.int .i64 k), .val (.int .u64 n), .val (.string s)]])) (fun i => i ≤ w.toNat) (fun i => w.toNat - i) (by simp) ?_ (x := 0) (Nat.zero_le _)
  · rw [Int.pow_zero, Int.ediv_one] at this; exact this
  · intro i hi
    have hp : (0 : Int) < 256 ^ i := Int.pow_pos (by omega)
    have hq : 0 ≤ n / 256 ^ i := Int.ediv_nonneg h0 (by omega)
    have hq2 : n / 256 ^ i ≤ n := Int.ediv_le_self _ h0
    by_cases e : i = w.toNat
    · subst e
      have := on_e k n (n / 256 ^ w.toNat) w s
      rw [show ((w.toNat : Nat) : Int) = w by omega]
      exact .inr this
    · refine .inl ⟨i + 1, (show i + 1 ≤ w.toNat by omega), (show w.toNat - (i + 1) < w.toNat - i by omega), ?_⟩
      have := on_n k n (n / 256 ^ i) w s i (by omega) hw8 hq (by omega) (by rw [tdiv_e hq]; exact wU64 rfl (by omega))
      rw [Int.ediv_ediv_of_nonneg (by omega), ← Int.pow_succ] at this
      exact this
theorem pureOne (k n : Int) (s : ByteArray) (h0 : 0 ≤ n) (h1 : n ≤ 18446744073709551615) :
    PureOk Try.prog 29 [.nv (.agg [.val (.int .i64 k), .val (.int .u64 n), .val (.string s)])] (.tup [.one (.val (.string (oneStr ⟨k, n, s⟩))), .one (.val (.int .i64 (ckZ ⟨k, n, s⟩)))]) := by
  have hwk : ∀ k : Int, widthZ k = 0 ↔ k < 1 ∨ 4 < k := fun k => by unfold widthZ; (repeat' split) <;> omega
  have hb := widthZ_bd k
  have fin : ∀ (c : Int) (r : ByteArray), ckZ ⟨k, n, s⟩ = c → r = (if c = 0 then strL (putL ⟨k, n, s⟩) else .empty) → PureOk Try.prog 29 [.nv (.agg [.val (.int .i64 k), .val (.int .u64 n), .val (.string s)])] (.tup [.one (.val (.string r)), .one (.val (.int .i64 c))]) → PureOk Try.prog 29 [.nv (.agg [.val (.int .i64 k), .val (.int .u64 n), .val (.string s)])] (.tup [.one (.val (.string (oneStr ⟨k, n, s⟩))), .one (.val (.int .i64 (ckZ ⟨k, n, s⟩)))]) := by
    intro c r e1 e2 h
    unfold oneStr
    rw [e1, ← e2]; exact h
  by_cases c1 : k < 1
  · exact fin 6 _ (by unfold ckZ; simp only; rw [if_pos ⟨(hwk k).2 (.inl c1), by omega, by omega⟩]) rfl (on_1 k n s c1)
  by_cases c2 : 6 < k
  · exact fin 6 _ (by unfold ckZ; simp only; rw [if_pos ⟨(hwk k).2 (.inr (by omega)), by omega, by omega⟩]) rfl (on_2 k n s c2)
  have c3 : ¬ (widthZ k = 0 ∧ k ≠ 5 ∧ k ≠ 6) := by rw [hwk]; omega
  by_cases k6 : k = 6
  · subst k6
    have w6 : widthZ 6 = 0 := rfl
    by_cases hn : n = 0
    · subst hn
      by_cases hl : s.size > 65535
      · exact fin 4 _ (by unfold ckZ; simp only; rw [if_neg c3, if_neg (by omega), if_neg (by rw [w6]; omega), if_pos hl]) rfl (on_5 s hl)
      · have hv := varL_len 9 (s.size : Int)
        have e : strL (putL ⟨6, 0, s⟩) = strL (varL 9 s.size) ++ s := by
          show strL (varL 9 s.size ++ ints s) = _
          rw [strL_app (inB_var 9 _ (by omega) (by omega)) (inB_ints s), strL_str]
        exact fin 0 _ (by unfold ckZ; simp only; rw [if_neg c3, if_neg (by omega), if_neg (by rw [w6]; omega), if_neg hl]) (by rw [if_pos rfl, e]) (on_6 s (by omega) (wU64 rfl (by omega)) (by rw [strL_size]; omega))
    · exact fin 6 _ (by unfold ckZ; simp only; rw [if_neg c3, if_pos (.inl ⟨by trivial, hn⟩)]) rfl (on_3 n s hn)
  · by_cases hs : s.size = 0
    · by_cases k5 : k = 5
      · subst k5
        have w5 : widthZ 5 = 0 := rfl
        exact fin 0 _ (by unfold ckZ; simp only; rw [if_neg c3, if_neg (by omega), if_neg (by rw [w5]; omega), if_neg (by omega)]) rfl (on_7 n s hs h0 h1)
      · have hw0 : 0 < widthZ k := by have := hwk k; omega
        have hp : (0 : Int) < 256 ^ (widthZ k).toNat := Int.pow_pos (by omega)
        have h2 : (((2 ^ (8 * (widthZ k).toNat) : Nat)) : Int) = 256 ^ (widthZ k).toNat := by
          rw [Int.natCast_pow]; exact pow_2_8 _
        have hl := on_loop k n (widthZ k) s h0 h1 hb.1 hb.2
        by_cases hx : 0 < n / 256 ^ (widthZ k).toNat
        · have : ¬ n < (2 ^ (8 * (widthZ k).toNat) : Nat) := by
            intro q; rw [h2] at q; rw [Int.ediv_eq_zero_of_lt h0 q] at hx; omega
          exact fin 5 _ (by unfold ckZ; simp only; rw [if_neg c3, if_neg (by omega), if_pos ⟨hw0, this⟩]) rfl (on_o k n _ _ s (by omega) (by omega) hs rfl hw0 hx hl)
        · have : n < (2 ^ (8 * (widthZ k).toNat) : Nat) := by
            rw [h2]
            have : n / 256 ^ (widthZ k).toNat < 1 := by omega
            have := (Int.ediv_lt_iff_lt_mul hp).1 this
            omega
          have e : putL ⟨k, n, s⟩ = hiL (widthZ k).toNat n := by unfold putL; rw [if_neg k5, if_neg k6]
          exact fin 0 _ (by unfold ckZ; simp only; rw [if_neg c3, if_neg (by omega), if_neg (fun q => q.2 this), if_neg (by omega)]) (by rw [if_pos rfl, e]) (on_w k n _ _ s (by omega) (by omega) hs rfl hw0 hb.2 hx h0 h1 hl)
    · exact fin 6 _ (by unfold ckZ; simp only; rw [if_neg c3, if_pos (.inr ⟨k6, hs⟩)]) rfl (on_4 k n s (by omega) (by omega) hs)
def gOne : List SV → Option (SV × List Prop)
  | [.nv (.agg [.val (.int .i64 k), .val (.int .u64 n), .val (.string s)])] => some (.tup [.one (.val (.string (oneStr ⟨k, n, s⟩))), .one (.val (.int .i64 (ckZ ⟨k, n, s⟩)))], [0 ≤ n, n ≤ 18446744073709551615])
  | _ => none
theorem spOne : SpOk Try.prog 29 (pureS gOne) := pureS_ok (by
  intro args r obl h ho
  unfold gOne at h
  split at h
  · simp only [Option.some.injEq, Prod.mk.injEq] at h
    obtain ⟨rfl, rfl⟩ := h
    exact ⟨rfl, rfl, pureOne _ _ _ ho.1 ho.2.1⟩
  · cases h)
def GbA : List (FuncId × Sp) := (29, pureS gOne) :: Gb9
theorem GbA_ok : CtxOk Try.prog GbA := ctx_cons (enter_of Try.func29 (by kernel_rfl) (by kernel_rfl)) spOne Gb9_ok
end Go.Proofs.Ytecgigeahkijaaa

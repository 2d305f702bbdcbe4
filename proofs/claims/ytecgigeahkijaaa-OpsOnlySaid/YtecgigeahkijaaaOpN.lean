/- ops: Right as a specification; bytes of operations. No condition. -/
import Derived.Test.YtecgigeahkijaaaOpM
namespace Go.Proofs.Ytecgigeahkijaaa
set_option linter.unusedVariables false
set_option linter.unusedSimpArgs false
open Go.RowKit E
theorem rgt_bare (k fl id ln tk : Int) : (k == k && ((if k = 1 then fl else 0) == fl && ((if k = 1 then id else 0) == id && ((if k = 1 ∨ k = 0 then ln else 0) == ln && ((if k = 3 then tk else 0) == tk && true))))) = true ↔ (k ≠ 1 → fl = 0 ∧ id = 0) ∧ (k ≠ 1 → k ≠ 0 → ln = 0) ∧ (k ≠ 3 → tk = 0) := by
  simp only [Bool.and_eq_true, beq_iff_eq, and_true, true_and, beq_self_eq_true]
  by_cases k1 : k = 1
  · subst k1; simp; omega
  · by_cases k0 : k = 0
    · subst k0; simp; omega
    · by_cases k3 : k = 3
      · subst k3; simp; omega
      · simp [k1, k0, k3]; omega
theorem pureRight (k fl id ln tk : Int) (hl : 0 ≤ ln) : PureOk Try.prog 10 [.nv (.agg [.val (.int .i64 k), .val (.int .u32 fl), .val (.int .u32 id), .val (.int .u64 ln), .val (.int .u64 tk)])] (bA (rgt ⟨k, fl, id, ln, tk⟩)) := by
  have hb := rgt_bare k fl id ln tk
  have hf : (rgt ⟨k, fl, id, ln, tk⟩ = true ↔ (0 ≤ k ∧ k ≤ 4 ∧ (k ≠ 1 → fl = 0 ∧ id = 0) ∧ (k ≠ 1 → k ≠ 0 → ln = 0) ∧ (k ≠ 3 → tk = 0) ∧ (k = 0 → ln < 256 ∧ (ln = 0 ∨ 4 < ln)))) := by
    unfold rgt
    simp only
    (repeat' split) <;> simp only [beq_iff_eq, decide_eq_true_eq, Bool.false_eq_true, false_iff, true_iff] <;> omega
  have neg : ∀ {P : Prop}, (rgt ⟨k, fl, id, ln, tk⟩ = true ↔ P) → ¬ P → rgt ⟨k, fl, id, ln, tk⟩ = false := fun h n => Bool.eq_false_iff.2 (fun q => n (h.1 q))
  by_cases l : k < 0
  · rw [neg hf (by omega)]; exact rg_l k fl id ln tk l
  by_cases g : 4 < k
  · rw [neg hf (by omega)]; exact rg_h k fl id ln tk g
  by_cases e : (k == k && ((if k = 1 then fl else 0) == fl && ((if k = 1 then id else 0) == id && ((if k = 1 ∨ k = 0 then ln else 0) == ln && ((if k = 3 then tk else 0) == tk && true))))) = true
  · have h := hb.1 e
    by_cases k0 : k = 0
    · by_cases c : ln < 256
      · have : rgt ⟨k, fl, id, ln, tk⟩ = !begB ln := by
          apply Bool.eq_iff_iff.2
          rw [hf]
          unfold begB
          simp only [Bool.not_eq_true', Bool.and_eq_false_iff, decide_eq_false_iff_not]
          omega
        rw [this]; exact rg_b k fl id ln tk k0 c e
      · rw [neg hf (by omega)]; exact rg_a k fl id ln tk k0 c e
    · rw [hf.2 ⟨by omega, by omega, h.1, h.2.1, h.2.2, fun q => absurd q k0⟩]; exact rg_t k fl id ln tk (by omega) (by omega) e
  · have h : ¬ ((k ≠ 1 → fl = 0 ∧ id = 0) ∧ (k ≠ 1 → k ≠ 0 → ln = 0) ∧ (k ≠ 3 → tk = 0)) := fun q => e (hb.2 q)
    rw [neg hf (fun q => h ⟨q.2.2.1, q.2.2.2.1, q.2.2.2.2.1⟩)]; exact rg_n k fl id ln tk (by omega) (by omega) (Bool.eq_false_iff.2 e)
def gRightO : List SV → Option (SV × List Prop)
  | [.nv (.agg [.val (.int .i64 k), .val (.int .u32 fl), .val (.int .u32 id), .val (.int .u64 ln), .val (.int .u64 tk)])] => some (bA (rgt ⟨k, fl, id, ln, tk⟩), [0 ≤ ln])
  | _ => none
theorem spRightO : SpOk Try.prog 10 (pureS gRightO) := pureS_ok (by
  intro args r obl h ho
  unfold gRightO at h
  split at h
  · simp only [Option.some.injEq, Prod.mk.injEq] at h
    obtain ⟨rfl, rfl⟩ := h
    exact ⟨rfl, rfl, pureRight _ _ _ _ _ ho.1⟩
  · cases h)
def Op5.wf (x : Op5) : Prop := 0 ≤ x.fl ∧ x.fl < 4294967296 ∧ 0 ≤ x.id ∧ x.id < 4294967296 ∧ 0 ≤ x.ln ∧ x.ln < 18446744073709551616 ∧ 0 ≤ x.tk ∧ x.tk < 18446744073709551616
theorem rgt_iff (x : Op5) : rgt x = true ↔ (0 ≤ x.k ∧ x.k ≤ 4 ∧ (x.k ≠ 1 → x.fl = 0 ∧ x.id = 0) ∧ (x.k ≠ 1 → x.k ≠ 0 → x.ln = 0) ∧ (x.k ≠ 3 → x.tk = 0) ∧ (x.k = 0 → x.ln < 256 ∧ (x.ln = 0 ∨ 4 < x.ln))) := by
  unfold rgt
  (repeat' split) <;> simp only [beq_iff_eq, decide_eq_true_eq, Bool.false_eq_true, false_iff, true_iff] <;> omega
/-- An operation's bytes. -/
def opL (x : Op5) : List Int :=
  if x.k = 1 then 1 :: (hiL 4 x.fl ++ (hiL 4 x.id ++ varL 9 x.ln)) else if x.k = 3 then 3 :: varL 9 x.tk else [if x.k = 0 then x.ln else x.k]
theorem fld_wf {x : Op5} (hw : x.wf) (hr : rgt x = true) (j : Nat) : (fldF x j).wf := by
  obtain ⟨h0, h4, _⟩ := (rgt_iff x).1 hr
  obtain ⟨a1, a2, a3, a4, a5, a6, a7, a8⟩ := hw
  unfold fldF Fl.wf
  (repeat' split) <;> simp only <;> omega
theorem ck_fix {k n : Int} (w : Nat) (hk : widthZ k = w) (hw : 0 < w) (h : n < (2 ^ (8 * w) : Nat)) : ckZ ⟨k, n, .empty⟩ = 0 := by
  have h6 : k ≠ 6 := by intro e; subst e; have : widthZ 6 = 0 := rfl; omega
  unfold ckZ
  simp only
  rw [hk, if_neg (by omega), if_neg (by rw [show ByteArray.empty.size = 0 from rfl]; omega), if_neg (by rintro ⟨_, q⟩; exact q h), if_neg (by rw [show ByteArray.empty.size = 0 from rfl]; omega)]
theorem ck_var (n : Int) : ckZ ⟨5, n, .empty⟩ = 0 := by
  unfold ckZ
  simp only
  have w5 : widthZ 5 = 0 := rfl
  rw [w5, if_neg (by omega), if_neg (by rw [show ByteArray.empty.size = 0 from rfl]; omega), if_neg (by omega), if_neg (by rw [show ByteArray.empty.size = 0 from rfl]; omega)]
theorem op_put {x : Op5} (hw : x.wf) (hr : rgt x = true) : badZ (fldF x) (fldN x) = 0 ∧ putAll (fldF x) (fldN x) = opL x := by
  obtain ⟨h0, h4, r1, r2, r3, r4⟩ := (rgt_iff x).1 hr
  obtain ⟨a1, a2, a3, a4, a5, a6, a7, a8⟩ := hw
  unfold fldN opL
  by_cases k1 : x.k = 1
  · have e0 : fldF x 0 = ⟨1, 1, .empty⟩ := by unfold fldF; rw [if_pos k1]; rfl
    have e1 : fldF x 1 = ⟨3, x.fl, .empty⟩ := by unfold fldF; rw [if_pos k1]; rfl
    have e2 : fldF x 2 = ⟨3, x.id, .empty⟩ := by unfold fldF; rw [if_pos k1]; rfl
    have e3 : fldF x 3 = ⟨5, x.ln, .empty⟩ := by unfold fldF; rw [if_pos k1]; rfl
    rw [if_pos k1, if_pos k1]
    have c0 := ck_fix (k := 1) (n := 1) 1 rfl (by omega) (by decide)
    have c1 := ck_fix (k := 3) (n := x.fl) 4 rfl (by omega) (by have : ((2 ^ (8 * 4) : Nat) : Int) = 4294967296 := rfl; omega)
    have c2 := ck_fix (k := 3) (n := x.id) 4 rfl (by omega) (by have : ((2 ^ (8 * 4) : Nat) : Int) = 4294967296 := rfl; omega)
    have c3 := ck_var x.ln
    refine ⟨?_, ?_⟩
    · rw [badZ, badZ, badZ, badZ, badZ, e0, e1, e2, e3, c0, c1, c2, c3]; rfl
    · rw [putAll, putAll, putAll, putAll, putAll, e0, e1, e2, e3]
      show ((([] ++ [1 % 256]) ++ hiL 4 x.fl) ++ hiL 4 x.id) ++ varL 9 x.ln = _
      simp
  · rw [if_neg k1, if_neg k1]
    by_cases k3 : x.k = 3
    · have e0 : fldF x 0 = ⟨1, 3, .empty⟩ := by unfold fldF; rw [if_neg k1, if_pos k3]; rfl
      have e1 : fldF x 1 = ⟨5, x.tk, .empty⟩ := by unfold fldF; rw [if_neg k1, if_pos k3]; rfl
      rw [if_pos k3, if_pos k3]
      have c0 := ck_fix (k := 1) (n := 3) 1 rfl (by omega) (by decide)
      have c1 := ck_var x.tk
      refine ⟨?_, ?_⟩
      · rw [badZ, badZ, badZ, e0, e1, c0, c1]; rfl
      · rw [putAll, putAll, putAll, e0, e1]
        show ([] ++ [3 % 256]) ++ varL 9 x.tk = _
        simp
    · rw [if_neg k3, if_neg k3]
      have e0 : fldF x 0 = ⟨1, if x.k = 0 then x.ln else x.k, .empty⟩ := by
        unfold fldF; rw [if_neg k1, if_neg k3]
        split <;> rfl
      have hb : 0 ≤ (if x.k = 0 then x.ln else x.k) ∧ (if x.k = 0 then x.ln else x.k) < 256 := by split <;> omega
      generalize (if x.k = 0 then x.ln else x.k) = v at e0 hb
      have c0 := ck_fix (k := 1) (n := v) 1 rfl (by omega) (by have : ((2 ^ (8 * 1) : Nat) : Int) = 256 := rfl; omega)
      refine ⟨?_, ?_⟩
      · rw [badZ, badZ, e0, c0]; rfl
      · rw [putAll, putAll, e0]
        show [] ++ ([] ++ [v % 256]) = _
        rw [Int.emod_eq_of_lt hb.1 hb.2]; rfl
theorem op_str {x : Op5} (hw : x.wf) (hr : rgt x = true) : putStr (fldF x) (fldN x) = strL (opL x) := by
  obtain ⟨h1, h2⟩ := op_put hw hr
  unfold putStr; rw [if_pos h1, h2]
theorem op_inB {x : Op5} (hw : x.wf) (hr : rgt x = true) : inB (opL x) := by
  obtain ⟨h1, h2⟩ := op_put hw hr
  rw [← h2]; exact inB_all h1 (fun i _ => fld_wf hw hr i)
theorem op_len (x : Op5) : (opL x).length ≤ 19 ∧ 1 ≤ (opL x).length := by
  have := varL_len 9 x.ln
  have := varL_len 9 x.tk
  unfold opL
  split
  · simp [hiL_len]; omega
  · split
    · simp; omega
    · simp
/-- The bytes of the first i operations, and whether all are right. -/
def opsL (L : Nat → Op5) : Nat → List Int
  | 0 => []
  | i + 1 => opsL L i ++ opL (L i)
def allR (L : Nat → Op5) : Nat → Bool
  | 0 => true
  | i + 1 => allR L i && rgt (L i)
theorem opsL_len (L : Nat → Op5) : ∀ i, (opsL L i).length ≤ i * 19 ∧ i ≤ (opsL L i).length
  | 0 => ⟨Nat.le_refl _, Nat.le_refl _⟩
  | i + 1 => by
    have := opsL_len L i
    have := op_len (L i)
    rw [opsL, List.length_append]; omega
theorem allR_low {L : Nat → Op5} : ∀ {n : Nat}, allR L n = true → ∀ i, i < n → allR L i = true ∧ rgt (L i) = true
  | 0, h, i, hi => absurd hi (Nat.not_lt_zero i)
  | n + 1, h, i, hi => by
    rw [allR, Bool.and_eq_true] at h
    by_cases q : i = n
    · subst q; exact h
    · exact allR_low h.1 i (by omega)
theorem allR_at {L : Nat → Op5} : ∀ {n : Nat}, allR L n = false → ∃ p, p < n ∧ allR L p = true ∧ rgt (L p) = false
  | 0, h => by cases h
  | n + 1, h => by
    cases e : allR L n with
    | false =>
      obtain ⟨p, h1, h2⟩ := allR_at e
      exact ⟨p, by omega, h2⟩
    | true =>
      rw [allR, e, Bool.true_and] at h
      exact ⟨n, by omega, e, h⟩
theorem ops_inB {L : Nat → Op5} : ∀ {n : Nat}, allR L n = true → (∀ i, i < n → (L i).wf) → inB (opsL L n)
  | 0, _, _ => fun x hx => by simp [opsL] at hx
  | n + 1, h, hw => inB_app (ops_inB (allR_low h n (Nat.lt_succ_self n)).1 (fun i hi => hw i (by omega))) (op_inB (hw n (by omega)) (allR_low h n (Nat.lt_succ_self n)).2)
/-- What Put gives. -/
def opsS (L : Nat → Op5) (n : Nat) : ByteArray := if allR L n = true then strL (opsL L n) else .empty
def GoE : List (FuncId × Sp) := (10, pureS gRightO) :: GoD
theorem GoE_ok : CtxOk Try.prog GoE := ctx_cons (enter_of Try.func10 (by kernel_rfl) (by kernel_rfl)) spRightO GoD_ok
end Go.Proofs.Ytecgigeahkijaaa

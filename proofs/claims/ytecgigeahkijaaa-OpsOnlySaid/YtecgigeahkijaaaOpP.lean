/- ops: Put, and the document's, as specifications. No condition. -/
import Derived.Test.YtecgigeahkijaaaOpO
namespace Go.Proofs.Ytecgigeahkijaaa
set_option linter.unusedVariables false
set_option linter.unusedSimpArgs false
open Go.RowKit E
theorem fldN_le (x : Op5) : fldN x ≤ 1000 := by unfold fldN; (repeat' split) <;> omega
theorem fnPutO (len : Nat) (L : Nat → Op5) (hl : len ≤ 100000) (hw : ∀ i, i < len → (L i).wf) :
    FnOk Try.prog 12 [.nv (.one (.own 0))] [.ro 5 len (gO L)] (.tup [.one (.val (.string (opsS L len))), .one (.val (.int .i64 (if allR L len = true then 0 else 6)))]) [.ro 5 len (gO L)] := by
  have step : ∀ p i, allR L p = true → i < p → p ≤ len → CodeOk Try.prog 1 (loopOf Try.f12 0) (mkSt 28 [(4, .nv (.one (.ptr 1 0))), (9, .nv (.one (.own 0))), (10, iA len), (11, iA i)] [.ro 5 len (gO L), .box 52 [.optr 1, .own 2], .row 5 1 (opsL L i).length (gB (lF (opsL L i)))]) .normal (mkSt 28 [(4, .nv (.one (.ptr 1 0))), (9, .nv (.one (.own 0))), (10, iA len), (11, iA (i + 1))] [.ro 5 len (gO L), .box 52 [.optr 1, .own 2], .row 5 1 (opsL L (i + 1)).length (gB (lF (opsL L (i + 1))))]) := by
    intro p i hp hi hpl
    obtain ⟨h1, h2⟩ := allR_low hp i hi
    have hwi := hw i (by omega)
    obtain ⟨r0, r4, _⟩ := (rgt_iff _).1 h2
    have hol := op_len (L i)
    have hil := opsL_len L i
    have es := op_str hwi h2
    have ez : (strL (opL (L i))).size = (opL (L i)).length := strL_size _
    have := Nat.mul_le_mul_right 19 (show i ≤ 100000 by omega)
    refine pp_n len i _ _ L _ _ (strL (opL (L i))) (by omega) hl hwi.2.2.2.2.1 h2 r0 r4 hwi.1 hwi.2.1 hwi.2.2.1 hwi.2.2.2.1 (fldN_le _) (fun j _ => fld_wf hwi h2 j) es (by omega) (by rw [ez, opsL, List.length_append]) (fun j hj => ?_)
    rw [strL_ints (op_inB hwi h2)]
    exact lF_cat _ _ j
  cases hb : allR L len with
  | true =>
    rw [if_pos rfl]
    unfold opsS
    rw [if_pos hb]
    by_cases h0 : len = 0
    · subst h0; exact pp_0 L
    · have hol := opsL_len L len
      refine pp_k len (opsL L len).length L (lF []) (lF (opsL L len)) (by omega) (inB_lF (ops_inB hb hw)) ?_
      refine loop_ok (α := Nat) (fun i => mkSt 28 [(4, .nv (.one (.ptr 1 0))), (9, .nv (.one (.own 0))), (10, iA len), (11, iA i)] [.ro 5 len (gO L), .box 52 [.optr 1, .own 2], .row 5 1 (opsL L i).length (gB (lF (opsL L i)))]) (fun i => i ≤ len) (fun i => len - i) (by simp) ?_ (x := 0) (Nat.zero_le _)
      intro i hi
      by_cases e : i = len
      · subst e; exact .inr (pp_e i _ L _)
      · exact .inl ⟨i + 1, (show i + 1 ≤ len by omega), (show len - (i + 1) < len - i by omega), step len i hb (by omega) (Nat.le_refl _)⟩
  | false =>
    rw [if_neg (by decide)]
    unfold opsS
    rw [if_neg (by rw [hb]; decide)]
    obtain ⟨p, hp, hp0, hpc⟩ := allR_at hb
    refine pp_x len L (lF []) ?_
    refine loop_ok (α := Nat) (fun i => mkSt 28 [(4, .nv (.one (.ptr 1 0))), (9, .nv (.one (.own 0))), (10, iA len), (11, iA i)] [.ro 5 len (gO L), .box 52 [.optr 1, .own 2], .row 5 1 (opsL L i).length (gB (lF (opsL L i)))]) (fun i => i ≤ p) (fun i => p - i) (by simp) ?_ (x := 0) (Nat.zero_le _)
    intro i hi
    by_cases e : i = p
    · subst e; exact .inr (pp_r len i _ L _ hp hl (hw i hp).2.2.2.2.1 hpc)
    · exact .inl ⟨i + 1, (show i + 1 ≤ p by omega), (show p - (i + 1) < p - i by omega), step p i hp0 (by omega) (by omega)⟩
theorem fnPutQ (len : Nat) (L : Nat → Op5) (hl : len ≤ 100000) (hw : ∀ i, i < len → (L i).wf) :
    FnOk Try.prog 13 [.nv (.one (.own 0))] [.ro 5 len (gO L)] (.tup [.one (.val (.string (opsS L len))), .one (.val (.bool (allR L len)))]) [.ro 5 len (gO L)] := by
  have step : ∀ p i, allR L p = true → i < p → p ≤ len → CodeOk Try.prog 1 (loopOf Try.f13 0) (mkSt 33 [(0, .nv (.one (.own 0))), (4, sA (strL (opsL L i))), (5, iA i)] [.ro 5 len (gO L)]) .normal (mkSt 33 [(0, .nv (.one (.own 0))), (4, sA (strL (opsL L (i + 1)))), (5, iA (i + 1))] [.ro 5 len (gO L)]) := by
    intro p i hp hi hpl
    obtain ⟨h1, h2⟩ := allR_low hp i hi
    have hwi := hw i (by omega)
    obtain ⟨r0, r4, _⟩ := (rgt_iff _).1 h2
    have hol := op_len (L i)
    have hil := opsL_len L i
    have es := op_str hwi h2
    have ez : (strL (opL (L i))).size = (opL (L i)).length := strL_size _
    have ez2 : (strL (opsL L i)).size = (opsL L i).length := strL_size _
    have := Nat.mul_le_mul_right 19 (show i ≤ 100000 by omega)
    exact qq_n len i L _ _ (strL (opL (L i))) (by omega) hl hwi.2.2.2.2.1 h2 r0 r4 hwi.1 hwi.2.1 hwi.2.2.1 hwi.2.2.2.1 (fldN_le _) (fun j _ => fld_wf hwi h2 j) es (by rw [show IntKind.max IntKind.i64 = 9223372036854775807 from rfl]; omega) (by rw [opsL, strL_app (ops_inB h1 (fun j hj => hw j (by omega))) (op_inB hwi h2)])
  cases hb : allR L len with
  | true =>
    unfold opsS
    rw [if_pos hb]
    refine qq_k len L _ ?_
    refine loop_ok (α := Nat) (fun i => mkSt 33 [(0, .nv (.one (.own 0))), (4, sA (strL (opsL L i))), (5, iA i)] [.ro 5 len (gO L)]) (fun i => i ≤ len) (fun i => len - i) (by simp) ?_ (x := 0) (Nat.zero_le _)
    intro i hi
    by_cases e : i = len
    · subst e; exact .inr (qq_e i L _)
    · exact .inl ⟨i + 1, (show i + 1 ≤ len by omega), (show len - (i + 1) < len - i by omega), step len i hb (by omega) (Nat.le_refl _)⟩
  | false =>
    unfold opsS
    rw [if_neg (by rw [hb]; decide)]
    obtain ⟨p, hp, hp0, hpc⟩ := allR_at hb
    refine qq_x len L ?_
    refine loop_ok (α := Nat) (fun i => mkSt 33 [(0, .nv (.one (.own 0))), (4, sA (strL (opsL L i))), (5, iA i)] [.ro 5 len (gO L)]) (fun i => i ≤ p) (fun i => p - i) (by simp) ?_ (x := 0) (Nat.zero_le _)
    intro i hi
    by_cases e : i = p
    · subst e; exact .inr (qq_r len i L _ hp hl (hw i hp).2.2.2.2.1 hpc)
    · exact .inl ⟨i + 1, (show i + 1 ≤ p by omega), (show p - (i + 1) < p - i by omega), step p i hp0 (by omega) (by omega)⟩
def gPutO : List SV → List Seg → Option (CS × List Prop)
  | [.nv (.one a)], mem => match srcOf mem 5 a with
    | some (n, g, _) => some (⟨[.nv (.one (.own 0))], [.ro 5 n (gO (opOf g))], .tup [.one (.val (.string (opsS (opOf g) n))), .one (.val (.int .i64 (if allR (opOf g) n = true then 0 else 6)))], [.gone]⟩, [n ≤ 100000, ∀ i, i < n → (opOf g i).wf])
    | none => none
  | _, _ => none
theorem spPutO : SpOk Try.prog 12 (.lift gPutO) := by
  intro args mem cs obl h ho
  unfold gPutO at h
  split at h
  · split at h
    · simp only [Option.some.injEq, Prod.mk.injEq] at h
      obtain ⟨rfl, rfl⟩ := h
      exact fn_drop0 (fnPutO _ _ ho.1 ho.2.1)
    · cases h
  · cases h
def gPutQ : List SV → List Seg → Option (CS × List Prop)
  | [.nv (.one a)], mem => match srcOf mem 5 a with
    | some (n, g, _) => some (⟨[.nv (.one (.own 0))], [.ro 5 n (gO (opOf g))], .tup [.one (.val (.string (opsS (opOf g) n))), .one (.val (.bool (allR (opOf g) n)))], [.gone]⟩, [n ≤ 100000, ∀ i, i < n → (opOf g i).wf])
    | none => none
  | _, _ => none
theorem spPutQ : SpOk Try.prog 13 (.lift gPutQ) := by
  intro args mem cs obl h ho
  unfold gPutQ at h
  split at h
  · split at h
    · simp only [Option.some.injEq, Prod.mk.injEq] at h
      obtain ⟨rfl, rfl⟩ := h
      exact fn_drop0 (fnPutQ _ _ ho.1 ho.2.1)
    · cases h
  · cases h
def GoF : List (FuncId × Sp) := (12, .lift gPutO) :: (13, .lift gPutQ) :: GoE
theorem GoF_ok : CtxOk Try.prog GoF := ctx_cons (enter_of Try.func12 (by kernel_rfl) (by kernel_rfl)) spPutO <|
  ctx_cons (enter_of Try.func13 (by kernel_rfl) (by kernel_rfl)) spPutQ GoE_ok
end Go.Proofs.Ytecgigeahkijaaa

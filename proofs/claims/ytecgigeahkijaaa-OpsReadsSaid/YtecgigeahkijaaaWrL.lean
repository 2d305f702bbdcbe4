/- wire: putVar as a specification. No condition. -/
import Derived.Test.YtecgigeahkijaaaWrK
namespace Go.Proofs.Ytecgigeahkijaaa
set_option linter.unusedVariables false
set_option linter.unusedSimpArgs false
open Go.RowKit E

theorem varL_last (f : Nat) (v : Int) : (varL f v).dropLast ++ [(varL f v).getLastD 0] = varL f v := by
  have h := varL_pos f v
  have hne : varL f v ≠ [] := by intro e; rw [e] at h; simp at h
  rw [List.getLastD_eq_getLast?, List.getLast?_eq_some_getLast hne]
  exact List.dropLast_concat_getLast hne
theorem fnPutVar (n : Nat) (F : Nat → Int) (v : Int) (h0 : 0 ≤ v) (h1 : v ≤ 18446744073709551615) (hn : n + 10 ≤ 140737488355328) :
    FnOk Try.prog 35 [.nv (.one (.ptr 0 0)), uA v] (bldM n F) .any (bldP (n + (varL 9 v).length) (catF n F (varL 9 v))) := by
  generalize hp : (varL 9 v).dropLast = p
  generalize hu : (varL 9 v).getLastD 0 = u
  have hpu : p ++ [u] = varL 9 v := by rw [← hp, ← hu]; exact varL_last 9 v
  have hlen := varL_len 9 v
  have hpl : p.length + 1 = (varL 9 v).length := by rw [← hpu]; simp
  have hloop : ∃ _ : 0 ≤ u ∧ u < 128, CodeOk Try.prog 2 (.loop (loopOf Try.f35 0)) (mkSt 18 [(0, .nv (.one (.ptr 0 0))), (1, uA v)] (bldP n (catF n F []))) (.exit 0) (mkSt 18 [(0, .nv (.one (.ptr 0 0))), (1, uA u)] (bldP (n + p.length) (catF n F p))) := by
    have hub : 0 ≤ u ∧ u < 128 := by
      have key : ∀ f (x : Int), 0 ≤ x → x < 2 * 128 ^ f → 0 ≤ (varL f x).getLastD 0 ∧ (varL f x).getLastD 0 < 128 := by
        intro f
        induction f with
        | zero => intro x a b; simp [varL]; omega
        | succ f ih =>
          intro x a b
          by_cases q : 128 ≤ x
          · rw [varL_go q]
            have := ih (x / 128) (by omega) (by rw [Int.pow_succ] at b; omega)
            have hne : varL f (x / 128) ≠ [] := by intro e; have := varL_pos f (x / 128); rw [e] at this; simp at this
            rw [List.getLastD_eq_getLast?] at this ⊢
            rw [List.getLast?_cons, List.getLast?_eq_some_getLast hne] at *
            simpa using this
          · rw [varL_end q]; simp; omega
      have := key 9 v h0 (by omega)
      rw [hu] at this; exact this
    refine ⟨hub, ?_⟩
    have := loop_ok (P := Try.prog) (m0 := 2) (c := loopOf Try.f35 0) (ex := .exit 0) (post := mkSt 18 [(0, .nv (.one (.ptr 0 0))), (1, uA u)] (bldP (n + p.length) (catF n F p)))
      (α := Nat × List Int × Int) (fun z => mkSt 18 [(0, .nv (.one (.ptr 0 0))), (1, uA z.2.2)] (bldP (n + z.2.1.length) (catF n F z.2.1))) (fun z => z.2.1 ++ varL z.1 z.2.2 = varL 9 v ∧ 0 ≤ z.2.2 ∧ z.2.2 < 2 * 128 ^ z.1 ∧ z.2.2 ≤ 18446744073709551615) (fun z => z.2.2.toNat) (by simp) ?_ (x := (9, [], v)) ⟨rfl, h0, (show v < 2 * 128 ^ 9 by omega), h1⟩
    · exact this
    · rintro ⟨f, l, x⟩ ⟨i1, i2, i3, i4⟩
      simp only at i1 i2 i3 i4
      by_cases q : 128 ≤ x
      · cases f with
        | zero => omega
        | succ f =>
          rw [varL_go q] at i1
          have hl : l.length + 1 ≤ (varL 9 v).length := by rw [← i1]; simp
          refine .inl ⟨(f, l ++ [x % 128 + 128], x / 128), ⟨by rw [← i1]; simp, (show 0 ≤ x / 128 by omega), (show x / 128 < 2 * 128 ^ f by rw [Int.pow_succ] at i3; omega), (show x / 128 ≤ _ by omega)⟩, (show (x / 128).toNat < x.toNat by omega), ?_⟩
          exact pv_n (n + l.length) _ (catF n F l) _ x q i4 (by omega) (by rw [Int.tdiv_eq_ediv_of_nonneg i2]; exact wU64 rfl (by omega)) (by rw [Int.tmod_eq_emod_of_nonneg i2, wU64 (a := x % 128 + 128) (b := x % 128 + 128) rfl (by omega)]; exact wU8 rfl (by omega)) (by simp; omega) (fun i hi => catF_cat n F l _ i)
      · rw [varL_end q] at i1
        have e := i1.trans hpu.symm
        obtain ⟨e1, e2⟩ := List.append_inj' e rfl
        simp only [List.cons.injEq, and_true] at e2
        subst e1; subst e2
        exact .inr (pv_e _ _ _ q)
  obtain ⟨hub, hl⟩ := hloop
  refine pv_f n (n + p.length) _ F _ _ _ v u (fun i hi => (if_pos hi).symm) (by omega) (wU8 rfl (by omega)) (by omega) (fun i hi => ?_) hl
  rw [catF_cat, hpu]
def gPutVar : List SV → List Seg → Option (CS × List Prop)
  | [.nv (.one (.ptr h 0)), .nv (.one (.val (.int .u64 v)))], mem => match bldAt mem h with
    | some (n, F) => some (⟨[.nv (.one (.ptr 0 0)), uA v], bldM n F, .any, bldP (n + (varL 9 v).length) (catF n F (varL 9 v))⟩, [0 ≤ v, v ≤ 18446744073709551615, n + 10 ≤ 140737488355328])
    | none => none
  | _, _ => none
theorem spPutVar : SpOk Try.prog 35 (.lift gPutVar) := by
  intro args mem cs obl h ho
  unfold gPutVar at h
  split at h
  · split at h
    · simp only [Option.some.injEq, Prod.mk.injEq] at h
      obtain ⟨rfl, rfl⟩ := h
      exact fnPutVar _ _ _ ho.1 ho.2.1 ho.2.2.1
    · cases h
  · cases h
def Gb6 : List (FuncId × Sp) := (35, .lift gPutVar) :: Gb5
theorem Gb6_ok : CtxOk Try.prog Gb6 := ctx_cons (enter_of Try.func35 (by kernel_rfl) (by kernel_rfl)) spPutVar Gb5_ok
end Go.Proofs.Ytecgigeahkijaaa

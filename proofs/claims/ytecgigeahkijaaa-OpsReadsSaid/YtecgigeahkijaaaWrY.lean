/- wire: the document's Put, Same, and Few, as specifications. No condition. -/
import Derived.Test.YtecgigeahkijaaaWrX
namespace Go.Proofs.Ytecgigeahkijaaa
set_option linter.unusedVariables false
set_option linter.unusedSimpArgs false
open Go.RowKit E

theorem oneStr_ok {f : Fl} (h : ckZ f = 0) : oneStr f = strL (putL f) := by unfold oneStr; rw [if_pos h]
theorem fnRPut (len : Nat) (L : Nat → Fl) (hl : len ≤ 1000) (hw : ∀ i, i < len → (L i).wf) :
    FnOk Try.prog 22 [.nv (.one (.own 0))] [.ro 3 len (gF L)] (.tup [.one (.val (.string (putStr L len))), .one (.val (.int .i64 (badZ L len)))]) [.ro 3 len (gF L)] := by
  have step : ∀ p i, badZ L p = 0 → i < p → p ≤ len → CodeOk Try.prog 1 (loopOf Try.f22 0) (mkSt 29 [(0, .nv (.one (.own 0))), (4, sA (strL (putAll L i))), (5, iA i)] [.ro 3 len (gF L)]) .normal (mkSt 29 [(0, .nv (.one (.own 0))), (4, sA (strL (putAll L (i + 1)))), (5, iA (i + 1 : Nat))] [.ro 3 len (gF L)]) := by
    intro p i hp hi hpl
    obtain ⟨h1, h2⟩ := badZ_low hp i hi
    have hil := putAll_len h1
    have hf := hw i (by omega)
    obtain ⟨k1, k2, _⟩ := ckZ_ok h2
    have hpu := putL_len k1
    have := Nat.mul_le_mul_right 65545 (show i ≤ 1000 by omega)
    have eo : oneStr ⟨(L i).k, (L i).n, (L i).s⟩ = strL (putL (L i)) := oneStr_ok h2
    exact rp_n len i L _ _ (by omega) hl hf.1 (by have := hf.2; omega) h2 (by rw [eo, strL_size, strL_size, show IntKind.max IntKind.i64 = 9223372036854775807 from rfl]; omega) (by rw [eo, putAll, strL_app (inB_all h1 (fun j hj => hw j (by omega))) (inB_put h2 hf)])
  by_cases hb : badZ L len = 0
  · unfold putStr
    rw [if_pos hb, hb]
    refine rp_k len L _ ?_
    refine loop_ok (α := Nat) (fun i => mkSt 29 [(0, .nv (.one (.own 0))), (4, sA (strL (putAll L i))), (5, iA i)] [.ro 3 len (gF L)]) (fun i => i ≤ len) (fun i => len - i) (by simp) ?_ (x := 0) (Nat.zero_le _)
    intro i hi
    by_cases e : i = len
    · subst e; exact .inr (rp_e i L _)
    · exact .inl ⟨i + 1, (show i + 1 ≤ len by omega), (show len - (i + 1) < len - i by omega), step len i hb (by omega) (Nat.le_refl _)⟩
  · unfold putStr
    rw [if_neg hb]
    obtain ⟨p, hp, hp0, hpc⟩ := badZ_at hb
    refine rp_x len (badZ L len) L ?_
    refine loop_ok (α := Nat) (fun i => mkSt 29 [(0, .nv (.one (.own 0))), (4, sA (strL (putAll L i))), (5, iA i)] [.ro 3 len (gF L)]) (fun i => i ≤ p) (fun i => p - i) (by simp) ?_ (x := 0) (Nat.zero_le _)
    intro i hi
    by_cases e : i = p
    · subst e
      have hf := hw i (by omega)
      exact .inr (rp_r len i _ L _ hp hl hf.1 (by have := hf.2; omega) hpc hb)
    · exact .inl ⟨i + 1, (show i + 1 ≤ p by omega), (show p - (i + 1) < p - i by omega), step p i hp0 (by omega) (by omega)⟩
def gRPut : List SV → List Seg → Option (CS × List Prop)
  | [.nv (.one a)], mem => match srcOf mem 3 a with
    | some (n, g, _) => some (⟨[.nv (.one (.own 0))], [.ro 3 n (gF (flOf g))], .tup [.one (.val (.string (putStr (flOf g) n))), .one (.val (.int .i64 (badZ (flOf g) n)))], [.ro 3 n (gF (flOf g))]⟩, [n ≤ 1000, ∀ i, i < n → (flOf g i).wf])
    | none => none
  | _, _ => none
theorem spRPut : SpOk Try.prog 22 (.lift gRPut) := by
  intro args mem cs obl h ho
  unfold gRPut at h
  split at h
  · split at h
    · simp only [Option.some.injEq, Prod.mk.injEq] at h
      obtain ⟨rfl, rfl⟩ := h
      exact fnRPut _ _ ho.1 ho.2.1
    · cases h
  · cases h
def gSame : List SV → List Seg → Option (CS × List Prop)
  | [.nv (.one a), .nv (.one b)], mem => match srcOf mem 3 a, srcOf mem 3 b with
    | some (n, g, _), some (m, g2, _) => some (⟨[.nv (.one (.own 0)), .nv (.one (.own 1))], [.ro 3 n (gF (flOf g)), .ro 3 n (gF (flOf g2))], bA true, [.ro 3 n (gF (flOf g)), .ro 3 n (gF (flOf g2))]⟩, [n ≤ 100000, ∀ i, i < n → flOf g i = flOf g2 i])
    | _, _ => none
  | _, _ => none
def gFew : List SV → List Seg → Option (CS × List Prop)
  | [.nv (.one a)], mem => match srcOf mem 3 a with
    | some (n, g, _) => some (⟨[.nv (.one (.own 0))], [.ro 3 n (gF (flOf g))], bA (fewB (flOf g) n), [.ro 3 n (gF (flOf g))]⟩, [n ≤ 9223372036854775807])
    | none => none
  | _, _ => none
def GbB : List (FuncId × Sp) := (22, .lift gRPut) :: GbA
theorem GbB_ok : CtxOk Try.prog GbB := ctx_cons (enter_of Try.func22 (by kernel_rfl) (by kernel_rfl)) spRPut GbA_ok
end Go.Proofs.Ytecgigeahkijaaa

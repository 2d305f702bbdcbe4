/- wire: Take, and the document's, as specifications. No condition. -/
import Derived.Test.YtecgigeahkijaaaWsI
namespace Go.Proofs.Ytecgigeahkijaaa
set_option linter.unusedVariables false
set_option linter.unusedSimpArgs false
open Go.RowKit E
theorem fnTake (s : ByteArray) (len : Nat) (K : Nat → Int) (hz : s.size ≤ 140737488355328) (hl : len ≤ 1000) :
    FnOk Try.prog 24 [sA s, .nv (.one (.own 0))] [.ro 1 len (gK K)] (.tup [.one (.own 1), .one (.val (.int .i64 (if errT s K len = 0 then (atN s K len : Int) else 0))), .one (.val (.int .i64 (errT s K len)))]) [.ro 1 len (gK K), .row 47 3 (if errT s K len = 0 then len else 0) (gF (fldT s K))] := by
  have step : ∀ p i, errT s K p = 0 → i < p → p ≤ len → CodeOk Try.prog 1 (loopOf Try.f24 0) (mkSt 42 [(0, sA s), (7, .nv (.one (.own 1))), (8, iA (atN s K i)), (14, .nv (.one (.own 0))), (15, iA len), (16, iA i)] [.ro 1 len (gK K), .row 47 3 i (gF (fldT s K))]) .normal (mkSt 42 [(0, sA s), (7, .nv (.one (.own 1))), (8, iA (atN s K (i + 1))), (14, .nv (.one (.own 0))), (15, iA len), (16, iA (i + 1))] [.ro 1 len (gK K), .row 47 3 (i + 1) (gF (fldT s K))]) := by
    intro p i hp hi hpl
    obtain ⟨h1, h2⟩ := errT_low hp i hi
    have ha := atN_le h1
    have hb := oneZ_bd _ _ h2
    rw [fromZ_size ha] at hb
    exact tk_n s len i _ _ K _ _ hz hl (by omega) ha h2 (w64 (by rw [atN]; omega) (by rw [atN]; omega)) (fun _ _ => rfl) rfl
  by_cases hb : errT s K len = 0
  · rw [if_pos hb, if_pos hb, hb]
    refine tk_k s len _ K (fldT s K) _ ?_
    refine loop_ok (α := Nat) (fun i => mkSt 42 [(0, sA s), (7, .nv (.one (.own 1))), (8, iA (atN s K i)), (14, .nv (.one (.own 0))), (15, iA len), (16, iA i)] [.ro 1 len (gK K), .row 47 3 i (gF (fldT s K))]) (fun i => i ≤ len) (fun i => len - i) (by simp) ?_ (x := 0) (Nat.zero_le _)
    intro i hi
    by_cases e : i = len
    · subst e; exact .inr (tk_e s i _ K _)
    · exact .inl ⟨i + 1, (show i + 1 ≤ len by omega), (show len - (i + 1) < len - i by omega), step len i hb (by omega) (Nat.le_refl _)⟩
  · rw [if_neg hb, if_neg hb]
    obtain ⟨p, hp, hp0, hpc⟩ := errT_at hb
    refine tk_x s len K (fldT s K) _ _ ?_
    refine loop_ok (α := Nat) (fun i => mkSt 42 [(0, sA s), (7, .nv (.one (.own 1))), (8, iA (atN s K i)), (14, .nv (.one (.own 0))), (15, iA len), (16, iA i)] [.ro 1 len (gK K), .row 47 3 i (gF (fldT s K))]) (fun i => i ≤ p) (fun i => p - i) (by simp) ?_ (x := 0) (Nat.zero_le _)
    intro i hi
    by_cases e : i = p
    · subst e
      exact .inr (tk_r s len i _ K _ _ hz hl hp (atN_le hp0) hpc hb)
    · exact .inl ⟨i + 1, (show i + 1 ≤ p by omega), (show p - (i + 1) < p - i by omega), step p i hp0 (by omega) (by omega)⟩
theorem fnRTake (s : ByteArray) (len : Nat) (K : Nat → Int) (hz : s.size ≤ 140737488355328) (hl : len ≤ 1000) :
    FnOk Try.prog 16 [sA s, .nv (.one (.own 0))] [.ro 1 len (gK K)] (.tup [.one (.own 1), .one (.val (.int .i64 (if errT s K len = 0 then (atN s K len : Int) else 0))), .one (.val (.int .i64 (errT s K len)))]) [.ro 1 len (gK K), .row 47 3 (if errT s K len = 0 then len else 0) (gF (fldT s K))] := by
  have step : ∀ p i, errT s K p = 0 → i < p → p ≤ len → CodeOk Try.prog 1 (loopOf Try.f16 0) (mkSt 43 [(0, sA s), (1, .nv (.one (.own 0))), (7, .nv (.one (.own 1))), (8, iA (atN s K i)), (9, iA i)] [.ro 1 len (gK K), .row 47 3 i (gF (fldT s K))]) .normal (mkSt 43 [(0, sA s), (1, .nv (.one (.own 0))), (7, .nv (.one (.own 1))), (8, iA (atN s K (i + 1))), (9, iA (i + 1))] [.ro 1 len (gK K), .row 47 3 (i + 1) (gF (fldT s K))]) := by
    intro p i hp hi hpl
    obtain ⟨h1, h2⟩ := errT_low hp i hi
    have ha := atN_le h1
    have hb := oneZ_bd _ _ h2
    rw [fromZ_size ha] at hb
    exact rt_n s len i _ _ K _ _ hz hl (by omega) ha h2 (w64 (by rw [atN]; omega) (by rw [atN]; omega)) (fun _ _ => rfl) rfl
  by_cases hb : errT s K len = 0
  · rw [if_pos hb, if_pos hb, hb]
    refine rt_k s len _ K (fldT s K) _ ?_
    refine loop_ok (α := Nat) (fun i => mkSt 43 [(0, sA s), (1, .nv (.one (.own 0))), (7, .nv (.one (.own 1))), (8, iA (atN s K i)), (9, iA i)] [.ro 1 len (gK K), .row 47 3 i (gF (fldT s K))]) (fun i => i ≤ len) (fun i => len - i) (by simp) ?_ (x := 0) (Nat.zero_le _)
    intro i hi
    by_cases e : i = len
    · subst e; exact .inr (rt_e s i _ K _)
    · exact .inl ⟨i + 1, (show i + 1 ≤ len by omega), (show len - (i + 1) < len - i by omega), step len i hb (by omega) (Nat.le_refl _)⟩
  · rw [if_neg hb, if_neg hb]
    obtain ⟨p, hp, hp0, hpc⟩ := errT_at hb
    refine rt_x s len K (fldT s K) _ _ ?_
    refine loop_ok (α := Nat) (fun i => mkSt 43 [(0, sA s), (1, .nv (.one (.own 0))), (7, .nv (.one (.own 1))), (8, iA (atN s K i)), (9, iA i)] [.ro 1 len (gK K), .row 47 3 i (gF (fldT s K))]) (fun i => i ≤ p) (fun i => p - i) (by simp) ?_ (x := 0) (Nat.zero_le _)
    intro i hi
    by_cases e : i = p
    · subst e
      exact .inr (rt_r s len i _ K _ _ hz hl hp (atN_le hp0) hpc hb)
    · exact .inl ⟨i + 1, (show i + 1 ≤ p by omega), (show p - (i + 1) < p - i by omega), step p i hp0 (by omega) (by omega)⟩
def kOf (g : Nat → List At) : Nat → Int := fun j => cellN (g j)
def gTake : List SV → List Seg → Option (CS × List Prop)
  | [.nv (.one (.val (.string s))), .nv (.one a)], mem => match srcOf mem 1 a with
    | some (n, g, _) => some (⟨[sA s, .nv (.one (.own 0))], [.ro 1 n (gK (kOf g))], .tup [.one (.own 1), .one (.val (.int .i64 (if errT s (kOf g) n = 0 then (atN s (kOf g) n : Int) else 0))), .one (.val (.int .i64 (errT s (kOf g) n)))], [.ro 1 n (gK (kOf g)), .row 47 3 (if errT s (kOf g) n = 0 then n else 0) (gF (fldT s (kOf g)))]⟩, [s.size ≤ 140737488355328, n ≤ 1000])
    | none => none
  | _, _ => none
theorem spTake : SpOk Try.prog 24 (.lift gTake) := by
  intro args mem cs obl h ho
  unfold gTake at h
  split at h
  · split at h
    · simp only [Option.some.injEq, Prod.mk.injEq] at h
      obtain ⟨rfl, rfl⟩ := h
      exact fnTake _ _ _ ho.1 ho.2.1
    · cases h
  · cases h
theorem spRTake : SpOk Try.prog 16 (.lift gTake) := by
  intro args mem cs obl h ho
  unfold gTake at h
  split at h
  · split at h
    · simp only [Option.some.injEq, Prod.mk.injEq] at h
      obtain ⟨rfl, rfl⟩ := h
      exact fnRTake _ _ _ ho.1 ho.2.1
    · cases h
  · cases h
def GbG : List (FuncId × Sp) := (24, .lift gTake) :: (16, .lift gTake) :: GbF
theorem GbG_ok : CtxOk Try.prog GbG := ctx_cons (enter_of Try.func24 (by kernel_rfl) (by kernel_rfl)) spTake <|
  ctx_cons (enter_of Try.func16 (by kernel_rfl) (by kernel_rfl)) spRTake GbF_ok
end Go.Proofs.Ytecgigeahkijaaa

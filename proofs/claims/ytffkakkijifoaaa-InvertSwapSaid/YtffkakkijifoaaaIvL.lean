/- invert: the search, Count, Order, Late as specifications. No condition. -/
import Derived.Test.YtffkakkijifoaaaIvK
namespace Go.Proofs.Ytffkakkijifoaaa
set_option linter.unusedVariables false
set_option linter.unusedSimpArgs false
open Go.RowKit E
def sea (E : Nat → Int) (x : Int) (m : Nat) : Nat := bsr E x m 0 m
abbrev seS (n : Nat) (E : Nat → Int) (x : Int) (i j : Nat) : St := mkSt 26 [(1, .nv (.one (.clo 18 [.ptr 0 0, .ptr 1 0]))), (5, iA i), (6, iA j)] [.robox 22 [.own 2], .robox 24 [.val (.int .u64 x)], .ro 1 n (gU E)]
theorem se_loop (n : Nat) (E : Nat → Int) (x : Int) (hn : n ≤ 1000) : ∀ (f i j : Nat), j ≤ n → j - i ≤ f → LoopOk Try.prog 3 (loopOf Try.f17 0) (seS n E x i j) (.exit 0) (mkSt 26 [(5, iA (bsr E x f i j))] [.robox 22 [.own 2], .robox 24 [.val (.int .u64 x)], .ro 1 n (gU E)])
  | 0, i, j, hj, hf => .last (by simp) (se_e n i j E x (by omega))
  | f + 1, i, j, hj, hf => by
    unfold bsr
    by_cases hij : i < j
    · rw [if_pos hij]
      by_cases hx : x < E ((i + j) / 2)
      · rw [if_pos hx]
        exact .step (se_y n i j E x hn hij hj hx) (se_loop n E x hn f i _ (by omega) (by omega))
      · rw [if_neg hx]
        exact .step (se_n n i j E x hn hij hj hx) (se_loop n E x hn f _ j hj (by omega))
    · rw [if_neg hij]
      exact .last (by simp) (se_e n i j E x hij)
theorem bsr_le (E : Nat → Int) (x : Int) : ∀ (f i j : Nat), i ≤ j → bsr E x f i j ≤ j
  | 0, i, j, h => h
  | f + 1, i, j, h => by
    unfold bsr
    split
    · split
      · have := bsr_le E x f i ((i + j) / 2) (by omega); omega
      · exact bsr_le E x f _ j (by omega)
    · exact h
theorem fnSea (n : Nat) (E : Nat → Int) (x : Int) (hn : n ≤ 1000) : FnOk Try.prog 17 [iA n, .nv (.one (.clo 18 [.ptr 0 0, .ptr 1 0]))] [.robox 22 [.own 2], .robox 24 [.val (.int .u64 x)], .ro 1 n (gU E)] (iA (sea E x n : Nat)) [.gone, .gone, .gone] :=
  se_f n _ E x (se_loop n E x hn n 0 n (Nat.le_refl _) (Nat.le_refl _)).code
def gSea : List SV → List Seg → Option (CS × List Prop)
  | [.nv (.one (.val (.int .i64 m))), .nv (.one (.clo _ [.ptr a 0, .ptr b 0]))], mem => match cellA mem a, cellA mem b with
    | some s, some (.val (.int .u64 x)) => match srcOf mem 1 s with
      | some (n, g, _) => some (⟨[iA n, .nv (.one (.clo 18 [.ptr 0 0, .ptr 1 0]))], [.robox 22 [.own 2], .robox 24 [.val (.int .u64 x)], roU n (cF g)], iA (sea (cF g) x n : Nat), [.gone, .gone, .gone]⟩, [n ≤ 1000])
      | none => none
    | _, _ => none
  | _, _ => none
theorem spSea : SpOk Try.prog 17 (.lift gSea) := by
  intro args mem cs obl h ho
  unfold gSea at h
  split at h
  · split at h
    · split at h
      · simp only [Option.some.injEq, Prod.mk.injEq] at h
        obtain ⟨rfl, rfl⟩ := h
        exact fnSea _ _ _ ho.1
      · cases h
    · cases h
  · cases h
/-- Longest's row: so many, and the least ends. -/
structure En where
  m : Nat
  e : Nat → Int
def enS (L : Nat → Int) : Nat → En
  | 0 => ⟨0, z0⟩
  | i + 1 => ⟨if sea (enS L i).e (L i) (enS L i).m = (enS L i).m then (enS L i).m + 1 else (enS L i).m, putF (enS L i).e (sea (enS L i).e (L i) (enS L i).m) (L i)⟩
theorem enS_le (L : Nat → Int) : ∀ i, (enS L i).m ≤ i
  | 0 => Nat.le_refl _
  | i + 1 => by
    have := enS_le L i
    simp only [enS]
    split <;> omega
theorem fnCountP (N : Nat) (L : Nat → Int) (hN : N ≤ 1000) : FnOk Try.prog 7 [.nv (.one (.own 0))] [roU N L] (uA (sumW (srt L N).d N)) [.gone] := by
  refine co_f N L hN _ rfl _ ?_
  refine loop_ok (α := Nat) (fun i => mkSt 25 [(5, uA (sumW (srt L N).d i)), (13, .nv (.one (.own 1))), (14, iA N), (15, iA i)] [roU N L, rwI N (srt L N).d]) (fun i => i ≤ N) (fun i => N - i) (by simp) ?_ (x := 0) (Nat.zero_le _)
  intro i hi
  by_cases q : i < N
  · exact .inl ⟨i + 1, q, (show N - (i + 1) < N - i by omega), co_r N L hN _ _ i q⟩
  · have e : i = N := Nat.le_antisymm hi (by omega)
    subst e
    exact .inr (co_e _ L hN _ _)
def gCountP : List SV → List Seg → Option (CS × List Prop)
  | [.nv (.one a)], mem => match srcOf mem 1 a with
    | some (n, g, _) => some (⟨[.nv (.one (.own 0))], [roU n (cF g)], uA (sumW (srt (cF g) n).d n), [.gone]⟩, [n ≤ 1000])
    | none => none
  | _, _ => none
theorem spCountP : SpOk Try.prog 7 (.lift gCountP) := by
  intro args mem cs obl h ho
  unfold gCountP at h
  split at h
  · split at h
    · simp only [Option.some.injEq, Prod.mk.injEq] at h
      obtain ⟨rfl, rfl⟩ := h
      exact fnCountP _ _ ho.1
    · cases h
  · cases h
def gOrderP : List SV → List Seg → Option (CS × List Prop)
  | [.nv (.one a)], mem => match srcOf mem 1 a with
    | some (n, g, _) => some (⟨[.nv (.one (.own 0))], [roU n (cF g)], .nv (.one (.own 1)), [.gone, rwI n (srt (cF g) n).p]⟩, [n ≤ 1000])
    | none => none
  | _, _ => none
theorem spOrderP : SpOk Try.prog 10 (.lift gOrderP) := by
  intro args mem cs obl h ho
  unfold gOrderP at h
  split at h
  · split at h
    · simp only [Option.some.injEq, Prod.mk.injEq] at h
      obtain ⟨rfl, rfl⟩ := h
      exact or_f _ _ ho.1
    · cases h
  · cases h
def gLateP : List SV → List Seg → Option (CS × List Prop)
  | [.nv (.one a)], mem => match srcOf mem 1 a with
    | some (n, g, _) => some (⟨[.nv (.one (.own 0))], [roU n (cF g)], .nv (.one (.own 1)), [.gone, rwI n (srt (cF g) n).d]⟩, [n ≤ 1000])
    | none => none
  | _, _ => none
theorem spLateP : SpOk Try.prog 12 (.lift gLateP) := by
  intro args mem cs obl h ho
  unfold gLateP at h
  split at h
  · split at h
    · simp only [Option.some.injEq, Prod.mk.injEq] at h
      obtain ⟨rfl, rfl⟩ := h
      exact la_f _ _ ho.1
    · cases h
  · cases h
def Giv2 : List (FuncId × Sp) := (17, .lift gSea) :: (7, .lift gCountP) :: (10, .lift gOrderP) :: (12, .lift gLateP) :: Giv1
theorem Giv2_ok : CtxOk Try.prog Giv2 := ctx_cons (enter_of Try.func17 (by kernel_rfl) (by kernel_rfl)) spSea <|
  ctx_cons (enter_of Try.func7 (by kernel_rfl) (by kernel_rfl)) spCountP <|
  ctx_cons (enter_of Try.func10 (by kernel_rfl) (by kernel_rfl)) spOrderP <|
  ctx_cons (enter_of Try.func12 (by kernel_rfl) (by kernel_rfl)) spLateP Giv1_ok
end Go.Proofs.Ytffkakkijifoaaa

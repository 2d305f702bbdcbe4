/- invert: specifications of the document's functions, of Same, of the closure. No condition. -/
import Derived.Test.YtffkakkijifoaaaIvI
namespace Go.Proofs.Ytffkakkijifoaaa
set_option linter.unusedVariables false
set_option linter.unusedSimpArgs false
open Go.RowKit E
/-- Two rows of numbers are one. -/
def sameB (N M : Nat) (F G : Nat → Int) : Bool := decide (N = M ∧ ∀ i, i < N → F i = G i)
theorem fnSame (N M : Nat) (F G : Nat → Int) (hN : N ≤ 1000000) : FnOk Try.prog 9 [.nv (.one (.own 0)), .nv (.one (.own 1))] [.ro 1 N (gI F), .ro 1 M (gI G)] (bA (sameB N M F G)) [.gone, .gone] := by
  by_cases h : N = M
  case neg =>
    have e : sameB N M F G = false := decide_eq_false (fun q => h q.1)
    rw [e]; exact sm_x N M F G h
  subst h
  by_cases hs : ∀ i, i < N → F i = G i
  · have e : sameB N N F G = true := decide_eq_true ⟨rfl, hs⟩
    rw [e]
    refine sm_t N F G hN ?_
    refine loop_ok (α := Nat) (fun i => mkSt 26 [(0, .nv (.one (.own 0))), (1, .nv (.one (.own 1))), (5, iA i)] [.ro 1 N (gI F), .ro 1 N (gI G)]) (fun i => i ≤ N) (fun i => N - i) (by simp) ?_ (x := 0) (Nat.zero_le _)
    intro i hi
    by_cases q : i < N
    · exact .inl ⟨i + 1, q, (show N - (i + 1) < N - i by omega), sm_r N F G hN i q (hs i q)⟩
    · have e : i = N := Nat.le_antisymm hi (by omega)
      subst e
      exact .inr (sm_e _ F G hN)
  · have e : sameB N N F G = false := decide_eq_false (fun q => hs q.2)
    rw [e]
    refine sm_f N F G hN ?_
    have hx : ∃ i, i < N ∧ F i ≠ G i := by
      refine Classical.byContradiction fun q => hs fun i hi => Classical.byContradiction fun r => q ⟨i, hi, r⟩
    refine loop_ok (α := Nat) (fun i => mkSt 26 [(0, .nv (.one (.own 0))), (1, .nv (.one (.own 1))), (5, iA i)] [.ro 1 N (gI F), .ro 1 N (gI G)]) (fun i => ∃ j, i ≤ j ∧ j < N ∧ F j ≠ G j) (fun i => N - i) (by simp) ?_ (x := 0) (by obtain ⟨j, h1, h2⟩ := hx; exact ⟨j, Nat.zero_le _, h1, h2⟩)
    rintro i ⟨j, h1, h2, h3⟩
    by_cases q : F i = G i
    · refine .inl ⟨i + 1, ⟨j, ?_, h2, h3⟩, (show N - (i + 1) < N - i by omega), sm_r N F G hN i (by omega) q⟩
      rcases Nat.lt_or_ge i j with r | r
      · exact r
      · have : i = j := Nat.le_antisymm h1 r
        subst this; exact absurd q h3
    · exact .inr (sm_n N F G hN i (by omega) q)
def gLateD : List SV → List Seg → Option (CS × List Prop)
  | [.nv (.one a)], mem => match srcOf mem 1 a with
    | some (n, g, _) => some (⟨[.nv (.one (.own 0))], [roU n (cF g)], .nv (.one (.own 1)), [.gone, rwI n (lateT (cF g) n)]⟩, [n ≤ 1000])
    | none => none
  | _, _ => none
theorem spLateD : SpOk Try.prog 13 (.lift gLateD) := by
  intro args mem cs obl h ho
  unfold gLateD at h
  split at h
  · split at h
    · simp only [Option.some.injEq, Prod.mk.injEq] at h
      obtain ⟨rfl, rfl⟩ := h
      exact fnLateD _ _ ho.1
    · cases h
  · cases h
def gCountD : List SV → List Seg → Option (CS × List Prop)
  | [.nv (.one a)], mem => match srcOf mem 1 a with
    | some (n, g, _) => some (⟨[.nv (.one (.own 0))], [roU n (cF g)], uA (invD (cF g) n n : Nat), [.gone]⟩, [n ≤ 1000])
    | none => none
  | _, _ => none
theorem spCountD : SpOk Try.prog 8 (.lift gCountD) := by
  intro args mem cs obl h ho
  unfold gCountD at h
  split at h
  · split at h
    · simp only [Option.some.injEq, Prod.mk.injEq] at h
      obtain ⟨rfl, rfl⟩ := h
      exact fnCountD _ _ ho.1
    · cases h
  · cases h
def gOrderD : List SV → List Seg → Option (CS × List Prop)
  | [.nv (.one a)], mem => match srcOf mem 1 a with
    | some (n, g, _) => some (⟨[.nv (.one (.own 0))], [roU n (cF g)], .nv (.one (.own 1)), [.gone, rwI n (ordF (cF g) n n)]⟩, [n ≤ 1000])
    | none => none
  | _, _ => none
theorem spOrderD : SpOk Try.prog 11 (.lift gOrderD) := by
  intro args mem cs obl h ho
  unfold gOrderD at h
  split at h
  · split at h
    · simp only [Option.some.injEq, Prod.mk.injEq] at h
      obtain ⟨rfl, rfl⟩ := h
      exact fnOrderD _ _ ho.1
    · cases h
  · cases h
def gLongD : List SV → List Seg → Option (CS × List Prop)
  | [.nv (.one a)], mem => match srcOf mem 1 a with
    | some (n, g, _) => some (⟨[.nv (.one (.own 0))], [roU n (cF g)], iA (moR (cF g) n), [.gone]⟩, [n ≤ 1000])
    | none => none
  | _, _ => none
theorem spLongD : SpOk Try.prog 15 (.lift gLongD) := by
  intro args mem cs obl h ho
  unfold gLongD at h
  split at h
  · split at h
    · simp only [Option.some.injEq, Prod.mk.injEq] at h
      obtain ⟨rfl, rfl⟩ := h
      exact fnLongD _ _ ho.1
    · cases h
  · cases h
def gSame : List SV → List Seg → Option (CS × List Prop)
  | [.nv (.one a), .nv (.one b)], mem => match srcOf mem 1 a, srcOf mem 1 b with
    | some (n, g, _), some (m, g2, _) => some (⟨[.nv (.one (.own 0)), .nv (.one (.own 1))], [.ro 1 n (gI (cF g)), .ro 1 m (gI (cF g2))], bA (sameB n m (cF g) (cF g2)), [.gone, .gone]⟩, [n ≤ 1000000])
    | _, _ => none
  | _, _ => none
theorem spSame : SpOk Try.prog 9 (.lift gSame) := by
  intro args mem cs obl h ho
  unfold gSame at h
  split at h
  · split at h
    · simp only [Option.some.injEq, Prod.mk.injEq] at h
      obtain ⟨rfl, rfl⟩ := h
      exact fnSame _ _ _ _ ho.1
    · cases h
  · cases h
def cellA (mem : List Seg) (h : Nat) : Option At := match mem[h]? with
  | some (.box _ [a]) => some a
  | some (.robox _ [a]) => some a
  | _ => none
def gClo : List SV → List Seg → Option (CS × List Prop)
  | [.nv (.one (.val (.int .i64 i))), .nv (.one (.ptr a 0)), .nv (.one (.ptr b 0))], mem => match cellA mem a, cellA mem b with
    | some s, some (.val (.int .u64 x)) => match srcOf mem 1 s with
      | some (n, g, _) => some (⟨[iA i, .nv (.one (.ptr 0 0)), .nv (.one (.ptr 1 0))], [.robox 22 [.own 2], .robox 24 [.val (.int .u64 x)], roU n (cF g)], bA (decide (x < cF g i.toNat)), [.gone, .gone, .gone]⟩, [0 ≤ i, i < n])
      | none => none
    | _, _ => none
  | _, _ => none
theorem spClo : SpOk Try.prog 18 (.lift gClo) := by
  intro args mem cs obl h ho
  unfold gClo at h
  split at h
  · split at h
    · split at h
      · simp only [Option.some.injEq, Prod.mk.injEq] at h
        obtain ⟨rfl, rfl⟩ := h
        obtain ⟨o1, o2, _⟩ := ho
        rename_i i a b _ x _ _ _ _ n g _ _
        obtain ⟨i, rfl⟩ := Int.eq_ofNat_of_zero_le o1
        exact cl_f _ i _ _ (by omega)
      · cases h
    · cases h
  · cases h
/-- Of a row that never falls, the first place whose number is greater, searched by halves. -/
def bsr (E : Nat → Int) (x : Int) : Nat → Nat → Nat → Nat
  | 0, i, _ => i
  | f + 1, i, j => if i < j then if x < E ((i + j) / 2) then bsr E x f i ((i + j) / 2) else bsr E x f ((i + j) / 2 + 1) j else i
theorem half_w {i j : Nat} (hi : i ≤ 1000) (hj : j ≤ 1000) : IntKind.wrap .i64 (Int.fdiv (IntKind.wrap .u64 (IntKind.wrap .i64 ((i : Int) + (j : Int)))) (2 ^ 1)) = (((i + j) / 2 : Nat) : Int) := by
  rw [w64 (a := (i : Int) + j) (b := ((i + j : Nat) : Int)) (by omega) (by omega), wU64 (a := ((i + j : Nat) : Int)) rfl (by omega)]
  exact w64 (by rw [Int.fdiv_eq_ediv_of_nonneg _ (by decide)]; omega) (by omega)
def Giv1 : List (FuncId × Sp) := (9, .lift gSame) :: (18, .lift gClo) :: (16, .lift gSrt) :: (13, .lift gLateD) :: (8, .lift gCountD) :: (11, .lift gOrderD) :: (15, .lift gLongD) :: Giv0
theorem Giv1_ok : CtxOk Try.prog Giv1 := ctx_cons (enter_of Try.func9 (by kernel_rfl) (by kernel_rfl)) spSame <|
  ctx_cons (enter_of Try.func18 (by kernel_rfl) (by kernel_rfl)) spClo <|
  ctx_cons (enter_of Try.func16 (by kernel_rfl) (by kernel_rfl)) spSrt <|
  ctx_cons (enter_of Try.func13 (by kernel_rfl) (by kernel_rfl)) spLateD <|
  ctx_cons (enter_of Try.func8 (by kernel_rfl) (by kernel_rfl)) spCountD <|
  ctx_cons (enter_of Try.func11 (by kernel_rfl) (by kernel_rfl)) spOrderD <|
  ctx_cons (enter_of Try.func15 (by kernel_rfl) (by kernel_rfl)) spLongD Giv0_ok
end Go.Proofs.Ytffkakkijifoaaa

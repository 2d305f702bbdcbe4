/- Ranks: flows and rows, as specifications. No condition. -/
import Derived.Test.YtkgkelfdmkginaaRnC
namespace Go.Proofs.Ytkgkelfdmkginaa
set_option linter.unusedVariables false
set_option linter.unusedSimpArgs false
open Go.RowKit E

theorem fnIdxF (n : Nat) (F : Fl) (x : Int) (hn : n ≤ 4611686018427387904) :
    FnOk Try.prog 23 [.nv (.one (.own 0)), .nv (.one (.clo 24 [.ptr 1 0]))] [.ro 5 n (gFl F), .robox 32 [.val (.int .u32 x)]] (iA (idx F.id x n)) [.ro 5 n (gFl F), .robox 32 [.val (.int .u32 x)]] := by
  obtain ⟨h1, h2⟩ := search_loop (P := Try.prog) (m0 := 2) (c := loopOf Try.f23 0) (n := n) (T := F.id) (x := x)
    (fun k => mkSt 19 [(0, .nv (.one (.own 0))), (1, .nv (.one (.clo 24 [.ptr 1 0]))), (6, .nv (.one (.own 0))), (7, iA n), (8, iA k)] [.ro 5 n (gFl F), .robox 32 [.val (.int .u32 x)]])
    (fun k => mkSt 19 [(4, iA k)] [.ro 5 n (gFl F), .robox 32 [.val (.int .u32 x)]]) (X := .exit 0) (by simp)
    (fun k hk hx => ifx_n n k F x hk hx hn) (fun k hk hx => ifx_f n k F x hk hx hn) (ifx_e n F x)
  rcases idx_cases F.id x n with h | ⟨i, h⟩
  · rw [h]; exact ifx_no n F x (h1 h)
  · rw [h]; exact ifx_yes n i F x (h2 i h)

def chkF (n : Nat) (F : Fl) : Int := if n = 0 ∨ 64 < n then 29 else if dup F.id n = true then 30 else 0
theorem fnFlows (n : Nat) (F : Fl) : FnOk Try.prog 28 [.nv (.one (.own 0))] [.ro 5 n (gFl F)] (iA (chkF n F)) [.ro 5 n (gFl F)] := by
  unfold chkF
  by_cases h0 : n = 0
  · subst h0; rw [if_pos (.inl rfl)]; exact flows_none F
  by_cases h1 : 64 < n
  · rw [if_pos (.inr h1)]; exact flows_many n F h1
  rw [if_neg (by omega)]
  have inner : ∀ i, i < n → (idx F.id (F.id i) i = -1 → CodeOk Try.prog 1 (loopOf Try.f28 0) (mkSt 35 [(0, .nv (.one (.own 0))), (3, iA i)] [.ro 5 n (gFl F)]) .normal (mkSt 35 [(0, .nv (.one (.own 0))), (3, iA (i + 1 : Nat))] [.ro 5 n (gFl F)])) ∧
      (0 ≤ idx F.id (F.id i) i → CodeOk Try.prog 1 (loopOf Try.f28 0) (mkSt 35 [(0, .nv (.one (.own 0))), (3, iA i)] [.ro 5 n (gFl F)]) .ret (mkSt 35 [(2, iA 30)] [.ro 5 n (gFl F)])) := by
    intro i hi
    obtain ⟨a, b⟩ := search_loop (P := Try.prog) (m0 := 1) (c := loopOf Try.f28 1) (n := i) (T := F.id) (x := F.id i)
      (fun k => mkSt 35 [(0, .nv (.one (.own 0))), (3, iA i), (4, iA k)] [.ro 5 n (gFl F)]) (fun _ => mkSt 35 [(2, iA 30)] [.ro 5 n (gFl F)]) (X := .exit 2) (by simp)
      (fun k hk hx => fin_n n i k F hi hk (by omega) hx) (fun k hk hx => fin_f n i k F hi hk (by omega) hx) (fin_e n i F hi (by omega))
    constructor
    · intro h; exact fo_n n i F hi (by omega) (a h)
    · intro h
      rcases idx_cases F.id (F.id i) i with q | ⟨j, q⟩
      · omega
      · exact fo_f n i F hi (by omega) (b j q)
  cases hd : dup F.id n with
  | false =>
    rw [if_neg (by simp)]
    refine flows_ok n F (by omega) (by omega) ?_
    exact count_loop (P := Try.prog) (m0 := 1) (c := loopOf Try.f28 0) (n := n) (fun i => mkSt 35 [(0, .nv (.one (.own 0))), (3, iA i)] [.ro 5 n (gFl F)]) (X := .exit 0) (by simp)
      (fun i hi => (inner i hi).1 (dup_false hd i hi)) (fo_e n F (by omega))
  | true =>
    rw [if_pos rfl]
    refine flows_dup n F (by omega) (by omega) ?_
    obtain ⟨i, hi, h2, h3⟩ := dup_true hd
    exact count_loop (P := Try.prog) (m0 := 1) (c := loopOf Try.f28 0) (n := i) (fun i => mkSt 35 [(0, .nv (.one (.own 0))), (3, iA i)] [.ro 5 n (gFl F)]) (X := .ret) (by simp)
      (fun k hk => (inner k (by omega)).1 (h3 k hk)) ((inner i hi).2 h2)

def gContains : List SV → List Seg → Option (CS × List Prop)
  | [.nv (.one a), .nv (.one (.val (.int .u32 x)))], mem => match srcOf mem 1 a with
    | some (n, g, _) => some (⟨[.nv (.one (.own 0)), .nv (.one (.val (.int .u32 x)))], [.ro 1 n (gU32 (colOf g))], bA (decide (0 ≤ idx (colOf g) x n)), [.ro 1 n (gU32 (colOf g))]⟩, [n ≤ 4611686018427387904])
    | none => none
  | _, _ => none
theorem spContains : SpOk Try.prog 33 (.lift gContains) := by
  intro args mem cs obl h ho
  unfold gContains at h
  split at h
  · split at h
    · simp only [Option.some.injEq, Prod.mk.injEq] at h
      obtain ⟨rfl, rfl⟩ := h
      exact contains _ _ _ ho.1
    · cases h
  · cases h
/-- What a box holds. -/
def boxAt (mem : List Seg) (h : Nat) : Option (List At) := match mem[h]? with | some s => boxCells s | none => none
def gIdxF : List SV → List Seg → Option (CS × List Prop)
  | [.nv (.one a), .nv (.one (.clo f [.ptr h 0]))], mem => if f = 24 then match srcOf mem 5 a, boxAt mem h with
    | some (n, g, _), some [.val (.int .u32 x)] => some (⟨[.nv (.one (.own 0)), .nv (.one (.clo 24 [.ptr 1 0]))], [.ro 5 n (gFl (flOf g)), .robox 32 [.val (.int .u32 x)]], iA (idx (flOf g).id x n), [.ro 5 n (gFl (flOf g)), .robox 32 [.val (.int .u32 x)]]⟩, [n ≤ 4611686018427387904])
    | _, _ => none
    else none
  | _, _ => none
theorem spIdxF : SpOk Try.prog 23 (.lift gIdxF) := by
  intro args mem cs obl h ho
  unfold gIdxF at h
  split at h
  · split at h
    · split at h
      · simp only [Option.some.injEq, Prod.mk.injEq] at h
        obtain ⟨rfl, rfl⟩ := h
        exact fnIdxF _ _ _ ho.1
      · cases h
    · cases h
  · cases h
def gFlows : List SV → List Seg → Option (CS × List Prop)
  | [.nv (.one a)], mem => match srcOf mem 5 a with
    | some (n, g, _) => some (⟨[.nv (.one (.own 0))], [.ro 5 n (gFl (flOf g))], iA (chkF n (flOf g)), [.ro 5 n (gFl (flOf g))]⟩, [])
    | none => none
  | _, _ => none
theorem spFlows : SpOk Try.prog 28 (.lift gFlows) := by
  intro args mem cs obl h ho
  unfold gFlows at h
  split at h
  · split at h
    · simp only [Option.some.injEq, Prod.mk.injEq] at h
      obtain ⟨rfl, rfl⟩ := h
      exact fnFlows _ _
    · cases h
  · cases h
def gCloneF : List SV → List Seg → Option (CS × List Prop)
  | [.nv (.one a)], mem => match srcOf mem 5 a with
    | some (n, g, _) => some (⟨[.nv (.one (.own 0))], [.ro 5 n (gFl (flOf g))], .nv (.one (.own 1)), [.ro 5 n (gFl (flOf g)), .row 56 5 n (gFl (flOf g))]⟩, [1 ≤ n, n ≤ 4096])
    | none => none
  | _, _ => none
theorem spCloneF : SpOk Try.prog 22 (.lift gCloneF) := by
  intro args mem cs obl h ho
  unfold gCloneF at h
  split at h
  · split at h
    · simp only [Option.some.injEq, Prod.mk.injEq] at h
      obtain ⟨rfl, rfl⟩ := h
      exact clone_flow _ _ ho.1 ho.2.1
    · cases h
  · cases h
def gCloneU : List SV → List Seg → Option (CS × List Prop)
  | [.nv (.one a)], mem => match srcOf mem 1 a with
    | some (n, g, _) => some (⟨[.nv (.one (.own 0))], [.ro 1 n (gU64 (colOf g))], .nv (.one (.own 1)), [.ro 1 n (gU64 (colOf g)), .row 31 1 n (gU64 (colOf g))]⟩, [1 ≤ n, n ≤ 4096])
    | none => none
  | _, _ => none
theorem spCloneU : SpOk Try.prog 32 (.lift gCloneU) := by
  intro args mem cs obl h ho
  unfold gCloneU at h
  split at h
  · split at h
    · simp only [Option.some.injEq, Prod.mk.injEq] at h
      obtain ⟨rfl, rfl⟩ := h
      exact clone_u64 _ _ ho.1 ho.2.1
    · cases h
  · cases h
def Grq : List (FuncId × Sp) := (33, .lift gContains) :: (23, .lift gIdxF) :: (28, .lift gFlows) :: (22, .lift gCloneF) :: (32, .lift gCloneU) :: Grn
theorem Grq_ok : CtxOk Try.prog Grq := ctx_cons (enter_of Try.func33 (by kernel_rfl) (by kernel_rfl)) spContains <| ctx_cons (enter_of Try.func23 (by kernel_rfl) (by kernel_rfl)) spIdxF <|
  ctx_cons (enter_of Try.func28 (by kernel_rfl) (by kernel_rfl)) spFlows <| ctx_cons (enter_of Try.func22 (by kernel_rfl) (by kernel_rfl)) spCloneF <|
  ctx_cons (enter_of Try.func32 (by kernel_rfl) (by kernel_rfl)) spCloneU Grn_ok
abbrev mxU (v t : Int) : Int := if t > v then t else v
end Go.Proofs.Ytkgkelfdmkginaa

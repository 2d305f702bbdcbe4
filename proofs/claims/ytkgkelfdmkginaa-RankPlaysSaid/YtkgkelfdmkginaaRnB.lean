/- Ranks: places of numbers, as specifications. No condition. -/
import Derived.Test.YtkgkelfdmkginaaRnA
namespace Go.Proofs.Ytkgkelfdmkginaa
set_option linter.unusedVariables false
set_option linter.unusedSimpArgs false
open Go.RowKit E

theorem idx_cases (T : Nat → Int) (x : Int) (n : Nat) : idx T x n = -1 ∨ ∃ i : Nat, idx T x n = i := by
  have := idx_bd T x n
  by_cases h : idx T x n = -1
  · exact .inl h
  · exact .inr ⟨(idx T x n).toNat, by omega⟩

theorem fnIndex (n : Nat) (T : Nat → Int) (x : Int) (hn : n ≤ 4611686018427387904) :
    FnOk Try.prog 40 [.nv (.one (.own 0)), .nv (.one (.val (.int .u32 x)))] [.ro 1 n (gU32 T)] (iA (idx T x n)) [.ro 1 n (gU32 T)] := by
  obtain ⟨h1, h2⟩ := search_loop (P := Try.prog) (m0 := 1) (c := loopOf Try.f40 0) (n := n) (T := T) (x := x)
    (fun k => mkSt 19 [(0, .nv (.one (.own 0))), (1, .nv (.one (.val (.int .u32 x)))), (6, .nv (.one (.own 0))), (7, iA n), (8, iA k)] [.ro 1 n (gU32 T)]) (fun k => mkSt 19 [(4, iA k)] [.ro 1 n (gU32 T)]) (X := .exit 0) (by simp)
    (fun k hk hx => index_n n k T x hk hx hn) (fun k hk hx => index_f n k T x hk hx hn) (index_e n T x)
  rcases idx_cases T x n with h | ⟨i, h⟩
  · rw [h]; exact index_no n T x (h1 h)
  · rw [h]; exact index_yes n i T x (h2 i h)
theorem fnFind (n : Nat) (F : Fl) (x : Int) (hn : n ≤ 4611686018427387904) :
    FnOk Try.prog 11 [.nv (.one (.own 0)), .nv (.one (.val (.int .u32 x)))] [.ro 5 n (gFl F)] (iA (idx F.id x n)) [.ro 5 n (gFl F)] := by
  obtain ⟨h1, h2⟩ := search_loop (P := Try.prog) (m0 := 1) (c := loopOf Try.f11 0) (n := n) (T := F.id) (x := x)
    (fun k => mkSt 20 [(0, .nv (.one (.own 0))), (1, .nv (.one (.val (.int .u32 x)))), (5, iA k)] [.ro 5 n (gFl F)]) (fun k => mkSt 20 [(4, iA k)] [.ro 5 n (gFl F)]) (X := .exit 0) (by simp)
    (fun k hk hx => find_n n k F x hk hx hn) (fun k hk hx => find_f n k F x hk hx hn) (find_e n F x)
  rcases idx_cases F.id x n with h | ⟨i, h⟩
  · rw [h]; exact find_no n F x (h1 h)
  · rw [h]; exact find_yes n i F x (h2 i h)
theorem fnSame (n : Nat) (T U : Nat → Int) (hn : n ≤ 4611686018427387904) (h : ∀ k, k < n → T k = U k) :
    FnOk Try.prog 19 [.nv (.one (.own 0)), .nv (.one (.own 1))] [.ro 1 n (gU64 T), .ro 1 n (gU64 U)] (bA true) [.ro 1 n (gU64 T), .ro 1 n (gU64 U)] :=
  same_yes n T U (count_loop (P := Try.prog) (m0 := 2) (c := loopOf Try.f19 0) (n := n) (fun k => mkSt 26 [(0, .nv (.one (.own 0))), (1, .nv (.one (.own 1))), (5, iA k)] [.ro 1 n (gU64 T), .ro 1 n (gU64 U)]) (X := .exit 0) (by simp)
    (fun k hk => same_n n k T U hk (h k hk) hn) (same_e n T U))

def gIndex : List SV → List Seg → Option (CS × List Prop)
  | [.nv (.one a), .nv (.one (.val (.int .u32 x)))], mem => match srcOf mem 1 a with
    | some (n, g, _) => some (⟨[.nv (.one (.own 0)), .nv (.one (.val (.int .u32 x)))], [.ro 1 n (gU32 (colOf g))], iA (idx (colOf g) x n), [.ro 1 n (gU32 (colOf g))]⟩, [n ≤ 4611686018427387904])
    | none => none
  | _, _ => none
def gFind : List SV → List Seg → Option (CS × List Prop)
  | [.nv (.one a), .nv (.one (.val (.int .u32 x)))], mem => match srcOf mem 5 a with
    | some (n, g, _) => some (⟨[.nv (.one (.own 0)), .nv (.one (.val (.int .u32 x)))], [.ro 5 n (gFl (flOf g))], iA (idx (flOf g).id x n), [.ro 5 n (gFl (flOf g))]⟩, [n ≤ 4611686018427387904])
    | none => none
  | _, _ => none
def sameG (n : Nat) (T U : Nat → Int) : Prop := ∀ k, k < n → T k = U k
def gSame : List SV → List Seg → Option (CS × List Prop)
  | [.nv (.one a), .nv (.one b)], mem => match srcOf mem 1 a, srcOf mem 1 b with
    | some (n, g, _), some (m, g', _) => some (⟨[.nv (.one (.own 0)), .nv (.one (.own 1))], [.ro 1 n (gU64 (colOf g)), .ro 1 m (gU64 (colOf g'))], bA true, [.ro 1 n (gU64 (colOf g)), .ro 1 m (gU64 (colOf g'))]⟩, [n = m, n ≤ 4611686018427387904, sameG n (colOf g) (colOf g')])
    | _, _ => none
  | _, _ => none
def gNx1 : List SV → List Seg → Option (CS × List Prop)
  | [.nv (.agg [.val (.int .u32 i), .val (.int .u64 c), .val (.int .u64 b), .val (.int .u64 s), .val (.int .u64 p)]), .nv (.one (.ptr h 0))], mem => match mem[h]? with
    | some (.robox _ [.val (.int .u32 x)]) => some (⟨[.nv (.agg (flA i c b s p)), .nv (.one (.ptr 0 0))], [.robox 32 [.val (.int .u32 x)]], bA (i == x), [.robox 32 [.val (.int .u32 x)]]⟩, [])
    | some (.box _ [.val (.int .u32 x)]) => some (⟨[.nv (.agg (flA i c b s p)), .nv (.one (.ptr 0 0))], [.robox 32 [.val (.int .u32 x)]], bA (i == x), [.robox 32 [.val (.int .u32 x)]]⟩, [])
    | _ => none
  | _, _ => none
theorem spIndex : SpOk Try.prog 40 (.lift gIndex) := by
  intro args mem cs obl h ho
  unfold gIndex at h
  split at h
  · split at h
    · simp only [Option.some.injEq, Prod.mk.injEq] at h
      obtain ⟨rfl, rfl⟩ := h
      exact fnIndex _ _ _ ho.1
    · cases h
  · cases h
theorem spFind : SpOk Try.prog 11 (.lift gFind) := by
  intro args mem cs obl h ho
  unfold gFind at h
  split at h
  · split at h
    · simp only [Option.some.injEq, Prod.mk.injEq] at h
      obtain ⟨rfl, rfl⟩ := h
      exact fnFind _ _ _ ho.1
    · cases h
  · cases h
theorem spSame : SpOk Try.prog 19 (.lift gSame) := by
  intro args mem cs obl h ho
  unfold gSame at h
  split at h
  · split at h
    · simp only [Option.some.injEq, Prod.mk.injEq] at h
      obtain ⟨rfl, rfl⟩ := h
      obtain ⟨rfl, h1, h2, _⟩ := ho
      exact fnSame _ _ _ h1 h2
    · cases h
  · cases h
theorem spNx1 : SpOk Try.prog 24 (.lift gNx1) := by
  intro args mem cs obl h ho
  unfold gNx1 at h
  split at h
  · split at h
    · simp only [Option.some.injEq, Prod.mk.injEq] at h
      obtain ⟨rfl, rfl⟩ := h
      exact nx1 _ _ _ _ _ _
    · simp only [Option.some.injEq, Prod.mk.injEq] at h
      obtain ⟨rfl, rfl⟩ := h
      exact nx1 _ _ _ _ _ _
    · cases h
  · cases h
def Grn : List (FuncId × Sp) := (40, .lift gIndex) :: (11, .lift gFind) :: (19, .lift gSame) :: (24, .lift gNx1) :: Grk
theorem Grn_ok : CtxOk Try.prog Grn := ctx_cons (enter_of Try.func40 (by kernel_rfl) (by kernel_rfl)) spIndex <| ctx_cons (enter_of Try.func11 (by kernel_rfl) (by kernel_rfl)) spFind <|
  ctx_cons (enter_of Try.func19 (by kernel_rfl) (by kernel_rfl)) spSame <| ctx_cons (enter_of Try.func24 (by kernel_rfl) (by kernel_rfl)) spNx1 Grk_ok
end Go.Proofs.Ytkgkelfdmkginaa

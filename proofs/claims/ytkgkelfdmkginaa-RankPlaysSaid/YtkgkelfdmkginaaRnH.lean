/- Ranks: New, Sent, Virtual, Tags, as specifications. No condition. -/
import Derived.Test.YtkgkelfdmkginaaRnG
namespace Go.Proofs.Ytkgkelfdmkginaa
set_option linter.unusedVariables false
set_option linter.unusedSimpArgs false
open Go.RowKit E

def chkR (k : Int) (n : Nat) (F : Fl) : Int := if k < 1 ∨ 3 < k then 22 else chkF n F
theorem chkR_ok {k : Int} {n : Nat} {F : Fl} : chkR k n F = 0 ↔ (1 ≤ k ∧ k ≤ 3) ∧ 1 ≤ n ∧ n ≤ 64 ∧ dup F.id n = false := by
  unfold chkR chkF
  constructor
  · intro h
    split at h
    · cases h
    · split at h
      · cases h
      · split at h
        · cases h
        · rename_i q; exact ⟨by omega, by omega, by omega, by simpa using q⟩
  · rintro ⟨h1, h2, h3, h4⟩
    rw [if_neg (by omega), if_neg (by omega), h4]; rfl
theorem fnNewErr (k : Int) (n : Nat) (F : Fl) (h : chkR k n F ≠ 0) : FnOk Try.prog 8 [iA k, .nv (.one (.own 0))] [.ro 5 n (gFl F)] (.tup [.one (.val (.pointer none)), .one (.val (.int .i64 (chkR k n F)))]) [.ro 5 n (gFl F)] := by
  unfold chkR at h ⊢
  by_cases h1 : k < 1
  · rw [if_pos (.inl h1)]; exact new_k k n F h1
  by_cases h2 : 3 < k
  · rw [if_pos (.inr h2)]; exact new_k3 k n F h2
  rw [if_neg (by omega)] at h ⊢
  unfold chkF at h ⊢
  by_cases h3 : n = 0
  · subst h3; rw [if_pos (.inl rfl)]; exact new_0 k F (by omega)
  by_cases h4 : 64 < n
  · rw [if_pos (.inr h4)]; exact new_64 k n F (by omega) h4
  rw [if_neg (by omega)] at h ⊢
  by_cases h5 : dup F.id n = true
  · rw [if_pos h5]; exact new_d k n F (by omega) (by omega) (by omega) h5
  · rw [if_neg h5] at h; exact (h rfl).elim
theorem fnCheck (k : Int) (n : Nat) (F : Fl) : FnOk Try.prog 13 [iA k, .nv (.one (.own 0))] [.ro 5 n (gFl F)] (iA (chkR k n F)) [.ro 5 n (gFl F)] := by
  unfold chkR
  by_cases h1 : k < 1
  · rw [if_pos (.inl h1)]; exact check_k k n F h1
  by_cases h2 : 3 < k
  · rw [if_pos (.inr h2)]; exact check_k3 k n F h2
  rw [if_neg (by omega)]; exact check_f k n F (by omega)
abbrev newMem (k : Int) (n : Nat) (F : Fl) : List Seg := [.ro 5 n (gFl F), .box 60 [.val (.int .i64 k), .own 2, .own 3, .val (.int .u64 0)], .row 56 5 n (gFl F), .row 31 1 n (gU64 (tag0 k F))]
theorem fnNew (k : Int) (n : Nat) (F : Fl) (h : 1 ≤ k ∧ k ≤ 3) (h1 : 1 ≤ n) (hn : n ≤ 64) (hd : dup F.id n = false) : FnOk Try.prog 8 [iA k, .nv (.one (.own 0))] [.ro 5 n (gFl F)] (.tup [.one (.ptr 1 0), .one (.val (.int .i64 0))]) (newMem k n F) := by
  refine new_ok k n F h h1 hn hd ?_
  refine count_loop (P := Try.prog) (m0 := 1) (c := loopOf Try.f8 0) (n := n) (fun i => mkSt 56 [(0, iA k), (6, .nv (.one (.ptr 2 0))), (34, .nv (.one (.own 0))), (35, iA n), (36, iA i)] [.ro 5 n (gFl F), .row 56 5 n (gFl F), .box 60 [.val (.int .i64 k), .own 1, .own 3, .val (.int .u64 0)], .row 31 1 i (gU64 (tag0 k F))]) (X := .exit 1) (by simp)
    (fun i hi => ?_) (nw_e k n F hn)
  by_cases h3 : k = 3
  · exact nw_n3 k n i F h3 hi hn
  · exact nw_n k n i F h3 hi hn
abbrev rnewMem (k : Int) (n : Nat) (F : Fl) : List Seg := [.ro 5 n (gFl F), .box 50 [.val (.int .i64 k), .own 0, .own 2, .val (.int .u64 0)], .row 31 1 n (gU64 (tag0 k F))]
theorem fnRNew (k : Int) (n : Nat) (F : Fl) (hn : n ≤ 64) : FnOk Try.prog 14 [iA k, .nv (.one (.own 0))] [.ro 5 n (gFl F)] (.nv (.one (.ptr 1 0))) (rnewMem k n F) := by
  refine rnew k n F hn ?_
  refine count_loop (P := Try.prog) (m0 := 1) (c := loopOf Try.f14 0) (n := n) (fun i => mkSt 36 [(0, iA k), (1, .nv (.one (.own 0))), (5, .nv (.one (.ptr 1 0))), (6, iA i)] [.ro 5 n (gFl F), .box 50 [.val (.int .i64 k), .own 0, .own 2, .val (.int .u64 0)], .row 31 1 i (gU64 (tag0 k F))]) (X := .exit 0) (by simp)
    (fun i hi => ?_) (rw_e k n F hn)
  by_cases h3 : k = 3
  · exact rw_n3 k n i F h3 hi hn
  · exact rw_n k n i F h3 hi hn

def gNewOk : List SV → List Seg → Option (CS × List Prop)
  | [.nv (.one (.val (.int .i64 k))), .nv (.one a)], mem => match srcOf mem 5 a with
    | some (n, g, _) => some (⟨[iA k, .nv (.one (.own 0))], [.ro 5 n (gFl (flOf g))], .tup [.one (.ptr 1 0), .one (.val (.int .i64 0))], newMem k n (flOf g)⟩, [1 ≤ k, k ≤ 3, 1 ≤ n, n ≤ 64, dup (flOf g).id n = false])
    | none => none
  | _, _ => none
def gNewErr : List SV → List Seg → Option (CS × List Prop)
  | [.nv (.one (.val (.int .i64 k))), .nv (.one a)], mem => match srcOf mem 5 a with
    | some (n, g, _) => some (⟨[iA k, .nv (.one (.own 0))], [.ro 5 n (gFl (flOf g))], .tup [.one (.val (.pointer none)), .one (.val (.int .i64 (chkR k n (flOf g))))], [.ro 5 n (gFl (flOf g))]⟩, [chkR k n (flOf g) ≠ 0])
    | none => none
  | _, _ => none
def gCheck : List SV → List Seg → Option (CS × List Prop)
  | [.nv (.one (.val (.int .i64 k))), .nv (.one a)], mem => match srcOf mem 5 a with
    | some (n, g, _) => some (⟨[iA k, .nv (.one (.own 0))], [.ro 5 n (gFl (flOf g))], iA (chkR k n (flOf g)), [.ro 5 n (gFl (flOf g))]⟩, [])
    | none => none
  | _, _ => none
def gRNew : List SV → List Seg → Option (CS × List Prop)
  | [.nv (.one (.val (.int .i64 k))), .nv (.one a)], mem => match srcOf mem 5 a with
    | some (n, g, _) => some (⟨[iA k, .nv (.one (.own 0))], [.ro 5 n (gFl (flOf g))], .nv (.one (.ptr 1 0)), rnewMem k n (flOf g)⟩, [n ≤ 64])
    | none => none
  | _, _ => none
theorem spNewOk : SpOk Try.prog 8 (.lift gNewOk) := by
  intro args mem cs obl h ho
  unfold gNewOk at h
  split at h
  · split at h
    · simp only [Option.some.injEq, Prod.mk.injEq] at h
      obtain ⟨rfl, rfl⟩ := h
      obtain ⟨o1, o2, o3, o4, o5, _⟩ := ho
      exact fnNew _ _ _ ⟨o1, o2⟩ o3 o4 o5
    · cases h
  · cases h
theorem spNewErr : SpOk Try.prog 8 (.lift gNewErr) := by
  intro args mem cs obl h ho
  unfold gNewErr at h
  split at h
  · split at h
    · simp only [Option.some.injEq, Prod.mk.injEq] at h
      obtain ⟨rfl, rfl⟩ := h
      exact fnNewErr _ _ _ ho.1
    · cases h
  · cases h
theorem spCheck : SpOk Try.prog 13 (.lift gCheck) := by
  intro args mem cs obl h ho
  unfold gCheck at h
  split at h
  · split at h
    · simp only [Option.some.injEq, Prod.mk.injEq] at h
      obtain ⟨rfl, rfl⟩ := h
      exact fnCheck _ _ _
    · cases h
  · cases h
theorem spRNew : SpOk Try.prog 14 (.lift gRNew) := by
  intro args mem cs obl h ho
  unfold gRNew at h
  split at h
  · split at h
    · simp only [Option.some.injEq, Prod.mk.injEq] at h
      obtain ⟨rfl, rfl⟩ := h
      exact fnRNew _ _ _ ho.1
    · cases h
  · cases h
def gSent : List SV → List Seg → Option (CS × List Prop)
  | [.nv (.one (.ptr h 0)), .nv (.one (.val (.int .u64 r)))], mem => match rkAt mem h with
    | some (k, v, (n, gf), (n', gt)) => some (⟨[.nv (.one (.ptr 0 0)), uA r], [.box 60 (rkBox k v), .ro 5 n (gFl (flOf gf)), .ro 1 n' (gU64 (colOf gt))], .any, [.box 60 (rkBox k (if k = 1 then r else v)), .ro 5 n (gFl (flOf gf)), .ro 1 n' (gU64 (colOf gt))]⟩, [])
    | none => none
  | [.nv (.one (.val (.pointer none))), .nv (.one (.val (.int .u64 r)))], _ => some (⟨[.nv (.one (.val (.pointer none))), uA r], [], .any, []⟩, [])
  | _, _ => none
theorem spSent : SpOk Try.prog 9 (.lift gSent) := by
  intro args mem cs obl h ho
  unfold gSent at h
  split at h
  · split at h
    · rename_i k v n gf n' gt _
      simp only [Option.some.injEq, Prod.mk.injEq] at h
      obtain ⟨rfl, rfl⟩ := h
      by_cases e : k = 1
      · subst e; rw [if_pos rfl]; exact sent_1 1 v _ n n' _ _
      · rw [if_neg e]; exact sent_0 k v _ n n' _ _ e
    · cases h
  · simp only [Option.some.injEq, Prod.mk.injEq] at h
    obtain ⟨rfl, rfl⟩ := h
    exact sent_nil _
  · cases h
def gRSent : List SV → List Seg → Option (CS × List Prop)
  | [.nv (.one (.ptr h 0)), .nv (.one (.val (.int .u64 r)))], mem => match rkAt mem h with
    | some (k, v, (n, gf), (n', gt)) => some (⟨[.nv (.one (.ptr 0 0)), uA r], [.box 50 (rkBox k v), .ro 5 n (gFl (flOf gf)), .ro 1 n' (gU64 (colOf gt))], .any, [.box 50 (rkBox k (if k = 1 then r else v)), .ro 5 n (gFl (flOf gf)), .ro 1 n' (gU64 (colOf gt))]⟩, [])
    | none => none
  | _, _ => none
theorem spRSent : SpOk Try.prog 15 (.lift gRSent) := by
  intro args mem cs obl h ho
  unfold gRSent at h
  split at h
  · split at h
    · rename_i k v n gf n' gt _
      simp only [Option.some.injEq, Prod.mk.injEq] at h
      obtain ⟨rfl, rfl⟩ := h
      by_cases e : k = 1
      · subst e; rw [if_pos rfl]; exact rsent_1 1 v _ n n' _ _
      · rw [if_neg e]; exact rsent_0 k v _ n n' _ _ e
    · cases h
  · cases h
def gVirt : List SV → List Seg → Option (CS × List Prop)
  | [.nv (.one (.ptr h 0))], mem => match boxAt mem h with
    | some [.val (.int .i64 k), _, _, .val (.int .u64 v)] => some (⟨[.nv (.one (.ptr 0 0))], [.robox 60 [.val (.int .i64 k), .any, .any, .val (.int .u64 v)]], uA v, [.robox 60 [.val (.int .i64 k), .any, .any, .val (.int .u64 v)]]⟩, [])
    | _ => none
  | [.nv (.one (.val (.pointer none)))], _ => some (⟨[.nv (.one (.val (.pointer none)))], [], uA 0, []⟩, [])
  | _, _ => none
theorem spVirt : SpOk Try.prog 12 (.lift gVirt) := by
  intro args mem cs obl h ho
  unfold gVirt at h
  split at h
  · split at h
    · simp only [Option.some.injEq, Prod.mk.injEq] at h
      obtain ⟨rfl, rfl⟩ := h
      exact virt _ _
    · cases h
  · simp only [Option.some.injEq, Prod.mk.injEq] at h
    obtain ⟨rfl, rfl⟩ := h
    exact virt_nil
  · cases h
def gTags : List SV → List Seg → Option (CS × List Prop)
  | [.nv (.one (.ptr h 0))], mem => match boxAt mem h with
    | some [.val (.int .i64 k), _, a, .val (.int .u64 v)] => match srcOf mem 1 a with
      | some (n, g, _) => some (⟨[.nv (.one (.ptr 0 0))], [.robox 60 [.val (.int .i64 k), .any, .own 1, .val (.int .u64 v)], .ro 1 n (gU64 (colOf g))], .nv (.one (.own 2)), [.robox 60 [.val (.int .i64 k), .any, .own 1, .val (.int .u64 v)], .ro 1 n (gU64 (colOf g)), .row 31 1 n (gU64 (colOf g))]⟩, [1 ≤ n, n ≤ 64])
      | none => none
    | _ => none
  | [.nv (.one (.val (.pointer none)))], _ => some (⟨[.nv (.one (.val (.pointer none)))], [], .nv (.one (.val (.slice none 0 0))), []⟩, [])
  | _, _ => none
theorem spTags : SpOk Try.prog 20 (.lift gTags) := by
  intro args mem cs obl h ho
  unfold gTags at h
  split at h
  · split at h
    · split at h
      · simp only [Option.some.injEq, Prod.mk.injEq] at h
        obtain ⟨rfl, rfl⟩ := h
        exact tags _ _ _ _ ho.1 ho.2.1
      · cases h
    · cases h
  · simp only [Option.some.injEq, Prod.mk.injEq] at h
    obtain ⟨rfl, rfl⟩ := h
    exact tags_nil
  · cases h
/-- Next and Lay of one that nobody made. -/
def gNextN : List SV → List Seg → Option (CS × List Prop)
  | [.nv (.one (.val (.pointer none))), .nv (.one (.val (.int .u64 now))), .nv (.one (.val (.int .u32 x))), .nv (.one (.val (.int .u64 m)))], _ => some (⟨[.nv (.one (.val (.pointer none))), uA now, .nv (.one (.val (.int .u32 x))), uA m], [], pairS 0 10, []⟩, [])
  | _, _ => none
theorem spNextN : SpOk Try.prog 10 (.lift gNextN) := by
  intro args mem cs obl h ho
  unfold gNextN at h
  split at h
  · simp only [Option.some.injEq, Prod.mk.injEq] at h
    obtain ⟨rfl, rfl⟩ := h
    exact next_nil _ _ _
  · cases h
def gLayN : List SV → List Seg → Option (CS × List Prop)
  | [.nv (.one (.val (.pointer none))), .nv (.one (.val (.int .u64 v))), .nv (.one (.val (.slice none 0 0)))], _ => some (⟨[.nv (.one (.val (.pointer none))), uA v, .nv (.one (.val (.slice none 0 0)))], [], iA 10, []⟩, [])
  | _, _ => none
theorem spLayN : SpOk Try.prog 16 (.lift gLayN) := by
  intro args mem cs obl h ho
  unfold gLayN at h
  split at h
  · simp only [Option.some.injEq, Prod.mk.injEq] at h
    obtain ⟨rfl, rfl⟩ := h
    exact lay_nil _
  · cases h
def Gv0 : List (FuncId × Sp) := (13, .lift gCheck) :: (14, .lift gRNew) :: (9, .lift gSent) :: (15, .lift gRSent) :: (12, .lift gVirt) :: (20, .lift gTags) :: Gnx
theorem Gv0_ok : CtxOk Try.prog Gv0 := ctx_cons (enter_of Try.func13 (by kernel_rfl) (by kernel_rfl)) spCheck <|
  ctx_cons (enter_of Try.func14 (by kernel_rfl) (by kernel_rfl)) spRNew <|
  ctx_cons (enter_of Try.func9 (by kernel_rfl) (by kernel_rfl)) spSent <|
  ctx_cons (enter_of Try.func15 (by kernel_rfl) (by kernel_rfl)) spRSent <|
  ctx_cons (enter_of Try.func12 (by kernel_rfl) (by kernel_rfl)) spVirt <|
  ctx_cons (enter_of Try.func20 (by kernel_rfl) (by kernel_rfl)) spTags Gnx_ok
def Gvk : List (FuncId × Sp) := (8, .lift gNewOk) :: Gv0
theorem Gvk_ok : CtxOk Try.prog Gvk := ctx_cons (enter_of Try.func8 (by kernel_rfl) (by kernel_rfl)) spNewOk Gv0_ok
def Gve : List (FuncId × Sp) := (8, .lift gNewErr) :: Gv0
theorem Gve_ok : CtxOk Try.prog Gve := ctx_cons (enter_of Try.func8 (by kernel_rfl) (by kernel_rfl)) spNewErr Gv0_ok
def Gvn : List (FuncId × Sp) := (10, .lift gNextN) :: (16, .lift gLayN) :: Gv0
theorem Gvn_ok : CtxOk Try.prog Gvn := ctx_cons (enter_of Try.func10 (by kernel_rfl) (by kernel_rfl)) spNextN <|
  ctx_cons (enter_of Try.func16 (by kernel_rfl) (by kernel_rfl)) spLayN Gv0_ok
end Go.Proofs.Ytkgkelfdmkginaa

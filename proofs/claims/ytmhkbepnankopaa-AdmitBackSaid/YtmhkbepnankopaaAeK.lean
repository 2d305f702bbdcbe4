/- admit: New as a specification. No condition. -/
import Derived.Test.YtmhkbepnankopaaAeL
namespace Go.Proofs.Ytmhkbepnankopaa
set_option linter.unusedVariables false
set_option linter.unusedSimpArgs false
open Go.RowKit E
theorem chk_flows {c : Cf} {n : Nat} {F : Fl} (h : chkA c n F = 0) : (1 ≤ c.P ∧ c.P ≤ 4096 ∧ 0 ≤ c.S ∧ c.S ≤ 16) ∧ 1 ≤ n ∧ n ≤ 64 ∧ ∀ j k, j < n → k < j → F.id j ≠ F.id k := by
  unfold chkA at h
  split at h
  · cases h
  rename_i h1
  split at h
  · cases h
  split at h
  · cases h
  unfold chkF at h
  split at h
  · cases h
  rename_i h2
  split at h
  · cases h
  rename_i h3
  refine ⟨by omega, by omega, by omega, fun j k hj hk e => ?_⟩
  have := idx_none (dup_false (Bool.eq_false_iff.2 h3) j hj) k hk
  exact this e.symm
theorem fnNewOk (c : Cf) (n : Nat) (F : Fl) (h : chkA c n F = 0) : FnOk Try.prog 8 [cfV c (.own 0)] [.ro 5 n (gFl F)] (.tup [.one (.ptr 1 0), .one (.val (.int .i64 0))]) [.ro 5 n (gFl F), .box 60 (gtD c.P c.B c.S c.U 0 0 2), .box 78 [.own 3, .val (.int .i64 (n : Nat)), .val (.int .i64 64)], .row 80 5 (tbF F n).1 (gS (tbF F n).2)] := by
  obtain ⟨_, h1, h2, h3⟩ := chk_flows h
  refine new_o c n _ F _ h h2 ?_
  refine count_loop (P := Try.prog) (m0 := 1) (c := loopOf Try.f8 0) (n := n) (fun i => mkSt 38 [(1, .nv (.one (.ptr 1 0))), (5, .nv (.one (.ptr 2 0))), (19, .nv (.one (.own 0))), (20, iA n), (21, iA i)] [.ro 5 n (gFl F), .box 25 (cfC c (.own 0)), .box 78 [.own 3, .val (.int .i64 (i : Nat)), .val (.int .i64 64)], .row 80 5 (tbF F i).1 (gS (tbF F i).2)]) (X := .exit 0) (by simp) (fun i hi => ?_) (nw_e c n _ F _ h2)
  have ht := tbF_ok F h2 h3 i (by omega)
  have eM := tbF_M F i (by omega)
  obtain ⟨b1, b2, b3⟩ := szN_bd i
  refine nw_n c n i _ F _ hi h2 (by rw [eM]; exact b1) (by omega) (free_cnt (by have := ht.cn; have := b3 (by omega); omega)) ?_
  exact look_none.1 (ht.no (F.id i) (fun k hk => (h3 i k hi hk).symm))
theorem sim_new {c : Cf} {n : Nat} {F : Fl} (hc : COk c n F) : Sim c n F ⟨c.P, c.B, c.S, c.U, 0, 0, n, (tbF F n).1, (tbF F n).2⟩ (fun _ => 0) (fun _ => 0) := by
  have ht := tbF_ok F hc.n1 hc.id n (Nat.le_refl _)
  have eM := tbF_M F n hc.n1
  obtain ⟨b1, b2, b3⟩ := szN_bd n
  have z : ∀ i, tS (fun _ => 0) i = 0 := by
    intro i
    induction i with
    | zero => rfl
    | succ i ih => show tS (fun _ => 0) i + 0 = 0; omega
  have hf : free (tbF F n).1 (tbF F n).2 := free_cnt (by have := ht.cn; have := b3 hc.n1; omega)
  refine ⟨⟨by show P2 (tbF F n).1; rw [eM]; exact b1, hf⟩, ht.inv, rfl, rfl, rfl, rfl, (z n).symm, (z n).symm, fun _ _ => Int.le_refl _, fun _ _ => Int.le_refl _, fun j hj => (hc.ca j hj).1, by rw [z]; have := hc.P0; omega, by rw [z]; exact hc.B0, fun y => ?_⟩
  by_cases e : idx F.id y n < 0
  · rw [if_pos e]
    have := (idx_bd F.id y n).1
    exact ht.no y (idx_none (by omega))
  · rw [if_neg e]
    obtain ⟨i0, i1, i2⟩ := idx_k e
    have a1 := idx_at (T := F.id) (x := y) i0
    have := ht.yes _ i2
    rw [a1] at this
    exact this
def okB (x : Ga) : Bool := (x.M == 8 || x.M == 16) && (List.range x.M).any (fun j => !(x.T j).us)
theorem okB_ok {x : Ga} (h : okB x = true) : x.ok := by
  unfold okB at h
  obtain ⟨h1, h2⟩ := Bool.and_eq_true_iff.1 h
  refine ⟨?_, ?_⟩
  · rcases Bool.or_eq_true_iff.1 h1 with q | q
    · exact ⟨3, beq_iff_eq.1 q, by omega⟩
    · exact ⟨4, beq_iff_eq.1 q, by omega⟩
  · obtain ⟨j, hj, hu⟩ := List.any_eq_true.1 h2
    exact ⟨j, List.mem_range.1 hj, by simpa using hu⟩
def F1 : Fl := flOf (litG 5 [.val (.int .u32 7), .val (.int .u64 0), .val (.int .u64 0), .val (.int .u64 0), .val (.int .u64 90)])
def lvG : Ga := (Ga.mk 9 100 0 60 0 0 1 8 (tbF F1 1).2).inn' 7 50
theorem all1 {p : Nat → Prop} (h : p 0) : ∀ i, i < 1 → p i := fun i hi => by
  have : i = 0 := by omega
  subst this
  exact h
def gNewOk : List SV → List Seg → Option (CS × List Prop)
  | [.nv (.agg [.val (.int .i64 a), .val (.int .i64 c), .val (.int .i64 l), .val (.int .i64 q), .val (.int .i64 P), .val (.int .u64 B), .val (.int .i64 S), .val (.int .u64 U), .val (.int .u64 r), .val (.int .u64 u), fl])], mem => match srcOf mem 5 fl with
    | some (n, g, _) => some (⟨[cfV ⟨a, c, l, q, P, B, S, U, r, u⟩ (.own 0)], [.ro 5 n (gFl (flOf g))], .tup [.one (.ptr 1 0), .one (.val (.int .i64 0))], [.ro 5 n (gFl (flOf g)), .box 60 (gtD P B S U 0 0 2), .box 78 [.own 3, .val (.int .i64 (n : Nat)), .val (.int .i64 64)], .row 80 5 (tbF (flOf g) n).1 (gS (tbF (flOf g) n).2)]⟩, [chkA ⟨a, c, l, q, P, B, S, U, r, u⟩ n (flOf g) = 0])
    | none => none
  | _, _ => none
theorem spNewOk : SpOk Try.prog 8 (.lift gNewOk) := by
  intro args mem cs obl h ho
  unfold gNewOk at h
  split at h
  · split at h
    · simp only [Option.some.injEq, Prod.mk.injEq] at h
      obtain ⟨rfl, rfl⟩ := h
      exact fnNewOk _ _ _ ho.1
    · cases h
  · cases h
def gNewEr : List SV → List Seg → Option (CS × List Prop)
  | [.nv (.agg [.val (.int .i64 a), .val (.int .i64 c), .val (.int .i64 l), .val (.int .i64 q), .val (.int .i64 P), .val (.int .u64 B), .val (.int .i64 S), .val (.int .u64 U), .val (.int .u64 r), .val (.int .u64 u), fl])], mem => match srcOf mem 5 fl with
    | some (n, g, _) => some (⟨[cfV ⟨a, c, l, q, P, B, S, U, r, u⟩ (.own 0)], [.ro 5 n (gFl (flOf g))], .tup [.one (.val (.pointer none)), .one (.val (.int .i64 (chkA ⟨a, c, l, q, P, B, S, U, r, u⟩ n (flOf g))))], [.ro 5 n (gFl (flOf g))]⟩, [chkA ⟨a, c, l, q, P, B, S, U, r, u⟩ n (flOf g) ≠ 0])
    | none => none
  | _, _ => none
theorem spNewEr : SpOk Try.prog 8 (.lift gNewEr) := by
  intro args mem cs obl h ho
  unfold gNewEr at h
  split at h
  · split at h
    · simp only [Option.some.injEq, Prod.mk.injEq] at h
      obtain ⟨rfl, rfl⟩ := h
      exact new_e _ _ _ ho.1
    · cases h
  · cases h
def Gao : List (FuncId × Sp) := (8, .lift gNewOk) :: Gad12
theorem Gao_ok : CtxOk Try.prog Gao := ctx_cons (enter_of Try.func8 (by kernel_rfl) (by kernel_rfl)) spNewOk Gad12_ok
def Gax : List (FuncId × Sp) := (8, .lift gNewEr) :: Gad12
theorem Gax_ok : CtxOk Try.prog Gax := ctx_cons (enter_of Try.func8 (by kernel_rfl) (by kernel_rfl)) spNewEr Gad12_ok
end Go.Proofs.Ytmhkbepnankopaa

/- ops: Put of the first ones of a row. No condition. -/
import Derived.Test.YtecgigeahkijaaaOpP
namespace Go.Proofs.Ytecgigeahkijaaa
set_option linter.unusedVariables false
set_option linter.unusedSimpArgs false
open Go.RowKit E
/-- A row of its own may be read. -/
theorem mem_ro {env : Env} {e : TypeId} {wd n : Nat} {g : Nat → List At} {m : List Seg} {w0 w : World} {S : Nat → Prop} (hm : MemOk env (.row e wd n g :: m) w0 w S) : MemOk env (.ro wd n g :: m) w0 w S := by
  have get : ∀ k s, (Seg.ro wd n g :: m)[k]? = some s → (k = 0 ∧ s = .ro wd n g) ∨ (k ≠ 0 ∧ (Seg.row e wd n g :: m)[k]? = some s) := by
    intro k s hk
    cases k with
    | zero => simp at hk; exact .inl ⟨rfl, hk.symm⟩
    | succ k => exact .inr ⟨by omega, by simpa using hk⟩
  refine ⟨?_, ?_, ?_, ?_, hm.os, hm.tape, hm.output, hm.grow, hm.frame⟩
  · intro k s hk
    rcases get k s hk with ⟨rfl, rfl⟩ | ⟨_, hk⟩
    · obtain ⟨v, cs, e1, e2, e3⟩ := hm.ok 0 _ rfl
      obtain ⟨ao, cap, rfl, q1, q2, q3, q4⟩ := row_reads (h := 0) e2
      exact ⟨ao, cap, cs, e1, q1, q2, q3, e3, q4⟩
    · exact hm.ok k s hk
  · intro k hk; exact hm.top k (by simpa using hk)
  · intro j k s u b hj hk hne hx hl hb
    rcases get j s hj with ⟨rfl, rfl⟩ | ⟨_, hj⟩
    · cases hx
    · rcases get k u hk with ⟨rfl, rfl⟩ | ⟨_, hk⟩
      · exact hm.sep j 0 s (.row e wd n g) b hj rfl hne hx trivial hb
      · exact hm.sep j k s u b hj hk hne hx hl hb
  · intro k s b hk hx hb
    rcases get k s hk with ⟨rfl, rfl⟩ | ⟨_, hk⟩
    · cases hx
    · exact hm.own k s b hk hx hb
theorem fn_row {P : Program} {f : FuncId} {args : List SV} {e : TypeId} {wd n : Nat} {g : Nat → List At} {m : List Seg} {r : SV} {m' : List Seg} (h : FnOk P f args (.ro wd n g :: m) r m') : FnOk P f args (.row e wd n g :: m) r m' := by
  intro env w0 w S vals hv hm
  exact h env w0 w S vals hv (mem_ro hm)
def gPutO2 : List SV → List Seg → Option (CS × List Prop)
  | [.nv (.one (.sub h _ 0 k))], mem => match mem[h]? with
    | some (.row e 5 n g) => some (⟨[.nv (.one (.own 0))], [.row e 5 k (gO (opOf g))], .tup [.one (.val (.string (opsS (opOf g) k))), .one (.val (.int .i64 (if allR (opOf g) k = true then 0 else 6)))], [.gone]⟩, [k ≤ 100000, ∀ i, i < k → (opOf g i).wf])
    | _ => none
  | a, mem => gPutO a mem
theorem spPutO2 : SpOk Try.prog 12 (.lift gPutO2) := by
  intro args mem cs obl h ho
  unfold gPutO2 at h
  split at h
  · split at h
    · simp only [Option.some.injEq, Prod.mk.injEq] at h
      obtain ⟨rfl, rfl⟩ := h
      exact fn_row (fn_drop0 (fnPutO _ _ ho.1 ho.2.1))
    · cases h
  · exact spPutO _ _ _ _ h ho
theorem both_at {N M : Nat} {X Y Z : Nat → Op5} (h : ∀ j, Z j = if j < N then X j else if j < N + M then Y (j - N) else Z j) (i : Nat) (hi : i < N + M) :
    Z i = opOf (appG (0 + N) M (appG 0 N (fun _ => []) (gO X)) (gO Y)) i := by
  have e := h i
  unfold opOf
  have key : appG (0 + N) M (appG 0 N (fun _ => []) (gO X)) (gO Y) i = oA (Z i) := by
    unfold appG joinG
    simp only [Nat.zero_add]
    by_cases m1 : M = 1
    · subst m1
      rw [if_pos rfl]
      by_cases q : i = N
      · rw [if_pos q]
        have : Z i = Y 0 := by rw [e, if_neg (by omega), if_pos (by omega), show i - N = 0 by omega]
        rw [this]
      · rw [if_neg q]
        have : Z i = X i := by rw [e, if_pos (by omega)]
        rw [this]
        by_cases n1 : N = 1
        · rw [if_pos n1, if_pos (by omega)]
          have : i = 0 := by omega
          subst this; rfl
        · rw [if_neg n1, if_neg (by omega)]; rfl
    · rw [if_neg m1]
      by_cases q : i < N
      · rw [if_pos q]
        have : Z i = X i := by rw [e, if_pos q]
        rw [this]
        by_cases n1 : N = 1
        · rw [if_pos n1, if_pos (by omega)]
          have : i = 0 := by omega
          subst this; rfl
        · rw [if_neg n1, if_neg (by omega)]; rfl
      · rw [if_neg q]
        have : Z i = Y (i - N) := by rw [e, if_neg q, if_pos hi]
        rw [this]
  rw [key]
  exact rfl
theorem both_cells {N M : Nat} {X Y : Nat → Op5} (i : Nat) (hi : i < N + M) :
    appG (0 + N) M (appG 0 N (fun _ => []) (gO X)) (gO Y) i = gO (opOf (appG (0 + N) M (appG 0 N (fun _ => []) (gO X)) (gO Y))) i := by
  have h : ∃ W : Op5, appG (0 + N) M (appG 0 N (fun _ => []) (gO X)) (gO Y) i = oA W := by
    unfold appG joinG
    simp only [Nat.zero_add]
    by_cases m1 : M = 1
    · rw [if_pos m1]
      by_cases q : i = N
      · rw [if_pos q]; exact ⟨Y 0, rfl⟩
      · rw [if_neg q]
        by_cases n1 : N = 1
        · rw [if_pos n1, if_pos (by omega)]; exact ⟨X 0, rfl⟩
        · rw [if_neg n1, if_neg (by omega)]; exact ⟨X (i - 0), rfl⟩
    · rw [if_neg m1]
      by_cases q : i < N
      · rw [if_pos q]
        by_cases n1 : N = 1
        · rw [if_pos n1, if_pos (by omega)]; exact ⟨X 0, rfl⟩
        · rw [if_neg n1, if_neg (by omega)]; exact ⟨X (i - 0), rfl⟩
      · rw [if_neg q]; exact ⟨Y (i - N), rfl⟩
  obtain ⟨W, hW⟩ := h
  show _ = oA (opOf _ i)
  unfold opOf
  rw [hW]
  rfl
theorem leG_eq5 (ρ : List (Nat × Bd)) (m : Nat) {c : List At} {W : Op5} (h : c = oA W) : AllT (leAts ρ m c (oA W)) := by
  subst h; exact ⟨rfl, rfl, rfl, rfl, rfl, trivial⟩
theorem both_le {N M : Nat} {X Y : Nat → Op5} (ρ : List (Nat × Bd)) (m : Nat) : ∀ i, i < 0 + N + M → AllT (leAts ρ m (appG (0 + N) M (appG 0 N (fun _ => []) (gO X)) (gO Y) i) (gO (opOf (appG (0 + N) M (appG 0 N (fun _ => []) (gO X)) (gO Y))) i)) := fun i hi =>
  leG_eq5 ρ m (W := opOf (appG (0 + N) M (appG 0 N (fun _ => []) (gO X)) (gO Y)) i) (both_cells i (by omega))
def GoG : List (FuncId × Sp) := (12, .lift gPutO2) :: GoF
theorem GoG_ok : CtxOk Try.prog GoG := ctx_cons (enter_of Try.func12 (by kernel_rfl) (by kernel_rfl)) spPutO2 GoF_ok
end Go.Proofs.Ytecgigeahkijaaa

/- Rows of items: the document's functions, as specifications. No condition. -/
import Derived.Test.YtakpokccjgoapaaTxF
namespace Go.Proofs.Ytakpokccjgoapaa
set_option linter.unusedVariables false
set_option linter.unusedSimpArgs false
open Go.RowKit E
abbrev roIt (n : Nat) (L : It) : Seg := .ro 2 n (gIt L)
abbrev rwIt (n : Nat) (L : It) : Seg := .row 46 2 n (gIt L)
theorem fnRPush (n : Nat) (L : It) (r x : Int) (hn : n ≤ 100000) : FnOk Try.prog 26 [.nv (.one (.own 0)), uA r, iA x] [roIt n L] (.nv (.one (.own 1))) [roIt n L, rwIt (n + 1) (L.ins (L.pos r n) r x)] := by
  have base : ∀ (b : Bool) (p m : Nat), L.pos r n = p → decide (p < n) = b → (if b = true then n + 1 else n) = m →
      CodeOk Try.prog 1 (.loop (loopOf Try.f26 0)) (mkSt 49 [(0, .nv (.one (.own 0))), (1, uA r), (2, iA x), (7, .nv (.one (.own 1))), (8, bA false), (9, iA (0 : Nat))] [roIt n L, rwIt 0 (L.ins 0 r x)]) (.exit 0)
        (mkSt 49 [(1, uA r), (2, iA x), (7, .nv (.one (.own 1))), (8, bA b)] [roIt n L, rwIt m (L.ins p r x)]) := by
    intro b p m hp hb hm
    refine loop_ok (α := Nat) (fun i => mkSt 49 [(0, .nv (.one (.own 0))), (1, uA r), (2, iA x), (7, .nv (.one (.own 1))), (8, bA (decide (L.pos r i < i))), (9, iA i)] [roIt n L, rwIt (if L.pos r i < i then i + 1 else i) (L.ins (L.pos r i) r x)])
      (fun i => i ≤ n) (fun i => n - i) (by simp) ?_ (x := 0) (Nat.zero_le _)
    intro i hi
    by_cases e : i = n
    · subst e
      refine .inr ?_
      rw [hp, hb]
      have hm' : (if p < i then i + 1 else i) = m := by
        rw [← hm]; subst hb
        by_cases q : p < i <;> simp [q]
      rw [hm']
      exact pu_e i m p b L r x
    · refine .inl ⟨i + 1, (show i + 1 ≤ n by omega), (show n - (i + 1) < n - i by omega), ?_⟩
      have hle := It.pos_le L r i
      by_cases q : L.pos r i < i
      · rw [It.pos_put q, decide_eq_true q, decide_eq_true (show L.pos r i < i + 1 by omega), if_pos q, if_pos (show L.pos r i < i + 1 by omega)]
        exact pu_p n i _ L r x (by omega) hn q
      · have e2 : L.pos r i = i := by omega
        by_cases h : r < L.r i
        · rw [It.pos_hit q h, e2, decide_eq_false (Nat.lt_irrefl i), decide_eq_true (show i < i + 1 by omega), if_neg (Nat.lt_irrefl i), if_pos (show i < i + 1 by omega)]
          exact pu_h n i L r x (by omega) hn h
        · rw [It.pos_miss q h, e2, decide_eq_false (Nat.lt_irrefl i), decide_eq_false (Nat.lt_irrefl (i + 1)), if_neg (Nat.lt_irrefl i), if_neg (Nat.lt_irrefl (i + 1))]
          exact pu_m n i L r x (by omega) hn h
  have hle := It.pos_le L r n
  by_cases q : L.pos r n < n
  · exact rpush_t n _ L r x (base true _ (n + 1) rfl (decide_eq_true q) (if_pos rfl))
  · have e : L.pos r n = n := by omega
    rw [e]
    exact rpush_f n L r x hn (base false n n e (decide_eq_false (Nat.lt_irrefl n)) (if_neg (by simp)))
theorem fnRest (n : Nat) (L : It) (hn : n ≤ 100000) : FnOk Try.prog 27 [.nv (.one (.own 0))] [roIt n L] (.nv (.one (.own 1))) [roIt n L, rwIt (n - 1) L.rest] := by
  refine rrest n L ?_
  refine loop_ok (α := Nat) (fun i => mkSt 19 [(0, .nv (.one (.own 0))), (3, .nv (.one (.own 1))), (4, iA (i + 1 : Nat))] [roIt n L, rwIt i L.rest]) (fun i => i ≤ n - 1) (fun i => n - i) (by simp) ?_ (x := 0) (Nat.zero_le _)
  intro i hi
  by_cases e : i + 1 < n
  · exact .inl ⟨i + 1, (show i + 1 ≤ n - 1 by omega), (show n - (i + 1) < n - i by omega), rs_n n i L e hn⟩
  · have e2 : i = n - 1 := by omega
    refine .inr ?_
    have := rs_e n i (n - 1) L e hn
    rw [← e2] at this ⊢
    exact this
theorem fnFront (n : Nat) (L : It) (hn : n ≤ 100000) : FnOk Try.prog 28 [.nv (.one (.own 0))] [roIt n L] (.nv (.one (.own 1))) [roIt n L, rwIt (n - 1) L] := by
  refine rfront n L ?_
  refine loop_ok (α := Nat) (fun i => mkSt 20 [(0, .nv (.one (.own 0))), (3, .nv (.one (.own 1))), (4, iA i)] [roIt n L, rwIt i L]) (fun i => i ≤ n - 1) (fun i => n - i) (by simp) ?_ (x := 0) (Nat.zero_le _)
  intro i hi
  by_cases e : i + 1 < n
  · exact .inl ⟨i + 1, (show i + 1 ≤ n - 1 by omega), (show n - (i + 1) < n - i by omega), fr_n n i L e hn (w64 (by omega) (by omega))⟩
  · have e2 : i = n - 1 := by omega
    refine .inr ?_
    have := fr_e n i (n - 1) L e (by omega) hn (w64 (by omega) (by omega))
    rw [← e2] at this ⊢
    exact this
def laP (n : Nat) : Int := (n : Int) - 1
def laR (L : It) (n : Nat) : Int := if 0 < n then L.r (n - 1) else 0
def laX (L : It) (n : Nat) : Int := if 0 < n then L.x (n - 1) else 0
def fiR (L : It) (n : Nat) : Int := if 0 < n then L.r 0 else 0
def fiX (L : It) (n : Nat) : Int := if 0 < n then L.x 0 else 0
theorem fnFirst (n : Nat) (L : It) : FnOk Try.prog 12 [.nv (.one (.own 0))] [roIt n L] (itI (fiR L n) (fiX L n) (decide (0 < n))) [roIt n L] := by
  unfold fiR fiX
  by_cases h : 0 < n
  · rw [if_pos h, if_pos h, decide_eq_true h]; exact rfirst_1 n L h
  · obtain rfl : n = 0 := by omega
    exact rfirst_0 L
theorem fnLast (n : Nat) (L : It) (hn : n ≤ 100000) : FnOk Try.prog 14 [.nv (.one (.own 0))] [roIt n L] (itI (laR L n) (laX L n) (decide (0 < n))) [roIt n L] := by
  unfold laR laX
  by_cases h : 0 < n
  · rw [if_pos h, if_pos h, decide_eq_true h]; exact rlast_1 n L h hn (w64 (by omega) (by omega))
  · obtain rfl : n = 0 := by omega
    exact rlast_0 L
def mayB (m : Int) : Bool := decide (1 ≤ m) && decide (m ≤ 4096)
def gMay : List SV → Option (SV × List Prop)
  | [.nv (.one (.val (.int .i64 m)))] => some (bA (mayB m), [])
  | _ => none
theorem spMay : SpOk Try.prog 8 (pureS gMay) := pureS_ok (by
  intro args r obl h ho
  unfold gMay at h
  split at h
  · rename_i m
    simp only [Option.some.injEq, Prod.mk.injEq] at h
    obtain ⟨rfl, rfl⟩ := h
    refine ⟨rfl, rfl, ?_⟩
    unfold mayB
    by_cases h1 : 1 ≤ m
    · by_cases h2 : m ≤ 4096
      · rw [decide_eq_true h1, decide_eq_true h2]; exact rmay_c m h1 h2
      · rw [decide_eq_false h2, Bool.and_false]; exact rmay_b m (by omega)
    · rw [decide_eq_false h1]; exact rmay_a m (by omega)
  · cases h)
def gRest : List SV → List Seg → Option (CS × List Prop)
  | [.nv (.one a)], mem => match srcOf mem 2 a with
    | some (n, g, _) => some (⟨[.nv (.one (.own 0))], [roIt n (itOf g)], .nv (.one (.own 1)), [roIt n (itOf g), rwIt (n - 1) (itOf g).rest]⟩, [n ≤ 100000])
    | none => none
  | _, _ => none
theorem spRest : SpOk Try.prog 27 (.lift gRest) := by
  intro args mem cs obl h ho
  unfold gRest at h
  split at h
  · split at h
    · simp only [Option.some.injEq, Prod.mk.injEq] at h
      obtain ⟨rfl, rfl⟩ := h
      exact fnRest _ _ ho.1
    · cases h
  · cases h
def gFront : List SV → List Seg → Option (CS × List Prop)
  | [.nv (.one a)], mem => match srcOf mem 2 a with
    | some (n, g, _) => some (⟨[.nv (.one (.own 0))], [roIt n (itOf g)], .nv (.one (.own 1)), [roIt n (itOf g), rwIt (n - 1) (itOf g)]⟩, [n ≤ 100000])
    | none => none
  | _, _ => none
theorem spFront : SpOk Try.prog 28 (.lift gFront) := by
  intro args mem cs obl h ho
  unfold gFront at h
  split at h
  · split at h
    · simp only [Option.some.injEq, Prod.mk.injEq] at h
      obtain ⟨rfl, rfl⟩ := h
      exact fnFront _ _ ho.1
    · cases h
  · cases h
def gFirst : List SV → List Seg → Option (CS × List Prop)
  | [.nv (.one a)], mem => match srcOf mem 2 a with
    | some (n, g, _) => some (⟨[.nv (.one (.own 0))], [roIt n (itOf g)], itI (fiR (itOf g) n) (fiX (itOf g) n) (decide (0 < n)), [roIt n (itOf g)]⟩, [])
    | none => none
  | _, _ => none
theorem spFirst : SpOk Try.prog 12 (.lift gFirst) := by
  intro args mem cs obl h ho
  unfold gFirst at h
  split at h
  · split at h
    · simp only [Option.some.injEq, Prod.mk.injEq] at h
      obtain ⟨rfl, rfl⟩ := h
      exact fnFirst _ _
    · cases h
  · cases h
def gLast : List SV → List Seg → Option (CS × List Prop)
  | [.nv (.one a)], mem => match srcOf mem 2 a with
    | some (n, g, _) => some (⟨[.nv (.one (.own 0))], [roIt n (itOf g)], itI (laR (itOf g) n) (laX (itOf g) n) (decide (0 < n)), [roIt n (itOf g)]⟩, [n ≤ 100000])
    | none => none
  | _, _ => none
theorem spLast : SpOk Try.prog 14 (.lift gLast) := by
  intro args mem cs obl h ho
  unfold gLast at h
  split at h
  · split at h
    · simp only [Option.some.injEq, Prod.mk.injEq] at h
      obtain ⟨rfl, rfl⟩ := h
      exact fnLast _ _ ho.1
    · cases h
  · cases h
def gRPush : List SV → List Seg → Option (CS × List Prop)
  | [.nv (.one a), .nv (.one (.val (.int .u64 r))), .nv (.one (.val (.int .i64 x)))], mem => match srcOf mem 2 a with
    | some (n, g, _) => some (⟨[.nv (.one (.own 0)), uA r, iA x], [roIt n (itOf g)], .nv (.one (.own 1)), [roIt n (itOf g), rwIt (n + 1) ((itOf g).ins ((itOf g).pos r n) r x)]⟩, [n ≤ 100000])
    | none => none
  | _, _ => none
theorem spRPush : SpOk Try.prog 26 (.lift gRPush) := by
  intro args mem cs obl h ho
  unfold gRPush at h
  split at h
  · split at h
    · simp only [Option.some.injEq, Prod.mk.injEq] at h
      obtain ⟨rfl, rfl⟩ := h
      exact fnRPush _ _ _ _ ho.1
    · cases h
  · cases h
def Gi0 : List (FuncId × Sp) := (8, pureS gMay) :: (26, .lift gRPush) :: (27, .lift gRest) :: (28, .lift gFront) :: (12, .lift gFirst) :: (14, .lift gLast) :: Gl7
theorem Gi0_ok : CtxOk Try.prog Gi0 := ctx_cons (enter_of Try.func8 (by kernel_rfl) (by kernel_rfl)) spMay <|
  ctx_cons (enter_of Try.func26 (by kernel_rfl) (by kernel_rfl)) spRPush <|
  ctx_cons (enter_of Try.func27 (by kernel_rfl) (by kernel_rfl)) spRest <|
  ctx_cons (enter_of Try.func28 (by kernel_rfl) (by kernel_rfl)) spFront <|
  ctx_cons (enter_of Try.func12 (by kernel_rfl) (by kernel_rfl)) spFirst <|
  ctx_cons (enter_of Try.func14 (by kernel_rfl) (by kernel_rfl)) spLast Gl7_ok
end Go.Proofs.Ytakpokccjgoapaa

/- trie: walk, as a callee of itself. No condition. -/
import Derived.Test.YtfienpkogkepkaaTeL
import Derived.Test.YtfienpkogkepkaaChecked
import Derived.KernelRfl
namespace Go.Proofs.Ytfienpkogkepkaa
set_option linter.unusedVariables false
set_option linter.unusedSimpArgs false
open Go.RowKit E
structure Pf where
  a : Int
  n : Int
abbrev gPf (G : Nat → Pf) : Nat → List At := fun k => [.val (.int .u32 (G k).a), .val (.int .i64 (G k).n)]
def c0Z : List At → Int
  | .val (.int _ n) :: _ => n
  | _ => 0
def c1Z : List At → Int
  | _ :: .val (.int _ n) :: _ => n
  | _ => 0
def pfOf (g : Nat → List At) : Nat → Pf := fun k => ⟨c0Z (g k), c1Z (g k)⟩
/-- What walk tells. -/
def wkL : PT → List Pf
  | .nil => []
  | .node a n u x l r => (if u = true then [⟨a, n⟩] else []) ++ wkL l ++ wkL r
def apG (G : Nat → Pf) (n : Nat) (L : List Pf) : Nat → Pf := fun k => if k < n then G k else L.getD (k - n) ⟨0, 0⟩
theorem apG_app (G : Nat → Pf) (n : Nat) (L M : List Pf) : apG (apG G n L) (n + L.length) M = apG G n (L ++ M) := by
  funext k
  unfold apG
  by_cases h1 : k < n
  · rw [if_pos (by omega), if_pos h1, if_pos h1]
  · rw [if_neg h1, if_neg h1]
    by_cases h2 : k < n + L.length
    · rw [if_pos h2]
      rw [List.getD_eq_getElem?_getD, List.getD_eq_getElem?_getD, List.getElem?_append_left (by omega)]
    · rw [if_neg h2]
      rw [List.getD_eq_getElem?_getD, List.getD_eq_getElem?_getD, List.getElem?_append_right (by omega), show k - n - L.length = k - (n + L.length) by omega]
theorem apG_nil (G : Nat → Pf) (n : Nat) (k : Nat) (h : k < n) : apG G n [] k = G k := by unfold apG; rw [if_pos h]
theorem pf_app1 (n : Nat) (G : Nat → Pf) (a m : Int) : pfOf (appG n 1 (gPf G) (litG 2 [.val (.int .u32 a), .val (.int .i64 m)])) = fun k => if k = n then ⟨a, m⟩ else G k := by
  funext k
  unfold pfOf appG
  simp only [if_true]
  by_cases h : k = n
  · simp only [if_pos h]; rfl
  · simp only [if_neg h]; rfl
theorem le_app1 (ρ : List (Nat × Bd)) (q n : Nat) (G : Nat → Pf) (a m : Int) (i : Nat) : AllT (leAts ρ q (if i = n then [.val (.int .u32 a), .val (.int .i64 m)] else gPf G i) (gPf (pfOf (appG n 1 (gPf G) (litG 2 [.val (.int .u32 a), .val (.int .i64 m)]))) i)) := by
  rw [pf_app1]
  have key : ∀ p p' : Pf, p' = p → AllT (leAts ρ q [.val (.int .u32 p.a), .val (.int .i64 p.n)] [.val (.int .u32 p'.a), .val (.int .i64 p'.n)]) := by
    rintro p _ rfl
    exact ⟨rfl, rfl, trivial⟩
  by_cases h : i = n
  · rw [if_pos h]; exact key ⟨a, m⟩ _ (if_pos h)
  · rw [if_neg h]; exact key (G i) _ (if_neg h)
def WkIh (t : PT) : Prop := ∀ (n : Nat) (G : Nat → Pf), n + (wkL t).length ≤ 1000000 → FnOk Try.prog 28 [.nv (.one (.root 0 0 false)), .nv (.one (.own 1))] [.roabs (TA none t), .row 28 2 n (gPf G)] (.nv (.one (.own 2))) [.gone, .gone, .row 28 2 (n + (wkL t).length) (gPf (apG G n (wkL t)))]
def gWkS (l r : PT) : List SV → List Seg → Option (CS × List Prop)
  | [.nv (.one (.root h 0 _)), .nv (.one (.own k))], mem => match mem[k]? with
    | some (.row _ 2 n g) => match (bif Nat.beq h 3 then l else r) with
      | t => some (⟨[.nv (.one (.root 0 0 false)), .nv (.one (.own 1))], [.roabs (TA none t), .row 28 2 n (gPf (pfOf g))], .nv (.one (.own 2)), [.gone, .gone, .row 28 2 (n + (wkL t).length) (gPf (apG (pfOf g) n (wkL t)))]⟩, [n + (wkL t).length ≤ 1000000])
    | _ => none
  | _, _ => none
theorem spWkS {l r : PT} (h1 : WkIh l) (h2 : WkIh r) : SpOk Try.prog 28 (.lift (gWkS l r)) := by
  intro args mem cs obl h ho
  unfold gWkS at h
  split at h
  · split at h
    · simp only [Option.some.injEq, Prod.mk.injEq] at h
      obtain ⟨rfl, rfl⟩ := h
      cases hb : Nat.beq _ 3 with
      | true => rw [hb] at ho; exact h1 _ _ ho.1
      | false => rw [hb] at ho; exact h2 _ _ ho.1
    · cases h
  · cases h
def Gwk (N : PT × PT) : List (FuncId × Sp) := (28, .lift (gWkS N.1 N.2)) :: Gt3
theorem Gwk_ok (N : PT × PT) (ih : WkIh N.1 ∧ WkIh N.2) : CtxOk Try.prog (Gwk N) := ctx_cons (enter_of Try.func28 (by kernel_rfl) (by kernel_rfl)) (spWkS ih.1 ih.2) Gt3_ok
end Go.Proofs.Ytfienpkogkepkaa

/- Runs of Go code, as printed by a program: no condition beyond those that each states. -/
namespace Go.Proofs.Ytfienpkogkepkaa
set_option linter.unusedVariables false
set_option linter.unusedSimpArgs false
set_option maxRecDepth 100000
open Go.RowKit E
attribute [local irreducible] wkL apG TA bl8 bl32 wdN msk
set_option maxHeartbeats 2000000 in
theorem wk_nil (t : PT) (n : Nat) (G : Nat → Pf) : CodeOk Try.prog 2 (bodyOf Try.f28) (mkSt 32 [(0, .nv (.one (.val (.pointer none)))), (1, .nv (.one (.own 1)))] [.roabs (TA none t), .row 28 2 n (gPf G)]) .ret (mkSt 32 [(4, .nv (.one (.own 2)))] [.gone, .gone, .row 28 2 n (gPf G)]) :=
  code_run Gt3_ok (orc := ⟨[true], []⟩) (obl := [true = true,
      n = n,
      ∀ (i : Nat), i < n → Pf.a (G i) = Pf.a (G i) ∧ Pf.n (G i) = Pf.n (G i) ∧ True]) (by kernel_rfl) (.cons (by rfl) (.cons (by rfl) (.cons (by exact fun i _ => ⟨rfl, rfl, trivial⟩) .nil))) (Nat.le_of_ble_eq_true (by kernel_rfl))

set_option maxHeartbeats 2000000 in
theorem wk_u (N : PT × PT) (ih : WkIh N.1 ∧ WkIh N.2) (a m x : Int) (n : Nat) (G G3 : Nat → Pf) (hn : n + 1 + (wkL N.1).length ≤ 1000000) (hn2 : n + 1 + (wkL N.1).length + (wkL N.2).length ≤ 1000000) : CodeOk Try.prog 2 (bodyOf Try.f28) (mkSt 32 [(0, .nv (.one (.ptr 2 0))), (1, .nv (.one (.own 1)))] [.gone, .row 28 2 n (gPf G), .robox 55 [.val (.int .u32 a), .val (.int .i64 m), .val (.bool true), .val (.int .i64 x), .root 3 0 false, .root 4 0 false], .roabs (TA none N.1), .roabs (TA none N.2)]) .ret (mkSt 32 [(4, .nv (.one (.own 2)))] [.gone, .gone, .row 28 2 (n + 1 + (wkL N.1).length + (wkL N.2).length) (gPf (apG (apG (fun k => if k = n then ⟨a, m⟩ else G k) (n + 1) (wkL N.1)) (n + 1 + (wkL N.1).length) (wkL N.2)))]) :=
  code_run (Gwk_ok N ih) (orc := ⟨[false, true], []⟩) (obl := [false = false,
      true = true,
      n + (1 : Nat) ≤ (4611686018427387904 : Nat),
      (n + (1 : Nat)) * (16 : Nat) ≤ (140737488355328 : Nat),
      (0 : Int) ≤ (1 : Int),
      (1 : Int) < (↑(2 : Nat) : Int),
      (0 : Int) ≤ (0 : Int),
      (0 : Int) < (↑(2 : Nat) : Int),
      n + (1 : Nat) + List.length (wkL (bif Nat.beq (3 : Nat) (3 : Nat) then Prod.fst N else Prod.snd N)) ≤ (1000000 : Nat),
      (0 : Nat) = (0 : Nat),
      TA none (Prod.fst N) = TA none (bif Nat.beq (3 : Nat) (3 : Nat) then Prod.fst N else Prod.snd N),
      n + (1 : Nat) = n + (1 : Nat),
      ∀ (i : Nat), i < n + (1 : Nat) → AllT (leAts ([] ++ ([((0 : Nat), Bd.same (3 : Nat))] ++ ([((1 : Nat), Bd.same (6 : Nat))] ++ [])) ++ ([] ++ ([] ++ []) ++ ([] ++ []))) (2 : Nat) (if i = n then [At.val (Value.int IntKind.u32 a), At.val (Value.int IntKind.i64 m)] else gPf G i) (gPf (pfOf (appG n (1 : Nat) (gPf G) (litG (2 : Nat) [At.val (Value.int IntKind.u32 a), At.val (Value.int IntKind.i64 m)]))) i)),
      ∀ (i : Nat), i < n + (1 : Nat) + List.length (wkL (bif Nat.beq (3 : Nat) (3 : Nat) then Prod.fst N else Prod.snd N)) → (true && (true && true)) = true,
      n + (1 : Nat) + List.length (wkL (bif Nat.beq (3 : Nat) (3 : Nat) then Prod.fst N else Prod.snd N)) + List.length (wkL (bif Nat.beq (4 : Nat) (3 : Nat) then Prod.fst N else Prod.snd N)) ≤ (1000000 : Nat),
      (0 : Nat) = (0 : Nat),
      TA none (Prod.snd N) = TA none (bif Nat.beq (4 : Nat) (3 : Nat) then Prod.fst N else Prod.snd N),
      n + (1 : Nat) + List.length (wkL (bif Nat.beq (3 : Nat) (3 : Nat) then Prod.fst N else Prod.snd N)) = n + (1 : Nat) + List.length (wkL (bif Nat.beq (3 : Nat) (3 : Nat) then Prod.fst N else Prod.snd N)),
      ∀ (i : Nat), i < n + (1 : Nat) + List.length (wkL (bif Nat.beq (3 : Nat) (3 : Nat) then Prod.fst N else Prod.snd N)) → Pf.a (apG (pfOf (appG n (1 : Nat) (gPf G) (litG (2 : Nat) [At.val (Value.int IntKind.u32 a), At.val (Value.int IntKind.i64 m)]))) (n + (1 : Nat)) (wkL (bif Nat.beq (3 : Nat) (3 : Nat) then Prod.fst N else Prod.snd N)) i) = Pf.a (pfOf (gPf (apG (pfOf (appG n (1 : Nat) (gPf G) (litG (2 : Nat) [At.val (Value.int IntKind.u32 a), At.val (Value.int IntKind.i64 m)]))) (n + (1 : Nat)) (wkL (bif Nat.beq (3 : Nat) (3 : Nat) then Prod.fst N else Prod.snd N)))) i) ∧ Pf.n (apG (pfOf (appG n (1 : Nat) (gPf G) (litG (2 : Nat) [At.val (Value.int IntKind.u32 a), At.val (Value.int IntKind.i64 m)]))) (n + (1 : Nat)) (wkL (bif Nat.beq (3 : Nat) (3 : Nat) then Prod.fst N else Prod.snd N)) i) = Pf.n (pfOf (gPf (apG (pfOf (appG n (1 : Nat) (gPf G) (litG (2 : Nat) [At.val (Value.int IntKind.u32 a), At.val (Value.int IntKind.i64 m)]))) (n + (1 : Nat)) (wkL (bif Nat.beq (3 : Nat) (3 : Nat) then Prod.fst N else Prod.snd N)))) i) ∧ True,
      ∀ (i : Nat), i < n + (1 : Nat) + List.length (wkL (bif Nat.beq (3 : Nat) (3 : Nat) then Prod.fst N else Prod.snd N)) + List.length (wkL (bif Nat.beq (4 : Nat) (3 : Nat) then Prod.fst N else Prod.snd N)) → (true && (true && true)) = true,
      n + (1 : Nat) + List.length (wkL (bif Nat.beq (3 : Nat) (3 : Nat) then Prod.fst N else Prod.snd N)) + List.length (wkL (bif Nat.beq (4 : Nat) (3 : Nat) then Prod.fst N else Prod.snd N)) = n + (1 : Nat) + List.length (wkL (Prod.fst N)) + List.length (wkL (Prod.snd N)),
      ∀ (i : Nat), i < n + (1 : Nat) + List.length (wkL (bif Nat.beq (3 : Nat) (3 : Nat) then Prod.fst N else Prod.snd N)) + List.length (wkL (bif Nat.beq (4 : Nat) (3 : Nat) then Prod.fst N else Prod.snd N)) → Pf.a (apG (pfOf (gPf (apG (pfOf (appG n (1 : Nat) (gPf G) (litG (2 : Nat) [At.val (Value.int IntKind.u32 a), At.val (Value.int IntKind.i64 m)]))) (n + (1 : Nat)) (wkL (bif Nat.beq (3 : Nat) (3 : Nat) then Prod.fst N else Prod.snd N))))) (n + (1 : Nat) + List.length (wkL (bif Nat.beq (3 : Nat) (3 : Nat) then Prod.fst N else Prod.snd N))) (wkL (bif Nat.beq (4 : Nat) (3 : Nat) then Prod.fst N else Prod.snd N)) i) = Pf.a (apG (apG (fun (k : Nat) => if k = n then { a := a, n := m } else G k) (n + (1 : Nat)) (wkL (Prod.fst N))) (n + (1 : Nat) + List.length (wkL (Prod.fst N))) (wkL (Prod.snd N)) i) ∧ Pf.n (apG (pfOf (gPf (apG (pfOf (appG n (1 : Nat) (gPf G) (litG (2 : Nat) [At.val (Value.int IntKind.u32 a), At.val (Value.int IntKind.i64 m)]))) (n + (1 : Nat)) (wkL (bif Nat.beq (3 : Nat) (3 : Nat) then Prod.fst N else Prod.snd N))))) (n + (1 : Nat) + List.length (wkL (bif Nat.beq (3 : Nat) (3 : Nat) then Prod.fst N else Prod.snd N))) (wkL (bif Nat.beq (4 : Nat) (3 : Nat) then Prod.fst N else Prod.snd N)) i) = Pf.n (apG (apG (fun (k : Nat) => if k = n then { a := a, n := m } else G k) (n + (1 : Nat)) (wkL (Prod.fst N))) (n + (1 : Nat) + List.length (wkL (Prod.fst N))) (wkL (Prod.snd N)) i) ∧ True]) (by kernel_rfl) (.cons (by rfl) (.cons (by rfl) (.cons (by omega) (.cons (by omega) (.cons (by trivial) (.cons (by trivial) (.cons (by trivial) (.cons (by trivial) (.cons (by assumption) (.cons (by rfl) (.cons (by rfl) (.cons (by rfl) (.cons (by exact fun i _ => le_app1 _ _ _ _ _ _ i) (.cons (by (intro _ _; rfl)) (.cons (by assumption) (.cons (by rfl) (.cons (by rfl) (.cons (by rfl) (.cons (by exact fun i _ => ⟨rfl, rfl, trivial⟩) (.cons (by (intro _ _; rfl)) (.cons (by rfl) (.cons (by (intro i hi; rw [pf_app1]; exact ⟨rfl, rfl, trivial⟩)) .nil)))))))))))))))))))))) (Nat.le_of_ble_eq_true (by kernel_rfl))

set_option maxHeartbeats 2000000 in
theorem wk_n (N : PT × PT) (ih : WkIh N.1 ∧ WkIh N.2) (a m x : Int) (n : Nat) (G G3 : Nat → Pf) (hn : n + (wkL N.1).length ≤ 1000000) (hn2 : n + (wkL N.1).length + (wkL N.2).length ≤ 1000000) : CodeOk Try.prog 2 (bodyOf Try.f28) (mkSt 32 [(0, .nv (.one (.ptr 2 0))), (1, .nv (.one (.own 1)))] [.gone, .row 28 2 n (gPf G), .robox 55 [.val (.int .u32 a), .val (.int .i64 m), .val (.bool false), .val (.int .i64 x), .root 3 0 false, .root 4 0 false], .roabs (TA none N.1), .roabs (TA none N.2)]) .ret (mkSt 32 [(4, .nv (.one (.own 2)))] [.gone, .gone, .row 28 2 (n + (wkL N.1).length + (wkL N.2).length) (gPf (apG (apG G n (wkL N.1)) (n + (wkL N.1).length) (wkL N.2)))]) :=
  code_run (Gwk_ok N ih) (orc := ⟨[false, false], []⟩) (obl := [false = false,
      false = false,
      (0 : Int) ≤ (1 : Int),
      (1 : Int) < (↑(2 : Nat) : Int),
      (0 : Int) ≤ (0 : Int),
      (0 : Int) < (↑(2 : Nat) : Int),
      n + List.length (wkL (bif Nat.beq (3 : Nat) (3 : Nat) then Prod.fst N else Prod.snd N)) ≤ (1000000 : Nat),
      (0 : Nat) = (0 : Nat),
      TA none (Prod.fst N) = TA none (bif Nat.beq (3 : Nat) (3 : Nat) then Prod.fst N else Prod.snd N),
      n = n,
      ∀ (i : Nat), i < n → Pf.a (G i) = Pf.a (pfOf (gPf G) i) ∧ Pf.n (G i) = Pf.n (pfOf (gPf G) i) ∧ True,
      ∀ (i : Nat), i < n + List.length (wkL (bif Nat.beq (3 : Nat) (3 : Nat) then Prod.fst N else Prod.snd N)) → (true && (true && true)) = true,
      n + List.length (wkL (bif Nat.beq (3 : Nat) (3 : Nat) then Prod.fst N else Prod.snd N)) + List.length (wkL (bif Nat.beq (4 : Nat) (3 : Nat) then Prod.fst N else Prod.snd N)) ≤ (1000000 : Nat),
      (0 : Nat) = (0 : Nat),
      TA none (Prod.snd N) = TA none (bif Nat.beq (4 : Nat) (3 : Nat) then Prod.fst N else Prod.snd N),
      n + List.length (wkL (bif Nat.beq (3 : Nat) (3 : Nat) then Prod.fst N else Prod.snd N)) = n + List.length (wkL (bif Nat.beq (3 : Nat) (3 : Nat) then Prod.fst N else Prod.snd N)),
      ∀ (i : Nat), i < n + List.length (wkL (bif Nat.beq (3 : Nat) (3 : Nat) then Prod.fst N else Prod.snd N)) → Pf.a (apG (pfOf (gPf G)) n (wkL (bif Nat.beq (3 : Nat) (3 : Nat) then Prod.fst N else Prod.snd N)) i) = Pf.a (pfOf (gPf (apG (pfOf (gPf G)) n (wkL (bif Nat.beq (3 : Nat) (3 : Nat) then Prod.fst N else Prod.snd N)))) i) ∧ Pf.n (apG (pfOf (gPf G)) n (wkL (bif Nat.beq (3 : Nat) (3 : Nat) then Prod.fst N else Prod.snd N)) i) = Pf.n (pfOf (gPf (apG (pfOf (gPf G)) n (wkL (bif Nat.beq (3 : Nat) (3 : Nat) then Prod.fst N else Prod.snd N)))) i) ∧ True,
      ∀ (i : Nat), i < n + List.length (wkL (bif Nat.beq (3 : Nat) (3 : Nat) then Prod.fst N else Prod.snd N)) + List.length (wkL (bif Nat.beq (4 : Nat) (3 : Nat) then Prod.fst N else Prod.snd N)) → (true && (true && true)) = true,
      n + List.length (wkL (bif Nat.beq (3 : Nat) (3 : Nat) then Prod.fst N else Prod.snd N)) + List.length (wkL (bif Nat.beq (4 : Nat) (3 : Nat) then Prod.fst N else Prod.snd N)) = n + List.length (wkL (Prod.fst N)) + List.length (wkL (Prod.snd N)),
      ∀ (i : Nat), i < n + List.length (wkL (bif Nat.beq (3 : Nat) (3 : Nat) then Prod.fst N else Prod.snd N)) + List.length (wkL (bif Nat.beq (4 : Nat) (3 : Nat) then Prod.fst N else Prod.snd N)) → Pf.a (apG (pfOf (gPf (apG (pfOf (gPf G)) n (wkL (bif Nat.beq (3 : Nat) (3 : Nat) then Prod.fst N else Prod.snd N))))) (n + List.length (wkL (bif Nat.beq (3 : Nat) (3 : Nat) then Prod.fst N else Prod.snd N))) (wkL (bif Nat.beq (4 : Nat) (3 : Nat) then Prod.fst N else Prod.snd N)) i) = Pf.a (apG (apG G n (wkL (Prod.fst N))) (n + List.length (wkL (Prod.fst N))) (wkL (Prod.snd N)) i) ∧ Pf.n (apG (pfOf (gPf (apG (pfOf (gPf G)) n (wkL (bif Nat.beq (3 : Nat) (3 : Nat) then Prod.fst N else Prod.snd N))))) (n + List.length (wkL (bif Nat.beq (3 : Nat) (3 : Nat) then Prod.fst N else Prod.snd N))) (wkL (bif Nat.beq (4 : Nat) (3 : Nat) then Prod.fst N else Prod.snd N)) i) = Pf.n (apG (apG G n (wkL (Prod.fst N))) (n + List.length (wkL (Prod.fst N))) (wkL (Prod.snd N)) i) ∧ True]) (by kernel_rfl) (.cons (by rfl) (.cons (by rfl) (.cons (by trivial) (.cons (by trivial) (.cons (by trivial) (.cons (by trivial) (.cons (by assumption) (.cons (by rfl) (.cons (by rfl) (.cons (by rfl) (.cons (by exact fun i _ => ⟨rfl, rfl, trivial⟩) (.cons (by (intro _ _; rfl)) (.cons (by assumption) (.cons (by rfl) (.cons (by rfl) (.cons (by rfl) (.cons (by exact fun i _ => ⟨rfl, rfl, trivial⟩) (.cons (by (intro _ _; rfl)) (.cons (by rfl) (.cons (by exact fun i _ => ⟨rfl, rfl, trivial⟩) .nil)))))))))))))))))))) (Nat.le_of_ble_eq_true (by kernel_rfl))
end Go.Proofs.Ytfienpkogkepkaa

/- trie: walk. No condition. -/
namespace Go.Proofs.Ytfienpkogkepkaa
set_option linter.unusedVariables false
set_option linter.unusedSimpArgs false
open Go.RowKit E
theorem E.Tran.eq {m0 : Nat} {x y z : E.St} (h : Tran m0 x y) (e : y = z) : Tran m0 x z := e ▸ h
theorem pf_leG {ρ : List (Nat × Bd)} {m n : Nat} {G G' : Nat → Pf} (h : ∀ i, i < n → G' i = G i) : leG ρ m n (gPf G) (gPf G') := fun i hi => by
  unfold gPf
  rw [h i hi]
  exact ⟨rfl, rfl, trivial⟩
theorem wk_fin {n n' : Nat} {G G' : Nat → Pf} (hn : n = n') (h : ∀ i, i < n → G' i = G i) : Tran 2 (mkSt 32 [(4, .nv (.one (.own 2)))] [.gone, .gone, .row 28 2 n (gPf G)]) (mkSt 32 [(4, .nv (.one (.own 2)))] [.gone, .gone, .row 28 2 n' (gPf G')]) :=
  Tran.le ⟨hn, pf_leG h, trivial⟩ (Nat.le_succ 2)
set_option maxRecDepth 100000 in
theorem fnWalk : ∀ t : PT, WkIh t
  | .nil => fun n G hn => by
    have h1 := nil_tran (m0 := 2) (h := 0) (pin := none) (st := ⟨[.nv (.one (.root 0 0 false)), .nv (.one (.own 1))] ++ List.replicate 30 .any, [.roabs (TA none .nil), .row 28 2 n (gPf G)]⟩) (.inr rfl)
    have h2 := CodeOk.pre (h1.eq (by kernel_rfl)) (wk_nil .nil n G)
    exact fn_of_code (r := .nv (.one (.own 2))) (o := []) Try.func28 (by kernel_rfl) (by kernel_rfl) (h2.post (wk_fin (n' := n + (wkL .nil).length) (G' := apG G n (wkL .nil)) rfl (fun i hi => apG_nil G n i hi))) (.inl rfl) (by kernel_rfl) trivial
  | .node a m u x l r => fun n G hn => by
    have ih : WkIh (l, r).1 ∧ WkIh (l, r).2 := ⟨fnWalk l, fnWalk r⟩
    have h1 := openR_tran (m0 := 2) (h := 0) (pin := none) (a := a) (n := m) (u := u) (x := x) (l := l) (r := r) (tm := [.nv (.one (.root 0 0 false)), .nv (.one (.own 1))] ++ List.replicate 30 .any) (mem := [.roabs (TA none (.node a m u x l r)), .row 28 2 n (gPf G)]) rfl
    cases u with
    | true =>
      have e : wkL (.node a m true x l r) = [(⟨a, m⟩ : Pf)] ++ wkL l ++ wkL r := rfl
      rw [e] at hn ⊢
      simp only [List.length_append, List.length_cons, List.length_nil] at hn
      have h2 := CodeOk.pre (h1.eq (by kernel_rfl)) (wk_u (l, r) ih a m x n G G (by show n + 1 + (wkL l).length ≤ _; omega) (by show n + 1 + (wkL l).length + (wkL r).length ≤ _; omega))
      refine fn_of_code (r := .nv (.one (.own 2))) (o := []) Try.func28 (by kernel_rfl) (by kernel_rfl) (h2.post (wk_fin (n' := n + ([(⟨a, m⟩ : Pf)] ++ wkL l ++ wkL r).length) (G' := apG G n ([(⟨a, m⟩ : Pf)] ++ wkL l ++ wkL r)) (by show n + 1 + (wkL l).length + (wkL r).length = _; simp; omega) (fun i hi => ?_))) (.inl rfl) (by kernel_rfl) trivial
      have e1 : (fun k => if k = n then (⟨a, m⟩ : Pf) else G k) = fun k => if k = n then ⟨a, m⟩ else G k := rfl
      have key : ∀ k, k < n + 1 → (if k = n then (⟨a, m⟩ : Pf) else G k) = apG G n [⟨a, m⟩] k := fun k hk => by
        unfold apG
        by_cases q : k = n
        · subst q; rw [if_pos rfl, if_neg (by omega), Nat.sub_self]; rfl
        · rw [if_neg q, if_pos (by omega)]
      have cg : ∀ (G1 G2 : Nat → Pf) (q : Nat) (L : List Pf), (∀ k, k < q → G1 k = G2 k) → apG G1 q L = apG G2 q L := fun G1 G2 q L hh => by
        funext k; unfold apG
        by_cases q1 : k < q
        · rw [if_pos q1, if_pos q1, hh k q1]
        · rw [if_neg q1, if_neg q1]
      show apG G n ([(⟨a, m⟩ : Pf)] ++ wkL l ++ wkL r) i = apG (apG (fun k => if k = n then ⟨a, m⟩ else G k) (n + 1) (wkL l)) (n + 1 + (wkL l).length) (wkL r) i
      rw [cg _ _ (n + 1) (wkL l) key]
      have a1 := apG_app G n [⟨a, m⟩] (wkL l)
      simp only [List.length_cons, List.length_nil] at a1
      rw [show n + (0 + 1) = n + 1 by omega] at a1
      rw [a1]
      have a2 := apG_app G n ([(⟨a, m⟩ : Pf)] ++ wkL l) (wkL r)
      rw [show n + ([(⟨a, m⟩ : Pf)] ++ wkL l).length = n + 1 + (wkL l).length by simp; omega] at a2
      rw [a2]
    | false =>
      have e : wkL (.node a m false x l r) = wkL l ++ wkL r := rfl
      rw [e] at hn ⊢
      simp only [List.length_append] at hn
      have h2 := CodeOk.pre (h1.eq (by kernel_rfl)) (wk_n (l, r) ih a m x n G G (by show n + (wkL l).length ≤ _; omega) (by show n + (wkL l).length + (wkL r).length ≤ _; omega))
      refine fn_of_code (r := .nv (.one (.own 2))) (o := []) Try.func28 (by kernel_rfl) (by kernel_rfl) (h2.post (wk_fin (n' := n + (wkL l ++ wkL r).length) (G' := apG G n (wkL l ++ wkL r)) (by show n + (wkL l).length + (wkL r).length = _; simp; omega) (fun i hi => ?_))) (.inl rfl) (by kernel_rfl) trivial
      show apG G n (wkL l ++ wkL r) i = apG (apG G n (wkL l)) (n + (wkL l).length) (wkL r) i
      rw [apG_app]
end Go.Proofs.Ytfienpkogkepkaa

/- trie: prune, as a callee of itself. No condition. -/
import Derived.Test.YtfienpkogkepkaaTeO
import Derived.Test.YtfienpkogkepkaaChecked
import Derived.KernelRfl
namespace Go.Proofs.Ytfienpkogkepkaa
set_option linter.unusedVariables false
set_option linter.unusedSimpArgs false
open Go.RowKit E
def PT.isN : PT → Bool
  | .nil => true
  | _ => false
/-- What prune makes of a node. -/
def prT (a n : Int) (u : Bool) (x : Int) (l r : PT) : PT :=
  if u = true ∨ n = 0 then .node a n u x l r else if l.isN = true then r else if r.isN = true then l else .node a n u x l r
def prP (pa pn : Int) : PT → PT
  | .nil => .nil
  | .node a n u x l r => if a = pa ∧ n = pn then prT a n false 0 l r else if sdN pa n = 0 then prT a n u x (prP pa pn l) r else prT a n u x l (prP pa pn r)
/-- A prefix has a node along its path. -/
def inP (pa pn : Int) : PT → Prop
  | .nil => False
  | .node a n u x l r => (a = pa ∧ n = pn) ∨ ((0 ≤ n ∧ n ≤ 31) ∧ ((sdN pa n = 0 ∧ inP pa pn l) ∨ (sdN pa n = 1 ∧ inP pa pn r)))
def PrIh (pa pn : Int) (t : PT) : Prop := inP pa pn t → FnOk Try.prog 26 [.nv (.one (.root 0 0 true)), .nv (.agg [.val (.int .u32 pa), .val (.int .i64 pn)])] [.abs (TA none t)] (.nv (.one (.root 1 0 false))) [.gone, .abs (TA none (prP pa pn t))]
structure PrN where
  pa : Int
  pn : Int
  l : PT
  r : PT
def gPrS (N : PrN) : List SV → List Seg → Option (CS × List Prop)
  | [.nv (.one (.root h 0 _)), .nv (.agg [.val (.int .u32 a), .val (.int .i64 m)])], mem => match (bif Nat.beq h 2 then N.l else N.r) with
    | t => some (⟨[.nv (.one (.root 0 0 true)), .nv (.agg [.val (.int .u32 N.pa), .val (.int .i64 N.pn)])], [.abs (TA none t)], .nv (.one (.root 1 0 false)), [.gone, .abs (TA none (prP N.pa N.pn t))]⟩, [inP N.pa N.pn t])
  | _, _ => none
theorem spPrS {N : PrN} (h1 : PrIh N.pa N.pn N.l) (h2 : PrIh N.pa N.pn N.r) : SpOk Try.prog 26 (.lift (gPrS N)) := by
  intro args mem cs obl h ho
  unfold gPrS at h
  split at h
  · simp only [Option.some.injEq, Prod.mk.injEq] at h
    obtain ⟨rfl, rfl⟩ := h
    cases hb : Nat.beq _ 2 with
    | true => rw [hb] at ho; exact h1 ho.1
    | false => rw [hb] at ho; exact h2 ho.1
  · cases h
def Gpr0 (N : PrN) : List (FuncId × Sp) := (26, .lift (gPrS N)) :: Gs0
def Gpr1 (N : PrN) : List (FuncId × Sp) := (26, .lift (gPrS N)) :: Gs1
theorem Gpr0_ok (N : PrN) (ih : PrIh N.pa N.pn N.l ∧ PrIh N.pa N.pn N.r) : CtxOk Try.prog (Gpr0 N) := ctx_cons (enter_of Try.func26 (by kernel_rfl) (by kernel_rfl)) (spPrS ih.1 ih.2) Gs0_ok
theorem Gpr1_ok (N : PrN) (ih : PrIh N.pa N.pn N.l ∧ PrIh N.pa N.pn N.r) : CtxOk Try.prog (Gpr1 N) := ctx_cons (enter_of Try.func26 (by kernel_rfl) (by kernel_rfl)) (spPrS ih.1 ih.2) Gs1_ok
end Go.Proofs.Ytfienpkogkepkaa

/- Runs of Go code, as printed by a program: no condition beyond those that each states. -/
namespace Go.Proofs.Ytfienpkogkepkaa
set_option linter.unusedVariables false
set_option linter.unusedSimpArgs false
set_option maxRecDepth 100000
open Go.RowKit E
attribute [local irreducible] wkL apG TA bl8 bl32 wdN msk prP inP sdN prT
set_option maxHeartbeats 2000000 in
theorem pa_nn (pa pn a n x : Int) (u : Bool) (N : PrN) : CodeOk Try.prog 2 (subC [false] (bodyOf Try.f26)) (mkSt 76 [(0, .nv (.one (.ptr 1 0))), (1, .nv (.agg [.val (.int .u32 pa), .val (.int .i64 pn)]))] [.gone, .box 55 [.val (.int .u32 (a)), .val (.int .i64 (n)), .val (.bool u), .val (.int .i64 (x)), .val (.pointer none), .val (.pointer none)], .abs (TA none N.l), .abs (TA none N.r)]) .normal (mkSt 76 [(0, .nv (.one (.ptr 1 0))), (3, .nv (.one (.ptr 4 0)))] [.gone, .box 55 [.val (.int .u32 (a)), .val (.int .i64 (n)), .val (.bool u), .val (.int .i64 (x)), .val (.pointer none), .val (.pointer none)], .abs (TA none N.l), .abs (TA none N.r), .box 28 [.val (.int .u32 pa), .val (.int .i64 pn)]]) :=
  code_run Gt3_ok (orc := ⟨[], []⟩) (obl := [(0 : Nat) = (0 : Nat),
      (0 : Nat) = (0 : Nat),
      a = a,
      n = n,
      u = u,
      x = x,
      Value.pointer none = Value.pointer none,
      Value.pointer none = Value.pointer none,
      TA none (PrN.l N) = TA none (PrN.l N),
      TA none (PrN.r N) = TA none (PrN.r N),
      pa = pa,
      pn = pn]) (by kernel_rfl) (.cons (by rfl) (.cons (by rfl) (.cons (by rfl) (.cons (by rfl) (.cons (by rfl) (.cons (by rfl) (.cons (by rfl) (.cons (by rfl) (.cons (by rfl) (.cons (by rfl) (.cons (by rfl) (.cons (by rfl) .nil)))))))))))) (Nat.le_of_ble_eq_true (by kernel_rfl))

set_option maxHeartbeats 2000000 in
theorem pq_nn (pa pn a n x : Int) (u : Bool) (N : PrN) (hb : (a == pa && (n == pn && true)) = true) : CodeOk Try.prog 2 (subC [true, false] (bodyOf Try.f26)) (mkSt 76 [(0, .nv (.one (.ptr 1 0))), (3, .nv (.one (.ptr 4 0)))] [.gone, .box 55 [.val (.int .u32 (a)), .val (.int .i64 (n)), .val (.bool u), .val (.int .i64 (x)), .val (.pointer none), .val (.pointer none)], .abs (TA none N.l), .abs (TA none N.r), .box 28 [.val (.int .u32 pa), .val (.int .i64 pn)]]) .normal (mkSt 76 [(0, .nv (.one (.ptr 1 0)))] [.gone, .box 55 [.val (.int .u32 (a)), .val (.int .i64 (n)), .val (.bool false), .val (.int .i64 (0)), .val (.pointer none), .val (.pointer none)], .abs (TA none N.l), .abs (TA none N.r)]) :=
  code_run Gt3_ok (orc := ⟨[true], []⟩) (obl := [(a == pa && (n == pn && true)) = true,
      (0 : Nat) = (0 : Nat),
      a = a,
      n = n,
      false = false,
      (0 : Int) = (0 : Int),
      Value.pointer none = Value.pointer none,
      Value.pointer none = Value.pointer none,
      TA none (PrN.l N) = TA none (PrN.l N),
      TA none (PrN.r N) = TA none (PrN.r N)]) (by kernel_rfl) (.cons (by assumption) (.cons (by rfl) (.cons (by rfl) (.cons (by rfl) (.cons (by rfl) (.cons (by rfl) (.cons (by rfl) (.cons (by rfl) (.cons (by rfl) (.cons (by rfl) .nil)))))))))) (Nat.le_of_ble_eq_true (by kernel_rfl))

set_option maxHeartbeats 2000000 in
theorem pa_nr (pa pn a n x : Int) (u : Bool) (N : PrN) : CodeOk Try.prog 2 (subC [false] (bodyOf Try.f26)) (mkSt 76 [(0, .nv (.one (.ptr 1 0))), (1, .nv (.agg [.val (.int .u32 pa), .val (.int .i64 pn)]))] [.gone, .box 55 [.val (.int .u32 (a)), .val (.int .i64 (n)), .val (.bool u), .val (.int .i64 (x)), .val (.pointer none), .root 3 0 true], .abs (TA none N.l), .abs (TA none N.r)]) .normal (mkSt 76 [(0, .nv (.one (.ptr 1 0))), (3, .nv (.one (.ptr 4 0)))] [.gone, .box 55 [.val (.int .u32 (a)), .val (.int .i64 (n)), .val (.bool u), .val (.int .i64 (x)), .val (.pointer none), .root 3 0 true], .abs (TA none N.l), .abs (TA none N.r), .box 28 [.val (.int .u32 pa), .val (.int .i64 pn)]]) :=
  code_run Gt3_ok (orc := ⟨[], []⟩) (obl := [(0 : Nat) = (0 : Nat),
      (0 : Nat) = (0 : Nat),
      a = a,
      n = n,
      u = u,
      x = x,
      Value.pointer none = Value.pointer none,
      (0 : Nat) = (0 : Nat),
      TA none (PrN.l N) = TA none (PrN.l N),
      TA none (PrN.r N) = TA none (PrN.r N),
      pa = pa,
      pn = pn]) (by kernel_rfl) (.cons (by rfl) (.cons (by rfl) (.cons (by rfl) (.cons (by rfl) (.cons (by rfl) (.cons (by rfl) (.cons (by rfl) (.cons (by rfl) (.cons (by rfl) (.cons (by rfl) (.cons (by rfl) (.cons (by rfl) .nil)))))))))))) (Nat.le_of_ble_eq_true (by kernel_rfl))

set_option maxHeartbeats 2000000 in
theorem pq_nr (pa pn a n x : Int) (u : Bool) (N : PrN) (hb : (a == pa && (n == pn && true)) = true) : CodeOk Try.prog 2 (subC [true, false] (bodyOf Try.f26)) (mkSt 76 [(0, .nv (.one (.ptr 1 0))), (3, .nv (.one (.ptr 4 0)))] [.gone, .box 55 [.val (.int .u32 (a)), .val (.int .i64 (n)), .val (.bool u), .val (.int .i64 (x)), .val (.pointer none), .root 3 0 true], .abs (TA none N.l), .abs (TA none N.r), .box 28 [.val (.int .u32 pa), .val (.int .i64 pn)]]) .normal (mkSt 76 [(0, .nv (.one (.ptr 1 0)))] [.gone, .box 55 [.val (.int .u32 (a)), .val (.int .i64 (n)), .val (.bool false), .val (.int .i64 (0)), .val (.pointer none), .root 3 0 true], .abs (TA none N.l), .abs (TA none N.r)]) :=
  code_run Gt3_ok (orc := ⟨[true], []⟩) (obl := [(a == pa && (n == pn && true)) = true,
      (0 : Nat) = (0 : Nat),
      a = a,
      n = n,
      false = false,
      (0 : Int) = (0 : Int),
      Value.pointer none = Value.pointer none,
      (0 : Nat) = (0 : Nat),
      TA none (PrN.l N) = TA none (PrN.l N),
      TA none (PrN.r N) = TA none (PrN.r N)]) (by kernel_rfl) (.cons (by assumption) (.cons (by rfl) (.cons (by rfl) (.cons (by rfl) (.cons (by rfl) (.cons (by rfl) (.cons (by rfl) (.cons (by rfl) (.cons (by rfl) (.cons (by rfl) .nil)))))))))) (Nat.le_of_ble_eq_true (by kernel_rfl))

set_option maxHeartbeats 2000000 in
theorem pr1_nr (pa pn a n x : Int) (u : Bool) (N : PrN) (ha : 0 ≤ pa) (ha2 : pa ≤ 4294967295) (hb : (a == pa && (n == pn && true)) = false) (hn0 : 0 ≤ n) (hn31 : n ≤ 31) (ih : PrIh N.pa N.pn N.l ∧ PrIh N.pa N.pn N.r) (hm : pa = N.pa) (hm2 : pn = N.pn) (hs : sdN pa n = 1) (hi : inP N.pa N.pn N.r) : CodeOk Try.prog 2 (subC [true, false] (bodyOf Try.f26)) (mkSt 76 [(0, .nv (.one (.ptr 1 0))), (3, .nv (.one (.ptr 4 0)))] [.gone, .box 55 [.val (.int .u32 (a)), .val (.int .i64 (n)), .val (.bool u), .val (.int .i64 (x)), .val (.pointer none), .root 3 0 true], .abs (TA none N.l), .abs (TA none N.r), .box 28 [.val (.int .u32 pa), .val (.int .i64 pn)]]) .normal (mkSt 76 [(0, .nv (.one (.ptr 1 0)))] [.gone, .box 55 [.val (.int .u32 (a)), .val (.int .i64 (n)), .val (.bool u), .val (.int .i64 (x)), .val (.pointer none), .root 4 0 false], .abs (TA none N.l), .gone, .abs (TA none (prP N.pa N.pn N.r))]) :=
  code_run (Gpr1_ok N ih) (orc := ⟨[false], []⟩) (obl := [(a == pa && (n == pn && true)) = false,
      (0 : Int) ≤ pa,
      pa ≤ (4294967295 : Int),
      (0 : Int) ≤ n,
      n ≤ (31 : Int),
      sdN pa n = (1 : Int),
      (0 : Nat) = (0 : Nat),
      pa = pa,
      a = a,
      n = n,
      u = u,
      x = x,
      (0 : Int) ≤ (1 : Int),
      (1 : Int) < (↑(2 : Nat) : Int),
      inP (PrN.pa N) (PrN.pn N) (bif Nat.beq (3 : Nat) (2 : Nat) then PrN.l N else PrN.r N),
      (0 : Nat) = (0 : Nat),
      pa = PrN.pa N,
      pn = PrN.pn N,
      TA none (PrN.r N) = TA none (bif Nat.beq (3 : Nat) (2 : Nat) then PrN.l N else PrN.r N),
      (0 : Int) ≤ (1 : Int),
      (1 : Int) < (↑(2 : Nat) : Int),
      (0 : Nat) = (0 : Nat),
      a = a,
      n = n,
      u = u,
      x = x,
      Value.pointer none = Value.pointer none,
      (0 : Nat) = (0 : Nat),
      TA none (PrN.l N) = TA none (PrN.l N),
      TA none (prP (PrN.pa N) (PrN.pn N) (bif Nat.beq (3 : Nat) (2 : Nat) then PrN.l N else PrN.r N)) = TA none (prP (PrN.pa N) (PrN.pn N) (PrN.r N))]) (by kernel_rfl) (.cons (by assumption) (.cons (by assumption) (.cons (by assumption) (.cons (by assumption) (.cons (by assumption) (.cons (by assumption) (.cons (by rfl) (.cons (by rfl) (.cons (by rfl) (.cons (by rfl) (.cons (by rfl) (.cons (by rfl) (.cons (by trivial) (.cons (by trivial) (.cons (by assumption) (.cons (by rfl) (.cons (by assumption) (.cons (by assumption) (.cons (by rfl) (.cons (by trivial) (.cons (by trivial) (.cons (by rfl) (.cons (by rfl) (.cons (by rfl) (.cons (by rfl) (.cons (by rfl) (.cons (by rfl) (.cons (by rfl) (.cons (by rfl) (.cons (by rfl) .nil)))))))))))))))))))))))))))))) (Nat.le_of_ble_eq_true (by kernel_rfl))

set_option maxHeartbeats 2000000 in
theorem pa_ln (pa pn a n x : Int) (u : Bool) (N : PrN) : CodeOk Try.prog 2 (subC [false] (bodyOf Try.f26)) (mkSt 76 [(0, .nv (.one (.ptr 1 0))), (1, .nv (.agg [.val (.int .u32 pa), .val (.int .i64 pn)]))] [.gone, .box 55 [.val (.int .u32 (a)), .val (.int .i64 (n)), .val (.bool u), .val (.int .i64 (x)), .root 2 0 true, .val (.pointer none)], .abs (TA none N.l), .abs (TA none N.r)]) .normal (mkSt 76 [(0, .nv (.one (.ptr 1 0))), (3, .nv (.one (.ptr 4 0)))] [.gone, .box 55 [.val (.int .u32 (a)), .val (.int .i64 (n)), .val (.bool u), .val (.int .i64 (x)), .root 2 0 true, .val (.pointer none)], .abs (TA none N.l), .abs (TA none N.r), .box 28 [.val (.int .u32 pa), .val (.int .i64 pn)]]) :=
  code_run Gt3_ok (orc := ⟨[], []⟩) (obl := [(0 : Nat) = (0 : Nat),
      (0 : Nat) = (0 : Nat),
      a = a,
      n = n,
      u = u,
      x = x,
      (0 : Nat) = (0 : Nat),
      Value.pointer none = Value.pointer none,
      TA none (PrN.l N) = TA none (PrN.l N),
      TA none (PrN.r N) = TA none (PrN.r N),
      pa = pa,
      pn = pn]) (by kernel_rfl) (.cons (by rfl) (.cons (by rfl) (.cons (by rfl) (.cons (by rfl) (.cons (by rfl) (.cons (by rfl) (.cons (by rfl) (.cons (by rfl) (.cons (by rfl) (.cons (by rfl) (.cons (by rfl) (.cons (by rfl) .nil)))))))))))) (Nat.le_of_ble_eq_true (by kernel_rfl))

set_option maxHeartbeats 2000000 in
theorem pq_ln (pa pn a n x : Int) (u : Bool) (N : PrN) (hb : (a == pa && (n == pn && true)) = true) : CodeOk Try.prog 2 (subC [true, false] (bodyOf Try.f26)) (mkSt 76 [(0, .nv (.one (.ptr 1 0))), (3, .nv (.one (.ptr 4 0)))] [.gone, .box 55 [.val (.int .u32 (a)), .val (.int .i64 (n)), .val (.bool u), .val (.int .i64 (x)), .root 2 0 true, .val (.pointer none)], .abs (TA none N.l), .abs (TA none N.r), .box 28 [.val (.int .u32 pa), .val (.int .i64 pn)]]) .normal (mkSt 76 [(0, .nv (.one (.ptr 1 0)))] [.gone, .box 55 [.val (.int .u32 (a)), .val (.int .i64 (n)), .val (.bool false), .val (.int .i64 (0)), .root 2 0 true, .val (.pointer none)], .abs (TA none N.l), .abs (TA none N.r)]) :=
  code_run Gt3_ok (orc := ⟨[true], []⟩) (obl := [(a == pa && (n == pn && true)) = true,
      (0 : Nat) = (0 : Nat),
      a = a,
      n = n,
      false = false,
      (0 : Int) = (0 : Int),
      (0 : Nat) = (0 : Nat),
      Value.pointer none = Value.pointer none,
      TA none (PrN.l N) = TA none (PrN.l N),
      TA none (PrN.r N) = TA none (PrN.r N)]) (by kernel_rfl) (.cons (by assumption) (.cons (by rfl) (.cons (by rfl) (.cons (by rfl) (.cons (by rfl) (.cons (by rfl) (.cons (by rfl) (.cons (by rfl) (.cons (by rfl) (.cons (by rfl) .nil)))))))))) (Nat.le_of_ble_eq_true (by kernel_rfl))

set_option maxHeartbeats 2000000 in
theorem pr0_ln (pa pn a n x : Int) (u : Bool) (N : PrN) (ha : 0 ≤ pa) (ha2 : pa ≤ 4294967295) (hb : (a == pa && (n == pn && true)) = false) (hn0 : 0 ≤ n) (hn31 : n ≤ 31) (ih : PrIh N.pa N.pn N.l ∧ PrIh N.pa N.pn N.r) (hm : pa = N.pa) (hm2 : pn = N.pn) (hs : sdN pa n = 0) (hi : inP N.pa N.pn N.l) : CodeOk Try.prog 2 (subC [true, false] (bodyOf Try.f26)) (mkSt 76 [(0, .nv (.one (.ptr 1 0))), (3, .nv (.one (.ptr 4 0)))] [.gone, .box 55 [.val (.int .u32 (a)), .val (.int .i64 (n)), .val (.bool u), .val (.int .i64 (x)), .root 2 0 true, .val (.pointer none)], .abs (TA none N.l), .abs (TA none N.r), .box 28 [.val (.int .u32 pa), .val (.int .i64 pn)]]) .normal (mkSt 76 [(0, .nv (.one (.ptr 1 0)))] [.gone, .box 55 [.val (.int .u32 (a)), .val (.int .i64 (n)), .val (.bool u), .val (.int .i64 (x)), .root 4 0 false, .val (.pointer none)], .gone, .abs (TA none N.r), .abs (TA none (prP N.pa N.pn N.l))]) :=
  code_run (Gpr0_ok N ih) (orc := ⟨[false], []⟩) (obl := [(a == pa && (n == pn && true)) = false,
      (0 : Int) ≤ pa,
      pa ≤ (4294967295 : Int),
      (0 : Int) ≤ n,
      n ≤ (31 : Int),
      sdN pa n = (0 : Int),
      (0 : Nat) = (0 : Nat),
      pa = pa,
      a = a,
      n = n,
      u = u,
      x = x,
      (0 : Int) ≤ (0 : Int),
      (0 : Int) < (↑(2 : Nat) : Int),
      inP (PrN.pa N) (PrN.pn N) (bif Nat.beq (2 : Nat) (2 : Nat) then PrN.l N else PrN.r N),
      (0 : Nat) = (0 : Nat),
      pa = PrN.pa N,
      pn = PrN.pn N,
      TA none (PrN.l N) = TA none (bif Nat.beq (2 : Nat) (2 : Nat) then PrN.l N else PrN.r N),
      (0 : Int) ≤ (0 : Int),
      (0 : Int) < (↑(2 : Nat) : Int),
      (0 : Nat) = (0 : Nat),
      a = a,
      n = n,
      u = u,
      x = x,
      (0 : Nat) = (0 : Nat),
      Value.pointer none = Value.pointer none,
      TA none (PrN.r N) = TA none (PrN.r N),
      TA none (prP (PrN.pa N) (PrN.pn N) (bif Nat.beq (2 : Nat) (2 : Nat) then PrN.l N else PrN.r N)) = TA none (prP (PrN.pa N) (PrN.pn N) (PrN.l N))]) (by kernel_rfl) (.cons (by assumption) (.cons (by assumption) (.cons (by assumption) (.cons (by assumption) (.cons (by assumption) (.cons (by assumption) (.cons (by rfl) (.cons (by rfl) (.cons (by rfl) (.cons (by rfl) (.cons (by rfl) (.cons (by rfl) (.cons (by trivial) (.cons (by trivial) (.cons (by assumption) (.cons (by rfl) (.cons (by assumption) (.cons (by assumption) (.cons (by rfl) (.cons (by trivial) (.cons (by trivial) (.cons (by rfl) (.cons (by rfl) (.cons (by rfl) (.cons (by rfl) (.cons (by rfl) (.cons (by rfl) (.cons (by rfl) (.cons (by rfl) (.cons (by rfl) .nil)))))))))))))))))))))))))))))) (Nat.le_of_ble_eq_true (by kernel_rfl))

set_option maxHeartbeats 2000000 in
theorem pa_lr (pa pn a n x : Int) (u : Bool) (N : PrN) : CodeOk Try.prog 2 (subC [false] (bodyOf Try.f26)) (mkSt 76 [(0, .nv (.one (.ptr 1 0))), (1, .nv (.agg [.val (.int .u32 pa), .val (.int .i64 pn)]))] [.gone, .box 55 [.val (.int .u32 (a)), .val (.int .i64 (n)), .val (.bool u), .val (.int .i64 (x)), .root 2 0 true, .root 3 0 true], .abs (TA none N.l), .abs (TA none N.r)]) .normal (mkSt 76 [(0, .nv (.one (.ptr 1 0))), (3, .nv (.one (.ptr 4 0)))] [.gone, .box 55 [.val (.int .u32 (a)), .val (.int .i64 (n)), .val (.bool u), .val (.int .i64 (x)), .root 2 0 true, .root 3 0 true], .abs (TA none N.l), .abs (TA none N.r), .box 28 [.val (.int .u32 pa), .val (.int .i64 pn)]]) :=
  code_run Gt3_ok (orc := ⟨[], []⟩) (obl := [(0 : Nat) = (0 : Nat),
      (0 : Nat) = (0 : Nat),
      a = a,
      n = n,
      u = u,
      x = x,
      (0 : Nat) = (0 : Nat),
      (0 : Nat) = (0 : Nat),
      TA none (PrN.l N) = TA none (PrN.l N),
      TA none (PrN.r N) = TA none (PrN.r N),
      pa = pa,
      pn = pn]) (by kernel_rfl) (.cons (by rfl) (.cons (by rfl) (.cons (by rfl) (.cons (by rfl) (.cons (by rfl) (.cons (by rfl) (.cons (by rfl) (.cons (by rfl) (.cons (by rfl) (.cons (by rfl) (.cons (by rfl) (.cons (by rfl) .nil)))))))))))) (Nat.le_of_ble_eq_true (by kernel_rfl))

set_option maxHeartbeats 2000000 in
theorem pq_lr (pa pn a n x : Int) (u : Bool) (N : PrN) (hb : (a == pa && (n == pn && true)) = true) : CodeOk Try.prog 2 (subC [true, false] (bodyOf Try.f26)) (mkSt 76 [(0, .nv (.one (.ptr 1 0))), (3, .nv (.one (.ptr 4 0)))] [.gone, .box 55 [.val (.int .u32 (a)), .val (.int .i64 (n)), .val (.bool u), .val (.int .i64 (x)), .root 2 0 true, .root 3 0 true], .abs (TA none N.l), .abs (TA none N.r), .box 28 [.val (.int .u32 pa), .val (.int .i64 pn)]]) .normal (mkSt 76 [(0, .nv (.one (.ptr 1 0)))] [.gone, .box 55 [.val (.int .u32 (a)), .val (.int .i64 (n)), .val (.bool false), .val (.int .i64 (0)), .root 2 0 true, .root 3 0 true], .abs (TA none N.l), .abs (TA none N.r)]) :=
  code_run Gt3_ok (orc := ⟨[true], []⟩) (obl := [(a == pa && (n == pn && true)) = true,
      (0 : Nat) = (0 : Nat),
      a = a,
      n = n,
      false = false,
      (0 : Int) = (0 : Int),
      (0 : Nat) = (0 : Nat),
      (0 : Nat) = (0 : Nat),
      TA none (PrN.l N) = TA none (PrN.l N),
      TA none (PrN.r N) = TA none (PrN.r N)]) (by kernel_rfl) (.cons (by assumption) (.cons (by rfl) (.cons (by rfl) (.cons (by rfl) (.cons (by rfl) (.cons (by rfl) (.cons (by rfl) (.cons (by rfl) (.cons (by rfl) (.cons (by rfl) .nil)))))))))) (Nat.le_of_ble_eq_true (by kernel_rfl))

set_option maxHeartbeats 2000000 in
theorem pr0_lr (pa pn a n x : Int) (u : Bool) (N : PrN) (ha : 0 ≤ pa) (ha2 : pa ≤ 4294967295) (hb : (a == pa && (n == pn && true)) = false) (hn0 : 0 ≤ n) (hn31 : n ≤ 31) (ih : PrIh N.pa N.pn N.l ∧ PrIh N.pa N.pn N.r) (hm : pa = N.pa) (hm2 : pn = N.pn) (hs : sdN pa n = 0) (hi : inP N.pa N.pn N.l) : CodeOk Try.prog 2 (subC [true, false] (bodyOf Try.f26)) (mkSt 76 [(0, .nv (.one (.ptr 1 0))), (3, .nv (.one (.ptr 4 0)))] [.gone, .box 55 [.val (.int .u32 (a)), .val (.int .i64 (n)), .val (.bool u), .val (.int .i64 (x)), .root 2 0 true, .root 3 0 true], .abs (TA none N.l), .abs (TA none N.r), .box 28 [.val (.int .u32 pa), .val (.int .i64 pn)]]) .normal (mkSt 76 [(0, .nv (.one (.ptr 1 0)))] [.gone, .box 55 [.val (.int .u32 (a)), .val (.int .i64 (n)), .val (.bool u), .val (.int .i64 (x)), .root 4 0 false, .root 3 0 true], .gone, .abs (TA none N.r), .abs (TA none (prP N.pa N.pn N.l))]) :=
  code_run (Gpr0_ok N ih) (orc := ⟨[false], []⟩) (obl := [(a == pa && (n == pn && true)) = false,
      (0 : Int) ≤ pa,
      pa ≤ (4294967295 : Int),
      (0 : Int) ≤ n,
      n ≤ (31 : Int),
      sdN pa n = (0 : Int),
      (0 : Nat) = (0 : Nat),
      pa = pa,
      a = a,
      n = n,
      u = u,
      x = x,
      (0 : Int) ≤ (0 : Int),
      (0 : Int) < (↑(2 : Nat) : Int),
      inP (PrN.pa N) (PrN.pn N) (bif Nat.beq (2 : Nat) (2 : Nat) then PrN.l N else PrN.r N),
      (0 : Nat) = (0 : Nat),
      pa = PrN.pa N,
      pn = PrN.pn N,
      TA none (PrN.l N) = TA none (bif Nat.beq (2 : Nat) (2 : Nat) then PrN.l N else PrN.r N),
      (0 : Int) ≤ (0 : Int),
      (0 : Int) < (↑(2 : Nat) : Int),
      (0 : Nat) = (0 : Nat),
      a = a,
      n = n,
      u = u,
      x = x,
      (0 : Nat) = (0 : Nat),
      (0 : Nat) = (0 : Nat),
      TA none (PrN.r N) = TA none (PrN.r N),
      TA none (prP (PrN.pa N) (PrN.pn N) (bif Nat.beq (2 : Nat) (2 : Nat) then PrN.l N else PrN.r N)) = TA none (prP (PrN.pa N) (PrN.pn N) (PrN.l N))]) (by kernel_rfl) (.cons (by assumption) (.cons (by assumption) (.cons (by assumption) (.cons (by assumption) (.cons (by assumption) (.cons (by assumption) (.cons (by rfl) (.cons (by rfl) (.cons (by rfl) (.cons (by rfl) (.cons (by rfl) (.cons (by rfl) (.cons (by trivial) (.cons (by trivial) (.cons (by assumption) (.cons (by rfl) (.cons (by assumption) (.cons (by assumption) (.cons (by rfl) (.cons (by trivial) (.cons (by trivial) (.cons (by rfl) (.cons (by rfl) (.cons (by rfl) (.cons (by rfl) (.cons (by rfl) (.cons (by rfl) (.cons (by rfl) (.cons (by rfl) (.cons (by rfl) .nil)))))))))))))))))))))))))))))) (Nat.le_of_ble_eq_true (by kernel_rfl))

set_option maxHeartbeats 2000000 in
theorem pr1_lr (pa pn a n x : Int) (u : Bool) (N : PrN) (ha : 0 ≤ pa) (ha2 : pa ≤ 4294967295) (hb : (a == pa && (n == pn && true)) = false) (hn0 : 0 ≤ n) (hn31 : n ≤ 31) (ih : PrIh N.pa N.pn N.l ∧ PrIh N.pa N.pn N.r) (hm : pa = N.pa) (hm2 : pn = N.pn) (hs : sdN pa n = 1) (hi : inP N.pa N.pn N.r) : CodeOk Try.prog 2 (subC [true, false] (bodyOf Try.f26)) (mkSt 76 [(0, .nv (.one (.ptr 1 0))), (3, .nv (.one (.ptr 4 0)))] [.gone, .box 55 [.val (.int .u32 (a)), .val (.int .i64 (n)), .val (.bool u), .val (.int .i64 (x)), .root 2 0 true, .root 3 0 true], .abs (TA none N.l), .abs (TA none N.r), .box 28 [.val (.int .u32 pa), .val (.int .i64 pn)]]) .normal (mkSt 76 [(0, .nv (.one (.ptr 1 0)))] [.gone, .box 55 [.val (.int .u32 (a)), .val (.int .i64 (n)), .val (.bool u), .val (.int .i64 (x)), .root 2 0 true, .root 4 0 false], .abs (TA none N.l), .gone, .abs (TA none (prP N.pa N.pn N.r))]) :=
  code_run (Gpr1_ok N ih) (orc := ⟨[false], []⟩) (obl := [(a == pa && (n == pn && true)) = false,
      (0 : Int) ≤ pa,
      pa ≤ (4294967295 : Int),
      (0 : Int) ≤ n,
      n ≤ (31 : Int),
      sdN pa n = (1 : Int),
      (0 : Nat) = (0 : Nat),
      pa = pa,
      a = a,
      n = n,
      u = u,
      x = x,
      (0 : Int) ≤ (1 : Int),
      (1 : Int) < (↑(2 : Nat) : Int),
      inP (PrN.pa N) (PrN.pn N) (bif Nat.beq (3 : Nat) (2 : Nat) then PrN.l N else PrN.r N),
      (0 : Nat) = (0 : Nat),
      pa = PrN.pa N,
      pn = PrN.pn N,
      TA none (PrN.r N) = TA none (bif Nat.beq (3 : Nat) (2 : Nat) then PrN.l N else PrN.r N),
      (0 : Int) ≤ (1 : Int),
      (1 : Int) < (↑(2 : Nat) : Int),
      (0 : Nat) = (0 : Nat),
      a = a,
      n = n,
      u = u,
      x = x,
      (0 : Nat) = (0 : Nat),
      (0 : Nat) = (0 : Nat),
      TA none (PrN.l N) = TA none (PrN.l N),
      TA none (prP (PrN.pa N) (PrN.pn N) (bif Nat.beq (3 : Nat) (2 : Nat) then PrN.l N else PrN.r N)) = TA none (prP (PrN.pa N) (PrN.pn N) (PrN.r N))]) (by kernel_rfl) (.cons (by assumption) (.cons (by assumption) (.cons (by assumption) (.cons (by assumption) (.cons (by assumption) (.cons (by assumption) (.cons (by rfl) (.cons (by rfl) (.cons (by rfl) (.cons (by rfl) (.cons (by rfl) (.cons (by rfl) (.cons (by trivial) (.cons (by trivial) (.cons (by assumption) (.cons (by rfl) (.cons (by assumption) (.cons (by assumption) (.cons (by rfl) (.cons (by trivial) (.cons (by trivial) (.cons (by rfl) (.cons (by rfl) (.cons (by rfl) (.cons (by rfl) (.cons (by rfl) (.cons (by rfl) (.cons (by rfl) (.cons (by rfl) (.cons (by rfl) .nil)))))))))))))))))))))))))))))) (Nat.le_of_ble_eq_true (by kernel_rfl))

set_option maxHeartbeats 2000000 in
theorem pzAnn_u (a n x : Int) (A2 A3 A4 : Abs) : CodeOk Try.prog 2 (subC [true, true] (bodyOf Try.f26)) (mkSt 76 [(0, .nv (.one (.ptr 1 0)))] [.gone, .box 55 [.val (.int .u32 (a)), .val (.int .i64 (n)), .val (.bool true), .val (.int .i64 (x)), .val (.pointer none), .val (.pointer none)], .abs A2, .abs A3]) .ret (mkSt 76 [(4, .nv (.one (.ptr 1 0)))] [.gone, .box 55 [.val (.int .u32 (a)), .val (.int .i64 (n)), .val (.bool true), .val (.int .i64 (x)), .val (.pointer none), .val (.pointer none)], .abs A2, .abs A3]) :=
  code_run Gt3_ok (orc := ⟨[true, true], []⟩) (obl := [true = true,
      true = true,
      (0 : Nat) = (0 : Nat),
      a = a,
      n = n,
      true = true,
      x = x,
      Value.pointer none = Value.pointer none,
      Value.pointer none = Value.pointer none,
      A2 = A2,
      A3 = A3]) (by kernel_rfl) (.cons (by rfl) (.cons (by rfl) (.cons (by rfl) (.cons (by rfl) (.cons (by rfl) (.cons (by rfl) (.cons (by rfl) (.cons (by rfl) (.cons (by rfl) (.cons (by rfl) (.cons (by rfl) .nil))))))))))) (Nat.le_of_ble_eq_true (by kernel_rfl))

set_option maxHeartbeats 2000000 in
theorem pzAnn_z (a n x : Int) (A2 A3 A4 : Abs) (hz : n = 0) : CodeOk Try.prog 2 (subC [true, true] (bodyOf Try.f26)) (mkSt 76 [(0, .nv (.one (.ptr 1 0)))] [.gone, .box 55 [.val (.int .u32 (a)), .val (.int .i64 (n)), .val (.bool false), .val (.int .i64 (x)), .val (.pointer none), .val (.pointer none)], .abs A2, .abs A3]) .ret (mkSt 76 [(4, .nv (.one (.ptr 1 0)))] [.gone, .box 55 [.val (.int .u32 (a)), .val (.int .i64 (n)), .val (.bool false), .val (.int .i64 (x)), .val (.pointer none), .val (.pointer none)], .abs A2, .abs A3]) :=
  code_run Gt3_ok (orc := ⟨[false, true], []⟩) (obl := [false = false,
      (n == (0 : Int)) = true,
      (0 : Nat) = (0 : Nat),
      a = a,
      n = n,
      false = false,
      x = x,
      Value.pointer none = Value.pointer none,
      Value.pointer none = Value.pointer none,
      A2 = A2,
      A3 = A3]) (by kernel_rfl) (.cons (by rfl) (.cons (by (show (n == 0) = true; exact beq_iff_eq.2 hz)) (.cons (by rfl) (.cons (by rfl) (.cons (by rfl) (.cons (by rfl) (.cons (by rfl) (.cons (by rfl) (.cons (by rfl) (.cons (by rfl) (.cons (by rfl) .nil))))))))))) (Nat.le_of_ble_eq_true (by kernel_rfl))

set_option maxHeartbeats 2000000 in
theorem pzAnn_o (a n x : Int) (A2 A3 A4 : Abs) (hz : ¬ n = 0) : CodeOk Try.prog 2 (subC [true, true] (bodyOf Try.f26)) (mkSt 76 [(0, .nv (.one (.ptr 1 0)))] [.gone, .box 55 [.val (.int .u32 (a)), .val (.int .i64 (n)), .val (.bool false), .val (.int .i64 (x)), .val (.pointer none), .val (.pointer none)], .abs A2, .abs A3]) .ret (mkSt 76 [(4, .nv (.one (.val (.pointer none))))] [.gone, .box 55 [.val (.int .u32 (a)), .val (.int .i64 (n)), .val (.bool false), .val (.int .i64 (x)), .val (.pointer none), .val (.pointer none)], .abs A2, .abs A3]) :=
  code_run Gt3_ok (orc := ⟨[false, false, true], []⟩) (obl := [false = false,
      (n == (0 : Int)) = false,
      (0 : Int) ≤ (0 : Int),
      (0 : Int) < (↑(2 : Nat) : Int),
      true = true,
      (0 : Int) ≤ (1 : Int),
      (1 : Int) < (↑(2 : Nat) : Int),
      Value.pointer none = Value.pointer none,
      a = a,
      n = n,
      false = false,
      x = x,
      Value.pointer none = Value.pointer none,
      Value.pointer none = Value.pointer none,
      A2 = A2,
      A3 = A3]) (by kernel_rfl) (.cons (by rfl) (.cons (by (show (n == 0) = false; exact beq_eq_false_iff_ne.2 hz)) (.cons (by trivial) (.cons (by trivial) (.cons (by rfl) (.cons (by trivial) (.cons (by trivial) (.cons (by rfl) (.cons (by rfl) (.cons (by rfl) (.cons (by rfl) (.cons (by rfl) (.cons (by rfl) (.cons (by rfl) (.cons (by rfl) (.cons (by rfl) .nil)))))))))))))))) (Nat.le_of_ble_eq_true (by kernel_rfl))

set_option maxHeartbeats 2000000 in
theorem pzAnk_u (a n x : Int) (A2 A3 A4 : Abs) : CodeOk Try.prog 2 (subC [true, true] (bodyOf Try.f26)) (mkSt 76 [(0, .nv (.one (.ptr 1 0)))] [.gone, .box 55 [.val (.int .u32 (a)), .val (.int .i64 (n)), .val (.bool true), .val (.int .i64 (x)), .val (.pointer none), .root 3 0 true], .abs A2, .abs A3]) .ret (mkSt 76 [(4, .nv (.one (.ptr 1 0)))] [.gone, .box 55 [.val (.int .u32 (a)), .val (.int .i64 (n)), .val (.bool true), .val (.int .i64 (x)), .val (.pointer none), .root 3 0 true], .abs A2, .abs A3]) :=
  code_run Gt3_ok (orc := ⟨[true, true], []⟩) (obl := [true = true,
      true = true,
      (0 : Nat) = (0 : Nat),
      a = a,
      n = n,
      true = true,
      x = x,
      Value.pointer none = Value.pointer none,
      (0 : Nat) = (0 : Nat),
      A2 = A2,
      A3 = A3]) (by kernel_rfl) (.cons (by rfl) (.cons (by rfl) (.cons (by rfl) (.cons (by rfl) (.cons (by rfl) (.cons (by rfl) (.cons (by rfl) (.cons (by rfl) (.cons (by rfl) (.cons (by rfl) (.cons (by rfl) .nil))))))))))) (Nat.le_of_ble_eq_true (by kernel_rfl))

set_option maxHeartbeats 2000000 in
theorem pzAnk_z (a n x : Int) (A2 A3 A4 : Abs) (hz : n = 0) : CodeOk Try.prog 2 (subC [true, true] (bodyOf Try.f26)) (mkSt 76 [(0, .nv (.one (.ptr 1 0)))] [.gone, .box 55 [.val (.int .u32 (a)), .val (.int .i64 (n)), .val (.bool false), .val (.int .i64 (x)), .val (.pointer none), .root 3 0 true], .abs A2, .abs A3]) .ret (mkSt 76 [(4, .nv (.one (.ptr 1 0)))] [.gone, .box 55 [.val (.int .u32 (a)), .val (.int .i64 (n)), .val (.bool false), .val (.int .i64 (x)), .val (.pointer none), .root 3 0 true], .abs A2, .abs A3]) :=
  code_run Gt3_ok (orc := ⟨[false, true], []⟩) (obl := [false = false,
      (n == (0 : Int)) = true,
      (0 : Nat) = (0 : Nat),
      a = a,
      n = n,
      false = false,
      x = x,
      Value.pointer none = Value.pointer none,
      (0 : Nat) = (0 : Nat),
      A2 = A2,
      A3 = A3]) (by kernel_rfl) (.cons (by rfl) (.cons (by (show (n == 0) = true; exact beq_iff_eq.2 hz)) (.cons (by rfl) (.cons (by rfl) (.cons (by rfl) (.cons (by rfl) (.cons (by rfl) (.cons (by rfl) (.cons (by rfl) (.cons (by rfl) (.cons (by rfl) .nil))))))))))) (Nat.le_of_ble_eq_true (by kernel_rfl))

set_option maxHeartbeats 2000000 in
theorem pzAnk_o (a n x : Int) (A2 A3 A4 : Abs) (hz : ¬ n = 0) : CodeOk Try.prog 2 (subC [true, true] (bodyOf Try.f26)) (mkSt 76 [(0, .nv (.one (.ptr 1 0)))] [.gone, .box 55 [.val (.int .u32 (a)), .val (.int .i64 (n)), .val (.bool false), .val (.int .i64 (x)), .val (.pointer none), .root 3 0 true], .abs A2, .abs A3]) .ret (mkSt 76 [(4, .nv (.one (.root 3 0 true)))] [.gone, .box 55 [.val (.int .u32 (a)), .val (.int .i64 (n)), .val (.bool false), .val (.int .i64 (x)), .val (.pointer none), .root 3 0 true], .abs A2, .abs A3]) :=
  code_run Gt3_ok (orc := ⟨[false, false, true], []⟩) (obl := [false = false,
      (n == (0 : Int)) = false,
      (0 : Int) ≤ (0 : Int),
      (0 : Int) < (↑(2 : Nat) : Int),
      true = true,
      (0 : Int) ≤ (1 : Int),
      (1 : Int) < (↑(2 : Nat) : Int),
      (0 : Nat) = (0 : Nat),
      a = a,
      n = n,
      false = false,
      x = x,
      Value.pointer none = Value.pointer none,
      (0 : Nat) = (0 : Nat),
      A2 = A2,
      A3 = A3]) (by kernel_rfl) (.cons (by rfl) (.cons (by (show (n == 0) = false; exact beq_eq_false_iff_ne.2 hz)) (.cons (by trivial) (.cons (by trivial) (.cons (by rfl) (.cons (by trivial) (.cons (by trivial) (.cons (by rfl) (.cons (by rfl) (.cons (by rfl) (.cons (by rfl) (.cons (by rfl) (.cons (by rfl) (.cons (by rfl) (.cons (by rfl) (.cons (by rfl) .nil)))))))))))))))) (Nat.le_of_ble_eq_true (by kernel_rfl))

set_option maxHeartbeats 2000000 in
theorem pzAkn_u (a n x : Int) (A2 A3 A4 : Abs) : CodeOk Try.prog 2 (subC [true, true] (bodyOf Try.f26)) (mkSt 76 [(0, .nv (.one (.ptr 1 0)))] [.gone, .box 55 [.val (.int .u32 (a)), .val (.int .i64 (n)), .val (.bool true), .val (.int .i64 (x)), .root 2 0 true, .val (.pointer none)], .abs A2, .abs A3]) .ret (mkSt 76 [(4, .nv (.one (.ptr 1 0)))] [.gone, .box 55 [.val (.int .u32 (a)), .val (.int .i64 (n)), .val (.bool true), .val (.int .i64 (x)), .root 2 0 true, .val (.pointer none)], .abs A2, .abs A3]) :=
  code_run Gt3_ok (orc := ⟨[true, true], []⟩) (obl := [true = true,
      true = true,
      (0 : Nat) = (0 : Nat),
      a = a,
      n = n,
      true = true,
      x = x,
      (0 : Nat) = (0 : Nat),
      Value.pointer none = Value.pointer none,
      A2 = A2,
      A3 = A3]) (by kernel_rfl) (.cons (by rfl) (.cons (by rfl) (.cons (by rfl) (.cons (by rfl) (.cons (by rfl) (.cons (by rfl) (.cons (by rfl) (.cons (by rfl) (.cons (by rfl) (.cons (by rfl) (.cons (by rfl) .nil))))))))))) (Nat.le_of_ble_eq_true (by kernel_rfl))

set_option maxHeartbeats 2000000 in
theorem pzAkn_z (a n x : Int) (A2 A3 A4 : Abs) (hz : n = 0) : CodeOk Try.prog 2 (subC [true, true] (bodyOf Try.f26)) (mkSt 76 [(0, .nv (.one (.ptr 1 0)))] [.gone, .box 55 [.val (.int .u32 (a)), .val (.int .i64 (n)), .val (.bool false), .val (.int .i64 (x)), .root 2 0 true, .val (.pointer none)], .abs A2, .abs A3]) .ret (mkSt 76 [(4, .nv (.one (.ptr 1 0)))] [.gone, .box 55 [.val (.int .u32 (a)), .val (.int .i64 (n)), .val (.bool false), .val (.int .i64 (x)), .root 2 0 true, .val (.pointer none)], .abs A2, .abs A3]) :=
  code_run Gt3_ok (orc := ⟨[false, true], []⟩) (obl := [false = false,
      (n == (0 : Int)) = true,
      (0 : Nat) = (0 : Nat),
      a = a,
      n = n,
      false = false,
      x = x,
      (0 : Nat) = (0 : Nat),
      Value.pointer none = Value.pointer none,
      A2 = A2,
      A3 = A3]) (by kernel_rfl) (.cons (by rfl) (.cons (by (show (n == 0) = true; exact beq_iff_eq.2 hz)) (.cons (by rfl) (.cons (by rfl) (.cons (by rfl) (.cons (by rfl) (.cons (by rfl) (.cons (by rfl) (.cons (by rfl) (.cons (by rfl) (.cons (by rfl) .nil))))))))))) (Nat.le_of_ble_eq_true (by kernel_rfl))

set_option maxHeartbeats 2000000 in
theorem pzAkn_o (a n x : Int) (A2 A3 A4 : Abs) (hz : ¬ n = 0) : CodeOk Try.prog 2 (subC [true, true] (bodyOf Try.f26)) (mkSt 76 [(0, .nv (.one (.ptr 1 0)))] [.gone, .box 55 [.val (.int .u32 (a)), .val (.int .i64 (n)), .val (.bool false), .val (.int .i64 (x)), .root 2 0 true, .val (.pointer none)], .abs A2, .abs A3]) .ret (mkSt 76 [(4, .nv (.one (.root 2 0 true)))] [.gone, .box 55 [.val (.int .u32 (a)), .val (.int .i64 (n)), .val (.bool false), .val (.int .i64 (x)), .root 2 0 true, .val (.pointer none)], .abs A2, .abs A3]) :=
  code_run Gt3_ok (orc := ⟨[false, false, false, true], []⟩) (obl := [false = false,
      (n == (0 : Int)) = false,
      (0 : Int) ≤ (0 : Int),
      (0 : Int) < (↑(2 : Nat) : Int),
      false = false,
      (0 : Int) ≤ (1 : Int),
      (1 : Int) < (↑(2 : Nat) : Int),
      true = true,
      (0 : Int) ≤ (0 : Int),
      (0 : Int) < (↑(2 : Nat) : Int),
      (0 : Nat) = (0 : Nat),
      a = a,
      n = n,
      false = false,
      x = x,
      (0 : Nat) = (0 : Nat),
      Value.pointer none = Value.pointer none,
      A2 = A2,
      A3 = A3]) (by kernel_rfl) (.cons (by rfl) (.cons (by (show (n == 0) = false; exact beq_eq_false_iff_ne.2 hz)) (.cons (by trivial) (.cons (by trivial) (.cons (by rfl) (.cons (by trivial) (.cons (by trivial) (.cons (by rfl) (.cons (by trivial) (.cons (by trivial) (.cons (by rfl) (.cons (by rfl) (.cons (by rfl) (.cons (by rfl) (.cons (by rfl) (.cons (by rfl) (.cons (by rfl) (.cons (by rfl) (.cons (by rfl) .nil))))))))))))))))))) (Nat.le_of_ble_eq_true (by kernel_rfl))

set_option maxHeartbeats 2000000 in
theorem pzAkk_u (a n x : Int) (A2 A3 A4 : Abs) : CodeOk Try.prog 2 (subC [true, true] (bodyOf Try.f26)) (mkSt 76 [(0, .nv (.one (.ptr 1 0)))] [.gone, .box 55 [.val (.int .u32 (a)), .val (.int .i64 (n)), .val (.bool true), .val (.int .i64 (x)), .root 2 0 true, .root 3 0 true], .abs A2, .abs A3]) .ret (mkSt 76 [(4, .nv (.one (.ptr 1 0)))] [.gone, .box 55 [.val (.int .u32 (a)), .val (.int .i64 (n)), .val (.bool true), .val (.int .i64 (x)), .root 2 0 true, .root 3 0 true], .abs A2, .abs A3]) :=
  code_run Gt3_ok (orc := ⟨[true, true], []⟩) (obl := [true = true,
      true = true,
      (0 : Nat) = (0 : Nat),
      a = a,
      n = n,
      true = true,
      x = x,
      (0 : Nat) = (0 : Nat),
      (0 : Nat) = (0 : Nat),
      A2 = A2,
      A3 = A3]) (by kernel_rfl) (.cons (by rfl) (.cons (by rfl) (.cons (by rfl) (.cons (by rfl) (.cons (by rfl) (.cons (by rfl) (.cons (by rfl) (.cons (by rfl) (.cons (by rfl) (.cons (by rfl) (.cons (by rfl) .nil))))))))))) (Nat.le_of_ble_eq_true (by kernel_rfl))

set_option maxHeartbeats 2000000 in
theorem pzAkk_z (a n x : Int) (A2 A3 A4 : Abs) (hz : n = 0) : CodeOk Try.prog 2 (subC [true, true] (bodyOf Try.f26)) (mkSt 76 [(0, .nv (.one (.ptr 1 0)))] [.gone, .box 55 [.val (.int .u32 (a)), .val (.int .i64 (n)), .val (.bool false), .val (.int .i64 (x)), .root 2 0 true, .root 3 0 true], .abs A2, .abs A3]) .ret (mkSt 76 [(4, .nv (.one (.ptr 1 0)))] [.gone, .box 55 [.val (.int .u32 (a)), .val (.int .i64 (n)), .val (.bool false), .val (.int .i64 (x)), .root 2 0 true, .root 3 0 true], .abs A2, .abs A3]) :=
  code_run Gt3_ok (orc := ⟨[false, true], []⟩) (obl := [false = false,
      (n == (0 : Int)) = true,
      (0 : Nat) = (0 : Nat),
      a = a,
      n = n,
      false = false,
      x = x,
      (0 : Nat) = (0 : Nat),
      (0 : Nat) = (0 : Nat),
      A2 = A2,
      A3 = A3]) (by kernel_rfl) (.cons (by rfl) (.cons (by (show (n == 0) = true; exact beq_iff_eq.2 hz)) (.cons (by rfl) (.cons (by rfl) (.cons (by rfl) (.cons (by rfl) (.cons (by rfl) (.cons (by rfl) (.cons (by rfl) (.cons (by rfl) (.cons (by rfl) .nil))))))))))) (Nat.le_of_ble_eq_true (by kernel_rfl))

set_option maxHeartbeats 2000000 in
theorem pzAkk_o (a n x : Int) (A2 A3 A4 : Abs) (hz : ¬ n = 0) : CodeOk Try.prog 2 (subC [true, true] (bodyOf Try.f26)) (mkSt 76 [(0, .nv (.one (.ptr 1 0)))] [.gone, .box 55 [.val (.int .u32 (a)), .val (.int .i64 (n)), .val (.bool false), .val (.int .i64 (x)), .root 2 0 true, .root 3 0 true], .abs A2, .abs A3]) .ret (mkSt 76 [(4, .nv (.one (.ptr 1 0)))] [.gone, .box 55 [.val (.int .u32 (a)), .val (.int .i64 (n)), .val (.bool false), .val (.int .i64 (x)), .root 2 0 true, .root 3 0 true], .abs A2, .abs A3]) :=
  code_run Gt3_ok (orc := ⟨[false, false, false, false], []⟩) (obl := [false = false,
      (n == (0 : Int)) = false,
      (0 : Int) ≤ (0 : Int),
      (0 : Int) < (↑(2 : Nat) : Int),
      false = false,
      (0 : Int) ≤ (1 : Int),
      (1 : Int) < (↑(2 : Nat) : Int),
      false = false,
      (0 : Nat) = (0 : Nat),
      a = a,
      n = n,
      false = false,
      x = x,
      (0 : Nat) = (0 : Nat),
      (0 : Nat) = (0 : Nat),
      A2 = A2,
      A3 = A3]) (by kernel_rfl) (.cons (by rfl) (.cons (by (show (n == 0) = false; exact beq_eq_false_iff_ne.2 hz)) (.cons (by trivial) (.cons (by trivial) (.cons (by rfl) (.cons (by trivial) (.cons (by trivial) (.cons (by rfl) (.cons (by rfl) (.cons (by rfl) (.cons (by rfl) (.cons (by rfl) (.cons (by rfl) (.cons (by rfl) (.cons (by rfl) (.cons (by rfl) (.cons (by rfl) .nil))))))))))))))))) (Nat.le_of_ble_eq_true (by kernel_rfl))

set_option maxHeartbeats 2000000 in
theorem pzBnn_u (a n x : Int) (A2 A3 A4 : Abs) : CodeOk Try.prog 2 (subC [true, true] (bodyOf Try.f26)) (mkSt 76 [(0, .nv (.one (.ptr 1 0)))] [.gone, .box 55 [.val (.int .u32 (a)), .val (.int .i64 (n)), .val (.bool true), .val (.int .i64 (x)), .val (.pointer none), .val (.pointer none)], .gone, .abs A3, .abs A4]) .ret (mkSt 76 [(4, .nv (.one (.ptr 1 0)))] [.gone, .box 55 [.val (.int .u32 (a)), .val (.int .i64 (n)), .val (.bool true), .val (.int .i64 (x)), .val (.pointer none), .val (.pointer none)], .gone, .abs A3, .abs A4]) :=
  code_run Gt3_ok (orc := ⟨[true, true], []⟩) (obl := [true = true,
      true = true,
      (0 : Nat) = (0 : Nat),
      a = a,
      n = n,
      true = true,
      x = x,
      Value.pointer none = Value.pointer none,
      Value.pointer none = Value.pointer none,
      A3 = A3,
      A4 = A4]) (by kernel_rfl) (.cons (by rfl) (.cons (by rfl) (.cons (by rfl) (.cons (by rfl) (.cons (by rfl) (.cons (by rfl) (.cons (by rfl) (.cons (by rfl) (.cons (by rfl) (.cons (by rfl) (.cons (by rfl) .nil))))))))))) (Nat.le_of_ble_eq_true (by kernel_rfl))

set_option maxHeartbeats 2000000 in
theorem pzBnn_z (a n x : Int) (A2 A3 A4 : Abs) (hz : n = 0) : CodeOk Try.prog 2 (subC [true, true] (bodyOf Try.f26)) (mkSt 76 [(0, .nv (.one (.ptr 1 0)))] [.gone, .box 55 [.val (.int .u32 (a)), .val (.int .i64 (n)), .val (.bool false), .val (.int .i64 (x)), .val (.pointer none), .val (.pointer none)], .gone, .abs A3, .abs A4]) .ret (mkSt 76 [(4, .nv (.one (.ptr 1 0)))] [.gone, .box 55 [.val (.int .u32 (a)), .val (.int .i64 (n)), .val (.bool false), .val (.int .i64 (x)), .val (.pointer none), .val (.pointer none)], .gone, .abs A3, .abs A4]) :=
  code_run Gt3_ok (orc := ⟨[false, true], []⟩) (obl := [false = false,
      (n == (0 : Int)) = true,
      (0 : Nat) = (0 : Nat),
      a = a,
      n = n,
      false = false,
      x = x,
      Value.pointer none = Value.pointer none,
      Value.pointer none = Value.pointer none,
      A3 = A3,
      A4 = A4]) (by kernel_rfl) (.cons (by rfl) (.cons (by (show (n == 0) = true; exact beq_iff_eq.2 hz)) (.cons (by rfl) (.cons (by rfl) (.cons (by rfl) (.cons (by rfl) (.cons (by rfl) (.cons (by rfl) (.cons (by rfl) (.cons (by rfl) (.cons (by rfl) .nil))))))))))) (Nat.le_of_ble_eq_true (by kernel_rfl))

set_option maxHeartbeats 2000000 in
theorem pzBnn_o (a n x : Int) (A2 A3 A4 : Abs) (hz : ¬ n = 0) : CodeOk Try.prog 2 (subC [true, true] (bodyOf Try.f26)) (mkSt 76 [(0, .nv (.one (.ptr 1 0)))] [.gone, .box 55 [.val (.int .u32 (a)), .val (.int .i64 (n)), .val (.bool false), .val (.int .i64 (x)), .val (.pointer none), .val (.pointer none)], .gone, .abs A3, .abs A4]) .ret (mkSt 76 [(4, .nv (.one (.val (.pointer none))))] [.gone, .box 55 [.val (.int .u32 (a)), .val (.int .i64 (n)), .val (.bool false), .val (.int .i64 (x)), .val (.pointer none), .val (.pointer none)], .gone, .abs A3, .abs A4]) :=
  code_run Gt3_ok (orc := ⟨[false, false, true], []⟩) (obl := [false = false,
      (n == (0 : Int)) = false,
      (0 : Int) ≤ (0 : Int),
      (0 : Int) < (↑(2 : Nat) : Int),
      true = true,
      (0 : Int) ≤ (1 : Int),
      (1 : Int) < (↑(2 : Nat) : Int),
      Value.pointer none = Value.pointer none,
      a = a,
      n = n,
      false = false,
      x = x,
      Value.pointer none = Value.pointer none,
      Value.pointer none = Value.pointer none,
      A3 = A3,
      A4 = A4]) (by kernel_rfl) (.cons (by rfl) (.cons (by (show (n == 0) = false; exact beq_eq_false_iff_ne.2 hz)) (.cons (by trivial) (.cons (by trivial) (.cons (by rfl) (.cons (by trivial) (.cons (by trivial) (.cons (by rfl) (.cons (by rfl) (.cons (by rfl) (.cons (by rfl) (.cons (by rfl) (.cons (by rfl) (.cons (by rfl) (.cons (by rfl) (.cons (by rfl) .nil)))))))))))))))) (Nat.le_of_ble_eq_true (by kernel_rfl))

set_option maxHeartbeats 2000000 in
theorem pzBnk_u (a n x : Int) (A2 A3 A4 : Abs) : CodeOk Try.prog 2 (subC [true, true] (bodyOf Try.f26)) (mkSt 76 [(0, .nv (.one (.ptr 1 0)))] [.gone, .box 55 [.val (.int .u32 (a)), .val (.int .i64 (n)), .val (.bool true), .val (.int .i64 (x)), .val (.pointer none), .root 3 0 true], .gone, .abs A3, .abs A4]) .ret (mkSt 76 [(4, .nv (.one (.ptr 1 0)))] [.gone, .box 55 [.val (.int .u32 (a)), .val (.int .i64 (n)), .val (.bool true), .val (.int .i64 (x)), .val (.pointer none), .root 3 0 true], .gone, .abs A3, .abs A4]) :=
  code_run Gt3_ok (orc := ⟨[true, true], []⟩) (obl := [true = true,
      true = true,
      (0 : Nat) = (0 : Nat),
      a = a,
      n = n,
      true = true,
      x = x,
      Value.pointer none = Value.pointer none,
      (0 : Nat) = (0 : Nat),
      A3 = A3,
      A4 = A4]) (by kernel_rfl) (.cons (by rfl) (.cons (by rfl) (.cons (by rfl) (.cons (by rfl) (.cons (by rfl) (.cons (by rfl) (.cons (by rfl) (.cons (by rfl) (.cons (by rfl) (.cons (by rfl) (.cons (by rfl) .nil))))))))))) (Nat.le_of_ble_eq_true (by kernel_rfl))

set_option maxHeartbeats 2000000 in
theorem pzBnk_z (a n x : Int) (A2 A3 A4 : Abs) (hz : n = 0) : CodeOk Try.prog 2 (subC [true, true] (bodyOf Try.f26)) (mkSt 76 [(0, .nv (.one (.ptr 1 0)))] [.gone, .box 55 [.val (.int .u32 (a)), .val (.int .i64 (n)), .val (.bool false), .val (.int .i64 (x)), .val (.pointer none), .root 3 0 true], .gone, .abs A3, .abs A4]) .ret (mkSt 76 [(4, .nv (.one (.ptr 1 0)))] [.gone, .box 55 [.val (.int .u32 (a)), .val (.int .i64 (n)), .val (.bool false), .val (.int .i64 (x)), .val (.pointer none), .root 3 0 true], .gone, .abs A3, .abs A4]) :=
  code_run Gt3_ok (orc := ⟨[false, true], []⟩) (obl := [false = false,
      (n == (0 : Int)) = true,
      (0 : Nat) = (0 : Nat),
      a = a,
      n = n,
      false = false,
      x = x,
      Value.pointer none = Value.pointer none,
      (0 : Nat) = (0 : Nat),
      A3 = A3,
      A4 = A4]) (by kernel_rfl) (.cons (by rfl) (.cons (by (show (n == 0) = true; exact beq_iff_eq.2 hz)) (.cons (by rfl) (.cons (by rfl) (.cons (by rfl) (.cons (by rfl) (.cons (by rfl) (.cons (by rfl) (.cons (by rfl) (.cons (by rfl) (.cons (by rfl) .nil))))))))))) (Nat.le_of_ble_eq_true (by kernel_rfl))

set_option maxHeartbeats 2000000 in
theorem pzBnk_o (a n x : Int) (A2 A3 A4 : Abs) (hz : ¬ n = 0) : CodeOk Try.prog 2 (subC [true, true] (bodyOf Try.f26)) (mkSt 76 [(0, .nv (.one (.ptr 1 0)))] [.gone, .box 55 [.val (.int .u32 (a)), .val (.int .i64 (n)), .val (.bool false), .val (.int .i64 (x)), .val (.pointer none), .root 3 0 true], .gone, .abs A3, .abs A4]) .ret (mkSt 76 [(4, .nv (.one (.root 3 0 true)))] [.gone, .box 55 [.val (.int .u32 (a)), .val (.int .i64 (n)), .val (.bool false), .val (.int .i64 (x)), .val (.pointer none), .root 3 0 true], .gone, .abs A3, .abs A4]) :=
  code_run Gt3_ok (orc := ⟨[false, false, true], []⟩) (obl := [false = false,
      (n == (0 : Int)) = false,
      (0 : Int) ≤ (0 : Int),
      (0 : Int) < (↑(2 : Nat) : Int),
      true = true,
      (0 : Int) ≤ (1 : Int),
      (1 : Int) < (↑(2 : Nat) : Int),
      (0 : Nat) = (0 : Nat),
      a = a,
      n = n,
      false = false,
      x = x,
      Value.pointer none = Value.pointer none,
      (0 : Nat) = (0 : Nat),
      A3 = A3,
      A4 = A4]) (by kernel_rfl) (.cons (by rfl) (.cons (by (show (n == 0) = false; exact beq_eq_false_iff_ne.2 hz)) (.cons (by trivial) (.cons (by trivial) (.cons (by rfl) (.cons (by trivial) (.cons (by trivial) (.cons (by rfl) (.cons (by rfl) (.cons (by rfl) (.cons (by rfl) (.cons (by rfl) (.cons (by rfl) (.cons (by rfl) (.cons (by rfl) (.cons (by rfl) .nil)))))))))))))))) (Nat.le_of_ble_eq_true (by kernel_rfl))

set_option maxHeartbeats 2000000 in
theorem pzBkn_u (a n x : Int) (A2 A3 A4 : Abs) : CodeOk Try.prog 2 (subC [true, true] (bodyOf Try.f26)) (mkSt 76 [(0, .nv (.one (.ptr 1 0)))] [.gone, .box 55 [.val (.int .u32 (a)), .val (.int .i64 (n)), .val (.bool true), .val (.int .i64 (x)), .root 4 0 true, .val (.pointer none)], .gone, .abs A3, .abs A4]) .ret (mkSt 76 [(4, .nv (.one (.ptr 1 0)))] [.gone, .box 55 [.val (.int .u32 (a)), .val (.int .i64 (n)), .val (.bool true), .val (.int .i64 (x)), .root 4 0 true, .val (.pointer none)], .gone, .abs A3, .abs A4]) :=
  code_run Gt3_ok (orc := ⟨[true, true], []⟩) (obl := [true = true,
      true = true,
      (0 : Nat) = (0 : Nat),
      a = a,
      n = n,
      true = true,
      x = x,
      (0 : Nat) = (0 : Nat),
      Value.pointer none = Value.pointer none,
      A3 = A3,
      A4 = A4]) (by kernel_rfl) (.cons (by rfl) (.cons (by rfl) (.cons (by rfl) (.cons (by rfl) (.cons (by rfl) (.cons (by rfl) (.cons (by rfl) (.cons (by rfl) (.cons (by rfl) (.cons (by rfl) (.cons (by rfl) .nil))))))))))) (Nat.le_of_ble_eq_true (by kernel_rfl))

set_option maxHeartbeats 2000000 in
theorem pzBkn_z (a n x : Int) (A2 A3 A4 : Abs) (hz : n = 0) : CodeOk Try.prog 2 (subC [true, true] (bodyOf Try.f26)) (mkSt 76 [(0, .nv (.one (.ptr 1 0)))] [.gone, .box 55 [.val (.int .u32 (a)), .val (.int .i64 (n)), .val (.bool false), .val (.int .i64 (x)), .root 4 0 true, .val (.pointer none)], .gone, .abs A3, .abs A4]) .ret (mkSt 76 [(4, .nv (.one (.ptr 1 0)))] [.gone, .box 55 [.val (.int .u32 (a)), .val (.int .i64 (n)), .val (.bool false), .val (.int .i64 (x)), .root 4 0 true, .val (.pointer none)], .gone, .abs A3, .abs A4]) :=
  code_run Gt3_ok (orc := ⟨[false, true], []⟩) (obl := [false = false,
      (n == (0 : Int)) = true,
      (0 : Nat) = (0 : Nat),
      a = a,
      n = n,
      false = false,
      x = x,
      (0 : Nat) = (0 : Nat),
      Value.pointer none = Value.pointer none,
      A3 = A3,
      A4 = A4]) (by kernel_rfl) (.cons (by rfl) (.cons (by (show (n == 0) = true; exact beq_iff_eq.2 hz)) (.cons (by rfl) (.cons (by rfl) (.cons (by rfl) (.cons (by rfl) (.cons (by rfl) (.cons (by rfl) (.cons (by rfl) (.cons (by rfl) (.cons (by rfl) .nil))))))))))) (Nat.le_of_ble_eq_true (by kernel_rfl))

set_option maxHeartbeats 2000000 in
theorem pzBkn_o (a n x : Int) (A2 A3 A4 : Abs) (hz : ¬ n = 0) : CodeOk Try.prog 2 (subC [true, true] (bodyOf Try.f26)) (mkSt 76 [(0, .nv (.one (.ptr 1 0)))] [.gone, .box 55 [.val (.int .u32 (a)), .val (.int .i64 (n)), .val (.bool false), .val (.int .i64 (x)), .root 4 0 true, .val (.pointer none)], .gone, .abs A3, .abs A4]) .ret (mkSt 76 [(4, .nv (.one (.root 4 0 true)))] [.gone, .box 55 [.val (.int .u32 (a)), .val (.int .i64 (n)), .val (.bool false), .val (.int .i64 (x)), .root 4 0 true, .val (.pointer none)], .gone, .abs A3, .abs A4]) :=
  code_run Gt3_ok (orc := ⟨[false, false, false, true], []⟩) (obl := [false = false,
      (n == (0 : Int)) = false,
      (0 : Int) ≤ (0 : Int),
      (0 : Int) < (↑(2 : Nat) : Int),
      false = false,
      (0 : Int) ≤ (1 : Int),
      (1 : Int) < (↑(2 : Nat) : Int),
      true = true,
      (0 : Int) ≤ (0 : Int),
      (0 : Int) < (↑(2 : Nat) : Int),
      (0 : Nat) = (0 : Nat),
      a = a,
      n = n,
      false = false,
      x = x,
      (0 : Nat) = (0 : Nat),
      Value.pointer none = Value.pointer none,
      A3 = A3,
      A4 = A4]) (by kernel_rfl) (.cons (by rfl) (.cons (by (show (n == 0) = false; exact beq_eq_false_iff_ne.2 hz)) (.cons (by trivial) (.cons (by trivial) (.cons (by rfl) (.cons (by trivial) (.cons (by trivial) (.cons (by rfl) (.cons (by trivial) (.cons (by trivial) (.cons (by rfl) (.cons (by rfl) (.cons (by rfl) (.cons (by rfl) (.cons (by rfl) (.cons (by rfl) (.cons (by rfl) (.cons (by rfl) (.cons (by rfl) .nil))))))))))))))))))) (Nat.le_of_ble_eq_true (by kernel_rfl))

set_option maxHeartbeats 2000000 in
theorem pzBkk_u (a n x : Int) (A2 A3 A4 : Abs) : CodeOk Try.prog 2 (subC [true, true] (bodyOf Try.f26)) (mkSt 76 [(0, .nv (.one (.ptr 1 0)))] [.gone, .box 55 [.val (.int .u32 (a)), .val (.int .i64 (n)), .val (.bool true), .val (.int .i64 (x)), .root 4 0 true, .root 3 0 true], .gone, .abs A3, .abs A4]) .ret (mkSt 76 [(4, .nv (.one (.ptr 1 0)))] [.gone, .box 55 [.val (.int .u32 (a)), .val (.int .i64 (n)), .val (.bool true), .val (.int .i64 (x)), .root 4 0 true, .root 3 0 true], .gone, .abs A3, .abs A4]) :=
  code_run Gt3_ok (orc := ⟨[true, true], []⟩) (obl := [true = true,
      true = true,
      (0 : Nat) = (0 : Nat),
      a = a,
      n = n,
      true = true,
      x = x,
      (0 : Nat) = (0 : Nat),
      (0 : Nat) = (0 : Nat),
      A3 = A3,
      A4 = A4]) (by kernel_rfl) (.cons (by rfl) (.cons (by rfl) (.cons (by rfl) (.cons (by rfl) (.cons (by rfl) (.cons (by rfl) (.cons (by rfl) (.cons (by rfl) (.cons (by rfl) (.cons (by rfl) (.cons (by rfl) .nil))))))))))) (Nat.le_of_ble_eq_true (by kernel_rfl))

set_option maxHeartbeats 2000000 in
theorem pzBkk_z (a n x : Int) (A2 A3 A4 : Abs) (hz : n = 0) : CodeOk Try.prog 2 (subC [true, true] (bodyOf Try.f26)) (mkSt 76 [(0, .nv (.one (.ptr 1 0)))] [.gone, .box 55 [.val (.int .u32 (a)), .val (.int .i64 (n)), .val (.bool false), .val (.int .i64 (x)), .root 4 0 true, .root 3 0 true], .gone, .abs A3, .abs A4]) .ret (mkSt 76 [(4, .nv (.one (.ptr 1 0)))] [.gone, .box 55 [.val (.int .u32 (a)), .val (.int .i64 (n)), .val (.bool false), .val (.int .i64 (x)), .root 4 0 true, .root 3 0 true], .gone, .abs A3, .abs A4]) :=
  code_run Gt3_ok (orc := ⟨[false, true], []⟩) (obl := [false = false,
      (n == (0 : Int)) = true,
      (0 : Nat) = (0 : Nat),
      a = a,
      n = n,
      false = false,
      x = x,
      (0 : Nat) = (0 : Nat),
      (0 : Nat) = (0 : Nat),
      A3 = A3,
      A4 = A4]) (by kernel_rfl) (.cons (by rfl) (.cons (by (show (n == 0) = true; exact beq_iff_eq.2 hz)) (.cons (by rfl) (.cons (by rfl) (.cons (by rfl) (.cons (by rfl) (.cons (by rfl) (.cons (by rfl) (.cons (by rfl) (.cons (by rfl) (.cons (by rfl) .nil))))))))))) (Nat.le_of_ble_eq_true (by kernel_rfl))

set_option maxHeartbeats 2000000 in
theorem pzBkk_o (a n x : Int) (A2 A3 A4 : Abs) (hz : ¬ n = 0) : CodeOk Try.prog 2 (subC [true, true] (bodyOf Try.f26)) (mkSt 76 [(0, .nv (.one (.ptr 1 0)))] [.gone, .box 55 [.val (.int .u32 (a)), .val (.int .i64 (n)), .val (.bool false), .val (.int .i64 (x)), .root 4 0 true, .root 3 0 true], .gone, .abs A3, .abs A4]) .ret (mkSt 76 [(4, .nv (.one (.ptr 1 0)))] [.gone, .box 55 [.val (.int .u32 (a)), .val (.int .i64 (n)), .val (.bool false), .val (.int .i64 (x)), .root 4 0 true, .root 3 0 true], .gone, .abs A3, .abs A4]) :=
  code_run Gt3_ok (orc := ⟨[false, false, false, false], []⟩) (obl := [false = false,
      (n == (0 : Int)) = false,
      (0 : Int) ≤ (0 : Int),
      (0 : Int) < (↑(2 : Nat) : Int),
      false = false,
      (0 : Int) ≤ (1 : Int),
      (1 : Int) < (↑(2 : Nat) : Int),
      false = false,
      (0 : Nat) = (0 : Nat),
      a = a,
      n = n,
      false = false,
      x = x,
      (0 : Nat) = (0 : Nat),
      (0 : Nat) = (0 : Nat),
      A3 = A3,
      A4 = A4]) (by kernel_rfl) (.cons (by rfl) (.cons (by (show (n == 0) = false; exact beq_eq_false_iff_ne.2 hz)) (.cons (by trivial) (.cons (by trivial) (.cons (by rfl) (.cons (by trivial) (.cons (by trivial) (.cons (by rfl) (.cons (by rfl) (.cons (by rfl) (.cons (by rfl) (.cons (by rfl) (.cons (by rfl) (.cons (by rfl) (.cons (by rfl) (.cons (by rfl) (.cons (by rfl) .nil))))))))))))))))) (Nat.le_of_ble_eq_true (by kernel_rfl))

set_option maxHeartbeats 2000000 in
theorem pzCnn_u (a n x : Int) (A2 A3 A4 : Abs) : CodeOk Try.prog 2 (subC [true, true] (bodyOf Try.f26)) (mkSt 76 [(0, .nv (.one (.ptr 1 0)))] [.gone, .box 55 [.val (.int .u32 (a)), .val (.int .i64 (n)), .val (.bool true), .val (.int .i64 (x)), .val (.pointer none), .val (.pointer none)], .abs A2, .gone, .abs A4]) .ret (mkSt 76 [(4, .nv (.one (.ptr 1 0)))] [.gone, .box 55 [.val (.int .u32 (a)), .val (.int .i64 (n)), .val (.bool true), .val (.int .i64 (x)), .val (.pointer none), .val (.pointer none)], .abs A2, .gone, .abs A4]) :=
  code_run Gt3_ok (orc := ⟨[true, true], []⟩) (obl := [true = true,
      true = true,
      (0 : Nat) = (0 : Nat),
      a = a,
      n = n,
      true = true,
      x = x,
      Value.pointer none = Value.pointer none,
      Value.pointer none = Value.pointer none,
      A2 = A2,
      A4 = A4]) (by kernel_rfl) (.cons (by rfl) (.cons (by rfl) (.cons (by rfl) (.cons (by rfl) (.cons (by rfl) (.cons (by rfl) (.cons (by rfl) (.cons (by rfl) (.cons (by rfl) (.cons (by rfl) (.cons (by rfl) .nil))))))))))) (Nat.le_of_ble_eq_true (by kernel_rfl))

set_option maxHeartbeats 2000000 in
theorem pzCnn_z (a n x : Int) (A2 A3 A4 : Abs) (hz : n = 0) : CodeOk Try.prog 2 (subC [true, true] (bodyOf Try.f26)) (mkSt 76 [(0, .nv (.one (.ptr 1 0)))] [.gone, .box 55 [.val (.int .u32 (a)), .val (.int .i64 (n)), .val (.bool false), .val (.int .i64 (x)), .val (.pointer none), .val (.pointer none)], .abs A2, .gone, .abs A4]) .ret (mkSt 76 [(4, .nv (.one (.ptr 1 0)))] [.gone, .box 55 [.val (.int .u32 (a)), .val (.int .i64 (n)), .val (.bool false), .val (.int .i64 (x)), .val (.pointer none), .val (.pointer none)], .abs A2, .gone, .abs A4]) :=
  code_run Gt3_ok (orc := ⟨[false, true], []⟩) (obl := [false = false,
      (n == (0 : Int)) = true,
      (0 : Nat) = (0 : Nat),
      a = a,
      n = n,
      false = false,
      x = x,
      Value.pointer none = Value.pointer none,
      Value.pointer none = Value.pointer none,
      A2 = A2,
      A4 = A4]) (by kernel_rfl) (.cons (by rfl) (.cons (by (show (n == 0) = true; exact beq_iff_eq.2 hz)) (.cons (by rfl) (.cons (by rfl) (.cons (by rfl) (.cons (by rfl) (.cons (by rfl) (.cons (by rfl) (.cons (by rfl) (.cons (by rfl) (.cons (by rfl) .nil))))))))))) (Nat.le_of_ble_eq_true (by kernel_rfl))

set_option maxHeartbeats 2000000 in
theorem pzCnn_o (a n x : Int) (A2 A3 A4 : Abs) (hz : ¬ n = 0) : CodeOk Try.prog 2 (subC [true, true] (bodyOf Try.f26)) (mkSt 76 [(0, .nv (.one (.ptr 1 0)))] [.gone, .box 55 [.val (.int .u32 (a)), .val (.int .i64 (n)), .val (.bool false), .val (.int .i64 (x)), .val (.pointer none), .val (.pointer none)], .abs A2, .gone, .abs A4]) .ret (mkSt 76 [(4, .nv (.one (.val (.pointer none))))] [.gone, .box 55 [.val (.int .u32 (a)), .val (.int .i64 (n)), .val (.bool false), .val (.int .i64 (x)), .val (.pointer none), .val (.pointer none)], .abs A2, .gone, .abs A4]) :=
  code_run Gt3_ok (orc := ⟨[false, false, true], []⟩) (obl := [false = false,
      (n == (0 : Int)) = false,
      (0 : Int) ≤ (0 : Int),
      (0 : Int) < (↑(2 : Nat) : Int),
      true = true,
      (0 : Int) ≤ (1 : Int),
      (1 : Int) < (↑(2 : Nat) : Int),
      Value.pointer none = Value.pointer none,
      a = a,
      n = n,
      false = false,
      x = x,
      Value.pointer none = Value.pointer none,
      Value.pointer none = Value.pointer none,
      A2 = A2,
      A4 = A4]) (by kernel_rfl) (.cons (by rfl) (.cons (by (show (n == 0) = false; exact beq_eq_false_iff_ne.2 hz)) (.cons (by trivial) (.cons (by trivial) (.cons (by rfl) (.cons (by trivial) (.cons (by trivial) (.cons (by rfl) (.cons (by rfl) (.cons (by rfl) (.cons (by rfl) (.cons (by rfl) (.cons (by rfl) (.cons (by rfl) (.cons (by rfl) (.cons (by rfl) .nil)))))))))))))))) (Nat.le_of_ble_eq_true (by kernel_rfl))

set_option maxHeartbeats 2000000 in
theorem pzCnk_u (a n x : Int) (A2 A3 A4 : Abs) : CodeOk Try.prog 2 (subC [true, true] (bodyOf Try.f26)) (mkSt 76 [(0, .nv (.one (.ptr 1 0)))] [.gone, .box 55 [.val (.int .u32 (a)), .val (.int .i64 (n)), .val (.bool true), .val (.int .i64 (x)), .val (.pointer none), .root 4 0 true], .abs A2, .gone, .abs A4]) .ret (mkSt 76 [(4, .nv (.one (.ptr 1 0)))] [.gone, .box 55 [.val (.int .u32 (a)), .val (.int .i64 (n)), .val (.bool true), .val (.int .i64 (x)), .val (.pointer none), .root 4 0 true], .abs A2, .gone, .abs A4]) :=
  code_run Gt3_ok (orc := ⟨[true, true], []⟩) (obl := [true = true,
      true = true,
      (0 : Nat) = (0 : Nat),
      a = a,
      n = n,
      true = true,
      x = x,
      Value.pointer none = Value.pointer none,
      (0 : Nat) = (0 : Nat),
      A2 = A2,
      A4 = A4]) (by kernel_rfl) (.cons (by rfl) (.cons (by rfl) (.cons (by rfl) (.cons (by rfl) (.cons (by rfl) (.cons (by rfl) (.cons (by rfl) (.cons (by rfl) (.cons (by rfl) (.cons (by rfl) (.cons (by rfl) .nil))))))))))) (Nat.le_of_ble_eq_true (by kernel_rfl))

set_option maxHeartbeats 2000000 in
theorem pzCnk_z (a n x : Int) (A2 A3 A4 : Abs) (hz : n = 0) : CodeOk Try.prog 2 (subC [true, true] (bodyOf Try.f26)) (mkSt 76 [(0, .nv (.one (.ptr 1 0)))] [.gone, .box 55 [.val (.int .u32 (a)), .val (.int .i64 (n)), .val (.bool false), .val (.int .i64 (x)), .val (.pointer none), .root 4 0 true], .abs A2, .gone, .abs A4]) .ret (mkSt 76 [(4, .nv (.one (.ptr 1 0)))] [.gone, .box 55 [.val (.int .u32 (a)), .val (.int .i64 (n)), .val (.bool false), .val (.int .i64 (x)), .val (.pointer none), .root 4 0 true], .abs A2, .gone, .abs A4]) :=
  code_run Gt3_ok (orc := ⟨[false, true], []⟩) (obl := [false = false,
      (n == (0 : Int)) = true,
      (0 : Nat) = (0 : Nat),
      a = a,
      n = n,
      false = false,
      x = x,
      Value.pointer none = Value.pointer none,
      (0 : Nat) = (0 : Nat),
      A2 = A2,
      A4 = A4]) (by kernel_rfl) (.cons (by rfl) (.cons (by (show (n == 0) = true; exact beq_iff_eq.2 hz)) (.cons (by rfl) (.cons (by rfl) (.cons (by rfl) (.cons (by rfl) (.cons (by rfl) (.cons (by rfl) (.cons (by rfl) (.cons (by rfl) (.cons (by rfl) .nil))))))))))) (Nat.le_of_ble_eq_true (by kernel_rfl))

set_option maxHeartbeats 2000000 in
theorem pzCnk_o (a n x : Int) (A2 A3 A4 : Abs) (hz : ¬ n = 0) : CodeOk Try.prog 2 (subC [true, true] (bodyOf Try.f26)) (mkSt 76 [(0, .nv (.one (.ptr 1 0)))] [.gone, .box 55 [.val (.int .u32 (a)), .val (.int .i64 (n)), .val (.bool false), .val (.int .i64 (x)), .val (.pointer none), .root 4 0 true], .abs A2, .gone, .abs A4]) .ret (mkSt 76 [(4, .nv (.one (.root 4 0 true)))] [.gone, .box 55 [.val (.int .u32 (a)), .val (.int .i64 (n)), .val (.bool false), .val (.int .i64 (x)), .val (.pointer none), .root 4 0 true], .abs A2, .gone, .abs A4]) :=
  code_run Gt3_ok (orc := ⟨[false, false, true], []⟩) (obl := [false = false,
      (n == (0 : Int)) = false,
      (0 : Int) ≤ (0 : Int),
      (0 : Int) < (↑(2 : Nat) : Int),
      true = true,
      (0 : Int) ≤ (1 : Int),
      (1 : Int) < (↑(2 : Nat) : Int),
      (0 : Nat) = (0 : Nat),
      a = a,
      n = n,
      false = false,
      x = x,
      Value.pointer none = Value.pointer none,
      (0 : Nat) = (0 : Nat),
      A2 = A2,
      A4 = A4]) (by kernel_rfl) (.cons (by rfl) (.cons (by (show (n == 0) = false; exact beq_eq_false_iff_ne.2 hz)) (.cons (by trivial) (.cons (by trivial) (.cons (by rfl) (.cons (by trivial) (.cons (by trivial) (.cons (by rfl) (.cons (by rfl) (.cons (by rfl) (.cons (by rfl) (.cons (by rfl) (.cons (by rfl) (.cons (by rfl) (.cons (by rfl) (.cons (by rfl) .nil)))))))))))))))) (Nat.le_of_ble_eq_true (by kernel_rfl))

set_option maxHeartbeats 2000000 in
theorem pzCkn_u (a n x : Int) (A2 A3 A4 : Abs) : CodeOk Try.prog 2 (subC [true, true] (bodyOf Try.f26)) (mkSt 76 [(0, .nv (.one (.ptr 1 0)))] [.gone, .box 55 [.val (.int .u32 (a)), .val (.int .i64 (n)), .val (.bool true), .val (.int .i64 (x)), .root 2 0 true, .val (.pointer none)], .abs A2, .gone, .abs A4]) .ret (mkSt 76 [(4, .nv (.one (.ptr 1 0)))] [.gone, .box 55 [.val (.int .u32 (a)), .val (.int .i64 (n)), .val (.bool true), .val (.int .i64 (x)), .root 2 0 true, .val (.pointer none)], .abs A2, .gone, .abs A4]) :=
  code_run Gt3_ok (orc := ⟨[true, true], []⟩) (obl := [true = true,
      true = true,
      (0 : Nat) = (0 : Nat),
      a = a,
      n = n,
      true = true,
      x = x,
      (0 : Nat) = (0 : Nat),
      Value.pointer none = Value.pointer none,
      A2 = A2,
      A4 = A4]) (by kernel_rfl) (.cons (by rfl) (.cons (by rfl) (.cons (by rfl) (.cons (by rfl) (.cons (by rfl) (.cons (by rfl) (.cons (by rfl) (.cons (by rfl) (.cons (by rfl) (.cons (by rfl) (.cons (by rfl) .nil))))))))))) (Nat.le_of_ble_eq_true (by kernel_rfl))

set_option maxHeartbeats 2000000 in
theorem pzCkn_z (a n x : Int) (A2 A3 A4 : Abs) (hz : n = 0) : CodeOk Try.prog 2 (subC [true, true] (bodyOf Try.f26)) (mkSt 76 [(0, .nv (.one (.ptr 1 0)))] [.gone, .box 55 [.val (.int .u32 (a)), .val (.int .i64 (n)), .val (.bool false), .val (.int .i64 (x)), .root 2 0 true, .val (.pointer none)], .abs A2, .gone, .abs A4]) .ret (mkSt 76 [(4, .nv (.one (.ptr 1 0)))] [.gone, .box 55 [.val (.int .u32 (a)), .val (.int .i64 (n)), .val (.bool false), .val (.int .i64 (x)), .root 2 0 true, .val (.pointer none)], .abs A2, .gone, .abs A4]) :=
  code_run Gt3_ok (orc := ⟨[false, true], []⟩) (obl := [false = false,
      (n == (0 : Int)) = true,
      (0 : Nat) = (0 : Nat),
      a = a,
      n = n,
      false = false,
      x = x,
      (0 : Nat) = (0 : Nat),
      Value.pointer none = Value.pointer none,
      A2 = A2,
      A4 = A4]) (by kernel_rfl) (.cons (by rfl) (.cons (by (show (n == 0) = true; exact beq_iff_eq.2 hz)) (.cons (by rfl) (.cons (by rfl) (.cons (by rfl) (.cons (by rfl) (.cons (by rfl) (.cons (by rfl) (.cons (by rfl) (.cons (by rfl) (.cons (by rfl) .nil))))))))))) (Nat.le_of_ble_eq_true (by kernel_rfl))

set_option maxHeartbeats 2000000 in
theorem pzCkn_o (a n x : Int) (A2 A3 A4 : Abs) (hz : ¬ n = 0) : CodeOk Try.prog 2 (subC [true, true] (bodyOf Try.f26)) (mkSt 76 [(0, .nv (.one (.ptr 1 0)))] [.gone, .box 55 [.val (.int .u32 (a)), .val (.int .i64 (n)), .val (.bool false), .val (.int .i64 (x)), .root 2 0 true, .val (.pointer none)], .abs A2, .gone, .abs A4]) .ret (mkSt 76 [(4, .nv (.one (.root 2 0 true)))] [.gone, .box 55 [.val (.int .u32 (a)), .val (.int .i64 (n)), .val (.bool false), .val (.int .i64 (x)), .root 2 0 true, .val (.pointer none)], .abs A2, .gone, .abs A4]) :=
  code_run Gt3_ok (orc := ⟨[false, false, false, true], []⟩) (obl := [false = false,
      (n == (0 : Int)) = false,
      (0 : Int) ≤ (0 : Int),
      (0 : Int) < (↑(2 : Nat) : Int),
      false = false,
      (0 : Int) ≤ (1 : Int),
      (1 : Int) < (↑(2 : Nat) : Int),
      true = true,
      (0 : Int) ≤ (0 : Int),
      (0 : Int) < (↑(2 : Nat) : Int),
      (0 : Nat) = (0 : Nat),
      a = a,
      n = n,
      false = false,
      x = x,
      (0 : Nat) = (0 : Nat),
      Value.pointer none = Value.pointer none,
      A2 = A2,
      A4 = A4]) (by kernel_rfl) (.cons (by rfl) (.cons (by (show (n == 0) = false; exact beq_eq_false_iff_ne.2 hz)) (.cons (by trivial) (.cons (by trivial) (.cons (by rfl) (.cons (by trivial) (.cons (by trivial) (.cons (by rfl) (.cons (by trivial) (.cons (by trivial) (.cons (by rfl) (.cons (by rfl) (.cons (by rfl) (.cons (by rfl) (.cons (by rfl) (.cons (by rfl) (.cons (by rfl) (.cons (by rfl) (.cons (by rfl) .nil))))))))))))))))))) (Nat.le_of_ble_eq_true (by kernel_rfl))

set_option maxHeartbeats 2000000 in
theorem pzCkk_u (a n x : Int) (A2 A3 A4 : Abs) : CodeOk Try.prog 2 (subC [true, true] (bodyOf Try.f26)) (mkSt 76 [(0, .nv (.one (.ptr 1 0)))] [.gone, .box 55 [.val (.int .u32 (a)), .val (.int .i64 (n)), .val (.bool true), .val (.int .i64 (x)), .root 2 0 true, .root 4 0 true], .abs A2, .gone, .abs A4]) .ret (mkSt 76 [(4, .nv (.one (.ptr 1 0)))] [.gone, .box 55 [.val (.int .u32 (a)), .val (.int .i64 (n)), .val (.bool true), .val (.int .i64 (x)), .root 2 0 true, .root 4 0 true], .abs A2, .gone, .abs A4]) :=
  code_run Gt3_ok (orc := ⟨[true, true], []⟩) (obl := [true = true,
      true = true,
      (0 : Nat) = (0 : Nat),
      a = a,
      n = n,
      true = true,
      x = x,
      (0 : Nat) = (0 : Nat),
      (0 : Nat) = (0 : Nat),
      A2 = A2,
      A4 = A4]) (by kernel_rfl) (.cons (by rfl) (.cons (by rfl) (.cons (by rfl) (.cons (by rfl) (.cons (by rfl) (.cons (by rfl) (.cons (by rfl) (.cons (by rfl) (.cons (by rfl) (.cons (by rfl) (.cons (by rfl) .nil))))))))))) (Nat.le_of_ble_eq_true (by kernel_rfl))

set_option maxHeartbeats 2000000 in
theorem pzCkk_z (a n x : Int) (A2 A3 A4 : Abs) (hz : n = 0) : CodeOk Try.prog 2 (subC [true, true] (bodyOf Try.f26)) (mkSt 76 [(0, .nv (.one (.ptr 1 0)))] [.gone, .box 55 [.val (.int .u32 (a)), .val (.int .i64 (n)), .val (.bool false), .val (.int .i64 (x)), .root 2 0 true, .root 4 0 true], .abs A2, .gone, .abs A4]) .ret (mkSt 76 [(4, .nv (.one (.ptr 1 0)))] [.gone, .box 55 [.val (.int .u32 (a)), .val (.int .i64 (n)), .val (.bool false), .val (.int .i64 (x)), .root 2 0 true, .root 4 0 true], .abs A2, .gone, .abs A4]) :=
  code_run Gt3_ok (orc := ⟨[false, true], []⟩) (obl := [false = false,
      (n == (0 : Int)) = true,
      (0 : Nat) = (0 : Nat),
      a = a,
      n = n,
      false = false,
      x = x,
      (0 : Nat) = (0 : Nat),
      (0 : Nat) = (0 : Nat),
      A2 = A2,
      A4 = A4]) (by kernel_rfl) (.cons (by rfl) (.cons (by (show (n == 0) = true; exact beq_iff_eq.2 hz)) (.cons (by rfl) (.cons (by rfl) (.cons (by rfl) (.cons (by rfl) (.cons (by rfl) (.cons (by rfl) (.cons (by rfl) (.cons (by rfl) (.cons (by rfl) .nil))))))))))) (Nat.le_of_ble_eq_true (by kernel_rfl))

set_option maxHeartbeats 2000000 in
theorem pzCkk_o (a n x : Int) (A2 A3 A4 : Abs) (hz : ¬ n = 0) : CodeOk Try.prog 2 (subC [true, true] (bodyOf Try.f26)) (mkSt 76 [(0, .nv (.one (.ptr 1 0)))] [.gone, .box 55 [.val (.int .u32 (a)), .val (.int .i64 (n)), .val (.bool false), .val (.int .i64 (x)), .root 2 0 true, .root 4 0 true], .abs A2, .gone, .abs A4]) .ret (mkSt 76 [(4, .nv (.one (.ptr 1 0)))] [.gone, .box 55 [.val (.int .u32 (a)), .val (.int .i64 (n)), .val (.bool false), .val (.int .i64 (x)), .root 2 0 true, .root 4 0 true], .abs A2, .gone, .abs A4]) :=
  code_run Gt3_ok (orc := ⟨[false, false, false, false], []⟩) (obl := [false = false,
      (n == (0 : Int)) = false,
      (0 : Int) ≤ (0 : Int),
      (0 : Int) < (↑(2 : Nat) : Int),
      false = false,
      (0 : Int) ≤ (1 : Int),
      (1 : Int) < (↑(2 : Nat) : Int),
      false = false,
      (0 : Nat) = (0 : Nat),
      a = a,
      n = n,
      false = false,
      x = x,
      (0 : Nat) = (0 : Nat),
      (0 : Nat) = (0 : Nat),
      A2 = A2,
      A4 = A4]) (by kernel_rfl) (.cons (by rfl) (.cons (by (show (n == 0) = false; exact beq_eq_false_iff_ne.2 hz)) (.cons (by trivial) (.cons (by trivial) (.cons (by rfl) (.cons (by trivial) (.cons (by trivial) (.cons (by rfl) (.cons (by rfl) (.cons (by rfl) (.cons (by rfl) (.cons (by rfl) (.cons (by rfl) (.cons (by rfl) (.cons (by rfl) (.cons (by rfl) (.cons (by rfl) .nil))))))))))))))))) (Nat.le_of_ble_eq_true (by kernel_rfl))
end Go.Proofs.Ytfienpkogkepkaa

/- trie: prune. No condition. -/
namespace Go.Proofs.Ytfienpkogkepkaa
set_option linter.unusedVariables false
set_option linter.unusedSimpArgs false
open Go.RowKit E
/-- Nothing, told as a tree. -/
def mkA (K : Nat) : At → At
  | .val (.pointer none) => .root K 0 false
  | x => x
theorem mkNil_tran {m0 : Nat} {tm : List SV} {mem : List Seg} : Tran m0 ⟨tm, mem⟩ ⟨tm.map (SV.map (mkA mem.length)), mem ++ [.abs (TA none .nil)]⟩ := fun cx env act w _ hk => by
  have hm : MemOk (extE env mem.length [.tuple (trV (.pointer none) [])]) (dropAll mem [] ++ [.abs (TA none .nil)]) cx.w0 w cx.S := by
    refine MemOk.recast hk.mem [] _ _ rfl ?_ ?_ ?_
    · intro i s hi
      match i, hi with
      | 0, hi => cases hi; exact ⟨_, extE_ge 0, .pointer none, [], rfl, ⟨rfl, rfl⟩, fun u hu => by cases hu⟩
    · intro i s v c hi hv hc
      match i, hi, hv with
      | 0, hi, hv => cases hv; simp [blksOf, trV, baseOf] at hc
    · intro i i' s s' v v' c hi hi' _ _ hne
      match i, i', hi, hi' with
      | 0, 0, _, _ => exact (hne rfl).elim
  have k2 := ok_ext hk hm (by simp [dropAll])
  refine ⟨_, k2.defers, AllSV.map (σ := mkA mem.length) ?_ k2.tm, k2.mem, k2.long, k2.fix⟩
  intro x v hx
  unfold mkA
  split
  · have e0 := extE_ge (env := env) (m := mem.length) (vals := [.tuple (trV (.pointer none) [])]) 0
    rw [Nat.add_zero] at e0
    exact ⟨_, none, e0, by rw [show v = .pointer none from hx]; rfl, hx, fun e => by cases e⟩
  · exact hx
def prEnd (t : PT) : E.St := mkSt 76 [(4, .nv (.one (.root 1 0 false)))] [.gone, .abs (TA none t)]
def cellT (h : Nat) : PT → At
  | .nil => .val (.pointer none)
  | .node .. => .root h 0 true
def pstA (a n : Int) (u : Bool) (x : Int) (l r : PT) : E.St := mkSt 76 [(0, .nv (.one (.ptr 1 0)))] [.gone, .box tNd (ndA a n u x (cellT 2 l) (cellT 3 r)), .abs (TA none l), .abs (TA none r)]
def pstEA (v : At) (a n : Int) (u : Bool) (x : Int) (l r : PT) : E.St := mkSt 76 [(4, .nv (.one v))] [.gone, .box tNd (ndA a n u x (cellT 2 l) (cellT 3 r)), .abs (TA none l), .abs (TA none r)]
set_option maxRecDepth 100000 in
theorem finA_node (a n : Int) (u : Bool) (x : Int) (l r : PT) : Tran 1 (pstEA (.ptr 1 0) a n u x l r) (prEnd (.node a n u x l r)) := by
  cases l with
  | nil => cases r with
    | nil => exact ((shut_tran (m0 := 1) (k := 1) (a := a) (n := n) (u := u) (x := x) (cl := .val (.pointer none)) (cr := .val (.pointer none)) (l := .nil) (r := .nil) (ol := none) (orr := none) rfl ⟨rfl, rfl⟩ ⟨rfl, rfl⟩ (by simp) (by simp) (by simp)).eq rfl).trans (Tran.le ⟨rfl, rfl, trivial⟩ (Nat.le_succ 1))
    | node a2 n2 u2 x2 l2 r2 => exact ((shut_tran (m0 := 1) (k := 1) (a := a) (n := n) (u := u) (x := x) (cl := .val (.pointer none)) (cr := .root 3 0 true) (l := .nil) (r := .node a2 n2 u2 x2 l2 r2) (ol := none) (orr := some 3) rfl ⟨rfl, rfl⟩ ⟨none, rfl, .inl ⟨true, rfl⟩⟩ (by simp) (by simp) (by simp)).eq rfl).trans (Tran.le ⟨rfl, rfl, trivial⟩ (Nat.le_succ 1))
  | node a1 n1 u1 x1 l1 r1 => cases r with
    | nil => exact ((shut_tran (m0 := 1) (k := 1) (a := a) (n := n) (u := u) (x := x) (cl := .root 2 0 true) (cr := .val (.pointer none)) (l := .node a1 n1 u1 x1 l1 r1) (r := .nil) (ol := some 2) (orr := none) rfl ⟨none, rfl, .inl ⟨true, rfl⟩⟩ ⟨rfl, rfl⟩ (by simp) (by simp) (by simp)).eq rfl).trans (Tran.le ⟨rfl, rfl, trivial⟩ (Nat.le_succ 1))
    | node a2 n2 u2 x2 l2 r2 => exact ((shut_tran (m0 := 1) (k := 1) (a := a) (n := n) (u := u) (x := x) (cl := .root 2 0 true) (cr := .root 3 0 true) (l := .node a1 n1 u1 x1 l1 r1) (r := .node a2 n2 u2 x2 l2 r2) (ol := some 2) (orr := some 3) rfl ⟨none, rfl, .inl ⟨true, rfl⟩⟩ ⟨none, rfl, .inl ⟨true, rfl⟩⟩ (by simp) (by simp) (by simp)).eq rfl).trans (Tran.le ⟨rfl, rfl, trivial⟩ (Nat.le_succ 1))
set_option maxRecDepth 100000 in
theorem finA_l (a n : Int) (u : Bool) (x : Int) (l r : PT) : Tran 1 (pstEA (cellT 2 l) a n u x l r) (prEnd l) := by
  cases l with
  | nil => exact (mkNil_tran (m0 := 1)).trans (Tran.le ⟨rfl, rfl, trivial⟩ (Nat.le_succ 1))
  | node a1 n1 u1 x1 l1 r1 => exact Tran.le ⟨rfl, rfl, trivial⟩ (Nat.le_succ 1)
set_option maxRecDepth 100000 in
theorem finA_r (a n : Int) (u : Bool) (x : Int) (l r : PT) : Tran 1 (pstEA (cellT 3 r) a n u x l r) (prEnd r) := by
  cases r with
  | nil => exact (mkNil_tran (m0 := 1)).trans (Tran.le ⟨rfl, rfl, trivial⟩ (Nat.le_succ 1))
  | node a1 n1 u1 x1 l1 r1 => exact Tran.le ⟨rfl, rfl, trivial⟩ (Nat.le_succ 1)
set_option maxRecDepth 100000 in
theorem p3A (a n : Int) (u : Bool) (x : Int) (l r : PT) : CodeOk Try.prog 1 (subC [true, true] (bodyOf Try.f26)) (pstA a n u x l r) .ret (prEnd (prT a n u x l r)) := by
  unfold prT
  cases u with
  | true =>
    rw [if_pos (.inl rfl)]
    refine CodeOk.post (st1 := pstEA (.ptr 1 0) a n true x l r) ?_ (finA_node a n true x l r)
    cases l <;> cases r
    · exact CodeOk.down (m1 := 2) (pzAnn_u a n x _ _ (TA none .nil)) (by omega) (Nat.le_of_ble_eq_true rfl)
    · exact CodeOk.down (m1 := 2) (pzAnk_u a n x _ _ (TA none .nil)) (by omega) (Nat.le_of_ble_eq_true rfl)
    · exact CodeOk.down (m1 := 2) (pzAkn_u a n x _ _ (TA none .nil)) (by omega) (Nat.le_of_ble_eq_true rfl)
    · exact CodeOk.down (m1 := 2) (pzAkk_u a n x _ _ (TA none .nil)) (by omega) (Nat.le_of_ble_eq_true rfl)
  | false =>
    by_cases hz : n = 0
    · rw [if_pos (.inr hz)]
      refine CodeOk.post (st1 := pstEA (.ptr 1 0) a n false x l r) ?_ (finA_node a n false x l r)
      cases l <;> cases r
      · exact CodeOk.down (m1 := 2) (pzAnn_z a n x _ _ (TA none .nil) hz) (by omega) (Nat.le_of_ble_eq_true rfl)
      · exact CodeOk.down (m1 := 2) (pzAnk_z a n x _ _ (TA none .nil) hz) (by omega) (Nat.le_of_ble_eq_true rfl)
      · exact CodeOk.down (m1 := 2) (pzAkn_z a n x _ _ (TA none .nil) hz) (by omega) (Nat.le_of_ble_eq_true rfl)
      · exact CodeOk.down (m1 := 2) (pzAkk_z a n x _ _ (TA none .nil) hz) (by omega) (Nat.le_of_ble_eq_true rfl)
    · rw [if_neg (by simp [hz])]
      cases l with
      | nil =>
        rw [if_pos (show PT.isN .nil = true from rfl)]
        refine CodeOk.post (st1 := pstEA (cellT 3 r) a n false x .nil r) ?_ (finA_r a n false x .nil r)
        cases r
        · exact CodeOk.down (m1 := 2) (pzAnn_o a n x _ _ (TA none .nil) hz) (by omega) (Nat.le_of_ble_eq_true rfl)
        · exact CodeOk.down (m1 := 2) (pzAnk_o a n x _ _ (TA none .nil) hz) (by omega) (Nat.le_of_ble_eq_true rfl)
      | node a1 n1 u1 x1 l1 r1 =>
        rw [if_neg (by simp [PT.isN])]
        cases r with
        | nil =>
          rw [if_pos (show PT.isN .nil = true from rfl)]
          refine CodeOk.post (st1 := pstEA (cellT 2 (.node a1 n1 u1 x1 l1 r1)) a n false x (.node a1 n1 u1 x1 l1 r1) .nil) ?_ (finA_l a n false x (.node a1 n1 u1 x1 l1 r1) .nil)
          exact CodeOk.down (m1 := 2) (pzAkn_o a n x _ _ (TA none .nil) hz) (by omega) (Nat.le_of_ble_eq_true rfl)
        | node a2 n2 u2 x2 l2 r2 =>
          rw [if_neg (by simp [PT.isN])]
          refine CodeOk.post (st1 := pstEA (.ptr 1 0) a n false x (.node a1 n1 u1 x1 l1 r1) (.node a2 n2 u2 x2 l2 r2)) ?_ (finA_node a n false x (.node a1 n1 u1 x1 l1 r1) (.node a2 n2 u2 x2 l2 r2))
          exact CodeOk.down (m1 := 2) (pzAkk_o a n x _ _ (TA none .nil) hz) (by omega) (Nat.le_of_ble_eq_true rfl)
def pstB (a n : Int) (u : Bool) (x : Int) (l r : PT) : E.St := mkSt 76 [(0, .nv (.one (.ptr 1 0)))] [.gone, .box tNd (ndA a n u x (cellT 4 l) (cellT 3 r)), .gone, .abs (TA none r), .abs (TA none l)]
def pstEB (v : At) (a n : Int) (u : Bool) (x : Int) (l r : PT) : E.St := mkSt 76 [(4, .nv (.one v))] [.gone, .box tNd (ndA a n u x (cellT 4 l) (cellT 3 r)), .gone, .abs (TA none r), .abs (TA none l)]
set_option maxRecDepth 100000 in
theorem finB_node (a n : Int) (u : Bool) (x : Int) (l r : PT) : Tran 1 (pstEB (.ptr 1 0) a n u x l r) (prEnd (.node a n u x l r)) := by
  cases l with
  | nil => cases r with
    | nil => exact ((shut_tran (m0 := 1) (k := 1) (a := a) (n := n) (u := u) (x := x) (cl := .val (.pointer none)) (cr := .val (.pointer none)) (l := .nil) (r := .nil) (ol := none) (orr := none) rfl ⟨rfl, rfl⟩ ⟨rfl, rfl⟩ (by simp) (by simp) (by simp)).eq rfl).trans (Tran.le ⟨rfl, rfl, trivial⟩ (Nat.le_succ 1))
    | node a2 n2 u2 x2 l2 r2 => exact ((shut_tran (m0 := 1) (k := 1) (a := a) (n := n) (u := u) (x := x) (cl := .val (.pointer none)) (cr := .root 3 0 true) (l := .nil) (r := .node a2 n2 u2 x2 l2 r2) (ol := none) (orr := some 3) rfl ⟨rfl, rfl⟩ ⟨none, rfl, .inl ⟨true, rfl⟩⟩ (by simp) (by simp) (by simp)).eq rfl).trans (Tran.le ⟨rfl, rfl, trivial⟩ (Nat.le_succ 1))
  | node a1 n1 u1 x1 l1 r1 => cases r with
    | nil => exact ((shut_tran (m0 := 1) (k := 1) (a := a) (n := n) (u := u) (x := x) (cl := .root 4 0 true) (cr := .val (.pointer none)) (l := .node a1 n1 u1 x1 l1 r1) (r := .nil) (ol := some 4) (orr := none) rfl ⟨none, rfl, .inl ⟨true, rfl⟩⟩ ⟨rfl, rfl⟩ (by simp) (by simp) (by simp)).eq rfl).trans (Tran.le ⟨rfl, rfl, trivial⟩ (Nat.le_succ 1))
    | node a2 n2 u2 x2 l2 r2 => exact ((shut_tran (m0 := 1) (k := 1) (a := a) (n := n) (u := u) (x := x) (cl := .root 4 0 true) (cr := .root 3 0 true) (l := .node a1 n1 u1 x1 l1 r1) (r := .node a2 n2 u2 x2 l2 r2) (ol := some 4) (orr := some 3) rfl ⟨none, rfl, .inl ⟨true, rfl⟩⟩ ⟨none, rfl, .inl ⟨true, rfl⟩⟩ (by simp) (by simp) (by simp)).eq rfl).trans (Tran.le ⟨rfl, rfl, trivial⟩ (Nat.le_succ 1))
set_option maxRecDepth 100000 in
theorem finB_l (a n : Int) (u : Bool) (x : Int) (l r : PT) : Tran 1 (pstEB (cellT 4 l) a n u x l r) (prEnd l) := by
  cases l with
  | nil => exact (mkNil_tran (m0 := 1)).trans (Tran.le ⟨rfl, rfl, trivial⟩ (Nat.le_succ 1))
  | node a1 n1 u1 x1 l1 r1 => exact Tran.le ⟨rfl, rfl, trivial⟩ (Nat.le_succ 1)
set_option maxRecDepth 100000 in
theorem finB_r (a n : Int) (u : Bool) (x : Int) (l r : PT) : Tran 1 (pstEB (cellT 3 r) a n u x l r) (prEnd r) := by
  cases r with
  | nil => exact (mkNil_tran (m0 := 1)).trans (Tran.le ⟨rfl, rfl, trivial⟩ (Nat.le_succ 1))
  | node a1 n1 u1 x1 l1 r1 => exact Tran.le ⟨rfl, rfl, trivial⟩ (Nat.le_succ 1)
set_option maxRecDepth 100000 in
theorem p3B (a n : Int) (u : Bool) (x : Int) (l r : PT) : CodeOk Try.prog 1 (subC [true, true] (bodyOf Try.f26)) (pstB a n u x l r) .ret (prEnd (prT a n u x l r)) := by
  unfold prT
  cases u with
  | true =>
    rw [if_pos (.inl rfl)]
    refine CodeOk.post (st1 := pstEB (.ptr 1 0) a n true x l r) ?_ (finB_node a n true x l r)
    cases l <;> cases r
    · exact CodeOk.down (m1 := 2) (pzBnn_u a n x (TA none .nil) _ _) (by omega) (Nat.le_of_ble_eq_true rfl)
    · exact CodeOk.down (m1 := 2) (pzBnk_u a n x (TA none .nil) _ _) (by omega) (Nat.le_of_ble_eq_true rfl)
    · exact CodeOk.down (m1 := 2) (pzBkn_u a n x (TA none .nil) _ _) (by omega) (Nat.le_of_ble_eq_true rfl)
    · exact CodeOk.down (m1 := 2) (pzBkk_u a n x (TA none .nil) _ _) (by omega) (Nat.le_of_ble_eq_true rfl)
  | false =>
    by_cases hz : n = 0
    · rw [if_pos (.inr hz)]
      refine CodeOk.post (st1 := pstEB (.ptr 1 0) a n false x l r) ?_ (finB_node a n false x l r)
      cases l <;> cases r
      · exact CodeOk.down (m1 := 2) (pzBnn_z a n x (TA none .nil) _ _ hz) (by omega) (Nat.le_of_ble_eq_true rfl)
      · exact CodeOk.down (m1 := 2) (pzBnk_z a n x (TA none .nil) _ _ hz) (by omega) (Nat.le_of_ble_eq_true rfl)
      · exact CodeOk.down (m1 := 2) (pzBkn_z a n x (TA none .nil) _ _ hz) (by omega) (Nat.le_of_ble_eq_true rfl)
      · exact CodeOk.down (m1 := 2) (pzBkk_z a n x (TA none .nil) _ _ hz) (by omega) (Nat.le_of_ble_eq_true rfl)
    · rw [if_neg (by simp [hz])]
      cases l with
      | nil =>
        rw [if_pos (show PT.isN .nil = true from rfl)]
        refine CodeOk.post (st1 := pstEB (cellT 3 r) a n false x .nil r) ?_ (finB_r a n false x .nil r)
        cases r
        · exact CodeOk.down (m1 := 2) (pzBnn_o a n x (TA none .nil) _ _ hz) (by omega) (Nat.le_of_ble_eq_true rfl)
        · exact CodeOk.down (m1 := 2) (pzBnk_o a n x (TA none .nil) _ _ hz) (by omega) (Nat.le_of_ble_eq_true rfl)
      | node a1 n1 u1 x1 l1 r1 =>
        rw [if_neg (by simp [PT.isN])]
        cases r with
        | nil =>
          rw [if_pos (show PT.isN .nil = true from rfl)]
          refine CodeOk.post (st1 := pstEB (cellT 4 (.node a1 n1 u1 x1 l1 r1)) a n false x (.node a1 n1 u1 x1 l1 r1) .nil) ?_ (finB_l a n false x (.node a1 n1 u1 x1 l1 r1) .nil)
          exact CodeOk.down (m1 := 2) (pzBkn_o a n x (TA none .nil) _ _ hz) (by omega) (Nat.le_of_ble_eq_true rfl)
        | node a2 n2 u2 x2 l2 r2 =>
          rw [if_neg (by simp [PT.isN])]
          refine CodeOk.post (st1 := pstEB (.ptr 1 0) a n false x (.node a1 n1 u1 x1 l1 r1) (.node a2 n2 u2 x2 l2 r2)) ?_ (finB_node a n false x (.node a1 n1 u1 x1 l1 r1) (.node a2 n2 u2 x2 l2 r2))
          exact CodeOk.down (m1 := 2) (pzBkk_o a n x (TA none .nil) _ _ hz) (by omega) (Nat.le_of_ble_eq_true rfl)
def pstC (a n : Int) (u : Bool) (x : Int) (l r : PT) : E.St := mkSt 76 [(0, .nv (.one (.ptr 1 0)))] [.gone, .box tNd (ndA a n u x (cellT 2 l) (cellT 4 r)), .abs (TA none l), .gone, .abs (TA none r)]
def pstEC (v : At) (a n : Int) (u : Bool) (x : Int) (l r : PT) : E.St := mkSt 76 [(4, .nv (.one v))] [.gone, .box tNd (ndA a n u x (cellT 2 l) (cellT 4 r)), .abs (TA none l), .gone, .abs (TA none r)]
set_option maxRecDepth 100000 in
theorem finC_node (a n : Int) (u : Bool) (x : Int) (l r : PT) : Tran 1 (pstEC (.ptr 1 0) a n u x l r) (prEnd (.node a n u x l r)) := by
  cases l with
  | nil => cases r with
    | nil => exact ((shut_tran (m0 := 1) (k := 1) (a := a) (n := n) (u := u) (x := x) (cl := .val (.pointer none)) (cr := .val (.pointer none)) (l := .nil) (r := .nil) (ol := none) (orr := none) rfl ⟨rfl, rfl⟩ ⟨rfl, rfl⟩ (by simp) (by simp) (by simp)).eq rfl).trans (Tran.le ⟨rfl, rfl, trivial⟩ (Nat.le_succ 1))
    | node a2 n2 u2 x2 l2 r2 => exact ((shut_tran (m0 := 1) (k := 1) (a := a) (n := n) (u := u) (x := x) (cl := .val (.pointer none)) (cr := .root 4 0 true) (l := .nil) (r := .node a2 n2 u2 x2 l2 r2) (ol := none) (orr := some 4) rfl ⟨rfl, rfl⟩ ⟨none, rfl, .inl ⟨true, rfl⟩⟩ (by simp) (by simp) (by simp)).eq rfl).trans (Tran.le ⟨rfl, rfl, trivial⟩ (Nat.le_succ 1))
  | node a1 n1 u1 x1 l1 r1 => cases r with
    | nil => exact ((shut_tran (m0 := 1) (k := 1) (a := a) (n := n) (u := u) (x := x) (cl := .root 2 0 true) (cr := .val (.pointer none)) (l := .node a1 n1 u1 x1 l1 r1) (r := .nil) (ol := some 2) (orr := none) rfl ⟨none, rfl, .inl ⟨true, rfl⟩⟩ ⟨rfl, rfl⟩ (by simp) (by simp) (by simp)).eq rfl).trans (Tran.le ⟨rfl, rfl, trivial⟩ (Nat.le_succ 1))
    | node a2 n2 u2 x2 l2 r2 => exact ((shut_tran (m0 := 1) (k := 1) (a := a) (n := n) (u := u) (x := x) (cl := .root 2 0 true) (cr := .root 4 0 true) (l := .node a1 n1 u1 x1 l1 r1) (r := .node a2 n2 u2 x2 l2 r2) (ol := some 2) (orr := some 4) rfl ⟨none, rfl, .inl ⟨true, rfl⟩⟩ ⟨none, rfl, .inl ⟨true, rfl⟩⟩ (by simp) (by simp) (by simp)).eq rfl).trans (Tran.le ⟨rfl, rfl, trivial⟩ (Nat.le_succ 1))
set_option maxRecDepth 100000 in
theorem finC_l (a n : Int) (u : Bool) (x : Int) (l r : PT) : Tran 1 (pstEC (cellT 2 l) a n u x l r) (prEnd l) := by
  cases l with
  | nil => exact (mkNil_tran (m0 := 1)).trans (Tran.le ⟨rfl, rfl, trivial⟩ (Nat.le_succ 1))
  | node a1 n1 u1 x1 l1 r1 => exact Tran.le ⟨rfl, rfl, trivial⟩ (Nat.le_succ 1)
set_option maxRecDepth 100000 in
theorem finC_r (a n : Int) (u : Bool) (x : Int) (l r : PT) : Tran 1 (pstEC (cellT 4 r) a n u x l r) (prEnd r) := by
  cases r with
  | nil => exact (mkNil_tran (m0 := 1)).trans (Tran.le ⟨rfl, rfl, trivial⟩ (Nat.le_succ 1))
  | node a1 n1 u1 x1 l1 r1 => exact Tran.le ⟨rfl, rfl, trivial⟩ (Nat.le_succ 1)
set_option maxRecDepth 100000 in
theorem p3C (a n : Int) (u : Bool) (x : Int) (l r : PT) : CodeOk Try.prog 1 (subC [true, true] (bodyOf Try.f26)) (pstC a n u x l r) .ret (prEnd (prT a n u x l r)) := by
  unfold prT
  cases u with
  | true =>
    rw [if_pos (.inl rfl)]
    refine CodeOk.post (st1 := pstEC (.ptr 1 0) a n true x l r) ?_ (finC_node a n true x l r)
    cases l <;> cases r
    · exact CodeOk.down (m1 := 2) (pzCnn_u a n x _ (TA none .nil) _) (by omega) (Nat.le_of_ble_eq_true rfl)
    · exact CodeOk.down (m1 := 2) (pzCnk_u a n x _ (TA none .nil) _) (by omega) (Nat.le_of_ble_eq_true rfl)
    · exact CodeOk.down (m1 := 2) (pzCkn_u a n x _ (TA none .nil) _) (by omega) (Nat.le_of_ble_eq_true rfl)
    · exact CodeOk.down (m1 := 2) (pzCkk_u a n x _ (TA none .nil) _) (by omega) (Nat.le_of_ble_eq_true rfl)
  | false =>
    by_cases hz : n = 0
    · rw [if_pos (.inr hz)]
      refine CodeOk.post (st1 := pstEC (.ptr 1 0) a n false x l r) ?_ (finC_node a n false x l r)
      cases l <;> cases r
      · exact CodeOk.down (m1 := 2) (pzCnn_z a n x _ (TA none .nil) _ hz) (by omega) (Nat.le_of_ble_eq_true rfl)
      · exact CodeOk.down (m1 := 2) (pzCnk_z a n x _ (TA none .nil) _ hz) (by omega) (Nat.le_of_ble_eq_true rfl)
      · exact CodeOk.down (m1 := 2) (pzCkn_z a n x _ (TA none .nil) _ hz) (by omega) (Nat.le_of_ble_eq_true rfl)
      · exact CodeOk.down (m1 := 2) (pzCkk_z a n x _ (TA none .nil) _ hz) (by omega) (Nat.le_of_ble_eq_true rfl)
    · rw [if_neg (by simp [hz])]
      cases l with
      | nil =>
        rw [if_pos (show PT.isN .nil = true from rfl)]
        refine CodeOk.post (st1 := pstEC (cellT 4 r) a n false x .nil r) ?_ (finC_r a n false x .nil r)
        cases r
        · exact CodeOk.down (m1 := 2) (pzCnn_o a n x _ (TA none .nil) _ hz) (by omega) (Nat.le_of_ble_eq_true rfl)
        · exact CodeOk.down (m1 := 2) (pzCnk_o a n x _ (TA none .nil) _ hz) (by omega) (Nat.le_of_ble_eq_true rfl)
      | node a1 n1 u1 x1 l1 r1 =>
        rw [if_neg (by simp [PT.isN])]
        cases r with
        | nil =>
          rw [if_pos (show PT.isN .nil = true from rfl)]
          refine CodeOk.post (st1 := pstEC (cellT 2 (.node a1 n1 u1 x1 l1 r1)) a n false x (.node a1 n1 u1 x1 l1 r1) .nil) ?_ (finC_l a n false x (.node a1 n1 u1 x1 l1 r1) .nil)
          exact CodeOk.down (m1 := 2) (pzCkn_o a n x _ (TA none .nil) _ hz) (by omega) (Nat.le_of_ble_eq_true rfl)
        | node a2 n2 u2 x2 l2 r2 =>
          rw [if_neg (by simp [PT.isN])]
          refine CodeOk.post (st1 := pstEC (.ptr 1 0) a n false x (.node a1 n1 u1 x1 l1 r1) (.node a2 n2 u2 x2 l2 r2)) ?_ (finC_node a n false x (.node a1 n1 u1 x1 l1 r1) (.node a2 n2 u2 x2 l2 r2))
          exact CodeOk.down (m1 := 2) (pzCkk_o a n x _ (TA none .nil) _ hz) (by omega) (Nat.le_of_ble_eq_true rfl)
end Go.Proofs.Ytfienpkogkepkaa

/- trie: prune, the whole. No condition. -/
namespace Go.Proofs.Ytfienpkogkepkaa
set_option linter.unusedVariables false
set_option linter.unusedSimpArgs false
open Go.RowKit E
def prS0 (pa pn a n : Int) (u : Bool) (x : Int) (l r : PT) (c d : At) : E.St := mkSt 76 [(0, .nv (.one (.ptr 1 0))), (1, .nv (.agg [.val (.int .u32 pa), .val (.int .i64 pn)]))] [.gone, .box tNd (ndA a n u x c d), .abs (TA none l), .abs (TA none r)]
def prS1 (pa pn a n : Int) (u : Bool) (x : Int) (l r : PT) : E.St := mkSt 76 [(0, .nv (.one (.ptr 1 0))), (3, .nv (.one (.ptr 4 0)))] [.gone, .box tNd (ndA a n u x (cellT 2 l) (cellT 3 r)), .abs (TA none l), .abs (TA none r), .box 28 [.val (.int .u32 pa), .val (.int .i64 pn)]]
set_option maxRecDepth 100000 in
theorem pr_kids {m0 : Nat} (pa pn a n : Int) (u : Bool) (x : Int) (l r : PT) : Tran m0 (prS0 pa pn a n u x l r (.root 2 0 false) (.root 3 0 false)) (prS0 pa pn a n u x l r (cellT 2 l) (cellT 3 r)) := by
  have h1 : Tran m0 (prS0 pa pn a n u x l r (.root 2 0 false) (.root 3 0 false)) (prS0 pa pn a n u x l r (cellT 2 l) (.root 3 0 false)) := by
    cases l with
    | nil => exact (nil_tran (h := 2) (pin := none) (.inl rfl)).eq rfl
    | node a1 n1 u1 x1 l1 r1 => exact (nn_tran (h := 2) (pin := none) (.inl rfl)).eq rfl
  refine h1.trans ?_
  cases r with
  | nil => cases l <;> exact (nil_tran (h := 3) (pin := none) (.inl rfl)).eq rfl
  | node a2 n2 u2 x2 l2 r2 => cases l <;> exact (nn_tran (h := 3) (pin := none) (.inl rfl)).eq rfl
theorem pr_p1 (pa pn a n : Int) (u : Bool) (x : Int) (l r : PT) : CodeOk Try.prog 2 (subC [false] (bodyOf Try.f26)) (prS0 pa pn a n u x l r (cellT 2 l) (cellT 3 r)) .normal (prS1 pa pn a n u x l r) := by
  cases l <;> cases r
  · exact pa_nn pa pn a n x u ⟨pa, pn, _, _⟩
  · exact pa_nr pa pn a n x u ⟨pa, pn, _, _⟩
  · exact pa_ln pa pn a n x u ⟨pa, pn, _, _⟩
  · exact pa_lr pa pn a n x u ⟨pa, pn, _, _⟩
theorem pr_hit (pa pn a n : Int) (u : Bool) (x : Int) (l r : PT) (h : a = pa ∧ n = pn) : CodeOk Try.prog 2 (subC [true, false] (bodyOf Try.f26)) (prS1 pa pn a n u x l r) .normal (pstA a n false 0 l r) := by
  have hb : (a == pa && (n == pn && true)) = true := by simp [h]
  cases l <;> cases r
  · exact pq_nn pa pn a n x u ⟨pa, pn, _, _⟩ hb
  · exact pq_nr pa pn a n x u ⟨pa, pn, _, _⟩ hb
  · exact pq_ln pa pn a n x u ⟨pa, pn, _, _⟩ hb
  · exact pq_lr pa pn a n x u ⟨pa, pn, _, _⟩ hb
section
variable {pa pn : Int} (ha : 0 ≤ pa ∧ pa ≤ 4294967295) {l r : PT} (ih : PrIh pa pn l ∧ PrIh pa pn r) {a n : Int} (hb : ¬ (a = pa ∧ n = pn)) (hn : 0 ≤ n ∧ n ≤ 31)
include ha ih hb hn
set_option maxRecDepth 100000 in
theorem pr_left (u : Bool) (x : Int) (hs : sdN pa n = 0) (hi : inP pa pn l) : CodeOk Try.prog 2 (subC [true, false] (bodyOf Try.f26)) (prS1 pa pn a n u x l r) .normal (pstB a n u x (prP pa pn l) r) := by
  have hb : (a == pa && (n == pn && true)) = false := by
    rw [Bool.eq_false_iff]; simp; exact fun e1 e2 => hb ⟨e1, e2⟩
  have kid : ∀ d : At, ∀ t : PT, Tran 2 (mkSt 76 [(0, .nv (.one (.ptr 1 0)))] [.gone, .box tNd (ndA a n u x (.root 4 0 false) (cellT 3 r)), .gone, .abs (TA none r), .abs (TA none t)]) (pstB a n u x t r) := by
    intro d t
    cases t with
    | nil => cases r <;> exact (nil_tran (h := 4) (pin := none) (.inl rfl)).eq rfl
    | node a1 n1 u1 x1 l1 r1 => cases r <;> exact (nn_tran (h := 4) (pin := none) (.inl rfl)).eq rfl
  refine CodeOk.post ?_ (kid .any (prP pa pn l))
  cases l with
  | nil => exact hi.elim
  | node a1 n1 u1 x1 l1 r1 =>
    cases r
    · exact pr0_ln pa pn a n x u ⟨pa, pn, _, _⟩ ha.1 ha.2 hb hn.1 hn.2 ih rfl rfl hs hi
    · exact pr0_lr pa pn a n x u ⟨pa, pn, _, _⟩ ha.1 ha.2 hb hn.1 hn.2 ih rfl rfl hs hi
set_option maxRecDepth 100000 in
theorem pr_right (u : Bool) (x : Int) (hs : sdN pa n = 1) (hi : inP pa pn r) : CodeOk Try.prog 2 (subC [true, false] (bodyOf Try.f26)) (prS1 pa pn a n u x l r) .normal (pstC a n u x l (prP pa pn r)) := by
  have hb : (a == pa && (n == pn && true)) = false := by
    rw [Bool.eq_false_iff]; simp; exact fun e1 e2 => hb ⟨e1, e2⟩
  have kid : ∀ t : PT, Tran 2 (mkSt 76 [(0, .nv (.one (.ptr 1 0)))] [.gone, .box tNd (ndA a n u x (cellT 2 l) (.root 4 0 false)), .abs (TA none l), .gone, .abs (TA none t)]) (pstC a n u x l t) := by
    intro t
    cases t with
    | nil => cases l <;> exact (nil_tran (h := 4) (pin := none) (.inl rfl)).eq rfl
    | node a1 n1 u1 x1 l1 r1 => cases l <;> exact (nn_tran (h := 4) (pin := none) (.inl rfl)).eq rfl
  refine CodeOk.post ?_ (kid (prP pa pn r))
  cases r with
  | nil => exact hi.elim
  | node a1 n1 u1 x1 l1 r1 =>
    cases l
    · exact pr1_nr pa pn a n x u ⟨pa, pn, _, _⟩ ha.1 ha.2 hb hn.1 hn.2 ih rfl rfl hs hi
    · exact pr1_lr pa pn a n x u ⟨pa, pn, _, _⟩ ha.1 ha.2 hb hn.1 hn.2 ih rfl rfl hs hi
end
theorem fnPrune {pa pn : Int} (ha : 0 ≤ pa ∧ pa ≤ 4294967295) : ∀ t : PT, PrIh pa pn t
  | .nil => fun h => h.elim
  | .node a n u x l r => fun hin => by
    have ih : PrIh pa pn l ∧ PrIh pa pn r := ⟨fnPrune ha l, fnPrune ha r⟩
    have h1 := open_tran (m0 := 1) (h := 0) (pin := none) (a := a) (n := n) (u := u) (x := x) (l := l) (r := r) (tm := [.nv (.one (.root 0 0 true)), .nv (.agg [.val (.int .u32 pa), .val (.int .i64 pn)])] ++ List.replicate 74 .any) (mem := [.abs (TA none (.node a n u x l r))]) rfl
    have h2 := (h1.eq (z := prS0 pa pn a n u x l r (.root 2 0 false) (.root 3 0 false)) (by kernel_rfl)).trans (pr_kids pa pn a n u x l r)
    have key : CodeOk Try.prog 1 (.seq (subC [true, false] (bodyOf Try.f26)) (subC [true, true] (bodyOf Try.f26))) (prS1 pa pn a n u x l r) .ret (prEnd (prP pa pn (.node a n u x l r))) := by
      unfold prP
      by_cases hb : a = pa ∧ n = pn
      · rw [if_pos hb]
        exact CodeOk.seq (CodeOk.down (m1 := 2) (pr_hit pa pn a n u x l r hb) (by omega) (Nat.le_of_ble_eq_true rfl)) (p3A a n false 0 l r)
      · rw [if_neg hb]
        rcases hin with h | ⟨hn, ⟨hs, hi⟩ | ⟨hs, hi⟩⟩
        · exact (hb h).elim
        · rw [if_pos hs]
          exact CodeOk.seq (CodeOk.down (m1 := 2) (pr_left ha ih hb hn u x hs hi) (by omega) (Nat.le_of_ble_eq_true rfl)) (p3B a n u x (prP pa pn l) r)
        · rw [if_neg (by omega)]
          exact CodeOk.seq (CodeOk.down (m1 := 2) (pr_right ha ih hb hn u x hs hi) (by omega) (Nat.le_of_ble_eq_true rfl)) (p3C a n u x l (prP pa pn r))
    have h3 := CodeOk.pre h2 (CodeOk.seq (CodeOk.down (m1 := 2) (pr_p1 pa pn a n u x l r) (by omega) (Nat.le_of_ble_eq_true rfl)) key)
    exact fn_of_code (c := .seq (subC [false] (bodyOf Try.f26)) (.seq (subC [true, false] (bodyOf Try.f26)) (subC [true, true] (bodyOf Try.f26)))) (r := .nv (.one (.root 1 0 false))) (o := []) Try.func26 (by kernel_rfl) (by kernel_rfl) h3 (.inl rfl) (by kernel_rfl) trivial
end Go.Proofs.Ytfienpkogkepkaa
